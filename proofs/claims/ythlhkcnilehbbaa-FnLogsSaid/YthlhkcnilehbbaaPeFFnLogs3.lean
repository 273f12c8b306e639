/- Functions,as pure functions; and that Go does just that. -/
import Derived.Test.YthlhkcnilehbbaaPeFFnLogs2
namespace Go.Proofs.Ythlhkcnilehbbaa.Pe.FnLogs
open Go Go.RowKit
set_option linter.unusedVariables false
set_option linter.unusedSimpArgs false
set_option maxHeartbeats 40000000
set_option maxRecDepth 100000
def impl_VarText_l1 (N : Nat) : Nat → Int → (List Int) → Option (Int × (List Int))
 | 0,_,_ => none
 | m + 1,x200,x201 =>
 (if (decide (x200 > 127)) = true then
 (intD .rem .i64 x200 128).bind fun x224 =>
 (cat? x201 ([IntKind.wrap .u8 (w64 (x224 + 128))] : List Int)).bind fun x225 =>
 (intD .quo .i64 x200 128).bind fun x227 =>
 impl_VarText_l1 N m x227 x225
 else
 some (x200,x201))
def impl_VarText (N : Nat) (x1 : Int) : Option (ByteArray × Bool) :=
 (impl_within N x1 0 1000000000).bind fun y169 =>
 (if (!y169) = true then
 some ((⟨#[]⟩ : ByteArray),false)
 else
 joinP (fun (v199 : Int × (List Int)) =>
 (cat? v199.2 ([IntKind.wrap .u8 (v199.1)] : List Int)).bind fun x229 =>
 some (strOf x229,true)) fun j199 =>
 (impl_VarText_l1 N N x1 ([] : (List Int))).bind (fun v214 => j199 (v214.1,v214.2)))
theorem sem_impl_VarText (N : Nat) (x1 : Int) (r : ByteArray × Bool) (h : impl_VarText N x1 = some r) : Says Try.prog 49 [VI x1] 0 [] (.tup [VS r.1,VB r.2]) [] := by
 unfold impl_VarText at h
 refine Says.of_norm e Try.call49 e fun B hB => ?_
 have hm : B.m ≤ 1000 := by omega
 refine Run.so hm (.p2 e e (.nil (.seq (.so hm (.p e ?_)))))
 obtain ⟨y169,hy169,h⟩ := bindO h
 refine Ops.z 5112 (Ev.call [] [] 0 (sem_impl_within _ _ _ _ _ hy169) e e (.d2 (.d1 .nil)) e (.inl e) e e) e e (.p e (.nil (.condO e h (fun g170 h => ?_) (fun g170 h => ?_))))
 ·refine Run.so hm (.p2 e e (.nil (.ret ?_)))
  obtain rfl := someO h
  exact Ends.mkG (.inl e) e (gh_pk [0,1] [] hB e e e e) e e
 ·refine Run.skip (.so hm (.p e (.nil (.seqO h (fun v199 => [(0,VI v199.1),(4,.sl 0 5 0 v199.2.length)]) (fun (v199 : Int × (List Int)) => [(0,.vec 5 (v199.2.map encU))]) (fun h => ?_) (fun v199 h => ?_)))))
  ·refine Run.block ?_
   obtain ⟨res214,h,hk214⟩ := bindO h
   refine Run.loop (n := N) (fun m214 fr σ => ∃ (x200 : Int),∃ (x201 : (List Int)),impl_VarText_l1 N m214 x200 x201 = some res214 ∧ fr = [(0,VI x200),(4,.sl 0 5 0 x201.length)] ∧ σ = [(0,.vec 5 (x201.map encU))]) (Gh.trans (Gh.trans (gh_prn [0,4] [] hB e) (gh_nil [4] [] hB e e e)) (gh_pk [0,4] [10000000] hB e e e e)) ⟨_,_,h,e,e⟩ ?_
   rintro m214 fr σ ⟨x200,x201,h,rfl,rfl⟩
   obtain _ | m214 := m214
   ·rw [impl_VarText_l1] at h; cases h
   rw [impl_VarText_l1] at h
   refine Run.seq (.so hm (.p2 e e (.nil (.condO e h (fun g217 h => ?_) (fun g217 h => ?_)))))
   ·refine Run.skip (.block (.so hm (.p2 e e ?_)))
    obtain ⟨x224,hx224,h⟩ := bindO h
    refine Ops.z 21512 (.bin e e hx224) e e (.p2 e e (.z 21560 (Ev.bsW (ys := ([IntKind.wrap .u8 (w64 (x224 + 128))] : List Int)) (f := encU) e (.d1 .nil) e e e e e) e e ?_))
    obtain ⟨x225,hx225,h⟩ := bindO h
    refine Ops.z 21576 (Ev.apW (f := encU) (ontoW e e e) (addsW e e e (fun _ => e)) e bt5 e hx225) e e (.p e (.nil (.ops hm (.p e ?_))))
    obtain ⟨x227,hx227,h⟩ := bindO h
    exact Ops.z 25592 (.bin e e hx227) e e (.p e (.nil (⟨m214,Nat.lt_succ_self m214,_,_,(gh_pk [0,4] [21576] hB e e e e),_,_,h,e,e⟩)))
   ·refine Run.exit ?_
    obtain rfl := someO h
    have h := hk214
    exact ⟨_,_,(gh_pk [0,4] [0] hB e e e e),_,h,e,e⟩
  ·refine Run.so hm (.p3 e e e (.z 29720 (Ev.bsW (ys := ([IntKind.wrap .u8 (v199.1)] : List Int)) (f := encU) e (.d1 .nil) e e e e e) e e ?_))
   obtain ⟨x229,hx229,h⟩ := bindO h
   refine Ops.z 29736 (Ev.apW (f := encU) (ontoW e e e) (addsW e e e (fun _ => e)) e bt5 e hx229) e e (.z 29752 (.sbC (addsW (f := encU) e e e (fun _ => e))) e e (.p2 e e (.nil (.ret ?_))))
   obtain rfl := someO h
   exact Ends.mkG (.inl e) e (gh_pk [0,1] [] hB e e e e) e e
def impl_vars_l1 (N : Nat) (x1 : (List Int)) : Nat → Int → (List Int) → Option ((ByteArray × Bool) ⊕ ((List Int)))
 | 0,_,_ => none
 | m + 1,x209,x210 =>
 (if (decide (x209 < (x1.length : Int))) = true then
 (at? x1 x209).bind fun x233 =>
 (impl_VarText N x233).bind fun y237 =>
 (if (!y237.2) = true then
 some (Sum.inl ((⟨#[]⟩ : ByteArray),false))
 else
 (cat? x210 (intsOf y237.1)).bind fun x241 =>
 impl_vars_l1 N x1 m (w64 (x209 + 1)) x241)
 else
 some (Sum.inr x210))
def impl_vars_l1_r (N : Nat) (x1 : (List Int)) : (List Int) → Int → (List Int) → Option ((ByteArray × Bool) ⊕ ((List Int)))
 | [],x209,x210 =>
 some (Sum.inr x210)
 | hd :: tl,x209,x210 =>
 (some hd).bind fun x233 =>
 (impl_VarText N x233).bind fun y237 =>
 (if (!y237.2) = true then
 some (Sum.inl ((⟨#[]⟩ : ByteArray),false))
 else
 (cat? x210 (intsOf y237.1)).bind fun x241 =>
 impl_vars_l1_r N x1 tl (w64 (x209 + 1)) x241)
theorem impl_vars_l1_rng (N : Nat) (x1 : (List Int)) (hx : x1.length ≤ 1099511627776) : ∀ (d k m : Nat) (x210 : (List Int)),x1.length = k + d → d < m → impl_vars_l1 N x1 m (k : Int) x210 = impl_vars_l1_r N x1 (x1.drop k) (k : Int) x210 := by
 intro d
 induction d with
 | zero =>
  intro k m x210 hd hm
  obtain ⟨m,rfl⟩ : ∃ q,m = q + 1 := ⟨m - 1,by omega⟩
  rw [impl_vars_l1,if_neg (by simp; omega),List.drop_eq_nil_of_le (by omega),impl_vars_l1_r]
 | succ d ih =>
  intro k m x210 hd hm
  obtain ⟨m,rfl⟩ : ∃ q,m = q + 1 := ⟨m - 1,by omega⟩
  have hk : k < x1.length := by omega
  rw [impl_vars_l1,if_pos (by simp; omega),List.drop_eq_getElem_cons hk,impl_vars_l1_r]
  have h1 := at_lt hk
  have h2 := w64_succ (k := k) (by omega)
  have h3 := ih (k + 1) m
  simp only [h1,h2,h3 _ (by omega) (by omega)]
theorem impl_vars_l1_eq {N : Nat} (x1 : (List Int)) (hx : x1.length ≤ 1099511627776) (hN : x1.length < N) (x210 : (List Int)) : impl_vars_l1 N x1 N 0 x210 = impl_vars_l1_r N x1 x1 0 x210 := impl_vars_l1_rng N x1 hx x1.length 0 N x210 (by omega) hN
def impl_vars (N : Nat) (x1 : (List Int)) : Option (ByteArray × Bool) :=
 joinP (fun (v206 : (List Int)) =>
 some (strOf v206,true)) fun j206 =>
 (impl_vars_l1 N x1 N 0 ([] : (List Int))).bind (Sum.elim (fun v225 => some v225) (fun (v226 : (List Int)) => j206 v226))
theorem sem_impl_vars (N : Nat) (x1 : (List Int)) (r : ByteArray × Bool) (h : impl_vars N x1 = some r) : Says Try.prog 22 [RO 3 (x1.map encI)] 0 [] (.tup [VS r.1,VB r.2]) [] := by
 unfold impl_vars at h
 refine Says.of_norm e Try.call22 e fun B hB => ?_
 have hm : B.m ≤ 1000 := by omega
 refine Run.so hm (.p2 e e (.nil (.so hm (.p e (.nil (.seqO h (fun v206 => [(4,.sl 0 5 0 v206.length)]) (fun (v206 : (List Int)) => [(0,.vec 5 (v206.map encU))]) (fun h => ?_) (fun v206 h => ?_)))))))
 ·refine Run.so hm (.p e (.z 9208 (Ev.lnF e) e e (.p e (.nil (.block ?_)))))
  obtain ⟨res226,h,hk226⟩ := bindO h
  refine Run.loop (n := N) (fun m226 fr σ => ∃ (x209 : Int),∃ (x210 : (List Int)),impl_vars_l1 N x1 m226 x209 x210 = some res226 ∧ fr = [(4,.sl 0 5 0 x210.length),(9,RO 3 (x1.map encI)),(10,VI (x1.length : Int)),(11,VI x209)] ∧ σ = [(0,.vec 5 (x210.map encU))]) (Gh.trans (Gh.trans (gh_prn [4,9,10,11] [] hB e) (gh_nil [4] [] hB e e e)) (gh_pk [4,9,10,11] [10000000] hB e e e e)) ⟨_,_,h,e,e⟩ ?_
  rintro m226 fr σ ⟨x209,x210,h,rfl,rfl⟩
  obtain _ | m226 := m226
  ·rw [impl_vars_l1] at h; cases h
  rw [impl_vars_l1] at h
  refine Run.so hm (.p e (.nil (.seq (.condO e h (fun g229 h => ?_) (fun g229 h => ?_)))))
  ·refine Run.skip (.seq (.block (.so hm ?_)))
   obtain ⟨x233,hx233,h⟩ := bindO h
   refine Ops.z 17384 (Ev.iaF e e hx233) e e (.p2 e e (.nil (.so hm (.p e ?_))))
   obtain ⟨y237,hy237,h⟩ := bindO h
   refine Ops.z 21496 (Ev.call [] [] 0 (sem_impl_VarText _ _ _ hy237) e e (.d1 .nil) e (.inl e) e e) e e (.p3 e e e (.p2 e e (.nil (.seq (.so hm (.p2 e e (.nil (.condO e h (fun g239 h => ?_) (fun g239 h => ?_)))))))))
   ·refine Run.so hm (.p2 e e (.nil (.ret ?_)))
    obtain rfl := someO h
    have h := hk226
    replace h := inlO h
    obtain rfl := someO h
    exact Ends.mkG (.inl e) e (gh_pk [0,1] [] hB e e e e) e e
   ·refine Run.skip (.ops hm (.p2 e e ?_))
    obtain ⟨x241,hx241,h⟩ := bindO h
    exact Ops.z 33800 (Ev.apS (ontoW e e e) e e e hx241) e e (.p e (.nil (.ops hm (.p2 e e (.nil (⟨m226,Nat.lt_succ_self m226,_,_,(gh_pk [4,9,10,11] [33800] hB e e e e),_,_,h,e,e⟩))))))
  ·refine Run.exit ?_
   obtain rfl := someO h
   have h := hk226
   replace h := inrO h
   exact ⟨_,_,(gh_pk [4] [0] hB e e e e),_,h,e,e⟩
 ·refine Run.so hm (.p e (.z 41976 (.sbC (addsW (f := encU) e e e (fun _ => e))) e e (.p2 e e (.nil (.ret ?_)))))
  obtain rfl := someO h
  exact Ends.mkG (.inl e) e (gh_pk [0,1] [] hB e e e e) e e
def impl_SumMore_l2 (N : Nat) : Nat → Int → Int → Option (Int)
 | 0,_,_ => none
 | m + 1,x1114,x1117 =>
 (if (decide (x1117 < 8)) = true then
 joinP (fun (v1158 : Int) =>
 impl_SumMore_l2 N m v1158 (w64 (x1117 + 1))) fun j1158 =>
 (intD .rem .u32 x1114 2).bind fun x1162 =>
 (intD .quo .u32 x1114 2).bind fun x1166 =>
 (if (x1162 == 1) = true then
 (intD .xor .u32 x1166 3558460437).bind fun x1169 =>
 j1158 x1169
 else
 j1158 x1166)
 else
 some x1114)
def impl_SumMore_l1 (N : Nat) (x2 : ByteArray) : Nat → Int → Int → Option (Int)
 | 0,_,_ => none
 | m + 1,x903,x905 =>
 (if (decide (x905 < (x2.size : Int))) = true then
 joinP (fun (v1105 : Int) =>
 impl_SumMore_l1 N x2 m v1105 (w64 (x905 + 1))) fun j1105 =>
 (sat? x2 x905).bind fun x1112 =>
 (intD .xor .u32 x903 (IntKind.wrap .u32 (x1112))).bind fun x1113 =>
 (impl_SumMore_l2 N N x1113 0).bind (fun v1143 => j1105 v1143)
 else
 some x903)
def impl_SumMore (N : Nat) (x1 : Int) (x2 : ByteArray) : Option (Int) :=
 joinP (fun (v902 : Int) =>
 some v902) fun j902 =>
 (impl_SumMore_l1 N x2 N x1 0).bind (fun v1037 => j902 v1037)
theorem sem_impl_SumMore (N : Nat) (x1 : Int) (x2 : ByteArray) (r : Int) (h : impl_SumMore N x1 x2 = some r) : Says Try.prog 85 [.c (.i .u32 x1),VS x2] 0 [] (.c (.i .u32 r)) [] := by
 unfold impl_SumMore at h
 refine Says.of_norm e Try.call85 e fun B hB => ?_
 have hm : B.m ≤ 1000 := by omega
 refine Run.so hm (.p e (.nil (.seqO h (fun v902 => [(0,.c (.i .u32 v902))]) (fun (v902 : Int) => []) (fun h => ?_) (fun v902 h => ?_))))
 ·refine Run.so hm (.p e (.nil (.block ?_)))
  obtain ⟨res1037,h,hk1037⟩ := bindO h
  refine Run.loop (n := N) (fun m1037 fr σ => ∃ (x903 : Int),∃ (x905 : Int),impl_SumMore_l1 N x2 m1037 x903 x905 = some res1037 ∧ fr = [(0,.c (.i .u32 x903)),(1,VS x2),(5,VI x905)] ∧ σ = []) (gh_pk [0,1,5] [] hB e e e e) ⟨_,_,h,e,e⟩ ?_
  rintro m1037 fr σ ⟨x903,x905,h,rfl,rfl⟩
  obtain _ | m1037 := m1037
  ·rw [impl_SumMore_l1] at h; cases h
  rw [impl_SumMore_l1] at h
  refine Run.seq (.so hm (.p3 e e e (.p e (.nil (.condO e h (fun g1040 h => ?_) (fun g1040 h => ?_))))))
  ·refine Run.skip (.seqO h (fun v1105 => [(0,.c (.i .u32 v1105)),(1,VS x2),(5,VI x905)]) (fun (v1105 : Int) => []) (fun h => ?_) (fun v1105 h => ?_))
   ·refine Run.block (.so hm (.p3 e e e ?_))
    obtain ⟨x1112,hx1112,h⟩ := bindO h
    refine Ops.z 17432 (Ev.ixS e e hx1112) e e (.p e ?_)
    obtain ⟨x1113,hx1113,h⟩ := bindO h
    refine Ops.z 17464 (.bin e e hx1113) e e (.p e (.nil (.so hm (.p e (.nil (.block ?_))))))
    obtain ⟨res1143,h,hk1143⟩ := bindO h
    refine Run.loop (n := N) (fun m1143 fr σ => ∃ (x1114 : Int),∃ (x1117 : Int),impl_SumMore_l2 N m1143 x1114 x1117 = some res1143 ∧ fr = [(0,.c (.i .u32 x1114)),(1,VS x2),(5,VI x905),(6,VI x1117)] ∧ σ = []) (gh_pk [0,1,5,6] [] hB e e e e) ⟨_,_,h,e,e⟩ ?_
    rintro m1143 fr σ ⟨x1114,x1117,h,rfl,rfl⟩
    obtain _ | m1143 := m1143
    ·rw [impl_SumMore_l2] at h; cases h
    rw [impl_SumMore_l2] at h
    refine Run.seq (.so hm (.p2 e e (.nil (.condO e h (fun g1146 h => ?_) (fun g1146 h => ?_)))))
    ·refine Run.skip (.seqO h (fun v1158 => [(0,.c (.i .u32 v1158)),(1,VS x2),(5,VI x905),(6,VI x1117)]) (fun (v1158 : Int) => []) (fun h => ?_) (fun v1158 h => ?_))
     ·refine Run.block (.so hm (.p e ?_))
      obtain ⟨x1162,hx1162,h⟩ := bindO h
      refine Ops.z 33784 (.bin e e hx1162) e e (.p2 e e (.nil (.so hm (.p e ?_))))
      obtain ⟨x1166,hx1166,h⟩ := bindO h
      refine Ops.z 37880 (.bin e e hx1166) e e (.p e (.nil (.so hm (.p e (.nil (.condO e h (fun g1167 h => ?_) (fun g1167 h => ?_)))))))
      ·refine Run.ops hm (.p e ?_)
       obtain ⟨x1169,hx1169,h⟩ := bindO h
       exact Ops.z 46072 (.bin e e hx1169) e e (.p e (.nil (⟨_,_,(gh_pk [0,1,5,6] [] hB e e e e),_,h,e,e⟩)))
      ·exact Run.skip (⟨_,_,(gh_pk [0,1,5,6] [] hB e e e e),_,h,e,e⟩)
     ·exact Run.ops hm (.p3 e e e (.nil (⟨m1143,Nat.lt_succ_self m1143,_,_,(gh_pk [0,1,5,6] [] hB e e e e),_,_,h,e,e⟩)))
    ·refine Run.exit ?_
     obtain rfl := someO h
     have h := hk1143
     exact ⟨_,_,(gh_pk [0,1,5] [] hB e e e e),_,h,e,e⟩
   ·exact Run.ops hm (.p3 e e e (.nil (⟨m1037,Nat.lt_succ_self m1037,_,_,(gh_pk [0,1,5] [] hB e e e e),_,_,h,e,e⟩)))
  ·refine Run.exit ?_
   obtain rfl := someO h
   have h := hk1037
   exact ⟨_,_,(gh_pk [0] [] hB e e e e),_,h,e,e⟩
 ·refine Run.so hm (.p2 e e (.nil (.ret ?_)))
  obtain rfl := someO h
  exact Ends.mkG (.inl e) e (gh_pk [0] [] hB e e e e) e e
def impl_SumOf (N : Nat) (x1 : ByteArray) : Option (Int) :=
 (impl_SumMore N 4294967295 x1).bind fun y103 =>
 some y103
theorem sem_impl_SumOf (N : Nat) (x1 : ByteArray) (r : Int) (h : impl_SumOf N x1 = some r) : Says Try.prog 74 [VS x1] 0 [] (.c (.i .u32 r)) [] := by
 unfold impl_SumOf at h
 refine Says.of_norm e Try.call74 e fun B hB => ?_
 have hm : B.m ≤ 1000 := by omega
 refine Run.so hm (.p e (.nil (.so hm (.p e ?_))))
 obtain ⟨y103,hy103,h⟩ := bindO h
 refine Ops.z 5112 (Ev.call [] [] 0 (sem_impl_SumMore _ _ _ _ hy103) e e (.d2 .nil) e (.inl e) e e) e e (.p e (.nil (.ret ?_)))
 obtain rfl := someO h
 exact Ends.mkG (.inl e) e (gh_pk [0] [] hB e e e e) e e
def impl_Frame (N : Nat) (x1 : ByteArray) : Option (ByteArray × Bool) :=
 (impl_within N (x1.size : Int) 1 9000).bind fun y128 =>
 (if (!y128) = true then
 some ((⟨#[]⟩ : ByteArray),false)
 else
 (impl_VarText N (x1.size : Int)).bind fun y133 =>
 (impl_SumOf N x1).bind fun y137 =>
 (intSh .shr .u32 y137 24).bind fun x143 =>
 (intSh .shr .u32 y137 16).bind fun x144 =>
 (intSh .shr .u32 y137 8).bind fun x145 =>
 (scat? y133.1 (strOf ([IntKind.wrap .u8 (x143),IntKind.wrap .u8 (x144),IntKind.wrap .u8 (x145),IntKind.wrap .u8 (y137)] : List Int))).bind fun x146 =>
 (scat? x146 x1).bind fun x147 =>
 some (x147,true))
theorem sem_impl_Frame (N : Nat) (x1 : ByteArray) (r : ByteArray × Bool) (h : impl_Frame N x1 = some r) : Says Try.prog 50 [VS x1] 0 [] (.tup [VS r.1,VB r.2]) [] := by
 unfold impl_Frame at h
 refine Says.of_norm e Try.call50 e fun B hB => ?_
 have hm : B.m ≤ 1000 := by omega
 refine Run.so hm (.p2 e e (.nil (.seq (.so hm (.p2 e e ?_)))))
 obtain ⟨y128,hy128,h⟩ := bindO h
 refine Ops.z 5128 (Ev.call [] [] 0 (sem_impl_within _ _ _ _ _ hy128) e e (.d2 (.d1 .nil)) e (.inl e) e e) e e (.p e (.nil (.condO e h (fun g129 h => ?_) (fun g129 h => ?_))))
 ·refine Run.so hm (.p2 e e (.nil (.ret ?_)))
  obtain rfl := someO h
  exact Ends.mkG (.inl e) e (gh_pk [0,1] [] hB e e e e) e e
 ·refine Run.skip (.so hm (.p2 e e ?_))
  obtain ⟨y133,hy133,h⟩ := bindO h
  refine Ops.z 13320 (Ev.call [] [] 0 (sem_impl_VarText _ _ _ hy133) e e (.d1 .nil) e (.inl e) e e) e e (.p3 e e e (.p2 e e (.nil (.so hm (.p e ?_)))))
  obtain ⟨y137,hy137,h⟩ := bindO h
  refine Ops.z 17400 (Ev.call [] [] 0 (sem_impl_SumOf _ _ _ hy137) e e (.d1 .nil) e (.inl e) e e) e e (.p e (.nil (.so hm (.p2 e e ?_))))
  obtain ⟨x143,hx143,h⟩ := bindO h
  refine Ops.z 21512 (.sh e e hx143) e e (.p2 e e ?_)
  obtain ⟨x144,hx144,h⟩ := bindO h
  refine Ops.z 21560 (.sh e e hx144) e e (.p2 e e ?_)
  obtain ⟨x145,hx145,h⟩ := bindO h
  refine Ops.z 21608 (.sh e e hx145) e e (.p3 e e e (.z 21672 (Ev.bsW (ys := ([IntKind.wrap .u8 (x143),IntKind.wrap .u8 (x144),IntKind.wrap .u8 (x145),IntKind.wrap .u8 (y137)] : List Int)) (f := encU) e (.d4 .nil) e e e e e) e e (.z 21688 (.sbC (addsW (f := encU) e e e (fun _ => e))) e e ?_)))
  obtain ⟨x146,hx146,h⟩ := bindO h
  refine Ops.z 21704 (Ev.addS e e hx146) e e (.p e ?_)
  obtain ⟨x147,hx147,h⟩ := bindO h
  refine Ops.z 21736 (Ev.addS e e hx147) e e (.p2 e e (.nil (.ret ?_)))
  obtain rfl := someO h
  exact Ends.mkG (.inl e) e (gh_pk [0,1] [] hB e e e e) e e
def impl_framed (N : Nat) (x1 : ByteArray) : Option (ByteArray) :=
 (impl_Frame N x1).bind fun y107 =>
 some y107.1
theorem sem_impl_framed (N : Nat) (x1 : ByteArray) (r : ByteArray) (h : impl_framed N x1 = some r) : Says Try.prog 23 [VS x1] 0 [] (VS r) [] := by
 unfold impl_framed at h
 refine Says.of_norm e Try.call23 e fun B hB => ?_
 have hm : B.m ≤ 1000 := by omega
 refine Run.so hm (.p e (.nil (.so hm (.p e ?_))))
 obtain ⟨y107,hy107,h⟩ := bindO h
 refine Ops.z 5112 (Ev.call [] [] 0 (sem_impl_Frame _ _ _ hy107) e e (.d1 .nil) e (.inl e) e e) e e (.p3 e e e (.p2 e e (.nil (.so hm (.p2 e e (.nil (.ret ?_)))))))
 obtain rfl := someO h
 exact Ends.mkG (.inl e) e (gh_pk [0] [] hB e e e e) e e
def impl_EntryText (N : Nat) (x1 : Int) (x2 : Entry) : Option (ByteArray × Bool) :=
 (impl_EntryOk N x2).bind fun y134 =>
 (if (!y134) = true then
 some ((⟨#[]⟩ : ByteArray),false)
 else
 (impl_within N x1 1 100000).bind fun y136 =>
 (if (!y136) = true then
 some ((⟨#[]⟩ : ByteArray),false)
 else
 (impl_vars N ([x1,x2.Term] : List Int)).bind fun y141 =>
 (scat? (⟨#[69]⟩ : ByteArray) y141.1).bind fun x145 =>
 (scat? x145 (strOf ([IntKind.wrap .u8 (x2.Kind)] : List Int))).bind fun x146 =>
 (scat? x146 x2.Data).bind fun x147 =>
 some (x147,true)))
theorem sem_impl_EntryText (N : Nat) (x1 : Int) (x2 : Entry) (r : ByteArray × Bool) (h : impl_EntryText N x1 x2 = some r) : Says Try.prog 51 [VI x1,.agg [VI x2.Term,VI x2.Kind,VS x2.Data]] 0 [] (.tup [VS r.1,VB r.2]) [] := by
 unfold impl_EntryText at h
 refine Says.of_norm e Try.call51 e fun B hB => ?_
 have hm : B.m ≤ 1000 := by omega
 refine Run.so hm (.z 1000 (.bx e e) e e (.p2 e e (.nil (.seq (.so hm (.p e ?_))))))
 obtain ⟨y134,hy134,h⟩ := bindO h
 refine Ops.z 5112 (Ev.call [] [] 0 (sem_impl_EntryOk _ _ _ hy134) e e (.cons (.agg (.d2 (.d1 .nil))) .nil) e (.inl e) e e) e e (.p2 e e (.askO (x := .t 11) e h (fun g135 h => ?_) (fun g135 h => ?_)))
 ·refine Ops.gn e g135 (.gn e g135 (.gn e g135 (.z 5208 (.pkT e g135 e) e e (.nil (.condT e e (.so hm (.p2 e e (.nil (.ret ?_)))))))))
  obtain rfl := someO h
  exact Ends.mkG (.inl e) e (gh_pk [0,1] [] hB e e e e) e e
 ·refine Ops.gp e g135 e ?_
  obtain ⟨y136,hy136,h⟩ := bindO h
  refine Ops.gs (s := 5176) e g135 (Ev.call [] [] 0 (sem_impl_within _ _ _ _ _ hy136) e e (.d2 (.d1 .nil)) e (.inl e) e e) e e (.gp e g135 e (.z 5208 (.pkF e g135 e) e e (.nil (.condO e h (fun g137 h => ?_) (fun g137 h => ?_)))))
  ·refine Run.so hm (.p2 e e (.nil (.ret ?_)))
   obtain rfl := someO h
   exact Ends.mkG (.inl e) e (gh_pk [0,1] [] hB e e e e) e e
  ·refine Run.skip (.so hm (.p3 e e e (.z 13336 (Ev.bsW (ys := ([x1,x2.Term] : List Int)) (f := encI) e (.d2 .nil) e e e e e) e e ?_)))
   obtain ⟨y141,hy141,h⟩ := bindO h
   refine Ops.z 13352 (Ev.call [] [13336] 0 (sem_impl_vars _ _ _ hy141) e e (.cons (.borrow e (by decide) (lendW (fun _ => e) _ e)) .nil) e (.inr ⟨e,ownL_root trivial⟩) e e) e e ?_
   refine Ops.p e (.p3 e e e (.p e (.nil (.so hm (.p e ?_)))))
   obtain ⟨x145,hx145,h⟩ := bindO h
   refine Ops.z 17400 (Ev.addS e e hx145) e e (.p3 e e e (.z 17464 (Ev.bsW (ys := ([IntKind.wrap .u8 (x2.Kind)] : List Int)) (f := encU) e (.d1 .nil) e e e e e) e e (.z 17480 (.sbC (addsW (f := encU) e e e (fun _ => e))) e e ?_)))
   obtain ⟨x146,hx146,h⟩ := bindO h
   refine Ops.z 17496 (Ev.addS e e hx146) e e (.p2 e e ?_)
   obtain ⟨x147,hx147,h⟩ := bindO h
   refine Ops.z 17544 (Ev.addS e e hx147) e e (.p2 e e (.nil (.ret ?_)))
   obtain rfl := someO h
   exact Ends.mkG (.inl e) e (gh_pk [0,1] [] hB e e e e) e e
def impl_entryFrames_l1 (N : Nat) (x1 : Log) : Nat → Int → (List Int) → Option ((List Int))
 | 0,_,_ => none
 | m + 1,x279,x283 =>
 (if (decide (x279 < (x1.Entries.length : Int))) = true then
 (at? x1.Entries x279).bind fun x332 =>
 (impl_EntryText N (w64 ((w64 (x1.Start + 1)) + x279)) x332).bind fun y333 =>
 (impl_framed N y333.1).bind fun y336 =>
 (cat? x283 (intsOf y336)).bind fun x337 =>
 impl_entryFrames_l1 N x1 m (w64 (x279 + 1)) x337
 else
 some x283)
def impl_entryFrames_l1_r (N : Nat) (x1 : Log) : (List Entry) → Int → (List Int) → Option ((List Int))
 | [],x279,x283 =>
 some x283
 | hd :: tl,x279,x283 =>
 (some hd).bind fun x332 =>
 (impl_EntryText N (w64 ((w64 (x1.Start + 1)) + x279)) x332).bind fun y333 =>
 (impl_framed N y333.1).bind fun y336 =>
 (cat? x283 (intsOf y336)).bind fun x337 =>
 impl_entryFrames_l1_r N x1 tl (w64 (x279 + 1)) x337
theorem impl_entryFrames_l1_rng (N : Nat) (x1 : Log) (hx : x1.Entries.length ≤ 1099511627776) : ∀ (d k m : Nat) (x283 : (List Int)),x1.Entries.length = k + d → d < m → impl_entryFrames_l1 N x1 m (k : Int) x283 = impl_entryFrames_l1_r N x1 (x1.Entries.drop k) (k : Int) x283 := by
 intro d
 induction d with
 | zero =>
  intro k m x283 hd hm
  obtain ⟨m,rfl⟩ : ∃ q,m = q + 1 := ⟨m - 1,by omega⟩
  rw [impl_entryFrames_l1,if_neg (by simp; omega),List.drop_eq_nil_of_le (by omega),impl_entryFrames_l1_r]
 | succ d ih =>
  intro k m x283 hd hm
  obtain ⟨m,rfl⟩ : ∃ q,m = q + 1 := ⟨m - 1,by omega⟩
  have hk : k < x1.Entries.length := by omega
  rw [impl_entryFrames_l1,if_pos (by simp; omega),List.drop_eq_getElem_cons hk,impl_entryFrames_l1_r]
  have h1 := at_lt hk
  have h2 := w64_succ (k := k) (by omega)
  have h3 := ih (k + 1) m
  simp only [h1,h2,h3 _ (by omega) (by omega)]
theorem impl_entryFrames_l1_eq {N : Nat} (x1 : Log) (hx : x1.Entries.length ≤ 1099511627776) (hN : x1.Entries.length < N) (x283 : (List Int)) : impl_entryFrames_l1 N x1 N 0 x283 = impl_entryFrames_l1_r N x1 x1.Entries 0 x283 := impl_entryFrames_l1_rng N x1 hx x1.Entries.length 0 N x283 (by omega) hN
def impl_entryFrames (N : Nat) (x1 : Log) (x2 : Int) : Option (ByteArray) :=
 joinP (fun (v278 : (List Int)) =>
 some (strOf v278)) fun j278 =>
 (impl_entryFrames_l1 N x1 N x2 ([] : (List Int))).bind (fun v310 => j278 v310)
theorem sem_impl_entryFrames (N : Nat) (x1 : Log) (x2 : Int) (r : ByteArray) (h : impl_entryFrames N x1 x2 = some r) : Says Try.prog 24 [.agg [VI x1.Start,VI x1.StartTerm,RO 51 (x1.Entries.map encEntry)],VI x2] 0 [] (VS r) [] := by
 unfold impl_entryFrames at h
 refine Says.of_norm e Try.call24 e fun B hB => ?_
 have hm : B.m ≤ 1000 := by omega
 refine Run.so hm (.z 1000 (.bx e e) e e (.p e (.nil (.so hm (.p e (.nil (.seqO h (fun v278 => [(5,.sl 0 5 0 v278.length)]) (fun (v278 : (List Int)) => [(0,.vec 5 (v278.map encU))]) (fun h => ?_) (fun v278 h => ?_))))))))
 ·refine Run.so hm (.p2 e e (.nil (.block ?_)))
  obtain ⟨res310,h,hk310⟩ := bindO h
  refine Run.loop (n := N) (fun m310 fr σ => ∃ (x279 : Int),∃ (x283 : (List Int)),impl_entryFrames_l1 N x1 m310 x279 x283 = some res310 ∧ fr = [(2,.ptr 0 0),(5,.sl 1 5 0 x283.length),(6,VI x279)] ∧ σ = [(0,.box [VI x1.Start,VI x1.StartTerm,RO 51 (x1.Entries.map encEntry)]),(1,.vec 5 (x283.map encU))]) (Gh.trans (Gh.trans (gh_prn [2,5,6] [1000] hB e) (gh_nil [5] [] hB e e e)) (gh_pk [2,5,6] [1000,10000000] hB e e e e)) ⟨_,_,h,e,e⟩ ?_
  rintro m310 fr σ ⟨x279,x283,h,rfl,rfl⟩
  obtain _ | m310 := m310
  ·rw [impl_entryFrames_l1] at h; cases h
  rw [impl_entryFrames_l1] at h
  refine Run.seq (.so hm (.p3 e e e (.z 13336 (Ev.lnF e) e e (.p e (.nil (.condO e h (fun g313 h => ?_) (fun g313 h => ?_)))))))
  ·refine Run.skip (.seq (.block (.seq (.draw hm hmix (.p e (.p e (.p e (.p e (.p e (.p e (.p e (.p e ?_))))))))))))
   obtain ⟨x332,hx332,h⟩ := bindO h
   refine OpsD.z 21608 (Ev.iaF e e hx332) e e (.p e ?_)
   obtain ⟨y333,hy333,h⟩ := bindO h
   refine OpsD.z 21640 (Ev.call [] [] 0 (sem_impl_EntryText _ _ _ _ hy333) e e (.d1 (.cons (.agg (.d2 (.d1 .nil))) .nil)) e (.inl e) e e) e e (.p e (.p e (.p e (.p e (.p e (.nil ⟨by kernel_rfl,?_⟩))))))
   refine Run.ops hm (.p2 e e ?_)
   obtain ⟨y336,hy336,h⟩ := bindO h
   refine Ops.z 25608 (Ev.call [] [] 0 (sem_impl_framed _ _ _ hy336) e e (.d1 .nil) e (.inl e) e e) e e ?_
   obtain ⟨x337,hx337,h⟩ := bindO h
   exact Ops.z 25624 (Ev.apS (ontoW e e e) e e e hx337) e e (.p e (.nil (.ops hm (.p3 e e e (.nil (⟨m310,Nat.lt_succ_self m310,_,_,(gh_pk [2,5,6] [0,25624] hB e e e e),_,_,h,e,e⟩))))))
  ·refine Run.exit ?_
   obtain rfl := someO h
   have h := hk310
   exact ⟨_,_,(gh_pk [5] [1] hB e e e e),_,h,e,e⟩
 ·refine Run.so hm (.p e (.z 29688 (.sbC (addsW (f := encU) e e e (fun _ => e))) e e (.p e (.nil (.ret ?_)))))
  obtain rfl := someO h
  exact Ends.mkG (.inl e) e (gh_pk [0] [] hB e e e e) e e
def impl_LogFile (N : Nat) (x1 : Log) : Option (ByteArray × Bool) :=
 (impl_LogOk N x1).bind fun y132 =>
 (if (!y132) = true then
 some ((⟨#[]⟩ : ByteArray),false)
 else
 (impl_vars N ([x1.Start,x1.StartTerm] : List Int)).bind fun y137 =>
 (scat? (⟨#[83]⟩ : ByteArray) y137.1).bind fun x150 =>
 (impl_framed N x150).bind fun y151 =>
 (impl_entryFrames N x1 0).bind fun y152 =>
 (scat? y151 y152).bind fun x153 =>
 (if (decide ((x153.size : Int) > 20000)) = true then
 some ((⟨#[]⟩ : ByteArray),false)
 else
 some (x153,true)))
theorem sem_impl_LogFile (N : Nat) (x1 : Log) (r : ByteArray × Bool) (h : impl_LogFile N x1 = some r) : Says Try.prog 6 [.agg [VI x1.Start,VI x1.StartTerm,RO 51 (x1.Entries.map encEntry)]] 0 [] (.tup [VS r.1,VB r.2]) [] := by
 unfold impl_LogFile at h
 refine Says.of_norm e Try.call6 e fun B hB => ?_
 have hm : B.m ≤ 1000 := by omega
 refine Run.so hm (.z 1000 (.bx e e) e e (.p2 e e (.nil (.seq (.so hm (.p e ?_))))))
 obtain ⟨y132,hy132,h⟩ := bindO h
 refine Ops.z 5112 (Ev.call [] [] 0 (sem_impl_LogOk _ _ _ hy132) e e (.cons (.agg (.d2 (.d1 .nil))) .nil) e (.inl e) e e) e e (.p e (.nil (.condO e h (fun g133 h => ?_) (fun g133 h => ?_))))
 ·refine Run.so hm (.p2 e e (.nil (.ret ?_)))
  obtain rfl := someO h
  exact Ends.mkG (.inl e) e (gh_pk [0,1] [] hB e e e e) e e
 ·refine Run.skip (.so hm (.p3 e e e (.p e (.z 13352 (Ev.bsW (ys := ([x1.Start,x1.StartTerm] : List Int)) (f := encI) e (.d2 .nil) e e e e e) e e ?_))))
  obtain ⟨y137,hy137,h⟩ := bindO h
  refine Ops.z 13368 (Ev.call [] [13352] 0 (sem_impl_vars _ _ _ hy137) e e (.cons (.borrow e (by decide) (lendW (fun _ => e) _ e)) .nil) e (.inr ⟨e,ownL_root trivial⟩) e e) e e ?_
  refine Ops.p e (.p3 e e e (.p e (.nil (.seq (.draw hm hmix (.p e ?_))))))
  obtain ⟨x150,hx150,h⟩ := bindO h
  refine OpsD.z 17400 (Ev.addS e e hx150) e e ?_
  obtain ⟨y151,hy151,h⟩ := bindO h
  refine OpsD.z 17416 (Ev.call [] [] 0 (sem_impl_framed _ _ _ hy151) e e (.d1 .nil) e (.inl e) e e) e e (.p e ?_)
  obtain ⟨y152,hy152,h⟩ := bindO h
  refine OpsD.z 17448 (Ev.call [] [] 0 (sem_impl_entryFrames _ _ _ _ hy152) e e (.cons (.agg (.d2 (.d1 .nil))) (.d1 .nil)) e (.inl e) e e) e e ?_
  obtain ⟨x153,hx153,h⟩ := bindO h
  refine OpsD.z 17464 (Ev.addS e e hx153) e e (.p e (.nil ⟨by kernel_rfl,?_⟩))
  refine Run.seq (.so hm (.p3 e e e (.nil (.condO e h (fun g155 h => ?_) (fun g155 h => ?_)))))
  ·refine Run.so hm (.p2 e e (.nil (.ret ?_)))
   obtain rfl := someO h
   exact Ends.mkG (.inl e) e (gh_pk [0,1] [] hB e e e e) e e
  ·refine Run.skip (.so hm (.p3 e e e (.nil (.ret ?_))))
   obtain rfl := someO h
   exact Ends.mkG (.inl e) e (gh_pk [0,1] [] hB e e e e) e e
def impl_ReadVar_l1 (N : Nat) (x1 : ByteArray) (x2 : Int) : Nat → Int → Int → Option ((Int × Int × Bool) ⊕ (Unit))
 | 0,_,_ => none
 | m + 1,x497,x498 =>
 (if (decide (x498 < 5)) = true then
 (if (decide ((w64 (x2 + x498)) < (x1.size : Int))) = true then
 (sat? x1 (w64 (x2 + x498))).bind fun x598 =>
 (intD .rem .i64 (w64 (x598)) 128).bind fun x605 =>
 (intSh .shl .i64 x605 (w64 (7 * x498))).bind fun x606 =>
 (if (decide ((w64 (x598)) < 128)) = true then
 (impl_VarText N (w64 (x497 + x606))).bind fun y618 =>
 (if (!y618.2) = true then
 some (Sum.inl (0,0,false))
 else
 (if ((y618.1.size : Int) != (w64 (x498 + 1))) = true then
 some (Sum.inl (0,0,false))
 else
 some (Sum.inl (w64 (x497 + x606),w64 ((w64 (x2 + x498)) + 1),true))))
 else
 impl_ReadVar_l1 N x1 x2 m (w64 (x497 + x606)) (w64 (x498 + 1)))
 else
 some (Sum.inr ()))
 else
 some (Sum.inr ()))
def impl_ReadVar (N : Nat) (x1 : ByteArray) (x2 : Int) : Option (Int × Int × Bool) :=
 (impl_within N x2 0 (x1.size : Int)).bind fun y365 =>
 (if (!y365) = true then
 some (0,0,false)
 else
 joinP (fun (v494 : Unit) =>
 some (0,0,false)) fun j494 =>
 (impl_ReadVar_l1 N x1 x2 N 0 0).bind (Sum.elim (fun v559 => some v559) (fun (v560 : Unit) => j494 ())))
theorem sem_impl_ReadVar (N : Nat) (x1 : ByteArray) (x2 : Int) (r : Int × Int × Bool) (h : impl_ReadVar N x1 x2 = some r) : Says Try.prog 52 [VS x1,VI x2] 0 [] (.tup [VI r.1,VI r.2.1,VB r.2.2]) [] := by
 unfold impl_ReadVar at h
 refine Says.of_norm e Try.call52 e fun B hB => ?_
 have hm : B.m ≤ 1000 := by omega
 refine Run.so hm (.p3 e e e (.nil (.seq (.so hm (.p3 e e e ?_)))))
 obtain ⟨y365,hy365,h⟩ := bindO h
 refine Ops.z 5144 (Ev.call [] [] 0 (sem_impl_within _ _ _ _ _ hy365) e e (.d2 (.d1 .nil)) e (.inl e) e e) e e (.p e (.nil (.condO e h (fun g366 h => ?_) (fun g366 h => ?_))))
 ·refine Run.so hm (.p3 e e e (.nil (.ret ?_)))
  obtain rfl := someO h
  exact Ends.mkG (.inl e) e (gh_pk [0,1,2] [] hB e e e e) e e
 ·refine Run.skip (.so hm (.p e (.nil (.seqO h (fun v494 => []) (fun (v494 : Unit) => []) (fun h => ?_) (fun v494 h => ?_)))))
  ·refine Run.so hm (.p e (.nil (.block ?_)))
   obtain ⟨res560,h,hk560⟩ := bindO h
   refine Run.loop (n := N) (fun m560 fr σ => ∃ (x497 : Int),∃ (x498 : Int),impl_ReadVar_l1 N x1 x2 m560 x497 x498 = some res560 ∧ fr = [(0,VS x1),(1,VI x2),(7,VI x497),(8,VI x498)] ∧ σ = []) (gh_pk [0,1,7,8] [] hB e e e e) ⟨_,_,h,e,e⟩ ?_
   rintro m560 fr σ ⟨x497,x498,h,rfl,rfl⟩
   obtain _ | m560 := m560
   ·rw [impl_ReadVar_l1] at h; cases h
   rw [impl_ReadVar_l1] at h
   refine Run.seq (.so hm (.p3 e e e (.askO (x := .t 19) e h (fun g566 h => ?_) (fun g566 h => ?_))))
   ·refine Ops.gp e g566 e (.gp e g566 e (.gp e g566 e (.gp e g566 e (.gp e g566 e (.gp e g566 e (.z 21624 (.pkT e g566 e) e e (.nil (.condO e h (fun g567 h => ?_) (fun g567 h => ?_)))))))))
    ·refine Run.skip (.seq (.block (.so hm (.p3 e e e (.p e ?_)))))
     obtain ⟨x598,hx598,h⟩ := bindO h
     refine Ops.z 29736 (Ev.ixS e e hx598) e e (.p2 e e (.nil (.so hm (.p2 e e ?_))))
     obtain ⟨x605,hx605,h⟩ := bindO h
     refine Ops.z 33800 (.bin e e hx605) e e (.p2 e e ?_)
     obtain ⟨x606,hx606,h⟩ := bindO h
     refine Ops.z 33848 (.sh e e hx606) e e (.p2 e e (.nil (.so hm (.p2 e e (.nil (.condO e h (fun g607 h => ?_) (fun g607 h => ?_)))))))
     ·refine Run.seq (.so hm (.p e ?_))
      obtain ⟨y618,hy618,h⟩ := bindO h
      refine Ops.z 41976 (Ev.call [] [] 0 (sem_impl_VarText _ _ _ hy618) e e (.d1 .nil) e (.inl e) e e) e e (.p3 e e e (.p2 e e (.nil (.so hm (.p3 e e e (.askO (x := .t 51) e h (fun g620 h => ?_) (fun g620 h => ?_)))))))
      ·refine Ops.gn e g620 (.gn e g620 (.gn e g620 (.gn e g620 (.gn e g620 (.z 46184 (.pkT e g620 e) e e (.nil (.condT e e (.so hm (.p3 e e e (.nil (.ret ?_)))))))))))
       obtain rfl := someO h
       have h := hk560
       replace h := inlO h
       obtain rfl := someO h
       exact Ends.mkG (.inl e) e (gh_pk [0,1,2] [] hB e e e e) e e
      ·refine Ops.gp e g620 e (.gp e g620 e (.gp e g620 e (.gp e g620 e (.gp e g620 e (.z 46184 (.pkF e g620 e) e e (.nil (.condO e h (fun g621 h => ?_) (fun g621 h => ?_))))))))
       ·refine Run.so hm (.p3 e e e (.nil (.ret ?_)))
        obtain rfl := someO h
        have h := hk560
        replace h := inlO h
        obtain rfl := someO h
        exact Ends.mkG (.inl e) e (gh_pk [0,1,2] [] hB e e e e) e e
       ·refine Run.skip (.so hm (.p3 e e e (.p3 e e e (.p2 e e (.nil (.ret ?_))))))
        obtain rfl := someO h
        have h := hk560
        replace h := inlO h
        obtain rfl := someO h
        exact Ends.mkG (.inl e) e (gh_pk [0,1,2] [] hB e e e e) e e
     ·exact Run.skip (.ops hm (.p3 e e e (.nil (⟨m560,Nat.lt_succ_self m560,_,_,(gh_pk [0,1,7,8] [] hB e e e e),_,_,h,e,e⟩))))
    ·refine Run.exit ?_
     obtain rfl := someO h
     have h := hk560
     replace h := inrO h
     exact ⟨_,_,(gh_pk [] [] hB e e e e),(),h,e,e⟩
   ·refine Ops.gn e g566 (.gn e g566 (.gn e g566 (.gn e g566 (.gn e g566 (.gn e g566 (.z 21624 (.pkF e g566 e) e e (.nil (.condF e e (.exit ?_)))))))))
    obtain rfl := someO h
    have h := hk560
    replace h := inrO h
    exact ⟨_,_,(gh_pk [] [] hB e e e e),(),h,e,e⟩
  ·refine Run.so hm (.p3 e e e (.nil (.ret ?_)))
   obtain rfl := someO h
   exact Ends.mkG (.inl e) e (gh_pk [0,1,2] [] hB e e e e) e e
def impl_Unframe_l1 (N : Nat) (x1 : ByteArray) : Nat → Int → (List ByteArray) → Option ((List ByteArray) × Int)
 | 0,_,_ => none
 | m + 1,x182,x183 =>
 (impl_ReadVar N x1 x182).bind fun y225 =>
 (if (!y225.2.2) = true then
 some (x183,x182)
 else
 (if (decide (y225.1 > (w64 ((w64 ((x1.size : Int) - y225.2.1)) - 4)))) = true then
 some (x183,x182)
 else
 (scut? x1 (w64 (y225.2.1 + 4)) (w64 ((w64 (y225.2.1 + 4)) + y225.1))).bind fun x235 =>
 (impl_Frame N x235).bind fun y248 =>
 (if (!y248.2) = true then
 some (x183,x182)
 else
 (scut? x1 x182 (w64 ((w64 (y225.2.1 + 4)) + y225.1))).bind fun x252 =>
 (if (!decide (y248.1 = x252)) = true then
 some (x183,x182)
 else
 (cat? x183 ([x235] : List ByteArray)).bind fun x257 =>
 impl_Unframe_l1 N x1 m (w64 ((w64 (y225.2.1 + 4)) + y225.1)) x257))))
def impl_Unframe (N : Nat) (x1 : ByteArray) : Option ((List ByteArray) × Int) :=
 (if (decide ((x1.size : Int) > 20000)) = true then
 some ([],0)
 else
 (impl_Unframe_l1 N x1 N 0 ([] : (List ByteArray))).bind (fun v220 => some v220))
theorem sem_impl_Unframe (N : Nat) (x1 : ByteArray) (r : (List ByteArray) × Int) (h : impl_Unframe N x1 = some r) : Says Try.prog 25 [VS x1] 0 [] (.tup [.sl 0 9 0 r.1.length,VI r.2]) [(0,.vec 9 (r.1.map encS))] := by
 unfold impl_Unframe at h
 refine Says.of_norm e Try.call25 e fun B hB => ?_
 have hm : B.m ≤ 1000 := by omega
 refine Run.so hm (.p2 e e (.nil (.seq (.so hm (.p3 e e e (.nil (.condO e h (fun g180 h => ?_) (fun g180 h => ?_))))))))
 ·refine Run.so hm (.p2 e e (.nil (.ret ?_)))
  obtain rfl := someO h
  exact Ends.mkG (.inl e) e (Gh.trans (Gh.trans (gh_prn [0,1] [] hB e) (gh_nil [0] [] hB e e e)) (gh_pk [0,1] [10000000] hB e e e e)) e e
 ·refine Run.skip (.so hm (.p e (.nil (.so hm (.p e (.nil (.block ?_)))))))
  obtain ⟨res220,h,hk220⟩ := bindO h
  refine Run.loop (n := N) (fun m220 fr σ => ∃ (x182 : Int),∃ (x183 : (List ByteArray)),impl_Unframe_l1 N x1 m220 x182 x183 = some res220 ∧ fr = [(0,VS x1),(4,.sl 0 9 0 x183.length),(5,VI x182)] ∧ σ = [(0,.vec 9 (x183.map encS))]) (Gh.trans (Gh.trans (gh_prn [0,4,5] [] hB e) (gh_nil [4] [] hB e e e)) (gh_pk [0,4,5] [10000000] hB e e e e)) ⟨_,_,h,e,e⟩ ?_
  rintro m220 fr σ ⟨x182,x183,h,rfl,rfl⟩
  obtain _ | m220 := m220
  ·rw [impl_Unframe_l1] at h; cases h
  rw [impl_Unframe_l1] at h
  refine Run.block (.so hm (.p2 e e ?_))
  obtain ⟨y225,hy225,h⟩ := bindO h
  refine Ops.z 21512 (Ev.call [] [] 0 (sem_impl_ReadVar _ _ _ _ hy225) e e (.d2 .nil) e (.inl e) e e) e e (.p3 e e e (.p3 e e e (.p e (.nil (.seq (.so hm (.p3 e e e (.askO (x := .t 24) e h (fun g230 h => ?_) (fun g230 h => ?_)))))))))
  ·refine Ops.gn e g230 (.gn e g230 (.gn e g230 (.gn e g230 (.gn e g230 (.gn e g230 (.gn e g230 (.z 25736 (.pkT e g230 e) e e (.nil (.condT e e (.so hm (.p3 e e e (.p e (.nil (.ret ?_))))))))))))))
   obtain rfl := someO h
   have h := hk220
   obtain rfl := someO h
   exact Ends.mkG (.inl e) e (gh_pk [0,1] [0] hB e e e e) e e
  ·refine Ops.gp e g230 e (.gp e g230 e (.gp e g230 e (.gp e g230 e (.gp e g230 e (.gp e g230 e (.gp e g230 e (.z 25736 (.pkF e g230 e) e e (.nil (.condO e h (fun g231 h => ?_) (fun g231 h => ?_))))))))))
   ·refine Run.so hm (.p3 e e e (.p e (.nil (.ret ?_))))
    obtain rfl := someO h
    have h := hk220
    obtain rfl := someO h
    exact Ends.mkG (.inl e) e (gh_pk [0,1] [0] hB e e e e) e e
   ·refine Run.skip (.so hm (.p3 e e e (.p3 e e e (.p e ?_))))
    obtain ⟨x235,hx235,h⟩ := bindO h
    refine Ops.z 33880 (Ev.ssB e e e hx235) e e (.p e (.nil (.seq (.so hm (.p e ?_)))))
    obtain ⟨y248,hy248,h⟩ := bindO h
    refine Ops.z 37880 (Ev.call [] [] 0 (sem_impl_Frame _ _ _ hy248) e e (.d1 .nil) e (.inl e) e e) e e (.p3 e e e (.p2 e e (.nil (.so hm (.p3 e e e (.askO (x := .t 50) e h (fun g251 h => ?_) (fun g251 h => ?_)))))))
    ·refine Ops.gn e g251 (.gn e g251 (.gn e g251 (.gn e g251 (.gn e g251 (.gn e g251 (.gn e g251 (.gn e g251 (.gn e g251 (.z 42152 (.pkT e g251 e) e e (.nil (.condT e e (.so hm (.p3 e e e (.p e (.nil (.ret ?_))))))))))))))))
     obtain rfl := someO h
     have h := hk220
     obtain rfl := someO h
     exact Ends.mkG (.inl e) e (gh_pk [0,1] [0] hB e e e e) e e
    ·refine Ops.gp e g251 e (.gp e g251 e (.gp e g251 e (.gp e g251 e (.gp e g251 e (.gp e g251 e (.gp e g251 e ?_))))))
     obtain ⟨x252,hx252,h⟩ := bindO h
     refine Ops.gs (s := 42120) e g251 (Ev.ssB e e e hx252) e e (.gp e g251 e (.z 42152 (.pkF e g251 e) e e (.nil (.condO e h (fun g253 h => ?_) (fun g253 h => ?_)))))
     ·refine Run.so hm (.p3 e e e (.p e (.nil (.ret ?_))))
      obtain rfl := someO h
      have h := hk220
      obtain rfl := someO h
      exact Ends.mkG (.inl e) e (gh_pk [0,1] [0] hB e e e e) e e
     ·refine Run.skip (.so hm (.p2 e e (.z 50184 (Ev.bsW (ys := ([x235] : List ByteArray)) (f := encS) e (.d1 .nil) e e e e e) e e ?_)))
      obtain ⟨x257,hx257,h⟩ := bindO h
      exact Ops.z 50200 (Ev.apW (f := encS) (ontoW e e e) (addsW e e e (fun _ => e)) e bt9 e hx257) e e (.p e (.nil (.ops hm (.p3 e e e (.p2 e e (.nil (⟨m220,Nat.lt_succ_self m220,_,_,(gh_pk [0,4,5] [50200] hB e e e e),_,_,h,e,e⟩)))))))
def reader_byte (N : Nat) (x1 : Treader) : Option (Int × Treader) :=
 (if x1.bad = true then
 some (0,(Treader.mk x1.s x1.at' true))
 else
 (if (decide (x1.at' ≥ (x1.s.size : Int))) = true then
 some (0,(Treader.mk x1.s x1.at' true))
 else
 (sat? x1.s (w64 ((w64 (x1.at' + 1)) - 1))).bind fun x115 =>
 some (w64 (x115),(Treader.mk x1.s (w64 (x1.at' + 1)) x1.bad))))
theorem sem_reader_byte (N : Nat) (x1 : Treader) (r : Int × Treader) (h : reader_byte N x1 = some r) : Says Try.prog 53 [.ptr 0 0] 1 [(0,.box [VS x1.s,VI x1.at',VB x1.bad])] (VI r.1) [(0,.box [VS r.2.s,VI r.2.at',VB r.2.bad])] := by
 unfold reader_byte at h
 refine Says.of_norm e Try.call53 e fun B hB => ?_
 have hm : B.m ≤ 1000 := by omega
 refine Run.so hm (.p e (.nil (.seq (.seq (.draw hm hmix (.p e (.p e (.p e (.p e (.p e (.askO (x := .t 7) e h (fun g112 h => ?_) (fun g112 h => ?_))))))))))))
 ·refine OpsD.gn e g112 (.gn e g112 (.gn e g112 (.gn e g112 (.gn e g112 (.gn e g112 (.gn e g112 (.gn e g112 (.gn e g112 (.gn e g112 (.z 5336 (.pkT e g112 e) e e (.nil ⟨by kernel_rfl,?_⟩)))))))))))
  refine Run.condT e e (.so hm (.p3 e e e (.y 9240 (.sto e e e e e e) e e (.nil (.so hm (.p e (.nil (.ret ?_))))))))
  obtain rfl := someO h
  exact Ends.mkG (.inl e) e (gh_pk [0] [0] hB e e e e) e e
 ·refine OpsD.gp e g112 e (.gp e g112 e (.gp e g112 e (.gp e g112 e (.gp e g112 e (.gp e g112 e (.gp e g112 e (.gp e g112 e (.gp e g112 e (.gp e g112 e (.z 5336 (.pkF e g112 e) e e (.nil ⟨by kernel_rfl,?_⟩)))))))))))
  refine Run.condO e h (fun g113 h => ?_) (fun g113 h => ?_)
  ·refine Run.so hm (.p3 e e e (.y 9240 (.sto e e e e e e) e e (.nil (.so hm (.p e (.nil (.ret ?_)))))))
   obtain rfl := someO h
   exact Ends.mkG (.inl e) e (gh_pk [0] [0] hB e e e e) e e
  ·refine Run.skip (.so hm (.p3 e e e (.p3 e e e (.p e (.y 17496 (.sto e e e e e e) e e (.nil (.seq (.draw hm hmix (.p e (.p e (.p e (.p e (.p e (.p e (.p e (.p e (.p e ?_)))))))))))))))))
   obtain ⟨x115,hx115,h⟩ := bindO h
   refine OpsD.z 21624 (Ev.ixS e e hx115) e e (.p e (.p e (.nil ⟨by kernel_rfl,?_⟩)))
   refine Run.ret ?_
   obtain rfl := someO h
   exact Ends.mkG (.inl e) e (gh_pk [0] [0] hB e e e e) e e
def reader_num (N : Nat) (x1 : Treader) : Option (Int × Treader) :=
 (impl_ReadVar N x1.s x1.at').bind fun y113 =>
 (if x1.bad = true then
 some (0,(Treader.mk x1.s x1.at' true))
 else
 (if (!y113.2.2) = true then
 some (0,(Treader.mk x1.s x1.at' true))
 else
 some (y113.1,(Treader.mk x1.s y113.2.1 x1.bad))))
theorem sem_reader_num (N : Nat) (x1 : Treader) (r : Int × Treader) (h : reader_num N x1 = some r) : Says Try.prog 54 [.ptr 0 0] 1 [(0,.box [VS x1.s,VI x1.at',VB x1.bad])] (VI r.1) [(0,.box [VS r.2.s,VI r.2.at',VB r.2.bad])] := by
 unfold reader_num at h
 refine Says.of_norm e Try.call54 e fun B hB => ?_
 have hm : B.m ≤ 1000 := by omega
 refine Run.so hm (.p e (.nil (.seq (.draw hm hmix (.p e (.p e (.p e (.p e (.p e (.p e (.p e (.p e ?_))))))))))))
 obtain ⟨y113,hy113,h⟩ := bindO h
 refine OpsD.z 5224 (Ev.call [] [] 0 (sem_impl_ReadVar _ _ _ _ hy113) e e (.d2 .nil) e (.inl e) e e) e e (.p e (.p e (.p e (.p e (.p e (.p e (.p e (.nil ⟨by kernel_rfl,?_⟩))))))))
 refine Run.seq (.so hm (.p3 e e e (.p2 e e (.askO (x := .t 23) e h (fun g118 h => ?_) (fun g118 h => ?_)))))
 ·refine Ops.gn e g118 (.gn e g118 (.z 9304 (.pkT e g118 e) e e (.nil (.condT e e (.so hm (.p3 e e e (.y 13336 (.sto e e e e e e) e e (.nil (.so hm (.p e (.nil (.ret ?_))))))))))))
  obtain rfl := someO h
  exact Ends.mkG (.inl e) e (gh_pk [0] [0] hB e e e e) e e
 ·refine Ops.gp e g118 e (.gp e g118 e (.z 9304 (.pkF e g118 e) e e (.nil (.condO e h (fun g119 h => ?_) (fun g119 h => ?_)))))
  ·refine Run.so hm (.p3 e e e (.y 13336 (.sto e e e e e e) e e (.nil (.so hm (.p e (.nil (.ret ?_)))))))
   obtain rfl := someO h
   exact Ends.mkG (.inl e) e (gh_pk [0] [0] hB e e e e) e e
  ·refine Run.skip (.so hm (.p3 e e e (.p e (.y 21544 (.sto e e e e e e) e e (.nil (.so hm (.p2 e e (.nil (.ret ?_)))))))))
   obtain rfl := someO h
   exact Ends.mkG (.inl e) e (gh_pk [0] [0] hB e e e e) e e
def reader_done (N : Nat) (x1 : Treader) : Option (Bool) :=
 (if (!x1.bad) = true then
 some (x1.at' == (x1.s.size : Int))
 else
 some false)
theorem sem_reader_done (N : Nat) (x1 : Treader) (r : Bool) (h : reader_done N x1 = some r) : Says Try.prog 55 [.ptr 0 0] 1 [(0,.box [VS x1.s,VI x1.at',VB x1.bad])] (VB r) [(0,.box [VS x1.s,VI x1.at',VB x1.bad])] := by
 unfold reader_done at h
 refine Says.of_norm e Try.call55 e fun B hB => ?_
 have hm : B.m ≤ 1000 := by omega
 refine Run.so hm (.p e (.nil (.seq (.draw hm hmix (.p e (.p e (.p e (.p e (.p e (.p e (.askO (x := .t 8) e h (fun g103 h => ?_) (fun g103 h => ?_))))))))))))
 ·refine OpsD.gp e g103 e (.gp e g103 e (.gp e g103 e (.gp e g103 e (.gp e g103 e (.gp e g103 e (.gp e g103 e (.gp e g103 e (.gp e g103 e (.gp e g103 e (.z 5352 (.pkT e g103 e) e e (.p e (.nil ⟨by kernel_rfl,?_⟩))))))))))))
  refine Run.ret ?_
  obtain rfl := someO h
  exact Ends.mkG (.inl e) e (gh_pk [0] [0] hB e e e e) e e
 ·refine OpsD.gn e g103 (.gn e g103 (.gn e g103 (.gn e g103 (.gn e g103 (.gn e g103 (.gn e g103 (.gn e g103 (.gn e g103 (.gn e g103 (.z 5352 (.pkF e g103 e) e e (.p e (.nil ⟨by kernel_rfl,?_⟩))))))))))))
  refine Run.ret ?_
  obtain rfl := someO h
  exact Ends.mkG (.inl e) e (gh_pk [0] [0] hB e e e e) e e
def impl_readStart (N : Nat) (x1 : ByteArray) : Option (Log × Bool) :=
 (reader_byte N (Treader.mk x1 0 false)).bind fun y119 =>
 (reader_num N y119.2).bind fun y126 =>
 (reader_num N y126.2).bind fun y127 =>
 (if (y119.1 == 83) = true then
 (reader_done N y127.2).bind fun y131 =>
 some ((Log.mk y126.1 y127.1 ([])),y131)
 else
 some ((Log.mk y126.1 y127.1 ([])),false))
theorem sem_impl_readStart (N : Nat) (x1 : ByteArray) (r : Log × Bool) (h : impl_readStart N x1 = some r) : Says Try.prog 26 [VS x1] 0 [] (.tup [.agg [VI r.1.Start,VI r.1.StartTerm,.sl 0 51 0 r.1.Entries.length],VB r.2]) [(0,.vec 51 (r.1.Entries.map encEntry))] := by
 unfold impl_readStart at h
 refine Says.of_norm e Try.call26 e fun B hB => ?_
 have hm : B.m ≤ 1000 := by omega
 refine Run.so hm (.z 1000 (.al e e) e e (.p e (.nil (.so hm (.p e (.z 5112 (.bd e e) e e (.z 5128 (.bx e e) e e (.p e (.nil (.so hm (.p e ?_)))))))))))
 obtain ⟨y119,hy119,h⟩ := bindO h
 refine Ops.z 9208 (Ev.call [5128] [] 0 (sem_reader_byte _ _ _ hy119) e e (.cons (.ptr e) .nil) e (.inl e) e e) e e (.p e (.nil (.so hm (.p e ?_))))
 obtain ⟨y126,hy126,h⟩ := bindO h
 refine Ops.z 13304 (Ev.call [5128] [] 0 (sem_reader_num _ _ _ hy126) e e (.cons (.ptr e) .nil) e (.inl e) e e) e e (.p e ?_)
 obtain ⟨y127,hy127,h⟩ := bindO h
 refine Ops.z 13336 (Ev.call [5128] [] 0 (sem_reader_num _ _ _ hy127) e e (.cons (.ptr e) .nil) e (.inl e) e e) e e (.z 13352 (.bd e e) e e (.z 13368 (.al e e) e e (.y 13384 (.sto e e e e e e) e e (.nil (.seq (.draw hm hmix (.p e (.p e (.p e (.p e (.askO (x := .t 20) e h (fun g130 h => ?_) (fun g130 h => ?_))))))))))))
 ·refine OpsD.gp e g130 e ?_
  obtain ⟨y131,hy131,h⟩ := bindO h
  refine OpsD.gs (s := 17464) e g130 (Ev.call [5128] [] 0 (sem_reader_done _ _ _ hy131) e e (.cons (.ptr e) .nil) e (.inl e) e e) e e (.z 17480 (.pkT e g130 e) e e (.y 17496 (.sto e e e e e e) e e (.p e (.nil ⟨by kernel_rfl,?_⟩))))
  refine Run.ret ?_
  obtain rfl := someO h
  exact Ends.mkG (.inl e) e (Gh.trans (Gh.trans (gh_prn [0,1] [] hB e) (gh_nil [0] [] hB e e e)) (gh_pk [0,1] [10000000] hB e e e e)) e e
 ·refine OpsD.gn e g130 (.gn e g130 (.z 17480 (.pkF e g130 e) e e (.y 17496 (.sto e e e e e e) e e (.p e (.nil ⟨by kernel_rfl,?_⟩)))))
  refine Run.ret ?_
  obtain rfl := someO h
  exact Ends.mkG (.inl e) e (Gh.trans (Gh.trans (gh_prn [0,1] [] hB e) (gh_nil [0] [] hB e e e)) (gh_pk [0,1] [10000000] hB e e e e)) e e
def impl_ReadEntry (N : Nat) (x1 : ByteArray) : Option (Int × Entry × Bool) :=
 (reader_byte N (Treader.mk x1 0 false)).bind fun y143 =>
 (reader_num N y143.2).bind fun y147 =>
 (reader_num N y147.2).bind fun y154 =>
 (reader_byte N y154.2).bind fun y155 =>
 (if y155.2.bad = true then
 some (0,(Entry.mk 0 0 (⟨#[]⟩ : ByteArray)),false)
 else
 (if (y143.1 != 69) = true then
 some (0,(Entry.mk 0 0 (⟨#[]⟩ : ByteArray)),false)
 else
 (sdrop? x1 y155.2.at').bind fun x165 =>
 (impl_EntryOk N (Entry.mk y154.1 y155.1 x165)).bind fun y176 =>
 (if (!y176) = true then
 some (0,(Entry.mk 0 0 (⟨#[]⟩ : ByteArray)),false)
 else
 (impl_within N y147.1 1 100000).bind fun y178 =>
 (if (!y178) = true then
 some (0,(Entry.mk 0 0 (⟨#[]⟩ : ByteArray)),false)
 else
 some (y147.1,(Entry.mk y154.1 y155.1 x165),true)))))
theorem sem_impl_ReadEntry (N : Nat) (x1 : ByteArray) (r : Int × Entry × Bool) (h : impl_ReadEntry N x1 = some r) : Says Try.prog 27 [VS x1] 0 [] (.tup [VI r.1,.agg [VI r.2.1.Term,VI r.2.1.Kind,VS r.2.1.Data],VB r.2.2]) [] := by
 unfold impl_ReadEntry at h
 refine Says.of_norm e Try.call27 e fun B hB => ?_
 have hm : B.m ≤ 1000 := by omega
 refine Run.so hm (.p e (.z 1016 (.al e e) e e (.p e (.nil (.so hm (.p e (.z 5112 (.bd e e) e e (.z 5128 (.bx e e) e e (.p e (.nil (.so hm (.p e ?_))))))))))))
 obtain ⟨y143,hy143,h⟩ := bindO h
 refine Ops.z 9208 (Ev.call [5128] [] 0 (sem_reader_byte _ _ _ hy143) e e (.cons (.ptr e) .nil) e (.inl e) e e) e e (.p e (.nil (.so hm (.p e ?_))))
 obtain ⟨y147,hy147,h⟩ := bindO h
 refine Ops.z 13304 (Ev.call [5128] [] 0 (sem_reader_num _ _ _ hy147) e e (.cons (.ptr e) .nil) e (.inl e) e e) e e (.p e (.nil (.so hm (.p e ?_))))
 obtain ⟨y154,hy154,h⟩ := bindO h
 refine Ops.z 17400 (Ev.call [5128] [] 0 (sem_reader_num _ _ _ hy154) e e (.cons (.ptr e) .nil) e (.inl e) e e) e e (.p e ?_)
 obtain ⟨y155,hy155,h⟩ := bindO h
 refine Ops.z 17432 (Ev.call [5128] [] 0 (sem_reader_byte _ _ _ hy155) e e (.cons (.ptr e) .nil) e (.inl e) e e) e e (.z 17448 (.bd e e) e e (.z 17464 (.al e e) e e (.y 17480 (.sto e e e e e e) e e (.nil (.seq (.so hm (.p3 e e e (.p2 e e (.askO (x := .t 25) e h (fun g160 h => ?_) (fun g160 h => ?_))))))))))
 ·refine Ops.gn e g160 (.gn e g160 (.z 21592 (.pkT e g160 e) e e (.nil (.condT e e (.so hm (.z 25576 (.bd e e) e e (.p e (.y 25608 (.sto e e e e e e) e e (.p e (.nil (.ret ?_)))))))))))
  obtain rfl := someO h
  exact Ends.mkG (.inl e) e (gh_pk [0,1,2] [] hB e e e e) e e
 ·refine Ops.gp e g160 e (.gp e g160 e (.z 21592 (.pkF e g160 e) e e (.nil (.condO e h (fun g161 h => ?_) (fun g161 h => ?_)))))
  ·refine Run.so hm (.z 25576 (.bd e e) e e (.p e (.y 25608 (.sto e e e e e e) e e (.p e (.nil (.ret ?_))))))
   obtain rfl := someO h
   exact Ends.mkG (.inl e) e (gh_pk [0,1,2] [] hB e e e e) e e
  ·refine Run.skip (.so hm (.p3 e e e (.p2 e e ?_)))
   obtain ⟨x165,hx165,h⟩ := bindO h
   refine Ops.z 29752 (Ev.ssL e e hx165) e e (.p e (.y 29784 (.sto e e e e e e) e e (.nil (.seq (.so hm (.p e ?_))))))
   obtain ⟨y176,hy176,h⟩ := bindO h
   refine Ops.z 33784 (Ev.call [] [] 0 (sem_impl_EntryOk _ _ _ hy176) e e (.cons (.agg (.d2 (.d1 .nil))) .nil) e (.inl e) e e) e e (.p2 e e (.askO (x := .t 40) e h (fun g177 h => ?_) (fun g177 h => ?_)))
   ·refine Ops.gn e g177 (.gn e g177 (.gn e g177 (.z 33880 (.pkT e g177 e) e e (.nil (.condT e e (.so hm (.z 37864 (.bd e e) e e (.p e (.y 37896 (.sto e e e e e e) e e (.p e (.nil (.ret ?_))))))))))))
    obtain rfl := someO h
    exact Ends.mkG (.inl e) e (gh_pk [0,1,2] [] hB e e e e) e e
   ·refine Ops.gp e g177 e ?_
    obtain ⟨y178,hy178,h⟩ := bindO h
    refine Ops.gs (s := 33848) e g177 (Ev.call [] [] 0 (sem_impl_within _ _ _ _ _ hy178) e e (.d2 (.d1 .nil)) e (.inl e) e e) e e (.gp e g177 e (.z 33880 (.pkF e g177 e) e e (.nil (.condO e h (fun g179 h => ?_) (fun g179 h => ?_)))))
    ·refine Run.so hm (.z 37864 (.bd e e) e e (.p e (.y 37896 (.sto e e e e e e) e e (.p e (.nil (.ret ?_))))))
     obtain rfl := someO h
     exact Ends.mkG (.inl e) e (gh_pk [0,1,2] [] hB e e e e) e e
    ·refine Run.skip (.seq (.draw hm hmix (.p e (.p e (.p e (.y 42008 (.sto e e e e e e) e e (.p e (.nil ⟨by kernel_rfl,?_⟩))))))))
     refine Run.ret ?_
     obtain rfl := someO h
     exact Ends.mkG (.inl e) e (gh_pk [0,1,2] [] hB e e e e) e e
end Go.Proofs.Ythlhkcnilehbbaa.Pe.FnLogs
