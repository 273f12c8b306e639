/- Functions,as pure functions; and that Go does just that. -/
import Derived.Test.YtlkdjdfcihjplaaGreatDoorPeFFnExactFold2
namespace Go.Proofs.YtlkdjdfcihjplaaGreatDoor.Pe.FnExactFold
open Go Go.RowKit
set_option linter.unusedVariables false
set_option linter.unusedSimpArgs false
set_option maxHeartbeats 40000000
set_option maxRecDepth 100000
def strings_SplitN (N : Nat) (x1 : ByteArray) (x2 : ByteArray) (x3 : Int) : Option (Nat × (List ByteArray)) :=
 (strings_genSplit N x1 x2 0 x3).bind fun y103 =>
 some (y103.1,y103.2)
theorem sem_strings_SplitN (N : Nat) (x1 : ByteArray) (x2 : ByteArray) (x3 : Int) (r : Nat × (List ByteArray)) (h : strings_SplitN N x1 x2 x3 = some r) : Says Tryz.prog 75 [VS x1,VS x2,VI x3] 0 [] (.sl 0 9 0 r.1) [(0,.vec 9 (r.2.map encS))] := by
 unfold strings_SplitN at h
 refine Says.of_norm e Tryz.call75 e fun B hB => ?_
 have hm : B.m ≤ 1000 := by omega
 refine Run.so hm (.p e (.nil (.so hm (.p3 e e e ?_))))
 obtain ⟨y103,hy103,h⟩ := bindO h
 refine Ops.z 5144 (Ev.call [] [] 1 (sem_strings_genSplit _ _ _ _ _ _ hy103) e e (.d4 .nil) e (.inl e) e e) e e (.p e (.nil (.ret ?_)))
 obtain rfl := someO h
 exact Ends.mkG (.inl e) e (gh_pk [0] [5144] hB e e e e) e e
def impl_readSession (N : Nat) (x1 : Pair) : Option (Tsession × Bool × Bool) :=
 (strings_CutPrefix N x1.Key (⟨#[115]⟩ : ByteArray)).bind fun y143 =>
 (impl_ReadDecimal N y143.1).bind fun y147 =>
 (if (!y143.2) = true then
 some ((Tsession.mk 0 0 0 (⟨#[]⟩ : ByteArray)),false,(!y143.2))
 else
 (if (!y147.2) = true then
 some ((Tsession.mk 0 0 0 (⟨#[]⟩ : ByteArray)),false,(!y143.2))
 else
 (strings_SplitN N x1.Value (⟨#[32]⟩ : ByteArray) 3).bind fun y157 =>
 (if (decide (((y157.1 : Nat) : Int) < 3)) = true then
 some ((Tsession.mk 0 0 0 (⟨#[]⟩ : ByteArray)),true,false)
 else
 (at? (y157.2.take y157.1) 0).bind fun x166 =>
 (impl_ReadDecimal N x166).bind fun y167 =>
 (at? (y157.2.take y157.1) 1).bind fun x174 =>
 (impl_ReadDecimal N x174).bind fun y175 =>
 (at? (y157.2.take y157.1) 2).bind fun x178 =>
 (if y167.2 = true then
 some ((Tsession.mk y147.1 y167.1 y175.1 x178),true,y175.2)
 else
 some ((Tsession.mk y147.1 y167.1 y175.1 x178),true,false)))))
theorem sem_impl_readSession (N : Nat) (x1 : Pair) (r : Tsession × Bool × Bool) (h : impl_readSession N x1 = some r) : Says Tryz.prog 64 [.agg [VS x1.Key,VS x1.Value]] 0 [] (.tup [.agg [VI r.1.number,VI r.1.seq,VI r.1.index,VS r.1.reply],VB r.2.1,VB r.2.2]) [] := by
 unfold impl_readSession at h
 refine Says.of_norm e Tryz.call64 e fun B hB => ?_
 have hm : B.m ≤ 1000 := by omega
 refine Run.so hm (.z 1000 (.bx e e) e e (.z 1016 (.al e e) e e (.p2 e e (.nil (.so hm (.p2 e e ?_))))))
 obtain ⟨y143,hy143,h⟩ := bindO h
 refine Ops.z 5128 (Ev.call [] [] 0 (sem_strings_CutPrefix _ _ _ _ hy143) e e (.d2 .nil) e (.inl e) e e) e e (.p3 e e e (.p2 e e (.nil (.so hm (.p e ?_)))))
 obtain ⟨y147,hy147,h⟩ := bindO h
 refine Ops.z 9208 (Ev.call [] [] 0 (sem_impl_ReadDecimal _ _ _ hy147) e e (.d1 .nil) e (.inl e) e e) e e (.p3 e e e (.p2 e e (.nil (.seq (.so hm (.p3 e e e (.askO (x := .t 27) e h (fun g152 h => ?_) (fun g152 h => ?_))))))))
 ·refine Ops.gn e g152 (.gn e g152 (.z 13368 (.pkT e g152 e) e e (.nil (.condT e e (.so hm (.z 17384 (.bd e e) e e (.p2 e e (.y 17432 (.sto e e e e e e) e e (.p2 e e (.nil (.ret ?_)))))))))))
  obtain rfl := someO h
  exact Ends.mkG (.inl e) e (gh_pk [0,1,2] [] hB e e e e) e e
 ·refine Ops.gp e g152 e (.gp e g152 e (.z 13368 (.pkF e g152 e) e e (.nil (.condO e h (fun g153 h => ?_) (fun g153 h => ?_)))))
  ·refine Run.so hm (.z 17384 (.bd e e) e e (.p2 e e (.y 17432 (.sto e e e e e e) e e (.p2 e e (.nil (.ret ?_))))))
   obtain rfl := someO h
   exact Ends.mkG (.inl e) e (gh_pk [0,1,2] [] hB e e e e) e e
  ·refine Run.skip (.so hm (.p2 e e ?_))
   obtain ⟨y157,hy157,h⟩ := bindO h
   refine Ops.z 21512 (Ev.call [] [] 1 (sem_strings_SplitN _ _ _ _ _ hy157) e e (.d2 (.d1 .nil)) e (.inl e) e e) e e (.p e (.nil (.seq (.so hm (.p3 e e e (.nil (.condO e h (fun g159 h => ?_) (fun g159 h => ?_))))))))
   ·refine Run.so hm (.z 29672 (.bd e e) e e (.y 29688 (.sto e e e e e e) e e (.p2 e e (.nil (.ret ?_)))))
    obtain rfl := someO h
    exact Ends.mkG (.inl e) e (gh_pk [0,1,2] [] hB e e e e) e e
   ·refine Run.skip (.so hm (.p e ?_))
    obtain ⟨x166,hx166,h⟩ := bindO h
    refine Ops.z 33784 (Ev.iaP (xs := y157.2) e e hx166) e e (.z 33800 (Ev.ldE (f := encS) e e (at_part hx166) e e e) e e ?_)
    obtain ⟨y167,hy167,h⟩ := bindO h
    refine Ops.z 33816 (Ev.call [] [] 0 (sem_impl_ReadDecimal _ _ _ hy167) e e (.d1 .nil) e (.inl e) e e) e e (.p3 e e e (.p2 e e (.nil (.so hm (.p e ?_)))))
    obtain ⟨x174,hx174,h⟩ := bindO h
    refine Ops.z 37880 (Ev.iaP (xs := y157.2) e e hx174) e e (.z 37896 (Ev.ldE (f := encS) e e (at_part hx174) e e e) e e ?_)
    obtain ⟨y175,hy175,h⟩ := bindO h
    refine Ops.z 37912 (Ev.call [] [] 0 (sem_impl_ReadDecimal _ _ _ hy175) e e (.d1 .nil) e (.inl e) e e) e e (.p3 e e e (.p2 e e (.nil (.so hm (.p3 e e e (.p e ?_))))))
    obtain ⟨x178,hx178,h⟩ := bindO h
    refine Ops.z 42024 (Ev.iaP (xs := y157.2) e e hx178) e e (.z 42040 (Ev.ldE (f := encS) e e (at_part hx178) e e e) e e (.z 42056 (.bd e e) e e (.p2 e e (.askO (x := .t 63) e h (fun g179 h => ?_) (fun g179 h => ?_)))))
    ·refine Ops.gp e g179 e (.z 42120 (.pkT e g179 e) e e (.y 42136 (.sto e e e e e e) e e (.p2 e e (.nil (.ret ?_)))))
     obtain rfl := someO h
     exact Ends.mkG (.inl e) e (gh_pk [0,1,2] [] hB e e e e) e e
    ·refine Ops.gn e g179 (.z 42120 (.pkF e g179 e) e e (.y 42136 (.sto e e e e e e) e e (.p2 e e (.nil (.ret ?_)))))
     obtain rfl := someO h
     exact Ends.mkG (.inl e) e (gh_pk [0,1,2] [] hB e e e e) e e
def impl_sessionsOf_l1 (N : Nat) (x1 : (List Pair)) : Nat → Int → (List Tsession) → Option (((List Tsession) × Bool) ⊕ ((List Tsession)))
 | 0,_,_ => none
 | m + 1,x215,x216 =>
 (if (decide (x215 < (x1.length : Int))) = true then
 (at? x1 x215).bind fun x240 =>
 (impl_readSession N x240).bind fun y244 =>
 (if (!y244.2.2) = true then
 some (Sum.inl ([],false))
 else
 (if y244.2.1 = true then
 (cat? x216 ([y244.1] : List Tsession)).bind fun x249 =>
 impl_sessionsOf_l1 N x1 m (w64 (x215 + 1)) x249
 else
 impl_sessionsOf_l1 N x1 m (w64 (x215 + 1)) x216))
 else
 some (Sum.inr x216))
def impl_sessionsOf_l1_r (N : Nat) (x1 : (List Pair)) : (List Pair) → Int → (List Tsession) → Option (((List Tsession) × Bool) ⊕ ((List Tsession)))
 | [],x215,x216 =>
 some (Sum.inr x216)
 | hd :: tl,x215,x216 =>
 (some hd).bind fun x240 =>
 (impl_readSession N x240).bind fun y244 =>
 (if (!y244.2.2) = true then
 some (Sum.inl ([],false))
 else
 (if y244.2.1 = true then
 (cat? x216 ([y244.1] : List Tsession)).bind fun x249 =>
 impl_sessionsOf_l1_r N x1 tl (w64 (x215 + 1)) x249
 else
 impl_sessionsOf_l1_r N x1 tl (w64 (x215 + 1)) x216))
theorem impl_sessionsOf_l1_rng (N : Nat) (x1 : (List Pair)) (hx : x1.length ≤ 1099511627776) : ∀ (d k m : Nat) (x216 : (List Tsession)),x1.length = k + d → d < m → impl_sessionsOf_l1 N x1 m (k : Int) x216 = impl_sessionsOf_l1_r N x1 (x1.drop k) (k : Int) x216 := by
 intro d
 induction d with
 | zero =>
  intro k m x216 hd hm
  obtain ⟨m,rfl⟩ : ∃ q,m = q + 1 := ⟨m - 1,by omega⟩
  rw [impl_sessionsOf_l1,if_neg (by simp; omega),List.drop_eq_nil_of_le (by omega),impl_sessionsOf_l1_r]
 | succ d ih =>
  intro k m x216 hd hm
  obtain ⟨m,rfl⟩ : ∃ q,m = q + 1 := ⟨m - 1,by omega⟩
  have hk : k < x1.length := by omega
  rw [impl_sessionsOf_l1,if_pos (by simp; omega),List.drop_eq_getElem_cons hk,impl_sessionsOf_l1_r]
  have h1 := at_lt hk
  have h2 := w64_succ (k := k) (by omega)
  have h3 := ih (k + 1) m
  simp only [h1,h2,h3 _ (by omega) (by omega)]
theorem impl_sessionsOf_l1_eq {N : Nat} (x1 : (List Pair)) (hx : x1.length ≤ 1099511627776) (hN : x1.length < N) (x216 : (List Tsession)) : impl_sessionsOf_l1 N x1 N 0 x216 = impl_sessionsOf_l1_r N x1 x1 0 x216 := impl_sessionsOf_l1_rng N x1 hx x1.length 0 N x216 (by omega) hN
def impl_sessionsOf (N : Nat) (x1 : (List Pair)) : Option ((List Tsession) × Bool) :=
 joinP (fun (v212 : (List Tsession)) =>
 some (v212,true)) fun j212 =>
 (impl_sessionsOf_l1 N x1 N 0 ([] : (List Tsession))).bind (Sum.elim (fun v232 => some v232) (fun (v233 : (List Tsession)) => j212 v233))
theorem sem_impl_sessionsOf (N : Nat) (x1 : (List Pair)) (r : (List Tsession) × Bool) (h : impl_sessionsOf N x1 = some r) : Says Tryz.prog 48 [RO 50 (x1.map encPair)] 0 [] (.tup [.sl 0 107 0 r.1.length,VB r.2]) [(0,.vec 107 (r.1.map encTsession))] := by
 unfold impl_sessionsOf at h
 refine Says.of_norm e Tryz.call48 e fun B hB => ?_
 have hm : B.m ≤ 1000 := by omega
 refine Run.so hm (.p2 e e (.nil (.so hm (.p e (.nil (.seqO h (fun v212 => [(4,.sl 0 107 0 v212.length)]) (fun (v212 : (List Tsession)) => [(0,.vec 107 (v212.map encTsession))]) (fun h => ?_) (fun v212 h => ?_)))))))
 ·refine Run.so hm (.p e (.z 9208 (Ev.lnF e) e e (.p e (.nil (.block ?_)))))
  obtain ⟨res233,h,hk233⟩ := bindO h
  refine Run.loop (n := N) (fun m233 fr σ => ∃ (x215 : Int),∃ (x216 : (List Tsession)),impl_sessionsOf_l1 N x1 m233 x215 x216 = some res233 ∧ fr = [(4,.sl 0 107 0 x216.length),(10,RO 50 (x1.map encPair)),(11,VI (x1.length : Int)),(12,VI x215)] ∧ σ = [(0,.vec 107 (x216.map encTsession))]) (Gh.trans (Gh.trans (gh_prn [4,10,11,12] [] hB e) (gh_nil [4] [] hB e e e)) (gh_pk [4,10,11,12] [10000000] hB e e e e)) ⟨_,_,h,e,e⟩ ?_
  rintro m233 fr σ ⟨x215,x216,h,rfl,rfl⟩
  obtain _ | m233 := m233
  ·rw [impl_sessionsOf_l1] at h; cases h
  rw [impl_sessionsOf_l1] at h
  refine Run.so hm (.p e (.nil (.seq (.condO e h (fun g236 h => ?_) (fun g236 h => ?_)))))
  ·refine Run.skip (.seq (.block (.so hm ?_)))
   obtain ⟨x240,hx240,h⟩ := bindO h
   refine Ops.z 17384 (Ev.iaF e e hx240) e e (.p e (.z 17416 (.al e e) e e (.y 17432 (.sto e e e e e e) e e (.nil (.so hm (.p e ?_))))))
   obtain ⟨y244,hy244,h⟩ := bindO h
   refine Ops.z 21496 (Ev.call [] [] 0 (sem_impl_readSession _ _ _ hy244) e e (.cons (.agg (.d2 .nil)) .nil) e (.inl e) e e) e e (.p3 e e e (.p e (.z 21576 (.al e e) e e (.y 21592 (.sto e e e e e e) e e (.p2 e e (.nil (.seq (.so hm (.p2 e e (.nil (.condO e h (fun g246 h => ?_) (fun g246 h => ?_))))))))))))
   ·refine Run.so hm (.p2 e e (.nil (.ret ?_)))
    obtain rfl := someO h
    have h := hk233
    replace h := inlO h
    obtain rfl := someO h
    exact Ends.mkG (.inl e) e (Gh.trans (Gh.trans (gh_prn [0,1] [] hB e) (gh_nil [0] [] hB e e e)) (gh_pk [0,1] [10000000] hB e e e e)) e e
   ·refine Run.skip (.so hm (.p e (.nil (.condO e h (fun g247 h => ?_) (fun g247 h => ?_)))))
    ·refine Run.ops hm (.p2 e e (.z 37896 (Ev.bsW (ys := ([y244.1] : List Tsession)) (f := encTsession) e (.d4 .nil) e e e e e) e e ?_))
     obtain ⟨x249,hx249,h⟩ := bindO h
     exact Ops.z 37912 (Ev.apW (f := encTsession) (ontoW e e e) (addsW e e e (fun _ => e)) e bt107 e hx249) e e (.p e (.nil (.ops hm (.p2 e e (.nil (⟨m233,Nat.lt_succ_self m233,_,_,(gh_pk [4,10,11,12] [37912] hB e e e e),_,_,h,e,e⟩))))))
    ·exact Run.skip (.ops hm (.p2 e e (.nil (⟨m233,Nat.lt_succ_self m233,_,_,(gh_pk [4,10,11,12] [0] hB e e e e),_,_,h,e,e⟩))))
  ·refine Run.exit ?_
   obtain rfl := someO h
   have h := hk233
   replace h := inrO h
   exact ⟨_,_,(gh_pk [4] [0] hB e e e e),_,h,e,e⟩
 ·refine Run.so hm (.p3 e e e (.nil (.ret ?_)))
  obtain rfl := someO h
  exact Ends.mkG (.inl e) e (gh_pk [0,1] [0] hB e e e e) e e
def impl_keyOk (N : Nat) (x1 : ByteArray) : Option (Bool) :=
 (impl_within N (x1.size : Int) 1 10).bind fun y103 =>
 some y103
theorem sem_impl_keyOk (N : Nat) (x1 : ByteArray) (r : Bool) (h : impl_keyOk N x1 = some r) : Says Tryz.prog 65 [VS x1] 0 [] (VB r) [] := by
 unfold impl_keyOk at h
 refine Says.of_norm e Tryz.call65 e fun B hB => ?_
 have hm : B.m ≤ 1000 := by omega
 refine Run.so hm (.p e (.nil (.so hm (.p2 e e ?_))))
 obtain ⟨y103,hy103,h⟩ := bindO h
 refine Ops.z 5128 (Ev.call [] [] 0 (sem_impl_within _ _ _ _ _ hy103) e e (.d2 (.d1 .nil)) e (.inl e) e e) e e (.p e (.nil (.ret ?_)))
 obtain rfl := someO h
 exact Ends.mkG (.inl e) e (gh_pk [0] [] hB e e e e) e e
def impl_MapOk_l1 (N : Nat) (x1 : (List Pair)) : Nat → Int → Option ((Bool) ⊕ (Unit))
 | 0,_ => none
 | m + 1,x228 =>
 (if (decide (x228 < (x1.length : Int))) = true then
 (at? x1 x228).bind fun x254 =>
 (impl_keyOk N x254.Key).bind fun y260 =>
 (if (!y260) = true then
 some (Sum.inl false)
 else
 (if (decide ((x254.Value.size : Int) > 40)) = true then
 some (Sum.inl false)
 else
 (if (decide (x228 > 0)) = true then
 (at? x1 (w64 (x228 - 1))).bind fun x264 =>
 (if (!Op.bytesLess x264.Key.toList x254.Key.toList) = true then
 some (Sum.inl false)
 else
 impl_MapOk_l1 N x1 m (w64 (x228 + 1)))
 else
 impl_MapOk_l1 N x1 m (w64 (x228 + 1)))))
 else
 some (Sum.inr ()))
def impl_MapOk_l1_r (N : Nat) (x1 : (List Pair)) : (List Pair) → Int → Option ((Bool) ⊕ (Unit))
 | [],x228 =>
 some (Sum.inr ())
 | hd :: tl,x228 =>
 (some hd).bind fun x254 =>
 (impl_keyOk N x254.Key).bind fun y260 =>
 (if (!y260) = true then
 some (Sum.inl false)
 else
 (if (decide ((x254.Value.size : Int) > 40)) = true then
 some (Sum.inl false)
 else
 (if (decide (x228 > 0)) = true then
 (at? x1 (w64 (x228 - 1))).bind fun x264 =>
 (if (!Op.bytesLess x264.Key.toList x254.Key.toList) = true then
 some (Sum.inl false)
 else
 impl_MapOk_l1_r N x1 tl (w64 (x228 + 1)))
 else
 impl_MapOk_l1_r N x1 tl (w64 (x228 + 1)))))
theorem impl_MapOk_l1_rng (N : Nat) (x1 : (List Pair)) (hx : x1.length ≤ 1099511627776) : ∀ (d k m : Nat),x1.length = k + d → d < m → impl_MapOk_l1 N x1 m (k : Int) = impl_MapOk_l1_r N x1 (x1.drop k) (k : Int) := by
 intro d
 induction d with
 | zero =>
  intro k m hd hm
  obtain ⟨m,rfl⟩ : ∃ q,m = q + 1 := ⟨m - 1,by omega⟩
  rw [impl_MapOk_l1,if_neg (by simp; omega),List.drop_eq_nil_of_le (by omega),impl_MapOk_l1_r]
 | succ d ih =>
  intro k m hd hm
  obtain ⟨m,rfl⟩ : ∃ q,m = q + 1 := ⟨m - 1,by omega⟩
  have hk : k < x1.length := by omega
  rw [impl_MapOk_l1,if_pos (by simp; omega),List.drop_eq_getElem_cons hk,impl_MapOk_l1_r]
  have h1 := at_lt hk
  have h2 := w64_succ (k := k) (by omega)
  have h3 := ih (k + 1) m
  simp only [h1,h2,h3 (by omega) (by omega)]
theorem impl_MapOk_l1_eq {N : Nat} (x1 : (List Pair)) (hx : x1.length ≤ 1099511627776) (hN : x1.length < N) : impl_MapOk_l1 N x1 N 0 = impl_MapOk_l1_r N x1 x1 0 := impl_MapOk_l1_rng N x1 hx x1.length 0 N (by omega) hN
def impl_MapOk (N : Nat) (x1 : (List Pair)) : Option (Bool) :=
 joinP (fun (v224 : Unit) =>
 some (decide ((x1.length : Int) ≤ 60))) fun j224 =>
 (impl_MapOk_l1 N x1 N 0).bind (Sum.elim (fun v246 => some v246) (fun (v247 : Unit) => j224 ()))
theorem sem_impl_MapOk (N : Nat) (x1 : (List Pair)) (r : Bool) (h : impl_MapOk N x1 = some r) : Says Tryz.prog 49 [RO 50 (x1.map encPair)] 0 [] (VB r) [] := by
 unfold impl_MapOk at h
 refine Says.of_norm e Tryz.call49 e fun B hB => ?_
 have hm : B.m ≤ 1000 := by omega
 refine Run.so hm (.p e (.nil (.seqO h (fun v224 => [(0,RO 50 (x1.map encPair))]) (fun (v224 : Unit) => []) (fun h => ?_) (fun v224 h => ?_))))
 ·refine Run.so hm (.p e (.z 5112 (Ev.lnF e) e e (.p e (.nil (.block ?_)))))
  obtain ⟨res247,h,hk247⟩ := bindO h
  refine Run.loop (n := N) (fun m247 fr σ => ∃ (x228 : Int),impl_MapOk_l1 N x1 m247 x228 = some res247 ∧ fr = [(0,RO 50 (x1.map encPair)),(5,RO 50 (x1.map encPair)),(6,VI (x1.length : Int)),(7,VI x228)] ∧ σ = []) (gh_pk [0,5,6,7] [] hB e e e e) ⟨_,h,e,e⟩ ?_
  rintro m247 fr σ ⟨x228,h,rfl,rfl⟩
  obtain _ | m247 := m247
  ·rw [impl_MapOk_l1] at h; cases h
  rw [impl_MapOk_l1] at h
  refine Run.so hm (.p e (.nil (.seq (.condO e h (fun g250 h => ?_) (fun g250 h => ?_)))))
  ·refine Run.skip (.seq (.block (.so hm (.p e ?_))))
   obtain ⟨x254,hx254,h⟩ := bindO h
   refine Ops.z 13304 (Ev.iaF e e hx254) e e (.p e (.z 13336 (.al e e) e e (.p e (.y 13368 (.sto e e e e e e) e e (.nil (.seq (.draw hm hmix (.p e (.p e ?_)))))))))
   obtain ⟨y260,hy260,h⟩ := bindO h
   refine OpsD.z 17416 (Ev.call [] [] 0 (sem_impl_keyOk _ _ _ hy260) e e (.d1 .nil) e (.inl e) e e) e e (.p e (.p e (.askO (x := .t 16) e h (fun g261 h => ?_) (fun g261 h => ?_))))
   ·refine OpsD.gn e g261 (.gn e g261 (.gn e g261 (.gn e g261 (.z 17528 (.pkT e g261 e) e e (.p e (.gn e e (.gn e e (.gn e e (.gu e (.gu e (.gu e (.gu e (.gu e (.gu e (.gu e (.gu e (.gu e (.gn e e (.z 17768 (.pkT e e e) e e (.nil ⟨by kernel_rfl,?_⟩))))))))))))))))))))
    refine Run.condT e e (.so hm (.p e (.nil (.ret ?_))))
    obtain rfl := someO h
    have h := hk247
    replace h := inlO h
    obtain rfl := someO h
    exact Ends.mkG (.inl e) e (gh_pk [0] [] hB e e e e) e e
   ·refine OpsD.gp e g261 e (.gp e g261 e (.gp e g261 e (.gp e g261 e (.z 17528 (.pkF e g261 e) e e (.p e (.askO (x := .t 22) e h (fun g262 h => ?_) (fun g262 h => ?_)))))))
    ·refine OpsD.gn e g262 (.gn e g262 (.gn e g262 (.gu e (.gu e (.gu e (.gu e (.gu e (.gu e (.gu e (.gu e (.gu e (.gn e g262 (.z 17768 (.pkT e g262 e) e e (.nil ⟨by kernel_rfl,?_⟩))))))))))))))
     refine Run.condT e e (.so hm (.p e (.nil (.ret ?_))))
     obtain rfl := someO h
     have h := hk247
     replace h := inlO h
     obtain rfl := someO h
     exact Ends.mkG (.inl e) e (gh_pk [0] [] hB e e e e) e e
    ·refine OpsD.gp e g262 e (.gp e g262 e (.gp e g262 e (.askO (x := .t 25) e h (fun g263 h => ?_) (fun g263 h => ?_))))
     ·refine OpsD.gp e g263 e (.gp e g263 e (.gp e g263 e ?_))
      obtain ⟨x264,hx264,h⟩ := bindO h
      refine OpsD.gs (s := 17656) e g263 (Ev.iaF e e hx264) e e (.gp e g263 e (.gp e g263 e (.gp e g263 e (.gp e g263 e (.gp e g263 e (.gs (s := 17752) e g262 (.pkT e g263 e) e e (.z 17768 (.pkF e g262 e) e e (.nil ⟨by kernel_rfl,?_⟩))))))))
      refine Run.condO e h (fun g265 h => ?_) (fun g265 h => ?_)
      ·refine Run.so hm (.p e (.nil (.ret ?_)))
       obtain rfl := someO h
       have h := hk247
       replace h := inlO h
       obtain rfl := someO h
       exact Ends.mkG (.inl e) e (gh_pk [0] [] hB e e e e) e e
      ·exact Run.skip (.ops hm (.p2 e e (.nil (⟨m247,Nat.lt_succ_self m247,_,_,(gh_pk [0,5,6,7] [] hB e e e e),_,h,e,e⟩))))
     ·refine OpsD.gn e g263 (.gn e g263 (.gn e g263 (.gn e g263 (.gn e g263 (.gn e g263 (.gn e g263 (.gn e g263 (.gn e g263 (.gs (s := 17752) e g262 (.pkF e g263 e) e e (.z 17768 (.pkF e g262 e) e e (.nil ⟨by kernel_rfl,?_⟩)))))))))))
      exact Run.condF e e (.skip (.ops hm (.p2 e e (.nil (⟨m247,Nat.lt_succ_self m247,_,_,(gh_pk [0,5,6,7] [] hB e e e e),_,h,e,e⟩)))))
  ·refine Run.exit ?_
   obtain rfl := someO h
   have h := hk247
   replace h := inrO h
   exact ⟨_,_,(gh_pk [0] [] hB e e e e),(),h,e,e⟩
 ·refine Run.so hm (.p e (.z 29688 (Ev.lnF e) e e (.p2 e e (.nil (.ret ?_)))))
  obtain rfl := someO h
  exact Ends.mkG (.inl e) e (gh_pk [0] [] hB e e e e) e e
def strings_Compare (N : Nat) (x1 : ByteArray) (x2 : ByteArray) : Option (Int) := some (Lib.compareBytes x1.data.toList x2.data.toList)
theorem sem_strings_Compare (N : Nat) (x1 : ByteArray) (x2 : ByteArray) (r : Int) (h : strings_Compare N x1 x2 = some r) : Says Tryz.prog 90 [VS x1,VS x2] 0 [] (VI r) [] := says_compare Tryz.call90 Go.Proofs.Tryz.strings_Compare h
def impl_pairNo_1 (N : Nat) (x1 : Pair) (x2 : ByteArray) : Option (Int) :=
 (strings_Compare N x1.Key x2).bind fun y103 =>
 some y103
theorem sem_impl_pairNo_1 (N : Nat) (x1 : Pair) (x2 : ByteArray) (r : Int) (h : impl_pairNo_1 N x1 x2 = some r) : Says Tryz.prog 89 [.agg [VS x1.Key,VS x1.Value],VS x2] 0 [] (VI r) [] := by
 unfold impl_pairNo_1 at h
 refine Says.of_norm e Tryz.call89 e fun B hB => ?_
 have hm : B.m ≤ 1000 := by omega
 refine Run.so hm (.z 1000 (.bx e e) e e (.p e (.nil (.so hm (.p3 e e e ?_)))))
 obtain ⟨y103,hy103,h⟩ := bindO h
 refine Ops.z 5144 (Ev.call [] [] 0 (sem_strings_Compare _ _ _ _ hy103) e e (.d2 .nil) e (.inl e) e e) e e (.p e (.nil (.ret ?_)))
 obtain rfl := someO h
 exact Ends.mkG (.inl e) e (gh_pk [0] [] hB e e e e) e e
def slices_BinarySearchFunc_string_l1 (N : Nat) (x1 : (List Pair)) (x2 : ByteArray) : Nat → Int → Int → Option (Int)
 | 0,_,_ => none
 | m + 1,x198,x199 =>
 (if (decide (x198 < x199)) = true then
 (intSh .shr .u64 (IntKind.wrap .u64 (w64 (x198 + x199))) 1).bind fun x218 =>
 (at? x1 (w64 (x218))).bind fun x221 =>
 (impl_pairNo_1 N x221 x2).bind fun y222 =>
 (if (decide (y222 < 0)) = true then
 slices_BinarySearchFunc_string_l1 N x1 x2 m (w64 ((w64 (x218)) + 1)) x199
 else
 slices_BinarySearchFunc_string_l1 N x1 x2 m x198 (w64 (x218)))
 else
 some x198)
def slices_BinarySearchFunc_string (N : Nat) (x1 : (List Pair)) (x2 : ByteArray) : Option (Int × Bool) :=
 joinP (fun (v194 : Int) =>
 (if (decide (v194 < (x1.length : Int))) = true then
 (at? x1 v194).bind fun x228 =>
 (impl_pairNo_1 N x228 x2).bind fun y229 =>
 some (v194,(y229 == 0))
 else
 some (v194,false))) fun j194 =>
 (slices_BinarySearchFunc_string_l1 N x1 x2 N 0 (x1.length : Int)).bind (fun v211 => j194 v211)
theorem sem_slices_BinarySearchFunc_string (N : Nat) (x1 : (List Pair)) (x2 : ByteArray) (r : Int × Bool) (h : slices_BinarySearchFunc_string N x1 x2 = some r) : Says Tryz.prog 88 [RO 50 (x1.map encPair),VS x2,.fn 89 []] 0 [] (.tup [VI r.1,VB r.2]) [] := by
 unfold slices_BinarySearchFunc_string at h
 refine Says.of_norm e Tryz.call88 e fun B hB => ?_
 have hm : B.m ≤ 1000 := by omega
 refine Run.so hm (.p2 e e (.nil (.so hm (.p e (.z 5112 (Ev.lnF e) e e (.p e (.nil (.so hm (.p3 e e e (.nil (.seqO h (fun v194 => [(0,RO 50 (x1.map encPair)),(1,VS x2),(2,.fn 89 []),(8,VI (x1.length : Int)),(9,VI v194)]) (fun (v194 : Int) => []) (fun h => ?_) (fun v194 h => ?_))))))))))))
 ·refine Run.block ?_
  obtain ⟨res211,h,hk211⟩ := bindO h
  refine Run.loop (n := N) (fun m211 fr σ => ∃ (x198 : Int),∃ (x199 : Int),slices_BinarySearchFunc_string_l1 N x1 x2 m211 x198 x199 = some res211 ∧ fr = [(0,RO 50 (x1.map encPair)),(1,VS x2),(2,.fn 89 []),(8,VI (x1.length : Int)),(9,VI x198),(10,VI x199)] ∧ σ = []) (gh_pk [0,1,2,8,9,10] [] hB e e e e) ⟨_,_,h,e,e⟩ ?_
  rintro m211 fr σ ⟨x198,x199,h,rfl,rfl⟩
  obtain _ | m211 := m211
  ·rw [slices_BinarySearchFunc_string_l1] at h; cases h
  rw [slices_BinarySearchFunc_string_l1] at h
  refine Run.seq (.so hm (.p3 e e e (.nil (.condO e h (fun g214 h => ?_) (fun g214 h => ?_)))))
  ·refine Run.skip (.block (.so hm (.p3 e e e (.p e ?_))))
   obtain ⟨x218,hx218,h⟩ := bindO h
   refine Ops.z 17448 (.sh e e hx218) e e (.p2 e e (.nil (.so hm (.p3 e e e ?_))))
   obtain ⟨x221,hx221,h⟩ := bindO h
   refine Ops.z 21528 (Ev.iaF e e hx221) e e (.p2 e e ?_)
   obtain ⟨y222,hy222,h⟩ := bindO h
   refine Ops.z 21576 (Ev.callx [] [] 0 e (sem_impl_pairNo_1 _ _ _ _ hy222) e e (.cons (.agg (.d2 .nil)) (.d1 .nil)) e (.inl e) e e) e e (.p e (.nil (.condO e h (fun g223 h => ?_) (fun g223 h => ?_))))
   ·exact Run.ops hm (.p3 e e e (.nil (⟨m211,Nat.lt_succ_self m211,_,_,(gh_pk [0,1,2,8,9,10] [] hB e e e e),_,_,h,e,e⟩)))
   ·exact Run.ops hm (.p2 e e (.nil (⟨m211,Nat.lt_succ_self m211,_,_,(gh_pk [0,1,2,8,9,10] [] hB e e e e),_,_,h,e,e⟩)))
  ·refine Run.exit ?_
   obtain rfl := someO h
   have h := hk211
   exact ⟨_,_,(gh_pk [0,1,2,8,9] [] hB e e e e),_,h,e,e⟩
 ·refine Run.so hm (.p3 e e e (.p2 e e (.askO (x := .t 39) e h (fun g227 h => ?_) (fun g227 h => ?_))))
  ·refine Ops.gp e g227 e (.gp e g227 e (.gp e g227 e ?_))
   obtain ⟨x228,hx228,h⟩ := bindO h
   refine Ops.gs (s := 33896) e g227 (Ev.iaF e e hx228) e e (.gp e g227 e (.gp e g227 e ?_))
   obtain ⟨y229,hy229,h⟩ := bindO h
   refine Ops.gs (s := 33944) e g227 (Ev.callx [] [] 0 e (sem_impl_pairNo_1 _ _ _ _ hy229) e e (.cons (.agg (.d2 .nil)) (.d1 .nil)) e (.inl e) e e) e e (.gp e g227 e (.z 33976 (.pkT e g227 e) e e (.p2 e e (.nil (.ret ?_)))))
   obtain rfl := someO h
   exact Ends.mkG (.inl e) e (gh_pk [0,1] [] hB e e e e) e e
  ·refine Ops.gn e g227 (.gn e g227 (.gn e g227 (.gn e g227 (.gn e g227 (.gn e g227 (.gn e g227 (.gn e g227 (.z 33976 (.pkF e g227 e) e e (.p2 e e (.nil (.ret ?_)))))))))))
   obtain rfl := someO h
   exact Ends.mkG (.inl e) e (gh_pk [0,1] [] hB e e e e) e e
def impl_pairNo (N : Nat) (x1 : (List Pair)) (x2 : ByteArray) : Option (Int × Bool) :=
 (slices_BinarySearchFunc_string N x1 x2).bind fun y103 =>
 some (y103.1,y103.2)
theorem sem_impl_pairNo (N : Nat) (x1 : (List Pair)) (x2 : ByteArray) (r : Int × Bool) (h : impl_pairNo N x1 x2 = some r) : Says Tryz.prog 76 [RO 50 (x1.map encPair),VS x2] 0 [] (.tup [VI r.1,VB r.2]) [] := by
 unfold impl_pairNo at h
 refine Says.of_norm e Tryz.call76 e fun B hB => ?_
 have hm : B.m ≤ 1000 := by omega
 refine Run.so hm (.p2 e e (.nil (.so hm (.p2 e e ?_))))
 obtain ⟨y103,hy103,h⟩ := bindO h
 refine Ops.z 5128 (Ev.call [] [] 0 (sem_slices_BinarySearchFunc_string _ _ _ _ hy103) e e (.d2 (.cons (.fn .nil) .nil)) e (.inl e) e e) e e (.p3 e e e (.p e (.nil (.ret ?_))))
 obtain rfl := someO h
 exact Ends.mkG (.inl e) e (gh_pk [0,1] [] hB e e e e) e e
def cmp_isNaN_int (N : Nat) (x1 : Int) : Option (Bool) :=
 some (x1 != x1)
theorem sem_cmp_isNaN_int (N : Nat) (x1 : Int) (r : Bool) (h : cmp_isNaN_int N x1 = some r) : Says Tryz.prog 91 [VI x1] 0 [] (VB r) [] := by
 unfold cmp_isNaN_int at h
 refine Says.of_norm e Tryz.call91 e fun B hB => ?_
 have hm : B.m ≤ 1000 := by omega
 refine Run.so hm (.p e (.nil (.so hm (.p3 e e e (.p e (.nil (.ret ?_)))))))
 obtain rfl := someO h
 exact Ends.mkG (.inl e) e (gh_pk [0] [] hB e e e e) e e
def cmp_Compare_int (N : Nat) (x1 : Int) (x2 : Int) : Option (Int) :=
 (cmp_isNaN_int N x1).bind fun y120 =>
 (cmp_isNaN_int N x2).bind fun y124 =>
 (if y120 = true then
 (if y124 = true then
 some 0
 else
 some (-1 : Int))
 else
 (if y124 = true then
 some 1
 else
 (if (decide (x1 < x2)) = true then
 some (-1 : Int)
 else
 (if (decide (x1 > x2)) = true then
 some 1
 else
 some 0))))
theorem sem_cmp_Compare_int (N : Nat) (x1 : Int) (x2 : Int) (r : Int) (h : cmp_Compare_int N x1 x2 = some r) : Says Tryz.prog 80 [VI x1,VI x2] 0 [] (VI r) [] := by
 unfold cmp_Compare_int at h
 refine Says.of_norm e Tryz.call80 e fun B hB => ?_
 have hm : B.m ≤ 1000 := by omega
 refine Run.so hm (.p e (.nil (.so hm (.p e ?_))))
 obtain ⟨y120,hy120,h⟩ := bindO h
 refine Ops.z 5112 (Ev.call [] [] 0 (sem_cmp_isNaN_int _ _ _ hy120) e e (.d1 .nil) e (.inl e) e e) e e (.p e (.nil (.so hm (.p e ?_))))
 obtain ⟨y124,hy124,h⟩ := bindO h
 refine Ops.z 9208 (Ev.call [] [] 0 (sem_cmp_isNaN_int _ _ _ hy124) e e (.d1 .nil) e (.inl e) e e) e e (.p e (.nil (.seq (.so hm (.p e (.nil (.condO e h (fun g127 h => ?_) (fun g127 h => ?_))))))))
 ·refine Run.seq (.so hm (.p e (.nil (.condO e h (fun g128 h => ?_) (fun g128 h => ?_)))))
  ·refine Run.so hm (.p e (.nil (.ret ?_)))
   obtain rfl := someO h
   exact Ends.mkG (.inl e) e (gh_pk [0] [] hB e e e e) e e
  ·refine Run.skip (.so hm (.p e (.nil (.ret ?_))))
   obtain rfl := someO h
   exact Ends.mkG (.inl e) e (gh_pk [0] [] hB e e e e) e e
 ·refine Run.skip (.seq (.so hm (.p e (.nil (.condO e h (fun g130 h => ?_) (fun g130 h => ?_))))))
  ·refine Run.so hm (.p e (.nil (.ret ?_)))
   obtain rfl := someO h
   exact Ends.mkG (.inl e) e (gh_pk [0] [] hB e e e e) e e
  ·refine Run.skip (.seq (.so hm (.p3 e e e (.nil (.condO e h (fun g132 h => ?_) (fun g132 h => ?_))))))
   ·refine Run.so hm (.p e (.nil (.ret ?_)))
    obtain rfl := someO h
    exact Ends.mkG (.inl e) e (gh_pk [0] [] hB e e e e) e e
   ·refine Run.skip (.seq (.so hm (.p3 e e e (.nil (.condO e h (fun g133 h => ?_) (fun g133 h => ?_))))))
    ·refine Run.so hm (.p e (.nil (.ret ?_)))
     obtain rfl := someO h
     exact Ends.mkG (.inl e) e (gh_pk [0] [] hB e e e e) e e
    ·refine Run.skip (.so hm (.p e (.nil (.ret ?_))))
     obtain rfl := someO h
     exact Ends.mkG (.inl e) e (gh_pk [0] [] hB e e e e) e e
def cmp_Or_int_l1 (N : Nat) (x1 : (List Int)) : Nat → Int → Option ((Int) ⊕ (Unit))
 | 0,_ => none
 | m + 1,x168 =>
 (if (decide (x168 < (x1.length : Int))) = true then
 (at? x1 x168).bind fun x184 =>
 (if (x184 != 0) = true then
 some (Sum.inl x184)
 else
 cmp_Or_int_l1 N x1 m (w64 (x168 + 1)))
 else
 some (Sum.inr ()))
def cmp_Or_int_l1_r (N : Nat) (x1 : (List Int)) : (List Int) → Int → Option ((Int) ⊕ (Unit))
 | [],x168 =>
 some (Sum.inr ())
 | hd :: tl,x168 =>
 (some hd).bind fun x184 =>
 (if (x184 != 0) = true then
 some (Sum.inl x184)
 else
 cmp_Or_int_l1_r N x1 tl (w64 (x168 + 1)))
theorem cmp_Or_int_l1_rng (N : Nat) (x1 : (List Int)) (hx : x1.length ≤ 1099511627776) : ∀ (d k m : Nat),x1.length = k + d → d < m → cmp_Or_int_l1 N x1 m (k : Int) = cmp_Or_int_l1_r N x1 (x1.drop k) (k : Int) := by
 intro d
 induction d with
 | zero =>
  intro k m hd hm
  obtain ⟨m,rfl⟩ : ∃ q,m = q + 1 := ⟨m - 1,by omega⟩
  rw [cmp_Or_int_l1,if_neg (by simp; omega),List.drop_eq_nil_of_le (by omega),cmp_Or_int_l1_r]
 | succ d ih =>
  intro k m hd hm
  obtain ⟨m,rfl⟩ : ∃ q,m = q + 1 := ⟨m - 1,by omega⟩
  have hk : k < x1.length := by omega
  rw [cmp_Or_int_l1,if_pos (by simp; omega),List.drop_eq_getElem_cons hk,cmp_Or_int_l1_r]
  have h1 := at_lt hk
  have h2 := w64_succ (k := k) (by omega)
  have h3 := ih (k + 1) m
  simp only [h1,h2,h3 (by omega) (by omega)]
theorem cmp_Or_int_l1_eq {N : Nat} (x1 : (List Int)) (hx : x1.length ≤ 1099511627776) (hN : x1.length < N) : cmp_Or_int_l1 N x1 N 0 = cmp_Or_int_l1_r N x1 x1 0 := cmp_Or_int_l1_rng N x1 hx x1.length 0 N (by omega) hN
def cmp_Or_int (N : Nat) (x1 : (List Int)) : Option (Int) :=
 joinP (fun (v164 : Unit) =>
 some 0) fun j164 =>
 (cmp_Or_int_l1 N x1 N 0).bind (Sum.elim (fun v176 => some v176) (fun (v177 : Unit) => j164 ()))
theorem sem_cmp_Or_int (N : Nat) (x1 : (List Int)) (r : Int) (h : cmp_Or_int N x1 = some r) : Says Tryz.prog 79 [RO 3 (x1.map encI)] 0 [] (VI r) [] := by
 unfold cmp_Or_int at h
 refine Says.of_norm e Tryz.call79 e fun B hB => ?_
 have hm : B.m ≤ 1000 := by omega
 refine Run.so hm (.p e (.nil (.so hm (.p e (.nil (.seqO h (fun v164 => [(3,VI 0)]) (fun (v164 : Unit) => []) (fun h => ?_) (fun v164 h => ?_)))))))
 ·refine Run.so hm (.p e (.z 9208 (Ev.lnF e) e e (.p e (.nil (.block ?_)))))
  obtain ⟨res177,h,hk177⟩ := bindO h
  refine Run.loop (n := N) (fun m177 fr σ => ∃ (x168 : Int),cmp_Or_int_l1 N x1 m177 x168 = some res177 ∧ fr = [(3,VI 0),(6,RO 3 (x1.map encI)),(7,VI (x1.length : Int)),(8,VI x168)] ∧ σ = []) (gh_pk [3,6,7,8] [] hB e e e e) ⟨_,h,e,e⟩ ?_
  rintro m177 fr σ ⟨x168,h,rfl,rfl⟩
  obtain _ | m177 := m177
  ·rw [cmp_Or_int_l1] at h; cases h
  rw [cmp_Or_int_l1] at h
  refine Run.so hm (.p e (.nil (.seq (.condO e h (fun g180 h => ?_) (fun g180 h => ?_)))))
  ·refine Run.skip (.seq (.block (.so hm ?_)))
   obtain ⟨x184,hx184,h⟩ := bindO h
   refine Ops.z 17384 (Ev.iaF e e hx184) e e (.p2 e e (.nil (.so hm (.p3 e e e (.nil (.condO e h (fun g185 h => ?_) (fun g185 h => ?_)))))))
   ·refine Run.so hm (.p2 e e (.nil (.ret ?_)))
    obtain rfl := someO h
    have h := hk177
    replace h := inlO h
    obtain rfl := someO h
    exact Ends.mkG (.inl e) e (gh_pk [0] [] hB e e e e) e e
   ·exact Run.skip (.ops hm (.p2 e e (.nil (⟨m177,Nat.lt_succ_self m177,_,_,(gh_pk [3,6,7,8] [] hB e e e e),_,h,e,e⟩))))
  ·refine Run.exit ?_
   obtain rfl := someO h
   have h := hk177
   replace h := inrO h
   exact ⟨_,_,(gh_pk [3] [] hB e e e e),(),h,e,e⟩
 ·refine Run.so hm (.p2 e e (.nil (.ret ?_)))
  obtain rfl := someO h
  exact Ends.mkG (.inl e) e (gh_pk [0] [] hB e e e e) e e
def impl_opened_1 (N : Nat) (x1 : Tsession) (x2 : Tsession) : Option (Int) :=
 (cmp_Compare_int N x1.index x2.index).bind fun y109 =>
 (cmp_Compare_int N x1.number x2.number).bind fun y110 =>
 (cmp_Or_int N ([y109,y110] : List Int)).bind fun y111 =>
 some y111
theorem sem_impl_opened_1 (N : Nat) (x1 : Tsession) (x2 : Tsession) (r : Int) (h : impl_opened_1 N x1 x2 = some r) : Says Tryz.prog 78 [.agg [VI x1.number,VI x1.seq,VI x1.index,VS x1.reply],.agg [VI x2.number,VI x2.seq,VI x2.index,VS x2.reply]] 0 [] (VI r) [] := by
 unfold impl_opened_1 at h
 refine Says.of_norm e Tryz.call78 e fun B hB => ?_
 have hm : B.m ≤ 1000 := by omega
 refine Run.so hm (.z 1000 (.bx e e) e e (.z 1016 (.bx e e) e e (.p e (.nil (.seq (.draw hm hmix (.p e (.p e (.p e (.p e ?_))))))))))
 obtain ⟨y109,hy109,h⟩ := bindO h
 refine OpsD.z 5160 (Ev.call [] [] 0 (sem_cmp_Compare_int _ _ _ _ hy109) e e (.d2 .nil) e (.inl e) e e) e e (.p e (.p e (.p e (.p e ?_))))
 obtain ⟨y110,hy110,h⟩ := bindO h
 refine OpsD.z 5240 (Ev.call [] [] 0 (sem_cmp_Compare_int _ _ _ _ hy110) e e (.d2 .nil) e (.inl e) e e) e e (.z 5256 (Ev.bsW (ys := ([y109,y110] : List Int)) (f := encI) e (.d2 .nil) e e e e e) e e ?_)
 obtain ⟨y111,hy111,h⟩ := bindO h
 refine OpsD.z 5272 (Ev.call [] [5256] 0 (sem_cmp_Or_int _ _ _ hy111) e e (.cons (.borrow e (by decide) (lendW (fun _ => e) _ e)) .nil) e (.inr ⟨e,ownL_root trivial⟩) e e) e e ?_
 refine OpsD.p e (.nil ⟨by kernel_rfl,?_⟩)
 refine Run.ret ?_
 obtain rfl := someO h
 exact Ends.mkG (.inl e) e (gh_pk [0] [] hB e e e e) e e
def slices_MinFunc_session_l1 (N : Nat) (x1 : (List Tsession)) : Nat → Int → Int → Int → Int → ByteArray → Option (Int × Int × Int × ByteArray)
 | 0,_,_,_,_,_ => none
 | m + 1,x253,x258,x259,x260,x261 =>
 (if (decide (x253 < (x1.length : Int))) = true then
 joinP (fun (v290 : Int × Int × Int × ByteArray) =>
 slices_MinFunc_session_l1 N x1 m (w64 (x253 + 1)) v290.1 v290.2.1 v290.2.2.1 v290.2.2.2) fun j290 =>
 (at? x1 x253).bind fun x293 =>
 (impl_opened_1 N x293 (Tsession.mk x258 x259 x260 x261)).bind fun y294 =>
 (if (decide (y294 < 0)) = true then
 (at? x1 x253).bind fun x297 =>
 j290 (x297.number,x297.seq,x297.index,x297.reply)
 else
 j290 (x258,x259,x260,x261))
 else
 some (x258,x259,x260,x261))
def slices_MinFunc_session_l1_r (N : Nat) (x1 : (List Tsession)) : (List Tsession) → Int → Int → Int → Int → ByteArray → Option (Int × Int × Int × ByteArray)
 | [],x253,x258,x259,x260,x261 =>
 some (x258,x259,x260,x261)
 | hd :: tl,x253,x258,x259,x260,x261 =>
 joinP (fun (v290 : Int × Int × Int × ByteArray) =>
 slices_MinFunc_session_l1_r N x1 tl (w64 (x253 + 1)) v290.1 v290.2.1 v290.2.2.1 v290.2.2.2) fun j290 =>
 (some hd).bind fun x293 =>
 (impl_opened_1 N x293 (Tsession.mk x258 x259 x260 x261)).bind fun y294 =>
 (if (decide (y294 < 0)) = true then
 (some hd).bind fun x297 =>
 j290 (x297.number,x297.seq,x297.index,x297.reply)
 else
 j290 (x258,x259,x260,x261))
theorem slices_MinFunc_session_l1_rng (N : Nat) (x1 : (List Tsession)) (hx : x1.length ≤ 1099511627776) : ∀ (d k m : Nat) (x258 : Int) (x259 : Int) (x260 : Int) (x261 : ByteArray),x1.length = k + d → d < m → slices_MinFunc_session_l1 N x1 m (k : Int) x258 x259 x260 x261 = slices_MinFunc_session_l1_r N x1 (x1.drop k) (k : Int) x258 x259 x260 x261 := by
 intro d
 induction d with
 | zero =>
  intro k m x258 x259 x260 x261 hd hm
  obtain ⟨m,rfl⟩ : ∃ q,m = q + 1 := ⟨m - 1,by omega⟩
  rw [slices_MinFunc_session_l1,if_neg (by simp; omega),List.drop_eq_nil_of_le (by omega),slices_MinFunc_session_l1_r]
 | succ d ih =>
  intro k m x258 x259 x260 x261 hd hm
  obtain ⟨m,rfl⟩ : ∃ q,m = q + 1 := ⟨m - 1,by omega⟩
  have hk : k < x1.length := by omega
  rw [slices_MinFunc_session_l1,if_pos (by simp; omega),List.drop_eq_getElem_cons hk,slices_MinFunc_session_l1_r]
  have h1 := at_lt hk
  have h2 := w64_succ (k := k) (by omega)
  have h3 := ih (k + 1) m
  simp only [h1,h2,h3 _ _ _ _ (by omega) (by omega)]
theorem slices_MinFunc_session_l1_eq {N : Nat} (x1 : (List Tsession)) (hx : x1.length ≤ 1099511627776) (hN : x1.length < N) (x258 : Int) (x259 : Int) (x260 : Int) (x261 : ByteArray) : slices_MinFunc_session_l1 N x1 N 0 x258 x259 x260 x261 = slices_MinFunc_session_l1_r N x1 x1 0 x258 x259 x260 x261 := slices_MinFunc_session_l1_rng N x1 hx x1.length 0 N x258 x259 x260 x261 (by omega) hN
def slices_MinFunc_session (N : Nat) (x1 : (List Tsession)) : Option (Tsession) :=
 (if (decide ((x1.length : Int) < 1)) = true then
 none
 else
 (at? x1 0).bind fun x204 =>
 joinP (fun (v251 : Int × Int × Int × ByteArray) =>
 some (Tsession.mk v251.1 v251.2.1 v251.2.2.1 v251.2.2.2)) fun j251 =>
 (slices_MinFunc_session_l1 N x1 N 1 x204.number x204.seq x204.index x204.reply).bind (fun v279 => j251 (v279.1,v279.2.1,v279.2.2.1,v279.2.2.2)))
theorem sem_slices_MinFunc_session (N : Nat) (x1 : (List Tsession)) (r : Tsession) (h : slices_MinFunc_session N x1 = some r) : Says Tryz.prog 77 [RO 107 (x1.map encTsession),.fn 78 []] 0 [] (.agg [VI r.number,VI r.seq,VI r.index,VS r.reply]) [] := by
 unfold slices_MinFunc_session at h
 refine Says.of_norm e Tryz.call77 e fun B hB => ?_
 have hm : B.m ≤ 1000 := by omega
 refine Run.so hm (.z 1000 (.al e e) e e (.nil (.seq (.so hm (.p e (.z 5112 (Ev.lnF e) e e (.p e (.nil (.condO e h (fun g200 h => ?_) (fun g200 h => ?_))))))))))
 ·exact Run.ops hm (noO h)
 ·refine Run.skip (.so hm (.p e ?_))
  obtain ⟨x204,hx204,h⟩ := bindO h
  refine Ops.z 13304 (Ev.iaF e e hx204) e e (.p e (.z 13336 (.al e e) e e (.y 13352 (.sto e e e e e e) e e (.nil (.seqO h (fun v251 => [(4,.ptr 0 0),(5,.ptr 1 0)]) (fun (v251 : Int × Int × Int × ByteArray) => [(0,.box [VI 0,VI 0,VI 0,VS (⟨#[]⟩ : ByteArray)]),(1,.box [VI v251.1,VI v251.2.1,VI v251.2.2.1,VS v251.2.2.2])]) (fun h => ?_) (fun v251 h => ?_))))))
  ·refine Run.so hm (.p e (.nil (.block ?_)))
   obtain ⟨res279,h,hk279⟩ := bindO h
   refine Run.loop (n := N) (fun m279 fr σ => ∃ (x253 : Int),∃ (x258 : Int),∃ (x259 : Int),∃ (x260 : Int),∃ (x261 : ByteArray),slices_MinFunc_session_l1 N x1 m279 x253 x258 x259 x260 x261 = some res279 ∧ fr = [(0,RO 107 (x1.map encTsession)),(1,.fn 78 []),(4,.ptr 0 0),(5,.ptr 1 0),(6,VI x253)] ∧ σ = [(0,.box [VI 0,VI 0,VI 0,VS (⟨#[]⟩ : ByteArray)]),(1,.box [VI x258,VI x259,VI x260,VS x261])]) (gh_pk [0,1,4,5,6] [1000,13336] hB e e e e) ⟨_,_,_,_,_,h,e,e⟩ ?_
   rintro m279 fr σ ⟨x253,x258,x259,x260,x261,h,rfl,rfl⟩
   obtain _ | m279 := m279
   ·rw [slices_MinFunc_session_l1] at h; cases h
   rw [slices_MinFunc_session_l1] at h
   refine Run.seq (.so hm (.p2 e e (.z 21512 (Ev.lnF e) e e (.p e (.nil (.condO e h (fun g282 h => ?_) (fun g282 h => ?_)))))))
   ·refine Run.skip (.seqO h (fun v290 => [(0,RO 107 (x1.map encTsession)),(1,.fn 78 []),(4,.ptr 0 0),(5,.ptr 1 0),(6,VI x253)]) (fun (v290 : Int × Int × Int × ByteArray) => [(0,.box [VI 0,VI 0,VI 0,VS (⟨#[]⟩ : ByteArray)]),(1,.box [VI v290.1,VI v290.2.1,VI v290.2.2.1,VS v290.2.2.2])]) (fun h => ?_) (fun v290 h => ?_))
    ·refine Run.block (.seq (.draw hm hmix (.p e (.p e (.p e ?_)))))
     obtain ⟨x293,hx293,h⟩ := bindO h
     refine OpsD.z 29720 (Ev.iaF e e hx293) e e (.p e (.p e ?_))
     obtain ⟨y294,hy294,h⟩ := bindO h
     refine OpsD.z 29768 (Ev.callx [] [] 0 e (sem_impl_opened_1 _ _ _ _ hy294) e e (.cons (.agg (.d4 .nil)) (.cons (.agg (.d4 .nil)) .nil)) e (.inl e) e e) e e (.p e (.nil ⟨by kernel_rfl,?_⟩))
     refine Run.condO e h (fun g295 h => ?_) (fun g295 h => ?_)
     ·refine Run.ops hm (.p2 e e ?_)
      obtain ⟨x297,hx297,h⟩ := bindO h
      exact Ops.z 33800 (Ev.iaF e e hx297) e e (.p e (.y 33832 (.sto e e e e e e) e e (.nil (⟨_,_,(gh_pk [0,1,4,5,6] [0,1] hB e e e e),_,h,e,e⟩))))
     ·exact Run.skip (⟨_,_,(gh_pk [0,1,4,5,6] [0,1] hB e e e e),_,h,e,e⟩)
    ·exact Run.ops hm (.p3 e e e (.nil (⟨m279,Nat.lt_succ_self m279,_,_,(gh_pk [0,1,4,5,6] [0,1] hB e e e e),_,_,_,_,_,h,e,e⟩)))
   ·refine Run.exit ?_
    obtain rfl := someO h
    have h := hk279
    exact ⟨_,_,(gh_pk [4,5] [0,1] hB e e e e),_,h,e,e⟩
  ·refine Run.so hm (.p e (.y 37880 (.sto e e e e e e) e e (.nil (.ret ?_))))
   obtain rfl := someO h
   exact Ends.mkG (.inl e) e (gh_pk [0] [] hB e e e e) e e
def strconv_Itoa (N : Nat) (x1 : Int) : Option (ByteArray) := itoa? x1
theorem sem_strconv_Itoa (N : Nat) (x1 : Int) (r : ByteArray) (h : strconv_Itoa N x1 = some r) : Says Tryz.prog 94 [VI x1] 0 [] (VS r) [] := says_itoa Tryz.call94 Go.Proofs.Tryz.strconv_Itoa (g := 5) (by kernel_rfl) (.head _) h
def impl_Decimal (N : Nat) (x1 : Int) : Option (ByteArray) :=
 (strconv_Itoa N x1).bind fun y103 =>
 some y103
theorem sem_impl_Decimal (N : Nat) (x1 : Int) (r : ByteArray) (h : impl_Decimal N x1 = some r) : Says Tryz.prog 84 [VI x1] 0 [] (VS r) [] := by
 unfold impl_Decimal at h
 refine Says.of_norm e Tryz.call84 e fun B hB => ?_
 have hm : B.m ≤ 1000 := by omega
 refine Run.so hm (.p e (.nil (.so hm (.p e ?_))))
 obtain ⟨y103,hy103,h⟩ := bindO h
 refine Ops.z 5112 (Ev.call [] [] 0 (sem_strconv_Itoa _ _ _ hy103) e e (.d1 .nil) e (.inl e) e e) e e (.p e (.nil (.ret ?_)))
 obtain rfl := someO h
 exact Ends.mkG (.inl e) e (gh_pk [0] [] hB e e e e) e e
def impl_sessionKey (N : Nat) (x1 : Int) : Option (ByteArray) :=
 (impl_Decimal N x1).bind fun y106 =>
 (scat? (⟨#[115]⟩ : ByteArray) y106).bind fun x107 =>
 some x107
theorem sem_impl_sessionKey (N : Nat) (x1 : Int) (r : ByteArray) (h : impl_sessionKey N x1 = some r) : Says Tryz.prog 82 [VI x1] 0 [] (VS r) [] := by
 unfold impl_sessionKey at h
 refine Says.of_norm e Tryz.call82 e fun B hB => ?_
 have hm : B.m ≤ 1000 := by omega
 refine Run.so hm (.p e (.nil (.so hm (.p e ?_))))
 obtain ⟨y106,hy106,h⟩ := bindO h
 refine Ops.z 5112 (Ev.call [] [] 0 (sem_impl_Decimal _ _ _ hy106) e e (.d1 .nil) e (.inl e) e e) e e ?_
 obtain ⟨x107,hx107,h⟩ := bindO h
 refine Ops.z 5128 (Ev.addS e e hx107) e e (.p e (.nil (.ret ?_)))
 obtain rfl := someO h
 exact Ends.mkG (.inl e) e (gh_pk [0] [] hB e e e e) e e
def slices_Delete_Pair (N : Nat) (x1 : (List Pair)) (x2 : Int) (x3 : Int) : Option ((List Pair)) := del? x1 x2 x3
theorem sem_slices_Delete_Pair (N : Nat) (x1 : (List Pair)) (x2 : Int) (x3 : Int) (r : (List Pair)) (h : slices_Delete_Pair N x1 x2 x3 = some r) : Says Tryz.prog 92 [.sl 0 50 0 x1.length,VI x2,VI x3] 1 [(0,.vec 50 (x1.map encPair))] (.sl 1 50 0 r.length) [(0,.gone),(1,.vec 50 (r.map encPair))] := says_del Tryz.call92 Pe.ins92 (fun _ => rfl) h
def impl_withoutKey (N : Nat) (x1 : (List Pair)) (x2 : ByteArray) : Option ((List Pair)) :=
 (cat? ([] : List Pair) x1).bind fun x121 =>
 (impl_pairNo N x1 x2).bind fun y132 =>
 (if y132.2 = true then
 (slices_Delete_Pair N x121 y132.1 (w64 (y132.1 + 1))).bind fun y135 =>
 some y135
 else
 some x121)
theorem sem_impl_withoutKey (N : Nat) (x1 : (List Pair)) (x2 : ByteArray) (r : (List Pair)) (h : impl_withoutKey N x1 x2 = some r) : Says Tryz.prog 81 [RO 50 (x1.map encPair),VS x2] 0 [] (.sl 0 50 0 r.length) [(0,.vec 50 (r.map encPair))] := by
 unfold impl_withoutKey at h
 refine Says.of_norm e Tryz.call81 e fun B hB => ?_
 have hm : B.m ≤ 1000 := by omega
 refine Run.so hm (.p e (.nil (.so hm (.p e ?_))))
 obtain ⟨x121,hx121,h⟩ := bindO h
 refine Ops.z 5112 (Ev.apW (f := encPair) (ontoN (f := encPair) e) (addsF e) e bt50 e hx121) e e (.p e (.nil (.seq (.so hm (.p2 e e ?_)))))
 obtain ⟨y132,hy132,h⟩ := bindO h
 refine Ops.z 9224 (Ev.call [] [] 0 (sem_impl_pairNo _ _ _ _ hy132) e e (.d2 .nil) e (.inl e) e e) e e (.p3 e e e (.p2 e e (.nil (.so hm (.p e (.nil (.condO e h (fun g133 h => ?_) (fun g133 h => ?_))))))))
 ·refine Run.so hm (.p3 e e e (.p e ?_))
  obtain ⟨y135,hy135,h⟩ := bindO h
  refine Ops.z 17448 (Ev.call [5112] [] 1 (sem_slices_Delete_Pair _ _ _ _ _ hy135) e e (.cons (.sl e) (.d2 .nil)) e (.inl e) e e) e e (.p e (.nil (.ret ?_)))
  obtain rfl := someO h
  exact Ends.mkG (.inl e) e (gh_pk [0] [17448] hB e e e e) e e
 ·refine Run.skip (.so hm (.p2 e e (.nil (.ret ?_))))
  obtain rfl := someO h
  exact Ends.mkG (.inl e) e (gh_pk [0] [5112] hB e e e e) e e
def slices_Insert_Pair (N : Nat) (x1 : (List Pair)) (x2 : Int) (x3 : (List Pair)) : Option ((List Pair)) := ins? x1 x2 x3
theorem sem_slices_Insert_Pair (N : Nat) (x1 : (List Pair)) (x2 : Int) (x3 : (List Pair)) (r : (List Pair)) (h : slices_Insert_Pair N x1 x2 x3 = some r) : Says Tryz.prog 93 [.sl 0 50 0 x1.length,VI x2,.sl 1 50 0 x3.length] 2 [(0,.vec 50 (x1.map encPair)),(1,.vec 50 (x3.map encPair))] (.sl 2 50 0 r.length) [(0,.gone),(1,.gone),(2,.vec 50 (r.map encPair))] := says_ins Tryz.call93 Pe.ins93 (fun _ => rfl) h
def impl_withKey (N : Nat) (x1 : (List Pair)) (x2 : ByteArray) (x3 : ByteArray) : Option ((List Pair)) :=
 (cat? ([] : List Pair) x1).bind fun x123 =>
 (impl_pairNo N x1 x2).bind fun y127 =>
 (if y127.2 = true then
 (at? x123 y127.1).bind fun x137 =>
 some (x123.set y127.1.toNat (Pair.mk x137.Key x3))
 else
 (slices_Insert_Pair N x123 y127.1 ([(Pair.mk x2 x3)] : List Pair)).bind fun y139 =>
 some y139)
theorem sem_impl_withKey (N : Nat) (x1 : (List Pair)) (x2 : ByteArray) (x3 : ByteArray) (r : (List Pair)) (h : impl_withKey N x1 x2 x3 = some r) : Says Tryz.prog 83 [RO 50 (x1.map encPair),VS x2,VS x3] 0 [] (.sl 0 50 0 r.length) [(0,.vec 50 (r.map encPair))] := by
 unfold impl_withKey at h
 refine Says.of_norm e Tryz.call83 e fun B hB => ?_
 have hm : B.m ≤ 1000 := by omega
 refine Run.so hm (.p e (.nil (.so hm (.p e ?_))))
 obtain ⟨x123,hx123,h⟩ := bindO h
 refine Ops.z 5112 (Ev.apW (f := encPair) (ontoN (f := encPair) e) (addsF e) e bt50 e hx123) e e (.p e (.nil (.so hm (.p2 e e ?_))))
 obtain ⟨y127,hy127,h⟩ := bindO h
 refine Ops.z 9224 (Ev.call [] [] 0 (sem_impl_pairNo _ _ _ _ hy127) e e (.d2 .nil) e (.inl e) e e) e e (.p3 e e e (.p2 e e (.nil (.seq (.so hm (.p e (.nil (.condO e h (fun g133 h => ?_) (fun g133 h => ?_)))))))))
 ·refine Run.so hm (.p3 e e e ?_)
  obtain ⟨x137,hx137,h⟩ := bindO h
  refine Ops.z 17432 (Ev.iaW e e e hx137) e e (.p e (.y 17464 (Ev.stE (f := encPair) (v' := (Pair.mk x137.Key x3)) e e (at_some hx137).2 e (.d1 .nil) e e e e e) e e (.nil (.so hm (.p2 e e (.nil (.ret ?_)))))))
  obtain rfl := someO h
  exact Ends.mkG (.inl e) e (gh_pk [0] [5112] hB e e e e) (by first | rfl | (simp only [List.length_set]; done) | (simp only [List.length_set]; rfl)) (by first | rfl | (simp only [List.length_set]; done) | (simp only [List.length_set]; rfl))
 ·refine Run.skip (.so hm (.p3 e e e (.p e (.z 25640 (.bd e e) e e (.z 25656 (Ev.bsW (ys := ([(Pair.mk x2 x3)] : List Pair)) (f := encPair) e (.d2 .nil) e e e e e) e e ?_)))))
  obtain ⟨y139,hy139,h⟩ := bindO h
  refine Ops.z 25672 (Ev.call [5112,25656] [] 1 (sem_slices_Insert_Pair _ _ _ _ _ hy139) e e (.cons (.sl e) (.d1 (.cons (.sl e) .nil))) e (.inl e) e e) e e (.p e (.nil (.ret ?_)))
  obtain rfl := someO h
  exact Ends.mkG (.inl e) e (gh_pk [0] [25672] hB e e e e) e e
def impl_withSession (N : Nat) (x1 : (List Pair)) (x2 : Tsession) : Option ((List Pair)) :=
 (impl_sessionKey N x2.number).bind fun y124 =>
 (impl_Decimal N x2.seq).bind fun y125 =>
 (scat? y125 (⟨#[32]⟩ : ByteArray)).bind fun x126 =>
 (impl_Decimal N x2.index).bind fun y127 =>
 (scat? x126 y127).bind fun x128 =>
 (scat? x128 (⟨#[32]⟩ : ByteArray)).bind fun x129 =>
 (scat? x129 x2.reply).bind fun x130 =>
 (impl_withKey N x1 y124 x130).bind fun y131 =>
 some y131
theorem sem_impl_withSession (N : Nat) (x1 : (List Pair)) (x2 : Tsession) (r : (List Pair)) (h : impl_withSession N x1 x2 = some r) : Says Tryz.prog 70 [RO 50 (x1.map encPair),.agg [VI x2.number,VI x2.seq,VI x2.index,VS x2.reply]] 0 [] (.sl 0 50 0 r.length) [(0,.vec 50 (r.map encPair))] := by
 unfold impl_withSession at h
 refine Says.of_norm e Tryz.call70 e fun B hB => ?_
 have hm : B.m ≤ 1000 := by omega
 refine Run.so hm (.z 1000 (.bx e e) e e (.p e (.nil (.seq (.draw hm hmix (.p e (.p e (.p e ?_))))))))
 obtain ⟨y124,hy124,h⟩ := bindO h
 refine OpsD.z 5144 (Ev.call [] [] 0 (sem_impl_sessionKey _ _ _ hy124) e e (.d1 .nil) e (.inl e) e e) e e (.p e (.p e ?_))
 obtain ⟨y125,hy125,h⟩ := bindO h
 refine OpsD.z 5192 (Ev.call [] [] 0 (sem_impl_Decimal _ _ _ hy125) e e (.d1 .nil) e (.inl e) e e) e e ?_
 obtain ⟨x126,hx126,h⟩ := bindO h
 refine OpsD.z 5208 (Ev.addS e e hx126) e e (.p e (.p e ?_))
 obtain ⟨y127,hy127,h⟩ := bindO h
 refine OpsD.z 5256 (Ev.call [] [] 0 (sem_impl_Decimal _ _ _ hy127) e e (.d1 .nil) e (.inl e) e e) e e ?_
 obtain ⟨x128,hx128,h⟩ := bindO h
 refine OpsD.z 5272 (Ev.addS e e hx128) e e ?_
 obtain ⟨x129,hx129,h⟩ := bindO h
 refine OpsD.z 5288 (Ev.addS e e hx129) e e (.p e (.p e ?_))
 obtain ⟨x130,hx130,h⟩ := bindO h
 refine OpsD.z 5336 (Ev.addS e e hx130) e e ?_
 obtain ⟨y131,hy131,h⟩ := bindO h
 refine OpsD.z 5352 (Ev.call [] [] 1 (sem_impl_withKey _ _ _ _ _ hy131) e e (.d2 (.d1 .nil)) e (.inl e) e e) e e (.p e (.nil ⟨by kernel_rfl,?_⟩))
 refine Run.ret ?_
 obtain rfl := someO h
 exact Ends.mkG (.inl e) e (gh_pk [0] [5352] hB e e e e) e e
def impl_opened (N : Nat) (x1 : (List Pair)) (x2 : Int) (x3 : (List Tsession)) : Option ((List Pair) × ByteArray × Bool) :=
 joinP (fun (v165 : Int × Bool) =>
 (if (!v165.2) = true then
 some ([],(⟨#[]⟩ : ByteArray),false)
 else
 joinP (fun (v186 : (List Pair)) =>
 (impl_withSession N v186 (Tsession.mk v165.1 0 x2 (⟨#[]⟩ : ByteArray))).bind fun y199 =>
 (impl_Decimal N (w64 (v165.1 + 1))).bind fun y206 =>
 (impl_withKey N y199 (⟨#[110]⟩ : ByteArray) y206).bind fun y207 =>
 (impl_Decimal N v165.1).bind fun y210 =>
 (scat? (⟨#[111,112,101,110,32]⟩ : ByteArray) y210).bind fun x211 =>
 some (y207,x211,true)) fun j186 =>
 (if (decide ((x3.length : Int) ≥ 3)) = true then
 (slices_MinFunc_session N x3).bind fun y191 =>
 (impl_sessionKey N y191.number).bind fun y194 =>
 (impl_withoutKey N x1 y194).bind fun y195 =>
 j186 y195
 else
 j186 x1))) fun j165 =>
 (impl_pairNo N x1 (⟨#[110]⟩ : ByteArray)).bind fun y169 =>
 (if y169.2 = true then
 (at? x1 y169.1).bind fun x173 =>
 (impl_ReadDecimal N x173.Value).bind fun y174 =>
 j165 (y174.1,y174.2)
 else
 j165 (1,true))
theorem sem_impl_opened (N : Nat) (x1 : (List Pair)) (x2 : Int) (x3 : (List Tsession)) (r : (List Pair) × ByteArray × Bool) (h : impl_opened N x1 x2 x3 = some r) : Says Tryz.prog 66 [RO 50 (x1.map encPair),VI x2,RO 107 (x3.map encTsession)] 0 [] (.tup [.sl 0 50 0 r.1.length,VS r.2.1,VB r.2.2]) [(0,.vec 50 (r.1.map encPair))] := by
 unfold impl_opened at h
 refine Says.of_norm e Tryz.call66 e fun B hB => ?_
 have hm : B.m ≤ 1000 := by omega
 refine Run.so hm (.p3 e e e (.nil (.so hm (.p2 e e (.nil (.seqO h (fun v165 => [(0,RO 50 (x1.map encPair)),(1,VI x2),(2,RO 107 (x3.map encTsession)),(9,VI v165.1),(10,VB v165.2)]) (fun (v165 : Int × Bool) => []) (fun h => ?_) (fun v165 h => ?_)))))))
 ·refine Run.so hm (.p e ?_)
  obtain ⟨y169,hy169,h⟩ := bindO h
  refine Ops.z 9208 (Ev.call [] [] 0 (sem_impl_pairNo _ _ _ _ hy169) e e (.d2 .nil) e (.inl e) e e) e e (.p3 e e e (.p2 e e (.nil (.so hm (.p e (.nil (.condO e h (fun g170 h => ?_) (fun g170 h => ?_))))))))
  ·refine Run.ops hm (.p2 e e ?_)
   obtain ⟨x173,hx173,h⟩ := bindO h
   refine Ops.z 17416 (Ev.iaF e e hx173) e e (.p2 e e ?_)
   obtain ⟨y174,hy174,h⟩ := bindO h
   exact Ops.z 17464 (Ev.call [] [] 0 (sem_impl_ReadDecimal _ _ _ hy174) e e (.d1 .nil) e (.inl e) e e) e e (.p3 e e e (.p2 e e (.nil (⟨_,_,(gh_pk [0,1,2,9,10] [] hB e e e e),_,h,e,e⟩))))
  ·exact Run.skip (⟨_,_,(gh_pk [0,1,2,9,10] [] hB e e e e),_,h,e,e⟩)
 ·refine Run.seq (.so hm (.p2 e e (.nil (.condO e h (fun g176 h => ?_) (fun g176 h => ?_)))))
  ·refine Run.so hm (.p3 e e e (.nil (.ret ?_)))
   obtain rfl := someO h
   exact Ends.mkG (.inl e) e (Gh.trans (Gh.trans (gh_prn [0,1,2] [] hB e) (gh_nil [0] [] hB e e e)) (gh_pk [0,1,2] [10000000] hB e e e e)) e e
  ·refine Run.skip (.so hm (.p2 e e (.nil (.seqO h (fun v186 => [(1,VI x2),(9,VI v165.1),(13,RO 50 (v186.map encPair))]) (fun (v186 : (List Pair)) => []) (fun h => ?_) (fun v186 h => ?_)))))
   ·refine Run.so hm (.p e (.z 33784 (Ev.lnF e) e e (.p e (.nil (.condO e h (fun g187 h => ?_) (fun g187 h => ?_))))))
    ·refine Run.so hm (.p e ?_)
     obtain ⟨y191,hy191,h⟩ := bindO h
     refine Ops.z 37880 (Ev.call [] [] 0 (sem_slices_MinFunc_session _ _ _ hy191) e e (.d1 (.cons (.fn .nil) .nil)) e (.inl e) e e) e e (.z 37896 (.al e e) e e (.y 37912 (.sto e e e e e e) e e (.nil (.ops hm (.p3 e e e ?_)))))
     obtain ⟨y194,hy194,h⟩ := bindO h
     refine Ops.z 42008 (Ev.call [] [] 0 (sem_impl_sessionKey _ _ _ hy194) e e (.d1 .nil) e (.inl e) e e) e e ?_
     obtain ⟨y195,hy195,h⟩ := bindO h
     exact Ops.z 42024 (Ev.call [] [] 1 (sem_impl_withoutKey _ _ _ _ hy195) e e (.d2 .nil) e (.inl e) e e) e e (.p e (.nil (⟨_,_,(Gh.trans (Gh.trans (Gh.trans ((Gh.frz (f := encPair) (g := encPair) (xs := y195) 42024 (fun _ => e) e)) (gh_prn [1,9,13] [42024] hB e)) (gh_ro [1,9,13] [] [42024] [13] e)) (gh_pk [1,9,13] [] hB e e (by first | rfl | (simp only [List.length_set,takeMap,List.drop_zero,List.map_nil]; done) | (simp only [List.length_set,takeMap,List.drop_zero,List.map_nil]; rfl)) (by first | rfl | (simp only [List.length_set,takeMap,List.drop_zero,List.map_nil]; done) | (simp only [List.length_set,takeMap,List.drop_zero,List.map_nil]; rfl)))),_,h,e,e⟩)))
    ·exact Run.skip (⟨_,_,(Gh.trans (Gh.trans (gh_prn [1,9,13] [] hB e) (gh_ro [1,9,13] [] [] [13] e)) (gh_pk [1,9,13] [] hB e e (by first | rfl | (simp only [List.length_set,takeMap,List.drop_zero,List.map_nil]; done) | (simp only [List.length_set,takeMap,List.drop_zero,List.map_nil]; rfl)) (by first | rfl | (simp only [List.length_set,takeMap,List.drop_zero,List.map_nil]; done) | (simp only [List.length_set,takeMap,List.drop_zero,List.map_nil]; rfl)))),_,h,e,e⟩)
   ·refine Run.so hm (.p3 e e e (.z 46104 (.bd e e) e e ?_))
    obtain ⟨y199,hy199,h⟩ := bindO h
    refine Ops.z 46120 (Ev.call [] [] 1 (sem_impl_withSession _ _ _ _ hy199) e e (.d1 (.cons (.agg (.d4 .nil)) .nil)) e (.inl e) e e) e e (.p e (.nil (.so hm (.p3 e e e ?_))))
    obtain ⟨y206,hy206,h⟩ := bindO h
    refine Ops.z 50200 (Ev.call [] [] 0 (sem_impl_Decimal _ _ _ hy206) e e (.d1 .nil) e (.inl e) e e) e e ?_
    obtain ⟨y207,hy207,h⟩ := bindO h
    refine Ops.z 50216 (Ev.call [] [46120] 1 (sem_impl_withKey _ _ _ _ _ hy207) e e (.cons (.borrow e (by decide) (lendW (fun _ => e) _ e)) (.d2 .nil)) e (.inr ⟨e,ownL_root ⟨own_rows (fun _ => e) _,trivial⟩⟩) e e) e e ?_
    refine Ops.p e (.nil (.so hm (.p2 e e ?_)))
    obtain ⟨y210,hy210,h⟩ := bindO h
    refine Ops.z 54280 (Ev.call [] [] 0 (sem_impl_Decimal _ _ _ hy210) e e (.d1 .nil) e (.inl e) e e) e e ?_
    obtain ⟨x211,hx211,h⟩ := bindO h
    refine Ops.z 54296 (Ev.addS e e hx211) e e (.p3 e e e (.nil (.ret ?_)))
    obtain rfl := someO h
    exact Ends.mkG (.inl e) e (gh_pk [0,1,2] [50216] hB e e e e) e e
def impl_acted_1 (N : Nat) (x1 : Tsession) (x2 : Command) : Option (Bool) :=
 some (x1.number == x2.Session)
theorem sem_impl_acted_1 (N : Nat) (x1 : Tsession) (x2 : Command) (r : Bool) (h : impl_acted_1 N x1 x2 = some r) : Says Tryz.prog 68 [.agg [VI x1.number,VI x1.seq,VI x1.index,VS x1.reply],.ptr 0 0] 1 [(0,.box [VI x2.Op,VI x2.Session,VI x2.Seq,VS x2.Key,VS x2.Value,VS x2.Old])] (VB r) [(0,.box [VI x2.Op,VI x2.Session,VI x2.Seq,VS x2.Key,VS x2.Value,VS x2.Old])] := by
 unfold impl_acted_1 at h
 refine Says.of_norm e Tryz.call68 e fun B hB => ?_
 have hm : B.m ≤ 1000 := by omega
 refine Run.so hm (.z 1000 (.bx e e) e e (.p e (.nil (.so hm (.p3 e e e (.p3 e e e (.nil (.ret ?_))))))))
 obtain rfl := someO h
 exact Ends.mkG (.inl e) e (gh_pk [0] [0] hB e e e e) e e
def slices_IndexFunc_session_l1 (N : Nat) (x1 : (List Tsession)) (x2 : Command) : Nat → Int → Option ((Int) ⊕ (Unit))
 | 0,_ => none
 | m + 1,x182 =>
 (if (decide (x182 < (x1.length : Int))) = true then
 (at? x1 x182).bind fun x203 =>
 (impl_acted_1 N x203 x2).bind fun y204 =>
 (if y204 = true then
 some (Sum.inl x182)
 else
 slices_IndexFunc_session_l1 N x1 x2 m (w64 (x182 + 1)))
 else
 some (Sum.inr ()))
def slices_IndexFunc_session_l1_r (N : Nat) (x1 : (List Tsession)) (x2 : Command) : (List Tsession) → Int → Option ((Int) ⊕ (Unit))
 | [],x182 =>
 some (Sum.inr ())
 | hd :: tl,x182 =>
 (some hd).bind fun x203 =>
 (impl_acted_1 N x203 x2).bind fun y204 =>
 (if y204 = true then
 some (Sum.inl x182)
 else
 slices_IndexFunc_session_l1_r N x1 x2 tl (w64 (x182 + 1)))
theorem slices_IndexFunc_session_l1_rng (N : Nat) (x1 : (List Tsession)) (x2 : Command) (hx : x1.length ≤ 1099511627776) : ∀ (d k m : Nat),x1.length = k + d → d < m → slices_IndexFunc_session_l1 N x1 x2 m (k : Int) = slices_IndexFunc_session_l1_r N x1 x2 (x1.drop k) (k : Int) := by
 intro d
 induction d with
 | zero =>
  intro k m hd hm
  obtain ⟨m,rfl⟩ : ∃ q,m = q + 1 := ⟨m - 1,by omega⟩
  rw [slices_IndexFunc_session_l1,if_neg (by simp; omega),List.drop_eq_nil_of_le (by omega),slices_IndexFunc_session_l1_r]
 | succ d ih =>
  intro k m hd hm
  obtain ⟨m,rfl⟩ : ∃ q,m = q + 1 := ⟨m - 1,by omega⟩
  have hk : k < x1.length := by omega
  rw [slices_IndexFunc_session_l1,if_pos (by simp; omega),List.drop_eq_getElem_cons hk,slices_IndexFunc_session_l1_r]
  have h1 := at_lt hk
  have h2 := w64_succ (k := k) (by omega)
  have h3 := ih (k + 1) m
  simp only [h1,h2,h3 (by omega) (by omega)]
theorem slices_IndexFunc_session_l1_eq {N : Nat} (x1 : (List Tsession)) (x2 : Command) (hx : x1.length ≤ 1099511627776) (hN : x1.length < N) : slices_IndexFunc_session_l1 N x1 x2 N 0 = slices_IndexFunc_session_l1_r N x1 x2 x1 0 := slices_IndexFunc_session_l1_rng N x1 x2 hx x1.length 0 N (by omega) hN
def slices_IndexFunc_session (N : Nat) (x1 : (List Tsession)) (x2 : Command) : Option (Int) :=
 joinP (fun (v179 : Unit) =>
 some (-1 : Int)) fun j179 =>
 (slices_IndexFunc_session_l1 N x1 x2 N 0).bind (Sum.elim (fun v196 => some v196) (fun (v197 : Unit) => j179 ()))
theorem sem_slices_IndexFunc_session (N : Nat) (x1 : (List Tsession)) (x2 : Command) (r : Int) (h : slices_IndexFunc_session N x1 x2 = some r) : Says Tryz.prog 67 [RO 107 (x1.map encTsession),.fn 68 [.ptr 0 0]] 1 [(0,.box [VI x2.Op,VI x2.Session,VI x2.Seq,VS x2.Key,VS x2.Value,VS x2.Old])] (VI r) [(0,.box [VI x2.Op,VI x2.Session,VI x2.Seq,VS x2.Key,VS x2.Value,VS x2.Old])] := by
 unfold slices_IndexFunc_session at h
 refine Says.of_norm e Tryz.call67 e fun B hB => ?_
 have hm : B.m ≤ 1000 := by omega
 refine Run.so hm (.p e (.nil (.seqO h (fun v179 => []) (fun (v179 : Unit) => [(0,.box [VI x2.Op,VI x2.Session,VI x2.Seq,VS x2.Key,VS x2.Value,VS x2.Old])]) (fun h => ?_) (fun v179 h => ?_))))
 ·refine Run.so hm (.p e (.z 5112 (Ev.lnF e) e e (.p e (.nil (.block ?_)))))
  obtain ⟨res197,h,hk197⟩ := bindO h
  refine Run.loop (n := N) (fun m197 fr σ => ∃ (x182 : Int),slices_IndexFunc_session_l1 N x1 x2 m197 x182 = some res197 ∧ fr = [(0,RO 107 (x1.map encTsession)),(1,.fn 68 [.ptr 0 0]),(7,VI (x1.length : Int)),(8,VI x182)] ∧ σ = [(0,.box [VI x2.Op,VI x2.Session,VI x2.Seq,VS x2.Key,VS x2.Value,VS x2.Old])]) (gh_pk [0,1,7,8] [0] hB e e e e) ⟨_,h,e,e⟩ ?_
  rintro m197 fr σ ⟨x182,h,rfl,rfl⟩
  obtain _ | m197 := m197
  ·rw [slices_IndexFunc_session_l1] at h; cases h
  rw [slices_IndexFunc_session_l1] at h
  refine Run.so hm (.p e (.nil (.seq (.condO e h (fun g200 h => ?_) (fun g200 h => ?_)))))
  ·refine Run.skip (.seq (.block (.so hm (.p2 e e (.nil (.so hm (.p3 e e e ?_)))))))
   obtain ⟨x203,hx203,h⟩ := bindO h
   refine Ops.z 17432 (Ev.iaF e e hx203) e e (.p e ?_)
   obtain ⟨y204,hy204,h⟩ := bindO h
   refine Ops.z 17464 (Ev.callx [0] [] 0 e (sem_impl_acted_1 _ _ _ _ hy204) e e (.cons (.agg (.d4 .nil)) (.cons (.ptr e) .nil)) e (.inl e) e e) e e (.nil (.condO e h (fun g205 h => ?_) (fun g205 h => ?_)))
   ·refine Run.so hm (.p2 e e (.nil (.ret ?_)))
    obtain rfl := someO h
    have h := hk197
    replace h := inlO h
    obtain rfl := someO h
    exact Ends.mkG (.inl e) e (gh_pk [0] [0] hB e e e e) e e
   ·exact Run.skip (.ops hm (.p2 e e (.nil (⟨m197,Nat.lt_succ_self m197,_,_,(gh_pk [0,1,7,8] [0] hB e e e e),_,h,e,e⟩))))
  ·refine Run.exit ?_
   obtain rfl := someO h
   have h := hk197
   replace h := inrO h
   exact ⟨_,_,(gh_pk [] [0] hB e e e e),(),h,e,e⟩
 ·refine Run.so hm (.p e (.nil (.ret ?_)))
  obtain rfl := someO h
  exact Ends.mkG (.inl e) e (gh_pk [0] [0] hB e e e e) e e
def impl_operated (N : Nat) (x1 : (List Pair)) (x2 : Command) : Option ((List Pair) × ByteArray) :=
 (scat? (⟨#[107]⟩ : ByteArray) x2.Key).bind fun x152 =>
 joinP (fun (v160 : ByteArray × Bool) =>
 (if (x2.Op == 2) = true then
 (if (!v160.2) = true then
 some (x1,(⟨#[110,111,110,101]⟩ : ByteArray))
 else
 (scat? (⟨#[103,111,116,32]⟩ : ByteArray) v160.1).bind fun x185 =>
 some (x1,x185))
 else
 (if (x2.Op == 3) = true then
 (impl_withKey N x1 x152 x2.Value).bind fun y188 =>
 some (y188,(⟨#[112,117,116]⟩ : ByteArray))
 else
 (if (x2.Op == 4) = true then
 (if (!v160.2) = true then
 some (x1,(⟨#[110,111,110,101]⟩ : ByteArray))
 else
 (impl_withoutKey N x1 x152).bind fun y193 =>
 some (y193,(⟨#[99,117,116]⟩ : ByteArray)))
 else
 (if (!decide (v160.1 = x2.Old)) = true then
 some (x1,(⟨#[107,101,112,116]⟩ : ByteArray))
 else
 (impl_withKey N x1 x152 x2.Value).bind fun y197 =>
 some (y197,(⟨#[115,119,97,112,112,101,100]⟩ : ByteArray))))))) fun j160 =>
 (impl_pairNo N x1 x152).bind fun y164 =>
 (if y164.2 = true then
 (at? x1 y164.1).bind fun x167 =>
 j160 (x167.Value,true)
 else
 j160 ((⟨#[]⟩ : ByteArray),false))
theorem sem_impl_operated (N : Nat) (x1 : (List Pair)) (x2 : Command) (r : (List Pair) × ByteArray) (h : impl_operated N x1 x2 = some r) : Says Tryz.prog 69 [RO 50 (x1.map encPair),.agg [VI x2.Op,VI x2.Session,VI x2.Seq,VS x2.Key,VS x2.Value,VS x2.Old]] 0 [] (.tup [RO 50 (r.1.map encPair),VS r.2]) [] := by
 unfold impl_operated at h
 refine Says.of_norm e Tryz.call69 e fun B hB => ?_
 have hm : B.m ≤ 1000 := by omega
 refine Run.so hm (.z 1000 (.bx e e) e e (.p2 e e (.nil (.so hm (.p2 e e ?_)))))
 obtain ⟨x152,hx152,h⟩ := bindO h
 refine Ops.z 5128 (Ev.addS e e hx152) e e (.p e (.nil (.so hm (.p2 e e (.nil (.seqO h (fun v160 => [(0,RO 50 (x1.map encPair)),(3,.ptr 0 0),(6,VS x152),(7,VS v160.1),(8,VB v160.2)]) (fun (v160 : ByteArray × Bool) => [(0,.box [VI x2.Op,VI x2.Session,VI x2.Seq,VS x2.Key,VS x2.Value,VS x2.Old])]) (fun h => ?_) (fun v160 h => ?_)))))))
 ·refine Run.so hm (.p2 e e ?_)
  obtain ⟨y164,hy164,h⟩ := bindO h
  refine Ops.z 13320 (Ev.call [] [] 0 (sem_impl_pairNo _ _ _ _ hy164) e e (.d2 .nil) e (.inl e) e e) e e (.p3 e e e (.p2 e e (.nil (.so hm (.p e (.nil (.condO e h (fun g165 h => ?_) (fun g165 h => ?_))))))))
  ·refine Run.ops hm (.p2 e e ?_)
   obtain ⟨x167,hx167,h⟩ := bindO h
   exact Ops.z 21512 (Ev.iaF e e hx167) e e (.p3 e e e (.p e (.nil (⟨_,_,(gh_pk [0,3,6,7,8] [1000] hB e e e e),_,h,e,e⟩))))
  ·exact Run.skip (⟨_,_,(gh_pk [0,3,6,7,8] [1000] hB e e e e),_,h,e,e⟩)
 ·refine Run.seq (.so hm (.p2 e e (.nil (.block (.so hm (.p2 e e (.nil (.condO e h (fun g181 h => ?_) (fun g181 h => ?_)))))))))
  ·refine Run.seq (.so hm (.p2 e e (.nil (.condO e h (fun g183 h => ?_) (fun g183 h => ?_)))))
   ·refine Run.so hm (.p3 e e e (.nil (.ret ?_)))
    obtain rfl := someO h
    exact Ends.mkG (.inl e) e (Gh.trans (Gh.trans (gh_prn [0,1] [] hB e) (gh_ro [0,1] [] [] [0] e)) (gh_pk [0,1] [] hB e e e e)) (by first | rfl | (simp only [List.length_set,takeMap,List.drop_zero,List.map_nil]; done) | (simp only [List.length_set,takeMap,List.drop_zero,List.map_nil]; rfl)) (by first | rfl | (simp only [List.length_set,takeMap,List.drop_zero,List.map_nil]; done) | (simp only [List.length_set,takeMap,List.drop_zero,List.map_nil]; rfl))
   ·refine Run.skip (.so hm (.p2 e e ?_))
    obtain ⟨x185,hx185,h⟩ := bindO h
    refine Ops.z 41992 (Ev.addS e e hx185) e e (.p2 e e (.nil (.ret ?_)))
    obtain rfl := someO h
    exact Ends.mkG (.inl e) e (Gh.trans (Gh.trans (gh_prn [0,1] [] hB e) (gh_ro [0,1] [] [] [0] e)) (gh_pk [0,1] [] hB e e e e)) (by first | rfl | (simp only [List.length_set,takeMap,List.drop_zero,List.map_nil]; done) | (simp only [List.length_set,takeMap,List.drop_zero,List.map_nil]; rfl)) (by first | rfl | (simp only [List.length_set,takeMap,List.drop_zero,List.map_nil]; done) | (simp only [List.length_set,takeMap,List.drop_zero,List.map_nil]; rfl))
  ·refine Run.so hm (.p2 e e (.nil (.condO e h (fun g186 h => ?_) (fun g186 h => ?_))))
   ·refine Run.so hm (.p3 e e e (.p e ?_))
    obtain ⟨y188,hy188,h⟩ := bindO h
    refine Ops.z 50216 (Ev.call [] [] 1 (sem_impl_withKey _ _ _ _ _ hy188) e e (.d2 (.d1 .nil)) e (.inl e) e e) e e (.p2 e e (.nil (.ret ?_)))
    obtain rfl := someO h
    exact Ends.mkG (.inl e) e (Gh.trans (Gh.trans (Gh.trans ((Gh.frz (f := encPair) (g := encPair) (xs := y188) 50216 (fun _ => e) e)) (gh_prn [0,1] [50216] hB e)) (gh_ro [0,1] [] [50216] [0] e)) (gh_pk [0,1] [] hB e e e e)) (by first | rfl | (simp only [List.length_set,takeMap,List.drop_zero,List.map_nil]; done) | (simp only [List.length_set,takeMap,List.drop_zero,List.map_nil]; rfl)) (by first | rfl | (simp only [List.length_set,takeMap,List.drop_zero,List.map_nil]; done) | (simp only [List.length_set,takeMap,List.drop_zero,List.map_nil]; rfl))
   ·refine Run.so hm (.p2 e e (.nil (.condO e h (fun g189 h => ?_) (fun g189 h => ?_))))
    ·refine Run.seq (.so hm (.p2 e e (.nil (.condO e h (fun g191 h => ?_) (fun g191 h => ?_)))))
     ·refine Run.so hm (.p3 e e e (.nil (.ret ?_)))
      obtain rfl := someO h
      exact Ends.mkG (.inl e) e (Gh.trans (Gh.trans (gh_prn [0,1] [] hB e) (gh_ro [0,1] [] [] [0] e)) (gh_pk [0,1] [] hB e e e e)) (by first | rfl | (simp only [List.length_set,takeMap,List.drop_zero,List.map_nil]; done) | (simp only [List.length_set,takeMap,List.drop_zero,List.map_nil]; rfl)) (by first | rfl | (simp only [List.length_set,takeMap,List.drop_zero,List.map_nil]; done) | (simp only [List.length_set,takeMap,List.drop_zero,List.map_nil]; rfl))
     ·refine Run.skip (.so hm (.p2 e e ?_))
      obtain ⟨y193,hy193,h⟩ := bindO h
      refine Ops.z 66568 (Ev.call [] [] 1 (sem_impl_withoutKey _ _ _ _ hy193) e e (.d2 .nil) e (.inl e) e e) e e (.p2 e e (.nil (.ret ?_)))
      obtain rfl := someO h
      exact Ends.mkG (.inl e) e (Gh.trans (Gh.trans (Gh.trans ((Gh.frz (f := encPair) (g := encPair) (xs := y193) 66568 (fun _ => e) e)) (gh_prn [0,1] [66568] hB e)) (gh_ro [0,1] [] [66568] [0] e)) (gh_pk [0,1] [] hB e e e e)) (by first | rfl | (simp only [List.length_set,takeMap,List.drop_zero,List.map_nil]; done) | (simp only [List.length_set,takeMap,List.drop_zero,List.map_nil]; rfl)) (by first | rfl | (simp only [List.length_set,takeMap,List.drop_zero,List.map_nil]; done) | (simp only [List.length_set,takeMap,List.drop_zero,List.map_nil]; rfl))
    ·refine Run.skip (.seq (.so hm (.p3 e e e (.p e (.nil (.condO e h (fun g195 h => ?_) (fun g195 h => ?_)))))))
     ·refine Run.so hm (.p3 e e e (.nil (.ret ?_)))
      obtain rfl := someO h
      exact Ends.mkG (.inl e) e (Gh.trans (Gh.trans (gh_prn [0,1] [] hB e) (gh_ro [0,1] [] [] [0] e)) (gh_pk [0,1] [] hB e e e e)) (by first | rfl | (simp only [List.length_set,takeMap,List.drop_zero,List.map_nil]; done) | (simp only [List.length_set,takeMap,List.drop_zero,List.map_nil]; rfl)) (by first | rfl | (simp only [List.length_set,takeMap,List.drop_zero,List.map_nil]; done) | (simp only [List.length_set,takeMap,List.drop_zero,List.map_nil]; rfl))
     ·refine Run.skip (.so hm (.p3 e e e (.p e ?_)))
      obtain ⟨y197,hy197,h⟩ := bindO h
      refine Ops.z 78888 (Ev.call [] [] 1 (sem_impl_withKey _ _ _ _ _ hy197) e e (.d2 (.d1 .nil)) e (.inl e) e e) e e (.p2 e e (.nil (.ret ?_)))
      obtain rfl := someO h
      exact Ends.mkG (.inl e) e (Gh.trans (Gh.trans (Gh.trans ((Gh.frz (f := encPair) (g := encPair) (xs := y197) 78888 (fun _ => e) e)) (gh_prn [0,1] [78888] hB e)) (gh_ro [0,1] [] [78888] [0] e)) (gh_pk [0,1] [] hB e e e e)) (by first | rfl | (simp only [List.length_set,takeMap,List.drop_zero,List.map_nil]; done) | (simp only [List.length_set,takeMap,List.drop_zero,List.map_nil]; rfl)) (by first | rfl | (simp only [List.length_set,takeMap,List.drop_zero,List.map_nil]; done) | (simp only [List.length_set,takeMap,List.drop_zero,List.map_nil]; rfl))
def impl_acted (N : Nat) (x1 : (List Pair)) (x2 : Int) (x3 : Command) (x4 : (List Tsession)) : Option ((List Pair) × ByteArray × Bool) :=
 (if (x3.Op == 1) = true then
 (impl_opened N x1 x2 x4).bind fun y145 =>
 some (y145.1,y145.2.1,y145.2.2)
 else
 (slices_IndexFunc_session N x4 x3).bind fun y149 =>
 (if (decide (y149 < 0)) = true then
 some (x1,(⟨#[101,120,112,105,114,101,100]⟩ : ByteArray),true)
 else
 (at? x4 y149).bind fun x164 =>
 (if (decide (x3.Seq < x164.seq)) = true then
 some (x1,(⟨#[115,116,97,108,101]⟩ : ByteArray),true)
 else
 (at? x4 y149).bind fun x167 =>
 (if (x3.Seq == x167.seq) = true then
 (at? x4 y149).bind fun x170 =>
 some (x1,x170.reply,true)
 else
 (at? x4 y149).bind fun x172 =>
 (if (decide (x3.Seq > (w64 (x172.seq + 1)))) = true then
 some (x1,(⟨#[103,97,112]⟩ : ByteArray),true)
 else
 (impl_operated N x1 x3).bind fun y177 =>
 (impl_withSession N y177.1 (Tsession.mk x3.Session x3.Seq x2 y177.2)).bind fun y179 =>
 some (y179,y177.2,true))))))
theorem sem_impl_acted (N : Nat) (x1 : (List Pair)) (x2 : Int) (x3 : Command) (x4 : (List Tsession)) (r : (List Pair) × ByteArray × Bool) (h : impl_acted N x1 x2 x3 x4 = some r) : Says Tryz.prog 50 [RO 50 (x1.map encPair),VI x2,.agg [VI x3.Op,VI x3.Session,VI x3.Seq,VS x3.Key,VS x3.Value,VS x3.Old],RO 107 (x4.map encTsession)] 0 [] (.tup [RO 50 (r.1.map encPair),VS r.2.1,VB r.2.2]) [] := by
 unfold impl_acted at h
 refine Says.of_norm e Tryz.call50 e fun B hB => ?_
 have hm : B.m ≤ 1000 := by omega
 refine Run.so hm (.z 1000 (.bx e e) e e (.p3 e e e (.nil (.seq (.so hm (.p3 e e e (.nil (.condO e h (fun g143 h => ?_) (fun g143 h => ?_)))))))))
 ·refine Run.so hm (.p3 e e e ?_)
  obtain ⟨y145,hy145,h⟩ := bindO h
  refine Ops.z 9240 (Ev.call [] [] 1 (sem_impl_opened _ _ _ _ _ hy145) e e (.d2 (.d1 .nil)) e (.inl e) e e) e e (.p3 e e e (.p3 e e e (.nil (.ret ?_))))
  obtain rfl := someO h
  exact Ends.mkG (.inl e) e (Gh.trans (Gh.trans (Gh.trans ((Gh.frz (f := encPair) (g := encPair) (xs := y145.1) 9240 (fun _ => e) e)) (gh_prn [0,1,2] [9240] hB e)) (gh_ro [0,1,2] [] [9240] [0] e)) (gh_pk [0,1,2] [] hB e e e e)) (by first | rfl | (simp only [List.length_set,takeMap,List.drop_zero,List.map_nil]; done) | (simp only [List.length_set,takeMap,List.drop_zero,List.map_nil]; rfl)) (by first | rfl | (simp only [List.length_set,takeMap,List.drop_zero,List.map_nil]; done) | (simp only [List.length_set,takeMap,List.drop_zero,List.map_nil]; rfl))
 ·refine Run.skip (.so hm (.p2 e e ?_))
  obtain ⟨y149,hy149,h⟩ := bindO h
  refine Ops.z 13320 (Ev.call [1000] [] 0 (sem_slices_IndexFunc_session _ _ _ _ hy149) e e (.d1 (.cons (.fn (.cons (.ptr e) .nil)) .nil)) e (.inl e) e e) e e (.p e (.nil (.seq (.block (.so hm (.p3 e e e (.nil (.condO e h (fun g162 h => ?_) (fun g162 h => ?_)))))))))
  ·refine Run.so hm (.p3 e e e (.p e (.nil (.ret ?_))))
   obtain rfl := someO h
   exact Ends.mkG (.inl e) e (Gh.trans (Gh.trans (gh_prn [0,1,2] [] hB e) (gh_ro [0,1,2] [] [] [0] e)) (gh_pk [0,1,2] [] hB e e e e)) (by first | rfl | (simp only [List.length_set,takeMap,List.drop_zero,List.map_nil]; done) | (simp only [List.length_set,takeMap,List.drop_zero,List.map_nil]; rfl)) (by first | rfl | (simp only [List.length_set,takeMap,List.drop_zero,List.map_nil]; done) | (simp only [List.length_set,takeMap,List.drop_zero,List.map_nil]; rfl))
  ·refine Run.seq (.draw hm hmix (.p e (.p e (.p e (.p e ?_)))))
   obtain ⟨x164,hx164,h⟩ := bindO h
   refine OpsD.z 25640 (Ev.iaF e e hx164) e e (.p e (.p e (.p e (.p e (.nil ⟨by kernel_rfl,?_⟩)))))
   refine Run.condO e h (fun g165 h => ?_) (fun g165 h => ?_)
   ·refine Run.so hm (.p3 e e e (.p e (.nil (.ret ?_))))
    obtain rfl := someO h
    exact Ends.mkG (.inl e) e (Gh.trans (Gh.trans (gh_prn [0,1,2] [] hB e) (gh_ro [0,1,2] [] [] [0] e)) (gh_pk [0,1,2] [] hB e e e e)) (by first | rfl | (simp only [List.length_set,takeMap,List.drop_zero,List.map_nil]; done) | (simp only [List.length_set,takeMap,List.drop_zero,List.map_nil]; rfl)) (by first | rfl | (simp only [List.length_set,takeMap,List.drop_zero,List.map_nil]; done) | (simp only [List.length_set,takeMap,List.drop_zero,List.map_nil]; rfl))
   ·refine Run.seq (.draw hm hmix (.p e (.p e (.p e (.p e ?_)))))
    obtain ⟨x167,hx167,h⟩ := bindO h
    refine OpsD.z 33832 (Ev.iaF e e hx167) e e (.p e (.p e (.p e (.p e (.nil ⟨by kernel_rfl,?_⟩)))))
    refine Run.condO e h (fun g168 h => ?_) (fun g168 h => ?_)
    ·refine Run.seq (.draw hm hmix (.p e (.p e (.p e ?_))))
     obtain ⟨x170,hx170,h⟩ := bindO h
     refine OpsD.z 37912 (Ev.iaF e e hx170) e e (.p e (.p e (.p e (.p e (.p e (.nil ⟨by kernel_rfl,?_⟩))))))
     refine Run.ret ?_
     obtain rfl := someO h
     exact Ends.mkG (.inl e) e (Gh.trans (Gh.trans (gh_prn [0,1,2] [] hB e) (gh_ro [0,1,2] [] [] [0] e)) (gh_pk [0,1,2] [] hB e e e e)) (by first | rfl | (simp only [List.length_set,takeMap,List.drop_zero,List.map_nil]; done) | (simp only [List.length_set,takeMap,List.drop_zero,List.map_nil]; rfl)) (by first | rfl | (simp only [List.length_set,takeMap,List.drop_zero,List.map_nil]; done) | (simp only [List.length_set,takeMap,List.drop_zero,List.map_nil]; rfl))
    ·refine Run.seq (.draw hm hmix (.p e (.p e (.p e (.p e ?_)))))
     obtain ⟨x172,hx172,h⟩ := bindO h
     refine OpsD.z 42024 (Ev.iaF e e hx172) e e (.p e (.p e (.p e (.p e (.p e (.nil ⟨by kernel_rfl,?_⟩))))))
     refine Run.condO e h (fun g173 h => ?_) (fun g173 h => ?_)
     ·refine Run.so hm (.p3 e e e (.p e (.nil (.ret ?_))))
      obtain rfl := someO h
      exact Ends.mkG (.inl e) e (Gh.trans (Gh.trans (gh_prn [0,1,2] [] hB e) (gh_ro [0,1,2] [] [] [0] e)) (gh_pk [0,1,2] [] hB e e e e)) (by first | rfl | (simp only [List.length_set,takeMap,List.drop_zero,List.map_nil]; done) | (simp only [List.length_set,takeMap,List.drop_zero,List.map_nil]; rfl)) (by first | rfl | (simp only [List.length_set,takeMap,List.drop_zero,List.map_nil]; done) | (simp only [List.length_set,takeMap,List.drop_zero,List.map_nil]; rfl))
     ·refine Run.skip (.so hm (.p2 e e ?_))
      obtain ⟨y177,hy177,h⟩ := bindO h
      refine Ops.z 50184 (Ev.call [] [] 0 (sem_impl_operated _ _ _ _ hy177) e e (.d1 (.cons (.agg (.d4 (.d2 .nil))) .nil)) e (.inl e) e e) e e (.p3 e e e (.p2 e e (.nil (.so hm (.p3 e e e (.p3 e e e (.p e (.z 54360 (.bd e e) e e ?_))))))))
      obtain ⟨y179,hy179,h⟩ := bindO h
      refine Ops.z 54376 (Ev.call [] [] 1 (sem_impl_withSession _ _ _ _ hy179) e e (.d1 (.cons (.agg (.d4 .nil)) .nil)) e (.inl e) e e) e e (.p3 e e e (.p e (.nil (.ret ?_))))
      obtain rfl := someO h
      exact Ends.mkG (.inl e) e (Gh.trans (Gh.trans (Gh.trans ((Gh.frz (f := encPair) (g := encPair) (xs := y179) 54376 (fun _ => e) e)) (gh_prn [0,1,2] [54376] hB e)) (gh_ro [0,1,2] [] [54376] [0] e)) (gh_pk [0,1,2] [] hB e e e e)) (by first | rfl | (simp only [List.length_set,takeMap,List.drop_zero,List.map_nil]; done) | (simp only [List.length_set,takeMap,List.drop_zero,List.map_nil]; rfl)) (by first | rfl | (simp only [List.length_set,takeMap,List.drop_zero,List.map_nil]; done) | (simp only [List.length_set,takeMap,List.drop_zero,List.map_nil]; rfl))
end Go.Proofs.YtlkdjdfcihjplaaGreatDoor.Pe.FnExactFold
