/- Functions,as pure functions; and that Go does just that. -/
import Derived.Test.YtmnoonjkiflonaaGreatDoorPeFFnExactReadScript3
namespace Go.Proofs.YtmnoonjkiflonaaGreatDoor.Pe.FnExactReadScript
open Go Go.RowKit
set_option linter.unusedVariables false
set_option linter.unusedSimpArgs false
set_option maxHeartbeats 40000000
set_option maxRecDepth 100000
def strings_Count (N : Nat) (x1 : ByteArray) (x2 : ByteArray) : Option (Int) := count1? x1 x2
theorem sem_strings_Count (N : Nat) (x1 : ByteArray) (x2 : ByteArray) (r : Int) (h : strings_Count N x1 x2 = some r) : Says Tryz.prog 64 [VS x1,VS x2] 0 [] (VI r) [] := says_count1 Tryz.call64 Go.Proofs.Tryz.strings_Count_one h
def strings_Index (N : Nat) (x1 : ByteArray) (x2 : ByteArray) : Option (Int) := index1? x1 x2
theorem sem_strings_Index (N : Nat) (x1 : ByteArray) (x2 : ByteArray) (r : Int) (h : strings_Index N x1 x2 = some r) : Says Tryz.prog 65 [VS x1,VS x2] 0 [] (VI r) [] := says_index1 Tryz.call65 Go.Proofs.Tryz.strings_Index_one h
def strings_genSplit_l1 (N : Nat) (x1 : ByteArray) (x2 : ByteArray) (x3 : Int) (v225 : Int) : Nat → ByteArray → Int → (List ByteArray) → Option (ByteArray × Int × (List ByteArray))
 | 0,_,_,_ => none
 | m + 1,x282,x286,x287 =>
 (if (decide (x286 < (w64 ((imin v225 (w64 ((x1.size : Int) + 1))) - 1)))) = true then
 (strings_Index N x282 x2).bind fun y315 =>
 (if (decide (y315 < 0)) = true then
 some (x282,x286,x287)
 else
 (stake? x282 (w64 (y315 + x3))).bind fun x324 =>
 (at? x287 x286).bind fun x325 =>
 (sdrop? x282 (w64 (y315 + (x2.size : Int)))).bind fun x329 =>
 strings_genSplit_l1 N x1 x2 x3 v225 m x329 (w64 (x286 + 1)) (x287.set x286.toNat x324))
 else
 some (x282,x286,x287))
def strings_genSplit (N : Nat) (x1 : ByteArray) (x2 : ByteArray) (x3 : Int) (x4 : Int) : Option (Nat × (List ByteArray)) :=
 (if (x4 == 0) = true then
 some (0,[])
 else
 (if (decide (x2 = (⟨#[]⟩ : ByteArray))) = true then
 none
 else
 joinP (fun (v225 : Int) =>
 (mk? (⟨#[]⟩ : ByteArray) (imin v225 (w64 ((x1.size : Int) + 1)))).bind fun x232 =>
 joinP (fun (v281 : ByteArray × Int × (List ByteArray)) =>
 (at? v281.2.2 v281.2.1).bind fun x333 =>
 (take? (v281.2.2.set v281.2.1.toNat v281.1) (w64 (v281.2.1 + 1))).bind fun x335 =>
 some ((w64 (v281.2.1 + 1)).toNat,(v281.2.2.set v281.2.1.toNat v281.1))) fun j281 =>
 (strings_genSplit_l1 N x1 x2 x3 v225 N x1 0 x232).bind (fun v308 => j281 (v308.1,v308.2.1,v308.2.2))) fun j225 =>
 (if (decide (x4 < 0)) = true then
 (strings_Count N x1 x2).bind fun y228 =>
 j225 (w64 (y228 + 1))
 else
 j225 x4)))
theorem sem_strings_genSplit (N : Nat) (x1 : ByteArray) (x2 : ByteArray) (x3 : Int) (x4 : Int) (r : Nat × (List ByteArray)) (h : strings_genSplit N x1 x2 x3 x4 = some r) : Says Tryz.prog 34 [VS x1,VS x2,VI x3,VI x4] 0 [] (.sl 0 9 0 r.1) [(0,.vec 9 (r.2.map encS))] := by
 unfold strings_genSplit at h
 refine Says.of_norm e Tryz.call34 e fun B hB => ?_
 have hm : B.m ≤ 1000 := by omega
 refine Run.so hm (.p e (.nil (.seq (.so hm (.p2 e e (.nil (.condO e h (fun g219 h => ?_) (fun g219 h => ?_))))))))
 ·refine Run.so hm (.p e (.nil (.ret ?_)))
  obtain rfl := someO h
  exact Ends.mkG (.inl e) e (Gh.trans (Gh.trans (gh_prn [0] [] hB e) (gh_nil [0] [] hB e e e)) (gh_pk [0] [10000000] hB e e e e)) e e
 ·refine Run.skip (.seq (.so hm (.p2 e e (.nil (.condO e h (fun g221 h => ?_) (fun g221 h => ?_))))))
  ·exact Run.so hm (.p2 e e (noO h))
  ·refine Run.skip (.seqO h (fun v225 => [(0,VS x1),(1,VS x2),(2,VI x3),(3,VI v225)]) (fun (v225 : Int) => []) (fun h => ?_) (fun v225 h => ?_))
   ·refine Run.so hm (.p2 e e (.nil (.condO e h (fun g226 h => ?_) (fun g226 h => ?_))))
    ·refine Run.ops hm (.p2 e e ?_)
     obtain ⟨y228,hy228,h⟩ := bindO h
     exact Ops.z 25608 (Ev.call [] [] 0 (sem_strings_Count _ _ _ _ hy228) e e (.d2 .nil) e (.inl e) e e) e e (.p2 e e (.nil (⟨_,_,(gh_pk [0,1,2,3] [] hB e e e e),_,h,e,e⟩)))
    ·exact Run.skip (⟨_,_,(gh_pk [0,1,2,3] [] hB e e e e),_,h,e,e⟩)
   ·refine Run.so hm (.p3 e e e (.p3 e e e (.nil (.so hm (.p e ?_)))))
    obtain ⟨x232,hx232,h⟩ := bindO h
    refine Ops.z 33784 (Ev.msW (f := encS) (zv := (⟨#[]⟩ : ByteArray)) e e e bt9 e hx232) e e (.p e (.nil (.so hm (.p3 e e e (.nil (.so hm (.p e (.nil (.seqO h (fun v281 => [(0,VS v281.1),(9,.sl 0 9 0 v281.2.2.length),(10,VI v281.2.1)]) (fun (v281 : ByteArray × Int × (List ByteArray)) => [(0,.vec 9 (v281.2.2.map encS))]) (fun h => ?_) (fun v281 h => ?_))))))))))
    ·refine Run.block ?_
     obtain ⟨res308,h,hk308⟩ := bindO h
     refine Run.loop (n := N) (fun m308 fr σ => ∃ (x282 : ByteArray),∃ (x286 : Int),∃ (x287 : (List ByteArray)),strings_genSplit_l1 N x1 x2 x3 v225 m308 x282 x286 x287 = some res308 ∧ fr = [(0,VS x282),(1,VS x2),(2,VI x3),(3,VI (w64 ((imin v225 (w64 ((x1.size : Int) + 1))) - 1))),(9,.sl 0 9 0 x287.length),(10,VI x286)] ∧ σ = [(0,.vec 9 (x287.map encS))]) (gh_pk [0,1,2,3,9,10] [33784] hB e e e e) ⟨_,_,_,h,e,e⟩ ?_
     rintro m308 fr σ ⟨x282,x286,x287,h,rfl,rfl⟩
     obtain _ | m308 := m308
     ·rw [strings_genSplit_l1] at h; cases h
     rw [strings_genSplit_l1] at h
     refine Run.seq (.so hm (.p3 e e e (.nil (.condO e h (fun g311 h => ?_) (fun g311 h => ?_)))))
     ·refine Run.skip (.block (.so hm (.p2 e e ?_)))
      obtain ⟨y315,hy315,h⟩ := bindO h
      refine Ops.z 50184 (Ev.call [] [] 0 (sem_strings_Index _ _ _ _ hy315) e e (.d2 .nil) e (.inl e) e e) e e (.p e (.nil (.seq (.so hm (.p2 e e (.nil (.condO e h (fun g317 h => ?_) (fun g317 h => ?_))))))))
      ·refine Run.exit ?_
       obtain rfl := someO h
       have h := hk308
       exact ⟨_,_,(gh_pk [0,9,10] [0] hB e e e e),_,h,e,e⟩
      ·refine Run.skip (.so hm (.p3 e e e (.p3 e e e ?_)))
       obtain ⟨x324,hx324,h⟩ := bindO h
       refine Ops.z 58440 (Ev.ssH e e hx324) e e ?_
       obtain ⟨x325,hx325,h⟩ := bindO h
       refine Ops.z 58456 (Ev.iaW e e e hx325) e e (.y 58472 (Ev.stE (f := encS) (v' := x324) e e (at_some hx325).2 e (.d1 .nil) e e e e e) e e (.nil (.so hm (.p3 e e e (.p2 e e ?_)))))
       obtain ⟨x329,hx329,h⟩ := bindO h
       exact Ops.z 62520 (Ev.ssL e e hx329) e e (.p e (.nil (.ops hm (.p3 e e e (.nil (⟨m308,Nat.lt_succ_self m308,_,_,(gh_pk [0,1,2,3,9,10] [0] hB e e (by first | rfl | (simp only [List.length_set]; done) | (simp only [List.length_set]; rfl)) (by first | rfl | (simp only [List.length_set]; done) | (simp only [List.length_set]; rfl))),_,_,_,h,e,e⟩))))))
     ·refine Run.exit ?_
      obtain rfl := someO h
      have h := hk308
      exact ⟨_,_,(gh_pk [0,9,10] [0] hB e e e e),_,h,e,e⟩
    ·refine Run.so hm (.p3 e e e ?_)
     obtain ⟨x333,hx333,h⟩ := bindO h
     refine Ops.z 70680 (Ev.iaW e e e hx333) e e (.y 70696 (Ev.stE (f := encS) (v' := v281.1) e e (at_some hx333).2 e (.d1 .nil) e e e e e) e e (.nil (.so hm (.p3 e e e ?_))))
     obtain ⟨x335,hx335,h⟩ := bindO h
     refine Ops.z 74776 (Ev.slWh (xs := (v281.2.2.set v281.2.1.toNat v281.1)) e (by simp) e hx335) e e ?_
     refine Ops.p e (.nil (.ret ?_))
     obtain rfl := someO h
     exact Ends.mkG (.inl e) e (gh_pk [0] [0] hB e e e e) (by first | rfl | (simp only [List.length_set]; done) | (simp only [List.length_set]; rfl)) (by first | rfl | (simp only [List.length_set]; done) | (simp only [List.length_set]; rfl))
def strings_Split (N : Nat) (x1 : ByteArray) (x2 : ByteArray) : Option (Nat × (List ByteArray)) :=
 (strings_genSplit N x1 x2 0 (-1 : Int)).bind fun y103 =>
 some (y103.1,y103.2)
theorem sem_strings_Split (N : Nat) (x1 : ByteArray) (x2 : ByteArray) (r : Nat × (List ByteArray)) (h : strings_Split N x1 x2 = some r) : Says Tryz.prog 18 [VS x1,VS x2] 0 [] (.sl 0 9 0 r.1) [(0,.vec 9 (r.2.map encS))] := by
 unfold strings_Split at h
 refine Says.of_norm e Tryz.call18 e fun B hB => ?_
 have hm : B.m ≤ 1000 := by omega
 refine Run.so hm (.p e (.nil (.so hm (.p2 e e ?_))))
 obtain ⟨y103,hy103,h⟩ := bindO h
 refine Ops.z 5128 (Ev.call [] [] 1 (sem_strings_genSplit _ _ _ _ _ _ hy103) e e (.d4 .nil) e (.inl e) e e) e e (.p e (.nil (.ret ?_)))
 obtain rfl := someO h
 exact Ends.mkG (.inl e) e (gh_pk [0] [5128] hB e e e e) e e
def impl_within (N : Nat) (x1 : Int) (x2 : Int) (x3 : Int) : Option (Bool) :=
 (if (decide (x1 ≥ x2)) = true then
 some (decide (x1 ≤ x3))
 else
 some false)
theorem sem_impl_within (N : Nat) (x1 : Int) (x2 : Int) (x3 : Int) (r : Bool) (h : impl_within N x1 x2 x3 = some r) : Says Tryz.prog 35 [VI x1,VI x2,VI x3] 0 [] (VB r) [] := by
 unfold impl_within at h
 refine Says.of_norm e Tryz.call35 e fun B hB => ?_
 have hm : B.m ≤ 1000 := by omega
 refine Run.so hm (.p e (.nil (.so hm (.p3 e e e (.p e (.askO (x := .t 10) e h (fun g103 h => ?_) (fun g103 h => ?_)))))))
 ·refine Ops.gp e g103 e (.gp e g103 e (.gp e g103 e (.z 5208 (.pkT e g103 e) e e (.p e (.nil (.ret ?_))))))
  obtain rfl := someO h
  exact Ends.mkG (.inl e) e (gh_pk [0] [] hB e e e e) e e
 ·refine Ops.gn e g103 (.gn e g103 (.gn e g103 (.z 5208 (.pkF e g103 e) e e (.p e (.nil (.ret ?_))))))
  obtain rfl := someO h
  exact Ends.mkG (.inl e) e (gh_pk [0] [] hB e e e e) e e
def strings_Fields (N : Nat) (x1 : ByteArray) : Option ((List ByteArray)) := fields? x1
theorem sem_strings_Fields (N : Nat) (x1 : ByteArray) (r : (List ByteArray)) (h : strings_Fields N x1 = some r) : Says Tryz.prog 36 [VS x1] 0 [] (.sl 0 9 0 r.length) [(0,.vec 9 (r.map encS))] := says_fields Tryz.call36 (by kernel_rfl) Go.Proofs.Tryz.strings_Fields_laid (g := 0) (by kernel_rfl) (.tail _ (.tail _ (.tail _ (.head _)))) h
def impl_PartsOf_l1 (N : Nat) (x1 : ByteArray) : Nat → Int → Option (((List ByteArray) × Bool) ⊕ (Unit))
 | 0,_ => none
 | m + 1,x200 =>
 (if (decide (x200 < (x1.size : Int))) = true then
 (sat? x1 x200).bind fun x225 =>
 (impl_within N (w64 (x225)) 32 126).bind fun y226 =>
 (if (!y226) = true then
 some (Sum.inl ([],false))
 else
 impl_PartsOf_l1 N x1 m (w64 (x200 + 1)))
 else
 some (Sum.inr ()))
def impl_PartsOf (N : Nat) (x1 : ByteArray) : Option ((List ByteArray) × Bool) :=
 (if (decide ((x1.size : Int) > 600)) = true then
 some ([],false)
 else
 joinP (fun (v198 : Unit) =>
 (strings_Fields N x1).bind fun y231 =>
 (if (decide (((y231.length : Nat) : Int) > 10)) = true then
 some ([],false)
 else
 some (y231,true))) fun j198 =>
 (impl_PartsOf_l1 N x1 N 0).bind (Sum.elim (fun v213 => some v213) (fun (v214 : Unit) => j198 ())))
theorem sem_impl_PartsOf (N : Nat) (x1 : ByteArray) (r : (List ByteArray) × Bool) (h : impl_PartsOf N x1 = some r) : Says Tryz.prog 19 [VS x1] 0 [] (.tup [.sl 0 9 0 r.1.length,VB r.2]) [(0,.vec 9 (r.1.map encS))] := by
 unfold impl_PartsOf at h
 refine Says.of_norm e Tryz.call19 e fun B hB => ?_
 have hm : B.m ≤ 1000 := by omega
 refine Run.so hm (.p2 e e (.nil (.seq (.so hm (.p3 e e e (.nil (.condO e h (fun g168 h => ?_) (fun g168 h => ?_))))))))
 ·refine Run.so hm (.p2 e e (.nil (.ret ?_)))
  obtain rfl := someO h
  exact Ends.mkG (.inl e) e (Gh.trans (Gh.trans (gh_prn [0,1] [] hB e) (gh_nil [0] [] hB e e e)) (gh_pk [0,1] [10000000] hB e e e e)) e e
 ·refine Run.skip (.seqO h (fun v198 => [(0,VS x1)]) (fun (v198 : Unit) => []) (fun h => ?_) (fun v198 h => ?_))
  ·refine Run.so hm (.p e (.nil (.block ?_)))
   obtain ⟨res214,h,hk214⟩ := bindO h
   refine Run.loop (n := N) (fun m214 fr σ => ∃ (x200 : Int),impl_PartsOf_l1 N x1 m214 x200 = some res214 ∧ fr = [(0,VS x1),(4,VI x200)] ∧ σ = []) (gh_pk [0,4] [] hB e e e e) ⟨_,h,e,e⟩ ?_
   rintro m214 fr σ ⟨x200,h,rfl,rfl⟩
   obtain _ | m214 := m214
   ·rw [impl_PartsOf_l1] at h; cases h
   rw [impl_PartsOf_l1] at h
   refine Run.seq (.so hm (.p3 e e e (.p e (.nil (.condO e h (fun g217 h => ?_) (fun g217 h => ?_))))))
   ·refine Run.skip (.seq (.block (.so hm (.p2 e e ?_))))
    obtain ⟨x225,hx225,h⟩ := bindO h
    refine Ops.z 25608 (Ev.ixS e e hx225) e e (.p e ?_)
    obtain ⟨y226,hy226,h⟩ := bindO h
    refine Ops.z 25640 (Ev.call [] [] 0 (sem_impl_within _ _ _ _ _ hy226) e e (.d2 (.d1 .nil)) e (.inl e) e e) e e (.p e (.nil (.condO e h (fun g227 h => ?_) (fun g227 h => ?_))))
    ·refine Run.so hm (.p2 e e (.nil (.ret ?_)))
     obtain rfl := someO h
     have h := hk214
     replace h := inlO h
     obtain rfl := someO h
     exact Ends.mkG (.inl e) e (Gh.trans (Gh.trans (gh_prn [0,1] [] hB e) (gh_nil [0] [] hB e e e)) (gh_pk [0,1] [10000000] hB e e e e)) e e
    ·exact Run.skip (.ops hm (.p3 e e e (.nil (⟨m214,Nat.lt_succ_self m214,_,_,(gh_pk [0,4] [] hB e e e e),_,h,e,e⟩))))
   ·refine Run.exit ?_
    obtain rfl := someO h
    have h := hk214
    replace h := inrO h
    exact ⟨_,_,(gh_pk [0] [] hB e e e e),(),h,e,e⟩
  ·refine Run.so hm (.p e ?_)
   obtain ⟨y231,hy231,h⟩ := bindO h
   refine Ops.z 33784 (Ev.call [] [] 1 (sem_strings_Fields _ _ _ hy231) e e (.d1 .nil) e (.inl e) e e) e e (.p e (.nil (.seq (.so hm (.p3 e e e (.nil (.condO e h (fun g233 h => ?_) (fun g233 h => ?_))))))))
   ·refine Run.so hm (.p2 e e (.nil (.ret ?_)))
    obtain rfl := someO h
    exact Ends.mkG (.inl e) e (Gh.trans (Gh.trans (gh_prn [0,1] [] hB e) (gh_nil [0] [] hB e e e)) (gh_pk [0,1] [10000000] hB e e e e)) e e
   ·refine Run.skip (.so hm (.p3 e e e (.nil (.ret ?_))))
    obtain rfl := someO h
    exact Ends.mkG (.inl e) e (gh_pk [0,1] [33784] hB e e e e) e e
def internal_stringslite_HasPrefix (N : Nat) (x1 : ByteArray) (x2 : ByteArray) : Option (Bool) :=
 (if (decide ((x1.size : Int) ≥ (x2.size : Int))) = true then
 (stake? x1 (x2.size : Int)).bind fun x107 =>
 some (decide (x107 = x2))
 else
 some false)
theorem sem_internal_stringslite_HasPrefix (N : Nat) (x1 : ByteArray) (x2 : ByteArray) (r : Bool) (h : internal_stringslite_HasPrefix N x1 x2 = some r) : Says Tryz.prog 37 [VS x1,VS x2] 0 [] (VB r) [] := by
 unfold internal_stringslite_HasPrefix at h
 refine Says.of_norm e Tryz.call37 e fun B hB => ?_
 have hm : B.m ≤ 1000 := by omega
 refine Run.so hm (.p e (.nil (.so hm (.p3 e e e (.p3 e e e (.askO (x := .t 10) e h (fun g106 h => ?_) (fun g106 h => ?_)))))))
 ·refine Ops.gp e g106 e (.gp e g106 e (.gp e g106 e ?_))
  obtain ⟨x107,hx107,h⟩ := bindO h
  refine Ops.gs (s := 5240) e g106 (Ev.ssH e e hx107) e e (.gp e g106 e (.gp e g106 e (.z 5288 (.pkT e g106 e) e e (.p e (.nil (.ret ?_))))))
  obtain rfl := someO h
  exact Ends.mkG (.inl e) e (gh_pk [0] [] hB e e e e) e e
 ·refine Ops.gn e g106 (.gn e g106 (.gn e g106 (.gn e g106 (.gn e g106 (.gn e g106 (.z 5288 (.pkF e g106 e) e e (.p e (.nil (.ret ?_)))))))))
  obtain rfl := someO h
  exact Ends.mkG (.inl e) e (gh_pk [0] [] hB e e e e) e e
def strings_HasPrefix (N : Nat) (x1 : ByteArray) (x2 : ByteArray) : Option (Bool) :=
 (internal_stringslite_HasPrefix N x1 x2).bind fun y103 =>
 some y103
theorem sem_strings_HasPrefix (N : Nat) (x1 : ByteArray) (x2 : ByteArray) (r : Bool) (h : strings_HasPrefix N x1 x2 = some r) : Says Tryz.prog 20 [VS x1,VS x2] 0 [] (VB r) [] := by
 unfold strings_HasPrefix at h
 refine Says.of_norm e Tryz.call20 e fun B hB => ?_
 have hm : B.m ≤ 1000 := by omega
 refine Run.so hm (.p e (.nil (.so hm (.p2 e e ?_))))
 obtain ⟨y103,hy103,h⟩ := bindO h
 refine Ops.z 5128 (Ev.call [] [] 0 (sem_internal_stringslite_HasPrefix _ _ _ _ hy103) e e (.d2 .nil) e (.inl e) e e) e e (.p e (.nil (.ret ?_)))
 obtain rfl := someO h
 exact Ends.mkG (.inl e) e (gh_pk [0] [] hB e e e e) e e
def impl_ReadDecimal (N : Nat) (x1 : ByteArray) : Option (Int × Bool) := rdec? x1
theorem sem_impl_ReadDecimal (N : Nat) (x1 : ByteArray) (r : Int × Bool) (h : impl_ReadDecimal N x1 = some r) : Says Tryz.prog 38 [VS x1] 0 [] (.tup [VI r.1,VB r.2]) [] := says_rdec Tryz.call38 Pe.ins38 (g := 7) (by kernel_rfl) (.head _) (g1 := 5) (by kernel_rfl) (.tail _ (.head _)) (g2 := 6) (by kernel_rfl) (.tail _ (.tail _ (.head _))) h
def impl_ConfOk_l1 (N : Nat) (x1 : (List Int)) : Nat → Int → Option ((Bool) ⊕ (Unit))
 | 0,_ => none
 | m + 1,x218 =>
 (if (decide (x218 < (x1.length : Int))) = true then
 (at? x1 x218).bind fun x242 =>
 (impl_within N x242 1 4).bind fun y247 =>
 (if (!y247) = true then
 some (Sum.inl false)
 else
 (if (decide (x218 > 0)) = true then
 (at? x1 (w64 (x218 - 1))).bind fun x250 =>
 (if (decide (x250 ≥ x242)) = true then
 some (Sum.inl false)
 else
 impl_ConfOk_l1 N x1 m (w64 (x218 + 1)))
 else
 impl_ConfOk_l1 N x1 m (w64 (x218 + 1))))
 else
 some (Sum.inr ()))
def impl_ConfOk_l1_r (N : Nat) (x1 : (List Int)) : (List Int) → Int → Option ((Bool) ⊕ (Unit))
 | [],x218 =>
 some (Sum.inr ())
 | hd :: tl,x218 =>
 (some hd).bind fun x242 =>
 (impl_within N x242 1 4).bind fun y247 =>
 (if (!y247) = true then
 some (Sum.inl false)
 else
 (if (decide (x218 > 0)) = true then
 (at? x1 (w64 (x218 - 1))).bind fun x250 =>
 (if (decide (x250 ≥ x242)) = true then
 some (Sum.inl false)
 else
 impl_ConfOk_l1_r N x1 tl (w64 (x218 + 1)))
 else
 impl_ConfOk_l1_r N x1 tl (w64 (x218 + 1))))
theorem impl_ConfOk_l1_rng (N : Nat) (x1 : (List Int)) (hx : x1.length ≤ 1099511627776) : ∀ (d k m : Nat),x1.length = k + d → d < m → impl_ConfOk_l1 N x1 m (k : Int) = impl_ConfOk_l1_r N x1 (x1.drop k) (k : Int) := by
 intro d
 induction d with
 | zero =>
  intro k m hd hm
  obtain ⟨m,rfl⟩ : ∃ q,m = q + 1 := ⟨m - 1,by omega⟩
  rw [impl_ConfOk_l1,if_neg (by simp; omega),List.drop_eq_nil_of_le (by omega),impl_ConfOk_l1_r]
 | succ d ih =>
  intro k m hd hm
  obtain ⟨m,rfl⟩ : ∃ q,m = q + 1 := ⟨m - 1,by omega⟩
  have hk : k < x1.length := by omega
  rw [impl_ConfOk_l1,if_pos (by simp; omega),List.drop_eq_getElem_cons hk,impl_ConfOk_l1_r]
  have h1 := at_lt hk
  have h2 := w64_succ (k := k) (by omega)
  have h3 := ih (k + 1) m
  simp only [h1,h2,h3 (by omega) (by omega)]
theorem impl_ConfOk_l1_eq {N : Nat} (x1 : (List Int)) (hx : x1.length ≤ 1099511627776) (hN : x1.length < N) : impl_ConfOk_l1 N x1 N 0 = impl_ConfOk_l1_r N x1 x1 0 := impl_ConfOk_l1_rng N x1 hx x1.length 0 N (by omega) hN
def impl_ConfOk (N : Nat) (x1 : (List Int)) : Option (Bool) :=
 joinP (fun (v214 : Unit) =>
 (impl_within N (x1.length : Int) 1 4).bind fun y253 =>
 some y253) fun j214 =>
 (impl_ConfOk_l1 N x1 N 0).bind (Sum.elim (fun v234 => some v234) (fun (v235 : Unit) => j214 ()))
theorem sem_impl_ConfOk (N : Nat) (x1 : (List Int)) (r : Bool) (h : impl_ConfOk N x1 = some r) : Says Tryz.prog 44 [RO 3 (x1.map encI)] 0 [] (VB r) [] := by
 unfold impl_ConfOk at h
 refine Says.of_norm e Tryz.call44 e fun B hB => ?_
 have hm : B.m ≤ 1000 := by omega
 refine Run.so hm (.p e (.nil (.seqO h (fun v214 => [(0,RO 3 (x1.map encI))]) (fun (v214 : Unit) => []) (fun h => ?_) (fun v214 h => ?_))))
 ·refine Run.so hm (.p e (.z 5112 (Ev.lnF e) e e (.p e (.nil (.block ?_)))))
  obtain ⟨res235,h,hk235⟩ := bindO h
  refine Run.loop (n := N) (fun m235 fr σ => ∃ (x218 : Int),impl_ConfOk_l1 N x1 m235 x218 = some res235 ∧ fr = [(0,RO 3 (x1.map encI)),(5,RO 3 (x1.map encI)),(6,VI (x1.length : Int)),(7,VI x218)] ∧ σ = []) (gh_pk [0,5,6,7] [] hB e e e e) ⟨_,h,e,e⟩ ?_
  rintro m235 fr σ ⟨x218,h,rfl,rfl⟩
  obtain _ | m235 := m235
  ·rw [impl_ConfOk_l1] at h; cases h
  rw [impl_ConfOk_l1] at h
  refine Run.so hm (.p e (.nil (.seq (.condO e h (fun g238 h => ?_) (fun g238 h => ?_)))))
  ·refine Run.skip (.seq (.block (.so hm (.p e ?_))))
   obtain ⟨x242,hx242,h⟩ := bindO h
   refine Ops.z 13304 (Ev.iaF e e hx242) e e (.p3 e e e (.nil (.so hm (.p e ?_))))
   obtain ⟨y247,hy247,h⟩ := bindO h
   refine Ops.z 17400 (Ev.call [] [] 0 (sem_impl_within _ _ _ _ _ hy247) e e (.d2 (.d1 .nil)) e (.inl e) e e) e e (.p2 e e (.askO (x := .t 15) e h (fun g248 h => ?_) (fun g248 h => ?_)))
   ·refine Ops.gn e g248 (.gn e g248 (.gn e g248 (.gu e (.gu e (.gu e (.gu e (.gu e (.gu e (.gu e (.gn e g248 (.z 17624 (.pkT e g248 e) e e (.nil (.condT e e (.so hm (.p e (.nil (.ret ?_)))))))))))))))))
    obtain rfl := someO h
    have h := hk235
    replace h := inlO h
    obtain rfl := someO h
    exact Ends.mkG (.inl e) e (gh_pk [0] [] hB e e e e) e e
   ·refine Ops.gp e g248 e (.gp e g248 e (.gp e g248 e (.askO (x := .t 18) e h (fun g249 h => ?_) (fun g249 h => ?_))))
    ·refine Ops.gp e g249 e (.gp e g249 e (.gp e g249 e ?_))
     obtain ⟨x250,hx250,h⟩ := bindO h
     refine Ops.gs (s := 17544) e g249 (Ev.iaF e e hx250) e e (.gp e g249 e (.gp e g249 e (.gp e g249 e (.gs (s := 17608) e g248 (.pkT e g249 e) e e (.z 17624 (.pkF e g248 e) e e (.nil (.condO e h (fun g251 h => ?_) (fun g251 h => ?_))))))))
     ·refine Run.so hm (.p e (.nil (.ret ?_)))
      obtain rfl := someO h
      have h := hk235
      replace h := inlO h
      obtain rfl := someO h
      exact Ends.mkG (.inl e) e (gh_pk [0] [] hB e e e e) e e
     ·exact Run.skip (.ops hm (.p2 e e (.nil (⟨m235,Nat.lt_succ_self m235,_,_,(gh_pk [0,5,6,7] [] hB e e e e),_,h,e,e⟩))))
    ·exact Ops.gn e g249 (.gn e g249 (.gn e g249 (.gn e g249 (.gn e g249 (.gn e g249 (.gn e g249 (.gs (s := 17608) e g248 (.pkF e g249 e) e e (.z 17624 (.pkF e g248 e) e e (.nil (.condF e e (.skip (.ops hm (.p2 e e (.nil (⟨m235,Nat.lt_succ_self m235,_,_,(gh_pk [0,5,6,7] [] hB e e e e),_,h,e,e⟩)))))))))))))))
  ·refine Run.exit ?_
   obtain rfl := someO h
   have h := hk235
   replace h := inrO h
   exact ⟨_,_,(gh_pk [0] [] hB e e e e),(),h,e,e⟩
 ·refine Run.so hm (.p e (.z 29688 (Ev.lnF e) e e ?_))
  obtain ⟨y253,hy253,h⟩ := bindO h
  refine Ops.z 29704 (Ev.call [] [] 0 (sem_impl_within _ _ _ _ _ hy253) e e (.d2 (.d1 .nil)) e (.inl e) e e) e e (.p e (.nil (.ret ?_)))
  obtain rfl := someO h
  exact Ends.mkG (.inl e) e (gh_pk [0] [] hB e e e e) e e
def impl_confOf_l1 (N : Nat) (x1 : ByteArray) : Nat → Int → (List Int) → Option ((List Int))
 | 0,_,_ => none
 | m + 1,x180,x181 =>
 (if (decide (x180 < (x1.size : Int))) = true then
 (sat? x1 x180).bind fun x202 =>
 (cat? x181 ([w64 ((w64 (x202)) - 48)] : List Int)).bind fun x203 =>
 impl_confOf_l1 N x1 m (w64 (x180 + 1)) x203
 else
 some x181)
def impl_confOf (N : Nat) (x1 : ByteArray) : Option ((List Int) × Bool) :=
 joinP (fun (v178 : (List Int)) =>
 (impl_ConfOk N v178).bind fun y205 =>
 some (v178,y205)) fun j178 =>
 (impl_confOf_l1 N x1 N 0 ([] : (List Int))).bind (fun v192 => j178 v192)
theorem sem_impl_confOf (N : Nat) (x1 : ByteArray) (r : (List Int) × Bool) (h : impl_confOf N x1 = some r) : Says Tryz.prog 39 [VS x1] 0 [] (.tup [.sl 0 3 0 r.1.length,VB r.2]) [(0,.vec 3 (r.1.map encI))] := by
 unfold impl_confOf at h
 refine Says.of_norm e Tryz.call39 e fun B hB => ?_
 have hm : B.m ≤ 1000 := by omega
 refine Run.so hm (.p2 e e (.nil (.so hm (.p e (.nil (.seqO h (fun v178 => [(4,.sl 0 3 0 v178.length)]) (fun (v178 : (List Int)) => [(0,.vec 3 (v178.map encI))]) (fun h => ?_) (fun v178 h => ?_)))))))
 ·refine Run.so hm (.p e (.nil (.block ?_)))
  obtain ⟨res192,h,hk192⟩ := bindO h
  refine Run.loop (n := N) (fun m192 fr σ => ∃ (x180 : Int),∃ (x181 : (List Int)),impl_confOf_l1 N x1 m192 x180 x181 = some res192 ∧ fr = [(0,VS x1),(4,.sl 0 3 0 x181.length),(5,VI x180)] ∧ σ = [(0,.vec 3 (x181.map encI))]) (Gh.trans (Gh.trans (gh_prn [0,4,5] [] hB e) (gh_nil [4] [] hB e e e)) (gh_pk [0,4,5] [10000000] hB e e e e)) ⟨_,_,h,e,e⟩ ?_
  rintro m192 fr σ ⟨x180,x181,h,rfl,rfl⟩
  obtain _ | m192 := m192
  ·rw [impl_confOf_l1] at h; cases h
  rw [impl_confOf_l1] at h
  refine Run.seq (.so hm (.p3 e e e (.p e (.nil (.condO e h (fun g195 h => ?_) (fun g195 h => ?_))))))
  ·refine Run.skip (.seq (.block (.ops hm (.p3 e e e ?_))))
   obtain ⟨x202,hx202,h⟩ := bindO h
   refine Ops.z 21528 (Ev.ixS e e hx202) e e (.p2 e e (.z 21576 (Ev.bsW (ys := ([w64 ((w64 (x202)) - 48)] : List Int)) (f := encI) e (.d1 .nil) e e e e e) e e ?_))
   obtain ⟨x203,hx203,h⟩ := bindO h
   exact Ops.z 21592 (Ev.apW (f := encI) (ontoW e e e) (addsW e e e (fun _ => e)) e bt3 e hx203) e e (.p e (.nil (.ops hm (.p3 e e e (.nil (⟨m192,Nat.lt_succ_self m192,_,_,(gh_pk [0,4,5] [21592] hB e e e e),_,_,h,e,e⟩))))))
  ·refine Run.exit ?_
   obtain rfl := someO h
   have h := hk192
   exact ⟨_,_,(gh_pk [4] [0] hB e e e e),_,h,e,e⟩
 ·refine Run.so hm (.p2 e e ?_)
  obtain ⟨y205,hy205,h⟩ := bindO h
  refine Ops.z 25608 (Ev.call [] [0] 0 (sem_impl_ConfOk _ _ _ hy205) e e (.cons (.borrow e (by decide) (lendW (fun _ => e) _ e)) .nil) e (.inr ⟨e,ownL_root trivial⟩) e e) e e ?_
  refine Ops.p e (.p e (.nil (.ret ?_)))
  obtain rfl := someO h
  exact Ends.mkG (.inl e) e (gh_pk [0,1] [0] hB e e e e) e e
def impl_ManifestOk_l1 (N : Nat) (x1 : Manifest) : Nat → Int → Option ((Bool) ⊕ (Unit))
 | 0,_ => none
 | m + 1,x255 =>
 (if (decide (x255 < (x1.Segs.length : Int))) = true then
 (at? x1.Segs x255).bind fun x286 =>
 (impl_within N x286 0 999).bind fun y292 =>
 (if (!y292) = true then
 some (Sum.inl false)
 else
 (if (decide (x286 ≥ x1.Next)) = true then
 some (Sum.inl false)
 else
 (if (decide (x255 > 0)) = true then
 (at? x1.Segs (w64 (x255 - 1))).bind fun x296 =>
 (if (decide (x296 ≥ x286)) = true then
 some (Sum.inl false)
 else
 impl_ManifestOk_l1 N x1 m (w64 (x255 + 1)))
 else
 impl_ManifestOk_l1 N x1 m (w64 (x255 + 1)))))
 else
 some (Sum.inr ()))
def impl_ManifestOk_l1_r (N : Nat) (x1 : Manifest) : (List Int) → Int → Option ((Bool) ⊕ (Unit))
 | [],x255 =>
 some (Sum.inr ())
 | hd :: tl,x255 =>
 (some hd).bind fun x286 =>
 (impl_within N x286 0 999).bind fun y292 =>
 (if (!y292) = true then
 some (Sum.inl false)
 else
 (if (decide (x286 ≥ x1.Next)) = true then
 some (Sum.inl false)
 else
 (if (decide (x255 > 0)) = true then
 (at? x1.Segs (w64 (x255 - 1))).bind fun x296 =>
 (if (decide (x296 ≥ x286)) = true then
 some (Sum.inl false)
 else
 impl_ManifestOk_l1_r N x1 tl (w64 (x255 + 1)))
 else
 impl_ManifestOk_l1_r N x1 tl (w64 (x255 + 1)))))
theorem impl_ManifestOk_l1_rng (N : Nat) (x1 : Manifest) (hx : x1.Segs.length ≤ 1099511627776) : ∀ (d k m : Nat),x1.Segs.length = k + d → d < m → impl_ManifestOk_l1 N x1 m (k : Int) = impl_ManifestOk_l1_r N x1 (x1.Segs.drop k) (k : Int) := by
 intro d
 induction d with
 | zero =>
  intro k m hd hm
  obtain ⟨m,rfl⟩ : ∃ q,m = q + 1 := ⟨m - 1,by omega⟩
  rw [impl_ManifestOk_l1,if_neg (by simp; omega),List.drop_eq_nil_of_le (by omega),impl_ManifestOk_l1_r]
 | succ d ih =>
  intro k m hd hm
  obtain ⟨m,rfl⟩ : ∃ q,m = q + 1 := ⟨m - 1,by omega⟩
  have hk : k < x1.Segs.length := by omega
  rw [impl_ManifestOk_l1,if_pos (by simp; omega),List.drop_eq_getElem_cons hk,impl_ManifestOk_l1_r]
  have h1 := at_lt hk
  have h2 := w64_succ (k := k) (by omega)
  have h3 := ih (k + 1) m
  simp only [h1,h2,h3 (by omega) (by omega)]
theorem impl_ManifestOk_l1_eq {N : Nat} (x1 : Manifest) (hx : x1.Segs.length ≤ 1099511627776) (hN : x1.Segs.length < N) : impl_ManifestOk_l1 N x1 N 0 = impl_ManifestOk_l1_r N x1 x1.Segs 0 := impl_ManifestOk_l1_rng N x1 hx x1.Segs.length 0 N (by omega) hN
def impl_ManifestOk (N : Nat) (x1 : Manifest) : Option (Bool) :=
 joinP (fun (v252 : Unit) =>
 (impl_within N (x1.Segs.length : Int) 1 8).bind fun y306 =>
 (if y306 = true then
 (if (decide (x1.Next ≤ 1000)) = true then
 (impl_within N x1.Base 0 100000).bind fun y309 =>
 (if y309 = true then
 (impl_within N x1.BaseTerm 0 100000).bind fun y311 =>
 (if y311 = true then
 (impl_ConfOk N x1.Conf).bind fun y313 =>
 some y313
 else
 some false)
 else
 some false)
 else
 some false)
 else
 some false)) fun j252 =>
 (impl_ManifestOk_l1 N x1 N 0).bind (Sum.elim (fun v278 => some v278) (fun (v279 : Unit) => j252 ()))
theorem sem_impl_ManifestOk (N : Nat) (x1 : Manifest) (r : Bool) (h : impl_ManifestOk N x1 = some r) : Says Tryz.prog 184 [.agg [RO 3 (x1.Segs.map encI),VI x1.Next,VI x1.Base,VI x1.BaseTerm,RO 3 (x1.Conf.map encI)]] 0 [] (VB r) [] := by
 unfold impl_ManifestOk at h
 refine Says.of_norm e Tryz.call184 e fun B hB => ?_
 have hm : B.m ≤ 1000 := by omega
 refine Run.so hm (.z 1000 (.bx e e) e e (.p e (.nil (.seqO h (fun v252 => [(1,.ptr 0 0)]) (fun (v252 : Unit) => [(0,.box [RO 3 (x1.Segs.map encI),VI x1.Next,VI x1.Base,VI x1.BaseTerm,RO 3 (x1.Conf.map encI)])]) (fun h => ?_) (fun v252 h => ?_)))))
 ·refine Run.so hm (.p2 e e (.z 5128 (Ev.lnF e) e e (.p e (.nil (.block ?_)))))
  obtain ⟨res279,h,hk279⟩ := bindO h
  refine Run.loop (n := N) (fun m279 fr σ => ∃ (x255 : Int),impl_ManifestOk_l1 N x1 m279 x255 = some res279 ∧ fr = [(1,.ptr 0 0),(6,RO 3 (x1.Segs.map encI)),(7,VI (x1.Segs.length : Int)),(8,VI x255)] ∧ σ = [(0,.box [RO 3 (x1.Segs.map encI),VI x1.Next,VI x1.Base,VI x1.BaseTerm,RO 3 (x1.Conf.map encI)])]) (gh_pk [1,6,7,8] [1000] hB e e e e) ⟨_,h,e,e⟩ ?_
  rintro m279 fr σ ⟨x255,h,rfl,rfl⟩
  obtain _ | m279 := m279
  ·rw [impl_ManifestOk_l1] at h; cases h
  rw [impl_ManifestOk_l1] at h
  refine Run.so hm (.p e (.nil (.seq (.condO e h (fun g282 h => ?_) (fun g282 h => ?_)))))
  ·refine Run.skip (.seq (.block (.so hm (.p e ?_))))
   obtain ⟨x286,hx286,h⟩ := bindO h
   refine Ops.z 13304 (Ev.iaF e e hx286) e e (.p3 e e e (.nil (.so hm (.p e ?_))))
   obtain ⟨y292,hy292,h⟩ := bindO h
   refine Ops.z 17400 (Ev.call [] [] 0 (sem_impl_within _ _ _ _ _ hy292) e e (.d2 (.d1 .nil)) e (.inl e) e e) e e (.p2 e e (.askO (x := .t 16) e h (fun g293 h => ?_) (fun g293 h => ?_)))
   ·refine Ops.gn e g293 (.gn e g293 (.gn e g293 (.gn e g293 (.z 17512 (.pkT e g293 e) e e (.p e (.gn e e (.gn e e (.gn e e (.gu e (.gu e (.gu e (.gu e (.gu e (.gu e (.gu e (.gu e (.gn e e (.z 17736 (.pkT e e e) e e (.nil (.condT e e (.so hm (.p e (.nil (.ret ?_))))))))))))))))))))))))
    obtain rfl := someO h
    have h := hk279
    replace h := inlO h
    obtain rfl := someO h
    exact Ends.mkG (.inl e) e (gh_pk [0] [] hB e e e e) e e
   ·refine Ops.gp e g293 e (.gp e g293 e (.gp e g293 e (.gp e g293 e (.z 17512 (.pkF e g293 e) e e (.p e (.askO (x := .t 22) e h (fun g294 h => ?_) (fun g294 h => ?_)))))))
    ·refine Ops.gn e g294 (.gn e g294 (.gn e g294 (.gu e (.gu e (.gu e (.gu e (.gu e (.gu e (.gu e (.gu e (.gn e g294 (.z 17736 (.pkT e g294 e) e e (.nil (.condT e e (.so hm (.p e (.nil (.ret ?_))))))))))))))))))
     obtain rfl := someO h
     have h := hk279
     replace h := inlO h
     obtain rfl := someO h
     exact Ends.mkG (.inl e) e (gh_pk [0] [] hB e e e e) e e
    ·refine Ops.gp e g294 e (.gp e g294 e (.gp e g294 e (.askO (x := .t 25) e h (fun g295 h => ?_) (fun g295 h => ?_))))
     ·refine Ops.gp e g295 e (.gp e g295 e (.gp e g295 e (.gp e g295 e ?_)))
      obtain ⟨x296,hx296,h⟩ := bindO h
      refine Ops.gs (s := 17656) e g295 (Ev.iaF e e hx296) e e (.gp e g295 e (.gp e g295 e (.gp e g295 e (.gs (s := 17720) e g294 (.pkT e g295 e) e e (.z 17736 (.pkF e g294 e) e e (.nil (.condO e h (fun g297 h => ?_) (fun g297 h => ?_))))))))
      ·refine Run.so hm (.p e (.nil (.ret ?_)))
       obtain rfl := someO h
       have h := hk279
       replace h := inlO h
       obtain rfl := someO h
       exact Ends.mkG (.inl e) e (gh_pk [0] [] hB e e e e) e e
      ·exact Run.skip (.ops hm (.p2 e e (.nil (⟨m279,Nat.lt_succ_self m279,_,_,(gh_pk [1,6,7,8] [0] hB e e e e),_,h,e,e⟩))))
     ·exact Ops.gn e g295 (.gn e g295 (.gn e g295 (.gn e g295 (.gn e g295 (.gn e g295 (.gn e g295 (.gn e g295 (.gs (s := 17720) e g294 (.pkF e g295 e) e e (.z 17736 (.pkF e g294 e) e e (.nil (.condF e e (.skip (.ops hm (.p2 e e (.nil (⟨m279,Nat.lt_succ_self m279,_,_,(gh_pk [1,6,7,8] [0] hB e e e e),_,h,e,e⟩))))))))))))))))
  ·refine Run.exit ?_
   obtain rfl := someO h
   have h := hk279
   replace h := inrO h
   exact ⟨_,_,(gh_pk [1] [0] hB e e e e),(),h,e,e⟩
 ·refine Run.so hm (.p2 e e (.z 29704 (Ev.lnF e) e e ?_))
  obtain ⟨y306,hy306,h⟩ := bindO h
  refine Ops.z 29720 (Ev.call [] [] 0 (sem_impl_within _ _ _ _ _ hy306) e e (.d2 (.d1 .nil)) e (.inl e) e e) e e (.p e (.askO (x := .t 41) e h (fun g307 h => ?_) (fun g307 h => ?_)))
  ·refine Ops.gp e g307 e (.gp e g307 e (.gp e g307 e (.z 29800 (.pkT e g307 e) e e (.p e (.askO (x := .t 46) e h (fun g308 h => ?_) (fun g308 h => ?_))))))
   ·refine Ops.gp e g308 e (.gp e g308 e ?_)
    obtain ⟨y309,hy309,h⟩ := bindO h
    refine Ops.gs (s := 29864) e g308 (Ev.call [] [] 0 (sem_impl_within _ _ _ _ _ hy309) e e (.d2 (.d1 .nil)) e (.inl e) e e) e e (.z 29880 (.pkT e g308 e) e e (.p e (.askO (x := .t 51) e h (fun g310 h => ?_) (fun g310 h => ?_))))
    ·refine Ops.gp e g310 e (.gp e g310 e ?_)
     obtain ⟨y311,hy311,h⟩ := bindO h
     refine Ops.gs (s := 29944) e g310 (Ev.call [] [] 0 (sem_impl_within _ _ _ _ _ hy311) e e (.d2 (.d1 .nil)) e (.inl e) e e) e e (.z 29960 (.pkT e g310 e) e e (.p e (.askO (x := .t 56) e h (fun g312 h => ?_) (fun g312 h => ?_))))
     ·refine Ops.gp e g312 e (.gp e g312 e ?_)
      obtain ⟨y313,hy313,h⟩ := bindO h
      refine Ops.gs (s := 30024) e g312 (Ev.call [] [] 0 (sem_impl_ConfOk _ _ _ hy313) e e (.d1 .nil) e (.inl e) e e) e e (.z 30040 (.pkT e g312 e) e e (.p e (.nil (.ret ?_))))
      obtain rfl := someO h
      exact Ends.mkG (.inl e) e (gh_pk [0] [] hB e e e e) e e
     ·refine Ops.gn e g312 (.gn e g312 (.gn e g312 (.z 30040 (.pkF e g312 e) e e (.p e (.nil (.ret ?_))))))
      obtain rfl := someO h
      exact Ends.mkG (.inl e) e (gh_pk [0] [] hB e e e e) e e
    ·refine Ops.gn e g310 (.gn e g310 (.gn e g310 (.z 29960 (.pkF e g310 e) e e (.p e (.gn e e (.gn e e (.gn e e (.z 30040 (.pkF e e e) e e (.p e (.nil (.ret ?_)))))))))))
     obtain rfl := someO h
     exact Ends.mkG (.inl e) e (gh_pk [0] [] hB e e e e) e e
   ·refine Ops.gn e g308 (.gn e g308 (.gn e g308 (.z 29880 (.pkF e g308 e) e e (.p e (.gn e e (.gn e e (.gn e e (.z 29960 (.pkF e e e) e e (.p e (.gn e e (.gn e e (.gn e e (.z 30040 (.pkF e e e) e e (.p e (.nil (.ret ?_))))))))))))))))
    obtain rfl := someO h
    exact Ends.mkG (.inl e) e (gh_pk [0] [] hB e e e e) e e
  ·refine Ops.gn e g307 (.gn e g307 (.gn e g307 (.z 29800 (.pkF e g307 e) e e (.p e (.gn e e (.gn e e (.gn e e (.z 29880 (.pkF e e e) e e (.p e (.gn e e (.gn e e (.gn e e (.z 29960 (.pkF e e e) e e (.p e (.gn e e (.gn e e (.gn e e (.z 30040 (.pkF e e e) e e (.p e (.nil (.ret ?_)))))))))))))))))))))
   obtain rfl := someO h
   exact Ends.mkG (.inl e) e (gh_pk [0] [] hB e e e e) e e
def slices_Grow_int (N : Nat) (x1 : Int) : Option (Nat × (List Int)) :=
 (if (decide (x1 < 0)) = true then
 none
 else
 joinP (fun (v120 : (List Int)) =>
 some (0,v120)) fun j120 =>
 (if (decide ((w64 (x1 - (w64 (0 - 0)))) > 0)) = true then
 (mkz? (α := Int) 0 (w64 (x1 - (w64 (0 - 0))))).bind fun x124 =>
 (take? x124 0).bind fun x125 =>
 j120 x124
 else
 j120 ([] : (List Int))))
theorem sem_slices_Grow_int (N : Nat) (x1 : Int) (r : Nat × (List Int)) (h : slices_Grow_int N x1 = some r) : Says Tryz.prog 225 [NI 3,VI x1] 0 [] (.sl 0 3 0 r.1) [(0,.vec 3 (r.2.map encI))] := by
 unfold slices_Grow_int at h
 refine Says.of_norm e Tryz.call225 e fun B hB => ?_
 have hm : B.m ≤ 1000 := by omega
 refine Run.so hm (.p e (.nil (.seq (.so hm (.p2 e e (.nil (.condO e h (fun g114 h => ?_) (fun g114 h => ?_))))))))
 ·exact Run.ops hm (noO h)
 ·refine Run.skip (.seqO h (fun v120 => [(0,.sl 0 3 0 0)]) (fun (v120 : (List Int)) => [(0,.vec 3 (v120.map encI))]) (fun h => ?_) (fun v120 h => ?_))
  ·refine Run.so hm (.p3 e e e (.p3 e e e (.p2 e e (.nil (.so hm (.p2 e e (.nil (.condO e h (fun g121 h => ?_) (fun g121 h => ?_)))))))))
   ·refine Run.ops hm (.p3 e e e (.z 21528 (Ev.slNh e e) e e (.p e ?_)))
    obtain ⟨x124,hx124,h⟩ := bindO h
    refine Ops.z 21560 (Ev.apzW (f := encI) (zv := 0) e e e bt3 e hx124) e e (.p2 e e ?_)
    obtain ⟨x125,hx125,h⟩ := bindO h
    exact Ops.z 21608 (Ev.slWh (xs := x124) e e e hx125) e e (.p e (.nil (⟨_,_,(gh_pk [0] [21560] hB e e e e),_,h,e,e⟩)))
   ·exact Run.skip (⟨_,_,(Gh.trans (Gh.trans (gh_prn [0] [] hB e) (gh_nil [0] [] hB e e e)) (gh_pk [0] [10000000] hB e e e e)),_,h,e,e⟩)
  ·refine Run.so hm (.p2 e e (.nil (.ret ?_)))
   obtain rfl := someO h
   exact Ends.mkG (.inl e) e (gh_pk [0] [0] hB e e e e) e e
def slices_Concat_int_l1 (N : Nat) (x1 : (List (List Int))) : Nat → Int → Int → Option (Int)
 | 0,_,_ => none
 | m + 1,x225,x228 =>
 (if (decide (x228 < (x1.length : Int))) = true then
 (at? x1 x228).bind fun x243 =>
 (if (decide ((w64 (x225 + (x243.length : Int))) < 0)) = true then
 none
 else
 slices_Concat_int_l1 N x1 m (w64 (x225 + (x243.length : Int))) (w64 (x228 + 1)))
 else
 some x225)
def slices_Concat_int_l2 (N : Nat) (x1 : (List (List Int))) : Nat → Nat → Int → (List Int) → Option (Nat × (List Int))
 | 0,_,_,_ => none
 | m + 1,x277,x280,x281 =>
 (if (decide (x280 < (x1.length : Int))) = true then
 (at? x1 x280).bind fun x299 =>
 (le? x277 x281).bind fun x302 =>
 (cat? (x281.take x277) x299).bind fun x303 =>
 slices_Concat_int_l2 N x1 m x303.length (w64 (x280 + 1)) x303
 else
 some (x277,x281))
def slices_Concat_int (N : Nat) (x1 : (List (List Int))) : Option (Nat × (List Int)) :=
 joinP (fun (v223 : Int) =>
 (slices_Grow_int N v223).bind fun y248 =>
 joinP (fun (v276 : Nat × (List Int)) =>
 some (v276.1,v276.2)) fun j276 =>
 (slices_Concat_int_l2 N x1 N y248.1 0 y248.2).bind (fun v292 => j276 (v292.1,v292.2))) fun j223 =>
 (slices_Concat_int_l1 N x1 N 0 0).bind (fun v236 => j223 v236)
theorem sem_slices_Concat_int (N : Nat) (x1 : (List (List Int))) (r : Nat × (List Int)) (h : slices_Concat_int N x1 = some r) : Says Tryz.prog 185 [RO 22 (x1.map (fun x => [.row false 3 (x.map encI)]))] 0 [] (.sl 0 3 0 r.1) [(0,.vec 3 (r.2.map encI))] := by
 unfold slices_Concat_int at h
 refine Says.of_norm e Tryz.call185 e fun B hB => ?_
 have hm : B.m ≤ 1000 := by omega
 refine Run.so hm (.p e (.nil (.so hm (.p e (.nil (.seqO h (fun v223 => [(0,RO 22 (x1.map (fun x => [.row false 3 (x.map encI)]))),(3,VI v223)]) (fun (v223 : Int) => []) (fun h => ?_) (fun v223 h => ?_)))))))
 ·refine Run.so hm (.p e (.z 9208 (Ev.lnF e) e e (.p e (.nil (.block ?_)))))
  obtain ⟨res236,h,hk236⟩ := bindO h
  refine Run.loop (n := N) (fun m236 fr σ => ∃ (x225 : Int),∃ (x228 : Int),slices_Concat_int_l1 N x1 m236 x225 x228 = some res236 ∧ fr = [(0,RO 22 (x1.map (fun x => [.row false 3 (x.map encI)]))),(3,VI x225),(9,RO 22 (x1.map (fun x => [.row false 3 (x.map encI)]))),(10,VI (x1.length : Int)),(11,VI x228)] ∧ σ = []) (gh_pk [0,3,9,10,11] [] hB e e e e) ⟨_,_,h,e,e⟩ ?_
  rintro m236 fr σ ⟨x225,x228,h,rfl,rfl⟩
  obtain _ | m236 := m236
  ·rw [slices_Concat_int_l1] at h; cases h
  rw [slices_Concat_int_l1] at h
  refine Run.so hm (.p e (.nil (.seq (.condO e h (fun g239 h => ?_) (fun g239 h => ?_)))))
  ·refine Run.skip (.seq (.block (.so hm ?_)))
   obtain ⟨x243,hx243,h⟩ := bindO h
   refine Ops.z 17384 (Ev.iaF e e hx243) e e (.p2 e e (.nil (.so hm (.p2 e e (.z 21512 (Ev.lnF e) e e (.p2 e e (.nil (.so hm (.p2 e e (.nil (.condO e h (fun g244 h => ?_) (fun g244 h => ?_))))))))))))
   ·exact Run.ops hm (noO h)
   ·exact Run.skip (.ops hm (.p2 e e (.nil (⟨m236,Nat.lt_succ_self m236,_,_,(gh_pk [0,3,9,10,11] [] hB e e e e),_,_,h,e,e⟩))))
  ·refine Run.exit ?_
   obtain rfl := someO h
   have h := hk236
   exact ⟨_,_,(gh_pk [0,3] [] hB e e e e),_,h,e,e⟩
 ·refine Run.so hm (.p e ?_)
  obtain ⟨y248,hy248,h⟩ := bindO h
  refine Ops.z 37880 (Ev.call [] [] 1 (sem_slices_Grow_int _ _ _ hy248) e e (.d2 .nil) e (.inl e) e e) e e (.p e (.nil (.seqO h (fun v276 => [(6,.sl 0 3 0 v276.1)]) (fun (v276 : Nat × (List Int)) => [(0,.vec 3 (v276.2.map encI))]) (fun h => ?_) (fun v276 h => ?_))))
  ·refine Run.so hm (.p e (.z 41976 (Ev.lnF e) e e (.p e (.nil (.block ?_)))))
   obtain ⟨res292,h,hk292⟩ := bindO h
   refine Run.loop (n := N) (fun m292 fr σ => ∃ (x277 : Nat),∃ (x280 : Int),∃ (x281 : (List Int)),slices_Concat_int_l2 N x1 m292 x277 x280 x281 = some res292 ∧ fr = [(6,.sl 0 3 0 x277),(25,RO 22 (x1.map (fun x => [.row false 3 (x.map encI)]))),(26,VI (x1.length : Int)),(27,VI x280)] ∧ σ = [(0,.vec 3 (x281.map encI))]) (gh_pk [6,25,26,27] [37880] hB e e e e) ⟨_,_,_,h,e,e⟩ ?_
   rintro m292 fr σ ⟨x277,x280,x281,h,rfl,rfl⟩
   obtain _ | m292 := m292
   ·rw [slices_Concat_int_l2] at h; cases h
   rw [slices_Concat_int_l2] at h
   refine Run.so hm (.p e (.nil (.seq (.condO e h (fun g295 h => ?_) (fun g295 h => ?_)))))
   ·refine Run.skip (.seq (.block (.so hm ?_)))
    obtain ⟨x299,hx299,h⟩ := bindO h
    refine Ops.z 50152 (Ev.iaF e e hx299) e e (.p2 e e (.nil (.ops hm (.p2 e e ?_))))
    obtain ⟨x302,hx302,h⟩ := bindO h
    obtain ⟨x303,hx303,h⟩ := bindO h
    exact Ops.z 54280 (Ev.apW (f := encI) (ontoP e (le_some hx302) e) (addsF e) e bt3 e hx303) e e (.p e (.nil (.ops hm (.p2 e e (.nil (⟨m292,Nat.lt_succ_self m292,_,_,(gh_pk [6,25,26,27] [54280] hB e e e e),_,_,_,h,e,e⟩))))))
   ·refine Run.exit ?_
    obtain rfl := someO h
    have h := hk292
    exact ⟨_,_,(gh_pk [6] [0] hB e e e e),_,h,e,e⟩
  ·refine Run.so hm (.p2 e e (.nil (.ret ?_)))
   obtain rfl := someO h
   exact Ends.mkG (.inl e) e (gh_pk [0] [0] hB e e e e) e e
def impl_VarText_l1 (N : Nat) : Nat → Int → (List Int) → Option (Int × (List Int))
 | 0,_,_ => none
 | m + 1,x200,x201 =>
 (if (decide (x200 > 127)) = true then
 (intD .rem .i64 x200 128).bind fun x224 =>
 (cat? x201 ([IntKind.wrap .u8 (w64 (x224 + 128))] : List Int)).bind fun x225 =>
 (intD .quo .i64 x200 128).bind fun x227 =>
 impl_VarText_l1 N m x227 x225
 else
 some (x200,x201))
def impl_VarText (N : Nat) (x1 : Int) : Option (ByteArray × Bool) :=
 (impl_within N x1 0 1000000000).bind fun y169 =>
 (if (!y169) = true then
 some ((⟨#[]⟩ : ByteArray),false)
 else
 joinP (fun (v199 : Int × (List Int)) =>
 (cat? v199.2 ([IntKind.wrap .u8 (v199.1)] : List Int)).bind fun x229 =>
 some (strOf x229,true)) fun j199 =>
 (impl_VarText_l1 N N x1 ([] : (List Int))).bind (fun v214 => j199 (v214.1,v214.2)))
theorem sem_impl_VarText (N : Nat) (x1 : Int) (r : ByteArray × Bool) (h : impl_VarText N x1 = some r) : Says Tryz.prog 188 [VI x1] 0 [] (.tup [VS r.1,VB r.2]) [] := by
 unfold impl_VarText at h
 refine Says.of_norm e Tryz.call188 e fun B hB => ?_
 have hm : B.m ≤ 1000 := by omega
 refine Run.so hm (.p2 e e (.nil (.seq (.so hm (.p e ?_)))))
 obtain ⟨y169,hy169,h⟩ := bindO h
 refine Ops.z 5112 (Ev.call [] [] 0 (sem_impl_within _ _ _ _ _ hy169) e e (.d2 (.d1 .nil)) e (.inl e) e e) e e (.p e (.nil (.condO e h (fun g170 h => ?_) (fun g170 h => ?_))))
 ·refine Run.so hm (.p2 e e (.nil (.ret ?_)))
  obtain rfl := someO h
  exact Ends.mkG (.inl e) e (gh_pk [0,1] [] hB e e e e) e e
 ·refine Run.skip (.so hm (.p e (.nil (.seqO h (fun v199 => [(0,VI v199.1),(4,.sl 0 5 0 v199.2.length)]) (fun (v199 : Int × (List Int)) => [(0,.vec 5 (v199.2.map encU))]) (fun h => ?_) (fun v199 h => ?_)))))
  ·refine Run.block ?_
   obtain ⟨res214,h,hk214⟩ := bindO h
   refine Run.loop (n := N) (fun m214 fr σ => ∃ (x200 : Int),∃ (x201 : (List Int)),impl_VarText_l1 N m214 x200 x201 = some res214 ∧ fr = [(0,VI x200),(4,.sl 0 5 0 x201.length)] ∧ σ = [(0,.vec 5 (x201.map encU))]) (Gh.trans (Gh.trans (gh_prn [0,4] [] hB e) (gh_nil [4] [] hB e e e)) (gh_pk [0,4] [10000000] hB e e e e)) ⟨_,_,h,e,e⟩ ?_
   rintro m214 fr σ ⟨x200,x201,h,rfl,rfl⟩
   obtain _ | m214 := m214
   ·rw [impl_VarText_l1] at h; cases h
   rw [impl_VarText_l1] at h
   refine Run.seq (.so hm (.p2 e e (.nil (.condO e h (fun g217 h => ?_) (fun g217 h => ?_)))))
   ·refine Run.skip (.block (.so hm (.p2 e e ?_)))
    obtain ⟨x224,hx224,h⟩ := bindO h
    refine Ops.z 21512 (.bin e e hx224) e e (.p2 e e (.z 21560 (Ev.bsW (ys := ([IntKind.wrap .u8 (w64 (x224 + 128))] : List Int)) (f := encU) e (.d1 .nil) e e e e e) e e ?_))
    obtain ⟨x225,hx225,h⟩ := bindO h
    refine Ops.z 21576 (Ev.apW (f := encU) (ontoW e e e) (addsW e e e (fun _ => e)) e bt5 e hx225) e e (.p e (.nil (.ops hm (.p e ?_))))
    obtain ⟨x227,hx227,h⟩ := bindO h
    exact Ops.z 25592 (.bin e e hx227) e e (.p e (.nil (⟨m214,Nat.lt_succ_self m214,_,_,(gh_pk [0,4] [21576] hB e e e e),_,_,h,e,e⟩)))
   ·refine Run.exit ?_
    obtain rfl := someO h
    have h := hk214
    exact ⟨_,_,(gh_pk [0,4] [0] hB e e e e),_,h,e,e⟩
  ·refine Run.so hm (.p3 e e e (.z 29720 (Ev.bsW (ys := ([IntKind.wrap .u8 (v199.1)] : List Int)) (f := encU) e (.d1 .nil) e e e e e) e e ?_))
   obtain ⟨x229,hx229,h⟩ := bindO h
   refine Ops.z 29736 (Ev.apW (f := encU) (ontoW e e e) (addsW e e e (fun _ => e)) e bt5 e hx229) e e (.z 29752 (.sbC (addsW (f := encU) e e e (fun _ => e))) e e (.p2 e e (.nil (.ret ?_))))
   obtain rfl := someO h
   exact Ends.mkG (.inl e) e (gh_pk [0,1] [] hB e e e e) e e
def impl_vars_l1 (N : Nat) (x1 : (List Int)) : Nat → Int → (List Int) → Option ((ByteArray × Bool) ⊕ ((List Int)))
 | 0,_,_ => none
 | m + 1,x209,x210 =>
 (if (decide (x209 < (x1.length : Int))) = true then
 (at? x1 x209).bind fun x233 =>
 (impl_VarText N x233).bind fun y237 =>
 (if (!y237.2) = true then
 some (Sum.inl ((⟨#[]⟩ : ByteArray),false))
 else
 (cat? x210 (intsOf y237.1)).bind fun x241 =>
 impl_vars_l1 N x1 m (w64 (x209 + 1)) x241)
 else
 some (Sum.inr x210))
def impl_vars (N : Nat) (x1 : (List Int)) : Option (ByteArray × Bool) :=
 joinP (fun (v206 : (List Int)) =>
 some (strOf v206,true)) fun j206 =>
 (impl_vars_l1 N x1 N 0 ([] : (List Int))).bind (Sum.elim (fun v225 => some v225) (fun (v226 : (List Int)) => j206 v226))
theorem sem_impl_vars (N : Nat) (x1 : (List Int)) (r : ByteArray × Bool) (h : impl_vars N x1 = some r) : Says Tryz.prog 148 [RO 3 (x1.map encI)] 0 [] (.tup [VS r.1,VB r.2]) [] := by
 unfold impl_vars at h
 refine Says.of_norm e Tryz.call148 e fun B hB => ?_
 have hm : B.m ≤ 1000 := by omega
 refine Run.so hm (.p2 e e (.nil (.so hm (.p e (.nil (.seqO h (fun v206 => [(4,.sl 0 5 0 v206.length)]) (fun (v206 : (List Int)) => [(0,.vec 5 (v206.map encU))]) (fun h => ?_) (fun v206 h => ?_)))))))
 ·refine Run.so hm (.p e (.z 9208 (Ev.lnF e) e e (.p e (.nil (.block ?_)))))
  obtain ⟨res226,h,hk226⟩ := bindO h
  refine Run.loop (n := N) (fun m226 fr σ => ∃ (x209 : Int),∃ (x210 : (List Int)),impl_vars_l1 N x1 m226 x209 x210 = some res226 ∧ fr = [(4,.sl 0 5 0 x210.length),(9,RO 3 (x1.map encI)),(10,VI (x1.length : Int)),(11,VI x209)] ∧ σ = [(0,.vec 5 (x210.map encU))]) (Gh.trans (Gh.trans (gh_prn [4,9,10,11] [] hB e) (gh_nil [4] [] hB e e e)) (gh_pk [4,9,10,11] [10000000] hB e e e e)) ⟨_,_,h,e,e⟩ ?_
  rintro m226 fr σ ⟨x209,x210,h,rfl,rfl⟩
  obtain _ | m226 := m226
  ·rw [impl_vars_l1] at h; cases h
  rw [impl_vars_l1] at h
  refine Run.so hm (.p e (.nil (.seq (.condO e h (fun g229 h => ?_) (fun g229 h => ?_)))))
  ·refine Run.skip (.seq (.block (.so hm ?_)))
   obtain ⟨x233,hx233,h⟩ := bindO h
   refine Ops.z 17384 (Ev.iaF e e hx233) e e (.p2 e e (.nil (.so hm (.p e ?_))))
   obtain ⟨y237,hy237,h⟩ := bindO h
   refine Ops.z 21496 (Ev.call [] [] 0 (sem_impl_VarText _ _ _ hy237) e e (.d1 .nil) e (.inl e) e e) e e (.p3 e e e (.p2 e e (.nil (.seq (.so hm (.p2 e e (.nil (.condO e h (fun g239 h => ?_) (fun g239 h => ?_)))))))))
   ·refine Run.so hm (.p2 e e (.nil (.ret ?_)))
    obtain rfl := someO h
    have h := hk226
    replace h := inlO h
    obtain rfl := someO h
    exact Ends.mkG (.inl e) e (gh_pk [0,1] [] hB e e e e) e e
   ·refine Run.skip (.ops hm (.p2 e e ?_))
    obtain ⟨x241,hx241,h⟩ := bindO h
    exact Ops.z 33800 (Ev.apS (ontoW e e e) e e e hx241) e e (.p e (.nil (.ops hm (.p2 e e (.nil (⟨m226,Nat.lt_succ_self m226,_,_,(gh_pk [4,9,10,11] [33800] hB e e e e),_,_,h,e,e⟩))))))
  ·refine Run.exit ?_
   obtain rfl := someO h
   have h := hk226
   replace h := inrO h
   exact ⟨_,_,(gh_pk [4] [0] hB e e e e),_,h,e,e⟩
 ·refine Run.so hm (.p e (.z 41976 (.sbC (addsW (f := encU) e e e (fun _ => e))) e e (.p2 e e (.nil (.ret ?_)))))
  obtain rfl := someO h
  exact Ends.mkG (.inl e) e (gh_pk [0,1] [] hB e e e e) e e
def impl_SumMore_l2 (N : Nat) : Nat → Int → Int → Option (Int)
 | 0,_,_ => none
 | m + 1,x1114,x1117 =>
 (if (decide (x1117 < 8)) = true then
 joinP (fun (v1158 : Int) =>
 impl_SumMore_l2 N m v1158 (w64 (x1117 + 1))) fun j1158 =>
 (intD .rem .u32 x1114 2).bind fun x1162 =>
 (intD .quo .u32 x1114 2).bind fun x1166 =>
 (if (x1162 == 1) = true then
 (intD .xor .u32 x1166 3558460437).bind fun x1169 =>
 j1158 x1169
 else
 j1158 x1166)
 else
 some x1114)
def impl_SumMore_l1 (N : Nat) (x2 : ByteArray) : Nat → Int → Int → Option (Int)
 | 0,_,_ => none
 | m + 1,x903,x905 =>
 (if (decide (x905 < (x2.size : Int))) = true then
 joinP (fun (v1105 : Int) =>
 impl_SumMore_l1 N x2 m v1105 (w64 (x905 + 1))) fun j1105 =>
 (sat? x2 x905).bind fun x1112 =>
 (intD .xor .u32 x903 (IntKind.wrap .u32 (x1112))).bind fun x1113 =>
 (impl_SumMore_l2 N N x1113 0).bind (fun v1143 => j1105 v1143)
 else
 some x903)
def impl_SumMore (N : Nat) (x1 : Int) (x2 : ByteArray) : Option (Int) :=
 joinP (fun (v902 : Int) =>
 some v902) fun j902 =>
 (impl_SumMore_l1 N x2 N x1 0).bind (fun v1037 => j902 v1037)
theorem sem_impl_SumMore (N : Nat) (x1 : Int) (x2 : ByteArray) (r : Int) (h : impl_SumMore N x1 x2 = some r) : Says Tryz.prog 249 [.c (.i .u32 x1),VS x2] 0 [] (.c (.i .u32 r)) [] := by
 unfold impl_SumMore at h
 refine Says.of_norm e Tryz.call249 e fun B hB => ?_
 have hm : B.m ≤ 1000 := by omega
 refine Run.so hm (.p e (.nil (.seqO h (fun v902 => [(0,.c (.i .u32 v902))]) (fun (v902 : Int) => []) (fun h => ?_) (fun v902 h => ?_))))
 ·refine Run.so hm (.p e (.nil (.block ?_)))
  obtain ⟨res1037,h,hk1037⟩ := bindO h
  refine Run.loop (n := N) (fun m1037 fr σ => ∃ (x903 : Int),∃ (x905 : Int),impl_SumMore_l1 N x2 m1037 x903 x905 = some res1037 ∧ fr = [(0,.c (.i .u32 x903)),(1,VS x2),(5,VI x905)] ∧ σ = []) (gh_pk [0,1,5] [] hB e e e e) ⟨_,_,h,e,e⟩ ?_
  rintro m1037 fr σ ⟨x903,x905,h,rfl,rfl⟩
  obtain _ | m1037 := m1037
  ·rw [impl_SumMore_l1] at h; cases h
  rw [impl_SumMore_l1] at h
  refine Run.seq (.so hm (.p3 e e e (.p e (.nil (.condO e h (fun g1040 h => ?_) (fun g1040 h => ?_))))))
  ·refine Run.skip (.seqO h (fun v1105 => [(0,.c (.i .u32 v1105)),(1,VS x2),(5,VI x905)]) (fun (v1105 : Int) => []) (fun h => ?_) (fun v1105 h => ?_))
   ·refine Run.block (.so hm (.p3 e e e ?_))
    obtain ⟨x1112,hx1112,h⟩ := bindO h
    refine Ops.z 17432 (Ev.ixS e e hx1112) e e (.p e ?_)
    obtain ⟨x1113,hx1113,h⟩ := bindO h
    refine Ops.z 17464 (.bin e e hx1113) e e (.p e (.nil (.so hm (.p e (.nil (.block ?_))))))
    obtain ⟨res1143,h,hk1143⟩ := bindO h
    refine Run.loop (n := N) (fun m1143 fr σ => ∃ (x1114 : Int),∃ (x1117 : Int),impl_SumMore_l2 N m1143 x1114 x1117 = some res1143 ∧ fr = [(0,.c (.i .u32 x1114)),(1,VS x2),(5,VI x905),(6,VI x1117)] ∧ σ = []) (gh_pk [0,1,5,6] [] hB e e e e) ⟨_,_,h,e,e⟩ ?_
    rintro m1143 fr σ ⟨x1114,x1117,h,rfl,rfl⟩
    obtain _ | m1143 := m1143
    ·rw [impl_SumMore_l2] at h; cases h
    rw [impl_SumMore_l2] at h
    refine Run.seq (.so hm (.p2 e e (.nil (.condO e h (fun g1146 h => ?_) (fun g1146 h => ?_)))))
    ·refine Run.skip (.seqO h (fun v1158 => [(0,.c (.i .u32 v1158)),(1,VS x2),(5,VI x905),(6,VI x1117)]) (fun (v1158 : Int) => []) (fun h => ?_) (fun v1158 h => ?_))
     ·refine Run.block (.so hm (.p e ?_))
      obtain ⟨x1162,hx1162,h⟩ := bindO h
      refine Ops.z 33784 (.bin e e hx1162) e e (.p2 e e (.nil (.so hm (.p e ?_))))
      obtain ⟨x1166,hx1166,h⟩ := bindO h
      refine Ops.z 37880 (.bin e e hx1166) e e (.p e (.nil (.so hm (.p e (.nil (.condO e h (fun g1167 h => ?_) (fun g1167 h => ?_)))))))
      ·refine Run.ops hm (.p e ?_)
       obtain ⟨x1169,hx1169,h⟩ := bindO h
       exact Ops.z 46072 (.bin e e hx1169) e e (.p e (.nil (⟨_,_,(gh_pk [0,1,5,6] [] hB e e e e),_,h,e,e⟩)))
      ·exact Run.skip (⟨_,_,(gh_pk [0,1,5,6] [] hB e e e e),_,h,e,e⟩)
     ·exact Run.ops hm (.p3 e e e (.nil (⟨m1143,Nat.lt_succ_self m1143,_,_,(gh_pk [0,1,5,6] [] hB e e e e),_,_,h,e,e⟩)))
    ·refine Run.exit ?_
     obtain rfl := someO h
     have h := hk1143
     exact ⟨_,_,(gh_pk [0,1,5] [] hB e e e e),_,h,e,e⟩
   ·exact Run.ops hm (.p3 e e e (.nil (⟨m1037,Nat.lt_succ_self m1037,_,_,(gh_pk [0,1,5] [] hB e e e e),_,_,h,e,e⟩)))
  ·refine Run.exit ?_
   obtain rfl := someO h
   have h := hk1037
   exact ⟨_,_,(gh_pk [0] [] hB e e e e),_,h,e,e⟩
 ·refine Run.so hm (.p2 e e (.nil (.ret ?_)))
  obtain rfl := someO h
  exact Ends.mkG (.inl e) e (gh_pk [0] [] hB e e e e) e e
def impl_SumOf (N : Nat) (x1 : ByteArray) : Option (Int) :=
 (impl_SumMore N 4294967295 x1).bind fun y103 =>
 some y103
theorem sem_impl_SumOf (N : Nat) (x1 : ByteArray) (r : Int) (h : impl_SumOf N x1 = some r) : Says Tryz.prog 226 [VS x1] 0 [] (.c (.i .u32 r)) [] := by
 unfold impl_SumOf at h
 refine Says.of_norm e Tryz.call226 e fun B hB => ?_
 have hm : B.m ≤ 1000 := by omega
 refine Run.so hm (.p e (.nil (.so hm (.p e ?_))))
 obtain ⟨y103,hy103,h⟩ := bindO h
 refine Ops.z 5112 (Ev.call [] [] 0 (sem_impl_SumMore _ _ _ _ hy103) e e (.d2 .nil) e (.inl e) e e) e e (.p e (.nil (.ret ?_)))
 obtain rfl := someO h
 exact Ends.mkG (.inl e) e (gh_pk [0] [] hB e e e e) e e
def impl_Sealed (N : Nat) (x1 : ByteArray) : Option (ByteArray × Bool) :=
 (if (decide ((x1.size : Int) > 20000)) = true then
 some ((⟨#[]⟩ : ByteArray),false)
 else
 (impl_SumOf N x1).bind fun y119 =>
 (intSh .shr .u32 y119 24).bind fun x124 =>
 (intSh .shr .u32 y119 16).bind fun x125 =>
 (intSh .shr .u32 y119 8).bind fun x126 =>
 (scat? x1 (strOf ([IntKind.wrap .u8 (x124),IntKind.wrap .u8 (x125),IntKind.wrap .u8 (x126),IntKind.wrap .u8 (y119)] : List Int))).bind fun x127 =>
 some (x127,true))
theorem sem_impl_Sealed (N : Nat) (x1 : ByteArray) (r : ByteArray × Bool) (h : impl_Sealed N x1 = some r) : Says Tryz.prog 186 [VS x1] 0 [] (.tup [VS r.1,VB r.2]) [] := by
 unfold impl_Sealed at h
 refine Says.of_norm e Tryz.call186 e fun B hB => ?_
 have hm : B.m ≤ 1000 := by omega
 refine Run.so hm (.p2 e e (.nil (.seq (.so hm (.p3 e e e (.nil (.condO e h (fun g115 h => ?_) (fun g115 h => ?_))))))))
 ·refine Run.so hm (.p2 e e (.nil (.ret ?_)))
  obtain rfl := someO h
  exact Ends.mkG (.inl e) e (gh_pk [0,1] [] hB e e e e) e e
 ·refine Run.skip (.so hm (.p e ?_))
  obtain ⟨y119,hy119,h⟩ := bindO h
  refine Ops.z 13304 (Ev.call [] [] 0 (sem_impl_SumOf _ _ _ hy119) e e (.d1 .nil) e (.inl e) e e) e e (.p e (.nil (.so hm (.p2 e e ?_))))
  obtain ⟨x124,hx124,h⟩ := bindO h
  refine Ops.z 17416 (.sh e e hx124) e e (.p2 e e ?_)
  obtain ⟨x125,hx125,h⟩ := bindO h
  refine Ops.z 17464 (.sh e e hx125) e e (.p2 e e ?_)
  obtain ⟨x126,hx126,h⟩ := bindO h
  refine Ops.z 17512 (.sh e e hx126) e e (.p3 e e e (.z 17576 (Ev.bsW (ys := ([IntKind.wrap .u8 (x124),IntKind.wrap .u8 (x125),IntKind.wrap .u8 (x126),IntKind.wrap .u8 (y119)] : List Int)) (f := encU) e (.d4 .nil) e e e e e) e e (.z 17592 (.sbC (addsW (f := encU) e e e (fun _ => e))) e e ?_)))
  obtain ⟨x127,hx127,h⟩ := bindO h
  refine Ops.z 17608 (Ev.addS e e hx127) e e (.p2 e e (.nil (.ret ?_)))
  obtain rfl := someO h
  exact Ends.mkG (.inl e) e (gh_pk [0,1] [] hB e e e e) e e
def impl_ManifestText (N : Nat) (x1 : Manifest) : Option (ByteArray × Bool) :=
 (impl_ManifestOk N x1).bind fun y120 =>
 (if (!y120) = true then
 some ((⟨#[]⟩ : ByteArray),false)
 else
 (slices_Concat_int N ([([(x1.Segs.length : Int)] : List Int),x1.Segs,([x1.Next,x1.Base,x1.BaseTerm,(x1.Conf.length : Int)] : List Int),x1.Conf] : List (List Int))).bind fun y125 =>
 (impl_vars N (y125.2.take y125.1)).bind fun y129 =>
 (impl_Sealed N y129.1).bind fun y131 =>
 some (y131.1,y131.2))
theorem sem_impl_ManifestText (N : Nat) (x1 : Manifest) (r : ByteArray × Bool) (h : impl_ManifestText N x1 = some r) : Says Tryz.prog 145 [.agg [RO 3 (x1.Segs.map encI),VI x1.Next,VI x1.Base,VI x1.BaseTerm,RO 3 (x1.Conf.map encI)]] 0 [] (.tup [VS r.1,VB r.2]) [] := by
 unfold impl_ManifestText at h
 refine Says.of_norm e Tryz.call145 e fun B hB => ?_
 have hm : B.m ≤ 1000 := by omega
 refine Run.so hm (.z 1000 (.bx e e) e e (.p2 e e (.nil (.seq (.so hm (.p e ?_))))))
 obtain ⟨y120,hy120,h⟩ := bindO h
 refine Ops.z 5112 (Ev.call [] [] 0 (sem_impl_ManifestOk _ _ _ hy120) e e (.cons (.agg (.d4 (.d1 .nil))) .nil) e (.inl e) e e) e e (.p e (.nil (.condO e h (fun g121 h => ?_) (fun g121 h => ?_))))
 ·refine Run.so hm (.p2 e e (.nil (.ret ?_)))
  obtain rfl := someO h
  exact Ends.mkG (.inl e) e (gh_pk [0,1] [] hB e e e e) e e
 ·refine Run.skip (.so hm (.p2 e e (.z 13320 (Ev.lnF e) e e (.z 13336 (Ev.bsW (ys := ([(x1.Segs.length : Int)] : List Int)) (f := encI) e (.d1 .nil) e e e e e) e e (.p3 e e e (.p3 e e e (.p3 e e e (.p e (.z 13512 (Ev.lnF e) e e (.z 13528 (Ev.bsW (ys := ([x1.Next,x1.Base,x1.BaseTerm,(x1.Conf.length : Int)] : List Int)) (f := encI) e (.d4 .nil) e e e e e) e e (.p2 e e (.stz (s := 13576) (EvZ.frz (f := encI) (g := encI) (xs := ([(x1.Segs.length : Int)] : List Int)) 13336 (fun _ => e) e (EvZ.frz (f := encI) (g := encI) (xs := ([x1.Next,x1.Base,x1.BaseTerm,(x1.Conf.length : Int)] : List Int)) 13528 (fun _ => e) e (.mk (Ev.bsW (ys := ([([(x1.Segs.length : Int)] : List Int),x1.Segs,([x1.Next,x1.Base,x1.BaseTerm,(x1.Conf.length : Int)] : List Int),x1.Conf] : List (List Int))) (f := (fun x => [.row false 3 (x.map encI)])) e (.cons (.ro e (shareW _ e)) (.d1 (.cons (.ro e (shareW _ e)) (.d1 .nil)))) e e e e e)))) e e ?_))))))))))))
  obtain ⟨y125,hy125,h⟩ := bindO h
  refine Ops.z 13592 (Ev.call [] [13576] 1 (sem_slices_Concat_int _ _ _ hy125) e e (.cons (.borrow e (by decide) (lendW (fun _ => by simp only [roCs,roC,roRows_mapf (fun _ => e)]) _ e)) .nil) e (.inr ⟨e,ownL_root ⟨own_rows (fun _ => e) _,trivial⟩⟩) e e) e e ?_
  refine Ops.p e (.nil (.so hm (.p e ?_)))
  obtain ⟨y129,hy129,h⟩ := bindO h
  refine Ops.z 17400 (Ev.call [] [13592] 0 (sem_impl_vars _ _ _ hy129) e e (.cons (.borrow e (by decide) (lendP (fun _ => e) _ _ _)) .nil) e (.inr ⟨e,ownL_root trivial⟩) e e) e e ?_
  refine Ops.p e (.p3 e e e (.p e (.nil (.so hm (.p e ?_)))))
  obtain ⟨y131,hy131,h⟩ := bindO h
  refine Ops.z 21496 (Ev.call [] [] 0 (sem_impl_Sealed _ _ _ hy131) e e (.d1 .nil) e (.inl e) e e) e e (.p3 e e e (.p e (.nil (.ret ?_))))
  obtain rfl := someO h
  exact Ends.mkG (.inl e) e (gh_pk [0,1] [] hB e e e e) e e
def strconv_Itoa (N : Nat) (x1 : Int) : Option (ByteArray) := itoa? x1
theorem sem_strconv_Itoa (N : Nat) (x1 : Int) (r : ByteArray) (h : strconv_Itoa N x1 = some r) : Says Tryz.prog 103 [VI x1] 0 [] (VS r) [] := says_itoa Tryz.call103 Go.Proofs.Tryz.strconv_Itoa (g := 7) (by kernel_rfl) (.head _) h
def impl_Decimal (N : Nat) (x1 : Int) : Option (ByteArray) :=
 (strconv_Itoa N x1).bind fun y103 =>
 some y103
theorem sem_impl_Decimal (N : Nat) (x1 : Int) (r : ByteArray) (h : impl_Decimal N x1 = some r) : Says Tryz.prog 69 [VI x1] 0 [] (VS r) [] := by
 unfold impl_Decimal at h
 refine Says.of_norm e Tryz.call69 e fun B hB => ?_
 have hm : B.m ≤ 1000 := by omega
 refine Run.so hm (.p e (.nil (.so hm (.p e ?_))))
 obtain ⟨y103,hy103,h⟩ := bindO h
 refine Ops.z 5112 (Ev.call [] [] 0 (sem_strconv_Itoa _ _ _ hy103) e e (.d1 .nil) e (.inl e) e e) e e (.p e (.nil (.ret ?_)))
 obtain rfl := someO h
 exact Ends.mkG (.inl e) e (gh_pk [0] [] hB e e e e) e e
def impl_SegName (N : Nat) (x1 : Int) : Option (ByteArray) :=
 (impl_within N x1 0 999).bind fun y114 =>
 (if (!y114) = true then
 some (⟨#[]⟩ : ByteArray)
 else
 (impl_Decimal N x1).bind fun y118 =>
 (scat? (⟨#[103]⟩ : ByteArray) y118).bind fun x119 =>
 some x119)
theorem sem_impl_SegName (N : Nat) (x1 : Int) (r : ByteArray) (h : impl_SegName N x1 = some r) : Says Tryz.prog 146 [VI x1] 0 [] (VS r) [] := by
 unfold impl_SegName at h
 refine Says.of_norm e Tryz.call146 e fun B hB => ?_
 have hm : B.m ≤ 1000 := by omega
 refine Run.so hm (.p e (.nil (.seq (.so hm (.p e ?_)))))
 obtain ⟨y114,hy114,h⟩ := bindO h
 refine Ops.z 5112 (Ev.call [] [] 0 (sem_impl_within _ _ _ _ _ hy114) e e (.d2 (.d1 .nil)) e (.inl e) e e) e e (.p e (.nil (.condO e h (fun g115 h => ?_) (fun g115 h => ?_))))
 ·refine Run.so hm (.p e (.nil (.ret ?_)))
  obtain rfl := someO h
  exact Ends.mkG (.inl e) e (gh_pk [0] [] hB e e e e) e e
 ·refine Run.skip (.so hm (.p e ?_))
  obtain ⟨y118,hy118,h⟩ := bindO h
  refine Ops.z 13304 (Ev.call [] [] 0 (sem_impl_Decimal _ _ _ hy118) e e (.d1 .nil) e (.inl e) e e) e e ?_
  obtain ⟨x119,hx119,h⟩ := bindO h
  refine Ops.z 13320 (Ev.addS e e hx119) e e (.p e (.nil (.ret ?_)))
  obtain rfl := someO h
  exact Ends.mkG (.inl e) e (gh_pk [0] [] hB e e e e) e e
def impl_FormatShelf (N : Nat) (x1 : (List Int)) : Option (Disk × Bool) :=
 (impl_ManifestText N (Manifest.mk ([0] : List Int) 1 0 0 x1)).bind fun y111 =>
 (if (!y111.2) = true then
 some ((Disk.mk ([])),false)
 else
 (impl_SegName N 0).bind fun y115 =>
 some ((Disk.mk ([(File.mk y115 (⟨#[]⟩ : ByteArray)),(File.mk (⟨#[109]⟩ : ByteArray) y111.1)] : List File)),true))
theorem sem_impl_FormatShelf (N : Nat) (x1 : (List Int)) (r : Disk × Bool) (h : impl_FormatShelf N x1 = some r) : Says Tryz.prog 104 [RO 3 (x1.map encI)] 0 [] (.tup [.agg [.sl 0 98 0 r.1.Files.length],VB r.2]) [(0,.vec 98 (r.1.Files.map encFile))] := by
 unfold impl_FormatShelf at h
 refine Says.of_norm e Tryz.call104 e fun B hB => ?_
 have hm : B.m ≤ 1000 := by omega
 refine Run.so hm (.z 1000 (.al e e) e e (.p e (.nil (.so hm (.z 5096 (Ev.bsW (ys := ([0] : List Int)) (f := encI) e (.d1 .nil) e e e e e) e e (.p e (.z 5128 (.bd e e) e e ?_)))))))
 obtain ⟨y111,hy111,h⟩ := bindO h
 refine Ops.z 5144 (Ev.call [] [5096] 0 (sem_impl_ManifestText _ _ _ hy111) e e (.cons (.agg (.cons (.borrow e (by decide) (lendW (fun _ => e) _ e)) (.d4 .nil))) .nil) e (.inr ⟨e,ownL_root trivial⟩) e e) e e ?_
 refine Ops.p e (.p3 e e e (.p e (.nil (.seq (.so hm (.p2 e e (.nil (.condO e h (fun g113 h => ?_) (fun g113 h => ?_)))))))))
 ·refine Run.so hm (.z 13288 (.bd e e) e e (.y 13304 (.sto e e e e e e) e e (.p e (.nil (.ret ?_)))))
  obtain rfl := someO h
  exact Ends.mkG (.inl e) e (Gh.trans (Gh.trans (gh_prn [0,1] [] hB e) (gh_nil [0] [] hB e e e)) (gh_pk [0,1] [10000000] hB e e e e)) e e
 ·refine Run.skip (.so hm ?_)
  obtain ⟨y115,hy115,h⟩ := bindO h
  refine Ops.z 17384 (Ev.call [] [] 0 (sem_impl_SegName _ _ _ hy115) e e (.d1 .nil) e (.inl e) e e) e e (.z 17400 (.bd e e) e e (.p e (.z 17432 (.bd e e) e e (.z 17448 (Ev.bsW (ys := ([(File.mk y115 (⟨#[]⟩ : ByteArray)),(File.mk (⟨#[109]⟩ : ByteArray) y111.1)] : List File)) (f := encFile) e (.d4 .nil) e e e e e) e e (.z 17464 (.bd e e) e e (.y 17480 (.sto e e e e e e) e e (.p e (.nil (.ret ?_)))))))))
  obtain rfl := someO h
  exact Ends.mkG (.inl e) e (gh_pk [0,1] [17448] hB e e e e) e e
def impl_LogOk_l1 (N : Nat) (x1 : Log) : Nat → Option (Unit)
 | 0 => none
 | m + 1 =>
 (if (decide (0 < (x1.Entries.length : Int))) = true then
 none
 else
 some ())
def impl_LogOk (N : Nat) (x1 : Log) : Option (Bool) :=
 (impl_within N x1.Start 0 100000).bind fun y155 =>
 (if (!y155) = true then
 some false
 else
 (impl_within N x1.StartTerm 0 100000).bind fun y157 =>
 (if (!y157) = true then
 some false
 else
 (if (decide ((x1.Entries.length : Int) > 120)) = true then
 some false
 else
 (if (decide ((w64 (x1.Start + (x1.Entries.length : Int))) > 100000)) = true then
 some false
 else
 joinP (fun (v169 : Unit) =>
 some true) fun j169 =>
 (impl_LogOk_l1 N x1 N).bind (fun v174 => j169 ())))))
theorem sem_impl_LogOk (N : Nat) (x1 : Log) (r : Bool) (h : impl_LogOk N x1 = some r) : Says Tryz.prog 147 [.agg [VI x1.Start,VI x1.StartTerm,RO 141 (x1.Entries.map encEntry)]] 0 [] (VB r) [] := by
 unfold impl_LogOk at h
 refine Says.of_norm e Tryz.call147 e fun B hB => ?_
 have hm : B.m ≤ 1000 := by omega
 refine Run.so hm (.z 1000 (.bx e e) e e (.p e (.nil (.seq (.so hm (.p2 e e ?_))))))
 obtain ⟨y155,hy155,h⟩ := bindO h
 refine Ops.z 5128 (Ev.call [] [] 0 (sem_impl_within _ _ _ _ _ hy155) e e (.d2 (.d1 .nil)) e (.inl e) e e) e e (.p2 e e (.askO (x := .t 10) e h (fun g156 h => ?_) (fun g156 h => ?_)))
 ·refine Ops.gn e g156 (.gn e g156 (.gn e g156 (.gn e g156 (.z 5240 (.pkT e g156 e) e e (.p e (.gn e e (.gn e e (.gn e e (.gn e e (.z 5336 (.pkT e e e) e e (.p e (.gn e e (.gn e e (.gn e e (.gn e e (.gn e e (.gn e e (.gn e e (.z 5480 (.pkT e e e) e e (.nil (.condT e e (.so hm (.p e (.nil (.ret ?_)))))))))))))))))))))))))
  obtain rfl := someO h
  exact Ends.mkG (.inl e) e (gh_pk [0] [] hB e e e e) e e
 ·refine Ops.gp e g156 e (.gp e g156 e ?_)
  obtain ⟨y157,hy157,h⟩ := bindO h
  refine Ops.gs (s := 5208) e g156 (Ev.call [] [] 0 (sem_impl_within _ _ _ _ _ hy157) e e (.d2 (.d1 .nil)) e (.inl e) e e) e e (.gp e g156 e (.z 5240 (.pkF e g156 e) e e (.p e (.askO (x := .t 16) e h (fun g158 h => ?_) (fun g158 h => ?_)))))
  ·refine Ops.gn e g158 (.gn e g158 (.gn e g158 (.gn e g158 (.z 5336 (.pkT e g158 e) e e (.p e (.gn e e (.gn e e (.gn e e (.gn e e (.gn e e (.gn e e (.gn e e (.z 5480 (.pkT e e e) e e (.nil (.condT e e (.so hm (.p e (.nil (.ret ?_)))))))))))))))))))
   obtain rfl := someO h
   exact Ends.mkG (.inl e) e (gh_pk [0] [] hB e e e e) e e
  ·refine Ops.gp e g158 e (.gp e g158 e (.gs (s := 5304) e g158 (Ev.lnF e) e e (.gp e g158 e (.z 5336 (.pkF e g158 e) e e (.p e (.askO (x := .t 22) e h (fun g159 h => ?_) (fun g159 h => ?_)))))))
   ·refine Ops.gn e g159 (.gn e g159 (.gn e g159 (.gn e g159 (.gn e g159 (.gn e g159 (.gn e g159 (.z 5480 (.pkT e g159 e) e e (.nil (.condT e e (.so hm (.p e (.nil (.ret ?_)))))))))))))
    obtain rfl := someO h
    exact Ends.mkG (.inl e) e (gh_pk [0] [] hB e e e e) e e
   ·refine Ops.gp e g159 e (.gp e g159 e (.gp e g159 e (.gp e g159 e (.gs (s := 5432) e g159 (Ev.lnF e) e e (.gp e g159 e (.gp e g159 e (.z 5480 (.pkF e g159 e) e e (.nil (.condO e h (fun g160 h => ?_) (fun g160 h => ?_))))))))))
    ·refine Run.so hm (.p e (.nil (.ret ?_)))
     obtain rfl := someO h
     exact Ends.mkG (.inl e) e (gh_pk [0] [] hB e e e e) e e
    ·refine Run.skip (.so hm (.p3 e e e (.nil (.seqO h (fun v169 => []) (fun (v169 : Unit) => []) (fun h => ?_) (fun v169 h => ?_)))))
     ·refine Run.so hm (.p2 e e (.z 17416 (Ev.lnF e) e e (.p e (.nil (.block ?_)))))
      obtain ⟨res174,h,hk174⟩ := bindO h
      refine Run.loop (n := N) (fun m174 fr σ => impl_LogOk_l1 N x1 m174 = some res174 ∧ fr = [(35,VI (x1.Entries.length : Int)),(36,VI 0)] ∧ σ = []) (gh_pk [35,36] [] hB e e e e) ⟨h,e,e⟩ ?_
      rintro m174 fr σ ⟨h,rfl,rfl⟩
      obtain _ | m174 := m174
      ·rw [impl_LogOk_l1] at h; cases h
      rw [impl_LogOk_l1] at h
      refine Run.so hm (.p e (.nil (.seq (.condO e h (fun g177 h => ?_) (fun g177 h => ?_)))))
      ·exact noO h
      ·refine Run.exit ?_
       obtain rfl := someO h
       have h := hk174
       exact ⟨_,_,(gh_pk [] [] hB e e e e),(),h,e,e⟩
     ·refine Run.so hm (.p e (.nil (.ret ?_)))
      obtain rfl := someO h
      exact Ends.mkG (.inl e) e (gh_pk [0] [] hB e e e e) e e
def impl_Frame (N : Nat) (x1 : ByteArray) : Option (ByteArray × Bool) :=
 (impl_within N (x1.size : Int) 1 9000).bind fun y128 =>
 (if (!y128) = true then
 some ((⟨#[]⟩ : ByteArray),false)
 else
 (impl_VarText N (x1.size : Int)).bind fun y133 =>
 (impl_SumOf N x1).bind fun y137 =>
 (intSh .shr .u32 y137 24).bind fun x143 =>
 (intSh .shr .u32 y137 16).bind fun x144 =>
 (intSh .shr .u32 y137 8).bind fun x145 =>
 (scat? y133.1 (strOf ([IntKind.wrap .u8 (x143),IntKind.wrap .u8 (x144),IntKind.wrap .u8 (x145),IntKind.wrap .u8 (y137)] : List Int))).bind fun x146 =>
 (scat? x146 x1).bind fun x147 =>
 some (x147,true))
theorem sem_impl_Frame (N : Nat) (x1 : ByteArray) (r : ByteArray × Bool) (h : impl_Frame N x1 = some r) : Says Tryz.prog 189 [VS x1] 0 [] (.tup [VS r.1,VB r.2]) [] := by
 unfold impl_Frame at h
 refine Says.of_norm e Tryz.call189 e fun B hB => ?_
 have hm : B.m ≤ 1000 := by omega
 refine Run.so hm (.p2 e e (.nil (.seq (.so hm (.p2 e e ?_)))))
 obtain ⟨y128,hy128,h⟩ := bindO h
 refine Ops.z 5128 (Ev.call [] [] 0 (sem_impl_within _ _ _ _ _ hy128) e e (.d2 (.d1 .nil)) e (.inl e) e e) e e (.p e (.nil (.condO e h (fun g129 h => ?_) (fun g129 h => ?_))))
 ·refine Run.so hm (.p2 e e (.nil (.ret ?_)))
  obtain rfl := someO h
  exact Ends.mkG (.inl e) e (gh_pk [0,1] [] hB e e e e) e e
 ·refine Run.skip (.so hm (.p2 e e ?_))
  obtain ⟨y133,hy133,h⟩ := bindO h
  refine Ops.z 13320 (Ev.call [] [] 0 (sem_impl_VarText _ _ _ hy133) e e (.d1 .nil) e (.inl e) e e) e e (.p3 e e e (.p2 e e (.nil (.so hm (.p e ?_)))))
  obtain ⟨y137,hy137,h⟩ := bindO h
  refine Ops.z 17400 (Ev.call [] [] 0 (sem_impl_SumOf _ _ _ hy137) e e (.d1 .nil) e (.inl e) e e) e e (.p e (.nil (.so hm (.p2 e e ?_))))
  obtain ⟨x143,hx143,h⟩ := bindO h
  refine Ops.z 21512 (.sh e e hx143) e e (.p2 e e ?_)
  obtain ⟨x144,hx144,h⟩ := bindO h
  refine Ops.z 21560 (.sh e e hx144) e e (.p2 e e ?_)
  obtain ⟨x145,hx145,h⟩ := bindO h
  refine Ops.z 21608 (.sh e e hx145) e e (.p3 e e e (.z 21672 (Ev.bsW (ys := ([IntKind.wrap .u8 (x143),IntKind.wrap .u8 (x144),IntKind.wrap .u8 (x145),IntKind.wrap .u8 (y137)] : List Int)) (f := encU) e (.d4 .nil) e e e e e) e e (.z 21688 (.sbC (addsW (f := encU) e e e (fun _ => e))) e e ?_)))
  obtain ⟨x146,hx146,h⟩ := bindO h
  refine Ops.z 21704 (Ev.addS e e hx146) e e (.p e ?_)
  obtain ⟨x147,hx147,h⟩ := bindO h
  refine Ops.z 21736 (Ev.addS e e hx147) e e (.p2 e e (.nil (.ret ?_)))
  obtain rfl := someO h
  exact Ends.mkG (.inl e) e (gh_pk [0,1] [] hB e e e e) e e
def impl_framed (N : Nat) (x1 : ByteArray) : Option (ByteArray) :=
 (impl_Frame N x1).bind fun y107 =>
 some y107.1
theorem sem_impl_framed (N : Nat) (x1 : ByteArray) (r : ByteArray) (h : impl_framed N x1 = some r) : Says Tryz.prog 149 [VS x1] 0 [] (VS r) [] := by
 unfold impl_framed at h
 refine Says.of_norm e Tryz.call149 e fun B hB => ?_
 have hm : B.m ≤ 1000 := by omega
 refine Run.so hm (.p e (.nil (.so hm (.p e ?_))))
 obtain ⟨y107,hy107,h⟩ := bindO h
 refine Ops.z 5112 (Ev.call [] [] 0 (sem_impl_Frame _ _ _ hy107) e e (.d1 .nil) e (.inl e) e e) e e (.p3 e e e (.p2 e e (.nil (.so hm (.p2 e e (.nil (.ret ?_)))))))
 obtain rfl := someO h
 exact Ends.mkG (.inl e) e (gh_pk [0] [] hB e e e e) e e
def impl_entryFrames_l1 (N : Nat) (x1 : Log) (x2 : Int) : Nat → Option (Unit)
 | 0 => none
 | m + 1 =>
 (if (decide (x2 < (x1.Entries.length : Int))) = true then
 none
 else
 some ())
def impl_entryFrames (N : Nat) (x1 : Log) (x2 : Int) : Option (ByteArray) :=
 joinP (fun (v134 : Unit) =>
 some (strOf ([] : (List Int)))) fun j134 =>
 (impl_entryFrames_l1 N x1 x2 N).bind (fun v142 => j134 ())
theorem sem_impl_entryFrames (N : Nat) (x1 : Log) (x2 : Int) (r : ByteArray) (h : impl_entryFrames N x1 x2 = some r) : Says Tryz.prog 150 [.agg [VI x1.Start,VI x1.StartTerm,RO 141 (x1.Entries.map encEntry)],VI x2] 0 [] (VS r) [] := by
 unfold impl_entryFrames at h
 refine Says.of_norm e Tryz.call150 e fun B hB => ?_
 have hm : B.m ≤ 1000 := by omega
 refine Run.so hm (.z 1000 (.bx e e) e e (.p e (.nil (.so hm (.p e (.nil (.seqO h (fun v134 => [(5,.sl 0 5 0 (([] : (List Int)).length))]) (fun (v134 : Unit) => [(0,.vec 5 (([] : (List Int)).map encU))]) (fun h => ?_) (fun v134 h => ?_))))))))
 ·refine Run.so hm (.p2 e e (.nil (.block ?_)))
  obtain ⟨res142,h,hk142⟩ := bindO h
  refine Run.loop (n := N) (fun m142 fr σ => impl_entryFrames_l1 N x1 x2 m142 = some res142 ∧ fr = [(2,.ptr 0 0),(5,.sl 1 5 0 (([] : (List Int)).length)),(6,VI x2)] ∧ σ = [(0,.box [VI x1.Start,VI x1.StartTerm,RO 141 (x1.Entries.map encEntry)]),(1,.vec 5 (([] : (List Int)).map encU))]) (Gh.trans (Gh.trans (gh_prn [2,5,6] [1000] hB e) (gh_nil [5] [] hB e e e)) (gh_pk [2,5,6] [1000,10000000] hB e e e e)) ⟨h,e,e⟩ ?_
  rintro m142 fr σ ⟨h,rfl,rfl⟩
  obtain _ | m142 := m142
  ·rw [impl_entryFrames_l1] at h; cases h
  rw [impl_entryFrames_l1] at h
  refine Run.seq (.so hm (.p3 e e e (.z 13336 (Ev.lnF e) e e (.p e (.nil (.condO e h (fun g145 h => ?_) (fun g145 h => ?_)))))))
  ·exact noO h
  ·refine Run.exit ?_
   obtain rfl := someO h
   have h := hk142
   exact ⟨_,_,(gh_pk [5] [1] hB e e e e),(),h,e,e⟩
 ·refine Run.so hm (.p e (.z 29688 (.sbC (addsW (f := encU) e e e (fun _ => e))) e e (.p e (.nil (.ret ?_)))))
  obtain rfl := someO h
  exact Ends.mkG (.inl e) e (gh_pk [0] [] hB e e e e) e e
def impl_LogFile (N : Nat) (x1 : Log) : Option (ByteArray × Bool) :=
 (impl_LogOk N x1).bind fun y132 =>
 (if (!y132) = true then
 some ((⟨#[]⟩ : ByteArray),false)
 else
 (impl_vars N ([x1.Start,x1.StartTerm] : List Int)).bind fun y137 =>
 (scat? (⟨#[83]⟩ : ByteArray) y137.1).bind fun x150 =>
 (impl_framed N x150).bind fun y151 =>
 (impl_entryFrames N x1 0).bind fun y152 =>
 (scat? y151 y152).bind fun x153 =>
 (if (decide ((x153.size : Int) > 20000)) = true then
 some ((⟨#[]⟩ : ByteArray),false)
 else
 some (x153,true)))
theorem sem_impl_LogFile (N : Nat) (x1 : Log) (r : ByteArray × Bool) (h : impl_LogFile N x1 = some r) : Says Tryz.prog 105 [.agg [VI x1.Start,VI x1.StartTerm,RO 141 (x1.Entries.map encEntry)]] 0 [] (.tup [VS r.1,VB r.2]) [] := by
 unfold impl_LogFile at h
 refine Says.of_norm e Tryz.call105 e fun B hB => ?_
 have hm : B.m ≤ 1000 := by omega
 refine Run.so hm (.z 1000 (.bx e e) e e (.p2 e e (.nil (.seq (.so hm (.p e ?_))))))
 obtain ⟨y132,hy132,h⟩ := bindO h
 refine Ops.z 5112 (Ev.call [] [] 0 (sem_impl_LogOk _ _ _ hy132) e e (.cons (.agg (.d2 (.d1 .nil))) .nil) e (.inl e) e e) e e (.p e (.nil (.condO e h (fun g133 h => ?_) (fun g133 h => ?_))))
 ·refine Run.so hm (.p2 e e (.nil (.ret ?_)))
  obtain rfl := someO h
  exact Ends.mkG (.inl e) e (gh_pk [0,1] [] hB e e e e) e e
 ·refine Run.skip (.so hm (.p3 e e e (.p e (.z 13352 (Ev.bsW (ys := ([x1.Start,x1.StartTerm] : List Int)) (f := encI) e (.d2 .nil) e e e e e) e e ?_))))
  obtain ⟨y137,hy137,h⟩ := bindO h
  refine Ops.z 13368 (Ev.call [] [13352] 0 (sem_impl_vars _ _ _ hy137) e e (.cons (.borrow e (by decide) (lendW (fun _ => e) _ e)) .nil) e (.inr ⟨e,ownL_root trivial⟩) e e) e e ?_
  refine Ops.p e (.p3 e e e (.p e (.nil (.seq (.draw hm hmix (.p e ?_))))))
  obtain ⟨x150,hx150,h⟩ := bindO h
  refine OpsD.z 17400 (Ev.addS e e hx150) e e ?_
  obtain ⟨y151,hy151,h⟩ := bindO h
  refine OpsD.z 17416 (Ev.call [] [] 0 (sem_impl_framed _ _ _ hy151) e e (.d1 .nil) e (.inl e) e e) e e (.p e ?_)
  obtain ⟨y152,hy152,h⟩ := bindO h
  refine OpsD.z 17448 (Ev.call [] [] 0 (sem_impl_entryFrames _ _ _ _ hy152) e e (.cons (.agg (.d2 (.d1 .nil))) (.d1 .nil)) e (.inl e) e e) e e ?_
  obtain ⟨x153,hx153,h⟩ := bindO h
  refine OpsD.z 17464 (Ev.addS e e hx153) e e (.p e (.nil ⟨by kernel_rfl,?_⟩))
  refine Run.seq (.so hm (.p3 e e e (.nil (.condO e h (fun g155 h => ?_) (fun g155 h => ?_)))))
  ·refine Run.so hm (.p2 e e (.nil (.ret ?_)))
   obtain rfl := someO h
   exact Ends.mkG (.inl e) e (gh_pk [0,1] [] hB e e e e) e e
  ·refine Run.skip (.so hm (.p3 e e e (.nil (.ret ?_))))
   obtain rfl := someO h
   exact Ends.mkG (.inl e) e (gh_pk [0,1] [] hB e e e e) e e
def impl_copyDisk (N : Nat) (x1 : Disk) : Option (Disk) :=
 (cat? ([] : List File) x1.Files).bind fun x103 =>
 some (Disk.mk x103)
theorem sem_impl_copyDisk (N : Nat) (x1 : Disk) (r : Disk) (h : impl_copyDisk N x1 = some r) : Says Tryz.prog 151 [.agg [RO 98 (x1.Files.map encFile)]] 0 [] (.agg [.sl 0 98 0 r.Files.length]) [(0,.vec 98 (r.Files.map encFile))] := by
 unfold impl_copyDisk at h
 refine Says.of_norm e Tryz.call151 e fun B hB => ?_
 have hm : B.m ≤ 1000 := by omega
 refine Run.so hm (.z 1000 (.bx e e) e e (.z 1016 (.al e e) e e (.nil (.so hm (.p2 e e ?_)))))
 obtain ⟨x103,hx103,h⟩ := bindO h
 refine Ops.z 5128 (Ev.apW (f := encFile) (ontoN (f := encFile) e) (addsF e) e bt98 e hx103) e e (.z 5144 (.bd e e) e e (.y 5160 (.sto e e e e e e) e e (.nil (.ret ?_))))
 obtain rfl := someO h
 exact Ends.mkG (.inl e) e (gh_pk [0] [5128] hB e e e e) e e
end Go.Proofs.YtmnoonjkiflonaaGreatDoor.Pe.FnExactReadScript
