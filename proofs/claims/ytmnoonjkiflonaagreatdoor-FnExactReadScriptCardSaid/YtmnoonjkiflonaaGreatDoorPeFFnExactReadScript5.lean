/- Functions,as pure functions; and that Go does just that. -/
import Derived.Test.YtmnoonjkiflonaaGreatDoorPeFFnExactReadScript4
namespace Go.Proofs.YtmnoonjkiflonaaGreatDoor.Pe.FnExactReadScript
open Go Go.RowKit
set_option linter.unusedVariables false
set_option linter.unusedSimpArgs false
set_option maxHeartbeats 40000000
set_option maxRecDepth 100000
def strings_Compare (N : Nat) (x1 : ByteArray) (x2 : ByteArray) : Option (Int) := some (Lib.compareBytes x1.data.toList x2.data.toList)
theorem sem_strings_Compare (N : Nat) (x1 : ByteArray) (x2 : ByteArray) (r : Int) (h : strings_Compare N x1 x2 = some r) : Says Tryz.prog 193 [VS x1,VS x2] 0 [] (VI r) [] := says_compare Tryz.call193 Go.Proofs.Tryz.strings_Compare h
def impl_fileNo_1 (N : Nat) (x1 : File) (x2 : ByteArray) : Option (Int) :=
 (strings_Compare N x1.Name x2).bind fun y103 =>
 some y103
theorem sem_impl_fileNo_1 (N : Nat) (x1 : File) (x2 : ByteArray) (r : Int) (h : impl_fileNo_1 N x1 x2 = some r) : Says Tryz.prog 192 [.agg [VS x1.Name,VS x1.Text],VS x2] 0 [] (VI r) [] := by
 unfold impl_fileNo_1 at h
 refine Says.of_norm e Tryz.call192 e fun B hB => ?_
 have hm : B.m ≤ 1000 := by omega
 refine Run.so hm (.z 1000 (.bx e e) e e (.p e (.nil (.so hm (.p3 e e e ?_)))))
 obtain ⟨y103,hy103,h⟩ := bindO h
 refine Ops.z 5144 (Ev.call [] [] 0 (sem_strings_Compare _ _ _ _ hy103) e e (.d2 .nil) e (.inl e) e e) e e (.p e (.nil (.ret ?_)))
 obtain rfl := someO h
 exact Ends.mkG (.inl e) e (gh_pk [0] [] hB e e e e) e e
def slices_BinarySearchFunc_string_l1 (N : Nat) (x1 : (List File)) (x2 : ByteArray) : Nat → Int → Int → Option (Int)
 | 0,_,_ => none
 | m + 1,x198,x199 =>
 (if (decide (x198 < x199)) = true then
 (intSh .shr .u64 (IntKind.wrap .u64 (w64 (x198 + x199))) 1).bind fun x218 =>
 (at? x1 (w64 (x218))).bind fun x221 =>
 (impl_fileNo_1 N x221 x2).bind fun y222 =>
 (if (decide (y222 < 0)) = true then
 slices_BinarySearchFunc_string_l1 N x1 x2 m (w64 ((w64 (x218)) + 1)) x199
 else
 slices_BinarySearchFunc_string_l1 N x1 x2 m x198 (w64 (x218)))
 else
 some x198)
def slices_BinarySearchFunc_string (N : Nat) (x1 : (List File)) (x2 : ByteArray) : Option (Int × Bool) :=
 joinP (fun (v194 : Int) =>
 (if (decide (v194 < (x1.length : Int))) = true then
 (at? x1 v194).bind fun x228 =>
 (impl_fileNo_1 N x228 x2).bind fun y229 =>
 some (v194,(y229 == 0))
 else
 some (v194,false))) fun j194 =>
 (slices_BinarySearchFunc_string_l1 N x1 x2 N 0 (x1.length : Int)).bind (fun v211 => j194 v211)
theorem sem_slices_BinarySearchFunc_string (N : Nat) (x1 : (List File)) (x2 : ByteArray) (r : Int × Bool) (h : slices_BinarySearchFunc_string N x1 x2 = some r) : Says Tryz.prog 191 [RO 98 (x1.map encFile),VS x2,.fn 192 []] 0 [] (.tup [VI r.1,VB r.2]) [] := by
 unfold slices_BinarySearchFunc_string at h
 refine Says.of_norm e Tryz.call191 e fun B hB => ?_
 have hm : B.m ≤ 1000 := by omega
 refine Run.so hm (.p2 e e (.nil (.so hm (.p e (.z 5112 (Ev.lnF e) e e (.p e (.nil (.so hm (.p3 e e e (.nil (.seqO h (fun v194 => [(0,RO 98 (x1.map encFile)),(1,VS x2),(2,.fn 192 []),(8,VI (x1.length : Int)),(9,VI v194)]) (fun (v194 : Int) => []) (fun h => ?_) (fun v194 h => ?_))))))))))))
 ·refine Run.block ?_
  obtain ⟨res211,h,hk211⟩ := bindO h
  refine Run.loop (n := N) (fun m211 fr σ => ∃ (x198 : Int),∃ (x199 : Int),slices_BinarySearchFunc_string_l1 N x1 x2 m211 x198 x199 = some res211 ∧ fr = [(0,RO 98 (x1.map encFile)),(1,VS x2),(2,.fn 192 []),(8,VI (x1.length : Int)),(9,VI x198),(10,VI x199)] ∧ σ = []) (gh_pk [0,1,2,8,9,10] [] hB e e e e) ⟨_,_,h,e,e⟩ ?_
  rintro m211 fr σ ⟨x198,x199,h,rfl,rfl⟩
  obtain _ | m211 := m211
  ·rw [slices_BinarySearchFunc_string_l1] at h; cases h
  rw [slices_BinarySearchFunc_string_l1] at h
  refine Run.seq (.so hm (.p3 e e e (.nil (.condO e h (fun g214 h => ?_) (fun g214 h => ?_)))))
  ·refine Run.skip (.block (.so hm (.p3 e e e (.p e ?_))))
   obtain ⟨x218,hx218,h⟩ := bindO h
   refine Ops.z 17448 (.sh e e hx218) e e (.p2 e e (.nil (.so hm (.p3 e e e ?_))))
   obtain ⟨x221,hx221,h⟩ := bindO h
   refine Ops.z 21528 (Ev.iaF e e hx221) e e (.p2 e e ?_)
   obtain ⟨y222,hy222,h⟩ := bindO h
   refine Ops.z 21576 (Ev.callx [] [] 0 e (sem_impl_fileNo_1 _ _ _ _ hy222) e e (.cons (.agg (.d2 .nil)) (.d1 .nil)) e (.inl e) e e) e e (.p e (.nil (.condO e h (fun g223 h => ?_) (fun g223 h => ?_))))
   ·exact Run.ops hm (.p3 e e e (.nil (⟨m211,Nat.lt_succ_self m211,_,_,(gh_pk [0,1,2,8,9,10] [] hB e e e e),_,_,h,e,e⟩)))
   ·exact Run.ops hm (.p2 e e (.nil (⟨m211,Nat.lt_succ_self m211,_,_,(gh_pk [0,1,2,8,9,10] [] hB e e e e),_,_,h,e,e⟩)))
  ·refine Run.exit ?_
   obtain rfl := someO h
   have h := hk211
   exact ⟨_,_,(gh_pk [0,1,2,8,9] [] hB e e e e),_,h,e,e⟩
 ·refine Run.so hm (.p3 e e e (.p2 e e (.askO (x := .t 39) e h (fun g227 h => ?_) (fun g227 h => ?_))))
  ·refine Ops.gp e g227 e (.gp e g227 e (.gp e g227 e ?_))
   obtain ⟨x228,hx228,h⟩ := bindO h
   refine Ops.gs (s := 33896) e g227 (Ev.iaF e e hx228) e e (.gp e g227 e (.gp e g227 e ?_))
   obtain ⟨y229,hy229,h⟩ := bindO h
   refine Ops.gs (s := 33944) e g227 (Ev.callx [] [] 0 e (sem_impl_fileNo_1 _ _ _ _ hy229) e e (.cons (.agg (.d2 .nil)) (.d1 .nil)) e (.inl e) e e) e e (.gp e g227 e (.z 33976 (.pkT e g227 e) e e (.p2 e e (.nil (.ret ?_)))))
   obtain rfl := someO h
   exact Ends.mkG (.inl e) e (gh_pk [0,1] [] hB e e e e) e e
  ·refine Ops.gn e g227 (.gn e g227 (.gn e g227 (.gn e g227 (.gn e g227 (.gn e g227 (.gn e g227 (.gn e g227 (.z 33976 (.pkF e g227 e) e e (.p2 e e (.nil (.ret ?_)))))))))))
   obtain rfl := someO h
   exact Ends.mkG (.inl e) e (gh_pk [0,1] [] hB e e e e) e e
def impl_fileNo (N : Nat) (x1 : Disk) (x2 : ByteArray) : Option (Int × Bool) :=
 (slices_BinarySearchFunc_string N x1.Files x2).bind fun y103 =>
 some (y103.1,y103.2)
theorem sem_impl_fileNo (N : Nat) (x1 : Disk) (x2 : ByteArray) (r : Int × Bool) (h : impl_fileNo N x1 x2 = some r) : Says Tryz.prog 152 [.agg [RO 98 (x1.Files.map encFile)],VS x2] 0 [] (.tup [VI r.1,VB r.2]) [] := by
 unfold impl_fileNo at h
 refine Says.of_norm e Tryz.call152 e fun B hB => ?_
 have hm : B.m ≤ 1000 := by omega
 refine Run.so hm (.z 1000 (.bx e e) e e (.p2 e e (.nil (.so hm (.p3 e e e ?_)))))
 obtain ⟨y103,hy103,h⟩ := bindO h
 refine Ops.z 5144 (Ev.call [] [] 0 (sem_slices_BinarySearchFunc_string _ _ _ _ hy103) e e (.d2 (.cons (.fn .nil) .nil)) e (.inl e) e e) e e (.p3 e e e (.p e (.nil (.ret ?_))))
 obtain rfl := someO h
 exact Ends.mkG (.inl e) e (gh_pk [0,1] [] hB e e e e) e e
def slices_Insert_File (N : Nat) (x1 : (List File)) (x2 : Int) (x3 : (List File)) : Option ((List File)) := ins? x1 x2 x3
theorem sem_slices_Insert_File (N : Nat) (x1 : (List File)) (x2 : Int) (x3 : (List File)) (r : (List File)) (h : slices_Insert_File N x1 x2 x3 = some r) : Says Tryz.prog 153 [.sl 0 98 0 x1.length,VI x2,.sl 1 98 0 x3.length] 2 [(0,.vec 98 (x1.map encFile)),(1,.vec 98 (x3.map encFile))] (.sl 2 98 0 r.length) [(0,.gone),(1,.gone),(2,.vec 98 (r.map encFile))] := says_ins Tryz.call153 Pe.ins153 (fun _ => rfl) h
def impl_withFile (N : Nat) (x1 : Disk) (x2 : ByteArray) (x3 : ByteArray) : Option (Disk) :=
 (impl_copyDisk N x1).bind fun y122 =>
 (impl_fileNo N x1 x2).bind fun y126 =>
 joinP (fun (v132 : (List File)) =>
 some (Disk.mk v132)) fun j132 =>
 (if y126.2 = true then
 (at? y122.Files y126.1).bind fun x135 =>
 j132 (y122.Files.set y126.1.toNat (File.mk x135.Name x3))
 else
 (slices_Insert_File N y122.Files y126.1 ([(File.mk x2 x3)] : List File)).bind fun y137 =>
 j132 y137)
theorem sem_impl_withFile (N : Nat) (x1 : Disk) (x2 : ByteArray) (x3 : ByteArray) (r : Disk) (h : impl_withFile N x1 x2 x3 = some r) : Says Tryz.prog 106 [.agg [RO 98 (x1.Files.map encFile)],VS x2,VS x3] 0 [] (.agg [.sl 0 98 0 r.Files.length]) [(0,.vec 98 (r.Files.map encFile))] := by
 unfold impl_withFile at h
 refine Says.of_norm e Tryz.call106 e fun B hB => ?_
 have hm : B.m ≤ 1000 := by omega
 refine Run.so hm (.z 1000 (.bx e e) e e (.z 1016 (.al e e) e e (.nil (.so hm (.p e ?_)))))
 obtain ⟨y122,hy122,h⟩ := bindO h
 refine Ops.z 5112 (Ev.call [] [] 1 (sem_impl_copyDisk _ _ _ hy122) e e (.cons (.agg (.d1 .nil)) .nil) e (.inl e) e e) e e (.z 5128 (.al e e) e e (.y 5144 (.sto e e e e e e) e e (.nil (.so hm (.p2 e e ?_)))))
 obtain ⟨y126,hy126,h⟩ := bindO h
 refine Ops.z 9224 (Ev.call [] [] 0 (sem_impl_fileNo _ _ _ _ hy126) e e (.cons (.agg (.d1 .nil)) (.d1 .nil)) e (.inl e) e e) e e (.p3 e e e (.p2 e e (.nil (.seqO h (fun v132 => [(6,.ptr 0 0),(7,.ptr 1 0)]) (fun (v132 : (List File)) => [(0,.box [.sl 2 98 0 (([] : List File).length)]),(1,.box [.sl 3 98 0 v132.length]),(2,.vec 98 (([] : List File).map encFile)),(3,.vec 98 (v132.map encFile))]) (fun h => ?_) (fun v132 h => ?_)))))
 ·refine Run.so hm (.p e (.nil (.condO e h (fun g133 h => ?_) (fun g133 h => ?_))))
  ·refine Run.ops hm (.p3 e e e (.p e ?_))
   obtain ⟨x135,hx135,h⟩ := bindO h
   exact Ops.z 17448 (Ev.iaW e e e hx135) e e (.p e (.y 17480 (Ev.stE (f := encFile) (v' := (File.mk x135.Name x3)) e e (at_some hx135).2 e (.d1 .nil) e e e e e) e e (.nil (⟨_,_,(Gh.trans (Gh.trans (gh_prn [6,7] [1016,5128,5112] hB e) (gh_nil [] [1016] hB e e e)) (gh_pk [6,7] [1016,5128,20000000,5112] hB e e (by first | rfl | (simp only [List.length_set]; done) | (simp only [List.length_set]; rfl)) (by first | rfl | (simp only [List.length_set]; done) | (simp only [List.length_set]; rfl)))),_,h,e,e⟩))))
  ·refine Run.ops hm (.p3 e e e (.p2 e e (.z 21560 (.bd e e) e e (.z 21576 (Ev.bsW (ys := ([(File.mk x2 x3)] : List File)) (f := encFile) e (.d2 .nil) e e e e e) e e ?_))))
   obtain ⟨y137,hy137,h⟩ := bindO h
   exact Ops.z 21592 (Ev.call [5112,21576] [] 1 (sem_slices_Insert_File _ _ _ _ _ hy137) e e (.cons (.sl e) (.d1 (.cons (.sl e) .nil))) e (.inl e) e e) e e (.p e (.y 21624 (.sto e e e e e e) e e (.nil (⟨_,_,(Gh.trans (Gh.trans (gh_prn [6,7] [1016,5128,21592] hB e) (gh_nil [] [1016] hB e e e)) (gh_pk [6,7] [1016,5128,20000000,21592] hB e e e e)),_,h,e,e⟩))))
 ·refine Run.so hm (.p e (.y 25592 (.sto e e e e e e) e e (.nil (.ret ?_))))
  obtain rfl := someO h
  exact Ends.mkG (.inl e) e (gh_pk [0] [3] hB e e e e) e e
def impl_FormatDisk (N : Nat) (x1 : (List Int)) : Option (Disk × Bool) :=
 (impl_FormatShelf N x1).bind fun y115 =>
 (if (!y115.2) = true then
 some ((Disk.mk ([])),false)
 else
 (impl_LogFile N (Log.mk 0 0 ([]))).bind fun y121 =>
 (impl_withFile N y115.1 (⟨#[108,111,103]⟩ : ByteArray) y121.1).bind fun y123 =>
 some (y123,true))
theorem sem_impl_FormatDisk (N : Nat) (x1 : (List Int)) (r : Disk × Bool) (h : impl_FormatDisk N x1 = some r) : Says Tryz.prog 70 [RO 3 (x1.map encI)] 0 [] (.tup [.agg [.sl 0 98 0 r.1.Files.length],VB r.2]) [(0,.vec 98 (r.1.Files.map encFile))] := by
 unfold impl_FormatDisk at h
 refine Says.of_norm e Tryz.call70 e fun B hB => ?_
 have hm : B.m ≤ 1000 := by omega
 refine Run.so hm (.z 1000 (.al e e) e e (.p e (.nil (.so hm (.p e ?_)))))
 obtain ⟨y115,hy115,h⟩ := bindO h
 refine Ops.z 5112 (Ev.call [] [] 1 (sem_impl_FormatShelf _ _ _ hy115) e e (.d1 .nil) e (.inl e) e e) e e (.p3 e e e (.z 5176 (.al e e) e e (.y 5192 (.sto e e e e e e) e e (.p e (.nil (.seq (.so hm (.p2 e e (.nil (.condO e h (fun g117 h => ?_) (fun g117 h => ?_)))))))))))
 ·refine Run.so hm (.z 13288 (.bd e e) e e (.y 13304 (.sto e e e e e e) e e (.p e (.nil (.ret ?_)))))
  obtain rfl := someO h
  exact Ends.mkG (.inl e) e (Gh.trans (Gh.trans (gh_prn [0,1] [] hB e) (gh_nil [0] [] hB e e e)) (gh_pk [0,1] [10000000] hB e e e e)) e e
 ·refine Run.skip (.so hm (.z 17384 (.bd e e) e e ?_))
  obtain ⟨y121,hy121,h⟩ := bindO h
  refine Ops.z 17400 (Ev.call [] [] 0 (sem_impl_LogFile _ _ _ hy121) e e (.cons (.agg (.d2 (.cons (.nil _ _) .nil))) .nil) e (.inl e) e e) e e (.p3 e e e (.p2 e e (.nil (.so hm (.p2 e e ?_)))))
  obtain ⟨y123,hy123,h⟩ := bindO h
  refine Ops.z 21512 (Ev.call [] [5112] 1 (sem_impl_withFile _ _ _ _ _ hy123) e e (.cons (.agg (.cons (.borrow e (by decide) (lendW (fun _ => e) _ e)) .nil)) (.d2 .nil)) e (.inr ⟨e,ownL_root ⟨own_rows (fun _ => e) _,trivial⟩⟩) e e) e e ?_
  refine Ops.y 21528 (.sto e e e e e e) e e (.p e (.nil (.ret ?_)))
  obtain rfl := someO h
  exact Ends.mkG (.inl e) e (gh_pk [0,1] [21512] hB e e e e) e e
def impl_DiskOk_l1 (N : Nat) (x1 : Disk) : Nat → Int → Option ((Bool) ⊕ (Unit))
 | 0,_ => none
 | m + 1,x227 =>
 (if (decide (x227 < (x1.Files.length : Int))) = true then
 (at? x1.Files x227).bind fun x254 =>
 (impl_within N (x254.Name.size : Int) 1 12).bind fun y260 =>
 (if (!y260) = true then
 some (Sum.inl false)
 else
 (if (decide ((x254.Text.size : Int) > 20000)) = true then
 some (Sum.inl false)
 else
 (if (decide (x227 > 0)) = true then
 (at? x1.Files (w64 (x227 - 1))).bind fun x264 =>
 (if (!Op.bytesLess x264.Name.toList x254.Name.toList) = true then
 some (Sum.inl false)
 else
 impl_DiskOk_l1 N x1 m (w64 (x227 + 1)))
 else
 impl_DiskOk_l1 N x1 m (w64 (x227 + 1)))))
 else
 some (Sum.inr ()))
def impl_DiskOk (N : Nat) (x1 : Disk) : Option (Bool) :=
 joinP (fun (v224 : Unit) =>
 some (decide ((x1.Files.length : Int) ≤ 30))) fun j224 =>
 (impl_DiskOk_l1 N x1 N 0).bind (Sum.elim (fun v246 => some v246) (fun (v247 : Unit) => j224 ()))
theorem sem_impl_DiskOk (N : Nat) (x1 : Disk) (r : Bool) (h : impl_DiskOk N x1 = some r) : Says Tryz.prog 154 [.agg [RO 98 (x1.Files.map encFile)]] 0 [] (VB r) [] := by
 unfold impl_DiskOk at h
 refine Says.of_norm e Tryz.call154 e fun B hB => ?_
 have hm : B.m ≤ 1000 := by omega
 refine Run.so hm (.z 1000 (.bx e e) e e (.p e (.nil (.seqO h (fun v224 => [(1,.ptr 0 0)]) (fun (v224 : Unit) => [(0,.box [RO 98 (x1.Files.map encFile)])]) (fun h => ?_) (fun v224 h => ?_)))))
 ·refine Run.so hm (.p2 e e (.z 5128 (Ev.lnF e) e e (.p e (.nil (.block ?_)))))
  obtain ⟨res247,h,hk247⟩ := bindO h
  refine Run.loop (n := N) (fun m247 fr σ => ∃ (x227 : Int),impl_DiskOk_l1 N x1 m247 x227 = some res247 ∧ fr = [(1,.ptr 0 0),(6,RO 98 (x1.Files.map encFile)),(7,VI (x1.Files.length : Int)),(8,VI x227)] ∧ σ = [(0,.box [RO 98 (x1.Files.map encFile)])]) (gh_pk [1,6,7,8] [1000] hB e e e e) ⟨_,h,e,e⟩ ?_
  rintro m247 fr σ ⟨x227,h,rfl,rfl⟩
  obtain _ | m247 := m247
  ·rw [impl_DiskOk_l1] at h; cases h
  rw [impl_DiskOk_l1] at h
  refine Run.so hm (.p e (.nil (.seq (.condO e h (fun g250 h => ?_) (fun g250 h => ?_)))))
  ·refine Run.skip (.seq (.block (.so hm (.p e ?_))))
   obtain ⟨x254,hx254,h⟩ := bindO h
   refine Ops.z 13304 (Ev.iaF e e hx254) e e (.p e (.z 13336 (.al e e) e e (.p e (.y 13368 (.sto e e e e e e) e e (.nil (.seq (.draw hm hmix (.p e (.p e (.p e ?_))))))))))
   obtain ⟨y260,hy260,h⟩ := bindO h
   refine OpsD.z 17432 (Ev.call [] [] 0 (sem_impl_within _ _ _ _ _ hy260) e e (.d2 (.d1 .nil)) e (.inl e) e e) e e (.p e (.p e (.askO (x := .t 18) e h (fun g261 h => ?_) (fun g261 h => ?_))))
   ·refine OpsD.gn e g261 (.gn e g261 (.gn e g261 (.gn e g261 (.z 17544 (.pkT e g261 e) e e (.p e (.gn e e (.gn e e (.gn e e (.gu e (.gu e (.gu e (.gu e (.gu e (.gu e (.gu e (.gu e (.gu e (.gu e (.gn e e (.z 17800 (.pkT e e e) e e (.nil ⟨by kernel_rfl,?_⟩)))))))))))))))))))))
    refine Run.condT e e (.so hm (.p e (.nil (.ret ?_))))
    obtain rfl := someO h
    have h := hk247
    replace h := inlO h
    obtain rfl := someO h
    exact Ends.mkG (.inl e) e (gh_pk [0] [] hB e e e e) e e
   ·refine OpsD.gp e g261 e (.gp e g261 e (.gp e g261 e (.gp e g261 e (.z 17544 (.pkF e g261 e) e e (.p e (.askO (x := .t 24) e h (fun g262 h => ?_) (fun g262 h => ?_)))))))
    ·refine OpsD.gn e g262 (.gn e g262 (.gn e g262 (.gu e (.gu e (.gu e (.gu e (.gu e (.gu e (.gu e (.gu e (.gu e (.gu e (.gn e g262 (.z 17800 (.pkT e g262 e) e e (.nil ⟨by kernel_rfl,?_⟩)))))))))))))))
     refine Run.condT e e (.so hm (.p e (.nil (.ret ?_))))
     obtain rfl := someO h
     have h := hk247
     replace h := inlO h
     obtain rfl := someO h
     exact Ends.mkG (.inl e) e (gh_pk [0] [] hB e e e e) e e
    ·refine OpsD.gp e g262 e (.gp e g262 e (.gp e g262 e (.askO (x := .t 27) e h (fun g263 h => ?_) (fun g263 h => ?_))))
     ·refine OpsD.gp e g263 e (.gp e g263 e (.gp e g263 e (.gp e g263 e ?_)))
      obtain ⟨x264,hx264,h⟩ := bindO h
      refine OpsD.gs (s := 17688) e g263 (Ev.iaF e e hx264) e e (.gp e g263 e (.gp e g263 e (.gp e g263 e (.gp e g263 e (.gp e g263 e (.gs (s := 17784) e g262 (.pkT e g263 e) e e (.z 17800 (.pkF e g262 e) e e (.nil ⟨by kernel_rfl,?_⟩))))))))
      refine Run.condO e h (fun g265 h => ?_) (fun g265 h => ?_)
      ·refine Run.so hm (.p e (.nil (.ret ?_)))
       obtain rfl := someO h
       have h := hk247
       replace h := inlO h
       obtain rfl := someO h
       exact Ends.mkG (.inl e) e (gh_pk [0] [] hB e e e e) e e
      ·exact Run.skip (.ops hm (.p2 e e (.nil (⟨m247,Nat.lt_succ_self m247,_,_,(gh_pk [1,6,7,8] [0] hB e e e e),_,h,e,e⟩))))
     ·refine OpsD.gn e g263 (.gn e g263 (.gn e g263 (.gn e g263 (.gn e g263 (.gn e g263 (.gn e g263 (.gn e g263 (.gn e g263 (.gn e g263 (.gs (s := 17784) e g262 (.pkF e g263 e) e e (.z 17800 (.pkF e g262 e) e e (.nil ⟨by kernel_rfl,?_⟩))))))))))))
      exact Run.condF e e (.skip (.ops hm (.p2 e e (.nil (⟨m247,Nat.lt_succ_self m247,_,_,(gh_pk [1,6,7,8] [0] hB e e e e),_,h,e,e⟩)))))
  ·refine Run.exit ?_
   obtain rfl := someO h
   have h := hk247
   replace h := inrO h
   exact ⟨_,_,(gh_pk [1] [0] hB e e e e),(),h,e,e⟩
 ·refine Run.so hm (.p2 e e (.z 29704 (Ev.lnF e) e e (.p2 e e (.nil (.ret ?_)))))
  obtain rfl := someO h
  exact Ends.mkG (.inl e) e (gh_pk [0] [] hB e e e e) e e
def impl_FileAt (N : Nat) (x1 : Disk) (x2 : ByteArray) : Option (ByteArray × Bool) :=
 (impl_DiskOk N x1).bind fun y118 =>
 (if (!y118) = true then
 some ((⟨#[]⟩ : ByteArray),false)
 else
 (impl_fileNo N x1 x2).bind fun y123 =>
 (if (!y123.2) = true then
 some ((⟨#[]⟩ : ByteArray),false)
 else
 (at? x1.Files y123.1).bind fun x127 =>
 some (x127.Text,true)))
theorem sem_impl_FileAt (N : Nat) (x1 : Disk) (x2 : ByteArray) (r : ByteArray × Bool) (h : impl_FileAt N x1 x2 = some r) : Says Tryz.prog 108 [.agg [RO 98 (x1.Files.map encFile)],VS x2] 0 [] (.tup [VS r.1,VB r.2]) [] := by
 unfold impl_FileAt at h
 refine Says.of_norm e Tryz.call108 e fun B hB => ?_
 have hm : B.m ≤ 1000 := by omega
 refine Run.so hm (.z 1000 (.bx e e) e e (.p2 e e (.nil (.seq (.so hm (.p e ?_))))))
 obtain ⟨y118,hy118,h⟩ := bindO h
 refine Ops.z 5112 (Ev.call [] [] 0 (sem_impl_DiskOk _ _ _ hy118) e e (.cons (.agg (.d1 .nil)) .nil) e (.inl e) e e) e e (.p e (.nil (.condO e h (fun g119 h => ?_) (fun g119 h => ?_))))
 ·refine Run.so hm (.p2 e e (.nil (.ret ?_)))
  obtain rfl := someO h
  exact Ends.mkG (.inl e) e (gh_pk [0,1] [] hB e e e e) e e
 ·refine Run.skip (.so hm (.p2 e e ?_))
  obtain ⟨y123,hy123,h⟩ := bindO h
  refine Ops.z 13320 (Ev.call [] [] 0 (sem_impl_fileNo _ _ _ _ hy123) e e (.cons (.agg (.d1 .nil)) (.d1 .nil)) e (.inl e) e e) e e (.p3 e e e (.p2 e e (.nil (.seq (.so hm (.p2 e e (.nil (.condO e h (fun g125 h => ?_) (fun g125 h => ?_)))))))))
  ·refine Run.so hm (.p2 e e (.nil (.ret ?_)))
   obtain rfl := someO h
   exact Ends.mkG (.inl e) e (gh_pk [0,1] [] hB e e e e) e e
  ·refine Run.skip (.so hm (.p3 e e e ?_))
   obtain ⟨x127,hx127,h⟩ := bindO h
   refine Ops.z 25624 (Ev.iaF e e hx127) e e (.p3 e e e (.p e (.nil (.ret ?_))))
   obtain rfl := someO h
   exact Ends.mkG (.inl e) e (gh_pk [0,1] [] hB e e e e) e e
def impl_Unsealed (N : Nat) (x1 : ByteArray) : Option (ByteArray × Bool) :=
 (if (decide ((x1.size : Int) < 4)) = true then
 some ((⟨#[]⟩ : ByteArray),false)
 else
 (stake? x1 (w64 ((x1.size : Int) - 4))).bind fun x125 =>
 (impl_Sealed N x125).bind fun y136 =>
 (if (!y136.2) = true then
 some ((⟨#[]⟩ : ByteArray),false)
 else
 (if (!decide (y136.1 = x1)) = true then
 some ((⟨#[]⟩ : ByteArray),false)
 else
 some (x125,true))))
theorem sem_impl_Unsealed (N : Nat) (x1 : ByteArray) (r : ByteArray × Bool) (h : impl_Unsealed N x1 = some r) : Says Tryz.prog 196 [VS x1] 0 [] (.tup [VS r.1,VB r.2]) [] := by
 unfold impl_Unsealed at h
 refine Says.of_norm e Tryz.call196 e fun B hB => ?_
 have hm : B.m ≤ 1000 := by omega
 refine Run.so hm (.p2 e e (.nil (.seq (.so hm (.p3 e e e (.nil (.condO e h (fun g121 h => ?_) (fun g121 h => ?_))))))))
 ·refine Run.so hm (.p2 e e (.nil (.ret ?_)))
  obtain rfl := someO h
  exact Ends.mkG (.inl e) e (gh_pk [0,1] [] hB e e e e) e e
 ·refine Run.skip (.so hm (.p3 e e e (.p e ?_)))
  obtain ⟨x125,hx125,h⟩ := bindO h
  refine Ops.z 13352 (Ev.ssH e e hx125) e e (.p e (.nil (.seq (.so hm (.p e ?_)))))
  obtain ⟨y136,hy136,h⟩ := bindO h
  refine Ops.z 17400 (Ev.call [] [] 0 (sem_impl_Sealed _ _ _ hy136) e e (.d1 .nil) e (.inl e) e e) e e (.p3 e e e (.p2 e e (.nil (.so hm (.p3 e e e (.askO (x := .t 22) e h (fun g138 h => ?_) (fun g138 h => ?_)))))))
  ·refine Ops.gn e g138 (.gn e g138 (.gn e g138 (.z 21576 (.pkT e g138 e) e e (.nil (.condT e e (.so hm (.p2 e e (.nil (.ret ?_)))))))))
   obtain rfl := someO h
   exact Ends.mkG (.inl e) e (gh_pk [0,1] [] hB e e e e) e e
  ·refine Ops.gp e g138 e (.gp e g138 e (.gp e g138 e (.z 21576 (.pkF e g138 e) e e (.nil (.condO e h (fun g139 h => ?_) (fun g139 h => ?_))))))
   ·refine Run.so hm (.p2 e e (.nil (.ret ?_)))
    obtain rfl := someO h
    exact Ends.mkG (.inl e) e (gh_pk [0,1] [] hB e e e e) e e
   ·refine Run.skip (.so hm (.p3 e e e (.nil (.ret ?_))))
    obtain rfl := someO h
    exact Ends.mkG (.inl e) e (gh_pk [0,1] [] hB e e e e) e e
def impl_ReadVar_l1 (N : Nat) (x1 : ByteArray) (x2 : Int) : Nat → Int → Int → Option ((Int × Int × Bool) ⊕ (Unit))
 | 0,_,_ => none
 | m + 1,x497,x498 =>
 (if (decide (x498 < 5)) = true then
 (if (decide ((w64 (x2 + x498)) < (x1.size : Int))) = true then
 (sat? x1 (w64 (x2 + x498))).bind fun x598 =>
 (intD .rem .i64 (w64 (x598)) 128).bind fun x605 =>
 (intSh .shl .i64 x605 (w64 (7 * x498))).bind fun x606 =>
 (if (decide ((w64 (x598)) < 128)) = true then
 (impl_VarText N (w64 (x497 + x606))).bind fun y618 =>
 (if (!y618.2) = true then
 some (Sum.inl (0,0,false))
 else
 (if ((y618.1.size : Int) != (w64 (x498 + 1))) = true then
 some (Sum.inl (0,0,false))
 else
 some (Sum.inl (w64 (x497 + x606),w64 ((w64 (x2 + x498)) + 1),true))))
 else
 impl_ReadVar_l1 N x1 x2 m (w64 (x497 + x606)) (w64 (x498 + 1)))
 else
 some (Sum.inr ()))
 else
 some (Sum.inr ()))
def impl_ReadVar (N : Nat) (x1 : ByteArray) (x2 : Int) : Option (Int × Int × Bool) :=
 (impl_within N x2 0 (x1.size : Int)).bind fun y365 =>
 (if (!y365) = true then
 some (0,0,false)
 else
 joinP (fun (v494 : Unit) =>
 some (0,0,false)) fun j494 =>
 (impl_ReadVar_l1 N x1 x2 N 0 0).bind (Sum.elim (fun v559 => some v559) (fun (v560 : Unit) => j494 ())))
theorem sem_impl_ReadVar (N : Nat) (x1 : ByteArray) (x2 : Int) (r : Int × Int × Bool) (h : impl_ReadVar N x1 x2 = some r) : Says Tryz.prog 210 [VS x1,VI x2] 0 [] (.tup [VI r.1,VI r.2.1,VB r.2.2]) [] := by
 unfold impl_ReadVar at h
 refine Says.of_norm e Tryz.call210 e fun B hB => ?_
 have hm : B.m ≤ 1000 := by omega
 refine Run.so hm (.p3 e e e (.nil (.seq (.so hm (.p3 e e e ?_)))))
 obtain ⟨y365,hy365,h⟩ := bindO h
 refine Ops.z 5144 (Ev.call [] [] 0 (sem_impl_within _ _ _ _ _ hy365) e e (.d2 (.d1 .nil)) e (.inl e) e e) e e (.p e (.nil (.condO e h (fun g366 h => ?_) (fun g366 h => ?_))))
 ·refine Run.so hm (.p3 e e e (.nil (.ret ?_)))
  obtain rfl := someO h
  exact Ends.mkG (.inl e) e (gh_pk [0,1,2] [] hB e e e e) e e
 ·refine Run.skip (.so hm (.p e (.nil (.seqO h (fun v494 => []) (fun (v494 : Unit) => []) (fun h => ?_) (fun v494 h => ?_)))))
  ·refine Run.so hm (.p e (.nil (.block ?_)))
   obtain ⟨res560,h,hk560⟩ := bindO h
   refine Run.loop (n := N) (fun m560 fr σ => ∃ (x497 : Int),∃ (x498 : Int),impl_ReadVar_l1 N x1 x2 m560 x497 x498 = some res560 ∧ fr = [(0,VS x1),(1,VI x2),(7,VI x497),(8,VI x498)] ∧ σ = []) (gh_pk [0,1,7,8] [] hB e e e e) ⟨_,_,h,e,e⟩ ?_
   rintro m560 fr σ ⟨x497,x498,h,rfl,rfl⟩
   obtain _ | m560 := m560
   ·rw [impl_ReadVar_l1] at h; cases h
   rw [impl_ReadVar_l1] at h
   refine Run.seq (.so hm (.p3 e e e (.askO (x := .t 19) e h (fun g566 h => ?_) (fun g566 h => ?_))))
   ·refine Ops.gp e g566 e (.gp e g566 e (.gp e g566 e (.gp e g566 e (.gp e g566 e (.gp e g566 e (.z 21624 (.pkT e g566 e) e e (.nil (.condO e h (fun g567 h => ?_) (fun g567 h => ?_)))))))))
    ·refine Run.skip (.seq (.block (.so hm (.p3 e e e (.p e ?_)))))
     obtain ⟨x598,hx598,h⟩ := bindO h
     refine Ops.z 29736 (Ev.ixS e e hx598) e e (.p2 e e (.nil (.so hm (.p2 e e ?_))))
     obtain ⟨x605,hx605,h⟩ := bindO h
     refine Ops.z 33800 (.bin e e hx605) e e (.p2 e e ?_)
     obtain ⟨x606,hx606,h⟩ := bindO h
     refine Ops.z 33848 (.sh e e hx606) e e (.p2 e e (.nil (.so hm (.p2 e e (.nil (.condO e h (fun g607 h => ?_) (fun g607 h => ?_)))))))
     ·refine Run.seq (.so hm (.p e ?_))
      obtain ⟨y618,hy618,h⟩ := bindO h
      refine Ops.z 41976 (Ev.call [] [] 0 (sem_impl_VarText _ _ _ hy618) e e (.d1 .nil) e (.inl e) e e) e e (.p3 e e e (.p2 e e (.nil (.so hm (.p3 e e e (.askO (x := .t 51) e h (fun g620 h => ?_) (fun g620 h => ?_)))))))
      ·refine Ops.gn e g620 (.gn e g620 (.gn e g620 (.gn e g620 (.gn e g620 (.z 46184 (.pkT e g620 e) e e (.nil (.condT e e (.so hm (.p3 e e e (.nil (.ret ?_)))))))))))
       obtain rfl := someO h
       have h := hk560
       replace h := inlO h
       obtain rfl := someO h
       exact Ends.mkG (.inl e) e (gh_pk [0,1,2] [] hB e e e e) e e
      ·refine Ops.gp e g620 e (.gp e g620 e (.gp e g620 e (.gp e g620 e (.gp e g620 e (.z 46184 (.pkF e g620 e) e e (.nil (.condO e h (fun g621 h => ?_) (fun g621 h => ?_))))))))
       ·refine Run.so hm (.p3 e e e (.nil (.ret ?_)))
        obtain rfl := someO h
        have h := hk560
        replace h := inlO h
        obtain rfl := someO h
        exact Ends.mkG (.inl e) e (gh_pk [0,1,2] [] hB e e e e) e e
       ·refine Run.skip (.so hm (.p3 e e e (.p3 e e e (.p2 e e (.nil (.ret ?_))))))
        obtain rfl := someO h
        have h := hk560
        replace h := inlO h
        obtain rfl := someO h
        exact Ends.mkG (.inl e) e (gh_pk [0,1,2] [] hB e e e e) e e
     ·exact Run.skip (.ops hm (.p3 e e e (.nil (⟨m560,Nat.lt_succ_self m560,_,_,(gh_pk [0,1,7,8] [] hB e e e e),_,_,h,e,e⟩))))
    ·refine Run.exit ?_
     obtain rfl := someO h
     have h := hk560
     replace h := inrO h
     exact ⟨_,_,(gh_pk [] [] hB e e e e),(),h,e,e⟩
   ·refine Ops.gn e g566 (.gn e g566 (.gn e g566 (.gn e g566 (.gn e g566 (.gn e g566 (.z 21624 (.pkF e g566 e) e e (.nil (.condF e e (.exit ?_)))))))))
    obtain rfl := someO h
    have h := hk560
    replace h := inrO h
    exact ⟨_,_,(gh_pk [] [] hB e e e e),(),h,e,e⟩
  ·refine Run.so hm (.p3 e e e (.nil (.ret ?_)))
   obtain rfl := someO h
   exact Ends.mkG (.inl e) e (gh_pk [0,1,2] [] hB e e e e) e e
def reader_num (N : Nat) (x1 : Treader) : Option (Int × Treader) :=
 (impl_ReadVar N x1.s x1.at').bind fun y113 =>
 (if x1.bad = true then
 some (0,(Treader.mk x1.s x1.at' true))
 else
 (if (!y113.2.2) = true then
 some (0,(Treader.mk x1.s x1.at' true))
 else
 some (y113.1,(Treader.mk x1.s y113.2.1 x1.bad))))
theorem sem_reader_num (N : Nat) (x1 : Treader) (r : Int × Treader) (h : reader_num N x1 = some r) : Says Tryz.prog 165 [.ptr 0 0] 1 [(0,.box [VS x1.s,VI x1.at',VB x1.bad])] (VI r.1) [(0,.box [VS r.2.s,VI r.2.at',VB r.2.bad])] := by
 unfold reader_num at h
 refine Says.of_norm e Tryz.call165 e fun B hB => ?_
 have hm : B.m ≤ 1000 := by omega
 refine Run.so hm (.p e (.nil (.seq (.draw hm hmix (.p e (.p e (.p e (.p e (.p e (.p e (.p e (.p e ?_))))))))))))
 obtain ⟨y113,hy113,h⟩ := bindO h
 refine OpsD.z 5224 (Ev.call [] [] 0 (sem_impl_ReadVar _ _ _ _ hy113) e e (.d2 .nil) e (.inl e) e e) e e (.p e (.p e (.p e (.p e (.p e (.p e (.p e (.nil ⟨by kernel_rfl,?_⟩))))))))
 refine Run.seq (.so hm (.p3 e e e (.p2 e e (.askO (x := .t 23) e h (fun g118 h => ?_) (fun g118 h => ?_)))))
 ·refine Ops.gn e g118 (.gn e g118 (.z 9304 (.pkT e g118 e) e e (.nil (.condT e e (.so hm (.p3 e e e (.y 13336 (.sto e e e e e e) e e (.nil (.so hm (.p e (.nil (.ret ?_))))))))))))
  obtain rfl := someO h
  exact Ends.mkG (.inl e) e (gh_pk [0] [0] hB e e e e) e e
 ·refine Ops.gp e g118 e (.gp e g118 e (.z 9304 (.pkF e g118 e) e e (.nil (.condO e h (fun g119 h => ?_) (fun g119 h => ?_)))))
  ·refine Run.so hm (.p3 e e e (.y 13336 (.sto e e e e e e) e e (.nil (.so hm (.p e (.nil (.ret ?_)))))))
   obtain rfl := someO h
   exact Ends.mkG (.inl e) e (gh_pk [0] [0] hB e e e e) e e
  ·refine Run.skip (.so hm (.p3 e e e (.p e (.y 21544 (.sto e e e e e e) e e (.nil (.so hm (.p2 e e (.nil (.ret ?_)))))))))
   obtain rfl := someO h
   exact Ends.mkG (.inl e) e (gh_pk [0] [0] hB e e e e) e e
def impl_ReadManifest_1 (N : Nat) (x1 : Manifest) (x2 : Treader) : Option (Manifest × Treader) :=
 (reader_num N x2).bind fun y106 =>
 (cat? x1.Segs ([y106.1] : List Int)).bind fun x107 =>
 some (({ x1 with Segs := x107 }),y106.2)
theorem sem_impl_ReadManifest_1 (N : Nat) (x1 : Manifest) (x2 : Treader) (r : Manifest × Treader) (h : impl_ReadManifest_1 N x1 x2 = some r) : Says Tryz.prog 198 [.ptr 0 0,.ptr 1 0] 5 [(0,.box [.sl 2 3 0 x1.Segs.length,VI x1.Next,VI x1.Base,VI x1.BaseTerm,.sl 3 3 0 x1.Conf.length]),(1,.box [.ptr 4 0]),(2,.vec 3 (x1.Segs.map encI)),(3,.vec 3 (x1.Conf.map encI)),(4,.box [VS x2.s,VI x2.at',VB x2.bad])] (.tup []) [(0,.box [.sl 5 3 0 r.1.Segs.length,VI r.1.Next,VI r.1.Base,VI r.1.BaseTerm,.sl 3 3 0 x1.Conf.length]),(1,.box [.ptr 4 0]),(2,.gone),(3,.vec 3 (x1.Conf.map encI)),(4,.box [VS r.2.s,VI r.2.at',VB r.2.bad]),(5,.vec 3 (r.1.Segs.map encI))] := by
 unfold impl_ReadManifest_1 at h
 refine Says.of_norm e Tryz.call198 e fun B hB => ?_
 have hm : B.m ≤ 1000 := by omega
 refine Run.draw hm hmix (.p e (.p e (.p e ?_)))
 obtain ⟨y106,hy106,h⟩ := bindO h
 refine OpsD.z 1048 (Ev.call [4] [] 0 (sem_reader_num _ _ _ hy106) e e (.cons (.ptr e) .nil) e (.inl e) e e) e e (.z 1064 (Ev.bsW (ys := ([y106.1] : List Int)) (f := encI) e (.d1 .nil) e e e e e) e e ?_)
 obtain ⟨x107,hx107,h⟩ := bindO h
 refine OpsD.z 1080 (Ev.apW (f := encI) (ontoW e e e) (addsW e e e (fun _ => e)) e bt3 e hx107) e e (.p e (.y 1112 (.sto e e e e e e) e e (.nil ⟨by kernel_rfl,?_⟩)))
 obtain rfl := someO h
 exact Ends.mkG (.inr e) e (gh_pk [] [0,1,2,3,4,1080] hB e e e e) e e
def reader_each_l1 (N : Nat) (y139 : Int × Treader) : Nat → Int → ByteArray → Int → Bool → Int → Int → Int → (List Int) → Option (ByteArray × Int × Bool × Int × Int × Int × (List Int))
 | 0,_,_,_,_,_,_,_,_ => none
 | m + 1,x141,x142,x143,x144,x145,x146,x147,x148 =>
 (if (decide (x141 < y139.1)) = true then
 (if (!x144) = true then
 (impl_ReadManifest_1 N (Manifest.mk x148 x145 x146 x147 ([] : (List Int))) (Treader.mk x142 x143 x144)).bind fun y171 =>
 reader_each_l1 N y139 m (w64 (x141 + 1)) y171.2.s y171.2.at' y171.2.bad y171.1.Next y171.1.Base y171.1.BaseTerm y171.1.Segs
 else
 some (x142,x143,x144,x145,x146,x147,x148))
 else
 some (x142,x143,x144,x145,x146,x147,x148))
def reader_each (N : Nat) (x1 : Treader) (x2 : Manifest) : Option (Treader × Manifest) :=
 (reader_num N x1).bind fun y139 =>
 (reader_each_l1 N y139 N 0 y139.2.s y139.2.at' y139.2.bad x2.Next x2.Base x2.BaseTerm ([] : (List Int))).bind (fun v160 => some ((Treader.mk v160.1 v160.2.1 v160.2.2.1),(Manifest.mk v160.2.2.2.2.2.2 v160.2.2.2.1 v160.2.2.2.2.1 v160.2.2.2.2.2.1 ([] : (List Int)))))
theorem sem_reader_each (N : Nat) (x1 : Treader) (x2 : Manifest) (r : Treader × Manifest) (h : reader_each N x1 x2 = some r) : Says Tryz.prog 197 [.ptr 0 0,.fn 198 [.ptr 1 0,.ptr 2 0]] 3 [(0,.box [VS x1.s,VI x1.at',VB x1.bad]),(1,.box [NI 3,VI x2.Next,VI x2.Base,VI x2.BaseTerm,NI 3]),(2,.box [.ptr 0 0])] (.tup []) [(0,.box [VS r.1.s,VI r.1.at',VB r.1.bad]),(1,.box [.sl 3 3 0 r.2.Segs.length,VI r.2.Next,VI r.2.Base,VI r.2.BaseTerm,.sl 4 3 0 r.2.Conf.length]),(2,.box [.ptr 0 0]),(3,.vec 3 (r.2.Segs.map encI)),(4,.vec 3 (r.2.Conf.map encI))] := by
 unfold reader_each at h
 refine Says.of_norm e Tryz.call197 e fun B hB => ?_
 have hm : B.m ≤ 1000 := by omega
 refine Run.so hm (.p e ?_)
 obtain ⟨y139,hy139,h⟩ := bindO h
 refine Ops.z 1016 (Ev.call [0] [] 0 (sem_reader_num _ _ _ hy139) e e (.cons (.ptr e) .nil) e (.inl e) e e) e e (.p e (.nil (.so hm (.p e (.nil (.block ?_))))))
 obtain ⟨res160,h,hk160⟩ := bindO h
 refine Run.loop (n := N) (fun m160 fr σ => ∃ (x141 : Int),∃ (x142 : ByteArray),∃ (x143 : Int),∃ (x144 : Bool),∃ (x145 : Int),∃ (x146 : Int),∃ (x147 : Int),∃ (x148 : (List Int)),reader_each_l1 N y139 m160 x141 x142 x143 x144 x145 x146 x147 x148 = some res160 ∧ fr = [(0,.ptr 0 0),(1,.fn 198 [.ptr 1 0,.ptr 2 0]),(4,VI y139.1),(5,VI x141)] ∧ σ = [(0,.box [VS x142,VI x143,VB x144]),(1,.box [.sl 3 3 0 x148.length,VI x145,VI x146,VI x147,.sl 4 3 0 (([] : (List Int)).length)]),(2,.box [.ptr 0 0]),(3,.vec 3 (x148.map encI)),(4,.vec 3 (([] : (List Int)).map encI))]) (Gh.trans (Gh.trans (gh_prn [0,1,4,5] [0,1,2] hB e) (gh_nil [] [1] hB e e e)) (gh_pk [0,1,4,5] [0,1,2,20000000,20000001] hB e e e e)) ⟨_,_,_,_,_,_,_,_,h,e,e⟩ ?_
 rintro m160 fr σ ⟨x141,x142,x143,x144,x145,x146,x147,x148,h,rfl,rfl⟩
 obtain _ | m160 := m160
 ·rw [reader_each_l1] at h; cases h
 rw [reader_each_l1] at h
 refine Run.seq (.so hm (.p3 e e e (.p e (.askO (x := .t 11) e h (fun g166 h => ?_) (fun g166 h => ?_)))))
 ·refine Ops.gp e g166 e (.gp e g166 e (.gp e g166 e (.gp e g166 e (.gp e g166 e (.z 9336 (.pkT e g166 e) e e (.nil (.condO e h (fun g167 h => ?_) (fun g167 h => ?_))))))))
  ·refine Run.skip (.seq (.block (.ops hm (.p e ?_))))
   obtain ⟨y171,hy171,h⟩ := bindO h
   exact Ops.z 17400 (Ev.callx [1,2,3,4,0] [] 1 e (sem_impl_ReadManifest_1 _ _ _ _ hy171) e e (.cons (.ptr e) (.cons (.ptr e) .nil)) e (.inl e) e e) e e (.nil (.ops hm (.p3 e e e (.nil (⟨m160,Nat.lt_succ_self m160,_,_,(gh_pk [0,1,4,5] [0,1,2,17400,4] hB e e e e),_,_,_,_,_,_,_,_,h,e,e⟩)))))
  ·refine Run.exit ?_
   obtain rfl := someO h
   have h := hk160
   obtain rfl := someO h
   exact Ends.mkG (.inr e) e (gh_pk [] [0,1,2,3,4] hB e e e e) e e
 ·refine Ops.gn e g166 (.gn e g166 (.gn e g166 (.gn e g166 (.gn e g166 (.z 9336 (.pkF e g166 e) e e (.nil (.condF e e (.exit ?_))))))))
  obtain rfl := someO h
  have h := hk160
  obtain rfl := someO h
  exact Ends.mkG (.inr e) e (gh_pk [] [0,1,2,3,4] hB e e e e) e e
def impl_ReadManifest_2 (N : Nat) (x1 : Manifest) (x2 : Treader) : Option (Manifest × Treader) :=
 (reader_num N x2).bind fun y106 =>
 (cat? x1.Conf ([y106.1] : List Int)).bind fun x107 =>
 some (({ x1 with Conf := x107 }),y106.2)
theorem sem_impl_ReadManifest_2 (N : Nat) (x1 : Manifest) (x2 : Treader) (r : Manifest × Treader) (h : impl_ReadManifest_2 N x1 x2 = some r) : Says Tryz.prog 199 [.ptr 0 0,.ptr 1 0] 5 [(0,.box [.sl 2 3 0 x1.Segs.length,VI x1.Next,VI x1.Base,VI x1.BaseTerm,.sl 3 3 0 x1.Conf.length]),(1,.box [.ptr 4 0]),(2,.vec 3 (x1.Segs.map encI)),(3,.vec 3 (x1.Conf.map encI)),(4,.box [VS x2.s,VI x2.at',VB x2.bad])] (.tup []) [(0,.box [.sl 2 3 0 x1.Segs.length,VI r.1.Next,VI r.1.Base,VI r.1.BaseTerm,.sl 5 3 0 r.1.Conf.length]),(1,.box [.ptr 4 0]),(2,.vec 3 (x1.Segs.map encI)),(3,.gone),(4,.box [VS r.2.s,VI r.2.at',VB r.2.bad]),(5,.vec 3 (r.1.Conf.map encI))] := by
 unfold impl_ReadManifest_2 at h
 refine Says.of_norm e Tryz.call199 e fun B hB => ?_
 have hm : B.m ≤ 1000 := by omega
 refine Run.draw hm hmix (.p e (.p e (.p e ?_)))
 obtain ⟨y106,hy106,h⟩ := bindO h
 refine OpsD.z 1048 (Ev.call [4] [] 0 (sem_reader_num _ _ _ hy106) e e (.cons (.ptr e) .nil) e (.inl e) e e) e e (.z 1064 (Ev.bsW (ys := ([y106.1] : List Int)) (f := encI) e (.d1 .nil) e e e e e) e e ?_)
 obtain ⟨x107,hx107,h⟩ := bindO h
 refine OpsD.z 1080 (Ev.apW (f := encI) (ontoW e e e) (addsW e e e (fun _ => e)) e bt3 e hx107) e e (.p e (.y 1112 (.sto e e e e e e) e e (.nil ⟨by kernel_rfl,?_⟩)))
 obtain rfl := someO h
 exact Ends.mkG (.inr e) e (gh_pk [] [0,1,2,3,4,1080] hB e e e e) e e
def reader_each_i1_l1 (N : Nat) (x2 : Manifest) (y159 : Int × Treader) : Nat → Int → ByteArray → Int → Bool → Int → Int → Int → (List Int) → Option (ByteArray × Int × Bool × Int × Int × Int × (List Int))
 | 0,_,_,_,_,_,_,_,_ => none
 | m + 1,x181,x182,x183,x184,x185,x186,x187,x189 =>
 (if (decide (x181 < y159.1)) = true then
 (if (!x184) = true then
 (impl_ReadManifest_2 N (Manifest.mk x2.Segs x185 x186 x187 x189) (Treader.mk x182 x183 x184)).bind fun y211 =>
 reader_each_i1_l1 N x2 y159 m (w64 (x181 + 1)) y211.2.s y211.2.at' y211.2.bad y211.1.Next y211.1.Base y211.1.BaseTerm y211.1.Conf
 else
 some (x182,x183,x184,x185,x186,x187,x189))
 else
 some (x182,x183,x184,x185,x186,x187,x189))
def reader_each_i1 (N : Nat) (x1 : Treader) (x2 : Manifest) : Option (Treader × Manifest) :=
 (reader_num N x1).bind fun y159 =>
 (reader_each_i1_l1 N x2 y159 N 0 y159.2.s y159.2.at' y159.2.bad x2.Next x2.Base x2.BaseTerm x2.Conf).bind (fun v200 => some ((Treader.mk v200.1 v200.2.1 v200.2.2.1),(Manifest.mk x2.Segs v200.2.2.2.1 v200.2.2.2.2.1 v200.2.2.2.2.2.1 v200.2.2.2.2.2.2)))
theorem sem_reader_each_i1 (N : Nat) (x1 : Treader) (x2 : Manifest) (r : Treader × Manifest) (h : reader_each_i1 N x1 x2 = some r) : Says Tryz.prog 197 [.ptr 0 0,.fn 199 [.ptr 1 0,.ptr 2 0]] 5 [(0,.box [VS x1.s,VI x1.at',VB x1.bad]),(1,.box [.sl 3 3 0 x2.Segs.length,VI x2.Next,VI x2.Base,VI x2.BaseTerm,.sl 4 3 0 x2.Conf.length]),(2,.box [.ptr 0 0]),(3,.vec 3 (x2.Segs.map encI)),(4,.vec 3 (x2.Conf.map encI))] (.tup []) [(0,.box [VS r.1.s,VI r.1.at',VB r.1.bad]),(1,.box [.sl 5 3 0 r.2.Segs.length,VI r.2.Next,VI r.2.Base,VI r.2.BaseTerm,.sl 6 3 0 r.2.Conf.length]),(2,.box [.ptr 0 0]),(3,.gone),(4,.gone),(5,.vec 3 (r.2.Segs.map encI)),(6,.vec 3 (r.2.Conf.map encI))] := by
 unfold reader_each_i1 at h
 refine Says.of_norm e Tryz.call197 e fun B hB => ?_
 have hm : B.m ≤ 1000 := by omega
 refine Run.so hm (.p e ?_)
 obtain ⟨y159,hy159,h⟩ := bindO h
 refine Ops.z 1016 (Ev.call [0] [] 0 (sem_reader_num _ _ _ hy159) e e (.cons (.ptr e) .nil) e (.inl e) e e) e e (.p e (.nil (.so hm (.p e (.nil (.block ?_))))))
 obtain ⟨res200,h,hk200⟩ := bindO h
 refine Run.loop (n := N) (fun m200 fr σ => ∃ (x181 : Int),∃ (x182 : ByteArray),∃ (x183 : Int),∃ (x184 : Bool),∃ (x185 : Int),∃ (x186 : Int),∃ (x187 : Int),∃ (x189 : (List Int)),reader_each_i1_l1 N x2 y159 m200 x181 x182 x183 x184 x185 x186 x187 x189 = some res200 ∧ fr = [(0,.ptr 0 0),(1,.fn 199 [.ptr 1 0,.ptr 2 0]),(4,VI y159.1),(5,VI x181)] ∧ σ = [(0,.box [VS x182,VI x183,VB x184]),(1,.box [.sl 5 3 0 x2.Segs.length,VI x185,VI x186,VI x187,.sl 6 3 0 x189.length]),(2,.box [.ptr 0 0]),(3,.gone),(4,.gone),(5,.vec 3 (x2.Segs.map encI)),(6,.vec 3 (x189.map encI))]) (Gh.trans (Gh.trans (gh_prn [0,1,4,5] [0,1,2,3,4] hB e) (gh_mvE [0,1,4,5] [3,4] hB e e)) (gh_pk [0,1,4,5] [0,1,2,3,4,30000003,30000004] hB e e e e)) ⟨_,_,_,_,_,_,_,_,h,e,e⟩ ?_
 rintro m200 fr σ ⟨x181,x182,x183,x184,x185,x186,x187,x189,h,rfl,rfl⟩
 obtain _ | m200 := m200
 ·rw [reader_each_i1_l1] at h; cases h
 rw [reader_each_i1_l1] at h
 refine Run.seq (.so hm (.p3 e e e (.p e (.askO (x := .t 11) e h (fun g206 h => ?_) (fun g206 h => ?_)))))
 ·refine Ops.gp e g206 e (.gp e g206 e (.gp e g206 e (.gp e g206 e (.gp e g206 e (.z 9336 (.pkT e g206 e) e e (.nil (.condO e h (fun g207 h => ?_) (fun g207 h => ?_))))))))
  ·refine Run.skip (.seq (.block (.ops hm (.p e ?_))))
   obtain ⟨y211,hy211,h⟩ := bindO h
   exact Ops.z 17400 (Ev.callx [1,2,5,6,0] [] 1 e (sem_impl_ReadManifest_2 _ _ _ _ hy211) e e (.cons (.ptr e) (.cons (.ptr e) .nil)) e (.inl e) e e) e e (.nil (.ops hm (.p3 e e e (.nil (⟨m200,Nat.lt_succ_self m200,_,_,(gh_pk [0,1,4,5] [0,1,2,3,4,5,17400] hB e e e e),_,_,_,_,_,_,_,_,h,e,e⟩)))))
  ·refine Run.exit ?_
   obtain rfl := someO h
   have h := hk200
   obtain rfl := someO h
   exact Ends.mkG (.inr e) e (gh_pk [] [0,1,2,3,4,5,6] hB e e e e) e e
 ·refine Ops.gn e g206 (.gn e g206 (.gn e g206 (.gn e g206 (.gn e g206 (.z 9336 (.pkF e g206 e) e e (.nil (.condF e e (.exit ?_))))))))
  obtain rfl := someO h
  have h := hk200
  obtain rfl := someO h
  exact Ends.mkG (.inr e) e (gh_pk [] [0,1,2,3,4,5,6] hB e e e e) e e
def reader_done (N : Nat) (x1 : Treader) : Option (Bool) :=
 (if (!x1.bad) = true then
 some (x1.at' == (x1.s.size : Int))
 else
 some false)
theorem sem_reader_done (N : Nat) (x1 : Treader) (r : Bool) (h : reader_done N x1 = some r) : Says Tryz.prog 167 [.ptr 0 0] 1 [(0,.box [VS x1.s,VI x1.at',VB x1.bad])] (VB r) [(0,.box [VS x1.s,VI x1.at',VB x1.bad])] := by
 unfold reader_done at h
 refine Says.of_norm e Tryz.call167 e fun B hB => ?_
 have hm : B.m ≤ 1000 := by omega
 refine Run.so hm (.p e (.nil (.seq (.draw hm hmix (.p e (.p e (.p e (.p e (.p e (.p e (.askO (x := .t 8) e h (fun g103 h => ?_) (fun g103 h => ?_))))))))))))
 ·refine OpsD.gp e g103 e (.gp e g103 e (.gp e g103 e (.gp e g103 e (.gp e g103 e (.gp e g103 e (.gp e g103 e (.gp e g103 e (.gp e g103 e (.gp e g103 e (.z 5352 (.pkT e g103 e) e e (.p e (.nil ⟨by kernel_rfl,?_⟩))))))))))))
  refine Run.ret ?_
  obtain rfl := someO h
  exact Ends.mkG (.inl e) e (gh_pk [0] [0] hB e e e e) e e
 ·refine OpsD.gn e g103 (.gn e g103 (.gn e g103 (.gn e g103 (.gn e g103 (.gn e g103 (.gn e g103 (.gn e g103 (.gn e g103 (.gn e g103 (.z 5352 (.pkF e g103 e) e e (.p e (.nil ⟨by kernel_rfl,?_⟩))))))))))))
  refine Run.ret ?_
  obtain rfl := someO h
  exact Ends.mkG (.inl e) e (gh_pk [0] [0] hB e e e e) e e
def impl_ReadManifest (N : Nat) (x1 : ByteArray) : Option (Manifest × Bool) :=
 (impl_Unsealed N x1).bind fun y143 =>
 (if (!y143.2) = true then
 some ((Manifest.mk ([]) 0 0 0 ([])),false)
 else
 (reader_each N (Treader.mk y143.1 0 false) (Manifest.mk ([]) 0 0 0 ([]))).bind fun y149 =>
 (reader_num N y149.1).bind fun y153 =>
 (reader_num N y153.2).bind fun y157 =>
 (reader_num N y157.2).bind fun y161 =>
 (reader_each_i1 N y161.2 (Manifest.mk y149.2.Segs y153.1 y157.1 y161.1 y149.2.Conf)).bind fun y165 =>
 (reader_done N y165.1).bind fun y176 =>
 (if (!y176) = true then
 some ((Manifest.mk ([]) 0 0 0 ([])),false)
 else
 (impl_ManifestOk N y165.2).bind fun y178 =>
 (if (!y178) = true then
 some ((Manifest.mk ([]) 0 0 0 ([])),false)
 else
 some (y165.2,true))))
theorem sem_impl_ReadManifest (N : Nat) (x1 : ByteArray) (r : Manifest × Bool) (h : impl_ReadManifest N x1 = some r) : Says Tryz.prog 155 [VS x1] 0 [] (.tup [.agg [.sl 0 3 0 r.1.Segs.length,VI r.1.Next,VI r.1.Base,VI r.1.BaseTerm,.sl 1 3 0 r.1.Conf.length],VB r.2]) [(0,.vec 3 (r.1.Segs.map encI)),(1,.vec 3 (r.1.Conf.map encI))] := by
 unfold impl_ReadManifest at h
 refine Says.of_norm e Tryz.call155 e fun B hB => ?_
 have hm : B.m ≤ 1000 := by omega
 refine Run.so hm (.z 1000 (.al e e) e e (.p e (.nil (.so hm (.p e ?_)))))
 obtain ⟨y143,hy143,h⟩ := bindO h
 refine Ops.z 5112 (Ev.call [] [] 0 (sem_impl_Unsealed _ _ _ hy143) e e (.d1 .nil) e (.inl e) e e) e e (.p3 e e e (.p2 e e (.nil (.seq (.so hm (.p2 e e (.nil (.condO e h (fun g145 h => ?_) (fun g145 h => ?_)))))))))
 ·refine Run.so hm (.z 13288 (.bd e e) e e (.y 13304 (.sto e e e e e e) e e (.p e (.nil (.ret ?_)))))
  obtain rfl := someO h
  exact Ends.mkG (.inl e) e (Gh.trans (Gh.trans (gh_prn [0,1] [] hB e) (gh_nil [0] [] hB e e e)) (gh_pk [0,1] [10000000,10000001] hB e e e e)) e e
 ·refine Run.skip (.so hm (.z 17384 (.al e e) e e (.nil (.so hm (.p e (.z 21496 (.bd e e) e e (.z 21512 (.bx e e) e e (.z 21528 (.al e e) e e (.y 21544 (.sto e e e e e e) e e (.nil (.so hm (.p2 e e ?_))))))))))))
  obtain ⟨y149,hy149,h⟩ := bindO h
  refine Ops.z 25608 (Ev.call [21512,17384,21528] [] 2 (sem_reader_each _ _ _ _ hy149) e e (.cons (.ptr e) (.cons (.fn (.cons (.ptr e) (.cons (.ptr e) .nil))) .nil)) e (.inl e) e e) e e (.nil (.so hm (.p e ?_)))
  obtain ⟨y153,hy153,h⟩ := bindO h
  refine Ops.z 29688 (Ev.call [21512] [] 0 (sem_reader_num _ _ _ hy153) e e (.cons (.ptr e) .nil) e (.inl e) e e) e e (.p e (.y 29720 (.sto e e e e e e) e e (.nil (.so hm (.p e ?_)))))
  obtain ⟨y157,hy157,h⟩ := bindO h
  refine Ops.z 33784 (Ev.call [21512] [] 0 (sem_reader_num _ _ _ hy157) e e (.cons (.ptr e) .nil) e (.inl e) e e) e e (.p e (.y 33816 (.sto e e e e e e) e e (.nil (.so hm (.p e ?_)))))
  obtain ⟨y161,hy161,h⟩ := bindO h
  refine Ops.z 37880 (Ev.call [21512] [] 0 (sem_reader_num _ _ _ hy161) e e (.cons (.ptr e) .nil) e (.inl e) e e) e e (.p e (.y 37912 (.sto e e e e e e) e e (.nil (.so hm (.p2 e e ?_)))))
  obtain ⟨y165,hy165,h⟩ := bindO h
  refine Ops.z 41992 (Ev.call [21512,17384,21528,25608,25609] [] 2 (sem_reader_each_i1 _ _ _ _ hy165) e e (.cons (.ptr e) (.cons (.fn (.cons (.ptr e) (.cons (.ptr e) .nil))) .nil)) e (.inl e) e e) e e (.nil (.seq (.so hm (.p e ?_))))
  obtain ⟨y176,hy176,h⟩ := bindO h
  refine Ops.z 46072 (Ev.call [21512] [] 0 (sem_reader_done _ _ _ hy176) e e (.cons (.ptr e) .nil) e (.inl e) e e) e e (.p2 e e (.askO (x := .t 37) e h (fun g177 h => ?_) (fun g177 h => ?_)))
  ·refine Ops.gn e g177 (.gn e g177 (.gn e g177 (.z 46168 (.pkT e g177 e) e e (.nil (.condT e e (.so hm (.z 50152 (.bd e e) e e (.y 50168 (.sto e e e e e e) e e (.p e (.nil (.ret ?_)))))))))))
   obtain rfl := someO h
   exact Ends.mkG (.inl e) e (Gh.trans (Gh.trans (gh_prn [0,1] [] hB e) (gh_nil [0] [] hB e e e)) (gh_pk [0,1] [10000000,10000001] hB e e e e)) e e
  ·refine Ops.gp e g177 e ?_
   obtain ⟨y178,hy178,h⟩ := bindO h
   refine Ops.gs (s := 46136) e g177 (Ev.call [] [41992,41993] 0 (sem_impl_ManifestOk _ _ _ hy178) e e (.cons (.agg (.cons (.borrow e (by decide) (lendW (fun _ => e) _ e)) (.d2 (.d1 (.cons (.borrow e (by decide) (lendW (fun _ => e) _ e)) .nil))))) .nil) e (.inr ⟨e,ownL_root trivial⟩) e e) e e ?_
   refine Ops.gp e g177 e (.z 46168 (.pkF e g177 e) e e (.nil (.condO e h (fun g179 h => ?_) (fun g179 h => ?_))))
   ·refine Run.so hm (.z 50152 (.bd e e) e e (.y 50168 (.sto e e e e e e) e e (.p e (.nil (.ret ?_)))))
    obtain rfl := someO h
    exact Ends.mkG (.inl e) e (Gh.trans (Gh.trans (gh_prn [0,1] [] hB e) (gh_nil [0] [] hB e e e)) (gh_pk [0,1] [10000000,10000001] hB e e e e)) e e
   ·refine Run.skip (.so hm (.p e (.y 54264 (.sto e e e e e e) e e (.p e (.nil (.ret ?_))))))
    obtain rfl := someO h
    exact Ends.mkG (.inl e) e (gh_pk [0,1] [41992,41993] hB e e e e) e e
def internal_stringslite_CutPrefix (N : Nat) (x1 : ByteArray) (x2 : ByteArray) : Option (ByteArray × Bool) :=
 (internal_stringslite_HasPrefix N x1 x2).bind fun y112 =>
 (if (!y112) = true then
 some (x1,false)
 else
 (sdrop? x1 (x2.size : Int)).bind fun x115 =>
 some (x115,true))
theorem sem_internal_stringslite_CutPrefix (N : Nat) (x1 : ByteArray) (x2 : ByteArray) (r : ByteArray × Bool) (h : internal_stringslite_CutPrefix N x1 x2 = some r) : Says Tryz.prog 252 [VS x1,VS x2] 0 [] (.tup [VS r.1,VB r.2]) [] := by
 unfold internal_stringslite_CutPrefix at h
 refine Says.of_norm e Tryz.call252 e fun B hB => ?_
 have hm : B.m ≤ 1000 := by omega
 refine Run.so hm (.p2 e e (.nil (.seq (.so hm (.p2 e e ?_)))))
 obtain ⟨y112,hy112,h⟩ := bindO h
 refine Ops.z 5128 (Ev.call [] [] 0 (sem_internal_stringslite_HasPrefix _ _ _ _ hy112) e e (.d2 .nil) e (.inl e) e e) e e (.p e (.nil (.condO e h (fun g113 h => ?_) (fun g113 h => ?_))))
 ·refine Run.so hm (.p3 e e e (.nil (.ret ?_)))
  obtain rfl := someO h
  exact Ends.mkG (.inl e) e (gh_pk [0,1] [] hB e e e e) e e
 ·refine Run.skip (.so hm (.p3 e e e ?_))
  obtain ⟨x115,hx115,h⟩ := bindO h
  refine Ops.z 13336 (Ev.ssL e e hx115) e e (.p2 e e (.nil (.ret ?_)))
  obtain rfl := someO h
  exact Ends.mkG (.inl e) e (gh_pk [0,1] [] hB e e e e) e e
def strings_CutPrefix (N : Nat) (x1 : ByteArray) (x2 : ByteArray) : Option (ByteArray × Bool) :=
 (internal_stringslite_CutPrefix N x1 x2).bind fun y103 =>
 some (y103.1,y103.2)
theorem sem_strings_CutPrefix (N : Nat) (x1 : ByteArray) (x2 : ByteArray) (r : ByteArray × Bool) (h : strings_CutPrefix N x1 x2 = some r) : Says Tryz.prog 230 [VS x1,VS x2] 0 [] (.tup [VS r.1,VB r.2]) [] := by
 unfold strings_CutPrefix at h
 refine Says.of_norm e Tryz.call230 e fun B hB => ?_
 have hm : B.m ≤ 1000 := by omega
 refine Run.so hm (.p2 e e (.nil (.so hm (.p2 e e ?_))))
 obtain ⟨y103,hy103,h⟩ := bindO h
 refine Ops.z 5128 (Ev.call [] [] 0 (sem_internal_stringslite_CutPrefix _ _ _ _ hy103) e e (.d2 .nil) e (.inl e) e e) e e (.p3 e e e (.p e (.nil (.ret ?_))))
 obtain rfl := someO h
 exact Ends.mkG (.inl e) e (gh_pk [0,1] [] hB e e e e) e e
def impl_isSegName (N : Nat) (x1 : ByteArray) : Option (Bool) :=
 (strings_CutPrefix N x1 (⟨#[103]⟩ : ByteArray)).bind fun y117 =>
 (impl_ReadDecimal N y117.1).bind fun y121 =>
 (if y117.2 = true then
 (if y121.2 = true then
 (impl_SegName N y121.1).bind fun y127 =>
 some (decide (y127 = x1))
 else
 some false)
 else
 some false)
theorem sem_impl_isSegName (N : Nat) (x1 : ByteArray) (r : Bool) (h : impl_isSegName N x1 = some r) : Says Tryz.prog 200 [VS x1] 0 [] (VB r) [] := by
 unfold impl_isSegName at h
 refine Says.of_norm e Tryz.call200 e fun B hB => ?_
 have hm : B.m ≤ 1000 := by omega
 refine Run.so hm (.p e (.nil (.so hm (.p e ?_))))
 obtain ⟨y117,hy117,h⟩ := bindO h
 refine Ops.z 5112 (Ev.call [] [] 0 (sem_strings_CutPrefix _ _ _ _ hy117) e e (.d2 .nil) e (.inl e) e e) e e (.p3 e e e (.p2 e e (.nil (.so hm (.p e ?_)))))
 obtain ⟨y121,hy121,h⟩ := bindO h
 refine Ops.z 9208 (Ev.call [] [] 0 (sem_impl_ReadDecimal _ _ _ hy121) e e (.d1 .nil) e (.inl e) e e) e e (.p3 e e e (.p2 e e (.nil (.so hm (.p2 e e (.askO (x := .t 18) e h (fun g125 h => ?_) (fun g125 h => ?_)))))))
 ·refine Ops.gp e g125 e (.z 13336 (.pkT e g125 e) e e (.p e (.askO (x := .t 21) e h (fun g126 h => ?_) (fun g126 h => ?_))))
  ·refine Ops.gp e g126 e ?_
   obtain ⟨y127,hy127,h⟩ := bindO h
   refine Ops.gs (s := 13384) e g126 (Ev.call [] [] 0 (sem_impl_SegName _ _ _ hy127) e e (.d1 .nil) e (.inl e) e e) e e (.gp e g126 e (.gp e g126 e (.z 13432 (.pkT e g126 e) e e (.p e (.nil (.ret ?_))))))
   obtain rfl := someO h
   exact Ends.mkG (.inl e) e (gh_pk [0] [] hB e e e e) e e
  ·refine Ops.gn e g126 (.gn e g126 (.gn e g126 (.gn e g126 (.z 13432 (.pkF e g126 e) e e (.p e (.nil (.ret ?_)))))))
   obtain rfl := someO h
   exact Ends.mkG (.inl e) e (gh_pk [0] [] hB e e e e) e e
 ·refine Ops.gn e g125 (.z 13336 (.pkF e g125 e) e e (.p e (.gn e e (.gn e e (.gn e e (.gn e e (.z 13432 (.pkF e e e) e e (.p e (.nil (.ret ?_))))))))))
  obtain rfl := someO h
  exact Ends.mkG (.inl e) e (gh_pk [0] [] hB e e e e) e e
def impl_cleaning_1 (N : Nat) (x1 : Int) (x2 : File) : Option (Bool) :=
 (impl_SegName N x1).bind fun y103 =>
 some (decide (y103 = x2.Name))
theorem sem_impl_cleaning_1 (N : Nat) (x1 : Int) (x2 : File) (r : Bool) (h : impl_cleaning_1 N x1 x2 = some r) : Says Tryz.prog 202 [VI x1,.ptr 0 0] 1 [(0,.box [VS x2.Name,VS x2.Text])] (VB r) [(0,.box [VS x2.Name,VS x2.Text])] := by
 unfold impl_cleaning_1 at h
 refine Says.of_norm e Tryz.call202 e fun B hB => ?_
 have hm : B.m ≤ 1000 := by omega
 refine Run.so hm (.p e (.nil (.seq (.draw hm hmix (.p e ?_)))))
 obtain ⟨y103,hy103,h⟩ := bindO h
 refine OpsD.z 5112 (Ev.call [] [] 0 (sem_impl_SegName _ _ _ hy103) e e (.d1 .nil) e (.inl e) e e) e e (.p e (.p e (.p e (.p e (.nil ⟨by kernel_rfl,?_⟩)))))
 refine Run.ret ?_
 obtain rfl := someO h
 exact Ends.mkG (.inl e) e (gh_pk [0] [0] hB e e e e) e e
def slices_IndexFunc_int_l1 (N : Nat) (x1 : (List Int)) (x2 : File) : Nat → Int → Option ((Int) ⊕ (Unit))
 | 0,_ => none
 | m + 1,x170 =>
 (if (decide (x170 < (x1.length : Int))) = true then
 (at? x1 x170).bind fun x187 =>
 (impl_cleaning_1 N x187 x2).bind fun y188 =>
 (if y188 = true then
 some (Sum.inl x170)
 else
 slices_IndexFunc_int_l1 N x1 x2 m (w64 (x170 + 1)))
 else
 some (Sum.inr ()))
def slices_IndexFunc_int (N : Nat) (x1 : (List Int)) (x2 : File) : Option (Int) :=
 joinP (fun (v167 : Unit) =>
 some (-1 : Int)) fun j167 =>
 (slices_IndexFunc_int_l1 N x1 x2 N 0).bind (Sum.elim (fun v180 => some v180) (fun (v181 : Unit) => j167 ()))
theorem sem_slices_IndexFunc_int (N : Nat) (x1 : (List Int)) (x2 : File) (r : Int) (h : slices_IndexFunc_int N x1 x2 = some r) : Says Tryz.prog 231 [RO 3 (x1.map encI),.fn 202 [.ptr 0 0]] 1 [(0,.box [VS x2.Name,VS x2.Text])] (VI r) [(0,.box [VS x2.Name,VS x2.Text])] := by
 unfold slices_IndexFunc_int at h
 refine Says.of_norm e Tryz.call231 e fun B hB => ?_
 have hm : B.m ≤ 1000 := by omega
 refine Run.so hm (.p e (.nil (.seqO h (fun v167 => []) (fun (v167 : Unit) => [(0,.box [VS x2.Name,VS x2.Text])]) (fun h => ?_) (fun v167 h => ?_))))
 ·refine Run.so hm (.p e (.z 5112 (Ev.lnF e) e e (.p e (.nil (.block ?_)))))
  obtain ⟨res181,h,hk181⟩ := bindO h
  refine Run.loop (n := N) (fun m181 fr σ => ∃ (x170 : Int),slices_IndexFunc_int_l1 N x1 x2 m181 x170 = some res181 ∧ fr = [(0,RO 3 (x1.map encI)),(1,.fn 202 [.ptr 0 0]),(7,VI (x1.length : Int)),(8,VI x170)] ∧ σ = [(0,.box [VS x2.Name,VS x2.Text])]) (gh_pk [0,1,7,8] [0] hB e e e e) ⟨_,h,e,e⟩ ?_
  rintro m181 fr σ ⟨x170,h,rfl,rfl⟩
  obtain _ | m181 := m181
  ·rw [slices_IndexFunc_int_l1] at h; cases h
  rw [slices_IndexFunc_int_l1] at h
  refine Run.so hm (.p e (.nil (.seq (.condO e h (fun g184 h => ?_) (fun g184 h => ?_)))))
  ·refine Run.skip (.seq (.block (.so hm (.p2 e e (.nil (.so hm (.p3 e e e ?_)))))))
   obtain ⟨x187,hx187,h⟩ := bindO h
   refine Ops.z 17432 (Ev.iaF e e hx187) e e (.p e ?_)
   obtain ⟨y188,hy188,h⟩ := bindO h
   refine Ops.z 17464 (Ev.callx [0] [] 0 e (sem_impl_cleaning_1 _ _ _ _ hy188) e e (.d1 (.cons (.ptr e) .nil)) e (.inl e) e e) e e (.nil (.condO e h (fun g189 h => ?_) (fun g189 h => ?_)))
   ·refine Run.so hm (.p2 e e (.nil (.ret ?_)))
    obtain rfl := someO h
    have h := hk181
    replace h := inlO h
    obtain rfl := someO h
    exact Ends.mkG (.inl e) e (gh_pk [0] [0] hB e e e e) e e
   ·exact Run.skip (.ops hm (.p2 e e (.nil (⟨m181,Nat.lt_succ_self m181,_,_,(gh_pk [0,1,7,8] [0] hB e e e e),_,h,e,e⟩))))
  ·refine Run.exit ?_
   obtain rfl := someO h
   have h := hk181
   replace h := inrO h
   exact ⟨_,_,(gh_pk [] [0] hB e e e e),(),h,e,e⟩
 ·refine Run.so hm (.p e (.nil (.ret ?_)))
  obtain rfl := someO h
  exact Ends.mkG (.inl e) e (gh_pk [0] [0] hB e e e e) e e
def slices_ContainsFunc_int (N : Nat) (x1 : (List Int)) (x2 : File) : Option (Bool) :=
 (slices_IndexFunc_int N x1 x2).bind fun y103 =>
 some (decide (y103 ≥ 0))
theorem sem_slices_ContainsFunc_int (N : Nat) (x1 : (List Int)) (x2 : File) (r : Bool) (h : slices_ContainsFunc_int N x1 x2 = some r) : Says Tryz.prog 201 [RO 3 (x1.map encI),.fn 202 [.ptr 0 0]] 1 [(0,.box [VS x2.Name,VS x2.Text])] (VB r) [(0,.box [VS x2.Name,VS x2.Text])] := by
 unfold slices_ContainsFunc_int at h
 refine Says.of_norm e Tryz.call201 e fun B hB => ?_
 have hm : B.m ≤ 1000 := by omega
 refine Run.so hm (.p e (.nil (.so hm (.p2 e e ?_))))
 obtain ⟨y103,hy103,h⟩ := bindO h
 refine Ops.z 5128 (Ev.call [0] [] 0 (sem_slices_IndexFunc_int _ _ _ _ hy103) e e (.d1 (.cons (.fn (.cons (.ptr e) .nil)) .nil)) e (.inl e) e e) e e (.p2 e e (.nil (.ret ?_)))
 obtain rfl := someO h
 exact Ends.mkG (.inl e) e (gh_pk [0] [0] hB e e e e) e e
def impl_cleaning_l1 (N : Nat) (x1 : Disk) (x2 : Manifest) : Nat → Int → (List Raw) → Option ((List Raw))
 | 0,_,_ => none
 | m + 1,x257,x263 =>
 (if (decide (x257 < (x1.Files.length : Int))) = true then
 (at? x1.Files x257).bind fun x286 =>
 (impl_isSegName N x286.Name).bind fun y290 =>
 (if y290 = true then
 (slices_ContainsFunc_int N x2.Segs x286).bind fun y292 =>
 (if (!y292) = true then
 (cat? x263 ([(Raw.mk 4 x286.Name (⟨#[]⟩ : ByteArray) (⟨#[]⟩ : ByteArray))] : List Raw)).bind fun x295 =>
 impl_cleaning_l1 N x1 x2 m (w64 (x257 + 1)) x295
 else
 impl_cleaning_l1 N x1 x2 m (w64 (x257 + 1)) x263)
 else
 impl_cleaning_l1 N x1 x2 m (w64 (x257 + 1)) x263)
 else
 some x263)
def impl_cleaning (N : Nat) (x1 : Disk) (x2 : Manifest) : Option ((List Raw)) :=
 joinP (fun (v205 : (List Raw)) =>
 joinP (fun (v254 : (List Raw)) =>
 some v254) fun j254 =>
 (impl_cleaning_l1 N x1 x2 N 0 v205).bind (fun v279 => j254 v279)) fun j205 =>
 (impl_FileAt N x1 (⟨#[109,43]⟩ : ByteArray)).bind fun y209 =>
 (if y209.2 = true then
 (cat? ([] : List Raw) ([(Raw.mk 4 (⟨#[109,43]⟩ : ByteArray) (⟨#[]⟩ : ByteArray) (⟨#[]⟩ : ByteArray))] : List Raw)).bind fun x212 =>
 j205 x212
 else
 j205 ([] : (List Raw)))
theorem sem_impl_cleaning (N : Nat) (x1 : Disk) (x2 : Manifest) (r : (List Raw)) (h : impl_cleaning N x1 x2 = some r) : Says Tryz.prog 156 [.agg [RO 98 (x1.Files.map encFile)],.agg [RO 3 (x2.Segs.map encI),VI x2.Next,VI x2.Base,VI x2.BaseTerm,RO 3 (x2.Conf.map encI)]] 0 [] (.sl 0 107 0 r.length) [(0,.vec 107 (r.map encRaw))] := by
 unfold impl_cleaning at h
 refine Says.of_norm e Tryz.call156 e fun B hB => ?_
 have hm : B.m ≤ 1000 := by omega
 refine Run.so hm (.z 1000 (.bx e e) e e (.z 1016 (.bx e e) e e (.p e (.nil (.so hm (.p e (.nil (.seqO h (fun v205 => [(2,.ptr 0 0),(3,.ptr 1 0),(5,.sl 2 107 0 v205.length)]) (fun (v205 : (List Raw)) => [(0,.box [RO 98 (x1.Files.map encFile)]),(1,.box [RO 3 (x2.Segs.map encI),VI x2.Next,VI x2.Base,VI x2.BaseTerm,RO 3 (x2.Conf.map encI)]),(2,.vec 107 (v205.map encRaw))]) (fun h => ?_) (fun v205 h => ?_)))))))))
 ·refine Run.so hm (.p e ?_)
  obtain ⟨y209,hy209,h⟩ := bindO h
  refine Ops.z 9208 (Ev.call [] [] 0 (sem_impl_FileAt _ _ _ _ hy209) e e (.cons (.agg (.d1 .nil)) (.d1 .nil)) e (.inl e) e e) e e (.p3 e e e (.p2 e e (.nil (.so hm (.p e (.nil (.condO e h (fun g210 h => ?_) (fun g210 h => ?_))))))))
  ·refine Run.ops hm (.p e (.z 17400 (.bd e e) e e (.z 17416 (Ev.bsW (ys := ([(Raw.mk 4 (⟨#[109,43]⟩ : ByteArray) (⟨#[]⟩ : ByteArray) (⟨#[]⟩ : ByteArray))] : List Raw)) (f := encRaw) e (.d4 .nil) e e e e e) e e ?_)))
   obtain ⟨x212,hx212,h⟩ := bindO h
   exact Ops.z 17432 (Ev.apW (f := encRaw) (ontoN (f := encRaw) e) (addsW e e e (fun _ => e)) e bt107 e hx212) e e (.p e (.nil (⟨_,_,(gh_pk [2,3,5] [1000,1016,17432] hB e e e e),_,h,e,e⟩)))
  ·exact Run.skip (⟨_,_,(Gh.trans (Gh.trans (gh_prn [2,3,5] [1000,1016] hB e) (gh_nil [5] [] hB e e e)) (gh_pk [2,3,5] [1000,1016,10000000] hB e e e e)),_,h,e,e⟩)
 ·refine Run.seqO h (fun v254 => [(5,.sl 0 107 0 v254.length)]) (fun (v254 : (List Raw)) => [(0,.vec 107 (v254.map encRaw))]) (fun h => ?_) (fun v254 h => ?_)
  ·refine Run.so hm (.p2 e e (.z 21512 (Ev.lnF e) e e (.p e (.nil (.block ?_)))))
   obtain ⟨res279,h,hk279⟩ := bindO h
   refine Run.loop (n := N) (fun m279 fr σ => ∃ (x257 : Int),∃ (x263 : (List Raw)),impl_cleaning_l1 N x1 x2 m279 x257 x263 = some res279 ∧ fr = [(3,.ptr 0 0),(5,.sl 1 107 0 x263.length),(21,RO 98 (x1.Files.map encFile)),(22,VI (x1.Files.length : Int)),(23,VI x257)] ∧ σ = [(0,.box [RO 3 (x2.Segs.map encI),VI x2.Next,VI x2.Base,VI x2.BaseTerm,RO 3 (x2.Conf.map encI)]),(1,.vec 107 (x263.map encRaw))]) (gh_pk [3,5,21,22,23] [1,2] hB e e e e) ⟨_,_,h,e,e⟩ ?_
   rintro m279 fr σ ⟨x257,x263,h,rfl,rfl⟩
   obtain _ | m279 := m279
   ·rw [impl_cleaning_l1] at h; cases h
   rw [impl_cleaning_l1] at h
   refine Run.so hm (.p e (.nil (.seq (.condO e h (fun g282 h => ?_) (fun g282 h => ?_)))))
   ·refine Run.skip (.seq (.block (.so hm ?_)))
    obtain ⟨x286,hx286,h⟩ := bindO h
    refine Ops.z 29672 (Ev.iaF e e hx286) e e (.p e (.z 29704 (.al e e) e e (.y 29720 (.sto e e e e e e) e e (.nil (.so hm (.p2 e e ?_))))))
    obtain ⟨y290,hy290,h⟩ := bindO h
    refine Ops.z 33800 (Ev.call [] [] 0 (sem_impl_isSegName _ _ _ hy290) e e (.d1 .nil) e (.inl e) e e) e e (.p e (.askO (x := .t 30) e h (fun g291 h => ?_) (fun g291 h => ?_)))
    ·refine Ops.gp e g291 e (.gp e g291 e (.gp e g291 e ?_))
     obtain ⟨y292,hy292,h⟩ := bindO h
     refine Ops.gs (s := 33880) e g291 (Ev.call [29704] [] 0 (sem_slices_ContainsFunc_int _ _ _ _ hy292) e e (.d1 (.cons (.fn (.cons (.ptr e) .nil)) .nil)) e (.inl e) e e) e e (.gp e g291 e (.z 33912 (.pkT e g291 e) e e (.nil (.condO e h (fun g293 h => ?_) (fun g293 h => ?_)))))
     ·refine Run.ops hm (.p3 e e e (.z 37912 (.bd e e) e e (.z 37928 (Ev.bsW (ys := ([(Raw.mk 4 x286.Name (⟨#[]⟩ : ByteArray) (⟨#[]⟩ : ByteArray))] : List Raw)) (f := encRaw) e (.d4 .nil) e e e e e) e e ?_)))
      obtain ⟨x295,hx295,h⟩ := bindO h
      exact Ops.z 37944 (Ev.apW (f := encRaw) (ontoW e e e) (addsW e e e (fun _ => e)) e bt107 e hx295) e e (.p e (.nil (.ops hm (.p2 e e (.nil (⟨m279,Nat.lt_succ_self m279,_,_,(gh_pk [3,5,21,22,23] [0,37944] hB e e e e),_,_,h,e,e⟩))))))
     ·exact Run.skip (.ops hm (.p2 e e (.nil (⟨m279,Nat.lt_succ_self m279,_,_,(gh_pk [3,5,21,22,23] [0,1] hB e e e e),_,_,h,e,e⟩))))
    ·exact Ops.gn e g291 (.gn e g291 (.gn e g291 (.gn e g291 (.gn e g291 (.z 33912 (.pkF e g291 e) e e (.nil (.condF e e (.skip (.ops hm (.p2 e e (.nil (⟨m279,Nat.lt_succ_self m279,_,_,(gh_pk [3,5,21,22,23] [0,1] hB e e e e),_,_,h,e,e⟩))))))))))))
   ·refine Run.exit ?_
    obtain rfl := someO h
    have h := hk279
    exact ⟨_,_,(gh_pk [5] [1] hB e e e e),_,h,e,e⟩
  ·refine Run.so hm (.p2 e e (.nil (.ret ?_)))
   obtain rfl := someO h
   exact Ends.mkG (.inl e) e (gh_pk [0] [0] hB e e e e) e e
def impl_Unframe_l1 (N : Nat) (x1 : ByteArray) : Nat → Int → (List ByteArray) → Option ((List ByteArray) × Int)
 | 0,_,_ => none
 | m + 1,x182,x183 =>
 (impl_ReadVar N x1 x182).bind fun y225 =>
 (if (!y225.2.2) = true then
 some (x183,x182)
 else
 (if (decide (y225.1 > (w64 ((w64 ((x1.size : Int) - y225.2.1)) - 4)))) = true then
 some (x183,x182)
 else
 (scut? x1 (w64 (y225.2.1 + 4)) (w64 ((w64 (y225.2.1 + 4)) + y225.1))).bind fun x235 =>
 (impl_Frame N x235).bind fun y248 =>
 (if (!y248.2) = true then
 some (x183,x182)
 else
 (scut? x1 x182 (w64 ((w64 (y225.2.1 + 4)) + y225.1))).bind fun x252 =>
 (if (!decide (y248.1 = x252)) = true then
 some (x183,x182)
 else
 (cat? x183 ([x235] : List ByteArray)).bind fun x257 =>
 impl_Unframe_l1 N x1 m (w64 ((w64 (y225.2.1 + 4)) + y225.1)) x257))))
def impl_Unframe (N : Nat) (x1 : ByteArray) : Option ((List ByteArray) × Int) :=
 (if (decide ((x1.size : Int) > 20000)) = true then
 some ([],0)
 else
 (impl_Unframe_l1 N x1 N 0 ([] : (List ByteArray))).bind (fun v220 => some v220))
theorem sem_impl_Unframe (N : Nat) (x1 : ByteArray) (r : (List ByteArray) × Int) (h : impl_Unframe N x1 = some r) : Says Tryz.prog 160 [VS x1] 0 [] (.tup [.sl 0 9 0 r.1.length,VI r.2]) [(0,.vec 9 (r.1.map encS))] := by
 unfold impl_Unframe at h
 refine Says.of_norm e Tryz.call160 e fun B hB => ?_
 have hm : B.m ≤ 1000 := by omega
 refine Run.so hm (.p2 e e (.nil (.seq (.so hm (.p3 e e e (.nil (.condO e h (fun g180 h => ?_) (fun g180 h => ?_))))))))
 ·refine Run.so hm (.p2 e e (.nil (.ret ?_)))
  obtain rfl := someO h
  exact Ends.mkG (.inl e) e (Gh.trans (Gh.trans (gh_prn [0,1] [] hB e) (gh_nil [0] [] hB e e e)) (gh_pk [0,1] [10000000] hB e e e e)) e e
 ·refine Run.skip (.so hm (.p e (.nil (.so hm (.p e (.nil (.block ?_)))))))
  obtain ⟨res220,h,hk220⟩ := bindO h
  refine Run.loop (n := N) (fun m220 fr σ => ∃ (x182 : Int),∃ (x183 : (List ByteArray)),impl_Unframe_l1 N x1 m220 x182 x183 = some res220 ∧ fr = [(0,VS x1),(4,.sl 0 9 0 x183.length),(5,VI x182)] ∧ σ = [(0,.vec 9 (x183.map encS))]) (Gh.trans (Gh.trans (gh_prn [0,4,5] [] hB e) (gh_nil [4] [] hB e e e)) (gh_pk [0,4,5] [10000000] hB e e e e)) ⟨_,_,h,e,e⟩ ?_
  rintro m220 fr σ ⟨x182,x183,h,rfl,rfl⟩
  obtain _ | m220 := m220
  ·rw [impl_Unframe_l1] at h; cases h
  rw [impl_Unframe_l1] at h
  refine Run.block (.so hm (.p2 e e ?_))
  obtain ⟨y225,hy225,h⟩ := bindO h
  refine Ops.z 21512 (Ev.call [] [] 0 (sem_impl_ReadVar _ _ _ _ hy225) e e (.d2 .nil) e (.inl e) e e) e e (.p3 e e e (.p3 e e e (.p e (.nil (.seq (.so hm (.p3 e e e (.askO (x := .t 24) e h (fun g230 h => ?_) (fun g230 h => ?_)))))))))
  ·refine Ops.gn e g230 (.gn e g230 (.gn e g230 (.gn e g230 (.gn e g230 (.gn e g230 (.gn e g230 (.z 25736 (.pkT e g230 e) e e (.nil (.condT e e (.so hm (.p3 e e e (.p e (.nil (.ret ?_))))))))))))))
   obtain rfl := someO h
   have h := hk220
   obtain rfl := someO h
   exact Ends.mkG (.inl e) e (gh_pk [0,1] [0] hB e e e e) e e
  ·refine Ops.gp e g230 e (.gp e g230 e (.gp e g230 e (.gp e g230 e (.gp e g230 e (.gp e g230 e (.gp e g230 e (.z 25736 (.pkF e g230 e) e e (.nil (.condO e h (fun g231 h => ?_) (fun g231 h => ?_))))))))))
   ·refine Run.so hm (.p3 e e e (.p e (.nil (.ret ?_))))
    obtain rfl := someO h
    have h := hk220
    obtain rfl := someO h
    exact Ends.mkG (.inl e) e (gh_pk [0,1] [0] hB e e e e) e e
   ·refine Run.skip (.so hm (.p3 e e e (.p3 e e e (.p e ?_))))
    obtain ⟨x235,hx235,h⟩ := bindO h
    refine Ops.z 33880 (Ev.ssB e e e hx235) e e (.p e (.nil (.seq (.so hm (.p e ?_)))))
    obtain ⟨y248,hy248,h⟩ := bindO h
    refine Ops.z 37880 (Ev.call [] [] 0 (sem_impl_Frame _ _ _ hy248) e e (.d1 .nil) e (.inl e) e e) e e (.p3 e e e (.p2 e e (.nil (.so hm (.p3 e e e (.askO (x := .t 50) e h (fun g251 h => ?_) (fun g251 h => ?_)))))))
    ·refine Ops.gn e g251 (.gn e g251 (.gn e g251 (.gn e g251 (.gn e g251 (.gn e g251 (.gn e g251 (.gn e g251 (.gn e g251 (.z 42152 (.pkT e g251 e) e e (.nil (.condT e e (.so hm (.p3 e e e (.p e (.nil (.ret ?_))))))))))))))))
     obtain rfl := someO h
     have h := hk220
     obtain rfl := someO h
     exact Ends.mkG (.inl e) e (gh_pk [0,1] [0] hB e e e e) e e
    ·refine Ops.gp e g251 e (.gp e g251 e (.gp e g251 e (.gp e g251 e (.gp e g251 e (.gp e g251 e (.gp e g251 e ?_))))))
     obtain ⟨x252,hx252,h⟩ := bindO h
     refine Ops.gs (s := 42120) e g251 (Ev.ssB e e e hx252) e e (.gp e g251 e (.z 42152 (.pkF e g251 e) e e (.nil (.condO e h (fun g253 h => ?_) (fun g253 h => ?_)))))
     ·refine Run.so hm (.p3 e e e (.p e (.nil (.ret ?_))))
      obtain rfl := someO h
      have h := hk220
      obtain rfl := someO h
      exact Ends.mkG (.inl e) e (gh_pk [0,1] [0] hB e e e e) e e
     ·refine Run.skip (.so hm (.p2 e e (.z 50184 (Ev.bsW (ys := ([x235] : List ByteArray)) (f := encS) e (.d1 .nil) e e e e e) e e ?_)))
      obtain ⟨x257,hx257,h⟩ := bindO h
      exact Ops.z 50200 (Ev.apW (f := encS) (ontoW e e e) (addsW e e e (fun _ => e)) e bt9 e hx257) e e (.p e (.nil (.ops hm (.p3 e e e (.p2 e e (.nil (⟨m220,Nat.lt_succ_self m220,_,_,(gh_pk [0,4,5] [50200] hB e e e e),_,_,h,e,e⟩)))))))
def impl_batchesOf_l1 (N : Nat) (y128 : (List ByteArray) × Int) : Nat → Option (Unit)
 | 0 => none
 | m + 1 =>
 (if (decide (0 < ((y128.1.length : Nat) : Int))) = true then
 none
 else
 some ())
def impl_batchesOf (N : Nat) (x1 : ByteArray) : Option ((List Tplaced) × Int) :=
 (impl_Unframe N x1).bind fun y128 =>
 joinP (fun (v139 : Unit) =>
 some (([] : (List Tplaced)),0)) fun j139 =>
 (impl_batchesOf_l1 N y128 N).bind (fun v146 => j139 ())
theorem sem_impl_batchesOf (N : Nat) (x1 : ByteArray) (r : (List Tplaced) × Int) (h : impl_batchesOf N x1 = some r) : Says Tryz.prog 158 [VS x1] 0 [] (.tup [.sl 0 258 0 r.1.length,VI r.2]) [(0,.vec 258 (r.1.map (encTplaced false)))] := by
 unfold impl_batchesOf at h
 refine Says.of_norm e Tryz.call158 e fun B hB => ?_
 have hm : B.m ≤ 1000 := by omega
 refine Run.so hm (.p2 e e (.nil (.so hm (.p e ?_))))
 obtain ⟨y128,hy128,h⟩ := bindO h
 refine Ops.z 5112 (Ev.call [] [] 1 (sem_impl_Unframe _ _ _ hy128) e e (.d1 .nil) e (.inl e) e e) e e (.p3 e e e (.p2 e e (.nil (.so hm (.p e (.nil (.so hm (.p e (.nil (.seqO h (fun v139 => [(6,.sl 0 258 0 (([] : (List Tplaced)).length)),(7,VI 0)]) (fun (v139 : Unit) => [(0,.vec 258 (([] : (List Tplaced)).map (encTplaced false)))]) (fun h => ?_) (fun v139 h => ?_)))))))))))
 ·refine Run.so hm (.p3 e e e (.nil (.block ?_)))
  obtain ⟨res146,h,hk146⟩ := bindO h
  refine Run.loop (n := N) (fun m146 fr σ => impl_batchesOf_l1 N y128 m146 = some res146 ∧ fr = [(6,.sl 0 258 0 (([] : (List Tplaced)).length)),(7,VI 0),(20,VI ((y128.1.length : Nat) : Int)),(21,VI 0)] ∧ σ = [(0,.vec 258 (([] : (List Tplaced)).map (encTplaced false)))]) (Gh.trans (Gh.trans (gh_prn [6,7,20,21] [] hB e) (gh_nil [6] [] hB e e e)) (gh_pk [6,7,20,21] [10000000] hB e e e e)) ⟨h,e,e⟩ ?_
  rintro m146 fr σ ⟨h,rfl,rfl⟩
  obtain _ | m146 := m146
  ·rw [impl_batchesOf_l1] at h; cases h
  rw [impl_batchesOf_l1] at h
  refine Run.so hm (.p e (.nil (.seq (.condO e h (fun g149 h => ?_) (fun g149 h => ?_)))))
  ·exact noO h
  ·refine Run.exit ?_
   obtain rfl := someO h
   have h := hk146
   exact ⟨_,_,(gh_pk [6,7] [0] hB e e e e),(),h,e,e⟩
 ·refine Run.so hm (.p3 e e e (.p e (.nil (.ret ?_))))
  obtain rfl := someO h
  exact Ends.mkG (.inl e) e (gh_pk [0,1] [0] hB e e e e) e e
def impl_ScanSeg_l1 (N : Nat) (y130 : (List Tplaced) × Int) : Nat → Option (Unit)
 | 0 => none
 | m + 1 =>
 (if (decide (0 < ((y130.1.length : Nat) : Int))) = true then
 none
 else
 some ())
def impl_ScanSeg (N : Nat) (x1 : ByteArray) (x2 : Int) : Option ((List Spot) × (List ByteArray) × Int) :=
 (impl_batchesOf N x1).bind fun y130 =>
 joinP (fun (v142 : Unit) =>
 some (([] : (List Spot)),([] : (List ByteArray)),(-1 : Int))) fun j142 =>
 (impl_ScanSeg_l1 N y130 N).bind (fun v150 => j142 ())
theorem sem_impl_ScanSeg (N : Nat) (x1 : ByteArray) (x2 : Int) (r : (List Spot) × (List ByteArray) × Int) (h : impl_ScanSeg N x1 x2 = some r) : Says Tryz.prog 157 [VS x1,VI x2] 0 [] (.tup [.sl 0 232 0 r.1.length,.sl 1 9 0 r.2.1.length,VI r.2.2]) [(0,.vec 232 (r.1.map encSpot)),(1,.vec 9 (r.2.1.map encS))] := by
 unfold impl_ScanSeg at h
 refine Says.of_norm e Tryz.call157 e fun B hB => ?_
 have hm : B.m ≤ 1000 := by omega
 refine Run.so hm (.p3 e e e (.nil (.so hm (.p e ?_))))
 obtain ⟨y130,hy130,h⟩ := bindO h
 refine Ops.z 5112 (Ev.call [] [] 1 (sem_impl_batchesOf _ _ _ hy130) e e (.d1 .nil) e (.inl e) e e) e e (.p3 e e e (.p2 e e (.nil (.so hm (.p e (.nil (.so hm (.p e (.nil (.so hm (.p e (.nil (.seqO h (fun v142 => [(9,.sl 0 232 0 (([] : (List Spot)).length)),(10,.sl 1 9 0 (([] : (List ByteArray)).length)),(11,VI (-1 : Int))]) (fun (v142 : Unit) => [(0,.vec 232 (([] : (List Spot)).map encSpot)),(1,.vec 9 (([] : (List ByteArray)).map encS))]) (fun h => ?_) (fun v142 h => ?_))))))))))))))
 ·refine Run.so hm (.p3 e e e (.nil (.block ?_)))
  obtain ⟨res150,h,hk150⟩ := bindO h
  refine Run.loop (n := N) (fun m150 fr σ => impl_ScanSeg_l1 N y130 m150 = some res150 ∧ fr = [(9,.sl 0 232 0 (([] : (List Spot)).length)),(10,.sl 1 9 0 (([] : (List ByteArray)).length)),(11,VI (-1 : Int)),(20,VI ((y130.1.length : Nat) : Int)),(21,VI 0)] ∧ σ = [(0,.vec 232 (([] : (List Spot)).map encSpot)),(1,.vec 9 (([] : (List ByteArray)).map encS))]) (Gh.trans (Gh.trans (gh_prn [9,10,11,20,21] [] hB e) (gh_nil [9,10] [] hB e e e)) (gh_pk [9,10,11,20,21] [10000000,10000064] hB e e e e)) ⟨h,e,e⟩ ?_
  rintro m150 fr σ ⟨h,rfl,rfl⟩
  obtain _ | m150 := m150
  ·rw [impl_ScanSeg_l1] at h; cases h
  rw [impl_ScanSeg_l1] at h
  refine Run.so hm (.p e (.nil (.seq (.condO e h (fun g153 h => ?_) (fun g153 h => ?_)))))
  ·exact noO h
  ·refine Run.exit ?_
   obtain rfl := someO h
   have h := hk150
   exact ⟨_,_,(gh_pk [9,10,11] [0,1] hB e e e e),(),h,e,e⟩
 ·refine Run.so hm (.p3 e e e (.p3 e e e (.nil (.ret ?_))))
  obtain rfl := someO h
  exact Ends.mkG (.inl e) e (gh_pk [0,1,2] [0,1] hB e e e e) e e
def impl_DirOk_l1 (N : Nat) (x1 : (List Spot)) : Nat → Option (Unit)
 | 0 => none
 | m + 1 =>
 (if (decide (0 < (x1.length : Int))) = true then
 none
 else
 some ())
def impl_DirOk (N : Nat) (x1 : (List Spot)) : Option (Bool) :=
 joinP (fun (v128 : Unit) =>
 some (decide ((x1.length : Int) ≤ 60))) fun j128 =>
 (impl_DirOk_l1 N x1 N).bind (fun v134 => j128 ())
theorem sem_impl_DirOk (N : Nat) (x1 : (List Spot)) (r : Bool) (h : impl_DirOk N x1 = some r) : Says Tryz.prog 205 [RO 232 (x1.map encSpot)] 0 [] (VB r) [] := by
 unfold impl_DirOk at h
 refine Says.of_norm e Tryz.call205 e fun B hB => ?_
 have hm : B.m ≤ 1000 := by omega
 refine Run.so hm (.p e (.nil (.seqO h (fun v128 => [(0,RO 232 (x1.map encSpot))]) (fun (v128 : Unit) => []) (fun h => ?_) (fun v128 h => ?_))))
 ·refine Run.so hm (.p e (.z 5112 (Ev.lnF e) e e (.p e (.nil (.block ?_)))))
  obtain ⟨res134,h,hk134⟩ := bindO h
  refine Run.loop (n := N) (fun m134 fr σ => impl_DirOk_l1 N x1 m134 = some res134 ∧ fr = [(0,RO 232 (x1.map encSpot)),(6,VI (x1.length : Int)),(7,VI 0)] ∧ σ = []) (gh_pk [0,6,7] [] hB e e e e) ⟨h,e,e⟩ ?_
  rintro m134 fr σ ⟨h,rfl,rfl⟩
  obtain _ | m134 := m134
  ·rw [impl_DirOk_l1] at h; cases h
  rw [impl_DirOk_l1] at h
  refine Run.so hm (.p e (.nil (.seq (.condO e h (fun g137 h => ?_) (fun g137 h => ?_)))))
  ·exact noO h
  ·refine Run.exit ?_
   obtain rfl := someO h
   have h := hk134
   exact ⟨_,_,(gh_pk [0] [] hB e e e e),(),h,e,e⟩
 ·refine Run.so hm (.p e (.z 29688 (Ev.lnF e) e e (.p2 e e (.nil (.ret ?_)))))
  obtain rfl := someO h
  exact Ends.mkG (.inl e) e (gh_pk [0] [] hB e e e e) e e
def impl_DirMore_l1 (N : Nat) (x2 : (List Spot)) : Nat → Option (Unit)
 | 0 => none
 | m + 1 =>
 (if (decide (0 < (x2.length : Int))) = true then
 none
 else
 some ())
def impl_DirMore (N : Nat) (x1 : (List Spot)) (x2 : (List Spot)) : Option ((List Spot) × Bool) :=
 (impl_DirOk N x1).bind fun y139 =>
 (if (!y139) = true then
 some ([],false)
 else
 (cat? ([] : List Spot) x1).bind fun x144 =>
 joinP (fun (v154 : Unit) =>
 (impl_DirOk N x144).bind fun y168 =>
 (if (!y168) = true then
 some ([],false)
 else
 some (x144,true))) fun j154 =>
 (impl_DirMore_l1 N x2 N).bind (fun v160 => j154 ()))
theorem sem_impl_DirMore (N : Nat) (x1 : (List Spot)) (x2 : (List Spot)) (r : (List Spot) × Bool) (h : impl_DirMore N x1 x2 = some r) : Says Tryz.prog 159 [RO 232 (x1.map encSpot),RO 232 (x2.map encSpot)] 0 [] (.tup [.sl 0 232 0 r.1.length,VB r.2]) [(0,.vec 232 (r.1.map encSpot))] := by
 unfold impl_DirMore at h
 refine Says.of_norm e Tryz.call159 e fun B hB => ?_
 have hm : B.m ≤ 1000 := by omega
 refine Run.so hm (.p2 e e (.nil (.seq (.so hm (.p e ?_)))))
 obtain ⟨y139,hy139,h⟩ := bindO h
 refine Ops.z 5112 (Ev.call [] [] 0 (sem_impl_DirOk _ _ _ hy139) e e (.d1 .nil) e (.inl e) e e) e e (.p e (.nil (.condO e h (fun g140 h => ?_) (fun g140 h => ?_))))
 ·refine Run.so hm (.p2 e e (.nil (.ret ?_)))
  obtain rfl := someO h
  exact Ends.mkG (.inl e) e (Gh.trans (Gh.trans (gh_prn [0,1] [] hB e) (gh_nil [0] [] hB e e e)) (gh_pk [0,1] [10000000] hB e e e e)) e e
 ·refine Run.skip (.so hm (.p e ?_))
  obtain ⟨x144,hx144,h⟩ := bindO h
  refine Ops.z 13304 (Ev.apW (f := encSpot) (ontoN (f := encSpot) e) (addsF e) e bt232 e hx144) e e (.p e (.nil (.seqO h (fun v154 => [(6,.sl 0 232 0 x144.length)]) (fun (v154 : Unit) => [(0,.vec 232 (x144.map encSpot))]) (fun h => ?_) (fun v154 h => ?_))))
  ·refine Run.so hm (.p e (.z 17400 (Ev.lnF e) e e (.p e (.nil (.block ?_)))))
   obtain ⟨res160,h,hk160⟩ := bindO h
   refine Run.loop (n := N) (fun m160 fr σ => impl_DirMore_l1 N x2 m160 = some res160 ∧ fr = [(6,.sl 0 232 0 x144.length),(17,VI (x2.length : Int)),(18,VI 0)] ∧ σ = [(0,.vec 232 (x144.map encSpot))]) (gh_pk [6,17,18] [13304] hB e e e e) ⟨h,e,e⟩ ?_
   rintro m160 fr σ ⟨h,rfl,rfl⟩
   obtain _ | m160 := m160
   ·rw [impl_DirMore_l1] at h; cases h
   rw [impl_DirMore_l1] at h
   refine Run.so hm (.p e (.nil (.seq (.condO e h (fun g163 h => ?_) (fun g163 h => ?_)))))
   ·exact noO h
   ·refine Run.exit ?_
    obtain rfl := someO h
    have h := hk160
    exact ⟨_,_,(gh_pk [6] [0] hB e e e e),(),h,e,e⟩
  ·refine Run.seq (.so hm (.p e ?_))
   obtain ⟨y168,hy168,h⟩ := bindO h
   refine Ops.z 62456 (Ev.call [] [0] 0 (sem_impl_DirOk _ _ _ hy168) e e (.cons (.borrow e (by decide) (lendW (fun _ => e) _ e)) .nil) e (.inr ⟨e,ownL_root trivial⟩) e e) e e ?_
   refine Ops.p e (.nil (.condO e h (fun g169 h => ?_) (fun g169 h => ?_)))
   ·refine Run.so hm (.p2 e e (.nil (.ret ?_)))
    obtain rfl := someO h
    exact Ends.mkG (.inl e) e (Gh.trans (Gh.trans (gh_prn [0,1] [] hB e) (gh_nil [0] [] hB e e e)) (gh_pk [0,1] [10000000] hB e e e e)) e e
   ·refine Run.skip (.so hm (.p3 e e e (.nil (.ret ?_))))
    obtain rfl := someO h
    exact Ends.mkG (.inl e) e (gh_pk [0,1] [0] hB e e e e) e e
end Go.Proofs.YtmnoonjkiflonaaGreatDoor.Pe.FnExactReadScript
