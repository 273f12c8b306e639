/- Functions,as pure functions; and that Go does just that. -/
import Derived.Test.YthlhkcnilehbbaaPeFFnLogs6
namespace Go.Proofs.Ythlhkcnilehbbaa.Pe.FnLogs
open Go Go.RowKit
set_option linter.unusedVariables false
set_option linter.unusedSimpArgs false
set_option maxHeartbeats 40000000
set_option maxRecDepth 100000
def laws_cutOf (N : Nat) (x1 : Disk) (x2 : (List Raw)) (x3 : Int) (x4 : Int) : Option (Disk × Bool) :=
 (intD .rem .i64 x3 (w64 ((x2.length : Int) + 1))).bind fun x128 =>
 joinP (fun (v138 : Int) =>
 (spec_CutRaws N x1 x2 x128 v138).bind fun y149 =>
 some (y149.1,y149.2)) fun j138 =>
 (if (decide (x128 < (x2.length : Int))) = true then
 (at? x2 x128).bind fun x142 =>
 (if (decide (x142.Kind ≤ 2)) = true then
 (at? x2 x128).bind fun x146 =>
 (intD .rem .i64 x4 (w64 ((x146.Text.size : Int) + 1))).bind fun x147 =>
 j138 x147
 else
 j138 0)
 else
 j138 0)
theorem sem_laws_cutOf (N : Nat) (x1 : Disk) (x2 : (List Raw)) (x3 : Int) (x4 : Int) (r : Disk × Bool) (h : laws_cutOf N x1 x2 x3 x4 = some r) : Says Try.prog 14 [.agg [RO 38 (x1.Files.map encFile)],RO 70 (x2.map encRaw),VI x3,VI x4] 0 [] (.tup [.agg [.sl 0 38 0 r.1.Files.length],VB r.2]) [(0,.vec 38 (r.1.Files.map encFile))] := by
 unfold laws_cutOf at h
 refine Says.of_norm e Try.call14 e fun B hB => ?_
 have hm : B.m ≤ 1000 := by omega
 refine Run.so hm (.z 1000 (.bx e e) e e (.z 1016 (.al e e) e e (.p e (.nil (.so hm (.p2 e e (.z 5128 (Ev.lnF e) e e (.p e ?_))))))))
 obtain ⟨x128,hx128,h⟩ := bindO h
 refine Ops.z 5160 (.bin e e hx128) e e (.p e (.nil (.so hm (.p e (.nil (.seqO h (fun v138 => [(1,RO 70 (x2.map encRaw)),(4,.ptr 0 0),(8,.ptr 1 0),(10,VI x128),(11,VI v138)]) (fun (v138 : Int) => [(0,.box [RO 38 (x1.Files.map encFile)]),(1,.box [.sl 2 38 0 (([] : List File).length)]),(2,.vec 38 (([] : List File).map encFile))]) (fun h => ?_) (fun v138 h => ?_)))))))
 ·refine Run.so hm (.p2 e e (.z 13320 (Ev.lnF e) e e (.p2 e e (.askO (x := .t 21) e h (fun g141 h => ?_) (fun g141 h => ?_)))))
  ·refine Ops.gp e g141 e (.gp e g141 e ?_)
   obtain ⟨x142,hx142,h⟩ := bindO h
   refine Ops.gs (s := 13400) e g141 (Ev.iaF e e hx142) e e (.gp e g141 e (.gp e g141 e (.gp e g141 e (.z 13464 (.pkT e g141 e) e e (.nil (.condO e h (fun g143 h => ?_) (fun g143 h => ?_)))))))
   ·refine Run.ops hm (.p3 e e e ?_)
    obtain ⟨x146,hx146,h⟩ := bindO h
    refine Ops.z 17432 (Ev.iaF e e hx146) e e (.p3 e e e (.p e ?_))
    obtain ⟨x147,hx147,h⟩ := bindO h
    exact Ops.z 17512 (.bin e e hx147) e e (.p e (.nil (⟨_,_,(Gh.trans (Gh.trans (gh_prn [1,4,8,10,11] [1000,1016] hB e) (gh_nil [] [1016] hB e e e)) (gh_pk [1,4,8,10,11] [1000,1016,20000000] hB e e e e)),_,h,e,e⟩)))
   ·exact Run.skip (⟨_,_,(Gh.trans (Gh.trans (gh_prn [1,4,8,10,11] [1000,1016] hB e) (gh_nil [] [1016] hB e e e)) (gh_pk [1,4,8,10,11] [1000,1016,20000000] hB e e e e)),_,h,e,e⟩)
  ·exact Ops.gn e g141 (.gn e g141 (.gn e g141 (.gn e g141 (.gn e g141 (.gn e g141 (.z 13464 (.pkF e g141 e) e e (.nil (.condF e e (.skip (⟨_,_,(Gh.trans (Gh.trans (gh_prn [1,4,8,10,11] [1000,1016] hB e) (gh_nil [] [1016] hB e e e)) (gh_pk [1,4,8,10,11] [1000,1016,20000000] hB e e e e)),_,h,e,e⟩))))))))))
 ·refine Run.so hm (.p3 e e e (.p e ?_))
  obtain ⟨y149,hy149,h⟩ := bindO h
  refine Ops.z 21544 (Ev.call [] [] 1 (sem_spec_CutRaws _ _ _ _ _ _ hy149) e e (.cons (.agg (.d1 .nil)) (.d2 (.d1 .nil))) e (.inl e) e e) e e (.p2 e e (.y 21592 (.sto e e e e e e) e e (.p e (.nil (.ret ?_)))))
  obtain rfl := someO h
  exact Ends.mkG (.inl e) e (gh_pk [0,1] [21544] hB e e e e) e e
def spec_EntryAt (N : Nat) (x1 : Log) (x2 : Int) : Option (Entry × Bool) :=
 (spec_LogOk N x1).bind fun y133 =>
 (if (!y133) = true then
 some ((Entry.mk 0 0 (⟨#[]⟩ : ByteArray)),false)
 else
 (if (decide (x2 ≤ x1.Start)) = true then
 some ((Entry.mk 0 0 (⟨#[]⟩ : ByteArray)),false)
 else
 (spec_l12Last N x1).bind fun y136 =>
 (if (decide (x2 > y136)) = true then
 some ((Entry.mk 0 0 (⟨#[]⟩ : ByteArray)),false)
 else
 (at? x1.Entries (w64 ((w64 (x2 - x1.Start)) - 1))).bind fun x139 =>
 some (x139,true))))
theorem sem_spec_EntryAt (N : Nat) (x1 : Log) (x2 : Int) (r : Entry × Bool) (h : spec_EntryAt N x1 x2 = some r) : Says Try.prog 16 [.agg [VI x1.Start,VI x1.StartTerm,RO 51 (x1.Entries.map encEntry)],VI x2] 0 [] (.tup [.agg [VI r.1.Term,VI r.1.Kind,VS r.1.Data],VB r.2]) [] := by
 unfold spec_EntryAt at h
 refine Says.of_norm e Try.call16 e fun B hB => ?_
 have hm : B.m ≤ 1000 := by omega
 refine Run.so hm (.z 1000 (.bx e e) e e (.z 1016 (.al e e) e e (.p e (.nil (.seq (.so hm (.p e ?_)))))))
 obtain ⟨y133,hy133,h⟩ := bindO h
 refine Ops.z 5112 (Ev.call [] [] 0 (sem_spec_LogOk _ _ _ hy133) e e (.cons (.agg (.d2 (.d1 .nil))) .nil) e (.inl e) e e) e e (.p2 e e (.askO (x := .t 9) e h (fun g134 h => ?_) (fun g134 h => ?_)))
 ·refine Ops.gn e g134 (.gn e g134 (.gn e g134 (.gn e g134 (.z 5224 (.pkT e g134 e) e e (.p e (.gn e e (.gn e e (.gn e e (.gn e e (.z 5320 (.pkT e e e) e e (.nil (.condT e e (.so hm (.z 9192 (.bd e e) e e (.y 9208 (.sto e e e e e e) e e (.p e (.nil (.ret ?_))))))))))))))))))
  obtain rfl := someO h
  exact Ends.mkG (.inl e) e (gh_pk [0,1] [] hB e e e e) e e
 ·refine Ops.gp e g134 e (.gp e g134 e (.gp e g134 e (.gp e g134 e (.z 5224 (.pkF e g134 e) e e (.p e (.askO (x := .t 15) e h (fun g135 h => ?_) (fun g135 h => ?_)))))))
  ·refine Ops.gn e g135 (.gn e g135 (.gn e g135 (.gn e g135 (.z 5320 (.pkT e g135 e) e e (.nil (.condT e e (.so hm (.z 9192 (.bd e e) e e (.y 9208 (.sto e e e e e e) e e (.p e (.nil (.ret ?_))))))))))))
   obtain rfl := someO h
   exact Ends.mkG (.inl e) e (gh_pk [0,1] [] hB e e e e) e e
  ·refine Ops.gp e g135 e (.gp e g135 e ?_)
   obtain ⟨y136,hy136,h⟩ := bindO h
   refine Ops.gs (s := 5288) e g135 (Ev.call [] [] 0 (sem_spec_l12Last _ _ _ hy136) e e (.cons (.agg (.d2 (.d1 .nil))) .nil) e (.inl e) e e) e e (.gp e g135 e (.z 5320 (.pkF e g135 e) e e (.nil (.condO e h (fun g137 h => ?_) (fun g137 h => ?_)))))
   ·refine Run.so hm (.z 9192 (.bd e e) e e (.y 9208 (.sto e e e e e e) e e (.p e (.nil (.ret ?_)))))
    obtain rfl := someO h
    exact Ends.mkG (.inl e) e (gh_pk [0,1] [] hB e e e e) e e
   ·refine Run.skip (.so hm (.p3 e e e (.p3 e e e (.p e ?_))))
    obtain ⟨x139,hx139,h⟩ := bindO h
    refine Ops.z 13400 (Ev.iaF e e hx139) e e (.p e (.y 13432 (.sto e e e e e e) e e (.p e (.nil (.ret ?_)))))
    obtain rfl := someO h
    exact Ends.mkG (.inl e) e (gh_pk [0,1] [] hB e e e e) e e
def laws_FnLogs_l1 (N : Nat) (y482 : ByteArray × Log × Log) (y574 : Log × Int × Bool) : Nat → Int → Option ((Bool) ⊕ (Unit))
 | 0,_ => none
 | m + 1,x717 =>
 (if (decide (x717 < ((y574.1.Entries.length : Nat) : Int))) = true then
 joinP (fun (v816 : Unit) =>
 laws_FnLogs_l1 N y482 y574 m (w64 (x717 + 1))) fun j816 =>
 (spec_EntryAt N y482.2.1 (w64 ((w64 (y574.1.Start + 1)) + x717))).bind fun y820 =>
 (spec_EntryAt N y482.2.2 (w64 ((w64 (y574.1.Start + 1)) + x717))).bind fun y824 =>
 (if y820.2 = true then
 (at? y574.1.Entries x717).bind fun x834 =>
 (if (!(((y820.1.Term == x834.Term) && ((y820.1.Kind == x834.Kind) && (decide (y820.1.Data = x834.Data) && true))) ^^ false)) = true then
 (if y824.2 = true then
 (at? y574.1.Entries x717).bind fun x837 =>
 (if (!(((y824.1.Term == x837.Term) && ((y824.1.Kind == x837.Kind) && (decide (y824.1.Data = x837.Data) && true))) ^^ false)) = true then
 some (Sum.inl false)
 else
 j816 ())
 else
 (if (!false) = true then
 some (Sum.inl false)
 else
 j816 ()))
 else
 j816 ())
 else
 (if (!false) = true then
 (if y824.2 = true then
 (at? y574.1.Entries x717).bind fun x842 =>
 (if (!(((y824.1.Term == x842.Term) && ((y824.1.Kind == x842.Kind) && (decide (y824.1.Data = x842.Data) && true))) ^^ false)) = true then
 some (Sum.inl false)
 else
 j816 ())
 else
 some (Sum.inl false))
 else
 j816 ()))
 else
 some (Sum.inr ()))
def laws_FnLogs (N : Nat) (x1 : (List Int)) : Option (Bool) :=
 (laws_big N x1).bind fun y477 =>
 (if y477 = true then
 some true
 else
 (spec_DrawRightLogs N x1).bind fun y482 =>
 (impl_LogFile N y482.2.1).bind fun y486 =>
 (impl_ReadLog N y486.1).bind fun y490 =>
 (if (!y486.2) = true then
 some false
 else
 (if (!y490.2.2) = true then
 some false
 else
 (if (!decide (y486.1 = y482.1)) = true then
 some false
 else
 (if (y490.2.1 != (y486.1.size : Int)) = true then
 some false
 else
 (laws_sameLog N y490.1 y482.2.1).bind fun y511 =>
 (if (!y511) = true then
 some false
 else
 (impl_LogSteps N y482.1 y482.2.1 y482.2.2).bind fun y516 =>
 (spec_LogSteps N y482.1 y482.2.1 y482.2.2).bind fun y520 =>
 (if ((y516.2 == y520.2) ^^ true) = true then
 some false
 else
 (if (!y516.2) = true then
 some (((y516.1.length : Nat) : Int) == 0)
 else
 (spec_PutRaws N (Disk.mk ([(File.mk (⟨#[108,111,103]⟩ : ByteArray) y482.1)] : List File)) y516.1).bind fun y528 =>
 (spec_FileAt N y528.1 (⟨#[108,111,103]⟩ : ByteArray)).bind fun y532 =>
 (impl_ReadLog N y532.1).bind fun y536 =>
 (if (y528.2 != ((y516.1.length : Nat) : Int)) = true then
 some false
 else
 (if (!y536.2.2) = true then
 some false
 else
 (laws_sameLog N y536.1 y482.2.2).bind fun y549 =>
 (if (!y549) = true then
 some false
 else
 (spec_DrawPlaces N x1).bind fun y554 =>
 (at? y554 0).bind fun x564 =>
 (at? y554 1).bind fun x565 =>
 (laws_cutOf N (Disk.mk ([(File.mk (⟨#[108,111,103]⟩ : ByteArray) y482.1)] : List File)) y516.1 x564 x565).bind fun y566 =>
 (spec_FileAt N y566.1 (⟨#[108,111,103]⟩ : ByteArray)).bind fun y570 =>
 (impl_ReadLog N y570.1).bind fun y574 =>
 (if (!y566.2) = true then
 some false
 else
 (if (!y574.2.2) = true then
 some false
 else
 (spec_LogOk N y574.1).bind fun y587 =>
 (if (!y587) = true then
 some false
 else
 joinP (fun (v716 : Unit) =>
 (if (y574.1.Start == y482.2.1.Start) = true then
 some true
 else
 some (y574.1.Start == y482.2.2.Start))) fun j716 =>
 (laws_FnLogs_l1 N y482 y574 N 0).bind (Sum.elim (fun v784 => some v784) (fun (v785 : Unit) => j716 ()))))))))))))))))
theorem sem_laws_FnLogs (N : Nat) (x1 : (List Int)) (r : Bool) (h : laws_FnLogs N x1 = some r) : Says Try.prog 3 [RO 5 (x1.map encU)] 0 [] (VB r) [] := by
 unfold laws_FnLogs at h
 refine Says.of_run s3 Try.call3 e fun B hB => ?_
 have hm : B.m ≤ 1000 := by omega
 refine Run.so hm (.p e (.nil (.seq (.so hm (.p e ?_)))))
 obtain ⟨y477,hy477,h⟩ := bindO h
 refine Ops.z 5112 (Ev.call [] [] 0 (sem_laws_big _ _ _ hy477) e e (.d1 .nil) e (.inl e) e e) e e (.nil (.condO e h (fun g478 h => ?_) (fun g478 h => ?_)))
 ·refine Run.so hm (.p e (.nil (.ret ?_)))
  obtain rfl := someO h
  exact Ends.mkG (.inl e) e (gh_pk [0] [] hB e e e e) e e
 ·refine Run.skip (.so hm (.p e ?_))
  obtain ⟨y482,hy482,h⟩ := bindO h
  refine Ops.z 13304 (Ev.call [] [] 2 (sem_spec_DrawRightLogs _ _ _ hy482) e e (.d1 .nil) e (.inl e) e e) e e (.p3 e e e (.p e (.z 13384 (.al e e) e e (.z 13400 (.al e e) e e (.p e (.y 13432 (.sto e e e e e e) e e (.y 13448 (.sto e e e e e e) e e (.nil (.so hm (.p e ?_))))))))))
  obtain ⟨y486,hy486,h⟩ := bindO h
  refine Ops.z 17400 (Ev.call [] [13304] 0 (sem_impl_LogFile _ _ _ hy486) e e (.cons (.agg (.d2 (.cons (.borrow e (by decide) (lendW (fun _ => e) _ e)) .nil))) .nil) e (.inr ⟨e,ownL_root trivial⟩) e e) e e ?_
  refine Ops.p e (.p3 e e e (.p e (.nil (.so hm (.p e ?_)))))
  obtain ⟨y490,hy490,h⟩ := bindO h
  refine Ops.z 21496 (Ev.call [] [] 1 (sem_impl_ReadLog _ _ _ hy490) e e (.d1 .nil) e (.inl e) e e) e e (.p3 e e e (.p e (.z 21576 (.al e e) e e (.y 21592 (.sto e e e e e e) e e (.p2 e e (.nil (.seq (.so hm (.p3 e e e (.askO (x := .t 58) e h (fun g507 h => ?_) (fun g507 h => ?_)))))))))))
  ·refine Ops.gn e g507 (.gn e g507 (.z 25656 (.pkT e g507 e) e e (.p e (.gn e e (.gn e e (.gn e e (.z 25736 (.pkT e e e) e e (.p e (.gn e e (.gn e e (.gn e e (.gn e e (.z 25832 (.pkT e e e) e e (.p e (.gn e e (.gn e e (.gn e e (.gn e e (.z 25928 (.pkT e e e) e e (.nil (.condT e e (.so hm (.p e (.nil (.ret ?_)))))))))))))))))))))))))
   obtain rfl := someO h
   exact Ends.mkG (.inl e) e (gh_pk [0] [] hB e e e e) e e
  ·refine Ops.gp e g507 e (.gp e g507 e (.z 25656 (.pkF e g507 e) e e (.p e (.askO (x := .t 62) e h (fun g508 h => ?_) (fun g508 h => ?_)))))
   ·refine Ops.gn e g508 (.gn e g508 (.gn e g508 (.z 25736 (.pkT e g508 e) e e (.p e (.gn e e (.gn e e (.gn e e (.gn e e (.z 25832 (.pkT e e e) e e (.p e (.gn e e (.gn e e (.gn e e (.gn e e (.z 25928 (.pkT e e e) e e (.nil (.condT e e (.so hm (.p e (.nil (.ret ?_)))))))))))))))))))))
    obtain rfl := someO h
    exact Ends.mkG (.inl e) e (gh_pk [0] [] hB e e e e) e e
   ·refine Ops.gp e g508 e (.gp e g508 e (.gp e g508 e (.z 25736 (.pkF e g508 e) e e (.p e (.askO (x := .t 67) e h (fun g509 h => ?_) (fun g509 h => ?_))))))
    ·refine Ops.gn e g509 (.gn e g509 (.gn e g509 (.gn e g509 (.z 25832 (.pkT e g509 e) e e (.p e (.gn e e (.gn e e (.gn e e (.gn e e (.z 25928 (.pkT e e e) e e (.nil (.condT e e (.so hm (.p e (.nil (.ret ?_))))))))))))))))
     obtain rfl := someO h
     exact Ends.mkG (.inl e) e (gh_pk [0] [] hB e e e e) e e
    ·refine Ops.gp e g509 e (.gp e g509 e (.gp e g509 e (.gp e g509 e (.z 25832 (.pkF e g509 e) e e (.p e (.askO (x := .t 73) e h (fun g510 h => ?_) (fun g510 h => ?_)))))))
     ·refine Ops.gn e g510 (.gn e g510 (.gn e g510 (.gn e g510 (.z 25928 (.pkT e g510 e) e e (.nil (.condT e e (.so hm (.p e (.nil (.ret ?_))))))))))
      obtain rfl := someO h
      exact Ends.mkG (.inl e) e (gh_pk [0] [] hB e e e e) e e
     ·refine Ops.gp e g510 e (.gp e g510 e ?_)
      obtain ⟨y511,hy511,h⟩ := bindO h
      refine Ops.gs (s := 25896) e g510 (Ev.call [] [21496,13304] 0 (sem_laws_sameLog _ _ _ _ hy511) e e (.cons (.agg (.d2 (.cons (.borrow e (by decide) (lendW (fun _ => e) _ e)) .nil))) (.cons (.agg (.d2 (.cons (.borrow e (by decide) (lendW (fun _ => e) _ e)) .nil))) .nil)) e (.inr ⟨e,ownL_root trivial⟩) e e) e e ?_
      refine Ops.gp e g510 e (.z 25928 (.pkF e g510 e) e e (.nil (.condO e h (fun g512 h => ?_) (fun g512 h => ?_))))
      ·refine Run.so hm (.p e (.nil (.ret ?_)))
       obtain rfl := someO h
       exact Ends.mkG (.inl e) e (gh_pk [0] [] hB e e e e) e e
      ·refine Run.skip (.so hm (.p3 e e e ?_))
       obtain ⟨y516,hy516,h⟩ := bindO h
       refine Ops.z 33816 (Ev.call [] [13304,13305] 1 (sem_impl_LogSteps _ _ _ _ _ hy516) e e (.d1 (.cons (.agg (.d2 (.cons (.borrow e (by decide) (lendW (fun _ => e) _ e)) .nil))) (.cons (.agg (.d2 (.cons (.borrow e (by decide) (lendW (fun _ => e) _ e)) .nil))) .nil))) e (.inr ⟨e,ownL_root ⟨own_rows (fun _ => e) _,trivial⟩⟩) e e) e e ?_
       refine Ops.p e (.p3 e e e (.p e (.nil (.so hm (.p3 e e e ?_)))))
       obtain ⟨y520,hy520,h⟩ := bindO h
       refine Ops.z 37912 (Ev.call [] [13304,13305] 1 (sem_spec_LogSteps _ _ _ _ _ hy520) e e (.d1 (.cons (.agg (.d2 (.cons (.borrow e (by decide) (lendW (fun _ => e) _ e)) .nil))) (.cons (.agg (.d2 (.cons (.borrow e (by decide) (lendW (fun _ => e) _ e)) .nil))) .nil))) e (.inr ⟨e,ownL_root ⟨own_rows (fun _ => e) _,trivial⟩⟩) e e) e e ?_
       refine Ops.p e (.p3 e e e (.p e (.nil (.seq (.so hm (.p3 e e e (.nil (.condO e h (fun g522 h => ?_) (fun g522 h => ?_)))))))))
       ·refine Run.so hm (.p e (.nil (.ret ?_)))
        obtain rfl := someO h
        exact Ends.mkG (.inl e) e (gh_pk [0] [] hB e e e e) e e
       ·refine Run.skip (.seq (.so hm (.p2 e e (.nil (.condO e h (fun g524 h => ?_) (fun g524 h => ?_))))))
        ·refine Run.so hm (.p3 e e e (.p e (.nil (.ret ?_))))
         obtain rfl := someO h
         exact Ends.mkG (.inl e) e (gh_pk [0] [] hB e e e e) e e
        ·refine Run.skip (.so hm (.p e (.z 58360 (.bd e e) e e (.z 58376 (Ev.bsW (ys := ([(File.mk (⟨#[108,111,103]⟩ : ByteArray) y482.1)] : List File)) (f := encFile) e (.d2 .nil) e e e e e) e e (.z 58392 (.bd e e) e e (.z 58408 (.al e e) e e (.y 58424 (.sto e e e e e e) e e (.nil (.so hm (.p2 e e ?_))))))))))
         obtain ⟨y528,hy528,h⟩ := bindO h
         refine Ops.z 62472 (Ev.call [] [58376,33816] 1 (sem_spec_PutRaws _ _ _ _ hy528) e e (.cons (.agg (.cons (.borrow e (by decide) (lendW (fun _ => e) _ e)) .nil)) (.cons (.borrow e (by decide) (lendW (fun _ => e) _ e)) .nil)) e (.inr ⟨e,ownL_root ⟨own_rows (fun _ => e) _,trivial⟩⟩) e e) e e ?_
         refine Ops.p e (.p2 e e (.z 62536 (.al e e) e e (.y 62552 (.sto e e e e e e) e e (.p e (.nil (.so hm (.p e ?_)))))))
         obtain ⟨y532,hy532,h⟩ := bindO h
         refine Ops.z 66552 (Ev.call [] [62472] 0 (sem_spec_FileAt _ _ _ _ hy532) e e (.cons (.agg (.cons (.borrow e (by decide) (lendW (fun _ => e) _ e)) .nil)) (.d1 .nil)) e (.inr ⟨e,ownL_root trivial⟩) e e) e e ?_
         refine Ops.p e (.p3 e e e (.p e (.nil (.so hm (.p e ?_)))))
         obtain ⟨y536,hy536,h⟩ := bindO h
         refine Ops.z 70648 (Ev.call [] [] 1 (sem_impl_ReadLog _ _ _ hy536) e e (.d1 .nil) e (.inl e) e e) e e (.p3 e e e (.p e (.z 70728 (.al e e) e e (.y 70744 (.sto e e e e e e) e e (.p2 e e (.nil (.seq (.so hm (.p3 e e e (.p2 e e (.askO (x := .t 126) e h (fun g547 h => ?_) (fun g547 h => ?_))))))))))))
         ·refine Ops.gn e g547 (.gn e g547 (.z 74840 (.pkT e g547 e) e e (.p e (.gn e e (.gn e e (.gn e e (.gn e e (.z 74936 (.pkT e e e) e e (.nil (.condT e e (.so hm (.p e (.nil (.ret ?_))))))))))))))
          obtain rfl := someO h
          exact Ends.mkG (.inl e) e (gh_pk [0] [] hB e e e e) e e
         ·refine Ops.gp e g547 e (.gp e g547 e (.z 74840 (.pkF e g547 e) e e (.p e (.askO (x := .t 130) e h (fun g548 h => ?_) (fun g548 h => ?_)))))
          ·refine Ops.gn e g548 (.gn e g548 (.gn e g548 (.gn e g548 (.z 74936 (.pkT e g548 e) e e (.nil (.condT e e (.so hm (.p e (.nil (.ret ?_))))))))))
           obtain rfl := someO h
           exact Ends.mkG (.inl e) e (gh_pk [0] [] hB e e e e) e e
          ·refine Ops.gp e g548 e (.gp e g548 e ?_)
           obtain ⟨y549,hy549,h⟩ := bindO h
           refine Ops.gs (s := 74904) e g548 (Ev.call [] [70648,13305] 0 (sem_laws_sameLog _ _ _ _ hy549) e e (.cons (.agg (.d2 (.cons (.borrow e (by decide) (lendW (fun _ => e) _ e)) .nil))) (.cons (.agg (.d2 (.cons (.borrow e (by decide) (lendW (fun _ => e) _ e)) .nil))) .nil)) e (.inr ⟨e,ownL_root trivial⟩) e e) e e ?_
           refine Ops.gp e g548 e (.z 74936 (.pkF e g548 e) e e (.nil (.condO e h (fun g550 h => ?_) (fun g550 h => ?_))))
           ·refine Run.so hm (.p e (.nil (.ret ?_)))
            obtain rfl := someO h
            exact Ends.mkG (.inl e) e (gh_pk [0] [] hB e e e e) e e
           ·refine Run.skip (.so hm (.p e ?_))
            obtain ⟨y554,hy554,h⟩ := bindO h
            refine Ops.z 82936 (Ev.call [] [] 1 (sem_spec_DrawPlaces _ _ _ hy554) e e (.d1 .nil) e (.inl e) e e) e e (.p e (.nil (.seq (.draw hm hmix (.p e (.p e (.p e ?_)))))))
            obtain ⟨x564,hx564,h⟩ := bindO h
            refine OpsD.z 87064 (Ev.iaW e e e hx564) e e (.z 87080 (Ev.ldE (f := encI) e e (at_some hx564).2 e e e) e e (.p e ?_))
            obtain ⟨x565,hx565,h⟩ := bindO h
            refine OpsD.z 87112 (Ev.iaW e e e hx565) e e (.z 87128 (Ev.ldE (f := encI) e e (at_some hx565).2 e e e) e e ?_)
            obtain ⟨y566,hy566,h⟩ := bindO h
            refine OpsD.z 87144 (Ev.call [] [58376,33816] 1 (sem_laws_cutOf _ _ _ _ _ _ hy566) e e (.cons (.agg (.cons (.borrow e (by decide) (lendW (fun _ => e) _ e)) .nil)) (.cons (.borrow e (by decide) (lendW (fun _ => e) _ e)) (.d2 .nil))) e (.inr ⟨e,ownL_root ⟨own_rows (fun _ => e) _,trivial⟩⟩) e e) e e ?_
            refine OpsD.p e (.p e (.p e (.z 87208 (.al e e) e e (.y 87224 (.sto e e e e e e) e e (.p e (.nil ⟨by kernel_rfl,?_⟩))))))
            refine Run.so hm (.p e ?_)
            obtain ⟨y570,hy570,h⟩ := bindO h
            refine Ops.z 91128 (Ev.call [] [87144] 0 (sem_spec_FileAt _ _ _ _ hy570) e e (.cons (.agg (.cons (.borrow e (by decide) (lendW (fun _ => e) _ e)) .nil)) (.d1 .nil)) e (.inr ⟨e,ownL_root trivial⟩) e e) e e ?_
            refine Ops.p e (.p3 e e e (.p e (.nil (.so hm (.p e ?_)))))
            obtain ⟨y574,hy574,h⟩ := bindO h
            refine Ops.z 95224 (Ev.call [] [] 1 (sem_impl_ReadLog _ _ _ hy574) e e (.d1 .nil) e (.inl e) e e) e e (.p3 e e e (.p e (.z 95304 (.al e e) e e (.y 95320 (.sto e e e e e e) e e (.p2 e e (.nil (.seq (.so hm (.p3 e e e (.askO (x := .t 163) e h (fun g585 h => ?_) (fun g585 h => ?_)))))))))))
            ·refine Ops.gn e g585 (.gn e g585 (.z 99384 (.pkT e g585 e) e e (.p e (.gn e e (.gn e e (.gn e e (.z 99464 (.pkT e e e) e e (.nil (.condT e e (.so hm (.p e (.nil (.ret ?_)))))))))))))
             obtain rfl := someO h
             exact Ends.mkG (.inl e) e (gh_pk [0] [] hB e e e e) e e
            ·refine Ops.gp e g585 e (.gp e g585 e (.z 99384 (.pkF e g585 e) e e (.p e (.askO (x := .t 167) e h (fun g586 h => ?_) (fun g586 h => ?_)))))
             ·refine Ops.gn e g586 (.gn e g586 (.gn e g586 (.z 99464 (.pkT e g586 e) e e (.nil (.condT e e (.so hm (.p e (.nil (.ret ?_)))))))))
              obtain rfl := someO h
              exact Ends.mkG (.inl e) e (gh_pk [0] [] hB e e e e) e e
             ·refine Ops.gp e g586 e ?_
              obtain ⟨y587,hy587,h⟩ := bindO h
              refine Ops.gs (s := 99432) e g586 (Ev.call [] [95224] 0 (sem_spec_LogOk _ _ _ hy587) e e (.cons (.agg (.d2 (.cons (.borrow e (by decide) (lendW (fun _ => e) _ e)) .nil))) .nil) e (.inr ⟨e,ownL_root trivial⟩) e e) e e ?_
              refine Ops.gp e g586 e (.z 99464 (.pkF e g586 e) e e (.nil (.condO e h (fun g588 h => ?_) (fun g588 h => ?_))))
              ·refine Run.so hm (.p e (.nil (.ret ?_)))
               obtain rfl := someO h
               exact Ends.mkG (.inl e) e (gh_pk [0] [] hB e e e e) e e
              ·refine Run.skip (.seqO h (fun v716 => [(4,.ptr 0 0),(5,.ptr 1 0),(28,.ptr 2 0)]) (fun (v716 : Unit) => [(0,.box [VI y482.2.1.Start,VI y482.2.1.StartTerm,.sl 3 51 0 y482.2.1.Entries.length]),(1,.box [VI y482.2.2.Start,VI y482.2.2.StartTerm,.sl 4 51 0 y482.2.2.Entries.length]),(2,.box [VI y574.1.Start,VI y574.1.StartTerm,.sl 5 51 0 y574.1.Entries.length]),(3,.vec 51 (y482.2.1.Entries.map encEntry)),(4,.vec 51 (y482.2.2.Entries.map encEntry)),(5,.vec 51 (y574.1.Entries.map encEntry))]) (fun h => ?_) (fun v716 h => ?_))
               ·refine Run.so hm (.p e (.nil (.block ?_)))
                obtain ⟨res785,h,hk785⟩ := bindO h
                refine Run.loop (n := N) (fun m785 fr σ => ∃ (x717 : Int),laws_FnLogs_l1 N y482 y574 m785 x717 = some res785 ∧ fr = [(4,.ptr 0 0),(5,.ptr 1 0),(28,.ptr 2 0),(31,VI x717)] ∧ σ = [(0,.box [VI y482.2.1.Start,VI y482.2.1.StartTerm,.sl 3 51 0 y482.2.1.Entries.length]),(1,.box [VI y482.2.2.Start,VI y482.2.2.StartTerm,.sl 4 51 0 y482.2.2.Entries.length]),(2,.box [VI y574.1.Start,VI y574.1.StartTerm,.sl 5 51 0 y574.1.Entries.length]),(3,.vec 51 (y482.2.1.Entries.map encEntry)),(4,.vec 51 (y482.2.2.Entries.map encEntry)),(5,.vec 51 (y574.1.Entries.map encEntry))]) (gh_pk [4,5,28,31] [13384,13400,95304,13304,13305,95224] hB e e e e) ⟨_,h,e,e⟩ ?_
                rintro m785 fr σ ⟨x717,h,rfl,rfl⟩
                obtain _ | m785 := m785
                ·rw [laws_FnLogs_l1] at h; cases h
                rw [laws_FnLogs_l1] at h
                refine Run.seq (.so hm (.p3 e e e (.p2 e e (.nil (.condO e h (fun g788 h => ?_) (fun g788 h => ?_))))))
                ·refine Run.skip (.seqO h (fun v816 => [(4,.ptr 0 0),(5,.ptr 1 0),(28,.ptr 2 0),(31,VI x717)]) (fun (v816 : Unit) => [(0,.box [VI y482.2.1.Start,VI y482.2.1.StartTerm,.sl 3 51 0 y482.2.1.Entries.length]),(1,.box [VI y482.2.2.Start,VI y482.2.2.StartTerm,.sl 4 51 0 y482.2.2.Entries.length]),(2,.box [VI y574.1.Start,VI y574.1.StartTerm,.sl 5 51 0 y574.1.Entries.length]),(3,.vec 51 (y482.2.1.Entries.map encEntry)),(4,.vec 51 (y482.2.2.Entries.map encEntry)),(5,.vec 51 (y574.1.Entries.map encEntry))]) (fun h => ?_) (fun v816 h => ?_))
                 ·refine Run.block (.so hm (.p3 e e e (.p3 e e e (.nil (.so hm (.p2 e e ?_))))))
                  obtain ⟨y820,hy820,h⟩ := bindO h
                  refine Ops.z 123912 (Ev.call [] [3] 0 (sem_spec_EntryAt _ _ _ _ hy820) e e (.cons (.agg (.d2 (.cons (.borrow e (by decide) (lendW (fun _ => e) _ e)) .nil))) (.d1 .nil)) e (.inr ⟨e,ownL_root trivial⟩) e e) e e ?_
                  refine Ops.p e (.p2 e e (.z 123976 (.al e e) e e (.y 123992 (.sto e e e e e e) e e (.p e (.nil (.so hm (.p2 e e ?_)))))))
                  obtain ⟨y824,hy824,h⟩ := bindO h
                  refine Ops.z 128008 (Ev.call [] [4] 0 (sem_spec_EntryAt _ _ _ _ hy824) e e (.cons (.agg (.d2 (.cons (.borrow e (by decide) (lendW (fun _ => e) _ e)) .nil))) (.d1 .nil)) e (.inr ⟨e,ownL_root trivial⟩) e e) e e ?_
                  refine Ops.p e (.p2 e e (.z 128072 (.al e e) e e (.y 128088 (.sto e e e e e e) e e (.p e (.nil (.seq (.draw hm hmix (.p e (.p e (.askO (x := .t 197) e h (fun g833 h => ?_) (fun g833 h => ?_)))))))))))
                  ·refine OpsD.gp e g833 e (.gp e g833 e (.gp e g833 e (.gp e g833 e ?_)))
                   obtain ⟨x834,hx834,h⟩ := bindO h
                   refine OpsD.gs (s := 132168) e g833 (Ev.iaW e e e hx834) e e (.gs (s := 132184) e g833 (Ev.ldE (f := encEntry) e e (at_some hx834).2 e e e) e e (.gp e g833 e (.z 132216 (.pkT e g833 e) e e (.p e (.p e (.askO (x := .t 207) e h (fun g835 h => ?_) (fun g835 h => ?_)))))))
                   ·refine OpsD.gp e g835 e (.gp e g835 e (.askO (x := .t 209) e h (fun g836 h => ?_) (fun g836 h => ?_)))
                    ·refine OpsD.gp e g836 e (.gp e g836 e (.gp e g836 e (.gp e g836 e ?_)))
                     obtain ⟨x837,hx837,h⟩ := bindO h
                     refine OpsD.gs (s := 132360) e g836 (Ev.iaW e e e hx837) e e (.gs (s := 132376) e g836 (Ev.ldE (f := encEntry) e e (at_some hx837).2 e e e) e e (.gp e g836 e (.gs (s := 132408) e g835 (.pkT e g836 e) e e (.gp e g835 e (.z 132440 (.pkT e g835 e) e e (.nil ⟨by kernel_rfl,?_⟩))))))
                     refine Run.condO e h (fun g838 h => ?_) (fun g838 h => ?_)
                     ·refine Run.so hm (.p e (.nil (.ret ?_)))
                      obtain rfl := someO h
                      have h := hk785
                      replace h := inlO h
                      obtain rfl := someO h
                      exact Ends.mkG (.inl e) e (gh_pk [0] [] hB e e e e) e e
                     ·exact Run.skip (⟨_,_,(gh_pk [4,5,28,31] [0,1,2,3,4,5] hB e e e e),(),h,e,e⟩)
                    ·refine OpsD.gn e g836 (.gn e g836 (.gn e g836 (.gn e g836 (.gn e g836 (.gn e g836 (.gn e g836 (.gs (s := 132408) e g835 (.pkF e g836 e) e e (.gp e g835 e (.z 132440 (.pkT e g835 e) e e (.nil ⟨by kernel_rfl,?_⟩))))))))))
                     refine Run.condO e h (fun g839 h => ?_) (fun g839 h => ?_)
                     ·refine Run.so hm (.p e (.nil (.ret ?_)))
                      obtain rfl := someO h
                      have h := hk785
                      replace h := inlO h
                      obtain rfl := someO h
                      exact Ends.mkG (.inl e) e (gh_pk [0] [] hB e e e e) e e
                     ·exact Run.skip (⟨_,_,(gh_pk [4,5,28,31] [0,1,2,3,4,5] hB e e e e),(),h,e,e⟩)
                   ·refine OpsD.gn e g835 (.gn e g835 (.gu e (.gu e (.gu e (.gu e (.gu e (.gu e (.gu e (.gn e g835 (.gn e g835 (.z 132440 (.pkF e g835 e) e e (.nil ⟨by kernel_rfl,?_⟩))))))))))))
                    exact Run.condF e e (.skip (⟨_,_,(gh_pk [4,5,28,31] [0,1,2,3,4,5] hB e e e e),(),h,e,e⟩))
                  ·refine OpsD.gn e g833 (.gn e g833 (.gn e g833 (.gn e g833 (.gn e g833 (.gn e g833 (.gn e g833 (.z 132216 (.pkF e g833 e) e e (.p e (.p e (.askO (x := .t 207) e h (fun g840 h => ?_) (fun g840 h => ?_)))))))))))
                   ·refine OpsD.gp e g840 e (.gp e g840 e (.askO (x := .t 209) e h (fun g841 h => ?_) (fun g841 h => ?_)))
                    ·refine OpsD.gp e g841 e (.gp e g841 e (.gp e g841 e (.gp e g841 e ?_)))
                     obtain ⟨x842,hx842,h⟩ := bindO h
                     refine OpsD.gs (s := 132360) e g841 (Ev.iaW e e e hx842) e e (.gs (s := 132376) e g841 (Ev.ldE (f := encEntry) e e (at_some hx842).2 e e e) e e (.gp e g841 e (.gs (s := 132408) e g840 (.pkT e g841 e) e e (.gp e g840 e (.z 132440 (.pkT e g840 e) e e (.nil ⟨by kernel_rfl,?_⟩))))))
                     refine Run.condO e h (fun g843 h => ?_) (fun g843 h => ?_)
                     ·refine Run.so hm (.p e (.nil (.ret ?_)))
                      obtain rfl := someO h
                      have h := hk785
                      replace h := inlO h
                      obtain rfl := someO h
                      exact Ends.mkG (.inl e) e (gh_pk [0] [] hB e e e e) e e
                     ·exact Run.skip (⟨_,_,(gh_pk [4,5,28,31] [0,1,2,3,4,5] hB e e e e),(),h,e,e⟩)
                    ·refine OpsD.gn e g841 (.gn e g841 (.gn e g841 (.gn e g841 (.gn e g841 (.gn e g841 (.gn e g841 (.gs (s := 132408) e g840 (.pkF e g841 e) e e (.gp e g840 e (.z 132440 (.pkT e g840 e) e e (.nil ⟨by kernel_rfl,?_⟩))))))))))
                     refine Run.condT e g840 (.so hm (.p e (.nil (.ret ?_))))
                     obtain rfl := someO h
                     have h := hk785
                     replace h := inlO h
                     obtain rfl := someO h
                     exact Ends.mkG (.inl e) e (gh_pk [0] [] hB e e e e) e e
                   ·refine OpsD.gn e g840 (.gn e g840 (.gu e (.gu e (.gu e (.gu e (.gu e (.gu e (.gu e (.gn e g840 (.gn e g840 (.z 132440 (.pkF e g840 e) e e (.nil ⟨by kernel_rfl,?_⟩))))))))))))
                    exact Run.condF e e (.skip (⟨_,_,(gh_pk [4,5,28,31] [0,1,2,3,4,5] hB e e e e),(),h,e,e⟩))
                 ·exact Run.ops hm (.p3 e e e (.nil (⟨m785,Nat.lt_succ_self m785,_,_,(gh_pk [4,5,28,31] [0,1,2,3,4,5] hB e e e e),_,h,e,e⟩)))
                ·refine Run.exit ?_
                 obtain rfl := someO h
                 have h := hk785
                 replace h := inrO h
                 exact ⟨_,_,(gh_pk [4,5,28] [0,1,2,3,4,5] hB e e e e),(),h,e,e⟩
               ·refine Run.so hm (.p3 e e e (.p3 e e e (.askO (x := .t 225) e h (fun g845 h => ?_) (fun g845 h => ?_))))
                ·refine Ops.gn e g845 (.gn e g845 (.gn e g845 (.gn e g845 (.gn e g845 (.z 140440 (.pkT e g845 e) e e (.p e (.nil (.ret ?_))))))))
                 obtain rfl := someO h
                 exact Ends.mkG (.inl e) e (gh_pk [0] [] hB e e e e) e e
                ·refine Ops.gp e g845 e (.gp e g845 e (.gp e g845 e (.gp e g845 e (.gp e g845 e (.z 140440 (.pkF e g845 e) e e (.p e (.nil (.ret ?_))))))))
                 obtain rfl := someO h
                 exact Ends.mkG (.inl e) e (gh_pk [0] [] hB e e e e) e e
end Go.Proofs.Ythlhkcnilehbbaa.Pe.FnLogs
