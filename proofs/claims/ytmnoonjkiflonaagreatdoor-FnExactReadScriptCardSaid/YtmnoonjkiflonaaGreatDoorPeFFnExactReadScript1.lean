/- Functions,as pure functions; and that Go does just that. -/
import Derived.Test.YtmnoonjkiflonaaGreatDoorPeFFnExactReadScript0
namespace Go.Proofs.YtmnoonjkiflonaaGreatDoor.Pe.FnExactReadScript
open Go Go.RowKit
set_option linter.unusedVariables false
set_option linter.unusedSimpArgs false
set_option maxHeartbeats 40000000
set_option maxRecDepth 100000
def spec_FormatDisk (N : Nat) (x1 : (List Int)) : Option (Disk × Bool) :=
 (spec_FormatShelf N x1).bind fun y115 =>
 (if (!y115.2) = true then
 some ((Disk.mk ([])),false)
 else
 (spec_LogFile N (Log.mk 0 0 ([]))).bind fun y121 =>
 (spec_l03Put N y115.1 (File.mk (⟨#[108,111,103]⟩ : ByteArray) y121.1)).bind fun y123 =>
 some (y123,true))
theorem sem_spec_FormatDisk (N : Nat) (x1 : (List Int)) (r : Disk × Bool) (h : spec_FormatDisk N x1 = some r) : Says Tryz.prog 28 [RO 3 (x1.map encI)] 0 [] (.tup [.agg [.sl 0 98 0 r.1.Files.length],VB r.2]) [(0,.vec 98 (r.1.Files.map encFile))] := by
 unfold spec_FormatDisk at h
 refine Says.of_norm e Tryz.call28 e fun B hB => ?_
 have hm : B.m ≤ 1000 := by omega
 refine Run.so hm (.z 1000 (.al e e) e e (.p e (.nil (.so hm (.p e ?_)))))
 obtain ⟨y115,hy115,h⟩ := bindO h
 refine Ops.z 5112 (Ev.call [] [] 1 (sem_spec_FormatShelf _ _ _ hy115) e e (.d1 .nil) e (.inl e) e e) e e (.p3 e e e (.z 5176 (.al e e) e e (.y 5192 (.sto e e e e e e) e e (.p e (.nil (.seq (.so hm (.p2 e e (.nil (.condO e h (fun g117 h => ?_) (fun g117 h => ?_)))))))))))
 ·refine Run.so hm (.z 13288 (.bd e e) e e (.y 13304 (.sto e e e e e e) e e (.p e (.nil (.ret ?_)))))
  obtain rfl := someO h
  exact Ends.mkG (.inl e) e (Gh.trans (Gh.trans (gh_prn [0,1] [] hB e) (gh_nil [0] [] hB e e e)) (gh_pk [0,1] [10000000] hB e e e e)) e e
 ·refine Run.skip (.so hm (.z 17384 (.bd e e) e e ?_))
  obtain ⟨y121,hy121,h⟩ := bindO h
  refine Ops.z 17400 (Ev.call [] [] 0 (sem_spec_LogFile _ _ _ hy121) e e (.cons (.agg (.d2 (.cons (.nil _ _) .nil))) .nil) e (.inl e) e e) e e (.p3 e e e (.p2 e e (.nil (.so hm (.p2 e e (.z 21512 (.bd e e) e e ?_))))))
  obtain ⟨y123,hy123,h⟩ := bindO h
  refine Ops.z 21528 (Ev.call [] [5112] 1 (sem_spec_l03Put _ _ _ _ hy123) e e (.cons (.agg (.cons (.borrow e (by decide) (lendW (fun _ => e) _ e)) .nil)) (.cons (.agg (.d2 .nil)) .nil)) e (.inr ⟨e,ownL_root ⟨own_rows (fun _ => e) _,trivial⟩⟩) e e) e e ?_
  refine Ops.y 21544 (.sto e e e e e e) e e (.p e (.nil (.ret ?_)))
  obtain rfl := someO h
  exact Ends.mkG (.inl e) e (gh_pk [0,1] [21528] hB e e e e) e e
def spec_DiskOk_l1 (N : Nat) (x1 : Disk) : Nat → Int → Option ((Bool) ⊕ (Unit))
 | 0,_ => none
 | m + 1,x343 =>
 (if (decide (x343 < (x1.Files.length : Int))) = true then
 joinP (fun (v404 : Unit) =>
 spec_DiskOk_l1 N x1 m (w64 (x343 + 1))) fun j404 =>
 (at? x1.Files x343).bind fun x413 =>
 (spec_l01In N (x413.Name.size : Int) 1 12).bind fun y414 =>
 (if (!y414) = true then
 some (Sum.inl false)
 else
 (at? x1.Files x343).bind fun x416 =>
 (if (decide ((x416.Text.size : Int) > 20000)) = true then
 some (Sum.inl false)
 else
 (if (decide (x343 > 0)) = true then
 (at? x1.Files (w64 (x343 - 1))).bind fun x419 =>
 (at? x1.Files x343).bind fun x420 =>
 (if (!Op.bytesLess x419.Name.toList x420.Name.toList) = true then
 some (Sum.inl false)
 else
 j404 ())
 else
 j404 ())))
 else
 some (Sum.inr ()))
def spec_DiskOk (N : Nat) (x1 : Disk) : Option (Bool) :=
 (if (decide ((x1.Files.length : Int) > 30)) = true then
 some false
 else
 joinP (fun (v342 : Unit) =>
 some true) fun j342 =>
 (spec_DiskOk_l1 N x1 N 0).bind (Sum.elim (fun v382 => some v382) (fun (v383 : Unit) => j342 ())))
theorem sem_spec_DiskOk (N : Nat) (x1 : Disk) (r : Bool) (h : spec_DiskOk N x1 = some r) : Says Tryz.prog 82 [.agg [RO 98 (x1.Files.map encFile)]] 0 [] (VB r) [] := by
 unfold spec_DiskOk at h
 refine Says.of_norm e Tryz.call82 e fun B hB => ?_
 have hm : B.m ≤ 1000 := by omega
 refine Run.so hm (.z 1000 (.bx e e) e e (.p e (.nil (.seq (.so hm (.p2 e e (.z 5128 (Ev.lnF e) e e (.p e (.nil (.condO e h (fun g262 h => ?_) (fun g262 h => ?_)))))))))))
 ·refine Run.so hm (.p e (.nil (.ret ?_)))
  obtain rfl := someO h
  exact Ends.mkG (.inl e) e (gh_pk [0] [] hB e e e e) e e
 ·refine Run.skip (.seqO h (fun v342 => []) (fun (v342 : Unit) => []) (fun h => ?_) (fun v342 h => ?_))
  ·refine Run.so hm (.p e (.nil (.block ?_)))
   obtain ⟨res383,h,hk383⟩ := bindO h
   refine Run.loop (n := N) (fun m383 fr σ => ∃ (x343 : Int),spec_DiskOk_l1 N x1 m383 x343 = some res383 ∧ fr = [(1,.ptr 0 0),(3,VI x343)] ∧ σ = [(0,.box [RO 98 (x1.Files.map encFile)])]) (gh_pk [1,3] [1000] hB e e e e) ⟨_,h,e,e⟩ ?_
   rintro m383 fr σ ⟨x343,h,rfl,rfl⟩
   obtain _ | m383 := m383
   ·rw [spec_DiskOk_l1] at h; cases h
   rw [spec_DiskOk_l1] at h
   refine Run.seq (.so hm (.p3 e e e (.z 17432 (Ev.lnF e) e e (.p e (.nil (.condO e h (fun g386 h => ?_) (fun g386 h => ?_)))))))
   ·refine Run.skip (.seqO h (fun v404 => [(1,.ptr 0 0),(3,VI x343)]) (fun (v404 : Unit) => [(0,.box [RO 98 (x1.Files.map encFile)])]) (fun h => ?_) (fun v404 h => ?_))
    ·refine Run.block (.seq (.draw hm hmix (.p e (.p e (.p e ?_)))))
     obtain ⟨x413,hx413,h⟩ := bindO h
     refine OpsD.z 25624 (Ev.iaF e e hx413) e e (.p e (.p e (.p e ?_)))
     obtain ⟨y414,hy414,h⟩ := bindO h
     refine OpsD.z 25688 (Ev.call [] [] 0 (sem_spec_l01In _ _ _ _ _ hy414) e e (.d2 (.d1 .nil)) e (.inl e) e e) e e (.p e (.p e (.askO (x := .t 24) e h (fun g415 h => ?_) (fun g415 h => ?_))))
     ·refine OpsD.gn e g415 (.gn e g415 (.gn e g415 (.gn e g415 (.gn e g415 (.gn e g415 (.gn e g415 (.gn e g415 (.z 25864 (.pkT e g415 e) e e (.p e (.gn e e (.gn e e (.gn e e (.gu e (.gu e (.gu e (.gu e (.gu e (.gu e (.gu e (.gu e (.gu e (.gu e (.gu e (.gu e (.gu e (.gu e (.gn e e (.z 26184 (.pkT e e e) e e (.nil ⟨by kernel_rfl,?_⟩)))))))))))))))))))))))))))))
      refine Run.condT e e (.so hm (.p e (.nil (.ret ?_))))
      obtain rfl := someO h
      have h := hk383
      replace h := inlO h
      obtain rfl := someO h
      exact Ends.mkG (.inl e) e (gh_pk [0] [] hB e e e e) e e
     ·refine OpsD.gp e g415 e (.gp e g415 e (.gp e g415 e ?_))
      obtain ⟨x416,hx416,h⟩ := bindO h
      refine OpsD.gs (s := 25784) e g415 (Ev.iaF e e hx416) e e (.gp e g415 e (.gp e g415 e (.gp e g415 e (.gp e g415 e (.z 25864 (.pkF e g415 e) e e (.p e (.askO (x := .t 34) e h (fun g417 h => ?_) (fun g417 h => ?_))))))))
      ·refine OpsD.gn e g417 (.gn e g417 (.gn e g417 (.gu e (.gu e (.gu e (.gu e (.gu e (.gu e (.gu e (.gu e (.gu e (.gu e (.gu e (.gu e (.gu e (.gu e (.gn e g417 (.z 26184 (.pkT e g417 e) e e (.nil ⟨by kernel_rfl,?_⟩)))))))))))))))))))
       refine Run.condT e e (.so hm (.p e (.nil (.ret ?_))))
       obtain rfl := someO h
       have h := hk383
       replace h := inlO h
       obtain rfl := someO h
       exact Ends.mkG (.inl e) e (gh_pk [0] [] hB e e e e) e e
      ·refine OpsD.gp e g417 e (.gp e g417 e (.gp e g417 e (.askO (x := .t 37) e h (fun g418 h => ?_) (fun g418 h => ?_))))
       ·refine OpsD.gp e g418 e (.gp e g418 e (.gp e g418 e (.gp e g418 e ?_)))
        obtain ⟨x419,hx419,h⟩ := bindO h
        refine OpsD.gs (s := 26008) e g418 (Ev.iaF e e hx419) e e (.gp e g418 e (.gp e g418 e (.gp e g418 e (.gp e g418 e (.gp e g418 e ?_)))))
        obtain ⟨x420,hx420,h⟩ := bindO h
        refine OpsD.gs (s := 26104) e g418 (Ev.iaF e e hx420) e e (.gp e g418 e (.gp e g418 e (.gp e g418 e (.gs (s := 26168) e g417 (.pkT e g418 e) e e (.z 26184 (.pkF e g417 e) e e (.nil ⟨by kernel_rfl,?_⟩))))))
        refine Run.condO e h (fun g421 h => ?_) (fun g421 h => ?_)
        ·refine Run.so hm (.p e (.nil (.ret ?_)))
         obtain rfl := someO h
         have h := hk383
         replace h := inlO h
         obtain rfl := someO h
         exact Ends.mkG (.inl e) e (gh_pk [0] [] hB e e e e) e e
        ·exact Run.skip (⟨_,_,(gh_pk [1,3] [0] hB e e e e),(),h,e,e⟩)
       ·refine OpsD.gn e g418 (.gn e g418 (.gn e g418 (.gn e g418 (.gn e g418 (.gn e g418 (.gn e g418 (.gn e g418 (.gn e g418 (.gn e g418 (.gn e g418 (.gn e g418 (.gn e g418 (.gn e g418 (.gs (s := 26168) e g417 (.pkF e g418 e) e e (.z 26184 (.pkF e g417 e) e e (.nil ⟨by kernel_rfl,?_⟩))))))))))))))))
        exact Run.condF e e (.skip (⟨_,_,(gh_pk [1,3] [0] hB e e e e),(),h,e,e⟩))
    ·exact Run.ops hm (.p3 e e e (.nil (⟨m383,Nat.lt_succ_self m383,_,_,(gh_pk [1,3] [0] hB e e e e),_,h,e,e⟩)))
   ·refine Run.exit ?_
    obtain rfl := someO h
    have h := hk383
    replace h := inrO h
    exact ⟨_,_,(gh_pk [] [] hB e e e e),(),h,e,e⟩
  ·refine Run.so hm (.p e (.nil (.ret ?_)))
   obtain rfl := someO h
   exact Ends.mkG (.inl e) e (gh_pk [0] [] hB e e e e) e e
def spec_l03At_l1 (N : Nat) (x1 : Disk) (x2 : ByteArray) : Nat → Int → Option ((Int) ⊕ (Unit))
 | 0,_ => none
 | m + 1,x169 =>
 (if (decide (x169 < (x1.Files.length : Int))) = true then
 (at? x1.Files x169).bind fun x188 =>
 (if (decide (x188.Name = x2)) = true then
 some (Sum.inl x169)
 else
 spec_l03At_l1 N x1 x2 m (w64 (x169 + 1)))
 else
 some (Sum.inr ()))
def spec_l03At (N : Nat) (x1 : Disk) (x2 : ByteArray) : Option (Int) :=
 joinP (fun (v167 : Unit) =>
 some (-1 : Int)) fun j167 =>
 (spec_l03At_l1 N x1 x2 N 0).bind (Sum.elim (fun v179 => some v179) (fun (v180 : Unit) => j167 ()))
theorem sem_spec_l03At (N : Nat) (x1 : Disk) (x2 : ByteArray) (r : Int) (h : spec_l03At N x1 x2 = some r) : Says Tryz.prog 56 [.agg [RO 98 (x1.Files.map encFile)],VS x2] 0 [] (VI r) [] := by
 unfold spec_l03At at h
 refine Says.of_norm e Tryz.call56 e fun B hB => ?_
 have hm : B.m ≤ 1000 := by omega
 refine Run.so hm (.z 1000 (.bx e e) e e (.p e (.nil (.seqO h (fun v167 => []) (fun (v167 : Unit) => []) (fun h => ?_) (fun v167 h => ?_)))))
 ·refine Run.so hm (.p e (.nil (.block ?_)))
  obtain ⟨res180,h,hk180⟩ := bindO h
  refine Run.loop (n := N) (fun m180 fr σ => ∃ (x169 : Int),spec_l03At_l1 N x1 x2 m180 x169 = some res180 ∧ fr = [(1,VS x2),(2,.ptr 0 0),(5,VI x169)] ∧ σ = [(0,.box [RO 98 (x1.Files.map encFile)])]) (gh_pk [1,2,5] [1000] hB e e e e) ⟨_,h,e,e⟩ ?_
  rintro m180 fr σ ⟨x169,h,rfl,rfl⟩
  obtain _ | m180 := m180
  ·rw [spec_l03At_l1] at h; cases h
  rw [spec_l03At_l1] at h
  refine Run.seq (.so hm (.p3 e e e (.z 9240 (Ev.lnF e) e e (.p e (.nil (.condO e h (fun g183 h => ?_) (fun g183 h => ?_)))))))
  ·refine Run.skip (.seq (.block (.so hm (.p3 e e e ?_))))
   obtain ⟨x188,hx188,h⟩ := bindO h
   refine Ops.z 17432 (Ev.iaF e e hx188) e e (.p3 e e e (.p e (.nil (.condO e h (fun g189 h => ?_) (fun g189 h => ?_)))))
   ·refine Run.so hm (.p2 e e (.nil (.ret ?_)))
    obtain rfl := someO h
    have h := hk180
    replace h := inlO h
    obtain rfl := someO h
    exact Ends.mkG (.inl e) e (gh_pk [0] [] hB e e e e) e e
   ·exact Run.skip (.ops hm (.p3 e e e (.nil (⟨m180,Nat.lt_succ_self m180,_,_,(gh_pk [1,2,5] [0] hB e e e e),_,h,e,e⟩))))
  ·refine Run.exit ?_
   obtain rfl := someO h
   have h := hk180
   replace h := inrO h
   exact ⟨_,_,(gh_pk [] [] hB e e e e),(),h,e,e⟩
 ·refine Run.so hm (.p e (.nil (.ret ?_)))
  obtain rfl := someO h
  exact Ends.mkG (.inl e) e (gh_pk [0] [] hB e e e e) e e
def spec_FileAt (N : Nat) (x1 : Disk) (x2 : ByteArray) : Option (ByteArray × Bool) :=
 (spec_l03At N x1 x2).bind fun y119 =>
 (spec_DiskOk N x1).bind fun y127 =>
 (if (!y127) = true then
 some ((⟨#[]⟩ : ByteArray),false)
 else
 (if (decide (y119 < 0)) = true then
 some ((⟨#[]⟩ : ByteArray),false)
 else
 (at? x1.Files y119).bind fun x131 =>
 some (x131.Text,true)))
theorem sem_spec_FileAt (N : Nat) (x1 : Disk) (x2 : ByteArray) (r : ByteArray × Bool) (h : spec_FileAt N x1 x2 = some r) : Says Tryz.prog 52 [.agg [RO 98 (x1.Files.map encFile)],VS x2] 0 [] (.tup [VS r.1,VB r.2]) [] := by
 unfold spec_FileAt at h
 refine Says.of_norm e Tryz.call52 e fun B hB => ?_
 have hm : B.m ≤ 1000 := by omega
 refine Run.so hm (.z 1000 (.bx e e) e e (.p2 e e (.nil (.so hm (.p2 e e ?_)))))
 obtain ⟨y119,hy119,h⟩ := bindO h
 refine Ops.z 5128 (Ev.call [] [] 0 (sem_spec_l03At _ _ _ _ hy119) e e (.cons (.agg (.d1 .nil)) (.d1 .nil)) e (.inl e) e e) e e (.p e (.nil (.seq (.so hm (.p e ?_)))))
 obtain ⟨y127,hy127,h⟩ := bindO h
 refine Ops.z 9208 (Ev.call [] [] 0 (sem_spec_DiskOk _ _ _ hy127) e e (.cons (.agg (.d1 .nil)) .nil) e (.inl e) e e) e e (.p2 e e (.askO (x := .t 13) e h (fun g128 h => ?_) (fun g128 h => ?_)))
 ·refine Ops.gn e g128 (.gn e g128 (.z 9288 (.pkT e g128 e) e e (.nil (.condT e e (.so hm (.p2 e e (.nil (.ret ?_))))))))
  obtain rfl := someO h
  exact Ends.mkG (.inl e) e (gh_pk [0,1] [] hB e e e e) e e
 ·refine Ops.gp e g128 e (.gp e g128 e (.z 9288 (.pkF e g128 e) e e (.nil (.condO e h (fun g129 h => ?_) (fun g129 h => ?_)))))
  ·refine Run.so hm (.p2 e e (.nil (.ret ?_)))
   obtain rfl := someO h
   exact Ends.mkG (.inl e) e (gh_pk [0,1] [] hB e e e e) e e
  ·refine Run.skip (.so hm (.p3 e e e ?_))
   obtain ⟨x131,hx131,h⟩ := bindO h
   refine Ops.z 17432 (Ev.iaF e e hx131) e e (.p3 e e e (.p e (.nil (.ret ?_))))
   obtain rfl := someO h
   exact Ends.mkG (.inl e) e (gh_pk [0,1] [] hB e e e e) e e
def spec_Unsealed (N : Nat) (x1 : ByteArray) : Option (ByteArray × Bool) :=
 (if (decide ((w64 ((x1.size : Int) - 4)) < 0)) = true then
 some ((⟨#[]⟩ : ByteArray),false)
 else
 (if (decide ((w64 ((x1.size : Int) - 4)) > 20000)) = true then
 some ((⟨#[]⟩ : ByteArray),false)
 else
 (sdrop? x1 (w64 ((x1.size : Int) - 4))).bind fun x149 =>
 (stake? x1 (w64 ((x1.size : Int) - 4))).bind fun x150 =>
 (spec_SumOf N x150).bind fun y151 =>
 (spec_l02Four N y151).bind fun y152 =>
 (if (!decide (x149 = y152)) = true then
 some ((⟨#[]⟩ : ByteArray),false)
 else
 (stake? x1 (w64 ((x1.size : Int) - 4))).bind fun x155 =>
 some (x155,true))))
theorem sem_spec_Unsealed (N : Nat) (x1 : ByteArray) (r : ByteArray × Bool) (h : spec_Unsealed N x1 = some r) : Says Tryz.prog 173 [VS x1] 0 [] (.tup [VS r.1,VB r.2]) [] := by
 unfold spec_Unsealed at h
 refine Says.of_norm e Tryz.call173 e fun B hB => ?_
 have hm : B.m ≤ 1000 := by omega
 refine Run.so hm (.p2 e e (.nil (.so hm (.p3 e e e (.p e (.nil (.seq (.seq (.draw hm hmix (.p e (.p e (.p e (.askO (x := .t 10) e h (fun g147 h => ?_) (fun g147 h => ?_))))))))))))))
 ·refine OpsD.gn e g147 (.gn e g147 (.z 9272 (.pkT e g147 e) e e (.p e (.gn e e (.gn e e (.gn e e (.gn e e (.gn e e (.gn e e (.gn e e (.gn e e (.gn e e (.z 9448 (.pkT e e e) e e (.nil ⟨by kernel_rfl,?_⟩))))))))))))))
  refine Run.condT e e (.so hm (.p2 e e (.nil (.ret ?_))))
  obtain rfl := someO h
  exact Ends.mkG (.inl e) e (gh_pk [0,1] [] hB e e e e) e e
 ·refine OpsD.gp e g147 e (.gp e g147 e (.z 9272 (.pkF e g147 e) e e (.p e (.askO (x := .t 14) e h (fun g148 h => ?_) (fun g148 h => ?_)))))
  ·refine OpsD.gn e g148 (.gn e g148 (.gn e g148 (.gn e g148 (.gn e g148 (.gn e g148 (.gn e g148 (.gn e g148 (.gn e g148 (.z 9448 (.pkT e g148 e) e e (.nil ⟨by kernel_rfl,?_⟩))))))))))
   refine Run.condT e e (.so hm (.p2 e e (.nil (.ret ?_))))
   obtain rfl := someO h
   exact Ends.mkG (.inl e) e (gh_pk [0,1] [] hB e e e e) e e
  ·refine OpsD.gp e g148 e (.gp e g148 e ?_)
   obtain ⟨x149,hx149,h⟩ := bindO h
   refine OpsD.gs (s := 9336) e g148 (Ev.ssL e e hx149) e e (.gp e g148 e (.gp e g148 e ?_))
   obtain ⟨x150,hx150,h⟩ := bindO h
   refine OpsD.gs (s := 9384) e g148 (Ev.ssH e e hx150) e e ?_
   obtain ⟨y151,hy151,h⟩ := bindO h
   refine OpsD.gs (s := 9400) e g148 (Ev.call [] [] 0 (sem_spec_SumOf _ _ _ hy151) e e (.d1 .nil) e (.inl e) e e) e e ?_
   obtain ⟨y152,hy152,h⟩ := bindO h
   refine OpsD.gs (s := 9416) e g148 (Ev.call [] [] 0 (sem_spec_l02Four _ _ _ hy152) e e (.d1 .nil) e (.inl e) e e) e e (.gp e g148 e (.z 9448 (.pkF e g148 e) e e (.nil ⟨by kernel_rfl,?_⟩)))
   refine Run.condO e h (fun g153 h => ?_) (fun g153 h => ?_)
   ·refine Run.so hm (.p2 e e (.nil (.ret ?_)))
    obtain rfl := someO h
    exact Ends.mkG (.inl e) e (gh_pk [0,1] [] hB e e e e) e e
   ·refine Run.skip (.so hm (.p2 e e ?_))
    obtain ⟨x155,hx155,h⟩ := bindO h
    refine Ops.z 17416 (Ev.ssH e e hx155) e e (.p2 e e (.nil (.ret ?_)))
    obtain rfl := someO h
    exact Ends.mkG (.inl e) e (gh_pk [0,1] [] hB e e e e) e e
def spec_ReadVar_l1 (N : Nat) (x1 : ByteArray) (x2 : Int) : Nat → Int → Int → Int → Option ((Int × Int × Bool) ⊕ (Unit))
 | 0,_,_,_ => none
 | m + 1,x476,x477,x478 =>
 (if (decide (x478 < (x1.size : Int))) = true then
 (if (decide (x478 < (w64 (x2 + 5)))) = true then
 (sat? x1 x478).bind fun x575 =>
 (intD .rem .i64 (w64 (x575)) 128).bind fun x576 =>
 (sat? x1 x478).bind fun x578 =>
 (if (decide (x578 < 128)) = true then
 (if (decide ((w64 (x476 + (w64 (x576 * x477)))) > 1000000000)) = true then
 some (Sum.inl (0,0,false))
 else
 (spec_l01Var N (w64 (x476 + (w64 (x576 * x477))))).bind fun y591 =>
 (scut? x1 x2 (w64 (x478 + 1))).bind fun x592 =>
 (if (!decide (y591 = x592)) = true then
 some (Sum.inl (0,0,false))
 else
 some (Sum.inl (w64 (x476 + (w64 (x576 * x477))),w64 (x478 + 1),true))))
 else
 spec_ReadVar_l1 N x1 x2 m (w64 (x476 + (w64 (x576 * x477)))) (w64 (x477 * 128)) (w64 (x478 + 1)))
 else
 some (Sum.inr ()))
 else
 some (Sum.inr ()))
def spec_ReadVar (N : Nat) (x1 : ByteArray) (x2 : Int) : Option (Int × Int × Bool) :=
 (spec_l01In N x2 0 (x1.size : Int)).bind fun y351 =>
 (if (!y351) = true then
 some (0,0,false)
 else
 joinP (fun (v473 : Unit) =>
 some (0,0,false)) fun j473 =>
 (spec_ReadVar_l1 N x1 x2 N 0 1 x2).bind (Sum.elim (fun v535 => some v535) (fun (v536 : Unit) => j473 ())))
theorem sem_spec_ReadVar (N : Nat) (x1 : ByteArray) (x2 : Int) (r : Int × Int × Bool) (h : spec_ReadVar N x1 x2 = some r) : Says Tryz.prog 126 [VS x1,VI x2] 0 [] (.tup [VI r.1,VI r.2.1,VB r.2.2]) [] := by
 unfold spec_ReadVar at h
 refine Says.of_norm e Tryz.call126 e fun B hB => ?_
 have hm : B.m ≤ 1000 := by omega
 refine Run.so hm (.p3 e e e (.nil (.seq (.so hm (.p3 e e e ?_)))))
 obtain ⟨y351,hy351,h⟩ := bindO h
 refine Ops.z 5144 (Ev.call [] [] 0 (sem_spec_l01In _ _ _ _ _ hy351) e e (.d2 (.d1 .nil)) e (.inl e) e e) e e (.p e (.nil (.condO e h (fun g352 h => ?_) (fun g352 h => ?_))))
 ·refine Run.so hm (.p3 e e e (.nil (.ret ?_)))
  obtain rfl := someO h
  exact Ends.mkG (.inl e) e (gh_pk [0,1,2] [] hB e e e e) e e
 ·refine Run.skip (.so hm (.p e (.nil (.so hm (.p e (.nil (.seqO h (fun v473 => []) (fun (v473 : Unit) => []) (fun h => ?_) (fun v473 h => ?_))))))))
  ·refine Run.so hm (.p2 e e (.nil (.block ?_)))
   obtain ⟨res536,h,hk536⟩ := bindO h
   refine Run.loop (n := N) (fun m536 fr σ => ∃ (x476 : Int),∃ (x477 : Int),∃ (x478 : Int),spec_ReadVar_l1 N x1 x2 m536 x476 x477 x478 = some res536 ∧ fr = [(0,VS x1),(1,VI x2),(7,VI x476),(8,VI x477),(9,VI x478)] ∧ σ = []) (gh_pk [0,1,7,8,9] [] hB e e e e) ⟨_,_,_,h,e,e⟩ ?_
   rintro m536 fr σ ⟨x476,x477,x478,h,rfl,rfl⟩
   obtain _ | m536 := m536
   ·rw [spec_ReadVar_l1] at h; cases h
   rw [spec_ReadVar_l1] at h
   refine Run.seq (.so hm (.p3 e e e (.p2 e e (.askO (x := .t 20) e h (fun g542 h => ?_) (fun g542 h => ?_)))))
   ·refine Ops.gp e g542 e (.gp e g542 e (.gp e g542 e (.gp e g542 e (.z 25720 (.pkT e g542 e) e e (.nil (.condO e h (fun g543 h => ?_) (fun g543 h => ?_)))))))
    ·refine Run.skip (.seq (.block (.so hm (.p3 e e e ?_))))
     obtain ⟨x575,hx575,h⟩ := bindO h
     refine Ops.z 33816 (Ev.ixS e e hx575) e e (.p e ?_)
     obtain ⟨x576,hx576,h⟩ := bindO h
     refine Ops.z 33848 (.bin e e hx576) e e (.p3 e e e (.p e (.nil (.so hm (.p3 e e e (.nil (.so hm (.p2 e e ?_))))))))
     obtain ⟨x578,hx578,h⟩ := bindO h
     refine Ops.z 41992 (Ev.ixS e e hx578) e e (.p e (.nil (.condO e h (fun g579 h => ?_) (fun g579 h => ?_))))
     ·refine Run.seq (.seq (.draw hm hmix (.p e (.p e (.p e (.askO (x := .t 45) e h (fun g590 h => ?_) (fun g590 h => ?_)))))))
      ·refine OpsD.gn e g590 (.gn e g590 (.gn e g590 (.gn e g590 (.gn e g590 (.gn e g590 (.gn e g590 (.gn e g590 (.z 46232 (.pkT e g590 e) e e (.nil ⟨by kernel_rfl,?_⟩)))))))))
       refine Run.condT e e (.so hm (.p3 e e e (.nil (.ret ?_))))
       obtain rfl := someO h
       have h := hk536
       replace h := inlO h
       obtain rfl := someO h
       exact Ends.mkG (.inl e) e (gh_pk [0,1,2] [] hB e e e e) e e
      ·refine OpsD.gp e g590 e ?_
       obtain ⟨y591,hy591,h⟩ := bindO h
       refine OpsD.gs (s := 46120) e g590 (Ev.call [] [] 0 (sem_spec_l01Var _ _ _ hy591) e e (.d1 .nil) e (.inl e) e e) e e (.gp e g590 e (.gp e g590 e (.gp e g590 e (.gp e g590 e ?_))))
       obtain ⟨x592,hx592,h⟩ := bindO h
       refine OpsD.gs (s := 46200) e g590 (Ev.ssB e e e hx592) e e (.gp e g590 e (.z 46232 (.pkF e g590 e) e e (.nil ⟨by kernel_rfl,?_⟩)))
       refine Run.condO e h (fun g593 h => ?_) (fun g593 h => ?_)
       ·refine Run.so hm (.p3 e e e (.nil (.ret ?_)))
        obtain rfl := someO h
        have h := hk536
        replace h := inlO h
        obtain rfl := someO h
        exact Ends.mkG (.inl e) e (gh_pk [0,1,2] [] hB e e e e) e e
       ·refine Run.skip (.so hm (.p3 e e e (.p3 e e e (.nil (.ret ?_)))))
        obtain rfl := someO h
        have h := hk536
        replace h := inlO h
        obtain rfl := someO h
        exact Ends.mkG (.inl e) e (gh_pk [0,1,2] [] hB e e e e) e e
     ·exact Run.skip (.ops hm (.p3 e e e (.nil (⟨m536,Nat.lt_succ_self m536,_,_,(gh_pk [0,1,7,8,9] [] hB e e e e),_,_,_,h,e,e⟩))))
    ·refine Run.exit ?_
     obtain rfl := someO h
     have h := hk536
     replace h := inrO h
     exact ⟨_,_,(gh_pk [] [] hB e e e e),(),h,e,e⟩
   ·refine Ops.gn e g542 (.gn e g542 (.gn e g542 (.gn e g542 (.z 25720 (.pkF e g542 e) e e (.nil (.condF e e (.exit ?_)))))))
    obtain rfl := someO h
    have h := hk536
    replace h := inrO h
    exact ⟨_,_,(gh_pk [] [] hB e e e e),(),h,e,e⟩
  ·refine Run.so hm (.p3 e e e (.nil (.ret ?_)))
   obtain rfl := someO h
   exact Ends.mkG (.inl e) e (gh_pk [0,1,2] [] hB e e e e) e e
def spec_l05Var (N : Nat) (x1 : Tl05Cur) : Option (Int × Tl05Cur) :=
 (spec_ReadVar N x1.text x1.at').bind fun y113 =>
 (if x1.bad = true then
 some (0,(Tl05Cur.mk x1.text x1.at' true))
 else
 (if (!y113.2.2) = true then
 some (0,(Tl05Cur.mk x1.text x1.at' true))
 else
 some (y113.1,(Tl05Cur.mk x1.text y113.2.1 x1.bad))))
theorem sem_spec_l05Var (N : Nat) (x1 : Tl05Cur) (r : Int × Tl05Cur) (h : spec_l05Var N x1 = some r) : Says Tryz.prog 88 [.ptr 0 0] 1 [(0,.box [VS x1.text,VI x1.at',VB x1.bad])] (VI r.1) [(0,.box [VS r.2.text,VI r.2.at',VB r.2.bad])] := by
 unfold spec_l05Var at h
 refine Says.of_norm e Tryz.call88 e fun B hB => ?_
 have hm : B.m ≤ 1000 := by omega
 refine Run.so hm (.p e (.nil (.seq (.draw hm hmix (.p e (.p e (.p e (.p e (.p e (.p e (.p e (.p e ?_))))))))))))
 obtain ⟨y113,hy113,h⟩ := bindO h
 refine OpsD.z 5224 (Ev.call [] [] 0 (sem_spec_ReadVar _ _ _ _ hy113) e e (.d2 .nil) e (.inl e) e e) e e (.p e (.p e (.p e (.p e (.p e (.p e (.p e (.nil ⟨by kernel_rfl,?_⟩))))))))
 refine Run.seq (.so hm (.p3 e e e (.p2 e e (.askO (x := .t 23) e h (fun g118 h => ?_) (fun g118 h => ?_)))))
 ·refine Ops.gn e g118 (.gn e g118 (.z 9304 (.pkT e g118 e) e e (.nil (.condT e e (.so hm (.p3 e e e (.y 13336 (.sto e e e e e e) e e (.nil (.so hm (.p e (.nil (.ret ?_))))))))))))
  obtain rfl := someO h
  exact Ends.mkG (.inl e) e (gh_pk [0] [0] hB e e e e) e e
 ·refine Ops.gp e g118 e (.gp e g118 e (.z 9304 (.pkF e g118 e) e e (.nil (.condO e h (fun g119 h => ?_) (fun g119 h => ?_)))))
  ·refine Run.so hm (.p3 e e e (.y 13336 (.sto e e e e e e) e e (.nil (.so hm (.p e (.nil (.ret ?_)))))))
   obtain rfl := someO h
   exact Ends.mkG (.inl e) e (gh_pk [0] [0] hB e e e e) e e
  ·refine Run.skip (.so hm (.p3 e e e (.p e (.y 21544 (.sto e e e e e e) e e (.nil (.so hm (.p2 e e (.nil (.ret ?_)))))))))
   obtain rfl := someO h
   exact Ends.mkG (.inl e) e (gh_pk [0] [0] hB e e e e) e e
def spec_ReadManifest_l1 (N : Nat) (y363 : Int × Tl05Cur) : Nat → Int → ByteArray → Int → Bool → (List Int) → Option (ByteArray × Int × Bool × (List Int))
 | 0,_,_,_,_,_ => none
 | m + 1,x421,x425,x426,x427,x433 =>
 (if (decide (x421 < y363.1)) = true then
 (if (!x427) = true then
 (if (decide (x421 ≤ 8)) = true then
 (spec_l05Var N (Tl05Cur.mk x425 x426 x427)).bind fun y471 =>
 (cat? x433 ([y471.1] : List Int)).bind fun x472 =>
 spec_ReadManifest_l1 N y363 m (w64 (x421 + 1)) y471.2.text y471.2.at' y471.2.bad x472
 else
 some (x425,x426,x427,x433))
 else
 some (x425,x426,x427,x433))
 else
 some (x425,x426,x427,x433))
def spec_ReadManifest_l2 (N : Nat) (y488 : Int × Tl05Cur) : Nat → Int → ByteArray → Int → Bool → (List Int) → Option (ByteArray × Int × Bool × (List Int))
 | 0,_,_,_,_,_ => none
 | m + 1,x546,x550,x551,x552,x559 =>
 (if (decide (x546 < y488.1)) = true then
 (if (!x552) = true then
 (if (decide (x546 ≤ 4)) = true then
 (spec_l05Var N (Tl05Cur.mk x550 x551 x552)).bind fun y596 =>
 (cat? x559 ([y596.1] : List Int)).bind fun x597 =>
 spec_ReadManifest_l2 N y488 m (w64 (x546 + 1)) y596.2.text y596.2.at' y596.2.bad x597
 else
 some (x550,x551,x552,x559))
 else
 some (x550,x551,x552,x559))
 else
 some (x550,x551,x552,x559))
def spec_ReadManifest (N : Nat) (x1 : ByteArray) : Option (Manifest × Bool) :=
 (spec_Unsealed N x1).bind fun y359 =>
 (spec_l05Var N (Tl05Cur.mk y359.1 0 (!y359.2))).bind fun y363 =>
 joinP (fun (v418 : ByteArray × Int × Bool × (List Int)) =>
 (spec_l05Var N (Tl05Cur.mk v418.1 v418.2.1 v418.2.2.1)).bind fun y476 =>
 (spec_l05Var N y476.2).bind fun y480 =>
 (spec_l05Var N y480.2).bind fun y484 =>
 (spec_l05Var N y484.2).bind fun y488 =>
 joinP (fun (v543 : ByteArray × Int × Bool × (List Int)) =>
 (spec_ManifestText N (Manifest.mk v418.2.2.2 y476.1 y480.1 y484.1 v543.2.2.2)).bind fun y601 =>
 (if v543.2.2.1 = true then
 some ((Manifest.mk ([]) 0 0 0 ([])),false)
 else
 (if (!y601.2) = true then
 some ((Manifest.mk ([]) 0 0 0 ([])),false)
 else
 (if (!decide (y601.1 = x1)) = true then
 some ((Manifest.mk ([]) 0 0 0 ([])),false)
 else
 some ((Manifest.mk v418.2.2.2 y476.1 y480.1 y484.1 v543.2.2.2),true))))) fun j543 =>
 (spec_ReadManifest_l2 N y488 N 0 y488.2.text y488.2.at' y488.2.bad ([] : (List Int))).bind (fun v578 => j543 (v578.1,v578.2.1,v578.2.2.1,v578.2.2.2))) fun j418 =>
 (spec_ReadManifest_l1 N y363 N 0 y363.2.text y363.2.at' y363.2.bad ([] : (List Int))).bind (fun v453 => j418 (v453.1,v453.2.1,v453.2.2.1,v453.2.2.2))
theorem sem_spec_ReadManifest (N : Nat) (x1 : ByteArray) (r : Manifest × Bool) (h : spec_ReadManifest N x1 = some r) : Says Tryz.prog 122 [VS x1] 0 [] (.tup [.agg [.sl 0 3 0 r.1.Segs.length,VI r.1.Next,VI r.1.Base,VI r.1.BaseTerm,.sl 1 3 0 r.1.Conf.length],VB r.2]) [(0,.vec 3 (r.1.Segs.map encI)),(1,.vec 3 (r.1.Conf.map encI))] := by
 unfold spec_ReadManifest at h
 refine Says.of_norm e Tryz.call122 e fun B hB => ?_
 have hm : B.m ≤ 1000 := by omega
 refine Run.so hm (.z 1000 (.al e e) e e (.p e (.nil (.so hm (.p e ?_)))))
 obtain ⟨y359,hy359,h⟩ := bindO h
 refine Ops.z 5112 (Ev.call [] [] 0 (sem_spec_Unsealed _ _ _ hy359) e e (.d1 .nil) e (.inl e) e e) e e (.p3 e e e (.p2 e e (.nil (.so hm (.p3 e e e (.z 9240 (.bd e e) e e (.z 9256 (.bx e e) e e (.p e (.nil (.so hm (.z 13288 (.bd e e) e e (.z 13304 (.al e e) e e (.y 13320 (.sto e e e e e e) e e (.nil (.so hm (.p e ?_))))))))))))))))
 obtain ⟨y363,hy363,h⟩ := bindO h
 refine Ops.z 17400 (Ev.call [9256] [] 0 (sem_spec_l05Var _ _ _ hy363) e e (.cons (.ptr e) .nil) e (.inl e) e e) e e (.p e (.nil (.seqO h (fun v418 => [(0,VS x1),(2,.ptr 0 0),(6,.ptr 1 0),(7,.ptr 2 0)]) (fun (v418 : ByteArray × Int × Bool × (List Int)) => [(0,.box [.sl 3 3 0 (([] : (List Int)).length),VI 0,VI 0,VI 0,.sl 4 3 0 (([] : (List Int)).length)]),(1,.box [VS v418.1,VI v418.2.1,VB v418.2.2.1]),(2,.box [.sl 5 3 0 v418.2.2.2.length,VI 0,VI 0,VI 0,.sl 6 3 0 (([] : (List Int)).length)]),(3,.vec 3 (([] : (List Int)).map encI)),(4,.vec 3 (([] : (List Int)).map encI)),(5,.vec 3 (v418.2.2.2.map encI)),(6,.vec 3 (([] : (List Int)).map encI))]) (fun h => ?_) (fun v418 h => ?_))))
 ·refine Run.so hm (.p e (.nil (.block ?_)))
  obtain ⟨res453,h,hk453⟩ := bindO h
  refine Run.loop (n := N) (fun m453 fr σ => ∃ (x421 : Int),∃ (x425 : ByteArray),∃ (x426 : Int),∃ (x427 : Bool),∃ (x433 : (List Int)),spec_ReadManifest_l1 N y363 m453 x421 x425 x426 x427 x433 = some res453 ∧ fr = [(0,VS x1),(2,.ptr 0 0),(6,.ptr 1 0),(7,.ptr 2 0),(8,VI y363.1),(9,VI x421)] ∧ σ = [(0,.box [.sl 3 3 0 (([] : (List Int)).length),VI 0,VI 0,VI 0,.sl 4 3 0 (([] : (List Int)).length)]),(1,.box [VS x425,VI x426,VB x427]),(2,.box [.sl 5 3 0 x433.length,VI 0,VI 0,VI 0,.sl 6 3 0 (([] : (List Int)).length)]),(3,.vec 3 (([] : (List Int)).map encI)),(4,.vec 3 (([] : (List Int)).map encI)),(5,.vec 3 (x433.map encI)),(6,.vec 3 (([] : (List Int)).map encI))]) (Gh.trans (Gh.trans (gh_prn [0,2,6,7,8,9] [1000,9256,13304] hB e) (gh_nil [] [1000,13304] hB e e e)) (gh_pk [0,2,6,7,8,9] [1000,9256,13304,20000000,20000001,20000064,20000065] hB e e e e)) ⟨_,_,_,_,_,h,e,e⟩ ?_
  rintro m453 fr σ ⟨x421,x425,x426,x427,x433,h,rfl,rfl⟩
  obtain _ | m453 := m453
  ·rw [spec_ReadManifest_l1] at h; cases h
  rw [spec_ReadManifest_l1] at h
  refine Run.seq (.so hm (.p3 e e e (.p e (.askO (x := .t 29) e h (fun g462 h => ?_) (fun g462 h => ?_)))))
  ·refine Ops.gp e g462 e (.gp e g462 e (.gp e g462 e (.gp e g462 e (.gp e g462 e (.z 25720 (.pkT e g462 e) e e (.p e (.askO (x := .t 36) e h (fun g463 h => ?_) (fun g463 h => ?_))))))))
   ·refine Ops.gp e g463 e (.gp e g463 e (.z 25784 (.pkT e g463 e) e e (.nil (.condO e h (fun g464 h => ?_) (fun g464 h => ?_)))))
    ·refine Run.skip (.seq (.block (.draw hm hmix (.p e (.p e (.p e ?_))))))
     obtain ⟨y471,hy471,h⟩ := bindO h
     refine OpsD.z 33816 (Ev.call [1] [] 0 (sem_spec_l05Var _ _ _ hy471) e e (.cons (.ptr e) .nil) e (.inl e) e e) e e (.z 33832 (Ev.bsW (ys := ([y471.1] : List Int)) (f := encI) e (.d1 .nil) e e e e e) e e ?_)
     obtain ⟨x472,hx472,h⟩ := bindO h
     refine OpsD.z 33848 (Ev.apW (f := encI) (ontoW e e e) (addsW e e e (fun _ => e)) e bt3 e hx472) e e (.p e (.y 33880 (.sto e e e e e e) e e (.nil ⟨by kernel_rfl,?_⟩)))
     exact Run.ops hm (.p3 e e e (.nil (⟨m453,Nat.lt_succ_self m453,_,_,(gh_pk [0,2,6,7,8,9] [0,1,2,3,4,33848,6] hB e e e e),_,_,_,_,_,h,e,e⟩)))
    ·refine Run.exit ?_
     obtain rfl := someO h
     have h := hk453
     exact ⟨_,_,(gh_pk [0,2,6,7] [0,1,2,3,4,5,6] hB e e e e),_,h,e,e⟩
   ·refine Ops.gn e g463 (.gn e g463 (.z 25784 (.pkF e g463 e) e e (.nil (.condF e e (.exit ?_)))))
    obtain rfl := someO h
    have h := hk453
    exact ⟨_,_,(gh_pk [0,2,6,7] [0,1,2,3,4,5,6] hB e e e e),_,h,e,e⟩
  ·refine Ops.gn e g462 (.gn e g462 (.gn e g462 (.gn e g462 (.gn e g462 (.z 25720 (.pkF e g462 e) e e (.p e (.gn e e (.gn e e (.z 25784 (.pkF e e e) e e (.nil (.condF e e (.exit ?_))))))))))))
   obtain rfl := someO h
   have h := hk453
   exact ⟨_,_,(gh_pk [0,2,6,7] [0,1,2,3,4,5,6] hB e e e e),_,h,e,e⟩
 ·refine Run.so hm (.p e ?_)
  obtain ⟨y476,hy476,h⟩ := bindO h
  refine Ops.z 37880 (Ev.call [1] [] 0 (sem_spec_l05Var _ _ _ hy476) e e (.cons (.ptr e) .nil) e (.inl e) e e) e e (.p e (.y 37912 (.sto e e e e e e) e e (.nil (.so hm (.p e ?_)))))
  obtain ⟨y480,hy480,h⟩ := bindO h
  refine Ops.z 41976 (Ev.call [1] [] 0 (sem_spec_l05Var _ _ _ hy480) e e (.cons (.ptr e) .nil) e (.inl e) e e) e e (.p e (.y 42008 (.sto e e e e e e) e e (.nil (.so hm (.p e ?_)))))
  obtain ⟨y484,hy484,h⟩ := bindO h
  refine Ops.z 46072 (Ev.call [1] [] 0 (sem_spec_l05Var _ _ _ hy484) e e (.cons (.ptr e) .nil) e (.inl e) e e) e e (.p e (.y 46104 (.sto e e e e e e) e e (.nil (.so hm (.p e ?_)))))
  obtain ⟨y488,hy488,h⟩ := bindO h
  refine Ops.z 50168 (Ev.call [1] [] 0 (sem_spec_l05Var _ _ _ hy488) e e (.cons (.ptr e) .nil) e (.inl e) e e) e e (.p e (.nil (.seqO h (fun v543 => [(0,VS x1),(2,.ptr 0 0),(6,.ptr 1 0),(7,.ptr 2 0)]) (fun (v543 : ByteArray × Int × Bool × (List Int)) => [(0,.box [.sl 3 3 0 (([] : (List Int)).length),VI 0,VI 0,VI 0,.sl 4 3 0 (([] : (List Int)).length)]),(1,.box [VS v543.1,VI v543.2.1,VB v543.2.2.1]),(2,.box [.sl 5 3 0 v418.2.2.2.length,VI y476.1,VI y480.1,VI y484.1,.sl 6 3 0 v543.2.2.2.length]),(3,.vec 3 (([] : (List Int)).map encI)),(4,.vec 3 (([] : (List Int)).map encI)),(5,.vec 3 (v418.2.2.2.map encI)),(6,.vec 3 (v543.2.2.2.map encI))]) (fun h => ?_) (fun v543 h => ?_))))
  ·refine Run.so hm (.p e (.nil (.block ?_)))
   obtain ⟨res578,h,hk578⟩ := bindO h
   refine Run.loop (n := N) (fun m578 fr σ => ∃ (x546 : Int),∃ (x550 : ByteArray),∃ (x551 : Int),∃ (x552 : Bool),∃ (x559 : (List Int)),spec_ReadManifest_l2 N y488 m578 x546 x550 x551 x552 x559 = some res578 ∧ fr = [(0,VS x1),(2,.ptr 0 0),(6,.ptr 1 0),(7,.ptr 2 0),(8,VI y488.1),(10,VI x546)] ∧ σ = [(0,.box [.sl 3 3 0 (([] : (List Int)).length),VI 0,VI 0,VI 0,.sl 4 3 0 (([] : (List Int)).length)]),(1,.box [VS x550,VI x551,VB x552]),(2,.box [.sl 5 3 0 v418.2.2.2.length,VI y476.1,VI y480.1,VI y484.1,.sl 6 3 0 x559.length]),(3,.vec 3 (([] : (List Int)).map encI)),(4,.vec 3 (([] : (List Int)).map encI)),(5,.vec 3 (v418.2.2.2.map encI)),(6,.vec 3 (x559.map encI))]) (gh_pk [0,2,6,7,8,10] [0,1,2,3,4,5,6] hB e e e e) ⟨_,_,_,_,_,h,e,e⟩ ?_
   rintro m578 fr σ ⟨x546,x550,x551,x552,x559,h,rfl,rfl⟩
   obtain _ | m578 := m578
   ·rw [spec_ReadManifest_l2] at h; cases h
   rw [spec_ReadManifest_l2] at h
   refine Run.seq (.so hm (.p3 e e e (.p e (.askO (x := .t 63) e h (fun g587 h => ?_) (fun g587 h => ?_)))))
   ·refine Ops.gp e g587 e (.gp e g587 e (.gp e g587 e (.gp e g587 e (.gp e g587 e (.z 58488 (.pkT e g587 e) e e (.p e (.askO (x := .t 70) e h (fun g588 h => ?_) (fun g588 h => ?_))))))))
    ·refine Ops.gp e g588 e (.gp e g588 e (.z 58552 (.pkT e g588 e) e e (.nil (.condO e h (fun g589 h => ?_) (fun g589 h => ?_)))))
     ·refine Run.skip (.seq (.block (.draw hm hmix (.p e (.p e (.p e ?_))))))
      obtain ⟨y596,hy596,h⟩ := bindO h
      refine OpsD.z 66584 (Ev.call [1] [] 0 (sem_spec_l05Var _ _ _ hy596) e e (.cons (.ptr e) .nil) e (.inl e) e e) e e (.z 66600 (Ev.bsW (ys := ([y596.1] : List Int)) (f := encI) e (.d1 .nil) e e e e e) e e ?_)
      obtain ⟨x597,hx597,h⟩ := bindO h
      refine OpsD.z 66616 (Ev.apW (f := encI) (ontoW e e e) (addsW e e e (fun _ => e)) e bt3 e hx597) e e (.p e (.y 66648 (.sto e e e e e e) e e (.nil ⟨by kernel_rfl,?_⟩)))
      exact Run.ops hm (.p3 e e e (.nil (⟨m578,Nat.lt_succ_self m578,_,_,(gh_pk [0,2,6,7,8,10] [0,1,2,3,4,5,66616] hB e e e e),_,_,_,_,_,h,e,e⟩)))
     ·refine Run.exit ?_
      obtain rfl := someO h
      have h := hk578
      exact ⟨_,_,(gh_pk [0,2,6,7] [0,1,2,3,4,5,6] hB e e e e),_,h,e,e⟩
    ·refine Ops.gn e g588 (.gn e g588 (.z 58552 (.pkF e g588 e) e e (.nil (.condF e e (.exit ?_)))))
     obtain rfl := someO h
     have h := hk578
     exact ⟨_,_,(gh_pk [0,2,6,7] [0,1,2,3,4,5,6] hB e e e e),_,h,e,e⟩
   ·refine Ops.gn e g587 (.gn e g587 (.gn e g587 (.gn e g587 (.gn e g587 (.z 58488 (.pkF e g587 e) e e (.p e (.gn e e (.gn e e (.z 58552 (.pkF e e e) e e (.nil (.condF e e (.exit ?_))))))))))))
    obtain rfl := someO h
    have h := hk578
    exact ⟨_,_,(gh_pk [0,2,6,7] [0,1,2,3,4,5,6] hB e e e e),_,h,e,e⟩
  ·refine Run.so hm (.p e ?_)
   obtain ⟨y601,hy601,h⟩ := bindO h
   refine Ops.z 70648 (Ev.call [] [5,6] 0 (sem_spec_ManifestText _ _ _ hy601) e e (.cons (.agg (.cons (.borrow e (by decide) (lendW (fun _ => e) _ e)) (.d2 (.d1 (.cons (.borrow e (by decide) (lendW (fun _ => e) _ e)) .nil))))) .nil) e (.inr ⟨e,ownL_root trivial⟩) e e) e e ?_
   refine Ops.p e (.p3 e e e (.p e (.nil (.seq (.so hm (.p3 e e e (.p2 e e (.askO (x := .t 92) e h (fun g609 h => ?_) (fun g609 h => ?_)))))))))
   ·refine Ops.gn e g609 (.gn e g609 (.z 74840 (.pkT e g609 e) e e (.p e (.gn e e (.gn e e (.gn e e (.z 74920 (.pkT e e e) e e (.nil (.condT e e (.so hm (.z 78824 (.bd e e) e e (.y 78840 (.sto e e e e e e) e e (.p e (.nil (.ret ?_)))))))))))))))
    obtain rfl := someO h
    exact Ends.mkG (.inl e) e (Gh.trans (Gh.trans (gh_prn [0,1] [] hB e) (gh_nil [0] [] hB e e e)) (gh_pk [0,1] [10000000,10000001] hB e e e e)) e e
   ·refine Ops.gp e g609 e (.gp e g609 e (.z 74840 (.pkF e g609 e) e e (.p e (.askO (x := .t 96) e h (fun g610 h => ?_) (fun g610 h => ?_)))))
    ·refine Ops.gn e g610 (.gn e g610 (.gn e g610 (.z 74920 (.pkT e g610 e) e e (.nil (.condT e e (.so hm (.z 78824 (.bd e e) e e (.y 78840 (.sto e e e e e e) e e (.p e (.nil (.ret ?_)))))))))))
     obtain rfl := someO h
     exact Ends.mkG (.inl e) e (Gh.trans (Gh.trans (gh_prn [0,1] [] hB e) (gh_nil [0] [] hB e e e)) (gh_pk [0,1] [10000000,10000001] hB e e e e)) e e
    ·refine Ops.gp e g610 e (.gp e g610 e (.gp e g610 e (.z 74920 (.pkF e g610 e) e e (.nil (.condO e h (fun g611 h => ?_) (fun g611 h => ?_))))))
     ·refine Run.so hm (.z 78824 (.bd e e) e e (.y 78840 (.sto e e e e e e) e e (.p e (.nil (.ret ?_)))))
      obtain rfl := someO h
      exact Ends.mkG (.inl e) e (Gh.trans (Gh.trans (gh_prn [0,1] [] hB e) (gh_nil [0] [] hB e e e)) (gh_pk [0,1] [10000000,10000001] hB e e e e)) e e
     ·refine Run.skip (.so hm (.p e (.y 82936 (.sto e e e e e e) e e (.p e (.nil (.ret ?_))))))
      obtain rfl := someO h
      exact Ends.mkG (.inl e) e (gh_pk [0,1] [5,6] hB e e e e) e e
def spec_l03Text (N : Nat) (x1 : Disk) (x2 : ByteArray) : Option (ByteArray) :=
 (spec_l03At N x1 x2).bind fun y111 =>
 (if (decide (y111 < 0)) = true then
 some (⟨#[]⟩ : ByteArray)
 else
 (at? x1.Files y111).bind fun x115 =>
 some x115.Text)
theorem sem_spec_l03Text (N : Nat) (x1 : Disk) (x2 : ByteArray) (r : ByteArray) (h : spec_l03Text N x1 x2 = some r) : Says Tryz.prog 57 [.agg [RO 98 (x1.Files.map encFile)],VS x2] 0 [] (VS r) [] := by
 unfold spec_l03Text at h
 refine Says.of_norm e Tryz.call57 e fun B hB => ?_
 have hm : B.m ≤ 1000 := by omega
 refine Run.so hm (.z 1000 (.bx e e) e e (.p e (.nil (.so hm (.p2 e e ?_)))))
 obtain ⟨y111,hy111,h⟩ := bindO h
 refine Ops.z 5128 (Ev.call [] [] 0 (sem_spec_l03At _ _ _ _ hy111) e e (.cons (.agg (.d1 .nil)) (.d1 .nil)) e (.inl e) e e) e e (.p e (.nil (.seq (.so hm (.p2 e e (.nil (.condO e h (fun g113 h => ?_) (fun g113 h => ?_))))))))
 ·refine Run.so hm (.p e (.nil (.ret ?_)))
  obtain rfl := someO h
  exact Ends.mkG (.inl e) e (gh_pk [0] [] hB e e e e) e e
 ·refine Run.skip (.so hm (.p3 e e e ?_))
  obtain ⟨x115,hx115,h⟩ := bindO h
  refine Ops.z 17432 (Ev.iaF e e hx115) e e (.p3 e e e (.nil (.ret ?_)))
  obtain rfl := someO h
  exact Ends.mkG (.inl e) e (gh_pk [0] [] hB e e e e) e e
def spec_Unframe_l1 (N : Nat) (x1 : ByteArray) : Nat → Int → (List ByteArray) → Option (((List ByteArray) × Int) ⊕ (Int × (List ByteArray)))
 | 0,_,_ => none
 | m + 1,x329,x330 =>
 (if (decide (x329 < (x1.size : Int))) = true then
 (spec_ReadVar N x1 x329).bind fun y373 =>
 (if (!y373.2.2) = true then
 some (Sum.inl (x330,x329))
 else
 (if (decide (y373.1 > (w64 ((w64 ((x1.size : Int) - y373.2.1)) - 4)))) = true then
 some (Sum.inl (x330,x329))
 else
 (scut? x1 (w64 (y373.2.1 + 4)) (w64 ((w64 (y373.2.1 + 4)) + y373.1))).bind fun x383 =>
 (spec_Frame N x383).bind fun y387 =>
 (if (!y387.2) = true then
 some (Sum.inl (x330,x329))
 else
 (scut? x1 x329 (w64 ((w64 (y373.2.1 + 4)) + y373.1))).bind fun x396 =>
 (if (!decide (y387.1 = x396)) = true then
 some (Sum.inl (x330,x329))
 else
 (cat? x330 ([x383] : List ByteArray)).bind fun x401 =>
 spec_Unframe_l1 N x1 m (w64 ((w64 (y373.2.1 + 4)) + y373.1)) x401))))
 else
 some (Sum.inr (x329,x330)))
def spec_Unframe (N : Nat) (x1 : ByteArray) : Option ((List ByteArray) × Int) :=
 (if (decide ((x1.size : Int) > 20000)) = true then
 some (([] : List ByteArray),0)
 else
 joinP (fun (v327 : Int × (List ByteArray)) =>
 some (v327.2,v327.1)) fun j327 =>
 (spec_Unframe_l1 N x1 N 0 ([] : List ByteArray)).bind (Sum.elim (fun v365 => some v365) (fun (v366 : Int × (List ByteArray)) => j327 (v366.1,v366.2))))
theorem sem_spec_Unframe (N : Nat) (x1 : ByteArray) (r : (List ByteArray) × Int) (h : spec_Unframe N x1 = some r) : Says Tryz.prog 83 [VS x1] 0 [] (.tup [.sl 0 9 0 r.1.length,VI r.2]) [(0,.vec 9 (r.1.map encS))] := by
 unfold spec_Unframe at h
 refine Says.of_norm e Tryz.call83 e fun B hB => ?_
 have hm : B.m ≤ 1000 := by omega
 refine Run.so hm (.p2 e e (.nil (.so hm (.z 5096 (Ev.bsW (ys := ([] : List ByteArray)) (f := encS) e .nil e e e e e) e e (.p e (.nil (.so hm (.p e (.nil (.seq (.so hm (.p3 e e e (.nil (.condO e h (fun g252 h => ?_) (fun g252 h => ?_)))))))))))))))
 ·refine Run.so hm (.p3 e e e (.nil (.ret ?_)))
  obtain rfl := someO h
  exact Ends.mkG (.inl e) e (gh_pk [0,1] [5096] hB e e e e) e e
 ·refine Run.skip (.seqO h (fun v327 => [(4,.sl 0 9 0 v327.2.length),(5,VI v327.1)]) (fun (v327 : Int × (List ByteArray)) => [(0,.vec 9 (v327.2.map encS))]) (fun h => ?_) (fun v327 h => ?_))
  ·refine Run.block ?_
   obtain ⟨res366,h,hk366⟩ := bindO h
   refine Run.loop (n := N) (fun m366 fr σ => ∃ (x329 : Int),∃ (x330 : (List ByteArray)),spec_Unframe_l1 N x1 m366 x329 x330 = some res366 ∧ fr = [(0,VS x1),(4,.sl 0 9 0 x330.length),(5,VI x329)] ∧ σ = [(0,.vec 9 (x330.map encS))]) (gh_pk [0,4,5] [5096] hB e e e e) ⟨_,_,h,e,e⟩ ?_
   rintro m366 fr σ ⟨x329,x330,h,rfl,rfl⟩
   obtain _ | m366 := m366
   ·rw [spec_Unframe_l1] at h; cases h
   rw [spec_Unframe_l1] at h
   refine Run.seq (.so hm (.p3 e e e (.p e (.nil (.condO e h (fun g369 h => ?_) (fun g369 h => ?_))))))
   ·refine Run.skip (.block (.so hm (.p2 e e ?_)))
    obtain ⟨y373,hy373,h⟩ := bindO h
    refine Ops.z 25608 (Ev.call [] [] 0 (sem_spec_ReadVar _ _ _ _ hy373) e e (.d2 .nil) e (.inl e) e e) e e (.p3 e e e (.p3 e e e (.p e (.nil (.seq (.so hm (.p3 e e e (.askO (x := .t 30) e h (fun g378 h => ?_) (fun g378 h => ?_)))))))))
    ·refine Ops.gn e g378 (.gn e g378 (.gn e g378 (.gn e g378 (.gn e g378 (.gn e g378 (.gn e g378 (.z 29832 (.pkT e g378 e) e e (.nil (.condT e e (.so hm (.p3 e e e (.p e (.nil (.ret ?_))))))))))))))
     obtain rfl := someO h
     have h := hk366
     replace h := inlO h
     obtain rfl := someO h
     exact Ends.mkG (.inl e) e (gh_pk [0,1] [0] hB e e e e) e e
    ·refine Ops.gp e g378 e (.gp e g378 e (.gp e g378 e (.gp e g378 e (.gp e g378 e (.gp e g378 e (.gp e g378 e (.z 29832 (.pkF e g378 e) e e (.nil (.condO e h (fun g379 h => ?_) (fun g379 h => ?_))))))))))
     ·refine Run.so hm (.p3 e e e (.p e (.nil (.ret ?_))))
      obtain rfl := someO h
      have h := hk366
      replace h := inlO h
      obtain rfl := someO h
      exact Ends.mkG (.inl e) e (gh_pk [0,1] [0] hB e e e e) e e
     ·refine Run.skip (.so hm (.p3 e e e (.p3 e e e (.p e ?_))))
      obtain ⟨x383,hx383,h⟩ := bindO h
      refine Ops.z 37976 (Ev.ssB e e e hx383) e e (.p e (.nil (.so hm (.p e ?_))))
      obtain ⟨y387,hy387,h⟩ := bindO h
      refine Ops.z 41976 (Ev.call [] [] 0 (sem_spec_Frame _ _ _ hy387) e e (.d1 .nil) e (.inl e) e e) e e (.p3 e e e (.p2 e e (.nil (.seq (.so hm (.p3 e e e (.askO (x := .t 56) e h (fun g395 h => ?_) (fun g395 h => ?_))))))))
      ·refine Ops.gn e g395 (.gn e g395 (.gn e g395 (.gn e g395 (.gn e g395 (.gn e g395 (.gn e g395 (.gn e g395 (.gn e g395 (.z 46248 (.pkT e g395 e) e e (.nil (.condT e e (.so hm (.p3 e e e (.p e (.nil (.ret ?_))))))))))))))))
       obtain rfl := someO h
       have h := hk366
       replace h := inlO h
       obtain rfl := someO h
       exact Ends.mkG (.inl e) e (gh_pk [0,1] [0] hB e e e e) e e
      ·refine Ops.gp e g395 e (.gp e g395 e (.gp e g395 e (.gp e g395 e (.gp e g395 e (.gp e g395 e (.gp e g395 e ?_))))))
       obtain ⟨x396,hx396,h⟩ := bindO h
       refine Ops.gs (s := 46216) e g395 (Ev.ssB e e e hx396) e e (.gp e g395 e (.z 46248 (.pkF e g395 e) e e (.nil (.condO e h (fun g397 h => ?_) (fun g397 h => ?_)))))
       ·refine Run.so hm (.p3 e e e (.p e (.nil (.ret ?_))))
        obtain rfl := someO h
        have h := hk366
        replace h := inlO h
        obtain rfl := someO h
        exact Ends.mkG (.inl e) e (gh_pk [0,1] [0] hB e e e e) e e
       ·refine Run.skip (.so hm (.p2 e e (.z 54280 (Ev.bsW (ys := ([x383] : List ByteArray)) (f := encS) e (.d1 .nil) e e e e e) e e ?_)))
        obtain ⟨x401,hx401,h⟩ := bindO h
        exact Ops.z 54296 (Ev.apW (f := encS) (ontoW e e e) (addsW e e e (fun _ => e)) e bt9 e hx401) e e (.p e (.nil (.ops hm (.p3 e e e (.p2 e e (.nil (⟨m366,Nat.lt_succ_self m366,_,_,(gh_pk [0,4,5] [54296] hB e e e e),_,_,h,e,e⟩)))))))
   ·refine Run.exit ?_
    obtain rfl := someO h
    have h := hk366
    replace h := inrO h
    exact ⟨_,_,(gh_pk [4,5] [0] hB e e e e),_,h,e,e⟩
  ·refine Run.so hm (.p3 e e e (.p e (.nil (.ret ?_))))
   obtain rfl := someO h
   exact Ends.mkG (.inl e) e (gh_pk [0,1] [0] hB e e e e) e e
def spec_ScanSeg_l1 (N : Nat) (y130 : (List ByteArray) × Int) : Nat → Option (Unit)
 | 0 => none
 | m + 1 =>
 (if (decide (0 < ((y130.1.length : Nat) : Int))) = true then
 none
 else
 some ())
def spec_ScanSeg (N : Nat) (x1 : ByteArray) (x2 : Int) : Option ((List Spot) × (List ByteArray) × Int) :=
 (spec_Unframe N x1).bind fun y130 =>
 joinP (fun (v142 : Unit) =>
 some (([] : List Spot),([] : List ByteArray),(-1 : Int))) fun j142 =>
 (spec_ScanSeg_l1 N y130 N).bind (fun v150 => j142 ())
theorem sem_spec_ScanSeg (N : Nat) (x1 : ByteArray) (x2 : Int) (r : (List Spot) × (List ByteArray) × Int) (h : spec_ScanSeg N x1 x2 = some r) : Says Tryz.prog 123 [VS x1,VI x2] 0 [] (.tup [.sl 0 232 0 r.1.length,.sl 1 9 0 r.2.1.length,VI r.2.2]) [(0,.vec 232 (r.1.map encSpot)),(1,.vec 9 (r.2.1.map encS))] := by
 unfold spec_ScanSeg at h
 refine Says.of_norm e Tryz.call123 e fun B hB => ?_
 have hm : B.m ≤ 1000 := by omega
 refine Run.so hm (.p3 e e e (.nil (.so hm (.z 5096 (Ev.bsW (ys := ([] : List Spot)) (f := encSpot) e .nil e e e e e) e e (.p e (.nil (.so hm (.z 9192 (Ev.bsW (ys := ([] : List ByteArray)) (f := encS) e .nil e e e e e) e e (.p e (.nil (.so hm (.p e (.nil (.so hm (.p e ?_)))))))))))))))
 obtain ⟨y130,hy130,h⟩ := bindO h
 refine Ops.z 17400 (Ev.call [] [] 1 (sem_spec_Unframe _ _ _ hy130) e e (.d1 .nil) e (.inl e) e e) e e (.p3 e e e (.p2 e e (.nil (.so hm (.p e (.nil (.seqO h (fun v142 => [(7,.sl 0 232 0 (([] : List Spot).length)),(8,.sl 1 9 0 (([] : List ByteArray).length)),(9,VI (-1 : Int))]) (fun (v142 : Unit) => [(0,.vec 232 (([] : List Spot).map encSpot)),(1,.vec 9 (([] : List ByteArray).map encS))]) (fun h => ?_) (fun v142 h => ?_))))))))
 ·refine Run.so hm (.p e (.nil (.block ?_)))
  obtain ⟨res150,h,hk150⟩ := bindO h
  refine Run.loop (n := N) (fun m150 fr σ => spec_ScanSeg_l1 N y130 m150 = some res150 ∧ fr = [(7,.sl 0 232 0 (([] : List Spot).length)),(8,.sl 1 9 0 (([] : List ByteArray).length)),(9,VI (-1 : Int)),(10,.sl 2 9 0 y130.1.length),(13,VI 0)] ∧ σ = [(0,.vec 232 (([] : List Spot).map encSpot)),(1,.vec 9 (([] : List ByteArray).map encS)),(2,.vec 9 (y130.1.map encS))]) (gh_pk [7,8,9,10,13] [5096,9192,17400] hB e e e e) ⟨h,e,e⟩ ?_
  rintro m150 fr σ ⟨h,rfl,rfl⟩
  obtain _ | m150 := m150
  ·rw [spec_ScanSeg_l1] at h; cases h
  rw [spec_ScanSeg_l1] at h
  refine Run.seq (.so hm (.p3 e e e (.p e (.nil (.condO e h (fun g153 h => ?_) (fun g153 h => ?_))))))
  ·exact noO h
  ·refine Run.exit ?_
   obtain rfl := someO h
   have h := hk150
   exact ⟨_,_,(gh_pk [7,8,9] [0,1] hB e e e e),(),h,e,e⟩
 ·refine Run.so hm (.p3 e e e (.p3 e e e (.nil (.ret ?_))))
  obtain rfl := someO h
  exact Ends.mkG (.inl e) e (gh_pk [0,1,2] [0,1] hB e e e e) e e
def spec_l08More_l1 (N : Nat) (x2 : (List Spot)) : Nat → Option (Unit)
 | 0 => none
 | m + 1 =>
 (if (decide (0 < (x2.length : Int))) = true then
 none
 else
 some ())
def spec_l08More (N : Nat) (x1 : (List Spot)) (x2 : (List Spot)) : Option ((List Spot)) :=
 (cat? ([] : List Spot) x1).bind fun x126 =>
 joinP (fun (v136 : Unit) =>
 some x126) fun j136 =>
 (spec_l08More_l1 N x2 N).bind (fun v142 => j136 ())
theorem sem_spec_l08More (N : Nat) (x1 : (List Spot)) (x2 : (List Spot)) (r : (List Spot)) (h : spec_l08More N x1 x2 = some r) : Says Tryz.prog 124 [RO 232 (x1.map encSpot),RO 232 (x2.map encSpot)] 0 [] (.sl 0 232 0 r.length) [(0,.vec 232 (r.map encSpot))] := by
 unfold spec_l08More at h
 refine Says.of_norm e Tryz.call124 e fun B hB => ?_
 have hm : B.m ≤ 1000 := by omega
 refine Run.so hm (.p e (.nil (.so hm (.z 5096 (Ev.bsW (ys := ([] : List Spot)) (f := encSpot) e .nil e e e e e) e e (.p e ?_)))))
 obtain ⟨x126,hx126,h⟩ := bindO h
 refine Ops.z 5128 (Ev.apW (f := encSpot) (ontoW e e e) (addsF e) e bt232 e hx126) e e (.p e (.nil (.seqO h (fun v136 => [(5,.sl 0 232 0 x126.length)]) (fun (v136 : Unit) => [(0,.vec 232 (x126.map encSpot))]) (fun h => ?_) (fun v136 h => ?_))))
 ·refine Run.so hm (.p e (.nil (.block ?_)))
  obtain ⟨res142,h,hk142⟩ := bindO h
  refine Run.loop (n := N) (fun m142 fr σ => spec_l08More_l1 N x2 m142 = some res142 ∧ fr = [(1,RO 232 (x2.map encSpot)),(5,.sl 0 232 0 x126.length),(6,VI 0)] ∧ σ = [(0,.vec 232 (x126.map encSpot))]) (gh_pk [1,5,6] [5128] hB e e e e) ⟨h,e,e⟩ ?_
  rintro m142 fr σ ⟨h,rfl,rfl⟩
  obtain _ | m142 := m142
  ·rw [spec_l08More_l1] at h; cases h
  rw [spec_l08More_l1] at h
  refine Run.seq (.so hm (.p2 e e (.z 13320 (Ev.lnF e) e e (.p e (.nil (.condO e h (fun g145 h => ?_) (fun g145 h => ?_)))))))
  ·exact noO h
  ·refine Run.exit ?_
   obtain rfl := someO h
   have h := hk142
   exact ⟨_,_,(gh_pk [5] [0] hB e e e e),(),h,e,e⟩
 ·refine Run.so hm (.p2 e e (.nil (.ret ?_)))
  obtain rfl := someO h
  exact Ends.mkG (.inl e) e (gh_pk [0] [0] hB e e e e) e e
def spec_DirOk_l1 (N : Nat) (x1 : (List Spot)) : Nat → Option (Unit)
 | 0 => none
 | m + 1 =>
 (if (decide (0 < (x1.length : Int))) = true then
 none
 else
 some ())
def spec_DirOk (N : Nat) (x1 : (List Spot)) : Option (Bool) :=
 (if (decide ((x1.length : Int) > 60)) = true then
 some false
 else
 joinP (fun (v129 : Unit) =>
 some true) fun j129 =>
 (spec_DirOk_l1 N x1 N).bind (fun v134 => j129 ()))
theorem sem_spec_DirOk (N : Nat) (x1 : (List Spot)) (r : Bool) (h : spec_DirOk N x1 = some r) : Says Tryz.prog 125 [RO 232 (x1.map encSpot)] 0 [] (VB r) [] := by
 unfold spec_DirOk at h
 refine Says.of_norm e Tryz.call125 e fun B hB => ?_
 have hm : B.m ≤ 1000 := by omega
 refine Run.so hm (.p e (.nil (.seq (.so hm (.p e (.z 5112 (Ev.lnF e) e e (.p e (.nil (.condO e h (fun g120 h => ?_) (fun g120 h => ?_))))))))))
 ·refine Run.so hm (.p e (.nil (.ret ?_)))
  obtain rfl := someO h
  exact Ends.mkG (.inl e) e (gh_pk [0] [] hB e e e e) e e
 ·refine Run.skip (.seqO h (fun v129 => []) (fun (v129 : Unit) => []) (fun h => ?_) (fun v129 h => ?_))
  ·refine Run.so hm (.p e (.nil (.block ?_)))
   obtain ⟨res134,h,hk134⟩ := bindO h
   refine Run.loop (n := N) (fun m134 fr σ => spec_DirOk_l1 N x1 m134 = some res134 ∧ fr = [(0,RO 232 (x1.map encSpot)),(3,VI 0)] ∧ σ = []) (gh_pk [0,3] [] hB e e e e) ⟨h,e,e⟩ ?_
   rintro m134 fr σ ⟨h,rfl,rfl⟩
   obtain _ | m134 := m134
   ·rw [spec_DirOk_l1] at h; cases h
   rw [spec_DirOk_l1] at h
   refine Run.seq (.so hm (.p2 e e (.z 17416 (Ev.lnF e) e e (.p e (.nil (.condO e h (fun g137 h => ?_) (fun g137 h => ?_)))))))
   ·exact noO h
   ·refine Run.exit ?_
    obtain rfl := someO h
    have h := hk134
    exact ⟨_,_,(gh_pk [] [] hB e e e e),(),h,e,e⟩
  ·refine Run.so hm (.p e (.nil (.ret ?_)))
   obtain rfl := someO h
   exact Ends.mkG (.inl e) e (gh_pk [0] [] hB e e e e) e e
def spec_l09Load_l1 (N : Nat) (x1 : Disk) (y1579 : Manifest × Bool) : Nat → Int → Option ((Shelf × Int × Int) ⊕ (Unit))
 | 0,_ => none
 | m + 1,x1641 =>
 (if (decide (x1641 < ((y1579.1.Segs.length : Nat) : Int))) = true then
 (at? y1579.1.Segs x1641).bind fun x1691 =>
 (spec_SegName N x1691).bind fun y1692 =>
 (spec_l03At N x1 y1692).bind fun y1693 =>
 (if (decide (y1693 < 0)) = true then
 some (Sum.inl ((Shelf.mk (Manifest.mk ([]) 0 0 0 ([])) ([]) 0),0,3))
 else
 spec_l09Load_l1 N x1 y1579 m (w64 (x1641 + 1)))
 else
 some (Sum.inr ()))
def spec_l09Load_l3 (N : Nat) (y2886 : (List Spot) × (List ByteArray) × Int) : Nat → Int → Int → Option (Int)
 | 0,_,_ => none
 | m + 1,x2951,x2955 =>
 (if (decide (x2955 < ((y2886.2.1.length : Nat) : Int))) = true then
 (at? y2886.2.1 x2955).bind fun x3012 =>
 (spec_Frame N x3012).bind fun y3013 =>
 spec_l09Load_l3 N y2886 m (w64 (x2951 + (y3013.1.size : Int))) (w64 (x2955 + 1))
 else
 some x2951)
def spec_l09Load_l2 (N : Nat) (x1 : Disk) (y1579 : Manifest × Bool) : Nat → Int → Int → Int → (List Spot) → Option ((Shelf × Int × Int) ⊕ (Int × Int × (List Spot)))
 | 0,_,_,_,_ => none
 | m + 1,x2361,x2362,x2374,x2380 =>
 (if (decide (x2362 < ((y1579.1.Segs.length : Nat) : Int))) = true then
 joinP (fun (v2866 : Int × Int × (List Spot)) =>
 spec_l09Load_l2 N x1 y1579 m v2866.1 (w64 (x2362 + 1)) v2866.2.1 v2866.2.2) fun j2866 =>
 (at? y1579.1.Segs x2362).bind fun x2876 =>
 (spec_SegName N x2876).bind fun y2877 =>
 (spec_l03Text N x1 y2877).bind fun y2878 =>
 (at? y1579.1.Segs x2362).bind fun x2885 =>
 (spec_ScanSeg N y2878 x2885).bind fun y2886 =>
 joinP (fun (v2950 : Int) =>
 joinP (fun (v3017 : Unit) =>
 (spec_l08More N x2380 y2886.1).bind fun y3024 =>
 (if (decide (y2886.2.2 > x2374)) = true then
 j2866 (v2950,y2886.2.2,y3024)
 else
 j2866 (v2950,x2374,y3024))) fun j3017 =>
 (if (decide (v2950 < (y2878.size : Int))) = true then
 (if (decide ((w64 (x2362 + 1)) < ((y1579.1.Segs.length : Nat) : Int))) = true then
 some (Sum.inl ((Shelf.mk (Manifest.mk ([]) 0 0 0 ([])) ([]) 0),0,4))
 else
 j3017 ())
 else
 j3017 ())) fun j2950 =>
 (spec_l09Load_l3 N y2886 N 0 0).bind (fun v2994 => j2950 v2994)
 else
 some (Sum.inr (x2361,x2374,x2380)))
def spec_l09Load (N : Nat) (x1 : Disk) : Option (Shelf × Int × Int) :=
 (spec_DiskOk N x1).bind fun y1570 =>
 (if (!y1570) = true then
 some ((Shelf.mk (Manifest.mk ([]) 0 0 0 ([])) ([]) 0),0,1)
 else
 (spec_FileAt N x1 (⟨#[109]⟩ : ByteArray)).bind fun y1575 =>
 (spec_ReadManifest N y1575.1).bind fun y1579 =>
 (if (!y1575.2) = true then
 some ((Shelf.mk (Manifest.mk ([]) 0 0 0 ([])) ([]) 0),0,2)
 else
 (if (!y1579.2) = true then
 some ((Shelf.mk (Manifest.mk ([]) 0 0 0 ([])) ([]) 0),0,2)
 else
 joinP (fun (v1640 : Unit) =>
 joinP (fun (v2360 : Int × Int × (List Spot)) =>
 (spec_DirOk N v2360.2.2).bind fun y3030 =>
 (if (!y3030) = true then
 some ((Shelf.mk (Manifest.mk ([]) 0 0 0 ([])) ([]) 0),0,4)
 else
 some ((Shelf.mk y1579.1 v2360.2.2 v2360.2.1),v2360.1,0))) fun j2360 =>
 (spec_l09Load_l2 N x1 y1579 N 0 0 y1579.1.Base ([] : (List Spot))).bind (Sum.elim (fun v2702 => some v2702) (fun (v2703 : Int × Int × (List Spot)) => j2360 (v2703.1,v2703.2.1,v2703.2.2)))) fun j1640 =>
 (spec_l09Load_l1 N x1 y1579 N 0).bind (Sum.elim (fun v1676 => some v1676) (fun (v1677 : Unit) => j1640 ())))))
theorem sem_spec_l09Load (N : Nat) (x1 : Disk) (r : Shelf × Int × Int) (h : spec_l09Load N x1 = some r) : Says Tryz.prog 79 [.agg [RO 98 (x1.Files.map encFile)]] 0 [] (.tup [.agg [.sl 0 3 0 r.1.Man.Segs.length,VI r.1.Man.Next,VI r.1.Man.Base,VI r.1.Man.BaseTerm,.sl 1 3 0 r.1.Man.Conf.length,.sl 2 232 0 r.1.Dir.length,VI r.1.Stamp],VI r.2.1,VI r.2.2]) [(0,.vec 3 (r.1.Man.Segs.map encI)),(1,.vec 3 (r.1.Man.Conf.map encI)),(2,.vec 232 (r.1.Dir.map encSpot))] := by
 unfold spec_l09Load at h
 refine Says.of_norm e Tryz.call79 e fun B hB => ?_
 have hm : B.m ≤ 1000 := by omega
 refine Run.so hm (.z 1000 (.bx e e) e e (.z 1016 (.al e e) e e (.p2 e e (.nil (.seq (.so hm (.p e ?_)))))))
 obtain ⟨y1570,hy1570,h⟩ := bindO h
 refine Ops.z 5112 (Ev.call [] [] 0 (sem_spec_DiskOk _ _ _ hy1570) e e (.cons (.agg (.d1 .nil)) .nil) e (.inl e) e e) e e (.p e (.nil (.condO e h (fun g1571 h => ?_) (fun g1571 h => ?_))))
 ·refine Run.so hm (.z 9192 (.bd e e) e e (.y 9208 (.sto e e e e e e) e e (.p2 e e (.nil (.ret ?_)))))
  obtain rfl := someO h
  exact Ends.mkG (.inl e) e (Gh.trans (Gh.trans (gh_prn [0,1,2] [] hB e) (gh_nil [0] [] hB e e e)) (gh_pk [0,1,2] [10000000,10000001,10000002] hB e e e e)) e e
 ·refine Run.skip (.so hm (.p e ?_))
  obtain ⟨y1575,hy1575,h⟩ := bindO h
  refine Ops.z 13304 (Ev.call [] [] 0 (sem_spec_FileAt _ _ _ _ hy1575) e e (.cons (.agg (.d1 .nil)) (.d1 .nil)) e (.inl e) e e) e e (.p3 e e e (.p2 e e (.nil (.so hm (.p e ?_)))))
  obtain ⟨y1579,hy1579,h⟩ := bindO h
  refine Ops.z 17400 (Ev.call [] [] 2 (sem_spec_ReadManifest _ _ _ hy1579) e e (.d1 .nil) e (.inl e) e e) e e (.p3 e e e (.z 17464 (.al e e) e e (.y 17480 (.sto e e e e e e) e e (.p e (.nil (.seq (.so hm (.p3 e e e (.askO (x := .t 36) e h (fun g1584 h => ?_) (fun g1584 h => ?_))))))))))
  ·refine Ops.gn e g1584 (.gn e g1584 (.z 21560 (.pkT e g1584 e) e e (.nil (.condT e e (.so hm (.z 25576 (.bd e e) e e (.y 25592 (.sto e e e e e e) e e (.p2 e e (.nil (.ret ?_))))))))))
   obtain rfl := someO h
   exact Ends.mkG (.inl e) e (Gh.trans (Gh.trans (gh_prn [0,1,2] [] hB e) (gh_nil [0] [] hB e e e)) (gh_pk [0,1,2] [10000000,10000001,10000002] hB e e e e)) e e
  ·refine Ops.gp e g1584 e (.gp e g1584 e (.z 21560 (.pkF e g1584 e) e e (.nil (.condO e h (fun g1585 h => ?_) (fun g1585 h => ?_)))))
   ·refine Run.so hm (.z 25576 (.bd e e) e e (.y 25592 (.sto e e e e e e) e e (.p2 e e (.nil (.ret ?_)))))
    obtain rfl := someO h
    exact Ends.mkG (.inl e) e (Gh.trans (Gh.trans (gh_prn [0,1,2] [] hB e) (gh_nil [0] [] hB e e e)) (gh_pk [0,1,2] [10000000,10000001,10000002] hB e e e e)) e e
   ·refine Run.skip (.so hm (.p3 e e e (.z 29720 (.bd e e) e e (.z 29736 (.al e e) e e (.y 29752 (.sto e e e e e e) e e (.nil (.seqO h (fun v1640 => [(1,.ptr 0 0),(2,.ptr 1 0),(7,.ptr 2 0),(9,.ptr 3 0)]) (fun (v1640 : Unit) => [(0,.box [RO 98 (x1.Files.map encFile)]),(1,.box [.sl 4 3 0 (([] : (List Int)).length),VI 0,VI 0,VI 0,.sl 5 3 0 (([] : (List Int)).length),.sl 6 232 0 (([] : (List Spot)).length),VI 0]),(2,.box [.sl 7 3 0 y1579.1.Segs.length,VI y1579.1.Next,VI y1579.1.Base,VI y1579.1.BaseTerm,.sl 8 3 0 y1579.1.Conf.length]),(3,.box [.sl 7 3 0 y1579.1.Segs.length,VI y1579.1.Next,VI y1579.1.Base,VI y1579.1.BaseTerm,.sl 8 3 0 y1579.1.Conf.length,.sl 9 232 0 (([] : (List Spot)).length),VI y1579.1.Base]),(4,.vec 3 (([] : (List Int)).map encI)),(5,.vec 3 (([] : (List Int)).map encI)),(6,.vec 232 (([] : (List Spot)).map encSpot)),(7,.vec 3 (y1579.1.Segs.map encI)),(8,.vec 3 (y1579.1.Conf.map encI)),(9,.vec 232 (([] : (List Spot)).map encSpot))]) (fun h => ?_) (fun v1640 h => ?_))))))))
    ·refine Run.so hm (.p e (.nil (.block ?_)))
     obtain ⟨res1677,h,hk1677⟩ := bindO h
     refine Run.loop (n := N) (fun m1677 fr σ => ∃ (x1641 : Int),spec_l09Load_l1 N x1 y1579 m1677 x1641 = some res1677 ∧ fr = [(1,.ptr 0 0),(2,.ptr 1 0),(7,.ptr 2 0),(9,.ptr 3 0),(10,VI x1641)] ∧ σ = [(0,.box [RO 98 (x1.Files.map encFile)]),(1,.box [.sl 4 3 0 (([] : (List Int)).length),VI 0,VI 0,VI 0,.sl 5 3 0 (([] : (List Int)).length),.sl 6 232 0 (([] : (List Spot)).length),VI 0]),(2,.box [.sl 7 3 0 y1579.1.Segs.length,VI y1579.1.Next,VI y1579.1.Base,VI y1579.1.BaseTerm,.sl 8 3 0 y1579.1.Conf.length]),(3,.box [.sl 7 3 0 y1579.1.Segs.length,VI y1579.1.Next,VI y1579.1.Base,VI y1579.1.BaseTerm,.sl 8 3 0 y1579.1.Conf.length,.sl 9 232 0 (([] : (List Spot)).length),VI y1579.1.Base]),(4,.vec 3 (([] : (List Int)).map encI)),(5,.vec 3 (([] : (List Int)).map encI)),(6,.vec 232 (([] : (List Spot)).map encSpot)),(7,.vec 3 (y1579.1.Segs.map encI)),(8,.vec 3 (y1579.1.Conf.map encI)),(9,.vec 232 (([] : (List Spot)).map encSpot))]) (Gh.trans (Gh.trans (gh_prn [1,2,7,9,10] [1000,1016,17464,29736,17400,17401] hB e) (gh_nil [] [1016,29736] hB e e e)) (gh_pk [1,2,7,9,10] [1000,1016,17464,29736,20000000,20000001,20000002,17400,17401,20000064] hB e e e e)) ⟨_,h,e,e⟩ ?_
     rintro m1677 fr σ ⟨x1641,h,rfl,rfl⟩
     obtain _ | m1677 := m1677
     ·rw [spec_l09Load_l1] at h; cases h
     rw [spec_l09Load_l1] at h
     refine Run.seq (.so hm (.p3 e e e (.p2 e e (.nil (.condO e h (fun g1680 h => ?_) (fun g1680 h => ?_))))))
     ·refine Run.skip (.seq (.block (.seq (.draw hm hmix (.p e (.p e (.p e (.p e ?_))))))))
      obtain ⟨x1691,hx1691,h⟩ := bindO h
      refine OpsD.z 46120 (Ev.iaW e e e hx1691) e e (.z 46136 (Ev.ldE (f := encI) e e (at_some hx1691).2 e e e) e e ?_)
      obtain ⟨y1692,hy1692,h⟩ := bindO h
      refine OpsD.z 46152 (Ev.call [] [] 0 (sem_spec_SegName _ _ _ hy1692) e e (.d1 .nil) e (.inl e) e e) e e ?_
      obtain ⟨y1693,hy1693,h⟩ := bindO h
      refine OpsD.z 46168 (Ev.call [] [] 0 (sem_spec_l03At _ _ _ _ hy1693) e e (.cons (.agg (.d1 .nil)) (.d1 .nil)) e (.inl e) e e) e e (.p e (.nil ⟨by kernel_rfl,?_⟩))
      refine Run.condO e h (fun g1694 h => ?_) (fun g1694 h => ?_)
      ·refine Run.so hm (.z 50152 (.bd e e) e e (.y 50168 (.sto e e e e e e) e e (.p2 e e (.nil (.ret ?_)))))
       obtain rfl := someO h
       have h := hk1677
       replace h := inlO h
       obtain rfl := someO h
       exact Ends.mkG (.inl e) e (Gh.trans (Gh.trans (gh_prn [0,1,2] [] hB e) (gh_nil [0] [] hB e e e)) (gh_pk [0,1,2] [10000000,10000001,10000002] hB e e e e)) e e
      ·exact Run.skip (.ops hm (.p3 e e e (.nil (⟨m1677,Nat.lt_succ_self m1677,_,_,(gh_pk [1,2,7,9,10] [0,1,2,3,4,5,6,7,8,9] hB e e e e),_,h,e,e⟩))))
     ·refine Run.exit ?_
      obtain rfl := someO h
      have h := hk1677
      replace h := inrO h
      exact ⟨_,_,(gh_pk [1,2,7,9] [0,1,2,3,4,5,6,7,8,9] hB e e e e),(),h,e,e⟩
    ·refine Run.so hm (.p e (.nil (.seqO h (fun v2360 => [(2,.ptr 0 0),(9,.ptr 1 0),(11,VI v2360.1)]) (fun (v2360 : Int × Int × (List Spot)) => [(0,.box [.sl 2 3 0 (([] : (List Int)).length),VI 0,VI 0,VI 0,.sl 3 3 0 (([] : (List Int)).length),.sl 4 232 0 (([] : (List Spot)).length),VI 0]),(1,.box [.sl 5 3 0 y1579.1.Segs.length,VI y1579.1.Next,VI y1579.1.Base,VI y1579.1.BaseTerm,.sl 6 3 0 y1579.1.Conf.length,.sl 7 232 0 v2360.2.2.length,VI v2360.2.1]),(2,.vec 3 (([] : (List Int)).map encI)),(3,.vec 3 (([] : (List Int)).map encI)),(4,.vec 232 (([] : (List Spot)).map encSpot)),(5,.vec 3 (y1579.1.Segs.map encI)),(6,.vec 3 (y1579.1.Conf.map encI)),(7,.vec 232 (v2360.2.2.map encSpot))]) (fun h => ?_) (fun v2360 h => ?_))))
     ·refine Run.so hm (.p e (.nil (.block ?_)))
      obtain ⟨res2703,h,hk2703⟩ := bindO h
      refine Run.loop (n := N) (fun m2703 fr σ => ∃ (x2361 : Int),∃ (x2362 : Int),∃ (x2374 : Int),∃ (x2380 : (List Spot)),spec_l09Load_l2 N x1 y1579 m2703 x2361 x2362 x2374 x2380 = some res2703 ∧ fr = [(1,.ptr 0 0),(2,.ptr 1 0),(7,.ptr 2 0),(9,.ptr 3 0),(11,VI x2361),(12,VI x2362)] ∧ σ = [(0,.box [RO 98 (x1.Files.map encFile)]),(1,.box [.sl 4 3 0 (([] : (List Int)).length),VI 0,VI 0,VI 0,.sl 5 3 0 (([] : (List Int)).length),.sl 6 232 0 (([] : (List Spot)).length),VI 0]),(2,.box [.sl 7 3 0 y1579.1.Segs.length,VI y1579.1.Next,VI y1579.1.Base,VI y1579.1.BaseTerm,.sl 8 3 0 y1579.1.Conf.length]),(3,.box [.sl 7 3 0 y1579.1.Segs.length,VI y1579.1.Next,VI y1579.1.Base,VI y1579.1.BaseTerm,.sl 8 3 0 y1579.1.Conf.length,.sl 9 232 0 x2380.length,VI x2374]),(4,.vec 3 (([] : (List Int)).map encI)),(5,.vec 3 (([] : (List Int)).map encI)),(6,.vec 232 (([] : (List Spot)).map encSpot)),(7,.vec 3 (y1579.1.Segs.map encI)),(8,.vec 3 (y1579.1.Conf.map encI)),(9,.vec 232 (x2380.map encSpot))]) (gh_pk [1,2,7,9,11,12] [0,1,2,3,4,5,6,7,8,9] hB e e e e) ⟨_,_,_,_,h,e,e⟩ ?_
      rintro m2703 fr σ ⟨x2361,x2362,x2374,x2380,h,rfl,rfl⟩
      obtain _ | m2703 := m2703
      ·rw [spec_l09Load_l2] at h; cases h
      rw [spec_l09Load_l2] at h
      refine Run.seq (.so hm (.p3 e e e (.p2 e e (.nil (.condO e h (fun g2706 h => ?_) (fun g2706 h => ?_))))))
      ·refine Run.skip (.seqO h (fun v2866 => [(1,.ptr 0 0),(2,.ptr 1 0),(7,.ptr 2 0),(9,.ptr 3 0),(11,VI v2866.1),(12,VI x2362)]) (fun (v2866 : Int × Int × (List Spot)) => [(0,.box [RO 98 (x1.Files.map encFile)]),(1,.box [.sl 4 3 0 (([] : (List Int)).length),VI 0,VI 0,VI 0,.sl 5 3 0 (([] : (List Int)).length),.sl 6 232 0 (([] : (List Spot)).length),VI 0]),(2,.box [.sl 7 3 0 y1579.1.Segs.length,VI y1579.1.Next,VI y1579.1.Base,VI y1579.1.BaseTerm,.sl 8 3 0 y1579.1.Conf.length]),(3,.box [.sl 7 3 0 y1579.1.Segs.length,VI y1579.1.Next,VI y1579.1.Base,VI y1579.1.BaseTerm,.sl 8 3 0 y1579.1.Conf.length,.sl 9 232 0 v2866.2.2.length,VI v2866.2.1]),(4,.vec 3 (([] : (List Int)).map encI)),(5,.vec 3 (([] : (List Int)).map encI)),(6,.vec 232 (([] : (List Spot)).map encSpot)),(7,.vec 3 (y1579.1.Segs.map encI)),(8,.vec 3 (y1579.1.Conf.map encI)),(9,.vec 232 (v2866.2.2.map encSpot))]) (fun h => ?_) (fun v2866 h => ?_))
       ·refine Run.block (.seq (.draw hm hmix (.p e (.p e (.p e (.p e ?_))))))
        obtain ⟨x2876,hx2876,h⟩ := bindO h
        refine OpsD.z 70696 (Ev.iaW e e e hx2876) e e (.z 70712 (Ev.ldE (f := encI) e e (at_some hx2876).2 e e e) e e ?_)
        obtain ⟨y2877,hy2877,h⟩ := bindO h
        refine OpsD.z 70728 (Ev.call [] [] 0 (sem_spec_SegName _ _ _ hy2877) e e (.d1 .nil) e (.inl e) e e) e e ?_
        obtain ⟨y2878,hy2878,h⟩ := bindO h
        refine OpsD.z 70744 (Ev.call [] [] 0 (sem_spec_l03Text _ _ _ _ hy2878) e e (.cons (.agg (.d1 .nil)) (.d1 .nil)) e (.inl e) e e) e e (.p e (.nil ⟨by kernel_rfl,?_⟩))
        refine Run.so hm (.p3 e e e (.p e ?_))
        obtain ⟨x2885,hx2885,h⟩ := bindO h
        refine Ops.z 74792 (Ev.iaW e e e hx2885) e e (.z 74808 (Ev.ldE (f := encI) e e (at_some hx2885).2 e e e) e e ?_)
        obtain ⟨y2886,hy2886,h⟩ := bindO h
        refine Ops.z 74824 (Ev.call [] [] 2 (sem_spec_ScanSeg _ _ _ _ hy2886) e e (.d2 .nil) e (.inl e) e e) e e (.p3 e e e (.p3 e e e (.p e (.nil (.so hm (.p e (.nil (.seqO h (fun v2950 => [(1,.ptr 0 0),(2,.ptr 1 0),(7,.ptr 2 0),(9,.ptr 3 0),(11,VI v2950),(12,VI x2362),(13,VS y2878),(14,.sl 4 232 0 y2886.1.length),(16,VI y2886.2.2)]) (fun (v2950 : Int) => [(0,.box [RO 98 (x1.Files.map encFile)]),(1,.box [.sl 5 3 0 (([] : (List Int)).length),VI 0,VI 0,VI 0,.sl 6 3 0 (([] : (List Int)).length),.sl 7 232 0 (([] : (List Spot)).length),VI 0]),(2,.box [.sl 8 3 0 y1579.1.Segs.length,VI y1579.1.Next,VI y1579.1.Base,VI y1579.1.BaseTerm,.sl 9 3 0 y1579.1.Conf.length]),(3,.box [.sl 8 3 0 y1579.1.Segs.length,VI y1579.1.Next,VI y1579.1.Base,VI y1579.1.BaseTerm,.sl 9 3 0 y1579.1.Conf.length,.sl 10 232 0 x2380.length,VI x2374]),(4,.vec 232 (y2886.1.map encSpot)),(5,.vec 3 (([] : (List Int)).map encI)),(6,.vec 3 (([] : (List Int)).map encI)),(7,.vec 232 (([] : (List Spot)).map encSpot)),(8,.vec 3 (y1579.1.Segs.map encI)),(9,.vec 3 (y1579.1.Conf.map encI)),(10,.vec 232 (x2380.map encSpot))]) (fun h => ?_) (fun v2950 h => ?_)))))))))
        ·refine Run.so hm (.p e (.nil (.block ?_)))
         obtain ⟨res2994,h,hk2994⟩ := bindO h
         refine Run.loop (n := N) (fun m2994 fr σ => ∃ (x2951 : Int),∃ (x2955 : Int),spec_l09Load_l3 N y2886 m2994 x2951 x2955 = some res2994 ∧ fr = [(1,.ptr 0 0),(2,.ptr 1 0),(7,.ptr 2 0),(9,.ptr 3 0),(11,VI x2951),(12,VI x2362),(13,VS y2878),(14,.sl 4 232 0 y2886.1.length),(15,.sl 5 9 0 y2886.2.1.length),(16,VI y2886.2.2),(17,VI x2955)] ∧ σ = [(0,.box [RO 98 (x1.Files.map encFile)]),(1,.box [.sl 6 3 0 (([] : (List Int)).length),VI 0,VI 0,VI 0,.sl 7 3 0 (([] : (List Int)).length),.sl 8 232 0 (([] : (List Spot)).length),VI 0]),(2,.box [.sl 9 3 0 y1579.1.Segs.length,VI y1579.1.Next,VI y1579.1.Base,VI y1579.1.BaseTerm,.sl 10 3 0 y1579.1.Conf.length]),(3,.box [.sl 9 3 0 y1579.1.Segs.length,VI y1579.1.Next,VI y1579.1.Base,VI y1579.1.BaseTerm,.sl 10 3 0 y1579.1.Conf.length,.sl 11 232 0 x2380.length,VI x2374]),(4,.vec 232 (y2886.1.map encSpot)),(5,.vec 9 (y2886.2.1.map encS)),(6,.vec 3 (([] : (List Int)).map encI)),(7,.vec 3 (([] : (List Int)).map encI)),(8,.vec 232 (([] : (List Spot)).map encSpot)),(9,.vec 3 (y1579.1.Segs.map encI)),(10,.vec 3 (y1579.1.Conf.map encI)),(11,.vec 232 (x2380.map encSpot))]) (gh_pk [1,2,7,9,11,12,13,14,15,16,17] [0,1,2,3,74824,74825,4,5,6,7,8,9] hB e e e e) ⟨_,_,h,e,e⟩ ?_
         rintro m2994 fr σ ⟨x2951,x2955,h,rfl,rfl⟩
         obtain _ | m2994 := m2994
         ·rw [spec_l09Load_l3] at h; cases h
         rw [spec_l09Load_l3] at h
         refine Run.seq (.so hm (.p3 e e e (.p e (.nil (.condO e h (fun g2997 h => ?_) (fun g2997 h => ?_))))))
         ·refine Run.skip (.seq (.block (.so hm (.p2 e e ?_))))
          obtain ⟨x3012,hx3012,h⟩ := bindO h
          refine Ops.z 95240 (Ev.iaW e e e hx3012) e e (.z 95256 (Ev.ldE (f := encS) e e (at_some hx3012).2 e e e) e e ?_)
          obtain ⟨y3013,hy3013,h⟩ := bindO h
          exact Ops.z 95272 (Ev.call [] [] 0 (sem_spec_Frame _ _ _ hy3013) e e (.d1 .nil) e (.inl e) e e) e e (.p3 e e e (.p2 e e (.nil (.ops hm (.p3 e e e (.p2 e e (.nil (.ops hm (.p3 e e e (.nil (⟨m2994,Nat.lt_succ_self m2994,_,_,(gh_pk [1,2,7,9,11,12,13,14,15,16,17] [0,1,2,3,4,5,6,7,8,9,10,11] hB e e e e),_,_,h,e,e⟩)))))))))))
         ·refine Run.exit ?_
          obtain rfl := someO h
          have h := hk2994
          exact ⟨_,_,(gh_pk [1,2,7,9,11,12,13,14,16] [0,1,2,3,4,6,7,8,9,10,11] hB e e e e),_,h,e,e⟩
        ·refine Run.seqO h (fun v3017 => [(1,.ptr 0 0),(2,.ptr 1 0),(7,.ptr 2 0),(9,.ptr 3 0),(11,VI v2950),(12,VI x2362),(14,.sl 4 232 0 y2886.1.length),(16,VI y2886.2.2)]) (fun (v3017 : Unit) => [(0,.box [RO 98 (x1.Files.map encFile)]),(1,.box [.sl 5 3 0 (([] : (List Int)).length),VI 0,VI 0,VI 0,.sl 6 3 0 (([] : (List Int)).length),.sl 7 232 0 (([] : (List Spot)).length),VI 0]),(2,.box [.sl 8 3 0 y1579.1.Segs.length,VI y1579.1.Next,VI y1579.1.Base,VI y1579.1.BaseTerm,.sl 9 3 0 y1579.1.Conf.length]),(3,.box [.sl 8 3 0 y1579.1.Segs.length,VI y1579.1.Next,VI y1579.1.Base,VI y1579.1.BaseTerm,.sl 9 3 0 y1579.1.Conf.length,.sl 10 232 0 x2380.length,VI x2374]),(4,.vec 232 (y2886.1.map encSpot)),(5,.vec 3 (([] : (List Int)).map encI)),(6,.vec 3 (([] : (List Int)).map encI)),(7,.vec 232 (([] : (List Spot)).map encSpot)),(8,.vec 3 (y1579.1.Segs.map encI)),(9,.vec 3 (y1579.1.Conf.map encI)),(10,.vec 232 (x2380.map encSpot))]) (fun h => ?_) (fun v3017 h => ?_)
         ·refine Run.so hm (.p3 e e e (.p2 e e (.askO (x := .t 110) e h (fun g3019 h => ?_) (fun g3019 h => ?_))))
          ·refine Ops.gp e g3019 e (.gp e g3019 e (.gp e g3019 e (.gp e g3019 e (.gp e g3019 e (.gp e g3019 e (.z 103576 (.pkT e g3019 e) e e (.nil (.condO e h (fun g3020 h => ?_) (fun g3020 h => ?_)))))))))
           ·refine Run.so hm (.z 107496 (.bd e e) e e (.y 107512 (.sto e e e e e e) e e (.p2 e e (.nil (.ret ?_)))))
            obtain rfl := someO h
            have h := hk2703
            replace h := inlO h
            obtain rfl := someO h
            exact Ends.mkG (.inl e) e (Gh.trans (Gh.trans (gh_prn [0,1,2] [] hB e) (gh_nil [0] [] hB e e e)) (gh_pk [0,1,2] [10000000,10000001,10000002] hB e e e e)) e e
           ·exact Run.skip (⟨_,_,(gh_pk [1,2,7,9,11,12,14,16] [0,1,2,3,4,5,6,7,8,9,10] hB e e e e),(),h,e,e⟩)
          ·exact Ops.gn e g3019 (.gn e g3019 (.gn e g3019 (.gn e g3019 (.gn e g3019 (.gn e g3019 (.z 103576 (.pkF e g3019 e) e e (.nil (.condF e e (.skip (⟨_,_,(gh_pk [1,2,7,9,11,12,14,16] [0,1,2,3,4,5,6,7,8,9,10] hB e e e e),(),h,e,e⟩))))))))))
         ·refine Run.so hm (.p3 e e e ?_)
          obtain ⟨y3024,hy3024,h⟩ := bindO h
          refine Ops.z 111640 (Ev.call [] [10,4] 1 (sem_spec_l08More _ _ _ _ hy3024) e e (.cons (.borrow e (by decide) (lendW (fun _ => e) _ e)) (.cons (.borrow e (by decide) (lendW (fun _ => e) _ e)) .nil)) e (.inr ⟨e,ownL_root ⟨own_rows (fun _ => e) _,trivial⟩⟩) e e) e e ?_
          refine Ops.p e (.y 111672 (.sto e e e e e e) e e (.nil (.so hm (.p3 e e e (.p e (.nil (.condO e h (fun g3025 h => ?_) (fun g3025 h => ?_))))))))
          ·exact Run.ops hm (.p2 e e (.y 119816 (.sto e e e e e e) e e (.nil (⟨_,_,(gh_pk [1,2,7,9,11,12] [0,1,2,3,5,6,7,8,9,111640] hB e e e e),_,h,e,e⟩))))
          ·exact Run.skip (⟨_,_,(gh_pk [1,2,7,9,11,12] [0,1,2,3,5,6,7,8,9,111640] hB e e e e),_,h,e,e⟩)
       ·exact Run.ops hm (.p3 e e e (.nil (⟨m2703,Nat.lt_succ_self m2703,_,_,(gh_pk [1,2,7,9,11,12] [0,1,2,3,4,5,6,7,8,9] hB e e e e),_,_,_,_,h,e,e⟩)))
      ·refine Run.exit ?_
       obtain rfl := someO h
       have h := hk2703
       replace h := inrO h
       exact ⟨_,_,(gh_pk [2,9,11] [1,3,4,5,6,7,8,9] hB e e e e),_,h,e,e⟩
     ·refine Run.seq (.so hm (.p2 e e ?_))
      obtain ⟨y3030,hy3030,h⟩ := bindO h
      refine Ops.z 123912 (Ev.call [] [7] 0 (sem_spec_DirOk _ _ _ hy3030) e e (.cons (.borrow e (by decide) (lendW (fun _ => e) _ e)) .nil) e (.inr ⟨e,ownL_root trivial⟩) e e) e e ?_
      refine Ops.p e (.nil (.condO e h (fun g3031 h => ?_) (fun g3031 h => ?_)))
      ·refine Run.so hm (.z 127976 (.bd e e) e e (.y 127992 (.sto e e e e e e) e e (.p2 e e (.nil (.ret ?_)))))
       obtain rfl := someO h
       exact Ends.mkG (.inl e) e (Gh.trans (Gh.trans (gh_prn [0,1,2] [] hB e) (gh_nil [0] [] hB e e e)) (gh_pk [0,1,2] [10000000,10000001,10000002] hB e e e e)) e e
      ·refine Run.skip (.so hm (.p2 e e (.y 132104 (.sto e e e e e e) e e (.p2 e e (.nil (.ret ?_))))))
       obtain rfl := someO h
       exact Ends.mkG (.inl e) e (gh_pk [0,1,2] [5,6,7] hB e e e e) e e
def spec_l09Seg (N : Nat) (x1 : ByteArray) : Option (Int) :=
 (if (decide ((x1.size : Int) < 2)) = true then
 some (-1 : Int)
 else
 (sdrop? x1 1).bind fun x128 =>
 (spec_ReadDecimal N x128).bind fun y129 =>
 (if (!y129.2) = true then
 some (-1 : Int)
 else
 (spec_SegName N y129.1).bind fun y138 =>
 (if (!decide (y138 = x1)) = true then
 some (-1 : Int)
 else
 some y129.1)))
theorem sem_spec_l09Seg (N : Nat) (x1 : ByteArray) (r : Int) (h : spec_l09Seg N x1 = some r) : Says Tryz.prog 80 [VS x1] 0 [] (VI r) [] := by
 unfold spec_l09Seg at h
 refine Says.of_norm e Tryz.call80 e fun B hB => ?_
 have hm : B.m ≤ 1000 := by omega
 refine Run.so hm (.p e (.nil (.seq (.so hm (.p3 e e e (.nil (.condO e h (fun g121 h => ?_) (fun g121 h => ?_))))))))
 ·refine Run.so hm (.p e (.nil (.ret ?_)))
  obtain rfl := someO h
  exact Ends.mkG (.inl e) e (gh_pk [0] [] hB e e e e) e e
 ·refine Run.skip (.so hm (.p e ?_))
  obtain ⟨x128,hx128,h⟩ := bindO h
  refine Ops.z 13304 (Ev.ssL e e hx128) e e ?_
  obtain ⟨y129,hy129,h⟩ := bindO h
  refine Ops.z 13320 (Ev.call [] [] 0 (sem_spec_ReadDecimal _ _ _ hy129) e e (.d1 .nil) e (.inl e) e e) e e (.p3 e e e (.p2 e e (.nil (.seq (.so hm (.p3 e e e (.askO (x := .t 16) e h (fun g137 h => ?_) (fun g137 h => ?_))))))))
  ·refine Ops.gn e g137 (.gn e g137 (.gn e g137 (.gn e g137 (.z 17496 (.pkT e g137 e) e e (.nil (.condT e e (.so hm (.p e (.nil (.ret ?_))))))))))
   obtain rfl := someO h
   exact Ends.mkG (.inl e) e (gh_pk [0] [] hB e e e e) e e
  ·refine Ops.gp e g137 e ?_
   obtain ⟨y138,hy138,h⟩ := bindO h
   refine Ops.gs (s := 17448) e g137 (Ev.call [] [] 0 (sem_spec_SegName _ _ _ hy138) e e (.d1 .nil) e (.inl e) e e) e e (.gp e g137 e (.gp e g137 e (.z 17496 (.pkF e g137 e) e e (.nil (.condO e h (fun g139 h => ?_) (fun g139 h => ?_))))))
   ·refine Run.so hm (.p e (.nil (.ret ?_)))
    obtain rfl := someO h
    exact Ends.mkG (.inl e) e (gh_pk [0] [] hB e e e e) e e
   ·refine Run.skip (.so hm (.p2 e e (.nil (.ret ?_))))
    obtain rfl := someO h
    exact Ends.mkG (.inl e) e (gh_pk [0] [] hB e e e e) e e
end Go.Proofs.YtmnoonjkiflonaaGreatDoor.Pe.FnExactReadScript
