/- Functions,as pure functions; and that Go does just that. -/
import Derived.Test.YtmnoonjkiflonaaGreatDoorPeFFnExactReadScript5
namespace Go.Proofs.YtmnoonjkiflonaaGreatDoor.Pe.FnExactReadScript
open Go Go.RowKit
set_option linter.unusedVariables false
set_option linter.unusedSimpArgs false
set_option maxHeartbeats 40000000
set_option maxRecDepth 100000
def impl_OpenShelf_l1 (N : Nat) (x1 : Disk) (y483 : Manifest × Bool) : Nat → Int → Option ((Shelf × (List Raw) × Int) ⊕ (Unit))
 | 0,_ => none
 | m + 1,x540 =>
 (if (decide (x540 < ((y483.1.Segs.length : Nat) : Int))) = true then
 (at? y483.1.Segs x540).bind fun x577 =>
 (impl_SegName N x577).bind fun y584 =>
 (impl_FileAt N x1 y584).bind fun y585 =>
 (if (!y585.2) = true then
 some (Sum.inl ((Shelf.mk (Manifest.mk ([]) 0 0 0 ([])) ([]) 0),[],3))
 else
 impl_OpenShelf_l1 N x1 y483 m (w64 (x540 + 1)))
 else
 some (Sum.inr ()))
def impl_OpenShelf_l2 (N : Nat) (x1 : Disk) (y483 : Manifest × Bool) : Nat → Int → Int → (List Raw) → (List Spot) → Option ((Shelf × (List Raw) × Int) ⊕ (Int × (List Raw) × (List Spot)))
 | 0,_,_,_,_ => none
 | m + 1,x714,x726,x727,x728 =>
 (if (decide (x714 < ((y483.1.Segs.length : Nat) : Int))) = true then
 (at? y483.1.Segs x714).bind fun x791 =>
 (impl_SegName N x791).bind fun y798 =>
 (impl_FileAt N x1 y798).bind fun y799 =>
 (impl_ScanSeg N y799.1 x791).bind fun y803 =>
 (impl_batchesOf N y799.1).bind fun y807 =>
 joinP (fun (v811 : Unit) =>
 joinP (fun (v822 : (List Raw)) =>
 (cat? x728 y803.1).bind fun x833 =>
 impl_OpenShelf_l2 N x1 y483 m (w64 (x714 + 1)) (imax x726 y803.2.2) v822 x833) fun j822 =>
 (if (decide (y807.2 < (y799.1.size : Int))) = true then
 (impl_SegName N x791).bind fun y827 =>
 (stake? y799.1 y807.2).bind fun x828 =>
 (cat? x727 ([(Raw.mk 1 y827 (⟨#[]⟩ : ByteArray) x828)] : List Raw)).bind fun x829 =>
 j822 x829
 else
 j822 x727)) fun j811 =>
 (if (decide (y807.2 < (y799.1.size : Int))) = true then
 (if (decide (x714 < (w64 (((y483.1.Segs.length : Nat) : Int) - 1)))) = true then
 some (Sum.inl ((Shelf.mk (Manifest.mk ([]) 0 0 0 ([])) ([]) 0),[],4))
 else
 j811 ())
 else
 j811 ())
 else
 some (Sum.inr (x726,x727,x728)))
def impl_OpenShelf (N : Nat) (x1 : Disk) : Option (Shelf × (List Raw) × Int) :=
 (impl_DiskOk N x1).bind fun y474 =>
 (if (!y474) = true then
 some ((Shelf.mk (Manifest.mk ([]) 0 0 0 ([])) ([]) 0),[],1)
 else
 (impl_FileAt N x1 (⟨#[109]⟩ : ByteArray)).bind fun y479 =>
 (impl_ReadManifest N y479.1).bind fun y483 =>
 (if (!y479.2) = true then
 some ((Shelf.mk (Manifest.mk ([]) 0 0 0 ([])) ([]) 0),[],2)
 else
 (if (!y483.2) = true then
 some ((Shelf.mk (Manifest.mk ([]) 0 0 0 ([])) ([]) 0),[],2)
 else
 joinP (fun (v538 : Unit) =>
 (impl_cleaning N x1 y483.1).bind fun y590 =>
 joinP (fun (v712 : Int × (List Raw) × (List Spot)) =>
 (impl_DirMore N ([] : List Spot) v712.2.2).bind fun y837 =>
 (if (!y837.2) = true then
 some ((Shelf.mk (Manifest.mk ([]) 0 0 0 ([])) ([]) 0),[],4)
 else
 some ((Shelf.mk y483.1 y837.1 v712.1),v712.2.1,0))) fun j712 =>
 (impl_OpenShelf_l2 N x1 y483 N 0 y483.1.Base y590 ([] : (List Spot))).bind (Sum.elim (fun v783 => some v783) (fun (v784 : Int × (List Raw) × (List Spot)) => j712 (v784.1,v784.2.1,v784.2.2)))) fun j538 =>
 (impl_OpenShelf_l1 N x1 y483 N 0).bind (Sum.elim (fun v569 => some v569) (fun (v570 : Unit) => j538 ())))))
theorem sem_impl_OpenShelf (N : Nat) (x1 : Disk) (r : Shelf × (List Raw) × Int) (h : impl_OpenShelf N x1 = some r) : Says Tryz.prog 107 [.agg [RO 98 (x1.Files.map encFile)]] 0 [] (.tup [.agg [.sl 0 3 0 r.1.Man.Segs.length,VI r.1.Man.Next,VI r.1.Man.Base,VI r.1.Man.BaseTerm,.sl 1 3 0 r.1.Man.Conf.length,.sl 2 232 0 r.1.Dir.length,VI r.1.Stamp],.sl 3 107 0 r.2.1.length,VI r.2.2]) [(0,.vec 3 (r.1.Man.Segs.map encI)),(1,.vec 3 (r.1.Man.Conf.map encI)),(2,.vec 232 (r.1.Dir.map encSpot)),(3,.vec 107 (r.2.1.map encRaw))] := by
 unfold impl_OpenShelf at h
 refine Says.of_norm e Tryz.call107 e fun B hB => ?_
 have hm : B.m ≤ 1000 := by omega
 refine Run.so hm (.z 1000 (.bx e e) e e (.z 1016 (.al e e) e e (.p2 e e (.nil (.seq (.so hm (.p e ?_)))))))
 obtain ⟨y474,hy474,h⟩ := bindO h
 refine Ops.z 5112 (Ev.call [] [] 0 (sem_impl_DiskOk _ _ _ hy474) e e (.cons (.agg (.d1 .nil)) .nil) e (.inl e) e e) e e (.p e (.nil (.condO e h (fun g475 h => ?_) (fun g475 h => ?_))))
 ·refine Run.so hm (.z 9192 (.bd e e) e e (.y 9208 (.sto e e e e e e) e e (.p2 e e (.nil (.ret ?_)))))
  obtain rfl := someO h
  exact Ends.mkG (.inl e) e (Gh.trans (Gh.trans (gh_prn [0,1,2] [] hB e) (gh_nil [0,1] [] hB e e e)) (gh_pk [0,1,2] [10000000,10000001,10000002,10000064] hB e e e e)) e e
 ·refine Run.skip (.so hm (.p e ?_))
  obtain ⟨y479,hy479,h⟩ := bindO h
  refine Ops.z 13304 (Ev.call [] [] 0 (sem_impl_FileAt _ _ _ _ hy479) e e (.cons (.agg (.d1 .nil)) (.d1 .nil)) e (.inl e) e e) e e (.p3 e e e (.p2 e e (.nil (.so hm (.p e ?_)))))
  obtain ⟨y483,hy483,h⟩ := bindO h
  refine Ops.z 17400 (Ev.call [] [] 2 (sem_impl_ReadManifest _ _ _ hy483) e e (.d1 .nil) e (.inl e) e e) e e (.p3 e e e (.z 17464 (.al e e) e e (.y 17480 (.sto e e e e e e) e e (.p e (.nil (.seq (.so hm (.p3 e e e (.askO (x := .t 43) e h (fun g488 h => ?_) (fun g488 h => ?_))))))))))
  ·refine Ops.gn e g488 (.gn e g488 (.z 21560 (.pkT e g488 e) e e (.nil (.condT e e (.so hm (.z 25576 (.bd e e) e e (.y 25592 (.sto e e e e e e) e e (.p2 e e (.nil (.ret ?_))))))))))
   obtain rfl := someO h
   exact Ends.mkG (.inl e) e (Gh.trans (Gh.trans (gh_prn [0,1,2] [] hB e) (gh_nil [0,1] [] hB e e e)) (gh_pk [0,1,2] [10000000,10000001,10000002,10000064] hB e e e e)) e e
  ·refine Ops.gp e g488 e (.gp e g488 e (.z 21560 (.pkF e g488 e) e e (.nil (.condO e h (fun g489 h => ?_) (fun g489 h => ?_)))))
   ·refine Run.so hm (.z 25576 (.bd e e) e e (.y 25592 (.sto e e e e e e) e e (.p2 e e (.nil (.ret ?_)))))
    obtain rfl := someO h
    exact Ends.mkG (.inl e) e (Gh.trans (Gh.trans (gh_prn [0,1,2] [] hB e) (gh_nil [0,1] [] hB e e e)) (gh_pk [0,1,2] [10000000,10000001,10000002,10000064] hB e e e e)) e e
   ·refine Run.skip (.seqO h (fun v538 => [(1,.ptr 0 0),(2,.ptr 1 0),(7,.ptr 2 0)]) (fun (v538 : Unit) => [(0,.box [RO 98 (x1.Files.map encFile)]),(1,.box [.sl 3 3 0 (([] : (List Int)).length),VI 0,VI 0,VI 0,.sl 4 3 0 (([] : (List Int)).length),.sl 5 232 0 (([] : (List Spot)).length),VI 0]),(2,.box [.sl 6 3 0 y483.1.Segs.length,VI y483.1.Next,VI y483.1.Base,VI y483.1.BaseTerm,.sl 7 3 0 y483.1.Conf.length]),(3,.vec 3 (([] : (List Int)).map encI)),(4,.vec 3 (([] : (List Int)).map encI)),(5,.vec 232 (([] : (List Spot)).map encSpot)),(6,.vec 3 (y483.1.Segs.map encI)),(7,.vec 3 (y483.1.Conf.map encI))]) (fun h => ?_) (fun v538 h => ?_))
    ·refine Run.so hm (.p3 e e e (.p e (.nil (.block ?_))))
     obtain ⟨res570,h,hk570⟩ := bindO h
     refine Run.loop (n := N) (fun m570 fr σ => ∃ (x540 : Int),impl_OpenShelf_l1 N x1 y483 m570 x540 = some res570 ∧ fr = [(1,.ptr 0 0),(2,.ptr 1 0),(7,.ptr 2 0),(49,.sl 3 3 0 y483.1.Segs.length),(50,VI ((y483.1.Segs.length : Nat) : Int)),(51,VI x540)] ∧ σ = [(0,.box [RO 98 (x1.Files.map encFile)]),(1,.box [.sl 4 3 0 (([] : (List Int)).length),VI 0,VI 0,VI 0,.sl 5 3 0 (([] : (List Int)).length),.sl 6 232 0 (([] : (List Spot)).length),VI 0]),(2,.box [.sl 3 3 0 y483.1.Segs.length,VI y483.1.Next,VI y483.1.Base,VI y483.1.BaseTerm,.sl 7 3 0 y483.1.Conf.length]),(3,.vec 3 (y483.1.Segs.map encI)),(4,.vec 3 (([] : (List Int)).map encI)),(5,.vec 3 (([] : (List Int)).map encI)),(6,.vec 232 (([] : (List Spot)).map encSpot)),(7,.vec 3 (y483.1.Conf.map encI))]) (Gh.trans (Gh.trans (gh_prn [1,2,7,49,50,51] [1000,1016,17464,17400,17401] hB e) (gh_nil [] [1016] hB e e e)) (gh_pk [1,2,7,49,50,51] [1000,1016,17464,17400,20000000,20000001,20000002,17401] hB e e e e)) ⟨_,h,e,e⟩ ?_
     rintro m570 fr σ ⟨x540,h,rfl,rfl⟩
     obtain _ | m570 := m570
     ·rw [impl_OpenShelf_l1] at h; cases h
     rw [impl_OpenShelf_l1] at h
     refine Run.so hm (.p e (.nil (.seq (.condO e h (fun g573 h => ?_) (fun g573 h => ?_)))))
     ·refine Run.skip (.seq (.block (.so hm ?_)))
      obtain ⟨x577,hx577,h⟩ := bindO h
      refine Ops.z 37864 (Ev.iaW e e e hx577) e e (.z 37880 (Ev.ldE (f := encI) e e (at_some hx577).2 e e e) e e (.p e (.nil (.seq (.draw hm hmix (.p e (.p e ?_)))))))
      obtain ⟨y584,hy584,h⟩ := bindO h
      refine OpsD.z 41992 (Ev.call [] [] 0 (sem_impl_SegName _ _ _ hy584) e e (.d1 .nil) e (.inl e) e e) e e ?_
      obtain ⟨y585,hy585,h⟩ := bindO h
      refine OpsD.z 42008 (Ev.call [] [] 0 (sem_impl_FileAt _ _ _ _ hy585) e e (.cons (.agg (.d1 .nil)) (.d1 .nil)) e (.inl e) e e) e e (.p e (.p e (.p e (.p e (.p e (.nil ⟨by kernel_rfl,?_⟩))))))
      refine Run.so hm (.p2 e e (.nil (.condO e h (fun g586 h => ?_) (fun g586 h => ?_))))
      ·refine Run.so hm (.z 50152 (.bd e e) e e (.y 50168 (.sto e e e e e e) e e (.p2 e e (.nil (.ret ?_)))))
       obtain rfl := someO h
       have h := hk570
       replace h := inlO h
       obtain rfl := someO h
       exact Ends.mkG (.inl e) e (Gh.trans (Gh.trans (gh_prn [0,1,2] [] hB e) (gh_nil [0,1] [] hB e e e)) (gh_pk [0,1,2] [10000000,10000001,10000002,10000064] hB e e e e)) e e
      ·exact Run.skip (.ops hm (.p2 e e (.nil (⟨m570,Nat.lt_succ_self m570,_,_,(gh_pk [1,2,7,49,50,51] [0,1,2,3,4,5,6,7] hB e e e e),_,h,e,e⟩))))
     ·refine Run.exit ?_
      obtain rfl := someO h
      have h := hk570
      replace h := inrO h
      exact ⟨_,_,(gh_pk [1,2,7] [0,1,2,4,5,6,3,7] hB e e e e),(),h,e,e⟩
    ·refine Run.so hm (.p3 e e e (.z 58392 (.bd e e) e e (.z 58408 (.al e e) e e (.y 58424 (.sto e e e e e e) e e (.nil (.so hm (.p2 e e ?_)))))))
     obtain ⟨y590,hy590,h⟩ := bindO h
     refine Ops.z 62472 (Ev.call [] [6,7] 1 (sem_impl_cleaning _ _ _ _ hy590) e e (.cons (.agg (.d1 .nil)) (.cons (.agg (.cons (.borrow e (by decide) (lendW (fun _ => e) _ e)) (.d2 (.d1 (.cons (.borrow e (by decide) (lendW (fun _ => e) _ e)) .nil))))) .nil)) e (.inr ⟨e,ownL_root ⟨own_rows (fun _ => e) _,trivial⟩⟩) e e) e e ?_
     refine Ops.p e (.nil (.so hm (.p e (.nil (.seqO h (fun v712 => [(2,.ptr 0 0),(13,.ptr 1 0),(14,.sl 2 107 0 v712.2.1.length),(15,.sl 3 232 0 v712.2.2.length)]) (fun (v712 : Int × (List Raw) × (List Spot)) => [(0,.box [.sl 4 3 0 (([] : (List Int)).length),VI 0,VI 0,VI 0,.sl 5 3 0 (([] : (List Int)).length),.sl 6 232 0 (([] : (List Spot)).length),VI 0]),(1,.box [.sl 7 3 0 y483.1.Segs.length,VI y483.1.Next,VI y483.1.Base,VI y483.1.BaseTerm,.sl 8 3 0 y483.1.Conf.length,.sl 9 232 0 (([] : (List Spot)).length),VI v712.1]),(2,.vec 107 (v712.2.1.map encRaw)),(3,.vec 232 (v712.2.2.map encSpot)),(4,.vec 3 (([] : (List Int)).map encI)),(5,.vec 3 (([] : (List Int)).map encI)),(6,.vec 232 (([] : (List Spot)).map encSpot)),(7,.vec 3 (y483.1.Segs.map encI)),(8,.vec 3 (y483.1.Conf.map encI)),(9,.vec 232 (([] : (List Spot)).map encSpot))]) (fun h => ?_) (fun v712 h => ?_))))))
     ·refine Run.so hm (.p3 e e e (.p e (.nil (.block ?_))))
      obtain ⟨res784,h,hk784⟩ := bindO h
      refine Run.loop (n := N) (fun m784 fr σ => ∃ (x714 : Int),∃ (x726 : Int),∃ (x727 : (List Raw)),∃ (x728 : (List Spot)),impl_OpenShelf_l2 N x1 y483 m784 x714 x726 x727 x728 = some res784 ∧ fr = [(1,.ptr 0 0),(2,.ptr 1 0),(7,.ptr 2 0),(13,.ptr 3 0),(14,.sl 4 107 0 x727.length),(15,.sl 5 232 0 x728.length),(74,.sl 6 3 0 y483.1.Segs.length),(75,VI ((y483.1.Segs.length : Nat) : Int)),(76,VI x714)] ∧ σ = [(0,.box [RO 98 (x1.Files.map encFile)]),(1,.box [.sl 7 3 0 (([] : (List Int)).length),VI 0,VI 0,VI 0,.sl 8 3 0 (([] : (List Int)).length),.sl 9 232 0 (([] : (List Spot)).length),VI 0]),(2,.box [.sl 6 3 0 y483.1.Segs.length,VI y483.1.Next,VI y483.1.Base,VI y483.1.BaseTerm,.sl 10 3 0 y483.1.Conf.length]),(3,.box [.sl 6 3 0 y483.1.Segs.length,VI y483.1.Next,VI y483.1.Base,VI y483.1.BaseTerm,.sl 10 3 0 y483.1.Conf.length,.sl 11 232 0 (([] : (List Spot)).length),VI x726]),(4,.vec 107 (x727.map encRaw)),(5,.vec 232 (x728.map encSpot)),(6,.vec 3 (y483.1.Segs.map encI)),(7,.vec 3 (([] : (List Int)).map encI)),(8,.vec 3 (([] : (List Int)).map encI)),(9,.vec 232 (([] : (List Spot)).map encSpot)),(10,.vec 3 (y483.1.Conf.map encI)),(11,.vec 232 (([] : (List Spot)).map encSpot))]) (Gh.trans (Gh.trans (gh_prn [1,2,7,13,14,15,74,75,76] [0,1,2,58408,62472,6,3,4,5,7] hB e) (gh_nil [15] [58408] hB e e e)) (gh_pk [1,2,7,13,14,15,74,75,76] [0,1,2,58408,62472,10000000,6,3,4,5,7,20000000] hB e e e e)) ⟨_,_,_,_,h,e,e⟩ ?_
      rintro m784 fr σ ⟨x714,x726,x727,x728,h,rfl,rfl⟩
      obtain _ | m784 := m784
      ·rw [impl_OpenShelf_l2] at h; cases h
      rw [impl_OpenShelf_l2] at h
      refine Run.so hm (.p e (.nil (.seq (.condO e h (fun g787 h => ?_) (fun g787 h => ?_)))))
      ·refine Run.skip (.seq (.block (.so hm (.p e ?_))))
       obtain ⟨x791,hx791,h⟩ := bindO h
       refine Ops.z 78840 (Ev.iaW e e e hx791) e e (.z 78856 (Ev.ldE (f := encI) e e (at_some hx791).2 e e e) e e (.p2 e e (.nil (.seq (.draw hm hmix (.p e (.p e ?_)))))))
       obtain ⟨y798,hy798,h⟩ := bindO h
       refine OpsD.z 82952 (Ev.call [] [] 0 (sem_impl_SegName _ _ _ hy798) e e (.d1 .nil) e (.inl e) e e) e e ?_
       obtain ⟨y799,hy799,h⟩ := bindO h
       refine OpsD.z 82968 (Ev.call [] [] 0 (sem_impl_FileAt _ _ _ _ hy799) e e (.cons (.agg (.d1 .nil)) (.d1 .nil)) e (.inl e) e e) e e (.p e (.p e (.p e (.p e (.p e (.nil ⟨by kernel_rfl,?_⟩))))))
       refine Run.so hm (.p2 e e ?_)
       obtain ⟨y803,hy803,h⟩ := bindO h
       refine Ops.z 87048 (Ev.call [] [] 2 (sem_impl_ScanSeg _ _ _ _ hy803) e e (.d2 .nil) e (.inl e) e e) e e (.p3 e e e (.p3 e e e (.p e (.nil (.so hm (.p e ?_))))))
       obtain ⟨y807,hy807,h⟩ := bindO h
       refine Ops.z 91128 (Ev.call [] [] 1 (sem_impl_batchesOf _ _ _ hy807) e e (.d1 .nil) e (.inl e) e e) e e (.p3 e e e (.p2 e e (.nil (.seqO h (fun v811 => [(1,.ptr 0 0),(2,.ptr 1 0),(7,.ptr 2 0),(13,.ptr 3 0),(14,.sl 4 107 0 x727.length),(15,.sl 5 232 0 x728.length),(17,VI x791),(18,VS y799.1),(20,.sl 6 232 0 y803.1.length),(22,VI y803.2.2),(24,VI y807.2),(74,.sl 7 3 0 y483.1.Segs.length),(75,VI ((y483.1.Segs.length : Nat) : Int)),(76,VI x714)]) (fun (v811 : Unit) => [(0,.box [RO 98 (x1.Files.map encFile)]),(1,.box [.sl 8 3 0 (([] : (List Int)).length),VI 0,VI 0,VI 0,.sl 9 3 0 (([] : (List Int)).length),.sl 10 232 0 (([] : (List Spot)).length),VI 0]),(2,.box [.sl 7 3 0 y483.1.Segs.length,VI y483.1.Next,VI y483.1.Base,VI y483.1.BaseTerm,.sl 11 3 0 y483.1.Conf.length]),(3,.box [.sl 7 3 0 y483.1.Segs.length,VI y483.1.Next,VI y483.1.Base,VI y483.1.BaseTerm,.sl 11 3 0 y483.1.Conf.length,.sl 12 232 0 (([] : (List Spot)).length),VI x726]),(4,.vec 107 (x727.map encRaw)),(5,.vec 232 (x728.map encSpot)),(6,.vec 232 (y803.1.map encSpot)),(7,.vec 3 (y483.1.Segs.map encI)),(8,.vec 3 (([] : (List Int)).map encI)),(9,.vec 3 (([] : (List Int)).map encI)),(10,.vec 232 (([] : (List Spot)).map encSpot)),(11,.vec 3 (y483.1.Conf.map encI)),(12,.vec 232 (([] : (List Spot)).map encSpot))]) (fun h => ?_) (fun v811 h => ?_)))))
       ·refine Run.so hm (.p3 e e e (.p2 e e (.askO (x := .t 104) e h (fun g813 h => ?_) (fun g813 h => ?_))))
        ·refine Ops.gp e g813 e (.gp e g813 e (.gp e g813 e (.gp e g813 e (.gp e g813 e (.gp e g813 e (.z 95384 (.pkT e g813 e) e e (.nil (.condO e h (fun g814 h => ?_) (fun g814 h => ?_)))))))))
         ·refine Run.so hm (.z 99304 (.bd e e) e e (.y 99320 (.sto e e e e e e) e e (.p2 e e (.nil (.ret ?_)))))
          obtain rfl := someO h
          have h := hk784
          replace h := inlO h
          obtain rfl := someO h
          exact Ends.mkG (.inl e) e (Gh.trans (Gh.trans (gh_prn [0,1,2] [] hB e) (gh_nil [0,1] [] hB e e e)) (gh_pk [0,1,2] [10000000,10000001,10000002,10000064] hB e e e e)) e e
         ·exact Run.skip (⟨_,_,(gh_pk [1,2,7,13,14,15,17,18,20,22,24,74,75,76] [0,1,2,3,4,5,87048,6,7,8,9,10,11] hB e e e e),(),h,e,e⟩)
        ·exact Ops.gn e g813 (.gn e g813 (.gn e g813 (.gn e g813 (.gn e g813 (.gn e g813 (.z 95384 (.pkF e g813 e) e e (.nil (.condF e e (.skip (⟨_,_,(gh_pk [1,2,7,13,14,15,17,18,20,22,24,74,75,76] [0,1,2,3,4,5,87048,6,7,8,9,10,11] hB e e e e),(),h,e,e⟩))))))))))
       ·refine Run.seqO h (fun v822 => [(1,.ptr 0 0),(2,.ptr 1 0),(7,.ptr 2 0),(13,.ptr 3 0),(14,.sl 4 107 0 v822.length),(15,.sl 5 232 0 x728.length),(20,.sl 6 232 0 y803.1.length),(22,VI y803.2.2),(74,.sl 7 3 0 y483.1.Segs.length),(75,VI ((y483.1.Segs.length : Nat) : Int)),(76,VI x714)]) (fun (v822 : (List Raw)) => [(0,.box [RO 98 (x1.Files.map encFile)]),(1,.box [.sl 8 3 0 (([] : (List Int)).length),VI 0,VI 0,VI 0,.sl 9 3 0 (([] : (List Int)).length),.sl 10 232 0 (([] : (List Spot)).length),VI 0]),(2,.box [.sl 7 3 0 y483.1.Segs.length,VI y483.1.Next,VI y483.1.Base,VI y483.1.BaseTerm,.sl 11 3 0 y483.1.Conf.length]),(3,.box [.sl 7 3 0 y483.1.Segs.length,VI y483.1.Next,VI y483.1.Base,VI y483.1.BaseTerm,.sl 11 3 0 y483.1.Conf.length,.sl 12 232 0 (([] : (List Spot)).length),VI x726]),(4,.vec 107 (v822.map encRaw)),(5,.vec 232 (x728.map encSpot)),(6,.vec 232 (y803.1.map encSpot)),(7,.vec 3 (y483.1.Segs.map encI)),(8,.vec 3 (([] : (List Int)).map encI)),(9,.vec 3 (([] : (List Int)).map encI)),(10,.vec 232 (([] : (List Spot)).map encSpot)),(11,.vec 3 (y483.1.Conf.map encI)),(12,.vec 232 (([] : (List Spot)).map encSpot))]) (fun h => ?_) (fun v822 h => ?_)
        ·refine Run.so hm (.p3 e e e (.p e (.nil (.condO e h (fun g823 h => ?_) (fun g823 h => ?_)))))
         ·refine Run.draw hm hmix (.p e (.p e ?_))
          obtain ⟨y827,hy827,h⟩ := bindO h
          refine OpsD.z 107528 (Ev.call [] [] 0 (sem_impl_SegName _ _ _ hy827) e e (.d1 .nil) e (.inl e) e e) e e (.p e (.p e ?_))
          obtain ⟨x828,hx828,h⟩ := bindO h
          refine OpsD.z 107576 (Ev.ssH e e hx828) e e (.z 107592 (.bd e e) e e (.z 107608 (Ev.bsW (ys := ([(Raw.mk 1 y827 (⟨#[]⟩ : ByteArray) x828)] : List Raw)) (f := encRaw) e (.d4 .nil) e e e e e) e e ?_))
          obtain ⟨x829,hx829,h⟩ := bindO h
          refine OpsD.z 107624 (Ev.apW (f := encRaw) (ontoW e e e) (addsW e e e (fun _ => e)) e bt107 e hx829) e e (.p e (.nil ⟨by kernel_rfl,?_⟩))
          exact ⟨_,_,(gh_pk [1,2,7,13,14,15,20,22,74,75,76] [0,1,2,3,107624,5,6,7,8,9,10,11,12] hB e e e e),_,h,e,e⟩
         ·exact Run.skip (⟨_,_,(gh_pk [1,2,7,13,14,15,20,22,74,75,76] [0,1,2,3,4,5,6,7,8,9,10,11,12] hB e e e e),_,h,e,e⟩)
        ·refine Run.so hm (.p2 e e ?_)
         obtain ⟨x833,hx833,h⟩ := bindO h
         exact Ops.z 111624 (Ev.apW (f := encSpot) (ontoW e e e) (addsW e e e (fun _ => e)) e bt232 e hx833) e e (.p e (.nil (.ops hm (.p3 e e e (.p2 e e (.y 115768 (.sto e e e e e e) e e (.nil (.ops hm (.p2 e e (.nil (⟨m784,Nat.lt_succ_self m784,_,_,(gh_pk [1,2,7,13,14,15,74,75,76] [0,1,2,3,4,111624,7,8,9,10,11,12] hB e e e e),_,_,_,_,h,e,e⟩)))))))))))
      ·refine Run.exit ?_
       obtain rfl := someO h
       have h := hk784
       replace h := inrO h
       exact ⟨_,_,(gh_pk [2,13,14,15] [1,3,4,5,7,8,9,6,10,11] hB e e e e),_,h,e,e⟩
     ·refine Run.so hm (.p e ?_)
      obtain ⟨y837,hy837,h⟩ := bindO h
      refine Ops.z 123896 (Ev.call [] [3] 1 (sem_impl_DirMore _ _ _ _ hy837) e e (.cons (.nil _ _) (.cons (.borrow e (by decide) (lendW (fun _ => e) _ e)) .nil)) e (.inr ⟨e,ownL_root ⟨own_rows (fun _ => e) _,trivial⟩⟩) e e) e e ?_
      refine Ops.p e (.p3 e e e (.p e (.nil (.seq (.so hm (.p2 e e (.nil (.condO e h (fun g839 h => ?_) (fun g839 h => ?_)))))))))
      ·refine Run.so hm (.z 132072 (.bd e e) e e (.y 132088 (.sto e e e e e e) e e (.p2 e e (.nil (.ret ?_)))))
       obtain rfl := someO h
       exact Ends.mkG (.inl e) e (Gh.trans (Gh.trans (gh_prn [0,1,2] [] hB e) (gh_nil [0,1] [] hB e e e)) (gh_pk [0,1,2] [10000000,10000001,10000002,10000064] hB e e e e)) e e
      ·refine Run.skip (.so hm (.p2 e e (.y 136200 (.sto e e e e e e) e e (.nil (.so hm (.p2 e e (.y 140296 (.sto e e e e e e) e e (.p2 e e (.nil (.ret ?_))))))))))
       obtain rfl := someO h
       exact Ends.mkG (.inl e) e (gh_pk [0,1,2] [7,8,123896,2] hB e e e e) e e
def reader_byte (N : Nat) (x1 : Treader) : Option (Int × Treader) :=
 (if x1.bad = true then
 some (0,(Treader.mk x1.s x1.at' true))
 else
 (if (decide (x1.at' ≥ (x1.s.size : Int))) = true then
 some (0,(Treader.mk x1.s x1.at' true))
 else
 (sat? x1.s (w64 ((w64 (x1.at' + 1)) - 1))).bind fun x115 =>
 some (w64 (x115),(Treader.mk x1.s (w64 (x1.at' + 1)) x1.bad))))
theorem sem_reader_byte (N : Nat) (x1 : Treader) (r : Int × Treader) (h : reader_byte N x1 = some r) : Says Tryz.prog 211 [.ptr 0 0] 1 [(0,.box [VS x1.s,VI x1.at',VB x1.bad])] (VI r.1) [(0,.box [VS r.2.s,VI r.2.at',VB r.2.bad])] := by
 unfold reader_byte at h
 refine Says.of_norm e Tryz.call211 e fun B hB => ?_
 have hm : B.m ≤ 1000 := by omega
 refine Run.so hm (.p e (.nil (.seq (.seq (.draw hm hmix (.p e (.p e (.p e (.p e (.p e (.askO (x := .t 7) e h (fun g112 h => ?_) (fun g112 h => ?_))))))))))))
 ·refine OpsD.gn e g112 (.gn e g112 (.gn e g112 (.gn e g112 (.gn e g112 (.gn e g112 (.gn e g112 (.gn e g112 (.gn e g112 (.gn e g112 (.z 5336 (.pkT e g112 e) e e (.nil ⟨by kernel_rfl,?_⟩)))))))))))
  refine Run.condT e e (.so hm (.p3 e e e (.y 9240 (.sto e e e e e e) e e (.nil (.so hm (.p e (.nil (.ret ?_))))))))
  obtain rfl := someO h
  exact Ends.mkG (.inl e) e (gh_pk [0] [0] hB e e e e) e e
 ·refine OpsD.gp e g112 e (.gp e g112 e (.gp e g112 e (.gp e g112 e (.gp e g112 e (.gp e g112 e (.gp e g112 e (.gp e g112 e (.gp e g112 e (.gp e g112 e (.z 5336 (.pkF e g112 e) e e (.nil ⟨by kernel_rfl,?_⟩)))))))))))
  refine Run.condO e h (fun g113 h => ?_) (fun g113 h => ?_)
  ·refine Run.so hm (.p3 e e e (.y 9240 (.sto e e e e e e) e e (.nil (.so hm (.p e (.nil (.ret ?_)))))))
   obtain rfl := someO h
   exact Ends.mkG (.inl e) e (gh_pk [0] [0] hB e e e e) e e
  ·refine Run.skip (.so hm (.p3 e e e (.p3 e e e (.p e (.y 17496 (.sto e e e e e e) e e (.nil (.seq (.draw hm hmix (.p e (.p e (.p e (.p e (.p e (.p e (.p e (.p e (.p e ?_)))))))))))))))))
   obtain ⟨x115,hx115,h⟩ := bindO h
   refine OpsD.z 21624 (Ev.ixS e e hx115) e e (.p e (.p e (.nil ⟨by kernel_rfl,?_⟩)))
   refine Run.ret ?_
   obtain rfl := someO h
   exact Ends.mkG (.inl e) e (gh_pk [0] [0] hB e e e e) e e
def impl_readStart (N : Nat) (x1 : ByteArray) : Option (Log × Bool) :=
 (reader_byte N (Treader.mk x1 0 false)).bind fun y119 =>
 (reader_num N y119.2).bind fun y126 =>
 (reader_num N y126.2).bind fun y127 =>
 (if (y119.1 == 83) = true then
 (reader_done N y127.2).bind fun y131 =>
 some ((Log.mk y126.1 y127.1 ([])),y131)
 else
 some ((Log.mk y126.1 y127.1 ([])),false))
theorem sem_impl_readStart (N : Nat) (x1 : ByteArray) (r : Log × Bool) (h : impl_readStart N x1 = some r) : Says Tryz.prog 161 [VS x1] 0 [] (.tup [.agg [VI r.1.Start,VI r.1.StartTerm,.sl 0 141 0 r.1.Entries.length],VB r.2]) [(0,.vec 141 (r.1.Entries.map encEntry))] := by
 unfold impl_readStart at h
 refine Says.of_norm e Tryz.call161 e fun B hB => ?_
 have hm : B.m ≤ 1000 := by omega
 refine Run.so hm (.z 1000 (.al e e) e e (.p e (.nil (.so hm (.p e (.z 5112 (.bd e e) e e (.z 5128 (.bx e e) e e (.p e (.nil (.so hm (.p e ?_)))))))))))
 obtain ⟨y119,hy119,h⟩ := bindO h
 refine Ops.z 9208 (Ev.call [5128] [] 0 (sem_reader_byte _ _ _ hy119) e e (.cons (.ptr e) .nil) e (.inl e) e e) e e (.p e (.nil (.so hm (.p e ?_))))
 obtain ⟨y126,hy126,h⟩ := bindO h
 refine Ops.z 13304 (Ev.call [5128] [] 0 (sem_reader_num _ _ _ hy126) e e (.cons (.ptr e) .nil) e (.inl e) e e) e e (.p e ?_)
 obtain ⟨y127,hy127,h⟩ := bindO h
 refine Ops.z 13336 (Ev.call [5128] [] 0 (sem_reader_num _ _ _ hy127) e e (.cons (.ptr e) .nil) e (.inl e) e e) e e (.z 13352 (.bd e e) e e (.z 13368 (.al e e) e e (.y 13384 (.sto e e e e e e) e e (.nil (.seq (.draw hm hmix (.p e (.p e (.p e (.p e (.askO (x := .t 20) e h (fun g130 h => ?_) (fun g130 h => ?_))))))))))))
 ·refine OpsD.gp e g130 e ?_
  obtain ⟨y131,hy131,h⟩ := bindO h
  refine OpsD.gs (s := 17464) e g130 (Ev.call [5128] [] 0 (sem_reader_done _ _ _ hy131) e e (.cons (.ptr e) .nil) e (.inl e) e e) e e (.z 17480 (.pkT e g130 e) e e (.y 17496 (.sto e e e e e e) e e (.p e (.nil ⟨by kernel_rfl,?_⟩))))
  refine Run.ret ?_
  obtain rfl := someO h
  exact Ends.mkG (.inl e) e (Gh.trans (Gh.trans (gh_prn [0,1] [] hB e) (gh_nil [0] [] hB e e e)) (gh_pk [0,1] [10000000] hB e e e e)) e e
 ·refine OpsD.gn e g130 (.gn e g130 (.z 17480 (.pkF e g130 e) e e (.y 17496 (.sto e e e e e e) e e (.p e (.nil ⟨by kernel_rfl,?_⟩)))))
  refine Run.ret ?_
  obtain rfl := someO h
  exact Ends.mkG (.inl e) e (Gh.trans (Gh.trans (gh_prn [0,1] [] hB e) (gh_nil [0] [] hB e e e)) (gh_pk [0,1] [10000000] hB e e e e)) e e
def impl_ReadLog_l1 (N : Nat) (y206 : (List ByteArray) × Int) : Nat → Int → Int → Int → (List Entry) → Option (Int × Int × (List Entry))
 | 0,_,_,_,_ => none
 | m + 1,x254,x258,x259,x261 =>
 (if (decide (x254 < ((y206.1.length : Nat) : Int))) = true then
 (at? y206.1 x254).bind fun x285 =>
 (impl_readStart N x285).bind fun y294 =>
 (if y294.2 = true then
 impl_ReadLog_l1 N y206 m (w64 (x254 + 1)) y294.1.Start y294.1.StartTerm y294.1.Entries
 else
 none)
 else
 some (x258,x259,x261))
def impl_ReadLog (N : Nat) (x1 : ByteArray) : Option (Log × Int × Bool) :=
 (impl_Unframe N x1).bind fun y206 =>
 joinP (fun (v251 : Int × Int × (List Entry)) =>
 (if (((y206.1.length : Nat) : Int) == 0) = true then
 some ((Log.mk 0 0 ([])),0,false)
 else
 (impl_LogOk N (Log.mk v251.1 v251.2.1 v251.2.2)).bind fun y304 =>
 (if (!y304) = true then
 some ((Log.mk 0 0 ([])),0,false)
 else
 some ((Log.mk v251.1 v251.2.1 v251.2.2),y206.2,true)))) fun j251 =>
 (impl_ReadLog_l1 N y206 N 0 0 0 ([] : (List Entry))).bind (fun v278 => j251 (v278.1,v278.2.1,v278.2.2))
theorem sem_impl_ReadLog (N : Nat) (x1 : ByteArray) (r : Log × Int × Bool) (h : impl_ReadLog N x1 = some r) : Says Tryz.prog 109 [VS x1] 0 [] (.tup [.agg [VI r.1.Start,VI r.1.StartTerm,.sl 0 141 0 r.1.Entries.length],VI r.2.1,VB r.2.2]) [(0,.vec 141 (r.1.Entries.map encEntry))] := by
 unfold impl_ReadLog at h
 refine Says.of_norm e Tryz.call109 e fun B hB => ?_
 have hm : B.m ≤ 1000 := by omega
 refine Run.so hm (.z 1000 (.al e e) e e (.p2 e e (.nil (.so hm (.p e ?_)))))
 obtain ⟨y206,hy206,h⟩ := bindO h
 refine Ops.z 5112 (Ev.call [] [] 1 (sem_impl_Unframe _ _ _ hy206) e e (.d1 .nil) e (.inl e) e e) e e (.p3 e e e (.p2 e e (.nil (.so hm (.z 9192 (.al e e) e e (.nil (.seqO h (fun v251 => [(2,.ptr 0 0),(5,.sl 1 9 0 y206.1.length),(6,VI y206.2),(7,.ptr 2 0)]) (fun (v251 : Int × Int × (List Entry)) => [(0,.box [VI 0,VI 0,.sl 3 141 0 (([] : (List Entry)).length)]),(1,.vec 9 (y206.1.map encS)),(2,.box [VI v251.1,VI v251.2.1,.sl 4 141 0 v251.2.2.length]),(3,.vec 141 (([] : (List Entry)).map encEntry)),(4,.vec 141 (v251.2.2.map encEntry))]) (fun h => ?_) (fun v251 h => ?_))))))))
 ·refine Run.so hm (.p3 e e e (.nil (.block ?_)))
  obtain ⟨res278,h,hk278⟩ := bindO h
  refine Run.loop (n := N) (fun m278 fr σ => ∃ (x254 : Int),∃ (x258 : Int),∃ (x259 : Int),∃ (x261 : (List Entry)),impl_ReadLog_l1 N y206 m278 x254 x258 x259 x261 = some res278 ∧ fr = [(2,.ptr 0 0),(5,.sl 1 9 0 y206.1.length),(6,VI y206.2),(7,.ptr 2 0),(20,.sl 1 9 0 y206.1.length),(21,VI ((y206.1.length : Nat) : Int)),(22,VI x254)] ∧ σ = [(0,.box [VI 0,VI 0,.sl 3 141 0 (([] : (List Entry)).length)]),(1,.vec 9 (y206.1.map encS)),(2,.box [VI x258,VI x259,.sl 4 141 0 x261.length]),(3,.vec 141 (([] : (List Entry)).map encEntry)),(4,.vec 141 (x261.map encEntry))]) (Gh.trans (Gh.trans (gh_prn [2,5,6,7,20,21,22] [1000,5112,9192] hB e) (gh_nil [] [1000,9192] hB e e e)) (gh_pk [2,5,6,7,20,21,22] [1000,5112,9192,20000000,20000064] hB e e e e)) ⟨_,_,_,_,h,e,e⟩ ?_
  rintro m278 fr σ ⟨x254,x258,x259,x261,h,rfl,rfl⟩
  obtain _ | m278 := m278
  ·rw [impl_ReadLog_l1] at h; cases h
  rw [impl_ReadLog_l1] at h
  refine Run.so hm (.p e (.nil (.seq (.condO e h (fun g281 h => ?_) (fun g281 h => ?_)))))
  ·refine Run.skip (.seq (.block (.so hm (.p e ?_))))
   obtain ⟨x285,hx285,h⟩ := bindO h
   refine Ops.z 21496 (Ev.iaW e e e hx285) e e (.z 21512 (Ev.ldE (f := encS) e e (at_some hx285).2 e e e) e e (.p2 e e (.nil (.seq (.so hm (.p e ?_))))))
   obtain ⟨y294,hy294,h⟩ := bindO h
   refine Ops.z 25592 (Ev.call [] [] 1 (sem_impl_readStart _ _ _ hy294) e e (.d1 .nil) e (.inl e) e e) e e (.p3 e e e (.z 25656 (.al e e) e e (.y 25672 (.sto e e e e e e) e e (.p e (.nil (.so hm (.p e (.nil (.condO e h (fun g295 h => ?_) (fun g295 h => ?_))))))))))
   ·exact Run.so hm (.p e (.y 33784 (.sto e e e e e e) e e (.nil (.exit (.ops hm (.p2 e e (.nil (⟨m278,Nat.lt_succ_self m278,_,_,(gh_pk [2,5,6,7,20,21,22] [0,1,2,3,25592] hB e e e e),_,_,_,_,h,e,e⟩))))))))
   ·exact Run.skip (.so hm (.p e (noO h)))
  ·refine Run.exit ?_
   obtain rfl := someO h
   have h := hk278
   exact ⟨_,_,(gh_pk [2,5,6,7] [0,1,2,3,4] hB e e e e),_,h,e,e⟩
 ·refine Run.seq (.so hm (.p3 e e e (.p e (.askO (x := .t 80) e h (fun g303 h => ?_) (fun g303 h => ?_)))))
  ·refine Ops.gn e g303 (.gn e g303 (.gn e g303 (.z 58456 (.pkT e g303 e) e e (.nil (.condT e e (.so hm (.z 62440 (.bd e e) e e (.y 62456 (.sto e e e e e e) e e (.p2 e e (.nil (.ret ?_)))))))))))
   obtain rfl := someO h
   exact Ends.mkG (.inl e) e (Gh.trans (Gh.trans (gh_prn [0,1,2] [] hB e) (gh_nil [0] [] hB e e e)) (gh_pk [0,1,2] [10000000] hB e e e e)) e e
  ·refine Ops.gp e g303 e ?_
   obtain ⟨y304,hy304,h⟩ := bindO h
   refine Ops.gs (s := 58424) e g303 (Ev.call [] [4] 0 (sem_impl_LogOk _ _ _ hy304) e e (.cons (.agg (.d2 (.cons (.borrow e (by decide) (lendW (fun _ => e) _ e)) .nil))) .nil) e (.inr ⟨e,ownL_root trivial⟩) e e) e e ?_
   refine Ops.gp e g303 e (.z 58456 (.pkF e g303 e) e e (.nil (.condO e h (fun g305 h => ?_) (fun g305 h => ?_))))
   ·refine Run.so hm (.z 62440 (.bd e e) e e (.y 62456 (.sto e e e e e e) e e (.p2 e e (.nil (.ret ?_)))))
    obtain rfl := someO h
    exact Ends.mkG (.inl e) e (Gh.trans (Gh.trans (gh_prn [0,1,2] [] hB e) (gh_nil [0] [] hB e e e)) (gh_pk [0,1,2] [10000000] hB e e e e)) e e
   ·refine Run.skip (.so hm (.p2 e e (.y 66568 (.sto e e e e e e) e e (.p2 e e (.nil (.ret ?_))))))
    obtain rfl := someO h
    exact Ends.mkG (.inl e) e (gh_pk [0,1,2] [4] hB e e e e) e e
def impl_hasEntry (N : Nat) (x1 : Log) (x2 : Int) : Option (Bool) :=
 (if (decide (x2 > x1.Start)) = true then
 (impl_within N (w64 (x2 - x1.Start)) 1 (x1.Entries.length : Int)).bind fun y107 =>
 some y107
 else
 some false)
theorem sem_impl_hasEntry (N : Nat) (x1 : Log) (x2 : Int) (r : Bool) (h : impl_hasEntry N x1 x2 = some r) : Says Tryz.prog 212 [.agg [VI x1.Start,VI x1.StartTerm,RO 141 (x1.Entries.map encEntry)],VI x2] 0 [] (VB r) [] := by
 unfold impl_hasEntry at h
 refine Says.of_norm e Tryz.call212 e fun B hB => ?_
 have hm : B.m ≤ 1000 := by omega
 refine Run.so hm (.z 1000 (.bx e e) e e (.p e (.nil (.so hm (.p3 e e e (.p2 e e (.askO (x := .t 9) e h (fun g106 h => ?_) (fun g106 h => ?_))))))))
 ·refine Ops.gp e g106 e (.gp e g106 e (.gp e g106 e (.gp e g106 e (.gp e g106 e (.gp e g106 e (.gs (s := 5272) e g106 (Ev.lnF e) e e ?_))))))
  obtain ⟨y107,hy107,h⟩ := bindO h
  refine Ops.gs (s := 5288) e g106 (Ev.call [] [] 0 (sem_impl_within _ _ _ _ _ hy107) e e (.d2 (.d1 .nil)) e (.inl e) e e) e e (.z 5304 (.pkT e g106 e) e e (.p e (.nil (.ret ?_))))
  obtain rfl := someO h
  exact Ends.mkG (.inl e) e (gh_pk [0] [] hB e e e e) e e
 ·refine Ops.gn e g106 (.gn e g106 (.gn e g106 (.gn e g106 (.gn e g106 (.gn e g106 (.gn e g106 (.gn e g106 (.z 5304 (.pkF e g106 e) e e (.p e (.nil (.ret ?_)))))))))))
  obtain rfl := someO h
  exact Ends.mkG (.inl e) e (gh_pk [0] [] hB e e e e) e e
def impl_LogTerm (N : Nat) (x1 : Log) (x2 : Int) : Option (Int) :=
 (if (x2 == x1.Start) = true then
 some x1.StartTerm
 else
 (impl_hasEntry N x1 x2).bind fun y108 =>
 (if y108 = true then
 (at? x1.Entries (w64 ((w64 (x2 - x1.Start)) - 1))).bind fun x111 =>
 some x111.Term
 else
 some (-1 : Int)))
theorem sem_impl_LogTerm (N : Nat) (x1 : Log) (x2 : Int) (r : Int) (h : impl_LogTerm N x1 x2 = some r) : Says Tryz.prog 163 [.agg [VI x1.Start,VI x1.StartTerm,RO 141 (x1.Entries.map encEntry)],VI x2] 0 [] (VI r) [] := by
 unfold impl_LogTerm at h
 refine Says.of_norm e Tryz.call163 e fun B hB => ?_
 have hm : B.m ≤ 1000 := by omega
 refine Run.so hm (.z 1000 (.bx e e) e e (.p e (.nil (.seq (.block (.so hm (.p3 e e e (.p2 e e (.nil (.condO e h (fun g106 h => ?_) (fun g106 h => ?_)))))))))))
 ·refine Run.so hm (.p3 e e e (.nil (.ret ?_)))
  obtain rfl := someO h
  exact Ends.mkG (.inl e) e (gh_pk [0] [] hB e e e e) e e
 ·refine Run.so hm (.p2 e e ?_)
  obtain ⟨y108,hy108,h⟩ := bindO h
  refine Ops.z 13320 (Ev.call [] [] 0 (sem_impl_hasEntry _ _ _ _ hy108) e e (.cons (.agg (.d2 (.d1 .nil))) (.d1 .nil)) e (.inl e) e e) e e (.p e (.nil (.condO e h (fun g109 h => ?_) (fun g109 h => ?_))))
  ·refine Run.so hm (.p3 e e e (.p3 e e e (.p e ?_)))
   obtain ⟨x111,hx111,h⟩ := bindO h
   refine Ops.z 17496 (Ev.iaF e e hx111) e e (.p3 e e e (.nil (.ret ?_)))
   obtain rfl := someO h
   exact Ends.mkG (.inl e) e (gh_pk [0] [] hB e e e e) e e
  ·refine Run.skip (.so hm (.p e (.nil (.ret ?_))))
   obtain rfl := someO h
   exact Ends.mkG (.inl e) e (gh_pk [0] [] hB e e e e) e e
def impl_last (N : Nat) (x1 : Log) : Option (Int) :=
 some (w64 (x1.Start + (x1.Entries.length : Int)))
theorem sem_impl_last (N : Nat) (x1 : Log) (r : Int) (h : impl_last N x1 = some r) : Says Tryz.prog 164 [.agg [VI x1.Start,VI x1.StartTerm,RO 141 (x1.Entries.map encEntry)]] 0 [] (VI r) [] := by
 unfold impl_last at h
 refine Says.of_norm e Tryz.call164 e fun B hB => ?_
 have hm : B.m ≤ 1000 := by omega
 refine Run.so hm (.z 1000 (.bx e e) e e (.p e (.nil (.so hm (.p3 e e e (.p e (.z 5160 (Ev.lnF e) e e (.p2 e e (.nil (.ret ?_))))))))))
 obtain rfl := someO h
 exact Ends.mkG (.inl e) e (gh_pk [0] [] hB e e e e) e e
def impl_LogBehind (N : Nat) (x1 : Log) (x2 : Int) (x3 : Int) : Option (Log) :=
 joinP (fun (v152 : (List Entry)) =>
 some (Log.mk x2 x3 v152)) fun j152 =>
 (impl_LogOk N x1).bind fun y159 =>
 (if y159 = true then
 (impl_LogTerm N x1 x2).bind fun y161 =>
 (if (y161 == x3) = true then
 (impl_last N x1).bind fun y163 =>
 (impl_within N x2 x1.Start y163).bind fun y164 =>
 (if y164 = true then
 (drop? x1.Entries (w64 (x2 - x1.Start))).bind fun x168 =>
 (cat? ([] : List Entry) x168).bind fun x169 =>
 j152 x169
 else
 j152 ([] : (List Entry)))
 else
 j152 ([] : (List Entry)))
 else
 j152 ([] : (List Entry)))
theorem sem_impl_LogBehind (N : Nat) (x1 : Log) (x2 : Int) (x3 : Int) (r : Log) (h : impl_LogBehind N x1 x2 x3 = some r) : Says Tryz.prog 110 [.agg [VI x1.Start,VI x1.StartTerm,RO 141 (x1.Entries.map encEntry)],VI x2,VI x3] 0 [] (.agg [VI r.Start,VI r.StartTerm,.sl 0 141 0 r.Entries.length]) [(0,.vec 141 (r.Entries.map encEntry))] := by
 unfold impl_LogBehind at h
 refine Says.of_norm e Tryz.call110 e fun B hB => ?_
 have hm : B.m ≤ 1000 := by omega
 refine Run.so hm (.z 1000 (.bx e e) e e (.z 1016 (.al e e) e e (.nil (.so hm (.p2 e e (.z 5128 (.bd e e) e e (.z 5144 (.al e e) e e (.y 5160 (.sto e e e e e e) e e (.nil (.seqO h (fun v152 => [(6,.ptr 0 0),(7,.ptr 1 0)]) (fun (v152 : (List Entry)) => [(0,.box [VI 0,VI 0,.sl 2 141 0 (([] : List Entry).length)]),(1,.box [VI x2,VI x3,.sl 3 141 0 v152.length]),(2,.vec 141 (([] : List Entry).map encEntry)),(3,.vec 141 (v152.map encEntry))]) (fun h => ?_) (fun v152 h => ?_)))))))))))
 ·refine Run.seq (.draw hm hmix (.p e ?_))
  obtain ⟨y159,hy159,h⟩ := bindO h
  refine OpsD.z 9208 (Ev.call [] [] 0 (sem_impl_LogOk _ _ _ hy159) e e (.cons (.agg (.d2 (.d1 .nil))) .nil) e (.inl e) e e) e e (.p e (.askO (x := .t 13) e h (fun g160 h => ?_) (fun g160 h => ?_)))
  ·refine OpsD.gp e g160 e (.gp e g160 e ?_)
   obtain ⟨y161,hy161,h⟩ := bindO h
   refine OpsD.gs (s := 9272) e g160 (Ev.call [] [] 0 (sem_impl_LogTerm _ _ _ _ hy161) e e (.cons (.agg (.d2 (.d1 .nil))) (.d1 .nil)) e (.inl e) e e) e e (.gp e g160 e (.gp e g160 e (.z 9320 (.pkT e g160 e) e e (.p e (.askO (x := .t 20) e h (fun g162 h => ?_) (fun g162 h => ?_))))))
   ·refine OpsD.gp e g162 e (.gp e g162 e (.gp e g162 e (.gp e g162 e ?_)))
    obtain ⟨y163,hy163,h⟩ := bindO h
    refine OpsD.gs (s := 9416) e g162 (Ev.call [] [] 0 (sem_impl_last _ _ _ hy163) e e (.cons (.agg (.d2 (.d1 .nil))) .nil) e (.inl e) e e) e e ?_
    obtain ⟨y164,hy164,h⟩ := bindO h
    refine OpsD.gs (s := 9432) e g162 (Ev.call [] [] 0 (sem_impl_within _ _ _ _ _ hy164) e e (.d2 (.d1 .nil)) e (.inl e) e e) e e (.z 9448 (.pkT e g162 e) e e (.nil ⟨by kernel_rfl,?_⟩))
    refine Run.condO e h (fun g165 h => ?_) (fun g165 h => ?_)
    ·refine Run.draw hm hmix (.p e (.p e (.p e (.p e (.p e (.p e (.p e (.p e ?_))))))))
     obtain ⟨x168,hx168,h⟩ := bindO h
     refine OpsD.z 13416 (Ev.slFl e e hx168) e e ?_
     obtain ⟨x169,hx169,h⟩ := bindO h
     refine OpsD.z 13432 (Ev.apW (f := encEntry) (ontoN (f := encEntry) e) (addsF e) e bt141 e hx169) e e (.p e (.y 13464 (.sto e e e e e e) e e (.nil ⟨by kernel_rfl,?_⟩)))
     exact ⟨_,_,(Gh.trans (Gh.trans (gh_prn [6,7] [1016,5144,13432] hB e) (gh_nil [] [1016] hB e e e)) (gh_pk [6,7] [1016,5144,20000000,13432] hB e e e e)),_,h,e,e⟩
    ·exact Run.skip (⟨_,_,(Gh.trans (Gh.trans (gh_prn [6,7] [1016,5144] hB e) (gh_nil [] [1016,5144] hB e e e)) (gh_pk [6,7] [1016,5144,20000000,20000064] hB e e e e)),_,h,e,e⟩)
   ·refine OpsD.gn e g162 (.gn e g162 (.gn e g162 (.gn e g162 (.gn e g162 (.gn e g162 (.z 9448 (.pkF e g162 e) e e (.nil ⟨by kernel_rfl,?_⟩)))))))
    exact Run.condF e e (.skip (⟨_,_,(Gh.trans (Gh.trans (gh_prn [6,7] [1016,5144] hB e) (gh_nil [] [1016,5144] hB e e e)) (gh_pk [6,7] [1016,5144,20000000,20000064] hB e e e e)),_,h,e,e⟩))
  ·refine OpsD.gn e g160 (.gn e g160 (.gn e g160 (.gn e g160 (.gn e g160 (.z 9320 (.pkF e g160 e) e e (.p e (.gn e e (.gn e e (.gn e e (.gn e e (.gn e e (.gn e e (.z 9448 (.pkF e e e) e e (.nil ⟨by kernel_rfl,?_⟩))))))))))))))
   exact Run.condF e e (.skip (⟨_,_,(Gh.trans (Gh.trans (gh_prn [6,7] [1016,5144] hB e) (gh_nil [] [1016,5144] hB e e e)) (gh_pk [6,7] [1016,5144,20000000,20000064] hB e e e e)),_,h,e,e⟩))
 ·refine Run.so hm (.p e (.y 17400 (.sto e e e e e e) e e (.nil (.ret ?_))))
  obtain rfl := someO h
  exact Ends.mkG (.inl e) e (gh_pk [0] [3] hB e e e e) e e
def impl_ReadVotes_l1 (N : Nat) (y134 : (List ByteArray) × Int) : Nat → Option (Unit)
 | 0 => none
 | m + 1 =>
 (if (decide (0 < ((y134.1.length : Nat) : Int))) = true then
 none
 else
 some ())
def impl_ReadVotes (N : Nat) (x1 : ByteArray) : Option (Int × Int × Int) :=
 (impl_Unframe N x1).bind fun y134 =>
 joinP (fun (v147 : Unit) =>
 (if (!false) = true then
 some (0,0,0)
 else
 some (0,0,y134.2))) fun j147 =>
 (impl_ReadVotes_l1 N y134 N).bind (fun v156 => j147 ())
theorem sem_impl_ReadVotes (N : Nat) (x1 : ByteArray) (r : Int × Int × Int) (h : impl_ReadVotes N x1 = some r) : Says Tryz.prog 111 [VS x1] 0 [] (.tup [VI r.1,VI r.2.1,VI r.2.2]) [] := by
 unfold impl_ReadVotes at h
 refine Says.of_norm e Tryz.call111 e fun B hB => ?_
 have hm : B.m ≤ 1000 := by omega
 refine Run.so hm (.p3 e e e (.nil (.so hm (.p e ?_))))
 obtain ⟨y134,hy134,h⟩ := bindO h
 refine Ops.z 5112 (Ev.call [] [] 1 (sem_impl_Unframe _ _ _ hy134) e e (.d1 .nil) e (.inl e) e e) e e (.p3 e e e (.p2 e e (.nil (.so hm (.p3 e e e (.nil (.seqO h (fun v147 => [(6,VI y134.2),(7,VI 0),(8,VI 0),(9,VB false)]) (fun (v147 : Unit) => []) (fun h => ?_) (fun v147 h => ?_))))))))
 ·refine Run.so hm (.p3 e e e (.nil (.block ?_)))
  obtain ⟨res156,h,hk156⟩ := bindO h
  refine Run.loop (n := N) (fun m156 fr σ => impl_ReadVotes_l1 N y134 m156 = some res156 ∧ fr = [(6,VI y134.2),(7,VI 0),(8,VI 0),(9,VB false),(23,VI ((y134.1.length : Nat) : Int)),(24,VI 0)] ∧ σ = []) (gh_pk [6,7,8,9,23,24] [] hB e e e e) ⟨h,e,e⟩ ?_
  rintro m156 fr σ ⟨h,rfl,rfl⟩
  obtain _ | m156 := m156
  ·rw [impl_ReadVotes_l1] at h; cases h
  rw [impl_ReadVotes_l1] at h
  refine Run.so hm (.p e (.nil (.seq (.condO e h (fun g159 h => ?_) (fun g159 h => ?_)))))
  ·exact noO h
  ·refine Run.exit ?_
   obtain rfl := someO h
   have h := hk156
   exact ⟨_,_,(gh_pk [6,7,8,9] [] hB e e e e),(),h,e,e⟩
 ·refine Run.seq (.so hm (.p2 e e (.nil (.condO e h (fun g161 h => ?_) (fun g161 h => ?_)))))
  ·refine Run.so hm (.p3 e e e (.nil (.ret ?_)))
   obtain rfl := someO h
   exact Ends.mkG (.inl e) e (gh_pk [0,1,2] [] hB e e e e) e e
  ·refine Run.skip (.so hm (.p3 e e e (.p3 e e e (.nil (.ret ?_)))))
   obtain rfl := someO h
   exact Ends.mkG (.inl e) e (gh_pk [0,1,2] [] hB e e e e) e e
def impl_LogLast (N : Nat) (x1 : Log) : Option (Int × Int) :=
 (if ((x1.Entries.length : Int) == 0) = true then
 some (x1.Start,x1.StartTerm)
 else
 (at? x1.Entries (w64 ((x1.Entries.length : Int) - 1))).bind fun x107 =>
 some (w64 (x1.Start + (x1.Entries.length : Int)),x107.Term))
theorem sem_impl_LogLast (N : Nat) (x1 : Log) (r : Int × Int) (h : impl_LogLast N x1 = some r) : Says Tryz.prog 168 [.agg [VI x1.Start,VI x1.StartTerm,RO 141 (x1.Entries.map encEntry)]] 0 [] (.tup [VI r.1,VI r.2]) [] := by
 unfold impl_LogLast at h
 refine Says.of_norm e Tryz.call168 e fun B hB => ?_
 have hm : B.m ≤ 1000 := by omega
 refine Run.so hm (.z 1000 (.bx e e) e e (.p2 e e (.nil (.so hm (.p2 e e (.z 5128 (Ev.lnF e) e e (.p e (.nil (.seq (.so hm (.p2 e e (.nil (.condO e h (fun g105 h => ?_) (fun g105 h => ?_))))))))))))))
 ·refine Run.seq (.draw hm hmix (.p e (.p e (.p e (.p e (.p e (.p e (.nil ⟨by kernel_rfl,?_⟩))))))))
  refine Run.ret ?_
  obtain rfl := someO h
  exact Ends.mkG (.inl e) e (gh_pk [0,1] [] hB e e e e) e e
 ·refine Run.skip (.seq (.draw hm hmix (.p e (.p e (.p e (.p e (.p e (.p e (.p e (.p e ?_))))))))))
  obtain ⟨x107,hx107,h⟩ := bindO h
  refine OpsD.z 17512 (Ev.iaF e e hx107) e e (.p e (.p e (.p e (.p e (.nil ⟨by kernel_rfl,?_⟩)))))
  refine Run.ret ?_
  obtain rfl := someO h
  exact Ends.mkG (.inl e) e (gh_pk [0,1] [] hB e e e e) e e
def impl_NodeOk_l1 (N : Nat) (x1 : Node) : Nat → Option (Unit)
 | 0 => none
 | m + 1 =>
 (if (decide (0 < (x1.Votes.length : Int))) = true then
 none
 else
 some ())
def impl_NodeOk (N : Nat) (x1 : Node) : Option (Bool) :=
 (impl_within N x1.Id 1 4).bind fun y250 =>
 (if (!y250) = true then
 some false
 else
 (impl_ConfOk N x1.Conf).bind fun y252 =>
 (if (!y252) = true then
 some false
 else
 (impl_LogOk N x1.Log).bind fun y254 =>
 (if (!y254) = true then
 some false
 else
 (impl_LogLast N x1.Log).bind fun y259 =>
 (impl_within N x1.Term y259.2 100000).bind fun y300 =>
 (if (!y300) = true then
 some false
 else
 (impl_within N x1.Vote 0 4).bind fun y302 =>
 (if (!y302) = true then
 some false
 else
 (impl_within N x1.Lead 0 4).bind fun y304 =>
 (if (!y304) = true then
 some false
 else
 (impl_within N x1.Role 0 2).bind fun y306 =>
 (if (!y306) = true then
 some false
 else
 (impl_within N x1.Commit x1.Log.Start y259.1).bind fun y308 =>
 (if (!y308) = true then
 some false
 else
 (impl_within N x1.Limit 1 20).bind fun y310 =>
 (if (!y310) = true then
 some false
 else
 (impl_within N x1.Clock 0 20).bind fun y312 =>
 (if (!y312) = true then
 some false
 else
 joinP (fun (v336 : Unit) =>
 joinP (fun (v362 : Unit) =>
 (if (x1.Role == 2) = true then
 none
 else
 some ((x1.Peers.length : Int) == 0))) fun j362 =>
 (if (x1.Role != 1) = true then
 (if (decide ((x1.Votes.length : Int) > 0)) = true then
 some false
 else
 j362 ())
 else
 j362 ())) fun j336 =>
 (impl_NodeOk_l1 N x1 N).bind (fun v355 => j336 ())))))))))))
theorem sem_impl_NodeOk (N : Nat) (x1 : Node) (r : Bool) (h : impl_NodeOk N x1 = some r) : Says Tryz.prog 112 [.agg [VI x1.Id,VI x1.Term,VI x1.Vote,VI x1.Role,VI x1.Lead,RO 3 (x1.Conf.map encI),VI x1.Log.Start,VI x1.Log.StartTerm,RO 141 (x1.Log.Entries.map encEntry),VI x1.Commit,VI x1.Clock,VI x1.Limit,RO 3 (x1.Votes.map encI),RO 158 (x1.Peers.map encPeer)]] 0 [] (VB r) [] := by
 unfold impl_NodeOk at h
 refine Says.of_norm e Tryz.call112 e fun B hB => ?_
 have hm : B.m ≤ 1000 := by omega
 refine Run.so hm (.z 1000 (.bx e e) e e (.p e (.nil (.seq (.so hm (.p2 e e ?_))))))
 obtain ⟨y250,hy250,h⟩ := bindO h
 refine Ops.z 5128 (Ev.call [] [] 0 (sem_impl_within _ _ _ _ _ hy250) e e (.d2 (.d1 .nil)) e (.inl e) e e) e e (.p2 e e (.askO (x := .t 11) e h (fun g251 h => ?_) (fun g251 h => ?_)))
 ·refine Ops.gn e g251 (.gn e g251 (.gn e g251 (.gn e g251 (.z 5240 (.pkT e g251 e) e e (.p e (.gn e e (.gn e e (.gn e e (.gn e e (.z 5336 (.pkT e e e) e e (.nil (.condT e e (.so hm (.p e (.nil (.ret ?_))))))))))))))))
  obtain rfl := someO h
  exact Ends.mkG (.inl e) e (gh_pk [0] [] hB e e e e) e e
 ·refine Ops.gp e g251 e (.gp e g251 e ?_)
  obtain ⟨y252,hy252,h⟩ := bindO h
  refine Ops.gs (s := 5208) e g251 (Ev.call [] [] 0 (sem_impl_ConfOk _ _ _ hy252) e e (.d1 .nil) e (.inl e) e e) e e (.gp e g251 e (.z 5240 (.pkF e g251 e) e e (.p e (.askO (x := .t 17) e h (fun g253 h => ?_) (fun g253 h => ?_)))))
  ·refine Ops.gn e g253 (.gn e g253 (.gn e g253 (.gn e g253 (.z 5336 (.pkT e g253 e) e e (.nil (.condT e e (.so hm (.p e (.nil (.ret ?_))))))))))
   obtain rfl := someO h
   exact Ends.mkG (.inl e) e (gh_pk [0] [] hB e e e e) e e
  ·refine Ops.gp e g253 e (.gp e g253 e ?_)
   obtain ⟨y254,hy254,h⟩ := bindO h
   refine Ops.gs (s := 5304) e g253 (Ev.call [] [] 0 (sem_impl_LogOk _ _ _ hy254) e e (.cons (.agg (.d2 (.d1 .nil))) .nil) e (.inl e) e e) e e (.gp e g253 e (.z 5336 (.pkF e g253 e) e e (.nil (.condO e h (fun g255 h => ?_) (fun g255 h => ?_)))))
   ·refine Run.so hm (.p e (.nil (.ret ?_)))
    obtain rfl := someO h
    exact Ends.mkG (.inl e) e (gh_pk [0] [] hB e e e e) e e
   ·refine Run.skip (.so hm (.p2 e e ?_))
    obtain ⟨y259,hy259,h⟩ := bindO h
    refine Ops.z 13320 (Ev.call [] [] 0 (sem_impl_LogLast _ _ _ hy259) e e (.cons (.agg (.d2 (.d1 .nil))) .nil) e (.inl e) e e) e e (.p3 e e e (.p2 e e (.nil (.seq (.so hm (.p3 e e e ?_))))))
    obtain ⟨y300,hy300,h⟩ := bindO h
    refine Ops.z 17432 (Ev.call [] [] 0 (sem_impl_within _ _ _ _ _ hy300) e e (.d2 (.d1 .nil)) e (.inl e) e e) e e (.p2 e e (.askO (x := .t 34) e h (fun g301 h => ?_) (fun g301 h => ?_)))
    ·refine Ops.gn e g301 (.gn e g301 (.gn e g301 (.gn e g301 (.z 17544 (.pkT e g301 e) e e (.p e (.gn e e (.gn e e (.gn e e (.gn e e (.z 17640 (.pkT e e e) e e (.p e (.gn e e (.gn e e (.gn e e (.gn e e (.z 17736 (.pkT e e e) e e (.p e (.gn e e (.gn e e (.gn e e (.gn e e (.gn e e (.gn e e (.gn e e (.gn e e (.z 17896 (.pkT e e e) e e (.p e (.gn e e (.gn e e (.gn e e (.gn e e (.z 17992 (.pkT e e e) e e (.p e (.gn e e (.gn e e (.gn e e (.gn e e (.z 18088 (.pkT e e e) e e (.nil (.condT e e (.so hm (.p e (.nil (.ret ?_))))))))))))))))))))))))))))))))))))))))))))
     obtain rfl := someO h
     exact Ends.mkG (.inl e) e (gh_pk [0] [] hB e e e e) e e
    ·refine Ops.gp e g301 e (.gp e g301 e ?_)
     obtain ⟨y302,hy302,h⟩ := bindO h
     refine Ops.gs (s := 17512) e g301 (Ev.call [] [] 0 (sem_impl_within _ _ _ _ _ hy302) e e (.d2 (.d1 .nil)) e (.inl e) e e) e e (.gp e g301 e (.z 17544 (.pkF e g301 e) e e (.p e (.askO (x := .t 40) e h (fun g303 h => ?_) (fun g303 h => ?_)))))
     ·refine Ops.gn e g303 (.gn e g303 (.gn e g303 (.gn e g303 (.z 17640 (.pkT e g303 e) e e (.p e (.gn e e (.gn e e (.gn e e (.gn e e (.z 17736 (.pkT e e e) e e (.p e (.gn e e (.gn e e (.gn e e (.gn e e (.gn e e (.gn e e (.gn e e (.gn e e (.z 17896 (.pkT e e e) e e (.p e (.gn e e (.gn e e (.gn e e (.gn e e (.z 17992 (.pkT e e e) e e (.p e (.gn e e (.gn e e (.gn e e (.gn e e (.z 18088 (.pkT e e e) e e (.nil (.condT e e (.so hm (.p e (.nil (.ret ?_))))))))))))))))))))))))))))))))))))))
      obtain rfl := someO h
      exact Ends.mkG (.inl e) e (gh_pk [0] [] hB e e e e) e e
     ·refine Ops.gp e g303 e (.gp e g303 e ?_)
      obtain ⟨y304,hy304,h⟩ := bindO h
      refine Ops.gs (s := 17608) e g303 (Ev.call [] [] 0 (sem_impl_within _ _ _ _ _ hy304) e e (.d2 (.d1 .nil)) e (.inl e) e e) e e (.gp e g303 e (.z 17640 (.pkF e g303 e) e e (.p e (.askO (x := .t 46) e h (fun g305 h => ?_) (fun g305 h => ?_)))))
      ·refine Ops.gn e g305 (.gn e g305 (.gn e g305 (.gn e g305 (.z 17736 (.pkT e g305 e) e e (.p e (.gn e e (.gn e e (.gn e e (.gn e e (.gn e e (.gn e e (.gn e e (.gn e e (.z 17896 (.pkT e e e) e e (.p e (.gn e e (.gn e e (.gn e e (.gn e e (.z 17992 (.pkT e e e) e e (.p e (.gn e e (.gn e e (.gn e e (.gn e e (.z 18088 (.pkT e e e) e e (.nil (.condT e e (.so hm (.p e (.nil (.ret ?_))))))))))))))))))))))))))))))))
       obtain rfl := someO h
       exact Ends.mkG (.inl e) e (gh_pk [0] [] hB e e e e) e e
      ·refine Ops.gp e g305 e (.gp e g305 e ?_)
       obtain ⟨y306,hy306,h⟩ := bindO h
       refine Ops.gs (s := 17704) e g305 (Ev.call [] [] 0 (sem_impl_within _ _ _ _ _ hy306) e e (.d2 (.d1 .nil)) e (.inl e) e e) e e (.gp e g305 e (.z 17736 (.pkF e g305 e) e e (.p e (.askO (x := .t 52) e h (fun g307 h => ?_) (fun g307 h => ?_)))))
       ·refine Ops.gn e g307 (.gn e g307 (.gn e g307 (.gn e g307 (.gn e g307 (.gn e g307 (.gn e g307 (.gn e g307 (.z 17896 (.pkT e g307 e) e e (.p e (.gn e e (.gn e e (.gn e e (.gn e e (.z 17992 (.pkT e e e) e e (.p e (.gn e e (.gn e e (.gn e e (.gn e e (.z 18088 (.pkT e e e) e e (.nil (.condT e e (.so hm (.p e (.nil (.ret ?_))))))))))))))))))))))))))
        obtain rfl := someO h
        exact Ends.mkG (.inl e) e (gh_pk [0] [] hB e e e e) e e
       ·refine Ops.gp e g307 e (.gp e g307 e (.gp e g307 e (.gp e g307 e (.gp e g307 e (.gp e g307 e ?_)))))
        obtain ⟨y308,hy308,h⟩ := bindO h
        refine Ops.gs (s := 17864) e g307 (Ev.call [] [] 0 (sem_impl_within _ _ _ _ _ hy308) e e (.d2 (.d1 .nil)) e (.inl e) e e) e e (.gp e g307 e (.z 17896 (.pkF e g307 e) e e (.p e (.askO (x := .t 62) e h (fun g309 h => ?_) (fun g309 h => ?_)))))
        ·refine Ops.gn e g309 (.gn e g309 (.gn e g309 (.gn e g309 (.z 17992 (.pkT e g309 e) e e (.p e (.gn e e (.gn e e (.gn e e (.gn e e (.z 18088 (.pkT e e e) e e (.nil (.condT e e (.so hm (.p e (.nil (.ret ?_))))))))))))))))
         obtain rfl := someO h
         exact Ends.mkG (.inl e) e (gh_pk [0] [] hB e e e e) e e
        ·refine Ops.gp e g309 e (.gp e g309 e ?_)
         obtain ⟨y310,hy310,h⟩ := bindO h
         refine Ops.gs (s := 17960) e g309 (Ev.call [] [] 0 (sem_impl_within _ _ _ _ _ hy310) e e (.d2 (.d1 .nil)) e (.inl e) e e) e e (.gp e g309 e (.z 17992 (.pkF e g309 e) e e (.p e (.askO (x := .t 68) e h (fun g311 h => ?_) (fun g311 h => ?_)))))
         ·refine Ops.gn e g311 (.gn e g311 (.gn e g311 (.gn e g311 (.z 18088 (.pkT e g311 e) e e (.nil (.condT e e (.so hm (.p e (.nil (.ret ?_))))))))))
          obtain rfl := someO h
          exact Ends.mkG (.inl e) e (gh_pk [0] [] hB e e e e) e e
         ·refine Ops.gp e g311 e (.gp e g311 e ?_)
          obtain ⟨y312,hy312,h⟩ := bindO h
          refine Ops.gs (s := 18056) e g311 (Ev.call [] [] 0 (sem_impl_within _ _ _ _ _ hy312) e e (.d2 (.d1 .nil)) e (.inl e) e e) e e (.gp e g311 e (.z 18088 (.pkF e g311 e) e e (.nil (.condO e h (fun g313 h => ?_) (fun g313 h => ?_)))))
          ·refine Run.so hm (.p e (.nil (.ret ?_)))
           obtain rfl := someO h
           exact Ends.mkG (.inl e) e (gh_pk [0] [] hB e e e e) e e
          ·refine Run.skip (.seqO h (fun v336 => [(1,.ptr 0 0)]) (fun (v336 : Unit) => [(0,.box [VI x1.Id,VI x1.Term,VI x1.Vote,VI x1.Role,VI x1.Lead,RO 3 (x1.Conf.map encI),VI x1.Log.Start,VI x1.Log.StartTerm,RO 141 (x1.Log.Entries.map encEntry),VI x1.Commit,VI x1.Clock,VI x1.Limit,RO 3 (x1.Votes.map encI),RO 158 (x1.Peers.map encPeer)])]) (fun h => ?_) (fun v336 h => ?_))
           ·refine Run.so hm (.p2 e e (.z 25608 (Ev.lnF e) e e (.p e (.nil (.block ?_)))))
            obtain ⟨res355,h,hk355⟩ := bindO h
            refine Run.loop (n := N) (fun m355 fr σ => impl_NodeOk_l1 N x1 m355 = some res355 ∧ fr = [(1,.ptr 0 0),(76,VI (x1.Votes.length : Int)),(77,VI 0)] ∧ σ = [(0,.box [VI x1.Id,VI x1.Term,VI x1.Vote,VI x1.Role,VI x1.Lead,RO 3 (x1.Conf.map encI),VI x1.Log.Start,VI x1.Log.StartTerm,RO 141 (x1.Log.Entries.map encEntry),VI x1.Commit,VI x1.Clock,VI x1.Limit,RO 3 (x1.Votes.map encI),RO 158 (x1.Peers.map encPeer)])]) (gh_pk [1,76,77] [1000] hB e e e e) ⟨h,e,e⟩ ?_
            rintro m355 fr σ ⟨h,rfl,rfl⟩
            obtain _ | m355 := m355
            ·rw [impl_NodeOk_l1] at h; cases h
            rw [impl_NodeOk_l1] at h
            refine Run.so hm (.p e (.nil (.seq (.condO e h (fun g358 h => ?_) (fun g358 h => ?_)))))
            ·exact noO h
            ·refine Run.exit ?_
             obtain rfl := someO h
             have h := hk355
             exact ⟨_,_,(gh_pk [1] [0] hB e e e e),(),h,e,e⟩
           ·refine Run.seqO h (fun v362 => [(1,.ptr 0 0)]) (fun (v362 : Unit) => [(0,.box [VI x1.Id,VI x1.Term,VI x1.Vote,VI x1.Role,VI x1.Lead,RO 3 (x1.Conf.map encI),VI x1.Log.Start,VI x1.Log.StartTerm,RO 141 (x1.Log.Entries.map encEntry),VI x1.Commit,VI x1.Clock,VI x1.Limit,RO 3 (x1.Votes.map encI),RO 158 (x1.Peers.map encPeer)])]) (fun h => ?_) (fun v362 h => ?_)
            ·refine Run.so hm (.p3 e e e (.p e (.askO (x := .t 103) e h (fun g364 h => ?_) (fun g364 h => ?_))))
             ·refine Ops.gp e g364 e (.gp e g364 e (.gs (s := 50248) e g364 (Ev.lnF e) e e (.gp e g364 e (.z 50280 (.pkT e g364 e) e e (.nil (.condO e h (fun g365 h => ?_) (fun g365 h => ?_)))))))
              ·refine Run.so hm (.p e (.nil (.ret ?_)))
               obtain rfl := someO h
               exact Ends.mkG (.inl e) e (gh_pk [0] [] hB e e e e) e e
              ·exact Run.skip (⟨_,_,(gh_pk [1] [0] hB e e e e),(),h,e,e⟩)
             ·exact Ops.gn e g364 (.gn e g364 (.gn e g364 (.gn e g364 (.z 50280 (.pkF e g364 e) e e (.nil (.condF e e (.skip (⟨_,_,(gh_pk [1] [0] hB e e e e),(),h,e,e⟩))))))))
            ·refine Run.seq (.so hm (.p3 e e e (.nil (.condO e h (fun g367 h => ?_) (fun g367 h => ?_)))))
             ·exact Run.so hm (.p e (noO h))
             ·refine Run.skip (.so hm (.p2 e e (.z 66568 (Ev.lnF e) e e (.p2 e e (.nil (.ret ?_))))))
              obtain rfl := someO h
              exact Ends.mkG (.inl e) e (gh_pk [0] [] hB e e e e) e e
def slices_Equal_Entry_l1 (N : Nat) (x1 : (List Entry)) (x2 : (List Entry)) : Nat → Int → Option ((Bool) ⊕ (Unit))
 | 0,_ => none
 | m + 1,x172 =>
 (if (decide (x172 < (x1.length : Int))) = true then
 (at? x1 x172).bind fun x187 =>
 (at? x2 x172).bind fun x188 =>
 (if (((x187.Term == x188.Term) && ((x187.Kind == x188.Kind) && (decide (x187.Data = x188.Data) && true))) ^^ true) = true then
 some (Sum.inl false)
 else
 slices_Equal_Entry_l1 N x1 x2 m (w64 (x172 + 1)))
 else
 some (Sum.inr ()))
def slices_Equal_Entry (N : Nat) (x1 : (List Entry)) (x2 : (List Entry)) : Option (Bool) :=
 (if ((x1.length : Int) != (x2.length : Int)) = true then
 some false
 else
 joinP (fun (v168 : Unit) =>
 some true) fun j168 =>
 (slices_Equal_Entry_l1 N x1 x2 N 0).bind (Sum.elim (fun v180 => some v180) (fun (v181 : Unit) => j168 ())))
theorem sem_slices_Equal_Entry (N : Nat) (x1 : (List Entry)) (x2 : (List Entry)) (r : Bool) (h : slices_Equal_Entry N x1 x2 = some r) : Says Tryz.prog 215 [RO 141 (x1.map encEntry),RO 141 (x2.map encEntry)] 0 [] (VB r) [] := by
 unfold slices_Equal_Entry at h
 refine Says.of_run s215 Tryz.call215 e fun B hB => ?_
 have hm : B.m ≤ 1000 := by omega
 refine Run.so hm (.p e (.nil (.seq (.so hm (.p e (.z 5112 (Ev.lnF e) e e (.p e (.z 5144 (Ev.lnF e) e e (.p e (.nil (.condO e h (fun g146 h => ?_) (fun g146 h => ?_))))))))))))
 ·refine Run.so hm (.p e (.nil (.ret ?_)))
  obtain rfl := someO h
  exact Ends.mkG (.inl e) e (gh_pk [0] [] hB e e e e) e e
 ·refine Run.skip (.seqO h (fun v168 => []) (fun (v168 : Unit) => []) (fun h => ?_) (fun v168 h => ?_))
  ·refine Run.so hm (.p e (.z 13304 (Ev.lnF e) e e (.p e (.nil (.block ?_)))))
   obtain ⟨res181,h,hk181⟩ := bindO h
   refine Run.loop (n := N) (fun m181 fr σ => ∃ (x172 : Int),slices_Equal_Entry_l1 N x1 x2 m181 x172 = some res181 ∧ fr = [(0,RO 141 (x1.map encEntry)),(1,RO 141 (x2.map encEntry)),(12,VI (x1.length : Int)),(13,VI x172)] ∧ σ = []) (gh_pk [0,1,12,13] [] hB e e e e) ⟨_,h,e,e⟩ ?_
   rintro m181 fr σ ⟨x172,h,rfl,rfl⟩
   obtain _ | m181 := m181
   ·rw [slices_Equal_Entry_l1] at h; cases h
   rw [slices_Equal_Entry_l1] at h
   refine Run.so hm (.p e (.nil (.seq (.condO e h (fun g184 h => ?_) (fun g184 h => ?_)))))
   ·refine Run.skip (.seq (.block (.so hm (.p2 e e (.nil (.seq (.draw hm hmix (.p e (.p e ?_)))))))))
    obtain ⟨x187,hx187,h⟩ := bindO h
    refine OpsD.z 25608 (Ev.iaF e e hx187) e e (.p e (.p e (.p e ?_)))
    obtain ⟨x188,hx188,h⟩ := bindO h
    refine OpsD.z 25672 (Ev.iaF e e hx188) e e (.p e (.p e (.nil ⟨by kernel_rfl,?_⟩)))
    refine Run.condO e h (fun g189 h => ?_) (fun g189 h => ?_)
    ·refine Run.so hm (.p e (.nil (.ret ?_)))
     obtain rfl := someO h
     have h := hk181
     replace h := inlO h
     obtain rfl := someO h
     exact Ends.mkG (.inl e) e (gh_pk [0] [] hB e e e e) e e
    ·exact Run.skip (.ops hm (.p2 e e (.nil (⟨m181,Nat.lt_succ_self m181,_,_,(gh_pk [0,1,12,13] [] hB e e e e),_,h,e,e⟩))))
   ·refine Run.exit ?_
    obtain rfl := someO h
    have h := hk181
    replace h := inrO h
    exact ⟨_,_,(gh_pk [] [] hB e e e e),(),h,e,e⟩
  ·refine Run.so hm (.p e (.nil (.ret ?_)))
   obtain rfl := someO h
   exact Ends.mkG (.inl e) e (gh_pk [0] [] hB e e e e) e e
def impl_sameLog (N : Nat) (x1 : Log) (x2 : Log) : Option (Bool) :=
 (if (x1.Start == x2.Start) = true then
 (if (x1.StartTerm == x2.StartTerm) = true then
 (slices_Equal_Entry N x1.Entries x2.Entries).bind fun y111 =>
 some y111
 else
 some false)
 else
 some false)
theorem sem_impl_sameLog (N : Nat) (x1 : Log) (x2 : Log) (r : Bool) (h : impl_sameLog N x1 x2 = some r) : Says Tryz.prog 170 [.agg [VI x1.Start,VI x1.StartTerm,RO 141 (x1.Entries.map encEntry)],.agg [VI x2.Start,VI x2.StartTerm,RO 141 (x2.Entries.map encEntry)]] 0 [] (VB r) [] := by
 unfold impl_sameLog at h
 refine Says.of_norm e Tryz.call170 e fun B hB => ?_
 have hm : B.m ≤ 1000 := by omega
 refine Run.so hm (.z 1000 (.bx e e) e e (.z 1016 (.bx e e) e e (.p e (.nil (.so hm (.p3 e e e (.p3 e e e (.askO (x := .t 10) e h (fun g109 h => ?_) (fun g109 h => ?_)))))))))
 ·refine Ops.gp e g109 e (.gp e g109 e (.gp e g109 e (.gp e g109 e (.gp e g109 e (.z 5272 (.pkT e g109 e) e e (.p e (.askO (x := .t 17) e h (fun g110 h => ?_) (fun g110 h => ?_))))))))
  ·refine Ops.gp e g110 e (.gp e g110 e (.gp e g110 e (.gp e g110 e ?_)))
   obtain ⟨y111,hy111,h⟩ := bindO h
   refine Ops.gs (s := 5368) e g110 (Ev.call [] [] 0 (sem_slices_Equal_Entry _ _ _ _ hy111) e e (.d2 .nil) e (.inl e) e e) e e (.z 5384 (.pkT e g110 e) e e (.p e (.nil (.ret ?_))))
   obtain rfl := someO h
   exact Ends.mkG (.inl e) e (gh_pk [0] [] hB e e e e) e e
  ·refine Ops.gn e g110 (.gn e g110 (.gn e g110 (.gn e g110 (.gn e g110 (.z 5384 (.pkF e g110 e) e e (.p e (.nil (.ret ?_))))))))
   obtain rfl := someO h
   exact Ends.mkG (.inl e) e (gh_pk [0] [] hB e e e e) e e
 ·refine Ops.gn e g109 (.gn e g109 (.gn e g109 (.gn e g109 (.gn e g109 (.z 5272 (.pkF e g109 e) e e (.p e (.gn e e (.gn e e (.gn e e (.gn e e (.gn e e (.z 5384 (.pkF e e e) e e (.p e (.nil (.ret ?_)))))))))))))))
  obtain rfl := someO h
  exact Ends.mkG (.inl e) e (gh_pk [0] [] hB e e e e) e e
def impl_logMended (N : Nat) (x1 : Disk) (x2 : ByteArray) (x3 : Int) (x4 : Log) (x5 : Log) : Option ((List Raw)) :=
 (impl_sameLog N x4 x5).bind fun y148 =>
 (if (!y148) = true then
 (impl_LogFile N x5).bind fun y153 =>
 some ([(Raw.mk 1 (⟨#[108,111,103,43]⟩ : ByteArray) (⟨#[]⟩ : ByteArray) y153.1),(Raw.mk 3 (⟨#[108,111,103,43]⟩ : ByteArray) (⟨#[108,111,103]⟩ : ByteArray) (⟨#[]⟩ : ByteArray))] : List Raw)
 else
 joinP (fun (v159 : (List Raw)) =>
 joinP (fun (v172 : (List Raw)) =>
 some v172) fun j172 =>
 (impl_FileAt N x1 (⟨#[108,111,103,43]⟩ : ByteArray)).bind fun y176 =>
 (if y176.2 = true then
 (cat? v159 ([(Raw.mk 4 (⟨#[108,111,103,43]⟩ : ByteArray) (⟨#[]⟩ : ByteArray) (⟨#[]⟩ : ByteArray))] : List Raw)).bind fun x179 =>
 j172 x179
 else
 j172 v159)) fun j159 =>
 (if (decide (x3 < (x2.size : Int))) = true then
 (stake? x2 x3).bind fun x163 =>
 (cat? ([] : List Raw) ([(Raw.mk 1 (⟨#[108,111,103]⟩ : ByteArray) (⟨#[]⟩ : ByteArray) x163)] : List Raw)).bind fun x164 =>
 j159 x164
 else
 j159 ([] : (List Raw))))
theorem sem_impl_logMended (N : Nat) (x1 : Disk) (x2 : ByteArray) (x3 : Int) (x4 : Log) (x5 : Log) (r : (List Raw)) (h : impl_logMended N x1 x2 x3 x4 x5 = some r) : Says Tryz.prog 113 [.agg [RO 98 (x1.Files.map encFile)],VS x2,VI x3,.agg [VI x4.Start,VI x4.StartTerm,RO 141 (x4.Entries.map encEntry)],.agg [VI x5.Start,VI x5.StartTerm,RO 141 (x5.Entries.map encEntry)]] 0 [] (.sl 0 107 0 r.length) [(0,.vec 107 (r.map encRaw))] := by
 unfold impl_logMended at h
 refine Says.of_norm e Tryz.call113 e fun B hB => ?_
 have hm : B.m ≤ 1000 := by omega
 refine Run.so hm (.z 1000 (.bx e e) e e (.z 1016 (.bx e e) e e (.z 1032 (.bx e e) e e (.p e (.nil (.seq (.so hm (.p2 e e ?_))))))))
 obtain ⟨y148,hy148,h⟩ := bindO h
 refine Ops.z 5128 (Ev.call [] [] 0 (sem_impl_sameLog _ _ _ _ hy148) e e (.cons (.agg (.d2 (.d1 .nil))) (.cons (.agg (.d2 (.d1 .nil))) .nil)) e (.inl e) e e) e e (.p e (.nil (.condO e h (fun g149 h => ?_) (fun g149 h => ?_))))
 ·refine Run.so hm (.p e ?_)
  obtain ⟨y153,hy153,h⟩ := bindO h
  refine Ops.z 9208 (Ev.call [] [] 0 (sem_impl_LogFile _ _ _ hy153) e e (.cons (.agg (.d2 (.d1 .nil))) .nil) e (.inl e) e e) e e (.p3 e e e (.p2 e e (.nil (.so hm (.p e (.z 13304 (.bd e e) e e (.z 13320 (.bd e e) e e (.z 13336 (Ev.bsW (ys := ([(Raw.mk 1 (⟨#[108,111,103,43]⟩ : ByteArray) (⟨#[]⟩ : ByteArray) y153.1),(Raw.mk 3 (⟨#[108,111,103,43]⟩ : ByteArray) (⟨#[108,111,103]⟩ : ByteArray) (⟨#[]⟩ : ByteArray))] : List Raw)) (f := encRaw) e (.d4 (.d4 .nil)) e e e e e) e e (.p e (.nil (.ret ?_)))))))))))
  obtain rfl := someO h
  exact Ends.mkG (.inl e) e (gh_pk [0] [13336] hB e e e e) e e
 ·refine Run.skip (.so hm (.p e (.nil (.seqO h (fun v159 => [(5,.ptr 0 0),(13,.sl 1 107 0 v159.length)]) (fun (v159 : (List Raw)) => [(0,.box [RO 98 (x1.Files.map encFile)]),(1,.vec 107 (v159.map encRaw))]) (fun h => ?_) (fun v159 h => ?_)))))
  ·refine Run.so hm (.p3 e e e (.p e (.nil (.condO e h (fun g160 h => ?_) (fun g160 h => ?_)))))
   ·refine Run.ops hm (.p3 e e e ?_)
    obtain ⟨x163,hx163,h⟩ := bindO h
    refine Ops.z 25624 (Ev.ssH e e hx163) e e (.z 25640 (.bd e e) e e (.z 25656 (Ev.bsW (ys := ([(Raw.mk 1 (⟨#[108,111,103]⟩ : ByteArray) (⟨#[]⟩ : ByteArray) x163)] : List Raw)) (f := encRaw) e (.d4 .nil) e e e e e) e e ?_))
    obtain ⟨x164,hx164,h⟩ := bindO h
    exact Ops.z 25672 (Ev.apW (f := encRaw) (ontoN (f := encRaw) e) (addsW e e e (fun _ => e)) e bt107 e hx164) e e (.p e (.nil (⟨_,_,(gh_pk [5,13] [1000,25672] hB e e e e),_,h,e,e⟩)))
   ·exact Run.skip (⟨_,_,(Gh.trans (Gh.trans (gh_prn [5,13] [1000] hB e) (gh_nil [13] [] hB e e e)) (gh_pk [5,13] [1000,10000000] hB e e e e)),_,h,e,e⟩)
  ·refine Run.seqO h (fun v172 => [(13,.sl 0 107 0 v172.length)]) (fun (v172 : (List Raw)) => [(0,.vec 107 (v172.map encRaw))]) (fun h => ?_) (fun v172 h => ?_)
   ·refine Run.so hm (.p e ?_)
    obtain ⟨y176,hy176,h⟩ := bindO h
    refine Ops.z 29688 (Ev.call [] [] 0 (sem_impl_FileAt _ _ _ _ hy176) e e (.cons (.agg (.d1 .nil)) (.d1 .nil)) e (.inl e) e e) e e (.p3 e e e (.p2 e e (.nil (.so hm (.p e (.nil (.condO e h (fun g177 h => ?_) (fun g177 h => ?_))))))))
    ·refine Run.ops hm (.p e (.z 37880 (.bd e e) e e (.z 37896 (Ev.bsW (ys := ([(Raw.mk 4 (⟨#[108,111,103,43]⟩ : ByteArray) (⟨#[]⟩ : ByteArray) (⟨#[]⟩ : ByteArray))] : List Raw)) (f := encRaw) e (.d4 .nil) e e e e e) e e ?_)))
     obtain ⟨x179,hx179,h⟩ := bindO h
     exact Ops.z 37912 (Ev.apW (f := encRaw) (ontoW e e e) (addsW e e e (fun _ => e)) e bt107 e hx179) e e (.p e (.nil (⟨_,_,(gh_pk [13] [37912] hB e e e e),_,h,e,e⟩)))
    ·exact Run.skip (⟨_,_,(gh_pk [13] [1] hB e e e e),_,h,e,e⟩)
   ·refine Run.so hm (.p2 e e (.nil (.ret ?_)))
    obtain rfl := someO h
    exact Ends.mkG (.inl e) e (gh_pk [0] [0] hB e e e e) e e
def impl_PutRaws_l1 (N : Nat) (x2 : (List Raw)) : Nat → Option (Unit)
 | 0 => none
 | m + 1 =>
 (if (decide (0 < (x2.length : Int))) = true then
 none
 else
 some ())
def impl_PutRaws (N : Nat) (x1 : Disk) (x2 : (List Raw)) : Option (Disk × Int) :=
 (impl_DiskOk N x1).bind fun y144 =>
 (if (!y144) = true then
 some ((Disk.mk ([])),0)
 else
 (if (decide ((x2.length : Int) > 60)) = true then
 some ((Disk.mk ([])),0)
 else
 (impl_copyDisk N x1).bind fun y150 =>
 joinP (fun (v162 : Unit) =>
 some (y150,(x2.length : Int))) fun j162 =>
 (impl_PutRaws_l1 N x2 N).bind (fun v170 => j162 ())))
theorem sem_impl_PutRaws (N : Nat) (x1 : Disk) (x2 : (List Raw)) (r : Disk × Int) (h : impl_PutRaws N x1 x2 = some r) : Says Tryz.prog 114 [.agg [RO 98 (x1.Files.map encFile)],RO 107 (x2.map encRaw)] 0 [] (.tup [.agg [.sl 0 98 0 r.1.Files.length],VI r.2]) [(0,.vec 98 (r.1.Files.map encFile))] := by
 unfold impl_PutRaws at h
 refine Says.of_norm e Tryz.call114 e fun B hB => ?_
 have hm : B.m ≤ 1000 := by omega
 refine Run.so hm (.z 1000 (.bx e e) e e (.z 1016 (.al e e) e e (.p e (.nil (.seq (.so hm (.p e ?_)))))))
 obtain ⟨y144,hy144,h⟩ := bindO h
 refine Ops.z 5112 (Ev.call [] [] 0 (sem_impl_DiskOk _ _ _ hy144) e e (.cons (.agg (.d1 .nil)) .nil) e (.inl e) e e) e e (.p2 e e (.askO (x := .t 14) e h (fun g145 h => ?_) (fun g145 h => ?_)))
 ·refine Ops.gn e g145 (.gn e g145 (.gn e g145 (.z 5208 (.pkT e g145 e) e e (.nil (.condT e e (.so hm (.z 9192 (.bd e e) e e (.y 9208 (.sto e e e e e e) e e (.p e (.nil (.ret ?_)))))))))))
  obtain rfl := someO h
  exact Ends.mkG (.inl e) e (Gh.trans (Gh.trans (gh_prn [0,1] [] hB e) (gh_nil [0] [] hB e e e)) (gh_pk [0,1] [10000000] hB e e e e)) e e
 ·refine Ops.gp e g145 e (.gs (s := 5176) e g145 (Ev.lnF e) e e (.gp e g145 e (.z 5208 (.pkF e g145 e) e e (.nil (.condO e h (fun g146 h => ?_) (fun g146 h => ?_))))))
  ·refine Run.so hm (.z 9192 (.bd e e) e e (.y 9208 (.sto e e e e e e) e e (.p e (.nil (.ret ?_)))))
   obtain rfl := someO h
   exact Ends.mkG (.inl e) e (Gh.trans (Gh.trans (gh_prn [0,1] [] hB e) (gh_nil [0] [] hB e e e)) (gh_pk [0,1] [10000000] hB e e e e)) e e
  ·refine Run.skip (.so hm (.p e ?_))
   obtain ⟨y150,hy150,h⟩ := bindO h
   refine Ops.z 13304 (Ev.call [] [] 1 (sem_impl_copyDisk _ _ _ hy150) e e (.cons (.agg (.d1 .nil)) .nil) e (.inl e) e e) e e (.z 13320 (.al e e) e e (.y 13336 (.sto e e e e e e) e e (.nil (.seqO h (fun v162 => [(1,RO 107 (x2.map encRaw)),(4,.ptr 0 0),(6,.ptr 1 0)]) (fun (v162 : Unit) => [(0,.box [.sl 2 98 0 (([] : (List File)).length)]),(1,.box [.sl 3 98 0 y150.Files.length]),(2,.vec 98 (([] : (List File)).map encFile)),(3,.vec 98 (y150.Files.map encFile))]) (fun h => ?_) (fun v162 h => ?_)))))
   ·refine Run.so hm (.p e (.z 17400 (Ev.lnF e) e e (.p e (.nil (.block ?_)))))
    obtain ⟨res170,h,hk170⟩ := bindO h
    refine Run.loop (n := N) (fun m170 fr σ => impl_PutRaws_l1 N x2 m170 = some res170 ∧ fr = [(1,RO 107 (x2.map encRaw)),(4,.ptr 0 0),(6,.ptr 1 0),(23,VI (x2.length : Int)),(24,VI 0)] ∧ σ = [(0,.box [.sl 2 98 0 (([] : (List File)).length)]),(1,.box [.sl 3 98 0 y150.Files.length]),(2,.vec 98 (([] : (List File)).map encFile)),(3,.vec 98 (y150.Files.map encFile))]) (Gh.trans (Gh.trans (gh_prn [1,4,6,23,24] [1016,13320,13304] hB e) (gh_nil [] [1016] hB e e e)) (gh_pk [1,4,6,23,24] [1016,13320,20000000,13304] hB e e e e)) ⟨h,e,e⟩ ?_
    rintro m170 fr σ ⟨h,rfl,rfl⟩
    obtain _ | m170 := m170
    ·rw [impl_PutRaws_l1] at h; cases h
    rw [impl_PutRaws_l1] at h
    refine Run.so hm (.p e (.nil (.seq (.condO e h (fun g173 h => ?_) (fun g173 h => ?_)))))
    ·exact noO h
    ·refine Run.exit ?_
     obtain rfl := someO h
     have h := hk170
     exact ⟨_,_,(gh_pk [1,4,6] [0,1,2,3] hB e e e e),(),h,e,e⟩
   ·refine Run.so hm (.p2 e e (.z 50184 (Ev.lnF e) e e (.y 50200 (.sto e e e e e e) e e (.p e (.nil (.ret ?_))))))
    obtain rfl := someO h
    exact Ends.mkG (.inl e) e (gh_pk [0,1] [3] hB e e e e) e e
def impl_Boot (N : Nat) (x1 : Int) (x2 : Disk) (x3 : Int) : Option (Server × (List Raw) × Int) :=
 (impl_OpenShelf N x2).bind fun y183 =>
 (if (y183.2.2 != 0) = true then
 some ((Server.mk (Node.mk 0 0 0 0 0 ([]) (Log.mk 0 0 ([])) 0 0 0 ([]) ([])) (Disk.mk ([])) (Shelf.mk (Manifest.mk ([]) 0 0 0 ([])) ([]) 0) (⟨#[]⟩ : ByteArray) 0 0),[],1)
 else
 (impl_FileAt N x2 (⟨#[108,111,103]⟩ : ByteArray)).bind fun y189 =>
 (impl_ReadLog N y189.1).bind fun y193 =>
 (if (!y189.2) = true then
 some ((Server.mk (Node.mk 0 0 0 0 0 ([]) (Log.mk 0 0 ([])) 0 0 0 ([]) ([])) (Disk.mk ([])) (Shelf.mk (Manifest.mk ([]) 0 0 0 ([])) ([]) 0) (⟨#[]⟩ : ByteArray) 0 0),[],2)
 else
 (if (!y193.2.2) = true then
 some ((Server.mk (Node.mk 0 0 0 0 0 ([]) (Log.mk 0 0 ([])) 0 0 0 ([]) ([])) (Disk.mk ([])) (Shelf.mk (Manifest.mk ([]) 0 0 0 ([])) ([]) 0) (⟨#[]⟩ : ByteArray) 0 0),[],2)
 else
 (impl_LogBehind N y193.1 y183.1.Man.Base y183.1.Man.BaseTerm).bind fun y203 =>
 (impl_FileAt N x2 (⟨#[118,111,116,101]⟩ : ByteArray)).bind fun y207 =>
 (impl_ReadVotes N y207.1).bind fun y211 =>
 (cat? ([] : List Int) y183.1.Man.Conf).bind fun x215 =>
 (impl_NodeOk N (Node.mk x1 y211.1 y211.2.1 0 0 x215 y203 y183.1.Stamp 0 x3 ([]) ([]))).bind fun y220 =>
 (if (!y220) = true then
 some ((Server.mk (Node.mk 0 0 0 0 0 ([]) (Log.mk 0 0 ([])) 0 0 0 ([]) ([])) (Disk.mk ([])) (Shelf.mk (Manifest.mk ([]) 0 0 0 ([])) ([]) 0) (⟨#[]⟩ : ByteArray) 0 0),[],3)
 else
 (impl_logMended N x2 y189.1 y193.2.1 y193.1 y203).bind fun y228 =>
 (cat? y183.2.1 y228).bind fun x229 =>
 joinP (fun (v235 : (List Raw)) =>
 joinP (fun (v248 : (List Raw)) =>
 (impl_PutRaws N x2 v248).bind fun y259 =>
 some ((Server.mk (Node.mk x1 y211.1 y211.2.1 0 0 x215 y203 y183.1.Stamp 0 x3 ([]) ([])) y259.1 y183.1 (⟨#[]⟩ : ByteArray) 0 0),v248,0)) fun j248 =>
 (impl_FileAt N x2 (⟨#[118,111,116,101,43]⟩ : ByteArray)).bind fun y252 =>
 (if y252.2 = true then
 (cat? v235 ([(Raw.mk 4 (⟨#[118,111,116,101,43]⟩ : ByteArray) (⟨#[]⟩ : ByteArray) (⟨#[]⟩ : ByteArray))] : List Raw)).bind fun x255 =>
 j248 x255
 else
 j248 v235)) fun j235 =>
 (if (decide (y211.2.2 < (y207.1.size : Int))) = true then
 (stake? y207.1 y211.2.2).bind fun x239 =>
 (cat? x229 ([(Raw.mk 1 (⟨#[118,111,116,101]⟩ : ByteArray) (⟨#[]⟩ : ByteArray) x239)] : List Raw)).bind fun x240 =>
 j235 x240
 else
 j235 x229)))))
theorem sem_impl_Boot (N : Nat) (x1 : Int) (x2 : Disk) (x3 : Int) (r : Server × (List Raw) × Int) (h : impl_Boot N x1 x2 x3 = some r) : Says Tryz.prog 71 [VI x1,.agg [RO 98 (x2.Files.map encFile)],VI x3] 0 [] (.tup [.agg [VI r.1.Node.Id,VI r.1.Node.Term,VI r.1.Node.Vote,VI r.1.Node.Role,VI r.1.Node.Lead,.sl 0 3 0 r.1.Node.Conf.length,VI r.1.Node.Log.Start,VI r.1.Node.Log.StartTerm,.sl 1 141 0 r.1.Node.Log.Entries.length,VI r.1.Node.Commit,VI r.1.Node.Clock,VI r.1.Node.Limit,.sl 2 3 0 r.1.Node.Votes.length,.sl 3 158 0 r.1.Node.Peers.length,.sl 4 98 0 r.1.Disk.Files.length,.sl 5 3 0 r.1.Shelf.Man.Segs.length,VI r.1.Shelf.Man.Next,VI r.1.Shelf.Man.Base,VI r.1.Shelf.Man.BaseTerm,.sl 6 3 0 r.1.Shelf.Man.Conf.length,.sl 7 232 0 r.1.Shelf.Dir.length,VI r.1.Shelf.Stamp,VS r.1.Stage,VI r.1.StageAt,VI r.1.StageTerm],.sl 8 107 0 r.2.1.length,VI r.2.2]) [(0,.vec 3 (r.1.Node.Conf.map encI)),(1,.vec 141 (r.1.Node.Log.Entries.map encEntry)),(2,.vec 3 (r.1.Node.Votes.map encI)),(3,.vec 158 (r.1.Node.Peers.map encPeer)),(4,.vec 98 (r.1.Disk.Files.map encFile)),(5,.vec 3 (r.1.Shelf.Man.Segs.map encI)),(6,.vec 3 (r.1.Shelf.Man.Conf.map encI)),(7,.vec 232 (r.1.Shelf.Dir.map encSpot)),(8,.vec 107 (r.2.1.map encRaw))] := by
 unfold impl_Boot at h
 refine Says.of_norm e Tryz.call71 e fun B hB => ?_
 have hm : B.m ≤ 1000 := by omega
 refine Run.so hm (.z 1000 (.bx e e) e e (.z 1016 (.al e e) e e (.p2 e e (.nil (.so hm (.p e ?_))))))
 obtain ⟨y183,hy183,h⟩ := bindO h
 refine Ops.z 5112 (Ev.call [] [] 4 (sem_impl_OpenShelf _ _ _ hy183) e e (.cons (.agg (.d1 .nil)) .nil) e (.inl e) e e) e e (.p3 e e e (.p e (.z 5192 (.al e e) e e (.y 5208 (.sto e e e e e e) e e (.p2 e e (.nil (.seq (.so hm (.p2 e e (.nil (.condO e h (fun g185 h => ?_) (fun g185 h => ?_))))))))))))
 ·refine Run.so hm (.z 13288 (.bd e e) e e (.y 13304 (.sto e e e e e e) e e (.p2 e e (.nil (.ret ?_)))))
  obtain rfl := someO h
  exact Ends.mkG (.inl e) e (Gh.trans (Gh.trans (gh_prn [0,1,2] [] hB e) (gh_nil [0,1] [] hB e e e)) (gh_pk [0,1,2] [10000000,10000001,10000002,10000003,10000004,10000005,10000006,10000007,10000064] hB e e e e)) e e
 ·refine Run.skip (.so hm (.p e ?_))
  obtain ⟨y189,hy189,h⟩ := bindO h
  refine Ops.z 17400 (Ev.call [] [] 0 (sem_impl_FileAt _ _ _ _ hy189) e e (.cons (.agg (.d1 .nil)) (.d1 .nil)) e (.inl e) e e) e e (.p3 e e e (.p2 e e (.nil (.so hm (.p e ?_)))))
  obtain ⟨y193,hy193,h⟩ := bindO h
  refine Ops.z 21496 (Ev.call [] [] 1 (sem_impl_ReadLog _ _ _ hy193) e e (.d1 .nil) e (.inl e) e e) e e (.p3 e e e (.p e (.z 21576 (.al e e) e e (.y 21592 (.sto e e e e e e) e e (.p2 e e (.nil (.seq (.so hm (.p3 e e e (.askO (x := .t 50) e h (fun g198 h => ?_) (fun g198 h => ?_)))))))))))
  ·refine Ops.gn e g198 (.gn e g198 (.z 25656 (.pkT e g198 e) e e (.nil (.condT e e (.so hm (.z 29672 (.bd e e) e e (.y 29688 (.sto e e e e e e) e e (.p2 e e (.nil (.ret ?_))))))))))
   obtain rfl := someO h
   exact Ends.mkG (.inl e) e (Gh.trans (Gh.trans (gh_prn [0,1,2] [] hB e) (gh_nil [0,1] [] hB e e e)) (gh_pk [0,1,2] [10000000,10000001,10000002,10000003,10000004,10000005,10000006,10000007,10000064] hB e e e e)) e e
  ·refine Ops.gp e g198 e (.gp e g198 e (.z 25656 (.pkF e g198 e) e e (.nil (.condO e h (fun g199 h => ?_) (fun g199 h => ?_)))))
   ·refine Run.so hm (.z 29672 (.bd e e) e e (.y 29688 (.sto e e e e e e) e e (.p2 e e (.nil (.ret ?_)))))
    obtain rfl := someO h
    exact Ends.mkG (.inl e) e (Gh.trans (Gh.trans (gh_prn [0,1,2] [] hB e) (gh_nil [0,1] [] hB e e e)) (gh_pk [0,1,2] [10000000,10000001,10000002,10000003,10000004,10000005,10000006,10000007,10000064] hB e e e e)) e e
   ·refine Run.skip (.so hm (.p3 e e e (.p3 e e e (.p e ?_))))
    obtain ⟨y203,hy203,h⟩ := bindO h
    refine Ops.z 33880 (Ev.call [] [21496] 1 (sem_impl_LogBehind _ _ _ _ _ hy203) e e (.cons (.agg (.d2 (.cons (.borrow e (by decide) (lendW (fun _ => e) _ e)) .nil))) (.d2 .nil)) e (.inr ⟨e,ownL_root ⟨own_rows (fun _ => e) _,trivial⟩⟩) e e) e e ?_
    refine Ops.z 33896 (.al e e) e e (.y 33912 (.sto e e e e e e) e e (.nil (.so hm (.p e ?_))))
    obtain ⟨y207,hy207,h⟩ := bindO h
    refine Ops.z 37880 (Ev.call [] [] 0 (sem_impl_FileAt _ _ _ _ hy207) e e (.cons (.agg (.d1 .nil)) (.d1 .nil)) e (.inl e) e e) e e (.p3 e e e (.p2 e e (.nil (.so hm (.p e ?_)))))
    obtain ⟨y211,hy211,h⟩ := bindO h
    refine Ops.z 41976 (Ev.call [] [] 0 (sem_impl_ReadVotes _ _ _ hy211) e e (.d1 .nil) e (.inl e) e e) e e (.p3 e e e (.p3 e e e (.p e (.nil (.seq (.draw hm hmix (.p e (.p e (.p e (.p e (.p e (.p e ?_))))))))))))
    obtain ⟨x215,hx215,h⟩ := bindO h
    refine OpsD.z 46152 (Ev.apW (f := encI) (ontoN (f := encI) e) (addsW e e e (fun _ => e)) e bt3 e hx215) e e (.p e (.p e (.p e (.p e (.z 46232 (.bd e e) e e (.z 46248 (.al e e) e e (.y 46264 (.sto e e e e e e) e e (.nil ⟨by kernel_rfl,?_⟩))))))))
    refine Run.seq (.so hm (.p e ?_))
    obtain ⟨y220,hy220,h⟩ := bindO h
    refine Ops.z 50168 (Ev.call [] [46152,33880] 0 (sem_impl_NodeOk _ _ _ hy220) e e (.cons (.agg (.d4 (.d1 (.cons (.borrow e (by decide) (lendW (fun _ => e) _ e)) (.d2 (.cons (.borrow e (by decide) (lendW (fun _ => e) _ e)) (.d2 (.d1 (.cons (.nil _ _) (.cons (.nil _ _) .nil)))))))))) .nil) e (.inr ⟨e,ownL_root trivial⟩) e e) e e ?_
    refine Ops.p e (.nil (.condO e h (fun g221 h => ?_) (fun g221 h => ?_)))
    ·refine Run.so hm (.z 54248 (.bd e e) e e (.y 54264 (.sto e e e e e e) e e (.p2 e e (.nil (.ret ?_)))))
     obtain rfl := someO h
     exact Ends.mkG (.inl e) e (Gh.trans (Gh.trans (gh_prn [0,1,2] [] hB e) (gh_nil [0,1] [] hB e e e)) (gh_pk [0,1,2] [10000000,10000001,10000002,10000003,10000004,10000005,10000006,10000007,10000064] hB e e e e)) e e
    ·refine Run.skip (.so hm (.p3 e e e (.p3 e e e ?_)))
     obtain ⟨y228,hy228,h⟩ := bindO h
     refine Ops.z 58440 (Ev.call [] [21496,33880] 1 (sem_impl_logMended _ _ _ _ _ _ _ hy228) e e (.cons (.agg (.d1 .nil)) (.d2 (.cons (.agg (.d2 (.cons (.borrow e (by decide) (lendW (fun _ => e) _ e)) .nil))) (.cons (.agg (.d2 (.cons (.borrow e (by decide) (lendW (fun _ => e) _ e)) .nil))) .nil)))) e (.inr ⟨e,ownL_root ⟨own_rows (fun _ => e) _,trivial⟩⟩) e e) e e ?_
     obtain ⟨x229,hx229,h⟩ := bindO h
     refine Ops.z 58456 (Ev.apW (f := encRaw) (ontoW e e e) (addsW e e e (fun _ => e)) e bt107 e hx229) e e (.p e (.nil (.seqO h (fun v235 => [(4,.ptr 0 0),(6,.ptr 1 0),(9,.ptr 2 0),(10,.sl 3 107 0 v235.length),(23,.ptr 4 0)]) (fun (v235 : (List Raw)) => [(0,.box [RO 98 (x2.Files.map encFile)]),(1,.box [VI 0,VI 0,VI 0,VI 0,VI 0,.sl 5 3 0 (([] : List Int).length),VI 0,VI 0,.sl 6 141 0 (([] : List Entry).length),VI 0,VI 0,VI 0,.sl 7 3 0 (([] : List Int).length),.sl 8 158 0 (([] : List Peer).length),.sl 9 98 0 (([] : List File).length),.sl 10 3 0 (([] : List Int).length),VI 0,VI 0,VI 0,.sl 11 3 0 (([] : List Int).length),.sl 12 232 0 (([] : List Spot).length),VI 0,VS (⟨#[]⟩ : ByteArray),VI 0,VI 0]),(2,.box [.sl 13 3 0 y183.1.Man.Segs.length,VI y183.1.Man.Next,VI y183.1.Man.Base,VI y183.1.Man.BaseTerm,.sl 14 3 0 y183.1.Man.Conf.length,.sl 15 232 0 y183.1.Dir.length,VI y183.1.Stamp]),(3,.vec 107 (v235.map encRaw)),(4,.box [VI x1,VI y211.1,VI y211.2.1,VI 0,VI 0,.sl 16 3 0 x215.length,VI y203.Start,VI y203.StartTerm,.sl 17 141 0 y203.Entries.length,VI y183.1.Stamp,VI 0,VI x3,.sl 18 3 0 (([] : List Int).length),.sl 19 158 0 (([] : List Peer).length)]),(5,.vec 3 (([] : List Int).map encI)),(6,.vec 141 (([] : List Entry).map encEntry)),(7,.vec 3 (([] : List Int).map encI)),(8,.vec 158 (([] : List Peer).map encPeer)),(9,.vec 98 (([] : List File).map encFile)),(10,.vec 3 (([] : List Int).map encI)),(11,.vec 3 (([] : List Int).map encI)),(12,.vec 232 (([] : List Spot).map encSpot)),(13,.vec 3 (y183.1.Man.Segs.map encI)),(14,.vec 3 (y183.1.Man.Conf.map encI)),(15,.vec 232 (y183.1.Dir.map encSpot)),(16,.vec 3 (x215.map encI)),(17,.vec 141 (y203.Entries.map encEntry)),(18,.vec 3 (([] : List Int).map encI)),(19,.vec 158 (([] : List Peer).map encPeer))]) (fun h => ?_) (fun v235 h => ?_))))
     ·refine Run.so hm (.p3 e e e (.p e (.nil (.condO e h (fun g236 h => ?_) (fun g236 h => ?_)))))
      ·refine Run.ops hm (.p3 e e e ?_)
       obtain ⟨x239,hx239,h⟩ := bindO h
       refine Ops.z 66584 (Ev.ssH e e hx239) e e (.z 66600 (.bd e e) e e (.z 66616 (Ev.bsW (ys := ([(Raw.mk 1 (⟨#[118,111,116,101]⟩ : ByteArray) (⟨#[]⟩ : ByteArray) x239)] : List Raw)) (f := encRaw) e (.d4 .nil) e e e e e) e e ?_))
       obtain ⟨x240,hx240,h⟩ := bindO h
       exact Ops.z 66632 (Ev.apW (f := encRaw) (ontoW e e e) (addsW e e e (fun _ => e)) e bt107 e hx240) e e (.p e (.nil (⟨_,_,(Gh.trans (Gh.trans (gh_prn [4,6,9,10,23] [1000,1016,5192,66632,46248,5112,5113,5114,46152,33880] hB e) (gh_nil [] [1016,46248] hB e e e)) (gh_pk [4,6,9,10,23] [1000,1016,5192,66632,46248,20000000,20000001,20000002,20000003,20000004,20000005,20000006,20000007,5112,5113,5114,46152,33880,20000064,20000065] hB e e e e)),_,h,e,e⟩)))
      ·exact Run.skip (⟨_,_,(Gh.trans (Gh.trans (gh_prn [4,6,9,10,23] [1000,1016,5192,58456,46248,5112,5113,5114,46152,33880] hB e) (gh_nil [] [1016,46248] hB e e e)) (gh_pk [4,6,9,10,23] [1000,1016,5192,58456,46248,20000000,20000001,20000002,20000003,20000004,20000005,20000006,20000007,5112,5113,5114,46152,33880,20000064,20000065] hB e e e e)),_,h,e,e⟩)
     ·refine Run.seqO h (fun v248 => [(4,.ptr 0 0),(6,.ptr 1 0),(9,.ptr 2 0),(10,.sl 3 107 0 v248.length),(23,.ptr 4 0)]) (fun (v248 : (List Raw)) => [(0,.box [RO 98 (x2.Files.map encFile)]),(1,.box [VI 0,VI 0,VI 0,VI 0,VI 0,.sl 5 3 0 (([] : List Int).length),VI 0,VI 0,.sl 6 141 0 (([] : List Entry).length),VI 0,VI 0,VI 0,.sl 7 3 0 (([] : List Int).length),.sl 8 158 0 (([] : List Peer).length),.sl 9 98 0 (([] : List File).length),.sl 10 3 0 (([] : List Int).length),VI 0,VI 0,VI 0,.sl 11 3 0 (([] : List Int).length),.sl 12 232 0 (([] : List Spot).length),VI 0,VS (⟨#[]⟩ : ByteArray),VI 0,VI 0]),(2,.box [.sl 13 3 0 y183.1.Man.Segs.length,VI y183.1.Man.Next,VI y183.1.Man.Base,VI y183.1.Man.BaseTerm,.sl 14 3 0 y183.1.Man.Conf.length,.sl 15 232 0 y183.1.Dir.length,VI y183.1.Stamp]),(3,.vec 107 (v248.map encRaw)),(4,.box [VI x1,VI y211.1,VI y211.2.1,VI 0,VI 0,.sl 16 3 0 x215.length,VI y203.Start,VI y203.StartTerm,.sl 17 141 0 y203.Entries.length,VI y183.1.Stamp,VI 0,VI x3,.sl 18 3 0 (([] : List Int).length),.sl 19 158 0 (([] : List Peer).length)]),(5,.vec 3 (([] : List Int).map encI)),(6,.vec 141 (([] : List Entry).map encEntry)),(7,.vec 3 (([] : List Int).map encI)),(8,.vec 158 (([] : List Peer).map encPeer)),(9,.vec 98 (([] : List File).map encFile)),(10,.vec 3 (([] : List Int).map encI)),(11,.vec 3 (([] : List Int).map encI)),(12,.vec 232 (([] : List Spot).map encSpot)),(13,.vec 3 (y183.1.Man.Segs.map encI)),(14,.vec 3 (y183.1.Man.Conf.map encI)),(15,.vec 232 (y183.1.Dir.map encSpot)),(16,.vec 3 (x215.map encI)),(17,.vec 141 (y203.Entries.map encEntry)),(18,.vec 3 (([] : List Int).map encI)),(19,.vec 158 (([] : List Peer).map encPeer))]) (fun h => ?_) (fun v248 h => ?_)
      ·refine Run.so hm (.p e ?_)
       obtain ⟨y252,hy252,h⟩ := bindO h
       refine Ops.z 70648 (Ev.call [] [] 0 (sem_impl_FileAt _ _ _ _ hy252) e e (.cons (.agg (.d1 .nil)) (.d1 .nil)) e (.inl e) e e) e e (.p3 e e e (.p2 e e (.nil (.so hm (.p e (.nil (.condO e h (fun g253 h => ?_) (fun g253 h => ?_))))))))
       ·refine Run.ops hm (.p e (.z 78840 (.bd e e) e e (.z 78856 (Ev.bsW (ys := ([(Raw.mk 4 (⟨#[118,111,116,101,43]⟩ : ByteArray) (⟨#[]⟩ : ByteArray) (⟨#[]⟩ : ByteArray))] : List Raw)) (f := encRaw) e (.d4 .nil) e e e e e) e e ?_)))
        obtain ⟨x255,hx255,h⟩ := bindO h
        exact Ops.z 78872 (Ev.apW (f := encRaw) (ontoW e e e) (addsW e e e (fun _ => e)) e bt107 e hx255) e e (.p e (.nil (⟨_,_,(gh_pk [4,6,9,10,23] [0,1,2,78872,4,5,6,7,8,9,10,11,12,13,14,15,16,17,18,19] hB e e e e),_,h,e,e⟩)))
       ·exact Run.skip (⟨_,_,(gh_pk [4,6,9,10,23] [0,1,2,3,4,5,6,7,8,9,10,11,12,13,14,15,16,17,18,19] hB e e e e),_,h,e,e⟩)
      ·refine Run.so hm (.p2 e e ?_)
       obtain ⟨y259,hy259,h⟩ := bindO h
       refine Ops.z 82952 (Ev.call [] [3] 1 (sem_impl_PutRaws _ _ _ _ hy259) e e (.cons (.agg (.d1 .nil)) (.cons (.borrow e (by decide) (lendW (fun _ => e) _ e)) .nil)) e (.inr ⟨e,ownL_root ⟨own_rows (fun _ => e) _,trivial⟩⟩) e e) e e ?_
       refine Ops.p e (.p2 e e (.z 83016 (.al e e) e e (.y 83032 (.sto e e e e e e) e e (.p e (.nil (.so hm (.p3 e e e (.z 87064 (.bd e e) e e (.p e (.y 87096 (.sto e e e e e e) e e (.p2 e e (.nil (.ret ?_)))))))))))))
       obtain rfl := someO h
       exact Ends.mkG (.inl e) e (gh_pk [0,1,2] [16,17,18,19,82952,13,14,15,3] hB e e e e) e e
end Go.Proofs.YtmnoonjkiflonaaGreatDoor.Pe.FnExactReadScript
