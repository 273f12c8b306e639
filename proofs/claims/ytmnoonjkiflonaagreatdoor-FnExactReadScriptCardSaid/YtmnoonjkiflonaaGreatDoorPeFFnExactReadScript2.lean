/- Functions,as pure functions; and that Go does just that. -/
import Derived.Test.YtmnoonjkiflonaaGreatDoorPeFFnExactReadScript1
namespace Go.Proofs.YtmnoonjkiflonaaGreatDoor.Pe.FnExactReadScript
open Go Go.RowKit
set_option linter.unusedVariables false
set_option linter.unusedSimpArgs false
set_option maxHeartbeats 40000000
set_option maxRecDepth 100000
def spec_l09In_l1 (N : Nat) (x1 : (List Int)) (x2 : Int) : Nat → Int → Option ((Bool) ⊕ (Unit))
 | 0,_ => none
 | m + 1,x170 =>
 (if (decide (x170 < (x1.length : Int))) = true then
 (at? x1 x170).bind fun x188 =>
 (if (x188 == x2) = true then
 some (Sum.inl true)
 else
 spec_l09In_l1 N x1 x2 m (w64 (x170 + 1)))
 else
 some (Sum.inr ()))
def spec_l09In (N : Nat) (x1 : (List Int)) (x2 : Int) : Option (Bool) :=
 joinP (fun (v167 : Unit) =>
 some false) fun j167 =>
 (spec_l09In_l1 N x1 x2 N 0).bind (Sum.elim (fun v179 => some v179) (fun (v180 : Unit) => j167 ()))
theorem sem_spec_l09In (N : Nat) (x1 : (List Int)) (x2 : Int) (r : Bool) (h : spec_l09In N x1 x2 = some r) : Says Tryz.prog 81 [RO 3 (x1.map encI),VI x2] 0 [] (VB r) [] := by
 unfold spec_l09In at h
 refine Says.of_norm e Tryz.call81 e fun B hB => ?_
 have hm : B.m ≤ 1000 := by omega
 refine Run.so hm (.p e (.nil (.seqO h (fun v167 => []) (fun (v167 : Unit) => []) (fun h => ?_) (fun v167 h => ?_))))
 ·refine Run.so hm (.p e (.nil (.block ?_)))
  obtain ⟨res180,h,hk180⟩ := bindO h
  refine Run.loop (n := N) (fun m180 fr σ => ∃ (x170 : Int),spec_l09In_l1 N x1 x2 m180 x170 = some res180 ∧ fr = [(0,RO 3 (x1.map encI)),(1,VI x2),(5,VI x170)] ∧ σ = []) (gh_pk [0,1,5] [] hB e e e e) ⟨_,h,e,e⟩ ?_
  rintro m180 fr σ ⟨x170,h,rfl,rfl⟩
  obtain _ | m180 := m180
  ·rw [spec_l09In_l1] at h; cases h
  rw [spec_l09In_l1] at h
  refine Run.seq (.so hm (.p2 e e (.z 9224 (Ev.lnF e) e e (.p e (.nil (.condO e h (fun g183 h => ?_) (fun g183 h => ?_)))))))
  ·refine Run.skip (.seq (.block (.so hm (.p2 e e ?_))))
   obtain ⟨x188,hx188,h⟩ := bindO h
   refine Ops.z 17416 (Ev.iaF e e hx188) e e (.p3 e e e (.nil (.condO e h (fun g189 h => ?_) (fun g189 h => ?_))))
   ·refine Run.so hm (.p e (.nil (.ret ?_)))
    obtain rfl := someO h
    have h := hk180
    replace h := inlO h
    obtain rfl := someO h
    exact Ends.mkG (.inl e) e (gh_pk [0] [] hB e e e e) e e
   ·exact Run.skip (.ops hm (.p3 e e e (.nil (⟨m180,Nat.lt_succ_self m180,_,_,(gh_pk [0,1,5] [] hB e e e e),_,h,e,e⟩))))
  ·refine Run.exit ?_
   obtain rfl := someO h
   have h := hk180
   replace h := inrO h
   exact ⟨_,_,(gh_pk [] [] hB e e e e),(),h,e,e⟩
 ·refine Run.so hm (.p e (.nil (.ret ?_)))
  obtain rfl := someO h
  exact Ends.mkG (.inl e) e (gh_pk [0] [] hB e e e e) e e
def spec_OpenShelf_l1 (N : Nat) (x1 : Disk) (y332 : Shelf × Int × Int) : Nat → Int → (List Raw) → Option ((List Raw))
 | 0,_,_ => none
 | m + 1,x442,x452 =>
 (if (decide (x442 < (x1.Files.length : Int))) = true then
 joinP (fun (v517 : (List Raw)) =>
 spec_OpenShelf_l1 N x1 y332 m (w64 (x442 + 1)) v517) fun j517 =>
 (at? x1.Files x442).bind fun x524 =>
 (spec_l09Seg N x524.Name).bind fun y525 =>
 (if (decide (y525 ≥ 0)) = true then
 (spec_l09In N y332.1.Man.Segs y525).bind fun y529 =>
 (if (!y529) = true then
 (at? x1.Files x442).bind fun x533 =>
 (cat? x452 ([(Raw.mk 4 x533.Name (⟨#[]⟩ : ByteArray) (⟨#[]⟩ : ByteArray))] : List Raw)).bind fun x534 =>
 j517 x534
 else
 j517 x452)
 else
 j517 x452)
 else
 some x452)
def spec_OpenShelf (N : Nat) (x1 : Disk) : Option (Shelf × (List Raw) × Int) :=
 (spec_l09Load N x1).bind fun y332 =>
 (if (y332.2.2 != 0) = true then
 some ((Shelf.mk (Manifest.mk ([]) 0 0 0 ([])) ([]) 0),([] : List Raw),y332.2.2)
 else
 joinP (fun (v340 : (List Raw)) =>
 joinP (fun (v440 : (List Raw)) =>
 (at? y332.1.Man.Segs (w64 (((y332.1.Man.Segs.length : Nat) : Int) - 1))).bind fun x541 =>
 (spec_SegName N x541).bind fun y542 =>
 (spec_l03Text N x1 y542).bind fun y546 =>
 joinP (fun (v552 : (List Raw)) =>
 some (y332.1,v552,0)) fun j552 =>
 (if (decide (y332.2.1 < (y546.size : Int))) = true then
 (stake? y546 y332.2.1).bind fun x556 =>
 (cat? v440 ([(Raw.mk 1 y542 (⟨#[]⟩ : ByteArray) x556)] : List Raw)).bind fun x557 =>
 j552 x557
 else
 j552 v440)) fun j440 =>
 (spec_OpenShelf_l1 N x1 y332 N 0 v340).bind (fun v496 => j440 v496)) fun j340 =>
 (spec_l03At N x1 (⟨#[109,43]⟩ : ByteArray)).bind fun y342 =>
 (if (decide (y342 ≥ 0)) = true then
 (cat? ([] : List Raw) ([(Raw.mk 4 (⟨#[109,43]⟩ : ByteArray) (⟨#[]⟩ : ByteArray) (⟨#[]⟩ : ByteArray))] : List Raw)).bind fun x345 =>
 j340 x345
 else
 j340 ([] : List Raw)))
theorem sem_spec_OpenShelf (N : Nat) (x1 : Disk) (r : Shelf × (List Raw) × Int) (h : spec_OpenShelf N x1 = some r) : Says Tryz.prog 51 [.agg [RO 98 (x1.Files.map encFile)]] 0 [] (.tup [.agg [.sl 0 3 0 r.1.Man.Segs.length,VI r.1.Man.Next,VI r.1.Man.Base,VI r.1.Man.BaseTerm,.sl 1 3 0 r.1.Man.Conf.length,.sl 2 232 0 r.1.Dir.length,VI r.1.Stamp],.sl 3 107 0 r.2.1.length,VI r.2.2]) [(0,.vec 3 (r.1.Man.Segs.map encI)),(1,.vec 3 (r.1.Man.Conf.map encI)),(2,.vec 232 (r.1.Dir.map encSpot)),(3,.vec 107 (r.2.1.map encRaw))] := by
 unfold spec_OpenShelf at h
 refine Says.of_norm e Tryz.call51 e fun B hB => ?_
 have hm : B.m ≤ 1000 := by omega
 refine Run.so hm (.z 1000 (.bx e e) e e (.z 1016 (.al e e) e e (.p2 e e (.nil (.so hm (.p e ?_))))))
 obtain ⟨y332,hy332,h⟩ := bindO h
 refine Ops.z 5112 (Ev.call [] [] 3 (sem_spec_l09Load _ _ _ hy332) e e (.cons (.agg (.d1 .nil)) .nil) e (.inl e) e e) e e (.p3 e e e (.p e (.z 5192 (.al e e) e e (.y 5208 (.sto e e e e e e) e e (.p2 e e (.nil (.so hm (.z 9192 (Ev.bsW (ys := ([] : List Raw)) (f := encRaw) e .nil e e e e e) e e (.p e (.nil (.seq (.so hm (.p2 e e (.nil (.condO e h (fun g334 h => ?_) (fun g334 h => ?_))))))))))))))))
 ·refine Run.so hm (.z 17384 (.bd e e) e e (.p2 e e (.y 17432 (.sto e e e e e e) e e (.p2 e e (.nil (.ret ?_))))))
  obtain rfl := someO h
  exact Ends.mkG (.inl e) e (Gh.trans (Gh.trans (gh_prn [0,1,2] [9192] hB e) (gh_nil [0] [] hB e e e)) (gh_pk [0,1,2] [10000000,10000001,10000002,9192] hB e e e e)) e e
 ·refine Run.skip (.seqO h (fun v340 => [(1,.ptr 0 0),(2,.ptr 1 0),(5,.ptr 2 0),(6,VI y332.2.1),(8,.sl 3 107 0 v340.length)]) (fun (v340 : (List Raw)) => [(0,.box [RO 98 (x1.Files.map encFile)]),(1,.box [.sl 4 3 0 (([] : List Int).length),VI 0,VI 0,VI 0,.sl 5 3 0 (([] : List Int).length),.sl 6 232 0 (([] : List Spot).length),VI 0]),(2,.box [.sl 7 3 0 y332.1.Man.Segs.length,VI y332.1.Man.Next,VI y332.1.Man.Base,VI y332.1.Man.BaseTerm,.sl 8 3 0 y332.1.Man.Conf.length,.sl 9 232 0 y332.1.Dir.length,VI y332.1.Stamp]),(3,.vec 107 (v340.map encRaw)),(4,.vec 3 (([] : List Int).map encI)),(5,.vec 3 (([] : List Int).map encI)),(6,.vec 232 (([] : List Spot).map encSpot)),(7,.vec 3 (y332.1.Man.Segs.map encI)),(8,.vec 3 (y332.1.Man.Conf.map encI)),(9,.vec 232 (y332.1.Dir.map encSpot))]) (fun h => ?_) (fun v340 h => ?_))
  ·refine Run.so hm (.p e ?_)
   obtain ⟨y342,hy342,h⟩ := bindO h
   refine Ops.z 21496 (Ev.call [] [] 0 (sem_spec_l03At _ _ _ _ hy342) e e (.cons (.agg (.d1 .nil)) (.d1 .nil)) e (.inl e) e e) e e (.p e (.nil (.condO e h (fun g343 h => ?_) (fun g343 h => ?_))))
   ·refine Run.ops hm (.p e (.z 25592 (.bd e e) e e (.z 25608 (Ev.bsW (ys := ([(Raw.mk 4 (⟨#[109,43]⟩ : ByteArray) (⟨#[]⟩ : ByteArray) (⟨#[]⟩ : ByteArray))] : List Raw)) (f := encRaw) e (.d4 .nil) e e e e e) e e ?_)))
    obtain ⟨x345,hx345,h⟩ := bindO h
    exact Ops.z 25624 (Ev.apW (f := encRaw) (ontoW e e e) (addsW e e e (fun _ => e)) e bt107 e hx345) e e (.p e (.nil (⟨_,_,(Gh.trans (Gh.trans (gh_prn [1,2,5,6,8] [1000,1016,5192,25624,5112,5113,5114] hB e) (gh_nil [] [1016] hB e e e)) (gh_pk [1,2,5,6,8] [1000,1016,5192,25624,20000000,20000001,20000002,5112,5113,5114] hB e e e e)),_,h,e,e⟩)))
   ·exact Run.skip (⟨_,_,(Gh.trans (Gh.trans (gh_prn [1,2,5,6,8] [1000,1016,5192,9192,5112,5113,5114] hB e) (gh_nil [] [1016] hB e e e)) (gh_pk [1,2,5,6,8] [1000,1016,5192,9192,20000000,20000001,20000002,5112,5113,5114] hB e e e e)),_,h,e,e⟩)
  ·refine Run.seqO h (fun v440 => [(1,.ptr 0 0),(2,.ptr 1 0),(5,.ptr 2 0),(6,VI y332.2.1),(8,.sl 3 107 0 v440.length)]) (fun (v440 : (List Raw)) => [(0,.box [RO 98 (x1.Files.map encFile)]),(1,.box [.sl 4 3 0 (([] : (List Int)).length),VI 0,VI 0,VI 0,.sl 5 3 0 (([] : (List Int)).length),.sl 6 232 0 (([] : (List Spot)).length),VI 0]),(2,.box [.sl 7 3 0 y332.1.Man.Segs.length,VI y332.1.Man.Next,VI y332.1.Man.Base,VI y332.1.Man.BaseTerm,.sl 8 3 0 y332.1.Man.Conf.length,.sl 9 232 0 y332.1.Dir.length,VI y332.1.Stamp]),(3,.vec 107 (v440.map encRaw)),(4,.vec 3 (([] : (List Int)).map encI)),(5,.vec 3 (([] : (List Int)).map encI)),(6,.vec 232 (([] : (List Spot)).map encSpot)),(7,.vec 3 (y332.1.Man.Segs.map encI)),(8,.vec 3 (y332.1.Man.Conf.map encI)),(9,.vec 232 (y332.1.Dir.map encSpot))]) (fun h => ?_) (fun v440 h => ?_)
   ·refine Run.so hm (.p e (.nil (.block ?_)))
    obtain ⟨res496,h,hk496⟩ := bindO h
    refine Run.loop (n := N) (fun m496 fr σ => ∃ (x442 : Int),∃ (x452 : (List Raw)),spec_OpenShelf_l1 N x1 y332 m496 x442 x452 = some res496 ∧ fr = [(1,.ptr 0 0),(2,.ptr 1 0),(5,.ptr 2 0),(6,VI y332.2.1),(8,.sl 3 107 0 x452.length),(9,VI x442)] ∧ σ = [(0,.box [RO 98 (x1.Files.map encFile)]),(1,.box [.sl 4 3 0 (([] : (List Int)).length),VI 0,VI 0,VI 0,.sl 5 3 0 (([] : (List Int)).length),.sl 6 232 0 (([] : (List Spot)).length),VI 0]),(2,.box [.sl 7 3 0 y332.1.Man.Segs.length,VI y332.1.Man.Next,VI y332.1.Man.Base,VI y332.1.Man.BaseTerm,.sl 8 3 0 y332.1.Man.Conf.length,.sl 9 232 0 y332.1.Dir.length,VI y332.1.Stamp]),(3,.vec 107 (x452.map encRaw)),(4,.vec 3 (([] : (List Int)).map encI)),(5,.vec 3 (([] : (List Int)).map encI)),(6,.vec 232 (([] : (List Spot)).map encSpot)),(7,.vec 3 (y332.1.Man.Segs.map encI)),(8,.vec 3 (y332.1.Man.Conf.map encI)),(9,.vec 232 (y332.1.Dir.map encSpot))]) (gh_pk [1,2,5,6,8,9] [0,1,2,3,4,5,6,7,8,9] hB e e e e) ⟨_,_,h,e,e⟩ ?_
    rintro m496 fr σ ⟨x442,x452,h,rfl,rfl⟩
    obtain _ | m496 := m496
    ·rw [spec_OpenShelf_l1] at h; cases h
    rw [spec_OpenShelf_l1] at h
    refine Run.seq (.so hm (.p3 e e e (.z 33816 (Ev.lnF e) e e (.p e (.nil (.condO e h (fun g499 h => ?_) (fun g499 h => ?_)))))))
    ·refine Run.skip (.seqO h (fun v517 => [(1,.ptr 0 0),(2,.ptr 1 0),(5,.ptr 2 0),(6,VI y332.2.1),(8,.sl 3 107 0 v517.length),(9,VI x442)]) (fun (v517 : (List Raw)) => [(0,.box [RO 98 (x1.Files.map encFile)]),(1,.box [.sl 4 3 0 (([] : (List Int)).length),VI 0,VI 0,VI 0,.sl 5 3 0 (([] : (List Int)).length),.sl 6 232 0 (([] : (List Spot)).length),VI 0]),(2,.box [.sl 7 3 0 y332.1.Man.Segs.length,VI y332.1.Man.Next,VI y332.1.Man.Base,VI y332.1.Man.BaseTerm,.sl 8 3 0 y332.1.Man.Conf.length,.sl 9 232 0 y332.1.Dir.length,VI y332.1.Stamp]),(3,.vec 107 (v517.map encRaw)),(4,.vec 3 (([] : (List Int)).map encI)),(5,.vec 3 (([] : (List Int)).map encI)),(6,.vec 232 (([] : (List Spot)).map encSpot)),(7,.vec 3 (y332.1.Man.Segs.map encI)),(8,.vec 3 (y332.1.Man.Conf.map encI)),(9,.vec 232 (y332.1.Dir.map encSpot))]) (fun h => ?_) (fun v517 h => ?_))
     ·refine Run.block (.so hm (.p3 e e e ?_))
      obtain ⟨x524,hx524,h⟩ := bindO h
      refine Ops.z 42008 (Ev.iaF e e hx524) e e (.p2 e e ?_)
      obtain ⟨y525,hy525,h⟩ := bindO h
      refine Ops.z 42056 (Ev.call [] [] 0 (sem_spec_l09Seg _ _ _ hy525) e e (.d1 .nil) e (.inl e) e e) e e (.p e (.nil (.so hm (.p3 e e e (.askO (x := .t 48) e h (fun g528 h => ?_) (fun g528 h => ?_))))))
      ·refine Ops.gp e g528 e (.gp e g528 e (.gp e g528 e (.gp e g528 e ?_)))
       obtain ⟨y529,hy529,h⟩ := bindO h
       refine Ops.gs (s := 46168) e g528 (Ev.call [] [7] 0 (sem_spec_l09In _ _ _ _ hy529) e e (.cons (.borrow e (by decide) (lendW (fun _ => e) _ e)) (.d1 .nil)) e (.inr ⟨e,ownL_root trivial⟩) e e) e e ?_
       refine Ops.gp e g528 e (.z 46200 (.pkT e g528 e) e e (.nil (.condO e h (fun g530 h => ?_) (fun g530 h => ?_))))
       ·refine Run.ops hm (.p3 e e e (.p e ?_))
        obtain ⟨x533,hx533,h⟩ := bindO h
        refine Ops.z 50216 (Ev.iaF e e hx533) e e (.p2 e e (.z 50264 (.bd e e) e e (.z 50280 (Ev.bsW (ys := ([(Raw.mk 4 x533.Name (⟨#[]⟩ : ByteArray) (⟨#[]⟩ : ByteArray))] : List Raw)) (f := encRaw) e (.d4 .nil) e e e e e) e e ?_)))
        obtain ⟨x534,hx534,h⟩ := bindO h
        exact Ops.z 50296 (Ev.apW (f := encRaw) (ontoW e e e) (addsW e e e (fun _ => e)) e bt107 e hx534) e e (.p e (.nil (⟨_,_,(gh_pk [1,2,5,6,8,9] [0,1,2,50296,4,5,6,7,8,9] hB e e e e),_,h,e,e⟩)))
       ·exact Run.skip (⟨_,_,(gh_pk [1,2,5,6,8,9] [0,1,2,3,4,5,6,7,8,9] hB e e e e),_,h,e,e⟩)
      ·exact Ops.gn e g528 (.gn e g528 (.gn e g528 (.gn e g528 (.gn e g528 (.gn e g528 (.z 46200 (.pkF e g528 e) e e (.nil (.condF e e (.skip (⟨_,_,(gh_pk [1,2,5,6,8,9] [0,1,2,3,4,5,6,7,8,9] hB e e e e),_,h,e,e⟩))))))))))
     ·exact Run.ops hm (.p3 e e e (.nil (⟨m496,Nat.lt_succ_self m496,_,_,(gh_pk [1,2,5,6,8,9] [0,1,2,3,4,5,6,7,8,9] hB e e e e),_,_,h,e,e⟩)))
    ·refine Run.exit ?_
     obtain rfl := someO h
     have h := hk496
     exact ⟨_,_,(gh_pk [1,2,5,6,8] [0,1,2,3,4,5,6,7,8,9] hB e e e e),_,h,e,e⟩
   ·refine Run.so hm (.p3 e e e (.p3 e e e (.p2 e e ?_)))
    obtain ⟨x541,hx541,h⟩ := bindO h
    refine Ops.z 54376 (Ev.iaW e e e hx541) e e (.z 54392 (Ev.ldE (f := encI) e e (at_some hx541).2 e e e) e e ?_)
    obtain ⟨y542,hy542,h⟩ := bindO h
    refine Ops.z 54408 (Ev.call [] [] 0 (sem_spec_SegName _ _ _ hy542) e e (.d1 .nil) e (.inl e) e e) e e (.p e (.nil (.so hm (.p2 e e ?_))))
    obtain ⟨y546,hy546,h⟩ := bindO h
    refine Ops.z 58376 (Ev.call [] [] 0 (sem_spec_l03Text _ _ _ _ hy546) e e (.cons (.agg (.d1 .nil)) (.d1 .nil)) e (.inl e) e e) e e (.p e (.nil (.seqO h (fun v552 => [(2,.ptr 0 0),(5,.ptr 1 0),(8,.sl 2 107 0 v552.length)]) (fun (v552 : (List Raw)) => [(0,.box [.sl 3 3 0 (([] : (List Int)).length),VI 0,VI 0,VI 0,.sl 4 3 0 (([] : (List Int)).length),.sl 5 232 0 (([] : (List Spot)).length),VI 0]),(1,.box [.sl 6 3 0 y332.1.Man.Segs.length,VI y332.1.Man.Next,VI y332.1.Man.Base,VI y332.1.Man.BaseTerm,.sl 7 3 0 y332.1.Man.Conf.length,.sl 8 232 0 y332.1.Dir.length,VI y332.1.Stamp]),(2,.vec 107 (v552.map encRaw)),(3,.vec 3 (([] : (List Int)).map encI)),(4,.vec 3 (([] : (List Int)).map encI)),(5,.vec 232 (([] : (List Spot)).map encSpot)),(6,.vec 3 (y332.1.Man.Segs.map encI)),(7,.vec 3 (y332.1.Man.Conf.map encI)),(8,.vec 232 (y332.1.Dir.map encSpot))]) (fun h => ?_) (fun v552 h => ?_))))
    ·refine Run.so hm (.p3 e e e (.p e (.nil (.condO e h (fun g553 h => ?_) (fun g553 h => ?_)))))
     ·refine Run.ops hm (.p3 e e e (.p e ?_))
      obtain ⟨x556,hx556,h⟩ := bindO h
      refine Ops.z 66600 (Ev.ssH e e hx556) e e (.z 66616 (.bd e e) e e (.z 66632 (Ev.bsW (ys := ([(Raw.mk 1 y542 (⟨#[]⟩ : ByteArray) x556)] : List Raw)) (f := encRaw) e (.d4 .nil) e e e e e) e e ?_))
      obtain ⟨x557,hx557,h⟩ := bindO h
      exact Ops.z 66648 (Ev.apW (f := encRaw) (ontoW e e e) (addsW e e e (fun _ => e)) e bt107 e hx557) e e (.p e (.nil (⟨_,_,(gh_pk [2,5,8] [1,2,66648,4,5,6,7,8,9] hB e e e e),_,h,e,e⟩)))
     ·exact Run.skip (⟨_,_,(gh_pk [2,5,8] [1,2,3,4,5,6,7,8,9] hB e e e e),_,h,e,e⟩)
    ·refine Run.so hm (.p2 e e (.y 70664 (.sto e e e e e e) e e (.p2 e e (.nil (.ret ?_)))))
     obtain rfl := someO h
     exact Ends.mkG (.inl e) e (gh_pk [0,1,2] [6,7,8,2] hB e e e e) e e
def spec_l05Take (N : Nat) (x1 : Tl05Cur) (x2 : Int) : Option (ByteArray × Tl05Cur) :=
 (if x1.bad = true then
 some ((⟨#[]⟩ : ByteArray),(Tl05Cur.mk x1.text x1.at' true))
 else
 (if (decide (x2 > (w64 ((x1.text.size : Int) - x1.at')))) = true then
 some ((⟨#[]⟩ : ByteArray),(Tl05Cur.mk x1.text x1.at' true))
 else
 (scut? x1.text (w64 ((w64 (x1.at' + x2)) - x2)) (w64 (x1.at' + x2))).bind fun x115 =>
 some (x115,(Tl05Cur.mk x1.text (w64 (x1.at' + x2)) x1.bad))))
theorem sem_spec_l05Take (N : Nat) (x1 : Tl05Cur) (x2 : Int) (r : ByteArray × Tl05Cur) (h : spec_l05Take N x1 x2 = some r) : Says Tryz.prog 127 [.ptr 0 0,VI x2] 1 [(0,.box [VS x1.text,VI x1.at',VB x1.bad])] (VS r.1) [(0,.box [VS r.2.text,VI r.2.at',VB r.2.bad])] := by
 unfold spec_l05Take at h
 refine Says.of_norm e Tryz.call127 e fun B hB => ?_
 have hm : B.m ≤ 1000 := by omega
 refine Run.so hm (.p e (.nil (.seq (.seq (.draw hm hmix (.p e (.p e (.p e (.p e (.p e (.askO (x := .t 9) e h (fun g112 h => ?_) (fun g112 h => ?_))))))))))))
 ·refine OpsD.gn e g112 (.gn e g112 (.gn e g112 (.gn e g112 (.gn e g112 (.gn e g112 (.gn e g112 (.gn e g112 (.gn e g112 (.gn e g112 (.gn e g112 (.gn e g112 (.z 5368 (.pkT e g112 e) e e (.nil ⟨by kernel_rfl,?_⟩)))))))))))))
  refine Run.condT e e (.so hm (.p3 e e e (.y 9240 (.sto e e e e e e) e e (.nil (.so hm (.p e (.nil (.ret ?_))))))))
  obtain rfl := someO h
  exact Ends.mkG (.inl e) e (gh_pk [0] [0] hB e e e e) e e
 ·refine OpsD.gp e g112 e (.gp e g112 e (.gp e g112 e (.gp e g112 e (.gp e g112 e (.gp e g112 e (.gp e g112 e (.gp e g112 e (.gp e g112 e (.gp e g112 e (.gp e g112 e (.gp e g112 e (.z 5368 (.pkF e g112 e) e e (.nil ⟨by kernel_rfl,?_⟩)))))))))))))
  refine Run.condO e h (fun g113 h => ?_) (fun g113 h => ?_)
  ·refine Run.so hm (.p3 e e e (.y 9240 (.sto e e e e e e) e e (.nil (.so hm (.p e (.nil (.ret ?_)))))))
   obtain rfl := someO h
   exact Ends.mkG (.inl e) e (gh_pk [0] [0] hB e e e e) e e
  ·refine Run.skip (.so hm (.p3 e e e (.p3 e e e (.p3 e e e (.y 17528 (.sto e e e e e e) e e (.nil (.seq (.draw hm hmix (.p e (.p e (.p e (.p e (.p e (.p e (.p e (.p e (.p e (.p e (.p e (.p e (.p e (.p e ?_))))))))))))))))))))))
   obtain ⟨x115,hx115,h⟩ := bindO h
   refine OpsD.z 21704 (Ev.ssB e e e hx115) e e (.p e (.nil ⟨by kernel_rfl,?_⟩))
   refine Run.ret ?_
   obtain rfl := someO h
   exact Ends.mkG (.inl e) e (gh_pk [0] [0] hB e e e e) e e
def spec_l12Start (N : Nat) (x1 : ByteArray) : Option (Log × Bool) :=
 (spec_l05Take N (Tl05Cur.mk x1 0 false) 1).bind fun y137 =>
 (spec_l05Var N y137.2).bind fun y141 =>
 (spec_l05Var N y141.2).bind fun y145 =>
 (if y145.2.bad = true then
 some ((Log.mk 0 0 ([])),false)
 else
 (spec_l01Var N y141.1).bind fun y163 =>
 (scat? (⟨#[83]⟩ : ByteArray) y163).bind fun x164 =>
 (spec_l01Var N y145.1).bind fun y165 =>
 (scat? x164 y165).bind fun x166 =>
 (if (!decide (x166 = x1)) = true then
 some ((Log.mk 0 0 ([])),false)
 else
 some ((Log.mk y141.1 y145.1 ([])),true)))
theorem sem_spec_l12Start (N : Nat) (x1 : ByteArray) (r : Log × Bool) (h : spec_l12Start N x1 = some r) : Says Tryz.prog 84 [VS x1] 0 [] (.tup [.agg [VI r.1.Start,VI r.1.StartTerm,.sl 0 141 0 r.1.Entries.length],VB r.2]) [(0,.vec 141 (r.1.Entries.map encEntry))] := by
 unfold spec_l12Start at h
 refine Says.of_norm e Tryz.call84 e fun B hB => ?_
 have hm : B.m ≤ 1000 := by omega
 refine Run.so hm (.z 1000 (.al e e) e e (.p e (.nil (.so hm (.p e (.z 5112 (.bd e e) e e (.z 5128 (.bx e e) e e (.p e (.nil (.so hm (.p e ?_)))))))))))
 obtain ⟨y137,hy137,h⟩ := bindO h
 refine Ops.z 9208 (Ev.call [5128] [] 0 (sem_spec_l05Take _ _ _ _ hy137) e e (.cons (.ptr e) (.d1 .nil)) e (.inl e) e e) e e (.nil (.so hm (.z 13288 (.bd e e) e e (.z 13304 (.al e e) e e (.y 13320 (.sto e e e e e e) e e (.nil (.so hm (.p e ?_))))))))
 obtain ⟨y141,hy141,h⟩ := bindO h
 refine Ops.z 17400 (Ev.call [5128] [] 0 (sem_spec_l05Var _ _ _ hy141) e e (.cons (.ptr e) .nil) e (.inl e) e e) e e (.p e (.y 17432 (.sto e e e e e e) e e (.nil (.so hm (.p e ?_)))))
 obtain ⟨y145,hy145,h⟩ := bindO h
 refine Ops.z 21496 (Ev.call [5128] [] 0 (sem_spec_l05Var _ _ _ hy145) e e (.cons (.ptr e) .nil) e (.inl e) e e) e e (.p e (.y 21528 (.sto e e e e e e) e e (.nil (.seq (.seq (.draw hm hmix (.p e (.p e (.p e (.p e (.p e (.askO (x := .t 22) e h (fun g162 h => ?_) (fun g162 h => ?_)))))))))))))
 ·refine OpsD.gn e g162 (.gn e g162 (.gn e g162 (.gn e g162 (.gn e g162 (.gn e g162 (.gn e g162 (.gn e g162 (.gn e g162 (.gn e g162 (.z 25816 (.pkT e g162 e) e e (.nil ⟨by kernel_rfl,?_⟩)))))))))))
  refine Run.condT e e (.so hm (.z 29672 (.bd e e) e e (.y 29688 (.sto e e e e e e) e e (.p e (.nil (.ret ?_))))))
  obtain rfl := someO h
  exact Ends.mkG (.inl e) e (Gh.trans (Gh.trans (gh_prn [0,1] [] hB e) (gh_nil [0] [] hB e e e)) (gh_pk [0,1] [10000000] hB e e e e)) e e
 ·refine OpsD.gp e g162 e (.gp e g162 e ?_)
  obtain ⟨y163,hy163,h⟩ := bindO h
  refine OpsD.gs (s := 25688) e g162 (Ev.call [] [] 0 (sem_spec_l01Var _ _ _ hy163) e e (.d1 .nil) e (.inl e) e e) e e ?_
  obtain ⟨x164,hx164,h⟩ := bindO h
  refine OpsD.gs (s := 25704) e g162 (Ev.addS e e hx164) e e (.gp e g162 e (.gp e g162 e ?_))
  obtain ⟨y165,hy165,h⟩ := bindO h
  refine OpsD.gs (s := 25752) e g162 (Ev.call [] [] 0 (sem_spec_l01Var _ _ _ hy165) e e (.d1 .nil) e (.inl e) e e) e e ?_
  obtain ⟨x166,hx166,h⟩ := bindO h
  refine OpsD.gs (s := 25768) e g162 (Ev.addS e e hx166) e e (.gp e g162 e (.gp e g162 e (.z 25816 (.pkF e g162 e) e e (.nil ⟨by kernel_rfl,?_⟩))))
  refine Run.condO e h (fun g167 h => ?_) (fun g167 h => ?_)
  ·refine Run.so hm (.z 29672 (.bd e e) e e (.y 29688 (.sto e e e e e e) e e (.p e (.nil (.ret ?_)))))
   obtain rfl := someO h
   exact Ends.mkG (.inl e) e (Gh.trans (Gh.trans (gh_prn [0,1] [] hB e) (gh_nil [0] [] hB e e e)) (gh_pk [0,1] [10000000] hB e e e e)) e e
  ·refine Run.skip (.so hm (.p e (.y 33784 (.sto e e e e e e) e e (.p e (.nil (.ret ?_))))))
   obtain rfl := someO h
   exact Ends.mkG (.inl e) e (Gh.trans (Gh.trans (gh_prn [0,1] [] hB e) (gh_nil [0] [] hB e e e)) (gh_pk [0,1] [10000000] hB e e e e)) e e
def spec_ReadLog_l1 (N : Nat) (y260 : (List ByteArray) × Int) : Nat → Int → Int → Int → (List Entry) → Option (Int × Int × (List Entry))
 | 0,_,_,_,_ => none
 | m + 1,x334,x338,x339,x341 =>
 (if (decide (x334 < ((y260.1.length : Nat) : Int))) = true then
 (at? y260.1 x334).bind fun x396 =>
 (spec_l12Start N x396).bind fun y397 =>
 (if y397.2 = true then
 spec_ReadLog_l1 N y260 m (w64 (x334 + 1)) y397.1.Start y397.1.StartTerm y397.1.Entries
 else
 (at? y260.1 x334).bind fun x403 =>
 none)
 else
 some (x338,x339,x341))
def spec_ReadLog (N : Nat) (x1 : ByteArray) : Option (Log × Int × Bool) :=
 (spec_Unframe N x1).bind fun y260 =>
 joinP (fun (v332 : Int × Int × (List Entry)) =>
 (if (((y260.1.length : Nat) : Int) == 0) = true then
 some ((Log.mk 0 0 ([])),0,false)
 else
 (spec_LogOk N (Log.mk v332.1 v332.2.1 v332.2.2)).bind fun y412 =>
 (if (!y412) = true then
 some ((Log.mk 0 0 ([])),0,false)
 else
 some ((Log.mk v332.1 v332.2.1 v332.2.2),y260.2,true)))) fun j332 =>
 (spec_ReadLog_l1 N y260 N 0 0 0 ([] : (List Entry))).bind (fun v372 => j332 (v372.1,v372.2.1,v372.2.2))
theorem sem_spec_ReadLog (N : Nat) (x1 : ByteArray) (r : Log × Int × Bool) (h : spec_ReadLog N x1 = some r) : Says Tryz.prog 53 [VS x1] 0 [] (.tup [.agg [VI r.1.Start,VI r.1.StartTerm,.sl 0 141 0 r.1.Entries.length],VI r.2.1,VB r.2.2]) [(0,.vec 141 (r.1.Entries.map encEntry))] := by
 unfold spec_ReadLog at h
 refine Says.of_norm e Tryz.call53 e fun B hB => ?_
 have hm : B.m ≤ 1000 := by omega
 refine Run.so hm (.z 1000 (.al e e) e e (.p2 e e (.nil (.so hm (.p e ?_)))))
 obtain ⟨y260,hy260,h⟩ := bindO h
 refine Ops.z 5112 (Ev.call [] [] 1 (sem_spec_Unframe _ _ _ hy260) e e (.d1 .nil) e (.inl e) e e) e e (.p3 e e e (.p2 e e (.nil (.so hm (.z 9192 (.bd e e) e e (.z 9208 (.al e e) e e (.y 9224 (.sto e e e e e e) e e (.nil (.seqO h (fun v332 => [(2,.ptr 0 0),(5,.sl 1 9 0 y260.1.length),(6,VI y260.2),(7,.ptr 2 0)]) (fun (v332 : Int × Int × (List Entry)) => [(0,.box [VI 0,VI 0,.sl 3 141 0 (([] : (List Entry)).length)]),(1,.vec 9 (y260.1.map encS)),(2,.box [VI v332.1,VI v332.2.1,.sl 4 141 0 v332.2.2.length]),(3,.vec 141 (([] : (List Entry)).map encEntry)),(4,.vec 141 (v332.2.2.map encEntry))]) (fun h => ?_) (fun v332 h => ?_))))))))))
 ·refine Run.so hm (.p e (.nil (.block ?_)))
  obtain ⟨res372,h,hk372⟩ := bindO h
  refine Run.loop (n := N) (fun m372 fr σ => ∃ (x334 : Int),∃ (x338 : Int),∃ (x339 : Int),∃ (x341 : (List Entry)),spec_ReadLog_l1 N y260 m372 x334 x338 x339 x341 = some res372 ∧ fr = [(2,.ptr 0 0),(5,.sl 1 9 0 y260.1.length),(6,VI y260.2),(7,.ptr 2 0),(8,VI x334)] ∧ σ = [(0,.box [VI 0,VI 0,.sl 3 141 0 (([] : (List Entry)).length)]),(1,.vec 9 (y260.1.map encS)),(2,.box [VI x338,VI x339,.sl 4 141 0 x341.length]),(3,.vec 141 (([] : (List Entry)).map encEntry)),(4,.vec 141 (x341.map encEntry))]) (Gh.trans (Gh.trans (gh_prn [2,5,6,7,8] [1000,5112,9208] hB e) (gh_nil [] [1000,9208] hB e e e)) (gh_pk [2,5,6,7,8] [1000,5112,9208,20000000,20000064] hB e e e e)) ⟨_,_,_,_,h,e,e⟩ ?_
  rintro m372 fr σ ⟨x334,x338,x339,x341,h,rfl,rfl⟩
  obtain _ | m372 := m372
  ·rw [spec_ReadLog_l1] at h; cases h
  rw [spec_ReadLog_l1] at h
  refine Run.seq (.so hm (.p3 e e e (.p e (.nil (.condO e h (fun g375 h => ?_) (fun g375 h => ?_))))))
  ·refine Run.skip (.seq (.block (.so hm (.p2 e e ?_))))
   obtain ⟨x396,hx396,h⟩ := bindO h
   refine Ops.z 25608 (Ev.iaW e e e hx396) e e (.z 25624 (Ev.ldE (f := encS) e e (at_some hx396).2 e e e) e e ?_)
   obtain ⟨y397,hy397,h⟩ := bindO h
   refine Ops.z 25640 (Ev.call [] [] 1 (sem_spec_l12Start _ _ _ hy397) e e (.d1 .nil) e (.inl e) e e) e e (.p3 e e e (.z 25704 (.al e e) e e (.y 25720 (.sto e e e e e e) e e (.p e (.nil (.seq (.so hm (.p e (.nil (.condO e h (fun g399 h => ?_) (fun g399 h => ?_)))))))))))
   ·exact Run.so hm (.p e (.y 33784 (.sto e e e e e e) e e (.nil (.exit (.ops hm (.p3 e e e (.nil (⟨m372,Nat.lt_succ_self m372,_,_,(gh_pk [2,5,6,7,8] [0,1,2,3,25640] hB e e e e),_,_,_,_,h,e,e⟩))))))))
   ·refine Run.skip (.so hm (.p2 e e ?_))
    obtain ⟨x403,hx403,h⟩ := bindO h
    exact Ops.z 37896 (Ev.iaW e e e hx403) e e (.z 37912 (Ev.ldE (f := encS) e e (at_some hx403).2 e e e) e e (noO h))
  ·refine Run.exit ?_
   obtain rfl := someO h
   have h := hk372
   exact ⟨_,_,(gh_pk [2,5,6,7] [0,1,2,3,4] hB e e e e),_,h,e,e⟩
 ·refine Run.seq (.so hm (.p3 e e e (.p e (.askO (x := .t 82) e h (fun g411 h => ?_) (fun g411 h => ?_)))))
  ·refine Ops.gn e g411 (.gn e g411 (.gn e g411 (.z 54360 (.pkT e g411 e) e e (.nil (.condT e e (.so hm (.z 58344 (.bd e e) e e (.y 58360 (.sto e e e e e e) e e (.p2 e e (.nil (.ret ?_)))))))))))
   obtain rfl := someO h
   exact Ends.mkG (.inl e) e (Gh.trans (Gh.trans (gh_prn [0,1,2] [] hB e) (gh_nil [0] [] hB e e e)) (gh_pk [0,1,2] [10000000] hB e e e e)) e e
  ·refine Ops.gp e g411 e ?_
   obtain ⟨y412,hy412,h⟩ := bindO h
   refine Ops.gs (s := 54328) e g411 (Ev.call [] [4] 0 (sem_spec_LogOk _ _ _ hy412) e e (.cons (.agg (.d2 (.cons (.borrow e (by decide) (lendW (fun _ => e) _ e)) .nil))) .nil) e (.inr ⟨e,ownL_root trivial⟩) e e) e e ?_
   refine Ops.gp e g411 e (.z 54360 (.pkF e g411 e) e e (.nil (.condO e h (fun g413 h => ?_) (fun g413 h => ?_))))
   ·refine Run.so hm (.z 58344 (.bd e e) e e (.y 58360 (.sto e e e e e e) e e (.p2 e e (.nil (.ret ?_)))))
    obtain rfl := someO h
    exact Ends.mkG (.inl e) e (Gh.trans (Gh.trans (gh_prn [0,1,2] [] hB e) (gh_nil [0] [] hB e e e)) (gh_pk [0,1,2] [10000000] hB e e e e)) e e
   ·refine Run.skip (.so hm (.p2 e e (.y 62472 (.sto e e e e e e) e e (.p2 e e (.nil (.ret ?_))))))
    obtain rfl := someO h
    exact Ends.mkG (.inl e) e (gh_pk [0,1,2] [4] hB e e e e) e e
def spec_l12Last (N : Nat) (x1 : Log) : Option (Int) :=
 some (w64 (x1.Start + (x1.Entries.length : Int)))
theorem sem_spec_l12Last (N : Nat) (x1 : Log) (r : Int) (h : spec_l12Last N x1 = some r) : Says Tryz.prog 86 [.agg [VI x1.Start,VI x1.StartTerm,RO 141 (x1.Entries.map encEntry)]] 0 [] (VI r) [] := by
 unfold spec_l12Last at h
 refine Says.of_norm e Tryz.call86 e fun B hB => ?_
 have hm : B.m ≤ 1000 := by omega
 refine Run.so hm (.z 1000 (.bx e e) e e (.p e (.nil (.so hm (.p3 e e e (.p e (.z 5160 (Ev.lnF e) e e (.p2 e e (.nil (.ret ?_))))))))))
 obtain rfl := someO h
 exact Ends.mkG (.inl e) e (gh_pk [0] [] hB e e e e) e e
def spec_LogTerm (N : Nat) (x1 : Log) (x2 : Int) : Option (Int) :=
 (if (x2 == x1.Start) = true then
 some x1.StartTerm
 else
 (if (decide (x2 < x1.Start)) = true then
 some (-1 : Int)
 else
 (spec_l12Last N x1).bind fun y124 =>
 (if (decide (x2 > y124)) = true then
 some (-1 : Int)
 else
 (at? x1.Entries (w64 ((w64 (x2 - x1.Start)) - 1))).bind fun x127 =>
 some x127.Term)))
theorem sem_spec_LogTerm (N : Nat) (x1 : Log) (x2 : Int) (r : Int) (h : spec_LogTerm N x1 x2 = some r) : Says Tryz.prog 87 [.agg [VI x1.Start,VI x1.StartTerm,RO 141 (x1.Entries.map encEntry)],VI x2] 0 [] (VI r) [] := by
 unfold spec_LogTerm at h
 refine Says.of_norm e Tryz.call87 e fun B hB => ?_
 have hm : B.m ≤ 1000 := by omega
 refine Run.so hm (.z 1000 (.bx e e) e e (.p e (.nil (.seq (.so hm (.p3 e e e (.p e (.nil (.condO e h (fun g115 h => ?_) (fun g115 h => ?_))))))))))
 ·refine Run.so hm (.p3 e e e (.nil (.ret ?_)))
  obtain rfl := someO h
  exact Ends.mkG (.inl e) e (gh_pk [0] [] hB e e e e) e e
 ·refine Run.skip (.seq (.so hm (.p3 e e e (.p2 e e (.askO (x := .t 15) e h (fun g123 h => ?_) (fun g123 h => ?_))))))
  ·refine Ops.gn e g123 (.gn e g123 (.gn e g123 (.gn e g123 (.z 13432 (.pkT e g123 e) e e (.nil (.condT e e (.so hm (.p e (.nil (.ret ?_))))))))))
   obtain rfl := someO h
   exact Ends.mkG (.inl e) e (gh_pk [0] [] hB e e e e) e e
  ·refine Ops.gp e g123 e (.gp e g123 e ?_)
   obtain ⟨y124,hy124,h⟩ := bindO h
   refine Ops.gs (s := 13400) e g123 (Ev.call [] [] 0 (sem_spec_l12Last _ _ _ hy124) e e (.cons (.agg (.d2 (.d1 .nil))) .nil) e (.inl e) e e) e e (.gp e g123 e (.z 13432 (.pkF e g123 e) e e (.nil (.condO e h (fun g125 h => ?_) (fun g125 h => ?_)))))
   ·refine Run.so hm (.p e (.nil (.ret ?_)))
    obtain rfl := someO h
    exact Ends.mkG (.inl e) e (gh_pk [0] [] hB e e e e) e e
   ·refine Run.skip (.so hm (.p3 e e e (.p3 e e e (.p e ?_))))
    obtain ⟨x127,hx127,h⟩ := bindO h
    refine Ops.z 21592 (Ev.iaF e e hx127) e e (.p3 e e e (.nil (.ret ?_)))
    obtain rfl := someO h
    exact Ends.mkG (.inl e) e (gh_pk [0] [] hB e e e e) e e
def spec_LogBehind (N : Nat) (x1 : Log) (x2 : Int) (x3 : Int) : Option (Log) :=
 joinP (fun (v152 : (List Entry)) =>
 some (Log.mk x2 x3 v152)) fun j152 =>
 (spec_LogOk N x1).bind fun y159 =>
 (if y159 = true then
 (spec_l12Last N x1).bind fun y161 =>
 (spec_l01In N x2 x1.Start y161).bind fun y162 =>
 (if y162 = true then
 (spec_LogTerm N x1 x2).bind fun y164 =>
 (if (y164 == x3) = true then
 (drop? x1.Entries (w64 (x2 - x1.Start))).bind fun x168 =>
 (cat? ([] : List Entry) x168).bind fun x169 =>
 j152 x169
 else
 j152 ([] : (List Entry)))
 else
 j152 ([] : (List Entry)))
 else
 j152 ([] : (List Entry)))
theorem sem_spec_LogBehind (N : Nat) (x1 : Log) (x2 : Int) (x3 : Int) (r : Log) (h : spec_LogBehind N x1 x2 x3 = some r) : Says Tryz.prog 54 [.agg [VI x1.Start,VI x1.StartTerm,RO 141 (x1.Entries.map encEntry)],VI x2,VI x3] 0 [] (.agg [VI r.Start,VI r.StartTerm,.sl 0 141 0 r.Entries.length]) [(0,.vec 141 (r.Entries.map encEntry))] := by
 unfold spec_LogBehind at h
 refine Says.of_norm e Tryz.call54 e fun B hB => ?_
 have hm : B.m ≤ 1000 := by omega
 refine Run.so hm (.z 1000 (.bx e e) e e (.z 1016 (.al e e) e e (.nil (.so hm (.p2 e e (.z 5128 (.bd e e) e e (.z 5144 (.al e e) e e (.y 5160 (.sto e e e e e e) e e (.nil (.seqO h (fun v152 => [(6,.ptr 0 0),(7,.ptr 1 0)]) (fun (v152 : (List Entry)) => [(0,.box [VI 0,VI 0,.sl 2 141 0 (([] : List Entry).length)]),(1,.box [VI x2,VI x3,.sl 3 141 0 v152.length]),(2,.vec 141 (([] : List Entry).map encEntry)),(3,.vec 141 (v152.map encEntry))]) (fun h => ?_) (fun v152 h => ?_)))))))))))
 ·refine Run.seq (.draw hm hmix (.p e ?_))
  obtain ⟨y159,hy159,h⟩ := bindO h
  refine OpsD.z 9208 (Ev.call [] [] 0 (sem_spec_LogOk _ _ _ hy159) e e (.cons (.agg (.d2 (.d1 .nil))) .nil) e (.inl e) e e) e e (.p e (.askO (x := .t 13) e h (fun g160 h => ?_) (fun g160 h => ?_)))
  ·refine OpsD.gp e g160 e (.gp e g160 e (.gp e g160 e (.gp e g160 e ?_)))
   obtain ⟨y161,hy161,h⟩ := bindO h
   refine OpsD.gs (s := 9304) e g160 (Ev.call [] [] 0 (sem_spec_l12Last _ _ _ hy161) e e (.cons (.agg (.d2 (.d1 .nil))) .nil) e (.inl e) e e) e e ?_
   obtain ⟨y162,hy162,h⟩ := bindO h
   refine OpsD.gs (s := 9320) e g160 (Ev.call [] [] 0 (sem_spec_l01In _ _ _ _ _ hy162) e e (.d2 (.d1 .nil)) e (.inl e) e e) e e (.z 9336 (.pkT e g160 e) e e (.p e (.askO (x := .t 21) e h (fun g163 h => ?_) (fun g163 h => ?_))))
   ·refine OpsD.gp e g163 e (.gp e g163 e ?_)
    obtain ⟨y164,hy164,h⟩ := bindO h
    refine OpsD.gs (s := 9400) e g163 (Ev.call [] [] 0 (sem_spec_LogTerm _ _ _ _ hy164) e e (.cons (.agg (.d2 (.d1 .nil))) (.d1 .nil)) e (.inl e) e e) e e (.gp e g163 e (.gp e g163 e (.z 9448 (.pkT e g163 e) e e (.nil ⟨by kernel_rfl,?_⟩))))
    refine Run.condO e h (fun g165 h => ?_) (fun g165 h => ?_)
    ·refine Run.ops hm (.z 13288 (Ev.bsW (ys := ([] : List Entry)) (f := encEntry) e .nil e e e e e) e e (.p3 e e e (.p3 e e e ?_)))
     obtain ⟨x168,hx168,h⟩ := bindO h
     refine Ops.z 13400 (Ev.slFl e e hx168) e e ?_
     obtain ⟨x169,hx169,h⟩ := bindO h
     exact Ops.z 13416 (Ev.apW (f := encEntry) (ontoW e e e) (addsF e) e bt141 e hx169) e e (.p e (.y 13448 (.sto e e e e e e) e e (.nil (⟨_,_,(Gh.trans (Gh.trans (gh_prn [6,7] [1016,5144,13416] hB e) (gh_nil [] [1016] hB e e e)) (gh_pk [6,7] [1016,5144,20000000,13416] hB e e e e)),_,h,e,e⟩))))
    ·exact Run.skip (⟨_,_,(Gh.trans (Gh.trans (gh_prn [6,7] [1016,5144] hB e) (gh_nil [] [1016,5144] hB e e e)) (gh_pk [6,7] [1016,5144,20000000,20000064] hB e e e e)),_,h,e,e⟩)
   ·refine OpsD.gn e g163 (.gn e g163 (.gn e g163 (.gn e g163 (.gn e g163 (.z 9448 (.pkF e g163 e) e e (.nil ⟨by kernel_rfl,?_⟩))))))
    exact Run.condF e e (.skip (⟨_,_,(Gh.trans (Gh.trans (gh_prn [6,7] [1016,5144] hB e) (gh_nil [] [1016,5144] hB e e e)) (gh_pk [6,7] [1016,5144,20000000,20000064] hB e e e e)),_,h,e,e⟩))
  ·refine OpsD.gn e g160 (.gn e g160 (.gn e g160 (.gn e g160 (.gn e g160 (.gn e g160 (.z 9336 (.pkF e g160 e) e e (.p e (.gn e e (.gn e e (.gn e e (.gn e e (.gn e e (.z 9448 (.pkF e e e) e e (.nil ⟨by kernel_rfl,?_⟩))))))))))))))
   exact Run.condF e e (.skip (⟨_,_,(Gh.trans (Gh.trans (gh_prn [6,7] [1016,5144] hB e) (gh_nil [] [1016,5144] hB e e e)) (gh_pk [6,7] [1016,5144,20000000,20000064] hB e e e e)),_,h,e,e⟩))
 ·refine Run.so hm (.p e (.y 17400 (.sto e e e e e e) e e (.nil (.ret ?_))))
  obtain rfl := someO h
  exact Ends.mkG (.inl e) e (gh_pk [0] [3] hB e e e e) e e
def spec_l12Same_l1 (N : Nat) (x1 : Log) : Nat → Option (Unit)
 | 0 => none
 | m + 1 =>
 (if (decide (0 < (x1.Entries.length : Int))) = true then
 none
 else
 some ())
def spec_l12Same (N : Nat) (x1 : Log) (x2 : Log) : Option (Bool) :=
 (if (x1.Start != x2.Start) = true then
 some false
 else
 (if (x1.StartTerm != x2.StartTerm) = true then
 some false
 else
 (if ((x1.Entries.length : Int) != (x2.Entries.length : Int)) = true then
 some false
 else
 joinP (fun (v151 : Unit) =>
 some true) fun j151 =>
 (spec_l12Same_l1 N x1 N).bind (fun v158 => j151 ()))))
theorem sem_spec_l12Same (N : Nat) (x1 : Log) (x2 : Log) (r : Bool) (h : spec_l12Same N x1 x2 = some r) : Says Tryz.prog 55 [.agg [VI x1.Start,VI x1.StartTerm,RO 141 (x1.Entries.map encEntry)],.agg [VI x2.Start,VI x2.StartTerm,RO 141 (x2.Entries.map encEntry)]] 0 [] (VB r) [] := by
 unfold spec_l12Same at h
 refine Says.of_run s55 Tryz.call55 e fun B hB => ?_
 have hm : B.m ≤ 1000 := by omega
 refine Run.so hm (.z 1000 (.bx e e) e e (.z 1016 (.bx e e) e e (.p e (.nil (.seq (.so hm (.p3 e e e (.p3 e e e (.askO (x := .t 11) e h (fun g138 h => ?_) (fun g138 h => ?_))))))))))
 ·refine Ops.gn e g138 (.gn e g138 (.gn e g138 (.gn e g138 (.gn e g138 (.z 5272 (.pkT e g138 e) e e (.p e (.gn e e (.gn e e (.gn e e (.gn e e (.gn e e (.gn e e (.gn e e (.z 5416 (.pkT e e e) e e (.nil (.condT e e (.so hm (.p e (.nil (.ret ?_))))))))))))))))))))
  obtain rfl := someO h
  exact Ends.mkG (.inl e) e (gh_pk [0] [] hB e e e e) e e
 ·refine Ops.gp e g138 e (.gp e g138 e (.gp e g138 e (.gp e g138 e (.gp e g138 e (.z 5272 (.pkF e g138 e) e e (.p e (.askO (x := .t 18) e h (fun g139 h => ?_) (fun g139 h => ?_))))))))
  ·refine Ops.gn e g139 (.gn e g139 (.gn e g139 (.gn e g139 (.gn e g139 (.gn e g139 (.gn e g139 (.z 5416 (.pkT e g139 e) e e (.nil (.condT e e (.so hm (.p e (.nil (.ret ?_)))))))))))))
   obtain rfl := someO h
   exact Ends.mkG (.inl e) e (gh_pk [0] [] hB e e e e) e e
  ·refine Ops.gp e g139 e (.gp e g139 e (.gs (s := 5336) e g139 (Ev.lnF e) e e (.gp e g139 e (.gp e g139 e (.gs (s := 5384) e g139 (Ev.lnF e) e e (.gp e g139 e (.z 5416 (.pkF e g139 e) e e (.nil (.condO e h (fun g140 h => ?_) (fun g140 h => ?_))))))))))
   ·refine Run.so hm (.p e (.nil (.ret ?_)))
    obtain rfl := someO h
    exact Ends.mkG (.inl e) e (gh_pk [0] [] hB e e e e) e e
   ·refine Run.skip (.seqO h (fun v151 => []) (fun (v151 : Unit) => []) (fun h => ?_) (fun v151 h => ?_))
    ·refine Run.so hm (.p e (.nil (.block ?_)))
     obtain ⟨res158,h,hk158⟩ := bindO h
     refine Run.loop (n := N) (fun m158 fr σ => spec_l12Same_l1 N x1 m158 = some res158 ∧ fr = [(2,.ptr 0 0),(5,VI 0)] ∧ σ = [(0,.box [VI x1.Start,VI x1.StartTerm,RO 141 (x1.Entries.map encEntry)])]) (gh_pk [2,5] [1000] hB e e e e) ⟨h,e,e⟩ ?_
     rintro m158 fr σ ⟨h,rfl,rfl⟩
     obtain _ | m158 := m158
     ·rw [spec_l12Same_l1] at h; cases h
     rw [spec_l12Same_l1] at h
     refine Run.seq (.so hm (.p3 e e e (.z 17432 (Ev.lnF e) e e (.p e (.nil (.condO e h (fun g161 h => ?_) (fun g161 h => ?_)))))))
     ·exact noO h
     ·refine Run.exit ?_
      obtain rfl := someO h
      have h := hk158
      exact ⟨_,_,(gh_pk [] [] hB e e e e),(),h,e,e⟩
    ·refine Run.so hm (.p e (.nil (.ret ?_)))
     obtain rfl := someO h
     exact Ends.mkG (.inl e) e (gh_pk [0] [] hB e e e e) e e
def spec_ReadVotes_l1 (N : Nat) (y130 : (List ByteArray) × Int) : Nat → Option (Unit)
 | 0 => none
 | m + 1 =>
 (if (decide (0 < ((y130.1.length : Nat) : Int))) = true then
 none
 else
 some ())
def spec_ReadVotes (N : Nat) (x1 : ByteArray) : Option (Int × Int × Int) :=
 (spec_Unframe N x1).bind fun y130 =>
 joinP (fun (v142 : Unit) =>
 some (0,0,y130.2)) fun j142 =>
 (spec_ReadVotes_l1 N y130 N).bind (fun v150 => j142 ())
theorem sem_spec_ReadVotes (N : Nat) (x1 : ByteArray) (r : Int × Int × Int) (h : spec_ReadVotes N x1 = some r) : Says Tryz.prog 58 [VS x1] 0 [] (.tup [VI r.1,VI r.2.1,VI r.2.2]) [] := by
 unfold spec_ReadVotes at h
 refine Says.of_norm e Tryz.call58 e fun B hB => ?_
 have hm : B.m ≤ 1000 := by omega
 refine Run.so hm (.p3 e e e (.nil (.so hm (.p e ?_))))
 obtain ⟨y130,hy130,h⟩ := bindO h
 refine Ops.z 5112 (Ev.call [] [] 1 (sem_spec_Unframe _ _ _ hy130) e e (.d1 .nil) e (.inl e) e e) e e (.p3 e e e (.p2 e e (.nil (.so hm (.p e (.nil (.so hm (.p e (.nil (.seqO h (fun v142 => [(6,VI y130.2),(7,VI 0),(8,VI 0)]) (fun (v142 : Unit) => []) (fun h => ?_) (fun v142 h => ?_)))))))))))
 ·refine Run.so hm (.p e (.nil (.block ?_)))
  obtain ⟨res150,h,hk150⟩ := bindO h
  refine Run.loop (n := N) (fun m150 fr σ => spec_ReadVotes_l1 N y130 m150 = some res150 ∧ fr = [(5,.sl 0 9 0 y130.1.length),(6,VI y130.2),(7,VI 0),(8,VI 0),(9,VI 0)] ∧ σ = [(0,.vec 9 (y130.1.map encS))]) (gh_pk [5,6,7,8,9] [5112] hB e e e e) ⟨h,e,e⟩ ?_
  rintro m150 fr σ ⟨h,rfl,rfl⟩
  obtain _ | m150 := m150
  ·rw [spec_ReadVotes_l1] at h; cases h
  rw [spec_ReadVotes_l1] at h
  refine Run.seq (.so hm (.p3 e e e (.p e (.nil (.condO e h (fun g153 h => ?_) (fun g153 h => ?_))))))
  ·exact noO h
  ·refine Run.exit ?_
   obtain rfl := someO h
   have h := hk150
   exact ⟨_,_,(gh_pk [6,7,8] [] hB e e e e),(),h,e,e⟩
 ·refine Run.so hm (.p3 e e e (.p3 e e e (.nil (.ret ?_))))
  obtain rfl := someO h
  exact Ends.mkG (.inl e) e (gh_pk [0,1,2] [] hB e e e e) e e
def spec_PutRaws_l1 (N : Nat) (x2 : (List Raw)) : Nat → Option (Unit)
 | 0 => none
 | m + 1 =>
 (if (decide (0 < (x2.length : Int))) = true then
 none
 else
 some ())
def spec_PutRaws (N : Nat) (x1 : Disk) (x2 : (List Raw)) : Option (Disk × Int) :=
 (spec_DiskOk N x1).bind fun y142 =>
 (if (!y142) = true then
 some ((Disk.mk ([])),0)
 else
 (if (decide ((x2.length : Int) > 60)) = true then
 some ((Disk.mk ([])),0)
 else
 (cat? ([] : List File) x1.Files).bind fun x148 =>
 joinP (fun (v159 : Unit) =>
 some ((Disk.mk x148),(x2.length : Int))) fun j159 =>
 (spec_PutRaws_l1 N x2 N).bind (fun v166 => j159 ())))
theorem sem_spec_PutRaws (N : Nat) (x1 : Disk) (x2 : (List Raw)) (r : Disk × Int) (h : spec_PutRaws N x1 x2 = some r) : Says Tryz.prog 59 [.agg [RO 98 (x1.Files.map encFile)],RO 107 (x2.map encRaw)] 0 [] (.tup [.agg [.sl 0 98 0 r.1.Files.length],VI r.2]) [(0,.vec 98 (r.1.Files.map encFile))] := by
 unfold spec_PutRaws at h
 refine Says.of_norm e Tryz.call59 e fun B hB => ?_
 have hm : B.m ≤ 1000 := by omega
 refine Run.so hm (.z 1000 (.bx e e) e e (.z 1016 (.al e e) e e (.p e (.nil (.seq (.so hm (.p e ?_)))))))
 obtain ⟨y142,hy142,h⟩ := bindO h
 refine Ops.z 5112 (Ev.call [] [] 0 (sem_spec_DiskOk _ _ _ hy142) e e (.cons (.agg (.d1 .nil)) .nil) e (.inl e) e e) e e (.p2 e e (.askO (x := .t 13) e h (fun g143 h => ?_) (fun g143 h => ?_)))
 ·refine Ops.gn e g143 (.gn e g143 (.gn e g143 (.z 5208 (.pkT e g143 e) e e (.nil (.condT e e (.so hm (.z 9192 (.bd e e) e e (.y 9208 (.sto e e e e e e) e e (.p e (.nil (.ret ?_)))))))))))
  obtain rfl := someO h
  exact Ends.mkG (.inl e) e (Gh.trans (Gh.trans (gh_prn [0,1] [] hB e) (gh_nil [0] [] hB e e e)) (gh_pk [0,1] [10000000] hB e e e e)) e e
 ·refine Ops.gp e g143 e (.gs (s := 5176) e g143 (Ev.lnF e) e e (.gp e g143 e (.z 5208 (.pkF e g143 e) e e (.nil (.condO e h (fun g144 h => ?_) (fun g144 h => ?_))))))
  ·refine Run.so hm (.z 9192 (.bd e e) e e (.y 9208 (.sto e e e e e e) e e (.p e (.nil (.ret ?_)))))
   obtain rfl := someO h
   exact Ends.mkG (.inl e) e (Gh.trans (Gh.trans (gh_prn [0,1] [] hB e) (gh_nil [0] [] hB e e e)) (gh_pk [0,1] [10000000] hB e e e e)) e e
  ·refine Run.skip (.so hm (.z 13288 (Ev.bsW (ys := ([] : List File)) (f := encFile) e .nil e e e e e) e e (.p2 e e ?_)))
   obtain ⟨x148,hx148,h⟩ := bindO h
   refine Ops.z 13336 (Ev.apW (f := encFile) (ontoW e e e) (addsF e) e bt98 e hx148) e e (.z 13352 (.bd e e) e e (.z 13368 (.al e e) e e (.y 13384 (.sto e e e e e e) e e (.nil (.seqO h (fun v159 => [(1,RO 107 (x2.map encRaw)),(4,.ptr 0 0),(6,.ptr 1 0)]) (fun (v159 : Unit) => [(0,.box [.sl 2 98 0 (([] : (List File)).length)]),(1,.box [.sl 3 98 0 x148.length]),(2,.vec 98 (([] : (List File)).map encFile)),(3,.vec 98 (x148.map encFile))]) (fun h => ?_) (fun v159 h => ?_))))))
   ·refine Run.so hm (.p e (.nil (.block ?_)))
    obtain ⟨res166,h,hk166⟩ := bindO h
    refine Run.loop (n := N) (fun m166 fr σ => spec_PutRaws_l1 N x2 m166 = some res166 ∧ fr = [(1,RO 107 (x2.map encRaw)),(4,.ptr 0 0),(6,.ptr 1 0),(7,VI 0)] ∧ σ = [(0,.box [.sl 2 98 0 (([] : (List File)).length)]),(1,.box [.sl 3 98 0 x148.length]),(2,.vec 98 (([] : (List File)).map encFile)),(3,.vec 98 (x148.map encFile))]) (Gh.trans (Gh.trans (gh_prn [1,4,6,7] [1016,13368,13336] hB e) (gh_nil [] [1016] hB e e e)) (gh_pk [1,4,6,7] [1016,13368,20000000,13336] hB e e e e)) ⟨h,e,e⟩ ?_
    rintro m166 fr σ ⟨h,rfl,rfl⟩
    obtain _ | m166 := m166
    ·rw [spec_PutRaws_l1] at h; cases h
    rw [spec_PutRaws_l1] at h
    refine Run.seq (.so hm (.p2 e e (.z 21512 (Ev.lnF e) e e (.p e (.nil (.condO e h (fun g169 h => ?_) (fun g169 h => ?_)))))))
    ·exact noO h
    ·refine Run.exit ?_
     obtain rfl := someO h
     have h := hk166
     exact ⟨_,_,(gh_pk [1,4,6] [0,1,2,3] hB e e e e),(),h,e,e⟩
   ·refine Run.so hm (.p2 e e (.z 46088 (Ev.lnF e) e e (.y 46104 (.sto e e e e e e) e e (.p e (.nil (.ret ?_))))))
    obtain rfl := someO h
    exact Ends.mkG (.inl e) e (gh_pk [0,1] [3] hB e e e e) e e
def spec_LogLast (N : Nat) (x1 : Log) : Option (Int × Int) :=
 (if ((x1.Entries.length : Int) == 0) = true then
 some (x1.Start,x1.StartTerm)
 else
 (at? x1.Entries (w64 ((x1.Entries.length : Int) - 1))).bind fun x107 =>
 some (w64 (x1.Start + (x1.Entries.length : Int)),x107.Term))
theorem sem_spec_LogLast (N : Nat) (x1 : Log) (r : Int × Int) (h : spec_LogLast N x1 = some r) : Says Tryz.prog 92 [.agg [VI x1.Start,VI x1.StartTerm,RO 141 (x1.Entries.map encEntry)]] 0 [] (.tup [VI r.1,VI r.2]) [] := by
 unfold spec_LogLast at h
 refine Says.of_norm e Tryz.call92 e fun B hB => ?_
 have hm : B.m ≤ 1000 := by omega
 refine Run.so hm (.z 1000 (.bx e e) e e (.p2 e e (.nil (.so hm (.p2 e e (.z 5128 (Ev.lnF e) e e (.p e (.nil (.seq (.so hm (.p2 e e (.nil (.condO e h (fun g105 h => ?_) (fun g105 h => ?_))))))))))))))
 ·refine Run.seq (.draw hm hmix (.p e (.p e (.p e (.p e (.p e (.p e (.nil ⟨by kernel_rfl,?_⟩))))))))
  refine Run.ret ?_
  obtain rfl := someO h
  exact Ends.mkG (.inl e) e (gh_pk [0,1] [] hB e e e e) e e
 ·refine Run.skip (.seq (.draw hm hmix (.p e (.p e (.p e (.p e (.p e (.p e (.p e (.p e ?_))))))))))
  obtain ⟨x107,hx107,h⟩ := bindO h
  refine OpsD.z 17512 (Ev.iaF e e hx107) e e (.p e (.p e (.p e (.p e (.nil ⟨by kernel_rfl,?_⟩)))))
  refine Run.ret ?_
  obtain rfl := someO h
  exact Ends.mkG (.inl e) e (gh_pk [0,1] [] hB e e e e) e e
def spec_NodeOk_l1 (N : Nat) : Nat → Option (Unit)
 | 0 => none
 | m + 1 =>
 (if (decide (0 < ((([] : List Int).length : Nat) : Int))) = true then
 none
 else
 some ())
def spec_NodeOk (N : Nat) (x1 : Node) : Option (Bool) :=
 (spec_l01In N x1.Id 1 4).bind fun y262 =>
 (if (!y262) = true then
 some false
 else
 (spec_ConfOk N x1.Conf).bind fun y264 =>
 (if (!y264) = true then
 some false
 else
 (spec_LogOk N x1.Log).bind fun y266 =>
 (if (!y266) = true then
 some false
 else
 (spec_l01In N x1.Term 0 100000).bind fun y268 =>
 (if (!y268) = true then
 some false
 else
 (spec_l01In N x1.Vote 0 4).bind fun y270 =>
 (if (!y270) = true then
 some false
 else
 (spec_l01In N x1.Lead 0 4).bind fun y272 =>
 (if (!y272) = true then
 some false
 else
 (spec_l01In N x1.Role 0 2).bind fun y274 =>
 (if (!y274) = true then
 some false
 else
 (spec_LogLast N x1.Log).bind fun y279 =>
 joinP (fun (v301 : Unit) =>
 (if (x1.Role == 2) = true then
 none
 else
 (if ((x1.Peers.length : Int) != ((([] : List Int).length : Nat) : Int)) = true then
 some false
 else
 joinP (fun (v335 : Unit) =>
 some true) fun j335 =>
 (spec_NodeOk_l1 N N).bind (fun v340 => j335 ())))) fun j301 =>
 (if (decide (x1.Term < y279.2)) = true then
 some false
 else
 (spec_l01In N x1.Commit x1.Log.Start y279.1).bind fun y313 =>
 (if (!y313) = true then
 some false
 else
 (spec_l01In N x1.Clock 0 20).bind fun y315 =>
 (if (!y315) = true then
 some false
 else
 (spec_l01In N x1.Limit 1 20).bind fun y317 =>
 (if (!y317) = true then
 some false
 else
 (spec_l07Rise N x1.Votes 1 4).bind fun y319 =>
 (if (!y319) = true then
 some false
 else
 (if (decide ((x1.Votes.length : Int) > 0)) = true then
 (if (x1.Role != 1) = true then
 some false
 else
 j301 ())
 else
 j301 ())))))))))))))
theorem sem_spec_NodeOk (N : Nat) (x1 : Node) (r : Bool) (h : spec_NodeOk N x1 = some r) : Says Tryz.prog 60 [.agg [VI x1.Id,VI x1.Term,VI x1.Vote,VI x1.Role,VI x1.Lead,RO 3 (x1.Conf.map encI),VI x1.Log.Start,VI x1.Log.StartTerm,RO 141 (x1.Log.Entries.map encEntry),VI x1.Commit,VI x1.Clock,VI x1.Limit,RO 3 (x1.Votes.map encI),RO 158 (x1.Peers.map encPeer)]] 0 [] (VB r) [] := by
 unfold spec_NodeOk at h
 refine Says.of_norm e Tryz.call60 e fun B hB => ?_
 have hm : B.m ≤ 1000 := by omega
 refine Run.so hm (.z 1000 (.bx e e) e e (.p e (.nil (.seq (.so hm (.p2 e e ?_))))))
 obtain ⟨y262,hy262,h⟩ := bindO h
 refine Ops.z 5128 (Ev.call [] [] 0 (sem_spec_l01In _ _ _ _ _ hy262) e e (.d2 (.d1 .nil)) e (.inl e) e e) e e (.p2 e e (.askO (x := .t 12) e h (fun g263 h => ?_) (fun g263 h => ?_)))
 ·refine Ops.gn e g263 (.gn e g263 (.gn e g263 (.gn e g263 (.z 5240 (.pkT e g263 e) e e (.p e (.gn e e (.gn e e (.gn e e (.gn e e (.z 5336 (.pkT e e e) e e (.p e (.gn e e (.gn e e (.gn e e (.gn e e (.z 5432 (.pkT e e e) e e (.p e (.gn e e (.gn e e (.gn e e (.gn e e (.z 5528 (.pkT e e e) e e (.p e (.gn e e (.gn e e (.gn e e (.gn e e (.z 5624 (.pkT e e e) e e (.p e (.gn e e (.gn e e (.gn e e (.gn e e (.z 5720 (.pkT e e e) e e (.nil (.condT e e (.so hm (.p e (.nil (.ret ?_))))))))))))))))))))))))))))))))))))))))
  obtain rfl := someO h
  exact Ends.mkG (.inl e) e (gh_pk [0] [] hB e e e e) e e
 ·refine Ops.gp e g263 e (.gp e g263 e ?_)
  obtain ⟨y264,hy264,h⟩ := bindO h
  refine Ops.gs (s := 5208) e g263 (Ev.call [] [] 0 (sem_spec_ConfOk _ _ _ hy264) e e (.d1 .nil) e (.inl e) e e) e e (.gp e g263 e (.z 5240 (.pkF e g263 e) e e (.p e (.askO (x := .t 18) e h (fun g265 h => ?_) (fun g265 h => ?_)))))
  ·refine Ops.gn e g265 (.gn e g265 (.gn e g265 (.gn e g265 (.z 5336 (.pkT e g265 e) e e (.p e (.gn e e (.gn e e (.gn e e (.gn e e (.z 5432 (.pkT e e e) e e (.p e (.gn e e (.gn e e (.gn e e (.gn e e (.z 5528 (.pkT e e e) e e (.p e (.gn e e (.gn e e (.gn e e (.gn e e (.z 5624 (.pkT e e e) e e (.p e (.gn e e (.gn e e (.gn e e (.gn e e (.z 5720 (.pkT e e e) e e (.nil (.condT e e (.so hm (.p e (.nil (.ret ?_))))))))))))))))))))))))))))))))))
   obtain rfl := someO h
   exact Ends.mkG (.inl e) e (gh_pk [0] [] hB e e e e) e e
  ·refine Ops.gp e g265 e (.gp e g265 e ?_)
   obtain ⟨y266,hy266,h⟩ := bindO h
   refine Ops.gs (s := 5304) e g265 (Ev.call [] [] 0 (sem_spec_LogOk _ _ _ hy266) e e (.cons (.agg (.d2 (.d1 .nil))) .nil) e (.inl e) e e) e e (.gp e g265 e (.z 5336 (.pkF e g265 e) e e (.p e (.askO (x := .t 24) e h (fun g267 h => ?_) (fun g267 h => ?_)))))
   ·refine Ops.gn e g267 (.gn e g267 (.gn e g267 (.gn e g267 (.z 5432 (.pkT e g267 e) e e (.p e (.gn e e (.gn e e (.gn e e (.gn e e (.z 5528 (.pkT e e e) e e (.p e (.gn e e (.gn e e (.gn e e (.gn e e (.z 5624 (.pkT e e e) e e (.p e (.gn e e (.gn e e (.gn e e (.gn e e (.z 5720 (.pkT e e e) e e (.nil (.condT e e (.so hm (.p e (.nil (.ret ?_))))))))))))))))))))))))))))
    obtain rfl := someO h
    exact Ends.mkG (.inl e) e (gh_pk [0] [] hB e e e e) e e
   ·refine Ops.gp e g267 e (.gp e g267 e ?_)
    obtain ⟨y268,hy268,h⟩ := bindO h
    refine Ops.gs (s := 5400) e g267 (Ev.call [] [] 0 (sem_spec_l01In _ _ _ _ _ hy268) e e (.d2 (.d1 .nil)) e (.inl e) e e) e e (.gp e g267 e (.z 5432 (.pkF e g267 e) e e (.p e (.askO (x := .t 30) e h (fun g269 h => ?_) (fun g269 h => ?_)))))
    ·refine Ops.gn e g269 (.gn e g269 (.gn e g269 (.gn e g269 (.z 5528 (.pkT e g269 e) e e (.p e (.gn e e (.gn e e (.gn e e (.gn e e (.z 5624 (.pkT e e e) e e (.p e (.gn e e (.gn e e (.gn e e (.gn e e (.z 5720 (.pkT e e e) e e (.nil (.condT e e (.so hm (.p e (.nil (.ret ?_))))))))))))))))))))))
     obtain rfl := someO h
     exact Ends.mkG (.inl e) e (gh_pk [0] [] hB e e e e) e e
    ·refine Ops.gp e g269 e (.gp e g269 e ?_)
     obtain ⟨y270,hy270,h⟩ := bindO h
     refine Ops.gs (s := 5496) e g269 (Ev.call [] [] 0 (sem_spec_l01In _ _ _ _ _ hy270) e e (.d2 (.d1 .nil)) e (.inl e) e e) e e (.gp e g269 e (.z 5528 (.pkF e g269 e) e e (.p e (.askO (x := .t 36) e h (fun g271 h => ?_) (fun g271 h => ?_)))))
     ·refine Ops.gn e g271 (.gn e g271 (.gn e g271 (.gn e g271 (.z 5624 (.pkT e g271 e) e e (.p e (.gn e e (.gn e e (.gn e e (.gn e e (.z 5720 (.pkT e e e) e e (.nil (.condT e e (.so hm (.p e (.nil (.ret ?_))))))))))))))))
      obtain rfl := someO h
      exact Ends.mkG (.inl e) e (gh_pk [0] [] hB e e e e) e e
     ·refine Ops.gp e g271 e (.gp e g271 e ?_)
      obtain ⟨y272,hy272,h⟩ := bindO h
      refine Ops.gs (s := 5592) e g271 (Ev.call [] [] 0 (sem_spec_l01In _ _ _ _ _ hy272) e e (.d2 (.d1 .nil)) e (.inl e) e e) e e (.gp e g271 e (.z 5624 (.pkF e g271 e) e e (.p e (.askO (x := .t 42) e h (fun g273 h => ?_) (fun g273 h => ?_)))))
      ·refine Ops.gn e g273 (.gn e g273 (.gn e g273 (.gn e g273 (.z 5720 (.pkT e g273 e) e e (.nil (.condT e e (.so hm (.p e (.nil (.ret ?_))))))))))
       obtain rfl := someO h
       exact Ends.mkG (.inl e) e (gh_pk [0] [] hB e e e e) e e
      ·refine Ops.gp e g273 e (.gp e g273 e ?_)
       obtain ⟨y274,hy274,h⟩ := bindO h
       refine Ops.gs (s := 5688) e g273 (Ev.call [] [] 0 (sem_spec_l01In _ _ _ _ _ hy274) e e (.d2 (.d1 .nil)) e (.inl e) e e) e e (.gp e g273 e (.z 5720 (.pkF e g273 e) e e (.nil (.condO e h (fun g275 h => ?_) (fun g275 h => ?_)))))
       ·refine Run.so hm (.p e (.nil (.ret ?_)))
        obtain rfl := someO h
        exact Ends.mkG (.inl e) e (gh_pk [0] [] hB e e e e) e e
       ·refine Run.skip (.so hm (.p2 e e ?_))
        obtain ⟨y279,hy279,h⟩ := bindO h
        refine Ops.z 13320 (Ev.call [] [] 0 (sem_spec_LogLast _ _ _ hy279) e e (.cons (.agg (.d2 (.d1 .nil))) .nil) e (.inl e) e e) e e (.p3 e e e (.p2 e e (.nil (.seqO h (fun v301 => [(1,.ptr 0 0)]) (fun (v301 : Unit) => [(0,.box [VI x1.Id,VI x1.Term,VI x1.Vote,VI x1.Role,VI x1.Lead,RO 3 (x1.Conf.map encI),VI x1.Log.Start,VI x1.Log.StartTerm,RO 141 (x1.Log.Entries.map encEntry),VI x1.Commit,VI x1.Clock,VI x1.Limit,RO 3 (x1.Votes.map encI),RO 158 (x1.Peers.map encPeer)])]) (fun h => ?_) (fun v301 h => ?_)))))
        ·refine Run.so hm (.p3 e e e (.p2 e e (.askO (x := .t 58) e h (fun g312 h => ?_) (fun g312 h => ?_))))
         ·refine Ops.gn e g312 (.gn e g312 (.gn e g312 (.gn e g312 (.gn e g312 (.gn e g312 (.gn e g312 (.gn e g312 (.z 17592 (.pkT e g312 e) e e (.p e (.gn e e (.gn e e (.gn e e (.gn e e (.z 17688 (.pkT e e e) e e (.p e (.gn e e (.gn e e (.gn e e (.gn e e (.z 17784 (.pkT e e e) e e (.p e (.gn e e (.gn e e (.gn e e (.gn e e (.z 17880 (.pkT e e e) e e (.p e (.gn e e (.gn e e (.gn e e (.gn e e (.gn e e (.gu e (.gu e (.gu e (.gn e e (.z 18056 (.pkT e e e) e e (.nil (.condT e e (.so hm (.p e (.nil (.ret ?_)))))))))))))))))))))))))))))))))))))))))))
          obtain rfl := someO h
          exact Ends.mkG (.inl e) e (gh_pk [0] [] hB e e e e) e e
         ·refine Ops.gp e g312 e (.gp e g312 e (.gp e g312 e (.gp e g312 e (.gp e g312 e (.gp e g312 e ?_)))))
          obtain ⟨y313,hy313,h⟩ := bindO h
          refine Ops.gs (s := 17560) e g312 (Ev.call [] [] 0 (sem_spec_l01In _ _ _ _ _ hy313) e e (.d2 (.d1 .nil)) e (.inl e) e e) e e (.gp e g312 e (.z 17592 (.pkF e g312 e) e e (.p e (.askO (x := .t 68) e h (fun g314 h => ?_) (fun g314 h => ?_)))))
          ·refine Ops.gn e g314 (.gn e g314 (.gn e g314 (.gn e g314 (.z 17688 (.pkT e g314 e) e e (.p e (.gn e e (.gn e e (.gn e e (.gn e e (.z 17784 (.pkT e e e) e e (.p e (.gn e e (.gn e e (.gn e e (.gn e e (.z 17880 (.pkT e e e) e e (.p e (.gn e e (.gn e e (.gn e e (.gn e e (.gn e e (.gu e (.gu e (.gu e (.gn e e (.z 18056 (.pkT e e e) e e (.nil (.condT e e (.so hm (.p e (.nil (.ret ?_)))))))))))))))))))))))))))))))))
           obtain rfl := someO h
           exact Ends.mkG (.inl e) e (gh_pk [0] [] hB e e e e) e e
          ·refine Ops.gp e g314 e (.gp e g314 e ?_)
           obtain ⟨y315,hy315,h⟩ := bindO h
           refine Ops.gs (s := 17656) e g314 (Ev.call [] [] 0 (sem_spec_l01In _ _ _ _ _ hy315) e e (.d2 (.d1 .nil)) e (.inl e) e e) e e (.gp e g314 e (.z 17688 (.pkF e g314 e) e e (.p e (.askO (x := .t 74) e h (fun g316 h => ?_) (fun g316 h => ?_)))))
           ·refine Ops.gn e g316 (.gn e g316 (.gn e g316 (.gn e g316 (.z 17784 (.pkT e g316 e) e e (.p e (.gn e e (.gn e e (.gn e e (.gn e e (.z 17880 (.pkT e e e) e e (.p e (.gn e e (.gn e e (.gn e e (.gn e e (.gn e e (.gu e (.gu e (.gu e (.gn e e (.z 18056 (.pkT e e e) e e (.nil (.condT e e (.so hm (.p e (.nil (.ret ?_)))))))))))))))))))))))))))
            obtain rfl := someO h
            exact Ends.mkG (.inl e) e (gh_pk [0] [] hB e e e e) e e
           ·refine Ops.gp e g316 e (.gp e g316 e ?_)
            obtain ⟨y317,hy317,h⟩ := bindO h
            refine Ops.gs (s := 17752) e g316 (Ev.call [] [] 0 (sem_spec_l01In _ _ _ _ _ hy317) e e (.d2 (.d1 .nil)) e (.inl e) e e) e e (.gp e g316 e (.z 17784 (.pkF e g316 e) e e (.p e (.askO (x := .t 80) e h (fun g318 h => ?_) (fun g318 h => ?_)))))
            ·refine Ops.gn e g318 (.gn e g318 (.gn e g318 (.gn e g318 (.z 17880 (.pkT e g318 e) e e (.p e (.gn e e (.gn e e (.gn e e (.gn e e (.gn e e (.gu e (.gu e (.gu e (.gn e e (.z 18056 (.pkT e e e) e e (.nil (.condT e e (.so hm (.p e (.nil (.ret ?_)))))))))))))))))))))
             obtain rfl := someO h
             exact Ends.mkG (.inl e) e (gh_pk [0] [] hB e e e e) e e
            ·refine Ops.gp e g318 e (.gp e g318 e ?_)
             obtain ⟨y319,hy319,h⟩ := bindO h
             refine Ops.gs (s := 17848) e g318 (Ev.call [] [] 0 (sem_spec_l07Rise _ _ _ _ _ hy319) e e (.d2 (.d1 .nil)) e (.inl e) e e) e e (.gp e g318 e (.z 17880 (.pkF e g318 e) e e (.p e (.askO (x := .t 86) e h (fun g320 h => ?_) (fun g320 h => ?_)))))
             ·refine Ops.gn e g320 (.gn e g320 (.gn e g320 (.gn e g320 (.gn e g320 (.gu e (.gu e (.gu e (.gn e g320 (.z 18056 (.pkT e g320 e) e e (.nil (.condT e e (.so hm (.p e (.nil (.ret ?_)))))))))))))))
              obtain rfl := someO h
              exact Ends.mkG (.inl e) e (gh_pk [0] [] hB e e e e) e e
             ·refine Ops.gp e g320 e (.gp e g320 e (.gs (s := 17944) e g320 (Ev.lnF e) e e (.gp e g320 e (.gp e g320 e (.askO (x := .t 91) e h (fun g321 h => ?_) (fun g321 h => ?_))))))
              ·refine Ops.gp e g321 e (.gp e g321 e (.gp e g321 e (.gs (s := 18040) e g320 (.pkT e g321 e) e e (.z 18056 (.pkF e g320 e) e e (.nil (.condO e h (fun g322 h => ?_) (fun g322 h => ?_)))))))
               ·refine Run.so hm (.p e (.nil (.ret ?_)))
                obtain rfl := someO h
                exact Ends.mkG (.inl e) e (gh_pk [0] [] hB e e e e) e e
               ·exact Run.skip (⟨_,_,(gh_pk [1] [1000] hB e e e e),(),h,e,e⟩)
              ·exact Ops.gn e g321 (.gn e g321 (.gn e g321 (.gs (s := 18040) e g320 (.pkF e g321 e) e e (.z 18056 (.pkF e g320 e) e e (.nil (.condF e e (.skip (⟨_,_,(gh_pk [1] [1000] hB e e e e),(),h,e,e⟩))))))))
        ·refine Run.so hm (.z 25576 (Ev.bsW (ys := ([] : List Int)) (f := encI) e .nil e e e e e) e e (.p e (.nil (.seq (.so hm (.p3 e e e (.nil (.condO e h (fun g324 h => ?_) (fun g324 h => ?_)))))))))
         ·exact Run.draw hm hmix (.p e (noO h))
         ·refine Run.skip (.seq (.so hm (.p2 e e (.z 37896 (Ev.lnF e) e e (.p3 e e e (.nil (.condO e h (fun g326 h => ?_) (fun g326 h => ?_))))))))
          ·refine Run.so hm (.p e (.nil (.ret ?_)))
           obtain rfl := someO h
           exact Ends.mkG (.inl e) e (gh_pk [0] [] hB e e e e) e e
          ·refine Run.skip (.seqO h (fun v335 => []) (fun (v335 : Unit) => []) (fun h => ?_) (fun v335 h => ?_))
           ·refine Run.so hm (.p e (.nil (.block ?_)))
            obtain ⟨res340,h,hk340⟩ := bindO h
            refine Run.loop (n := N) (fun m340 fr σ => spec_NodeOk_l1 N m340 = some res340 ∧ fr = [(5,.sl 0 3 0 (([] : List Int).length)),(6,VI 0)] ∧ σ = [(0,.vec 3 (([] : List Int).map encI))]) (gh_pk [5,6] [25576] hB e e e e) ⟨h,e,e⟩ ?_
            rintro m340 fr σ ⟨h,rfl,rfl⟩
            obtain _ | m340 := m340
            ·rw [spec_NodeOk_l1] at h; cases h
            rw [spec_NodeOk_l1] at h
            refine Run.seq (.so hm (.p3 e e e (.p e (.nil (.condO e h (fun g343 h => ?_) (fun g343 h => ?_))))))
            ·exact noO h
            ·refine Run.exit ?_
             obtain rfl := someO h
             have h := hk340
             exact ⟨_,_,(gh_pk [] [] hB e e e e),(),h,e,e⟩
           ·refine Run.so hm (.p e (.nil (.ret ?_)))
            obtain rfl := someO h
            exact Ends.mkG (.inl e) e (gh_pk [0] [] hB e e e e) e e
def spec_Boot (N : Nat) (x1 : Int) (x2 : Disk) (x3 : Int) : Option (Server × (List Raw) × Int) :=
 (spec_OpenShelf N x2).bind fun y222 =>
 (if (y222.2.2 != 0) = true then
 some ((Server.mk (Node.mk 0 0 0 0 0 ([]) (Log.mk 0 0 ([])) 0 0 0 ([]) ([])) (Disk.mk ([])) (Shelf.mk (Manifest.mk ([]) 0 0 0 ([])) ([]) 0) (⟨#[]⟩ : ByteArray) 0 0),([] : List Raw),1)
 else
 (spec_FileAt N x2 (⟨#[108,111,103]⟩ : ByteArray)).bind fun y228 =>
 (spec_ReadLog N y228.1).bind fun y232 =>
 (if (!y228.2) = true then
 some ((Server.mk (Node.mk 0 0 0 0 0 ([]) (Log.mk 0 0 ([])) 0 0 0 ([]) ([])) (Disk.mk ([])) (Shelf.mk (Manifest.mk ([]) 0 0 0 ([])) ([]) 0) (⟨#[]⟩ : ByteArray) 0 0),([] : List Raw),2)
 else
 (if (!y232.2.2) = true then
 some ((Server.mk (Node.mk 0 0 0 0 0 ([]) (Log.mk 0 0 ([])) 0 0 0 ([]) ([])) (Disk.mk ([])) (Shelf.mk (Manifest.mk ([]) 0 0 0 ([])) ([]) 0) (⟨#[]⟩ : ByteArray) 0 0),([] : List Raw),2)
 else
 (spec_LogBehind N y232.1 y222.1.Man.Base y222.1.Man.BaseTerm).bind fun y242 =>
 joinP (fun (v268 : (List Raw)) =>
 (spec_l03Text N x2 (⟨#[118,111,116,101]⟩ : ByteArray)).bind fun y297 =>
 (spec_ReadVotes N y297).bind fun y301 =>
 joinP (fun (v307 : (List Raw)) =>
 joinP (fun (v318 : (List Raw)) =>
 (spec_PutRaws N x2 v318).bind fun y327 =>
 (cat? ([] : List Int) y222.1.Man.Conf).bind fun x331 =>
 (spec_NodeOk N (Node.mk x1 y301.1 y301.2.1 0 0 x331 y242 y222.1.Stamp 0 x3 ([]) ([]))).bind fun y336 =>
 (if (!y336) = true then
 some ((Server.mk (Node.mk 0 0 0 0 0 ([]) (Log.mk 0 0 ([])) 0 0 0 ([]) ([])) (Disk.mk ([])) (Shelf.mk (Manifest.mk ([]) 0 0 0 ([])) ([]) 0) (⟨#[]⟩ : ByteArray) 0 0),([] : List Raw),3)
 else
 some ((Server.mk (Node.mk x1 y301.1 y301.2.1 0 0 x331 y242 y222.1.Stamp 0 x3 ([]) ([])) y327.1 y222.1 (⟨#[]⟩ : ByteArray) 0 0),v318,0))) fun j318 =>
 (spec_l03At N x2 (⟨#[118,111,116,101,43]⟩ : ByteArray)).bind fun y320 =>
 (if (decide (y320 ≥ 0)) = true then
 (cat? v307 ([(Raw.mk 4 (⟨#[118,111,116,101,43]⟩ : ByteArray) (⟨#[]⟩ : ByteArray) (⟨#[]⟩ : ByteArray))] : List Raw)).bind fun x323 =>
 j318 x323
 else
 j318 v307)) fun j307 =>
 (if (decide (y301.2.2 < (y297.size : Int))) = true then
 (stake? y297 y301.2.2).bind fun x311 =>
 (cat? v268 ([(Raw.mk 1 (⟨#[118,111,116,101]⟩ : ByteArray) (⟨#[]⟩ : ByteArray) x311)] : List Raw)).bind fun x312 =>
 j307 x312
 else
 j307 v268)) fun j268 =>
 (spec_l12Same N y232.1 y242).bind fun y270 =>
 (if (!y270) = true then
 (spec_LogFile N y242).bind fun y275 =>
 (cat? y222.2.1 ([(Raw.mk 1 (⟨#[108,111,103,43]⟩ : ByteArray) (⟨#[]⟩ : ByteArray) y275.1),(Raw.mk 3 (⟨#[108,111,103,43]⟩ : ByteArray) (⟨#[108,111,103]⟩ : ByteArray) (⟨#[]⟩ : ByteArray))] : List Raw)).bind fun x277 =>
 j268 x277
 else
 joinP (fun (v283 : (List Raw)) =>
 (spec_l03At N x2 (⟨#[108,111,103,43]⟩ : ByteArray)).bind fun y290 =>
 (if (decide (y290 ≥ 0)) = true then
 (cat? v283 ([(Raw.mk 4 (⟨#[108,111,103,43]⟩ : ByteArray) (⟨#[]⟩ : ByteArray) (⟨#[]⟩ : ByteArray))] : List Raw)).bind fun x293 =>
 j268 x293
 else
 j268 v283)) fun j283 =>
 (if (decide (y232.2.1 < (y228.1.size : Int))) = true then
 (stake? y228.1 y232.2.1).bind fun x287 =>
 (cat? y222.2.1 ([(Raw.mk 1 (⟨#[108,111,103]⟩ : ByteArray) (⟨#[]⟩ : ByteArray) x287)] : List Raw)).bind fun x288 =>
 j283 x288
 else
 j283 y222.2.1)))))
theorem sem_spec_Boot (N : Nat) (x1 : Int) (x2 : Disk) (x3 : Int) (r : Server × (List Raw) × Int) (h : spec_Boot N x1 x2 x3 = some r) : Says Tryz.prog 30 [VI x1,.agg [RO 98 (x2.Files.map encFile)],VI x3] 0 [] (.tup [.agg [VI r.1.Node.Id,VI r.1.Node.Term,VI r.1.Node.Vote,VI r.1.Node.Role,VI r.1.Node.Lead,.sl 0 3 0 r.1.Node.Conf.length,VI r.1.Node.Log.Start,VI r.1.Node.Log.StartTerm,.sl 1 141 0 r.1.Node.Log.Entries.length,VI r.1.Node.Commit,VI r.1.Node.Clock,VI r.1.Node.Limit,.sl 2 3 0 r.1.Node.Votes.length,.sl 3 158 0 r.1.Node.Peers.length,.sl 4 98 0 r.1.Disk.Files.length,.sl 5 3 0 r.1.Shelf.Man.Segs.length,VI r.1.Shelf.Man.Next,VI r.1.Shelf.Man.Base,VI r.1.Shelf.Man.BaseTerm,.sl 6 3 0 r.1.Shelf.Man.Conf.length,.sl 7 232 0 r.1.Shelf.Dir.length,VI r.1.Shelf.Stamp,VS r.1.Stage,VI r.1.StageAt,VI r.1.StageTerm],.sl 8 107 0 r.2.1.length,VI r.2.2]) [(0,.vec 3 (r.1.Node.Conf.map encI)),(1,.vec 141 (r.1.Node.Log.Entries.map encEntry)),(2,.vec 3 (r.1.Node.Votes.map encI)),(3,.vec 158 (r.1.Node.Peers.map encPeer)),(4,.vec 98 (r.1.Disk.Files.map encFile)),(5,.vec 3 (r.1.Shelf.Man.Segs.map encI)),(6,.vec 3 (r.1.Shelf.Man.Conf.map encI)),(7,.vec 232 (r.1.Shelf.Dir.map encSpot)),(8,.vec 107 (r.2.1.map encRaw))] := by
 unfold spec_Boot at h
 refine Says.of_norm e Tryz.call30 e fun B hB => ?_
 have hm : B.m ≤ 1000 := by omega
 refine Run.so hm (.z 1000 (.bx e e) e e (.z 1016 (.al e e) e e (.p2 e e (.nil (.so hm (.z 5096 (Ev.bsW (ys := ([] : List Raw)) (f := encRaw) e .nil e e e e e) e e (.p e (.nil (.so hm (.p e ?_))))))))))
 obtain ⟨y222,hy222,h⟩ := bindO h
 refine Ops.z 9208 (Ev.call [] [] 4 (sem_spec_OpenShelf _ _ _ hy222) e e (.cons (.agg (.d1 .nil)) .nil) e (.inl e) e e) e e (.p3 e e e (.p e (.z 9288 (.al e e) e e (.y 9304 (.sto e e e e e e) e e (.p2 e e (.nil (.seq (.so hm (.p2 e e (.nil (.condO e h (fun g224 h => ?_) (fun g224 h => ?_))))))))))))
 ·refine Run.so hm (.z 17384 (.bd e e) e e (.p e (.y 17416 (.sto e e e e e e) e e (.p2 e e (.nil (.ret ?_))))))
  obtain rfl := someO h
  exact Ends.mkG (.inl e) e (Gh.trans (Gh.trans (gh_prn [0,1,2] [5096] hB e) (gh_nil [0] [] hB e e e)) (gh_pk [0,1,2] [10000000,10000001,10000002,10000003,10000004,10000005,10000006,10000007,5096] hB e e e e)) e e
 ·refine Run.skip (.so hm (.p e ?_))
  obtain ⟨y228,hy228,h⟩ := bindO h
  refine Ops.z 21496 (Ev.call [] [] 0 (sem_spec_FileAt _ _ _ _ hy228) e e (.cons (.agg (.d1 .nil)) (.d1 .nil)) e (.inl e) e e) e e (.p3 e e e (.p2 e e (.nil (.so hm (.p e ?_)))))
  obtain ⟨y232,hy232,h⟩ := bindO h
  refine Ops.z 25592 (Ev.call [] [] 1 (sem_spec_ReadLog _ _ _ hy232) e e (.d1 .nil) e (.inl e) e e) e e (.p3 e e e (.p e (.z 25672 (.al e e) e e (.y 25688 (.sto e e e e e e) e e (.p2 e e (.nil (.seq (.so hm (.p3 e e e (.askO (x := .t 52) e h (fun g237 h => ?_) (fun g237 h => ?_)))))))))))
  ·refine Ops.gn e g237 (.gn e g237 (.z 29752 (.pkT e g237 e) e e (.nil (.condT e e (.so hm (.z 33768 (.bd e e) e e (.p e (.y 33800 (.sto e e e e e e) e e (.p2 e e (.nil (.ret ?_)))))))))))
   obtain rfl := someO h
   exact Ends.mkG (.inl e) e (Gh.trans (Gh.trans (gh_prn [0,1,2] [5096] hB e) (gh_nil [0] [] hB e e e)) (gh_pk [0,1,2] [10000000,10000001,10000002,10000003,10000004,10000005,10000006,10000007,5096] hB e e e e)) e e
  ·refine Ops.gp e g237 e (.gp e g237 e (.z 29752 (.pkF e g237 e) e e (.nil (.condO e h (fun g238 h => ?_) (fun g238 h => ?_)))))
   ·refine Run.so hm (.z 33768 (.bd e e) e e (.p e (.y 33800 (.sto e e e e e e) e e (.p2 e e (.nil (.ret ?_))))))
    obtain rfl := someO h
    exact Ends.mkG (.inl e) e (Gh.trans (Gh.trans (gh_prn [0,1,2] [5096] hB e) (gh_nil [0] [] hB e e e)) (gh_pk [0,1,2] [10000000,10000001,10000002,10000003,10000004,10000005,10000006,10000007,5096] hB e e e e)) e e
   ·refine Run.skip (.so hm (.p3 e e e (.p3 e e e (.p e ?_))))
    obtain ⟨y242,hy242,h⟩ := bindO h
    refine Ops.z 37976 (Ev.call [] [25592] 1 (sem_spec_LogBehind _ _ _ _ _ hy242) e e (.cons (.agg (.d2 (.cons (.borrow e (by decide) (lendW (fun _ => e) _ e)) .nil))) (.d2 .nil)) e (.inr ⟨e,ownL_root ⟨own_rows (fun _ => e) _,trivial⟩⟩) e e) e e ?_
    refine Ops.z 37992 (.al e e) e e (.y 38008 (.sto e e e e e e) e e (.nil (.seqO h (fun v268 => [(0,VI x1),(2,VI x3),(4,.ptr 0 0),(6,.ptr 1 0),(9,.sl 2 107 0 (([] : List Raw).length)),(10,.ptr 3 0),(11,.sl 4 107 0 v268.length),(18,.ptr 5 0)]) (fun (v268 : (List Raw)) => [(0,.box [RO 98 (x2.Files.map encFile)]),(1,.box [VI 0,VI 0,VI 0,VI 0,VI 0,.sl 6 3 0 (([] : List Int).length),VI 0,VI 0,.sl 7 141 0 (([] : List Entry).length),VI 0,VI 0,VI 0,.sl 8 3 0 (([] : List Int).length),.sl 9 158 0 (([] : List Peer).length),.sl 10 98 0 (([] : List File).length),.sl 11 3 0 (([] : List Int).length),VI 0,VI 0,VI 0,.sl 12 3 0 (([] : List Int).length),.sl 13 232 0 (([] : List Spot).length),VI 0,VS (⟨#[]⟩ : ByteArray),VI 0,VI 0]),(2,.vec 107 (([] : List Raw).map encRaw)),(3,.box [.sl 14 3 0 y222.1.Man.Segs.length,VI y222.1.Man.Next,VI y222.1.Man.Base,VI y222.1.Man.BaseTerm,.sl 15 3 0 y222.1.Man.Conf.length,.sl 16 232 0 y222.1.Dir.length,VI y222.1.Stamp]),(4,.vec 107 (v268.map encRaw)),(5,.box [VI y242.Start,VI y242.StartTerm,.sl 17 141 0 y242.Entries.length]),(6,.vec 3 (([] : List Int).map encI)),(7,.vec 141 (([] : List Entry).map encEntry)),(8,.vec 3 (([] : List Int).map encI)),(9,.vec 158 (([] : List Peer).map encPeer)),(10,.vec 98 (([] : List File).map encFile)),(11,.vec 3 (([] : List Int).map encI)),(12,.vec 3 (([] : List Int).map encI)),(13,.vec 232 (([] : List Spot).map encSpot)),(14,.vec 3 (y222.1.Man.Segs.map encI)),(15,.vec 3 (y222.1.Man.Conf.map encI)),(16,.vec 232 (y222.1.Dir.map encSpot)),(17,.vec 141 (y242.Entries.map encEntry))]) (fun h => ?_) (fun v268 h => ?_))))
    ·refine Run.so hm (.p2 e e ?_)
     obtain ⟨y270,hy270,h⟩ := bindO h
     refine Ops.z 41992 (Ev.call [] [25592,37976] 0 (sem_spec_l12Same _ _ _ _ hy270) e e (.cons (.agg (.d2 (.cons (.borrow e (by decide) (lendW (fun _ => e) _ e)) .nil))) (.cons (.agg (.d2 (.cons (.borrow e (by decide) (lendW (fun _ => e) _ e)) .nil))) .nil)) e (.inr ⟨e,ownL_root trivial⟩) e e) e e ?_
     refine Ops.p e (.nil (.condO e h (fun g271 h => ?_) (fun g271 h => ?_)))
     ·refine Run.so hm (.p e ?_)
      obtain ⟨y275,hy275,h⟩ := bindO h
      refine Ops.z 46072 (Ev.call [] [37976] 0 (sem_spec_LogFile _ _ _ hy275) e e (.cons (.agg (.d2 (.cons (.borrow e (by decide) (lendW (fun _ => e) _ e)) .nil))) .nil) e (.inr ⟨e,ownL_root trivial⟩) e e) e e ?_
      refine Ops.p e (.p3 e e e (.p e (.nil (.ops hm (.p2 e e (.z 50184 (.bd e e) e e (.z 50200 (.bd e e) e e (.z 50216 (Ev.bsW (ys := ([(Raw.mk 1 (⟨#[108,111,103,43]⟩ : ByteArray) (⟨#[]⟩ : ByteArray) y275.1),(Raw.mk 3 (⟨#[108,111,103,43]⟩ : ByteArray) (⟨#[108,111,103]⟩ : ByteArray) (⟨#[]⟩ : ByteArray))] : List Raw)) (f := encRaw) e (.d4 (.d4 .nil)) e e e e e) e e ?_))))))))
      obtain ⟨x277,hx277,h⟩ := bindO h
      exact Ops.z 50232 (Ev.apW (f := encRaw) (ontoW e e e) (addsW e e e (fun _ => e)) e bt107 e hx277) e e (.p e (.nil (⟨_,_,(Gh.trans (Gh.trans (gh_prn [0,2,4,6,9,10,11,18] [1000,1016,5096,9288,50232,37992,9208,9209,9210,37976] hB e) (gh_nil [] [1016] hB e e e)) (gh_pk [0,2,4,6,9,10,11,18] [1000,1016,5096,9288,50232,37992,20000000,20000001,20000002,20000003,20000004,20000005,20000006,20000007,9208,9209,9210,37976] hB e e e e)),_,h,e,e⟩)))
     ·refine Run.seqO h (fun v283 => [(0,VI x1),(2,VI x3),(4,.ptr 0 0),(6,.ptr 1 0),(9,.sl 2 107 0 (([] : List Raw).length)),(10,.ptr 3 0),(11,.sl 4 107 0 v283.length),(18,.ptr 5 0)]) (fun (v283 : (List Raw)) => [(0,.box [RO 98 (x2.Files.map encFile)]),(1,.box [VI 0,VI 0,VI 0,VI 0,VI 0,.sl 6 3 0 (([] : List Int).length),VI 0,VI 0,.sl 7 141 0 (([] : List Entry).length),VI 0,VI 0,VI 0,.sl 8 3 0 (([] : List Int).length),.sl 9 158 0 (([] : List Peer).length),.sl 10 98 0 (([] : List File).length),.sl 11 3 0 (([] : List Int).length),VI 0,VI 0,VI 0,.sl 12 3 0 (([] : List Int).length),.sl 13 232 0 (([] : List Spot).length),VI 0,VS (⟨#[]⟩ : ByteArray),VI 0,VI 0]),(2,.vec 107 (([] : List Raw).map encRaw)),(3,.box [.sl 14 3 0 y222.1.Man.Segs.length,VI y222.1.Man.Next,VI y222.1.Man.Base,VI y222.1.Man.BaseTerm,.sl 15 3 0 y222.1.Man.Conf.length,.sl 16 232 0 y222.1.Dir.length,VI y222.1.Stamp]),(4,.vec 107 (v283.map encRaw)),(5,.box [VI y242.Start,VI y242.StartTerm,.sl 17 141 0 y242.Entries.length]),(6,.vec 3 (([] : List Int).map encI)),(7,.vec 141 (([] : List Entry).map encEntry)),(8,.vec 3 (([] : List Int).map encI)),(9,.vec 158 (([] : List Peer).map encPeer)),(10,.vec 98 (([] : List File).map encFile)),(11,.vec 3 (([] : List Int).map encI)),(12,.vec 3 (([] : List Int).map encI)),(13,.vec 232 (([] : List Spot).map encSpot)),(14,.vec 3 (y222.1.Man.Segs.map encI)),(15,.vec 3 (y222.1.Man.Conf.map encI)),(16,.vec 232 (y222.1.Dir.map encSpot)),(17,.vec 141 (y242.Entries.map encEntry))]) (fun h => ?_) (fun v283 h => ?_)
      ·refine Run.so hm (.p3 e e e (.p e (.nil (.condO e h (fun g284 h => ?_) (fun g284 h => ?_)))))
       ·refine Run.ops hm (.p3 e e e ?_)
        obtain ⟨x287,hx287,h⟩ := bindO h
        refine Ops.z 58392 (Ev.ssH e e hx287) e e (.z 58408 (.bd e e) e e (.z 58424 (Ev.bsW (ys := ([(Raw.mk 1 (⟨#[108,111,103]⟩ : ByteArray) (⟨#[]⟩ : ByteArray) x287)] : List Raw)) (f := encRaw) e (.d4 .nil) e e e e e) e e ?_))
        obtain ⟨x288,hx288,h⟩ := bindO h
        exact Ops.z 58440 (Ev.apW (f := encRaw) (ontoW e e e) (addsW e e e (fun _ => e)) e bt107 e hx288) e e (.p e (.nil (⟨_,_,(Gh.trans (Gh.trans (gh_prn [0,2,4,6,9,10,11,18] [1000,1016,5096,9288,58440,37992,9208,9209,9210,37976] hB e) (gh_nil [] [1016] hB e e e)) (gh_pk [0,2,4,6,9,10,11,18] [1000,1016,5096,9288,58440,37992,20000000,20000001,20000002,20000003,20000004,20000005,20000006,20000007,9208,9209,9210,37976] hB e e e e)),_,h,e,e⟩)))
       ·exact Run.skip (⟨_,_,(Gh.trans (Gh.trans (gh_prn [0,2,4,6,9,10,11,18] [1000,1016,5096,9288,9211,37992,9208,9209,9210,37976] hB e) (gh_nil [] [1016] hB e e e)) (gh_pk [0,2,4,6,9,10,11,18] [1000,1016,5096,9288,9211,37992,20000000,20000001,20000002,20000003,20000004,20000005,20000006,20000007,9208,9209,9210,37976] hB e e e e)),_,h,e,e⟩)
      ·refine Run.so hm (.p e ?_)
       obtain ⟨y290,hy290,h⟩ := bindO h
       refine Ops.z 62456 (Ev.call [] [] 0 (sem_spec_l03At _ _ _ _ hy290) e e (.cons (.agg (.d1 .nil)) (.d1 .nil)) e (.inl e) e e) e e (.p e (.nil (.condO e h (fun g291 h => ?_) (fun g291 h => ?_))))
       ·refine Run.ops hm (.p e (.z 66552 (.bd e e) e e (.z 66568 (Ev.bsW (ys := ([(Raw.mk 4 (⟨#[108,111,103,43]⟩ : ByteArray) (⟨#[]⟩ : ByteArray) (⟨#[]⟩ : ByteArray))] : List Raw)) (f := encRaw) e (.d4 .nil) e e e e e) e e ?_)))
        obtain ⟨x293,hx293,h⟩ := bindO h
        exact Ops.z 66584 (Ev.apW (f := encRaw) (ontoW e e e) (addsW e e e (fun _ => e)) e bt107 e hx293) e e (.p e (.nil (⟨_,_,(gh_pk [0,2,4,6,9,10,11,18] [0,1,2,3,66584,5,6,7,8,9,10,11,12,13,14,15,16,17] hB e e e e),_,h,e,e⟩)))
       ·exact Run.skip (⟨_,_,(gh_pk [0,2,4,6,9,10,11,18] [0,1,2,3,4,5,6,7,8,9,10,11,12,13,14,15,16,17] hB e e e e),_,h,e,e⟩)
    ·refine Run.so hm (.p e ?_)
     obtain ⟨y297,hy297,h⟩ := bindO h
     refine Ops.z 70648 (Ev.call [] [] 0 (sem_spec_l03Text _ _ _ _ hy297) e e (.cons (.agg (.d1 .nil)) (.d1 .nil)) e (.inl e) e e) e e (.p e (.nil (.so hm (.p e ?_))))
     obtain ⟨y301,hy301,h⟩ := bindO h
     refine Ops.z 74744 (Ev.call [] [] 0 (sem_spec_ReadVotes _ _ _ hy301) e e (.d1 .nil) e (.inl e) e e) e e (.p3 e e e (.p3 e e e (.p e (.nil (.seqO h (fun v307 => [(0,VI x1),(2,VI x3),(4,.ptr 0 0),(6,.ptr 1 0),(9,.sl 2 107 0 (([] : List Raw).length)),(10,.ptr 3 0),(11,.sl 4 107 0 v307.length),(18,.ptr 5 0),(22,VI y301.1),(23,VI y301.2.1)]) (fun (v307 : (List Raw)) => [(0,.box [RO 98 (x2.Files.map encFile)]),(1,.box [VI 0,VI 0,VI 0,VI 0,VI 0,.sl 6 3 0 (([] : List Int).length),VI 0,VI 0,.sl 7 141 0 (([] : List Entry).length),VI 0,VI 0,VI 0,.sl 8 3 0 (([] : List Int).length),.sl 9 158 0 (([] : List Peer).length),.sl 10 98 0 (([] : List File).length),.sl 11 3 0 (([] : List Int).length),VI 0,VI 0,VI 0,.sl 12 3 0 (([] : List Int).length),.sl 13 232 0 (([] : List Spot).length),VI 0,VS (⟨#[]⟩ : ByteArray),VI 0,VI 0]),(2,.vec 107 (([] : List Raw).map encRaw)),(3,.box [.sl 14 3 0 y222.1.Man.Segs.length,VI y222.1.Man.Next,VI y222.1.Man.Base,VI y222.1.Man.BaseTerm,.sl 15 3 0 y222.1.Man.Conf.length,.sl 16 232 0 y222.1.Dir.length,VI y222.1.Stamp]),(4,.vec 107 (v307.map encRaw)),(5,.box [VI y242.Start,VI y242.StartTerm,.sl 17 141 0 y242.Entries.length]),(6,.vec 3 (([] : List Int).map encI)),(7,.vec 141 (([] : List Entry).map encEntry)),(8,.vec 3 (([] : List Int).map encI)),(9,.vec 158 (([] : List Peer).map encPeer)),(10,.vec 98 (([] : List File).map encFile)),(11,.vec 3 (([] : List Int).map encI)),(12,.vec 3 (([] : List Int).map encI)),(13,.vec 232 (([] : List Spot).map encSpot)),(14,.vec 3 (y222.1.Man.Segs.map encI)),(15,.vec 3 (y222.1.Man.Conf.map encI)),(16,.vec 232 (y222.1.Dir.map encSpot)),(17,.vec 141 (y242.Entries.map encEntry))]) (fun h => ?_) (fun v307 h => ?_))))))
     ·refine Run.so hm (.p3 e e e (.p e (.nil (.condO e h (fun g308 h => ?_) (fun g308 h => ?_)))))
      ·refine Run.ops hm (.p3 e e e ?_)
       obtain ⟨x311,hx311,h⟩ := bindO h
       refine Ops.z 82968 (Ev.ssH e e hx311) e e (.z 82984 (.bd e e) e e (.z 83000 (Ev.bsW (ys := ([(Raw.mk 1 (⟨#[118,111,116,101]⟩ : ByteArray) (⟨#[]⟩ : ByteArray) x311)] : List Raw)) (f := encRaw) e (.d4 .nil) e e e e e) e e ?_))
       obtain ⟨x312,hx312,h⟩ := bindO h
       exact Ops.z 83016 (Ev.apW (f := encRaw) (ontoW e e e) (addsW e e e (fun _ => e)) e bt107 e hx312) e e (.p e (.nil (⟨_,_,(gh_pk [0,2,4,6,9,10,11,18,22,23] [0,1,2,3,83016,5,6,7,8,9,10,11,12,13,14,15,16,17] hB e e e e),_,h,e,e⟩)))
      ·exact Run.skip (⟨_,_,(gh_pk [0,2,4,6,9,10,11,18,22,23] [0,1,2,3,4,5,6,7,8,9,10,11,12,13,14,15,16,17] hB e e e e),_,h,e,e⟩)
     ·refine Run.seqO h (fun v318 => [(0,VI x1),(2,VI x3),(4,.ptr 0 0),(6,.ptr 1 0),(9,.sl 2 107 0 (([] : List Raw).length)),(10,.ptr 3 0),(11,.sl 4 107 0 v318.length),(18,.ptr 5 0),(22,VI y301.1),(23,VI y301.2.1)]) (fun (v318 : (List Raw)) => [(0,.box [RO 98 (x2.Files.map encFile)]),(1,.box [VI 0,VI 0,VI 0,VI 0,VI 0,.sl 6 3 0 (([] : List Int).length),VI 0,VI 0,.sl 7 141 0 (([] : List Entry).length),VI 0,VI 0,VI 0,.sl 8 3 0 (([] : List Int).length),.sl 9 158 0 (([] : List Peer).length),.sl 10 98 0 (([] : List File).length),.sl 11 3 0 (([] : List Int).length),VI 0,VI 0,VI 0,.sl 12 3 0 (([] : List Int).length),.sl 13 232 0 (([] : List Spot).length),VI 0,VS (⟨#[]⟩ : ByteArray),VI 0,VI 0]),(2,.vec 107 (([] : List Raw).map encRaw)),(3,.box [.sl 14 3 0 y222.1.Man.Segs.length,VI y222.1.Man.Next,VI y222.1.Man.Base,VI y222.1.Man.BaseTerm,.sl 15 3 0 y222.1.Man.Conf.length,.sl 16 232 0 y222.1.Dir.length,VI y222.1.Stamp]),(4,.vec 107 (v318.map encRaw)),(5,.box [VI y242.Start,VI y242.StartTerm,.sl 17 141 0 y242.Entries.length]),(6,.vec 3 (([] : List Int).map encI)),(7,.vec 141 (([] : List Entry).map encEntry)),(8,.vec 3 (([] : List Int).map encI)),(9,.vec 158 (([] : List Peer).map encPeer)),(10,.vec 98 (([] : List File).map encFile)),(11,.vec 3 (([] : List Int).map encI)),(12,.vec 3 (([] : List Int).map encI)),(13,.vec 232 (([] : List Spot).map encSpot)),(14,.vec 3 (y222.1.Man.Segs.map encI)),(15,.vec 3 (y222.1.Man.Conf.map encI)),(16,.vec 232 (y222.1.Dir.map encSpot)),(17,.vec 141 (y242.Entries.map encEntry))]) (fun h => ?_) (fun v318 h => ?_)
      ·refine Run.so hm (.p e ?_)
       obtain ⟨y320,hy320,h⟩ := bindO h
       refine Ops.z 87032 (Ev.call [] [] 0 (sem_spec_l03At _ _ _ _ hy320) e e (.cons (.agg (.d1 .nil)) (.d1 .nil)) e (.inl e) e e) e e (.p e (.nil (.condO e h (fun g321 h => ?_) (fun g321 h => ?_))))
       ·refine Run.ops hm (.p e (.z 91128 (.bd e e) e e (.z 91144 (Ev.bsW (ys := ([(Raw.mk 4 (⟨#[118,111,116,101,43]⟩ : ByteArray) (⟨#[]⟩ : ByteArray) (⟨#[]⟩ : ByteArray))] : List Raw)) (f := encRaw) e (.d4 .nil) e e e e e) e e ?_)))
        obtain ⟨x323,hx323,h⟩ := bindO h
        exact Ops.z 91160 (Ev.apW (f := encRaw) (ontoW e e e) (addsW e e e (fun _ => e)) e bt107 e hx323) e e (.p e (.nil (⟨_,_,(gh_pk [0,2,4,6,9,10,11,18,22,23] [0,1,2,3,91160,5,6,7,8,9,10,11,12,13,14,15,16,17] hB e e e e),_,h,e,e⟩)))
       ·exact Run.skip (⟨_,_,(gh_pk [0,2,4,6,9,10,11,18,22,23] [0,1,2,3,4,5,6,7,8,9,10,11,12,13,14,15,16,17] hB e e e e),_,h,e,e⟩)
      ·refine Run.so hm (.p2 e e ?_)
       obtain ⟨y327,hy327,h⟩ := bindO h
       refine Ops.z 95240 (Ev.call [] [4] 1 (sem_spec_PutRaws _ _ _ _ hy327) e e (.cons (.agg (.d1 .nil)) (.cons (.borrow e (by decide) (lendW (fun _ => e) _ e)) .nil)) e (.inr ⟨e,ownL_root ⟨own_rows (fun _ => e) _,trivial⟩⟩) e e) e e ?_
       refine Ops.p e (.p2 e e (.z 95304 (.al e e) e e (.y 95320 (.sto e e e e e e) e e (.p e (.nil (.seq (.draw hm hmix (.p e (.p e (.p e (.z 99352 (Ev.bsW (ys := ([] : List Int)) (f := encI) e .nil e e e e e) e e (.p e (.p e (.p e ?_))))))))))))))
       obtain ⟨x331,hx331,h⟩ := bindO h
       refine OpsD.z 99416 (Ev.apW (f := encI) (ontoW e e e) (addsW e e e (fun _ => e)) e bt3 e hx331) e e (.p e (.p e (.p e (.p e (.z 99496 (.bd e e) e e (.z 99512 (.al e e) e e (.y 99528 (.sto e e e e e e) e e (.nil ⟨by kernel_rfl,?_⟩))))))))
       refine Run.seq (.so hm (.p e ?_))
       obtain ⟨y336,hy336,h⟩ := bindO h
       refine Ops.z 103416 (Ev.call [] [99416,17] 0 (sem_spec_NodeOk _ _ _ hy336) e e (.cons (.agg (.d4 (.d1 (.cons (.borrow e (by decide) (lendW (fun _ => e) _ e)) (.d2 (.cons (.borrow e (by decide) (lendW (fun _ => e) _ e)) (.d2 (.d1 (.cons (.nil _ _) (.cons (.nil _ _) .nil)))))))))) .nil) e (.inr ⟨e,ownL_root trivial⟩) e e) e e ?_
       refine Ops.p e (.nil (.condO e h (fun g337 h => ?_) (fun g337 h => ?_)))
       ·refine Run.so hm (.z 107496 (.bd e e) e e (.p e (.y 107528 (.sto e e e e e e) e e (.p2 e e (.nil (.ret ?_))))))
        obtain rfl := someO h
        exact Ends.mkG (.inl e) e (Gh.trans (Gh.trans (gh_prn [0,1,2] [2] hB e) (gh_nil [0] [] hB e e e)) (gh_pk [0,1,2] [10000000,10000001,10000002,10000003,10000004,10000005,10000006,10000007,2] hB e e e e)) e e
       ·refine Run.skip (.so hm (.p3 e e e (.z 111640 (.bd e e) e e (.p e (.y 111672 (.sto e e e e e e) e e (.p2 e e (.nil (.ret ?_))))))))
        obtain rfl := someO h
        exact Ends.mkG (.inl e) e (Gh.trans (Gh.trans (gh_prn [0,1,2] [99416,17,95240,14,15,16,4] hB e) (gh_nil [0] [] hB e e e)) (gh_pk [0,1,2] [99416,17,10000000,10000001,95240,14,15,16,4] hB e e e e)) e e
end Go.Proofs.YtmnoonjkiflonaaGreatDoor.Pe.FnExactReadScript
