/- Functions,as pure functions; and that Go does just that. -/
import Derived.Test.YtkojbcnafckofaaGreatPeFFnNodes8
namespace Go.Proofs.YtkojbcnafckofaaGreat.Pe.FnNodes
open Go Go.RowKit
set_option linter.unusedVariables false
set_option linter.unusedSimpArgs false
set_option maxHeartbeats 40000000
set_option maxRecDepth 100000
def i_Tick_l1 (N : Nat) (x1 : Node) (y380 : Node) (y424 : Int × Int) (y529 : Nat × (List Int)) : Nat → Int → Int → Int → Int → Int → Int → Int → Int → Int → Int → Int → (List Message) → Option (Int × Int × Int × Int × Int × Int × Int × Int × Int × Int × (List Message))
 | 0,_,_,_,_,_,_,_,_,_,_,_,_ => none
 | m + 1,x577,x588,x589,x590,x591,x592,x593,x594,x595,x596,x597,x607 =>
 (if (decide (x577 < ((y529.1 : Nat) : Int))) = true then
 (at? (y529.2.take y529.1) x577).bind fun x623 =>
 (c_tell N (TK.mk (Node.mk x588 x589 x590 x591 x592 y380.Conf (Log.mk x593 x594 y380.Log.Entries) x595 x596 x597 ([x1.Id] : List Int) y380.Peers) x607) (Message.mk 1 0 x623 0 y424.1 y424.2 0 false ([]) ([]) (⟨#[]⟩ : ByteArray) false)).bind fun y625 =>
 i_Tick_l1 N x1 y380 y424 y529 m (w64 (x577 + 1)) y625.n.Id y625.n.Term y625.n.Vote y625.n.Role y625.n.Lead y625.n.Log.Start y625.n.Log.StartTerm y625.n.Commit y625.n.Clock y625.n.Limit y625.out
 else
 some (x588,x589,x590,x591,x592,x593,x594,x595,x596,x597,x607))
def i_Tick (N : Nat) (x1 : Node) (x2 : Int) : Option (Node × (List Message) × Bool) :=
 (i_NodeOk N x1).bind fun y373 =>
 (if (!y373) = true then
 some ((Node.mk 0 0 0 0 0 ([]) (Log.mk 0 0 ([])) 0 0 0 ([]) ([])),[],false)
 else
 (i_within N x2 1 20).bind fun y375 =>
 (if (!y375) = true then
 some ((Node.mk 0 0 0 0 0 ([]) (Log.mk 0 0 ([])) 0 0 0 ([]) ([])),[],false)
 else
 (i_copyNode N x1).bind fun y380 =>
 (if (x1.Role == 2) = true then
 (c_sendAll_i1 N (TK.mk y380 ([]))).bind fun y390 =>
 some ((Node.mk y390.n.Id y390.n.Term y390.n.Vote y390.n.Role y390.n.Lead y380.Conf (Log.mk y390.n.Log.Start y390.n.Log.StartTerm y380.Log.Entries) y390.n.Commit y390.n.Clock y390.n.Limit y380.Votes y380.Peers),y390.out,true)
 else
 (if (decide ((w64 (y380.Clock + 1)) < y380.Limit)) = true then
 some ((Node.mk y380.Id y380.Term y380.Vote y380.Role y380.Lead y380.Conf y380.Log y380.Commit (w64 (y380.Clock + 1)) y380.Limit y380.Votes y380.Peers),[],true)
 else
 (i_ConfOf N x1).bind fun y396 =>
 (L_Contains_int N y396 x1.Id).bind fun y404 =>
 (if (!y404) = true then
 some ((Node.mk y380.Id y380.Term y380.Vote y380.Role y380.Lead y380.Conf y380.Log y380.Commit 0 x2 y380.Votes y380.Peers),[],true)
 else
 (if (decide (x1.Term ≥ 100000)) = true then
 some ((Node.mk y380.Id y380.Term y380.Vote y380.Role y380.Lead y380.Conf y380.Log y380.Commit 0 x2 y380.Votes y380.Peers),[],true)
 else
 (i_Most N y396 ([x1.Id] : List Int)).bind fun y415 =>
 (if y415 = true then
 (c_lead_i1 N (TK.mk (Node.mk y380.Id (w64 (y380.Term + 1)) x1.Id 1 0 y380.Conf y380.Log y380.Commit 0 x2 ([x1.Id] : List Int) y380.Peers) ([]))).bind fun y420 =>
 some (y420.n,y420.out,true)
 else
 (i_LogLast N y380.Log).bind fun y424 =>
 joinP (fun (v525 : Int × Int × Int × Int × Int × Int × Int × Int × Int × Int × (List Message)) =>
 some ((Node.mk v525.1 v525.2.1 v525.2.2.1 v525.2.2.2.1 v525.2.2.2.2.1 y380.Conf (Log.mk v525.2.2.2.2.2.1 v525.2.2.2.2.2.2.1 y380.Log.Entries) v525.2.2.2.2.2.2.2.1 v525.2.2.2.2.2.2.2.2.1 v525.2.2.2.2.2.2.2.2.2.1 ([x1.Id] : List Int) y380.Peers),v525.2.2.2.2.2.2.2.2.2.2,true)) fun j525 =>
 (i_othersOf N (Node.mk y380.Id (w64 (y380.Term + 1)) x1.Id 1 0 y380.Conf y380.Log y380.Commit 0 x2 ([x1.Id] : List Int) y380.Peers)).bind fun y529 =>
 (i_Tick_l1 N x1 y380 y424 y529 N 0 y380.Id (w64 (y380.Term + 1)) x1.Id 1 0 y380.Log.Start y380.Log.StartTerm y380.Commit 0 x2 ([] : (List Message))).bind (fun v616 => j525 (v616.1,v616.2.1,v616.2.2.1,v616.2.2.2.1,v616.2.2.2.2.1,v616.2.2.2.2.2.1,v616.2.2.2.2.2.2.1,v616.2.2.2.2.2.2.2.1,v616.2.2.2.2.2.2.2.2.1,v616.2.2.2.2.2.2.2.2.2.1,v616.2.2.2.2.2.2.2.2.2.2)))))))))
theorem sem_i_Tick (N : Nat) (x1 : Node) (x2 : Int) (r : Node × (List Message) × Bool) (h : i_Tick N x1 x2 = some r) : Says Tryz.prog 14 [.agg [VI x1.Id,VI x1.Term,VI x1.Vote,VI x1.Role,VI x1.Lead,RO 3 (x1.Conf.map encI),VI x1.Log.Start,VI x1.Log.StartTerm,RO 40 (x1.Log.Entries.map eE),VI x1.Commit,VI x1.Clock,VI x1.Limit,RO 3 (x1.Votes.map encI),RO 98 (x1.Peers.map eP)],VI x2] 0 [] (.tup [.agg [VI r.1.Id,VI r.1.Term,VI r.1.Vote,VI r.1.Role,VI r.1.Lead,.sl 0 3 0 r.1.Conf.length,VI r.1.Log.Start,VI r.1.Log.StartTerm,.sl 1 40 0 r.1.Log.Entries.length,VI r.1.Commit,VI r.1.Clock,VI r.1.Limit,.sl 2 3 0 r.1.Votes.length,.sl 3 98 0 r.1.Peers.length],.sl 4 32 0 r.2.1.length,VB r.2.2]) [(0,.vec 3 (r.1.Conf.map encI)),(1,.vec 40 (r.1.Log.Entries.map eE)),(2,.vec 3 (r.1.Votes.map encI)),(3,.vec 98 (r.1.Peers.map eP)),(4,.vec 32 (r.2.1.map (eM false)))] := by
 unfold i_Tick at h
 refine Says.of_norm e Tryz.call14 e fun B hB => ?_
 have hm : B.m ≤ 1000 := by omega
 refine Run.so hm (.z 1000 (.bx e e) e e (.z 1016 (.al e e) e e (.p2 e e (.nil (.seq (.so hm (.p e ?_)))))))
 obtain ⟨y373,hy373,h⟩ := bindO h
 refine Ops.z 5112 (Ev.call [] [] 0 (sem_i_NodeOk _ _ _ hy373) e e (.cons (.agg (.d4 (.d4 (.d4 (.d2 .nil))))) .nil) e (.inl e) e e) e e (.p2 e e (.askO (x := .t 16) e h (fun g374 h => ?_) (fun g374 h => ?_)))
 ·refine Ops.gn e g374 (.gn e g374 (.gn e g374 (.z 5208 (.pkT e g374 e) e e (.nil (.condT e e (.so hm (.z 9192 (.bd e e) e e (.y 9208 (.sto e e e e e e) e e (.p2 e e (.nil (.ret ?_)))))))))))
  obtain rfl := someO h
  exact Ends.mkG (.inl e) e (Gh.trans (Gh.trans (gh_prn [0,1,2] [] hB e) (gh_nil [0,1] [] hB e e e)) (gh_pk [0,1,2] [10000000,10000001,10000002,10000003,10000064] hB e e e e)) e e
 ·refine Ops.gp e g374 e ?_
  obtain ⟨y375,hy375,h⟩ := bindO h
  refine Ops.gs (s := 5176) e g374 (Ev.call [] [] 0 (sem_i_within _ _ _ _ _ hy375) e e (.d2 (.d1 .nil)) e (.inl e) e e) e e (.gp e g374 e (.z 5208 (.pkF e g374 e) e e (.nil (.condO e h (fun g376 h => ?_) (fun g376 h => ?_)))))
  ·refine Run.so hm (.z 9192 (.bd e e) e e (.y 9208 (.sto e e e e e e) e e (.p2 e e (.nil (.ret ?_)))))
   obtain rfl := someO h
   exact Ends.mkG (.inl e) e (Gh.trans (Gh.trans (gh_prn [0,1,2] [] hB e) (gh_nil [0,1] [] hB e e e)) (gh_pk [0,1,2] [10000000,10000001,10000002,10000003,10000064] hB e e e e)) e e
  ·refine Run.skip (.so hm (.p e ?_))
   obtain ⟨y380,hy380,h⟩ := bindO h
   refine Ops.z 13304 (Ev.call [] [] 4 (sem_i_copyNode _ _ _ hy380) e e (.cons (.agg (.d4 (.d4 (.d4 (.d2 .nil))))) .nil) e (.inl e) e e) e e (.z 13320 (.bd e e) e e (.z 13336 (.bx e e) e e (.p e (.nil (.seq (.so hm (.p3 e e e (.nil (.condO e h (fun g386 h => ?_) (fun g386 h => ?_))))))))))
   ·refine Run.so hm (.p e ?_)
    obtain ⟨y390,hy390,h⟩ := bindO h
    refine Ops.z 21496 (Ev.call [13336,13304,13305,13306,13307] [] 1 (sem_c_sendAll_i1 _ _ _ hy390) e e (.cons (.ptr e) .nil) e (.inl e) e e) e e (.nil (.seq (.draw hm hmix (.p e (.p e (.p e (.p e (.p e (.p e (.p e (.p e (.y 25704 (.sto e e e e e e) e e (.p e (.p e (.nil ⟨by kernel_rfl,?_⟩)))))))))))))))
    refine Run.ret ?_
    obtain rfl := someO h
    exact Ends.mkG (.inl e) e (gh_pk [0,1,2] [13304,13305,13306,13307,21496] hB e e e e) e e
   ·refine Run.skip (.so hm (.p3 e e e (.p3 e e e (.p3 e e e (.y 29816 (.sto e e e e e e) e e (.nil (.seq (.seq (.draw hm hmix (.p e (.p e (.p e (.p e (.p e (.p e (.p e (.p e (.p e (.p e (.p e (.nil ⟨by kernel_rfl,?_⟩)))))))))))))))))))))
    refine Run.condO e h (fun g392 h => ?_) (fun g392 h => ?_)
    ·refine Run.so hm (.p3 e e e (.p e (.y 37928 (.sto e e e e e e) e e (.p2 e e (.nil (.ret ?_))))))
     obtain rfl := someO h
     exact Ends.mkG (.inl e) e (Gh.trans (Gh.trans (gh_prn [0,1,2] [13304,13305,13306,13307] hB e) (gh_nil [1] [] hB e e e)) (gh_pk [0,1,2] [13304,13305,13306,13307,10000000] hB e e e e)) e e
    ·refine Run.skip (.so hm (.p3 e e e (.p3 e e e (.y 42056 (.sto e e e e e e) e e (.p3 e e e (.y 42120 (.sto e e e e e e) e e (.nil (.so hm (.p e ?_)))))))))
     obtain ⟨y396,hy396,h⟩ := bindO h
     refine Ops.z 46072 (Ev.call [] [] 1 (sem_i_ConfOf _ _ _ hy396) e e (.cons (.agg (.d4 (.d4 (.d4 (.d2 .nil))))) .nil) e (.inl e) e e) e e (.p e (.nil (.seq (.so hm (.p3 e e e ?_)))))
     obtain ⟨y404,hy404,h⟩ := bindO h
     refine Ops.z 50200 (Ev.call [] [46072] 0 (sem_L_Contains_int _ _ _ _ hy404) e e (.cons (.borrow e (by decide) (lendW (fun _ => e) _ e)) (.d1 .nil)) e (.inr ⟨e,ownL_root trivial⟩) e e) e e ?_
     refine Ops.p e (.p e (.askO (x := .t 79) e h (fun g405 h => ?_) (fun g405 h => ?_)))
     ·refine Ops.gn e g405 (.gn e g405 (.gn e g405 (.z 50296 (.pkT e g405 e) e e (.nil (.condT e e (.so hm (.p3 e e e (.p e (.y 54312 (.sto e e e e e e) e e (.p2 e e (.nil (.ret ?_))))))))))))
      obtain rfl := someO h
      exact Ends.mkG (.inl e) e (Gh.trans (Gh.trans (gh_prn [0,1,2] [13304,13305,13306,13307] hB e) (gh_nil [1] [] hB e e e)) (gh_pk [0,1,2] [13304,13305,13306,13307,10000000] hB e e e e)) e e
     ·refine Ops.gp e g405 e (.gp e g405 e (.gp e g405 e (.z 50296 (.pkF e g405 e) e e (.nil (.condO e h (fun g406 h => ?_) (fun g406 h => ?_))))))
      ·refine Run.so hm (.p3 e e e (.p e (.y 54312 (.sto e e e e e e) e e (.p2 e e (.nil (.ret ?_))))))
       obtain rfl := someO h
       exact Ends.mkG (.inl e) e (Gh.trans (Gh.trans (gh_prn [0,1,2] [13304,13305,13306,13307] hB e) (gh_nil [1] [] hB e e e)) (gh_pk [0,1,2] [13304,13305,13306,13307,10000000] hB e e e e)) e e
      ·refine Run.skip (.so hm (.p3 e e e (.p3 e e e (.p3 e e e (.y 58488 (.sto e e e e e e) e e (.nil (.seq (.draw hm hmix (.p e (.p e (.p e (.p e (.p e (.p e (.p e (.p e (.z 62568 (Ev.bsW (ys := ([x1.Id] : List Int)) (f := encI) e (.d1 .nil) e e e e e) e e (.p e (.p e (.p e (.y 62632 (.sto e e e e e e) e e (.p e (.p e (.p e (.y 62696 (.sto e e e e e e) e e (.p e (.p e (.p e (.y 62760 (.sto e e e e e e) e e (.p e (.p e (.p e (.y 62824 (.sto e e e e e e) e e (.nil ⟨by kernel_rfl,?_⟩))))))))))))))))))))))))))))))))))
       refine Run.seq (.so hm (.p3 e e e (.p3 e e e ?_)))
       obtain ⟨y415,hy415,h⟩ := bindO h
       refine Ops.z 66632 (Ev.call [] [46072,62568] 0 (sem_i_Most _ _ _ _ hy415) e e (.cons (.borrow e (by decide) (lendW (fun _ => e) _ e)) (.cons (.borrow e (by decide) (lendW (fun _ => e) _ e)) .nil)) e (.inr ⟨e,ownL_root trivial⟩) e e) e e ?_
       refine Ops.nil (.condO e h (fun g416 h => ?_) (fun g416 h => ?_))
       ·refine Run.so hm (.p e ?_)
        obtain ⟨y420,hy420,h⟩ := bindO h
        refine Ops.z 70648 (Ev.call [13336,13304,13305,62568,13307] [] 5 (sem_c_lead_i1 _ _ _ hy420) e e (.cons (.ptr e) .nil) e (.inl e) e e) e e (.nil (.seq (.draw hm hmix (.p e (.p e (.p e (.p e (.p e (.p e (.p e (.p e (.y 74856 (.sto e e e e e e) e e (.p e (.p e (.nil ⟨by kernel_rfl,?_⟩)))))))))))))))
        refine Run.ret ?_
        obtain rfl := someO h
        exact Ends.mkG (.inl e) e (gh_pk [0,1,2] [70648,70649,70650,70651,70652] hB e e e e) e e
       ·refine Run.skip (.so hm (.p3 e e e (.p2 e e ?_)))
        obtain ⟨y424,hy424,h⟩ := bindO h
        refine Ops.z 78904 (Ev.call [] [13305] 0 (sem_i_LogLast _ _ _ hy424) e e (.cons (.agg (.d2 (.cons (.borrow e (by decide) (lendW (fun _ => e) _ e)) .nil))) .nil) e (.inr ⟨e,ownL_root trivial⟩) e e) e e ?_
        refine Ops.p e (.p3 e e e (.p e (.nil (.seqO h (fun v525 => [(4,.ptr 0 0),(7,.ptr 1 0)]) (fun (v525 : Int × Int × Int × Int × Int × Int × Int × Int × Int × Int × (List Message)) => [(0,.box [VI 0,VI 0,VI 0,VI 0,VI 0,.sl 2 3 0 (([] : (List Int)).length),VI 0,VI 0,.sl 3 40 0 (([] : (List Entry)).length),VI 0,VI 0,VI 0,.sl 4 3 0 (([] : (List Int)).length),.sl 5 98 0 (([] : (List Peer)).length)]),(1,.box [VI v525.1,VI v525.2.1,VI v525.2.2.1,VI v525.2.2.2.1,VI v525.2.2.2.2.1,.sl 6 3 0 y380.Conf.length,VI v525.2.2.2.2.2.1,VI v525.2.2.2.2.2.2.1,.sl 7 40 0 y380.Log.Entries.length,VI v525.2.2.2.2.2.2.2.1,VI v525.2.2.2.2.2.2.2.2.1,VI v525.2.2.2.2.2.2.2.2.2.1,.sl 8 3 0 (([x1.Id] : List Int).length),.sl 9 98 0 y380.Peers.length,.sl 10 32 0 v525.2.2.2.2.2.2.2.2.2.2.length]),(2,.vec 3 (([] : (List Int)).map encI)),(3,.vec 40 (([] : (List Entry)).map eE)),(4,.vec 3 (([] : (List Int)).map encI)),(5,.vec 98 (([] : (List Peer)).map eP)),(6,.vec 3 (y380.Conf.map encI)),(7,.vec 40 (y380.Log.Entries.map eE)),(8,.vec 3 (([x1.Id] : List Int).map encI)),(9,.vec 98 (y380.Peers.map eP)),(10,.vec 32 (v525.2.2.2.2.2.2.2.2.2.2.map (eM false)))]) (fun h => ?_) (fun v525 h => ?_)))))
        ·refine Run.so hm (.p3 e e e (.p e ?_))
         obtain ⟨y529,hy529,h⟩ := bindO h
         refine Ops.z 82984 (Ev.call [] [13304,13305,62568,13307] 1 (sem_i_othersOf _ _ _ hy529) e e (.cons (.agg (.d4 (.d1 (.cons (.borrow e (by decide) (lendW (fun _ => e) _ e)) (.d2 (.cons (.borrow e (by decide) (lendW (fun _ => e) _ e)) (.d2 (.d1 (.cons (.borrow e (by decide) (lendW (fun _ => e) _ e)) (.cons (.borrow e (by decide) (lendW (fun _ => e) _ e)) .nil)))))))))) .nil) e (.inr ⟨e,ownL_root ⟨own_rows (fun _ => e) _,trivial⟩⟩) e e) e e ?_
         refine Ops.p e (.p e (.nil (.block ?_)))
         obtain ⟨res616,h,hk616⟩ := bindO h
         refine Run.loop (n := N) (fun m616 fr σ => ∃ (x577 : Int),∃ (x588 : Int),∃ (x589 : Int),∃ (x590 : Int),∃ (x591 : Int),∃ (x592 : Int),∃ (x593 : Int),∃ (x594 : Int),∃ (x595 : Int),∃ (x596 : Int),∃ (x597 : Int),∃ (x607 : (List Message)),i_Tick_l1 N x1 y380 y424 y529 m616 x577 x588 x589 x590 x591 x592 x593 x594 x595 x596 x597 x607 = some res616 ∧ fr = [(4,.ptr 0 0),(7,.ptr 1 0),(9,VI y424.1),(10,VI y424.2),(148,.sl 2 3 0 y529.1),(149,VI ((y529.1 : Nat) : Int)),(150,VI x577)] ∧ σ = [(0,.box [VI 0,VI 0,VI 0,VI 0,VI 0,.sl 3 3 0 (([] : (List Int)).length),VI 0,VI 0,.sl 4 40 0 (([] : (List Entry)).length),VI 0,VI 0,VI 0,.sl 5 3 0 (([] : (List Int)).length),.sl 6 98 0 (([] : (List Peer)).length)]),(1,.box [VI x588,VI x589,VI x590,VI x591,VI x592,.sl 7 3 0 y380.Conf.length,VI x593,VI x594,.sl 8 40 0 y380.Log.Entries.length,VI x595,VI x596,VI x597,.sl 9 3 0 (([x1.Id] : List Int).length),.sl 10 98 0 y380.Peers.length,.sl 11 32 0 x607.length]),(2,.vec 3 (y529.2.map encI)),(3,.vec 3 (([] : (List Int)).map encI)),(4,.vec 40 (([] : (List Entry)).map eE)),(5,.vec 3 (([] : (List Int)).map encI)),(6,.vec 98 (([] : (List Peer)).map eP)),(7,.vec 3 (y380.Conf.map encI)),(8,.vec 40 (y380.Log.Entries.map eE)),(9,.vec 3 (([x1.Id] : List Int).map encI)),(10,.vec 98 (y380.Peers.map eP)),(11,.vec 32 (x607.map (eM false)))]) (Gh.trans (Gh.trans (gh_prn [4,7,9,10,148,149,150] [1016,13336,82984,13304,13305,62568,13307] hB e) (gh_nil [] [1016,13336] hB e e e)) (gh_pk [4,7,9,10,148,149,150] [1016,13336,82984,20000000,20000001,20000002,20000003,13304,13305,62568,13307,20000064] hB e e e e)) ⟨_,_,_,_,_,_,_,_,_,_,_,_,h,e,e⟩ ?_
         rintro m616 fr σ ⟨x577,x588,x589,x590,x591,x592,x593,x594,x595,x596,x597,x607,h,rfl,rfl⟩
         obtain _ | m616 := m616
         ·rw [i_Tick_l1] at h; cases h
         rw [i_Tick_l1] at h
         refine Run.so hm (.p e (.nil (.seq (.condO e h (fun g619 h => ?_) (fun g619 h => ?_)))))
         ·refine Run.skip (.seq (.block (.so hm ?_)))
          obtain ⟨x623,hx623,h⟩ := bindO h
          refine Ops.z 91112 (Ev.iaP (xs := y529.2) e e hx623) e e (.z 91128 (Ev.ldE (f := encI) e e (at_part hx623) e e e) e e (.p e (.nil (.ops hm (.p3 e e e (.p e (.z 95272 (.bd e e) e e ?_)))))))
          obtain ⟨y625,hy625,h⟩ := bindO h
          exact Ops.z 95288 (Ev.call [1,7,8,9,10,11] [] 1 (sem_c_tell _ _ _ _ hy625) e e (.cons (.ptr e) (.cons (.agg (.d4 (.d4 (.cons (.nil _ _) (.cons (.nil _ _) (.d2 .nil)))))) .nil)) e (.inl e) e e) e e (.nil (.ops hm (.p2 e e (.nil (⟨m616,Nat.lt_succ_self m616,_,_,(gh_pk [4,7,9,10,148,149,150] [0,1,2,3,4,5,6,7,8,9,10,95288] hB e e e e),_,_,_,_,_,_,_,_,_,_,_,_,h,e,e⟩)))))
         ·refine Run.exit ?_
          obtain rfl := someO h
          have h := hk616
          exact ⟨_,_,(gh_pk [4,7] [0,1,3,4,5,6,7,8,9,10,11] hB e e e e),_,h,e,e⟩
        ·refine Run.seq (.draw hm hmix (.p e (.p e (.p e (.p e (.p e (.p e (.p e (.p e (.y 103528 (.sto e e e e e e) e e (.p e (.p e (.nil ⟨by kernel_rfl,?_⟩)))))))))))))
         refine Run.ret ?_
         obtain rfl := someO h
         exact Ends.mkG (.inl e) e (gh_pk [0,1,2] [6,7,8,9,10] hB e e e e) e e
def laws_FnNodes_l1 (N : Nat) (y365 : Node × Message) (v405 : (List Node)) : Nat → Int → Option ((Bool) ⊕ (Unit))
 | 0,_ => none
 | m + 1,x511 =>
 (if (decide (x511 < ((v405.length : Nat) : Int))) = true then
 joinP (fun (v592 : Unit) =>
 laws_FnNodes_l1 N y365 v405 m (w64 (x511 + 1))) fun j592 =>
 (at? v405 x511).bind fun x596 =>
 (i_NodeOk N x596).bind fun y604 =>
 (if (!y604) = true then
 some (Sum.inl false)
 else
 (if (x596.Id != y365.1.Id) = true then
 some (Sum.inl false)
 else
 (if (decide (x596.Term < y365.1.Term)) = true then
 some (Sum.inl false)
 else
 (if (decide (x596.Commit < y365.1.Commit)) = true then
 some (Sum.inl false)
 else
 (if (x596.Term == y365.1.Term) = true then
 (if (y365.1.Vote != 0) = true then
 (if (x596.Vote != y365.1.Vote) = true then
 some (Sum.inl false)
 else
 j592 ())
 else
 j592 ())
 else
 j592 ())))))
 else
 some (Sum.inr ()))
def laws_FnNodes (N : Nat) (x1 : (List Int)) : Option (Bool) :=
 (laws_big N x1).bind fun y360 =>
 (if y360 = true then
 some true
 else
 (s_DrawRightNode N x1).bind fun y365 =>
 (i_NodeOk N y365.1).bind fun y370 =>
 (if (!y370) = true then
 some false
 else
 (i_Receive N y365.1 y365.2).bind fun y375 =>
 (s_DrawPlaces N x1).bind fun y388 =>
 (at? y388 0).bind fun x389 =>
 (intD .rem .i64 x389 20).bind fun x390 =>
 (i_Tick N y365.1 (w64 (1 + x390))).bind fun y391 =>
 (s_Receive N y365.1 y365.2).bind fun y395 =>
 (if ((y375.2.2 == y395.2.2) ^^ true) = true then
 some false
 else
 (if (!y391.2.2) = true then
 some false
 else
 joinP (fun (v405 : (List Node)) =>
 joinP (fun (v510 : Unit) =>
 some true) fun j510 =>
 (laws_FnNodes_l1 N y365 v405 N 0).bind (Sum.elim (fun v568 => some v568) (fun (v569 : Unit) => j510 ()))) fun j405 =>
 (if y375.2.2 = true then
 (cat? ([y391.1] : List Node) ([y375.1] : List Node)).bind fun x408 =>
 j405 x408
 else
 j405 ([y391.1] : List Node))))))
theorem sem_laws_FnNodes (N : Nat) (x1 : (List Int)) (r : Bool) (h : laws_FnNodes N x1 = some r) : Says Tryz.prog 5 [RO 5 (x1.map encU)] 0 [] (VB r) [] := by
 unfold laws_FnNodes at h
 refine Says.of_norm e Tryz.call5 e fun B hB => ?_
 have hm : B.m ≤ 1000 := by omega
 refine Run.so hm (.p e (.nil (.seq (.so hm (.p e ?_)))))
 obtain ⟨y360,hy360,h⟩ := bindO h
 refine Ops.z 5112 (Ev.call [] [] 0 (sem_laws_big _ _ _ hy360) e e (.d1 .nil) e (.inl e) e e) e e (.nil (.condO e h (fun g361 h => ?_) (fun g361 h => ?_)))
 ·refine Run.so hm (.p e (.nil (.ret ?_)))
  obtain rfl := someO h
  exact Ends.mkG (.inl e) e (gh_pk [0] [] hB e e e e) e e
 ·refine Run.skip (.so hm (.p e ?_))
  obtain ⟨y365,hy365,h⟩ := bindO h
  refine Ops.z 13304 (Ev.call [] [] 0 (sem_s_DrawRightNode _ _ _ hy365) e e (.d1 .nil) e (.inl e) e e) e e (.p3 e e e (.z 13368 (.al e e) e e (.z 13384 (.al e e) e e (.y 13400 (.sto e e e e e e) e e (.y 13416 (.sto e e e e e e) e e (.nil (.seq (.so hm (.p e ?_)))))))))
  obtain ⟨y370,hy370,h⟩ := bindO h
  refine Ops.z 17400 (Ev.call [] [] 0 (sem_i_NodeOk _ _ _ hy370) e e (.cons (.agg (.d4 (.d4 (.d4 (.d2 .nil))))) .nil) e (.inl e) e e) e e (.p e (.nil (.condO e h (fun g371 h => ?_) (fun g371 h => ?_))))
  ·refine Run.so hm (.p e (.nil (.ret ?_)))
   obtain rfl := someO h
   exact Ends.mkG (.inl e) e (gh_pk [0] [] hB e e e e) e e
  ·refine Run.skip (.so hm (.p2 e e ?_))
   obtain ⟨y375,hy375,h⟩ := bindO h
   refine Ops.z 25608 (Ev.call [] [] 5 (sem_i_Receive _ _ _ _ hy375) e e (.cons (.agg (.d4 (.d4 (.d4 (.d2 .nil))))) (.cons (.agg (.d4 (.d4 (.d4 .nil)))) .nil)) e (.inl e) e e) e e (.p3 e e e (.p e (.z 25688 (.al e e) e e (.y 25704 (.sto e e e e e e) e e (.p2 e e (.nil (.seq (.draw hm hmix (.p e (.p e ?_))))))))))
   obtain ⟨y388,hy388,h⟩ := bindO h
   refine OpsD.z 29704 (Ev.call [] [] 1 (sem_s_DrawPlaces _ _ _ hy388) e e (.d1 .nil) e (.inl e) e e) e e ?_
   obtain ⟨x389,hx389,h⟩ := bindO h
   refine OpsD.z 29720 (Ev.iaW e e e hx389) e e (.z 29736 (Ev.ldE (f := encI) e e (at_some hx389).2 e e e) e e ?_)
   obtain ⟨x390,hx390,h⟩ := bindO h
   refine OpsD.z 29752 (.bin e e hx390) e e (.p e ?_)
   obtain ⟨y391,hy391,h⟩ := bindO h
   refine OpsD.z 29784 (Ev.call [] [] 5 (sem_i_Tick _ _ _ _ hy391) e e (.cons (.agg (.d4 (.d4 (.d4 (.d2 .nil))))) (.d1 .nil)) e (.inl e) e e) e e (.p e (.p e (.p e (.p e (.z 29864 (.al e e) e e (.y 29880 (.sto e e e e e e) e e (.p e (.p e (.nil ⟨by kernel_rfl,?_⟩)))))))))
   refine Run.so hm (.p2 e e ?_)
   obtain ⟨y395,hy395,h⟩ := bindO h
   refine Ops.z 33800 (Ev.call [] [] 5 (sem_s_Receive _ _ _ _ hy395) e e (.cons (.agg (.d4 (.d4 (.d4 (.d2 .nil))))) (.cons (.agg (.d4 (.d4 (.d4 .nil)))) .nil)) e (.inl e) e e) e e (.p3 e e e (.p e (.z 33880 (.al e e) e e (.y 33896 (.sto e e e e e e) e e (.p2 e e (.nil (.seq (.so hm (.p3 e e e (.p e (.askO (x := .t 56) e h (fun g400 h => ?_) (fun g400 h => ?_))))))))))))
   ·refine Ops.gn e g400 (.gn e g400 (.z 37960 (.pkT e g400 e) e e (.nil (.condT e e (.so hm (.p e (.nil (.ret ?_))))))))
    obtain rfl := someO h
    exact Ends.mkG (.inl e) e (gh_pk [0] [] hB e e e e) e e
   ·refine Ops.gp e g400 e (.gp e g400 e (.z 37960 (.pkF e g400 e) e e (.nil (.condO e h (fun g401 h => ?_) (fun g401 h => ?_)))))
    ·refine Run.so hm (.p e (.nil (.ret ?_)))
     obtain rfl := someO h
     exact Ends.mkG (.inl e) e (gh_pk [0] [] hB e e e e) e e
    ·refine Run.skip (.so hm (.p e (.stz (s := 46072) (EvZ.frz (f := encI) (g := encI) (xs := y391.1.Conf) 29784 (fun _ => e) e (EvZ.frz (f := eE) (g := eE) (xs := y391.1.Log.Entries) 29785 (fun _ => e) e (EvZ.frz (f := encI) (g := encI) (xs := y391.1.Votes) 29786 (fun _ => e) e (EvZ.frz (f := eP) (g := eP) (xs := y391.1.Peers) 29787 (fun _ => e) e (.mk (Ev.bsW (ys := ([y391.1] : List Node)) (f := (encNode false)) e (.d4 (.d1 (.cons (.ro e (shareW _ e)) (.d2 (.cons (.ro e (shareW _ e)) (.d2 (.d1 (.cons (.ro e (shareW _ e)) (.cons (.ro e (shareW _ e)) .nil))))))))) e e e e e)))))) e e (.p e (.nil (.seqO h (fun v405 => [(3,.ptr 0 0),(14,.sl 1 30 0 v405.length)]) (fun (v405 : (List Node)) => [(0,.box [VI y365.1.Id,VI y365.1.Term,VI y365.1.Vote,VI y365.1.Role,VI y365.1.Lead,RO 3 (y365.1.Conf.map encI),VI y365.1.Log.Start,VI y365.1.Log.StartTerm,RO 40 (y365.1.Log.Entries.map eE),VI y365.1.Commit,VI y365.1.Clock,VI y365.1.Limit,RO 3 (y365.1.Votes.map encI),RO 98 (y365.1.Peers.map eP)]),(1,.vec 30 (v405.map (encNode false)))]) (fun h => ?_) (fun v405 h => ?_)))))))
     ·refine Run.so hm (.p e (.nil (.condO e h (fun g406 h => ?_) (fun g406 h => ?_))))
      ·refine Run.ops hm (.p2 e e (.stz (s := 54280) (EvZ.frz (f := encI) (g := encI) (xs := y375.1.Conf) 25608 (fun _ => e) e (EvZ.frz (f := eE) (g := eE) (xs := y375.1.Log.Entries) 25609 (fun _ => e) e (EvZ.frz (f := encI) (g := encI) (xs := y375.1.Votes) 25610 (fun _ => e) e (EvZ.frz (f := eP) (g := eP) (xs := y375.1.Peers) 25611 (fun _ => e) e (.mk (Ev.bsW (ys := ([y375.1] : List Node)) (f := (encNode false)) e (.d4 (.d1 (.cons (.ro e (shareW _ e)) (.d2 (.cons (.ro e (shareW _ e)) (.d2 (.d1 (.cons (.ro e (shareW _ e)) (.cons (.ro e (shareW _ e)) .nil))))))))) e e e e e)))))) e e ?_))
       obtain ⟨x408,hx408,h⟩ := bindO h
       exact Ops.z 54296 (Ev.apW (f := (encNode false)) (ontoW e e e) (addsW e e e (fun _ => e)) e bt30 e hx408) e e (.p e (.nil (⟨_,_,(gh_pk [3,14] [13368,54296] hB e e e e),_,h,e,e⟩)))
      ·exact Run.skip (⟨_,_,(gh_pk [3,14] [13368,46072] hB e e e e),_,h,e,e⟩)
     ·refine Run.seqO h (fun v510 => []) (fun (v510 : Unit) => []) (fun h => ?_) (fun v510 h => ?_)
      ·refine Run.so hm (.p e (.nil (.block ?_)))
       obtain ⟨res569,h,hk569⟩ := bindO h
       refine Run.loop (n := N) (fun m569 fr σ => ∃ (x511 : Int),laws_FnNodes_l1 N y365 v405 m569 x511 = some res569 ∧ fr = [(3,.ptr 0 0),(14,.sl 1 30 0 v405.length),(15,VI x511)] ∧ σ = [(0,.box [VI y365.1.Id,VI y365.1.Term,VI y365.1.Vote,VI y365.1.Role,VI y365.1.Lead,RO 3 (y365.1.Conf.map encI),VI y365.1.Log.Start,VI y365.1.Log.StartTerm,RO 40 (y365.1.Log.Entries.map eE),VI y365.1.Commit,VI y365.1.Clock,VI y365.1.Limit,RO 3 (y365.1.Votes.map encI),RO 98 (y365.1.Peers.map eP)]),(1,.vec 30 (v405.map (encNode false)))]) (gh_pk [3,14,15] [0,1] hB e e e e) ⟨_,h,e,e⟩ ?_
       rintro m569 fr σ ⟨x511,h,rfl,rfl⟩
       obtain _ | m569 := m569
       ·rw [laws_FnNodes_l1] at h; cases h
       rw [laws_FnNodes_l1] at h
       refine Run.seq (.so hm (.p3 e e e (.p e (.nil (.condO e h (fun g572 h => ?_) (fun g572 h => ?_))))))
       ·refine Run.skip (.seqO h (fun v592 => [(3,.ptr 0 0),(14,.sl 1 30 0 v405.length),(15,VI x511)]) (fun (v592 : Unit) => [(0,.box [VI y365.1.Id,VI y365.1.Term,VI y365.1.Vote,VI y365.1.Role,VI y365.1.Lead,RO 3 (y365.1.Conf.map encI),VI y365.1.Log.Start,VI y365.1.Log.StartTerm,RO 40 (y365.1.Log.Entries.map eE),VI y365.1.Commit,VI y365.1.Clock,VI y365.1.Limit,RO 3 (y365.1.Votes.map encI),RO 98 (y365.1.Peers.map eP)]),(1,.vec 30 (v405.map (encNode false)))]) (fun h => ?_) (fun v592 h => ?_))
        ·refine Run.block (.so hm (.p2 e e ?_))
         obtain ⟨x596,hx596,h⟩ := bindO h
         refine Ops.z 70664 (Ev.iaW e e e hx596) e e (.z 70680 (Ev.ldE (f := (encNode false)) e e (at_some hx596).2 e e e) e e (.z 70696 (.al e e) e e (.y 70712 (.sto e e e e e e) e e (.nil (.so hm (.p e ?_))))))
         obtain ⟨y604,hy604,h⟩ := bindO h
         refine Ops.z 74744 (Ev.call [] [] 0 (sem_i_NodeOk _ _ _ hy604) e e (.cons (.agg (.d4 (.d4 (.d4 (.d2 .nil))))) .nil) e (.inl e) e e) e e (.p2 e e (.askO (x := .t 80) e h (fun g605 h => ?_) (fun g605 h => ?_)))
         ·refine Ops.gn e g605 (.gn e g605 (.gn e g605 (.gn e g605 (.gn e g605 (.z 74872 (.pkT e g605 e) e e (.p e (.gn e e (.gn e e (.gn e e (.gn e e (.gn e e (.z 74984 (.pkT e e e) e e (.p e (.gn e e (.gn e e (.gn e e (.gn e e (.gn e e (.z 75096 (.pkT e e e) e e (.p e (.gn e e (.gn e e (.gn e e (.gn e e (.gn e e (.gn e e (.gu e (.gu e (.gu e (.gn e e (.gn e e (.gu e (.gu e (.gu e (.gu e (.gu e (.gn e e (.z 75400 (.pkT e e e) e e (.nil (.condT e e (.so hm (.p e (.nil (.ret ?_))))))))))))))))))))))))))))))))))))))))))))
          obtain rfl := someO h
          have h := hk569
          replace h := inlO h
          obtain rfl := someO h
          exact Ends.mkG (.inl e) e (gh_pk [0] [] hB e e e e) e e
         ·refine Ops.gp e g605 e (.gp e g605 e (.gp e g605 e (.gp e g605 e (.gp e g605 e (.z 74872 (.pkF e g605 e) e e (.p e (.askO (x := .t 87) e h (fun g606 h => ?_) (fun g606 h => ?_))))))))
          ·refine Ops.gn e g606 (.gn e g606 (.gn e g606 (.gn e g606 (.gn e g606 (.z 74984 (.pkT e g606 e) e e (.p e (.gn e e (.gn e e (.gn e e (.gn e e (.gn e e (.z 75096 (.pkT e e e) e e (.p e (.gn e e (.gn e e (.gn e e (.gn e e (.gn e e (.gn e e (.gu e (.gu e (.gu e (.gn e e (.gn e e (.gu e (.gu e (.gu e (.gu e (.gu e (.gn e e (.z 75400 (.pkT e e e) e e (.nil (.condT e e (.so hm (.p e (.nil (.ret ?_)))))))))))))))))))))))))))))))))))))
           obtain rfl := someO h
           have h := hk569
           replace h := inlO h
           obtain rfl := someO h
           exact Ends.mkG (.inl e) e (gh_pk [0] [] hB e e e e) e e
          ·refine Ops.gp e g606 e (.gp e g606 e (.gp e g606 e (.gp e g606 e (.gp e g606 e (.z 74984 (.pkF e g606 e) e e (.p e (.askO (x := .t 94) e h (fun g607 h => ?_) (fun g607 h => ?_))))))))
           ·refine Ops.gn e g607 (.gn e g607 (.gn e g607 (.gn e g607 (.gn e g607 (.z 75096 (.pkT e g607 e) e e (.p e (.gn e e (.gn e e (.gn e e (.gn e e (.gn e e (.gn e e (.gu e (.gu e (.gu e (.gn e e (.gn e e (.gu e (.gu e (.gu e (.gu e (.gu e (.gn e e (.z 75400 (.pkT e e e) e e (.nil (.condT e e (.so hm (.p e (.nil (.ret ?_))))))))))))))))))))))))))))))
            obtain rfl := someO h
            have h := hk569
            replace h := inlO h
            obtain rfl := someO h
            exact Ends.mkG (.inl e) e (gh_pk [0] [] hB e e e e) e e
           ·refine Ops.gp e g607 e (.gp e g607 e (.gp e g607 e (.gp e g607 e (.gp e g607 e (.z 75096 (.pkF e g607 e) e e (.p e (.askO (x := .t 101) e h (fun g608 h => ?_) (fun g608 h => ?_))))))))
            ·refine Ops.gn e g608 (.gn e g608 (.gn e g608 (.gn e g608 (.gn e g608 (.gn e g608 (.gu e (.gu e (.gu e (.gn e g608 (.gn e g608 (.gu e (.gu e (.gu e (.gu e (.gu e (.gn e g608 (.z 75400 (.pkT e g608 e) e e (.nil (.condT e e (.so hm (.p e (.nil (.ret ?_)))))))))))))))))))))))
             obtain rfl := someO h
             have h := hk569
             replace h := inlO h
             obtain rfl := someO h
             exact Ends.mkG (.inl e) e (gh_pk [0] [] hB e e e e) e e
            ·refine Ops.gp e g608 e (.gp e g608 e (.gp e g608 e (.gp e g608 e (.gp e g608 e (.gp e g608 e (.askO (x := .t 107) e h (fun g609 h => ?_) (fun g609 h => ?_)))))))
             ·refine Ops.gp e g609 e (.gp e g609 e (.gp e g609 e (.gs (s := 75272) e g608 (.pkT e g609 e) e e (.gp e g608 e (.askO (x := .t 112) e h (fun g610 h => ?_) (fun g610 h => ?_))))))
              ·refine Ops.gp e g610 e (.gp e g610 e (.gp e g610 e (.gp e g610 e (.gp e g610 e (.gs (s := 75384) e g608 (.pkT e g610 e) e e (.z 75400 (.pkF e g608 e) e e (.nil (.condO e h (fun g611 h => ?_) (fun g611 h => ?_)))))))))
               ·refine Run.so hm (.p e (.nil (.ret ?_)))
                obtain rfl := someO h
                have h := hk569
                replace h := inlO h
                obtain rfl := someO h
                exact Ends.mkG (.inl e) e (gh_pk [0] [] hB e e e e) e e
               ·exact Run.skip (⟨_,_,(gh_pk [3,14,15] [0,1] hB e e e e),(),h,e,e⟩)
              ·exact Ops.gn e g610 (.gn e g610 (.gn e g610 (.gn e g610 (.gn e g610 (.gs (s := 75384) e g608 (.pkF e g610 e) e e (.z 75400 (.pkF e g608 e) e e (.nil (.condF e e (.skip (⟨_,_,(gh_pk [3,14,15] [0,1] hB e e e e),(),h,e,e⟩))))))))))
             ·exact Ops.gn e g609 (.gn e g609 (.gn e g609 (.gs (s := 75272) e g608 (.pkF e g609 e) e e (.gp e g608 e (.gn e e (.gn e e (.gn e e (.gn e e (.gn e e (.gs (s := 75384) e g608 (.pkF e e e) e e (.z 75400 (.pkF e g608 e) e e (.nil (.condF e e (.skip (⟨_,_,(gh_pk [3,14,15] [0,1] hB e e e e),(),h,e,e⟩)))))))))))))))
        ·exact Run.ops hm (.p3 e e e (.nil (⟨m569,Nat.lt_succ_self m569,_,_,(gh_pk [3,14,15] [0,1] hB e e e e),_,h,e,e⟩)))
       ·refine Run.exit ?_
        obtain rfl := someO h
        have h := hk569
        replace h := inrO h
        exact ⟨_,_,(gh_pk [] [] hB e e e e),(),h,e,e⟩
      ·refine Run.so hm (.p e (.nil (.ret ?_)))
       obtain rfl := someO h
       exact Ends.mkG (.inl e) e (gh_pk [0] [] hB e e e e) e e
end Go.Proofs.YtkojbcnafckofaaGreat.Pe.FnNodes
