/- Functions,as pure functions; and that Go does just that. -/
import Derived.Test.YtkojbcnafckofaaGreatPeFFnNodes3
namespace Go.Proofs.YtkojbcnafckofaaGreat.Pe.FnNodes
open Go Go.RowKit
set_option linter.unusedVariables false
set_option linter.unusedSimpArgs false
set_option maxHeartbeats 40000000
set_option maxRecDepth 100000
def s_l16Reply_l1 (N : Nat) (x1 : TR) (x2 : Message) : Nat → Int → Int → Option (Int)
 | 0,_,_ => none
 | m + 1,x340,x341 =>
 (if (decide (x341 < ((x1.n.Peers.length : Nat) : Int))) = true then
 joinP (fun (v385 : Int) =>
 s_l16Reply_l1 N x1 x2 m v385 (w64 (x341 + 1))) fun j385 =>
 (at? x1.n.Peers x341).bind fun x387 =>
 (if (x387.Id == x2.From) = true then
 j385 x341
 else
 j385 x340)
 else
 some x340)
def s_l16Reply (N : Nat) (x1 : TR) (x2 : Message) : Option (TR) :=
 (if (x2.Term != x1.n.Term) = true then
 some x1
 else
 (if (x1.n.Role != 2) = true then
 some x1
 else
 joinP (fun (v339 : Int) =>
 (if (decide (v339 < 0)) = true then
 some x1
 else
 (s_l12Last N x1.n.Log).bind fun y394 =>
 (at? x1.n.Peers v339).bind fun x398 =>
 (if x2.Ok = true then
 joinP (fun (v424 : Int) =>
 joinP (fun (v427 : Int) =>
 joinP (fun (v430 : Int) =>
 (at? x1.n.Peers v339).bind fun x435 =>
 (s_l16Commit N (TR.mk (Node.mk x1.n.Id x1.n.Term x1.n.Vote x1.n.Role x1.n.Lead x1.n.Conf x1.n.Log x1.n.Commit x1.n.Clock x1.n.Limit x1.n.Votes (x1.n.Peers.set v339.toNat (Peer.mk x398.Id (w64 (v427 + 1)) v427 v430))) x1.told)).bind fun y439 =>
 (if (y439.n.Role == 2) = true then
 (if (decide ((w64 (v427 + 1)) ≤ y394)) = true then
 (s_l16Send N y439 (Peer.mk x398.Id (w64 (v427 + 1)) v427 v430)).bind fun y444 =>
 some (TR.mk (Node.mk y444.n.Id y444.n.Term y444.n.Vote y444.n.Role y444.n.Lead y439.n.Conf (Log.mk y444.n.Log.Start y444.n.Log.StartTerm y439.n.Log.Entries) y444.n.Commit y444.n.Clock y444.n.Limit y439.n.Votes y439.n.Peers) y444.told)
 else
 some y439)
 else
 some y439)) fun j430 =>
 (if (x2.Kind == 6) = true then
 j430 0
 else
 j430 x398.Sent)) fun j427 =>
 (if (decide (v424 > x398.Match)) = true then
 j427 v424
 else
 j427 x398.Match)) fun j424 =>
 (if (decide (x2.Index > y394)) = true then
 j424 y394
 else
 j424 x2.Index)
 else
 joinP (fun (v453 : Int × Int) =>
 (at? x1.n.Peers v339).bind fun x465 =>
 (s_l16Send N (TR.mk (Node.mk x1.n.Id x1.n.Term x1.n.Vote x1.n.Role x1.n.Lead x1.n.Conf x1.n.Log x1.n.Commit x1.n.Clock x1.n.Limit x1.n.Votes (x1.n.Peers.set v339.toNat (Peer.mk x398.Id v453.1 x398.Match v453.2))) x1.told) (Peer.mk x398.Id v453.1 x398.Match v453.2)).bind fun y467 =>
 some (TR.mk (Node.mk y467.n.Id y467.n.Term y467.n.Vote y467.n.Role y467.n.Lead x1.n.Conf (Log.mk y467.n.Log.Start y467.n.Log.StartTerm x1.n.Log.Entries) y467.n.Commit y467.n.Clock y467.n.Limit x1.n.Votes (x1.n.Peers.set v339.toNat (Peer.mk x398.Id v453.1 x398.Match v453.2))) y467.told)) fun j453 =>
 (if (x2.Kind == 6) = true then
 (if (x2.Index == x1.n.Log.Start) = true then
 (if (decide (x2.Commit ≤ 20000)) = true then
 j453 (x398.Next,x2.Commit)
 else
 j453 (x398.Next,0))
 else
 j453 (x398.Next,0))
 else
 joinP (fun (v459 : Int) =>
 (if (decide (v459 < x398.Next)) = true then
 j453 (v459,x398.Sent)
 else
 j453 (x398.Next,x398.Sent))) fun j459 =>
 (if (decide ((w64 (x2.Index + 1)) < (w64 (x398.Match + 1)))) = true then
 j459 (w64 (x398.Match + 1))
 else
 j459 (w64 (x2.Index + 1))))))) fun j339 =>
 (s_l16Reply_l1 N x1 x2 N (-1 : Int) 0).bind (fun v378 => j339 v378)))
theorem sem_s_l16Reply (N : Nat) (x1 : TR) (x2 : Message) (r : TR) (h : s_l16Reply N x1 x2 = some r) : Says Tryz.prog 36 [.ptr 0 0,.agg [VI x2.Kind,VI x2.From,VI x2.To,VI x2.Term,VI x2.Index,VI x2.LogTerm,VI x2.Commit,VB x2.Ok,RO 40 (x2.Entries.map eE),RO 3 (x2.Conf.map encI),VS x2.Data,VB x2.Last]] 6 [(0,.box [VI x1.n.Id,VI x1.n.Term,VI x1.n.Vote,VI x1.n.Role,VI x1.n.Lead,.sl 1 3 0 x1.n.Conf.length,VI x1.n.Log.Start,VI x1.n.Log.StartTerm,.sl 2 40 0 x1.n.Log.Entries.length,VI x1.n.Commit,VI x1.n.Clock,VI x1.n.Limit,.sl 3 3 0 x1.n.Votes.length,.sl 4 98 0 x1.n.Peers.length,.sl 5 32 0 x1.told.length]),(1,.vec 3 (x1.n.Conf.map encI)),(2,.vec 40 (x1.n.Log.Entries.map eE)),(3,.vec 3 (x1.n.Votes.map encI)),(4,.vec 98 (x1.n.Peers.map eP)),(5,.vec 32 (x1.told.map (eM false)))] (.tup []) [(0,.box [VI r.n.Id,VI r.n.Term,VI r.n.Vote,VI r.n.Role,VI r.n.Lead,.sl 6 3 0 r.n.Conf.length,VI r.n.Log.Start,VI r.n.Log.StartTerm,.sl 7 40 0 r.n.Log.Entries.length,VI r.n.Commit,VI r.n.Clock,VI r.n.Limit,.sl 8 3 0 r.n.Votes.length,.sl 9 98 0 r.n.Peers.length,.sl 10 32 0 r.told.length]),(1,.gone),(2,.gone),(3,.gone),(4,.gone),(5,.gone),(6,.vec 3 (r.n.Conf.map encI)),(7,.vec 40 (r.n.Log.Entries.map eE)),(8,.vec 3 (r.n.Votes.map encI)),(9,.vec 98 (r.n.Peers.map eP)),(10,.vec 32 (r.told.map (eM false)))] := by
 unfold s_l16Reply at h
 refine Says.of_norm e Tryz.call36 e fun B hB => ?_
 have hm : B.m ≤ 1000 := by omega
 refine Run.so hm (.z 1000 (.bx e e) e e (.nil (.seq (.seq (.draw hm hmix (.p e (.p e (.p e (.p e (.p e (.p e (.p e (.p e (.p e (.askO (x := .t 18) e h (fun g288 h => ?_) (fun g288 h => ?_))))))))))))))))
 ·refine OpsD.gn e g288 (.gn e g288 (.gn e g288 (.gn e g288 (.gn e g288 (.gn e g288 (.z 5336 (.pkT e g288 e) e e (.nil ⟨by kernel_rfl,?_⟩)))))))
  refine Run.condT e e (.ret ?_)
  obtain rfl := someO h
  exact Ends.mkG (.inl e) e (Gh.trans (Gh.trans (gh_prn [] [0,1,2,3,4,5] hB e) (gh_mvE [] [1,2,3,4,5] hB e e)) (gh_pk [] [0,1,2,3,4,5,30000001,30000002,30000003,30000004,30000005] hB e e e e)) e e
 ·refine OpsD.gp e g288 e (.gp e g288 e (.gp e g288 e (.gp e g288 e (.gp e g288 e (.gp e g288 e (.z 5336 (.pkF e g288 e) e e (.nil ⟨by kernel_rfl,?_⟩)))))))
  refine Run.condO e h (fun g289 h => ?_) (fun g289 h => ?_)
  ·refine Run.ret ?_
   obtain rfl := someO h
   exact Ends.mkG (.inl e) e (Gh.trans (Gh.trans (gh_prn [] [0,1,2,3,4,5] hB e) (gh_mvE [] [1,2,3,4,5] hB e e)) (gh_pk [] [0,1,2,3,4,5,30000001,30000002,30000003,30000004,30000005] hB e e e e)) e e
  ·refine Run.skip (.so hm (.p e (.nil (.seqO h (fun v339 => [(0,.ptr 0 0),(3,.ptr 6 0),(4,VI v339)]) (fun (v339 : Int) => [(0,.box [VI x1.n.Id,VI x1.n.Term,VI x1.n.Vote,VI x1.n.Role,VI x1.n.Lead,.sl 1 3 0 x1.n.Conf.length,VI x1.n.Log.Start,VI x1.n.Log.StartTerm,.sl 2 40 0 x1.n.Log.Entries.length,VI x1.n.Commit,VI x1.n.Clock,VI x1.n.Limit,.sl 3 3 0 x1.n.Votes.length,.sl 4 98 0 x1.n.Peers.length,.sl 5 32 0 x1.told.length]),(1,.vec 3 (x1.n.Conf.map encI)),(2,.vec 40 (x1.n.Log.Entries.map eE)),(3,.vec 3 (x1.n.Votes.map encI)),(4,.vec 98 (x1.n.Peers.map eP)),(5,.vec 32 (x1.told.map (eM false))),(6,.box [VI x2.Kind,VI x2.From,VI x2.To,VI x2.Term,VI x2.Index,VI x2.LogTerm,VI x2.Commit,VB x2.Ok,RO 40 (x2.Entries.map eE),RO 3 (x2.Conf.map encI),VS x2.Data,VB x2.Last])]) (fun h => ?_) (fun v339 h => ?_)))))
   ·refine Run.so hm (.p e (.nil (.block ?_)))
    obtain ⟨res378,h,hk378⟩ := bindO h
    refine Run.loop (n := N) (fun m378 fr σ => ∃ (x340 : Int),∃ (x341 : Int),s_l16Reply_l1 N x1 x2 m378 x340 x341 = some res378 ∧ fr = [(0,.ptr 0 0),(3,.ptr 6 0),(4,VI x340),(5,VI x341)] ∧ σ = [(0,.box [VI x1.n.Id,VI x1.n.Term,VI x1.n.Vote,VI x1.n.Role,VI x1.n.Lead,.sl 1 3 0 x1.n.Conf.length,VI x1.n.Log.Start,VI x1.n.Log.StartTerm,.sl 2 40 0 x1.n.Log.Entries.length,VI x1.n.Commit,VI x1.n.Clock,VI x1.n.Limit,.sl 3 3 0 x1.n.Votes.length,.sl 4 98 0 x1.n.Peers.length,.sl 5 32 0 x1.told.length]),(1,.vec 3 (x1.n.Conf.map encI)),(2,.vec 40 (x1.n.Log.Entries.map eE)),(3,.vec 3 (x1.n.Votes.map encI)),(4,.vec 98 (x1.n.Peers.map eP)),(5,.vec 32 (x1.told.map (eM false))),(6,.box [VI x2.Kind,VI x2.From,VI x2.To,VI x2.Term,VI x2.Index,VI x2.LogTerm,VI x2.Commit,VB x2.Ok,RO 40 (x2.Entries.map eE),RO 3 (x2.Conf.map encI),VS x2.Data,VB x2.Last])]) (gh_pk [0,3,4,5] [0,1,2,3,4,5,1000] hB e e e e) ⟨_,_,h,e,e⟩ ?_
    rintro m378 fr σ ⟨x340,x341,h,rfl,rfl⟩
    obtain _ | m378 := m378
    ·rw [s_l16Reply_l1] at h; cases h
    rw [s_l16Reply_l1] at h
    refine Run.seq (.so hm (.p3 e e e (.p3 e e e (.p2 e e (.nil (.condO e h (fun g381 h => ?_) (fun g381 h => ?_)))))))
    ·refine Run.skip (.seqO h (fun v385 => [(0,.ptr 0 0),(3,.ptr 6 0),(4,VI v385),(5,VI x341)]) (fun (v385 : Int) => [(0,.box [VI x1.n.Id,VI x1.n.Term,VI x1.n.Vote,VI x1.n.Role,VI x1.n.Lead,.sl 1 3 0 x1.n.Conf.length,VI x1.n.Log.Start,VI x1.n.Log.StartTerm,.sl 2 40 0 x1.n.Log.Entries.length,VI x1.n.Commit,VI x1.n.Clock,VI x1.n.Limit,.sl 3 3 0 x1.n.Votes.length,.sl 4 98 0 x1.n.Peers.length,.sl 5 32 0 x1.told.length]),(1,.vec 3 (x1.n.Conf.map encI)),(2,.vec 40 (x1.n.Log.Entries.map eE)),(3,.vec 3 (x1.n.Votes.map encI)),(4,.vec 98 (x1.n.Peers.map eP)),(5,.vec 32 (x1.told.map (eM false))),(6,.box [VI x2.Kind,VI x2.From,VI x2.To,VI x2.Term,VI x2.Index,VI x2.LogTerm,VI x2.Commit,VB x2.Ok,RO 40 (x2.Entries.map eE),RO 3 (x2.Conf.map encI),VS x2.Data,VB x2.Last])]) (fun h => ?_) (fun v385 h => ?_))
     ·refine Run.block (.seq (.draw hm hmix (.p e (.p e (.p e (.p e (.p e (.p e ?_))))))))
      obtain ⟨x387,hx387,h⟩ := bindO h
      refine OpsD.z 25672 (Ev.iaW e e e hx387) e e (.p e (.z 25704 (Ev.ldE (f := eP) e e (at_some hx387).2 e e e) e e (.p e (.p e (.p e (.nil ⟨by kernel_rfl,?_⟩))))))
      refine Run.condO e h (fun g388 h => ?_) (fun g388 h => ?_)
      ·exact Run.ops hm (.p2 e e (.nil (⟨_,_,(gh_pk [0,3,4,5] [0,1,2,3,4,5,6] hB e e e e),_,h,e,e⟩)))
      ·exact Run.skip (⟨_,_,(gh_pk [0,3,4,5] [0,1,2,3,4,5,6] hB e e e e),_,h,e,e⟩)
     ·exact Run.ops hm (.p3 e e e (.nil (⟨m378,Nat.lt_succ_self m378,_,_,(gh_pk [0,3,4,5] [0,1,2,3,4,5,6] hB e e e e),_,_,h,e,e⟩)))
    ·refine Run.exit ?_
     obtain rfl := someO h
     have h := hk378
     exact ⟨_,_,(gh_pk [0,3,4] [0,1,2,3,4,5,6] hB e e e e),_,h,e,e⟩
   ·refine Run.seq (.so hm (.p2 e e (.nil (.condO e h (fun g390 h => ?_) (fun g390 h => ?_)))))
    ·refine Run.ret ?_
     obtain rfl := someO h
     exact Ends.mkG (.inl e) e (Gh.trans (Gh.trans (gh_prn [] [0,1,2,3,4,5] hB e) (gh_mvE [] [1,2,3,4,5] hB e e)) (gh_pk [] [0,1,2,3,4,5,30000001,30000002,30000003,30000004,30000005] hB e e e e)) e e
    ·refine Run.skip (.so hm (.p3 e e e (.p2 e e ?_)))
     obtain ⟨y394,hy394,h⟩ := bindO h
     refine Ops.z 37944 (Ev.call [] [2] 0 (sem_s_l12Last _ _ _ hy394) e e (.cons (.agg (.d2 (.cons (.borrow e (by decide) (lendW (fun _ => e) _ e)) .nil))) .nil) e (.inr ⟨e,ownL_root trivial⟩) e e) e e ?_
     refine Ops.p e (.nil (.so hm (.p3 e e e (.p3 e e e ?_))))
     obtain ⟨x398,hx398,h⟩ := bindO h
     refine Ops.z 42056 (Ev.iaW e e e hx398) e e (.z 42072 (Ev.ldE (f := eP) e e (at_some hx398).2 e e e) e e (.z 42088 (.al e e) e e (.y 42104 (.sto e e e e e e) e e (.nil (.seq (.so hm (.p2 e e (.nil (.condO e h (fun g422 h => ?_) (fun g422 h => ?_))))))))))
     ·refine Run.so hm (.p3 e e e (.nil (.seqO h (fun v424 => [(0,.ptr 0 0),(3,.ptr 6 0),(4,VI v339),(6,VI y394),(7,.ptr 7 0),(8,VI v424)]) (fun (v424 : Int) => [(0,.box [VI x1.n.Id,VI x1.n.Term,VI x1.n.Vote,VI x1.n.Role,VI x1.n.Lead,.sl 1 3 0 x1.n.Conf.length,VI x1.n.Log.Start,VI x1.n.Log.StartTerm,.sl 2 40 0 x1.n.Log.Entries.length,VI x1.n.Commit,VI x1.n.Clock,VI x1.n.Limit,.sl 3 3 0 x1.n.Votes.length,.sl 4 98 0 x1.n.Peers.length,.sl 5 32 0 x1.told.length]),(1,.vec 3 (x1.n.Conf.map encI)),(2,.vec 40 (x1.n.Log.Entries.map eE)),(3,.vec 3 (x1.n.Votes.map encI)),(4,.vec 98 (x1.n.Peers.map eP)),(5,.vec 32 (x1.told.map (eM false))),(6,.box [VI x2.Kind,VI x2.From,VI x2.To,VI x2.Term,VI x2.Index,VI x2.LogTerm,VI x2.Commit,VB x2.Ok,RO 40 (x2.Entries.map eE),RO 3 (x2.Conf.map encI),VS x2.Data,VB x2.Last]),(7,.box [VI x398.Id,VI x398.Next,VI x398.Match,VI x398.Sent])]) (fun h => ?_) (fun v424 h => ?_))))
      ·refine Run.so hm (.p3 e e e (.nil (.condO e h (fun g425 h => ?_) (fun g425 h => ?_))))
       ·exact Run.ops hm (.p2 e e (.nil (⟨_,_,(gh_pk [0,3,4,6,7,8] [0,1,2,3,4,5,6,42088] hB e e e e),_,h,e,e⟩)))
       ·exact Run.skip (⟨_,_,(gh_pk [0,3,4,6,7,8] [0,1,2,3,4,5,6,42088] hB e e e e),_,h,e,e⟩)
      ·refine Run.seqO h (fun v427 => [(0,.ptr 0 0),(3,.ptr 6 0),(4,VI v339),(6,VI y394),(7,.ptr 7 0)]) (fun (v427 : Int) => [(0,.box [VI x1.n.Id,VI x1.n.Term,VI x1.n.Vote,VI x1.n.Role,VI x1.n.Lead,.sl 1 3 0 x1.n.Conf.length,VI x1.n.Log.Start,VI x1.n.Log.StartTerm,.sl 2 40 0 x1.n.Log.Entries.length,VI x1.n.Commit,VI x1.n.Clock,VI x1.n.Limit,.sl 3 3 0 x1.n.Votes.length,.sl 4 98 0 x1.n.Peers.length,.sl 5 32 0 x1.told.length]),(1,.vec 3 (x1.n.Conf.map encI)),(2,.vec 40 (x1.n.Log.Entries.map eE)),(3,.vec 3 (x1.n.Votes.map encI)),(4,.vec 98 (x1.n.Peers.map eP)),(5,.vec 32 (x1.told.map (eM false))),(6,.box [VI x2.Kind,VI x2.From,VI x2.To,VI x2.Term,VI x2.Index,VI x2.LogTerm,VI x2.Commit,VB x2.Ok,RO 40 (x2.Entries.map eE),RO 3 (x2.Conf.map encI),VS x2.Data,VB x2.Last]),(7,.box [VI x398.Id,VI x398.Next,VI v427,VI x398.Sent])]) (fun h => ?_) (fun v427 h => ?_)
       ·refine Run.so hm (.p3 e e e (.p e (.nil (.condO e h (fun g428 h => ?_) (fun g428 h => ?_)))))
        ·exact Run.ops hm (.p2 e e (.y 66568 (.sto e e e e e e) e e (.nil (⟨_,_,(gh_pk [0,3,4,6,7] [0,1,2,3,4,5,6,7] hB e e e e),_,h,e,e⟩))))
        ·exact Run.skip (⟨_,_,(gh_pk [0,3,4,6,7] [0,1,2,3,4,5,6,7] hB e e e e),_,h,e,e⟩)
       ·refine Run.so hm (.p3 e e e (.p e (.y 70696 (.sto e e e e e e) e e (.nil (.seqO h (fun v430 => [(0,.ptr 0 0),(4,VI v339),(6,VI y394),(7,.ptr 6 0)]) (fun (v430 : Int) => [(0,.box [VI x1.n.Id,VI x1.n.Term,VI x1.n.Vote,VI x1.n.Role,VI x1.n.Lead,.sl 1 3 0 x1.n.Conf.length,VI x1.n.Log.Start,VI x1.n.Log.StartTerm,.sl 2 40 0 x1.n.Log.Entries.length,VI x1.n.Commit,VI x1.n.Clock,VI x1.n.Limit,.sl 3 3 0 x1.n.Votes.length,.sl 4 98 0 x1.n.Peers.length,.sl 5 32 0 x1.told.length]),(1,.vec 3 (x1.n.Conf.map encI)),(2,.vec 40 (x1.n.Log.Entries.map eE)),(3,.vec 3 (x1.n.Votes.map encI)),(4,.vec 98 (x1.n.Peers.map eP)),(5,.vec 32 (x1.told.map (eM false))),(6,.box [VI x398.Id,VI (w64 (v427 + 1)),VI v427,VI v430])]) (fun h => ?_) (fun v430 h => ?_))))))
        ·refine Run.so hm (.p3 e e e (.nil (.condO e h (fun g431 h => ?_) (fun g431 h => ?_))))
         ·exact Run.ops hm (.p e (.y 78840 (.sto e e e e e e) e e (.nil (⟨_,_,(gh_pk [0,4,6,7] [0,1,2,3,4,5,7] hB e e e e),_,h,e,e⟩))))
         ·exact Run.skip (⟨_,_,(gh_pk [0,4,6,7] [0,1,2,3,4,5,7] hB e e e e),_,h,e,e⟩)
        ·refine Run.seq (.draw hm hmix (.p e (.p e (.p e (.p e (.p e (.p e (.p e ?_))))))))
         obtain ⟨x435,hx435,h⟩ := bindO h
         refine OpsD.z 83032 (Ev.iaW e e e hx435) e e (.y 83048 (Ev.stE (f := eP) (v' := (Peer.mk x398.Id (w64 (v427 + 1)) v427 v430)) e e (at_some hx435).2 e (.d4 .nil) e e e e e) e e (.nil ⟨by kernel_rfl,?_⟩))
         refine Run.so hm (.p e ?_)
         obtain ⟨y439,hy439,h⟩ := bindO h
         have qy_439 := sem_s_l16Commit N (TR.mk (Node.mk x1.n.Id x1.n.Term x1.n.Vote x1.n.Role x1.n.Lead x1.n.Conf x1.n.Log x1.n.Commit x1.n.Clock x1.n.Limit x1.n.Votes (x1.n.Peers.set v339.toNat (Peer.mk x398.Id (w64 (v427 + 1)) v427 v430))) x1.told) _ hy439
         simp only [List.length_set] at qy_439
         refine Ops.z 87032 (Ev.call [0,1,2,3,4,5] [] 5 qy_439 e e (.cons (.ptr e) .nil) e (.inl e) e e) e e (.nil (.seq (.so hm (.p3 e e e (.p3 e e e (.p e (.askO (x := .t 103) e h (fun g441 h => ?_) (fun g441 h => ?_))))))))
         ·refine Ops.gp e g441 e (.gp e g441 e (.gp e g441 e (.gp e g441 e (.z 91288 (.pkT e g441 e) e e (.nil (.condO e h (fun g442 h => ?_) (fun g442 h => ?_)))))))
          ·refine Run.ops hm (.p2 e e ?_)
           obtain ⟨y444,hy444,h⟩ := bindO h
           refine Ops.z 95240 (Ev.call [0,87032,87033,87034,87035,87036] [] 1 (sem_s_l16Send _ _ _ _ hy444) e e (.cons (.ptr e) (.cons (.agg (.d4 .nil)) .nil)) e (.inl e) e e) e e (.nil (.ret ?_))
           obtain rfl := someO h
           exact Ends.mkG (.inl e) e (gh_pk [] [0,1,2,3,4,5,87032,87033,87034,87035,95240] hB e e e e) e e
          ·refine Run.skip (.ret ?_)
           obtain rfl := someO h
           exact Ends.mkG (.inl e) e (gh_pk [] [0,1,2,3,4,5,87032,87033,87034,87035,87036] hB e e e e) e e
         ·refine Ops.gn e g441 (.gn e g441 (.gn e g441 (.gn e g441 (.z 91288 (.pkF e g441 e) e e (.nil (.condF e e (.skip (.ret ?_))))))))
          obtain rfl := someO h
          exact Ends.mkG (.inl e) e (gh_pk [] [0,1,2,3,4,5,87032,87033,87034,87035,87036] hB e e e e) e e
     ·refine Run.skip (.seqO h (fun v453 => [(0,.ptr 0 0),(4,VI v339),(7,.ptr 6 0)]) (fun (v453 : Int × Int) => [(0,.box [VI x1.n.Id,VI x1.n.Term,VI x1.n.Vote,VI x1.n.Role,VI x1.n.Lead,.sl 1 3 0 x1.n.Conf.length,VI x1.n.Log.Start,VI x1.n.Log.StartTerm,.sl 2 40 0 x1.n.Log.Entries.length,VI x1.n.Commit,VI x1.n.Clock,VI x1.n.Limit,.sl 3 3 0 x1.n.Votes.length,.sl 4 98 0 x1.n.Peers.length,.sl 5 32 0 x1.told.length]),(1,.vec 3 (x1.n.Conf.map encI)),(2,.vec 40 (x1.n.Log.Entries.map eE)),(3,.vec 3 (x1.n.Votes.map encI)),(4,.vec 98 (x1.n.Peers.map eP)),(5,.vec 32 (x1.told.map (eM false))),(6,.box [VI x398.Id,VI v453.1,VI x398.Match,VI v453.2])]) (fun h => ?_) (fun v453 h => ?_))
      ·refine Run.so hm (.p3 e e e (.nil (.condO e h (fun g454 h => ?_) (fun g454 h => ?_))))
       ·refine Run.so hm (.p e (.y 103416 (.sto e e e e e e) e e (.nil (.seq (.draw hm hmix (.p e (.p e (.p e (.p e (.p e (.p e (.p e (.p e (.p e (.p e (.askO (x := .t 125) e h (fun g456 h => ?_) (fun g456 h => ?_)))))))))))))))))
        ·refine OpsD.gp e g456 e (.gp e g456 e (.gp e g456 e (.z 107704 (.pkT e g456 e) e e (.nil ⟨by kernel_rfl,?_⟩))))
         refine Run.condO e h (fun g457 h => ?_) (fun g457 h => ?_)
         ·exact Run.ops hm (.p3 e e e (.y 111640 (.sto e e e e e e) e e (.nil (⟨_,_,(gh_pk [0,4,7] [0,1,2,3,4,5,42088] hB e e e e),_,h,e,e⟩))))
         ·exact Run.skip (⟨_,_,(gh_pk [0,4,7] [0,1,2,3,4,5,42088] hB e e e e),_,h,e,e⟩)
        ·refine OpsD.gn e g456 (.gn e g456 (.gn e g456 (.z 107704 (.pkF e g456 e) e e (.nil ⟨by kernel_rfl,?_⟩))))
         exact Run.condF e e (.skip (⟨_,_,(gh_pk [0,4,7] [0,1,2,3,4,5,42088] hB e e e e),_,h,e,e⟩))
       ·refine Run.so hm (.p3 e e e (.p e (.nil (.seqO h (fun v459 => [(0,.ptr 0 0),(4,VI v339),(7,.ptr 6 0),(9,VI v459)]) (fun (v459 : Int) => [(0,.box [VI x1.n.Id,VI x1.n.Term,VI x1.n.Vote,VI x1.n.Role,VI x1.n.Lead,.sl 1 3 0 x1.n.Conf.length,VI x1.n.Log.Start,VI x1.n.Log.StartTerm,.sl 2 40 0 x1.n.Log.Entries.length,VI x1.n.Commit,VI x1.n.Clock,VI x1.n.Limit,.sl 3 3 0 x1.n.Votes.length,.sl 4 98 0 x1.n.Peers.length,.sl 5 32 0 x1.told.length]),(1,.vec 3 (x1.n.Conf.map encI)),(2,.vec 40 (x1.n.Log.Entries.map eE)),(3,.vec 3 (x1.n.Votes.map encI)),(4,.vec 98 (x1.n.Peers.map eP)),(5,.vec 32 (x1.told.map (eM false))),(6,.box [VI x398.Id,VI x398.Next,VI x398.Match,VI x398.Sent])]) (fun h => ?_) (fun v459 h => ?_)))))
        ·refine Run.so hm (.p3 e e e (.p2 e e (.nil (.condO e h (fun g460 h => ?_) (fun g460 h => ?_)))))
         ·exact Run.ops hm (.p3 e e e (.p e (.nil (⟨_,_,(gh_pk [0,4,7,9] [0,1,2,3,4,5,42088] hB e e e e),_,h,e,e⟩))))
         ·exact Run.skip (⟨_,_,(gh_pk [0,4,7,9] [0,1,2,3,4,5,42088] hB e e e e),_,h,e,e⟩)
        ·refine Run.so hm (.p3 e e e (.p e (.nil (.condO e h (fun g461 h => ?_) (fun g461 h => ?_)))))
         ·exact Run.ops hm (.p2 e e (.y 132104 (.sto e e e e e e) e e (.nil (⟨_,_,(gh_pk [0,4,7] [0,1,2,3,4,5,6] hB e e e e),_,h,e,e⟩))))
         ·exact Run.skip (⟨_,_,(gh_pk [0,4,7] [0,1,2,3,4,5,6] hB e e e e),_,h,e,e⟩)
      ·refine Run.seq (.draw hm hmix (.p e (.p e (.p e (.p e (.p e (.p e (.p e ?_))))))))
       obtain ⟨x465,hx465,h⟩ := bindO h
       refine OpsD.z 136280 (Ev.iaW e e e hx465) e e (.y 136296 (Ev.stE (f := eP) (v' := (Peer.mk x398.Id v453.1 x398.Match v453.2)) e e (at_some hx465).2 e (.d4 .nil) e e e e e) e e (.nil ⟨by kernel_rfl,?_⟩))
       refine Run.ops hm (.p2 e e ?_)
       obtain ⟨y467,hy467,h⟩ := bindO h
       have qy_467 := sem_s_l16Send N (TR.mk (Node.mk x1.n.Id x1.n.Term x1.n.Vote x1.n.Role x1.n.Lead x1.n.Conf x1.n.Log x1.n.Commit x1.n.Clock x1.n.Limit x1.n.Votes (x1.n.Peers.set v339.toNat (Peer.mk x398.Id v453.1 x398.Match v453.2))) x1.told) (Peer.mk x398.Id v453.1 x398.Match v453.2) _ hy467
       simp only [List.length_set] at qy_467
       refine Ops.z 140296 (Ev.call [0,1,2,3,4,5] [] 1 qy_467 e e (.cons (.ptr e) (.cons (.agg (.d4 .nil)) .nil)) e (.inl e) e e) e e (.nil ?_)
       obtain rfl := someO h
       exact Ends.mkG (.inr e) e (Gh.trans (Gh.trans (gh_prn [] [0,1,2,3,4,5,140296] hB e) (gh_mvE [] [1,2,3,4] hB e e)) (gh_pk [] [0,1,2,3,4,5,30000001,30000002,30000003,30000004,140296] hB e e e e)) (by first | rfl | (simp only [List.length_set]; done) | (simp only [List.length_set]; rfl)) (by first | rfl | (simp only [List.length_set]; done) | (simp only [List.length_set]; rfl))
def s_Receive (N : Nat) (x1 : Node) (x2 : Message) : Option (Node × (List Message) × Bool) :=
 (s_NodeOk N x1).bind fun y185 =>
 (if (!y185) = true then
 some ((Node.mk 0 0 0 0 0 ([]) (Log.mk 0 0 ([])) 0 0 0 ([]) ([])),([] : List Message),false)
 else
 (s_MessageOk N x2).bind fun y187 =>
 (if (!y187) = true then
 some ((Node.mk 0 0 0 0 0 ([]) (Log.mk 0 0 ([])) 0 0 0 ([]) ([])),([] : List Message),false)
 else
 (if (x2.To != x1.Id) = true then
 some ((Node.mk 0 0 0 0 0 ([]) (Log.mk 0 0 ([])) 0 0 0 ([]) ([])),([] : List Message),false)
 else
 (s_l16Copy N x1).bind fun y193 =>
 joinP (fun (v197 : Int × Int × Int × Int × Int × Int × Int × Int × Int × Int × (List Int) × (List Peer) × (List Message)) =>
 joinP (fun (v222 : Int × Int × Int × Int × Int × Int × Int × Int × Int × Int × (List Int) × (List Entry) × (List Int) × (List Peer) × (List Message)) =>
 some ((Node.mk v222.1 v222.2.1 v222.2.2.1 v222.2.2.2.1 v222.2.2.2.2.1 v222.2.2.2.2.2.2.2.2.2.2.1 (Log.mk v222.2.2.2.2.2.1 v222.2.2.2.2.2.2.1 v222.2.2.2.2.2.2.2.2.2.2.2.1) v222.2.2.2.2.2.2.2.1 v222.2.2.2.2.2.2.2.2.1 v222.2.2.2.2.2.2.2.2.2.1 v222.2.2.2.2.2.2.2.2.2.2.2.2.1 v222.2.2.2.2.2.2.2.2.2.2.2.2.2.1),v222.2.2.2.2.2.2.2.2.2.2.2.2.2.2,true)) fun j222 =>
 (if (x2.Kind == 1) = true then
 (s_l16AskVote N (TR.mk (Node.mk v197.1 v197.2.1 v197.2.2.1 v197.2.2.2.1 v197.2.2.2.2.1 y193.Conf (Log.mk v197.2.2.2.2.2.1 v197.2.2.2.2.2.2.1 y193.Log.Entries) v197.2.2.2.2.2.2.2.1 v197.2.2.2.2.2.2.2.2.1 v197.2.2.2.2.2.2.2.2.2.1 v197.2.2.2.2.2.2.2.2.2.2.1 v197.2.2.2.2.2.2.2.2.2.2.2.1) v197.2.2.2.2.2.2.2.2.2.2.2.2) x2).bind fun y225 =>
 j222 (y225.n.Id,y225.n.Term,y225.n.Vote,y225.n.Role,y225.n.Lead,y225.n.Log.Start,y225.n.Log.StartTerm,y225.n.Commit,y225.n.Clock,y225.n.Limit,y193.Conf,y193.Log.Entries,v197.2.2.2.2.2.2.2.2.2.2.1,v197.2.2.2.2.2.2.2.2.2.2.2.1,y225.told)
 else
 (if (x2.Kind == 2) = true then
 (s_l16TellVote N (TR.mk (Node.mk v197.1 v197.2.1 v197.2.2.1 v197.2.2.2.1 v197.2.2.2.2.1 y193.Conf (Log.mk v197.2.2.2.2.2.1 v197.2.2.2.2.2.2.1 y193.Log.Entries) v197.2.2.2.2.2.2.2.1 v197.2.2.2.2.2.2.2.2.1 v197.2.2.2.2.2.2.2.2.2.1 v197.2.2.2.2.2.2.2.2.2.2.1 v197.2.2.2.2.2.2.2.2.2.2.2.1) v197.2.2.2.2.2.2.2.2.2.2.2.2) x2).bind fun y228 =>
 j222 (y228.n.Id,y228.n.Term,y228.n.Vote,y228.n.Role,y228.n.Lead,y228.n.Log.Start,y228.n.Log.StartTerm,y228.n.Commit,y228.n.Clock,y228.n.Limit,y228.n.Conf,y228.n.Log.Entries,y228.n.Votes,y228.n.Peers,y228.told)
 else
 (if (x2.Kind == 3) = true then
 (s_l16AskAppend N (TR.mk (Node.mk v197.1 v197.2.1 v197.2.2.1 v197.2.2.2.1 v197.2.2.2.2.1 y193.Conf (Log.mk v197.2.2.2.2.2.1 v197.2.2.2.2.2.2.1 y193.Log.Entries) v197.2.2.2.2.2.2.2.1 v197.2.2.2.2.2.2.2.2.1 v197.2.2.2.2.2.2.2.2.2.1 v197.2.2.2.2.2.2.2.2.2.2.1 v197.2.2.2.2.2.2.2.2.2.2.2.1) v197.2.2.2.2.2.2.2.2.2.2.2.2) x2).bind fun y231 =>
 j222 (y231.n.Id,y231.n.Term,y231.n.Vote,y231.n.Role,y231.n.Lead,y231.n.Log.Start,y231.n.Log.StartTerm,y231.n.Commit,y231.n.Clock,y231.n.Limit,y231.n.Conf,y231.n.Log.Entries,y231.n.Votes,y231.n.Peers,y231.told)
 else
 (if (x2.Kind == 4) = true then
 (s_l16Reply N (TR.mk (Node.mk v197.1 v197.2.1 v197.2.2.1 v197.2.2.2.1 v197.2.2.2.2.1 y193.Conf (Log.mk v197.2.2.2.2.2.1 v197.2.2.2.2.2.2.1 y193.Log.Entries) v197.2.2.2.2.2.2.2.1 v197.2.2.2.2.2.2.2.2.1 v197.2.2.2.2.2.2.2.2.2.1 v197.2.2.2.2.2.2.2.2.2.2.1 v197.2.2.2.2.2.2.2.2.2.2.2.1) v197.2.2.2.2.2.2.2.2.2.2.2.2) x2).bind fun y234 =>
 j222 (y234.n.Id,y234.n.Term,y234.n.Vote,y234.n.Role,y234.n.Lead,y234.n.Log.Start,y234.n.Log.StartTerm,y234.n.Commit,y234.n.Clock,y234.n.Limit,y234.n.Conf,y234.n.Log.Entries,y234.n.Votes,y234.n.Peers,y234.told)
 else
 (if (x2.Kind == 6) = true then
 (s_l16Reply N (TR.mk (Node.mk v197.1 v197.2.1 v197.2.2.1 v197.2.2.2.1 v197.2.2.2.2.1 y193.Conf (Log.mk v197.2.2.2.2.2.1 v197.2.2.2.2.2.2.1 y193.Log.Entries) v197.2.2.2.2.2.2.2.1 v197.2.2.2.2.2.2.2.2.1 v197.2.2.2.2.2.2.2.2.2.1 v197.2.2.2.2.2.2.2.2.2.2.1 v197.2.2.2.2.2.2.2.2.2.2.2.1) v197.2.2.2.2.2.2.2.2.2.2.2.2) x2).bind fun y237 =>
 j222 (y237.n.Id,y237.n.Term,y237.n.Vote,y237.n.Role,y237.n.Lead,y237.n.Log.Start,y237.n.Log.StartTerm,y237.n.Commit,y237.n.Clock,y237.n.Limit,y237.n.Conf,y237.n.Log.Entries,y237.n.Votes,y237.n.Peers,y237.told)
 else
 (if (x2.Kind == 5) = true then
 (if (decide (x2.Term ≥ v197.2.1)) = true then
 (s_l16Follow N (TR.mk (Node.mk v197.1 v197.2.1 v197.2.2.1 v197.2.2.2.1 v197.2.2.2.2.1 y193.Conf (Log.mk v197.2.2.2.2.2.1 v197.2.2.2.2.2.2.1 y193.Log.Entries) v197.2.2.2.2.2.2.2.1 v197.2.2.2.2.2.2.2.2.1 v197.2.2.2.2.2.2.2.2.2.1 v197.2.2.2.2.2.2.2.2.2.2.1 v197.2.2.2.2.2.2.2.2.2.2.2.1) v197.2.2.2.2.2.2.2.2.2.2.2.2) x2.From).bind fun y243 =>
 j222 (y243.n.Id,y243.n.Term,y243.n.Vote,y243.n.Role,y243.n.Lead,y243.n.Log.Start,y243.n.Log.StartTerm,y243.n.Commit,0,y243.n.Limit,y193.Conf,y193.Log.Entries,y243.n.Votes,y243.n.Peers,v197.2.2.2.2.2.2.2.2.2.2.2.2)
 else
 j222 (v197.1,v197.2.1,v197.2.2.1,v197.2.2.2.1,v197.2.2.2.2.1,v197.2.2.2.2.2.1,v197.2.2.2.2.2.2.1,v197.2.2.2.2.2.2.2.1,v197.2.2.2.2.2.2.2.2.1,v197.2.2.2.2.2.2.2.2.2.1,y193.Conf,y193.Log.Entries,v197.2.2.2.2.2.2.2.2.2.2.1,v197.2.2.2.2.2.2.2.2.2.2.2.1,v197.2.2.2.2.2.2.2.2.2.2.2.2))
 else
 j222 (v197.1,v197.2.1,v197.2.2.1,v197.2.2.2.1,v197.2.2.2.2.1,v197.2.2.2.2.2.1,v197.2.2.2.2.2.2.1,v197.2.2.2.2.2.2.2.1,v197.2.2.2.2.2.2.2.2.1,v197.2.2.2.2.2.2.2.2.2.1,y193.Conf,y193.Log.Entries,v197.2.2.2.2.2.2.2.2.2.2.1,v197.2.2.2.2.2.2.2.2.2.2.2.1,v197.2.2.2.2.2.2.2.2.2.2.2.2)))))))) fun j197 =>
 (if (decide (x2.Term > x1.Term)) = true then
 (s_l16Follow_i1 N (TR.mk (Node.mk y193.Id x2.Term 0 y193.Role y193.Lead y193.Conf y193.Log y193.Commit y193.Clock y193.Limit y193.Votes y193.Peers) ([])) 0).bind fun y200 =>
 j197 (y200.n.Id,y200.n.Term,y200.n.Vote,y200.n.Role,y200.n.Lead,y200.n.Log.Start,y200.n.Log.StartTerm,y200.n.Commit,y200.n.Clock,y200.n.Limit,y200.n.Votes,y200.n.Peers,y200.told)
 else
 j197 (y193.Id,y193.Term,y193.Vote,y193.Role,y193.Lead,y193.Log.Start,y193.Log.StartTerm,y193.Commit,y193.Clock,y193.Limit,y193.Votes,y193.Peers,([] : (List Message)))))))
theorem sem_s_Receive (N : Nat) (x1 : Node) (x2 : Message) (r : Node × (List Message) × Bool) (h : s_Receive N x1 x2 = some r) : Says Tryz.prog 9 [.agg [VI x1.Id,VI x1.Term,VI x1.Vote,VI x1.Role,VI x1.Lead,RO 3 (x1.Conf.map encI),VI x1.Log.Start,VI x1.Log.StartTerm,RO 40 (x1.Log.Entries.map eE),VI x1.Commit,VI x1.Clock,VI x1.Limit,RO 3 (x1.Votes.map encI),RO 98 (x1.Peers.map eP)],.agg [VI x2.Kind,VI x2.From,VI x2.To,VI x2.Term,VI x2.Index,VI x2.LogTerm,VI x2.Commit,VB x2.Ok,RO 40 (x2.Entries.map eE),RO 3 (x2.Conf.map encI),VS x2.Data,VB x2.Last]] 0 [] (.tup [.agg [VI r.1.Id,VI r.1.Term,VI r.1.Vote,VI r.1.Role,VI r.1.Lead,.sl 0 3 0 r.1.Conf.length,VI r.1.Log.Start,VI r.1.Log.StartTerm,.sl 1 40 0 r.1.Log.Entries.length,VI r.1.Commit,VI r.1.Clock,VI r.1.Limit,.sl 2 3 0 r.1.Votes.length,.sl 3 98 0 r.1.Peers.length],.sl 4 32 0 r.2.1.length,VB r.2.2]) [(0,.vec 3 (r.1.Conf.map encI)),(1,.vec 40 (r.1.Log.Entries.map eE)),(2,.vec 3 (r.1.Votes.map encI)),(3,.vec 98 (r.1.Peers.map eP)),(4,.vec 32 (r.2.1.map (eM false)))] := by
 unfold s_Receive at h
 refine Says.of_norm e Tryz.call9 e fun B hB => ?_
 have hm : B.m ≤ 1000 := by omega
 refine Run.so hm (.z 1000 (.bx e e) e e (.z 1016 (.bx e e) e e (.z 1032 (.al e e) e e (.p2 e e (.nil (.seq (.so hm (.p e ?_))))))))
 obtain ⟨y185,hy185,h⟩ := bindO h
 refine Ops.z 5112 (Ev.call [] [] 0 (sem_s_NodeOk _ _ _ hy185) e e (.cons (.agg (.d4 (.d4 (.d4 (.d2 .nil))))) .nil) e (.inl e) e e) e e (.p2 e e (.askO (x := .t 11) e h (fun g186 h => ?_) (fun g186 h => ?_)))
 ·refine Ops.gn e g186 (.gn e g186 (.gn e g186 (.z 5208 (.pkT e g186 e) e e (.p e (.gn e e (.gn e e (.gn e e (.gn e e (.gn e e (.z 5320 (.pkT e e e) e e (.nil (.condT e e (.so hm (.z 9192 (.bd e e) e e (.z 9208 (Ev.bsW (ys := ([] : List Message)) (f := (eM false)) e .nil e e e e e) e e (.y 9224 (.sto e e e e e e) e e (.p2 e e (.nil (.ret ?_)))))))))))))))))))
  obtain rfl := someO h
  exact Ends.mkG (.inl e) e (Gh.trans (Gh.trans (gh_prn [0,1,2] [9208] hB e) (gh_nil [0] [] hB e e e)) (gh_pk [0,1,2] [10000000,10000001,10000002,10000003,9208] hB e e e e)) e e
 ·refine Ops.gp e g186 e ?_
  obtain ⟨y187,hy187,h⟩ := bindO h
  refine Ops.gs (s := 5176) e g186 (Ev.call [] [] 0 (sem_s_MessageOk _ _ _ hy187) e e (.cons (.agg (.d4 (.d4 (.d4 .nil)))) .nil) e (.inl e) e e) e e (.gp e g186 e (.z 5208 (.pkF e g186 e) e e (.p e (.askO (x := .t 16) e h (fun g188 h => ?_) (fun g188 h => ?_)))))
  ·refine Ops.gn e g188 (.gn e g188 (.gn e g188 (.gn e g188 (.gn e g188 (.z 5320 (.pkT e g188 e) e e (.nil (.condT e e (.so hm (.z 9192 (.bd e e) e e (.z 9208 (Ev.bsW (ys := ([] : List Message)) (f := (eM false)) e .nil e e e e e) e e (.y 9224 (.sto e e e e e e) e e (.p2 e e (.nil (.ret ?_))))))))))))))
   obtain rfl := someO h
   exact Ends.mkG (.inl e) e (Gh.trans (Gh.trans (gh_prn [0,1,2] [9208] hB e) (gh_nil [0] [] hB e e e)) (gh_pk [0,1,2] [10000000,10000001,10000002,10000003,9208] hB e e e e)) e e
  ·refine Ops.gp e g188 e (.gp e g188 e (.gp e g188 e (.gp e g188 e (.gp e g188 e (.z 5320 (.pkF e g188 e) e e (.nil (.condO e h (fun g189 h => ?_) (fun g189 h => ?_))))))))
   ·refine Run.so hm (.z 9192 (.bd e e) e e (.z 9208 (Ev.bsW (ys := ([] : List Message)) (f := (eM false)) e .nil e e e e e) e e (.y 9224 (.sto e e e e e e) e e (.p2 e e (.nil (.ret ?_))))))
    obtain rfl := someO h
    exact Ends.mkG (.inl e) e (Gh.trans (Gh.trans (gh_prn [0,1,2] [9208] hB e) (gh_nil [0] [] hB e e e)) (gh_pk [0,1,2] [10000000,10000001,10000002,10000003,9208] hB e e e e)) e e
   ·refine Run.skip (.so hm (.p e ?_))
    obtain ⟨y193,hy193,h⟩ := bindO h
    refine Ops.z 13304 (Ev.call [] [] 4 (sem_s_l16Copy _ _ _ hy193) e e (.cons (.agg (.d4 (.d4 (.d4 (.d2 .nil))))) .nil) e (.inl e) e e) e e (.z 13320 (.bd e e) e e (.z 13336 (.bx e e) e e (.p e (.nil (.seqO h (fun v197 => [(3,.ptr 0 0),(4,.ptr 1 0),(7,.ptr 2 0)]) (fun (v197 : Int × Int × Int × Int × Int × Int × Int × Int × Int × Int × (List Int) × (List Peer) × (List Message)) => [(0,.box [VI x2.Kind,VI x2.From,VI x2.To,VI x2.Term,VI x2.Index,VI x2.LogTerm,VI x2.Commit,VB x2.Ok,RO 40 (x2.Entries.map eE),RO 3 (x2.Conf.map encI),VS x2.Data,VB x2.Last]),(1,.box [VI 0,VI 0,VI 0,VI 0,VI 0,.sl 3 3 0 (([] : List Int).length),VI 0,VI 0,.sl 4 40 0 (([] : List Entry).length),VI 0,VI 0,VI 0,.sl 5 3 0 (([] : List Int).length),.sl 6 98 0 (([] : List Peer).length)]),(2,.box [VI v197.1,VI v197.2.1,VI v197.2.2.1,VI v197.2.2.2.1,VI v197.2.2.2.2.1,.sl 7 3 0 y193.Conf.length,VI v197.2.2.2.2.2.1,VI v197.2.2.2.2.2.2.1,.sl 8 40 0 y193.Log.Entries.length,VI v197.2.2.2.2.2.2.2.1,VI v197.2.2.2.2.2.2.2.2.1,VI v197.2.2.2.2.2.2.2.2.2.1,.sl 9 3 0 v197.2.2.2.2.2.2.2.2.2.2.1.length,.sl 10 98 0 v197.2.2.2.2.2.2.2.2.2.2.2.1.length,.sl 11 32 0 v197.2.2.2.2.2.2.2.2.2.2.2.2.length]),(3,.vec 3 (([] : List Int).map encI)),(4,.vec 40 (([] : List Entry).map eE)),(5,.vec 3 (([] : List Int).map encI)),(6,.vec 98 (([] : List Peer).map eP)),(7,.vec 3 (y193.Conf.map encI)),(8,.vec 40 (y193.Log.Entries.map eE)),(9,.vec 3 (v197.2.2.2.2.2.2.2.2.2.2.1.map encI)),(10,.vec 98 (v197.2.2.2.2.2.2.2.2.2.2.2.1.map eP)),(11,.vec 32 (v197.2.2.2.2.2.2.2.2.2.2.2.2.map (eM false)))]) (fun h => ?_) (fun v197 h => ?_))))))
    ·refine Run.so hm (.p3 e e e (.p2 e e (.nil (.condO e h (fun g198 h => ?_) (fun g198 h => ?_)))))
     ·refine Run.so hm (.p3 e e e (.p3 e e e (.y 21576 (.sto e e e e e e) e e (.nil (.so hm (.p3 e e e (.p e (.y 25640 (.sto e e e e e e) e e (.nil (.ops hm (.p e ?_)))))))))))
      obtain ⟨y200,hy200,h⟩ := bindO h
      exact Ops.z 29688 (Ev.call [13336,13304,13305,13306,13307] [] 3 (sem_s_l16Follow_i1 _ _ _ _ hy200) e e (.cons (.ptr e) (.d1 .nil)) e (.inl e) e e) e e (.nil (⟨_,_,(Gh.trans (Gh.trans (gh_prn [3,4,7] [1016,1032,13336,13304,13305,29688,29689,29690] hB e) (gh_nil [] [1032] hB e e e)) (gh_pk [3,4,7] [1016,1032,13336,20000000,20000001,20000002,20000003,13304,13305,29688,29689,29690] hB e e e e)),_,h,e,e⟩))
     ·exact Run.skip (⟨_,_,(Gh.trans (Gh.trans (gh_prn [3,4,7] [1016,1032,13336,13304,13305,13306,13307] hB e) (gh_nil [] [1032,13336] hB e e e)) (gh_pk [3,4,7] [1016,1032,13336,20000000,20000001,20000002,20000003,13304,13305,13306,13307,20000064] hB e e e e)),_,h,e,e⟩)
    ·refine Run.seqO h (fun v222 => [(4,.ptr 0 0),(7,.ptr 1 0)]) (fun (v222 : Int × Int × Int × Int × Int × Int × Int × Int × Int × Int × (List Int) × (List Entry) × (List Int) × (List Peer) × (List Message)) => [(0,.box [VI 0,VI 0,VI 0,VI 0,VI 0,.sl 2 3 0 (([] : List Int).length),VI 0,VI 0,.sl 3 40 0 (([] : List Entry).length),VI 0,VI 0,VI 0,.sl 4 3 0 (([] : List Int).length),.sl 5 98 0 (([] : List Peer).length)]),(1,.box [VI v222.1,VI v222.2.1,VI v222.2.2.1,VI v222.2.2.2.1,VI v222.2.2.2.2.1,.sl 6 3 0 v222.2.2.2.2.2.2.2.2.2.2.1.length,VI v222.2.2.2.2.2.1,VI v222.2.2.2.2.2.2.1,.sl 7 40 0 v222.2.2.2.2.2.2.2.2.2.2.2.1.length,VI v222.2.2.2.2.2.2.2.1,VI v222.2.2.2.2.2.2.2.2.1,VI v222.2.2.2.2.2.2.2.2.2.1,.sl 8 3 0 v222.2.2.2.2.2.2.2.2.2.2.2.2.1.length,.sl 9 98 0 v222.2.2.2.2.2.2.2.2.2.2.2.2.2.1.length,.sl 10 32 0 v222.2.2.2.2.2.2.2.2.2.2.2.2.2.2.length]),(2,.vec 3 (([] : List Int).map encI)),(3,.vec 40 (([] : List Entry).map eE)),(4,.vec 3 (([] : List Int).map encI)),(5,.vec 98 (([] : List Peer).map eP)),(6,.vec 3 (v222.2.2.2.2.2.2.2.2.2.2.1.map encI)),(7,.vec 40 (v222.2.2.2.2.2.2.2.2.2.2.2.1.map eE)),(8,.vec 3 (v222.2.2.2.2.2.2.2.2.2.2.2.2.1.map encI)),(9,.vec 98 (v222.2.2.2.2.2.2.2.2.2.2.2.2.2.1.map eP)),(10,.vec 32 (v222.2.2.2.2.2.2.2.2.2.2.2.2.2.2.map (eM false)))]) (fun h => ?_) (fun v222 h => ?_)
     ·refine Run.so hm (.p2 e e (.nil (.block (.so hm (.p2 e e (.nil (.condO e h (fun g223 h => ?_) (fun g223 h => ?_))))))))
      ·refine Run.ops hm (.p2 e e ?_)
       obtain ⟨y225,hy225,h⟩ := bindO h
       exact Ops.z 41992 (Ev.call [2,7,8,9,10,11] [] 1 (sem_s_l16AskVote _ _ _ _ hy225) e e (.cons (.ptr e) (.cons (.agg (.d4 (.d4 (.d4 .nil)))) .nil)) e (.inl e) e e) e e (.nil (⟨_,_,(gh_pk [4,7] [1,2,3,4,5,6,7,8,9,10,41992] hB e e e e),_,h,e,e⟩))
      ·refine Run.so hm (.p2 e e (.nil (.condO e h (fun g226 h => ?_) (fun g226 h => ?_))))
       ·refine Run.ops hm (.p2 e e ?_)
        obtain ⟨y228,hy228,h⟩ := bindO h
        exact Ops.z 50184 (Ev.call [2,7,8,9,10,11] [] 5 (sem_s_l16TellVote _ _ _ _ hy228) e e (.cons (.ptr e) (.cons (.agg (.d4 (.d4 (.d4 .nil)))) .nil)) e (.inl e) e e) e e (.nil (⟨_,_,(gh_pk [4,7] [1,2,3,4,5,6,50184,50185,50186,50187,50188] hB e e e e),_,h,e,e⟩))
       ·refine Run.so hm (.p2 e e (.nil (.condO e h (fun g229 h => ?_) (fun g229 h => ?_))))
        ·refine Run.ops hm (.p2 e e ?_)
         obtain ⟨y231,hy231,h⟩ := bindO h
         exact Ops.z 58376 (Ev.call [2,7,8,9,10,11] [] 5 (sem_s_l16AskAppend _ _ _ _ hy231) e e (.cons (.ptr e) (.cons (.agg (.d4 (.d4 (.d4 .nil)))) .nil)) e (.inl e) e e) e e (.nil (⟨_,_,(gh_pk [4,7] [1,2,3,4,5,6,58376,58377,58378,58379,58380] hB e e e e),_,h,e,e⟩))
        ·refine Run.seq (.so hm (.p2 e e (.nil (.condO e h (fun g232 h => ?_) (fun g232 h => ?_)))))
         ·refine Run.skip (.condT e g232 (.ops hm (.p2 e e ?_)))
          obtain ⟨y234,hy234,h⟩ := bindO h
          exact Ops.z 70664 (Ev.call [2,7,8,9,10,11] [] 5 (sem_s_l16Reply _ _ _ _ hy234) e e (.cons (.ptr e) (.cons (.agg (.d4 (.d4 (.d4 .nil)))) .nil)) e (.inl e) e e) e e (.nil (⟨_,_,(gh_pk [4,7] [1,2,3,4,5,6,70664,70665,70666,70667,70668] hB e e e e),_,h,e,e⟩))
         ·refine Run.ops hm (.p2 e e (.nil (.condO e h (fun g235 h => ?_) (fun g235 h => ?_))))
          ·refine Run.ops hm (.p2 e e ?_)
           obtain ⟨y237,hy237,h⟩ := bindO h
           exact Ops.z 70664 (Ev.call [2,7,8,9,10,11] [] 5 (sem_s_l16Reply _ _ _ _ hy237) e e (.cons (.ptr e) (.cons (.agg (.d4 (.d4 (.d4 .nil)))) .nil)) e (.inl e) e e) e e (.nil (⟨_,_,(gh_pk [4,7] [1,2,3,4,5,6,70664,70665,70666,70667,70668] hB e e e e),_,h,e,e⟩))
          ·refine Run.so hm (.p2 e e (.nil (.condO e h (fun g238 h => ?_) (fun g238 h => ?_))))
           ·refine Run.seq (.draw hm hmix (.p e (.p e (.p e (.p e (.p e (.p e (.p e (.p e (.nil ⟨by kernel_rfl,?_⟩))))))))))
            refine Run.condO e h (fun g239 h => ?_) (fun g239 h => ?_)
            ·refine Run.so hm (.p3 e e e ?_)
             obtain ⟨y243,hy243,h⟩ := bindO h
             exact Ops.z 82968 (Ev.call [2,7,8,9,10,11] [] 2 (sem_s_l16Follow _ _ _ _ hy243) e e (.cons (.ptr e) (.d1 .nil)) e (.inl e) e e) e e (.nil (.ops hm (.p3 e e e (.p e (.y 87080 (.sto e e e e e e) e e (.nil (⟨_,_,(gh_pk [4,7] [1,2,3,4,5,6,7,8,82968,82969,11] hB e e e e),_,h,e,e⟩)))))))
            ·exact Run.skip (⟨_,_,(gh_pk [4,7] [1,2,3,4,5,6,7,8,9,10,11] hB e e e e),_,h,e,e⟩)
           ·exact Run.skip (⟨_,_,(gh_pk [4,7] [1,2,3,4,5,6,7,8,9,10,11] hB e e e e),_,h,e,e⟩)
     ·refine Run.seq (.draw hm hmix (.p e (.p e (.p e (.p e (.p e (.p e (.p e (.p e (.y 91240 (.sto e e e e e e) e e (.p e (.p e (.nil ⟨by kernel_rfl,?_⟩)))))))))))))
      refine Run.ret ?_
      obtain rfl := someO h
      exact Ends.mkG (.inl e) e (gh_pk [0,1,2] [6,7,8,9,10] hB e e e e) e e
def s_l16Play_l1 (N : Nat) (v1736 : (List Int) × Int × Int × (List Int)) : Nat → Int → (List Int) → Int → Int → (List Node) → Option ((List Int) × Int × Int × (List Node))
 | 0,_,_,_,_,_ => none
 | m + 1,x1798,x1799,x1800,x1801,x1803 =>
 (if (decide (x1798 ≤ 4)) = true then
 (s_NodeNew N x1798 v1736.2.2.2).bind fun y1844 =>
 (s_l01Below N (TU.mk x1799 x1800 x1801) 4).bind fun y1848 =>
 (cat? x1803 ([(Node.mk y1844.1.Id y1844.1.Term y1844.1.Vote y1844.1.Role y1844.1.Lead y1844.1.Conf y1844.1.Log y1844.1.Commit y1844.1.Clock (w64 (1 + y1848.1)) y1844.1.Votes y1844.1.Peers)] : List Node)).bind fun x1850 =>
 s_l16Play_l1 N v1736 m (w64 (x1798 + 1)) y1848.2.b y1848.2.i y1848.2.h x1850
 else
 some (x1799,x1800,x1801,x1803))
def s_l16Play_l3 (N : Nat) (x2612 : (List Node)) : Nat → Int → Int → Option (Int)
 | 0,_,_ => none
 | m + 1,x3250,x3251 =>
 (if (decide (x3251 < 4)) = true then
 joinP (fun (v3273 : Int) =>
 s_l16Play_l3 N x2612 m v3273 (w64 (x3251 + 1))) fun j3273 =>
 (at? x2612 x3251).bind fun x3275 =>
 (if (x3275.Role == 2) = true then
 j3273 x3251
 else
 j3273 x3250)
 else
 some x3250)
def s_l16Play_l2 (N : Nat) (x2 : Int) : Nat → Int → (List Int) → Int → Int → (List Node) → (List Message) → Option ((List Int) × Int × Int × (List Node) × (List Message))
 | 0,_,_,_,_,_,_ => none
 | m + 1,x2608,x2609,x2610,x2611,x2612,x2613 =>
 (if (decide (x2608 < x2)) = true then
 joinP (fun (v3176 : (List Int) × Int × Int × (List Node) × (List Message)) =>
 s_l16Play_l2 N x2 m (w64 (x2608 + 1)) v3176.1 v3176.2.1 v3176.2.2.1 v3176.2.2.2.1 v3176.2.2.2.2) fun j3176 =>
 (s_l01Below N (TU.mk x2609 x2610 x2611) 4).bind fun y3180 =>
 (s_l01Below N y3180.2 9).bind fun y3184 =>
 (if (y3184.1 == 0) = true then
 (at? x2612 y3180.1).bind fun x3195 =>
 (s_l01Below N y3184.2 6).bind fun y3196 =>
 (s_Tick N x3195 (w64 (1 + y3196.1))).bind fun y3197 =>
 (if y3197.2.2 = true then
 (s_l16Take_i1 N (TC.mk x2612 x2613) y3180.1 y3197.1 y3197.2.1).bind fun y3200 =>
 j3176 (y3196.2.b,y3196.2.i,y3196.2.h,y3200.nodes,y3200.net)
 else
 j3176 (y3196.2.b,y3196.2.i,y3196.2.h,x2612,x2613))
 else
 (if (y3184.1 == 1) = true then
 (at? x2612 y3180.1).bind fun x3211 =>
 (s_l01Below N y3184.2 6).bind fun y3212 =>
 (s_Tick N x3211 (w64 (1 + y3212.1))).bind fun y3213 =>
 (if y3213.2.2 = true then
 (s_l16Take_i1 N (TC.mk x2612 x2613) y3180.1 y3213.1 y3213.2.1).bind fun y3216 =>
 j3176 (y3212.2.b,y3212.2.i,y3212.2.h,y3216.nodes,y3216.net)
 else
 j3176 (y3212.2.b,y3212.2.i,y3212.2.h,x2612,x2613))
 else
 (if (y3184.1 == 2) = true then
 joinP (fun (v3247 : Int) =>
 (at? x2612 v3247).bind fun x3283 =>
 (s_l11Right N y3184.2 x3283.Term).bind fun y3284 =>
 (at? x2612 v3247).bind fun x3291 =>
 (s_Propose N x3291 y3284.1.Kind y3284.1.Data).bind fun y3292 =>
 (if y3292.2.2.2 = true then
 (s_l16Take_i1 N (TC.mk x2612 x2613) v3247 y3292.1 y3292.2.1).bind fun y3295 =>
 j3176 (y3284.2.b,y3284.2.i,y3284.2.h,y3295.nodes,y3295.net)
 else
 j3176 (y3284.2.b,y3284.2.i,y3284.2.h,x2612,x2613))) fun j3247 =>
 (s_l16Play_l3 N x2612 N y3180.1 0).bind (fun v3266 => j3247 v3266)
 else
 (if (y3184.1 == 3) = true then
 (s_l01Once N y3184.2 3).bind fun y3298 =>
 (if y3298.1 = true then
 (at? x2612 y3180.1).bind fun x3312 =>
 (at? x2612 y3180.1).bind fun x3313 =>
 (s_l01Below N y3298.2 2).bind fun y3314 =>
 (s_Settle N x3312 (w64 (x3313.Commit - y3314.1))).bind fun y3315 =>
 (if y3315.2 = true then
 (at? x2612 y3180.1).bind fun x3318 =>
 j3176 (y3314.2.b,y3314.2.i,y3314.2.h,(x2612.set y3180.1.toNat y3315.1),x2613)
 else
 j3176 (y3314.2.b,y3314.2.i,y3314.2.h,x2612,x2613))
 else
 j3176 (y3298.2.b,y3298.2.i,y3298.2.h,x2612,x2613))
 else
 (if (decide (((x2613.length : Nat) : Int) > 0)) = true then
 (s_l01Below N y3184.2 ((x2613.length : Nat) : Int)).bind fun y3323 =>
 (at? x2613 y3323.1).bind fun x3327 =>
 joinP (fun (v3339 : (List Int) × Int × Int × (List Message)) =>
 (at? x2612 (w64 (x3327.To - 1))).bind fun x3357 =>
 (s_Receive N x3357 x3327).bind fun y3358 =>
 (if y3358.2.2 = true then
 (s_l16Take_i1 N (TC.mk x2612 v3339.2.2.2) (w64 (x3327.To - 1)) y3358.1 y3358.2.1).bind fun y3361 =>
 j3176 (v3339.1,v3339.2.1,v3339.2.2.1,y3361.nodes,y3361.net)
 else
 j3176 (v3339.1,v3339.2.1,v3339.2.2.1,x2612,v3339.2.2.2))) fun j3339 =>
 (s_l01Once N y3323.2 8).bind fun y3341 =>
 (if (!y3341.1) = true then
 (take? x2613 y3323.1).bind fun x3347 =>
 (cat? ([] : List Message) (x2613.take y3323.1.toNat)).bind fun x3348 =>
 (drop? x2613 (w64 (y3323.1 + 1))).bind fun x3349 =>
 (cat? x3348 ((x2613.drop ((w64 (y3323.1 + 1)).toNat)).take (x2613.length - (w64 (y3323.1 + 1)).toNat))).bind fun x3350 =>
 j3339 (y3341.2.b,y3341.2.i,y3341.2.h,x3350)
 else
 j3339 (y3341.2.b,y3341.2.i,y3341.2.h,x2613))
 else
 j3176 (y3184.2.b,y3184.2.i,y3184.2.h,x2612,x2613))))))
 else
 some (x2609,x2610,x2611,x2612,x2613))
def s_l16Play (N : Nat) (x1 : TU) (x2 : Int) : Option (TC × TU) :=
 joinP (fun (v1736 : (List Int) × Int × Int × (List Int)) =>
 joinP (fun (v1796 : (List Int) × Int × Int × (List Node)) =>
 joinP (fun (v2606 : (List Int) × Int × Int × (List Node) × (List Message)) =>
 some ((TC.mk v2606.2.2.2.1 v2606.2.2.2.2),(TU.mk v2606.1 v2606.2.1 v2606.2.2.1))) fun j2606 =>
 (s_l16Play_l2 N x2 N 0 v1796.1 v1796.2.1 v1796.2.2.1 v1796.2.2.2 ([] : (List Message))).bind (fun v2987 => j2606 (v2987.1,v2987.2.1,v2987.2.2.1,v2987.2.2.2.1,v2987.2.2.2.2))) fun j1796 =>
 (s_l16Play_l1 N v1736 N 1 v1736.1 v1736.2.1 v1736.2.2.1 ([] : (List Node))).bind (fun v1827 => j1796 (v1827.1,v1827.2.1,v1827.2.2.1,v1827.2.2.2))) fun j1736 =>
 (s_l01Once N x1 3).bind fun y1738 =>
 (if y1738.1 = true then
 (s_l07Conf N y1738.2).bind fun y1741 =>
 j1736 (y1741.2.b,y1741.2.i,y1741.2.h,y1741.1)
 else
 j1736 (y1738.2.b,y1738.2.i,y1738.2.h,([1,2,3] : List Int)))
theorem sem_s_l16Play (N : Nat) (x1 : TU) (x2 : Int) (r : TC × TU) (h : s_l16Play N x1 x2 = some r) : Says Tryz.prog 17 [.ptr 0 0,VI x2] 1 [(0,.box [RO 5 (x1.b.map encU),VI x1.i,VI x1.h])] (.ptr 1 0) [(0,.box [RO 5 (r.2.b.map encU),VI r.2.i,VI r.2.h]),(1,.box [.sl 2 30 0 r.1.nodes.length,.sl 3 32 0 r.1.net.length]),(2,.vec 30 (r.1.nodes.map (encNode false))),(3,.vec 32 (r.1.net.map (eM false)))] := by
 unfold s_l16Play at h
 refine Says.of_norm e Tryz.call17 e fun B hB => ?_
 have hm : B.m ≤ 1000 := by omega
 refine Run.so hm (.p e (.nil (.so hm (.z 5096 (.bd e e) e e (.z 5112 (.bx e e) e e (.p e (.nil (.so hm (.z 9192 (Ev.bsW (ys := ([1,2,3] : List Int)) (f := encI) e (.d2 (.d1 .nil)) e e e e e) e e (.p e (.nil (.seqO h (fun v1736 => [(0,.ptr 0 0),(1,VI x2),(5,.ptr 1 0),(6,.sl 2 3 0 v1736.2.2.2.length)]) (fun (v1736 : (List Int) × Int × Int × (List Int)) => [(0,.box [RO 5 (v1736.1.map encU),VI v1736.2.1,VI v1736.2.2.1]),(1,.box [.sl 3 30 0 (([] : List Node).length),.sl 4 32 0 (([] : List Message).length)]),(2,.vec 3 (v1736.2.2.2.map encI)),(3,.vec 30 (([] : List Node).map (encNode false))),(4,.vec 32 (([] : List Message).map (eM false)))]) (fun h => ?_) (fun v1736 h => ?_)))))))))))))
 ·refine Run.so hm (.p e ?_)
  obtain ⟨y1738,hy1738,h⟩ := bindO h
  refine Ops.z 13304 (Ev.call [0] [] 0 (sem_s_l01Once _ _ _ _ hy1738) e e (.cons (.ptr e) (.d1 .nil)) e (.inl e) e e) e e (.nil (.condO e h (fun g1739 h => ?_) (fun g1739 h => ?_)))
  ·refine Run.ops hm (.p e ?_)
   obtain ⟨y1741,hy1741,h⟩ := bindO h
   exact Ops.z 17400 (Ev.call [0] [] 1 (sem_s_l07Conf _ _ _ hy1741) e e (.cons (.ptr e) .nil) e (.inl e) e e) e e (.p e (.nil (⟨_,_,(Gh.trans (Gh.trans (gh_prn [0,1,5,6] [0,5112,17400] hB e) (gh_nil [] [5112] hB e e e)) (gh_pk [0,1,5,6] [0,5112,17400,20000000,20000001] hB e e e e)),_,h,e,e⟩)))
  ·exact Run.skip (⟨_,_,(Gh.trans (Gh.trans (gh_prn [0,1,5,6] [0,5112,9192] hB e) (gh_nil [] [5112] hB e e e)) (gh_pk [0,1,5,6] [0,5112,9192,20000000,20000001] hB e e e e)),_,h,e,e⟩)
 ·refine Run.seqO h (fun v1796 => [(0,.ptr 0 0),(1,VI x2),(5,.ptr 1 0)]) (fun (v1796 : (List Int) × Int × Int × (List Node)) => [(0,.box [RO 5 (v1796.1.map encU),VI v1796.2.1,VI v1796.2.2.1]),(1,.box [.sl 2 30 0 v1796.2.2.2.length,.sl 3 32 0 (([] : (List Message)).length)]),(2,.vec 30 (v1796.2.2.2.map (encNode false))),(3,.vec 32 (([] : (List Message)).map (eM false)))]) (fun h => ?_) (fun v1796 h => ?_)
  ·refine Run.so hm (.p e (.nil (.block ?_)))
   obtain ⟨res1827,h,hk1827⟩ := bindO h
   refine Run.loop (n := N) (fun m1827 fr σ => ∃ (x1798 : Int),∃ (x1799 : (List Int)),∃ (x1800 : Int),∃ (x1801 : Int),∃ (x1803 : (List Node)),s_l16Play_l1 N v1736 m1827 x1798 x1799 x1800 x1801 x1803 = some res1827 ∧ fr = [(0,.ptr 0 0),(1,VI x2),(5,.ptr 1 0),(6,.sl 2 3 0 v1736.2.2.2.length),(7,VI x1798)] ∧ σ = [(0,.box [RO 5 (x1799.map encU),VI x1800,VI x1801]),(1,.box [.sl 3 30 0 x1803.length,.sl 4 32 0 (([] : (List Message)).length)]),(2,.vec 3 (v1736.2.2.2.map encI)),(3,.vec 30 (x1803.map (encNode false))),(4,.vec 32 (([] : (List Message)).map (eM false)))]) (gh_pk [0,1,5,6,7] [0,1,2,3,4] hB e e e e) ⟨_,_,_,_,_,h,e,e⟩ ?_
   rintro m1827 fr σ ⟨x1798,x1799,x1800,x1801,x1803,h,rfl,rfl⟩
   obtain _ | m1827 := m1827
   ·rw [s_l16Play_l1] at h; cases h
   rw [s_l16Play_l1] at h
   refine Run.seq (.so hm (.p2 e e (.nil (.condO e h (fun g1830 h => ?_) (fun g1830 h => ?_)))))
   ·refine Run.skip (.seq (.block (.so hm (.p2 e e ?_))))
    obtain ⟨y1844,hy1844,h⟩ := bindO h
    refine Ops.z 33800 (Ev.call [] [2] 4 (sem_s_NodeNew _ _ _ _ hy1844) e e (.d1 (.cons (.borrow e (by decide) (lendW (fun _ => e) _ e)) .nil)) e (.inr ⟨e,ownL_root ⟨own_rows (fun _ => e) _,own_rows (fun _ => e) _,own_rows (fun _ => e) _,own_rows (fun _ => e) _,trivial⟩⟩) e e) e e ?_
    refine Ops.p e (.p2 e e (.z 33864 (.al e e) e e (.y 33880 (.sto e e e e e e) e e (.p e (.nil (.so hm (.p e ?_)))))))
    obtain ⟨y1848,hy1848,h⟩ := bindO h
    refine Ops.z 37880 (Ev.call [0] [] 0 (sem_s_l01Below _ _ _ _ hy1848) e e (.cons (.ptr e) (.d1 .nil)) e (.inl e) e e) e e (.p2 e e (.y 37928 (.sto e e e e e e) e e (.nil (.draw hm hmix (.p e (.p e (.p e (.p e (.p e (.p e (.stz (s := 42056) (EvZ.frz (f := encI) (g := encI) (xs := y1844.1.Conf) 33800 (fun _ => e) e (EvZ.frz (f := eE) (g := eE) (xs := y1844.1.Log.Entries) 33801 (fun _ => e) e (EvZ.frz (f := encI) (g := encI) (xs := y1844.1.Votes) 33802 (fun _ => e) e (EvZ.frz (f := eP) (g := eP) (xs := y1844.1.Peers) 33803 (fun _ => e) e (.mk (Ev.bsW (ys := ([(Node.mk y1844.1.Id y1844.1.Term y1844.1.Vote y1844.1.Role y1844.1.Lead y1844.1.Conf y1844.1.Log y1844.1.Commit y1844.1.Clock (w64 (1 + y1848.1)) y1844.1.Votes y1844.1.Peers)] : List Node)) (f := (encNode false)) e (.d4 (.d1 (.cons (.ro e (shareW _ e)) (.d2 (.cons (.ro e (shareW _ e)) (.d2 (.d1 (.cons (.ro e (shareW _ e)) (.cons (.ro e (shareW _ e)) .nil))))))))) e e e e e)))))) e e ?_)))))))))))
    obtain ⟨x1850,hx1850,h⟩ := bindO h
    refine OpsD.z 42072 (Ev.apW (f := (encNode false)) (ontoW e e e) (addsW e e e (fun _ => e)) e bt30 e hx1850) e e (.p e (.p e (.y 42120 (.sto e e e e e e) e e (.nil ⟨by kernel_rfl,?_⟩))))
    exact Run.ops hm (.p3 e e e (.nil (⟨m1827,Nat.lt_succ_self m1827,_,_,(gh_pk [0,1,5,6,7] [0,1,2,42072,4] hB e e e e),_,_,_,_,_,h,e,e⟩)))
   ·refine Run.exit ?_
    obtain rfl := someO h
    have h := hk1827
    exact ⟨_,_,(gh_pk [0,1,5] [0,1,3,4] hB e e e e),_,h,e,e⟩
  ·refine Run.seqO h (fun v2606 => [(5,.ptr 1 0)]) (fun (v2606 : (List Int) × Int × Int × (List Node) × (List Message)) => [(0,.box [RO 5 (v2606.1.map encU),VI v2606.2.1,VI v2606.2.2.1]),(1,.box [.sl 2 30 0 v2606.2.2.2.1.length,.sl 3 32 0 v2606.2.2.2.2.length]),(2,.vec 30 (v2606.2.2.2.1.map (encNode false))),(3,.vec 32 (v2606.2.2.2.2.map (eM false)))]) (fun h => ?_) (fun v2606 h => ?_)
   ·refine Run.so hm (.p e (.nil (.block ?_)))
    obtain ⟨res2987,h,hk2987⟩ := bindO h
    refine Run.loop (n := N) (fun m2987 fr σ => ∃ (x2608 : Int),∃ (x2609 : (List Int)),∃ (x2610 : Int),∃ (x2611 : Int),∃ (x2612 : (List Node)),∃ (x2613 : (List Message)),s_l16Play_l2 N x2 m2987 x2608 x2609 x2610 x2611 x2612 x2613 = some res2987 ∧ fr = [(0,.ptr 0 0),(1,VI x2),(5,.ptr 1 0),(10,VI x2608)] ∧ σ = [(0,.box [RO 5 (x2609.map encU),VI x2610,VI x2611]),(1,.box [.sl 2 30 0 x2612.length,.sl 3 32 0 x2613.length]),(2,.vec 30 (x2612.map (encNode false))),(3,.vec 32 (x2613.map (eM false)))]) (gh_pk [0,1,5,10] [0,1,2,3] hB e e e e) ⟨_,_,_,_,_,_,h,e,e⟩ ?_
    rintro m2987 fr σ ⟨x2608,x2609,x2610,x2611,x2612,x2613,h,rfl,rfl⟩
    obtain _ | m2987 := m2987
    ·rw [s_l16Play_l2] at h; cases h
    rw [s_l16Play_l2] at h
    refine Run.seq (.so hm (.p3 e e e (.nil (.condO e h (fun g2990 h => ?_) (fun g2990 h => ?_)))))
    ·refine Run.skip (.seqO h (fun v3176 => [(0,.ptr 0 0),(1,VI x2),(5,.ptr 1 0),(10,VI x2608)]) (fun (v3176 : (List Int) × Int × Int × (List Node) × (List Message)) => [(0,.box [RO 5 (v3176.1.map encU),VI v3176.2.1,VI v3176.2.2.1]),(1,.box [.sl 2 30 0 v3176.2.2.2.1.length,.sl 3 32 0 v3176.2.2.2.2.length]),(2,.vec 30 (v3176.2.2.2.1.map (encNode false))),(3,.vec 32 (v3176.2.2.2.2.map (eM false)))]) (fun h => ?_) (fun v3176 h => ?_))
     ·refine Run.block (.so hm (.p e ?_))
      obtain ⟨y3180,hy3180,h⟩ := bindO h
      refine Ops.z 58360 (Ev.call [0] [] 0 (sem_s_l01Below _ _ _ _ hy3180) e e (.cons (.ptr e) (.d1 .nil)) e (.inl e) e e) e e (.p e (.nil (.so hm (.p e ?_))))
      obtain ⟨y3184,hy3184,h⟩ := bindO h
      refine Ops.z 62456 (Ev.call [0] [] 0 (sem_s_l01Below _ _ _ _ hy3184) e e (.cons (.ptr e) (.d1 .nil)) e (.inl e) e e) e e (.nil (.block (.seq (.so hm (.p2 e e (.nil (.condO e h (fun g3185 h => ?_) (fun g3185 h => ?_))))))))
      ·refine Run.skip (.condT e g3185 (.seq (.draw hm hmix (.p e (.p e (.p e (.p e (.p e ?_))))))))
       obtain ⟨x3195,hx3195,h⟩ := bindO h
       refine OpsD.z 107576 (Ev.iaW e e e hx3195) e e (.z 107592 (Ev.ldE (f := (encNode false)) e e (at_some hx3195).2 e e e) e e (.p e ?_))
       obtain ⟨y3196,hy3196,h⟩ := bindO h
       refine OpsD.z 107624 (Ev.call [0] [] 0 (sem_s_l01Below _ _ _ _ hy3196) e e (.cons (.ptr e) (.d1 .nil)) e (.inl e) e e) e e (.p e ?_)
       obtain ⟨y3197,hy3197,h⟩ := bindO h
       refine OpsD.z 107656 (Ev.call [] [] 5 (sem_s_Tick _ _ _ _ hy3197) e e (.cons (.agg (.d4 (.d4 (.d4 (.d2 .nil))))) (.d1 .nil)) e (.inl e) e e) e e (.p e (.p e (.p e (.p e (.z 107736 (.al e e) e e (.y 107752 (.sto e e e e e e) e e (.p e (.p e (.nil ⟨by kernel_rfl,?_⟩)))))))))
       refine Run.so hm (.p e (.nil (.condO e h (fun g3198 h => ?_) (fun g3198 h => ?_))))
       ·refine Run.ops hm (.p3 e e e (.p e ?_))
        obtain ⟨y3200,hy3200,h⟩ := bindO h
        exact Ops.stz (s := 115752) (EvZ.frz (f := encI) (g := encI) (xs := y3197.1.Conf) 107656 (fun _ => e) e (EvZ.frz (f := eE) (g := eE) (xs := y3197.1.Log.Entries) 107657 (fun _ => e) e (EvZ.frz (f := encI) (g := encI) (xs := y3197.1.Votes) 107658 (fun _ => e) e (EvZ.frz (f := eP) (g := eP) (xs := y3197.1.Peers) 107659 (fun _ => e) e (.mk (Ev.call [1,107660,2,3] [] 2 (sem_s_l16Take_i1 _ _ _ _ _ _ hy3200) e e (.cons (.ptr e) (.d1 (.cons (.agg (.d4 (.d1 (.cons (.share e (shareW _ e)) (.d2 (.cons (.share e (shareW _ e)) (.d2 (.d1 (.cons (.share e (shareW _ e)) (.cons (.share e (shareW _ e)) .nil)))))))))) (.cons (.sl e) .nil)))) e (.inl e) e e)))))) e e (.nil (⟨_,_,(gh_pk [0,1,5,10] [0,1,115752,115753] hB e e e e),_,h,e,e⟩))
       ·exact Run.skip (⟨_,_,(gh_pk [0,1,5,10] [0,1,2,3] hB e e e e),_,h,e,e⟩)
      ·refine Run.ops hm (.p2 e e (.nil (.condO e h (fun g3201 h => ?_) (fun g3201 h => ?_))))
       ·refine Run.seq (.draw hm hmix (.p e (.p e (.p e (.p e (.p e ?_))))))
        obtain ⟨x3211,hx3211,h⟩ := bindO h
        refine OpsD.z 107576 (Ev.iaW e e e hx3211) e e (.z 107592 (Ev.ldE (f := (encNode false)) e e (at_some hx3211).2 e e e) e e (.p e ?_))
        obtain ⟨y3212,hy3212,h⟩ := bindO h
        refine OpsD.z 107624 (Ev.call [0] [] 0 (sem_s_l01Below _ _ _ _ hy3212) e e (.cons (.ptr e) (.d1 .nil)) e (.inl e) e e) e e (.p e ?_)
        obtain ⟨y3213,hy3213,h⟩ := bindO h
        refine OpsD.z 107656 (Ev.call [] [] 5 (sem_s_Tick _ _ _ _ hy3213) e e (.cons (.agg (.d4 (.d4 (.d4 (.d2 .nil))))) (.d1 .nil)) e (.inl e) e e) e e (.p e (.p e (.p e (.p e (.z 107736 (.al e e) e e (.y 107752 (.sto e e e e e e) e e (.p e (.p e (.nil ⟨by kernel_rfl,?_⟩)))))))))
        refine Run.so hm (.p e (.nil (.condO e h (fun g3214 h => ?_) (fun g3214 h => ?_))))
        ·refine Run.ops hm (.p3 e e e (.p e ?_))
         obtain ⟨y3216,hy3216,h⟩ := bindO h
         exact Ops.stz (s := 115752) (EvZ.frz (f := encI) (g := encI) (xs := y3213.1.Conf) 107656 (fun _ => e) e (EvZ.frz (f := eE) (g := eE) (xs := y3213.1.Log.Entries) 107657 (fun _ => e) e (EvZ.frz (f := encI) (g := encI) (xs := y3213.1.Votes) 107658 (fun _ => e) e (EvZ.frz (f := eP) (g := eP) (xs := y3213.1.Peers) 107659 (fun _ => e) e (.mk (Ev.call [1,107660,2,3] [] 2 (sem_s_l16Take_i1 _ _ _ _ _ _ hy3216) e e (.cons (.ptr e) (.d1 (.cons (.agg (.d4 (.d1 (.cons (.share e (shareW _ e)) (.d2 (.cons (.share e (shareW _ e)) (.d2 (.d1 (.cons (.share e (shareW _ e)) (.cons (.share e (shareW _ e)) .nil)))))))))) (.cons (.sl e) .nil)))) e (.inl e) e e)))))) e e (.nil (⟨_,_,(gh_pk [0,1,5,10] [0,1,115752,115753] hB e e e e),_,h,e,e⟩))
        ·exact Run.skip (⟨_,_,(gh_pk [0,1,5,10] [0,1,2,3] hB e e e e),_,h,e,e⟩)
       ·refine Run.so hm (.p2 e e (.nil (.condO e h (fun g3217 h => ?_) (fun g3217 h => ?_))))
        ·refine Run.seqO h (fun v3247 => [(0,.ptr 0 0),(1,VI x2),(5,.ptr 1 0),(10,VI x2608),(11,VI v3247)]) (fun (v3247 : Int) => [(0,.box [RO 5 (y3184.2.b.map encU),VI y3184.2.i,VI y3184.2.h]),(1,.box [.sl 2 30 0 x2612.length,.sl 3 32 0 x2613.length]),(2,.vec 30 (x2612.map (encNode false))),(3,.vec 32 (x2613.map (eM false)))]) (fun h => ?_) (fun v3247 h => ?_)
         ·refine Run.so hm (.p e (.nil (.block ?_)))
          obtain ⟨res3266,h,hk3266⟩ := bindO h
          refine Run.loop (n := N) (fun m3266 fr σ => ∃ (x3250 : Int),∃ (x3251 : Int),s_l16Play_l3 N x2612 m3266 x3250 x3251 = some res3266 ∧ fr = [(0,.ptr 0 0),(1,VI x2),(5,.ptr 1 0),(10,VI x2608),(11,VI x3250),(15,VI x3251)] ∧ σ = [(0,.box [RO 5 (y3184.2.b.map encU),VI y3184.2.i,VI y3184.2.h]),(1,.box [.sl 2 30 0 x2612.length,.sl 3 32 0 x2613.length]),(2,.vec 30 (x2612.map (encNode false))),(3,.vec 32 (x2613.map (eM false)))]) (gh_pk [0,1,5,10,11,15] [0,1,2,3] hB e e e e) ⟨_,_,h,e,e⟩ ?_
          rintro m3266 fr σ ⟨x3250,x3251,h,rfl,rfl⟩
          obtain _ | m3266 := m3266
          ·rw [s_l16Play_l3] at h; cases h
          rw [s_l16Play_l3] at h
          refine Run.seq (.so hm (.p2 e e (.nil (.condO e h (fun g3269 h => ?_) (fun g3269 h => ?_)))))
          ·refine Run.skip (.seqO h (fun v3273 => [(0,.ptr 0 0),(1,VI x2),(5,.ptr 1 0),(10,VI x2608),(11,VI v3273),(15,VI x3251)]) (fun (v3273 : Int) => [(0,.box [RO 5 (y3184.2.b.map encU),VI y3184.2.i,VI y3184.2.h]),(1,.box [.sl 2 30 0 x2612.length,.sl 3 32 0 x2613.length]),(2,.vec 30 (x2612.map (encNode false))),(3,.vec 32 (x2613.map (eM false)))]) (fun h => ?_) (fun v3273 h => ?_))
           ·refine Run.block (.so hm (.p3 e e e (.p2 e e ?_)))
            obtain ⟨x3275,hx3275,h⟩ := bindO h
            refine Ops.z 136248 (Ev.iaW e e e hx3275) e e (.p e (.z 136280 (Ev.ldE (f := (encNode false)) e e (at_some hx3275).2 e e e) e e (.p e (.nil (.condO e h (fun g3276 h => ?_) (fun g3276 h => ?_))))))
            ·exact Run.ops hm (.p2 e e (.nil (⟨_,_,(gh_pk [0,1,5,10,11,15] [0,1,2,3] hB e e e e),_,h,e,e⟩)))
            ·exact Run.skip (⟨_,_,(gh_pk [0,1,5,10,11,15] [0,1,2,3] hB e e e e),_,h,e,e⟩)
           ·exact Run.ops hm (.p3 e e e (.nil (⟨m3266,Nat.lt_succ_self m3266,_,_,(gh_pk [0,1,5,10,11,15] [0,1,2,3] hB e e e e),_,_,h,e,e⟩)))
          ·refine Run.exit ?_
           obtain rfl := someO h
           have h := hk3266
           exact ⟨_,_,(gh_pk [0,1,5,10,11] [0,1,2,3] hB e e e e),_,h,e,e⟩
         ·refine Run.so hm (.p3 e e e (.p3 e e e ?_))
          obtain ⟨x3283,hx3283,h⟩ := bindO h
          refine Ops.z 144456 (Ev.iaW e e e hx3283) e e (.p e (.z 144488 (Ev.ldE (f := (encNode false)) e e (at_some hx3283).2 e e e) e e ?_))
          obtain ⟨y3284,hy3284,h⟩ := bindO h
          refine Ops.z 144504 (Ev.call [0] [] 0 (sem_s_l11Right _ _ _ _ hy3284) e e (.cons (.ptr e) (.d1 .nil)) e (.inl e) e e) e e (.z 144520 (.al e e) e e (.y 144536 (.sto e e e e e e) e e (.nil (.seq (.draw hm hmix (.p e (.p e (.p e (.p e (.p e ?_))))))))))
          obtain ⟨x3291,hx3291,h⟩ := bindO h
          refine OpsD.z 148536 (Ev.iaW e e e hx3291) e e (.z 148552 (Ev.ldE (f := (encNode false)) e e (at_some hx3291).2 e e e) e e (.p e (.p e (.p e (.p e ?_)))))
          obtain ⟨y3292,hy3292,h⟩ := bindO h
          refine OpsD.z 148632 (Ev.call [] [] 5 (sem_s_Propose _ _ _ _ _ hy3292) e e (.cons (.agg (.d4 (.d4 (.d4 (.d2 .nil))))) (.d2 .nil)) e (.inl e) e e) e e (.p e (.p e (.p e (.p e (.p e (.z 148728 (.al e e) e e (.y 148744 (.sto e e e e e e) e e (.p e (.p e (.p e (.nil ⟨by kernel_rfl,?_⟩)))))))))))
          refine Run.so hm (.p e (.nil (.condO e h (fun g3293 h => ?_) (fun g3293 h => ?_))))
          ·refine Run.ops hm (.p3 e e e (.p e ?_))
           obtain ⟨y3295,hy3295,h⟩ := bindO h
           exact Ops.stz (s := 156712) (EvZ.frz (f := encI) (g := encI) (xs := y3292.1.Conf) 148632 (fun _ => e) e (EvZ.frz (f := eE) (g := eE) (xs := y3292.1.Log.Entries) 148633 (fun _ => e) e (EvZ.frz (f := encI) (g := encI) (xs := y3292.1.Votes) 148634 (fun _ => e) e (EvZ.frz (f := eP) (g := eP) (xs := y3292.1.Peers) 148635 (fun _ => e) e (.mk (Ev.call [1,148636,2,3] [] 2 (sem_s_l16Take_i1 _ _ _ _ _ _ hy3295) e e (.cons (.ptr e) (.d1 (.cons (.agg (.d4 (.d1 (.cons (.share e (shareW _ e)) (.d2 (.cons (.share e (shareW _ e)) (.d2 (.d1 (.cons (.share e (shareW _ e)) (.cons (.share e (shareW _ e)) .nil)))))))))) (.cons (.sl e) .nil)))) e (.inl e) e e)))))) e e (.nil (⟨_,_,(gh_pk [0,1,5,10] [0,1,156712,156713] hB e e e e),_,h,e,e⟩))
          ·exact Run.skip (⟨_,_,(gh_pk [0,1,5,10] [0,1,2,3] hB e e e e),_,h,e,e⟩)
        ·refine Run.so hm (.p2 e e (.nil (.condO e h (fun g3296 h => ?_) (fun g3296 h => ?_))))
         ·refine Run.so hm (.p e ?_)
          obtain ⟨y3298,hy3298,h⟩ := bindO h
          refine Ops.z 164856 (Ev.call [0] [] 0 (sem_s_l01Once _ _ _ _ hy3298) e e (.cons (.ptr e) (.d1 .nil)) e (.inl e) e e) e e (.nil (.condO e h (fun g3299 h => ?_) (fun g3299 h => ?_)))
          ·refine Run.seq (.draw hm hmix (.p e (.p e (.p e (.p e (.p e ?_))))))
           obtain ⟨x3312,hx3312,h⟩ := bindO h
           refine OpsD.z 169016 (Ev.iaW e e e hx3312) e e (.z 169032 (Ev.ldE (f := (encNode false)) e e (at_some hx3312).2 e e e) e e (.p e (.p e (.p e (.p e (.p e ?_))))))
           obtain ⟨x3313,hx3313,h⟩ := bindO h
           refine OpsD.z 169128 (Ev.iaW e e e hx3313) e e (.p e (.z 169160 (Ev.ldE (f := (encNode false)) e e (at_some hx3313).2 e e e) e e (.p e ?_)))
           obtain ⟨y3314,hy3314,h⟩ := bindO h
           refine OpsD.z 169192 (Ev.call [0] [] 0 (sem_s_l01Below _ _ _ _ hy3314) e e (.cons (.ptr e) (.d1 .nil)) e (.inl e) e e) e e (.p e ?_)
           obtain ⟨y3315,hy3315,h⟩ := bindO h
           refine OpsD.z 169224 (Ev.call [] [] 4 (sem_s_Settle _ _ _ _ hy3315) e e (.cons (.agg (.d4 (.d4 (.d4 (.d2 .nil))))) (.d1 .nil)) e (.inl e) e e) e e (.p e (.p e (.p e (.z 169288 (.al e e) e e (.y 169304 (.sto e e e e e e) e e (.p e (.nil ⟨by kernel_rfl,?_⟩)))))))
           refine Run.so hm (.p e (.nil (.condO e h (fun g3316 h => ?_) (fun g3316 h => ?_))))
           ·refine Run.draw hm hmix (.p e (.p e (.p e (.p e (.p e (.p e ?_))))))
            obtain ⟨x3318,hx3318,h⟩ := bindO h
            refine OpsD.z 177224 (Ev.iaW e e e hx3318) e e (.s0z (s := 177240) (EvZ.frz (f := encI) (g := encI) (xs := y3315.1.Conf) 169224 (fun _ => e) e (EvZ.frz (f := eE) (g := eE) (xs := y3315.1.Log.Entries) 169225 (fun _ => e) e (EvZ.frz (f := encI) (g := encI) (xs := y3315.1.Votes) 169226 (fun _ => e) e (EvZ.frz (f := eP) (g := eP) (xs := y3315.1.Peers) 169227 (fun _ => e) e (.mk (Ev.stE (f := (encNode false)) (v' := y3315.1) e e (at_some hx3318).2 e (.d4 (.d1 (.cons (.ro e (shareW _ e)) (.d2 (.cons (.ro e (shareW _ e)) (.d2 (.d1 (.cons (.ro e (shareW _ e)) (.cons (.ro e (shareW _ e)) .nil))))))))) e e e e e)))))) e e (.nil ⟨by kernel_rfl,?_⟩))
            exact ⟨_,_,(gh_pk [0,1,5,10] [0,1,2,3] hB e e (by first | rfl | (simp only [List.length_set]; done) | (simp only [List.length_set]; rfl)) (by first | rfl | (simp only [List.length_set]; done) | (simp only [List.length_set]; rfl))),_,h,e,e⟩
           ·exact Run.skip (⟨_,_,(gh_pk [0,1,5,10] [0,1,2,3] hB e e e e),_,h,e,e⟩)
          ·exact Run.skip (⟨_,_,(gh_pk [0,1,5,10] [0,1,2,3] hB e e e e),_,h,e,e⟩)
         ·refine Run.so hm (.p3 e e e (.p3 e e e (.nil (.condO e h (fun g3319 h => ?_) (fun g3319 h => ?_)))))
          ·refine Run.so hm (.p3 e e e (.p3 e e e ?_))
           obtain ⟨y3323,hy3323,h⟩ := bindO h
           refine Ops.z 70728 (Ev.call [0] [] 0 (sem_s_l01Below _ _ _ _ hy3323) e e (.cons (.ptr e) (.d1 .nil)) e (.inl e) e e) e e (.p e (.nil (.so hm (.p3 e e e (.p2 e e ?_)))))
           obtain ⟨x3327,hx3327,h⟩ := bindO h
           refine Ops.z 74808 (Ev.iaW e e e hx3327) e e (.z 74824 (Ev.ldE (f := (eM false)) e e (at_some hx3327).2 e e e) e e (.z 74840 (.al e e) e e (.y 74856 (.sto e e e e e e) e e (.nil (.seqO h (fun v3339 => [(0,.ptr 0 0),(1,VI x2),(5,.ptr 1 0),(10,VI x2608),(24,.ptr 2 0)]) (fun (v3339 : (List Int) × Int × Int × (List Message)) => [(0,.box [RO 5 (v3339.1.map encU),VI v3339.2.1,VI v3339.2.2.1]),(1,.box [.sl 3 30 0 x2612.length,.sl 4 32 0 v3339.2.2.2.length]),(2,.box [VI x3327.Kind,VI x3327.From,VI x3327.To,VI x3327.Term,VI x3327.Index,VI x3327.LogTerm,VI x3327.Commit,VB x3327.Ok,RO 40 (x3327.Entries.map eE),RO 3 (x3327.Conf.map encI),VS x3327.Data,VB x3327.Last]),(3,.vec 30 (x2612.map (encNode false))),(4,.vec 32 (v3339.2.2.2.map (eM false)))]) (fun h => ?_) (fun v3339 h => ?_))))))
           ·refine Run.so hm (.p e ?_)
            obtain ⟨y3341,hy3341,h⟩ := bindO h
            refine Ops.z 78840 (Ev.call [0] [] 0 (sem_s_l01Once _ _ _ _ hy3341) e e (.cons (.ptr e) (.d1 .nil)) e (.inl e) e e) e e (.p e (.nil (.condO e h (fun g3342 h => ?_) (fun g3342 h => ?_))))
            ·refine Run.draw hm hmix (.p e (.z 82936 (Ev.bsW (ys := ([] : List Message)) (f := (eM false)) e .nil e e e e e) e e (.p e (.p e (.p e (.p e (.p e ?_)))))))
             obtain ⟨x3347,hx3347,h⟩ := bindO h
             refine OpsD.z 83032 (Ev.slWh (xs := x2613) e e e hx3347) e e ?_
             obtain ⟨x3348,hx3348,h⟩ := bindO h
             refine OpsD.z 83048 (Ev.apW (f := (eM false)) (ontoW e e e) (addsP e e (fun _ => e)) e bt32 e hx3348) e e (.p e (.p e (.p e (.p e (.p e (.p e ?_))))))
             obtain ⟨x3349,hx3349,h⟩ := bindO h
             refine OpsD.z 83160 (Ev.slWl (xs := x2613) e e e hx3349) e e ?_
             obtain ⟨x3350,hx3350,h⟩ := bindO h
             refine OpsD.z 83176 (Ev.apW (f := (eM false)) (ontoW e e e) (addsP e e (fun _ => e)) e bt32 e hx3350) e e (.p e (.p e (.y 83224 (.sto e e e e e e) e e (.nil ⟨by kernel_rfl,?_⟩))))
             exact ⟨_,_,(gh_pk [0,1,5,10,24] [0,1,74840,2,83176] hB e e e e),_,h,e,e⟩
            ·exact Run.skip (⟨_,_,(gh_pk [0,1,5,10,24] [0,1,74840,2,3] hB e e e e),_,h,e,e⟩)
           ·refine Run.seq (.draw hm hmix (.p e (.p e (.p e (.p e (.p e (.p e (.p e ?_))))))))
            obtain ⟨x3357,hx3357,h⟩ := bindO h
            refine OpsD.z 87128 (Ev.iaW e e e hx3357) e e (.z 87144 (Ev.ldE (f := (encNode false)) e e (at_some hx3357).2 e e e) e e (.p e ?_))
            obtain ⟨y3358,hy3358,h⟩ := bindO h
            refine OpsD.z 87176 (Ev.call [] [] 5 (sem_s_Receive _ _ _ _ hy3358) e e (.cons (.agg (.d4 (.d4 (.d4 (.d2 .nil))))) (.cons (.agg (.d4 (.d4 (.d4 .nil)))) .nil)) e (.inl e) e e) e e (.p e (.p e (.p e (.p e (.z 87256 (.al e e) e e (.y 87272 (.sto e e e e e e) e e (.p e (.p e (.nil ⟨by kernel_rfl,?_⟩)))))))))
            refine Run.so hm (.p e (.nil (.condO e h (fun g3359 h => ?_) (fun g3359 h => ?_))))
            ·refine Run.ops hm (.p3 e e e (.p3 e e e ?_))
             obtain ⟨y3361,hy3361,h⟩ := bindO h
             exact Ops.stz (s := 95304) (EvZ.frz (f := encI) (g := encI) (xs := y3358.1.Conf) 87176 (fun _ => e) e (EvZ.frz (f := eE) (g := eE) (xs := y3358.1.Log.Entries) 87177 (fun _ => e) e (EvZ.frz (f := encI) (g := encI) (xs := y3358.1.Votes) 87178 (fun _ => e) e (EvZ.frz (f := eP) (g := eP) (xs := y3358.1.Peers) 87179 (fun _ => e) e (.mk (Ev.call [1,87180,3,4] [] 2 (sem_s_l16Take_i1 _ _ _ _ _ _ hy3361) e e (.cons (.ptr e) (.d1 (.cons (.agg (.d4 (.d1 (.cons (.share e (shareW _ e)) (.d2 (.cons (.share e (shareW _ e)) (.d2 (.d1 (.cons (.share e (shareW _ e)) (.cons (.share e (shareW _ e)) .nil)))))))))) (.cons (.sl e) .nil)))) e (.inl e) e e)))))) e e (.nil (⟨_,_,(gh_pk [0,1,5,10] [0,1,95304,95305] hB e e e e),_,h,e,e⟩))
            ·exact Run.skip (⟨_,_,(gh_pk [0,1,5,10] [0,1,3,4] hB e e e e),_,h,e,e⟩)
          ·exact Run.skip (⟨_,_,(gh_pk [0,1,5,10] [0,1,2,3] hB e e e e),_,h,e,e⟩)
     ·exact Run.ops hm (.p3 e e e (.nil (⟨m2987,Nat.lt_succ_self m2987,_,_,(gh_pk [0,1,5,10] [0,1,2,3] hB e e e e),_,_,_,_,_,_,h,e,e⟩)))
    ·refine Run.exit ?_
     obtain rfl := someO h
     have h := hk2987
     exact ⟨_,_,(gh_pk [5] [0,1,2,3] hB e e e e),_,h,e,e⟩
   ·refine Run.so hm (.p2 e e (.nil (.ret ?_)))
    obtain rfl := someO h
    exact Ends.mkG (.inl e) e (gh_pk [0] [0,1,2,3] hB e e e e) e e
end Go.Proofs.YtkojbcnafckofaaGreat.Pe.FnNodes
