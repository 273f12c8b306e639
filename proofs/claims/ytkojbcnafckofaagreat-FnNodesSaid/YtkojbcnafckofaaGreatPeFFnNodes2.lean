/- Functions,as pure functions; and that Go does just that. -/
import Derived.Test.YtkojbcnafckofaaGreatPeFFnNodes1
namespace Go.Proofs.YtkojbcnafckofaaGreat.Pe.FnNodes
open Go Go.RowKit
set_option linter.unusedVariables false
set_option linter.unusedSimpArgs false
set_option maxHeartbeats 40000000
set_option maxRecDepth 100000
def s_Tick_l1 (N : Nat) (x1 : Node) (y294 : Node) (y338 : Int × Int) (y342 : (List Int)) : Nat → Int → Int → Int → Int → Int → Int → Int → Int → Int → Int → Int → (List Message) → Option (Int × Int × Int × Int × Int × Int × Int × Int × Int × Int × (List Message))
 | 0,_,_,_,_,_,_,_,_,_,_,_,_ => none
 | m + 1,x401,x412,x413,x414,x415,x416,x417,x418,x419,x420,x421,x431 =>
 (if (decide (x401 < ((y342.length : Nat) : Int))) = true then
 (at? y342 x401).bind fun x452 =>
 (s_l16Tell N (TR.mk (Node.mk x412 x413 x414 x415 x416 y294.Conf (Log.mk x417 x418 y294.Log.Entries) x419 x420 x421 ([x1.Id] : List Int) y294.Peers) x431) (Message.mk 1 0 x452 0 y338.1 y338.2 0 false ([]) ([]) (⟨#[]⟩ : ByteArray) false)).bind fun y453 =>
 s_Tick_l1 N x1 y294 y338 y342 m (w64 (x401 + 1)) y453.n.Id y453.n.Term y453.n.Vote y453.n.Role y453.n.Lead y453.n.Log.Start y453.n.Log.StartTerm y453.n.Commit y453.n.Clock y453.n.Limit y453.told
 else
 some (x412,x413,x414,x415,x416,x417,x418,x419,x420,x421,x431))
def s_Tick (N : Nat) (x1 : Node) (x2 : Int) : Option (Node × (List Message) × Bool) :=
 (s_NodeOk N x1).bind fun y287 =>
 (if (!y287) = true then
 some ((Node.mk 0 0 0 0 0 ([]) (Log.mk 0 0 ([])) 0 0 0 ([]) ([])),([] : List Message),false)
 else
 (s_l01In N x2 1 20).bind fun y289 =>
 (if (!y289) = true then
 some ((Node.mk 0 0 0 0 0 ([]) (Log.mk 0 0 ([])) 0 0 0 ([]) ([])),([] : List Message),false)
 else
 (s_l16Copy N x1).bind fun y294 =>
 (if (x1.Role == 2) = true then
 (s_l16SendAll N (TR.mk y294 ([]))).bind fun y304 =>
 some ((Node.mk y304.n.Id y304.n.Term y304.n.Vote y304.n.Role y304.n.Lead y294.Conf (Log.mk y304.n.Log.Start y304.n.Log.StartTerm y294.Log.Entries) y304.n.Commit y304.n.Clock y304.n.Limit y294.Votes y294.Peers),y304.told,true)
 else
 (if (decide ((w64 (x1.Clock + 1)) < y294.Limit)) = true then
 some ((Node.mk y294.Id y294.Term y294.Vote y294.Role y294.Lead y294.Conf y294.Log y294.Commit (w64 (x1.Clock + 1)) y294.Limit y294.Votes y294.Peers),[],true)
 else
 (s_ConfOf N (Node.mk y294.Id y294.Term y294.Vote y294.Role y294.Lead y294.Conf y294.Log y294.Commit 0 x2 y294.Votes y294.Peers)).bind fun y310 =>
 (s_l09In N y310 x1.Id).bind fun y318 =>
 (if (!y318) = true then
 some ((Node.mk y294.Id y294.Term y294.Vote y294.Role y294.Lead y294.Conf y294.Log y294.Commit 0 x2 y294.Votes y294.Peers),[],true)
 else
 (if (x1.Term == 100000) = true then
 some ((Node.mk y294.Id y294.Term y294.Vote y294.Role y294.Lead y294.Conf y294.Log y294.Commit 0 x2 y294.Votes y294.Peers),[],true)
 else
 (s_l16Elected N (TR.mk (Node.mk y294.Id (w64 (x1.Term + 1)) x1.Id 1 0 y294.Conf y294.Log y294.Commit 0 x2 ([x1.Id] : List Int) y294.Peers) ([]))).bind fun y329 =>
 (if y329.1 = true then
 (s_l16Lead N (TR.mk (Node.mk y329.2.n.Id y329.2.n.Term y329.2.n.Vote y329.2.n.Role y329.2.n.Lead y294.Conf (Log.mk y329.2.n.Log.Start y329.2.n.Log.StartTerm y294.Log.Entries) y329.2.n.Commit y329.2.n.Clock y329.2.n.Limit ([x1.Id] : List Int) y294.Peers) y329.2.told)).bind fun y334 =>
 some (y334.n,y334.told,true)
 else
 (s_LogLast N (Log.mk y329.2.n.Log.Start y329.2.n.Log.StartTerm y294.Log.Entries)).bind fun y338 =>
 (s_l16Others N y310 x1.Id).bind fun y342 =>
 joinP (fun (v398 : Int × Int × Int × Int × Int × Int × Int × Int × Int × Int × (List Message)) =>
 some ((Node.mk v398.1 v398.2.1 v398.2.2.1 v398.2.2.2.1 v398.2.2.2.2.1 y294.Conf (Log.mk v398.2.2.2.2.2.1 v398.2.2.2.2.2.2.1 y294.Log.Entries) v398.2.2.2.2.2.2.2.1 v398.2.2.2.2.2.2.2.2.1 v398.2.2.2.2.2.2.2.2.2.1 ([x1.Id] : List Int) y294.Peers),v398.2.2.2.2.2.2.2.2.2.2,true)) fun j398 =>
 (s_Tick_l1 N x1 y294 y338 y342 N 0 y329.2.n.Id y329.2.n.Term y329.2.n.Vote y329.2.n.Role y329.2.n.Lead y329.2.n.Log.Start y329.2.n.Log.StartTerm y329.2.n.Commit y329.2.n.Clock y329.2.n.Limit y329.2.told).bind (fun v442 => j398 (v442.1,v442.2.1,v442.2.2.1,v442.2.2.2.1,v442.2.2.2.2.1,v442.2.2.2.2.2.1,v442.2.2.2.2.2.2.1,v442.2.2.2.2.2.2.2.1,v442.2.2.2.2.2.2.2.2.1,v442.2.2.2.2.2.2.2.2.2.1,v442.2.2.2.2.2.2.2.2.2.2)))))))))
theorem sem_s_Tick (N : Nat) (x1 : Node) (x2 : Int) (r : Node × (List Message) × Bool) (h : s_Tick N x1 x2 = some r) : Says Tryz.prog 53 [.agg [VI x1.Id,VI x1.Term,VI x1.Vote,VI x1.Role,VI x1.Lead,RO 3 (x1.Conf.map encI),VI x1.Log.Start,VI x1.Log.StartTerm,RO 40 (x1.Log.Entries.map eE),VI x1.Commit,VI x1.Clock,VI x1.Limit,RO 3 (x1.Votes.map encI),RO 98 (x1.Peers.map eP)],VI x2] 0 [] (.tup [.agg [VI r.1.Id,VI r.1.Term,VI r.1.Vote,VI r.1.Role,VI r.1.Lead,.sl 0 3 0 r.1.Conf.length,VI r.1.Log.Start,VI r.1.Log.StartTerm,.sl 1 40 0 r.1.Log.Entries.length,VI r.1.Commit,VI r.1.Clock,VI r.1.Limit,.sl 2 3 0 r.1.Votes.length,.sl 3 98 0 r.1.Peers.length],.sl 4 32 0 r.2.1.length,VB r.2.2]) [(0,.vec 3 (r.1.Conf.map encI)),(1,.vec 40 (r.1.Log.Entries.map eE)),(2,.vec 3 (r.1.Votes.map encI)),(3,.vec 98 (r.1.Peers.map eP)),(4,.vec 32 (r.2.1.map (eM false)))] := by
 unfold s_Tick at h
 refine Says.of_norm e Tryz.call53 e fun B hB => ?_
 have hm : B.m ≤ 1000 := by omega
 refine Run.so hm (.z 1000 (.bx e e) e e (.z 1016 (.al e e) e e (.p2 e e (.nil (.seq (.so hm (.p e ?_)))))))
 obtain ⟨y287,hy287,h⟩ := bindO h
 refine Ops.z 5112 (Ev.call [] [] 0 (sem_s_NodeOk _ _ _ hy287) e e (.cons (.agg (.d4 (.d4 (.d4 (.d2 .nil))))) .nil) e (.inl e) e e) e e (.p2 e e (.askO (x := .t 16) e h (fun g288 h => ?_) (fun g288 h => ?_)))
 ·refine Ops.gn e g288 (.gn e g288 (.gn e g288 (.z 5208 (.pkT e g288 e) e e (.nil (.condT e e (.so hm (.z 9192 (.bd e e) e e (.z 9208 (Ev.bsW (ys := ([] : List Message)) (f := (eM false)) e .nil e e e e e) e e (.y 9224 (.sto e e e e e e) e e (.p2 e e (.nil (.ret ?_))))))))))))
  obtain rfl := someO h
  exact Ends.mkG (.inl e) e (Gh.trans (Gh.trans (gh_prn [0,1,2] [9208] hB e) (gh_nil [0] [] hB e e e)) (gh_pk [0,1,2] [10000000,10000001,10000002,10000003,9208] hB e e e e)) e e
 ·refine Ops.gp e g288 e ?_
  obtain ⟨y289,hy289,h⟩ := bindO h
  refine Ops.gs (s := 5176) e g288 (Ev.call [] [] 0 (sem_s_l01In _ _ _ _ _ hy289) e e (.d2 (.d1 .nil)) e (.inl e) e e) e e (.gp e g288 e (.z 5208 (.pkF e g288 e) e e (.nil (.condO e h (fun g290 h => ?_) (fun g290 h => ?_)))))
  ·refine Run.so hm (.z 9192 (.bd e e) e e (.z 9208 (Ev.bsW (ys := ([] : List Message)) (f := (eM false)) e .nil e e e e e) e e (.y 9224 (.sto e e e e e e) e e (.p2 e e (.nil (.ret ?_))))))
   obtain rfl := someO h
   exact Ends.mkG (.inl e) e (Gh.trans (Gh.trans (gh_prn [0,1,2] [9208] hB e) (gh_nil [0] [] hB e e e)) (gh_pk [0,1,2] [10000000,10000001,10000002,10000003,9208] hB e e e e)) e e
  ·refine Run.skip (.so hm (.p e ?_))
   obtain ⟨y294,hy294,h⟩ := bindO h
   refine Ops.z 13304 (Ev.call [] [] 4 (sem_s_l16Copy _ _ _ hy294) e e (.cons (.agg (.d4 (.d4 (.d4 (.d2 .nil))))) .nil) e (.inl e) e e) e e (.z 13320 (.bd e e) e e (.z 13336 (.bx e e) e e (.p e (.nil (.seq (.so hm (.p3 e e e (.nil (.condO e h (fun g300 h => ?_) (fun g300 h => ?_))))))))))
   ·refine Run.so hm (.p e ?_)
    obtain ⟨y304,hy304,h⟩ := bindO h
    refine Ops.z 21496 (Ev.call [13336,13304,13305,13306,13307] [] 1 (sem_s_l16SendAll _ _ _ hy304) e e (.cons (.ptr e) .nil) e (.inl e) e e) e e (.nil (.seq (.draw hm hmix (.p e (.p e (.p e (.p e (.p e (.p e (.p e (.p e (.y 25704 (.sto e e e e e e) e e (.p e (.p e (.nil ⟨by kernel_rfl,?_⟩)))))))))))))))
    refine Run.ret ?_
    obtain rfl := someO h
    exact Ends.mkG (.inl e) e (gh_pk [0,1,2] [13304,13305,13306,13307,21496] hB e e e e) e e
   ·refine Run.skip (.so hm (.p3 e e e (.p3 e e e (.p e (.y 29784 (.sto e e e e e e) e e (.nil (.seq (.seq (.draw hm hmix (.p e (.p e (.p e (.p e (.p e (.p e (.p e (.p e (.p e (.p e (.p e (.nil ⟨by kernel_rfl,?_⟩)))))))))))))))))))))
    refine Run.condO e h (fun g306 h => ?_) (fun g306 h => ?_)
    ·refine Run.seq (.draw hm hmix (.p e (.p e (.p e (.p e (.p e (.p e (.p e (.p e (.y 37992 (.sto e e e e e e) e e (.p e (.p e (.nil ⟨by kernel_rfl,?_⟩)))))))))))))
     refine Run.ret ?_
     obtain rfl := someO h
     exact Ends.mkG (.inl e) e (Gh.trans (Gh.trans (gh_prn [0,1,2] [13304,13305,13306,13307] hB e) (gh_nil [1] [] hB e e e)) (gh_pk [0,1,2] [13304,13305,13306,13307,10000000] hB e e e e)) e e
    ·refine Run.skip (.so hm (.p3 e e e (.p e (.y 42024 (.sto e e e e e e) e e (.nil (.so hm (.p3 e e e (.p2 e e (.y 46136 (.sto e e e e e e) e e (.nil (.so hm (.p3 e e e (.p e ?_)))))))))))))
     obtain ⟨y310,hy310,h⟩ := bindO h
     refine Ops.z 50216 (Ev.call [] [13304,13305,13306,13307] 1 (sem_s_ConfOf _ _ _ hy310) e e (.cons (.agg (.d4 (.d1 (.cons (.borrow e (by decide) (lendW (fun _ => e) _ e)) (.d2 (.cons (.borrow e (by decide) (lendW (fun _ => e) _ e)) (.d2 (.d1 (.cons (.borrow e (by decide) (lendW (fun _ => e) _ e)) (.cons (.borrow e (by decide) (lendW (fun _ => e) _ e)) .nil)))))))))) .nil) e (.inr ⟨e,ownL_root ⟨own_rows (fun _ => e) _,trivial⟩⟩) e e) e e ?_
     refine Ops.p e (.nil (.seq (.so hm (.p3 e e e ?_))))
     obtain ⟨y318,hy318,h⟩ := bindO h
     refine Ops.z 54296 (Ev.call [] [50216] 0 (sem_s_l09In _ _ _ _ hy318) e e (.cons (.borrow e (by decide) (lendW (fun _ => e) _ e)) (.d1 .nil)) e (.inr ⟨e,ownL_root trivial⟩) e e) e e ?_
     refine Ops.p e (.p e (.askO (x := .t 85) e h (fun g319 h => ?_) (fun g319 h => ?_)))
     ·refine Ops.gn e g319 (.gn e g319 (.gn e g319 (.z 54392 (.pkT e g319 e) e e (.nil (.condT e e (.seq (.draw hm hmix (.p e (.p e (.p e (.p e (.p e (.p e (.p e (.p e (.y 58472 (.sto e e e e e e) e e (.p e (.p e (.nil ⟨by kernel_rfl,?_⟩)))))))))))))))))))
      refine Run.ret ?_
      obtain rfl := someO h
      exact Ends.mkG (.inl e) e (Gh.trans (Gh.trans (gh_prn [0,1,2] [13304,13305,13306,13307] hB e) (gh_nil [1] [] hB e e e)) (gh_pk [0,1,2] [13304,13305,13306,13307,10000000] hB e e e e)) e e
     ·refine Ops.gp e g319 e (.gp e g319 e (.gp e g319 e (.z 54392 (.pkF e g319 e) e e (.nil (.condO e h (fun g320 h => ?_) (fun g320 h => ?_))))))
      ·refine Run.seq (.draw hm hmix (.p e (.p e (.p e (.p e (.p e (.p e (.p e (.p e (.y 58472 (.sto e e e e e e) e e (.p e (.p e (.nil ⟨by kernel_rfl,?_⟩)))))))))))))
       refine Run.ret ?_
       obtain rfl := someO h
       exact Ends.mkG (.inl e) e (Gh.trans (Gh.trans (gh_prn [0,1,2] [13304,13305,13306,13307] hB e) (gh_nil [1] [] hB e e e)) (gh_pk [0,1,2] [13304,13305,13306,13307,10000000] hB e e e e)) e e
      ·refine Run.skip (.so hm (.p3 e e e (.p3 e e e (.p e (.y 62552 (.sto e e e e e e) e e (.nil (.so hm (.p3 e e e (.p3 e e e (.y 66632 (.sto e e e e e e) e e (.nil (.so hm (.p3 e e e (.p e (.y 70696 (.sto e e e e e e) e e (.nil (.so hm (.p3 e e e (.p e (.y 74792 (.sto e e e e e e) e e (.nil (.so hm (.p3 e e e (.z 78872 (Ev.bsW (ys := ([x1.Id] : List Int)) (f := encI) e (.d1 .nil) e e e e e) e e (.p3 e e e (.y 78936 (.sto e e e e e e) e e (.nil (.seq (.so hm (.p e ?_))))))))))))))))))))))))))))))
       obtain ⟨y329,hy329,h⟩ := bindO h
       refine Ops.z 82936 (Ev.call [13336,13304,13305,78872,13307] [] 1 (sem_s_l16Elected _ _ _ hy329) e e (.cons (.ptr e) .nil) e (.inl e) e e) e e (.nil (.condO e h (fun g330 h => ?_) (fun g330 h => ?_)))
       ·refine Run.so hm (.p e ?_)
        obtain ⟨y334,hy334,h⟩ := bindO h
        refine Ops.z 87032 (Ev.call [13336,13304,13305,78872,13307,82936] [] 5 (sem_s_l16Lead _ _ _ hy334) e e (.cons (.ptr e) .nil) e (.inl e) e e) e e (.nil (.seq (.draw hm hmix (.p e (.p e (.p e (.p e (.p e (.p e (.p e (.p e (.y 91240 (.sto e e e e e e) e e (.p e (.p e (.nil ⟨by kernel_rfl,?_⟩)))))))))))))))
        refine Run.ret ?_
        obtain rfl := someO h
        exact Ends.mkG (.inl e) e (gh_pk [0,1,2] [87032,87033,87034,87035,87036] hB e e e e) e e
       ·refine Run.skip (.so hm (.p3 e e e (.p2 e e ?_)))
        obtain ⟨y338,hy338,h⟩ := bindO h
        refine Ops.z 95288 (Ev.call [] [13305] 0 (sem_s_LogLast _ _ _ hy338) e e (.cons (.agg (.d2 (.cons (.borrow e (by decide) (lendW (fun _ => e) _ e)) .nil))) .nil) e (.inr ⟨e,ownL_root trivial⟩) e e) e e ?_
        refine Ops.p e (.p3 e e e (.p e (.nil (.so hm (.p3 e e e ?_)))))
        obtain ⟨y342,hy342,h⟩ := bindO h
        refine Ops.z 99352 (Ev.call [] [50216] 1 (sem_s_l16Others _ _ _ _ hy342) e e (.cons (.borrow e (by decide) (lendW (fun _ => e) _ e)) (.d1 .nil)) e (.inr ⟨e,ownL_root ⟨own_rows (fun _ => e) _,trivial⟩⟩) e e) e e ?_
        refine Ops.p e (.nil (.seqO h (fun v398 => [(4,.ptr 0 0),(7,.ptr 1 0)]) (fun (v398 : Int × Int × Int × Int × Int × Int × Int × Int × Int × Int × (List Message)) => [(0,.box [VI 0,VI 0,VI 0,VI 0,VI 0,.sl 2 3 0 (([] : (List Int)).length),VI 0,VI 0,.sl 3 40 0 (([] : (List Entry)).length),VI 0,VI 0,VI 0,.sl 4 3 0 (([] : (List Int)).length),.sl 5 98 0 (([] : (List Peer)).length)]),(1,.box [VI v398.1,VI v398.2.1,VI v398.2.2.1,VI v398.2.2.2.1,VI v398.2.2.2.2.1,.sl 6 3 0 y294.Conf.length,VI v398.2.2.2.2.2.1,VI v398.2.2.2.2.2.2.1,.sl 7 40 0 y294.Log.Entries.length,VI v398.2.2.2.2.2.2.2.1,VI v398.2.2.2.2.2.2.2.2.1,VI v398.2.2.2.2.2.2.2.2.2.1,.sl 8 3 0 (([x1.Id] : List Int).length),.sl 9 98 0 y294.Peers.length,.sl 10 32 0 v398.2.2.2.2.2.2.2.2.2.2.length]),(2,.vec 3 (([] : (List Int)).map encI)),(3,.vec 40 (([] : (List Entry)).map eE)),(4,.vec 3 (([] : (List Int)).map encI)),(5,.vec 98 (([] : (List Peer)).map eP)),(6,.vec 3 (y294.Conf.map encI)),(7,.vec 40 (y294.Log.Entries.map eE)),(8,.vec 3 (([x1.Id] : List Int).map encI)),(9,.vec 98 (y294.Peers.map eP)),(10,.vec 32 (v398.2.2.2.2.2.2.2.2.2.2.map (eM false)))]) (fun h => ?_) (fun v398 h => ?_)))
        ·refine Run.so hm (.p e (.nil (.block ?_)))
         obtain ⟨res442,h,hk442⟩ := bindO h
         refine Run.loop (n := N) (fun m442 fr σ => ∃ (x401 : Int),∃ (x412 : Int),∃ (x413 : Int),∃ (x414 : Int),∃ (x415 : Int),∃ (x416 : Int),∃ (x417 : Int),∃ (x418 : Int),∃ (x419 : Int),∃ (x420 : Int),∃ (x421 : Int),∃ (x431 : (List Message)),s_Tick_l1 N x1 y294 y338 y342 m442 x401 x412 x413 x414 x415 x416 x417 x418 x419 x420 x421 x431 = some res442 ∧ fr = [(4,.ptr 0 0),(7,.ptr 1 0),(9,VI y338.1),(10,VI y338.2),(11,.sl 2 3 0 y342.length),(12,VI x401)] ∧ σ = [(0,.box [VI 0,VI 0,VI 0,VI 0,VI 0,.sl 3 3 0 (([] : (List Int)).length),VI 0,VI 0,.sl 4 40 0 (([] : (List Entry)).length),VI 0,VI 0,VI 0,.sl 5 3 0 (([] : (List Int)).length),.sl 6 98 0 (([] : (List Peer)).length)]),(1,.box [VI x412,VI x413,VI x414,VI x415,VI x416,.sl 7 3 0 y294.Conf.length,VI x417,VI x418,.sl 8 40 0 y294.Log.Entries.length,VI x419,VI x420,VI x421,.sl 9 3 0 (([x1.Id] : List Int).length),.sl 10 98 0 y294.Peers.length,.sl 11 32 0 x431.length]),(2,.vec 3 (y342.map encI)),(3,.vec 3 (([] : (List Int)).map encI)),(4,.vec 40 (([] : (List Entry)).map eE)),(5,.vec 3 (([] : (List Int)).map encI)),(6,.vec 98 (([] : (List Peer)).map eP)),(7,.vec 3 (y294.Conf.map encI)),(8,.vec 40 (y294.Log.Entries.map eE)),(9,.vec 3 (([x1.Id] : List Int).map encI)),(10,.vec 98 (y294.Peers.map eP)),(11,.vec 32 (x431.map (eM false)))]) (Gh.trans (Gh.trans (gh_prn [4,7,9,10,11,12] [1016,13336,99352,13304,13305,78872,13307,82936] hB e) (gh_nil [] [1016] hB e e e)) (gh_pk [4,7,9,10,11,12] [1016,13336,99352,20000000,20000001,20000002,20000003,13304,13305,78872,13307,82936] hB e e e e)) ⟨_,_,_,_,_,_,_,_,_,_,_,_,h,e,e⟩ ?_
         rintro m442 fr σ ⟨x401,x412,x413,x414,x415,x416,x417,x418,x419,x420,x421,x431,h,rfl,rfl⟩
         obtain _ | m442 := m442
         ·rw [s_Tick_l1] at h; cases h
         rw [s_Tick_l1] at h
         refine Run.seq (.so hm (.p3 e e e (.p e (.nil (.condO e h (fun g445 h => ?_) (fun g445 h => ?_))))))
         ·refine Run.skip (.seq (.block (.ops hm (.p3 e e e ?_))))
          obtain ⟨x452,hx452,h⟩ := bindO h
          refine Ops.z 115736 (Ev.iaW e e e hx452) e e (.z 115752 (Ev.ldE (f := encI) e e (at_some hx452).2 e e e) e e (.p2 e e (.z 115800 (.bd e e) e e ?_)))
          obtain ⟨y453,hy453,h⟩ := bindO h
          exact Ops.z 115816 (Ev.call [1,7,8,9,10,11] [] 1 (sem_s_l16Tell _ _ _ _ hy453) e e (.cons (.ptr e) (.cons (.agg (.d4 (.d4 (.cons (.nil _ _) (.cons (.nil _ _) (.d2 .nil)))))) .nil)) e (.inl e) e e) e e (.nil (.ops hm (.p3 e e e (.nil (⟨m442,Nat.lt_succ_self m442,_,_,(gh_pk [4,7,9,10,11,12] [0,1,2,3,4,5,6,7,8,9,10,115816] hB e e e e),_,_,_,_,_,_,_,_,_,_,_,_,h,e,e⟩)))))
         ·refine Run.exit ?_
          obtain rfl := someO h
          have h := hk442
          exact ⟨_,_,(gh_pk [4,7] [0,1,3,4,5,6,7,8,9,10,11] hB e e e e),_,h,e,e⟩
        ·refine Run.seq (.draw hm hmix (.p e (.p e (.p e (.p e (.p e (.p e (.p e (.p e (.y 119912 (.sto e e e e e e) e e (.p e (.p e (.nil ⟨by kernel_rfl,?_⟩)))))))))))))
         refine Run.ret ?_
         obtain rfl := someO h
         exact Ends.mkG (.inl e) e (gh_pk [0,1,2] [6,7,8,9,10] hB e e e e) e e
def s_l16Take_i1_l1 (N : Nat) (x4 : (List Message)) : Nat → Int → (List Message) → Option ((List Message))
 | 0,_,_ => none
 | m + 1,x206,x209 =>
 (if (decide (x206 < ((x4.length : Nat) : Int))) = true then
 joinP (fun (v244 : (List Message)) =>
 s_l16Take_i1_l1 N x4 m (w64 (x206 + 1)) v244) fun j244 =>
 (if (decide (((x209.length : Nat) : Int) < 24)) = true then
 (at? x4 x206).bind fun x248 =>
 (if (x248.Kind != 5) = true then
 (at? x4 x206).bind fun x252 =>
 (cat? x209 ([x252] : List Message)).bind fun x253 =>
 j244 x253
 else
 j244 x209)
 else
 j244 x209)
 else
 some x209)
def s_l16Take_i1 (N : Nat) (x1 : TC) (x2 : Int) (x3 : Node) (x4 : (List Message)) : Option (TC) :=
 (at? x1.nodes x2).bind fun x180 =>
 (s_l16Take_i1_l1 N x4 N 0 x1.net).bind (fun v231 => some (TC.mk (x1.nodes.set x2.toNat x3) v231))
theorem sem_s_l16Take_i1 (N : Nat) (x1 : TC) (x2 : Int) (x3 : Node) (x4 : (List Message)) (r : TC) (h : s_l16Take_i1 N x1 x2 x3 x4 = some r) : Says Tryz.prog 54 [.ptr 0 0,VI x2,.agg [VI x3.Id,VI x3.Term,VI x3.Vote,VI x3.Role,VI x3.Lead,RO 3 (x3.Conf.map encI),VI x3.Log.Start,VI x3.Log.StartTerm,RO 40 (x3.Log.Entries.map eE),VI x3.Commit,VI x3.Clock,VI x3.Limit,RO 3 (x3.Votes.map encI),RO 98 (x3.Peers.map eP)],.sl 1 32 0 x4.length] 4 [(0,.box [.sl 2 30 0 x1.nodes.length,.sl 3 32 0 x1.net.length]),(1,.vec 32 (x4.map (eM false))),(2,.vec 30 (x1.nodes.map (encNode false))),(3,.vec 32 (x1.net.map (eM false)))] (.tup []) [(0,.box [.sl 4 30 0 r.nodes.length,.sl 5 32 0 r.net.length]),(1,.vec 32 (x4.map (eM false))),(2,.gone),(3,.gone),(4,.vec 30 (r.nodes.map (encNode false))),(5,.vec 32 (r.net.map (eM false)))] := by
 unfold s_l16Take_i1 at h
 refine Says.of_norm e Tryz.call54 e fun B hB => ?_
 have hm : B.m ≤ 1000 := by omega
 refine Run.so hm (.z 1000 (.bx e e) e e (.nil (.seq (.draw hm hmix (.p e (.p e (.p e (.p e (.p e (.p e ?_))))))))))
 obtain ⟨x180,hx180,h⟩ := bindO h
 refine OpsD.z 5192 (Ev.iaW e e e hx180) e e (.y 5208 (Ev.stE (f := (encNode false)) (v' := x3) e e (at_some hx180).2 e (.d4 (.d4 (.d4 (.d2 .nil)))) e e e e e) e e (.nil ⟨by kernel_rfl,?_⟩))
 refine Run.so hm (.p e (.nil (.block ?_)))
 obtain ⟨res231,h,hk231⟩ := bindO h
 refine Run.loop (n := N) (fun m231 fr σ => ∃ (x206 : Int),∃ (x209 : (List Message)),s_l16Take_i1_l1 N x4 m231 x206 x209 = some res231 ∧ fr = [(0,.ptr 0 0),(3,.sl 1 32 0 x4.length),(8,VI x206)] ∧ σ = [(0,.box [.sl 4 30 0 ((x1.nodes.set x2.toNat x3).length),.sl 5 32 0 x209.length]),(1,.vec 32 (x4.map (eM false))),(2,.gone),(3,.gone),(4,.vec 30 ((x1.nodes.set x2.toNat x3).map (encNode false))),(5,.vec 32 (x209.map (eM false)))]) (Gh.trans (Gh.trans (gh_prn [0,3,8] [0,1,2,3] hB e) (gh_mvE [0,3,8] [2,3] hB e e)) (gh_pk [0,3,8] [0,1,2,3,30000002,30000003] hB e e (by first | rfl | (simp only [List.length_set]; done) | (simp only [List.length_set]; rfl)) (by first | rfl | (simp only [List.length_set]; done) | (simp only [List.length_set]; rfl)))) ⟨_,_,h,e,e⟩ ?_
 rintro m231 fr σ ⟨x206,x209,h,rfl,rfl⟩
 obtain _ | m231 := m231
 ·rw [s_l16Take_i1_l1] at h; cases h
 rw [s_l16Take_i1_l1] at h
 refine Run.seq (.so hm (.p3 e e e (.p e (.nil (.condO e h (fun g234 h => ?_) (fun g234 h => ?_))))))
 ·refine Run.skip (.seqO h (fun v244 => [(0,.ptr 0 0),(3,.sl 1 32 0 x4.length),(8,VI x206)]) (fun (v244 : (List Message)) => [(0,.box [.sl 4 30 0 ((x1.nodes.set x2.toNat x3).length),.sl 5 32 0 v244.length]),(1,.vec 32 (x4.map (eM false))),(2,.gone),(3,.gone),(4,.vec 30 ((x1.nodes.set x2.toNat x3).map (encNode false))),(5,.vec 32 (v244.map (eM false)))]) (fun h => ?_) (fun v244 h => ?_))
  ·refine Run.block (.so hm (.p3 e e e (.p3 e e e (.p e (.askO (x := .t 28) e h (fun g247 h => ?_) (fun g247 h => ?_))))))
   ·refine Ops.gp e g247 e (.gp e g247 e ?_)
    obtain ⟨x248,hx248,h⟩ := bindO h
    refine Ops.gs (s := 21624) e g247 (Ev.iaW e e e hx248) e e (.gp e g247 e (.gs (s := 21656) e g247 (Ev.ldE (f := (eM false)) e e (at_some hx248).2 e e e) e e (.gp e g247 e (.z 21688 (.pkT e g247 e) e e (.nil (.condO e h (fun g249 h => ?_) (fun g249 h => ?_)))))))
    ·refine Run.draw hm hmix (.p e (.p e (.p e (.p e (.p e (.p e (.p e ?_)))))))
     obtain ⟨x252,hx252,h⟩ := bindO h
     refine OpsD.z 25688 (Ev.iaW e e e hx252) e e (.z 25704 (Ev.ldE (f := (eM false)) e e (at_some hx252).2 e e e) e e (.z 25720 (Ev.bsW (ys := ([x252] : List Message)) (f := (eM false)) e (.d4 (.d4 (.d4 .nil))) e e e e e) e e ?_))
     obtain ⟨x253,hx253,h⟩ := bindO h
     refine OpsD.z 25736 (Ev.apW (f := (eM false)) (ontoW e e e) (addsW e e e (fun _ => e)) e bt32 e hx253) e e (.p e (.p e (.y 25784 (.sto e e e e e e) e e (.nil ⟨by kernel_rfl,?_⟩))))
     exact ⟨_,_,(gh_pk [0,3,8] [0,1,2,3,4,25736] hB e e e e),_,h,e,e⟩
    ·exact Run.skip (⟨_,_,(gh_pk [0,3,8] [0,1,2,3,4,5] hB e e e e),_,h,e,e⟩)
   ·exact Ops.gn e g247 (.gn e g247 (.gn e g247 (.gn e g247 (.gn e g247 (.gn e g247 (.z 21688 (.pkF e g247 e) e e (.nil (.condF e e (.skip (⟨_,_,(gh_pk [0,3,8] [0,1,2,3,4,5] hB e e e e),_,h,e,e⟩))))))))))
  ·exact Run.ops hm (.p3 e e e (.nil (⟨m231,Nat.lt_succ_self m231,_,_,(gh_pk [0,3,8] [0,1,2,3,4,5] hB e e e e),_,_,h,e,e⟩)))
 ·refine Run.exit ?_
  obtain rfl := someO h
  have h := hk231
  obtain rfl := someO h
  exact Ends.mkG (.inr e) e (gh_pk [] [0,1,2,3,4,5] hB e e e e) e e
def s_l01PickInt_i1 (N : Nat) (x1 : TU) (x2 : (List Int)) : Option (Int × TU) :=
 (s_l01Below N x1 ((x2.length : Nat) : Int)).bind fun y106 =>
 (at? x2 y106.1).bind fun x107 =>
 some (x107,y106.2)
theorem sem_s_l01PickInt_i1 (N : Nat) (x1 : TU) (x2 : (List Int)) (r : Int × TU) (h : s_l01PickInt_i1 N x1 x2 = some r) : Says Tryz.prog 92 [.ptr 0 0,.sl 1 3 0 x2.length] 2 [(0,.box [RO 5 (x1.b.map encU),VI x1.i,VI x1.h]),(1,.vec 3 (x2.map encI))] (VI r.1) [(0,.box [RO 5 (r.2.b.map encU),VI r.2.i,VI r.2.h]),(1,.vec 3 (x2.map encI))] := by
 unfold s_l01PickInt_i1 at h
 refine Says.of_norm e Tryz.call92 e fun B hB => ?_
 have hm : B.m ≤ 1000 := by omega
 refine Run.so hm (.p e (.nil (.so hm (.p3 e e e (.p e ?_)))))
 obtain ⟨y106,hy106,h⟩ := bindO h
 refine Ops.z 5160 (Ev.call [0] [] 0 (sem_s_l01Below _ _ _ _ hy106) e e (.cons (.ptr e) (.d1 .nil)) e (.inl e) e e) e e ?_
 obtain ⟨x107,hx107,h⟩ := bindO h
 refine Ops.z 5176 (Ev.iaW e e e hx107) e e (.z 5192 (Ev.ldE (f := encI) e e (at_some hx107).2 e e e) e e (.p e (.nil (.ret ?_))))
 obtain rfl := someO h
 exact Ends.mkG (.inl e) e (gh_pk [0] [0,1] hB e e e e) e e
def s_ConfText_l1 (N : Nat) (x1 : (List Int)) : Nat → Int → (List Int) → Option ((List Int))
 | 0,_,_ => none
 | m + 1,x190,x191 =>
 (if (decide (x190 < (x1.length : Int))) = true then
 (at? x1 x190).bind fun x212 =>
 (cat? x191 ([IntKind.wrap .u8 (x212)] : List Int)).bind fun x213 =>
 s_ConfText_l1 N x1 m (w64 (x190 + 1)) x213
 else
 some x191)
def s_ConfText_l1_r (N : Nat) (x1 : (List Int)) : (List Int) → Int → (List Int) → Option ((List Int))
 | [],x190,x191 =>
 some x191
 | hd :: tl,x190,x191 =>
 (some hd).bind fun x212 =>
 (cat? x191 ([IntKind.wrap .u8 (x212)] : List Int)).bind fun x213 =>
 s_ConfText_l1_r N x1 tl (w64 (x190 + 1)) x213
theorem s_ConfText_l1_rng (N : Nat) (x1 : (List Int)) (hx : x1.length ≤ 1099511627776) : ∀ (d k m : Nat) (x191 : (List Int)),x1.length = k + d → d < m → s_ConfText_l1 N x1 m (k : Int) x191 = s_ConfText_l1_r N x1 (x1.drop k) (k : Int) x191 := by
 intro d
 induction d with
 | zero =>
  intro k m x191 hd hm
  obtain ⟨m,rfl⟩ : ∃ q,m = q + 1 := ⟨m - 1,by omega⟩
  rw [s_ConfText_l1,if_neg (by simp; omega),List.drop_eq_nil_of_le (by omega),s_ConfText_l1_r]
 | succ d ih =>
  intro k m x191 hd hm
  obtain ⟨m,rfl⟩ : ∃ q,m = q + 1 := ⟨m - 1,by omega⟩
  have hk : k < x1.length := by omega
  rw [s_ConfText_l1,if_pos (by simp; omega),List.drop_eq_getElem_cons hk,s_ConfText_l1_r]
  have h1 := at_lt hk
  have h2 := w64_succ (k := k) (by omega)
  have h3 := ih (k + 1) m
  simp only [h1,h2,h3 _ (by omega) (by omega)]
theorem s_ConfText_l1_eq {N : Nat} (x1 : (List Int)) (hx : x1.length ≤ 1099511627776) (hN : x1.length < N) (x191 : (List Int)) : s_ConfText_l1 N x1 N 0 x191 = s_ConfText_l1_r N x1 x1 0 x191 := s_ConfText_l1_rng N x1 hx x1.length 0 N x191 (by omega) hN
def s_ConfText (N : Nat) (x1 : (List Int)) : Option (ByteArray × Bool) :=
 (s_ConfOk N x1).bind fun y161 =>
 (if (!y161) = true then
 some ((⟨#[]⟩ : ByteArray),false)
 else
 joinP (fun (v188 : (List Int)) =>
 some (strOf v188,true)) fun j188 =>
 (s_ConfText_l1 N x1 N 0 ([] : List Int)).bind (fun v202 => j188 v202))
theorem sem_s_ConfText (N : Nat) (x1 : (List Int)) (r : ByteArray × Bool) (h : s_ConfText N x1 = some r) : Says Tryz.prog 93 [RO 3 (x1.map encI)] 0 [] (.tup [VS r.1,VB r.2]) [] := by
 unfold s_ConfText at h
 refine Says.of_norm e Tryz.call93 e fun B hB => ?_
 have hm : B.m ≤ 1000 := by omega
 refine Run.so hm (.p2 e e (.nil (.seq (.so hm (.p e ?_)))))
 obtain ⟨y161,hy161,h⟩ := bindO h
 refine Ops.z 5112 (Ev.call [] [] 0 (sem_s_ConfOk _ _ _ hy161) e e (.d1 .nil) e (.inl e) e e) e e (.p e (.nil (.condO e h (fun g162 h => ?_) (fun g162 h => ?_))))
 ·refine Run.so hm (.p2 e e (.nil (.ret ?_)))
  obtain rfl := someO h
  exact Ends.mkG (.inl e) e (gh_pk [0,1] [] hB e e e e) e e
 ·refine Run.skip (.so hm (.z 13288 (Ev.bsW (ys := ([] : List Int)) (f := encU) e .nil e e e e e) e e (.p e (.nil (.seqO h (fun v188 => [(4,.sl 0 5 0 v188.length)]) (fun (v188 : (List Int)) => [(0,.vec 5 (v188.map encU))]) (fun h => ?_) (fun v188 h => ?_))))))
  ·refine Run.so hm (.p e (.nil (.block ?_)))
   obtain ⟨res202,h,hk202⟩ := bindO h
   refine Run.loop (n := N) (fun m202 fr σ => ∃ (x190 : Int),∃ (x191 : (List Int)),s_ConfText_l1 N x1 m202 x190 x191 = some res202 ∧ fr = [(0,RO 3 (x1.map encI)),(4,.sl 0 5 0 x191.length),(5,VI x190)] ∧ σ = [(0,.vec 5 (x191.map encU))]) (gh_pk [0,4,5] [13288] hB e e e e) ⟨_,_,h,e,e⟩ ?_
   rintro m202 fr σ ⟨x190,x191,h,rfl,rfl⟩
   obtain _ | m202 := m202
   ·rw [s_ConfText_l1] at h; cases h
   rw [s_ConfText_l1] at h
   refine Run.seq (.so hm (.p2 e e (.z 21512 (Ev.lnF e) e e (.p e (.nil (.condO e h (fun g205 h => ?_) (fun g205 h => ?_)))))))
   ·refine Run.skip (.seq (.block (.ops hm (.p3 e e e ?_))))
    obtain ⟨x212,hx212,h⟩ := bindO h
    refine Ops.z 29720 (Ev.iaF e e hx212) e e (.p2 e e (.z 29768 (Ev.bsW (ys := ([IntKind.wrap .u8 (x212)] : List Int)) (f := encU) e (.d1 .nil) e e e e e) e e ?_))
    obtain ⟨x213,hx213,h⟩ := bindO h
    exact Ops.z 29784 (Ev.apW (f := encU) (ontoW e e e) (addsW e e e (fun _ => e)) e bt5 e hx213) e e (.p e (.nil (.ops hm (.p3 e e e (.nil (⟨m202,Nat.lt_succ_self m202,_,_,(gh_pk [0,4,5] [29784] hB e e e e),_,_,h,e,e⟩))))))
   ·refine Run.exit ?_
    obtain rfl := someO h
    have h := hk202
    exact ⟨_,_,(gh_pk [4] [0] hB e e e e),_,h,e,e⟩
  ·refine Run.so hm (.p e (.z 33784 (.sbC (addsW (f := encU) e e e (fun _ => e))) e e (.p2 e e (.nil (.ret ?_)))))
   obtain rfl := someO h
   exact Ends.mkG (.inl e) e (gh_pk [0,1] [] hB e e e e) e e
def s_l01Pick_i1 (N : Nat) (x1 : TU) (x2 : (List ByteArray)) : Option (ByteArray × TU) :=
 (s_l01Below N x1 ((x2.length : Nat) : Int)).bind fun y106 =>
 (at? x2 y106.1).bind fun x107 =>
 some (x107,y106.2)
theorem sem_s_l01Pick_i1 (N : Nat) (x1 : TU) (x2 : (List ByteArray)) (r : ByteArray × TU) (h : s_l01Pick_i1 N x1 x2 = some r) : Says Tryz.prog 114 [.ptr 0 0,.sl 1 9 0 x2.length] 2 [(0,.box [RO 5 (x1.b.map encU),VI x1.i,VI x1.h]),(1,.vec 9 (x2.map encS))] (VS r.1) [(0,.box [RO 5 (r.2.b.map encU),VI r.2.i,VI r.2.h]),(1,.vec 9 (x2.map encS))] := by
 unfold s_l01Pick_i1 at h
 refine Says.of_norm e Tryz.call114 e fun B hB => ?_
 have hm : B.m ≤ 1000 := by omega
 refine Run.so hm (.p e (.nil (.so hm (.p3 e e e (.p e ?_)))))
 obtain ⟨y106,hy106,h⟩ := bindO h
 refine Ops.z 5160 (Ev.call [0] [] 0 (sem_s_l01Below _ _ _ _ hy106) e e (.cons (.ptr e) (.d1 .nil)) e (.inl e) e e) e e ?_
 obtain ⟨x107,hx107,h⟩ := bindO h
 refine Ops.z 5176 (Ev.iaW e e e hx107) e e (.z 5192 (Ev.ldE (f := encS) e e (at_some hx107).2 e e e) e e (.p e (.nil (.ret ?_))))
 obtain rfl := someO h
 exact Ends.mkG (.inl e) e (gh_pk [0] [0,1] hB e e e e) e e
def s_l15Right (N : Nat) (x1 : TU) : Option (Command × TU) :=
 (s_l01Below N x1 5).bind fun y142 =>
 (if ((w64 (1 + y142.1)) == 1) = true then
 some ((Command.mk (w64 (1 + y142.1)) 0 0 (⟨#[]⟩ : ByteArray) (⟨#[]⟩ : ByteArray) (⟨#[]⟩ : ByteArray)),y142.2)
 else
 (s_l01Below N y142.2 4).bind fun y148 =>
 (s_l01Below N y148.2 3).bind fun y152 =>
 (s_l01Pick_i1 N y152.2 ([(⟨#[97]⟩ : ByteArray),(⟨#[98]⟩ : ByteArray),(⟨#[99]⟩ : ByteArray)] : List ByteArray)).bind fun y156 =>
 joinP (fun (v167 : (List Int) × Int × Int × ByteArray × ByteArray) =>
 some ((Command.mk (w64 (1 + y142.1)) (w64 (1 + y148.1)) (w64 (1 + y152.1)) y156.1 v167.2.2.2.1 v167.2.2.2.2),(TU.mk v167.1 v167.2.1 v167.2.2.1))) fun j167 =>
 (if ((w64 (1 + y142.1)) == 3) = true then
 (s_l01Pick_i1 N y156.2 ([(⟨#[]⟩ : ByteArray),(⟨#[49]⟩ : ByteArray),(⟨#[50]⟩ : ByteArray),(⟨#[116,104,114,101,101]⟩ : ByteArray)] : List ByteArray)).bind fun y170 =>
 j167 (y170.2.b,y170.2.i,y170.2.h,y170.1,(⟨#[]⟩ : ByteArray))
 else
 (if ((w64 (1 + y142.1)) == 5) = true then
 (s_l01Pick_i1 N y156.2 ([(⟨#[]⟩ : ByteArray),(⟨#[49]⟩ : ByteArray),(⟨#[50]⟩ : ByteArray),(⟨#[116,104,114,101,101]⟩ : ByteArray)] : List ByteArray)).bind fun y175 =>
 (s_l01Pick_i1 N y175.2 ([(⟨#[]⟩ : ByteArray),(⟨#[49]⟩ : ByteArray),(⟨#[50]⟩ : ByteArray),(⟨#[116,104,114,101,101]⟩ : ByteArray)] : List ByteArray)).bind fun y177 =>
 j167 (y177.2.b,y177.2.i,y177.2.h,y175.1,y177.1)
 else
 j167 (y156.2.b,y156.2.i,y156.2.h,(⟨#[]⟩ : ByteArray),(⟨#[]⟩ : ByteArray)))))
theorem sem_s_l15Right (N : Nat) (x1 : TU) (r : Command × TU) (h : s_l15Right N x1 = some r) : Says Tryz.prog 95 [.ptr 0 0] 1 [(0,.box [RO 5 (x1.b.map encU),VI x1.i,VI x1.h])] (.agg [VI r.1.Op,VI r.1.Session,VI r.1.Seq,VS r.1.Key,VS r.1.Value,VS r.1.Old]) [(0,.box [RO 5 (r.2.b.map encU),VI r.2.i,VI r.2.h])] := by
 unfold s_l15Right at h
 refine Says.of_norm e Tryz.call95 e fun B hB => ?_
 have hm : B.m ≤ 1000 := by omega
 refine Run.so hm (.z 1000 (.al e e) e e (.nil (.so hm (.p e ?_))))
 obtain ⟨y142,hy142,h⟩ := bindO h
 refine Ops.z 5112 (Ev.call [0] [] 0 (sem_s_l01Below _ _ _ _ hy142) e e (.cons (.ptr e) (.d1 .nil)) e (.inl e) e e) e e (.p e (.z 5144 (.bd e e) e e (.z 5160 (.al e e) e e (.y 5176 (.sto e e e e e e) e e (.nil (.seq (.so hm (.p3 e e e (.nil (.condO e h (fun g144 h => ?_) (fun g144 h => ?_)))))))))))
 ·refine Run.so hm (.p e (.y 13304 (.sto e e e e e e) e e (.nil (.ret ?_))))
  obtain rfl := someO h
  exact Ends.mkG (.inl e) e (gh_pk [0] [0] hB e e e e) e e
 ·refine Run.skip (.so hm (.p e ?_))
  obtain ⟨y148,hy148,h⟩ := bindO h
  refine Ops.z 17400 (Ev.call [0] [] 0 (sem_s_l01Below _ _ _ _ hy148) e e (.cons (.ptr e) (.d1 .nil)) e (.inl e) e e) e e (.p2 e e (.y 17448 (.sto e e e e e e) e e (.nil (.so hm (.p e ?_)))))
  obtain ⟨y152,hy152,h⟩ := bindO h
  refine Ops.z 21496 (Ev.call [0] [] 0 (sem_s_l01Below _ _ _ _ hy152) e e (.cons (.ptr e) (.d1 .nil)) e (.inl e) e e) e e (.p2 e e (.y 21544 (.sto e e e e e e) e e (.nil (.so hm (.p e (.z 25592 (Ev.bsW (ys := ([(⟨#[97]⟩ : ByteArray),(⟨#[98]⟩ : ByteArray),(⟨#[99]⟩ : ByteArray)] : List ByteArray)) (f := encS) e (.d2 (.d1 .nil)) e e e e e) e e ?_))))))
  obtain ⟨y156,hy156,h⟩ := bindO h
  refine Ops.z 25608 (Ev.call [0,25592] [] 0 (sem_s_l01Pick_i1 _ _ _ _ hy156) e e (.cons (.ptr e) (.cons (.sl e) .nil)) e (.inl e) e e) e e (.p e (.y 25640 (.sto e e e e e e) e e (.nil (.seqO h (fun v167 => [(2,.ptr 1 0),(3,.ptr 2 0)]) (fun (v167 : (List Int) × Int × Int × ByteArray × ByteArray) => [(0,.box [RO 5 (v167.1.map encU),VI v167.2.1,VI v167.2.2.1]),(1,.box [VI 0,VI 0,VI 0,VS (⟨#[]⟩ : ByteArray),VS (⟨#[]⟩ : ByteArray),VS (⟨#[]⟩ : ByteArray)]),(2,.box [VI (w64 (1 + y142.1)),VI (w64 (1 + y148.1)),VI (w64 (1 + y152.1)),VS y156.1,VS v167.2.2.2.1,VS v167.2.2.2.2])]) (fun h => ?_) (fun v167 h => ?_)))))
  ·refine Run.so hm (.p2 e e (.nil (.block (.so hm (.p2 e e (.nil (.condO e h (fun g168 h => ?_) (fun g168 h => ?_))))))))
   ·refine Run.ops hm (.p e (.z 37880 (Ev.bsW (ys := ([(⟨#[]⟩ : ByteArray),(⟨#[49]⟩ : ByteArray),(⟨#[50]⟩ : ByteArray),(⟨#[116,104,114,101,101]⟩ : ByteArray)] : List ByteArray)) (f := encS) e (.d4 .nil) e e e e e) e e ?_))
    obtain ⟨y170,hy170,h⟩ := bindO h
    exact Ops.z 37896 (Ev.call [0,37880] [] 0 (sem_s_l01Pick_i1 _ _ _ _ hy170) e e (.cons (.ptr e) (.cons (.sl e) .nil)) e (.inl e) e e) e e (.p e (.y 37928 (.sto e e e e e e) e e (.nil (⟨_,_,(gh_pk [2,3] [0,1000,5160] hB e e e e),_,h,e,e⟩))))
   ·refine Run.so hm (.p2 e e (.nil (.condO e h (fun g171 h => ?_) (fun g171 h => ?_))))
    ·refine Run.so hm (.p e (.z 46072 (Ev.bsW (ys := ([(⟨#[]⟩ : ByteArray),(⟨#[49]⟩ : ByteArray),(⟨#[50]⟩ : ByteArray),(⟨#[116,104,114,101,101]⟩ : ByteArray)] : List ByteArray)) (f := encS) e (.d4 .nil) e e e e e) e e ?_))
     obtain ⟨y175,hy175,h⟩ := bindO h
     refine Ops.z 46088 (Ev.call [0,46072] [] 0 (sem_s_l01Pick_i1 _ _ _ _ hy175) e e (.cons (.ptr e) (.cons (.sl e) .nil)) e (.inl e) e e) e e (.p e (.y 46120 (.sto e e e e e e) e e (.nil (.ops hm (.p e (.z 50168 (Ev.bsW (ys := ([(⟨#[]⟩ : ByteArray),(⟨#[49]⟩ : ByteArray),(⟨#[50]⟩ : ByteArray),(⟨#[116,104,114,101,101]⟩ : ByteArray)] : List ByteArray)) (f := encS) e (.d4 .nil) e e e e e) e e ?_))))))
     obtain ⟨y177,hy177,h⟩ := bindO h
     exact Ops.z 50184 (Ev.call [0,50168] [] 0 (sem_s_l01Pick_i1 _ _ _ _ hy177) e e (.cons (.ptr e) (.cons (.sl e) .nil)) e (.inl e) e e) e e (.p e (.y 50216 (.sto e e e e e e) e e (.nil (⟨_,_,(gh_pk [2,3] [0,1000,5160] hB e e e e),_,h,e,e⟩))))
    ·exact Run.skip (⟨_,_,(gh_pk [2,3] [0,1000,5160] hB e e e e),_,h,e,e⟩)
  ·refine Run.so hm (.p e (.y 54264 (.sto e e e e e e) e e (.nil (.ret ?_))))
   obtain rfl := someO h
   exact Ends.mkG (.inl e) e (gh_pk [0] [0] hB e e e e) e e
def s_CommandOk (N : Nat) (x1 : Command) : Option (Bool) :=
 (s_l01In N x1.Op 1 5).bind fun y167 =>
 (if (!y167) = true then
 some false
 else
 (s_l01In N x1.Session 0 100000).bind fun y169 =>
 (if (!y169) = true then
 some false
 else
 (s_l01In N x1.Seq 0 100000).bind fun y171 =>
 (if (!y171) = true then
 some false
 else
 (if (decide ((x1.Value.size : Int) > 12)) = true then
 some false
 else
 (if (decide ((x1.Old.size : Int) > 12)) = true then
 some false
 else
 (if (x1.Op == 1) = true then
 some (((x1.Op == 1) && ((x1.Session == 0) && ((x1.Seq == 0) && (decide (x1.Key = (⟨#[]⟩ : ByteArray)) && (decide (x1.Value = (⟨#[]⟩ : ByteArray)) && (decide (x1.Old = (⟨#[]⟩ : ByteArray)) && true)))))) ^^ false)
 else
 (s_l01In N (x1.Key.size : Int) 1 9).bind fun y181 =>
 (if (!y181) = true then
 some false
 else
 (if (x1.Op == 2) = true then
 (if (decide (x1.Value = (⟨#[]⟩ : ByteArray))) = true then
 some (decide (x1.Old = (⟨#[]⟩ : ByteArray)))
 else
 some false)
 else
 (if (x1.Op == 4) = true then
 (if (decide (x1.Value = (⟨#[]⟩ : ByteArray))) = true then
 some (decide (x1.Old = (⟨#[]⟩ : ByteArray)))
 else
 some false)
 else
 (if (x1.Op == 3) = true then
 some (decide (x1.Old = (⟨#[]⟩ : ByteArray)))
 else
 some true))))))))))
theorem sem_s_CommandOk (N : Nat) (x1 : Command) (r : Bool) (h : s_CommandOk N x1 = some r) : Says Tryz.prog 111 [.agg [VI x1.Op,VI x1.Session,VI x1.Seq,VS x1.Key,VS x1.Value,VS x1.Old]] 0 [] (VB r) [] := by
 unfold s_CommandOk at h
 refine Says.of_run s111 Tryz.call111 e fun B hB => ?_
 have hm : B.m ≤ 1000 := by omega
 refine Run.so hm (.z 1000 (.bx e e) e e (.p e (.nil (.seq (.so hm (.p2 e e ?_))))))
 obtain ⟨y167,hy167,h⟩ := bindO h
 refine Ops.z 5128 (Ev.call [] [] 0 (sem_s_l01In _ _ _ _ _ hy167) e e (.d2 (.d1 .nil)) e (.inl e) e e) e e (.p2 e e (.askO (x := .t 7) e h (fun g168 h => ?_) (fun g168 h => ?_)))
 ·refine Ops.gn e g168 (.gn e g168 (.gn e g168 (.gn e g168 (.z 5240 (.pkT e g168 e) e e (.p e (.gn e e (.gn e e (.gn e e (.gn e e (.z 5336 (.pkT e e e) e e (.p e (.gn e e (.gn e e (.gn e e (.gn e e (.z 5432 (.pkT e e e) e e (.p e (.gn e e (.gn e e (.gn e e (.gn e e (.z 5528 (.pkT e e e) e e (.nil (.condT e e (.so hm (.p e (.nil (.ret ?_))))))))))))))))))))))))))))
  obtain rfl := someO h
  exact Ends.mkG (.inl e) e (gh_pk [0] [] hB e e e e) e e
 ·refine Ops.gp e g168 e (.gp e g168 e ?_)
  obtain ⟨y169,hy169,h⟩ := bindO h
  refine Ops.gs (s := 5208) e g168 (Ev.call [] [] 0 (sem_s_l01In _ _ _ _ _ hy169) e e (.d2 (.d1 .nil)) e (.inl e) e e) e e (.gp e g168 e (.z 5240 (.pkF e g168 e) e e (.p e (.askO (x := .t 13) e h (fun g170 h => ?_) (fun g170 h => ?_)))))
  ·refine Ops.gn e g170 (.gn e g170 (.gn e g170 (.gn e g170 (.z 5336 (.pkT e g170 e) e e (.p e (.gn e e (.gn e e (.gn e e (.gn e e (.z 5432 (.pkT e e e) e e (.p e (.gn e e (.gn e e (.gn e e (.gn e e (.z 5528 (.pkT e e e) e e (.nil (.condT e e (.so hm (.p e (.nil (.ret ?_))))))))))))))))))))))
   obtain rfl := someO h
   exact Ends.mkG (.inl e) e (gh_pk [0] [] hB e e e e) e e
  ·refine Ops.gp e g170 e (.gp e g170 e ?_)
   obtain ⟨y171,hy171,h⟩ := bindO h
   refine Ops.gs (s := 5304) e g170 (Ev.call [] [] 0 (sem_s_l01In _ _ _ _ _ hy171) e e (.d2 (.d1 .nil)) e (.inl e) e e) e e (.gp e g170 e (.z 5336 (.pkF e g170 e) e e (.p e (.askO (x := .t 19) e h (fun g172 h => ?_) (fun g172 h => ?_)))))
   ·refine Ops.gn e g172 (.gn e g172 (.gn e g172 (.gn e g172 (.z 5432 (.pkT e g172 e) e e (.p e (.gn e e (.gn e e (.gn e e (.gn e e (.z 5528 (.pkT e e e) e e (.nil (.condT e e (.so hm (.p e (.nil (.ret ?_))))))))))))))))
    obtain rfl := someO h
    exact Ends.mkG (.inl e) e (gh_pk [0] [] hB e e e e) e e
   ·refine Ops.gp e g172 e (.gp e g172 e (.gp e g172 e (.gp e g172 e (.z 5432 (.pkF e g172 e) e e (.p e (.askO (x := .t 25) e h (fun g173 h => ?_) (fun g173 h => ?_)))))))
    ·refine Ops.gn e g173 (.gn e g173 (.gn e g173 (.gn e g173 (.z 5528 (.pkT e g173 e) e e (.nil (.condT e e (.so hm (.p e (.nil (.ret ?_))))))))))
     obtain rfl := someO h
     exact Ends.mkG (.inl e) e (gh_pk [0] [] hB e e e e) e e
    ·refine Ops.gp e g173 e (.gp e g173 e (.gp e g173 e (.gp e g173 e (.z 5528 (.pkF e g173 e) e e (.nil (.condO e h (fun g174 h => ?_) (fun g174 h => ?_)))))))
     ·refine Run.so hm (.p e (.nil (.ret ?_)))
      obtain rfl := someO h
      exact Ends.mkG (.inl e) e (gh_pk [0] [] hB e e e e) e e
     ·refine Run.skip (.seq (.so hm (.p3 e e e (.nil (.condO e h (fun g176 h => ?_) (fun g176 h => ?_))))))
      ·refine Run.so hm (.p e (.z 17400 (.bd e e) e e (.p2 e e (.nil (.ret ?_)))))
       obtain rfl := someO h
       exact Ends.mkG (.inl e) e (gh_pk [0] [] hB e e e e) e e
      ·refine Run.skip (.seq (.so hm (.p3 e e e ?_)))
       obtain ⟨y181,hy181,h⟩ := bindO h
       refine Ops.z 21528 (Ev.call [] [] 0 (sem_s_l01In _ _ _ _ _ hy181) e e (.d2 (.d1 .nil)) e (.inl e) e e) e e (.p e (.nil (.condO e h (fun g182 h => ?_) (fun g182 h => ?_))))
       ·refine Run.so hm (.p e (.nil (.ret ?_)))
        obtain rfl := someO h
        exact Ends.mkG (.inl e) e (gh_pk [0] [] hB e e e e) e e
       ·refine Run.skip (.seq (.so hm (.p2 e e (.nil (.block (.seq (.so hm (.p2 e e (.nil (.condO e h (fun g183 h => ?_) (fun g183 h => ?_)))))))))))
        ·refine Run.skip (.condT e g183 (.so hm (.p3 e e e (.p e (.askO (x := .t 50) e h (fun g185 h => ?_) (fun g185 h => ?_))))))
         ·refine Ops.gp e g185 e (.gp e g185 e (.gp e g185 e (.z 42072 (.pkT e g185 e) e e (.p e (.nil (.ret ?_))))))
          obtain rfl := someO h
          exact Ends.mkG (.inl e) e (gh_pk [0] [] hB e e e e) e e
         ·refine Ops.gn e g185 (.gn e g185 (.gn e g185 (.z 42072 (.pkF e g185 e) e e (.p e (.nil (.ret ?_))))))
          obtain rfl := someO h
          exact Ends.mkG (.inl e) e (gh_pk [0] [] hB e e e e) e e
        ·refine Run.ops hm (.p2 e e (.nil (.condO e h (fun g186 h => ?_) (fun g186 h => ?_))))
         ·refine Run.so hm (.p3 e e e (.p e (.askO (x := .t 50) e h (fun g188 h => ?_) (fun g188 h => ?_))))
          ·refine Ops.gp e g188 e (.gp e g188 e (.gp e g188 e (.z 42072 (.pkT e g188 e) e e (.p e (.nil (.ret ?_))))))
           obtain rfl := someO h
           exact Ends.mkG (.inl e) e (gh_pk [0] [] hB e e e e) e e
          ·refine Ops.gn e g188 (.gn e g188 (.gn e g188 (.z 42072 (.pkF e g188 e) e e (.p e (.nil (.ret ?_))))))
           obtain rfl := someO h
           exact Ends.mkG (.inl e) e (gh_pk [0] [] hB e e e e) e e
         ·refine Run.so hm (.p2 e e (.nil (.condO e h (fun g189 h => ?_) (fun g189 h => ?_))))
          ·refine Run.so hm (.p3 e e e (.p e (.nil (.ret ?_))))
           obtain rfl := someO h
           exact Ends.mkG (.inl e) e (gh_pk [0] [] hB e e e e) e e
          ·refine Run.skip (.so hm (.p e (.nil (.ret ?_))))
           obtain rfl := someO h
           exact Ends.mkG (.inl e) e (gh_pk [0] [] hB e e e e) e e
def s_l01Var_l1 (N : Nat) : Nat → Int → (List Int) → Option (Int × (List Int))
 | 0,_,_ => none
 | m + 1,x188,x189 =>
 (if (decide (x188 > 127)) = true then
 (intD .rem .i64 x188 128).bind fun x212 =>
 (cat? x189 ([IntKind.wrap .u8 (w64 (x212 + 128))] : List Int)).bind fun x213 =>
 (intD .quo .i64 x188 128).bind fun x215 =>
 s_l01Var_l1 N m x215 x213
 else
 some (x188,x189))
def s_l01Var (N : Nat) (x1 : Int) : Option (ByteArray) :=
 joinP (fun (v187 : Int × (List Int)) =>
 (cat? v187.2 ([IntKind.wrap .u8 (v187.1)] : List Int)).bind fun x217 =>
 some (strOf x217)) fun j187 =>
 (s_l01Var_l1 N N x1 ([] : List Int)).bind (fun v202 => j187 (v202.1,v202.2))
theorem sem_s_l01Var (N : Nat) (x1 : Int) (r : ByteArray) (h : s_l01Var N x1 = some r) : Says Tryz.prog 112 [VI x1] 0 [] (VS r) [] := by
 unfold s_l01Var at h
 refine Says.of_norm e Tryz.call112 e fun B hB => ?_
 have hm : B.m ≤ 1000 := by omega
 refine Run.so hm (.p e (.nil (.so hm (.z 5096 (Ev.bsW (ys := ([] : List Int)) (f := encU) e .nil e e e e e) e e (.p e (.nil (.seqO h (fun v187 => [(0,VI v187.1),(3,.sl 0 5 0 v187.2.length)]) (fun (v187 : Int × (List Int)) => [(0,.vec 5 (v187.2.map encU))]) (fun h => ?_) (fun v187 h => ?_))))))))
 ·refine Run.block ?_
  obtain ⟨res202,h,hk202⟩ := bindO h
  refine Run.loop (n := N) (fun m202 fr σ => ∃ (x188 : Int),∃ (x189 : (List Int)),s_l01Var_l1 N m202 x188 x189 = some res202 ∧ fr = [(0,VI x188),(3,.sl 0 5 0 x189.length)] ∧ σ = [(0,.vec 5 (x189.map encU))]) (gh_pk [0,3] [5096] hB e e e e) ⟨_,_,h,e,e⟩ ?_
  rintro m202 fr σ ⟨x188,x189,h,rfl,rfl⟩
  obtain _ | m202 := m202
  ·rw [s_l01Var_l1] at h; cases h
  rw [s_l01Var_l1] at h
  refine Run.seq (.so hm (.p2 e e (.nil (.condO e h (fun g205 h => ?_) (fun g205 h => ?_)))))
  ·refine Run.skip (.block (.so hm (.p2 e e ?_)))
   obtain ⟨x212,hx212,h⟩ := bindO h
   refine Ops.z 13320 (.bin e e hx212) e e (.p2 e e (.z 13368 (Ev.bsW (ys := ([IntKind.wrap .u8 (w64 (x212 + 128))] : List Int)) (f := encU) e (.d1 .nil) e e e e e) e e ?_))
   obtain ⟨x213,hx213,h⟩ := bindO h
   refine Ops.z 13384 (Ev.apW (f := encU) (ontoW e e e) (addsW e e e (fun _ => e)) e bt5 e hx213) e e (.p e (.nil (.ops hm (.p e ?_))))
   obtain ⟨x215,hx215,h⟩ := bindO h
   exact Ops.z 17400 (.bin e e hx215) e e (.p e (.nil (⟨m202,Nat.lt_succ_self m202,_,_,(gh_pk [0,3] [13384] hB e e e e),_,_,h,e,e⟩)))
  ·refine Run.exit ?_
   obtain rfl := someO h
   have h := hk202
   exact ⟨_,_,(gh_pk [0,3] [0] hB e e e e),_,h,e,e⟩
 ·refine Run.so hm (.p3 e e e (.z 21528 (Ev.bsW (ys := ([IntKind.wrap .u8 (v187.1)] : List Int)) (f := encU) e (.d1 .nil) e e e e e) e e ?_))
  obtain ⟨x217,hx217,h⟩ := bindO h
  refine Ops.z 21544 (Ev.apW (f := encU) (ontoW e e e) (addsW e e e (fun _ => e)) e bt5 e hx217) e e (.z 21560 (.sbC (addsW (f := encU) e e e (fun _ => e))) e e (.p e (.nil (.ret ?_))))
  obtain rfl := someO h
  exact Ends.mkG (.inl e) e (gh_pk [0] [] hB e e e e) e e
def s_l05Short (N : Nat) (x1 : ByteArray) : Option (ByteArray) :=
 (s_l01Var N (x1.size : Int)).bind fun y106 =>
 (scat? y106 x1).bind fun x107 =>
 some x107
theorem sem_s_l05Short (N : Nat) (x1 : ByteArray) (r : ByteArray) (h : s_l05Short N x1 = some r) : Says Tryz.prog 113 [VS x1] 0 [] (VS r) [] := by
 unfold s_l05Short at h
 refine Says.of_norm e Tryz.call113 e fun B hB => ?_
 have hm : B.m ≤ 1000 := by omega
 refine Run.so hm (.p e (.nil (.so hm (.p2 e e ?_))))
 obtain ⟨y106,hy106,h⟩ := bindO h
 refine Ops.z 5128 (Ev.call [] [] 0 (sem_s_l01Var _ _ _ hy106) e e (.d1 .nil) e (.inl e) e e) e e (.p e ?_)
 obtain ⟨x107,hx107,h⟩ := bindO h
 refine Ops.z 5160 (Ev.addS e e hx107) e e (.p e (.nil (.ret ?_)))
 obtain rfl := someO h
 exact Ends.mkG (.inl e) e (gh_pk [0] [] hB e e e e) e e
def s_CommandText (N : Nat) (x1 : Command) : Option (ByteArray × Bool) :=
 (s_CommandOk N x1).bind fun y130 =>
 (if (!y130) = true then
 some ((⟨#[]⟩ : ByteArray),false)
 else
 (s_l01Var N x1.Session).bind fun y142 =>
 (scat? (strOf ([IntKind.wrap .u8 (x1.Op)] : List Int)) y142).bind fun x143 =>
 (s_l01Var N x1.Seq).bind fun y144 =>
 (scat? x143 y144).bind fun x145 =>
 (s_l05Short N x1.Key).bind fun y146 =>
 (scat? x145 y146).bind fun x147 =>
 (s_l05Short N x1.Value).bind fun y148 =>
 (scat? x147 y148).bind fun x149 =>
 (s_l05Short N x1.Old).bind fun y150 =>
 (scat? x149 y150).bind fun x151 =>
 some (x151,true))
theorem sem_s_CommandText (N : Nat) (x1 : Command) (r : ByteArray × Bool) (h : s_CommandText N x1 = some r) : Says Tryz.prog 94 [.agg [VI x1.Op,VI x1.Session,VI x1.Seq,VS x1.Key,VS x1.Value,VS x1.Old]] 0 [] (.tup [VS r.1,VB r.2]) [] := by
 unfold s_CommandText at h
 refine Says.of_norm e Tryz.call94 e fun B hB => ?_
 have hm : B.m ≤ 1000 := by omega
 refine Run.so hm (.z 1000 (.bx e e) e e (.p2 e e (.nil (.seq (.so hm (.p e ?_))))))
 obtain ⟨y130,hy130,h⟩ := bindO h
 refine Ops.z 5112 (Ev.call [] [] 0 (sem_s_CommandOk _ _ _ hy130) e e (.cons (.agg (.d4 (.d2 .nil))) .nil) e (.inl e) e e) e e (.p e (.nil (.condO e h (fun g131 h => ?_) (fun g131 h => ?_))))
 ·refine Run.so hm (.p2 e e (.nil (.ret ?_)))
  obtain rfl := someO h
  exact Ends.mkG (.inl e) e (gh_pk [0,1] [] hB e e e e) e e
 ·refine Run.skip (.seq (.draw hm hmix (.p e (.p e (.p e (.z 13336 (Ev.bsW (ys := ([IntKind.wrap .u8 (x1.Op)] : List Int)) (f := encU) e (.d1 .nil) e e e e e) e e (.z 13352 (.sbC (addsW (f := encU) e e e (fun _ => e))) e e (.p e (.p e ?_)))))))))
  obtain ⟨y142,hy142,h⟩ := bindO h
  refine OpsD.z 13400 (Ev.call [] [] 0 (sem_s_l01Var _ _ _ hy142) e e (.d1 .nil) e (.inl e) e e) e e ?_
  obtain ⟨x143,hx143,h⟩ := bindO h
  refine OpsD.z 13416 (Ev.addS e e hx143) e e (.p e (.p e ?_))
  obtain ⟨y144,hy144,h⟩ := bindO h
  refine OpsD.z 13464 (Ev.call [] [] 0 (sem_s_l01Var _ _ _ hy144) e e (.d1 .nil) e (.inl e) e e) e e ?_
  obtain ⟨x145,hx145,h⟩ := bindO h
  refine OpsD.z 13480 (Ev.addS e e hx145) e e (.p e (.p e ?_))
  obtain ⟨y146,hy146,h⟩ := bindO h
  refine OpsD.z 13528 (Ev.call [] [] 0 (sem_s_l05Short _ _ _ hy146) e e (.d1 .nil) e (.inl e) e e) e e ?_
  obtain ⟨x147,hx147,h⟩ := bindO h
  refine OpsD.z 13544 (Ev.addS e e hx147) e e (.p e (.p e ?_))
  obtain ⟨y148,hy148,h⟩ := bindO h
  refine OpsD.z 13592 (Ev.call [] [] 0 (sem_s_l05Short _ _ _ hy148) e e (.d1 .nil) e (.inl e) e e) e e ?_
  obtain ⟨x149,hx149,h⟩ := bindO h
  refine OpsD.z 13608 (Ev.addS e e hx149) e e (.p e (.p e ?_))
  obtain ⟨y150,hy150,h⟩ := bindO h
  refine OpsD.z 13656 (Ev.call [] [] 0 (sem_s_l05Short _ _ _ hy150) e e (.d1 .nil) e (.inl e) e e) e e ?_
  obtain ⟨x151,hx151,h⟩ := bindO h
  refine OpsD.z 13672 (Ev.addS e e hx151) e e (.p e (.p e (.nil ⟨by kernel_rfl,?_⟩)))
  refine Run.ret ?_
  obtain rfl := someO h
  exact Ends.mkG (.inl e) e (gh_pk [0,1] [] hB e e e e) e e
def s_l11Right (N : Nat) (x1 : TU) (x2 : Int) : Option (Entry × TU) :=
 (s_l01PickInt_i1 N x1 ([1,2,3,3,3] : List Int)).bind fun y128 =>
 joinP (fun (v139 : (List Int) × Int × Int × ByteArray) =>
 some ((Entry.mk x2 y128.1 v139.2.2.2),(TU.mk v139.1 v139.2.1 v139.2.2.1))) fun j139 =>
 (if (y128.1 == 2) = true then
 (s_l07Conf N y128.2).bind fun y143 =>
 (s_ConfText N y143.1).bind fun y144 =>
 j139 (y143.2.b,y143.2.i,y143.2.h,y144.1)
 else
 (if (y128.1 == 3) = true then
 (s_l15Right N y128.2).bind fun y148 =>
 (s_CommandText N y148.1).bind fun y149 =>
 j139 (y148.2.b,y148.2.i,y148.2.h,y149.1)
 else
 j139 (y128.2.b,y128.2.i,y128.2.h,(⟨#[]⟩ : ByteArray))))
theorem sem_s_l11Right (N : Nat) (x1 : TU) (x2 : Int) (r : Entry × TU) (h : s_l11Right N x1 x2 = some r) : Says Tryz.prog 55 [.ptr 0 0,VI x2] 1 [(0,.box [RO 5 (x1.b.map encU),VI x1.i,VI x1.h])] (.agg [VI r.1.Term,VI r.1.Kind,VS r.1.Data]) [(0,.box [RO 5 (r.2.b.map encU),VI r.2.i,VI r.2.h])] := by
 unfold s_l11Right at h
 refine Says.of_norm e Tryz.call55 e fun B hB => ?_
 have hm : B.m ≤ 1000 := by omega
 refine Run.so hm (.z 1000 (.al e e) e e (.nil (.so hm (.p2 e e (.z 5128 (Ev.bsW (ys := ([1,2,3,3,3] : List Int)) (f := encI) e (.d4 (.d1 .nil)) e e e e e) e e ?_)))))
 obtain ⟨y128,hy128,h⟩ := bindO h
 refine Ops.z 5144 (Ev.call [0,5128] [] 0 (sem_s_l01PickInt_i1 _ _ _ _ hy128) e e (.cons (.ptr e) (.cons (.sl e) .nil)) e (.inl e) e e) e e (.z 5160 (.bd e e) e e (.z 5176 (.al e e) e e (.y 5192 (.sto e e e e e e) e e (.nil (.seqO h (fun v139 => [(4,.ptr 1 0),(5,.ptr 2 0)]) (fun (v139 : (List Int) × Int × Int × ByteArray) => [(0,.box [RO 5 (v139.1.map encU),VI v139.2.1,VI v139.2.2.1]),(1,.box [VI 0,VI 0,VS (⟨#[]⟩ : ByteArray)]),(2,.box [VI x2,VI y128.1,VS v139.2.2.2])]) (fun h => ?_) (fun v139 h => ?_))))))
 ·refine Run.so hm (.p2 e e (.nil (.block (.so hm (.p2 e e (.nil (.condO e h (fun g140 h => ?_) (fun g140 h => ?_))))))))
  ·refine Run.ops hm (.p e ?_)
   obtain ⟨y143,hy143,h⟩ := bindO h
   refine Ops.z 17400 (Ev.call [0] [] 1 (sem_s_l07Conf _ _ _ hy143) e e (.cons (.ptr e) .nil) e (.inl e) e e) e e ?_
   obtain ⟨y144,hy144,h⟩ := bindO h
   refine Ops.z 17416 (Ev.call [] [17400] 0 (sem_s_ConfText _ _ _ hy144) e e (.cons (.borrow e (by decide) (lendW (fun _ => e) _ e)) .nil) e (.inr ⟨e,ownL_root trivial⟩) e e) e e ?_
   exact Ops.p e (.p3 e e e (.y 17496 (.sto e e e e e e) e e (.nil (⟨_,_,(gh_pk [4,5] [0,1000,5176] hB e e e e),_,h,e,e⟩))))
  ·refine Run.so hm (.p2 e e (.nil (.condO e h (fun g145 h => ?_) (fun g145 h => ?_))))
   ·refine Run.ops hm (.p e ?_)
    obtain ⟨y148,hy148,h⟩ := bindO h
    refine Ops.z 25592 (Ev.call [0] [] 0 (sem_s_l15Right _ _ _ hy148) e e (.cons (.ptr e) .nil) e (.inl e) e e) e e ?_
    obtain ⟨y149,hy149,h⟩ := bindO h
    exact Ops.z 25608 (Ev.call [] [] 0 (sem_s_CommandText _ _ _ hy149) e e (.cons (.agg (.d4 (.d2 .nil))) .nil) e (.inl e) e e) e e (.p3 e e e (.p e (.y 25688 (.sto e e e e e e) e e (.nil (⟨_,_,(gh_pk [4,5] [0,1000,5176] hB e e e e),_,h,e,e⟩)))))
   ·exact Run.skip (⟨_,_,(gh_pk [4,5] [0,1000,5176] hB e e e e),_,h,e,e⟩)
 ·refine Run.so hm (.p e (.y 29688 (.sto e e e e e e) e e (.nil (.ret ?_))))
  obtain rfl := someO h
  exact Ends.mkG (.inl e) e (gh_pk [0] [0] hB e e e e) e e
def s_l16Near_l1 (N : Nat) (x1 : (List Int)) (x2 : (List Int)) : Nat → Int → Int → Option (Int)
 | 0,_,_ => none
 | m + 1,x200,x201 =>
 (if (decide (x201 ≤ 4)) = true then
 joinP (fun (v224 : Int) =>
 s_l16Near_l1 N x1 x2 m v224 (w64 (x201 + 1))) fun j224 =>
 (s_l09In N x1 x201).bind fun y227 =>
 (s_l09In N x2 x201).bind fun y228 =>
 (if ((y227 == y228) ^^ true) = true then
 j224 (w64 (x200 + 1))
 else
 j224 x200)
 else
 some x200)
def s_l16Near (N : Nat) (x1 : (List Int)) (x2 : (List Int)) : Option (Bool) :=
 joinP (fun (v197 : Int) =>
 some (v197 == 1)) fun j197 =>
 (s_l16Near_l1 N x1 x2 N 0 1).bind (fun v215 => j197 v215)
theorem sem_s_l16Near (N : Nat) (x1 : (List Int)) (x2 : (List Int)) (r : Bool) (h : s_l16Near N x1 x2 = some r) : Says Tryz.prog 99 [RO 3 (x1.map encI),RO 3 (x2.map encI)] 0 [] (VB r) [] := by
 unfold s_l16Near at h
 refine Says.of_norm e Tryz.call99 e fun B hB => ?_
 have hm : B.m ≤ 1000 := by omega
 refine Run.so hm (.p e (.nil (.so hm (.p e (.nil (.seqO h (fun v197 => [(5,VI v197)]) (fun (v197 : Int) => []) (fun h => ?_) (fun v197 h => ?_)))))))
 ·refine Run.so hm (.p e (.nil (.block ?_)))
  obtain ⟨res215,h,hk215⟩ := bindO h
  refine Run.loop (n := N) (fun m215 fr σ => ∃ (x200 : Int),∃ (x201 : Int),s_l16Near_l1 N x1 x2 m215 x200 x201 = some res215 ∧ fr = [(0,RO 3 (x1.map encI)),(1,RO 3 (x2.map encI)),(5,VI x200),(6,VI x201)] ∧ σ = []) (gh_pk [0,1,5,6] [] hB e e e e) ⟨_,_,h,e,e⟩ ?_
  rintro m215 fr σ ⟨x200,x201,h,rfl,rfl⟩
  obtain _ | m215 := m215
  ·rw [s_l16Near_l1] at h; cases h
  rw [s_l16Near_l1] at h
  refine Run.seq (.so hm (.p2 e e (.nil (.condO e h (fun g218 h => ?_) (fun g218 h => ?_)))))
  ·refine Run.skip (.seqO h (fun v224 => [(0,RO 3 (x1.map encI)),(1,RO 3 (x2.map encI)),(5,VI v224),(6,VI x201)]) (fun (v224 : Int) => []) (fun h => ?_) (fun v224 h => ?_))
   ·refine Run.block (.so hm (.p2 e e ?_))
    obtain ⟨y227,hy227,h⟩ := bindO h
    refine Ops.z 21512 (Ev.call [] [] 0 (sem_s_l09In _ _ _ _ hy227) e e (.d2 .nil) e (.inl e) e e) e e (.p2 e e ?_)
    obtain ⟨y228,hy228,h⟩ := bindO h
    refine Ops.z 21560 (Ev.call [] [] 0 (sem_s_l09In _ _ _ _ hy228) e e (.d2 .nil) e (.inl e) e e) e e (.p e (.nil (.condO e h (fun g229 h => ?_) (fun g229 h => ?_))))
    ·exact Run.ops hm (.p3 e e e (.nil (⟨_,_,(gh_pk [0,1,5,6] [] hB e e e e),_,h,e,e⟩)))
    ·exact Run.skip (⟨_,_,(gh_pk [0,1,5,6] [] hB e e e e),_,h,e,e⟩)
   ·exact Run.ops hm (.p3 e e e (.nil (⟨m215,Nat.lt_succ_self m215,_,_,(gh_pk [0,1,5,6] [] hB e e e e),_,_,h,e,e⟩)))
  ·refine Run.exit ?_
   obtain rfl := someO h
   have h := hk215
   exact ⟨_,_,(gh_pk [5] [] hB e e e e),_,h,e,e⟩
 ·refine Run.so hm (.p3 e e e (.nil (.ret ?_)))
  obtain rfl := someO h
  exact Ends.mkG (.inl e) e (gh_pk [0] [] hB e e e e) e e
def s_Propose_l2 (N : Nat) (x1 : Node) (y1848 : (List Int)) (x2638 : Int) : Nat → Int → Int → Int → Int → Int → Option (Int × Int × Int × Int)
 | 0,_,_,_,_,_ => none
 | m + 1,x3336,x3373,x3374,x3375,x3376 =>
 (if (decide (x3336 < (x1.Peers.length : Int))) = true then
 joinP (fun (v3414 : Int × Int × Int × Int) =>
 s_Propose_l2 N x1 y1848 x2638 m (w64 (x3336 + 1)) v3414.1 v3414.2.1 v3414.2.2.1 v3414.2.2.2) fun j3414 =>
 (at? x1.Peers x3336).bind fun x3417 =>
 (at? y1848 x2638).bind fun x3418 =>
 (if (x3417.Id == x3418) = true then
 (at? x1.Peers x3336).bind fun x3421 =>
 j3414 (x3421.Id,x3421.Next,x3421.Match,x3421.Sent)
 else
 j3414 (x3373,x3374,x3375,x3376))
 else
 some (x3373,x3374,x3375,x3376))
def s_Propose_l2_r (N : Nat) (x1 : Node) (y1848 : (List Int)) (x2638 : Int) : (List Peer) → Int → Int → Int → Int → Int → Option (Int × Int × Int × Int)
 | [],x3336,x3373,x3374,x3375,x3376 =>
 some (x3373,x3374,x3375,x3376)
 | hd :: tl,x3336,x3373,x3374,x3375,x3376 =>
 joinP (fun (v3414 : Int × Int × Int × Int) =>
 s_Propose_l2_r N x1 y1848 x2638 tl (w64 (x3336 + 1)) v3414.1 v3414.2.1 v3414.2.2.1 v3414.2.2.2) fun j3414 =>
 (some hd).bind fun x3417 =>
 (at? y1848 x2638).bind fun x3418 =>
 (if (x3417.Id == x3418) = true then
 (some hd).bind fun x3421 =>
 j3414 (x3421.Id,x3421.Next,x3421.Match,x3421.Sent)
 else
 j3414 (x3373,x3374,x3375,x3376))
theorem s_Propose_l2_rng (N : Nat) (x1 : Node) (y1848 : (List Int)) (x2638 : Int) (hx : x1.Peers.length ≤ 1099511627776) : ∀ (d k m : Nat) (x3373 : Int) (x3374 : Int) (x3375 : Int) (x3376 : Int),x1.Peers.length = k + d → d < m → s_Propose_l2 N x1 y1848 x2638 m (k : Int) x3373 x3374 x3375 x3376 = s_Propose_l2_r N x1 y1848 x2638 (x1.Peers.drop k) (k : Int) x3373 x3374 x3375 x3376 := by
 intro d
 induction d with
 | zero =>
  intro k m x3373 x3374 x3375 x3376 hd hm
  obtain ⟨m,rfl⟩ : ∃ q,m = q + 1 := ⟨m - 1,by omega⟩
  rw [s_Propose_l2,if_neg (by simp; omega),List.drop_eq_nil_of_le (by omega),s_Propose_l2_r]
 | succ d ih =>
  intro k m x3373 x3374 x3375 x3376 hd hm
  obtain ⟨m,rfl⟩ : ∃ q,m = q + 1 := ⟨m - 1,by omega⟩
  have hk : k < x1.Peers.length := by omega
  rw [s_Propose_l2,if_pos (by simp; omega),List.drop_eq_getElem_cons hk,s_Propose_l2_r]
  have h1 := at_lt hk
  have h2 := w64_succ (k := k) (by omega)
  have h3 := ih (k + 1) m
  simp only [h1,h2,h3 _ _ _ _ (by omega) (by omega)]
theorem s_Propose_l2_eq {N : Nat} (x1 : Node) (y1848 : (List Int)) (x2638 : Int) (hx : x1.Peers.length ≤ 1099511627776) (hN : x1.Peers.length < N) (x3373 : Int) (x3374 : Int) (x3375 : Int) (x3376 : Int) : s_Propose_l2 N x1 y1848 x2638 N 0 x3373 x3374 x3375 x3376 = s_Propose_l2_r N x1 y1848 x2638 x1.Peers 0 x3373 x3374 x3375 x3376 := s_Propose_l2_rng N x1 y1848 x2638 hx x1.Peers.length 0 N x3373 x3374 x3375 x3376 (by omega) hN
def s_Propose_l1 (N : Nat) (x1 : Node) (y1836 : Int) (y1848 : (List Int)) : Nat → Int → (List Peer) → Option ((List Peer))
 | 0,_,_ => none
 | m + 1,x2638,x2674 =>
 (if (decide (x2638 < ((y1848.length : Nat) : Int))) = true then
 joinP (fun (v3240 : (List Peer)) =>
 s_Propose_l1 N x1 y1836 y1848 m (w64 (x2638 + 1)) v3240) fun j3240 =>
 (at? y1848 x2638).bind fun x3244 =>
 joinP (fun (v3333 : Int × Int × Int × Int) =>
 (cat? x2674 ([(Peer.mk v3333.1 v3333.2.1 v3333.2.2.1 v3333.2.2.2)] : List Peer)).bind fun x3423 =>
 j3240 x3423) fun j3333 =>
 (s_Propose_l2 N x1 y1848 x2638 N 0 x3244 (w64 (y1836 + 1)) 0 0).bind (fun v3403 => j3333 (v3403.1,v3403.2.1,v3403.2.2.1,v3403.2.2.2))
 else
 some x2674)
def s_Propose (N : Nat) (x1 : Node) (x2 : Int) (x3 : ByteArray) : Option (Node × (List Message) × Int × Bool) :=
 (s_NodeOk N x1).bind fun y1785 =>
 (if (!y1785) = true then
 some ((Node.mk 0 0 0 0 0 ([]) (Log.mk 0 0 ([])) 0 0 0 ([]) ([])),([] : List Message),0,false)
 else
 (if (x1.Role != 2) = true then
 some ((Node.mk 0 0 0 0 0 ([]) (Log.mk 0 0 ([])) 0 0 0 ([]) ([])),([] : List Message),0,false)
 else
 (s_EntryOk N (Entry.mk x1.Term x2 x3)).bind fun y1788 =>
 (if (!y1788) = true then
 some ((Node.mk 0 0 0 0 0 ([]) (Log.mk 0 0 ([])) 0 0 0 ([]) ([])),([] : List Message),0,false)
 else
 (s_l16Room N x1).bind fun y1790 =>
 (if (!y1790) = true then
 some ((Node.mk 0 0 0 0 0 ([]) (Log.mk 0 0 ([])) 0 0 0 ([]) ([])),([] : List Message),0,false)
 else
 joinP (fun (v1810 : Unit) =>
 (s_l16Copy N x1).bind fun y1832 =>
 (s_l12Last N x1.Log).bind fun y1836 =>
 (cat? y1832.Log.Entries ([(Entry.mk x1.Term x2 x3)] : List Entry)).bind fun x1840 =>
 (s_ConfOf N (Node.mk y1832.Id y1832.Term y1832.Vote y1832.Role y1832.Lead y1832.Conf (Log.mk y1832.Log.Start y1832.Log.StartTerm x1840) y1832.Commit y1832.Clock y1832.Limit y1832.Votes y1832.Peers)).bind fun y1847 =>
 (s_l16Others N y1847 x1.Id).bind fun y1848 =>
 joinP (fun (v2636 : (List Peer)) =>
 (s_l16Commit N (TR.mk (Node.mk y1832.Id y1832.Term y1832.Vote y1832.Role y1832.Lead y1832.Conf (Log.mk y1832.Log.Start y1832.Log.StartTerm x1840) y1832.Commit y1832.Clock y1832.Limit y1832.Votes v2636) ([] : (List Message)))).bind fun y3427 =>
 (s_l16SendAll_i1 N y3427).bind fun y3431 =>
 some (y3431.n,y3431.told,(w64 (y1836 + 1)),true)) fun j2636 =>
 (s_Propose_l1 N x1 y1836 y1848 N 0 ([] : List Peer)).bind (fun v3053 => j2636 v3053)) fun j1810 =>
 (if (x2 == 2) = true then
 (s_ReadConf N x3).bind fun y1815 =>
 (s_LogTerm N x1.Log x1.Commit).bind fun y1822 =>
 (if (y1822 != x1.Term) = true then
 some ((Node.mk 0 0 0 0 0 ([]) (Log.mk 0 0 ([])) 0 0 0 ([]) ([])),([] : List Message),0,false)
 else
 (s_l16ConfIndex N x1).bind fun y1824 =>
 (if (decide (y1824 > x1.Commit)) = true then
 some ((Node.mk 0 0 0 0 0 ([]) (Log.mk 0 0 ([])) 0 0 0 ([]) ([])),([] : List Message),0,false)
 else
 (s_ConfOf N x1).bind fun y1826 =>
 (s_l16Near N y1826 y1815.1).bind fun y1827 =>
 (if (!y1827) = true then
 some ((Node.mk 0 0 0 0 0 ([]) (Log.mk 0 0 ([])) 0 0 0 ([]) ([])),([] : List Message),0,false)
 else
 j1810 ())))
 else
 j1810 ())))))
theorem sem_s_Propose (N : Nat) (x1 : Node) (x2 : Int) (x3 : ByteArray) (r : Node × (List Message) × Int × Bool) (h : s_Propose N x1 x2 x3 = some r) : Says Tryz.prog 56 [.agg [VI x1.Id,VI x1.Term,VI x1.Vote,VI x1.Role,VI x1.Lead,RO 3 (x1.Conf.map encI),VI x1.Log.Start,VI x1.Log.StartTerm,RO 40 (x1.Log.Entries.map eE),VI x1.Commit,VI x1.Clock,VI x1.Limit,RO 3 (x1.Votes.map encI),RO 98 (x1.Peers.map eP)],VI x2,VS x3] 0 [] (.tup [.agg [VI r.1.Id,VI r.1.Term,VI r.1.Vote,VI r.1.Role,VI r.1.Lead,.sl 0 3 0 r.1.Conf.length,VI r.1.Log.Start,VI r.1.Log.StartTerm,.sl 1 40 0 r.1.Log.Entries.length,VI r.1.Commit,VI r.1.Clock,VI r.1.Limit,.sl 2 3 0 r.1.Votes.length,.sl 3 98 0 r.1.Peers.length],.sl 4 32 0 r.2.1.length,VI r.2.2.1,VB r.2.2.2]) [(0,.vec 3 (r.1.Conf.map encI)),(1,.vec 40 (r.1.Log.Entries.map eE)),(2,.vec 3 (r.1.Votes.map encI)),(3,.vec 98 (r.1.Peers.map eP)),(4,.vec 32 (r.2.1.map (eM false)))] := by
 unfold s_Propose at h
 refine Says.of_norm e Tryz.call56 e fun B hB => ?_
 have hm : B.m ≤ 1000 := by omega
 refine Run.so hm (.z 1000 (.bx e e) e e (.z 1016 (.al e e) e e (.p3 e e e (.nil (.so hm (.p3 e e e (.p e (.z 5160 (.bd e e) e e (.z 5176 (.al e e) e e (.y 5192 (.sto e e e e e e) e e (.nil (.seq (.so hm (.p e ?_))))))))))))))
 obtain ⟨y1785,hy1785,h⟩ := bindO h
 refine Ops.z 9208 (Ev.call [] [] 0 (sem_s_NodeOk _ _ _ hy1785) e e (.cons (.agg (.d4 (.d4 (.d4 (.d2 .nil))))) .nil) e (.inl e) e e) e e (.p2 e e (.askO (x := .t 28) e h (fun g1786 h => ?_) (fun g1786 h => ?_)))
 ·refine Ops.gn e g1786 (.gn e g1786 (.gn e g1786 (.z 9304 (.pkT e g1786 e) e e (.p e (.gn e e (.gn e e (.gn e e (.z 9384 (.pkT e e e) e e (.p e (.gn e e (.gn e e (.gn e e (.z 9464 (.pkT e e e) e e (.nil (.condT e e (.so hm (.z 13288 (.bd e e) e e (.z 13304 (Ev.bsW (ys := ([] : List Message)) (f := (eM false)) e .nil e e e e e) e e (.y 13320 (.sto e e e e e e) e e (.p3 e e e (.nil (.ret ?_))))))))))))))))))))))
  obtain rfl := someO h
  exact Ends.mkG (.inl e) e (Gh.trans (Gh.trans (gh_prn [0,1,2,3] [13304] hB e) (gh_nil [0] [] hB e e e)) (gh_pk [0,1,2,3] [10000000,10000001,10000002,10000003,13304] hB e e e e)) e e
 ·refine Ops.gp e g1786 e (.gp e g1786 e (.gp e g1786 e (.z 9304 (.pkF e g1786 e) e e (.p e (.askO (x := .t 33) e h (fun g1787 h => ?_) (fun g1787 h => ?_))))))
  ·refine Ops.gn e g1787 (.gn e g1787 (.gn e g1787 (.z 9384 (.pkT e g1787 e) e e (.p e (.gn e e (.gn e e (.gn e e (.z 9464 (.pkT e e e) e e (.nil (.condT e e (.so hm (.z 13288 (.bd e e) e e (.z 13304 (Ev.bsW (ys := ([] : List Message)) (f := (eM false)) e .nil e e e e e) e e (.y 13320 (.sto e e e e e e) e e (.p3 e e e (.nil (.ret ?_)))))))))))))))))
   obtain rfl := someO h
   exact Ends.mkG (.inl e) e (Gh.trans (Gh.trans (gh_prn [0,1,2,3] [13304] hB e) (gh_nil [0] [] hB e e e)) (gh_pk [0,1,2,3] [10000000,10000001,10000002,10000003,13304] hB e e e e)) e e
  ·refine Ops.gp e g1787 e ?_
   obtain ⟨y1788,hy1788,h⟩ := bindO h
   refine Ops.gs (s := 9352) e g1787 (Ev.call [] [] 0 (sem_s_EntryOk _ _ _ hy1788) e e (.cons (.agg (.d2 (.d1 .nil))) .nil) e (.inl e) e e) e e (.gp e g1787 e (.z 9384 (.pkF e g1787 e) e e (.p e (.askO (x := .t 38) e h (fun g1789 h => ?_) (fun g1789 h => ?_)))))
   ·refine Ops.gn e g1789 (.gn e g1789 (.gn e g1789 (.z 9464 (.pkT e g1789 e) e e (.nil (.condT e e (.so hm (.z 13288 (.bd e e) e e (.z 13304 (Ev.bsW (ys := ([] : List Message)) (f := (eM false)) e .nil e e e e e) e e (.y 13320 (.sto e e e e e e) e e (.p3 e e e (.nil (.ret ?_))))))))))))
    obtain rfl := someO h
    exact Ends.mkG (.inl e) e (Gh.trans (Gh.trans (gh_prn [0,1,2,3] [13304] hB e) (gh_nil [0] [] hB e e e)) (gh_pk [0,1,2,3] [10000000,10000001,10000002,10000003,13304] hB e e e e)) e e
   ·refine Ops.gp e g1789 e ?_
    obtain ⟨y1790,hy1790,h⟩ := bindO h
    refine Ops.gs (s := 9432) e g1789 (Ev.call [] [] 0 (sem_s_l16Room _ _ _ hy1790) e e (.cons (.agg (.d4 (.d4 (.d4 (.d2 .nil))))) .nil) e (.inl e) e e) e e (.gp e g1789 e (.z 9464 (.pkF e g1789 e) e e (.nil (.condO e h (fun g1791 h => ?_) (fun g1791 h => ?_)))))
    ·refine Run.so hm (.z 13288 (.bd e e) e e (.z 13304 (Ev.bsW (ys := ([] : List Message)) (f := (eM false)) e .nil e e e e e) e e (.y 13320 (.sto e e e e e e) e e (.p3 e e e (.nil (.ret ?_))))))
     obtain rfl := someO h
     exact Ends.mkG (.inl e) e (Gh.trans (Gh.trans (gh_prn [0,1,2,3] [13304] hB e) (gh_nil [0] [] hB e e e)) (gh_pk [0,1,2,3] [10000000,10000001,10000002,10000003,13304] hB e e e e)) e e
    ·refine Run.skip (.seqO h (fun v1810 => [(3,.ptr 0 0),(6,.ptr 1 0),(10,.ptr 2 0)]) (fun (v1810 : Unit) => [(0,.box [VI x1.Id,VI x1.Term,VI x1.Vote,VI x1.Role,VI x1.Lead,RO 3 (x1.Conf.map encI),VI x1.Log.Start,VI x1.Log.StartTerm,RO 40 (x1.Log.Entries.map eE),VI x1.Commit,VI x1.Clock,VI x1.Limit,RO 3 (x1.Votes.map encI),RO 98 (x1.Peers.map eP)]),(1,.box [VI 0,VI 0,VI 0,VI 0,VI 0,.sl 3 3 0 (([] : List Int).length),VI 0,VI 0,.sl 4 40 0 (([] : List Entry).length),VI 0,VI 0,VI 0,.sl 5 3 0 (([] : List Int).length),.sl 6 98 0 (([] : List Peer).length)]),(2,.box [VI x1.Term,VI x2,VS x3]),(3,.vec 3 (([] : List Int).map encI)),(4,.vec 40 (([] : List Entry).map eE)),(5,.vec 3 (([] : List Int).map encI)),(6,.vec 98 (([] : List Peer).map eP))]) (fun h => ?_) (fun v1810 h => ?_))
     ·refine Run.so hm (.p2 e e (.nil (.condO e h (fun g1811 h => ?_) (fun g1811 h => ?_))))
      ·refine Run.so hm (.p e ?_)
       obtain ⟨y1815,hy1815,h⟩ := bindO h
       refine Ops.z 21496 (Ev.call [] [] 1 (sem_s_ReadConf _ _ _ hy1815) e e (.d1 .nil) e (.inl e) e e) e e (.p3 e e e (.p2 e e (.nil (.seq (.draw hm hmix (.p e (.p e (.p e (.p e ?_)))))))))
       obtain ⟨y1822,hy1822,h⟩ := bindO h
       refine OpsD.z 25640 (Ev.call [] [] 0 (sem_s_LogTerm _ _ _ _ hy1822) e e (.cons (.agg (.d2 (.d1 .nil))) (.d1 .nil)) e (.inl e) e e) e e (.p e (.p e (.p e (.p e (.askO (x := .t 60) e h (fun g1823 h => ?_) (fun g1823 h => ?_))))))
       ·refine OpsD.gn e g1823 (.gn e g1823 (.gn e g1823 (.gn e g1823 (.gn e g1823 (.z 25800 (.pkT e g1823 e) e e (.p e (.gn e e (.gn e e (.gn e e (.gn e e (.gn e e (.z 25912 (.pkT e e e) e e (.nil ⟨by kernel_rfl,?_⟩)))))))))))))
        refine Run.condT e e (.so hm (.z 29672 (.bd e e) e e (.z 29688 (Ev.bsW (ys := ([] : List Message)) (f := (eM false)) e .nil e e e e e) e e (.y 29704 (.sto e e e e e e) e e (.p3 e e e (.nil (.ret ?_)))))))
        obtain rfl := someO h
        exact Ends.mkG (.inl e) e (Gh.trans (Gh.trans (gh_prn [0,1,2,3] [29688] hB e) (gh_nil [0] [] hB e e e)) (gh_pk [0,1,2,3] [10000000,10000001,10000002,10000003,29688] hB e e e e)) e e
       ·refine OpsD.gp e g1823 e ?_
        obtain ⟨y1824,hy1824,h⟩ := bindO h
        refine OpsD.gs (s := 25736) e g1823 (Ev.call [] [] 0 (sem_s_l16ConfIndex _ _ _ hy1824) e e (.cons (.agg (.d4 (.d4 (.d4 (.d2 .nil))))) .nil) e (.inl e) e e) e e (.gp e g1823 e (.gp e g1823 e (.gp e g1823 e (.z 25800 (.pkF e g1823 e) e e (.p e (.askO (x := .t 67) e h (fun g1825 h => ?_) (fun g1825 h => ?_)))))))
        ·refine OpsD.gn e g1825 (.gn e g1825 (.gn e g1825 (.gn e g1825 (.gn e g1825 (.z 25912 (.pkT e g1825 e) e e (.nil ⟨by kernel_rfl,?_⟩))))))
         refine Run.condT e e (.so hm (.z 29672 (.bd e e) e e (.z 29688 (Ev.bsW (ys := ([] : List Message)) (f := (eM false)) e .nil e e e e e) e e (.y 29704 (.sto e e e e e e) e e (.p3 e e e (.nil (.ret ?_)))))))
         obtain rfl := someO h
         exact Ends.mkG (.inl e) e (Gh.trans (Gh.trans (gh_prn [0,1,2,3] [29688] hB e) (gh_nil [0] [] hB e e e)) (gh_pk [0,1,2,3] [10000000,10000001,10000002,10000003,29688] hB e e e e)) e e
        ·refine OpsD.gp e g1825 e ?_
         obtain ⟨y1826,hy1826,h⟩ := bindO h
         refine OpsD.gs (s := 25848) e g1825 (Ev.call [] [] 1 (sem_s_ConfOf _ _ _ hy1826) e e (.cons (.agg (.d4 (.d4 (.d4 (.d2 .nil))))) .nil) e (.inl e) e e) e e (.gp e g1825 e ?_)
         obtain ⟨y1827,hy1827,h⟩ := bindO h
         refine OpsD.gs (s := 25880) e g1825 (Ev.call [] [25848,21496] 0 (sem_s_l16Near _ _ _ _ hy1827) e e (.cons (.borrow e (by decide) (lendW (fun _ => e) _ e)) (.cons (.borrow e (by decide) (lendW (fun _ => e) _ e)) .nil)) e (.inr ⟨e,ownL_root trivial⟩) e e) e e ?_
         refine OpsD.gp e g1825 e (.z 25912 (.pkF e g1825 e) e e (.nil ⟨by kernel_rfl,?_⟩))
         refine Run.condO e h (fun g1828 h => ?_) (fun g1828 h => ?_)
         ·refine Run.so hm (.z 29672 (.bd e e) e e (.z 29688 (Ev.bsW (ys := ([] : List Message)) (f := (eM false)) e .nil e e e e e) e e (.y 29704 (.sto e e e e e e) e e (.p3 e e e (.nil (.ret ?_))))))
          obtain rfl := someO h
          exact Ends.mkG (.inl e) e (Gh.trans (Gh.trans (gh_prn [0,1,2,3] [29688] hB e) (gh_nil [0] [] hB e e e)) (gh_pk [0,1,2,3] [10000000,10000001,10000002,10000003,29688] hB e e e e)) e e
         ·exact Run.skip (⟨_,_,(Gh.trans (Gh.trans (gh_prn [3,6,10] [1000,1016,5176] hB e) (gh_nil [] [1016] hB e e e)) (gh_pk [3,6,10] [1000,1016,5176,20000000,20000001,20000002,20000003] hB e e e e)),(),h,e,e⟩)
      ·exact Run.skip (⟨_,_,(Gh.trans (Gh.trans (gh_prn [3,6,10] [1000,1016,5176] hB e) (gh_nil [] [1016] hB e e e)) (gh_pk [3,6,10] [1000,1016,5176,20000000,20000001,20000002,20000003] hB e e e e)),(),h,e,e⟩)
     ·refine Run.so hm (.p e ?_)
      obtain ⟨y1832,hy1832,h⟩ := bindO h
      refine Ops.z 33784 (Ev.call [] [] 4 (sem_s_l16Copy _ _ _ hy1832) e e (.cons (.agg (.d4 (.d4 (.d4 (.d2 .nil))))) .nil) e (.inl e) e e) e e (.z 33800 (.bd e e) e e (.z 33816 (.bx e e) e e (.p e (.nil (.so hm (.p2 e e ?_))))))
      obtain ⟨y1836,hy1836,h⟩ := bindO h
      refine Ops.z 37896 (Ev.call [] [] 0 (sem_s_l12Last _ _ _ hy1836) e e (.cons (.agg (.d2 (.d1 .nil))) .nil) e (.inl e) e e) e e (.p2 e e (.nil (.seq (.draw hm hmix (.p e (.p e (.p e (.p e (.p e (.p e (.p e (.p e (.z 42088 (Ev.bsW (ys := ([(Entry.mk x1.Term x2 x3)] : List Entry)) (f := eE) e (.d2 (.d1 .nil)) e e e e e) e e ?_)))))))))))))
      obtain ⟨x1840,hx1840,h⟩ := bindO h
      refine OpsD.z 42104 (Ev.apW (f := eE) (ontoW e e e) (addsW e e e (fun _ => e)) e bt40 e hx1840) e e (.p e (.p e (.p e (.p e (.y 42184 (.sto e e e e e e) e e (.nil ⟨by kernel_rfl,?_⟩))))))
      refine Run.seq (.draw hm hmix (.p e (.p e (.p e (.p e ?_)))))
      obtain ⟨y1847,hy1847,h⟩ := bindO h
      refine OpsD.z 46120 (Ev.call [] [33784,42104,33786,33787] 1 (sem_s_ConfOf _ _ _ hy1847) e e (.cons (.agg (.d4 (.d1 (.cons (.borrow e (by decide) (lendW (fun _ => e) _ e)) (.d2 (.cons (.borrow e (by decide) (lendW (fun _ => e) _ e)) (.d2 (.d1 (.cons (.borrow e (by decide) (lendW (fun _ => e) _ e)) (.cons (.borrow e (by decide) (lendW (fun _ => e) _ e)) .nil)))))))))) .nil) e (.inr ⟨e,ownL_root ⟨own_rows (fun _ => e) _,trivial⟩⟩) e e) e e ?_
      refine OpsD.p e (.p e ?_)
      obtain ⟨y1848,hy1848,h⟩ := bindO h
      refine OpsD.z 46168 (Ev.call [] [46120] 1 (sem_s_l16Others _ _ _ _ hy1848) e e (.cons (.borrow e (by decide) (lendW (fun _ => e) _ e)) (.d1 .nil)) e (.inr ⟨e,ownL_root ⟨own_rows (fun _ => e) _,trivial⟩⟩) e e) e e ?_
      refine OpsD.p e (.nil ⟨by kernel_rfl,?_⟩)
      refine Run.so hm (.z 50152 (Ev.bsW (ys := ([] : List Peer)) (f := eP) e .nil e e e e e) e e (.p e (.nil (.seqO h (fun v2636 => [(6,.ptr 0 0),(13,.ptr 1 0),(14,VI (w64 (y1836 + 1))),(16,.sl 2 98 0 v2636.length)]) (fun (v2636 : (List Peer)) => [(0,.box [VI 0,VI 0,VI 0,VI 0,VI 0,.sl 3 3 0 (([] : (List Int)).length),VI 0,VI 0,.sl 4 40 0 (([] : (List Entry)).length),VI 0,VI 0,VI 0,.sl 5 3 0 (([] : (List Int)).length),.sl 6 98 0 (([] : (List Peer)).length)]),(1,.box [VI y1832.Id,VI y1832.Term,VI y1832.Vote,VI y1832.Role,VI y1832.Lead,.sl 7 3 0 y1832.Conf.length,VI y1832.Log.Start,VI y1832.Log.StartTerm,.sl 8 40 0 x1840.length,VI y1832.Commit,VI y1832.Clock,VI y1832.Limit,.sl 9 3 0 y1832.Votes.length,.sl 10 98 0 y1832.Peers.length,.sl 11 32 0 (([] : (List Message)).length)]),(2,.vec 98 (v2636.map eP)),(3,.vec 3 (([] : (List Int)).map encI)),(4,.vec 40 (([] : (List Entry)).map eE)),(5,.vec 3 (([] : (List Int)).map encI)),(6,.vec 98 (([] : (List Peer)).map eP)),(7,.vec 3 (y1832.Conf.map encI)),(8,.vec 40 (x1840.map eE)),(9,.vec 3 (y1832.Votes.map encI)),(10,.vec 98 (y1832.Peers.map eP)),(11,.vec 32 (([] : (List Message)).map (eM false)))]) (fun h => ?_) (fun v2636 h => ?_)))))
      ·refine Run.so hm (.p e (.nil (.block ?_)))
       obtain ⟨res3053,h,hk3053⟩ := bindO h
       refine Run.loop (n := N) (fun m3053 fr σ => ∃ (x2638 : Int),∃ (x2674 : (List Peer)),s_Propose_l1 N x1 y1836 y1848 m3053 x2638 x2674 = some res3053 ∧ fr = [(3,.ptr 0 0),(6,.ptr 1 0),(13,.ptr 2 0),(14,VI (w64 (y1836 + 1))),(15,.sl 3 3 0 y1848.length),(16,.sl 4 98 0 x2674.length),(17,VI x2638)] ∧ σ = [(0,.box [VI x1.Id,VI x1.Term,VI x1.Vote,VI x1.Role,VI x1.Lead,RO 3 (x1.Conf.map encI),VI x1.Log.Start,VI x1.Log.StartTerm,RO 40 (x1.Log.Entries.map eE),VI x1.Commit,VI x1.Clock,VI x1.Limit,RO 3 (x1.Votes.map encI),RO 98 (x1.Peers.map eP)]),(1,.box [VI 0,VI 0,VI 0,VI 0,VI 0,.sl 5 3 0 (([] : (List Int)).length),VI 0,VI 0,.sl 6 40 0 (([] : (List Entry)).length),VI 0,VI 0,VI 0,.sl 7 3 0 (([] : (List Int)).length),.sl 8 98 0 (([] : (List Peer)).length)]),(2,.box [VI y1832.Id,VI y1832.Term,VI y1832.Vote,VI y1832.Role,VI y1832.Lead,.sl 9 3 0 y1832.Conf.length,VI y1832.Log.Start,VI y1832.Log.StartTerm,.sl 10 40 0 x1840.length,VI y1832.Commit,VI y1832.Clock,VI y1832.Limit,.sl 11 3 0 y1832.Votes.length,.sl 12 98 0 y1832.Peers.length,.sl 13 32 0 (([] : (List Message)).length)]),(3,.vec 3 (y1848.map encI)),(4,.vec 98 (x2674.map eP)),(5,.vec 3 (([] : (List Int)).map encI)),(6,.vec 40 (([] : (List Entry)).map eE)),(7,.vec 3 (([] : (List Int)).map encI)),(8,.vec 98 (([] : (List Peer)).map eP)),(9,.vec 3 (y1832.Conf.map encI)),(10,.vec 40 (x1840.map eE)),(11,.vec 3 (y1832.Votes.map encI)),(12,.vec 98 (y1832.Peers.map eP)),(13,.vec 32 (([] : (List Message)).map (eM false)))]) (Gh.trans (Gh.trans (gh_prn [3,6,13,14,15,16,17] [0,1,33816,46168,50152,3,4,5,6,33784,42104,33786,33787] hB e) (gh_nil [] [33816] hB e e e)) (gh_pk [3,6,13,14,15,16,17] [0,1,33816,46168,50152,3,4,5,6,33784,42104,33786,33787,20000000] hB e e e e)) ⟨_,_,h,e,e⟩ ?_
       rintro m3053 fr σ ⟨x2638,x2674,h,rfl,rfl⟩
       obtain _ | m3053 := m3053
       ·rw [s_Propose_l1] at h; cases h
       rw [s_Propose_l1] at h
       refine Run.seq (.so hm (.p3 e e e (.p e (.nil (.condO e h (fun g3056 h => ?_) (fun g3056 h => ?_))))))
       ·refine Run.skip (.seqO h (fun v3240 => [(3,.ptr 0 0),(6,.ptr 1 0),(13,.ptr 2 0),(14,VI (w64 (y1836 + 1))),(15,.sl 3 3 0 y1848.length),(16,.sl 4 98 0 v3240.length),(17,VI x2638)]) (fun (v3240 : (List Peer)) => [(0,.box [VI x1.Id,VI x1.Term,VI x1.Vote,VI x1.Role,VI x1.Lead,RO 3 (x1.Conf.map encI),VI x1.Log.Start,VI x1.Log.StartTerm,RO 40 (x1.Log.Entries.map eE),VI x1.Commit,VI x1.Clock,VI x1.Limit,RO 3 (x1.Votes.map encI),RO 98 (x1.Peers.map eP)]),(1,.box [VI 0,VI 0,VI 0,VI 0,VI 0,.sl 5 3 0 (([] : (List Int)).length),VI 0,VI 0,.sl 6 40 0 (([] : (List Entry)).length),VI 0,VI 0,VI 0,.sl 7 3 0 (([] : (List Int)).length),.sl 8 98 0 (([] : (List Peer)).length)]),(2,.box [VI y1832.Id,VI y1832.Term,VI y1832.Vote,VI y1832.Role,VI y1832.Lead,.sl 9 3 0 y1832.Conf.length,VI y1832.Log.Start,VI y1832.Log.StartTerm,.sl 10 40 0 x1840.length,VI y1832.Commit,VI y1832.Clock,VI y1832.Limit,.sl 11 3 0 y1832.Votes.length,.sl 12 98 0 y1832.Peers.length,.sl 13 32 0 (([] : (List Message)).length)]),(3,.vec 3 (y1848.map encI)),(4,.vec 98 (v3240.map eP)),(5,.vec 3 (([] : (List Int)).map encI)),(6,.vec 40 (([] : (List Entry)).map eE)),(7,.vec 3 (([] : (List Int)).map encI)),(8,.vec 98 (([] : (List Peer)).map eP)),(9,.vec 3 (y1832.Conf.map encI)),(10,.vec 40 (x1840.map eE)),(11,.vec 3 (y1832.Votes.map encI)),(12,.vec 98 (y1832.Peers.map eP)),(13,.vec 32 (([] : (List Message)).map (eM false)))]) (fun h => ?_) (fun v3240 h => ?_))
        ·refine Run.block (.so hm (.p2 e e ?_))
         obtain ⟨x3244,hx3244,h⟩ := bindO h
         refine Ops.z 66568 (Ev.iaW e e e hx3244) e e (.z 66584 (Ev.ldE (f := encI) e e (at_some hx3244).2 e e e) e e (.p e (.z 66616 (.bd e e) e e (.z 66632 (.al e e) e e (.y 66648 (.sto e e e e e e) e e (.nil (.seqO h (fun v3333 => [(3,.ptr 0 0),(6,.ptr 1 0),(13,.ptr 2 0),(14,VI (w64 (y1836 + 1))),(15,.sl 3 3 0 y1848.length),(16,.sl 4 98 0 x2674.length),(17,VI x2638),(18,.ptr 5 0)]) (fun (v3333 : Int × Int × Int × Int) => [(0,.box [VI x1.Id,VI x1.Term,VI x1.Vote,VI x1.Role,VI x1.Lead,RO 3 (x1.Conf.map encI),VI x1.Log.Start,VI x1.Log.StartTerm,RO 40 (x1.Log.Entries.map eE),VI x1.Commit,VI x1.Clock,VI x1.Limit,RO 3 (x1.Votes.map encI),RO 98 (x1.Peers.map eP)]),(1,.box [VI 0,VI 0,VI 0,VI 0,VI 0,.sl 6 3 0 (([] : (List Int)).length),VI 0,VI 0,.sl 7 40 0 (([] : (List Entry)).length),VI 0,VI 0,VI 0,.sl 8 3 0 (([] : (List Int)).length),.sl 9 98 0 (([] : (List Peer)).length)]),(2,.box [VI y1832.Id,VI y1832.Term,VI y1832.Vote,VI y1832.Role,VI y1832.Lead,.sl 10 3 0 y1832.Conf.length,VI y1832.Log.Start,VI y1832.Log.StartTerm,.sl 11 40 0 x1840.length,VI y1832.Commit,VI y1832.Clock,VI y1832.Limit,.sl 12 3 0 y1832.Votes.length,.sl 13 98 0 y1832.Peers.length,.sl 14 32 0 (([] : (List Message)).length)]),(3,.vec 3 (y1848.map encI)),(4,.vec 98 (x2674.map eP)),(5,.box [VI v3333.1,VI v3333.2.1,VI v3333.2.2.1,VI v3333.2.2.2]),(6,.vec 3 (([] : (List Int)).map encI)),(7,.vec 40 (([] : (List Entry)).map eE)),(8,.vec 3 (([] : (List Int)).map encI)),(9,.vec 98 (([] : (List Peer)).map eP)),(10,.vec 3 (y1832.Conf.map encI)),(11,.vec 40 (x1840.map eE)),(12,.vec 3 (y1832.Votes.map encI)),(13,.vec 98 (y1832.Peers.map eP)),(14,.vec 32 (([] : (List Message)).map (eM false)))]) (fun h => ?_) (fun v3333 h => ?_))))))))
         ·refine Run.so hm (.p e (.nil (.block ?_)))
          obtain ⟨res3403,h,hk3403⟩ := bindO h
          refine Run.loop (n := N) (fun m3403 fr σ => ∃ (x3336 : Int),∃ (x3373 : Int),∃ (x3374 : Int),∃ (x3375 : Int),∃ (x3376 : Int),s_Propose_l2 N x1 y1848 x2638 m3403 x3336 x3373 x3374 x3375 x3376 = some res3403 ∧ fr = [(3,.ptr 0 0),(6,.ptr 1 0),(13,.ptr 2 0),(14,VI (w64 (y1836 + 1))),(15,.sl 3 3 0 y1848.length),(16,.sl 4 98 0 x2674.length),(17,VI x2638),(18,.ptr 5 0),(19,VI x3336)] ∧ σ = [(0,.box [VI x1.Id,VI x1.Term,VI x1.Vote,VI x1.Role,VI x1.Lead,RO 3 (x1.Conf.map encI),VI x1.Log.Start,VI x1.Log.StartTerm,RO 40 (x1.Log.Entries.map eE),VI x1.Commit,VI x1.Clock,VI x1.Limit,RO 3 (x1.Votes.map encI),RO 98 (x1.Peers.map eP)]),(1,.box [VI 0,VI 0,VI 0,VI 0,VI 0,.sl 6 3 0 (([] : (List Int)).length),VI 0,VI 0,.sl 7 40 0 (([] : (List Entry)).length),VI 0,VI 0,VI 0,.sl 8 3 0 (([] : (List Int)).length),.sl 9 98 0 (([] : (List Peer)).length)]),(2,.box [VI y1832.Id,VI y1832.Term,VI y1832.Vote,VI y1832.Role,VI y1832.Lead,.sl 10 3 0 y1832.Conf.length,VI y1832.Log.Start,VI y1832.Log.StartTerm,.sl 11 40 0 x1840.length,VI y1832.Commit,VI y1832.Clock,VI y1832.Limit,.sl 12 3 0 y1832.Votes.length,.sl 13 98 0 y1832.Peers.length,.sl 14 32 0 (([] : (List Message)).length)]),(3,.vec 3 (y1848.map encI)),(4,.vec 98 (x2674.map eP)),(5,.box [VI x3373,VI x3374,VI x3375,VI x3376]),(6,.vec 3 (([] : (List Int)).map encI)),(7,.vec 40 (([] : (List Entry)).map eE)),(8,.vec 3 (([] : (List Int)).map encI)),(9,.vec 98 (([] : (List Peer)).map eP)),(10,.vec 3 (y1832.Conf.map encI)),(11,.vec 40 (x1840.map eE)),(12,.vec 3 (y1832.Votes.map encI)),(13,.vec 98 (y1832.Peers.map eP)),(14,.vec 32 (([] : (List Message)).map (eM false)))]) (gh_pk [3,6,13,14,15,16,17,18,19] [0,1,2,3,4,66632,5,6,7,8,9,10,11,12,13] hB e e e e) ⟨_,_,_,_,_,h,e,e⟩ ?_
          rintro m3403 fr σ ⟨x3336,x3373,x3374,x3375,x3376,h,rfl,rfl⟩
          obtain _ | m3403 := m3403
          ·rw [s_Propose_l2] at h; cases h
          rw [s_Propose_l2] at h
          refine Run.seq (.so hm (.p3 e e e (.z 74776 (Ev.lnF e) e e (.p e (.nil (.condO e h (fun g3406 h => ?_) (fun g3406 h => ?_)))))))
          ·refine Run.skip (.seqO h (fun v3414 => [(3,.ptr 0 0),(6,.ptr 1 0),(13,.ptr 2 0),(14,VI (w64 (y1836 + 1))),(15,.sl 3 3 0 y1848.length),(16,.sl 4 98 0 x2674.length),(17,VI x2638),(18,.ptr 5 0),(19,VI x3336)]) (fun (v3414 : Int × Int × Int × Int) => [(0,.box [VI x1.Id,VI x1.Term,VI x1.Vote,VI x1.Role,VI x1.Lead,RO 3 (x1.Conf.map encI),VI x1.Log.Start,VI x1.Log.StartTerm,RO 40 (x1.Log.Entries.map eE),VI x1.Commit,VI x1.Clock,VI x1.Limit,RO 3 (x1.Votes.map encI),RO 98 (x1.Peers.map eP)]),(1,.box [VI 0,VI 0,VI 0,VI 0,VI 0,.sl 6 3 0 (([] : (List Int)).length),VI 0,VI 0,.sl 7 40 0 (([] : (List Entry)).length),VI 0,VI 0,VI 0,.sl 8 3 0 (([] : (List Int)).length),.sl 9 98 0 (([] : (List Peer)).length)]),(2,.box [VI y1832.Id,VI y1832.Term,VI y1832.Vote,VI y1832.Role,VI y1832.Lead,.sl 10 3 0 y1832.Conf.length,VI y1832.Log.Start,VI y1832.Log.StartTerm,.sl 11 40 0 x1840.length,VI y1832.Commit,VI y1832.Clock,VI y1832.Limit,.sl 12 3 0 y1832.Votes.length,.sl 13 98 0 y1832.Peers.length,.sl 14 32 0 (([] : (List Message)).length)]),(3,.vec 3 (y1848.map encI)),(4,.vec 98 (x2674.map eP)),(5,.box [VI v3414.1,VI v3414.2.1,VI v3414.2.2.1,VI v3414.2.2.2]),(6,.vec 3 (([] : (List Int)).map encI)),(7,.vec 40 (([] : (List Entry)).map eE)),(8,.vec 3 (([] : (List Int)).map encI)),(9,.vec 98 (([] : (List Peer)).map eP)),(10,.vec 3 (y1832.Conf.map encI)),(11,.vec 40 (x1840.map eE)),(12,.vec 3 (y1832.Votes.map encI)),(13,.vec 98 (y1832.Peers.map eP)),(14,.vec 32 (([] : (List Message)).map (eM false)))]) (fun h => ?_) (fun v3414 h => ?_))
           ·refine Run.block (.seq (.draw hm hmix (.p e (.p e (.p e ?_)))))
            obtain ⟨x3417,hx3417,h⟩ := bindO h
            refine OpsD.z 82968 (Ev.iaF e e hx3417) e e (.p e (.p e (.p e (.p e ?_))))
            obtain ⟨x3418,hx3418,h⟩ := bindO h
            refine OpsD.z 83048 (Ev.iaW e e e hx3418) e e (.z 83064 (Ev.ldE (f := encI) e e (at_some hx3418).2 e e e) e e (.p e (.nil ⟨by kernel_rfl,?_⟩)))
            refine Run.condO e h (fun g3419 h => ?_) (fun g3419 h => ?_)
            ·refine Run.ops hm (.p3 e e e ?_)
             obtain ⟨x3421,hx3421,h⟩ := bindO h
             exact Ops.z 87064 (Ev.iaF e e hx3421) e e (.p e (.y 87096 (.sto e e e e e e) e e (.nil (⟨_,_,(gh_pk [3,6,13,14,15,16,17,18,19] [0,1,2,3,4,5,6,7,8,9,10,11,12,13,14] hB e e e e),_,h,e,e⟩))))
            ·exact Run.skip (⟨_,_,(gh_pk [3,6,13,14,15,16,17,18,19] [0,1,2,3,4,5,6,7,8,9,10,11,12,13,14] hB e e e e),_,h,e,e⟩)
           ·exact Run.ops hm (.p3 e e e (.nil (⟨m3403,Nat.lt_succ_self m3403,_,_,(gh_pk [3,6,13,14,15,16,17,18,19] [0,1,2,3,4,5,6,7,8,9,10,11,12,13,14] hB e e e e),_,_,_,_,_,h,e,e⟩)))
          ·refine Run.exit ?_
           obtain rfl := someO h
           have h := hk3403
           exact ⟨_,_,(gh_pk [3,6,13,14,15,16,17,18] [0,1,2,3,4,5,6,7,8,9,10,11,12,13,14] hB e e e e),_,h,e,e⟩
         ·refine Run.ops hm (.p2 e e (.z 91144 (Ev.bsW (ys := ([(Peer.mk v3333.1 v3333.2.1 v3333.2.2.1 v3333.2.2.2)] : List Peer)) (f := eP) e (.d4 .nil) e e e e e) e e ?_))
          obtain ⟨x3423,hx3423,h⟩ := bindO h
          exact Ops.z 91160 (Ev.apW (f := eP) (ontoW e e e) (addsW e e e (fun _ => e)) e bt98 e hx3423) e e (.p e (.nil (⟨_,_,(gh_pk [3,6,13,14,15,16,17] [0,1,2,3,91160,6,7,8,9,10,11,12,13,14] hB e e e e),_,h,e,e⟩)))
        ·exact Run.ops hm (.p3 e e e (.nil (⟨m3053,Nat.lt_succ_self m3053,_,_,(gh_pk [3,6,13,14,15,16,17] [0,1,2,3,4,5,6,7,8,9,10,11,12,13] hB e e e e),_,_,h,e,e⟩)))
       ·refine Run.exit ?_
        obtain rfl := someO h
        have h := hk3053
        exact ⟨_,_,(gh_pk [6,13,14,16] [1,2,4,5,6,7,8,9,10,11,12,13] hB e e e e),_,h,e,e⟩
      ·refine Run.so hm (.p3 e e e (.p2 e e (.y 95288 (.sto e e e e e e) e e (.nil (.so hm (.p e ?_))))))
       obtain ⟨y3427,hy3427,h⟩ := bindO h
       refine Ops.z 99320 (Ev.call [1,7,8,9,2,11] [] 5 (sem_s_l16Commit _ _ _ hy3427) e e (.cons (.ptr e) .nil) e (.inl e) e e) e e (.nil (.so hm (.p e ?_)))
       obtain ⟨y3431,hy3431,h⟩ := bindO h
       refine Ops.z 103416 (Ev.call [1,99320,99321,99322,99323,99324] [] 5 (sem_s_l16SendAll_i1 _ _ _ hy3431) e e (.cons (.ptr e) .nil) e (.inl e) e e) e e (.nil (.seq (.draw hm hmix (.p e (.p e (.p e (.p e (.p e (.p e (.p e (.p e (.p e (.y 107640 (.sto e e e e e e) e e (.p e (.p e (.p e (.nil ⟨by kernel_rfl,?_⟩)))))))))))))))))
       refine Run.ret ?_
       obtain rfl := someO h
       exact Ends.mkG (.inl e) e (gh_pk [0,1,2,3] [103416,103417,103418,103419,103420] hB e e e e) e e
end Go.Proofs.YtkojbcnafckofaaGreat.Pe.FnNodes
