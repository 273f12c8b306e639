/- Functions,as pure functions; and that Go does just that. -/
import Derived.Test.YtkojbcnafckofaaGreatPeFFnStays2
namespace Go.Proofs.YtkojbcnafckofaaGreat.Pe.FnStays
open Go Go.RowKit
set_option linter.unusedVariables false
set_option linter.unusedSimpArgs false
set_option maxHeartbeats 40000000
set_option maxRecDepth 100000
def spec_Tick_l1 (N : Nat) (x1 : Node) (y294 : Node) (y338 : Int × Int) (y342 : (List Int)) : Nat → Int → Int → Int → Int → Int → Int → Int → Int → Int → Int → Int → (List Message) → Option (Int × Int × Int × Int × Int × Int × Int × Int × Int × Int × (List Message))
 | 0,_,_,_,_,_,_,_,_,_,_,_,_ => none
 | m + 1,x401,x412,x413,x414,x415,x416,x417,x418,x419,x420,x421,x431 =>
 (if (decide (x401 < ((y342.length : Nat) : Int))) = true then
 (at? y342 x401).bind fun x452 =>
 (spec_l16Tell N (Tl16Run.mk (Node.mk x412 x413 x414 x415 x416 y294.Conf (Log.mk x417 x418 y294.Log.Entries) x419 x420 x421 ([x1.Id] : List Int) y294.Peers) x431) (Message.mk 1 0 x452 0 y338.1 y338.2 0 false ([]) ([]) (⟨#[]⟩ : ByteArray) false)).bind fun y453 =>
 spec_Tick_l1 N x1 y294 y338 y342 m (w64 (x401 + 1)) y453.n.Id y453.n.Term y453.n.Vote y453.n.Role y453.n.Lead y453.n.Log.Start y453.n.Log.StartTerm y453.n.Commit y453.n.Clock y453.n.Limit y453.told
 else
 some (x412,x413,x414,x415,x416,x417,x418,x419,x420,x421,x431))
def spec_Tick (N : Nat) (x1 : Node) (x2 : Int) : Option (Node × (List Message) × Bool) :=
 (spec_NodeOk N x1).bind fun y287 =>
 (if (!y287) = true then
 some ((Node.mk 0 0 0 0 0 ([]) (Log.mk 0 0 ([])) 0 0 0 ([]) ([])),([] : List Message),false)
 else
 (spec_l01In N x2 1 20).bind fun y289 =>
 (if (!y289) = true then
 some ((Node.mk 0 0 0 0 0 ([]) (Log.mk 0 0 ([])) 0 0 0 ([]) ([])),([] : List Message),false)
 else
 (spec_l16Copy N x1).bind fun y294 =>
 (if (x1.Role == 2) = true then
 (spec_l16SendAll N (Tl16Run.mk y294 ([]))).bind fun y304 =>
 some ((Node.mk y304.n.Id y304.n.Term y304.n.Vote y304.n.Role y304.n.Lead y294.Conf (Log.mk y304.n.Log.Start y304.n.Log.StartTerm y294.Log.Entries) y304.n.Commit y304.n.Clock y304.n.Limit y294.Votes y294.Peers),y304.told,true)
 else
 (if (decide ((w64 (x1.Clock + 1)) < y294.Limit)) = true then
 some ((Node.mk y294.Id y294.Term y294.Vote y294.Role y294.Lead y294.Conf y294.Log y294.Commit (w64 (x1.Clock + 1)) y294.Limit y294.Votes y294.Peers),[],true)
 else
 (spec_ConfOf N (Node.mk y294.Id y294.Term y294.Vote y294.Role y294.Lead y294.Conf y294.Log y294.Commit 0 x2 y294.Votes y294.Peers)).bind fun y310 =>
 (spec_l09In N y310 x1.Id).bind fun y318 =>
 (if (!y318) = true then
 some ((Node.mk y294.Id y294.Term y294.Vote y294.Role y294.Lead y294.Conf y294.Log y294.Commit 0 x2 y294.Votes y294.Peers),[],true)
 else
 (if (x1.Term == 100000) = true then
 some ((Node.mk y294.Id y294.Term y294.Vote y294.Role y294.Lead y294.Conf y294.Log y294.Commit 0 x2 y294.Votes y294.Peers),[],true)
 else
 (spec_l16Elected N (Tl16Run.mk (Node.mk y294.Id (w64 (x1.Term + 1)) x1.Id 1 0 y294.Conf y294.Log y294.Commit 0 x2 ([x1.Id] : List Int) y294.Peers) ([]))).bind fun y329 =>
 (if y329.1 = true then
 (spec_l16Lead N (Tl16Run.mk (Node.mk y329.2.n.Id y329.2.n.Term y329.2.n.Vote y329.2.n.Role y329.2.n.Lead y294.Conf (Log.mk y329.2.n.Log.Start y329.2.n.Log.StartTerm y294.Log.Entries) y329.2.n.Commit y329.2.n.Clock y329.2.n.Limit ([x1.Id] : List Int) y294.Peers) y329.2.told)).bind fun y334 =>
 some (y334.n,y334.told,true)
 else
 (spec_LogLast N (Log.mk y329.2.n.Log.Start y329.2.n.Log.StartTerm y294.Log.Entries)).bind fun y338 =>
 (spec_l16Others N y310 x1.Id).bind fun y342 =>
 joinP (fun (v398 : Int × Int × Int × Int × Int × Int × Int × Int × Int × Int × (List Message)) =>
 some ((Node.mk v398.1 v398.2.1 v398.2.2.1 v398.2.2.2.1 v398.2.2.2.2.1 y294.Conf (Log.mk v398.2.2.2.2.2.1 v398.2.2.2.2.2.2.1 y294.Log.Entries) v398.2.2.2.2.2.2.2.1 v398.2.2.2.2.2.2.2.2.1 v398.2.2.2.2.2.2.2.2.2.1 ([x1.Id] : List Int) y294.Peers),v398.2.2.2.2.2.2.2.2.2.2,true)) fun j398 =>
 (spec_Tick_l1 N x1 y294 y338 y342 N 0 y329.2.n.Id y329.2.n.Term y329.2.n.Vote y329.2.n.Role y329.2.n.Lead y329.2.n.Log.Start y329.2.n.Log.StartTerm y329.2.n.Commit y329.2.n.Clock y329.2.n.Limit y329.2.told).bind (fun v442 => j398 (v442.1,v442.2.1,v442.2.2.1,v442.2.2.2.1,v442.2.2.2.2.1,v442.2.2.2.2.2.1,v442.2.2.2.2.2.2.1,v442.2.2.2.2.2.2.2.1,v442.2.2.2.2.2.2.2.2.1,v442.2.2.2.2.2.2.2.2.2.1,v442.2.2.2.2.2.2.2.2.2.2)))))))))
theorem sem_spec_Tick (N : Nat) (x1 : Node) (x2 : Int) (r : Node × (List Message) × Bool) (h : spec_Tick N x1 x2 = some r) : Says Tryz.prog 53 [.agg [VI x1.Id,VI x1.Term,VI x1.Vote,VI x1.Role,VI x1.Lead,RO 3 (x1.Conf.map encI),VI x1.Log.Start,VI x1.Log.StartTerm,RO 40 (x1.Log.Entries.map encEntry),VI x1.Commit,VI x1.Clock,VI x1.Limit,RO 3 (x1.Votes.map encI),RO 98 (x1.Peers.map encPeer)],VI x2] 0 [] (.tup [.agg [VI r.1.Id,VI r.1.Term,VI r.1.Vote,VI r.1.Role,VI r.1.Lead,.sl 0 3 0 r.1.Conf.length,VI r.1.Log.Start,VI r.1.Log.StartTerm,.sl 1 40 0 r.1.Log.Entries.length,VI r.1.Commit,VI r.1.Clock,VI r.1.Limit,.sl 2 3 0 r.1.Votes.length,.sl 3 98 0 r.1.Peers.length],.sl 4 32 0 r.2.1.length,VB r.2.2]) [(0,.vec 3 (r.1.Conf.map encI)),(1,.vec 40 (r.1.Log.Entries.map encEntry)),(2,.vec 3 (r.1.Votes.map encI)),(3,.vec 98 (r.1.Peers.map encPeer)),(4,.vec 32 (r.2.1.map (encMessage false)))] := by
 unfold spec_Tick at h
 refine Says.of_norm e Tryz.call53 e fun B hB => ?_
 have hm : B.m ≤ 1000 := by omega
 refine Run.so hm (.z 1000 (.bx e e) e e (.z 1016 (.al e e) e e (.p2 e e (.nil (.seq (.so hm (.p e ?_)))))))
 obtain ⟨y287,hy287,h⟩ := bindO h
 refine Ops.z 5112 (Ev.call [] [] 0 (sem_spec_NodeOk _ _ _ hy287) e e (.cons (.agg (.d4 (.d4 (.d4 (.d2 .nil))))) .nil) e (.inl e) e e) e e (.p2 e e (.askO (x := .t 16) e h (fun g288 h => ?_) (fun g288 h => ?_)))
 ·refine Ops.gn e g288 (.gn e g288 (.gn e g288 (.z 5208 (.pkT e g288 e) e e (.nil (.condT e e (.so hm (.z 9192 (.bd e e) e e (.z 9208 (Ev.bsW (ys := ([] : List Message)) (f := (encMessage false)) e .nil e e e e e) e e (.y 9224 (.sto e e e e e e) e e (.p2 e e (.nil (.ret ?_))))))))))))
  obtain rfl := someO h
  exact Ends.mkG (.inl e) e (Gh.trans (Gh.trans (gh_prn [0,1,2] [9208] hB e) (gh_nil [0] [] hB e e e)) (gh_pk [0,1,2] [10000000,10000001,10000002,10000003,9208] hB e e e e)) e e
 ·refine Ops.gp e g288 e ?_
  obtain ⟨y289,hy289,h⟩ := bindO h
  refine Ops.gs (s := 5176) e g288 (Ev.call [] [] 0 (sem_spec_l01In _ _ _ _ _ hy289) e e (.d2 (.d1 .nil)) e (.inl e) e e) e e (.gp e g288 e (.z 5208 (.pkF e g288 e) e e (.nil (.condO e h (fun g290 h => ?_) (fun g290 h => ?_)))))
  ·refine Run.so hm (.z 9192 (.bd e e) e e (.z 9208 (Ev.bsW (ys := ([] : List Message)) (f := (encMessage false)) e .nil e e e e e) e e (.y 9224 (.sto e e e e e e) e e (.p2 e e (.nil (.ret ?_))))))
   obtain rfl := someO h
   exact Ends.mkG (.inl e) e (Gh.trans (Gh.trans (gh_prn [0,1,2] [9208] hB e) (gh_nil [0] [] hB e e e)) (gh_pk [0,1,2] [10000000,10000001,10000002,10000003,9208] hB e e e e)) e e
  ·refine Run.skip (.so hm (.p e ?_))
   obtain ⟨y294,hy294,h⟩ := bindO h
   refine Ops.z 13304 (Ev.call [] [] 4 (sem_spec_l16Copy _ _ _ hy294) e e (.cons (.agg (.d4 (.d4 (.d4 (.d2 .nil))))) .nil) e (.inl e) e e) e e (.z 13320 (.bd e e) e e (.z 13336 (.bx e e) e e (.p e (.nil (.seq (.so hm (.p3 e e e (.nil (.condO e h (fun g300 h => ?_) (fun g300 h => ?_))))))))))
   ·refine Run.so hm (.p e ?_)
    obtain ⟨y304,hy304,h⟩ := bindO h
    refine Ops.z 21496 (Ev.call [13336,13304,13305,13306,13307] [] 1 (sem_spec_l16SendAll _ _ _ hy304) e e (.cons (.ptr e) .nil) e (.inl e) e e) e e (.nil (.seq (.draw hm hmix (.p e (.p e (.p e (.p e (.p e (.p e (.p e (.p e (.y 25704 (.sto e e e e e e) e e (.p e (.p e (.nil ⟨by kernel_rfl,?_⟩)))))))))))))))
    refine Run.ret ?_
    obtain rfl := someO h
    exact Ends.mkG (.inl e) e (gh_pk [0,1,2] [13304,13305,13306,13307,21496] hB e e e e) e e
   ·refine Run.skip (.so hm (.p3 e e e (.p3 e e e (.p e (.y 29784 (.sto e e e e e e) e e (.nil (.seq (.seq (.draw hm hmix (.p e (.p e (.p e (.p e (.p e (.p e (.p e (.p e (.p e (.p e (.p e (.nil ⟨by kernel_rfl,?_⟩)))))))))))))))))))))
    refine Run.condO e h (fun g306 h => ?_) (fun g306 h => ?_)
    ·refine Run.seq (.draw hm hmix (.p e (.p e (.p e (.p e (.p e (.p e (.p e (.p e (.y 37992 (.sto e e e e e e) e e (.p e (.p e (.nil ⟨by kernel_rfl,?_⟩)))))))))))))
     refine Run.ret ?_
     obtain rfl := someO h
     exact Ends.mkG (.inl e) e (Gh.trans (Gh.trans (gh_prn [0,1,2] [13304,13305,13306,13307] hB e) (gh_nil [1] [] hB e e e)) (gh_pk [0,1,2] [13304,13305,13306,13307,10000000] hB e e e e)) e e
    ·refine Run.skip (.so hm (.p3 e e e (.p e (.y 42024 (.sto e e e e e e) e e (.nil (.so hm (.p3 e e e (.p2 e e (.y 46136 (.sto e e e e e e) e e (.nil (.so hm (.p3 e e e (.p e ?_)))))))))))))
     obtain ⟨y310,hy310,h⟩ := bindO h
     refine Ops.z 50216 (Ev.call [] [13304,13305,13306,13307] 1 (sem_spec_ConfOf _ _ _ hy310) e e (.cons (.agg (.d4 (.d1 (.cons (.borrow e (by decide) (lendW (fun _ => e) _ e)) (.d2 (.cons (.borrow e (by decide) (lendW (fun _ => e) _ e)) (.d2 (.d1 (.cons (.borrow e (by decide) (lendW (fun _ => e) _ e)) (.cons (.borrow e (by decide) (lendW (fun _ => e) _ e)) .nil)))))))))) .nil) e (.inr ⟨e,ownL_root ⟨own_rows (fun _ => e) _,trivial⟩⟩) e e) e e ?_
     refine Ops.p e (.nil (.seq (.so hm (.p3 e e e ?_))))
     obtain ⟨y318,hy318,h⟩ := bindO h
     refine Ops.z 54296 (Ev.call [] [50216] 0 (sem_spec_l09In _ _ _ _ hy318) e e (.cons (.borrow e (by decide) (lendW (fun _ => e) _ e)) (.d1 .nil)) e (.inr ⟨e,ownL_root trivial⟩) e e) e e ?_
     refine Ops.p e (.p e (.askO (x := .t 85) e h (fun g319 h => ?_) (fun g319 h => ?_)))
     ·refine Ops.gn e g319 (.gn e g319 (.gn e g319 (.z 54392 (.pkT e g319 e) e e (.nil (.condT e e (.seq (.draw hm hmix (.p e (.p e (.p e (.p e (.p e (.p e (.p e (.p e (.y 58472 (.sto e e e e e e) e e (.p e (.p e (.nil ⟨by kernel_rfl,?_⟩)))))))))))))))))))
      refine Run.ret ?_
      obtain rfl := someO h
      exact Ends.mkG (.inl e) e (Gh.trans (Gh.trans (gh_prn [0,1,2] [13304,13305,13306,13307] hB e) (gh_nil [1] [] hB e e e)) (gh_pk [0,1,2] [13304,13305,13306,13307,10000000] hB e e e e)) e e
     ·refine Ops.gp e g319 e (.gp e g319 e (.gp e g319 e (.z 54392 (.pkF e g319 e) e e (.nil (.condO e h (fun g320 h => ?_) (fun g320 h => ?_))))))
      ·refine Run.seq (.draw hm hmix (.p e (.p e (.p e (.p e (.p e (.p e (.p e (.p e (.y 58472 (.sto e e e e e e) e e (.p e (.p e (.nil ⟨by kernel_rfl,?_⟩)))))))))))))
       refine Run.ret ?_
       obtain rfl := someO h
       exact Ends.mkG (.inl e) e (Gh.trans (Gh.trans (gh_prn [0,1,2] [13304,13305,13306,13307] hB e) (gh_nil [1] [] hB e e e)) (gh_pk [0,1,2] [13304,13305,13306,13307,10000000] hB e e e e)) e e
      ·refine Run.skip (.so hm (.p3 e e e (.p3 e e e (.p e (.y 62552 (.sto e e e e e e) e e (.nil (.so hm (.p3 e e e (.p3 e e e (.y 66632 (.sto e e e e e e) e e (.nil (.so hm (.p3 e e e (.p e (.y 70696 (.sto e e e e e e) e e (.nil (.so hm (.p3 e e e (.p e (.y 74792 (.sto e e e e e e) e e (.nil (.so hm (.p3 e e e (.z 78872 (Ev.bsW (ys := ([x1.Id] : List Int)) (f := encI) e (.d1 .nil) e e e e e) e e (.p3 e e e (.y 78936 (.sto e e e e e e) e e (.nil (.seq (.so hm (.p e ?_))))))))))))))))))))))))))))))
       obtain ⟨y329,hy329,h⟩ := bindO h
       refine Ops.z 82936 (Ev.call [13336,13304,13305,78872,13307] [] 1 (sem_spec_l16Elected _ _ _ hy329) e e (.cons (.ptr e) .nil) e (.inl e) e e) e e (.nil (.condO e h (fun g330 h => ?_) (fun g330 h => ?_)))
       ·refine Run.so hm (.p e ?_)
        obtain ⟨y334,hy334,h⟩ := bindO h
        refine Ops.z 87032 (Ev.call [13336,13304,13305,78872,13307,82936] [] 5 (sem_spec_l16Lead _ _ _ hy334) e e (.cons (.ptr e) .nil) e (.inl e) e e) e e (.nil (.seq (.draw hm hmix (.p e (.p e (.p e (.p e (.p e (.p e (.p e (.p e (.y 91240 (.sto e e e e e e) e e (.p e (.p e (.nil ⟨by kernel_rfl,?_⟩)))))))))))))))
        refine Run.ret ?_
        obtain rfl := someO h
        exact Ends.mkG (.inl e) e (gh_pk [0,1,2] [87032,87033,87034,87035,87036] hB e e e e) e e
       ·refine Run.skip (.so hm (.p3 e e e (.p2 e e ?_)))
        obtain ⟨y338,hy338,h⟩ := bindO h
        refine Ops.z 95288 (Ev.call [] [13305] 0 (sem_spec_LogLast _ _ _ hy338) e e (.cons (.agg (.d2 (.cons (.borrow e (by decide) (lendW (fun _ => e) _ e)) .nil))) .nil) e (.inr ⟨e,ownL_root trivial⟩) e e) e e ?_
        refine Ops.p e (.p3 e e e (.p e (.nil (.so hm (.p3 e e e ?_)))))
        obtain ⟨y342,hy342,h⟩ := bindO h
        refine Ops.z 99352 (Ev.call [] [50216] 1 (sem_spec_l16Others _ _ _ _ hy342) e e (.cons (.borrow e (by decide) (lendW (fun _ => e) _ e)) (.d1 .nil)) e (.inr ⟨e,ownL_root ⟨own_rows (fun _ => e) _,trivial⟩⟩) e e) e e ?_
        refine Ops.p e (.nil (.seqO h (fun v398 => [(4,.ptr 0 0),(7,.ptr 1 0)]) (fun (v398 : Int × Int × Int × Int × Int × Int × Int × Int × Int × Int × (List Message)) => [(0,.box [VI 0,VI 0,VI 0,VI 0,VI 0,.sl 2 3 0 (([] : (List Int)).length),VI 0,VI 0,.sl 3 40 0 (([] : (List Entry)).length),VI 0,VI 0,VI 0,.sl 4 3 0 (([] : (List Int)).length),.sl 5 98 0 (([] : (List Peer)).length)]),(1,.box [VI v398.1,VI v398.2.1,VI v398.2.2.1,VI v398.2.2.2.1,VI v398.2.2.2.2.1,.sl 6 3 0 y294.Conf.length,VI v398.2.2.2.2.2.1,VI v398.2.2.2.2.2.2.1,.sl 7 40 0 y294.Log.Entries.length,VI v398.2.2.2.2.2.2.2.1,VI v398.2.2.2.2.2.2.2.2.1,VI v398.2.2.2.2.2.2.2.2.2.1,.sl 8 3 0 (([x1.Id] : List Int).length),.sl 9 98 0 y294.Peers.length,.sl 10 32 0 v398.2.2.2.2.2.2.2.2.2.2.length]),(2,.vec 3 (([] : (List Int)).map encI)),(3,.vec 40 (([] : (List Entry)).map encEntry)),(4,.vec 3 (([] : (List Int)).map encI)),(5,.vec 98 (([] : (List Peer)).map encPeer)),(6,.vec 3 (y294.Conf.map encI)),(7,.vec 40 (y294.Log.Entries.map encEntry)),(8,.vec 3 (([x1.Id] : List Int).map encI)),(9,.vec 98 (y294.Peers.map encPeer)),(10,.vec 32 (v398.2.2.2.2.2.2.2.2.2.2.map (encMessage false)))]) (fun h => ?_) (fun v398 h => ?_)))
        ·refine Run.so hm (.p e (.nil (.block ?_)))
         obtain ⟨res442,h,hk442⟩ := bindO h
         refine Run.loop (n := N) (fun m442 fr σ => ∃ (x401 : Int),∃ (x412 : Int),∃ (x413 : Int),∃ (x414 : Int),∃ (x415 : Int),∃ (x416 : Int),∃ (x417 : Int),∃ (x418 : Int),∃ (x419 : Int),∃ (x420 : Int),∃ (x421 : Int),∃ (x431 : (List Message)),spec_Tick_l1 N x1 y294 y338 y342 m442 x401 x412 x413 x414 x415 x416 x417 x418 x419 x420 x421 x431 = some res442 ∧ fr = [(4,.ptr 0 0),(7,.ptr 1 0),(9,VI y338.1),(10,VI y338.2),(11,.sl 2 3 0 y342.length),(12,VI x401)] ∧ σ = [(0,.box [VI 0,VI 0,VI 0,VI 0,VI 0,.sl 3 3 0 (([] : (List Int)).length),VI 0,VI 0,.sl 4 40 0 (([] : (List Entry)).length),VI 0,VI 0,VI 0,.sl 5 3 0 (([] : (List Int)).length),.sl 6 98 0 (([] : (List Peer)).length)]),(1,.box [VI x412,VI x413,VI x414,VI x415,VI x416,.sl 7 3 0 y294.Conf.length,VI x417,VI x418,.sl 8 40 0 y294.Log.Entries.length,VI x419,VI x420,VI x421,.sl 9 3 0 (([x1.Id] : List Int).length),.sl 10 98 0 y294.Peers.length,.sl 11 32 0 x431.length]),(2,.vec 3 (y342.map encI)),(3,.vec 3 (([] : (List Int)).map encI)),(4,.vec 40 (([] : (List Entry)).map encEntry)),(5,.vec 3 (([] : (List Int)).map encI)),(6,.vec 98 (([] : (List Peer)).map encPeer)),(7,.vec 3 (y294.Conf.map encI)),(8,.vec 40 (y294.Log.Entries.map encEntry)),(9,.vec 3 (([x1.Id] : List Int).map encI)),(10,.vec 98 (y294.Peers.map encPeer)),(11,.vec 32 (x431.map (encMessage false)))]) (Gh.trans (Gh.trans (gh_prn [4,7,9,10,11,12] [1016,13336,99352,13304,13305,78872,13307,82936] hB e) (gh_nil [] [1016] hB e e e)) (gh_pk [4,7,9,10,11,12] [1016,13336,99352,20000000,20000001,20000002,20000003,13304,13305,78872,13307,82936] hB e e e e)) ⟨_,_,_,_,_,_,_,_,_,_,_,_,h,e,e⟩ ?_
         rintro m442 fr σ ⟨x401,x412,x413,x414,x415,x416,x417,x418,x419,x420,x421,x431,h,rfl,rfl⟩
         obtain _ | m442 := m442
         ·rw [spec_Tick_l1] at h; cases h
         rw [spec_Tick_l1] at h
         refine Run.seq (.so hm (.p3 e e e (.p e (.nil (.condO e h (fun g445 h => ?_) (fun g445 h => ?_))))))
         ·refine Run.skip (.seq (.block (.ops hm (.p3 e e e ?_))))
          obtain ⟨x452,hx452,h⟩ := bindO h
          refine Ops.z 115736 (Ev.iaW e e e hx452) e e (.z 115752 (Ev.ldE (f := encI) e e (at_some hx452).2 e e e) e e (.p2 e e (.z 115800 (.bd e e) e e ?_)))
          obtain ⟨y453,hy453,h⟩ := bindO h
          exact Ops.z 115816 (Ev.call [1,7,8,9,10,11] [] 1 (sem_spec_l16Tell _ _ _ _ hy453) e e (.cons (.ptr e) (.cons (.agg (.d4 (.d4 (.cons (.nil _ _) (.cons (.nil _ _) (.d2 .nil)))))) .nil)) e (.inl e) e e) e e (.nil (.ops hm (.p3 e e e (.nil (⟨m442,Nat.lt_succ_self m442,_,_,(gh_pk [4,7,9,10,11,12] [0,1,2,3,4,5,6,7,8,9,10,115816] hB e e e e),_,_,_,_,_,_,_,_,_,_,_,_,h,e,e⟩)))))
         ·refine Run.exit ?_
          obtain rfl := someO h
          have h := hk442
          exact ⟨_,_,(gh_pk [4,7] [0,1,3,4,5,6,7,8,9,10,11] hB e e e e),_,h,e,e⟩
        ·refine Run.seq (.draw hm hmix (.p e (.p e (.p e (.p e (.p e (.p e (.p e (.p e (.y 119912 (.sto e e e e e e) e e (.p e (.p e (.nil ⟨by kernel_rfl,?_⟩)))))))))))))
         refine Run.ret ?_
         obtain rfl := someO h
         exact Ends.mkG (.inl e) e (gh_pk [0,1,2] [6,7,8,9,10] hB e e e e) e e
def spec_l16Take_l1 (N : Nat) (x4 : (List Message)) : Nat → Int → (List Message) → Option ((List Message))
 | 0,_,_ => none
 | m + 1,x207,x209 =>
 (if (decide (x207 < (x4.length : Int))) = true then
 joinP (fun (v244 : (List Message)) =>
 spec_l16Take_l1 N x4 m (w64 (x207 + 1)) v244) fun j244 =>
 (if (decide (((x209.length : Nat) : Int) < 24)) = true then
 (at? x4 x207).bind fun x248 =>
 (if (x248.Kind != 5) = true then
 (at? x4 x207).bind fun x252 =>
 (cat? x209 ([x252] : List Message)).bind fun x253 =>
 j244 x253
 else
 j244 x209)
 else
 j244 x209)
 else
 some x209)
def spec_l16Take_l1_r (N : Nat) (x4 : (List Message)) : (List Message) → Int → (List Message) → Option ((List Message))
 | [],x207,x209 =>
 some x209
 | hd :: tl,x207,x209 =>
 joinP (fun (v244 : (List Message)) =>
 spec_l16Take_l1_r N x4 tl (w64 (x207 + 1)) v244) fun j244 =>
 (if (decide (((x209.length : Nat) : Int) < 24)) = true then
 (some hd).bind fun x248 =>
 (if (x248.Kind != 5) = true then
 (some hd).bind fun x252 =>
 (cat? x209 ([x252] : List Message)).bind fun x253 =>
 j244 x253
 else
 j244 x209)
 else
 j244 x209)
theorem spec_l16Take_l1_rng (N : Nat) (x4 : (List Message)) (hx : x4.length ≤ 1099511627776) : ∀ (d k m : Nat) (x209 : (List Message)),x4.length = k + d → d < m → spec_l16Take_l1 N x4 m (k : Int) x209 = spec_l16Take_l1_r N x4 (x4.drop k) (k : Int) x209 := by
 intro d
 induction d with
 | zero =>
  intro k m x209 hd hm
  obtain ⟨m,rfl⟩ : ∃ q,m = q + 1 := ⟨m - 1,by omega⟩
  rw [spec_l16Take_l1,if_neg (by simp; omega),List.drop_eq_nil_of_le (by omega),spec_l16Take_l1_r]
 | succ d ih =>
  intro k m x209 hd hm
  obtain ⟨m,rfl⟩ : ∃ q,m = q + 1 := ⟨m - 1,by omega⟩
  have hk : k < x4.length := by omega
  rw [spec_l16Take_l1,if_pos (by simp; omega),List.drop_eq_getElem_cons hk,spec_l16Take_l1_r]
  have h1 := at_lt hk
  have h2 := w64_succ (k := k) (by omega)
  have h3 := ih (k + 1) m
  simp only [h1,h2,h3 _ (by omega) (by omega)]
theorem spec_l16Take_l1_eq {N : Nat} (x4 : (List Message)) (hx : x4.length ≤ 1099511627776) (hN : x4.length < N) (x209 : (List Message)) : spec_l16Take_l1 N x4 N 0 x209 = spec_l16Take_l1_r N x4 x4 0 x209 := spec_l16Take_l1_rng N x4 hx x4.length 0 N x209 (by omega) hN
def spec_l16Take (N : Nat) (x1 : Tl16Cluster) (x2 : Int) (x3 : Node) (x4 : (List Message)) : Option (Tl16Cluster) :=
 (at? x1.nodes x2).bind fun x180 =>
 (spec_l16Take_l1 N x4 N 0 x1.net).bind (fun v231 => some (Tl16Cluster.mk (x1.nodes.set x2.toNat x3) v231))
theorem sem_spec_l16Take (N : Nat) (x1 : Tl16Cluster) (x2 : Int) (x3 : Node) (x4 : (List Message)) (r : Tl16Cluster) (h : spec_l16Take N x1 x2 x3 x4 = some r) : Says Tryz.prog 54 [.ptr 0 0,VI x2,.agg [VI x3.Id,VI x3.Term,VI x3.Vote,VI x3.Role,VI x3.Lead,RO 3 (x3.Conf.map encI),VI x3.Log.Start,VI x3.Log.StartTerm,RO 40 (x3.Log.Entries.map encEntry),VI x3.Commit,VI x3.Clock,VI x3.Limit,RO 3 (x3.Votes.map encI),RO 98 (x3.Peers.map encPeer)],RO 32 (x4.map (encMessage false))] 3 [(0,.box [.sl 1 30 0 x1.nodes.length,.sl 2 32 0 x1.net.length]),(1,.vec 30 (x1.nodes.map (encNode false))),(2,.vec 32 (x1.net.map (encMessage false)))] (.tup []) [(0,.box [.sl 3 30 0 r.nodes.length,.sl 4 32 0 r.net.length]),(1,.gone),(2,.gone),(3,.vec 30 (r.nodes.map (encNode false))),(4,.vec 32 (r.net.map (encMessage false)))] := by
 unfold spec_l16Take at h
 refine Says.of_norm e Tryz.call54 e fun B hB => ?_
 have hm : B.m ≤ 1000 := by omega
 refine Run.so hm (.z 1000 (.bx e e) e e (.nil (.seq (.draw hm hmix (.p e (.p e (.p e (.p e (.p e (.p e ?_))))))))))
 obtain ⟨x180,hx180,h⟩ := bindO h
 refine OpsD.z 5192 (Ev.iaW e e e hx180) e e (.y 5208 (Ev.stE (f := (encNode false)) (v' := x3) e e (at_some hx180).2 e (.d4 (.d4 (.d4 (.d2 .nil)))) e e e e e) e e (.nil ⟨by kernel_rfl,?_⟩))
 refine Run.so hm (.p e (.nil (.block ?_)))
 obtain ⟨res231,h,hk231⟩ := bindO h
 refine Run.loop (n := N) (fun m231 fr σ => ∃ (x207 : Int),∃ (x209 : (List Message)),spec_l16Take_l1 N x4 m231 x207 x209 = some res231 ∧ fr = [(0,.ptr 0 0),(3,RO 32 (x4.map (encMessage false))),(8,VI x207)] ∧ σ = [(0,.box [.sl 3 30 0 ((x1.nodes.set x2.toNat x3).length),.sl 4 32 0 x209.length]),(1,.gone),(2,.gone),(3,.vec 30 ((x1.nodes.set x2.toNat x3).map (encNode false))),(4,.vec 32 (x209.map (encMessage false)))]) (Gh.trans (Gh.trans (gh_prn [0,3,8] [0,1,2] hB e) (gh_mvE [0,3,8] [1,2] hB e e)) (gh_pk [0,3,8] [0,1,2,30000001,30000002] hB e e (by first | rfl | (simp only [List.length_set]; done) | (simp only [List.length_set]; rfl)) (by first | rfl | (simp only [List.length_set]; done) | (simp only [List.length_set]; rfl)))) ⟨_,_,h,e,e⟩ ?_
 rintro m231 fr σ ⟨x207,x209,h,rfl,rfl⟩
 obtain _ | m231 := m231
 ·rw [spec_l16Take_l1] at h; cases h
 rw [spec_l16Take_l1] at h
 refine Run.seq (.so hm (.p2 e e (.z 13320 (Ev.lnF e) e e (.p e (.nil (.condO e h (fun g234 h => ?_) (fun g234 h => ?_)))))))
 ·refine Run.skip (.seqO h (fun v244 => [(0,.ptr 0 0),(3,RO 32 (x4.map (encMessage false))),(8,VI x207)]) (fun (v244 : (List Message)) => [(0,.box [.sl 3 30 0 ((x1.nodes.set x2.toNat x3).length),.sl 4 32 0 v244.length]),(1,.gone),(2,.gone),(3,.vec 30 ((x1.nodes.set x2.toNat x3).map (encNode false))),(4,.vec 32 (v244.map (encMessage false)))]) (fun h => ?_) (fun v244 h => ?_))
  ·refine Run.block (.so hm (.p3 e e e (.p3 e e e (.p e (.askO (x := .t 28) e h (fun g247 h => ?_) (fun g247 h => ?_))))))
   ·refine Ops.gp e g247 e (.gp e g247 e ?_)
    obtain ⟨x248,hx248,h⟩ := bindO h
    refine Ops.gs (s := 21624) e g247 (Ev.iaF e e hx248) e e (.gp e g247 e (.gp e g247 e (.gp e g247 e (.z 21688 (.pkT e g247 e) e e (.nil (.condO e h (fun g249 h => ?_) (fun g249 h => ?_)))))))
    ·refine Run.draw hm hmix (.p e (.p e (.p e (.p e (.p e (.p e (.p e ?_)))))))
     obtain ⟨x252,hx252,h⟩ := bindO h
     refine OpsD.z 25688 (Ev.iaF e e hx252) e e (.p e (.z 25720 (Ev.bsW (ys := ([x252] : List Message)) (f := (encMessage false)) e (.d4 (.d4 (.d4 .nil))) e e e e e) e e ?_))
     obtain ⟨x253,hx253,h⟩ := bindO h
     refine OpsD.z 25736 (Ev.apW (f := (encMessage false)) (ontoW e e e) (addsW e e e (fun _ => e)) e bt32 e hx253) e e (.p e (.p e (.y 25784 (.sto e e e e e e) e e (.nil ⟨by kernel_rfl,?_⟩))))
     exact ⟨_,_,(gh_pk [0,3,8] [0,1,2,3,25736] hB e e e e),_,h,e,e⟩
    ·exact Run.skip (⟨_,_,(gh_pk [0,3,8] [0,1,2,3,4] hB e e e e),_,h,e,e⟩)
   ·exact Ops.gn e g247 (.gn e g247 (.gn e g247 (.gn e g247 (.gn e g247 (.gn e g247 (.z 21688 (.pkF e g247 e) e e (.nil (.condF e e (.skip (⟨_,_,(gh_pk [0,3,8] [0,1,2,3,4] hB e e e e),_,h,e,e⟩))))))))))
  ·exact Run.ops hm (.p3 e e e (.nil (⟨m231,Nat.lt_succ_self m231,_,_,(gh_pk [0,3,8] [0,1,2,3,4] hB e e e e),_,_,h,e,e⟩)))
 ·refine Run.exit ?_
  obtain rfl := someO h
  have h := hk231
  obtain rfl := someO h
  exact Ends.mkG (.inr e) e (gh_pk [] [0,1,2,3,4] hB e e e e) e e
def spec_l16Take_i1_l1 (N : Nat) (x4 : (List Message)) : Nat → Int → (List Message) → Option ((List Message))
 | 0,_,_ => none
 | m + 1,x206,x209 =>
 (if (decide (x206 < ((x4.length : Nat) : Int))) = true then
 joinP (fun (v244 : (List Message)) =>
 spec_l16Take_i1_l1 N x4 m (w64 (x206 + 1)) v244) fun j244 =>
 (if (decide (((x209.length : Nat) : Int) < 24)) = true then
 (at? x4 x206).bind fun x248 =>
 (if (x248.Kind != 5) = true then
 (at? x4 x206).bind fun x252 =>
 (cat? x209 ([x252] : List Message)).bind fun x253 =>
 j244 x253
 else
 j244 x209)
 else
 j244 x209)
 else
 some x209)
def spec_l16Take_i1 (N : Nat) (x1 : Tl16Cluster) (x2 : Int) (x3 : Node) (x4 : (List Message)) : Option (Tl16Cluster) :=
 (at? x1.nodes x2).bind fun x180 =>
 (spec_l16Take_i1_l1 N x4 N 0 x1.net).bind (fun v231 => some (Tl16Cluster.mk (x1.nodes.set x2.toNat x3) v231))
theorem sem_spec_l16Take_i1 (N : Nat) (x1 : Tl16Cluster) (x2 : Int) (x3 : Node) (x4 : (List Message)) (r : Tl16Cluster) (h : spec_l16Take_i1 N x1 x2 x3 x4 = some r) : Says Tryz.prog 54 [.ptr 0 0,VI x2,.agg [VI x3.Id,VI x3.Term,VI x3.Vote,VI x3.Role,VI x3.Lead,RO 3 (x3.Conf.map encI),VI x3.Log.Start,VI x3.Log.StartTerm,RO 40 (x3.Log.Entries.map encEntry),VI x3.Commit,VI x3.Clock,VI x3.Limit,RO 3 (x3.Votes.map encI),RO 98 (x3.Peers.map encPeer)],.sl 1 32 0 x4.length] 4 [(0,.box [.sl 2 30 0 x1.nodes.length,.sl 3 32 0 x1.net.length]),(1,.vec 32 (x4.map (encMessage false))),(2,.vec 30 (x1.nodes.map (encNode false))),(3,.vec 32 (x1.net.map (encMessage false)))] (.tup []) [(0,.box [.sl 4 30 0 r.nodes.length,.sl 5 32 0 r.net.length]),(1,.vec 32 (x4.map (encMessage false))),(2,.gone),(3,.gone),(4,.vec 30 (r.nodes.map (encNode false))),(5,.vec 32 (r.net.map (encMessage false)))] := by
 unfold spec_l16Take_i1 at h
 refine Says.of_norm e Tryz.call54 e fun B hB => ?_
 have hm : B.m ≤ 1000 := by omega
 refine Run.so hm (.z 1000 (.bx e e) e e (.nil (.seq (.draw hm hmix (.p e (.p e (.p e (.p e (.p e (.p e ?_))))))))))
 obtain ⟨x180,hx180,h⟩ := bindO h
 refine OpsD.z 5192 (Ev.iaW e e e hx180) e e (.y 5208 (Ev.stE (f := (encNode false)) (v' := x3) e e (at_some hx180).2 e (.d4 (.d4 (.d4 (.d2 .nil)))) e e e e e) e e (.nil ⟨by kernel_rfl,?_⟩))
 refine Run.so hm (.p e (.nil (.block ?_)))
 obtain ⟨res231,h,hk231⟩ := bindO h
 refine Run.loop (n := N) (fun m231 fr σ => ∃ (x206 : Int),∃ (x209 : (List Message)),spec_l16Take_i1_l1 N x4 m231 x206 x209 = some res231 ∧ fr = [(0,.ptr 0 0),(3,.sl 1 32 0 x4.length),(8,VI x206)] ∧ σ = [(0,.box [.sl 4 30 0 ((x1.nodes.set x2.toNat x3).length),.sl 5 32 0 x209.length]),(1,.vec 32 (x4.map (encMessage false))),(2,.gone),(3,.gone),(4,.vec 30 ((x1.nodes.set x2.toNat x3).map (encNode false))),(5,.vec 32 (x209.map (encMessage false)))]) (Gh.trans (Gh.trans (gh_prn [0,3,8] [0,1,2,3] hB e) (gh_mvE [0,3,8] [2,3] hB e e)) (gh_pk [0,3,8] [0,1,2,3,30000002,30000003] hB e e (by first | rfl | (simp only [List.length_set]; done) | (simp only [List.length_set]; rfl)) (by first | rfl | (simp only [List.length_set]; done) | (simp only [List.length_set]; rfl)))) ⟨_,_,h,e,e⟩ ?_
 rintro m231 fr σ ⟨x206,x209,h,rfl,rfl⟩
 obtain _ | m231 := m231
 ·rw [spec_l16Take_i1_l1] at h; cases h
 rw [spec_l16Take_i1_l1] at h
 refine Run.seq (.so hm (.p3 e e e (.p e (.nil (.condO e h (fun g234 h => ?_) (fun g234 h => ?_))))))
 ·refine Run.skip (.seqO h (fun v244 => [(0,.ptr 0 0),(3,.sl 1 32 0 x4.length),(8,VI x206)]) (fun (v244 : (List Message)) => [(0,.box [.sl 4 30 0 ((x1.nodes.set x2.toNat x3).length),.sl 5 32 0 v244.length]),(1,.vec 32 (x4.map (encMessage false))),(2,.gone),(3,.gone),(4,.vec 30 ((x1.nodes.set x2.toNat x3).map (encNode false))),(5,.vec 32 (v244.map (encMessage false)))]) (fun h => ?_) (fun v244 h => ?_))
  ·refine Run.block (.so hm (.p3 e e e (.p3 e e e (.p e (.askO (x := .t 28) e h (fun g247 h => ?_) (fun g247 h => ?_))))))
   ·refine Ops.gp e g247 e (.gp e g247 e ?_)
    obtain ⟨x248,hx248,h⟩ := bindO h
    refine Ops.gs (s := 21624) e g247 (Ev.iaW e e e hx248) e e (.gp e g247 e (.gs (s := 21656) e g247 (Ev.ldE (f := (encMessage false)) e e (at_some hx248).2 e e e) e e (.gp e g247 e (.z 21688 (.pkT e g247 e) e e (.nil (.condO e h (fun g249 h => ?_) (fun g249 h => ?_)))))))
    ·refine Run.draw hm hmix (.p e (.p e (.p e (.p e (.p e (.p e (.p e ?_)))))))
     obtain ⟨x252,hx252,h⟩ := bindO h
     refine OpsD.z 25688 (Ev.iaW e e e hx252) e e (.z 25704 (Ev.ldE (f := (encMessage false)) e e (at_some hx252).2 e e e) e e (.z 25720 (Ev.bsW (ys := ([x252] : List Message)) (f := (encMessage false)) e (.d4 (.d4 (.d4 .nil))) e e e e e) e e ?_))
     obtain ⟨x253,hx253,h⟩ := bindO h
     refine OpsD.z 25736 (Ev.apW (f := (encMessage false)) (ontoW e e e) (addsW e e e (fun _ => e)) e bt32 e hx253) e e (.p e (.p e (.y 25784 (.sto e e e e e e) e e (.nil ⟨by kernel_rfl,?_⟩))))
     exact ⟨_,_,(gh_pk [0,3,8] [0,1,2,3,4,25736] hB e e e e),_,h,e,e⟩
    ·exact Run.skip (⟨_,_,(gh_pk [0,3,8] [0,1,2,3,4,5] hB e e e e),_,h,e,e⟩)
   ·exact Ops.gn e g247 (.gn e g247 (.gn e g247 (.gn e g247 (.gn e g247 (.gn e g247 (.z 21688 (.pkF e g247 e) e e (.nil (.condF e e (.skip (⟨_,_,(gh_pk [0,3,8] [0,1,2,3,4,5] hB e e e e),_,h,e,e⟩))))))))))
  ·exact Run.ops hm (.p3 e e e (.nil (⟨m231,Nat.lt_succ_self m231,_,_,(gh_pk [0,3,8] [0,1,2,3,4,5] hB e e e e),_,_,h,e,e⟩)))
 ·refine Run.exit ?_
  obtain rfl := someO h
  have h := hk231
  obtain rfl := someO h
  exact Ends.mkG (.inr e) e (gh_pk [] [0,1,2,3,4,5] hB e e e e) e e
def spec_l01PickInt (N : Nat) (x1 : Tl01Cur) (x2 : (List Int)) : Option (Int × Tl01Cur) :=
 (spec_l01Below N x1 (x2.length : Int)).bind fun y106 =>
 (at? x2 y106.1).bind fun x107 =>
 some (x107,y106.2)
theorem sem_spec_l01PickInt (N : Nat) (x1 : Tl01Cur) (x2 : (List Int)) (r : Int × Tl01Cur) (h : spec_l01PickInt N x1 x2 = some r) : Says Tryz.prog 92 [.ptr 0 0,RO 3 (x2.map encI)] 1 [(0,.box [RO 5 (x1.b.map encU),VI x1.i,VI x1.h])] (VI r.1) [(0,.box [RO 5 (r.2.b.map encU),VI r.2.i,VI r.2.h])] := by
 unfold spec_l01PickInt at h
 refine Says.of_norm e Tryz.call92 e fun B hB => ?_
 have hm : B.m ≤ 1000 := by omega
 refine Run.so hm (.p e (.nil (.so hm (.p3 e e e (.z 5144 (Ev.lnF e) e e ?_)))))
 obtain ⟨y106,hy106,h⟩ := bindO h
 refine Ops.z 5160 (Ev.call [0] [] 0 (sem_spec_l01Below _ _ _ _ hy106) e e (.cons (.ptr e) (.d1 .nil)) e (.inl e) e e) e e ?_
 obtain ⟨x107,hx107,h⟩ := bindO h
 refine Ops.z 5176 (Ev.iaF e e hx107) e e (.p2 e e (.nil (.ret ?_)))
 obtain rfl := someO h
 exact Ends.mkG (.inl e) e (gh_pk [0] [0] hB e e e e) e e
def spec_l01PickInt_i1 (N : Nat) (x1 : Tl01Cur) (x2 : (List Int)) : Option (Int × Tl01Cur) :=
 (spec_l01Below N x1 ((x2.length : Nat) : Int)).bind fun y106 =>
 (at? x2 y106.1).bind fun x107 =>
 some (x107,y106.2)
theorem sem_spec_l01PickInt_i1 (N : Nat) (x1 : Tl01Cur) (x2 : (List Int)) (r : Int × Tl01Cur) (h : spec_l01PickInt_i1 N x1 x2 = some r) : Says Tryz.prog 92 [.ptr 0 0,.sl 1 3 0 x2.length] 2 [(0,.box [RO 5 (x1.b.map encU),VI x1.i,VI x1.h]),(1,.vec 3 (x2.map encI))] (VI r.1) [(0,.box [RO 5 (r.2.b.map encU),VI r.2.i,VI r.2.h]),(1,.vec 3 (x2.map encI))] := by
 unfold spec_l01PickInt_i1 at h
 refine Says.of_norm e Tryz.call92 e fun B hB => ?_
 have hm : B.m ≤ 1000 := by omega
 refine Run.so hm (.p e (.nil (.so hm (.p3 e e e (.p e ?_)))))
 obtain ⟨y106,hy106,h⟩ := bindO h
 refine Ops.z 5160 (Ev.call [0] [] 0 (sem_spec_l01Below _ _ _ _ hy106) e e (.cons (.ptr e) (.d1 .nil)) e (.inl e) e e) e e ?_
 obtain ⟨x107,hx107,h⟩ := bindO h
 refine Ops.z 5176 (Ev.iaW e e e hx107) e e (.z 5192 (Ev.ldE (f := encI) e e (at_some hx107).2 e e e) e e (.p e (.nil (.ret ?_))))
 obtain rfl := someO h
 exact Ends.mkG (.inl e) e (gh_pk [0] [0,1] hB e e e e) e e
def spec_ConfText_l1 (N : Nat) (x1 : (List Int)) : Nat → Int → (List Int) → Option ((List Int))
 | 0,_,_ => none
 | m + 1,x190,x191 =>
 (if (decide (x190 < (x1.length : Int))) = true then
 (at? x1 x190).bind fun x212 =>
 (cat? x191 ([IntKind.wrap .u8 (x212)] : List Int)).bind fun x213 =>
 spec_ConfText_l1 N x1 m (w64 (x190 + 1)) x213
 else
 some x191)
def spec_ConfText_l1_r (N : Nat) (x1 : (List Int)) : (List Int) → Int → (List Int) → Option ((List Int))
 | [],x190,x191 =>
 some x191
 | hd :: tl,x190,x191 =>
 (some hd).bind fun x212 =>
 (cat? x191 ([IntKind.wrap .u8 (x212)] : List Int)).bind fun x213 =>
 spec_ConfText_l1_r N x1 tl (w64 (x190 + 1)) x213
theorem spec_ConfText_l1_rng (N : Nat) (x1 : (List Int)) (hx : x1.length ≤ 1099511627776) : ∀ (d k m : Nat) (x191 : (List Int)),x1.length = k + d → d < m → spec_ConfText_l1 N x1 m (k : Int) x191 = spec_ConfText_l1_r N x1 (x1.drop k) (k : Int) x191 := by
 intro d
 induction d with
 | zero =>
  intro k m x191 hd hm
  obtain ⟨m,rfl⟩ : ∃ q,m = q + 1 := ⟨m - 1,by omega⟩
  rw [spec_ConfText_l1,if_neg (by simp; omega),List.drop_eq_nil_of_le (by omega),spec_ConfText_l1_r]
 | succ d ih =>
  intro k m x191 hd hm
  obtain ⟨m,rfl⟩ : ∃ q,m = q + 1 := ⟨m - 1,by omega⟩
  have hk : k < x1.length := by omega
  rw [spec_ConfText_l1,if_pos (by simp; omega),List.drop_eq_getElem_cons hk,spec_ConfText_l1_r]
  have h1 := at_lt hk
  have h2 := w64_succ (k := k) (by omega)
  have h3 := ih (k + 1) m
  simp only [h1,h2,h3 _ (by omega) (by omega)]
theorem spec_ConfText_l1_eq {N : Nat} (x1 : (List Int)) (hx : x1.length ≤ 1099511627776) (hN : x1.length < N) (x191 : (List Int)) : spec_ConfText_l1 N x1 N 0 x191 = spec_ConfText_l1_r N x1 x1 0 x191 := spec_ConfText_l1_rng N x1 hx x1.length 0 N x191 (by omega) hN
def spec_ConfText (N : Nat) (x1 : (List Int)) : Option (ByteArray × Bool) :=
 (spec_ConfOk N x1).bind fun y161 =>
 (if (!y161) = true then
 some ((⟨#[]⟩ : ByteArray),false)
 else
 joinP (fun (v188 : (List Int)) =>
 some (strOf v188,true)) fun j188 =>
 (spec_ConfText_l1 N x1 N 0 ([] : List Int)).bind (fun v202 => j188 v202))
theorem sem_spec_ConfText (N : Nat) (x1 : (List Int)) (r : ByteArray × Bool) (h : spec_ConfText N x1 = some r) : Says Tryz.prog 93 [RO 3 (x1.map encI)] 0 [] (.tup [VS r.1,VB r.2]) [] := by
 unfold spec_ConfText at h
 refine Says.of_norm e Tryz.call93 e fun B hB => ?_
 have hm : B.m ≤ 1000 := by omega
 refine Run.so hm (.p2 e e (.nil (.seq (.so hm (.p e ?_)))))
 obtain ⟨y161,hy161,h⟩ := bindO h
 refine Ops.z 5112 (Ev.call [] [] 0 (sem_spec_ConfOk _ _ _ hy161) e e (.d1 .nil) e (.inl e) e e) e e (.p e (.nil (.condO e h (fun g162 h => ?_) (fun g162 h => ?_))))
 ·refine Run.so hm (.p2 e e (.nil (.ret ?_)))
  obtain rfl := someO h
  exact Ends.mkG (.inl e) e (gh_pk [0,1] [] hB e e e e) e e
 ·refine Run.skip (.so hm (.z 13288 (Ev.bsW (ys := ([] : List Int)) (f := encU) e .nil e e e e e) e e (.p e (.nil (.seqO h (fun v188 => [(4,.sl 0 5 0 v188.length)]) (fun (v188 : (List Int)) => [(0,.vec 5 (v188.map encU))]) (fun h => ?_) (fun v188 h => ?_))))))
  ·refine Run.so hm (.p e (.nil (.block ?_)))
   obtain ⟨res202,h,hk202⟩ := bindO h
   refine Run.loop (n := N) (fun m202 fr σ => ∃ (x190 : Int),∃ (x191 : (List Int)),spec_ConfText_l1 N x1 m202 x190 x191 = some res202 ∧ fr = [(0,RO 3 (x1.map encI)),(4,.sl 0 5 0 x191.length),(5,VI x190)] ∧ σ = [(0,.vec 5 (x191.map encU))]) (gh_pk [0,4,5] [13288] hB e e e e) ⟨_,_,h,e,e⟩ ?_
   rintro m202 fr σ ⟨x190,x191,h,rfl,rfl⟩
   obtain _ | m202 := m202
   ·rw [spec_ConfText_l1] at h; cases h
   rw [spec_ConfText_l1] at h
   refine Run.seq (.so hm (.p2 e e (.z 21512 (Ev.lnF e) e e (.p e (.nil (.condO e h (fun g205 h => ?_) (fun g205 h => ?_)))))))
   ·refine Run.skip (.seq (.block (.ops hm (.p3 e e e ?_))))
    obtain ⟨x212,hx212,h⟩ := bindO h
    refine Ops.z 29720 (Ev.iaF e e hx212) e e (.p2 e e (.z 29768 (Ev.bsW (ys := ([IntKind.wrap .u8 (x212)] : List Int)) (f := encU) e (.d1 .nil) e e e e e) e e ?_))
    obtain ⟨x213,hx213,h⟩ := bindO h
    exact Ops.z 29784 (Ev.apW (f := encU) (ontoW e e e) (addsW e e e (fun _ => e)) e bt5 e hx213) e e (.p e (.nil (.ops hm (.p3 e e e (.nil (⟨m202,Nat.lt_succ_self m202,_,_,(gh_pk [0,4,5] [29784] hB e e e e),_,_,h,e,e⟩))))))
   ·refine Run.exit ?_
    obtain rfl := someO h
    have h := hk202
    exact ⟨_,_,(gh_pk [4] [0] hB e e e e),_,h,e,e⟩
  ·refine Run.so hm (.p e (.z 33784 (.sbC (addsW (f := encU) e e e (fun _ => e))) e e (.p2 e e (.nil (.ret ?_)))))
   obtain rfl := someO h
   exact Ends.mkG (.inl e) e (gh_pk [0,1] [] hB e e e e) e e
def spec_l01Pick (N : Nat) (x1 : Tl01Cur) (x2 : (List ByteArray)) : Option (ByteArray × Tl01Cur) :=
 (spec_l01Below N x1 (x2.length : Int)).bind fun y106 =>
 (at? x2 y106.1).bind fun x107 =>
 some (x107,y106.2)
theorem sem_spec_l01Pick (N : Nat) (x1 : Tl01Cur) (x2 : (List ByteArray)) (r : ByteArray × Tl01Cur) (h : spec_l01Pick N x1 x2 = some r) : Says Tryz.prog 114 [.ptr 0 0,RO 9 (x2.map encS)] 1 [(0,.box [RO 5 (x1.b.map encU),VI x1.i,VI x1.h])] (VS r.1) [(0,.box [RO 5 (r.2.b.map encU),VI r.2.i,VI r.2.h])] := by
 unfold spec_l01Pick at h
 refine Says.of_norm e Tryz.call114 e fun B hB => ?_
 have hm : B.m ≤ 1000 := by omega
 refine Run.so hm (.p e (.nil (.so hm (.p3 e e e (.z 5144 (Ev.lnF e) e e ?_)))))
 obtain ⟨y106,hy106,h⟩ := bindO h
 refine Ops.z 5160 (Ev.call [0] [] 0 (sem_spec_l01Below _ _ _ _ hy106) e e (.cons (.ptr e) (.d1 .nil)) e (.inl e) e e) e e ?_
 obtain ⟨x107,hx107,h⟩ := bindO h
 refine Ops.z 5176 (Ev.iaF e e hx107) e e (.p2 e e (.nil (.ret ?_)))
 obtain rfl := someO h
 exact Ends.mkG (.inl e) e (gh_pk [0] [0] hB e e e e) e e
def spec_l01Pick_i1 (N : Nat) (x1 : Tl01Cur) (x2 : (List ByteArray)) : Option (ByteArray × Tl01Cur) :=
 (spec_l01Below N x1 ((x2.length : Nat) : Int)).bind fun y106 =>
 (at? x2 y106.1).bind fun x107 =>
 some (x107,y106.2)
theorem sem_spec_l01Pick_i1 (N : Nat) (x1 : Tl01Cur) (x2 : (List ByteArray)) (r : ByteArray × Tl01Cur) (h : spec_l01Pick_i1 N x1 x2 = some r) : Says Tryz.prog 114 [.ptr 0 0,.sl 1 9 0 x2.length] 2 [(0,.box [RO 5 (x1.b.map encU),VI x1.i,VI x1.h]),(1,.vec 9 (x2.map encS))] (VS r.1) [(0,.box [RO 5 (r.2.b.map encU),VI r.2.i,VI r.2.h]),(1,.vec 9 (x2.map encS))] := by
 unfold spec_l01Pick_i1 at h
 refine Says.of_norm e Tryz.call114 e fun B hB => ?_
 have hm : B.m ≤ 1000 := by omega
 refine Run.so hm (.p e (.nil (.so hm (.p3 e e e (.p e ?_)))))
 obtain ⟨y106,hy106,h⟩ := bindO h
 refine Ops.z 5160 (Ev.call [0] [] 0 (sem_spec_l01Below _ _ _ _ hy106) e e (.cons (.ptr e) (.d1 .nil)) e (.inl e) e e) e e ?_
 obtain ⟨x107,hx107,h⟩ := bindO h
 refine Ops.z 5176 (Ev.iaW e e e hx107) e e (.z 5192 (Ev.ldE (f := encS) e e (at_some hx107).2 e e e) e e (.p e (.nil (.ret ?_))))
 obtain rfl := someO h
 exact Ends.mkG (.inl e) e (gh_pk [0] [0,1] hB e e e e) e e
def spec_l15Right (N : Nat) (x1 : Tl01Cur) : Option (Command × Tl01Cur) :=
 (spec_l01Below N x1 5).bind fun y142 =>
 (if ((w64 (1 + y142.1)) == 1) = true then
 some ((Command.mk (w64 (1 + y142.1)) 0 0 (⟨#[]⟩ : ByteArray) (⟨#[]⟩ : ByteArray) (⟨#[]⟩ : ByteArray)),y142.2)
 else
 (spec_l01Below N y142.2 4).bind fun y148 =>
 (spec_l01Below N y148.2 3).bind fun y152 =>
 (spec_l01Pick_i1 N y152.2 ([(⟨#[97]⟩ : ByteArray),(⟨#[98]⟩ : ByteArray),(⟨#[99]⟩ : ByteArray)] : List ByteArray)).bind fun y156 =>
 joinP (fun (v167 : (List Int) × Int × Int × ByteArray × ByteArray) =>
 some ((Command.mk (w64 (1 + y142.1)) (w64 (1 + y148.1)) (w64 (1 + y152.1)) y156.1 v167.2.2.2.1 v167.2.2.2.2),(Tl01Cur.mk v167.1 v167.2.1 v167.2.2.1))) fun j167 =>
 (if ((w64 (1 + y142.1)) == 3) = true then
 (spec_l01Pick_i1 N y156.2 ([(⟨#[]⟩ : ByteArray),(⟨#[49]⟩ : ByteArray),(⟨#[50]⟩ : ByteArray),(⟨#[116,104,114,101,101]⟩ : ByteArray)] : List ByteArray)).bind fun y170 =>
 j167 (y170.2.b,y170.2.i,y170.2.h,y170.1,(⟨#[]⟩ : ByteArray))
 else
 (if ((w64 (1 + y142.1)) == 5) = true then
 (spec_l01Pick_i1 N y156.2 ([(⟨#[]⟩ : ByteArray),(⟨#[49]⟩ : ByteArray),(⟨#[50]⟩ : ByteArray),(⟨#[116,104,114,101,101]⟩ : ByteArray)] : List ByteArray)).bind fun y175 =>
 (spec_l01Pick_i1 N y175.2 ([(⟨#[]⟩ : ByteArray),(⟨#[49]⟩ : ByteArray),(⟨#[50]⟩ : ByteArray),(⟨#[116,104,114,101,101]⟩ : ByteArray)] : List ByteArray)).bind fun y177 =>
 j167 (y177.2.b,y177.2.i,y177.2.h,y175.1,y177.1)
 else
 j167 (y156.2.b,y156.2.i,y156.2.h,(⟨#[]⟩ : ByteArray),(⟨#[]⟩ : ByteArray)))))
theorem sem_spec_l15Right (N : Nat) (x1 : Tl01Cur) (r : Command × Tl01Cur) (h : spec_l15Right N x1 = some r) : Says Tryz.prog 95 [.ptr 0 0] 1 [(0,.box [RO 5 (x1.b.map encU),VI x1.i,VI x1.h])] (.agg [VI r.1.Op,VI r.1.Session,VI r.1.Seq,VS r.1.Key,VS r.1.Value,VS r.1.Old]) [(0,.box [RO 5 (r.2.b.map encU),VI r.2.i,VI r.2.h])] := by
 unfold spec_l15Right at h
 refine Says.of_norm e Tryz.call95 e fun B hB => ?_
 have hm : B.m ≤ 1000 := by omega
 refine Run.so hm (.z 1000 (.al e e) e e (.nil (.so hm (.p e ?_))))
 obtain ⟨y142,hy142,h⟩ := bindO h
 refine Ops.z 5112 (Ev.call [0] [] 0 (sem_spec_l01Below _ _ _ _ hy142) e e (.cons (.ptr e) (.d1 .nil)) e (.inl e) e e) e e (.p e (.z 5144 (.bd e e) e e (.z 5160 (.al e e) e e (.y 5176 (.sto e e e e e e) e e (.nil (.seq (.so hm (.p3 e e e (.nil (.condO e h (fun g144 h => ?_) (fun g144 h => ?_)))))))))))
 ·refine Run.so hm (.p e (.y 13304 (.sto e e e e e e) e e (.nil (.ret ?_))))
  obtain rfl := someO h
  exact Ends.mkG (.inl e) e (gh_pk [0] [0] hB e e e e) e e
 ·refine Run.skip (.so hm (.p e ?_))
  obtain ⟨y148,hy148,h⟩ := bindO h
  refine Ops.z 17400 (Ev.call [0] [] 0 (sem_spec_l01Below _ _ _ _ hy148) e e (.cons (.ptr e) (.d1 .nil)) e (.inl e) e e) e e (.p2 e e (.y 17448 (.sto e e e e e e) e e (.nil (.so hm (.p e ?_)))))
  obtain ⟨y152,hy152,h⟩ := bindO h
  refine Ops.z 21496 (Ev.call [0] [] 0 (sem_spec_l01Below _ _ _ _ hy152) e e (.cons (.ptr e) (.d1 .nil)) e (.inl e) e e) e e (.p2 e e (.y 21544 (.sto e e e e e e) e e (.nil (.so hm (.p e (.z 25592 (Ev.bsW (ys := ([(⟨#[97]⟩ : ByteArray),(⟨#[98]⟩ : ByteArray),(⟨#[99]⟩ : ByteArray)] : List ByteArray)) (f := encS) e (.d2 (.d1 .nil)) e e e e e) e e ?_))))))
  obtain ⟨y156,hy156,h⟩ := bindO h
  refine Ops.z 25608 (Ev.call [0,25592] [] 0 (sem_spec_l01Pick_i1 _ _ _ _ hy156) e e (.cons (.ptr e) (.cons (.sl e) .nil)) e (.inl e) e e) e e (.p e (.y 25640 (.sto e e e e e e) e e (.nil (.seqO h (fun v167 => [(2,.ptr 1 0),(3,.ptr 2 0)]) (fun (v167 : (List Int) × Int × Int × ByteArray × ByteArray) => [(0,.box [RO 5 (v167.1.map encU),VI v167.2.1,VI v167.2.2.1]),(1,.box [VI 0,VI 0,VI 0,VS (⟨#[]⟩ : ByteArray),VS (⟨#[]⟩ : ByteArray),VS (⟨#[]⟩ : ByteArray)]),(2,.box [VI (w64 (1 + y142.1)),VI (w64 (1 + y148.1)),VI (w64 (1 + y152.1)),VS y156.1,VS v167.2.2.2.1,VS v167.2.2.2.2])]) (fun h => ?_) (fun v167 h => ?_)))))
  ·refine Run.so hm (.p2 e e (.nil (.block (.so hm (.p2 e e (.nil (.condO e h (fun g168 h => ?_) (fun g168 h => ?_))))))))
   ·refine Run.ops hm (.p e (.z 37880 (Ev.bsW (ys := ([(⟨#[]⟩ : ByteArray),(⟨#[49]⟩ : ByteArray),(⟨#[50]⟩ : ByteArray),(⟨#[116,104,114,101,101]⟩ : ByteArray)] : List ByteArray)) (f := encS) e (.d4 .nil) e e e e e) e e ?_))
    obtain ⟨y170,hy170,h⟩ := bindO h
    exact Ops.z 37896 (Ev.call [0,37880] [] 0 (sem_spec_l01Pick_i1 _ _ _ _ hy170) e e (.cons (.ptr e) (.cons (.sl e) .nil)) e (.inl e) e e) e e (.p e (.y 37928 (.sto e e e e e e) e e (.nil (⟨_,_,(gh_pk [2,3] [0,1000,5160] hB e e e e),_,h,e,e⟩))))
   ·refine Run.so hm (.p2 e e (.nil (.condO e h (fun g171 h => ?_) (fun g171 h => ?_))))
    ·refine Run.so hm (.p e (.z 46072 (Ev.bsW (ys := ([(⟨#[]⟩ : ByteArray),(⟨#[49]⟩ : ByteArray),(⟨#[50]⟩ : ByteArray),(⟨#[116,104,114,101,101]⟩ : ByteArray)] : List ByteArray)) (f := encS) e (.d4 .nil) e e e e e) e e ?_))
     obtain ⟨y175,hy175,h⟩ := bindO h
     refine Ops.z 46088 (Ev.call [0,46072] [] 0 (sem_spec_l01Pick_i1 _ _ _ _ hy175) e e (.cons (.ptr e) (.cons (.sl e) .nil)) e (.inl e) e e) e e (.p e (.y 46120 (.sto e e e e e e) e e (.nil (.ops hm (.p e (.z 50168 (Ev.bsW (ys := ([(⟨#[]⟩ : ByteArray),(⟨#[49]⟩ : ByteArray),(⟨#[50]⟩ : ByteArray),(⟨#[116,104,114,101,101]⟩ : ByteArray)] : List ByteArray)) (f := encS) e (.d4 .nil) e e e e e) e e ?_))))))
     obtain ⟨y177,hy177,h⟩ := bindO h
     exact Ops.z 50184 (Ev.call [0,50168] [] 0 (sem_spec_l01Pick_i1 _ _ _ _ hy177) e e (.cons (.ptr e) (.cons (.sl e) .nil)) e (.inl e) e e) e e (.p e (.y 50216 (.sto e e e e e e) e e (.nil (⟨_,_,(gh_pk [2,3] [0,1000,5160] hB e e e e),_,h,e,e⟩))))
    ·exact Run.skip (⟨_,_,(gh_pk [2,3] [0,1000,5160] hB e e e e),_,h,e,e⟩)
  ·refine Run.so hm (.p e (.y 54264 (.sto e e e e e e) e e (.nil (.ret ?_))))
   obtain rfl := someO h
   exact Ends.mkG (.inl e) e (gh_pk [0] [0] hB e e e e) e e
def spec_CommandOk (N : Nat) (x1 : Command) : Option (Bool) :=
 (spec_l01In N x1.Op 1 5).bind fun y167 =>
 (if (!y167) = true then
 some false
 else
 (spec_l01In N x1.Session 0 100000).bind fun y169 =>
 (if (!y169) = true then
 some false
 else
 (spec_l01In N x1.Seq 0 100000).bind fun y171 =>
 (if (!y171) = true then
 some false
 else
 (if (decide ((x1.Value.size : Int) > 12)) = true then
 some false
 else
 (if (decide ((x1.Old.size : Int) > 12)) = true then
 some false
 else
 (if (x1.Op == 1) = true then
 some (((x1.Op == 1) && ((x1.Session == 0) && ((x1.Seq == 0) && (decide (x1.Key = (⟨#[]⟩ : ByteArray)) && (decide (x1.Value = (⟨#[]⟩ : ByteArray)) && (decide (x1.Old = (⟨#[]⟩ : ByteArray)) && true)))))) ^^ false)
 else
 (spec_l01In N (x1.Key.size : Int) 1 9).bind fun y181 =>
 (if (!y181) = true then
 some false
 else
 (if (x1.Op == 2) = true then
 (if (decide (x1.Value = (⟨#[]⟩ : ByteArray))) = true then
 some (decide (x1.Old = (⟨#[]⟩ : ByteArray)))
 else
 some false)
 else
 (if (x1.Op == 4) = true then
 (if (decide (x1.Value = (⟨#[]⟩ : ByteArray))) = true then
 some (decide (x1.Old = (⟨#[]⟩ : ByteArray)))
 else
 some false)
 else
 (if (x1.Op == 3) = true then
 some (decide (x1.Old = (⟨#[]⟩ : ByteArray)))
 else
 some true))))))))))
theorem sem_spec_CommandOk (N : Nat) (x1 : Command) (r : Bool) (h : spec_CommandOk N x1 = some r) : Says Tryz.prog 111 [.agg [VI x1.Op,VI x1.Session,VI x1.Seq,VS x1.Key,VS x1.Value,VS x1.Old]] 0 [] (VB r) [] := by
 unfold spec_CommandOk at h
 refine Says.of_run s111 Tryz.call111 e fun B hB => ?_
 have hm : B.m ≤ 1000 := by omega
 refine Run.so hm (.z 1000 (.bx e e) e e (.p e (.nil (.seq (.so hm (.p2 e e ?_))))))
 obtain ⟨y167,hy167,h⟩ := bindO h
 refine Ops.z 5128 (Ev.call [] [] 0 (sem_spec_l01In _ _ _ _ _ hy167) e e (.d2 (.d1 .nil)) e (.inl e) e e) e e (.p2 e e (.askO (x := .t 7) e h (fun g168 h => ?_) (fun g168 h => ?_)))
 ·refine Ops.gn e g168 (.gn e g168 (.gn e g168 (.gn e g168 (.z 5240 (.pkT e g168 e) e e (.p e (.gn e e (.gn e e (.gn e e (.gn e e (.z 5336 (.pkT e e e) e e (.p e (.gn e e (.gn e e (.gn e e (.gn e e (.z 5432 (.pkT e e e) e e (.p e (.gn e e (.gn e e (.gn e e (.gn e e (.z 5528 (.pkT e e e) e e (.nil (.condT e e (.so hm (.p e (.nil (.ret ?_))))))))))))))))))))))))))))
  obtain rfl := someO h
  exact Ends.mkG (.inl e) e (gh_pk [0] [] hB e e e e) e e
 ·refine Ops.gp e g168 e (.gp e g168 e ?_)
  obtain ⟨y169,hy169,h⟩ := bindO h
  refine Ops.gs (s := 5208) e g168 (Ev.call [] [] 0 (sem_spec_l01In _ _ _ _ _ hy169) e e (.d2 (.d1 .nil)) e (.inl e) e e) e e (.gp e g168 e (.z 5240 (.pkF e g168 e) e e (.p e (.askO (x := .t 13) e h (fun g170 h => ?_) (fun g170 h => ?_)))))
  ·refine Ops.gn e g170 (.gn e g170 (.gn e g170 (.gn e g170 (.z 5336 (.pkT e g170 e) e e (.p e (.gn e e (.gn e e (.gn e e (.gn e e (.z 5432 (.pkT e e e) e e (.p e (.gn e e (.gn e e (.gn e e (.gn e e (.z 5528 (.pkT e e e) e e (.nil (.condT e e (.so hm (.p e (.nil (.ret ?_))))))))))))))))))))))
   obtain rfl := someO h
   exact Ends.mkG (.inl e) e (gh_pk [0] [] hB e e e e) e e
  ·refine Ops.gp e g170 e (.gp e g170 e ?_)
   obtain ⟨y171,hy171,h⟩ := bindO h
   refine Ops.gs (s := 5304) e g170 (Ev.call [] [] 0 (sem_spec_l01In _ _ _ _ _ hy171) e e (.d2 (.d1 .nil)) e (.inl e) e e) e e (.gp e g170 e (.z 5336 (.pkF e g170 e) e e (.p e (.askO (x := .t 19) e h (fun g172 h => ?_) (fun g172 h => ?_)))))
   ·refine Ops.gn e g172 (.gn e g172 (.gn e g172 (.gn e g172 (.z 5432 (.pkT e g172 e) e e (.p e (.gn e e (.gn e e (.gn e e (.gn e e (.z 5528 (.pkT e e e) e e (.nil (.condT e e (.so hm (.p e (.nil (.ret ?_))))))))))))))))
    obtain rfl := someO h
    exact Ends.mkG (.inl e) e (gh_pk [0] [] hB e e e e) e e
   ·refine Ops.gp e g172 e (.gp e g172 e (.gp e g172 e (.gp e g172 e (.z 5432 (.pkF e g172 e) e e (.p e (.askO (x := .t 25) e h (fun g173 h => ?_) (fun g173 h => ?_)))))))
    ·refine Ops.gn e g173 (.gn e g173 (.gn e g173 (.gn e g173 (.z 5528 (.pkT e g173 e) e e (.nil (.condT e e (.so hm (.p e (.nil (.ret ?_))))))))))
     obtain rfl := someO h
     exact Ends.mkG (.inl e) e (gh_pk [0] [] hB e e e e) e e
    ·refine Ops.gp e g173 e (.gp e g173 e (.gp e g173 e (.gp e g173 e (.z 5528 (.pkF e g173 e) e e (.nil (.condO e h (fun g174 h => ?_) (fun g174 h => ?_)))))))
     ·refine Run.so hm (.p e (.nil (.ret ?_)))
      obtain rfl := someO h
      exact Ends.mkG (.inl e) e (gh_pk [0] [] hB e e e e) e e
     ·refine Run.skip (.seq (.so hm (.p3 e e e (.nil (.condO e h (fun g176 h => ?_) (fun g176 h => ?_))))))
      ·refine Run.so hm (.p e (.z 17400 (.bd e e) e e (.p2 e e (.nil (.ret ?_)))))
       obtain rfl := someO h
       exact Ends.mkG (.inl e) e (gh_pk [0] [] hB e e e e) e e
      ·refine Run.skip (.seq (.so hm (.p3 e e e ?_)))
       obtain ⟨y181,hy181,h⟩ := bindO h
       refine Ops.z 21528 (Ev.call [] [] 0 (sem_spec_l01In _ _ _ _ _ hy181) e e (.d2 (.d1 .nil)) e (.inl e) e e) e e (.p e (.nil (.condO e h (fun g182 h => ?_) (fun g182 h => ?_))))
       ·refine Run.so hm (.p e (.nil (.ret ?_)))
        obtain rfl := someO h
        exact Ends.mkG (.inl e) e (gh_pk [0] [] hB e e e e) e e
       ·refine Run.skip (.seq (.so hm (.p2 e e (.nil (.block (.seq (.so hm (.p2 e e (.nil (.condO e h (fun g183 h => ?_) (fun g183 h => ?_)))))))))))
        ·refine Run.skip (.condT e g183 (.so hm (.p3 e e e (.p e (.askO (x := .t 50) e h (fun g185 h => ?_) (fun g185 h => ?_))))))
         ·refine Ops.gp e g185 e (.gp e g185 e (.gp e g185 e (.z 42072 (.pkT e g185 e) e e (.p e (.nil (.ret ?_))))))
          obtain rfl := someO h
          exact Ends.mkG (.inl e) e (gh_pk [0] [] hB e e e e) e e
         ·refine Ops.gn e g185 (.gn e g185 (.gn e g185 (.z 42072 (.pkF e g185 e) e e (.p e (.nil (.ret ?_))))))
          obtain rfl := someO h
          exact Ends.mkG (.inl e) e (gh_pk [0] [] hB e e e e) e e
        ·refine Run.ops hm (.p2 e e (.nil (.condO e h (fun g186 h => ?_) (fun g186 h => ?_))))
         ·refine Run.so hm (.p3 e e e (.p e (.askO (x := .t 50) e h (fun g188 h => ?_) (fun g188 h => ?_))))
          ·refine Ops.gp e g188 e (.gp e g188 e (.gp e g188 e (.z 42072 (.pkT e g188 e) e e (.p e (.nil (.ret ?_))))))
           obtain rfl := someO h
           exact Ends.mkG (.inl e) e (gh_pk [0] [] hB e e e e) e e
          ·refine Ops.gn e g188 (.gn e g188 (.gn e g188 (.z 42072 (.pkF e g188 e) e e (.p e (.nil (.ret ?_))))))
           obtain rfl := someO h
           exact Ends.mkG (.inl e) e (gh_pk [0] [] hB e e e e) e e
         ·refine Run.so hm (.p2 e e (.nil (.condO e h (fun g189 h => ?_) (fun g189 h => ?_))))
          ·refine Run.so hm (.p3 e e e (.p e (.nil (.ret ?_))))
           obtain rfl := someO h
           exact Ends.mkG (.inl e) e (gh_pk [0] [] hB e e e e) e e
          ·refine Run.skip (.so hm (.p e (.nil (.ret ?_))))
           obtain rfl := someO h
           exact Ends.mkG (.inl e) e (gh_pk [0] [] hB e e e e) e e
end Go.Proofs.YtkojbcnafckofaaGreat.Pe.FnStays
