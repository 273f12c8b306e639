/- Functions,as pure functions; and that Go does just that. -/
import Derived.Test.YtehknbpmpbghhaaPeFFnSettles2
namespace Go.Proofs.Ytehknbpmpbghhaa.Pe.FnSettles
open Go Go.RowKit
set_option linter.unusedVariables false
set_option linter.unusedSimpArgs false
set_option maxHeartbeats 40000000
def spec_Tick_l1 (N : Nat) (x_1 : Node) (y_294 : Node) (y_338 : Int × Int) (y_342 : (List Int)) : Nat → Int → Int → Int → Int → Int → Int → Int → Int → Int → Int → Int → (List Message) → Option (Int × Int × Int × Int × Int × Int × Int × Int × Int × Int × (List Message))
 | 0,_,_,_,_,_,_,_,_,_,_,_,_ => none
 | m + 1,x_401,x_412,x_413,x_414,x_415,x_416,x_417,x_418,x_419,x_420,x_421,x_431 =>
 (if (decide (x_401 < ((y_342.length : Nat) : Int))) = true then
 (at? y_342 x_401).bind fun x_452 =>
 (spec_l16Tell N (Tl16Run.mk (Node.mk x_412 x_413 x_414 x_415 x_416 y_294.Conf (Log.mk x_417 x_418 y_294.Log.Entries) x_419 x_420 x_421 ([x_1.Id] : List Int) y_294.Peers) x_431) (Message.mk 1 0 x_452 0 y_338.1 y_338.2 0 false ([]) ([]) (⟨#[]⟩ : ByteArray) false)).bind fun y_453 =>
 spec_Tick_l1 N x_1 y_294 y_338 y_342 m (w64 (x_401 + 1)) y_453.n.Id y_453.n.Term y_453.n.Vote y_453.n.Role y_453.n.Lead y_453.n.Log.Start y_453.n.Log.StartTerm y_453.n.Commit y_453.n.Clock y_453.n.Limit y_453.told
 else
 some (x_412,x_413,x_414,x_415,x_416,x_417,x_418,x_419,x_420,x_421,x_431))
def spec_Tick (N : Nat) (x_1 : Node) (x_2 : Int) : Option (Node × (List Message) × Bool) :=
 (spec_NodeOk N x_1).bind fun y_287 =>
 (if (!y_287) = true then
 some ((Node.mk 0 0 0 0 0 ([]) (Log.mk 0 0 ([])) 0 0 0 ([]) ([])),([] : List Message),false)
 else
 (spec_l01In N x_2 1 20).bind fun y_289 =>
 (if (!y_289) = true then
 some ((Node.mk 0 0 0 0 0 ([]) (Log.mk 0 0 ([])) 0 0 0 ([]) ([])),([] : List Message),false)
 else
 (spec_l16Copy N x_1).bind fun y_294 =>
 (if (x_1.Role == 2) = true then
 (spec_l16SendAll N (Tl16Run.mk y_294 ([]))).bind fun y_304 =>
 some ((Node.mk y_304.n.Id y_304.n.Term y_304.n.Vote y_304.n.Role y_304.n.Lead y_294.Conf (Log.mk y_304.n.Log.Start y_304.n.Log.StartTerm y_294.Log.Entries) y_304.n.Commit y_304.n.Clock y_304.n.Limit y_294.Votes y_294.Peers),y_304.told,true)
 else
 (if (decide ((w64 (x_1.Clock + 1)) < y_294.Limit)) = true then
 some ((Node.mk y_294.Id y_294.Term y_294.Vote y_294.Role y_294.Lead y_294.Conf y_294.Log y_294.Commit (w64 (x_1.Clock + 1)) y_294.Limit y_294.Votes y_294.Peers),[],true)
 else
 (spec_ConfOf N (Node.mk y_294.Id y_294.Term y_294.Vote y_294.Role y_294.Lead y_294.Conf y_294.Log y_294.Commit 0 x_2 y_294.Votes y_294.Peers)).bind fun y_310 =>
 (spec_l09In N y_310 x_1.Id).bind fun y_318 =>
 (if (!y_318) = true then
 some ((Node.mk y_294.Id y_294.Term y_294.Vote y_294.Role y_294.Lead y_294.Conf y_294.Log y_294.Commit 0 x_2 y_294.Votes y_294.Peers),[],true)
 else
 (if (x_1.Term == 100000) = true then
 some ((Node.mk y_294.Id y_294.Term y_294.Vote y_294.Role y_294.Lead y_294.Conf y_294.Log y_294.Commit 0 x_2 y_294.Votes y_294.Peers),[],true)
 else
 (spec_l16Elected N (Tl16Run.mk (Node.mk y_294.Id (w64 (x_1.Term + 1)) x_1.Id 1 0 y_294.Conf y_294.Log y_294.Commit 0 x_2 ([x_1.Id] : List Int) y_294.Peers) ([]))).bind fun y_329 =>
 (if y_329.1 = true then
 (spec_l16Lead N (Tl16Run.mk (Node.mk y_329.2.n.Id y_329.2.n.Term y_329.2.n.Vote y_329.2.n.Role y_329.2.n.Lead y_294.Conf (Log.mk y_329.2.n.Log.Start y_329.2.n.Log.StartTerm y_294.Log.Entries) y_329.2.n.Commit y_329.2.n.Clock y_329.2.n.Limit ([x_1.Id] : List Int) y_294.Peers) y_329.2.told)).bind fun y_334 =>
 some (y_334.n,y_334.told,true)
 else
 (spec_LogLast N (Log.mk y_329.2.n.Log.Start y_329.2.n.Log.StartTerm y_294.Log.Entries)).bind fun y_338 =>
 (spec_l16Others N y_310 x_1.Id).bind fun y_342 =>
 joinP (fun (v_398 : Int × Int × Int × Int × Int × Int × Int × Int × Int × Int × (List Message)) =>
 some ((Node.mk v_398.1 v_398.2.1 v_398.2.2.1 v_398.2.2.2.1 v_398.2.2.2.2.1 y_294.Conf (Log.mk v_398.2.2.2.2.2.1 v_398.2.2.2.2.2.2.1 y_294.Log.Entries) v_398.2.2.2.2.2.2.2.1 v_398.2.2.2.2.2.2.2.2.1 v_398.2.2.2.2.2.2.2.2.2.1 ([x_1.Id] : List Int) y_294.Peers),v_398.2.2.2.2.2.2.2.2.2.2,true)) fun j_398 =>
 (spec_Tick_l1 N x_1 y_294 y_338 y_342 N 0 y_329.2.n.Id y_329.2.n.Term y_329.2.n.Vote y_329.2.n.Role y_329.2.n.Lead y_329.2.n.Log.Start y_329.2.n.Log.StartTerm y_329.2.n.Commit y_329.2.n.Clock y_329.2.n.Limit y_329.2.told).bind (fun v_442 => j_398 (v_442.1,v_442.2.1,v_442.2.2.1,v_442.2.2.2.1,v_442.2.2.2.2.1,v_442.2.2.2.2.2.1,v_442.2.2.2.2.2.2.1,v_442.2.2.2.2.2.2.2.1,v_442.2.2.2.2.2.2.2.2.1,v_442.2.2.2.2.2.2.2.2.2.1,v_442.2.2.2.2.2.2.2.2.2.2)))))))))
theorem sem_spec_Tick (N : Nat) (x_1 : Node) (x_2 : Int) (r : Node × (List Message) × Bool) (h : spec_Tick N x_1 x_2 = some r) : Says Try.prog 37 [.agg [VI x_1.Id,VI x_1.Term,VI x_1.Vote,VI x_1.Role,VI x_1.Lead,RO 3 (x_1.Conf.map encI),VI x_1.Log.Start,VI x_1.Log.StartTerm,RO 51 (x_1.Log.Entries.map encEntry),VI x_1.Commit,VI x_1.Clock,VI x_1.Limit,RO 3 (x_1.Votes.map encI),RO 135 (x_1.Peers.map encPeer)],VI x_2] 0 [] (.tup [.agg [VI r.1.Id,VI r.1.Term,VI r.1.Vote,VI r.1.Role,VI r.1.Lead,.sl 0 3 0 r.1.Conf.length,VI r.1.Log.Start,VI r.1.Log.StartTerm,.sl 1 51 0 r.1.Log.Entries.length,VI r.1.Commit,VI r.1.Clock,VI r.1.Limit,.sl 2 3 0 r.1.Votes.length,.sl 3 135 0 r.1.Peers.length],.sl 4 58 0 r.2.1.length,VB r.2.2]) [(0,.vec 3 (r.1.Conf.map encI)),(1,.vec 51 (r.1.Log.Entries.map encEntry)),(2,.vec 3 (r.1.Votes.map encI)),(3,.vec 135 (r.1.Peers.map encPeer)),(4,.vec 58 (r.2.1.map (encMessage false)))] := by
 unfold spec_Tick at h
 refine Says.of_run s37 Try.call37 rfl fun B hB => ?_
 have hm : B.m ≤ 1000 := by omega
 refine Run.seq (Run.ops hm (Ops.st (s := 1000) (.bx rfl rfl) rfl rfl (Ops.st (s := 1016) (.al rfl rfl) rfl rfl (.p2 rfl rfl (Ops.nil (Run.seq (Run.seq (Run.ops hm (Ops.p rfl ?_)))))))))
 obtain ⟨y_287,hy_287,h⟩ := bindO h
 refine Ops.st (s := 5112) (Ev.call [] [] 0 (sem_spec_NodeOk _ _ _ hy_287) rfl rfl (.cons (.agg (.d4 (.d4 (.d4 (.d2 .nil))))) .nil) rfl (.inl rfl) rfl rfl) rfl rfl (.p2 rfl rfl (Ops.askO (x := .t 16) rfl h (fun g_288 h => ?_) (fun g_288 h => ?_)))
 ·refine Ops.gn rfl g_288 (Ops.gn rfl g_288 (Ops.gn rfl g_288 (Ops.st (s := 5208) (.pkT rfl g_288 rfl) rfl rfl (Ops.nil (Run.condT rfl rfl (Run.seq (Run.ops hm (Ops.st (s := 9192) (.bd rfl rfl) rfl rfl (Ops.st (s := 9208) (Ev.bsW (ys := ([] : List Message)) (f := (encMessage false)) rfl .nil rfl rfl rfl rfl rfl) rfl rfl (Ops.s0 (s := 9224) (.sto rfl rfl rfl rfl rfl rfl) rfl rfl (.p2 rfl rfl (Ops.nil (Run.ret ?_)))))))))))))
  obtain rfl := someO h
  exact Ends.mkG (.inl rfl) rfl (Gh.trans (Gh.trans (gh_prn [0,1,2] [9208] hB rfl) (gh_nil [0] [] hB rfl rfl rfl)) (gh_pk [0,1,2] [10000000,10000001,10000002,10000003,9208] hB rfl rfl rfl rfl)) rfl rfl
 ·refine Ops.gp rfl g_288 rfl ?_
  obtain ⟨y_289,hy_289,h⟩ := bindO h
  refine Ops.gs (s := 5176) rfl g_288 (Ev.call [] [] 0 (sem_spec_l01In _ _ _ _ _ hy_289) rfl rfl (.d2 (.d1 .nil)) rfl (.inl rfl) rfl rfl) rfl rfl (Ops.gp rfl g_288 rfl (Ops.st (s := 5208) (.pkF rfl g_288 rfl) rfl rfl (Ops.nil (Run.condO rfl h (fun g_290 h => ?_) (fun g_290 h => ?_)))))
  ·refine Run.seq (Run.ops hm (Ops.st (s := 9192) (.bd rfl rfl) rfl rfl (Ops.st (s := 9208) (Ev.bsW (ys := ([] : List Message)) (f := (encMessage false)) rfl .nil rfl rfl rfl rfl rfl) rfl rfl (Ops.s0 (s := 9224) (.sto rfl rfl rfl rfl rfl rfl) rfl rfl (.p2 rfl rfl (Ops.nil (Run.ret ?_)))))))
   obtain rfl := someO h
   exact Ends.mkG (.inl rfl) rfl (Gh.trans (Gh.trans (gh_prn [0,1,2] [9208] hB rfl) (gh_nil [0] [] hB rfl rfl rfl)) (gh_pk [0,1,2] [10000000,10000001,10000002,10000003,9208] hB rfl rfl rfl rfl)) rfl rfl
  ·refine Run.skip (Run.seq (Run.ops hm (Ops.p rfl ?_)))
   obtain ⟨y_294,hy_294,h⟩ := bindO h
   refine Ops.st (s := 13304) (Ev.call [] [] 4 (sem_spec_l16Copy _ _ _ hy_294) rfl rfl (.cons (.agg (.d4 (.d4 (.d4 (.d2 .nil))))) .nil) rfl (.inl rfl) rfl rfl) rfl rfl (Ops.st (s := 13320) (.bd rfl rfl) rfl rfl (Ops.st (s := 13336) (.bx rfl rfl) rfl rfl (Ops.p rfl (Ops.nil (Run.seq (Run.seq (Run.ops hm (.p3 rfl rfl rfl (Ops.nil (Run.condO rfl h (fun g_300 h => ?_) (fun g_300 h => ?_)))))))))))
   ·refine Run.seq (Run.ops hm (Ops.p rfl ?_))
    obtain ⟨y_304,hy_304,h⟩ := bindO h
    refine Ops.st (s := 21496) (Ev.call [13336,13304,13305,13306,13307] [] 1 (sem_spec_l16SendAll _ _ _ hy_304) rfl rfl (.cons (.ptr rfl) .nil) rfl (.inl rfl) rfl rfl) rfl rfl (Ops.nil (Run.seq (Run.draw hm hmix (OpsD.p rfl (OpsD.p rfl (OpsD.p rfl (OpsD.p rfl (OpsD.p rfl (OpsD.p rfl (OpsD.p rfl (OpsD.p rfl (OpsD.s0 (s := 25704) (.sto rfl rfl rfl rfl rfl rfl) rfl rfl (OpsD.p rfl (OpsD.p rfl (OpsD.nil ⟨by kernel_rfl,?_⟩)))))))))))))))
    refine Run.ret ?_
    obtain rfl := someO h
    exact Ends.mkG (.inl rfl) rfl (gh_pk [0,1,2] [13304,13305,13306,13307,21496] hB rfl rfl rfl rfl) rfl rfl
   ·refine Run.skip (Run.seq (Run.ops hm (.p3 rfl rfl rfl (.p3 rfl rfl rfl (Ops.p rfl (Ops.s0 (s := 29784) (.sto rfl rfl rfl rfl rfl rfl) rfl rfl (Ops.nil (Run.seq (Run.seq (Run.draw hm hmix (OpsD.p rfl (OpsD.p rfl (OpsD.p rfl (OpsD.p rfl (OpsD.p rfl (OpsD.p rfl (OpsD.p rfl (OpsD.p rfl (OpsD.p rfl (OpsD.p rfl (OpsD.p rfl (OpsD.nil ⟨by kernel_rfl,?_⟩))))))))))))))))))))))
    refine Run.condO rfl h (fun g_306 h => ?_) (fun g_306 h => ?_)
    ·refine Run.seq (Run.draw hm hmix (OpsD.p rfl (OpsD.p rfl (OpsD.p rfl (OpsD.p rfl (OpsD.p rfl (OpsD.p rfl (OpsD.p rfl (OpsD.p rfl (OpsD.s0 (s := 37992) (.sto rfl rfl rfl rfl rfl rfl) rfl rfl (OpsD.p rfl (OpsD.p rfl (OpsD.nil ⟨by kernel_rfl,?_⟩)))))))))))))
     refine Run.ret ?_
     obtain rfl := someO h
     exact Ends.mkG (.inl rfl) rfl (Gh.trans (Gh.trans (gh_prn [0,1,2] [13304,13305,13306,13307] hB rfl) (gh_nil [1] [] hB rfl rfl rfl)) (gh_pk [0,1,2] [13304,13305,13306,13307,10000000] hB rfl rfl rfl rfl)) rfl rfl
    ·refine Run.skip (Run.seq (Run.ops hm (.p3 rfl rfl rfl (Ops.p rfl (Ops.s0 (s := 42024) (.sto rfl rfl rfl rfl rfl rfl) rfl rfl (Ops.nil (Run.seq (Run.ops hm (.p3 rfl rfl rfl (.p2 rfl rfl (Ops.s0 (s := 46136) (.sto rfl rfl rfl rfl rfl rfl) rfl rfl (Ops.nil (Run.seq (Run.ops hm (.p3 rfl rfl rfl (Ops.p rfl ?_))))))))))))))))
     obtain ⟨y_310,hy_310,h⟩ := bindO h
     refine Ops.st (s := 50216) (Ev.call [] [13304,13305,13306,13307] 1 (sem_spec_ConfOf _ _ _ hy_310) rfl rfl (.cons (.agg (.d4 (.d1 (.cons (.borrow rfl (by decide) (lendW (fun _ => rfl) _ rfl)) (.d2 (.cons (.borrow rfl (by decide) (lendW (fun _ => rfl) _ rfl)) (.d2 (.d1 (.cons (.borrow rfl (by decide) (lendW (fun _ => rfl) _ rfl)) (.cons (.borrow rfl (by decide) (lendW (fun _ => rfl) _ rfl)) .nil)))))))))) .nil) rfl (.inr ⟨rfl,ownL_root ⟨own_rows (fun _ => rfl) _,trivial⟩⟩) rfl rfl) rfl rfl ?_
     refine Ops.p rfl (Ops.nil (Run.seq (Run.seq (Run.ops hm (.p3 rfl rfl rfl ?_)))))
     obtain ⟨y_318,hy_318,h⟩ := bindO h
     refine Ops.st (s := 54296) (Ev.call [] [50216] 0 (sem_spec_l09In _ _ _ _ hy_318) rfl rfl (.cons (.borrow rfl (by decide) (lendW (fun _ => rfl) _ rfl)) (.d1 .nil)) rfl (.inr ⟨rfl,ownL_root trivial⟩) rfl rfl) rfl rfl ?_
     refine Ops.p rfl (Ops.p rfl (Ops.askO (x := .t 85) rfl h (fun g_319 h => ?_) (fun g_319 h => ?_)))
     ·refine Ops.gn rfl g_319 (Ops.gn rfl g_319 (Ops.gn rfl g_319 (Ops.st (s := 54392) (.pkT rfl g_319 rfl) rfl rfl (Ops.nil (Run.condT rfl rfl (Run.seq (Run.draw hm hmix (OpsD.p rfl (OpsD.p rfl (OpsD.p rfl (OpsD.p rfl (OpsD.p rfl (OpsD.p rfl (OpsD.p rfl (OpsD.p rfl (OpsD.s0 (s := 58472) (.sto rfl rfl rfl rfl rfl rfl) rfl rfl (OpsD.p rfl (OpsD.p rfl (OpsD.nil ⟨by kernel_rfl,?_⟩)))))))))))))))))))
      refine Run.ret ?_
      obtain rfl := someO h
      exact Ends.mkG (.inl rfl) rfl (Gh.trans (Gh.trans (gh_prn [0,1,2] [13304,13305,13306,13307] hB rfl) (gh_nil [1] [] hB rfl rfl rfl)) (gh_pk [0,1,2] [13304,13305,13306,13307,10000000] hB rfl rfl rfl rfl)) rfl rfl
     ·refine Ops.gp rfl g_319 rfl (Ops.gp rfl g_319 rfl (Ops.gp rfl g_319 rfl (Ops.st (s := 54392) (.pkF rfl g_319 rfl) rfl rfl (Ops.nil (Run.condO rfl h (fun g_320 h => ?_) (fun g_320 h => ?_))))))
      ·refine Run.seq (Run.draw hm hmix (OpsD.p rfl (OpsD.p rfl (OpsD.p rfl (OpsD.p rfl (OpsD.p rfl (OpsD.p rfl (OpsD.p rfl (OpsD.p rfl (OpsD.s0 (s := 58472) (.sto rfl rfl rfl rfl rfl rfl) rfl rfl (OpsD.p rfl (OpsD.p rfl (OpsD.nil ⟨by kernel_rfl,?_⟩)))))))))))))
       refine Run.ret ?_
       obtain rfl := someO h
       exact Ends.mkG (.inl rfl) rfl (Gh.trans (Gh.trans (gh_prn [0,1,2] [13304,13305,13306,13307] hB rfl) (gh_nil [1] [] hB rfl rfl rfl)) (gh_pk [0,1,2] [13304,13305,13306,13307,10000000] hB rfl rfl rfl rfl)) rfl rfl
      ·refine Run.skip (Run.seq (Run.ops hm (.p3 rfl rfl rfl (.p3 rfl rfl rfl (Ops.p rfl (Ops.s0 (s := 62552) (.sto rfl rfl rfl rfl rfl rfl) rfl rfl (Ops.nil (Run.seq (Run.ops hm (.p3 rfl rfl rfl (.p3 rfl rfl rfl (Ops.s0 (s := 66632) (.sto rfl rfl rfl rfl rfl rfl) rfl rfl (Ops.nil (Run.seq (Run.ops hm (.p3 rfl rfl rfl (Ops.p rfl (Ops.s0 (s := 70696) (.sto rfl rfl rfl rfl rfl rfl) rfl rfl (Ops.nil (Run.seq (Run.ops hm (.p3 rfl rfl rfl (Ops.p rfl (Ops.s0 (s := 74792) (.sto rfl rfl rfl rfl rfl rfl) rfl rfl (Ops.nil (Run.seq (Run.ops hm (.p3 rfl rfl rfl (Ops.st (s := 78872) (Ev.bsW (ys := ([x_1.Id] : List Int)) (f := encI) rfl (.d1 .nil) rfl rfl rfl rfl rfl) rfl rfl (.p3 rfl rfl rfl (Ops.s0 (s := 78936) (.sto rfl rfl rfl rfl rfl rfl) rfl rfl (Ops.nil (Run.seq (Run.seq (Run.ops hm (Ops.p rfl ?_))))))))))))))))))))))))))))))))))))
       obtain ⟨y_329,hy_329,h⟩ := bindO h
       refine Ops.st (s := 82936) (Ev.call [13336,13304,13305,78872,13307] [] 1 (sem_spec_l16Elected _ _ _ hy_329) rfl rfl (.cons (.ptr rfl) .nil) rfl (.inl rfl) rfl rfl) rfl rfl (Ops.nil (Run.condO rfl h (fun g_330 h => ?_) (fun g_330 h => ?_)))
       ·refine Run.seq (Run.ops hm (Ops.p rfl ?_))
        obtain ⟨y_334,hy_334,h⟩ := bindO h
        refine Ops.st (s := 87032) (Ev.call [13336,13304,13305,78872,13307,82936] [] 5 (sem_spec_l16Lead _ _ _ hy_334) rfl rfl (.cons (.ptr rfl) .nil) rfl (.inl rfl) rfl rfl) rfl rfl (Ops.nil (Run.seq (Run.draw hm hmix (OpsD.p rfl (OpsD.p rfl (OpsD.p rfl (OpsD.p rfl (OpsD.p rfl (OpsD.p rfl (OpsD.p rfl (OpsD.p rfl (OpsD.s0 (s := 91240) (.sto rfl rfl rfl rfl rfl rfl) rfl rfl (OpsD.p rfl (OpsD.p rfl (OpsD.nil ⟨by kernel_rfl,?_⟩)))))))))))))))
        refine Run.ret ?_
        obtain rfl := someO h
        exact Ends.mkG (.inl rfl) rfl (gh_pk [0,1,2] [87032,87033,87034,87035,87036] hB rfl rfl rfl rfl) rfl rfl
       ·refine Run.skip (Run.seq (Run.ops hm (.p3 rfl rfl rfl (.p2 rfl rfl ?_))))
        obtain ⟨y_338,hy_338,h⟩ := bindO h
        refine Ops.st (s := 95288) (Ev.call [] [13305] 0 (sem_spec_LogLast _ _ _ hy_338) rfl rfl (.cons (.agg (.d2 (.cons (.borrow rfl (by decide) (lendW (fun _ => rfl) _ rfl)) .nil))) .nil) rfl (.inr ⟨rfl,ownL_root trivial⟩) rfl rfl) rfl rfl ?_
        refine Ops.p rfl (.p3 rfl rfl rfl (Ops.p rfl (Ops.nil (Run.seq (Run.ops hm (.p3 rfl rfl rfl ?_))))))
        obtain ⟨y_342,hy_342,h⟩ := bindO h
        refine Ops.st (s := 99352) (Ev.call [] [50216] 1 (sem_spec_l16Others _ _ _ _ hy_342) rfl rfl (.cons (.borrow rfl (by decide) (lendW (fun _ => rfl) _ rfl)) (.d1 .nil)) rfl (.inr ⟨rfl,ownL_root ⟨own_rows (fun _ => rfl) _,trivial⟩⟩) rfl rfl) rfl rfl ?_
        refine Ops.p rfl (Ops.nil (Run.seqO h (fun v_398 => [(4,.ptr 0 0),(7,.ptr 1 0)]) (fun (v_398 : Int × Int × Int × Int × Int × Int × Int × Int × Int × Int × (List Message)) => [(0,.box [VI 0,VI 0,VI 0,VI 0,VI 0,.sl 2 3 0 (([] : (List Int)).length),VI 0,VI 0,.sl 3 51 0 (([] : (List Entry)).length),VI 0,VI 0,VI 0,.sl 4 3 0 (([] : (List Int)).length),.sl 5 135 0 (([] : (List Peer)).length)]),(1,.box [VI v_398.1,VI v_398.2.1,VI v_398.2.2.1,VI v_398.2.2.2.1,VI v_398.2.2.2.2.1,.sl 6 3 0 y_294.Conf.length,VI v_398.2.2.2.2.2.1,VI v_398.2.2.2.2.2.2.1,.sl 7 51 0 y_294.Log.Entries.length,VI v_398.2.2.2.2.2.2.2.1,VI v_398.2.2.2.2.2.2.2.2.1,VI v_398.2.2.2.2.2.2.2.2.2.1,.sl 8 3 0 (([x_1.Id] : List Int).length),.sl 9 135 0 y_294.Peers.length,.sl 10 58 0 v_398.2.2.2.2.2.2.2.2.2.2.length]),(2,.vec 3 (([] : (List Int)).map encI)),(3,.vec 51 (([] : (List Entry)).map encEntry)),(4,.vec 3 (([] : (List Int)).map encI)),(5,.vec 135 (([] : (List Peer)).map encPeer)),(6,.vec 3 (y_294.Conf.map encI)),(7,.vec 51 (y_294.Log.Entries.map encEntry)),(8,.vec 3 (([x_1.Id] : List Int).map encI)),(9,.vec 135 (y_294.Peers.map encPeer)),(10,.vec 58 (v_398.2.2.2.2.2.2.2.2.2.2.map (encMessage false)))]) (fun h => ?_) (fun v_398 h => ?_)))
        ·refine Run.seq (Run.ops hm (Ops.p rfl (Ops.nil (Run.block ?_))))
         obtain ⟨res_442,h,hk_442⟩ := bindO h
         refine Run.loop (n := N) (fun m_442 fr σ => ∃ (x_401 : Int),∃ (x_412 : Int),∃ (x_413 : Int),∃ (x_414 : Int),∃ (x_415 : Int),∃ (x_416 : Int),∃ (x_417 : Int),∃ (x_418 : Int),∃ (x_419 : Int),∃ (x_420 : Int),∃ (x_421 : Int),∃ (x_431 : (List Message)),spec_Tick_l1 N x_1 y_294 y_338 y_342 m_442 x_401 x_412 x_413 x_414 x_415 x_416 x_417 x_418 x_419 x_420 x_421 x_431 = some res_442 ∧ fr = [(4,.ptr 0 0),(7,.ptr 1 0),(9,VI y_338.1),(10,VI y_338.2),(11,.sl 2 3 0 y_342.length),(12,VI x_401)] ∧ σ = [(0,.box [VI 0,VI 0,VI 0,VI 0,VI 0,.sl 3 3 0 (([] : (List Int)).length),VI 0,VI 0,.sl 4 51 0 (([] : (List Entry)).length),VI 0,VI 0,VI 0,.sl 5 3 0 (([] : (List Int)).length),.sl 6 135 0 (([] : (List Peer)).length)]),(1,.box [VI x_412,VI x_413,VI x_414,VI x_415,VI x_416,.sl 7 3 0 y_294.Conf.length,VI x_417,VI x_418,.sl 8 51 0 y_294.Log.Entries.length,VI x_419,VI x_420,VI x_421,.sl 9 3 0 (([x_1.Id] : List Int).length),.sl 10 135 0 y_294.Peers.length,.sl 11 58 0 x_431.length]),(2,.vec 3 (y_342.map encI)),(3,.vec 3 (([] : (List Int)).map encI)),(4,.vec 51 (([] : (List Entry)).map encEntry)),(5,.vec 3 (([] : (List Int)).map encI)),(6,.vec 135 (([] : (List Peer)).map encPeer)),(7,.vec 3 (y_294.Conf.map encI)),(8,.vec 51 (y_294.Log.Entries.map encEntry)),(9,.vec 3 (([x_1.Id] : List Int).map encI)),(10,.vec 135 (y_294.Peers.map encPeer)),(11,.vec 58 (x_431.map (encMessage false)))]) (Gh.trans (Gh.trans (gh_prn [4,7,9,10,11,12] [1016,13336,99352,13304,13305,78872,13307,82936] hB rfl) (gh_nil [] [1016] hB rfl rfl rfl)) (gh_pk [4,7,9,10,11,12] [1016,13336,99352,20000000,20000001,20000002,20000003,13304,13305,78872,13307,82936] hB rfl rfl rfl rfl)) ⟨_,_,_,_,_,_,_,_,_,_,_,_,h,rfl,rfl⟩ ?_
         rintro m_442 fr σ ⟨x_401,x_412,x_413,x_414,x_415,x_416,x_417,x_418,x_419,x_420,x_421,x_431,h,rfl,rfl⟩
         obtain _ | m_442 := m_442
         ·rw [spec_Tick_l1] at h; cases h
         rw [spec_Tick_l1] at h
         refine Run.seq (Run.seq (Run.ops hm (.p3 rfl rfl rfl (Ops.p rfl (Ops.nil (Run.condO rfl h (fun g_445 h => ?_) (fun g_445 h => ?_)))))))
         ·refine Run.skip (Run.seq (Run.block (Run.ops hm (.p3 rfl rfl rfl ?_))))
          obtain ⟨x_452,hx_452,h⟩ := bindO h
          refine Ops.st (s := 115736) (Ev.iaW rfl rfl rfl hx_452) rfl rfl (Ops.st (s := 115752) (Ev.ldE (f := encI) rfl rfl (at_some hx_452).2 rfl rfl rfl) rfl rfl (.p2 rfl rfl (Ops.st (s := 115800) (.bd rfl rfl) rfl rfl ?_)))
          obtain ⟨y_453,hy_453,h⟩ := bindO h
          exact Ops.st (s := 115816) (Ev.call [1,7,8,9,10,11] [] 1 (sem_spec_l16Tell _ _ _ _ hy_453) rfl rfl (.cons (.ptr rfl) (.cons (.agg (.d4 (.d4 (.cons (.nil _ _) (.cons (.nil _ _) (.d2 .nil)))))) .nil)) rfl (.inl rfl) rfl rfl) rfl rfl (Ops.nil (Run.ops hm (.p3 rfl rfl rfl (Ops.nil (⟨m_442,Nat.lt_succ_self m_442,_,_,(gh_pk [4,7,9,10,11,12] [0,1,2,3,4,5,6,7,8,9,10,115816] hB rfl rfl rfl rfl),_,_,_,_,_,_,_,_,_,_,_,_,h,rfl,rfl⟩)))))
         ·refine Run.exit ?_
          obtain rfl := someO h
          have h := hk_442
          exact ⟨_,_,(gh_pk [4,7] [0,1,3,4,5,6,7,8,9,10,11] hB rfl rfl rfl rfl),_,h,rfl,rfl⟩
        ·refine Run.seq (Run.draw hm hmix (OpsD.p rfl (OpsD.p rfl (OpsD.p rfl (OpsD.p rfl (OpsD.p rfl (OpsD.p rfl (OpsD.p rfl (OpsD.p rfl (OpsD.s0 (s := 119912) (.sto rfl rfl rfl rfl rfl rfl) rfl rfl (OpsD.p rfl (OpsD.p rfl (OpsD.nil ⟨by kernel_rfl,?_⟩)))))))))))))
         refine Run.ret ?_
         obtain rfl := someO h
         exact Ends.mkG (.inl rfl) rfl (gh_pk [0,1,2] [6,7,8,9,10] hB rfl rfl rfl rfl) rfl rfl
def spec_l16Take_l1 (N : Nat) (x_4 : (List Message)) : Nat → Int → (List Message) → Option ((List Message))
 | 0,_,_ => none
 | m + 1,x_207,x_209 =>
 (if (decide (x_207 < (x_4.length : Int))) = true then
 joinP (fun (v_244 : (List Message)) =>
 spec_l16Take_l1 N x_4 m (w64 (x_207 + 1)) v_244) fun j_244 =>
 (if (decide (((x_209.length : Nat) : Int) < 24)) = true then
 (at? x_4 x_207).bind fun x_248 =>
 (if (x_248.Kind != 5) = true then
 (at? x_4 x_207).bind fun x_252 =>
 (cat? x_209 ([x_252] : List Message)).bind fun x_253 =>
 j_244 x_253
 else
 j_244 x_209)
 else
 j_244 x_209)
 else
 some x_209)
def spec_l16Take_l1_r (N : Nat) (x_4 : (List Message)) : (List Message) → Int → (List Message) → Option ((List Message))
 | [],x_207,x_209 =>
 some x_209
 | hd :: tl,x_207,x_209 =>
 joinP (fun (v_244 : (List Message)) =>
 spec_l16Take_l1_r N x_4 tl (w64 (x_207 + 1)) v_244) fun j_244 =>
 (if (decide (((x_209.length : Nat) : Int) < 24)) = true then
 (some hd).bind fun x_248 =>
 (if (x_248.Kind != 5) = true then
 (some hd).bind fun x_252 =>
 (cat? x_209 ([x_252] : List Message)).bind fun x_253 =>
 j_244 x_253
 else
 j_244 x_209)
 else
 j_244 x_209)
theorem spec_l16Take_l1_rng (N : Nat) (x_4 : (List Message)) (hx : x_4.length ≤ 1099511627776) : ∀ (d k m : Nat) (x_209 : (List Message)),x_4.length = k + d → d < m → spec_l16Take_l1 N x_4 m (k : Int) x_209 = spec_l16Take_l1_r N x_4 (x_4.drop k) (k : Int) x_209 := by
 intro d
 induction d with
 | zero =>
  intro k m x_209 hd hm
  obtain ⟨m,rfl⟩ : ∃ q,m = q + 1 := ⟨m - 1,by omega⟩
  rw [spec_l16Take_l1,if_neg (by simp; omega),List.drop_eq_nil_of_le (by omega),spec_l16Take_l1_r]
 | succ d ih =>
  intro k m x_209 hd hm
  obtain ⟨m,rfl⟩ : ∃ q,m = q + 1 := ⟨m - 1,by omega⟩
  have hk : k < x_4.length := by omega
  rw [spec_l16Take_l1,if_pos (by simp; omega),List.drop_eq_getElem_cons hk,spec_l16Take_l1_r]
  have h1 := at_lt hk
  have h2 := w64_succ (k := k) (by omega)
  have h3 := ih (k + 1) m
  simp only [h1,h2,h3 _ (by omega) (by omega)]
theorem spec_l16Take_l1_eq {N : Nat} (x_4 : (List Message)) (hx : x_4.length ≤ 1099511627776) (hN : x_4.length < N) (x_209 : (List Message)) : spec_l16Take_l1 N x_4 N 0 x_209 = spec_l16Take_l1_r N x_4 x_4 0 x_209 := spec_l16Take_l1_rng N x_4 hx x_4.length 0 N x_209 (by omega) hN
def spec_l16Take (N : Nat) (x_1 : Tl16Cluster) (x_2 : Int) (x_3 : Node) (x_4 : (List Message)) : Option (Tl16Cluster) :=
 (at? x_1.nodes x_2).bind fun x_180 =>
 (spec_l16Take_l1 N x_4 N 0 x_1.net).bind (fun v_231 => some (Tl16Cluster.mk (x_1.nodes.set x_2.toNat x_3) v_231))
theorem sem_spec_l16Take (N : Nat) (x_1 : Tl16Cluster) (x_2 : Int) (x_3 : Node) (x_4 : (List Message)) (r : Tl16Cluster) (h : spec_l16Take N x_1 x_2 x_3 x_4 = some r) : Says Try.prog 143 [.ptr 0 0,VI x_2,.agg [VI x_3.Id,VI x_3.Term,VI x_3.Vote,VI x_3.Role,VI x_3.Lead,RO 3 (x_3.Conf.map encI),VI x_3.Log.Start,VI x_3.Log.StartTerm,RO 51 (x_3.Log.Entries.map encEntry),VI x_3.Commit,VI x_3.Clock,VI x_3.Limit,RO 3 (x_3.Votes.map encI),RO 135 (x_3.Peers.map encPeer)],RO 58 (x_4.map (encMessage false))] 3 [(0,.box [.sl 1 56 0 x_1.nodes.length,.sl 2 58 0 x_1.net.length]),(1,.vec 56 (x_1.nodes.map (encNode false))),(2,.vec 58 (x_1.net.map (encMessage false)))] (.tup []) [(0,.box [.sl 3 56 0 r.nodes.length,.sl 4 58 0 r.net.length]),(1,.gone),(2,.gone),(3,.vec 56 (r.nodes.map (encNode false))),(4,.vec 58 (r.net.map (encMessage false)))] := by
 unfold spec_l16Take at h
 refine Says.of_run s143 Try.call143 rfl fun B hB => ?_
 have hm : B.m ≤ 1000 := by omega
 refine Run.seq (Run.ops hm (Ops.st (s := 1000) (.bx rfl rfl) rfl rfl (Ops.nil (Run.seq (Run.draw hm hmix (OpsD.p rfl (OpsD.p rfl (OpsD.p rfl (OpsD.p rfl (OpsD.p rfl (OpsD.p rfl ?_)))))))))))
 obtain ⟨x_180,hx_180,h⟩ := bindO h
 refine OpsD.st (s := 5192) (Ev.iaW rfl rfl rfl hx_180) rfl rfl (OpsD.s0 (s := 5208) (Ev.stE (f := (encNode false)) (v' := x_3) rfl rfl (at_some hx_180).2 rfl (.d4 (.d4 (.d4 (.d2 .nil)))) rfl rfl rfl rfl rfl) rfl rfl (OpsD.nil ⟨by kernel_rfl,?_⟩))
 refine Run.seq (Run.ops hm (Ops.p rfl (Ops.nil (Run.block ?_))))
 obtain ⟨res_231,h,hk_231⟩ := bindO h
 refine Run.loop (n := N) (fun m_231 fr σ => ∃ (x_207 : Int),∃ (x_209 : (List Message)),spec_l16Take_l1 N x_4 m_231 x_207 x_209 = some res_231 ∧ fr = [(0,.ptr 0 0),(3,RO 58 (x_4.map (encMessage false))),(8,VI x_207)] ∧ σ = [(0,.box [.sl 3 56 0 ((x_1.nodes.set x_2.toNat x_3).length),.sl 4 58 0 x_209.length]),(1,.gone),(2,.gone),(3,.vec 56 ((x_1.nodes.set x_2.toNat x_3).map (encNode false))),(4,.vec 58 (x_209.map (encMessage false)))]) (Gh.trans (Gh.trans (gh_prn [0,3,8] [0,1,2] hB rfl) (gh_mvE [0,3,8] [1,2] hB rfl rfl)) (gh_pk [0,3,8] [0,1,2,30000001,30000002] hB rfl rfl (by first | rfl | (simp only [List.length_set]; done) | (simp only [List.length_set]; rfl)) (by first | rfl | (simp only [List.length_set]; done) | (simp only [List.length_set]; rfl)))) ⟨_,_,h,rfl,rfl⟩ ?_
 rintro m_231 fr σ ⟨x_207,x_209,h,rfl,rfl⟩
 obtain _ | m_231 := m_231
 ·rw [spec_l16Take_l1] at h; cases h
 rw [spec_l16Take_l1] at h
 refine Run.seq (Run.seq (Run.ops hm (.p2 rfl rfl (Ops.st (s := 13320) (Ev.lnF rfl) rfl rfl (Ops.p rfl (Ops.nil (Run.condO rfl h (fun g_234 h => ?_) (fun g_234 h => ?_))))))))
 ·refine Run.skip (Run.seqO h (fun v_244 => [(0,.ptr 0 0),(3,RO 58 (x_4.map (encMessage false))),(8,VI x_207)]) (fun (v_244 : (List Message)) => [(0,.box [.sl 3 56 0 ((x_1.nodes.set x_2.toNat x_3).length),.sl 4 58 0 v_244.length]),(1,.gone),(2,.gone),(3,.vec 56 ((x_1.nodes.set x_2.toNat x_3).map (encNode false))),(4,.vec 58 (v_244.map (encMessage false)))]) (fun h => ?_) (fun v_244 h => ?_))
  ·refine Run.block (Run.seq (Run.ops hm (.p3 rfl rfl rfl (.p3 rfl rfl rfl (Ops.p rfl (Ops.askO (x := .t 28) rfl h (fun g_247 h => ?_) (fun g_247 h => ?_)))))))
   ·refine Ops.gp rfl g_247 rfl (Ops.gp rfl g_247 rfl ?_)
    obtain ⟨x_248,hx_248,h⟩ := bindO h
    refine Ops.gs (s := 21624) rfl g_247 (Ev.iaF rfl rfl hx_248) rfl rfl (Ops.gp rfl g_247 rfl (Ops.gp rfl g_247 rfl (Ops.gp rfl g_247 rfl (Ops.st (s := 21688) (.pkT rfl g_247 rfl) rfl rfl (Ops.nil (Run.condO rfl h (fun g_249 h => ?_) (fun g_249 h => ?_)))))))
    ·refine Run.draw hm hmix (OpsD.p rfl (OpsD.p rfl (OpsD.p rfl (OpsD.p rfl (OpsD.p rfl (OpsD.p rfl (OpsD.p rfl ?_)))))))
     obtain ⟨x_252,hx_252,h⟩ := bindO h
     refine OpsD.st (s := 25688) (Ev.iaF rfl rfl hx_252) rfl rfl (OpsD.p rfl (OpsD.st (s := 25720) (Ev.bsW (ys := ([x_252] : List Message)) (f := (encMessage false)) rfl (.d4 (.d4 (.d4 .nil))) rfl rfl rfl rfl rfl) rfl rfl ?_))
     obtain ⟨x_253,hx_253,h⟩ := bindO h
     refine OpsD.st (s := 25736) (Ev.apW (f := (encMessage false)) (ontoW rfl rfl rfl) (addsW rfl rfl rfl (fun _ => rfl)) rfl bt58 rfl hx_253) rfl rfl (OpsD.p rfl (OpsD.p rfl (OpsD.s0 (s := 25784) (.sto rfl rfl rfl rfl rfl rfl) rfl rfl (OpsD.nil ⟨by kernel_rfl,?_⟩))))
     exact ⟨_,_,(gh_pk [0,3,8] [0,1,2,3,25736] hB rfl rfl rfl rfl),_,h,rfl,rfl⟩
    ·exact Run.skip (⟨_,_,(gh_pk [0,3,8] [0,1,2,3,4] hB rfl rfl rfl rfl),_,h,rfl,rfl⟩)
   ·exact Ops.gn rfl g_247 (Ops.gn rfl g_247 (Ops.gn rfl g_247 (Ops.gn rfl g_247 (Ops.gn rfl g_247 (Ops.gn rfl g_247 (Ops.st (s := 21688) (.pkF rfl g_247 rfl) rfl rfl (Ops.nil (Run.condF rfl rfl (Run.skip (⟨_,_,(gh_pk [0,3,8] [0,1,2,3,4] hB rfl rfl rfl rfl),_,h,rfl,rfl⟩))))))))))
  ·exact Run.ops hm (.p3 rfl rfl rfl (Ops.nil (⟨m_231,Nat.lt_succ_self m_231,_,_,(gh_pk [0,3,8] [0,1,2,3,4] hB rfl rfl rfl rfl),_,_,h,rfl,rfl⟩)))
 ·refine Run.exit ?_
  obtain rfl := someO h
  have h := hk_231
  obtain rfl := someO h
  exact Ends.mkG (.inr rfl) rfl (gh_pk [] [0,1,2,3,4] hB rfl rfl rfl rfl) rfl rfl
def spec_l16Take_i1_l1 (N : Nat) (x_4 : (List Message)) : Nat → Int → (List Message) → Option ((List Message))
 | 0,_,_ => none
 | m + 1,x_206,x_209 =>
 (if (decide (x_206 < ((x_4.length : Nat) : Int))) = true then
 joinP (fun (v_244 : (List Message)) =>
 spec_l16Take_i1_l1 N x_4 m (w64 (x_206 + 1)) v_244) fun j_244 =>
 (if (decide (((x_209.length : Nat) : Int) < 24)) = true then
 (at? x_4 x_206).bind fun x_248 =>
 (if (x_248.Kind != 5) = true then
 (at? x_4 x_206).bind fun x_252 =>
 (cat? x_209 ([x_252] : List Message)).bind fun x_253 =>
 j_244 x_253
 else
 j_244 x_209)
 else
 j_244 x_209)
 else
 some x_209)
def spec_l16Take_i1 (N : Nat) (x_1 : Tl16Cluster) (x_2 : Int) (x_3 : Node) (x_4 : (List Message)) : Option (Tl16Cluster) :=
 (at? x_1.nodes x_2).bind fun x_180 =>
 (spec_l16Take_i1_l1 N x_4 N 0 x_1.net).bind (fun v_231 => some (Tl16Cluster.mk (x_1.nodes.set x_2.toNat x_3) v_231))
theorem sem_spec_l16Take_i1 (N : Nat) (x_1 : Tl16Cluster) (x_2 : Int) (x_3 : Node) (x_4 : (List Message)) (r : Tl16Cluster) (h : spec_l16Take_i1 N x_1 x_2 x_3 x_4 = some r) : Says Try.prog 143 [.ptr 0 0,VI x_2,.agg [VI x_3.Id,VI x_3.Term,VI x_3.Vote,VI x_3.Role,VI x_3.Lead,RO 3 (x_3.Conf.map encI),VI x_3.Log.Start,VI x_3.Log.StartTerm,RO 51 (x_3.Log.Entries.map encEntry),VI x_3.Commit,VI x_3.Clock,VI x_3.Limit,RO 3 (x_3.Votes.map encI),RO 135 (x_3.Peers.map encPeer)],.sl 1 58 0 x_4.length] 4 [(0,.box [.sl 2 56 0 x_1.nodes.length,.sl 3 58 0 x_1.net.length]),(1,.vec 58 (x_4.map (encMessage false))),(2,.vec 56 (x_1.nodes.map (encNode false))),(3,.vec 58 (x_1.net.map (encMessage false)))] (.tup []) [(0,.box [.sl 4 56 0 r.nodes.length,.sl 5 58 0 r.net.length]),(1,.vec 58 (x_4.map (encMessage false))),(2,.gone),(3,.gone),(4,.vec 56 (r.nodes.map (encNode false))),(5,.vec 58 (r.net.map (encMessage false)))] := by
 unfold spec_l16Take_i1 at h
 refine Says.of_run s143 Try.call143 rfl fun B hB => ?_
 have hm : B.m ≤ 1000 := by omega
 refine Run.seq (Run.ops hm (Ops.st (s := 1000) (.bx rfl rfl) rfl rfl (Ops.nil (Run.seq (Run.draw hm hmix (OpsD.p rfl (OpsD.p rfl (OpsD.p rfl (OpsD.p rfl (OpsD.p rfl (OpsD.p rfl ?_)))))))))))
 obtain ⟨x_180,hx_180,h⟩ := bindO h
 refine OpsD.st (s := 5192) (Ev.iaW rfl rfl rfl hx_180) rfl rfl (OpsD.s0 (s := 5208) (Ev.stE (f := (encNode false)) (v' := x_3) rfl rfl (at_some hx_180).2 rfl (.d4 (.d4 (.d4 (.d2 .nil)))) rfl rfl rfl rfl rfl) rfl rfl (OpsD.nil ⟨by kernel_rfl,?_⟩))
 refine Run.seq (Run.ops hm (Ops.p rfl (Ops.nil (Run.block ?_))))
 obtain ⟨res_231,h,hk_231⟩ := bindO h
 refine Run.loop (n := N) (fun m_231 fr σ => ∃ (x_206 : Int),∃ (x_209 : (List Message)),spec_l16Take_i1_l1 N x_4 m_231 x_206 x_209 = some res_231 ∧ fr = [(0,.ptr 0 0),(3,.sl 1 58 0 x_4.length),(8,VI x_206)] ∧ σ = [(0,.box [.sl 4 56 0 ((x_1.nodes.set x_2.toNat x_3).length),.sl 5 58 0 x_209.length]),(1,.vec 58 (x_4.map (encMessage false))),(2,.gone),(3,.gone),(4,.vec 56 ((x_1.nodes.set x_2.toNat x_3).map (encNode false))),(5,.vec 58 (x_209.map (encMessage false)))]) (Gh.trans (Gh.trans (gh_prn [0,3,8] [0,1,2,3] hB rfl) (gh_mvE [0,3,8] [2,3] hB rfl rfl)) (gh_pk [0,3,8] [0,1,2,3,30000002,30000003] hB rfl rfl (by first | rfl | (simp only [List.length_set]; done) | (simp only [List.length_set]; rfl)) (by first | rfl | (simp only [List.length_set]; done) | (simp only [List.length_set]; rfl)))) ⟨_,_,h,rfl,rfl⟩ ?_
 rintro m_231 fr σ ⟨x_206,x_209,h,rfl,rfl⟩
 obtain _ | m_231 := m_231
 ·rw [spec_l16Take_i1_l1] at h; cases h
 rw [spec_l16Take_i1_l1] at h
 refine Run.seq (Run.seq (Run.ops hm (.p3 rfl rfl rfl (Ops.p rfl (Ops.nil (Run.condO rfl h (fun g_234 h => ?_) (fun g_234 h => ?_)))))))
 ·refine Run.skip (Run.seqO h (fun v_244 => [(0,.ptr 0 0),(3,.sl 1 58 0 x_4.length),(8,VI x_206)]) (fun (v_244 : (List Message)) => [(0,.box [.sl 4 56 0 ((x_1.nodes.set x_2.toNat x_3).length),.sl 5 58 0 v_244.length]),(1,.vec 58 (x_4.map (encMessage false))),(2,.gone),(3,.gone),(4,.vec 56 ((x_1.nodes.set x_2.toNat x_3).map (encNode false))),(5,.vec 58 (v_244.map (encMessage false)))]) (fun h => ?_) (fun v_244 h => ?_))
  ·refine Run.block (Run.seq (Run.ops hm (.p3 rfl rfl rfl (.p3 rfl rfl rfl (Ops.p rfl (Ops.askO (x := .t 28) rfl h (fun g_247 h => ?_) (fun g_247 h => ?_)))))))
   ·refine Ops.gp rfl g_247 rfl (Ops.gp rfl g_247 rfl ?_)
    obtain ⟨x_248,hx_248,h⟩ := bindO h
    refine Ops.gs (s := 21624) rfl g_247 (Ev.iaW rfl rfl rfl hx_248) rfl rfl (Ops.gp rfl g_247 rfl (Ops.gs (s := 21656) rfl g_247 (Ev.ldE (f := (encMessage false)) rfl rfl (at_some hx_248).2 rfl rfl rfl) rfl rfl (Ops.gp rfl g_247 rfl (Ops.st (s := 21688) (.pkT rfl g_247 rfl) rfl rfl (Ops.nil (Run.condO rfl h (fun g_249 h => ?_) (fun g_249 h => ?_)))))))
    ·refine Run.draw hm hmix (OpsD.p rfl (OpsD.p rfl (OpsD.p rfl (OpsD.p rfl (OpsD.p rfl (OpsD.p rfl (OpsD.p rfl ?_)))))))
     obtain ⟨x_252,hx_252,h⟩ := bindO h
     refine OpsD.st (s := 25688) (Ev.iaW rfl rfl rfl hx_252) rfl rfl (OpsD.st (s := 25704) (Ev.ldE (f := (encMessage false)) rfl rfl (at_some hx_252).2 rfl rfl rfl) rfl rfl (OpsD.st (s := 25720) (Ev.bsW (ys := ([x_252] : List Message)) (f := (encMessage false)) rfl (.d4 (.d4 (.d4 .nil))) rfl rfl rfl rfl rfl) rfl rfl ?_))
     obtain ⟨x_253,hx_253,h⟩ := bindO h
     refine OpsD.st (s := 25736) (Ev.apW (f := (encMessage false)) (ontoW rfl rfl rfl) (addsW rfl rfl rfl (fun _ => rfl)) rfl bt58 rfl hx_253) rfl rfl (OpsD.p rfl (OpsD.p rfl (OpsD.s0 (s := 25784) (.sto rfl rfl rfl rfl rfl rfl) rfl rfl (OpsD.nil ⟨by kernel_rfl,?_⟩))))
     exact ⟨_,_,(gh_pk [0,3,8] [0,1,2,3,4,25736] hB rfl rfl rfl rfl),_,h,rfl,rfl⟩
    ·exact Run.skip (⟨_,_,(gh_pk [0,3,8] [0,1,2,3,4,5] hB rfl rfl rfl rfl),_,h,rfl,rfl⟩)
   ·exact Ops.gn rfl g_247 (Ops.gn rfl g_247 (Ops.gn rfl g_247 (Ops.gn rfl g_247 (Ops.gn rfl g_247 (Ops.gn rfl g_247 (Ops.st (s := 21688) (.pkF rfl g_247 rfl) rfl rfl (Ops.nil (Run.condF rfl rfl (Run.skip (⟨_,_,(gh_pk [0,3,8] [0,1,2,3,4,5] hB rfl rfl rfl rfl),_,h,rfl,rfl⟩))))))))))
  ·exact Run.ops hm (.p3 rfl rfl rfl (Ops.nil (⟨m_231,Nat.lt_succ_self m_231,_,_,(gh_pk [0,3,8] [0,1,2,3,4,5] hB rfl rfl rfl rfl),_,_,h,rfl,rfl⟩)))
 ·refine Run.exit ?_
  obtain rfl := someO h
  have h := hk_231
  obtain rfl := someO h
  exact Ends.mkG (.inr rfl) rfl (gh_pk [] [0,1,2,3,4,5] hB rfl rfl rfl rfl) rfl rfl
def spec_l01PickInt (N : Nat) (x_1 : Tl01Cur) (x_2 : (List Int)) : Option (Int × Tl01Cur) :=
 (spec_l01Below N x_1 (x_2.length : Int)).bind fun y_106 =>
 (at? x_2 y_106.1).bind fun x_107 =>
 some (x_107,y_106.2)
theorem sem_spec_l01PickInt (N : Nat) (x_1 : Tl01Cur) (x_2 : (List Int)) (r : Int × Tl01Cur) (h : spec_l01PickInt N x_1 x_2 = some r) : Says Try.prog 168 [.ptr 0 0,RO 3 (x_2.map encI)] 1 [(0,.box [RO 5 (x_1.b.map encU),VI x_1.i,VI x_1.h])] (VI r.1) [(0,.box [RO 5 (r.2.b.map encU),VI r.2.i,VI r.2.h])] := by
 unfold spec_l01PickInt at h
 refine Says.of_run s168 Try.call168 rfl fun B hB => ?_
 have hm : B.m ≤ 1000 := by omega
 refine Run.seq (Run.ops hm (Ops.p rfl (Ops.nil (Run.seq (Run.ops hm (.p3 rfl rfl rfl (Ops.st (s := 5144) (Ev.lnF rfl) rfl rfl ?_)))))))
 obtain ⟨y_106,hy_106,h⟩ := bindO h
 refine Ops.st (s := 5160) (Ev.call [0] [] 0 (sem_spec_l01Below _ _ _ _ hy_106) rfl rfl (.cons (.ptr rfl) (.d1 .nil)) rfl (.inl rfl) rfl rfl) rfl rfl ?_
 obtain ⟨x_107,hx_107,h⟩ := bindO h
 refine Ops.st (s := 5176) (Ev.iaF rfl rfl hx_107) rfl rfl (.p2 rfl rfl (Ops.nil (Run.ret ?_)))
 obtain rfl := someO h
 exact Ends.mkG (.inl rfl) rfl (gh_pk [0] [0] hB rfl rfl rfl rfl) rfl rfl
def spec_l01PickInt_i1 (N : Nat) (x_1 : Tl01Cur) (x_2 : (List Int)) : Option (Int × Tl01Cur) :=
 (spec_l01Below N x_1 ((x_2.length : Nat) : Int)).bind fun y_106 =>
 (at? x_2 y_106.1).bind fun x_107 =>
 some (x_107,y_106.2)
theorem sem_spec_l01PickInt_i1 (N : Nat) (x_1 : Tl01Cur) (x_2 : (List Int)) (r : Int × Tl01Cur) (h : spec_l01PickInt_i1 N x_1 x_2 = some r) : Says Try.prog 168 [.ptr 0 0,.sl 1 3 0 x_2.length] 2 [(0,.box [RO 5 (x_1.b.map encU),VI x_1.i,VI x_1.h]),(1,.vec 3 (x_2.map encI))] (VI r.1) [(0,.box [RO 5 (r.2.b.map encU),VI r.2.i,VI r.2.h]),(1,.vec 3 (x_2.map encI))] := by
 unfold spec_l01PickInt_i1 at h
 refine Says.of_run s168 Try.call168 rfl fun B hB => ?_
 have hm : B.m ≤ 1000 := by omega
 refine Run.seq (Run.ops hm (Ops.p rfl (Ops.nil (Run.seq (Run.ops hm (.p3 rfl rfl rfl (Ops.p rfl ?_)))))))
 obtain ⟨y_106,hy_106,h⟩ := bindO h
 refine Ops.st (s := 5160) (Ev.call [0] [] 0 (sem_spec_l01Below _ _ _ _ hy_106) rfl rfl (.cons (.ptr rfl) (.d1 .nil)) rfl (.inl rfl) rfl rfl) rfl rfl ?_
 obtain ⟨x_107,hx_107,h⟩ := bindO h
 refine Ops.st (s := 5176) (Ev.iaW rfl rfl rfl hx_107) rfl rfl (Ops.st (s := 5192) (Ev.ldE (f := encI) rfl rfl (at_some hx_107).2 rfl rfl rfl) rfl rfl (Ops.p rfl (Ops.nil (Run.ret ?_))))
 obtain rfl := someO h
 exact Ends.mkG (.inl rfl) rfl (gh_pk [0] [0,1] hB rfl rfl rfl rfl) rfl rfl
def spec_ConfText_l1 (N : Nat) (x_1 : (List Int)) : Nat → Int → (List Int) → Option ((List Int))
 | 0,_,_ => none
 | m + 1,x_190,x_191 =>
 (if (decide (x_190 < (x_1.length : Int))) = true then
 (at? x_1 x_190).bind fun x_212 =>
 (cat? x_191 ([IntKind.wrap .u8 (x_212)] : List Int)).bind fun x_213 =>
 spec_ConfText_l1 N x_1 m (w64 (x_190 + 1)) x_213
 else
 some x_191)
def spec_ConfText_l1_r (N : Nat) (x_1 : (List Int)) : (List Int) → Int → (List Int) → Option ((List Int))
 | [],x_190,x_191 =>
 some x_191
 | hd :: tl,x_190,x_191 =>
 (some hd).bind fun x_212 =>
 (cat? x_191 ([IntKind.wrap .u8 (x_212)] : List Int)).bind fun x_213 =>
 spec_ConfText_l1_r N x_1 tl (w64 (x_190 + 1)) x_213
theorem spec_ConfText_l1_rng (N : Nat) (x_1 : (List Int)) (hx : x_1.length ≤ 1099511627776) : ∀ (d k m : Nat) (x_191 : (List Int)),x_1.length = k + d → d < m → spec_ConfText_l1 N x_1 m (k : Int) x_191 = spec_ConfText_l1_r N x_1 (x_1.drop k) (k : Int) x_191 := by
 intro d
 induction d with
 | zero =>
  intro k m x_191 hd hm
  obtain ⟨m,rfl⟩ : ∃ q,m = q + 1 := ⟨m - 1,by omega⟩
  rw [spec_ConfText_l1,if_neg (by simp; omega),List.drop_eq_nil_of_le (by omega),spec_ConfText_l1_r]
 | succ d ih =>
  intro k m x_191 hd hm
  obtain ⟨m,rfl⟩ : ∃ q,m = q + 1 := ⟨m - 1,by omega⟩
  have hk : k < x_1.length := by omega
  rw [spec_ConfText_l1,if_pos (by simp; omega),List.drop_eq_getElem_cons hk,spec_ConfText_l1_r]
  have h1 := at_lt hk
  have h2 := w64_succ (k := k) (by omega)
  have h3 := ih (k + 1) m
  simp only [h1,h2,h3 _ (by omega) (by omega)]
theorem spec_ConfText_l1_eq {N : Nat} (x_1 : (List Int)) (hx : x_1.length ≤ 1099511627776) (hN : x_1.length < N) (x_191 : (List Int)) : spec_ConfText_l1 N x_1 N 0 x_191 = spec_ConfText_l1_r N x_1 x_1 0 x_191 := spec_ConfText_l1_rng N x_1 hx x_1.length 0 N x_191 (by omega) hN
def spec_ConfText (N : Nat) (x_1 : (List Int)) : Option (ByteArray × Bool) :=
 (spec_ConfOk N x_1).bind fun y_161 =>
 (if (!y_161) = true then
 some ((⟨#[]⟩ : ByteArray),false)
 else
 joinP (fun (v_188 : (List Int)) =>
 some (strOf v_188,true)) fun j_188 =>
 (spec_ConfText_l1 N x_1 N 0 ([] : List Int)).bind (fun v_202 => j_188 v_202))
theorem sem_spec_ConfText (N : Nat) (x_1 : (List Int)) (r : ByteArray × Bool) (h : spec_ConfText N x_1 = some r) : Says Try.prog 169 [RO 3 (x_1.map encI)] 0 [] (.tup [VS r.1,VB r.2]) [] := by
 unfold spec_ConfText at h
 refine Says.of_run s169 Try.call169 rfl fun B hB => ?_
 have hm : B.m ≤ 1000 := by omega
 refine Run.seq (Run.ops hm (.p2 rfl rfl (Ops.nil (Run.seq (Run.seq (Run.ops hm (Ops.p rfl ?_)))))))
 obtain ⟨y_161,hy_161,h⟩ := bindO h
 refine Ops.st (s := 5112) (Ev.call [] [] 0 (sem_spec_ConfOk _ _ _ hy_161) rfl rfl (.d1 .nil) rfl (.inl rfl) rfl rfl) rfl rfl (Ops.p rfl (Ops.nil (Run.condO rfl h (fun g_162 h => ?_) (fun g_162 h => ?_))))
 ·refine Run.seq (Run.ops hm (.p2 rfl rfl (Ops.nil (Run.ret ?_))))
  obtain rfl := someO h
  exact Ends.mkG (.inl rfl) rfl (gh_pk [0,1] [] hB rfl rfl rfl rfl) rfl rfl
 ·refine Run.skip (Run.seq (Run.ops hm (Ops.st (s := 13288) (Ev.bsW (ys := ([] : List Int)) (f := encU) rfl .nil rfl rfl rfl rfl rfl) rfl rfl (Ops.p rfl (Ops.nil (Run.seqO h (fun v_188 => [(4,.sl 0 5 0 v_188.length)]) (fun (v_188 : (List Int)) => [(0,.vec 5 (v_188.map encU))]) (fun h => ?_) (fun v_188 h => ?_)))))))
  ·refine Run.seq (Run.ops hm (Ops.p rfl (Ops.nil (Run.block ?_))))
   obtain ⟨res_202,h,hk_202⟩ := bindO h
   refine Run.loop (n := N) (fun m_202 fr σ => ∃ (x_190 : Int),∃ (x_191 : (List Int)),spec_ConfText_l1 N x_1 m_202 x_190 x_191 = some res_202 ∧ fr = [(0,RO 3 (x_1.map encI)),(4,.sl 0 5 0 x_191.length),(5,VI x_190)] ∧ σ = [(0,.vec 5 (x_191.map encU))]) (gh_pk [0,4,5] [13288] hB rfl rfl rfl rfl) ⟨_,_,h,rfl,rfl⟩ ?_
   rintro m_202 fr σ ⟨x_190,x_191,h,rfl,rfl⟩
   obtain _ | m_202 := m_202
   ·rw [spec_ConfText_l1] at h; cases h
   rw [spec_ConfText_l1] at h
   refine Run.seq (Run.seq (Run.ops hm (.p2 rfl rfl (Ops.st (s := 21512) (Ev.lnF rfl) rfl rfl (Ops.p rfl (Ops.nil (Run.condO rfl h (fun g_205 h => ?_) (fun g_205 h => ?_))))))))
   ·refine Run.skip (Run.seq (Run.block (Run.ops hm (.p3 rfl rfl rfl ?_))))
    obtain ⟨x_212,hx_212,h⟩ := bindO h
    refine Ops.st (s := 29720) (Ev.iaF rfl rfl hx_212) rfl rfl (.p2 rfl rfl (Ops.st (s := 29768) (Ev.bsW (ys := ([IntKind.wrap .u8 (x_212)] : List Int)) (f := encU) rfl (.d1 .nil) rfl rfl rfl rfl rfl) rfl rfl ?_))
    obtain ⟨x_213,hx_213,h⟩ := bindO h
    exact Ops.st (s := 29784) (Ev.apW (f := encU) (ontoW rfl rfl rfl) (addsW rfl rfl rfl (fun _ => rfl)) rfl bt5 rfl hx_213) rfl rfl (Ops.p rfl (Ops.nil (Run.ops hm (.p3 rfl rfl rfl (Ops.nil (⟨m_202,Nat.lt_succ_self m_202,_,_,(gh_pk [0,4,5] [29784] hB rfl rfl rfl rfl),_,_,h,rfl,rfl⟩))))))
   ·refine Run.exit ?_
    obtain rfl := someO h
    have h := hk_202
    exact ⟨_,_,(gh_pk [4] [0] hB rfl rfl rfl rfl),_,h,rfl,rfl⟩
  ·refine Run.seq (Run.ops hm (Ops.p rfl (Ops.st (s := 33784) (.sbC (addsW (f := encU) rfl rfl rfl (fun _ => rfl))) rfl rfl (.p2 rfl rfl (Ops.nil (Run.ret ?_))))))
   obtain rfl := someO h
   exact Ends.mkG (.inl rfl) rfl (gh_pk [0,1] [] hB rfl rfl rfl rfl) rfl rfl
def spec_l01Pick (N : Nat) (x_1 : Tl01Cur) (x_2 : (List ByteArray)) : Option (ByteArray × Tl01Cur) :=
 (spec_l01Below N x_1 (x_2.length : Int)).bind fun y_106 =>
 (at? x_2 y_106.1).bind fun x_107 =>
 some (x_107,y_106.2)
theorem sem_spec_l01Pick (N : Nat) (x_1 : Tl01Cur) (x_2 : (List ByteArray)) (r : ByteArray × Tl01Cur) (h : spec_l01Pick N x_1 x_2 = some r) : Says Try.prog 190 [.ptr 0 0,RO 9 (x_2.map encS)] 1 [(0,.box [RO 5 (x_1.b.map encU),VI x_1.i,VI x_1.h])] (VS r.1) [(0,.box [RO 5 (r.2.b.map encU),VI r.2.i,VI r.2.h])] := by
 unfold spec_l01Pick at h
 refine Says.of_run s190 Try.call190 rfl fun B hB => ?_
 have hm : B.m ≤ 1000 := by omega
 refine Run.seq (Run.ops hm (Ops.p rfl (Ops.nil (Run.seq (Run.ops hm (.p3 rfl rfl rfl (Ops.st (s := 5144) (Ev.lnF rfl) rfl rfl ?_)))))))
 obtain ⟨y_106,hy_106,h⟩ := bindO h
 refine Ops.st (s := 5160) (Ev.call [0] [] 0 (sem_spec_l01Below _ _ _ _ hy_106) rfl rfl (.cons (.ptr rfl) (.d1 .nil)) rfl (.inl rfl) rfl rfl) rfl rfl ?_
 obtain ⟨x_107,hx_107,h⟩ := bindO h
 refine Ops.st (s := 5176) (Ev.iaF rfl rfl hx_107) rfl rfl (.p2 rfl rfl (Ops.nil (Run.ret ?_)))
 obtain rfl := someO h
 exact Ends.mkG (.inl rfl) rfl (gh_pk [0] [0] hB rfl rfl rfl rfl) rfl rfl
def spec_l01Pick_i1 (N : Nat) (x_1 : Tl01Cur) (x_2 : (List ByteArray)) : Option (ByteArray × Tl01Cur) :=
 (spec_l01Below N x_1 ((x_2.length : Nat) : Int)).bind fun y_106 =>
 (at? x_2 y_106.1).bind fun x_107 =>
 some (x_107,y_106.2)
theorem sem_spec_l01Pick_i1 (N : Nat) (x_1 : Tl01Cur) (x_2 : (List ByteArray)) (r : ByteArray × Tl01Cur) (h : spec_l01Pick_i1 N x_1 x_2 = some r) : Says Try.prog 190 [.ptr 0 0,.sl 1 9 0 x_2.length] 2 [(0,.box [RO 5 (x_1.b.map encU),VI x_1.i,VI x_1.h]),(1,.vec 9 (x_2.map encS))] (VS r.1) [(0,.box [RO 5 (r.2.b.map encU),VI r.2.i,VI r.2.h]),(1,.vec 9 (x_2.map encS))] := by
 unfold spec_l01Pick_i1 at h
 refine Says.of_run s190 Try.call190 rfl fun B hB => ?_
 have hm : B.m ≤ 1000 := by omega
 refine Run.seq (Run.ops hm (Ops.p rfl (Ops.nil (Run.seq (Run.ops hm (.p3 rfl rfl rfl (Ops.p rfl ?_)))))))
 obtain ⟨y_106,hy_106,h⟩ := bindO h
 refine Ops.st (s := 5160) (Ev.call [0] [] 0 (sem_spec_l01Below _ _ _ _ hy_106) rfl rfl (.cons (.ptr rfl) (.d1 .nil)) rfl (.inl rfl) rfl rfl) rfl rfl ?_
 obtain ⟨x_107,hx_107,h⟩ := bindO h
 refine Ops.st (s := 5176) (Ev.iaW rfl rfl rfl hx_107) rfl rfl (Ops.st (s := 5192) (Ev.ldE (f := encS) rfl rfl (at_some hx_107).2 rfl rfl rfl) rfl rfl (Ops.p rfl (Ops.nil (Run.ret ?_))))
 obtain rfl := someO h
 exact Ends.mkG (.inl rfl) rfl (gh_pk [0] [0,1] hB rfl rfl rfl rfl) rfl rfl
def spec_l15Right (N : Nat) (x_1 : Tl01Cur) : Option (Command × Tl01Cur) :=
 (spec_l01Below N x_1 5).bind fun y_142 =>
 (if ((w64 (1 + y_142.1)) == 1) = true then
 some ((Command.mk (w64 (1 + y_142.1)) 0 0 (⟨#[]⟩ : ByteArray) (⟨#[]⟩ : ByteArray) (⟨#[]⟩ : ByteArray)),y_142.2)
 else
 (spec_l01Below N y_142.2 4).bind fun y_148 =>
 (spec_l01Below N y_148.2 3).bind fun y_152 =>
 (spec_l01Pick_i1 N y_152.2 ([(⟨#[97]⟩ : ByteArray),(⟨#[98]⟩ : ByteArray),(⟨#[99]⟩ : ByteArray)] : List ByteArray)).bind fun y_156 =>
 joinP (fun (v_167 : (List Int) × Int × Int × ByteArray × ByteArray) =>
 some ((Command.mk (w64 (1 + y_142.1)) (w64 (1 + y_148.1)) (w64 (1 + y_152.1)) y_156.1 v_167.2.2.2.1 v_167.2.2.2.2),(Tl01Cur.mk v_167.1 v_167.2.1 v_167.2.2.1))) fun j_167 =>
 (if ((w64 (1 + y_142.1)) == 3) = true then
 (spec_l01Pick_i1 N y_156.2 ([(⟨#[]⟩ : ByteArray),(⟨#[49]⟩ : ByteArray),(⟨#[50]⟩ : ByteArray),(⟨#[116,104,114,101,101]⟩ : ByteArray)] : List ByteArray)).bind fun y_170 =>
 j_167 (y_170.2.b,y_170.2.i,y_170.2.h,y_170.1,(⟨#[]⟩ : ByteArray))
 else
 (if ((w64 (1 + y_142.1)) == 5) = true then
 (spec_l01Pick_i1 N y_156.2 ([(⟨#[]⟩ : ByteArray),(⟨#[49]⟩ : ByteArray),(⟨#[50]⟩ : ByteArray),(⟨#[116,104,114,101,101]⟩ : ByteArray)] : List ByteArray)).bind fun y_175 =>
 (spec_l01Pick_i1 N y_175.2 ([(⟨#[]⟩ : ByteArray),(⟨#[49]⟩ : ByteArray),(⟨#[50]⟩ : ByteArray),(⟨#[116,104,114,101,101]⟩ : ByteArray)] : List ByteArray)).bind fun y_177 =>
 j_167 (y_177.2.b,y_177.2.i,y_177.2.h,y_175.1,y_177.1)
 else
 j_167 (y_156.2.b,y_156.2.i,y_156.2.h,(⟨#[]⟩ : ByteArray),(⟨#[]⟩ : ByteArray)))))
theorem sem_spec_l15Right (N : Nat) (x_1 : Tl01Cur) (r : Command × Tl01Cur) (h : spec_l15Right N x_1 = some r) : Says Try.prog 171 [.ptr 0 0] 1 [(0,.box [RO 5 (x_1.b.map encU),VI x_1.i,VI x_1.h])] (.agg [VI r.1.Op,VI r.1.Session,VI r.1.Seq,VS r.1.Key,VS r.1.Value,VS r.1.Old]) [(0,.box [RO 5 (r.2.b.map encU),VI r.2.i,VI r.2.h])] := by
 unfold spec_l15Right at h
 refine Says.of_run s171 Try.call171 rfl fun B hB => ?_
 have hm : B.m ≤ 1000 := by omega
 refine Run.seq (Run.ops hm (Ops.st (s := 1000) (.al rfl rfl) rfl rfl (Ops.nil (Run.seq (Run.ops hm (Ops.p rfl ?_))))))
 obtain ⟨y_142,hy_142,h⟩ := bindO h
 refine Ops.st (s := 5112) (Ev.call [0] [] 0 (sem_spec_l01Below _ _ _ _ hy_142) rfl rfl (.cons (.ptr rfl) (.d1 .nil)) rfl (.inl rfl) rfl rfl) rfl rfl (Ops.p rfl (Ops.st (s := 5144) (.bd rfl rfl) rfl rfl (Ops.st (s := 5160) (.al rfl rfl) rfl rfl (Ops.s0 (s := 5176) (.sto rfl rfl rfl rfl rfl rfl) rfl rfl (Ops.nil (Run.seq (Run.seq (Run.ops hm (.p3 rfl rfl rfl (Ops.nil (Run.condO rfl h (fun g_144 h => ?_) (fun g_144 h => ?_))))))))))))
 ·refine Run.seq (Run.ops hm (Ops.p rfl (Ops.s0 (s := 13304) (.sto rfl rfl rfl rfl rfl rfl) rfl rfl (Ops.nil (Run.ret ?_)))))
  obtain rfl := someO h
  exact Ends.mkG (.inl rfl) rfl (gh_pk [0] [0] hB rfl rfl rfl rfl) rfl rfl
 ·refine Run.skip (Run.seq (Run.ops hm (Ops.p rfl ?_)))
  obtain ⟨y_148,hy_148,h⟩ := bindO h
  refine Ops.st (s := 17400) (Ev.call [0] [] 0 (sem_spec_l01Below _ _ _ _ hy_148) rfl rfl (.cons (.ptr rfl) (.d1 .nil)) rfl (.inl rfl) rfl rfl) rfl rfl (.p2 rfl rfl (Ops.s0 (s := 17448) (.sto rfl rfl rfl rfl rfl rfl) rfl rfl (Ops.nil (Run.seq (Run.ops hm (Ops.p rfl ?_))))))
  obtain ⟨y_152,hy_152,h⟩ := bindO h
  refine Ops.st (s := 21496) (Ev.call [0] [] 0 (sem_spec_l01Below _ _ _ _ hy_152) rfl rfl (.cons (.ptr rfl) (.d1 .nil)) rfl (.inl rfl) rfl rfl) rfl rfl (.p2 rfl rfl (Ops.s0 (s := 21544) (.sto rfl rfl rfl rfl rfl rfl) rfl rfl (Ops.nil (Run.seq (Run.ops hm (Ops.p rfl (Ops.st (s := 25592) (Ev.bsW (ys := ([(⟨#[97]⟩ : ByteArray),(⟨#[98]⟩ : ByteArray),(⟨#[99]⟩ : ByteArray)] : List ByteArray)) (f := encS) rfl (.d2 (.d1 .nil)) rfl rfl rfl rfl rfl) rfl rfl ?_)))))))
  obtain ⟨y_156,hy_156,h⟩ := bindO h
  refine Ops.st (s := 25608) (Ev.call [0,25592] [] 0 (sem_spec_l01Pick_i1 _ _ _ _ hy_156) rfl rfl (.cons (.ptr rfl) (.cons (.sl rfl) .nil)) rfl (.inl rfl) rfl rfl) rfl rfl (Ops.p rfl (Ops.s0 (s := 25640) (.sto rfl rfl rfl rfl rfl rfl) rfl rfl (Ops.nil (Run.seqO h (fun v_167 => [(2,.ptr 1 0),(3,.ptr 2 0)]) (fun (v_167 : (List Int) × Int × Int × ByteArray × ByteArray) => [(0,.box [RO 5 (v_167.1.map encU),VI v_167.2.1,VI v_167.2.2.1]),(1,.box [VI 0,VI 0,VI 0,VS (⟨#[]⟩ : ByteArray),VS (⟨#[]⟩ : ByteArray),VS (⟨#[]⟩ : ByteArray)]),(2,.box [VI (w64 (1 + y_142.1)),VI (w64 (1 + y_148.1)),VI (w64 (1 + y_152.1)),VS y_156.1,VS v_167.2.2.2.1,VS v_167.2.2.2.2])]) (fun h => ?_) (fun v_167 h => ?_)))))
  ·refine Run.seq (Run.ops hm (.p2 rfl rfl (Ops.nil (Run.block (Run.seq (Run.ops hm (.p2 rfl rfl (Ops.nil (Run.condO rfl h (fun g_168 h => ?_) (fun g_168 h => ?_))))))))))
   ·refine Run.ops hm (Ops.p rfl (Ops.st (s := 37880) (Ev.bsW (ys := ([(⟨#[]⟩ : ByteArray),(⟨#[49]⟩ : ByteArray),(⟨#[50]⟩ : ByteArray),(⟨#[116,104,114,101,101]⟩ : ByteArray)] : List ByteArray)) (f := encS) rfl (.d4 .nil) rfl rfl rfl rfl rfl) rfl rfl ?_))
    obtain ⟨y_170,hy_170,h⟩ := bindO h
    exact Ops.st (s := 37896) (Ev.call [0,37880] [] 0 (sem_spec_l01Pick_i1 _ _ _ _ hy_170) rfl rfl (.cons (.ptr rfl) (.cons (.sl rfl) .nil)) rfl (.inl rfl) rfl rfl) rfl rfl (Ops.p rfl (Ops.s0 (s := 37928) (.sto rfl rfl rfl rfl rfl rfl) rfl rfl (Ops.nil (⟨_,_,(gh_pk [2,3] [0,1000,5160] hB rfl rfl rfl rfl),_,h,rfl,rfl⟩))))
   ·refine Run.seq (Run.ops hm (.p2 rfl rfl (Ops.nil (Run.condO rfl h (fun g_171 h => ?_) (fun g_171 h => ?_)))))
    ·refine Run.seq (Run.ops hm (Ops.p rfl (Ops.st (s := 46072) (Ev.bsW (ys := ([(⟨#[]⟩ : ByteArray),(⟨#[49]⟩ : ByteArray),(⟨#[50]⟩ : ByteArray),(⟨#[116,104,114,101,101]⟩ : ByteArray)] : List ByteArray)) (f := encS) rfl (.d4 .nil) rfl rfl rfl rfl rfl) rfl rfl ?_)))
     obtain ⟨y_175,hy_175,h⟩ := bindO h
     refine Ops.st (s := 46088) (Ev.call [0,46072] [] 0 (sem_spec_l01Pick_i1 _ _ _ _ hy_175) rfl rfl (.cons (.ptr rfl) (.cons (.sl rfl) .nil)) rfl (.inl rfl) rfl rfl) rfl rfl (Ops.p rfl (Ops.s0 (s := 46120) (.sto rfl rfl rfl rfl rfl rfl) rfl rfl (Ops.nil (Run.ops hm (Ops.p rfl (Ops.st (s := 50168) (Ev.bsW (ys := ([(⟨#[]⟩ : ByteArray),(⟨#[49]⟩ : ByteArray),(⟨#[50]⟩ : ByteArray),(⟨#[116,104,114,101,101]⟩ : ByteArray)] : List ByteArray)) (f := encS) rfl (.d4 .nil) rfl rfl rfl rfl rfl) rfl rfl ?_))))))
     obtain ⟨y_177,hy_177,h⟩ := bindO h
     exact Ops.st (s := 50184) (Ev.call [0,50168] [] 0 (sem_spec_l01Pick_i1 _ _ _ _ hy_177) rfl rfl (.cons (.ptr rfl) (.cons (.sl rfl) .nil)) rfl (.inl rfl) rfl rfl) rfl rfl (Ops.p rfl (Ops.s0 (s := 50216) (.sto rfl rfl rfl rfl rfl rfl) rfl rfl (Ops.nil (⟨_,_,(gh_pk [2,3] [0,1000,5160] hB rfl rfl rfl rfl),_,h,rfl,rfl⟩))))
    ·exact Run.skip (⟨_,_,(gh_pk [2,3] [0,1000,5160] hB rfl rfl rfl rfl),_,h,rfl,rfl⟩)
  ·refine Run.seq (Run.ops hm (Ops.p rfl (Ops.s0 (s := 54264) (.sto rfl rfl rfl rfl rfl rfl) rfl rfl (Ops.nil (Run.ret ?_)))))
   obtain rfl := someO h
   exact Ends.mkG (.inl rfl) rfl (gh_pk [0] [0] hB rfl rfl rfl rfl) rfl rfl
def spec_CommandOk (N : Nat) (x_1 : Command) : Option (Bool) :=
 (spec_l01In N x_1.Op 1 5).bind fun y_167 =>
 (if (!y_167) = true then
 some false
 else
 (spec_l01In N x_1.Session 0 100000).bind fun y_169 =>
 (if (!y_169) = true then
 some false
 else
 (spec_l01In N x_1.Seq 0 100000).bind fun y_171 =>
 (if (!y_171) = true then
 some false
 else
 (if (decide ((x_1.Value.size : Int) > 12)) = true then
 some false
 else
 (if (decide ((x_1.Old.size : Int) > 12)) = true then
 some false
 else
 (if (x_1.Op == 1) = true then
 some (((x_1.Op == 1) && ((x_1.Session == 0) && ((x_1.Seq == 0) && (decide (x_1.Key = (⟨#[]⟩ : ByteArray)) && (decide (x_1.Value = (⟨#[]⟩ : ByteArray)) && (decide (x_1.Old = (⟨#[]⟩ : ByteArray)) && true)))))) ^^ false)
 else
 (spec_l01In N (x_1.Key.size : Int) 1 9).bind fun y_181 =>
 (if (!y_181) = true then
 some false
 else
 (if (x_1.Op == 2) = true then
 (if (decide (x_1.Value = (⟨#[]⟩ : ByteArray))) = true then
 some (decide (x_1.Old = (⟨#[]⟩ : ByteArray)))
 else
 some false)
 else
 (if (x_1.Op == 4) = true then
 (if (decide (x_1.Value = (⟨#[]⟩ : ByteArray))) = true then
 some (decide (x_1.Old = (⟨#[]⟩ : ByteArray)))
 else
 some false)
 else
 (if (x_1.Op == 3) = true then
 some (decide (x_1.Old = (⟨#[]⟩ : ByteArray)))
 else
 some true))))))))))
theorem sem_spec_CommandOk (N : Nat) (x_1 : Command) (r : Bool) (h : spec_CommandOk N x_1 = some r) : Says Try.prog 188 [.agg [VI x_1.Op,VI x_1.Session,VI x_1.Seq,VS x_1.Key,VS x_1.Value,VS x_1.Old]] 0 [] (VB r) [] := by
 unfold spec_CommandOk at h
 refine Says.of_run s188 Try.call188 rfl fun B hB => ?_
 have hm : B.m ≤ 1000 := by omega
 refine Run.seq (Run.ops hm (Ops.st (s := 1000) (.bx rfl rfl) rfl rfl (Ops.p rfl (Ops.nil (Run.seq (Run.seq (Run.ops hm (.p2 rfl rfl ?_))))))))
 obtain ⟨y_167,hy_167,h⟩ := bindO h
 refine Ops.st (s := 5128) (Ev.call [] [] 0 (sem_spec_l01In _ _ _ _ _ hy_167) rfl rfl (.d2 (.d1 .nil)) rfl (.inl rfl) rfl rfl) rfl rfl (.p2 rfl rfl (Ops.askO (x := .t 7) rfl h (fun g_168 h => ?_) (fun g_168 h => ?_)))
 ·refine Ops.gn rfl g_168 (Ops.gn rfl g_168 (Ops.gn rfl g_168 (Ops.gn rfl g_168 (Ops.st (s := 5240) (.pkT rfl g_168 rfl) rfl rfl (Ops.p rfl (Ops.gn rfl rfl (Ops.gn rfl rfl (Ops.gn rfl rfl (Ops.gn rfl rfl (Ops.st (s := 5336) (.pkT rfl rfl rfl) rfl rfl (Ops.p rfl (Ops.gn rfl rfl (Ops.gn rfl rfl (Ops.gn rfl rfl (Ops.gn rfl rfl (Ops.st (s := 5432) (.pkT rfl rfl rfl) rfl rfl (Ops.p rfl (Ops.gn rfl rfl (Ops.gn rfl rfl (Ops.gn rfl rfl (Ops.gn rfl rfl (Ops.st (s := 5528) (.pkT rfl rfl rfl) rfl rfl (Ops.nil (Run.condT rfl rfl (Run.seq (Run.ops hm (Ops.p rfl (Ops.nil (Run.ret ?_)))))))))))))))))))))))))))))
  obtain rfl := someO h
  exact Ends.mkG (.inl rfl) rfl (gh_pk [0] [] hB rfl rfl rfl rfl) rfl rfl
 ·refine Ops.gp rfl g_168 rfl (Ops.gp rfl g_168 rfl ?_)
  obtain ⟨y_169,hy_169,h⟩ := bindO h
  refine Ops.gs (s := 5208) rfl g_168 (Ev.call [] [] 0 (sem_spec_l01In _ _ _ _ _ hy_169) rfl rfl (.d2 (.d1 .nil)) rfl (.inl rfl) rfl rfl) rfl rfl (Ops.gp rfl g_168 rfl (Ops.st (s := 5240) (.pkF rfl g_168 rfl) rfl rfl (Ops.p rfl (Ops.askO (x := .t 13) rfl h (fun g_170 h => ?_) (fun g_170 h => ?_)))))
  ·refine Ops.gn rfl g_170 (Ops.gn rfl g_170 (Ops.gn rfl g_170 (Ops.gn rfl g_170 (Ops.st (s := 5336) (.pkT rfl g_170 rfl) rfl rfl (Ops.p rfl (Ops.gn rfl rfl (Ops.gn rfl rfl (Ops.gn rfl rfl (Ops.gn rfl rfl (Ops.st (s := 5432) (.pkT rfl rfl rfl) rfl rfl (Ops.p rfl (Ops.gn rfl rfl (Ops.gn rfl rfl (Ops.gn rfl rfl (Ops.gn rfl rfl (Ops.st (s := 5528) (.pkT rfl rfl rfl) rfl rfl (Ops.nil (Run.condT rfl rfl (Run.seq (Run.ops hm (Ops.p rfl (Ops.nil (Run.ret ?_)))))))))))))))))))))))
   obtain rfl := someO h
   exact Ends.mkG (.inl rfl) rfl (gh_pk [0] [] hB rfl rfl rfl rfl) rfl rfl
  ·refine Ops.gp rfl g_170 rfl (Ops.gp rfl g_170 rfl ?_)
   obtain ⟨y_171,hy_171,h⟩ := bindO h
   refine Ops.gs (s := 5304) rfl g_170 (Ev.call [] [] 0 (sem_spec_l01In _ _ _ _ _ hy_171) rfl rfl (.d2 (.d1 .nil)) rfl (.inl rfl) rfl rfl) rfl rfl (Ops.gp rfl g_170 rfl (Ops.st (s := 5336) (.pkF rfl g_170 rfl) rfl rfl (Ops.p rfl (Ops.askO (x := .t 19) rfl h (fun g_172 h => ?_) (fun g_172 h => ?_)))))
   ·refine Ops.gn rfl g_172 (Ops.gn rfl g_172 (Ops.gn rfl g_172 (Ops.gn rfl g_172 (Ops.st (s := 5432) (.pkT rfl g_172 rfl) rfl rfl (Ops.p rfl (Ops.gn rfl rfl (Ops.gn rfl rfl (Ops.gn rfl rfl (Ops.gn rfl rfl (Ops.st (s := 5528) (.pkT rfl rfl rfl) rfl rfl (Ops.nil (Run.condT rfl rfl (Run.seq (Run.ops hm (Ops.p rfl (Ops.nil (Run.ret ?_)))))))))))))))))
    obtain rfl := someO h
    exact Ends.mkG (.inl rfl) rfl (gh_pk [0] [] hB rfl rfl rfl rfl) rfl rfl
   ·refine Ops.gp rfl g_172 rfl (Ops.gp rfl g_172 rfl (Ops.gp rfl g_172 rfl (Ops.gp rfl g_172 rfl (Ops.st (s := 5432) (.pkF rfl g_172 rfl) rfl rfl (Ops.p rfl (Ops.askO (x := .t 25) rfl h (fun g_173 h => ?_) (fun g_173 h => ?_)))))))
    ·refine Ops.gn rfl g_173 (Ops.gn rfl g_173 (Ops.gn rfl g_173 (Ops.gn rfl g_173 (Ops.st (s := 5528) (.pkT rfl g_173 rfl) rfl rfl (Ops.nil (Run.condT rfl rfl (Run.seq (Run.ops hm (Ops.p rfl (Ops.nil (Run.ret ?_)))))))))))
     obtain rfl := someO h
     exact Ends.mkG (.inl rfl) rfl (gh_pk [0] [] hB rfl rfl rfl rfl) rfl rfl
    ·refine Ops.gp rfl g_173 rfl (Ops.gp rfl g_173 rfl (Ops.gp rfl g_173 rfl (Ops.gp rfl g_173 rfl (Ops.st (s := 5528) (.pkF rfl g_173 rfl) rfl rfl (Ops.nil (Run.condO rfl h (fun g_174 h => ?_) (fun g_174 h => ?_)))))))
     ·refine Run.seq (Run.ops hm (Ops.p rfl (Ops.nil (Run.ret ?_))))
      obtain rfl := someO h
      exact Ends.mkG (.inl rfl) rfl (gh_pk [0] [] hB rfl rfl rfl rfl) rfl rfl
     ·refine Run.skip (Run.seq (Run.seq (Run.ops hm (.p3 rfl rfl rfl (Ops.nil (Run.condO rfl h (fun g_176 h => ?_) (fun g_176 h => ?_)))))))
      ·refine Run.seq (Run.ops hm (Ops.p rfl (Ops.st (s := 17400) (.bd rfl rfl) rfl rfl (.p2 rfl rfl (Ops.nil (Run.ret ?_))))))
       obtain rfl := someO h
       exact Ends.mkG (.inl rfl) rfl (gh_pk [0] [] hB rfl rfl rfl rfl) rfl rfl
      ·refine Run.skip (Run.seq (Run.seq (Run.ops hm (.p3 rfl rfl rfl ?_))))
       obtain ⟨y_181,hy_181,h⟩ := bindO h
       refine Ops.st (s := 21528) (Ev.call [] [] 0 (sem_spec_l01In _ _ _ _ _ hy_181) rfl rfl (.d2 (.d1 .nil)) rfl (.inl rfl) rfl rfl) rfl rfl (Ops.p rfl (Ops.nil (Run.condO rfl h (fun g_182 h => ?_) (fun g_182 h => ?_))))
       ·refine Run.seq (Run.ops hm (Ops.p rfl (Ops.nil (Run.ret ?_))))
        obtain rfl := someO h
        exact Ends.mkG (.inl rfl) rfl (gh_pk [0] [] hB rfl rfl rfl rfl) rfl rfl
       ·refine Run.skip (Run.seq (Run.seq (Run.ops hm (.p2 rfl rfl (Ops.nil (Run.block (Run.seq (Run.seq (Run.ops hm (.p2 rfl rfl (Ops.nil (Run.condO rfl h (fun g_183 h => ?_) (fun g_183 h => ?_)))))))))))))
        ·refine Run.skip (Run.condT rfl g_183 (Run.seq (Run.ops hm (.p3 rfl rfl rfl (Ops.p rfl (Ops.askO (x := .t 50) rfl h (fun g_185 h => ?_) (fun g_185 h => ?_)))))))
         ·refine Ops.gp rfl g_185 rfl (Ops.gp rfl g_185 rfl (Ops.gp rfl g_185 rfl (Ops.st (s := 42072) (.pkT rfl g_185 rfl) rfl rfl (Ops.p rfl (Ops.nil (Run.ret ?_))))))
          obtain rfl := someO h
          exact Ends.mkG (.inl rfl) rfl (gh_pk [0] [] hB rfl rfl rfl rfl) rfl rfl
         ·refine Ops.gn rfl g_185 (Ops.gn rfl g_185 (Ops.gn rfl g_185 (Ops.st (s := 42072) (.pkF rfl g_185 rfl) rfl rfl (Ops.p rfl (Ops.nil (Run.ret ?_))))))
          obtain rfl := someO h
          exact Ends.mkG (.inl rfl) rfl (gh_pk [0] [] hB rfl rfl rfl rfl) rfl rfl
        ·refine Run.ops hm (.p2 rfl rfl (Ops.nil (Run.condO rfl h (fun g_186 h => ?_) (fun g_186 h => ?_))))
         ·refine Run.seq (Run.ops hm (.p3 rfl rfl rfl (Ops.p rfl (Ops.askO (x := .t 50) rfl h (fun g_188 h => ?_) (fun g_188 h => ?_)))))
          ·refine Ops.gp rfl g_188 rfl (Ops.gp rfl g_188 rfl (Ops.gp rfl g_188 rfl (Ops.st (s := 42072) (.pkT rfl g_188 rfl) rfl rfl (Ops.p rfl (Ops.nil (Run.ret ?_))))))
           obtain rfl := someO h
           exact Ends.mkG (.inl rfl) rfl (gh_pk [0] [] hB rfl rfl rfl rfl) rfl rfl
          ·refine Ops.gn rfl g_188 (Ops.gn rfl g_188 (Ops.gn rfl g_188 (Ops.st (s := 42072) (.pkF rfl g_188 rfl) rfl rfl (Ops.p rfl (Ops.nil (Run.ret ?_))))))
           obtain rfl := someO h
           exact Ends.mkG (.inl rfl) rfl (gh_pk [0] [] hB rfl rfl rfl rfl) rfl rfl
         ·refine Run.seq (Run.ops hm (.p2 rfl rfl (Ops.nil (Run.condO rfl h (fun g_189 h => ?_) (fun g_189 h => ?_)))))
          ·refine Run.seq (Run.ops hm (.p3 rfl rfl rfl (Ops.p rfl (Ops.nil (Run.ret ?_)))))
           obtain rfl := someO h
           exact Ends.mkG (.inl rfl) rfl (gh_pk [0] [] hB rfl rfl rfl rfl) rfl rfl
          ·refine Run.skip (Run.seq (Run.ops hm (Ops.p rfl (Ops.nil (Run.ret ?_)))))
           obtain rfl := someO h
           exact Ends.mkG (.inl rfl) rfl (gh_pk [0] [] hB rfl rfl rfl rfl) rfl rfl
end Go.Proofs.Ytehknbpmpbghhaa.Pe.FnSettles
