/- Functions,as pure functions; and that Go does just that. -/
import Derived.Test.YtehknbpmpbghhaaPeFFnSettles6
namespace Go.Proofs.Ytehknbpmpbghhaa.Pe.FnSettles
open Go Go.RowKit
set_option linter.unusedVariables false
set_option linter.unusedSimpArgs false
set_option maxHeartbeats 40000000
def spec_Receive (N : Nat) (x_1 : Node) (x_2 : Message) : Option (Node × (List Message) × Bool) :=
 (spec_NodeOk N x_1).bind fun y_185 =>
 (if (!y_185) = true then
 some ((Node.mk 0 0 0 0 0 ([]) (Log.mk 0 0 ([])) 0 0 0 ([]) ([])),([] : List Message),false)
 else
 (spec_MessageOk N x_2).bind fun y_187 =>
 (if (!y_187) = true then
 some ((Node.mk 0 0 0 0 0 ([]) (Log.mk 0 0 ([])) 0 0 0 ([]) ([])),([] : List Message),false)
 else
 (if (x_2.To != x_1.Id) = true then
 some ((Node.mk 0 0 0 0 0 ([]) (Log.mk 0 0 ([])) 0 0 0 ([]) ([])),([] : List Message),false)
 else
 (spec_l16Copy N x_1).bind fun y_193 =>
 joinP (fun (v_197 : Int × Int × Int × Int × Int × Int × Int × Int × Int × Int × (List Int) × (List Peer) × (List Message)) =>
 joinP (fun (v_222 : Int × Int × Int × Int × Int × Int × Int × Int × Int × Int × (List Int) × (List Entry) × (List Int) × (List Peer) × (List Message)) =>
 some ((Node.mk v_222.1 v_222.2.1 v_222.2.2.1 v_222.2.2.2.1 v_222.2.2.2.2.1 v_222.2.2.2.2.2.2.2.2.2.2.1 (Log.mk v_222.2.2.2.2.2.1 v_222.2.2.2.2.2.2.1 v_222.2.2.2.2.2.2.2.2.2.2.2.1) v_222.2.2.2.2.2.2.2.1 v_222.2.2.2.2.2.2.2.2.1 v_222.2.2.2.2.2.2.2.2.2.1 v_222.2.2.2.2.2.2.2.2.2.2.2.2.1 v_222.2.2.2.2.2.2.2.2.2.2.2.2.2.1),v_222.2.2.2.2.2.2.2.2.2.2.2.2.2.2,true)) fun j_222 =>
 (if (x_2.Kind == 1) = true then
 (spec_l16AskVote N (Tl16Run.mk (Node.mk v_197.1 v_197.2.1 v_197.2.2.1 v_197.2.2.2.1 v_197.2.2.2.2.1 y_193.Conf (Log.mk v_197.2.2.2.2.2.1 v_197.2.2.2.2.2.2.1 y_193.Log.Entries) v_197.2.2.2.2.2.2.2.1 v_197.2.2.2.2.2.2.2.2.1 v_197.2.2.2.2.2.2.2.2.2.1 v_197.2.2.2.2.2.2.2.2.2.2.1 v_197.2.2.2.2.2.2.2.2.2.2.2.1) v_197.2.2.2.2.2.2.2.2.2.2.2.2) x_2).bind fun y_225 =>
 j_222 (y_225.n.Id,y_225.n.Term,y_225.n.Vote,y_225.n.Role,y_225.n.Lead,y_225.n.Log.Start,y_225.n.Log.StartTerm,y_225.n.Commit,y_225.n.Clock,y_225.n.Limit,y_193.Conf,y_193.Log.Entries,v_197.2.2.2.2.2.2.2.2.2.2.1,v_197.2.2.2.2.2.2.2.2.2.2.2.1,y_225.told)
 else
 (if (x_2.Kind == 2) = true then
 (spec_l16TellVote N (Tl16Run.mk (Node.mk v_197.1 v_197.2.1 v_197.2.2.1 v_197.2.2.2.1 v_197.2.2.2.2.1 y_193.Conf (Log.mk v_197.2.2.2.2.2.1 v_197.2.2.2.2.2.2.1 y_193.Log.Entries) v_197.2.2.2.2.2.2.2.1 v_197.2.2.2.2.2.2.2.2.1 v_197.2.2.2.2.2.2.2.2.2.1 v_197.2.2.2.2.2.2.2.2.2.2.1 v_197.2.2.2.2.2.2.2.2.2.2.2.1) v_197.2.2.2.2.2.2.2.2.2.2.2.2) x_2).bind fun y_228 =>
 j_222 (y_228.n.Id,y_228.n.Term,y_228.n.Vote,y_228.n.Role,y_228.n.Lead,y_228.n.Log.Start,y_228.n.Log.StartTerm,y_228.n.Commit,y_228.n.Clock,y_228.n.Limit,y_228.n.Conf,y_228.n.Log.Entries,y_228.n.Votes,y_228.n.Peers,y_228.told)
 else
 (if (x_2.Kind == 3) = true then
 (spec_l16AskAppend N (Tl16Run.mk (Node.mk v_197.1 v_197.2.1 v_197.2.2.1 v_197.2.2.2.1 v_197.2.2.2.2.1 y_193.Conf (Log.mk v_197.2.2.2.2.2.1 v_197.2.2.2.2.2.2.1 y_193.Log.Entries) v_197.2.2.2.2.2.2.2.1 v_197.2.2.2.2.2.2.2.2.1 v_197.2.2.2.2.2.2.2.2.2.1 v_197.2.2.2.2.2.2.2.2.2.2.1 v_197.2.2.2.2.2.2.2.2.2.2.2.1) v_197.2.2.2.2.2.2.2.2.2.2.2.2) x_2).bind fun y_231 =>
 j_222 (y_231.n.Id,y_231.n.Term,y_231.n.Vote,y_231.n.Role,y_231.n.Lead,y_231.n.Log.Start,y_231.n.Log.StartTerm,y_231.n.Commit,y_231.n.Clock,y_231.n.Limit,y_231.n.Conf,y_231.n.Log.Entries,y_231.n.Votes,y_231.n.Peers,y_231.told)
 else
 (if (x_2.Kind == 4) = true then
 (spec_l16Reply N (Tl16Run.mk (Node.mk v_197.1 v_197.2.1 v_197.2.2.1 v_197.2.2.2.1 v_197.2.2.2.2.1 y_193.Conf (Log.mk v_197.2.2.2.2.2.1 v_197.2.2.2.2.2.2.1 y_193.Log.Entries) v_197.2.2.2.2.2.2.2.1 v_197.2.2.2.2.2.2.2.2.1 v_197.2.2.2.2.2.2.2.2.2.1 v_197.2.2.2.2.2.2.2.2.2.2.1 v_197.2.2.2.2.2.2.2.2.2.2.2.1) v_197.2.2.2.2.2.2.2.2.2.2.2.2) x_2).bind fun y_234 =>
 j_222 (y_234.n.Id,y_234.n.Term,y_234.n.Vote,y_234.n.Role,y_234.n.Lead,y_234.n.Log.Start,y_234.n.Log.StartTerm,y_234.n.Commit,y_234.n.Clock,y_234.n.Limit,y_234.n.Conf,y_234.n.Log.Entries,y_234.n.Votes,y_234.n.Peers,y_234.told)
 else
 (if (x_2.Kind == 6) = true then
 (spec_l16Reply N (Tl16Run.mk (Node.mk v_197.1 v_197.2.1 v_197.2.2.1 v_197.2.2.2.1 v_197.2.2.2.2.1 y_193.Conf (Log.mk v_197.2.2.2.2.2.1 v_197.2.2.2.2.2.2.1 y_193.Log.Entries) v_197.2.2.2.2.2.2.2.1 v_197.2.2.2.2.2.2.2.2.1 v_197.2.2.2.2.2.2.2.2.2.1 v_197.2.2.2.2.2.2.2.2.2.2.1 v_197.2.2.2.2.2.2.2.2.2.2.2.1) v_197.2.2.2.2.2.2.2.2.2.2.2.2) x_2).bind fun y_237 =>
 j_222 (y_237.n.Id,y_237.n.Term,y_237.n.Vote,y_237.n.Role,y_237.n.Lead,y_237.n.Log.Start,y_237.n.Log.StartTerm,y_237.n.Commit,y_237.n.Clock,y_237.n.Limit,y_237.n.Conf,y_237.n.Log.Entries,y_237.n.Votes,y_237.n.Peers,y_237.told)
 else
 (if (x_2.Kind == 5) = true then
 (if (decide (x_2.Term ≥ v_197.2.1)) = true then
 (spec_l16Follow N (Tl16Run.mk (Node.mk v_197.1 v_197.2.1 v_197.2.2.1 v_197.2.2.2.1 v_197.2.2.2.2.1 y_193.Conf (Log.mk v_197.2.2.2.2.2.1 v_197.2.2.2.2.2.2.1 y_193.Log.Entries) v_197.2.2.2.2.2.2.2.1 v_197.2.2.2.2.2.2.2.2.1 v_197.2.2.2.2.2.2.2.2.2.1 v_197.2.2.2.2.2.2.2.2.2.2.1 v_197.2.2.2.2.2.2.2.2.2.2.2.1) v_197.2.2.2.2.2.2.2.2.2.2.2.2) x_2.From).bind fun y_243 =>
 j_222 (y_243.n.Id,y_243.n.Term,y_243.n.Vote,y_243.n.Role,y_243.n.Lead,y_243.n.Log.Start,y_243.n.Log.StartTerm,y_243.n.Commit,0,y_243.n.Limit,y_193.Conf,y_193.Log.Entries,y_243.n.Votes,y_243.n.Peers,v_197.2.2.2.2.2.2.2.2.2.2.2.2)
 else
 j_222 (v_197.1,v_197.2.1,v_197.2.2.1,v_197.2.2.2.1,v_197.2.2.2.2.1,v_197.2.2.2.2.2.1,v_197.2.2.2.2.2.2.1,v_197.2.2.2.2.2.2.2.1,v_197.2.2.2.2.2.2.2.2.1,v_197.2.2.2.2.2.2.2.2.2.1,y_193.Conf,y_193.Log.Entries,v_197.2.2.2.2.2.2.2.2.2.2.1,v_197.2.2.2.2.2.2.2.2.2.2.2.1,v_197.2.2.2.2.2.2.2.2.2.2.2.2))
 else
 j_222 (v_197.1,v_197.2.1,v_197.2.2.1,v_197.2.2.2.1,v_197.2.2.2.2.1,v_197.2.2.2.2.2.1,v_197.2.2.2.2.2.2.1,v_197.2.2.2.2.2.2.2.1,v_197.2.2.2.2.2.2.2.2.1,v_197.2.2.2.2.2.2.2.2.2.1,y_193.Conf,y_193.Log.Entries,v_197.2.2.2.2.2.2.2.2.2.2.1,v_197.2.2.2.2.2.2.2.2.2.2.2.1,v_197.2.2.2.2.2.2.2.2.2.2.2.2)))))))) fun j_197 =>
 (if (decide (x_2.Term > x_1.Term)) = true then
 (spec_l16Follow_i1 N (Tl16Run.mk (Node.mk y_193.Id x_2.Term 0 y_193.Role y_193.Lead y_193.Conf y_193.Log y_193.Commit y_193.Clock y_193.Limit y_193.Votes y_193.Peers) ([])) 0).bind fun y_200 =>
 j_197 (y_200.n.Id,y_200.n.Term,y_200.n.Vote,y_200.n.Role,y_200.n.Lead,y_200.n.Log.Start,y_200.n.Log.StartTerm,y_200.n.Commit,y_200.n.Clock,y_200.n.Limit,y_200.n.Votes,y_200.n.Peers,y_200.told)
 else
 j_197 (y_193.Id,y_193.Term,y_193.Vote,y_193.Role,y_193.Lead,y_193.Log.Start,y_193.Log.StartTerm,y_193.Commit,y_193.Clock,y_193.Limit,y_193.Votes,y_193.Peers,([] : (List Message)))))))
theorem sem_spec_Receive (N : Nat) (x_1 : Node) (x_2 : Message) (r : Node × (List Message) × Bool) (h : spec_Receive N x_1 x_2 = some r) : Says Try.prog 145 [.agg [VI x_1.Id,VI x_1.Term,VI x_1.Vote,VI x_1.Role,VI x_1.Lead,RO 3 (x_1.Conf.map encI),VI x_1.Log.Start,VI x_1.Log.StartTerm,RO 51 (x_1.Log.Entries.map encEntry),VI x_1.Commit,VI x_1.Clock,VI x_1.Limit,RO 3 (x_1.Votes.map encI),RO 135 (x_1.Peers.map encPeer)],.agg [VI x_2.Kind,VI x_2.From,VI x_2.To,VI x_2.Term,VI x_2.Index,VI x_2.LogTerm,VI x_2.Commit,VB x_2.Ok,RO 51 (x_2.Entries.map encEntry),RO 3 (x_2.Conf.map encI),VS x_2.Data,VB x_2.Last]] 0 [] (.tup [.agg [VI r.1.Id,VI r.1.Term,VI r.1.Vote,VI r.1.Role,VI r.1.Lead,.sl 0 3 0 r.1.Conf.length,VI r.1.Log.Start,VI r.1.Log.StartTerm,.sl 1 51 0 r.1.Log.Entries.length,VI r.1.Commit,VI r.1.Clock,VI r.1.Limit,.sl 2 3 0 r.1.Votes.length,.sl 3 135 0 r.1.Peers.length],.sl 4 58 0 r.2.1.length,VB r.2.2]) [(0,.vec 3 (r.1.Conf.map encI)),(1,.vec 51 (r.1.Log.Entries.map encEntry)),(2,.vec 3 (r.1.Votes.map encI)),(3,.vec 135 (r.1.Peers.map encPeer)),(4,.vec 58 (r.2.1.map (encMessage false)))] := by
 unfold spec_Receive at h
 refine Says.of_run s145 Try.call145 rfl fun B hB => ?_
 have hm : B.m ≤ 1000 := by omega
 refine Run.seq (Run.ops hm (Ops.st (s := 1000) (.bx rfl rfl) rfl rfl (Ops.st (s := 1016) (.bx rfl rfl) rfl rfl (Ops.st (s := 1032) (.al rfl rfl) rfl rfl (.p2 rfl rfl (Ops.nil (Run.seq (Run.seq (Run.ops hm (Ops.p rfl ?_))))))))))
 obtain ⟨y_185,hy_185,h⟩ := bindO h
 refine Ops.st (s := 5112) (Ev.call [] [] 0 (sem_spec_NodeOk _ _ _ hy_185) rfl rfl (.cons (.agg (.d4 (.d4 (.d4 (.d2 .nil))))) .nil) rfl (.inl rfl) rfl rfl) rfl rfl (.p2 rfl rfl (Ops.askO (x := .t 11) rfl h (fun g_186 h => ?_) (fun g_186 h => ?_)))
 ·refine Ops.gn rfl g_186 (Ops.gn rfl g_186 (Ops.gn rfl g_186 (Ops.st (s := 5208) (.pkT rfl g_186 rfl) rfl rfl (Ops.p rfl (Ops.gn rfl rfl (Ops.gn rfl rfl (Ops.gn rfl rfl (Ops.gn rfl rfl (Ops.gn rfl rfl (Ops.st (s := 5320) (.pkT rfl rfl rfl) rfl rfl (Ops.nil (Run.condT rfl rfl (Run.seq (Run.ops hm (Ops.st (s := 9192) (.bd rfl rfl) rfl rfl (Ops.st (s := 9208) (Ev.bsW (ys := ([] : List Message)) (f := (encMessage false)) rfl .nil rfl rfl rfl rfl rfl) rfl rfl (Ops.s0 (s := 9224) (.sto rfl rfl rfl rfl rfl rfl) rfl rfl (.p2 rfl rfl (Ops.nil (Run.ret ?_))))))))))))))))))))
  obtain rfl := someO h
  exact Ends.mkG (.inl rfl) rfl (Gh.trans (Gh.trans (gh_prn [0,1,2] [9208] hB rfl) (gh_nil [0] [] hB rfl rfl rfl)) (gh_pk [0,1,2] [10000000,10000001,10000002,10000003,9208] hB rfl rfl rfl rfl)) rfl rfl
 ·refine Ops.gp rfl g_186 rfl ?_
  obtain ⟨y_187,hy_187,h⟩ := bindO h
  refine Ops.gs (s := 5176) rfl g_186 (Ev.call [] [] 0 (sem_spec_MessageOk _ _ _ hy_187) rfl rfl (.cons (.agg (.d4 (.d4 (.d4 .nil)))) .nil) rfl (.inl rfl) rfl rfl) rfl rfl (Ops.gp rfl g_186 rfl (Ops.st (s := 5208) (.pkF rfl g_186 rfl) rfl rfl (Ops.p rfl (Ops.askO (x := .t 16) rfl h (fun g_188 h => ?_) (fun g_188 h => ?_)))))
  ·refine Ops.gn rfl g_188 (Ops.gn rfl g_188 (Ops.gn rfl g_188 (Ops.gn rfl g_188 (Ops.gn rfl g_188 (Ops.st (s := 5320) (.pkT rfl g_188 rfl) rfl rfl (Ops.nil (Run.condT rfl rfl (Run.seq (Run.ops hm (Ops.st (s := 9192) (.bd rfl rfl) rfl rfl (Ops.st (s := 9208) (Ev.bsW (ys := ([] : List Message)) (f := (encMessage false)) rfl .nil rfl rfl rfl rfl rfl) rfl rfl (Ops.s0 (s := 9224) (.sto rfl rfl rfl rfl rfl rfl) rfl rfl (.p2 rfl rfl (Ops.nil (Run.ret ?_)))))))))))))))
   obtain rfl := someO h
   exact Ends.mkG (.inl rfl) rfl (Gh.trans (Gh.trans (gh_prn [0,1,2] [9208] hB rfl) (gh_nil [0] [] hB rfl rfl rfl)) (gh_pk [0,1,2] [10000000,10000001,10000002,10000003,9208] hB rfl rfl rfl rfl)) rfl rfl
  ·refine Ops.gp rfl g_188 rfl (Ops.gp rfl g_188 rfl (Ops.gp rfl g_188 rfl (Ops.gp rfl g_188 rfl (Ops.gp rfl g_188 rfl (Ops.st (s := 5320) (.pkF rfl g_188 rfl) rfl rfl (Ops.nil (Run.condO rfl h (fun g_189 h => ?_) (fun g_189 h => ?_))))))))
   ·refine Run.seq (Run.ops hm (Ops.st (s := 9192) (.bd rfl rfl) rfl rfl (Ops.st (s := 9208) (Ev.bsW (ys := ([] : List Message)) (f := (encMessage false)) rfl .nil rfl rfl rfl rfl rfl) rfl rfl (Ops.s0 (s := 9224) (.sto rfl rfl rfl rfl rfl rfl) rfl rfl (.p2 rfl rfl (Ops.nil (Run.ret ?_)))))))
    obtain rfl := someO h
    exact Ends.mkG (.inl rfl) rfl (Gh.trans (Gh.trans (gh_prn [0,1,2] [9208] hB rfl) (gh_nil [0] [] hB rfl rfl rfl)) (gh_pk [0,1,2] [10000000,10000001,10000002,10000003,9208] hB rfl rfl rfl rfl)) rfl rfl
   ·refine Run.skip (Run.seq (Run.ops hm (Ops.p rfl ?_)))
    obtain ⟨y_193,hy_193,h⟩ := bindO h
    refine Ops.st (s := 13304) (Ev.call [] [] 4 (sem_spec_l16Copy _ _ _ hy_193) rfl rfl (.cons (.agg (.d4 (.d4 (.d4 (.d2 .nil))))) .nil) rfl (.inl rfl) rfl rfl) rfl rfl (Ops.st (s := 13320) (.bd rfl rfl) rfl rfl (Ops.st (s := 13336) (.bx rfl rfl) rfl rfl (Ops.p rfl (Ops.nil (Run.seqO h (fun v_197 => [(3,.ptr 0 0),(4,.ptr 1 0),(7,.ptr 2 0)]) (fun (v_197 : Int × Int × Int × Int × Int × Int × Int × Int × Int × Int × (List Int) × (List Peer) × (List Message)) => [(0,.box [VI x_2.Kind,VI x_2.From,VI x_2.To,VI x_2.Term,VI x_2.Index,VI x_2.LogTerm,VI x_2.Commit,VB x_2.Ok,RO 51 (x_2.Entries.map encEntry),RO 3 (x_2.Conf.map encI),VS x_2.Data,VB x_2.Last]),(1,.box [VI 0,VI 0,VI 0,VI 0,VI 0,.sl 3 3 0 (([] : List Int).length),VI 0,VI 0,.sl 4 51 0 (([] : List Entry).length),VI 0,VI 0,VI 0,.sl 5 3 0 (([] : List Int).length),.sl 6 135 0 (([] : List Peer).length)]),(2,.box [VI v_197.1,VI v_197.2.1,VI v_197.2.2.1,VI v_197.2.2.2.1,VI v_197.2.2.2.2.1,.sl 7 3 0 y_193.Conf.length,VI v_197.2.2.2.2.2.1,VI v_197.2.2.2.2.2.2.1,.sl 8 51 0 y_193.Log.Entries.length,VI v_197.2.2.2.2.2.2.2.1,VI v_197.2.2.2.2.2.2.2.2.1,VI v_197.2.2.2.2.2.2.2.2.2.1,.sl 9 3 0 v_197.2.2.2.2.2.2.2.2.2.2.1.length,.sl 10 135 0 v_197.2.2.2.2.2.2.2.2.2.2.2.1.length,.sl 11 58 0 v_197.2.2.2.2.2.2.2.2.2.2.2.2.length]),(3,.vec 3 (([] : List Int).map encI)),(4,.vec 51 (([] : List Entry).map encEntry)),(5,.vec 3 (([] : List Int).map encI)),(6,.vec 135 (([] : List Peer).map encPeer)),(7,.vec 3 (y_193.Conf.map encI)),(8,.vec 51 (y_193.Log.Entries.map encEntry)),(9,.vec 3 (v_197.2.2.2.2.2.2.2.2.2.2.1.map encI)),(10,.vec 135 (v_197.2.2.2.2.2.2.2.2.2.2.2.1.map encPeer)),(11,.vec 58 (v_197.2.2.2.2.2.2.2.2.2.2.2.2.map (encMessage false)))]) (fun h => ?_) (fun v_197 h => ?_))))))
    ·refine Run.seq (Run.ops hm (.p3 rfl rfl rfl (.p2 rfl rfl (Ops.nil (Run.condO rfl h (fun g_198 h => ?_) (fun g_198 h => ?_))))))
     ·refine Run.seq (Run.ops hm (.p3 rfl rfl rfl (.p3 rfl rfl rfl (Ops.s0 (s := 21576) (.sto rfl rfl rfl rfl rfl rfl) rfl rfl (Ops.nil (Run.seq (Run.ops hm (.p3 rfl rfl rfl (Ops.p rfl (Ops.s0 (s := 25640) (.sto rfl rfl rfl rfl rfl rfl) rfl rfl (Ops.nil (Run.ops hm (Ops.p rfl ?_)))))))))))))
      obtain ⟨y_200,hy_200,h⟩ := bindO h
      exact Ops.st (s := 29688) (Ev.call [13336,13304,13305,13306,13307] [] 3 (sem_spec_l16Follow_i1 _ _ _ _ hy_200) rfl rfl (.cons (.ptr rfl) (.d1 .nil)) rfl (.inl rfl) rfl rfl) rfl rfl (Ops.nil (⟨_,_,(Gh.trans (Gh.trans (gh_prn [3,4,7] [1016,1032,13336,13304,13305,29688,29689,29690] hB rfl) (gh_nil [] [1032] hB rfl rfl rfl)) (gh_pk [3,4,7] [1016,1032,13336,20000000,20000001,20000002,20000003,13304,13305,29688,29689,29690] hB rfl rfl rfl rfl)),_,h,rfl,rfl⟩))
     ·exact Run.skip (⟨_,_,(Gh.trans (Gh.trans (gh_prn [3,4,7] [1016,1032,13336,13304,13305,13306,13307] hB rfl) (gh_nil [] [1032,13336] hB rfl rfl rfl)) (gh_pk [3,4,7] [1016,1032,13336,20000000,20000001,20000002,20000003,13304,13305,13306,13307,20000064] hB rfl rfl rfl rfl)),_,h,rfl,rfl⟩)
    ·refine Run.seqO h (fun v_222 => [(4,.ptr 0 0),(7,.ptr 1 0)]) (fun (v_222 : Int × Int × Int × Int × Int × Int × Int × Int × Int × Int × (List Int) × (List Entry) × (List Int) × (List Peer) × (List Message)) => [(0,.box [VI 0,VI 0,VI 0,VI 0,VI 0,.sl 2 3 0 (([] : List Int).length),VI 0,VI 0,.sl 3 51 0 (([] : List Entry).length),VI 0,VI 0,VI 0,.sl 4 3 0 (([] : List Int).length),.sl 5 135 0 (([] : List Peer).length)]),(1,.box [VI v_222.1,VI v_222.2.1,VI v_222.2.2.1,VI v_222.2.2.2.1,VI v_222.2.2.2.2.1,.sl 6 3 0 v_222.2.2.2.2.2.2.2.2.2.2.1.length,VI v_222.2.2.2.2.2.1,VI v_222.2.2.2.2.2.2.1,.sl 7 51 0 v_222.2.2.2.2.2.2.2.2.2.2.2.1.length,VI v_222.2.2.2.2.2.2.2.1,VI v_222.2.2.2.2.2.2.2.2.1,VI v_222.2.2.2.2.2.2.2.2.2.1,.sl 8 3 0 v_222.2.2.2.2.2.2.2.2.2.2.2.2.1.length,.sl 9 135 0 v_222.2.2.2.2.2.2.2.2.2.2.2.2.2.1.length,.sl 10 58 0 v_222.2.2.2.2.2.2.2.2.2.2.2.2.2.2.length]),(2,.vec 3 (([] : List Int).map encI)),(3,.vec 51 (([] : List Entry).map encEntry)),(4,.vec 3 (([] : List Int).map encI)),(5,.vec 135 (([] : List Peer).map encPeer)),(6,.vec 3 (v_222.2.2.2.2.2.2.2.2.2.2.1.map encI)),(7,.vec 51 (v_222.2.2.2.2.2.2.2.2.2.2.2.1.map encEntry)),(8,.vec 3 (v_222.2.2.2.2.2.2.2.2.2.2.2.2.1.map encI)),(9,.vec 135 (v_222.2.2.2.2.2.2.2.2.2.2.2.2.2.1.map encPeer)),(10,.vec 58 (v_222.2.2.2.2.2.2.2.2.2.2.2.2.2.2.map (encMessage false)))]) (fun h => ?_) (fun v_222 h => ?_)
     ·refine Run.seq (Run.ops hm (.p2 rfl rfl (Ops.nil (Run.block (Run.seq (Run.ops hm (.p2 rfl rfl (Ops.nil (Run.condO rfl h (fun g_223 h => ?_) (fun g_223 h => ?_))))))))))
      ·refine Run.ops hm (.p2 rfl rfl ?_)
       obtain ⟨y_225,hy_225,h⟩ := bindO h
       exact Ops.st (s := 41992) (Ev.call [2,7,8,9,10,11] [] 1 (sem_spec_l16AskVote _ _ _ _ hy_225) rfl rfl (.cons (.ptr rfl) (.cons (.agg (.d4 (.d4 (.d4 .nil)))) .nil)) rfl (.inl rfl) rfl rfl) rfl rfl (Ops.nil (⟨_,_,(gh_pk [4,7] [1,2,3,4,5,6,7,8,9,10,41992] hB rfl rfl rfl rfl),_,h,rfl,rfl⟩))
      ·refine Run.seq (Run.ops hm (.p2 rfl rfl (Ops.nil (Run.condO rfl h (fun g_226 h => ?_) (fun g_226 h => ?_)))))
       ·refine Run.ops hm (.p2 rfl rfl ?_)
        obtain ⟨y_228,hy_228,h⟩ := bindO h
        exact Ops.st (s := 50184) (Ev.call [2,7,8,9,10,11] [] 5 (sem_spec_l16TellVote _ _ _ _ hy_228) rfl rfl (.cons (.ptr rfl) (.cons (.agg (.d4 (.d4 (.d4 .nil)))) .nil)) rfl (.inl rfl) rfl rfl) rfl rfl (Ops.nil (⟨_,_,(gh_pk [4,7] [1,2,3,4,5,6,50184,50185,50186,50187,50188] hB rfl rfl rfl rfl),_,h,rfl,rfl⟩))
       ·refine Run.seq (Run.ops hm (.p2 rfl rfl (Ops.nil (Run.condO rfl h (fun g_229 h => ?_) (fun g_229 h => ?_)))))
        ·refine Run.ops hm (.p2 rfl rfl ?_)
         obtain ⟨y_231,hy_231,h⟩ := bindO h
         exact Ops.st (s := 58376) (Ev.call [2,7,8,9,10,11] [] 5 (sem_spec_l16AskAppend _ _ _ _ hy_231) rfl rfl (.cons (.ptr rfl) (.cons (.agg (.d4 (.d4 (.d4 .nil)))) .nil)) rfl (.inl rfl) rfl rfl) rfl rfl (Ops.nil (⟨_,_,(gh_pk [4,7] [1,2,3,4,5,6,58376,58377,58378,58379,58380] hB rfl rfl rfl rfl),_,h,rfl,rfl⟩))
        ·refine Run.seq (Run.seq (Run.ops hm (.p2 rfl rfl (Ops.nil (Run.condO rfl h (fun g_232 h => ?_) (fun g_232 h => ?_))))))
         ·refine Run.skip (Run.condT rfl g_232 (Run.ops hm (.p2 rfl rfl ?_)))
          obtain ⟨y_234,hy_234,h⟩ := bindO h
          exact Ops.st (s := 70664) (Ev.call [2,7,8,9,10,11] [] 5 (sem_spec_l16Reply _ _ _ _ hy_234) rfl rfl (.cons (.ptr rfl) (.cons (.agg (.d4 (.d4 (.d4 .nil)))) .nil)) rfl (.inl rfl) rfl rfl) rfl rfl (Ops.nil (⟨_,_,(gh_pk [4,7] [1,2,3,4,5,6,70664,70665,70666,70667,70668] hB rfl rfl rfl rfl),_,h,rfl,rfl⟩))
         ·refine Run.ops hm (.p2 rfl rfl (Ops.nil (Run.condO rfl h (fun g_235 h => ?_) (fun g_235 h => ?_))))
          ·refine Run.ops hm (.p2 rfl rfl ?_)
           obtain ⟨y_237,hy_237,h⟩ := bindO h
           exact Ops.st (s := 70664) (Ev.call [2,7,8,9,10,11] [] 5 (sem_spec_l16Reply _ _ _ _ hy_237) rfl rfl (.cons (.ptr rfl) (.cons (.agg (.d4 (.d4 (.d4 .nil)))) .nil)) rfl (.inl rfl) rfl rfl) rfl rfl (Ops.nil (⟨_,_,(gh_pk [4,7] [1,2,3,4,5,6,70664,70665,70666,70667,70668] hB rfl rfl rfl rfl),_,h,rfl,rfl⟩))
          ·refine Run.seq (Run.ops hm (.p2 rfl rfl (Ops.nil (Run.condO rfl h (fun g_238 h => ?_) (fun g_238 h => ?_)))))
           ·refine Run.seq (Run.draw hm hmix (OpsD.p rfl (OpsD.p rfl (OpsD.p rfl (OpsD.p rfl (OpsD.p rfl (OpsD.p rfl (OpsD.p rfl (OpsD.p rfl (OpsD.nil ⟨by kernel_rfl,?_⟩))))))))))
            refine Run.condO rfl h (fun g_239 h => ?_) (fun g_239 h => ?_)
            ·refine Run.seq (Run.ops hm (.p3 rfl rfl rfl ?_))
             obtain ⟨y_243,hy_243,h⟩ := bindO h
             exact Ops.st (s := 82968) (Ev.call [2,7,8,9,10,11] [] 2 (sem_spec_l16Follow _ _ _ _ hy_243) rfl rfl (.cons (.ptr rfl) (.d1 .nil)) rfl (.inl rfl) rfl rfl) rfl rfl (Ops.nil (Run.ops hm (.p3 rfl rfl rfl (Ops.p rfl (Ops.s0 (s := 87080) (.sto rfl rfl rfl rfl rfl rfl) rfl rfl (Ops.nil (⟨_,_,(gh_pk [4,7] [1,2,3,4,5,6,7,8,82968,82969,11] hB rfl rfl rfl rfl),_,h,rfl,rfl⟩)))))))
            ·exact Run.skip (⟨_,_,(gh_pk [4,7] [1,2,3,4,5,6,7,8,9,10,11] hB rfl rfl rfl rfl),_,h,rfl,rfl⟩)
           ·exact Run.skip (⟨_,_,(gh_pk [4,7] [1,2,3,4,5,6,7,8,9,10,11] hB rfl rfl rfl rfl),_,h,rfl,rfl⟩)
     ·refine Run.seq (Run.draw hm hmix (OpsD.p rfl (OpsD.p rfl (OpsD.p rfl (OpsD.p rfl (OpsD.p rfl (OpsD.p rfl (OpsD.p rfl (OpsD.p rfl (OpsD.s0 (s := 91240) (.sto rfl rfl rfl rfl rfl rfl) rfl rfl (OpsD.p rfl (OpsD.p rfl (OpsD.nil ⟨by kernel_rfl,?_⟩)))))))))))))
      refine Run.ret ?_
      obtain rfl := someO h
      exact Ends.mkG (.inl rfl) rfl (gh_pk [0,1,2] [6,7,8,9,10] hB rfl rfl rfl rfl) rfl rfl
def spec_l16Play_l1 (N : Nat) (v_1736 : (List Int) × Int × Int × (List Int)) : Nat → Int → (List Int) → Int → Int → (List Node) → Option ((List Int) × Int × Int × (List Node))
 | 0,_,_,_,_,_ => none
 | m + 1,x_1798,x_1799,x_1800,x_1801,x_1803 =>
 (if (decide (x_1798 ≤ 4)) = true then
 (spec_NodeNew N x_1798 v_1736.2.2.2).bind fun y_1844 =>
 (spec_l01Below N (Tl01Cur.mk x_1799 x_1800 x_1801) 4).bind fun y_1848 =>
 (cat? x_1803 ([(Node.mk y_1844.1.Id y_1844.1.Term y_1844.1.Vote y_1844.1.Role y_1844.1.Lead y_1844.1.Conf y_1844.1.Log y_1844.1.Commit y_1844.1.Clock (w64 (1 + y_1848.1)) y_1844.1.Votes y_1844.1.Peers)] : List Node)).bind fun x_1850 =>
 spec_l16Play_l1 N v_1736 m (w64 (x_1798 + 1)) y_1848.2.b y_1848.2.i y_1848.2.h x_1850
 else
 some (x_1799,x_1800,x_1801,x_1803))
def spec_l16Play_l3 (N : Nat) (x_2612 : (List Node)) : Nat → Int → Int → Option (Int)
 | 0,_,_ => none
 | m + 1,x_3250,x_3251 =>
 (if (decide (x_3251 < 4)) = true then
 joinP (fun (v_3273 : Int) =>
 spec_l16Play_l3 N x_2612 m v_3273 (w64 (x_3251 + 1))) fun j_3273 =>
 (at? x_2612 x_3251).bind fun x_3275 =>
 (if (x_3275.Role == 2) = true then
 j_3273 x_3251
 else
 j_3273 x_3250)
 else
 some x_3250)
def spec_l16Play_l2 (N : Nat) (x_2 : Int) : Nat → Int → (List Int) → Int → Int → (List Node) → (List Message) → Option ((List Int) × Int × Int × (List Node) × (List Message))
 | 0,_,_,_,_,_,_ => none
 | m + 1,x_2608,x_2609,x_2610,x_2611,x_2612,x_2613 =>
 (if (decide (x_2608 < x_2)) = true then
 joinP (fun (v_3176 : (List Int) × Int × Int × (List Node) × (List Message)) =>
 spec_l16Play_l2 N x_2 m (w64 (x_2608 + 1)) v_3176.1 v_3176.2.1 v_3176.2.2.1 v_3176.2.2.2.1 v_3176.2.2.2.2) fun j_3176 =>
 (spec_l01Below N (Tl01Cur.mk x_2609 x_2610 x_2611) 4).bind fun y_3180 =>
 (spec_l01Below N y_3180.2 9).bind fun y_3184 =>
 (if (y_3184.1 == 0) = true then
 (at? x_2612 y_3180.1).bind fun x_3195 =>
 (spec_l01Below N y_3184.2 6).bind fun y_3196 =>
 (spec_Tick N x_3195 (w64 (1 + y_3196.1))).bind fun y_3197 =>
 (if y_3197.2.2 = true then
 (spec_l16Take_i1 N (Tl16Cluster.mk x_2612 x_2613) y_3180.1 y_3197.1 y_3197.2.1).bind fun y_3200 =>
 j_3176 (y_3196.2.b,y_3196.2.i,y_3196.2.h,y_3200.nodes,y_3200.net)
 else
 j_3176 (y_3196.2.b,y_3196.2.i,y_3196.2.h,x_2612,x_2613))
 else
 (if (y_3184.1 == 1) = true then
 (at? x_2612 y_3180.1).bind fun x_3211 =>
 (spec_l01Below N y_3184.2 6).bind fun y_3212 =>
 (spec_Tick N x_3211 (w64 (1 + y_3212.1))).bind fun y_3213 =>
 (if y_3213.2.2 = true then
 (spec_l16Take_i1 N (Tl16Cluster.mk x_2612 x_2613) y_3180.1 y_3213.1 y_3213.2.1).bind fun y_3216 =>
 j_3176 (y_3212.2.b,y_3212.2.i,y_3212.2.h,y_3216.nodes,y_3216.net)
 else
 j_3176 (y_3212.2.b,y_3212.2.i,y_3212.2.h,x_2612,x_2613))
 else
 (if (y_3184.1 == 2) = true then
 joinP (fun (v_3247 : Int) =>
 (at? x_2612 v_3247).bind fun x_3283 =>
 (spec_l11Right N y_3184.2 x_3283.Term).bind fun y_3284 =>
 (at? x_2612 v_3247).bind fun x_3291 =>
 (spec_Propose N x_3291 y_3284.1.Kind y_3284.1.Data).bind fun y_3292 =>
 (if y_3292.2.2.2 = true then
 (spec_l16Take_i1 N (Tl16Cluster.mk x_2612 x_2613) v_3247 y_3292.1 y_3292.2.1).bind fun y_3295 =>
 j_3176 (y_3284.2.b,y_3284.2.i,y_3284.2.h,y_3295.nodes,y_3295.net)
 else
 j_3176 (y_3284.2.b,y_3284.2.i,y_3284.2.h,x_2612,x_2613))) fun j_3247 =>
 (spec_l16Play_l3 N x_2612 N y_3180.1 0).bind (fun v_3266 => j_3247 v_3266)
 else
 (if (y_3184.1 == 3) = true then
 (spec_l01Once N y_3184.2 3).bind fun y_3298 =>
 (if y_3298.1 = true then
 (at? x_2612 y_3180.1).bind fun x_3312 =>
 (at? x_2612 y_3180.1).bind fun x_3313 =>
 (spec_l01Below N y_3298.2 2).bind fun y_3314 =>
 (spec_Settle N x_3312 (w64 (x_3313.Commit - y_3314.1))).bind fun y_3315 =>
 (if y_3315.2 = true then
 (at? x_2612 y_3180.1).bind fun x_3318 =>
 j_3176 (y_3314.2.b,y_3314.2.i,y_3314.2.h,(x_2612.set y_3180.1.toNat y_3315.1),x_2613)
 else
 j_3176 (y_3314.2.b,y_3314.2.i,y_3314.2.h,x_2612,x_2613))
 else
 j_3176 (y_3298.2.b,y_3298.2.i,y_3298.2.h,x_2612,x_2613))
 else
 (if (decide (((x_2613.length : Nat) : Int) > 0)) = true then
 (spec_l01Below N y_3184.2 ((x_2613.length : Nat) : Int)).bind fun y_3323 =>
 (at? x_2613 y_3323.1).bind fun x_3327 =>
 joinP (fun (v_3339 : (List Int) × Int × Int × (List Message)) =>
 (at? x_2612 (w64 (x_3327.To - 1))).bind fun x_3357 =>
 (spec_Receive N x_3357 x_3327).bind fun y_3358 =>
 (if y_3358.2.2 = true then
 (spec_l16Take_i1 N (Tl16Cluster.mk x_2612 v_3339.2.2.2) (w64 (x_3327.To - 1)) y_3358.1 y_3358.2.1).bind fun y_3361 =>
 j_3176 (v_3339.1,v_3339.2.1,v_3339.2.2.1,y_3361.nodes,y_3361.net)
 else
 j_3176 (v_3339.1,v_3339.2.1,v_3339.2.2.1,x_2612,v_3339.2.2.2))) fun j_3339 =>
 (spec_l01Once N y_3323.2 8).bind fun y_3341 =>
 (if (!y_3341.1) = true then
 (take? x_2613 y_3323.1).bind fun x_3347 =>
 (cat? ([] : List Message) (x_2613.take y_3323.1.toNat)).bind fun x_3348 =>
 (drop? x_2613 (w64 (y_3323.1 + 1))).bind fun x_3349 =>
 (cat? x_3348 ((x_2613.drop ((w64 (y_3323.1 + 1)).toNat)).take (x_2613.length - (w64 (y_3323.1 + 1)).toNat))).bind fun x_3350 =>
 j_3339 (y_3341.2.b,y_3341.2.i,y_3341.2.h,x_3350)
 else
 j_3339 (y_3341.2.b,y_3341.2.i,y_3341.2.h,x_2613))
 else
 j_3176 (y_3184.2.b,y_3184.2.i,y_3184.2.h,x_2612,x_2613))))))
 else
 some (x_2609,x_2610,x_2611,x_2612,x_2613))
def spec_l16Play (N : Nat) (x_1 : Tl01Cur) (x_2 : Int) : Option (Tl16Cluster × Tl01Cur) :=
 joinP (fun (v_1736 : (List Int) × Int × Int × (List Int)) =>
 joinP (fun (v_1796 : (List Int) × Int × Int × (List Node)) =>
 joinP (fun (v_2606 : (List Int) × Int × Int × (List Node) × (List Message)) =>
 some ((Tl16Cluster.mk v_2606.2.2.2.1 v_2606.2.2.2.2),(Tl01Cur.mk v_2606.1 v_2606.2.1 v_2606.2.2.1))) fun j_2606 =>
 (spec_l16Play_l2 N x_2 N 0 v_1796.1 v_1796.2.1 v_1796.2.2.1 v_1796.2.2.2 ([] : (List Message))).bind (fun v_2987 => j_2606 (v_2987.1,v_2987.2.1,v_2987.2.2.1,v_2987.2.2.2.1,v_2987.2.2.2.2))) fun j_1796 =>
 (spec_l16Play_l1 N v_1736 N 1 v_1736.1 v_1736.2.1 v_1736.2.2.1 ([] : (List Node))).bind (fun v_1827 => j_1796 (v_1827.1,v_1827.2.1,v_1827.2.2.1,v_1827.2.2.2))) fun j_1736 =>
 (spec_l01Once N x_1 3).bind fun y_1738 =>
 (if y_1738.1 = true then
 (spec_l07Conf N y_1738.2).bind fun y_1741 =>
 j_1736 (y_1741.2.b,y_1741.2.i,y_1741.2.h,y_1741.1)
 else
 j_1736 (y_1738.2.b,y_1738.2.i,y_1738.2.h,([1,2,3] : List Int)))
theorem sem_spec_l16Play (N : Nat) (x_1 : Tl01Cur) (x_2 : Int) (r : Tl16Cluster × Tl01Cur) (h : spec_l16Play N x_1 x_2 = some r) : Says Try.prog 64 [.ptr 0 0,VI x_2] 1 [(0,.box [RO 5 (x_1.b.map encU),VI x_1.i,VI x_1.h])] (.ptr 1 0) [(0,.box [RO 5 (r.2.b.map encU),VI r.2.i,VI r.2.h]),(1,.box [.sl 2 56 0 r.1.nodes.length,.sl 3 58 0 r.1.net.length]),(2,.vec 56 (r.1.nodes.map (encNode false))),(3,.vec 58 (r.1.net.map (encMessage false)))] := by
 unfold spec_l16Play at h
 refine Says.of_run s64 Try.call64 rfl fun B hB => ?_
 have hm : B.m ≤ 1000 := by omega
 refine Run.seq (Run.ops hm (Ops.p rfl (Ops.nil (Run.seq (Run.ops hm (Ops.st (s := 5096) (.bd rfl rfl) rfl rfl (Ops.st (s := 5112) (.bx rfl rfl) rfl rfl (Ops.p rfl (Ops.nil (Run.seq (Run.ops hm (Ops.st (s := 9192) (Ev.bsW (ys := ([1,2,3] : List Int)) (f := encI) rfl (.d2 (.d1 .nil)) rfl rfl rfl rfl rfl) rfl rfl (Ops.p rfl (Ops.nil (Run.seqO h (fun v_1736 => [(0,.ptr 0 0),(1,VI x_2),(5,.ptr 1 0),(6,.sl 2 3 0 v_1736.2.2.2.length)]) (fun (v_1736 : (List Int) × Int × Int × (List Int)) => [(0,.box [RO 5 (v_1736.1.map encU),VI v_1736.2.1,VI v_1736.2.2.1]),(1,.box [.sl 3 56 0 (([] : List Node).length),.sl 4 58 0 (([] : List Message).length)]),(2,.vec 3 (v_1736.2.2.2.map encI)),(3,.vec 56 (([] : List Node).map (encNode false))),(4,.vec 58 (([] : List Message).map (encMessage false)))]) (fun h => ?_) (fun v_1736 h => ?_))))))))))))))))
 ·refine Run.seq (Run.ops hm (Ops.p rfl ?_))
  obtain ⟨y_1738,hy_1738,h⟩ := bindO h
  refine Ops.st (s := 13304) (Ev.call [0] [] 0 (sem_spec_l01Once _ _ _ _ hy_1738) rfl rfl (.cons (.ptr rfl) (.d1 .nil)) rfl (.inl rfl) rfl rfl) rfl rfl (Ops.nil (Run.condO rfl h (fun g_1739 h => ?_) (fun g_1739 h => ?_)))
  ·refine Run.ops hm (Ops.p rfl ?_)
   obtain ⟨y_1741,hy_1741,h⟩ := bindO h
   exact Ops.st (s := 17400) (Ev.call [0] [] 1 (sem_spec_l07Conf _ _ _ hy_1741) rfl rfl (.cons (.ptr rfl) .nil) rfl (.inl rfl) rfl rfl) rfl rfl (Ops.p rfl (Ops.nil (⟨_,_,(Gh.trans (Gh.trans (gh_prn [0,1,5,6] [0,5112,17400] hB rfl) (gh_nil [] [5112] hB rfl rfl rfl)) (gh_pk [0,1,5,6] [0,5112,17400,20000000,20000001] hB rfl rfl rfl rfl)),_,h,rfl,rfl⟩)))
  ·exact Run.skip (⟨_,_,(Gh.trans (Gh.trans (gh_prn [0,1,5,6] [0,5112,9192] hB rfl) (gh_nil [] [5112] hB rfl rfl rfl)) (gh_pk [0,1,5,6] [0,5112,9192,20000000,20000001] hB rfl rfl rfl rfl)),_,h,rfl,rfl⟩)
 ·refine Run.seqO h (fun v_1796 => [(0,.ptr 0 0),(1,VI x_2),(5,.ptr 1 0)]) (fun (v_1796 : (List Int) × Int × Int × (List Node)) => [(0,.box [RO 5 (v_1796.1.map encU),VI v_1796.2.1,VI v_1796.2.2.1]),(1,.box [.sl 2 56 0 v_1796.2.2.2.length,.sl 3 58 0 (([] : (List Message)).length)]),(2,.vec 56 (v_1796.2.2.2.map (encNode false))),(3,.vec 58 (([] : (List Message)).map (encMessage false)))]) (fun h => ?_) (fun v_1796 h => ?_)
  ·refine Run.seq (Run.ops hm (Ops.p rfl (Ops.nil (Run.block ?_))))
   obtain ⟨res_1827,h,hk_1827⟩ := bindO h
   refine Run.loop (n := N) (fun m_1827 fr σ => ∃ (x_1798 : Int),∃ (x_1799 : (List Int)),∃ (x_1800 : Int),∃ (x_1801 : Int),∃ (x_1803 : (List Node)),spec_l16Play_l1 N v_1736 m_1827 x_1798 x_1799 x_1800 x_1801 x_1803 = some res_1827 ∧ fr = [(0,.ptr 0 0),(1,VI x_2),(5,.ptr 1 0),(6,.sl 2 3 0 v_1736.2.2.2.length),(7,VI x_1798)] ∧ σ = [(0,.box [RO 5 (x_1799.map encU),VI x_1800,VI x_1801]),(1,.box [.sl 3 56 0 x_1803.length,.sl 4 58 0 (([] : (List Message)).length)]),(2,.vec 3 (v_1736.2.2.2.map encI)),(3,.vec 56 (x_1803.map (encNode false))),(4,.vec 58 (([] : (List Message)).map (encMessage false)))]) (gh_pk [0,1,5,6,7] [0,1,2,3,4] hB rfl rfl rfl rfl) ⟨_,_,_,_,_,h,rfl,rfl⟩ ?_
   rintro m_1827 fr σ ⟨x_1798,x_1799,x_1800,x_1801,x_1803,h,rfl,rfl⟩
   obtain _ | m_1827 := m_1827
   ·rw [spec_l16Play_l1] at h; cases h
   rw [spec_l16Play_l1] at h
   refine Run.seq (Run.seq (Run.ops hm (.p2 rfl rfl (Ops.nil (Run.condO rfl h (fun g_1830 h => ?_) (fun g_1830 h => ?_))))))
   ·refine Run.skip (Run.seq (Run.block (Run.seq (Run.ops hm (.p2 rfl rfl ?_)))))
    obtain ⟨y_1844,hy_1844,h⟩ := bindO h
    refine Ops.st (s := 33800) (Ev.call [] [2] 4 (sem_spec_NodeNew _ _ _ _ hy_1844) rfl rfl (.d1 (.cons (.borrow rfl (by decide) (lendW (fun _ => rfl) _ rfl)) .nil)) rfl (.inr ⟨rfl,ownL_root ⟨own_rows (fun _ => rfl) _,own_rows (fun _ => rfl) _,own_rows (fun _ => rfl) _,own_rows (fun _ => rfl) _,trivial⟩⟩) rfl rfl) rfl rfl ?_
    refine Ops.p rfl (.p2 rfl rfl (Ops.st (s := 33864) (.al rfl rfl) rfl rfl (Ops.s0 (s := 33880) (.sto rfl rfl rfl rfl rfl rfl) rfl rfl (Ops.p rfl (Ops.nil (Run.seq (Run.ops hm (Ops.p rfl ?_))))))))
    obtain ⟨y_1848,hy_1848,h⟩ := bindO h
    refine Ops.st (s := 37880) (Ev.call [0] [] 0 (sem_spec_l01Below _ _ _ _ hy_1848) rfl rfl (.cons (.ptr rfl) (.d1 .nil)) rfl (.inl rfl) rfl rfl) rfl rfl (.p2 rfl rfl (Ops.s0 (s := 37928) (.sto rfl rfl rfl rfl rfl rfl) rfl rfl (Ops.nil (Run.draw hm hmix (OpsD.p rfl (OpsD.p rfl (OpsD.p rfl (OpsD.p rfl (OpsD.p rfl (OpsD.p rfl (OpsD.stz (s := 42056) (EvZ.frz (f := encI) (g := encI) (xs := y_1844.1.Conf) 33800 (fun _ => rfl) rfl (EvZ.frz (f := encEntry) (g := encEntry) (xs := y_1844.1.Log.Entries) 33801 (fun _ => rfl) rfl (EvZ.frz (f := encI) (g := encI) (xs := y_1844.1.Votes) 33802 (fun _ => rfl) rfl (EvZ.frz (f := encPeer) (g := encPeer) (xs := y_1844.1.Peers) 33803 (fun _ => rfl) rfl (.mk (Ev.bsW (ys := ([(Node.mk y_1844.1.Id y_1844.1.Term y_1844.1.Vote y_1844.1.Role y_1844.1.Lead y_1844.1.Conf y_1844.1.Log y_1844.1.Commit y_1844.1.Clock (w64 (1 + y_1848.1)) y_1844.1.Votes y_1844.1.Peers)] : List Node)) (f := (encNode false)) rfl (.d4 (.d1 (.cons (.ro rfl (shareW _ rfl)) (.d2 (.cons (.ro rfl (shareW _ rfl)) (.d2 (.d1 (.cons (.ro rfl (shareW _ rfl)) (.cons (.ro rfl (shareW _ rfl)) .nil))))))))) rfl rfl rfl rfl rfl)))))) rfl rfl ?_)))))))))))
    obtain ⟨x_1850,hx_1850,h⟩ := bindO h
    refine OpsD.st (s := 42072) (Ev.apW (f := (encNode false)) (ontoW rfl rfl rfl) (addsW rfl rfl rfl (fun _ => rfl)) rfl bt56 rfl hx_1850) rfl rfl (OpsD.p rfl (OpsD.p rfl (OpsD.s0 (s := 42120) (.sto rfl rfl rfl rfl rfl rfl) rfl rfl (OpsD.nil ⟨by kernel_rfl,?_⟩))))
    exact Run.ops hm (.p3 rfl rfl rfl (Ops.nil (⟨m_1827,Nat.lt_succ_self m_1827,_,_,(gh_pk [0,1,5,6,7] [0,1,2,42072,4] hB rfl rfl rfl rfl),_,_,_,_,_,h,rfl,rfl⟩)))
   ·refine Run.exit ?_
    obtain rfl := someO h
    have h := hk_1827
    exact ⟨_,_,(gh_pk [0,1,5] [0,1,3,4] hB rfl rfl rfl rfl),_,h,rfl,rfl⟩
  ·refine Run.seqO h (fun v_2606 => [(5,.ptr 1 0)]) (fun (v_2606 : (List Int) × Int × Int × (List Node) × (List Message)) => [(0,.box [RO 5 (v_2606.1.map encU),VI v_2606.2.1,VI v_2606.2.2.1]),(1,.box [.sl 2 56 0 v_2606.2.2.2.1.length,.sl 3 58 0 v_2606.2.2.2.2.length]),(2,.vec 56 (v_2606.2.2.2.1.map (encNode false))),(3,.vec 58 (v_2606.2.2.2.2.map (encMessage false)))]) (fun h => ?_) (fun v_2606 h => ?_)
   ·refine Run.seq (Run.ops hm (Ops.p rfl (Ops.nil (Run.block ?_))))
    obtain ⟨res_2987,h,hk_2987⟩ := bindO h
    refine Run.loop (n := N) (fun m_2987 fr σ => ∃ (x_2608 : Int),∃ (x_2609 : (List Int)),∃ (x_2610 : Int),∃ (x_2611 : Int),∃ (x_2612 : (List Node)),∃ (x_2613 : (List Message)),spec_l16Play_l2 N x_2 m_2987 x_2608 x_2609 x_2610 x_2611 x_2612 x_2613 = some res_2987 ∧ fr = [(0,.ptr 0 0),(1,VI x_2),(5,.ptr 1 0),(10,VI x_2608)] ∧ σ = [(0,.box [RO 5 (x_2609.map encU),VI x_2610,VI x_2611]),(1,.box [.sl 2 56 0 x_2612.length,.sl 3 58 0 x_2613.length]),(2,.vec 56 (x_2612.map (encNode false))),(3,.vec 58 (x_2613.map (encMessage false)))]) (gh_pk [0,1,5,10] [0,1,2,3] hB rfl rfl rfl rfl) ⟨_,_,_,_,_,_,h,rfl,rfl⟩ ?_
    rintro m_2987 fr σ ⟨x_2608,x_2609,x_2610,x_2611,x_2612,x_2613,h,rfl,rfl⟩
    obtain _ | m_2987 := m_2987
    ·rw [spec_l16Play_l2] at h; cases h
    rw [spec_l16Play_l2] at h
    refine Run.seq (Run.seq (Run.ops hm (.p3 rfl rfl rfl (Ops.nil (Run.condO rfl h (fun g_2990 h => ?_) (fun g_2990 h => ?_))))))
    ·refine Run.skip (Run.seqO h (fun v_3176 => [(0,.ptr 0 0),(1,VI x_2),(5,.ptr 1 0),(10,VI x_2608)]) (fun (v_3176 : (List Int) × Int × Int × (List Node) × (List Message)) => [(0,.box [RO 5 (v_3176.1.map encU),VI v_3176.2.1,VI v_3176.2.2.1]),(1,.box [.sl 2 56 0 v_3176.2.2.2.1.length,.sl 3 58 0 v_3176.2.2.2.2.length]),(2,.vec 56 (v_3176.2.2.2.1.map (encNode false))),(3,.vec 58 (v_3176.2.2.2.2.map (encMessage false)))]) (fun h => ?_) (fun v_3176 h => ?_))
     ·refine Run.block (Run.seq (Run.ops hm (Ops.p rfl ?_)))
      obtain ⟨y_3180,hy_3180,h⟩ := bindO h
      refine Ops.st (s := 58360) (Ev.call [0] [] 0 (sem_spec_l01Below _ _ _ _ hy_3180) rfl rfl (.cons (.ptr rfl) (.d1 .nil)) rfl (.inl rfl) rfl rfl) rfl rfl (Ops.p rfl (Ops.nil (Run.seq (Run.ops hm (Ops.p rfl ?_)))))
      obtain ⟨y_3184,hy_3184,h⟩ := bindO h
      refine Ops.st (s := 62456) (Ev.call [0] [] 0 (sem_spec_l01Below _ _ _ _ hy_3184) rfl rfl (.cons (.ptr rfl) (.d1 .nil)) rfl (.inl rfl) rfl rfl) rfl rfl (Ops.nil (Run.block (Run.seq (Run.seq (Run.ops hm (.p2 rfl rfl (Ops.nil (Run.condO rfl h (fun g_3185 h => ?_) (fun g_3185 h => ?_)))))))))
      ·refine Run.skip (Run.condT rfl g_3185 (Run.seq (Run.draw hm hmix (OpsD.p rfl (OpsD.p rfl (OpsD.p rfl (OpsD.p rfl (OpsD.p rfl ?_))))))))
       obtain ⟨x_3195,hx_3195,h⟩ := bindO h
       refine OpsD.st (s := 107576) (Ev.iaW rfl rfl rfl hx_3195) rfl rfl (OpsD.st (s := 107592) (Ev.ldE (f := (encNode false)) rfl rfl (at_some hx_3195).2 rfl rfl rfl) rfl rfl (OpsD.p rfl ?_))
       obtain ⟨y_3196,hy_3196,h⟩ := bindO h
       refine OpsD.st (s := 107624) (Ev.call [0] [] 0 (sem_spec_l01Below _ _ _ _ hy_3196) rfl rfl (.cons (.ptr rfl) (.d1 .nil)) rfl (.inl rfl) rfl rfl) rfl rfl (OpsD.p rfl ?_)
       obtain ⟨y_3197,hy_3197,h⟩ := bindO h
       refine OpsD.st (s := 107656) (Ev.call [] [] 5 (sem_spec_Tick _ _ _ _ hy_3197) rfl rfl (.cons (.agg (.d4 (.d4 (.d4 (.d2 .nil))))) (.d1 .nil)) rfl (.inl rfl) rfl rfl) rfl rfl (OpsD.p rfl (OpsD.p rfl (OpsD.p rfl (OpsD.p rfl (OpsD.st (s := 107736) (.al rfl rfl) rfl rfl (OpsD.s0 (s := 107752) (.sto rfl rfl rfl rfl rfl rfl) rfl rfl (OpsD.p rfl (OpsD.p rfl (OpsD.nil ⟨by kernel_rfl,?_⟩)))))))))
       refine Run.seq (Run.ops hm (Ops.p rfl (Ops.nil (Run.condO rfl h (fun g_3198 h => ?_) (fun g_3198 h => ?_)))))
       ·refine Run.ops hm (.p3 rfl rfl rfl (Ops.p rfl ?_))
        obtain ⟨y_3200,hy_3200,h⟩ := bindO h
        exact Ops.stz (s := 115752) (EvZ.frz (f := encI) (g := encI) (xs := y_3197.1.Conf) 107656 (fun _ => rfl) rfl (EvZ.frz (f := encEntry) (g := encEntry) (xs := y_3197.1.Log.Entries) 107657 (fun _ => rfl) rfl (EvZ.frz (f := encI) (g := encI) (xs := y_3197.1.Votes) 107658 (fun _ => rfl) rfl (EvZ.frz (f := encPeer) (g := encPeer) (xs := y_3197.1.Peers) 107659 (fun _ => rfl) rfl (.mk (Ev.call [1,107660,2,3] [] 2 (sem_spec_l16Take_i1 _ _ _ _ _ _ hy_3200) rfl rfl (.cons (.ptr rfl) (.d1 (.cons (.agg (.d4 (.d1 (.cons (.share rfl (shareW _ rfl)) (.d2 (.cons (.share rfl (shareW _ rfl)) (.d2 (.d1 (.cons (.share rfl (shareW _ rfl)) (.cons (.share rfl (shareW _ rfl)) .nil)))))))))) (.cons (.sl rfl) .nil)))) rfl (.inl rfl) rfl rfl)))))) rfl rfl (Ops.nil (⟨_,_,(gh_pk [0,1,5,10] [0,1,115752,115753] hB rfl rfl rfl rfl),_,h,rfl,rfl⟩))
       ·exact Run.skip (⟨_,_,(gh_pk [0,1,5,10] [0,1,2,3] hB rfl rfl rfl rfl),_,h,rfl,rfl⟩)
      ·refine Run.ops hm (.p2 rfl rfl (Ops.nil (Run.condO rfl h (fun g_3201 h => ?_) (fun g_3201 h => ?_))))
       ·refine Run.seq (Run.draw hm hmix (OpsD.p rfl (OpsD.p rfl (OpsD.p rfl (OpsD.p rfl (OpsD.p rfl ?_))))))
        obtain ⟨x_3211,hx_3211,h⟩ := bindO h
        refine OpsD.st (s := 107576) (Ev.iaW rfl rfl rfl hx_3211) rfl rfl (OpsD.st (s := 107592) (Ev.ldE (f := (encNode false)) rfl rfl (at_some hx_3211).2 rfl rfl rfl) rfl rfl (OpsD.p rfl ?_))
        obtain ⟨y_3212,hy_3212,h⟩ := bindO h
        refine OpsD.st (s := 107624) (Ev.call [0] [] 0 (sem_spec_l01Below _ _ _ _ hy_3212) rfl rfl (.cons (.ptr rfl) (.d1 .nil)) rfl (.inl rfl) rfl rfl) rfl rfl (OpsD.p rfl ?_)
        obtain ⟨y_3213,hy_3213,h⟩ := bindO h
        refine OpsD.st (s := 107656) (Ev.call [] [] 5 (sem_spec_Tick _ _ _ _ hy_3213) rfl rfl (.cons (.agg (.d4 (.d4 (.d4 (.d2 .nil))))) (.d1 .nil)) rfl (.inl rfl) rfl rfl) rfl rfl (OpsD.p rfl (OpsD.p rfl (OpsD.p rfl (OpsD.p rfl (OpsD.st (s := 107736) (.al rfl rfl) rfl rfl (OpsD.s0 (s := 107752) (.sto rfl rfl rfl rfl rfl rfl) rfl rfl (OpsD.p rfl (OpsD.p rfl (OpsD.nil ⟨by kernel_rfl,?_⟩)))))))))
        refine Run.seq (Run.ops hm (Ops.p rfl (Ops.nil (Run.condO rfl h (fun g_3214 h => ?_) (fun g_3214 h => ?_)))))
        ·refine Run.ops hm (.p3 rfl rfl rfl (Ops.p rfl ?_))
         obtain ⟨y_3216,hy_3216,h⟩ := bindO h
         exact Ops.stz (s := 115752) (EvZ.frz (f := encI) (g := encI) (xs := y_3213.1.Conf) 107656 (fun _ => rfl) rfl (EvZ.frz (f := encEntry) (g := encEntry) (xs := y_3213.1.Log.Entries) 107657 (fun _ => rfl) rfl (EvZ.frz (f := encI) (g := encI) (xs := y_3213.1.Votes) 107658 (fun _ => rfl) rfl (EvZ.frz (f := encPeer) (g := encPeer) (xs := y_3213.1.Peers) 107659 (fun _ => rfl) rfl (.mk (Ev.call [1,107660,2,3] [] 2 (sem_spec_l16Take_i1 _ _ _ _ _ _ hy_3216) rfl rfl (.cons (.ptr rfl) (.d1 (.cons (.agg (.d4 (.d1 (.cons (.share rfl (shareW _ rfl)) (.d2 (.cons (.share rfl (shareW _ rfl)) (.d2 (.d1 (.cons (.share rfl (shareW _ rfl)) (.cons (.share rfl (shareW _ rfl)) .nil)))))))))) (.cons (.sl rfl) .nil)))) rfl (.inl rfl) rfl rfl)))))) rfl rfl (Ops.nil (⟨_,_,(gh_pk [0,1,5,10] [0,1,115752,115753] hB rfl rfl rfl rfl),_,h,rfl,rfl⟩))
        ·exact Run.skip (⟨_,_,(gh_pk [0,1,5,10] [0,1,2,3] hB rfl rfl rfl rfl),_,h,rfl,rfl⟩)
       ·refine Run.seq (Run.ops hm (.p2 rfl rfl (Ops.nil (Run.condO rfl h (fun g_3217 h => ?_) (fun g_3217 h => ?_)))))
        ·refine Run.seqO h (fun v_3247 => [(0,.ptr 0 0),(1,VI x_2),(5,.ptr 1 0),(10,VI x_2608),(11,VI v_3247)]) (fun (v_3247 : Int) => [(0,.box [RO 5 (y_3184.2.b.map encU),VI y_3184.2.i,VI y_3184.2.h]),(1,.box [.sl 2 56 0 x_2612.length,.sl 3 58 0 x_2613.length]),(2,.vec 56 (x_2612.map (encNode false))),(3,.vec 58 (x_2613.map (encMessage false)))]) (fun h => ?_) (fun v_3247 h => ?_)
         ·refine Run.seq (Run.ops hm (Ops.p rfl (Ops.nil (Run.block ?_))))
          obtain ⟨res_3266,h,hk_3266⟩ := bindO h
          refine Run.loop (n := N) (fun m_3266 fr σ => ∃ (x_3250 : Int),∃ (x_3251 : Int),spec_l16Play_l3 N x_2612 m_3266 x_3250 x_3251 = some res_3266 ∧ fr = [(0,.ptr 0 0),(1,VI x_2),(5,.ptr 1 0),(10,VI x_2608),(11,VI x_3250),(15,VI x_3251)] ∧ σ = [(0,.box [RO 5 (y_3184.2.b.map encU),VI y_3184.2.i,VI y_3184.2.h]),(1,.box [.sl 2 56 0 x_2612.length,.sl 3 58 0 x_2613.length]),(2,.vec 56 (x_2612.map (encNode false))),(3,.vec 58 (x_2613.map (encMessage false)))]) (gh_pk [0,1,5,10,11,15] [0,1,2,3] hB rfl rfl rfl rfl) ⟨_,_,h,rfl,rfl⟩ ?_
          rintro m_3266 fr σ ⟨x_3250,x_3251,h,rfl,rfl⟩
          obtain _ | m_3266 := m_3266
          ·rw [spec_l16Play_l3] at h; cases h
          rw [spec_l16Play_l3] at h
          refine Run.seq (Run.seq (Run.ops hm (.p2 rfl rfl (Ops.nil (Run.condO rfl h (fun g_3269 h => ?_) (fun g_3269 h => ?_))))))
          ·refine Run.skip (Run.seqO h (fun v_3273 => [(0,.ptr 0 0),(1,VI x_2),(5,.ptr 1 0),(10,VI x_2608),(11,VI v_3273),(15,VI x_3251)]) (fun (v_3273 : Int) => [(0,.box [RO 5 (y_3184.2.b.map encU),VI y_3184.2.i,VI y_3184.2.h]),(1,.box [.sl 2 56 0 x_2612.length,.sl 3 58 0 x_2613.length]),(2,.vec 56 (x_2612.map (encNode false))),(3,.vec 58 (x_2613.map (encMessage false)))]) (fun h => ?_) (fun v_3273 h => ?_))
           ·refine Run.block (Run.seq (Run.ops hm (.p3 rfl rfl rfl (.p2 rfl rfl ?_))))
            obtain ⟨x_3275,hx_3275,h⟩ := bindO h
            refine Ops.st (s := 136248) (Ev.iaW rfl rfl rfl hx_3275) rfl rfl (Ops.p rfl (Ops.st (s := 136280) (Ev.ldE (f := (encNode false)) rfl rfl (at_some hx_3275).2 rfl rfl rfl) rfl rfl (Ops.p rfl (Ops.nil (Run.condO rfl h (fun g_3276 h => ?_) (fun g_3276 h => ?_))))))
            ·exact Run.ops hm (.p2 rfl rfl (Ops.nil (⟨_,_,(gh_pk [0,1,5,10,11,15] [0,1,2,3] hB rfl rfl rfl rfl),_,h,rfl,rfl⟩)))
            ·exact Run.skip (⟨_,_,(gh_pk [0,1,5,10,11,15] [0,1,2,3] hB rfl rfl rfl rfl),_,h,rfl,rfl⟩)
           ·exact Run.ops hm (.p3 rfl rfl rfl (Ops.nil (⟨m_3266,Nat.lt_succ_self m_3266,_,_,(gh_pk [0,1,5,10,11,15] [0,1,2,3] hB rfl rfl rfl rfl),_,_,h,rfl,rfl⟩)))
          ·refine Run.exit ?_
           obtain rfl := someO h
           have h := hk_3266
           exact ⟨_,_,(gh_pk [0,1,5,10,11] [0,1,2,3] hB rfl rfl rfl rfl),_,h,rfl,rfl⟩
         ·refine Run.seq (Run.ops hm (.p3 rfl rfl rfl (.p3 rfl rfl rfl ?_)))
          obtain ⟨x_3283,hx_3283,h⟩ := bindO h
          refine Ops.st (s := 144456) (Ev.iaW rfl rfl rfl hx_3283) rfl rfl (Ops.p rfl (Ops.st (s := 144488) (Ev.ldE (f := (encNode false)) rfl rfl (at_some hx_3283).2 rfl rfl rfl) rfl rfl ?_))
          obtain ⟨y_3284,hy_3284,h⟩ := bindO h
          refine Ops.st (s := 144504) (Ev.call [0] [] 0 (sem_spec_l11Right _ _ _ _ hy_3284) rfl rfl (.cons (.ptr rfl) (.d1 .nil)) rfl (.inl rfl) rfl rfl) rfl rfl (Ops.st (s := 144520) (.al rfl rfl) rfl rfl (Ops.s0 (s := 144536) (.sto rfl rfl rfl rfl rfl rfl) rfl rfl (Ops.nil (Run.seq (Run.draw hm hmix (OpsD.p rfl (OpsD.p rfl (OpsD.p rfl (OpsD.p rfl (OpsD.p rfl ?_))))))))))
          obtain ⟨x_3291,hx_3291,h⟩ := bindO h
          refine OpsD.st (s := 148536) (Ev.iaW rfl rfl rfl hx_3291) rfl rfl (OpsD.st (s := 148552) (Ev.ldE (f := (encNode false)) rfl rfl (at_some hx_3291).2 rfl rfl rfl) rfl rfl (OpsD.p rfl (OpsD.p rfl (OpsD.p rfl (OpsD.p rfl ?_)))))
          obtain ⟨y_3292,hy_3292,h⟩ := bindO h
          refine OpsD.st (s := 148632) (Ev.call [] [] 5 (sem_spec_Propose _ _ _ _ _ hy_3292) rfl rfl (.cons (.agg (.d4 (.d4 (.d4 (.d2 .nil))))) (.d2 .nil)) rfl (.inl rfl) rfl rfl) rfl rfl (OpsD.p rfl (OpsD.p rfl (OpsD.p rfl (OpsD.p rfl (OpsD.p rfl (OpsD.st (s := 148728) (.al rfl rfl) rfl rfl (OpsD.s0 (s := 148744) (.sto rfl rfl rfl rfl rfl rfl) rfl rfl (OpsD.p rfl (OpsD.p rfl (OpsD.p rfl (OpsD.nil ⟨by kernel_rfl,?_⟩)))))))))))
          refine Run.seq (Run.ops hm (Ops.p rfl (Ops.nil (Run.condO rfl h (fun g_3293 h => ?_) (fun g_3293 h => ?_)))))
          ·refine Run.ops hm (.p3 rfl rfl rfl (Ops.p rfl ?_))
           obtain ⟨y_3295,hy_3295,h⟩ := bindO h
           exact Ops.stz (s := 156712) (EvZ.frz (f := encI) (g := encI) (xs := y_3292.1.Conf) 148632 (fun _ => rfl) rfl (EvZ.frz (f := encEntry) (g := encEntry) (xs := y_3292.1.Log.Entries) 148633 (fun _ => rfl) rfl (EvZ.frz (f := encI) (g := encI) (xs := y_3292.1.Votes) 148634 (fun _ => rfl) rfl (EvZ.frz (f := encPeer) (g := encPeer) (xs := y_3292.1.Peers) 148635 (fun _ => rfl) rfl (.mk (Ev.call [1,148636,2,3] [] 2 (sem_spec_l16Take_i1 _ _ _ _ _ _ hy_3295) rfl rfl (.cons (.ptr rfl) (.d1 (.cons (.agg (.d4 (.d1 (.cons (.share rfl (shareW _ rfl)) (.d2 (.cons (.share rfl (shareW _ rfl)) (.d2 (.d1 (.cons (.share rfl (shareW _ rfl)) (.cons (.share rfl (shareW _ rfl)) .nil)))))))))) (.cons (.sl rfl) .nil)))) rfl (.inl rfl) rfl rfl)))))) rfl rfl (Ops.nil (⟨_,_,(gh_pk [0,1,5,10] [0,1,156712,156713] hB rfl rfl rfl rfl),_,h,rfl,rfl⟩))
          ·exact Run.skip (⟨_,_,(gh_pk [0,1,5,10] [0,1,2,3] hB rfl rfl rfl rfl),_,h,rfl,rfl⟩)
        ·refine Run.seq (Run.ops hm (.p2 rfl rfl (Ops.nil (Run.condO rfl h (fun g_3296 h => ?_) (fun g_3296 h => ?_)))))
         ·refine Run.seq (Run.ops hm (Ops.p rfl ?_))
          obtain ⟨y_3298,hy_3298,h⟩ := bindO h
          refine Ops.st (s := 164856) (Ev.call [0] [] 0 (sem_spec_l01Once _ _ _ _ hy_3298) rfl rfl (.cons (.ptr rfl) (.d1 .nil)) rfl (.inl rfl) rfl rfl) rfl rfl (Ops.nil (Run.condO rfl h (fun g_3299 h => ?_) (fun g_3299 h => ?_)))
          ·refine Run.seq (Run.draw hm hmix (OpsD.p rfl (OpsD.p rfl (OpsD.p rfl (OpsD.p rfl (OpsD.p rfl ?_))))))
           obtain ⟨x_3312,hx_3312,h⟩ := bindO h
           refine OpsD.st (s := 169016) (Ev.iaW rfl rfl rfl hx_3312) rfl rfl (OpsD.st (s := 169032) (Ev.ldE (f := (encNode false)) rfl rfl (at_some hx_3312).2 rfl rfl rfl) rfl rfl (OpsD.p rfl (OpsD.p rfl (OpsD.p rfl (OpsD.p rfl (OpsD.p rfl ?_))))))
           obtain ⟨x_3313,hx_3313,h⟩ := bindO h
           refine OpsD.st (s := 169128) (Ev.iaW rfl rfl rfl hx_3313) rfl rfl (OpsD.p rfl (OpsD.st (s := 169160) (Ev.ldE (f := (encNode false)) rfl rfl (at_some hx_3313).2 rfl rfl rfl) rfl rfl (OpsD.p rfl ?_)))
           obtain ⟨y_3314,hy_3314,h⟩ := bindO h
           refine OpsD.st (s := 169192) (Ev.call [0] [] 0 (sem_spec_l01Below _ _ _ _ hy_3314) rfl rfl (.cons (.ptr rfl) (.d1 .nil)) rfl (.inl rfl) rfl rfl) rfl rfl (OpsD.p rfl ?_)
           obtain ⟨y_3315,hy_3315,h⟩ := bindO h
           refine OpsD.st (s := 169224) (Ev.call [] [] 4 (sem_spec_Settle _ _ _ _ hy_3315) rfl rfl (.cons (.agg (.d4 (.d4 (.d4 (.d2 .nil))))) (.d1 .nil)) rfl (.inl rfl) rfl rfl) rfl rfl (OpsD.p rfl (OpsD.p rfl (OpsD.p rfl (OpsD.st (s := 169288) (.al rfl rfl) rfl rfl (OpsD.s0 (s := 169304) (.sto rfl rfl rfl rfl rfl rfl) rfl rfl (OpsD.p rfl (OpsD.nil ⟨by kernel_rfl,?_⟩)))))))
           refine Run.seq (Run.ops hm (Ops.p rfl (Ops.nil (Run.condO rfl h (fun g_3316 h => ?_) (fun g_3316 h => ?_)))))
           ·refine Run.draw hm hmix (OpsD.p rfl (OpsD.p rfl (OpsD.p rfl (OpsD.p rfl (OpsD.p rfl (OpsD.p rfl ?_))))))
            obtain ⟨x_3318,hx_3318,h⟩ := bindO h
            refine OpsD.st (s := 177224) (Ev.iaW rfl rfl rfl hx_3318) rfl rfl (OpsD.s0z (s := 177240) (EvZ.frz (f := encI) (g := encI) (xs := y_3315.1.Conf) 169224 (fun _ => rfl) rfl (EvZ.frz (f := encEntry) (g := encEntry) (xs := y_3315.1.Log.Entries) 169225 (fun _ => rfl) rfl (EvZ.frz (f := encI) (g := encI) (xs := y_3315.1.Votes) 169226 (fun _ => rfl) rfl (EvZ.frz (f := encPeer) (g := encPeer) (xs := y_3315.1.Peers) 169227 (fun _ => rfl) rfl (.mk (Ev.stE (f := (encNode false)) (v' := y_3315.1) rfl rfl (at_some hx_3318).2 rfl (.d4 (.d1 (.cons (.ro rfl (shareW _ rfl)) (.d2 (.cons (.ro rfl (shareW _ rfl)) (.d2 (.d1 (.cons (.ro rfl (shareW _ rfl)) (.cons (.ro rfl (shareW _ rfl)) .nil))))))))) rfl rfl rfl rfl rfl)))))) rfl rfl (OpsD.nil ⟨by kernel_rfl,?_⟩))
            exact ⟨_,_,(gh_pk [0,1,5,10] [0,1,2,3] hB rfl rfl (by first | rfl | (simp only [List.length_set]; done) | (simp only [List.length_set]; rfl)) (by first | rfl | (simp only [List.length_set]; done) | (simp only [List.length_set]; rfl))),_,h,rfl,rfl⟩
           ·exact Run.skip (⟨_,_,(gh_pk [0,1,5,10] [0,1,2,3] hB rfl rfl rfl rfl),_,h,rfl,rfl⟩)
          ·exact Run.skip (⟨_,_,(gh_pk [0,1,5,10] [0,1,2,3] hB rfl rfl rfl rfl),_,h,rfl,rfl⟩)
         ·refine Run.seq (Run.ops hm (.p3 rfl rfl rfl (.p3 rfl rfl rfl (Ops.nil (Run.condO rfl h (fun g_3319 h => ?_) (fun g_3319 h => ?_))))))
          ·refine Run.seq (Run.ops hm (.p3 rfl rfl rfl (.p3 rfl rfl rfl ?_)))
           obtain ⟨y_3323,hy_3323,h⟩ := bindO h
           refine Ops.st (s := 70728) (Ev.call [0] [] 0 (sem_spec_l01Below _ _ _ _ hy_3323) rfl rfl (.cons (.ptr rfl) (.d1 .nil)) rfl (.inl rfl) rfl rfl) rfl rfl (Ops.p rfl (Ops.nil (Run.seq (Run.ops hm (.p3 rfl rfl rfl (.p2 rfl rfl ?_))))))
           obtain ⟨x_3327,hx_3327,h⟩ := bindO h
           refine Ops.st (s := 74808) (Ev.iaW rfl rfl rfl hx_3327) rfl rfl (Ops.st (s := 74824) (Ev.ldE (f := (encMessage false)) rfl rfl (at_some hx_3327).2 rfl rfl rfl) rfl rfl (Ops.st (s := 74840) (.al rfl rfl) rfl rfl (Ops.s0 (s := 74856) (.sto rfl rfl rfl rfl rfl rfl) rfl rfl (Ops.nil (Run.seqO h (fun v_3339 => [(0,.ptr 0 0),(1,VI x_2),(5,.ptr 1 0),(10,VI x_2608),(24,.ptr 2 0)]) (fun (v_3339 : (List Int) × Int × Int × (List Message)) => [(0,.box [RO 5 (v_3339.1.map encU),VI v_3339.2.1,VI v_3339.2.2.1]),(1,.box [.sl 3 56 0 x_2612.length,.sl 4 58 0 v_3339.2.2.2.length]),(2,.box [VI x_3327.Kind,VI x_3327.From,VI x_3327.To,VI x_3327.Term,VI x_3327.Index,VI x_3327.LogTerm,VI x_3327.Commit,VB x_3327.Ok,RO 51 (x_3327.Entries.map encEntry),RO 3 (x_3327.Conf.map encI),VS x_3327.Data,VB x_3327.Last]),(3,.vec 56 (x_2612.map (encNode false))),(4,.vec 58 (v_3339.2.2.2.map (encMessage false)))]) (fun h => ?_) (fun v_3339 h => ?_))))))
           ·refine Run.seq (Run.ops hm (Ops.p rfl ?_))
            obtain ⟨y_3341,hy_3341,h⟩ := bindO h
            refine Ops.st (s := 78840) (Ev.call [0] [] 0 (sem_spec_l01Once _ _ _ _ hy_3341) rfl rfl (.cons (.ptr rfl) (.d1 .nil)) rfl (.inl rfl) rfl rfl) rfl rfl (Ops.p rfl (Ops.nil (Run.condO rfl h (fun g_3342 h => ?_) (fun g_3342 h => ?_))))
            ·refine Run.draw hm hmix (OpsD.p rfl (OpsD.st (s := 82936) (Ev.bsW (ys := ([] : List Message)) (f := (encMessage false)) rfl .nil rfl rfl rfl rfl rfl) rfl rfl (OpsD.p rfl (OpsD.p rfl (OpsD.p rfl (OpsD.p rfl (OpsD.p rfl ?_)))))))
             obtain ⟨x_3347,hx_3347,h⟩ := bindO h
             refine OpsD.st (s := 83032) (Ev.slWh (xs := x_2613) rfl rfl rfl hx_3347) rfl rfl ?_
             obtain ⟨x_3348,hx_3348,h⟩ := bindO h
             refine OpsD.st (s := 83048) (Ev.apW (f := (encMessage false)) (ontoW rfl rfl rfl) (addsP rfl rfl (fun _ => rfl)) rfl bt58 rfl hx_3348) rfl rfl (OpsD.p rfl (OpsD.p rfl (OpsD.p rfl (OpsD.p rfl (OpsD.p rfl (OpsD.p rfl ?_))))))
             obtain ⟨x_3349,hx_3349,h⟩ := bindO h
             refine OpsD.st (s := 83160) (Ev.slWl (xs := x_2613) rfl rfl rfl hx_3349) rfl rfl ?_
             obtain ⟨x_3350,hx_3350,h⟩ := bindO h
             refine OpsD.st (s := 83176) (Ev.apW (f := (encMessage false)) (ontoW rfl rfl rfl) (addsP rfl rfl (fun _ => rfl)) rfl bt58 rfl hx_3350) rfl rfl (OpsD.p rfl (OpsD.p rfl (OpsD.s0 (s := 83224) (.sto rfl rfl rfl rfl rfl rfl) rfl rfl (OpsD.nil ⟨by kernel_rfl,?_⟩))))
             exact ⟨_,_,(gh_pk [0,1,5,10,24] [0,1,74840,2,83176] hB rfl rfl rfl rfl),_,h,rfl,rfl⟩
            ·exact Run.skip (⟨_,_,(gh_pk [0,1,5,10,24] [0,1,74840,2,3] hB rfl rfl rfl rfl),_,h,rfl,rfl⟩)
           ·refine Run.seq (Run.draw hm hmix (OpsD.p rfl (OpsD.p rfl (OpsD.p rfl (OpsD.p rfl (OpsD.p rfl (OpsD.p rfl (OpsD.p rfl ?_))))))))
            obtain ⟨x_3357,hx_3357,h⟩ := bindO h
            refine OpsD.st (s := 87128) (Ev.iaW rfl rfl rfl hx_3357) rfl rfl (OpsD.st (s := 87144) (Ev.ldE (f := (encNode false)) rfl rfl (at_some hx_3357).2 rfl rfl rfl) rfl rfl (OpsD.p rfl ?_))
            obtain ⟨y_3358,hy_3358,h⟩ := bindO h
            refine OpsD.st (s := 87176) (Ev.call [] [] 5 (sem_spec_Receive _ _ _ _ hy_3358) rfl rfl (.cons (.agg (.d4 (.d4 (.d4 (.d2 .nil))))) (.cons (.agg (.d4 (.d4 (.d4 .nil)))) .nil)) rfl (.inl rfl) rfl rfl) rfl rfl (OpsD.p rfl (OpsD.p rfl (OpsD.p rfl (OpsD.p rfl (OpsD.st (s := 87256) (.al rfl rfl) rfl rfl (OpsD.s0 (s := 87272) (.sto rfl rfl rfl rfl rfl rfl) rfl rfl (OpsD.p rfl (OpsD.p rfl (OpsD.nil ⟨by kernel_rfl,?_⟩)))))))))
            refine Run.seq (Run.ops hm (Ops.p rfl (Ops.nil (Run.condO rfl h (fun g_3359 h => ?_) (fun g_3359 h => ?_)))))
            ·refine Run.ops hm (.p3 rfl rfl rfl (.p3 rfl rfl rfl ?_))
             obtain ⟨y_3361,hy_3361,h⟩ := bindO h
             exact Ops.stz (s := 95304) (EvZ.frz (f := encI) (g := encI) (xs := y_3358.1.Conf) 87176 (fun _ => rfl) rfl (EvZ.frz (f := encEntry) (g := encEntry) (xs := y_3358.1.Log.Entries) 87177 (fun _ => rfl) rfl (EvZ.frz (f := encI) (g := encI) (xs := y_3358.1.Votes) 87178 (fun _ => rfl) rfl (EvZ.frz (f := encPeer) (g := encPeer) (xs := y_3358.1.Peers) 87179 (fun _ => rfl) rfl (.mk (Ev.call [1,87180,3,4] [] 2 (sem_spec_l16Take_i1 _ _ _ _ _ _ hy_3361) rfl rfl (.cons (.ptr rfl) (.d1 (.cons (.agg (.d4 (.d1 (.cons (.share rfl (shareW _ rfl)) (.d2 (.cons (.share rfl (shareW _ rfl)) (.d2 (.d1 (.cons (.share rfl (shareW _ rfl)) (.cons (.share rfl (shareW _ rfl)) .nil)))))))))) (.cons (.sl rfl) .nil)))) rfl (.inl rfl) rfl rfl)))))) rfl rfl (Ops.nil (⟨_,_,(gh_pk [0,1,5,10] [0,1,95304,95305] hB rfl rfl rfl rfl),_,h,rfl,rfl⟩))
            ·exact Run.skip (⟨_,_,(gh_pk [0,1,5,10] [0,1,3,4] hB rfl rfl rfl rfl),_,h,rfl,rfl⟩)
          ·exact Run.skip (⟨_,_,(gh_pk [0,1,5,10] [0,1,2,3] hB rfl rfl rfl rfl),_,h,rfl,rfl⟩)
     ·exact Run.ops hm (.p3 rfl rfl rfl (Ops.nil (⟨m_2987,Nat.lt_succ_self m_2987,_,_,(gh_pk [0,1,5,10] [0,1,2,3] hB rfl rfl rfl rfl),_,_,_,_,_,_,h,rfl,rfl⟩)))
    ·refine Run.exit ?_
     obtain rfl := someO h
     have h := hk_2987
     exact ⟨_,_,(gh_pk [5] [0,1,2,3] hB rfl rfl rfl rfl),_,h,rfl,rfl⟩
   ·refine Run.seq (Run.ops hm (.p2 rfl rfl (Ops.nil (Run.ret ?_))))
    obtain rfl := someO h
    exact Ends.mkG (.inl rfl) rfl (gh_pk [0] [0,1,2,3] hB rfl rfl rfl rfl) rfl rfl
end Go.Proofs.Ytehknbpmpbghhaa.Pe.FnSettles
