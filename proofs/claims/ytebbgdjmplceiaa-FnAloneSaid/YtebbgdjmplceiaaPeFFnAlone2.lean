/- Functions, as pure functions; and that Go does just that. -/
import Derived.Test.YtebbgdjmplceiaaPeFFnAlone1
namespace Go.Proofs.Ytebbgdjmplceiaa.Pe.FnAlone
open Go Go.RowKit
set_option linter.unusedVariables false
set_option linter.unusedSimpArgs false
set_option maxHeartbeats 40000000
def impl_NodeNew (N : Nat) (x_1 : Int) (x_2 : (List Int)) : Option (Node × Bool) :=
 (cat? ([] : List Int) x_2).bind fun x_107 =>
 (impl_NodeOk N (Node.mk x_1 (0 : Int) (0 : Int) (0 : Int) (0 : Int) x_107 (Log.mk (0 : Int) (0 : Int) ([])) (0 : Int) (0 : Int) (20 : Int) ([]) ([]))).bind fun y_110 =>
 (if (!y_110) = true then
 some ((Node.mk (0 : Int) (0 : Int) (0 : Int) (0 : Int) (0 : Int) ([]) (Log.mk (0 : Int) (0 : Int) ([])) (0 : Int) (0 : Int) (0 : Int) ([]) ([])), false)
 else
 some ((Node.mk x_1 (0 : Int) (0 : Int) (0 : Int) (0 : Int) x_107 (Log.mk (0 : Int) (0 : Int) ([])) (0 : Int) (0 : Int) (20 : Int) ([]) ([])), true))
theorem sem_impl_NodeNew (N : Nat) (x_1 : Int) (x_2 : (List Int)) (r : Node × Bool) (h : impl_NodeNew N x_1 x_2 = some r) : Says Try.prog 58 [VI x_1, RO 3 (x_2.map encI)] 0 [] (.tup [.agg [VI r.1.Id, VI r.1.Term, VI r.1.Vote, VI r.1.Role, VI r.1.Lead, .sl 0 3 0 r.1.Conf.length, VI r.1.Log.Start, VI r.1.Log.StartTerm, .sl 1 48 0 r.1.Log.Entries.length, VI r.1.Commit, VI r.1.Clock, VI r.1.Limit, .sl 2 3 0 r.1.Votes.length, .sl 3 172 0 r.1.Peers.length], VB r.2]) [(0, .vec 3 (r.1.Conf.map encI)), (1, .vec 48 (r.1.Log.Entries.map encEntry)), (2, .vec 3 (r.1.Votes.map encI)), (3, .vec 172 (r.1.Peers.map encPeer))] := by
  unfold impl_NodeNew at h
  refine Says.of_run s58 Try.call58 rfl fun B hB => ?_
  have hm : B.m ≤ 1000 := by omega
  refine Run.seq ?_
  refine Run.ops hm ?_
  refine Ops.st (s := 1000) (.al rfl rfl) rfl rfl ?_
  refine Ops.p rfl ?_
  refine Ops.nil ?_
  refine Run.seq ?_
  refine Run.ops hm ?_
  refine Ops.p rfl ?_
  refine Ops.p rfl ?_
  obtain ⟨x_107, hx_107, h⟩ := bindO h
  refine Ops.st (s := 5128) (Ev.apW (f := encI) (ontoN (f := encI) rfl) (addsF rfl) rfl bt3 rfl hx_107) rfl rfl ?_
  refine Ops.st (s := 5144) (.bd rfl rfl) rfl rfl ?_
  refine Ops.st (s := 5160) (.al rfl rfl) rfl rfl ?_
  refine Ops.s0 (s := 5176) (.sto rfl rfl rfl rfl rfl rfl) rfl rfl ?_
  refine Ops.nil ?_
  refine Run.seq ?_
  refine Run.seq ?_
  refine Run.ops hm ?_
  refine Ops.p rfl ?_
  obtain ⟨y_110, hy_110, h⟩ := bindO h
  refine Ops.st (s := 9208) (Ev.call [] [5128] 0 (sem_impl_NodeOk N (Node.mk x_1 (0 : Int) (0 : Int) (0 : Int) (0 : Int) x_107 (Log.mk (0 : Int) (0 : Int) ([])) (0 : Int) (0 : Int) (20 : Int) ([]) ([])) _ hy_110) rfl rfl (.cons (.agg (.cons (.c _) (.cons (.c _) (.cons (.c _) (.cons (.c _) (.cons (.c _) (.cons (.borrow rfl (by decide) (lendW (fun _ => rfl) _ rfl)) (.cons (.c _) (.cons (.c _) (.cons (.nil _ _) (.cons (.c _) (.cons (.c _) (.cons (.c _) (.cons (.nil _ _) (.cons (.nil _ _) .nil))))))))))))))) .nil) rfl (.inr ⟨rfl, ownL_root trivial⟩) rfl rfl) rfl rfl ?_
  refine Ops.p rfl ?_
  refine Ops.nil ?_
  refine Run.condO rfl h (fun g_111 h => ?_) (fun g_111 h => ?_)
  · skip
    refine Run.seq ?_
    refine Run.ops hm ?_
    refine Ops.st (s := 13288) (.bd rfl rfl) rfl rfl ?_
    refine Ops.s0 (s := 13304) (.sto rfl rfl rfl rfl rfl rfl) rfl rfl ?_
    refine Ops.p rfl ?_
    refine Ops.nil ?_
    refine Run.ret ?_
    obtain rfl := someO h
    exact Ends.mkG (.inl rfl) rfl (Gh.trans (Gh.trans (gh_prn [0, 1] [] hB rfl) (gh_nil [0] [] hB rfl rfl rfl)) (gh_pk [0, 1] [10000000, 10000001, 10000002, 10000003] hB rfl rfl rfl rfl)) rfl rfl
  · skip
    refine Run.skip ?_
    refine Run.seq ?_
    refine Run.ops hm ?_
    refine Ops.p rfl ?_
    refine Ops.s0 (s := 17400) (.sto rfl rfl rfl rfl rfl rfl) rfl rfl ?_
    refine Ops.p rfl ?_
    refine Ops.nil ?_
    refine Run.ret ?_
    obtain rfl := someO h
    exact Ends.mkG (.inl rfl) rfl (Gh.trans (Gh.trans (gh_prn [0, 1] [5128] hB rfl) (gh_nil [0] [] hB rfl rfl rfl)) (gh_pk [0, 1] [5128, 10000000, 10000001, 10000002] hB rfl rfl rfl rfl)) rfl rfl
def impl_copyLog (N : Nat) (x_1 : Log) : Option (Log) :=
 (cat? ([] : List Entry) x_1.Entries).bind fun x_103 =>
 some (Log.mk x_1.Start x_1.StartTerm x_103)
theorem sem_impl_copyLog (N : Nat) (x_1 : Log) (r : Log) (h : impl_copyLog N x_1 = some r) : Says Try.prog 147 [.agg [VI x_1.Start, VI x_1.StartTerm, RO 48 (x_1.Entries.map encEntry)]] 0 [] (.agg [VI r.Start, VI r.StartTerm, .sl 0 48 0 r.Entries.length]) [(0, .vec 48 (r.Entries.map encEntry))] := by
  unfold impl_copyLog at h
  refine Says.of_run s147 Try.call147 rfl fun B hB => ?_
  have hm : B.m ≤ 1000 := by omega
  refine Run.seq ?_
  refine Run.ops hm ?_
  refine Ops.st (s := 1000) (.bx rfl rfl) rfl rfl ?_
  refine Ops.st (s := 1016) (.al rfl rfl) rfl rfl ?_
  refine Ops.nil ?_
  refine Run.seq ?_
  refine Run.ops hm ?_
  refine Ops.p rfl ?_
  refine Ops.p rfl ?_
  obtain ⟨x_103, hx_103, h⟩ := bindO h
  refine Ops.st (s := 5128) (Ev.apW (f := encEntry) (ontoN (f := encEntry) rfl) (addsF rfl) rfl bt48 rfl hx_103) rfl rfl ?_
  refine Ops.p rfl ?_
  refine Ops.s0 (s := 5160) (.sto rfl rfl rfl rfl rfl rfl) rfl rfl ?_
  refine Ops.nil ?_
  refine Run.seq ?_
  refine Run.ops hm ?_
  refine Ops.p rfl ?_
  refine Ops.s0 (s := 9208) (.sto rfl rfl rfl rfl rfl rfl) rfl rfl ?_
  refine Ops.nil ?_
  refine Run.ret ?_
  obtain rfl := someO h
  exact Ends.mkG (.inl rfl) rfl (gh_pk [0] [5128] hB rfl rfl rfl rfl) rfl rfl
def impl_copyNode (N : Nat) (x_1 : Node) : Option (Node) :=
 (cat? ([] : List Int) x_1.Conf).bind fun x_109 =>
 (impl_copyLog N x_1.Log).bind fun y_111 =>
 (cat? ([] : List Int) x_1.Votes).bind fun x_113 =>
 (cat? ([] : List Peer) x_1.Peers).bind fun x_115 =>
 some (Node.mk x_1.Id x_1.Term x_1.Vote x_1.Role x_1.Lead x_109 y_111 x_1.Commit x_1.Clock x_1.Limit x_113 x_115)
theorem sem_impl_copyNode (N : Nat) (x_1 : Node) (r : Node) (h : impl_copyNode N x_1 = some r) : Says Try.prog 115 [.agg [VI x_1.Id, VI x_1.Term, VI x_1.Vote, VI x_1.Role, VI x_1.Lead, RO 3 (x_1.Conf.map encI), VI x_1.Log.Start, VI x_1.Log.StartTerm, RO 48 (x_1.Log.Entries.map encEntry), VI x_1.Commit, VI x_1.Clock, VI x_1.Limit, RO 3 (x_1.Votes.map encI), RO 172 (x_1.Peers.map encPeer)]] 0 [] (.agg [VI r.Id, VI r.Term, VI r.Vote, VI r.Role, VI r.Lead, .sl 0 3 0 r.Conf.length, VI r.Log.Start, VI r.Log.StartTerm, .sl 1 48 0 r.Log.Entries.length, VI r.Commit, VI r.Clock, VI r.Limit, .sl 2 3 0 r.Votes.length, .sl 3 172 0 r.Peers.length]) [(0, .vec 3 (r.Conf.map encI)), (1, .vec 48 (r.Log.Entries.map encEntry)), (2, .vec 3 (r.Votes.map encI)), (3, .vec 172 (r.Peers.map encPeer))] := by
  unfold impl_copyNode at h
  refine Says.of_run s115 Try.call115 rfl fun B hB => ?_
  have hm : B.m ≤ 1000 := by omega
  refine Run.seq ?_
  refine Run.ops hm ?_
  refine Ops.st (s := 1000) (.bx rfl rfl) rfl rfl ?_
  refine Ops.st (s := 1016) (.al rfl rfl) rfl rfl ?_
  refine Ops.nil ?_
  refine Run.seq ?_
  refine Run.ops hm ?_
  refine Ops.p rfl ?_
  refine Ops.p rfl ?_
  obtain ⟨x_109, hx_109, h⟩ := bindO h
  refine Ops.st (s := 5128) (Ev.apW (f := encI) (ontoN (f := encI) rfl) (addsF rfl) rfl bt3 rfl hx_109) rfl rfl ?_
  refine Ops.p rfl ?_
  refine Ops.s0 (s := 5160) (.sto rfl rfl rfl rfl rfl rfl) rfl rfl ?_
  refine Ops.nil ?_
  refine Run.seq ?_
  refine Run.ops hm ?_
  refine Ops.p rfl ?_
  refine Ops.p rfl ?_
  obtain ⟨y_111, hy_111, h⟩ := bindO h
  refine Ops.st (s := 9224) (Ev.call [] [] 1 (sem_impl_copyLog N x_1.Log _ hy_111) rfl rfl (.cons (.agg (.cons (.c _) (.cons (.c _) (.cons (.c _) .nil)))) .nil) rfl (.inl rfl) rfl rfl) rfl rfl ?_
  refine Ops.p rfl ?_
  refine Ops.s0 (s := 9256) (.sto rfl rfl rfl rfl rfl rfl) rfl rfl ?_
  refine Ops.nil ?_
  refine Run.seq ?_
  refine Run.ops hm ?_
  refine Ops.p rfl ?_
  refine Ops.p rfl ?_
  obtain ⟨x_113, hx_113, h⟩ := bindO h
  refine Ops.st (s := 13320) (Ev.apW (f := encI) (ontoN (f := encI) rfl) (addsF rfl) rfl bt3 rfl hx_113) rfl rfl ?_
  refine Ops.p rfl ?_
  refine Ops.s0 (s := 13352) (.sto rfl rfl rfl rfl rfl rfl) rfl rfl ?_
  refine Ops.nil ?_
  refine Run.seq ?_
  refine Run.ops hm ?_
  refine Ops.p rfl ?_
  refine Ops.p rfl ?_
  obtain ⟨x_115, hx_115, h⟩ := bindO h
  refine Ops.st (s := 17416) (Ev.apW (f := encPeer) (ontoN (f := encPeer) rfl) (addsF rfl) rfl bt172 rfl hx_115) rfl rfl ?_
  refine Ops.p rfl ?_
  refine Ops.s0 (s := 17448) (.sto rfl rfl rfl rfl rfl rfl) rfl rfl ?_
  refine Ops.nil ?_
  refine Run.seq ?_
  refine Run.ops hm ?_
  refine Ops.p rfl ?_
  refine Ops.s0 (s := 21496) (.sto rfl rfl rfl rfl rfl rfl) rfl rfl ?_
  refine Ops.nil ?_
  refine Run.ret ?_
  obtain rfl := someO h
  exact Ends.mkG (.inl rfl) rfl (gh_pk [0] [5128, 9224, 13320, 17416] hB rfl rfl rfl rfl) rfl rfl
def impl_hasEntry (N : Nat) (x_1 : Log) (x_2 : Int) : Option (Bool) :=
 (if (decide (x_2 > x_1.Start)) = true then
 (impl_within N (w64 (x_2 - x_1.Start)) (1 : Int) (x_1.Entries.length : Int)).bind fun y_103 =>
 some y_103
 else
 some false)
theorem sem_impl_hasEntry (N : Nat) (x_1 : Log) (x_2 : Int) (r : Bool) (h : impl_hasEntry N x_1 x_2 = some r) : Says Try.prog 90 [.agg [VI x_1.Start, VI x_1.StartTerm, RO 48 (x_1.Entries.map encEntry)], VI x_2] 0 [] (VB r) [] := by
  unfold impl_hasEntry at h
  refine Says.of_run s90 Try.call90 rfl fun B hB => ?_
  have hm : B.m ≤ 1000 := by omega
  refine Run.seq ?_
  refine Run.ops hm ?_
  refine Ops.st (s := 1000) (.bx rfl rfl) rfl rfl ?_
  refine Ops.p rfl ?_
  refine Ops.nil ?_
  refine Run.seq ?_
  refine Run.ops hm ?_
  refine Ops.p rfl ?_
  refine Ops.p rfl ?_
  refine Ops.p rfl ?_
  refine Ops.p rfl ?_
  refine Ops.p rfl ?_
  refine Ops.askO (x := .t 9) rfl h (fun g_102 h => ?_) (fun g_102 h => ?_)
  · skip
    refine Ops.gp rfl g_102 rfl ?_
    refine Ops.gp rfl g_102 rfl ?_
    refine Ops.gp rfl g_102 rfl ?_
    refine Ops.gp rfl g_102 rfl ?_
    refine Ops.gp rfl g_102 rfl ?_
    refine Ops.gp rfl g_102 rfl ?_
    refine Ops.gs (s := 5272) rfl g_102 (Ev.lnF rfl) rfl rfl ?_
    obtain ⟨y_103, hy_103, h⟩ := bindO h
    refine Ops.gs (s := 5288) rfl g_102 (Ev.call [] [] 0 (sem_impl_within N (w64 (x_2 - x_1.Start)) (1 : Int) (x_1.Entries.length : Int) _ hy_103) rfl rfl (.cons (.c _) (.cons (.c _) (.cons (.c _) .nil))) rfl (.inl rfl) rfl rfl) rfl rfl ?_
    refine Ops.st (s := 5304) (.pkT rfl g_102 rfl) rfl rfl ?_
    refine Ops.p rfl ?_
    refine Ops.nil ?_
    refine Run.ret ?_
    obtain rfl := someO h
    exact Ends.mkG (.inl rfl) rfl (gh_pk [0] [] hB rfl rfl rfl rfl) rfl rfl
  · skip
    refine Ops.gn rfl g_102 ?_
    refine Ops.gn rfl g_102 ?_
    refine Ops.gn rfl g_102 ?_
    refine Ops.gn rfl g_102 ?_
    refine Ops.gn rfl g_102 ?_
    refine Ops.gn rfl g_102 ?_
    refine Ops.gn rfl g_102 ?_
    refine Ops.gn rfl g_102 ?_
    refine Ops.st (s := 5304) (.pkF rfl g_102 rfl) rfl rfl ?_
    refine Ops.p rfl ?_
    refine Ops.nil ?_
    refine Run.ret ?_
    obtain rfl := someO h
    exact Ends.mkG (.inl rfl) rfl (gh_pk [0] [] hB rfl rfl rfl rfl) rfl rfl
def impl_LogTerm (N : Nat) (x_1 : Log) (x_2 : Int) : Option (Int) :=
 (if (x_2 == x_1.Start) = true then
 some x_1.StartTerm
 else
 (impl_hasEntry N x_1 x_2).bind fun y_105 =>
 (if y_105 = true then
 (at? x_1.Entries (w64 ((w64 (x_2 - x_1.Start)) - (1 : Int)))).bind fun x_107 =>
 some x_107.Term
 else
 some (-1 : Int)))
theorem sem_impl_LogTerm (N : Nat) (x_1 : Log) (x_2 : Int) (r : Int) (h : impl_LogTerm N x_1 x_2 = some r) : Says Try.prog 139 [.agg [VI x_1.Start, VI x_1.StartTerm, RO 48 (x_1.Entries.map encEntry)], VI x_2] 0 [] (VI r) [] := by
  unfold impl_LogTerm at h
  refine Says.of_run s139 Try.call139 rfl fun B hB => ?_
  have hm : B.m ≤ 1000 := by omega
  refine Run.seq ?_
  refine Run.ops hm ?_
  refine Ops.st (s := 1000) (.bx rfl rfl) rfl rfl ?_
  refine Ops.p rfl ?_
  refine Ops.nil ?_
  refine Run.seq ?_
  refine Run.block ?_
  refine Run.seq ?_
  refine Run.ops hm ?_
  refine Ops.p rfl ?_
  refine Ops.p rfl ?_
  refine Ops.p rfl ?_
  refine Ops.p rfl ?_
  refine Ops.p rfl ?_
  refine Ops.nil ?_
  refine Run.condO rfl h (fun g_104 h => ?_) (fun g_104 h => ?_)
  · skip
    refine Run.seq ?_
    refine Run.ops hm ?_
    refine Ops.p rfl ?_
    refine Ops.p rfl ?_
    refine Ops.p rfl ?_
    refine Ops.nil ?_
    refine Run.ret ?_
    obtain rfl := someO h
    exact Ends.mkG (.inl rfl) rfl (gh_pk [0] [] hB rfl rfl rfl rfl) rfl rfl
  · skip
    refine Run.seq ?_
    refine Run.ops hm ?_
    refine Ops.p rfl ?_
    refine Ops.p rfl ?_
    obtain ⟨y_105, hy_105, h⟩ := bindO h
    refine Ops.st (s := 13320) (Ev.call [] [] 0 (sem_impl_hasEntry N x_1 x_2 _ hy_105) rfl rfl (.cons (.agg (.cons (.c _) (.cons (.c _) (.cons (.c _) .nil)))) (.cons (.c _) .nil)) rfl (.inl rfl) rfl rfl) rfl rfl ?_
    refine Ops.p rfl ?_
    refine Ops.nil ?_
    refine Run.condO rfl h (fun g_106 h => ?_) (fun g_106 h => ?_)
    · skip
      refine Run.seq ?_
      refine Run.ops hm ?_
      refine Ops.p rfl ?_
      refine Ops.p rfl ?_
      refine Ops.p rfl ?_
      refine Ops.p rfl ?_
      refine Ops.p rfl ?_
      refine Ops.p rfl ?_
      refine Ops.p rfl ?_
      obtain ⟨x_107, hx_107, h⟩ := bindO h
      refine Ops.st (s := 17496) (Ev.iaF rfl rfl hx_107) rfl rfl ?_
      refine Ops.p rfl ?_
      refine Ops.p rfl ?_
      refine Ops.p rfl ?_
      refine Ops.nil ?_
      refine Run.ret ?_
      obtain rfl := someO h
      exact Ends.mkG (.inl rfl) rfl (gh_pk [0] [] hB rfl rfl rfl rfl) rfl rfl
    · skip
      refine Run.skip ?_
      refine Run.seq ?_
      refine Run.ops hm ?_
      refine Ops.p rfl ?_
      refine Ops.nil ?_
      refine Run.ret ?_
      obtain rfl := someO h
      exact Ends.mkG (.inl rfl) rfl (gh_pk [0] [] hB rfl rfl rfl rfl) rfl rfl
def core_tell (N : Nat) (x_1 : Tcore) (x_2 : Message) : Option (Tcore) :=
 (cat? x_1.out ([(Message.mk x_2.Kind x_1.n.Id x_2.To x_1.n.Term x_2.Index x_2.LogTerm x_2.Commit x_2.Ok x_2.Entries ([]) x_2.Data x_2.Last)] : List Message)).bind fun x_101 =>
 some (Tcore.mk x_1.n x_101)
theorem sem_core_tell (N : Nat) (x_1 : Tcore) (x_2 : Message) (r : Tcore) (h : core_tell N x_1 x_2 = some r) : Says Try.prog 122 [.ptr 0 0, .agg [VI x_2.Kind, VI x_2.From, VI x_2.To, VI x_2.Term, VI x_2.Index, VI x_2.LogTerm, VI x_2.Commit, VB x_2.Ok, .sl 1 48 0 x_2.Entries.length, NI 3, VS x_2.Data, VB x_2.Last]] 7 [(0, .box [VI x_1.n.Id, VI x_1.n.Term, VI x_1.n.Vote, VI x_1.n.Role, VI x_1.n.Lead, .sl 2 3 0 x_1.n.Conf.length, VI x_1.n.Log.Start, VI x_1.n.Log.StartTerm, .sl 3 48 0 x_1.n.Log.Entries.length, VI x_1.n.Commit, VI x_1.n.Clock, VI x_1.n.Limit, .sl 4 3 0 x_1.n.Votes.length, .sl 5 172 0 x_1.n.Peers.length, .sl 6 168 0 x_1.out.length]), (1, .vec 48 (x_2.Entries.map encEntry)), (2, .vec 3 (x_1.n.Conf.map encI)), (3, .vec 48 (x_1.n.Log.Entries.map encEntry)), (4, .vec 3 (x_1.n.Votes.map encI)), (5, .vec 172 (x_1.n.Peers.map encPeer)), (6, .vec 168 (x_1.out.map (encMessage true)))] (.tup []) [(0, .box [VI r.n.Id, VI r.n.Term, VI r.n.Vote, VI r.n.Role, VI r.n.Lead, .sl 2 3 0 x_1.n.Conf.length, VI r.n.Log.Start, VI r.n.Log.StartTerm, .sl 3 48 0 x_1.n.Log.Entries.length, VI r.n.Commit, VI r.n.Clock, VI r.n.Limit, .sl 4 3 0 x_1.n.Votes.length, .sl 5 172 0 x_1.n.Peers.length, .sl 7 168 0 r.out.length]), (1, .gone), (2, .vec 3 (x_1.n.Conf.map encI)), (3, .vec 48 (x_1.n.Log.Entries.map encEntry)), (4, .vec 3 (x_1.n.Votes.map encI)), (5, .vec 172 (x_1.n.Peers.map encPeer)), (6, .gone), (7, .vec 168 (r.out.map (encMessage true)))] := by
  unfold core_tell at h
  refine Says.of_run s122 Try.call122 rfl fun B hB => ?_
  have hm : B.m ≤ 1000 := by omega
  refine Run.seq ?_
  refine Run.ops hm ?_
  refine Ops.st (s := 1000) (.bx rfl rfl) rfl rfl ?_
  refine Ops.nil ?_
  refine Run.seq ?_
  refine Run.draw hm hmix ?_
  refine OpsD.p rfl ?_
  refine OpsD.p rfl ?_
  refine OpsD.p rfl ?_
  refine OpsD.p rfl ?_
  refine OpsD.p rfl ?_
  refine OpsD.p rfl ?_
  refine OpsD.p rfl ?_
  refine OpsD.p rfl ?_
  refine OpsD.p rfl ?_
  refine OpsD.p rfl ?_
  refine OpsD.p rfl ?_
  refine OpsD.s0 (s := 5272) (.sto rfl rfl rfl rfl rfl rfl) rfl rfl ?_
  refine OpsD.p rfl ?_
  refine OpsD.s0 (s := 5304) (.sto rfl rfl rfl rfl rfl rfl) rfl rfl ?_
  refine OpsD.nil ⟨by kernel_rfl, ?_⟩
  refine Run.draw hm hmix ?_
  refine OpsD.p rfl ?_
  refine OpsD.p rfl ?_
  refine OpsD.p rfl ?_
  refine OpsD.p rfl ?_
  refine OpsD.p rfl ?_
  refine OpsD.p rfl ?_
  refine OpsD.st (s := 9288) (Ev.bsW (ys := ([(Message.mk x_2.Kind x_1.n.Id x_2.To x_1.n.Term x_2.Index x_2.LogTerm x_2.Commit x_2.Ok x_2.Entries ([]) x_2.Data x_2.Last)] : List Message)) (f := (encMessage true)) rfl (.cons (.c _) (.cons (.c _) (.cons (.c _) (.cons (.c _) (.cons (.c _) (.cons (.c _) (.cons (.c _) (.cons (.c _) (.cons (.own rfl (lenmap rfl)) (.cons (.c _) (.cons (.c _) (.cons (.c _) .nil)))))))))))) rfl rfl rfl rfl rfl) rfl rfl ?_
  obtain ⟨x_101, hx_101, h⟩ := bindO h
  refine OpsD.st (s := 9304) (Ev.apW (f := (encMessage true)) (ontoW rfl rfl rfl) (addsO rfl rfl rfl) rfl bt168 rfl hx_101) rfl rfl ?_
  refine OpsD.p rfl ?_
  refine OpsD.p rfl ?_
  refine OpsD.s0 (s := 9352) (.sto rfl rfl rfl rfl rfl rfl) rfl rfl ?_
  refine OpsD.nil ⟨by kernel_rfl, ?_⟩
  obtain rfl := someO h
  exact Ends.mkG (.inr rfl) rfl (gh_pk [] [0, 1, 2, 3, 4, 5, 6, 9304] hB rfl rfl rfl rfl) rfl rfl
def core_tell_i1 (N : Nat) (x_1 : Tcore) (x_2 : Message) : Option (Tcore) :=
 (cat? x_1.out ([(Message.mk x_2.Kind x_1.n.Id x_2.To x_1.n.Term x_2.Index x_2.LogTerm x_2.Commit x_2.Ok ([]) x_2.Conf x_2.Data x_2.Last)] : List Message)).bind fun x_101 =>
 some (Tcore.mk x_1.n x_101)
theorem sem_core_tell_i1 (N : Nat) (x_1 : Tcore) (x_2 : Message) (r : Tcore) (h : core_tell_i1 N x_1 x_2 = some r) : Says Try.prog 122 [.ptr 0 0, .agg [VI x_2.Kind, VI x_2.From, VI x_2.To, VI x_2.Term, VI x_2.Index, VI x_2.LogTerm, VI x_2.Commit, VB x_2.Ok, NI 48, .sl 1 3 0 x_2.Conf.length, VS x_2.Data, VB x_2.Last]] 7 [(0, .box [VI x_1.n.Id, VI x_1.n.Term, VI x_1.n.Vote, VI x_1.n.Role, VI x_1.n.Lead, .sl 2 3 0 x_1.n.Conf.length, VI x_1.n.Log.Start, VI x_1.n.Log.StartTerm, .sl 3 48 0 x_1.n.Log.Entries.length, VI x_1.n.Commit, VI x_1.n.Clock, VI x_1.n.Limit, .sl 4 3 0 x_1.n.Votes.length, .sl 5 172 0 x_1.n.Peers.length, .sl 6 168 0 x_1.out.length]), (1, .vec 3 (x_2.Conf.map encI)), (2, .vec 3 (x_1.n.Conf.map encI)), (3, .vec 48 (x_1.n.Log.Entries.map encEntry)), (4, .vec 3 (x_1.n.Votes.map encI)), (5, .vec 172 (x_1.n.Peers.map encPeer)), (6, .vec 168 (x_1.out.map (encMessage true)))] (.tup []) [(0, .box [VI r.n.Id, VI r.n.Term, VI r.n.Vote, VI r.n.Role, VI r.n.Lead, .sl 2 3 0 x_1.n.Conf.length, VI r.n.Log.Start, VI r.n.Log.StartTerm, .sl 3 48 0 x_1.n.Log.Entries.length, VI r.n.Commit, VI r.n.Clock, VI r.n.Limit, .sl 4 3 0 x_1.n.Votes.length, .sl 5 172 0 x_1.n.Peers.length, .sl 7 168 0 r.out.length]), (1, .gone), (2, .vec 3 (x_1.n.Conf.map encI)), (3, .vec 48 (x_1.n.Log.Entries.map encEntry)), (4, .vec 3 (x_1.n.Votes.map encI)), (5, .vec 172 (x_1.n.Peers.map encPeer)), (6, .gone), (7, .vec 168 (r.out.map (encMessage true)))] := by
  unfold core_tell_i1 at h
  refine Says.of_run s122 Try.call122 rfl fun B hB => ?_
  have hm : B.m ≤ 1000 := by omega
  refine Run.seq ?_
  refine Run.ops hm ?_
  refine Ops.st (s := 1000) (.bx rfl rfl) rfl rfl ?_
  refine Ops.nil ?_
  refine Run.seq ?_
  refine Run.draw hm hmix ?_
  refine OpsD.p rfl ?_
  refine OpsD.p rfl ?_
  refine OpsD.p rfl ?_
  refine OpsD.p rfl ?_
  refine OpsD.p rfl ?_
  refine OpsD.p rfl ?_
  refine OpsD.p rfl ?_
  refine OpsD.p rfl ?_
  refine OpsD.p rfl ?_
  refine OpsD.p rfl ?_
  refine OpsD.p rfl ?_
  refine OpsD.s0 (s := 5272) (.sto rfl rfl rfl rfl rfl rfl) rfl rfl ?_
  refine OpsD.p rfl ?_
  refine OpsD.s0 (s := 5304) (.sto rfl rfl rfl rfl rfl rfl) rfl rfl ?_
  refine OpsD.nil ⟨by kernel_rfl, ?_⟩
  refine Run.draw hm hmix ?_
  refine OpsD.p rfl ?_
  refine OpsD.p rfl ?_
  refine OpsD.p rfl ?_
  refine OpsD.p rfl ?_
  refine OpsD.p rfl ?_
  refine OpsD.p rfl ?_
  refine OpsD.st (s := 9288) (Ev.bsW (ys := ([(Message.mk x_2.Kind x_1.n.Id x_2.To x_1.n.Term x_2.Index x_2.LogTerm x_2.Commit x_2.Ok ([]) x_2.Conf x_2.Data x_2.Last)] : List Message)) (f := (encMessage true)) rfl (.cons (.c _) (.cons (.c _) (.cons (.c _) (.cons (.c _) (.cons (.c _) (.cons (.c _) (.cons (.c _) (.cons (.c _) (.cons (.c _) (.cons (.own rfl (lenmap rfl)) (.cons (.c _) (.cons (.c _) .nil)))))))))))) rfl rfl rfl rfl rfl) rfl rfl ?_
  obtain ⟨x_101, hx_101, h⟩ := bindO h
  refine OpsD.st (s := 9304) (Ev.apW (f := (encMessage true)) (ontoW rfl rfl rfl) (addsO rfl rfl rfl) rfl bt168 rfl hx_101) rfl rfl ?_
  refine OpsD.p rfl ?_
  refine OpsD.p rfl ?_
  refine OpsD.s0 (s := 9352) (.sto rfl rfl rfl rfl rfl rfl) rfl rfl ?_
  refine OpsD.nil ⟨by kernel_rfl, ?_⟩
  obtain rfl := someO h
  exact Ends.mkG (.inr rfl) rfl (gh_pk [] [0, 1, 2, 3, 4, 5, 6, 9304] hB rfl rfl rfl rfl) rfl rfl
def core_send (N : Nat) (x_1 : Tcore) (x_2 : Int) : Option (Tcore) :=
 (at? x_1.n.Peers x_2).bind fun x_119 =>
 (if (decide (x_119.Next > x_1.n.Log.Start)) = true then
 (cut? x_1.n.Log.Entries (w64 ((w64 (x_119.Next - x_1.n.Log.Start)) - (1 : Int))) (imin ((x_1.n.Log.Entries.length : Nat) : Int) (w64 ((w64 ((w64 (x_119.Next - x_1.n.Log.Start)) - (1 : Int))) + (4 : Int))))).bind fun x_130 =>
 (cat? ([] : List Entry) ((x_1.n.Log.Entries.drop ((w64 ((w64 (x_119.Next - x_1.n.Log.Start)) - (1 : Int))).toNat)).take ((imin ((x_1.n.Log.Entries.length : Nat) : Int) (w64 ((w64 ((w64 (x_119.Next - x_1.n.Log.Start)) - (1 : Int))) + (4 : Int)))).toNat - (w64 ((w64 (x_119.Next - x_1.n.Log.Start)) - (1 : Int))).toNat))).bind fun x_131 =>
 (impl_LogTerm N x_1.n.Log (w64 (x_119.Next - (1 : Int)))).bind fun y_132 =>
 (core_tell N x_1 (Message.mk (3 : Int) (0 : Int) x_119.Id (0 : Int) (w64 (x_119.Next - (1 : Int))) y_132 x_1.n.Commit false x_131 ([]) (⟨#[]⟩ : ByteArray) false)).bind fun y_133 =>
 some (Tcore.mk (Node.mk y_133.n.Id y_133.n.Term y_133.n.Vote y_133.n.Role y_133.n.Lead x_1.n.Conf (Log.mk y_133.n.Log.Start y_133.n.Log.StartTerm x_1.n.Log.Entries) y_133.n.Commit y_133.n.Clock y_133.n.Limit x_1.n.Votes x_1.n.Peers) y_133.out)
 else
 (cat? ([] : List Int) x_1.n.Conf).bind fun x_134 =>
 (core_tell_i1 N x_1 (Message.mk (5 : Int) (0 : Int) x_119.Id (0 : Int) x_1.n.Log.Start x_1.n.Log.StartTerm x_119.Sent false ([]) x_134 (⟨#[]⟩ : ByteArray) false)).bind fun y_135 =>
 some (Tcore.mk (Node.mk y_135.n.Id y_135.n.Term y_135.n.Vote y_135.n.Role y_135.n.Lead x_1.n.Conf (Log.mk y_135.n.Log.Start y_135.n.Log.StartTerm x_1.n.Log.Entries) y_135.n.Commit y_135.n.Clock y_135.n.Limit x_1.n.Votes x_1.n.Peers) y_135.out))
theorem sem_core_send (N : Nat) (x_1 : Tcore) (x_2 : Int) (r : Tcore) (h : core_send N x_1 x_2 = some r) : Says Try.prog 148 [.ptr 0 0, VI x_2] 6 [(0, .box [VI x_1.n.Id, VI x_1.n.Term, VI x_1.n.Vote, VI x_1.n.Role, VI x_1.n.Lead, .sl 1 3 0 x_1.n.Conf.length, VI x_1.n.Log.Start, VI x_1.n.Log.StartTerm, .sl 2 48 0 x_1.n.Log.Entries.length, VI x_1.n.Commit, VI x_1.n.Clock, VI x_1.n.Limit, .sl 3 3 0 x_1.n.Votes.length, .sl 4 172 0 x_1.n.Peers.length, .sl 5 168 0 x_1.out.length]), (1, .vec 3 (x_1.n.Conf.map encI)), (2, .vec 48 (x_1.n.Log.Entries.map encEntry)), (3, .vec 3 (x_1.n.Votes.map encI)), (4, .vec 172 (x_1.n.Peers.map encPeer)), (5, .vec 168 (x_1.out.map (encMessage true)))] (.tup []) [(0, .box [VI r.n.Id, VI r.n.Term, VI r.n.Vote, VI r.n.Role, VI r.n.Lead, .sl 1 3 0 x_1.n.Conf.length, VI r.n.Log.Start, VI r.n.Log.StartTerm, .sl 2 48 0 x_1.n.Log.Entries.length, VI r.n.Commit, VI r.n.Clock, VI r.n.Limit, .sl 3 3 0 x_1.n.Votes.length, .sl 4 172 0 x_1.n.Peers.length, .sl 6 168 0 r.out.length]), (1, .vec 3 (x_1.n.Conf.map encI)), (2, .vec 48 (x_1.n.Log.Entries.map encEntry)), (3, .vec 3 (x_1.n.Votes.map encI)), (4, .vec 172 (x_1.n.Peers.map encPeer)), (5, .gone), (6, .vec 168 (r.out.map (encMessage true)))] := by
  unfold core_send at h
  refine Says.of_run s148 Try.call148 rfl fun B hB => ?_
  have hm : B.m ≤ 1000 := by omega
  refine Run.seq ?_
  refine Run.ops hm ?_
  refine Ops.p rfl ?_
  refine Ops.p rfl ?_
  refine Ops.p rfl ?_
  refine Ops.p rfl ?_
  refine Ops.p rfl ?_
  refine Ops.p rfl ?_
  obtain ⟨x_119, hx_119, h⟩ := bindO h
  refine Ops.st (s := 1096) (Ev.iaW rfl rfl rfl hx_119) rfl rfl ?_
  refine Ops.p rfl ?_
  refine Ops.nil ?_
  refine Run.seq ?_
  refine Run.ops hm ?_
  refine Ops.p rfl ?_
  refine Ops.p rfl ?_
  refine Ops.p rfl ?_
  refine Ops.p rfl ?_
  refine Ops.p rfl ?_
  refine Ops.st (s := 5176) (.al rfl rfl) rfl rfl ?_
  refine Ops.s0 (s := 5192) (.sto rfl rfl rfl rfl rfl rfl) rfl rfl ?_
  refine Ops.nil ?_
  refine Run.seq ?_
  refine Run.seq ?_
  refine Run.draw hm hmix ?_
  refine OpsD.p rfl ?_
  refine OpsD.p rfl ?_
  refine OpsD.p rfl ?_
  refine OpsD.st (s := 9240) (Ev.ldE (f := encPeer) rfl rfl (at_some hx_119).2 rfl rfl rfl) rfl rfl ?_
  refine OpsD.p rfl ?_
  refine OpsD.p rfl ?_
  refine OpsD.p rfl ?_
  refine OpsD.nil ⟨by kernel_rfl, ?_⟩
  refine Run.condO rfl h (fun g_127 h => ?_) (fun g_127 h => ?_)
  · skip
    refine Run.seq ?_
    refine Run.draw hm hmix ?_
    refine OpsD.p rfl ?_
    refine OpsD.p rfl ?_
    refine OpsD.p rfl ?_
    refine OpsD.st (s := 13336) (Ev.ldE (f := encPeer) rfl rfl (at_some hx_119).2 rfl rfl rfl) rfl rfl ?_
    refine OpsD.p rfl ?_
    refine OpsD.p rfl ?_
    refine OpsD.p rfl ?_
    refine OpsD.p rfl ?_
    refine OpsD.p rfl ?_
    refine OpsD.nil ⟨by kernel_rfl, ?_⟩
    refine Run.seq ?_
    refine Run.ops hm ?_
    refine Ops.p rfl ?_
    refine Ops.p rfl ?_
    refine Ops.p rfl ?_
    refine Ops.p rfl ?_
    refine Ops.p rfl ?_
    refine Ops.p rfl ?_
    refine Ops.p rfl ?_
    refine Ops.p rfl ?_
    refine Ops.p rfl ?_
    obtain ⟨x_130, hx_130, h⟩ := bindO h
    refine Ops.st (s := 17528) (Ev.slW (xs := x_1.n.Log.Entries) rfl rfl rfl rfl hx_130) rfl rfl ?_
    obtain ⟨x_131, hx_131, h⟩ := bindO h
    refine Ops.st (s := 17544) (Ev.apW (f := encEntry) (ontoN (f := encEntry) rfl) (addsP rfl rfl (fun _ => rfl)) rfl bt48 rfl hx_131) rfl rfl ?_
    refine Ops.p rfl ?_
    refine Ops.nil ?_
    refine Run.seq ?_
    refine Run.draw hm hmix ?_
    refine OpsD.p rfl ?_
    refine OpsD.p rfl ?_
    refine OpsD.p rfl ?_
    refine OpsD.p rfl ?_
    refine OpsD.st (s := 21544) (Ev.ldE (f := encPeer) rfl rfl (at_some hx_119).2 rfl rfl rfl) rfl rfl ?_
    refine OpsD.p rfl ?_
    refine OpsD.p rfl ?_
    refine OpsD.p rfl ?_
    refine OpsD.st (s := 21608) (Ev.ldE (f := encPeer) rfl rfl (at_some hx_119).2 rfl rfl rfl) rfl rfl ?_
    refine OpsD.p rfl ?_
    refine OpsD.p rfl ?_
    refine OpsD.p rfl ?_
    refine OpsD.p rfl ?_
    refine OpsD.p rfl ?_
    refine OpsD.st (s := 21704) (Ev.ldE (f := encPeer) rfl rfl (at_some hx_119).2 rfl rfl rfl) rfl rfl ?_
    refine OpsD.p rfl ?_
    obtain ⟨y_132, hy_132, h⟩ := bindO h
    refine OpsD.st (s := 21736) (Ev.call [] [2] 0 (sem_impl_LogTerm N x_1.n.Log (w64 (x_119.Next - (1 : Int))) _ hy_132) rfl rfl (.cons (.agg (.cons (.c _) (.cons (.c _) (.cons (.borrow rfl (by decide) (lendW (fun _ => rfl) _ rfl)) .nil)))) (.cons (.c _) .nil)) rfl (.inr ⟨rfl, ownL_root trivial⟩) rfl rfl) rfl rfl ?_
    refine OpsD.p rfl ?_
    refine OpsD.p rfl ?_
    refine OpsD.p rfl ?_
    refine OpsD.p rfl ?_
    refine OpsD.p rfl ?_
    refine OpsD.p rfl ?_
    refine OpsD.st (s := 21848) (.bd rfl rfl) rfl rfl ?_
    obtain ⟨y_133, hy_133, h⟩ := bindO h
    refine OpsD.st (s := 21864) (Ev.call [0, 17544, 1, 2, 3, 4, 5] [] 1 (sem_core_tell N x_1 (Message.mk (3 : Int) (0 : Int) x_119.Id (0 : Int) (w64 (x_119.Next - (1 : Int))) y_132 x_1.n.Commit false x_131 ([]) (⟨#[]⟩ : ByteArray) false) _ hy_133) rfl rfl (.cons (.ptr rfl) (.cons (.agg (.cons (.c _) (.cons (.c _) (.cons (.c _) (.cons (.c _) (.cons (.c _) (.cons (.c _) (.cons (.c _) (.cons (.c _) (.cons (.sl rfl) (.cons (.c _) (.cons (.c _) (.cons (.c _) .nil))))))))))))) .nil)) rfl (.inl rfl) rfl rfl) rfl rfl ?_
    refine OpsD.nil ⟨by kernel_rfl, ?_⟩
    refine Run.ret ?_
    obtain rfl := someO h
    exact Ends.mkG (.inl rfl) rfl (gh_pk [] [0, 1, 2, 3, 4, 5, 21864] hB rfl rfl rfl rfl) rfl rfl
  · skip
    refine Run.skip ?_
    refine Run.draw hm hmix ?_
    refine OpsD.p rfl ?_
    refine OpsD.p rfl ?_
    refine OpsD.p rfl ?_
    refine OpsD.p rfl ?_
    refine OpsD.st (s := 25640) (Ev.ldE (f := encPeer) rfl rfl (at_some hx_119).2 rfl rfl rfl) rfl rfl ?_
    refine OpsD.p rfl ?_
    refine OpsD.p rfl ?_
    refine OpsD.p rfl ?_
    refine OpsD.p rfl ?_
    refine OpsD.p rfl ?_
    refine OpsD.p rfl ?_
    refine OpsD.p rfl ?_
    refine OpsD.st (s := 25768) (Ev.ldE (f := encPeer) rfl rfl (at_some hx_119).2 rfl rfl rfl) rfl rfl ?_
    refine OpsD.p rfl ?_
    refine OpsD.p rfl ?_
    refine OpsD.p rfl ?_
    refine OpsD.p rfl ?_
    refine OpsD.p rfl ?_
    obtain ⟨x_134, hx_134, h⟩ := bindO h
    refine OpsD.st (s := 25864) (Ev.apW (f := encI) (ontoN (f := encI) rfl) (addsW rfl rfl rfl (fun _ => rfl)) rfl bt3 rfl hx_134) rfl rfl ?_
    refine OpsD.st (s := 25880) (.bd rfl rfl) rfl rfl ?_
    obtain ⟨y_135, hy_135, h⟩ := bindO h
    refine OpsD.st (s := 25896) (Ev.call [0, 25864, 1, 2, 3, 4, 5] [] 1 (sem_core_tell_i1 N x_1 (Message.mk (5 : Int) (0 : Int) x_119.Id (0 : Int) x_1.n.Log.Start x_1.n.Log.StartTerm x_119.Sent false ([]) x_134 (⟨#[]⟩ : ByteArray) false) _ hy_135) rfl rfl (.cons (.ptr rfl) (.cons (.agg (.cons (.c _) (.cons (.c _) (.cons (.c _) (.cons (.c _) (.cons (.c _) (.cons (.c _) (.cons (.c _) (.cons (.c _) (.cons (.c _) (.cons (.sl rfl) (.cons (.c _) (.cons (.c _) .nil))))))))))))) .nil)) rfl (.inl rfl) rfl rfl) rfl rfl ?_
    refine OpsD.nil ⟨by kernel_rfl, ?_⟩
    obtain rfl := someO h
    exact Ends.mkG (.inr rfl) rfl (gh_pk [] [0, 1, 2, 3, 4, 5, 25896] hB rfl rfl rfl rfl) rfl rfl
def core_sendAll_l1 (N : Nat) (x_1 : Tcore) : Nat → Int → Int → Int → Int → Int → Int → Int → Int → Int → Int → Int → (List Message) → Option (Int × Int × Int × Int × Int × Int × Int × Int × Int × Int × (List Message))
 | 0, _, _, _, _, _, _, _, _, _, _, _, _ => none
 | m + 1, x_126, x_127, x_128, x_129, x_130, x_131, x_132, x_133, x_134, x_135, x_136, x_141 =>
 (if (decide (x_126 < ((x_1.n.Peers.length : Nat) : Int))) = true then
 (core_send N (Tcore.mk (Node.mk x_127 x_128 x_129 x_130 x_131 x_1.n.Conf (Log.mk x_132 x_133 x_1.n.Log.Entries) x_134 x_135 x_136 x_1.n.Votes x_1.n.Peers) x_141) x_126).bind fun y_149 =>
 core_sendAll_l1 N x_1 m (w64 (x_126 + (1 : Int))) y_149.n.Id y_149.n.Term y_149.n.Vote y_149.n.Role y_149.n.Lead y_149.n.Log.Start y_149.n.Log.StartTerm y_149.n.Commit y_149.n.Clock y_149.n.Limit y_149.out
 else
 some (x_127, x_128, x_129, x_130, x_131, x_132, x_133, x_134, x_135, x_136, x_141))
def core_sendAll (N : Nat) (x_1 : Tcore) : Option (Tcore) :=
 (core_sendAll_l1 N x_1 N (0 : Int) x_1.n.Id x_1.n.Term x_1.n.Vote x_1.n.Role x_1.n.Lead x_1.n.Log.Start x_1.n.Log.StartTerm x_1.n.Commit x_1.n.Clock x_1.n.Limit ([] : (List Message))).bind (fun (v_145 : Int × Int × Int × Int × Int × Int × Int × Int × Int × Int × (List Message)) => some (Tcore.mk (Node.mk v_145.1 v_145.2.1 v_145.2.2.1 v_145.2.2.2.1 v_145.2.2.2.2.1 x_1.n.Conf (Log.mk v_145.2.2.2.2.2.1 v_145.2.2.2.2.2.2.1 x_1.n.Log.Entries) v_145.2.2.2.2.2.2.2.1 v_145.2.2.2.2.2.2.2.2.1 v_145.2.2.2.2.2.2.2.2.2.1 x_1.n.Votes x_1.n.Peers) v_145.2.2.2.2.2.2.2.2.2.2))
theorem sem_core_sendAll (N : Nat) (x_1 : Tcore) (r : Tcore) (h : core_sendAll N x_1 = some r) : Says Try.prog 116 [.ptr 0 0] 5 [(0, .box [VI x_1.n.Id, VI x_1.n.Term, VI x_1.n.Vote, VI x_1.n.Role, VI x_1.n.Lead, .sl 1 3 0 x_1.n.Conf.length, VI x_1.n.Log.Start, VI x_1.n.Log.StartTerm, .sl 2 48 0 x_1.n.Log.Entries.length, VI x_1.n.Commit, VI x_1.n.Clock, VI x_1.n.Limit, .sl 3 3 0 x_1.n.Votes.length, .sl 4 172 0 x_1.n.Peers.length, NI 168]), (1, .vec 3 (x_1.n.Conf.map encI)), (2, .vec 48 (x_1.n.Log.Entries.map encEntry)), (3, .vec 3 (x_1.n.Votes.map encI)), (4, .vec 172 (x_1.n.Peers.map encPeer))] (.tup []) [(0, .box [VI r.n.Id, VI r.n.Term, VI r.n.Vote, VI r.n.Role, VI r.n.Lead, .sl 1 3 0 x_1.n.Conf.length, VI r.n.Log.Start, VI r.n.Log.StartTerm, .sl 2 48 0 x_1.n.Log.Entries.length, VI r.n.Commit, VI r.n.Clock, VI r.n.Limit, .sl 3 3 0 x_1.n.Votes.length, .sl 4 172 0 x_1.n.Peers.length, .sl 5 168 0 r.out.length]), (1, .vec 3 (x_1.n.Conf.map encI)), (2, .vec 48 (x_1.n.Log.Entries.map encEntry)), (3, .vec 3 (x_1.n.Votes.map encI)), (4, .vec 172 (x_1.n.Peers.map encPeer)), (5, .vec 168 (r.out.map (encMessage true)))] := by
  unfold core_sendAll at h
  refine Says.of_run s116 Try.call116 rfl fun B hB => ?_
  have hm : B.m ≤ 1000 := by omega
  refine Run.seq ?_
  refine Run.ops hm ?_
  refine Ops.p rfl ?_
  refine Ops.p rfl ?_
  refine Ops.p rfl ?_
  refine Ops.p rfl ?_
  refine Ops.p rfl ?_
  refine Ops.p rfl ?_
  refine Ops.p rfl ?_
  refine Ops.nil ?_
  refine Run.block ?_
  obtain ⟨res_145, h, hk_145⟩ := bindO h
  refine Run.loop (n := N) (fun m_145 fr σ => ∃ (x_126 : Int), ∃ (x_127 : Int), ∃ (x_128 : Int), ∃ (x_129 : Int), ∃ (x_130 : Int), ∃ (x_131 : Int), ∃ (x_132 : Int), ∃ (x_133 : Int), ∃ (x_134 : Int), ∃ (x_135 : Int), ∃ (x_136 : Int), ∃ (x_141 : (List Message)), core_sendAll_l1 N x_1 m_145 x_126 x_127 x_128 x_129 x_130 x_131 x_132 x_133 x_134 x_135 x_136 x_141 = some res_145 ∧ fr = [(0, .ptr 0 0), (8, VI ((x_1.n.Peers.length : Nat) : Int)), (9, VI x_126)] ∧ σ = [(0, .box [VI x_127, VI x_128, VI x_129, VI x_130, VI x_131, .sl 1 3 0 x_1.n.Conf.length, VI x_132, VI x_133, .sl 2 48 0 x_1.n.Log.Entries.length, VI x_134, VI x_135, VI x_136, .sl 3 3 0 x_1.n.Votes.length, .sl 4 172 0 x_1.n.Peers.length, .sl 5 168 0 x_141.length]), (1, .vec 3 (x_1.n.Conf.map encI)), (2, .vec 48 (x_1.n.Log.Entries.map encEntry)), (3, .vec 3 (x_1.n.Votes.map encI)), (4, .vec 172 (x_1.n.Peers.map encPeer)), (5, .vec 168 (x_141.map (encMessage true)))]) (Gh.trans (Gh.trans (gh_prn [0, 8, 9] [0, 1, 2, 3, 4] hB rfl) (gh_nil [] [0] hB rfl rfl rfl)) (gh_pk [0, 8, 9] [0, 1, 2, 3, 4, 20000000] hB rfl rfl rfl rfl)) ⟨_, _, _, _, _, _, _, _, _, _, _, _, h, rfl, rfl⟩ ?_
  rintro m_145 fr σ ⟨x_126, x_127, x_128, x_129, x_130, x_131, x_132, x_133, x_134, x_135, x_136, x_141, h, rfl, rfl⟩
  obtain _ | m_145 := m_145
  · rw [core_sendAll_l1] at h; cases h
  rw [core_sendAll_l1] at h
  refine Run.seq ?_
  refine Run.ops hm ?_
  refine Ops.p rfl ?_
  refine Ops.nil ?_
  refine Run.seq ?_
  refine Run.condO rfl h (fun g_148 h => ?_) (fun g_148 h => ?_)
  · skip
    refine Run.skip ?_
    refine Run.seq ?_
    refine Run.block ?_
    refine Run.seq ?_
    refine Run.ops hm ?_
    refine Ops.p rfl ?_
    refine Ops.p rfl ?_
    refine Ops.nil ?_
    refine Run.ops hm ?_
    refine Ops.p rfl ?_
    refine Ops.p rfl ?_
    obtain ⟨y_149, hy_149, h⟩ := bindO h
    refine Ops.st (s := 13320) (Ev.call [0, 1, 2, 3, 4, 5] [] 1 (sem_core_send N (Tcore.mk (Node.mk x_127 x_128 x_129 x_130 x_131 x_1.n.Conf (Log.mk x_132 x_133 x_1.n.Log.Entries) x_134 x_135 x_136 x_1.n.Votes x_1.n.Peers) x_141) x_126 _ hy_149) rfl rfl (.cons (.ptr rfl) (.cons (.c _) .nil)) rfl (.inl rfl) rfl rfl) rfl rfl ?_
    refine Ops.nil ?_
    refine Run.ops hm ?_
    refine Ops.p rfl ?_
    refine Ops.p rfl ?_
    refine Ops.nil ?_
    exact ⟨m_145, Nat.lt_succ_self m_145, _, _, (gh_pk [0, 8, 9] [0, 1, 2, 3, 4, 13320] hB rfl rfl rfl rfl), _, _, _, _, _, _, _, _, _, _, _, _, h, rfl, rfl⟩
  · skip
    refine Run.exit ?_
    obtain rfl := someO h
    have h := hk_145
    obtain rfl := someO h
    exact Ends.mkG (.inr rfl) rfl (gh_pk [] [0, 1, 2, 3, 4, 5] hB rfl rfl rfl rfl) rfl rfl
def slices_Index_int_l1 (N : Nat) (x_1 : (List Int)) (x_2 : Int) : Nat → Int → Option ((Int) ⊕ (Unit))
 | 0, _ => none
 | m + 1, x_150 =>
 (if (decide (x_150 < (x_1.length : Int))) = true then
 (at? x_1 x_150).bind fun x_160 =>
 (if (x_2 == x_160) = true then
 some (Sum.inl x_150)
 else
 slices_Index_int_l1 N x_1 x_2 m (w64 (x_150 + (1 : Int))))
 else
 some (Sum.inr ()))
def slices_Index_int_l1_r (N : Nat) (x_1 : (List Int)) (x_2 : Int) : (List Int) → Int → Option ((Int) ⊕ (Unit))
 | [], x_150 =>
 some (Sum.inr ())
 | hd :: tl, x_150 =>
 (some hd).bind fun x_160 =>
 (if (x_2 == x_160) = true then
 some (Sum.inl x_150)
 else
 slices_Index_int_l1_r N x_1 x_2 tl (w64 (x_150 + (1 : Int))))
theorem slices_Index_int_l1_rng (N : Nat) (x_1 : (List Int)) (x_2 : Int) (hx : x_1.length ≤ 1099511627776) : ∀ (d k m : Nat), x_1.length = k + d → d < m → slices_Index_int_l1 N x_1 x_2 m (k : Int) = slices_Index_int_l1_r N x_1 x_2 (x_1.drop k) (k : Int) := by
  intro d
  induction d with
  | zero =>
    intro k m hd hm
    obtain ⟨m, rfl⟩ : ∃ q, m = q + 1 := ⟨m - 1, by omega⟩
    rw [slices_Index_int_l1, if_neg (by simp; omega), List.drop_eq_nil_of_le (by omega), slices_Index_int_l1_r]
  | succ d ih =>
    intro k m hd hm
    obtain ⟨m, rfl⟩ : ∃ q, m = q + 1 := ⟨m - 1, by omega⟩
    have hk : k < x_1.length := by omega
    rw [slices_Index_int_l1, if_pos (by simp; omega), List.drop_eq_getElem_cons hk, slices_Index_int_l1_r]
    have h1 := at_lt hk
    have h2 := w64_succ (k := k) (by omega)
    have h3 := ih (k + 1) m
    simp only [h1, h2, h3 (by omega) (by omega)]
theorem slices_Index_int_l1_eq {N : Nat} (x_1 : (List Int)) (x_2 : Int) (hx : x_1.length ≤ 1099511627776) (hN : x_1.length < N) : slices_Index_int_l1 N x_1 x_2 N 0 = slices_Index_int_l1_r N x_1 x_2 x_1 0 := slices_Index_int_l1_rng N x_1 x_2 hx x_1.length 0 N (by omega) hN
def slices_Index_int (N : Nat) (x_1 : (List Int)) (x_2 : Int) : Option (Int) :=
 joinP (fun (v_146 : Unit) =>
 some (-1 : Int)) fun j_146 =>
 (slices_Index_int_l1 N x_1 x_2 N (0 : Int)).bind (Sum.elim (fun v_155 => some v_155) (fun (v_156 : Unit) => j_146 ()))
theorem sem_slices_Index_int (N : Nat) (x_1 : (List Int)) (x_2 : Int) (r : Int) (h : slices_Index_int N x_1 x_2 = some r) : Says Try.prog 149 [RO 3 (x_1.map encI), VI x_2] 0 [] (VI r) [] := by
  unfold slices_Index_int at h
  refine Says.of_run s149 Try.call149 rfl fun B hB => ?_
  have hm : B.m ≤ 1000 := by omega
  refine Run.seq ?_
  refine Run.ops hm ?_
  refine Ops.p rfl ?_
  refine Ops.nil ?_
  refine Run.seqO h (fun (v_146 : Unit) => []) (fun (v_146 : Unit) => []) (fun h => ?_) (fun v_146 h => ?_)
  · skip
    refine Run.seq ?_
    refine Run.ops hm ?_
    refine Ops.p rfl ?_
    refine Ops.st (s := 5112) (Ev.lnF rfl) rfl rfl ?_
    refine Ops.p rfl ?_
    refine Ops.nil ?_
    refine Run.block ?_
    obtain ⟨res_156, h, hk_156⟩ := bindO h
    refine Run.loop (n := N) (fun m_156 fr σ => ∃ (x_150 : Int), slices_Index_int_l1 N x_1 x_2 m_156 x_150 = some res_156 ∧ fr = [(0, RO 3 (x_1.map encI)), (1, VI x_2), (7, VI (x_1.length : Int)), (8, VI x_150)] ∧ σ = []) (gh_pk [0, 1, 7, 8] [] hB rfl rfl rfl rfl) ⟨_, h, rfl, rfl⟩ ?_
    rintro m_156 fr σ ⟨x_150, h, rfl, rfl⟩
    obtain _ | m_156 := m_156
    · rw [slices_Index_int_l1] at h; cases h
    rw [slices_Index_int_l1] at h
    refine Run.seq ?_
    refine Run.ops hm ?_
    refine Ops.p rfl ?_
    refine Ops.nil ?_
    refine Run.seq ?_
    refine Run.condO rfl h (fun g_159 h => ?_) (fun g_159 h => ?_)
    · skip
      refine Run.skip ?_
      refine Run.seq ?_
      refine Run.block ?_
      refine Run.seq ?_
      refine Run.ops hm ?_
      refine Ops.p rfl ?_
      refine Ops.p rfl ?_
      refine Ops.nil ?_
      refine Run.seq ?_
      refine Run.ops hm ?_
      refine Ops.p rfl ?_
      refine Ops.p rfl ?_
      refine Ops.p rfl ?_
      obtain ⟨x_160, hx_160, h⟩ := bindO h
      refine Ops.st (s := 17432) (Ev.iaF rfl rfl hx_160) rfl rfl ?_
      refine Ops.p rfl ?_
      refine Ops.p rfl ?_
      refine Ops.nil ?_
      refine Run.condO rfl h (fun g_161 h => ?_) (fun g_161 h => ?_)
      · skip
        refine Run.seq ?_
        refine Run.ops hm ?_
        refine Ops.p rfl ?_
        refine Ops.p rfl ?_
        refine Ops.nil ?_
        refine Run.ret ?_
        obtain rfl := someO h
        have h := hk_156
        replace h := inlO h
        obtain rfl := someO h
        exact Ends.mkG (.inl rfl) rfl (gh_pk [0] [] hB rfl rfl rfl rfl) rfl rfl
      · skip
        refine Run.skip ?_
        refine Run.ops hm ?_
        refine Ops.p rfl ?_
        refine Ops.p rfl ?_
        refine Ops.nil ?_
        exact ⟨m_156, Nat.lt_succ_self m_156, _, _, (gh_pk [0, 1, 7, 8] [] hB rfl rfl rfl rfl), _, h, rfl, rfl⟩
    · skip
      refine Run.exit ?_
      obtain rfl := someO h
      have h := hk_156
      replace h := inrO h
      exact ⟨_, _, (gh_pk [] [] hB rfl rfl rfl rfl), (), h, rfl, rfl⟩
  · skip
    refine Run.seq ?_
    refine Run.ops hm ?_
    refine Ops.p rfl ?_
    refine Ops.nil ?_
    refine Run.ret ?_
    obtain rfl := someO h
    exact Ends.mkG (.inl rfl) rfl (gh_pk [0] [] hB rfl rfl rfl rfl) rfl rfl
def slices_Contains_int (N : Nat) (x_1 : (List Int)) (x_2 : Int) : Option (Bool) :=
 (slices_Index_int N x_1 x_2).bind fun y_101 =>
 some (decide (y_101 ≥ (0 : Int)))
theorem sem_slices_Contains_int (N : Nat) (x_1 : (List Int)) (x_2 : Int) (r : Bool) (h : slices_Contains_int N x_1 x_2 = some r) : Says Try.prog 117 [RO 3 (x_1.map encI), VI x_2] 0 [] (VB r) [] := by
  unfold slices_Contains_int at h
  refine Says.of_run s117 Try.call117 rfl fun B hB => ?_
  have hm : B.m ≤ 1000 := by omega
  refine Run.seq ?_
  refine Run.ops hm ?_
  refine Ops.p rfl ?_
  refine Ops.nil ?_
  refine Run.seq ?_
  refine Run.ops hm ?_
  refine Ops.p rfl ?_
  refine Ops.p rfl ?_
  obtain ⟨y_101, hy_101, h⟩ := bindO h
  refine Ops.st (s := 5128) (Ev.call [] [] 0 (sem_slices_Index_int N x_1 x_2 _ hy_101) rfl rfl (.cons (.c _) (.cons (.c _) .nil)) rfl (.inl rfl) rfl rfl) rfl rfl ?_
  refine Ops.p rfl ?_
  refine Ops.p rfl ?_
  refine Ops.nil ?_
  refine Run.ret ?_
  obtain rfl := someO h
  exact Ends.mkG (.inl rfl) rfl (gh_pk [0] [] hB rfl rfl rfl rfl) rfl rfl
def impl_Most_l1 (N : Nat) (x_1 : (List Int)) (x_2 : (List Int)) : Nat → Int → Int → Option (Int)
 | 0, _, _ => none
 | m + 1, x_166, x_169 =>
 (if (decide (x_169 < (x_1.length : Int))) = true then
 (at? x_1 x_169).bind fun x_181 =>
 (slices_Contains_int N x_2 x_181).bind fun y_182 =>
 (if y_182 = true then
 impl_Most_l1 N x_1 x_2 m (w64 (x_166 + (1 : Int))) (w64 (x_169 + (1 : Int)))
 else
 impl_Most_l1 N x_1 x_2 m x_166 (w64 (x_169 + (1 : Int))))
 else
 some x_166)
def impl_Most_l1_r (N : Nat) (x_1 : (List Int)) (x_2 : (List Int)) : (List Int) → Int → Int → Option (Int)
 | [], x_166, x_169 =>
 some x_166
 | hd :: tl, x_166, x_169 =>
 (some hd).bind fun x_181 =>
 (slices_Contains_int N x_2 x_181).bind fun y_182 =>
 (if y_182 = true then
 impl_Most_l1_r N x_1 x_2 tl (w64 (x_166 + (1 : Int))) (w64 (x_169 + (1 : Int)))
 else
 impl_Most_l1_r N x_1 x_2 tl x_166 (w64 (x_169 + (1 : Int))))
theorem impl_Most_l1_rng (N : Nat) (x_1 : (List Int)) (x_2 : (List Int)) (hx : x_1.length ≤ 1099511627776) : ∀ (d k m : Nat) (x_166 : Int), x_1.length = k + d → d < m → impl_Most_l1 N x_1 x_2 m x_166 (k : Int) = impl_Most_l1_r N x_1 x_2 (x_1.drop k) x_166 (k : Int) := by
  intro d
  induction d with
  | zero =>
    intro k m x_166 hd hm
    obtain ⟨m, rfl⟩ : ∃ q, m = q + 1 := ⟨m - 1, by omega⟩
    rw [impl_Most_l1, if_neg (by simp; omega), List.drop_eq_nil_of_le (by omega), impl_Most_l1_r]
  | succ d ih =>
    intro k m x_166 hd hm
    obtain ⟨m, rfl⟩ : ∃ q, m = q + 1 := ⟨m - 1, by omega⟩
    have hk : k < x_1.length := by omega
    rw [impl_Most_l1, if_pos (by simp; omega), List.drop_eq_getElem_cons hk, impl_Most_l1_r]
    have h1 := at_lt hk
    have h2 := w64_succ (k := k) (by omega)
    have h3 := ih (k + 1) m
    simp only [h1, h2, h3 _ (by omega) (by omega)]
theorem impl_Most_l1_eq {N : Nat} (x_1 : (List Int)) (x_2 : (List Int)) (hx : x_1.length ≤ 1099511627776) (hN : x_1.length < N) (x_166 : Int) : impl_Most_l1 N x_1 x_2 N x_166 0 = impl_Most_l1_r N x_1 x_2 x_1 x_166 0 := impl_Most_l1_rng N x_1 x_2 hx x_1.length 0 N x_166 (by omega) hN
def impl_Most (N : Nat) (x_1 : (List Int)) (x_2 : (List Int)) : Option (Bool) :=
 joinP (fun (v_163 : Int) =>
 (impl_ConfOk N x_1).bind fun y_184 =>
 (if y_184 = true then
 some (decide ((w64 ((2 : Int) * v_163)) > (x_1.length : Int)))
 else
 some false)) fun j_163 =>
 (impl_Most_l1 N x_1 x_2 N (0 : Int) (0 : Int)).bind (fun (v_176 : Int) => j_163 v_176)
theorem sem_impl_Most (N : Nat) (x_1 : (List Int)) (x_2 : (List Int)) (r : Bool) (h : impl_Most N x_1 x_2 = some r) : Says Try.prog 118 [RO 3 (x_1.map encI), RO 3 (x_2.map encI)] 0 [] (VB r) [] := by
  unfold impl_Most at h
  refine Says.of_run s118 Try.call118 rfl fun B hB => ?_
  have hm : B.m ≤ 1000 := by omega
  refine Run.seq ?_
  refine Run.ops hm ?_
  refine Ops.p rfl ?_
  refine Ops.nil ?_
  refine Run.seq ?_
  refine Run.ops hm ?_
  refine Ops.p rfl ?_
  refine Ops.nil ?_
  refine Run.seqO h (fun (v_163 : Int) => [(0, RO 3 (x_1.map encI)), (5, VI v_163)]) (fun (v_163 : Int) => []) (fun h => ?_) (fun v_163 h => ?_)
  · skip
    refine Run.seq ?_
    refine Run.ops hm ?_
    refine Ops.p rfl ?_
    refine Ops.st (s := 9208) (Ev.lnF rfl) rfl rfl ?_
    refine Ops.p rfl ?_
    refine Ops.nil ?_
    refine Run.block ?_
    obtain ⟨res_176, h, hk_176⟩ := bindO h
    refine Run.loop (n := N) (fun m_176 fr σ => ∃ (x_166 : Int), ∃ (x_169 : Int), impl_Most_l1 N x_1 x_2 m_176 x_166 x_169 = some res_176 ∧ fr = [(0, RO 3 (x_1.map encI)), (1, RO 3 (x_2.map encI)), (5, VI x_166), (8, RO 3 (x_1.map encI)), (9, VI (x_1.length : Int)), (10, VI x_169)] ∧ σ = []) (gh_pk [0, 1, 5, 8, 9, 10] [] hB rfl rfl rfl rfl) ⟨_, _, h, rfl, rfl⟩ ?_
    rintro m_176 fr σ ⟨x_166, x_169, h, rfl, rfl⟩
    obtain _ | m_176 := m_176
    · rw [impl_Most_l1] at h; cases h
    rw [impl_Most_l1] at h
    refine Run.seq ?_
    refine Run.ops hm ?_
    refine Ops.p rfl ?_
    refine Ops.nil ?_
    refine Run.seq ?_
    refine Run.condO rfl h (fun g_179 h => ?_) (fun g_179 h => ?_)
    · skip
      refine Run.skip ?_
      refine Run.seq ?_
      refine Run.block ?_
      refine Run.seq ?_
      refine Run.ops hm ?_
      obtain ⟨x_181, hx_181, h⟩ := bindO h
      refine Ops.st (s := 17384) (Ev.iaF rfl rfl hx_181) rfl rfl ?_
      refine Ops.p rfl ?_
      refine Ops.p rfl ?_
      refine Ops.nil ?_
      refine Run.seq ?_
      refine Run.ops hm ?_
      refine Ops.p rfl ?_
      refine Ops.p rfl ?_
      obtain ⟨y_182, hy_182, h⟩ := bindO h
      refine Ops.st (s := 21512) (Ev.call [] [] 0 (sem_slices_Contains_int N x_2 x_181 _ hy_182) rfl rfl (.cons (.c _) (.cons (.c _) .nil)) rfl (.inl rfl) rfl rfl) rfl rfl ?_
      refine Ops.nil ?_
      refine Run.condO rfl h (fun g_183 h => ?_) (fun g_183 h => ?_)
      · skip
        refine Run.ops hm ?_
        refine Ops.p rfl ?_
        refine Ops.p rfl ?_
        refine Ops.p rfl ?_
        refine Ops.nil ?_
        refine Run.ops hm ?_
        refine Ops.p rfl ?_
        refine Ops.p rfl ?_
        refine Ops.nil ?_
        exact ⟨m_176, Nat.lt_succ_self m_176, _, _, (gh_pk [0, 1, 5, 8, 9, 10] [] hB rfl rfl rfl rfl), _, _, h, rfl, rfl⟩
      · skip
        refine Run.skip ?_
        refine Run.ops hm ?_
        refine Ops.p rfl ?_
        refine Ops.p rfl ?_
        refine Ops.nil ?_
        exact ⟨m_176, Nat.lt_succ_self m_176, _, _, (gh_pk [0, 1, 5, 8, 9, 10] [] hB rfl rfl rfl rfl), _, _, h, rfl, rfl⟩
    · skip
      refine Run.exit ?_
      obtain rfl := someO h
      have h := hk_176
      exact ⟨_, _, (gh_pk [0, 5] [] hB rfl rfl rfl rfl), x_166, h, rfl, rfl⟩
  · skip
    refine Run.seq ?_
    refine Run.ops hm ?_
    refine Ops.p rfl ?_
    obtain ⟨y_184, hy_184, h⟩ := bindO h
    refine Ops.st (s := 33784) (Ev.call [] [] 0 (sem_impl_ConfOk N x_1 _ hy_184) rfl rfl (.cons (.c _) .nil) rfl (.inl rfl) rfl rfl) rfl rfl ?_
    refine Ops.p rfl ?_
    refine Ops.askO (x := .t 22) rfl h (fun g_185 h => ?_) (fun g_185 h => ?_)
    · skip
      refine Ops.gp rfl g_185 rfl ?_
      refine Ops.gp rfl g_185 rfl ?_
      refine Ops.gp rfl g_185 rfl ?_
      refine Ops.gs (s := 33864) rfl g_185 (Ev.lnF rfl) rfl rfl ?_
      refine Ops.gp rfl g_185 rfl ?_
      refine Ops.st (s := 33896) (.pkT rfl g_185 rfl) rfl rfl ?_
      refine Ops.p rfl ?_
      refine Ops.nil ?_
      refine Run.ret ?_
      obtain rfl := someO h
      exact Ends.mkG (.inl rfl) rfl (gh_pk [0] [] hB rfl rfl rfl rfl) rfl rfl
    · skip
      refine Ops.gn rfl g_185 ?_
      refine Ops.gn rfl g_185 ?_
      refine Ops.gn rfl g_185 ?_
      refine Ops.gn rfl g_185 ?_
      refine Ops.gn rfl g_185 ?_
      refine Ops.st (s := 33896) (.pkF rfl g_185 rfl) rfl rfl ?_
      refine Ops.p rfl ?_
      refine Ops.nil ?_
      refine Run.ret ?_
      obtain rfl := someO h
      exact Ends.mkG (.inl rfl) rfl (gh_pk [0] [] hB rfl rfl rfl rfl) rfl rfl
def impl_lastConf_l1 (N : Nat) (x_1 : Log) : Nat → Int → Option ((Int) ⊕ (Unit))
 | 0, _ => none
 | m + 1, x_159 =>
 (if (decide (x_159 ≥ (0 : Int))) = true then
 (at? x_1.Entries x_159).bind fun x_176 =>
 (if (x_176.Kind == (2 : Int)) = true then
 some (Sum.inl (w64 ((w64 (x_1.Start + x_159)) + (1 : Int))))
 else
 impl_lastConf_l1 N x_1 m (w64 (x_159 - (1 : Int))))
 else
 some (Sum.inr ()))
def impl_lastConf (N : Nat) (x_1 : Log) : Option (Int) :=
 joinP (fun (v_158 : Unit) =>
 some (0 : Int)) fun j_158 =>
 (impl_lastConf_l1 N x_1 N (w64 ((x_1.Entries.length : Int) - (1 : Int)))).bind (Sum.elim (fun v_169 => some v_169) (fun (v_170 : Unit) => j_158 ()))
theorem sem_impl_lastConf (N : Nat) (x_1 : Log) (r : Int) (h : impl_lastConf N x_1 = some r) : Says Try.prog 152 [.agg [VI x_1.Start, VI x_1.StartTerm, RO 48 (x_1.Entries.map encEntry)]] 0 [] (VI r) [] := by
  unfold impl_lastConf at h
  refine Says.of_run s152 Try.call152 rfl fun B hB => ?_
  have hm : B.m ≤ 1000 := by omega
  refine Run.seq ?_
  refine Run.ops hm ?_
  refine Ops.st (s := 1000) (.bx rfl rfl) rfl rfl ?_
  refine Ops.p rfl ?_
  refine Ops.nil ?_
  refine Run.seqO h (fun (v_158 : Unit) => []) (fun (v_158 : Unit) => []) (fun h => ?_) (fun v_158 h => ?_)
  · skip
    refine Run.seq ?_
    refine Run.ops hm ?_
    refine Ops.p rfl ?_
    refine Ops.p rfl ?_
    refine Ops.st (s := 5128) (Ev.lnF rfl) rfl rfl ?_
    refine Ops.p rfl ?_
    refine Ops.p rfl ?_
    refine Ops.nil ?_
    refine Run.block ?_
    obtain ⟨res_170, h, hk_170⟩ := bindO h
    refine Run.loop (n := N) (fun m_170 fr σ => ∃ (x_159 : Int), impl_lastConf_l1 N x_1 m_170 x_159 = some res_170 ∧ fr = [(1, .ptr 0 0), (3, VI x_159)] ∧ σ = [(0, .box [VI x_1.Start, VI x_1.StartTerm, RO 48 (x_1.Entries.map encEntry)])]) (gh_pk [1, 3] [1000] hB rfl rfl rfl rfl) ⟨_, h, rfl, rfl⟩ ?_
    rintro m_170 fr σ ⟨x_159, h, rfl, rfl⟩
    obtain _ | m_170 := m_170
    · rw [impl_lastConf_l1] at h; cases h
    rw [impl_lastConf_l1] at h
    refine Run.seq ?_
    refine Run.seq ?_
    refine Run.ops hm ?_
    refine Ops.p rfl ?_
    refine Ops.p rfl ?_
    refine Ops.nil ?_
    refine Run.condO rfl h (fun g_173 h => ?_) (fun g_173 h => ?_)
    · skip
      refine Run.skip ?_
      refine Run.seq ?_
      refine Run.block ?_
      refine Run.seq ?_
      refine Run.ops hm ?_
      refine Ops.p rfl ?_
      refine Ops.p rfl ?_
      refine Ops.p rfl ?_
      obtain ⟨x_176, hx_176, h⟩ := bindO h
      refine Ops.st (s := 17432) (Ev.iaF rfl rfl hx_176) rfl rfl ?_
      refine Ops.p rfl ?_
      refine Ops.p rfl ?_
      refine Ops.p rfl ?_
      refine Ops.nil ?_
      refine Run.condO rfl h (fun g_177 h => ?_) (fun g_177 h => ?_)
      · skip
        refine Run.seq ?_
        refine Run.ops hm ?_
        refine Ops.p rfl ?_
        refine Ops.p rfl ?_
        refine Ops.p rfl ?_
        refine Ops.p rfl ?_
        refine Ops.p rfl ?_
        refine Ops.p rfl ?_
        refine Ops.nil ?_
        refine Run.ret ?_
        obtain rfl := someO h
        have h := hk_170
        replace h := inlO h
        obtain rfl := someO h
        exact Ends.mkG (.inl rfl) rfl (gh_pk [0] [] hB rfl rfl rfl rfl) rfl rfl
      · skip
        refine Run.skip ?_
        refine Run.ops hm ?_
        refine Ops.p rfl ?_
        refine Ops.p rfl ?_
        refine Ops.p rfl ?_
        refine Ops.nil ?_
        exact ⟨m_170, Nat.lt_succ_self m_170, _, _, (gh_pk [1, 3] [0] hB rfl rfl rfl rfl), _, h, rfl, rfl⟩
    · skip
      refine Run.exit ?_
      obtain rfl := someO h
      have h := hk_170
      replace h := inrO h
      exact ⟨_, _, (gh_pk [] [] hB rfl rfl rfl rfl), (), h, rfl, rfl⟩
  · skip
    refine Run.seq ?_
    refine Run.ops hm ?_
    refine Ops.p rfl ?_
    refine Ops.nil ?_
    refine Run.ret ?_
    obtain rfl := someO h
    exact Ends.mkG (.inl rfl) rfl (gh_pk [0] [] hB rfl rfl rfl rfl) rfl rfl
def core_commit_l2 (N : Nat) (x_1 : Tcore) (x_1052 : Int) : Nat → Int → (List Int) → Option ((List Int))
 | 0, _, _ => none
 | m + 1, x_1328, x_1344 =>
 (if (decide (x_1328 < ((x_1.n.Peers.length : Nat) : Int))) = true then
 (at? x_1.n.Peers x_1328).bind fun x_1356 =>
 (if (decide (x_1356.Match ≥ x_1052)) = true then
 (cat? x_1344 ([x_1356.Id] : List Int)).bind fun x_1358 =>
 core_commit_l2 N x_1 x_1052 m (w64 (x_1328 + (1 : Int))) x_1358
 else
 core_commit_l2 N x_1 x_1052 m (w64 (x_1328 + (1 : Int))) x_1344)
 else
 some x_1344)
def core_commit_l1 (N : Nat) (x_1 : Tcore) : Nat → Int → Option (Int)
 | 0, _ => none
 | m + 1, x_1052 =>
 (if (decide (x_1052 > x_1.n.Commit)) = true then
 joinP (fun (v_1291 : Unit) =>
 core_commit_l1 N x_1 m (w64 (x_1052 - (1 : Int)))) fun j_1291 =>
 joinP (fun (v_1325 : (List Int)) =>
 (impl_LogTerm N x_1.n.Log x_1052).bind fun y_1359 =>
 (if (y_1359 == x_1.n.Term) = true then
 (impl_ConfOf N x_1.n).bind fun y_1361 =>
 (impl_Most N y_1361 v_1325).bind fun y_1362 =>
 (if y_1362 = true then
 some x_1052
 else
 j_1291 ())
 else
 j_1291 ())) fun j_1325 =>
 (core_commit_l2 N x_1 x_1052 N (0 : Int) ([x_1.n.Id] : List Int)).bind (fun (v_1351 : (List Int)) => j_1325 v_1351)
 else
 some x_1.n.Commit)
def core_commit (N : Nat) (x_1 : Tcore) : Option (Tcore) :=
 joinP (fun (v_1049 : Int) =>
 (if (x_1.n.Role == (2 : Int)) = true then
 (impl_ConfOf N (Node.mk x_1.n.Id x_1.n.Term x_1.n.Vote x_1.n.Role x_1.n.Lead x_1.n.Conf x_1.n.Log v_1049 x_1.n.Clock x_1.n.Limit x_1.n.Votes x_1.n.Peers)).bind fun y_1365 =>
 (slices_Contains_int N y_1365 x_1.n.Id).bind fun y_1366 =>
 (if (!y_1366) = true then
 (impl_lastConf N x_1.n.Log).bind fun y_1368 =>
 (if (decide (y_1368 ≤ v_1049)) = true then
 some (Tcore.mk (Node.mk x_1.n.Id x_1.n.Term x_1.n.Vote (0 : Int) (0 : Int) x_1.n.Conf x_1.n.Log v_1049 x_1.n.Clock x_1.n.Limit x_1.n.Votes ([])) x_1.out)
 else
 some (Tcore.mk (Node.mk x_1.n.Id x_1.n.Term x_1.n.Vote x_1.n.Role x_1.n.Lead x_1.n.Conf x_1.n.Log v_1049 x_1.n.Clock x_1.n.Limit x_1.n.Votes x_1.n.Peers) x_1.out))
 else
 some (Tcore.mk (Node.mk x_1.n.Id x_1.n.Term x_1.n.Vote x_1.n.Role x_1.n.Lead x_1.n.Conf x_1.n.Log v_1049 x_1.n.Clock x_1.n.Limit x_1.n.Votes x_1.n.Peers) x_1.out))
 else
 some (Tcore.mk (Node.mk x_1.n.Id x_1.n.Term x_1.n.Vote x_1.n.Role x_1.n.Lead x_1.n.Conf x_1.n.Log v_1049 x_1.n.Clock x_1.n.Limit x_1.n.Votes x_1.n.Peers) x_1.out))) fun j_1049 =>
 (impl_last N x_1.n.Log).bind fun y_1051 =>
 (core_commit_l1 N x_1 N y_1051).bind (fun (v_1215 : Int) => j_1049 v_1215)
theorem sem_core_commit (N : Nat) (x_1 : Tcore) (r : Tcore) (h : core_commit N x_1 = some r) : Says Try.prog 128 [.ptr 0 0] 6 [(0, .box [VI x_1.n.Id, VI x_1.n.Term, VI x_1.n.Vote, VI x_1.n.Role, VI x_1.n.Lead, .sl 1 3 0 x_1.n.Conf.length, VI x_1.n.Log.Start, VI x_1.n.Log.StartTerm, .sl 2 48 0 x_1.n.Log.Entries.length, VI x_1.n.Commit, VI x_1.n.Clock, VI x_1.n.Limit, .sl 3 3 0 x_1.n.Votes.length, .sl 4 172 0 x_1.n.Peers.length, .sl 5 168 0 x_1.out.length]), (1, .vec 3 (x_1.n.Conf.map encI)), (2, .vec 48 (x_1.n.Log.Entries.map encEntry)), (3, .vec 3 (x_1.n.Votes.map encI)), (4, .vec 172 (x_1.n.Peers.map encPeer)), (5, .vec 168 (x_1.out.map (encMessage true)))] (.tup []) [(0, .box [VI r.n.Id, VI r.n.Term, VI r.n.Vote, VI r.n.Role, VI r.n.Lead, .sl 6 3 0 r.n.Conf.length, VI r.n.Log.Start, VI r.n.Log.StartTerm, .sl 7 48 0 r.n.Log.Entries.length, VI r.n.Commit, VI r.n.Clock, VI r.n.Limit, .sl 8 3 0 r.n.Votes.length, .sl 9 172 0 r.n.Peers.length, .sl 10 168 0 r.out.length]), (1, .gone), (2, .gone), (3, .gone), (4, .gone), (5, .gone), (6, .vec 3 (r.n.Conf.map encI)), (7, .vec 48 (r.n.Log.Entries.map encEntry)), (8, .vec 3 (r.n.Votes.map encI)), (9, .vec 172 (r.n.Peers.map encPeer)), (10, .vec 168 (r.out.map (encMessage true)))] := by
  unfold core_commit at h
  refine Says.of_run s128 Try.call128 rfl fun B hB => ?_
  have hm : B.m ≤ 1000 := by omega
  refine Run.seq ?_
  refine Run.ops hm ?_
  refine Ops.p rfl ?_
  refine Ops.p rfl ?_
  refine Ops.p rfl ?_
  refine Ops.p rfl ?_
  refine Ops.nil ?_
  refine Run.seqO h (fun (v_1049 : Int) => [(2, .ptr 0 0)]) (fun (v_1049 : Int) => [(0, .box [VI x_1.n.Id, VI x_1.n.Term, VI x_1.n.Vote, VI x_1.n.Role, VI x_1.n.Lead, .sl 1 3 0 x_1.n.Conf.length, VI x_1.n.Log.Start, VI x_1.n.Log.StartTerm, .sl 2 48 0 x_1.n.Log.Entries.length, VI v_1049, VI x_1.n.Clock, VI x_1.n.Limit, .sl 3 3 0 x_1.n.Votes.length, .sl 4 172 0 x_1.n.Peers.length, .sl 5 168 0 x_1.out.length]), (1, .vec 3 (x_1.n.Conf.map encI)), (2, .vec 48 (x_1.n.Log.Entries.map encEntry)), (3, .vec 3 (x_1.n.Votes.map encI)), (4, .vec 172 (x_1.n.Peers.map encPeer)), (5, .vec 168 (x_1.out.map (encMessage true)))]) (fun h => ?_) (fun v_1049 h => ?_)
  · skip
    refine Run.seq ?_
    refine Run.ops hm ?_
    refine Ops.p rfl ?_
    refine Ops.p rfl ?_
    refine Ops.p rfl ?_
    refine Ops.p rfl ?_
    obtain ⟨y_1051, hy_1051, h⟩ := bindO h
    refine Ops.st (s := 5160) (Ev.call [] [2] 0 (sem_impl_last N x_1.n.Log _ hy_1051) rfl rfl (.cons (.agg (.cons (.c _) (.cons (.c _) (.cons (.borrow rfl (by decide) (lendW (fun _ => rfl) _ rfl)) .nil)))) .nil) rfl (.inr ⟨rfl, ownL_root trivial⟩) rfl rfl) rfl rfl ?_
    refine Ops.p rfl ?_
    refine Ops.nil ?_
    refine Run.block ?_
    obtain ⟨res_1215, h, hk_1215⟩ := bindO h
    refine Run.loop (n := N) (fun m_1215 fr σ => ∃ (x_1052 : Int), core_commit_l1 N x_1 m_1215 x_1052 = some res_1215 ∧ fr = [(2, .ptr 0 0), (3, VI x_1052)] ∧ σ = [(0, .box [VI x_1.n.Id, VI x_1.n.Term, VI x_1.n.Vote, VI x_1.n.Role, VI x_1.n.Lead, .sl 1 3 0 x_1.n.Conf.length, VI x_1.n.Log.Start, VI x_1.n.Log.StartTerm, .sl 2 48 0 x_1.n.Log.Entries.length, VI x_1.n.Commit, VI x_1.n.Clock, VI x_1.n.Limit, .sl 3 3 0 x_1.n.Votes.length, .sl 4 172 0 x_1.n.Peers.length, .sl 5 168 0 x_1.out.length]), (1, .vec 3 (x_1.n.Conf.map encI)), (2, .vec 48 (x_1.n.Log.Entries.map encEntry)), (3, .vec 3 (x_1.n.Votes.map encI)), (4, .vec 172 (x_1.n.Peers.map encPeer)), (5, .vec 168 (x_1.out.map (encMessage true)))]) (gh_pk [2, 3] [0, 1, 2, 3, 4, 5] hB rfl rfl rfl rfl) ⟨_, h, rfl, rfl⟩ ?_
    rintro m_1215 fr σ ⟨x_1052, h, rfl, rfl⟩
    obtain _ | m_1215 := m_1215
    · rw [core_commit_l1] at h; cases h
    rw [core_commit_l1] at h
    refine Run.seq ?_
    refine Run.seq ?_
    refine Run.ops hm ?_
    refine Ops.p rfl ?_
    refine Ops.p rfl ?_
    refine Ops.p rfl ?_
    refine Ops.p rfl ?_
    refine Ops.p rfl ?_
    refine Ops.p rfl ?_
    refine Ops.nil ?_
    refine Run.condO rfl h (fun g_1218 h => ?_) (fun g_1218 h => ?_)
    · skip
      refine Run.skip ?_
      refine Run.seqO h (fun (v_1291 : Unit) => [(2, .ptr 0 0), (3, VI x_1052)]) (fun (v_1291 : Unit) => [(0, .box [VI x_1.n.Id, VI x_1.n.Term, VI x_1.n.Vote, VI x_1.n.Role, VI x_1.n.Lead, .sl 1 3 0 x_1.n.Conf.length, VI x_1.n.Log.Start, VI x_1.n.Log.StartTerm, .sl 2 48 0 x_1.n.Log.Entries.length, VI x_1.n.Commit, VI x_1.n.Clock, VI x_1.n.Limit, .sl 3 3 0 x_1.n.Votes.length, .sl 4 172 0 x_1.n.Peers.length, .sl 5 168 0 x_1.out.length]), (1, .vec 3 (x_1.n.Conf.map encI)), (2, .vec 48 (x_1.n.Log.Entries.map encEntry)), (3, .vec 3 (x_1.n.Votes.map encI)), (4, .vec 172 (x_1.n.Peers.map encPeer)), (5, .vec 168 (x_1.out.map (encMessage true)))]) (fun h => ?_) (fun v_1291 h => ?_)
      · skip
        refine Run.block ?_
        refine Run.seq ?_
        refine Run.ops hm ?_
        refine Ops.p rfl ?_
        refine Ops.p rfl ?_
        refine Ops.p rfl ?_
        refine Ops.p rfl ?_
        refine Ops.st (s := 17448) (Ev.bsW (ys := ([x_1.n.Id] : List Int)) (f := encI) rfl (.cons (.c _) .nil) rfl rfl rfl rfl rfl) rfl rfl ?_
        refine Ops.p rfl ?_
        refine Ops.nil ?_
        refine Run.seqO h (fun (v_1325 : (List Int)) => [(2, .ptr 0 0), (3, VI x_1052), (4, .sl 6 3 0 v_1325.length)]) (fun (v_1325 : (List Int)) => [(0, .box [VI x_1.n.Id, VI x_1.n.Term, VI x_1.n.Vote, VI x_1.n.Role, VI x_1.n.Lead, .sl 1 3 0 x_1.n.Conf.length, VI x_1.n.Log.Start, VI x_1.n.Log.StartTerm, .sl 2 48 0 x_1.n.Log.Entries.length, VI x_1.n.Commit, VI x_1.n.Clock, VI x_1.n.Limit, .sl 3 3 0 x_1.n.Votes.length, .sl 4 172 0 x_1.n.Peers.length, .sl 5 168 0 x_1.out.length]), (1, .vec 3 (x_1.n.Conf.map encI)), (2, .vec 48 (x_1.n.Log.Entries.map encEntry)), (3, .vec 3 (x_1.n.Votes.map encI)), (4, .vec 172 (x_1.n.Peers.map encPeer)), (5, .vec 168 (x_1.out.map (encMessage true))), (6, .vec 3 (v_1325.map encI))]) (fun h => ?_) (fun v_1325 h => ?_)
        · skip
          refine Run.seq ?_
          refine Run.ops hm ?_
          refine Ops.p rfl ?_
          refine Ops.p rfl ?_
          refine Ops.p rfl ?_
          refine Ops.p rfl ?_
          refine Ops.p rfl ?_
          refine Ops.p rfl ?_
          refine Ops.nil ?_
          refine Run.block ?_
          obtain ⟨res_1351, h, hk_1351⟩ := bindO h
          refine Run.loop (n := N) (fun m_1351 fr σ => ∃ (x_1328 : Int), ∃ (x_1344 : (List Int)), core_commit_l2 N x_1 x_1052 m_1351 x_1328 x_1344 = some res_1351 ∧ fr = [(2, .ptr 0 0), (3, VI x_1052), (4, .sl 6 3 0 x_1344.length), (31, .sl 4 172 0 x_1.n.Peers.length), (32, VI ((x_1.n.Peers.length : Nat) : Int)), (33, VI x_1328)] ∧ σ = [(0, .box [VI x_1.n.Id, VI x_1.n.Term, VI x_1.n.Vote, VI x_1.n.Role, VI x_1.n.Lead, .sl 1 3 0 x_1.n.Conf.length, VI x_1.n.Log.Start, VI x_1.n.Log.StartTerm, .sl 2 48 0 x_1.n.Log.Entries.length, VI x_1.n.Commit, VI x_1.n.Clock, VI x_1.n.Limit, .sl 3 3 0 x_1.n.Votes.length, .sl 4 172 0 x_1.n.Peers.length, .sl 5 168 0 x_1.out.length]), (1, .vec 3 (x_1.n.Conf.map encI)), (2, .vec 48 (x_1.n.Log.Entries.map encEntry)), (3, .vec 3 (x_1.n.Votes.map encI)), (4, .vec 172 (x_1.n.Peers.map encPeer)), (5, .vec 168 (x_1.out.map (encMessage true))), (6, .vec 3 (x_1344.map encI))]) (gh_pk [2, 3, 4, 31, 32, 33] [0, 1, 2, 3, 4, 5, 17448] hB rfl rfl rfl rfl) ⟨_, _, h, rfl, rfl⟩ ?_
          rintro m_1351 fr σ ⟨x_1328, x_1344, h, rfl, rfl⟩
          obtain _ | m_1351 := m_1351
          · rw [core_commit_l2] at h; cases h
          rw [core_commit_l2] at h
          refine Run.seq ?_
          refine Run.ops hm ?_
          refine Ops.p rfl ?_
          refine Ops.nil ?_
          refine Run.seq ?_
          refine Run.condO rfl h (fun g_1354 h => ?_) (fun g_1354 h => ?_)
          · skip
            refine Run.skip ?_
            refine Run.seq ?_
            refine Run.block ?_
            refine Run.seq ?_
            refine Run.ops hm ?_
            obtain ⟨x_1356, hx_1356, h⟩ := bindO h
            refine Ops.st (s := 29672) (Ev.iaW rfl rfl rfl hx_1356) rfl rfl ?_
            refine Ops.st (s := 29688) (Ev.ldE (f := encPeer) rfl rfl (at_some hx_1356).2 rfl rfl rfl) rfl rfl ?_
            refine Ops.st (s := 29704) (.al rfl rfl) rfl rfl ?_
            refine Ops.s0 (s := 29720) (.sto rfl rfl rfl rfl rfl rfl) rfl rfl ?_
            refine Ops.nil ?_
            refine Run.seq ?_
            refine Run.ops hm ?_
            refine Ops.p rfl ?_
            refine Ops.p rfl ?_
            refine Ops.p rfl ?_
            refine Ops.p rfl ?_
            refine Ops.nil ?_
            refine Run.condO rfl h (fun g_1357 h => ?_) (fun g_1357 h => ?_)
            · skip
              refine Run.ops hm ?_
              refine Ops.p rfl ?_
              refine Ops.p rfl ?_
              refine Ops.p rfl ?_
              refine Ops.st (s := 37912) (Ev.bsW (ys := ([x_1356.Id] : List Int)) (f := encI) rfl (.cons (.c _) .nil) rfl rfl rfl rfl rfl) rfl rfl ?_
              obtain ⟨x_1358, hx_1358, h⟩ := bindO h
              refine Ops.st (s := 37928) (Ev.apW (f := encI) (ontoW rfl rfl rfl) (addsW rfl rfl rfl (fun _ => rfl)) rfl bt3 rfl hx_1358) rfl rfl ?_
              refine Ops.p rfl ?_
              refine Ops.nil ?_
              refine Run.ops hm ?_
              refine Ops.p rfl ?_
              refine Ops.p rfl ?_
              refine Ops.nil ?_
              exact ⟨m_1351, Nat.lt_succ_self m_1351, _, _, (gh_pk [2, 3, 4, 31, 32, 33] [0, 1, 2, 3, 4, 5, 37928] hB rfl rfl rfl rfl), _, _, h, rfl, rfl⟩
            · skip
              refine Run.skip ?_
              refine Run.ops hm ?_
              refine Ops.p rfl ?_
              refine Ops.p rfl ?_
              refine Ops.nil ?_
              exact ⟨m_1351, Nat.lt_succ_self m_1351, _, _, (gh_pk [2, 3, 4, 31, 32, 33] [0, 1, 2, 3, 4, 5, 6] hB rfl rfl rfl rfl), _, _, h, rfl, rfl⟩
          · skip
            refine Run.exit ?_
            obtain rfl := someO h
            have h := hk_1351
            exact ⟨_, _, (gh_pk [2, 3, 4] [0, 1, 2, 3, 4, 5, 6] hB rfl rfl rfl rfl), x_1344, h, rfl, rfl⟩
        · skip
          refine Run.seq ?_
          refine Run.draw hm hmix ?_
          refine OpsD.p rfl ?_
          refine OpsD.p rfl ?_
          refine OpsD.p rfl ?_
          refine OpsD.p rfl ?_
          refine OpsD.p rfl ?_
          obtain ⟨y_1359, hy_1359, h⟩ := bindO h
          refine OpsD.st (s := 46136) (Ev.call [] [2] 0 (sem_impl_LogTerm N x_1.n.Log x_1052 _ hy_1359) rfl rfl (.cons (.agg (.cons (.c _) (.cons (.c _) (.cons (.borrow rfl (by decide) (lendW (fun _ => rfl) _ rfl)) .nil)))) (.cons (.c _) .nil)) rfl (.inr ⟨rfl, ownL_root trivial⟩) rfl rfl) rfl rfl ?_
          refine OpsD.p rfl ?_
          refine OpsD.p rfl ?_
          refine OpsD.p rfl ?_
          refine OpsD.p rfl ?_
          refine OpsD.p rfl ?_
          refine OpsD.p rfl ?_
          refine OpsD.askO (x := .t 58) rfl h (fun g_1360 h => ?_) (fun g_1360 h => ?_)
          · skip
            refine OpsD.gp rfl g_1360 rfl ?_
            refine OpsD.gp rfl g_1360 rfl ?_
            refine OpsD.gp rfl g_1360 rfl ?_
            obtain ⟨y_1361, hy_1361, h⟩ := bindO h
            refine OpsD.gs (s := 46296) rfl g_1360 (Ev.call [] [1, 2, 3, 4] 1 (sem_impl_ConfOf N x_1.n _ hy_1361) rfl rfl (.cons (.agg (.cons (.c _) (.cons (.c _) (.cons (.c _) (.cons (.c _) (.cons (.c _) (.cons (.borrow rfl (by decide) (lendW (fun _ => rfl) _ rfl)) (.cons (.c _) (.cons (.c _) (.cons (.borrow rfl (by decide) (lendW (fun _ => rfl) _ rfl)) (.cons (.c _) (.cons (.c _) (.cons (.c _) (.cons (.borrow rfl (by decide) (lendW (fun _ => rfl) _ rfl)) (.cons (.borrow rfl (by decide) (lendW (fun _ => rfl) _ rfl)) .nil))))))))))))))) .nil) rfl (.inr ⟨rfl, ownL_root ⟨own_rows (fun _ => rfl) _, trivial⟩⟩) rfl rfl) rfl rfl ?_
            refine OpsD.gp rfl g_1360 rfl ?_
            obtain ⟨y_1362, hy_1362, h⟩ := bindO h
            refine OpsD.gs (s := 46328) rfl g_1360 (Ev.call [] [46296, 6] 0 (sem_impl_Most N y_1361 v_1325 _ hy_1362) rfl rfl (.cons (.borrow rfl (by decide) (lendW (fun _ => rfl) _ rfl)) (.cons (.borrow rfl (by decide) (lendW (fun _ => rfl) _ rfl)) .nil)) rfl (.inr ⟨rfl, ownL_root trivial⟩) rfl rfl) rfl rfl ?_
            refine OpsD.st (s := 46344) (.pkT rfl g_1360 rfl) rfl rfl ?_
            refine OpsD.nil ⟨by kernel_rfl, ?_⟩
            refine Run.condO rfl h (fun g_1363 h => ?_) (fun g_1363 h => ?_)
            · skip
              refine Run.seq ?_
              refine Run.ops hm ?_
              refine Ops.p rfl ?_
              refine Ops.p rfl ?_
              refine Ops.p rfl ?_
              refine Ops.p rfl ?_
              refine Ops.s0 (s := 50216) (.sto rfl rfl rfl rfl rfl rfl) rfl rfl ?_
              refine Ops.nil ?_
              refine Run.exit ?_
              obtain rfl := someO h
              have h := hk_1215
              exact ⟨_, _, (gh_pk [2] [0, 1, 2, 3, 4, 5] hB rfl rfl rfl rfl), x_1052, h, rfl, rfl⟩
            · skip
              refine Run.skip ?_
              exact ⟨_, _, (gh_pk [2, 3] [0, 1, 2, 3, 4, 5] hB rfl rfl rfl rfl), (), h, rfl, rfl⟩
          · skip
            refine OpsD.gn rfl g_1360 ?_
            refine OpsD.gn rfl g_1360 ?_
            refine OpsD.gn rfl g_1360 ?_
            refine OpsD.gn rfl g_1360 ?_
            refine OpsD.gn rfl g_1360 ?_
            refine OpsD.gn rfl g_1360 ?_
            refine OpsD.st (s := 46344) (.pkF rfl g_1360 rfl) rfl rfl ?_
            refine OpsD.nil ⟨by kernel_rfl, ?_⟩
            refine Run.condF rfl rfl ?_
            refine Run.skip ?_
            exact ⟨_, _, (gh_pk [2, 3] [0, 1, 2, 3, 4, 5] hB rfl rfl rfl rfl), (), h, rfl, rfl⟩
      · skip
        refine Run.ops hm ?_
        refine Ops.p rfl ?_
        refine Ops.p rfl ?_
        refine Ops.p rfl ?_
        refine Ops.nil ?_
        exact ⟨m_1215, Nat.lt_succ_self m_1215, _, _, (gh_pk [2, 3] [0, 1, 2, 3, 4, 5] hB rfl rfl rfl rfl), _, h, rfl, rfl⟩
    · skip
      refine Run.exit ?_
      obtain rfl := someO h
      have h := hk_1215
      exact ⟨_, _, (gh_pk [2] [0, 1, 2, 3, 4, 5] hB rfl rfl rfl rfl), x_1.n.Commit, h, rfl, rfl⟩
  · skip
    refine Run.seq ?_
    refine Run.draw hm hmix ?_
    refine OpsD.p rfl ?_
    refine OpsD.p rfl ?_
    refine OpsD.p rfl ?_
    refine OpsD.p rfl ?_
    refine OpsD.p rfl ?_
    refine OpsD.p rfl ?_
    refine OpsD.askO (x := .t 75) rfl h (fun g_1364 h => ?_) (fun g_1364 h => ?_)
    · skip
      refine OpsD.gp rfl g_1364 rfl ?_
      refine OpsD.gp rfl g_1364 rfl ?_
      refine OpsD.gp rfl g_1364 rfl ?_
      obtain ⟨y_1365, hy_1365, h⟩ := bindO h
      refine OpsD.gs (s := 54392) rfl g_1364 (Ev.call [] [1, 2, 3, 4] 1 (sem_impl_ConfOf N (Node.mk x_1.n.Id x_1.n.Term x_1.n.Vote x_1.n.Role x_1.n.Lead x_1.n.Conf x_1.n.Log v_1049 x_1.n.Clock x_1.n.Limit x_1.n.Votes x_1.n.Peers) _ hy_1365) rfl rfl (.cons (.agg (.cons (.c _) (.cons (.c _) (.cons (.c _) (.cons (.c _) (.cons (.c _) (.cons (.borrow rfl (by decide) (lendW (fun _ => rfl) _ rfl)) (.cons (.c _) (.cons (.c _) (.cons (.borrow rfl (by decide) (lendW (fun _ => rfl) _ rfl)) (.cons (.c _) (.cons (.c _) (.cons (.c _) (.cons (.borrow rfl (by decide) (lendW (fun _ => rfl) _ rfl)) (.cons (.borrow rfl (by decide) (lendW (fun _ => rfl) _ rfl)) .nil))))))))))))))) .nil) rfl (.inr ⟨rfl, ownL_root ⟨own_rows (fun _ => rfl) _, trivial⟩⟩) rfl rfl) rfl rfl ?_
      refine OpsD.gp rfl g_1364 rfl ?_
      refine OpsD.gp rfl g_1364 rfl ?_
      refine OpsD.gp rfl g_1364 rfl ?_
      refine OpsD.gp rfl g_1364 rfl ?_
      obtain ⟨y_1366, hy_1366, h⟩ := bindO h
      refine OpsD.gs (s := 54472) rfl g_1364 (Ev.call [] [54392] 0 (sem_slices_Contains_int N y_1365 x_1.n.Id _ hy_1366) rfl rfl (.cons (.borrow rfl (by decide) (lendW (fun _ => rfl) _ rfl)) (.cons (.c _) .nil)) rfl (.inr ⟨rfl, ownL_root trivial⟩) rfl rfl) rfl rfl ?_
      refine OpsD.gp rfl g_1364 rfl ?_
      refine OpsD.st (s := 54504) (.pkT rfl g_1364 rfl) rfl rfl ?_
      refine OpsD.p rfl ?_
      refine OpsD.askO (x := .t 87) rfl h (fun g_1367 h => ?_) (fun g_1367 h => ?_)
      · skip
        refine OpsD.gp rfl g_1367 rfl ?_
        refine OpsD.gp rfl g_1367 rfl ?_
        refine OpsD.gp rfl g_1367 rfl ?_
        refine OpsD.gp rfl g_1367 rfl ?_
        obtain ⟨y_1368, hy_1368, h⟩ := bindO h
        refine OpsD.gs (s := 54600) rfl g_1367 (Ev.call [] [2] 0 (sem_impl_lastConf N x_1.n.Log _ hy_1368) rfl rfl (.cons (.agg (.cons (.c _) (.cons (.c _) (.cons (.borrow rfl (by decide) (lendW (fun _ => rfl) _ rfl)) .nil)))) .nil) rfl (.inr ⟨rfl, ownL_root trivial⟩) rfl rfl) rfl rfl ?_
        refine OpsD.gp rfl g_1367 rfl ?_
        refine OpsD.gp rfl g_1367 rfl ?_
        refine OpsD.gp rfl g_1367 rfl ?_
        refine OpsD.gp rfl g_1367 rfl ?_
        refine OpsD.gp rfl g_1367 rfl ?_
        refine OpsD.st (s := 54696) (.pkT rfl g_1367 rfl) rfl rfl ?_
        refine OpsD.nil ⟨by kernel_rfl, ?_⟩
        refine Run.condO rfl h (fun g_1369 h => ?_) (fun g_1369 h => ?_)
        · skip
          refine Run.ops hm ?_
          refine Ops.p rfl ?_
          refine Ops.p rfl ?_
          refine Ops.p rfl ?_
          refine Ops.p rfl ?_
          refine Ops.p rfl ?_
          refine Ops.s0 (s := 58424) (.sto rfl rfl rfl rfl rfl rfl) rfl rfl ?_
          refine Ops.p rfl ?_
          refine Ops.p rfl ?_
          refine Ops.s0 (s := 58472) (.sto rfl rfl rfl rfl rfl rfl) rfl rfl ?_
          refine Ops.p rfl ?_
          refine Ops.p rfl ?_
          refine Ops.s0 (s := 58520) (.sto rfl rfl rfl rfl rfl rfl) rfl rfl ?_
          refine Ops.nil ?_
          obtain rfl := someO h
          exact Ends.mkG (.inr rfl) rfl (Gh.trans (Gh.trans (Gh.trans (gh_prn [] [0, 1, 2, 3, 4, 5] hB rfl) (gh_mvE [] [1, 2, 3, 4, 5] hB rfl rfl)) (gh_nil [] [0] hB rfl rfl rfl)) (gh_pk [] [0, 1, 2, 3, 4, 5, 30000001, 30000002, 30000003, 20000000, 30000005] hB rfl rfl rfl rfl)) rfl rfl
        · skip
          refine Run.skip ?_
          obtain rfl := someO h
          exact Ends.mkG (.inr rfl) rfl (Gh.trans (Gh.trans (gh_prn [] [0, 1, 2, 3, 4, 5] hB rfl) (gh_mvE [] [1, 2, 3, 4, 5] hB rfl rfl)) (gh_pk [] [0, 1, 2, 3, 4, 5, 30000001, 30000002, 30000003, 30000004, 30000005] hB rfl rfl rfl rfl)) rfl rfl
      · skip
        refine OpsD.gn rfl g_1367 ?_
        refine OpsD.gn rfl g_1367 ?_
        refine OpsD.gn rfl g_1367 ?_
        refine OpsD.gn rfl g_1367 ?_
        refine OpsD.gn rfl g_1367 ?_
        refine OpsD.gn rfl g_1367 ?_
        refine OpsD.gn rfl g_1367 ?_
        refine OpsD.gn rfl g_1367 ?_
        refine OpsD.gn rfl g_1367 ?_
        refine OpsD.gn rfl g_1367 ?_
        refine OpsD.st (s := 54696) (.pkF rfl g_1367 rfl) rfl rfl ?_
        refine OpsD.nil ⟨by kernel_rfl, ?_⟩
        refine Run.condF rfl rfl ?_
        refine Run.skip ?_
        obtain rfl := someO h
        exact Ends.mkG (.inr rfl) rfl (Gh.trans (Gh.trans (gh_prn [] [0, 1, 2, 3, 4, 5] hB rfl) (gh_mvE [] [1, 2, 3, 4, 5] hB rfl rfl)) (gh_pk [] [0, 1, 2, 3, 4, 5, 30000001, 30000002, 30000003, 30000004, 30000005] hB rfl rfl rfl rfl)) rfl rfl
    · skip
      refine OpsD.gn rfl g_1364 ?_
      refine OpsD.gn rfl g_1364 ?_
      refine OpsD.gn rfl g_1364 ?_
      refine OpsD.gn rfl g_1364 ?_
      refine OpsD.gn rfl g_1364 ?_
      refine OpsD.gn rfl g_1364 ?_
      refine OpsD.gn rfl g_1364 ?_
      refine OpsD.gn rfl g_1364 ?_
      refine OpsD.gn rfl g_1364 ?_
      refine OpsD.gn rfl g_1364 ?_
      refine OpsD.st (s := 54504) (.pkF rfl g_1364 rfl) rfl rfl ?_
      refine OpsD.p rfl ?_
      refine OpsD.gn rfl rfl ?_
      refine OpsD.gn rfl rfl ?_
      refine OpsD.gn rfl rfl ?_
      refine OpsD.gn rfl rfl ?_
      refine OpsD.gn rfl rfl ?_
      refine OpsD.gn rfl rfl ?_
      refine OpsD.gn rfl rfl ?_
      refine OpsD.gn rfl rfl ?_
      refine OpsD.gn rfl rfl ?_
      refine OpsD.gn rfl rfl ?_
      refine OpsD.st (s := 54696) (.pkF rfl rfl rfl) rfl rfl ?_
      refine OpsD.nil ⟨by kernel_rfl, ?_⟩
      refine Run.condF rfl rfl ?_
      refine Run.skip ?_
      obtain rfl := someO h
      exact Ends.mkG (.inr rfl) rfl (Gh.trans (Gh.trans (gh_prn [] [0, 1, 2, 3, 4, 5] hB rfl) (gh_mvE [] [1, 2, 3, 4, 5] hB rfl rfl)) (gh_pk [] [0, 1, 2, 3, 4, 5, 30000001, 30000002, 30000003, 30000004, 30000005] hB rfl rfl rfl rfl)) rfl rfl
end Go.Proofs.Ytebbgdjmplceiaa.Pe.FnAlone
