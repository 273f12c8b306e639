/- Functions, as pure functions; and that Go does just that. -/
import Derived.Test.YtehknbpmpbghhaaPeFFnExactTick4
namespace Go.Proofs.Ytehknbpmpbghhaa.Pe.FnExactTick
open Go Go.RowKit
set_option linter.unusedVariables false
set_option linter.unusedSimpArgs false
set_option maxHeartbeats 40000000
def impl_copyLog (N : Nat) (x_1 : Log) : Option (Log) :=
 (cat? ([] : List Entry) x_1.Entries).bind fun x_107 =>
 some (Log.mk x_1.Start x_1.StartTerm x_107)
theorem sem_impl_copyLog (N : Nat) (x_1 : Log) (r : Log) (h : impl_copyLog N x_1 = some r) : Says Try.prog 147 [.agg [VI x_1.Start, VI x_1.StartTerm, RO 51 (x_1.Entries.map encEntry)]] 0 [] (.agg [VI r.Start, VI r.StartTerm, .sl 0 51 0 r.Entries.length]) [(0, .vec 51 (r.Entries.map encEntry))] := by
  unfold impl_copyLog at h
  refine Says.of_run s147 Try.call147 rfl fun B hB => ?_
  have hm : B.m ≤ 1000 := by omega
  refine Run.seq (Run.ops hm (Ops.st (s := 1000) (.bx rfl rfl) rfl rfl (Ops.st (s := 1016) (.al rfl rfl) rfl rfl (Ops.nil (Run.seq (Run.ops hm (Ops.p rfl (Ops.p rfl ?_))))))))
  obtain ⟨x_107, hx_107, h⟩ := bindO h
  refine Ops.st (s := 5128) (Ev.apW (f := encEntry) (ontoN (f := encEntry) rfl) (addsF rfl) rfl bt51 rfl hx_107) rfl rfl (Ops.p rfl (Ops.s0 (s := 5160) (.sto rfl rfl rfl rfl rfl rfl) rfl rfl (Ops.nil (Run.seq (Run.ops hm (Ops.p rfl (Ops.s0 (s := 9208) (.sto rfl rfl rfl rfl rfl rfl) rfl rfl (Ops.nil (Run.ret ?_)))))))))
  obtain rfl := someO h
  exact Ends.mkG (.inl rfl) rfl (gh_pk [0] [5128] hB rfl rfl rfl rfl) rfl rfl
def impl_copyNode (N : Nat) (x_1 : Node) : Option (Node) :=
 (cat? ([] : List Int) x_1.Conf).bind fun x_119 =>
 (impl_copyLog N x_1.Log).bind fun y_123 =>
 (cat? ([] : List Int) x_1.Votes).bind fun x_127 =>
 (cat? ([] : List Peer) x_1.Peers).bind fun x_131 =>
 some (Node.mk x_1.Id x_1.Term x_1.Vote x_1.Role x_1.Lead x_119 y_123 x_1.Commit x_1.Clock x_1.Limit x_127 x_131)
theorem sem_impl_copyNode (N : Nat) (x_1 : Node) (r : Node) (h : impl_copyNode N x_1 = some r) : Says Try.prog 68 [.agg [VI x_1.Id, VI x_1.Term, VI x_1.Vote, VI x_1.Role, VI x_1.Lead, RO 3 (x_1.Conf.map encI), VI x_1.Log.Start, VI x_1.Log.StartTerm, RO 51 (x_1.Log.Entries.map encEntry), VI x_1.Commit, VI x_1.Clock, VI x_1.Limit, RO 3 (x_1.Votes.map encI), RO 135 (x_1.Peers.map encPeer)]] 0 [] (.agg [VI r.Id, VI r.Term, VI r.Vote, VI r.Role, VI r.Lead, .sl 0 3 0 r.Conf.length, VI r.Log.Start, VI r.Log.StartTerm, .sl 1 51 0 r.Log.Entries.length, VI r.Commit, VI r.Clock, VI r.Limit, .sl 2 3 0 r.Votes.length, .sl 3 135 0 r.Peers.length]) [(0, .vec 3 (r.Conf.map encI)), (1, .vec 51 (r.Log.Entries.map encEntry)), (2, .vec 3 (r.Votes.map encI)), (3, .vec 135 (r.Peers.map encPeer))] := by
  unfold impl_copyNode at h
  refine Says.of_run s68 Try.call68 rfl fun B hB => ?_
  have hm : B.m ≤ 1000 := by omega
  refine Run.seq (Run.ops hm (Ops.st (s := 1000) (.bx rfl rfl) rfl rfl (Ops.st (s := 1016) (.al rfl rfl) rfl rfl (Ops.nil (Run.seq (Run.ops hm (Ops.p rfl (Ops.p rfl ?_))))))))
  obtain ⟨x_119, hx_119, h⟩ := bindO h
  refine Ops.st (s := 5128) (Ev.apW (f := encI) (ontoN (f := encI) rfl) (addsF rfl) rfl bt3 rfl hx_119) rfl rfl (Ops.p rfl (Ops.s0 (s := 5160) (.sto rfl rfl rfl rfl rfl rfl) rfl rfl (Ops.nil (Run.seq (Run.ops hm (Ops.p rfl (Ops.p rfl ?_)))))))
  obtain ⟨y_123, hy_123, h⟩ := bindO h
  refine Ops.st (s := 9224) (Ev.call [] [] 1 (sem_impl_copyLog N x_1.Log _ hy_123) rfl rfl (.cons (.agg (.cons (.c _) (.cons (.c _) (.cons (.c _) .nil)))) .nil) rfl (.inl rfl) rfl rfl) rfl rfl (Ops.p rfl (Ops.s0 (s := 9256) (.sto rfl rfl rfl rfl rfl rfl) rfl rfl (Ops.nil (Run.seq (Run.ops hm (Ops.p rfl (Ops.p rfl ?_)))))))
  obtain ⟨x_127, hx_127, h⟩ := bindO h
  refine Ops.st (s := 13320) (Ev.apW (f := encI) (ontoN (f := encI) rfl) (addsF rfl) rfl bt3 rfl hx_127) rfl rfl (Ops.p rfl (Ops.s0 (s := 13352) (.sto rfl rfl rfl rfl rfl rfl) rfl rfl (Ops.nil (Run.seq (Run.ops hm (Ops.p rfl (Ops.p rfl ?_)))))))
  obtain ⟨x_131, hx_131, h⟩ := bindO h
  refine Ops.st (s := 17416) (Ev.apW (f := encPeer) (ontoN (f := encPeer) rfl) (addsF rfl) rfl bt135 rfl hx_131) rfl rfl (Ops.p rfl (Ops.s0 (s := 17448) (.sto rfl rfl rfl rfl rfl rfl) rfl rfl (Ops.nil (Run.seq (Run.ops hm (Ops.p rfl (Ops.s0 (s := 21496) (.sto rfl rfl rfl rfl rfl rfl) rfl rfl (Ops.nil (Run.ret ?_)))))))))
  obtain rfl := someO h
  exact Ends.mkG (.inl rfl) rfl (gh_pk [0] [5128, 9224, 13320, 17416] hB rfl rfl rfl rfl) rfl rfl
def impl_hasEntry (N : Nat) (x_1 : Log) (x_2 : Int) : Option (Bool) :=
 (if (decide (x_2 > x_1.Start)) = true then
 (impl_within N (w64 (x_2 - x_1.Start)) (1 : Int) (x_1.Entries.length : Int)).bind fun y_107 =>
 some y_107
 else
 some false)
theorem sem_impl_hasEntry (N : Nat) (x_1 : Log) (x_2 : Int) (r : Bool) (h : impl_hasEntry N x_1 x_2 = some r) : Says Try.prog 148 [.agg [VI x_1.Start, VI x_1.StartTerm, RO 51 (x_1.Entries.map encEntry)], VI x_2] 0 [] (VB r) [] := by
  unfold impl_hasEntry at h
  refine Says.of_run s148 Try.call148 rfl fun B hB => ?_
  have hm : B.m ≤ 1000 := by omega
  refine Run.seq (Run.ops hm (Ops.st (s := 1000) (.bx rfl rfl) rfl rfl (Ops.p rfl (Ops.nil (Run.seq (Run.ops hm (Ops.p rfl (Ops.p rfl (Ops.p rfl (Ops.p rfl (Ops.p rfl (Ops.askO (x := .t 9) rfl h (fun g_106 h => ?_) (fun g_106 h => ?_)))))))))))))
  · refine Ops.gp rfl g_106 rfl (Ops.gp rfl g_106 rfl (Ops.gp rfl g_106 rfl (Ops.gp rfl g_106 rfl (Ops.gp rfl g_106 rfl (Ops.gp rfl g_106 rfl (Ops.gs (s := 5272) rfl g_106 (Ev.lnF rfl) rfl rfl ?_))))))
    obtain ⟨y_107, hy_107, h⟩ := bindO h
    refine Ops.gs (s := 5288) rfl g_106 (Ev.call [] [] 0 (sem_impl_within N (w64 (x_2 - x_1.Start)) (1 : Int) (x_1.Entries.length : Int) _ hy_107) rfl rfl (.cons (.c _) (.cons (.c _) (.cons (.c _) .nil))) rfl (.inl rfl) rfl rfl) rfl rfl (Ops.st (s := 5304) (.pkT rfl g_106 rfl) rfl rfl (Ops.p rfl (Ops.nil (Run.ret ?_))))
    obtain rfl := someO h
    exact Ends.mkG (.inl rfl) rfl (gh_pk [0] [] hB rfl rfl rfl rfl) rfl rfl
  · refine Ops.gn rfl g_106 (Ops.gn rfl g_106 (Ops.gn rfl g_106 (Ops.gn rfl g_106 (Ops.gn rfl g_106 (Ops.gn rfl g_106 (Ops.gn rfl g_106 (Ops.gn rfl g_106 (Ops.st (s := 5304) (.pkF rfl g_106 rfl) rfl rfl (Ops.p rfl (Ops.nil (Run.ret ?_)))))))))))
    obtain rfl := someO h
    exact Ends.mkG (.inl rfl) rfl (gh_pk [0] [] hB rfl rfl rfl rfl) rfl rfl
def impl_LogTerm (N : Nat) (x_1 : Log) (x_2 : Int) : Option (Int) :=
 (if (x_2 == x_1.Start) = true then
 some x_1.StartTerm
 else
 (impl_hasEntry N x_1 x_2).bind fun y_108 =>
 (if y_108 = true then
 (at? x_1.Entries (w64 ((w64 (x_2 - x_1.Start)) - (1 : Int)))).bind fun x_111 =>
 some x_111.Term
 else
 some (-1 : Int)))
theorem sem_impl_LogTerm (N : Nat) (x_1 : Log) (x_2 : Int) (r : Int) (h : impl_LogTerm N x_1 x_2 = some r) : Says Try.prog 70 [.agg [VI x_1.Start, VI x_1.StartTerm, RO 51 (x_1.Entries.map encEntry)], VI x_2] 0 [] (VI r) [] := by
  unfold impl_LogTerm at h
  refine Says.of_run s70 Try.call70 rfl fun B hB => ?_
  have hm : B.m ≤ 1000 := by omega
  refine Run.seq (Run.ops hm (Ops.st (s := 1000) (.bx rfl rfl) rfl rfl (Ops.p rfl (Ops.nil (Run.seq (Run.block (Run.seq (Run.ops hm (Ops.p rfl (Ops.p rfl (Ops.p rfl (Ops.p rfl (Ops.p rfl (Ops.nil (Run.condO rfl h (fun g_106 h => ?_) (fun g_106 h => ?_))))))))))))))))
  · refine Run.seq (Run.ops hm (Ops.p rfl (Ops.p rfl (Ops.p rfl (Ops.nil (Run.ret ?_))))))
    obtain rfl := someO h
    exact Ends.mkG (.inl rfl) rfl (gh_pk [0] [] hB rfl rfl rfl rfl) rfl rfl
  · refine Run.seq (Run.ops hm (Ops.p rfl (Ops.p rfl ?_)))
    obtain ⟨y_108, hy_108, h⟩ := bindO h
    refine Ops.st (s := 13320) (Ev.call [] [] 0 (sem_impl_hasEntry N x_1 x_2 _ hy_108) rfl rfl (.cons (.agg (.cons (.c _) (.cons (.c _) (.cons (.c _) .nil)))) (.cons (.c _) .nil)) rfl (.inl rfl) rfl rfl) rfl rfl (Ops.p rfl (Ops.nil (Run.condO rfl h (fun g_109 h => ?_) (fun g_109 h => ?_))))
    · refine Run.seq (Run.ops hm (Ops.p rfl (Ops.p rfl (Ops.p rfl (Ops.p rfl (Ops.p rfl (Ops.p rfl (Ops.p rfl ?_))))))))
      obtain ⟨x_111, hx_111, h⟩ := bindO h
      refine Ops.st (s := 17496) (Ev.iaF rfl rfl hx_111) rfl rfl (Ops.p rfl (Ops.p rfl (Ops.p rfl (Ops.nil (Run.ret ?_)))))
      obtain rfl := someO h
      exact Ends.mkG (.inl rfl) rfl (gh_pk [0] [] hB rfl rfl rfl rfl) rfl rfl
    · refine Run.skip (Run.seq (Run.ops hm (Ops.p rfl (Ops.nil (Run.ret ?_)))))
      obtain rfl := someO h
      exact Ends.mkG (.inl rfl) rfl (gh_pk [0] [] hB rfl rfl rfl rfl) rfl rfl
def core_tell (N : Nat) (x_1 : Tcore) (x_2 : Message) : Option (Tcore) :=
 (cat? x_1.out ([(Message.mk x_2.Kind x_1.n.Id x_2.To x_1.n.Term x_2.Index x_2.LogTerm x_2.Commit x_2.Ok x_2.Entries ([]) x_2.Data x_2.Last)] : List Message)).bind fun x_103 =>
 some (Tcore.mk x_1.n x_103)
theorem sem_core_tell (N : Nat) (x_1 : Tcore) (x_2 : Message) (r : Tcore) (h : core_tell N x_1 x_2 = some r) : Says Try.prog 120 [.ptr 0 0, .agg [VI x_2.Kind, VI x_2.From, VI x_2.To, VI x_2.Term, VI x_2.Index, VI x_2.LogTerm, VI x_2.Commit, VB x_2.Ok, .sl 1 51 0 x_2.Entries.length, NI 3, VS x_2.Data, VB x_2.Last]] 7 [(0, .box [VI x_1.n.Id, VI x_1.n.Term, VI x_1.n.Vote, VI x_1.n.Role, VI x_1.n.Lead, .sl 2 3 0 x_1.n.Conf.length, VI x_1.n.Log.Start, VI x_1.n.Log.StartTerm, .sl 3 51 0 x_1.n.Log.Entries.length, VI x_1.n.Commit, VI x_1.n.Clock, VI x_1.n.Limit, .sl 4 3 0 x_1.n.Votes.length, .sl 5 135 0 x_1.n.Peers.length, .sl 6 58 0 x_1.out.length]), (1, .vec 51 (x_2.Entries.map encEntry)), (2, .vec 3 (x_1.n.Conf.map encI)), (3, .vec 51 (x_1.n.Log.Entries.map encEntry)), (4, .vec 3 (x_1.n.Votes.map encI)), (5, .vec 135 (x_1.n.Peers.map encPeer)), (6, .vec 58 (x_1.out.map (encMessage true)))] (.tup []) [(0, .box [VI r.n.Id, VI r.n.Term, VI r.n.Vote, VI r.n.Role, VI r.n.Lead, .sl 2 3 0 x_1.n.Conf.length, VI r.n.Log.Start, VI r.n.Log.StartTerm, .sl 3 51 0 x_1.n.Log.Entries.length, VI r.n.Commit, VI r.n.Clock, VI r.n.Limit, .sl 4 3 0 x_1.n.Votes.length, .sl 5 135 0 x_1.n.Peers.length, .sl 7 58 0 r.out.length]), (1, .gone), (2, .vec 3 (x_1.n.Conf.map encI)), (3, .vec 51 (x_1.n.Log.Entries.map encEntry)), (4, .vec 3 (x_1.n.Votes.map encI)), (5, .vec 135 (x_1.n.Peers.map encPeer)), (6, .gone), (7, .vec 58 (r.out.map (encMessage true)))] := by
  unfold core_tell at h
  refine Says.of_run s120 Try.call120 rfl fun B hB => ?_
  have hm : B.m ≤ 1000 := by omega
  refine Run.seq (Run.ops hm (Ops.st (s := 1000) (.bx rfl rfl) rfl rfl (Ops.nil (Run.seq (Run.draw hm hmix (OpsD.p rfl (OpsD.p rfl (OpsD.p rfl (OpsD.p rfl (OpsD.p rfl (OpsD.p rfl (OpsD.p rfl (OpsD.p rfl (OpsD.p rfl (OpsD.p rfl (OpsD.p rfl (OpsD.s0 (s := 5272) (.sto rfl rfl rfl rfl rfl rfl) rfl rfl (OpsD.p rfl (OpsD.s0 (s := 5304) (.sto rfl rfl rfl rfl rfl rfl) rfl rfl (OpsD.nil ⟨by kernel_rfl, ?_⟩))))))))))))))))))))
  refine Run.draw hm hmix (OpsD.p rfl (OpsD.p rfl (OpsD.p rfl (OpsD.p rfl (OpsD.p rfl (OpsD.p rfl (OpsD.st (s := 9288) (Ev.bsW (ys := ([(Message.mk x_2.Kind x_1.n.Id x_2.To x_1.n.Term x_2.Index x_2.LogTerm x_2.Commit x_2.Ok x_2.Entries ([]) x_2.Data x_2.Last)] : List Message)) (f := (encMessage true)) rfl (.cons (.c _) (.cons (.c _) (.cons (.c _) (.cons (.c _) (.cons (.c _) (.cons (.c _) (.cons (.c _) (.cons (.c _) (.cons (.own rfl (lenmap rfl)) (.cons (.c _) (.cons (.c _) (.cons (.c _) .nil)))))))))))) rfl rfl rfl rfl rfl) rfl rfl ?_)))))))
  obtain ⟨x_103, hx_103, h⟩ := bindO h
  refine OpsD.st (s := 9304) (Ev.apW (f := (encMessage true)) (ontoW rfl rfl rfl) (addsO rfl rfl rfl) rfl bt58 rfl hx_103) rfl rfl (OpsD.p rfl (OpsD.p rfl (OpsD.s0 (s := 9352) (.sto rfl rfl rfl rfl rfl rfl) rfl rfl (OpsD.nil ⟨by kernel_rfl, ?_⟩))))
  obtain rfl := someO h
  exact Ends.mkG (.inr rfl) rfl (gh_pk [] [0, 1, 2, 3, 4, 5, 6, 9304] hB rfl rfl rfl rfl) rfl rfl
def core_tell_i1 (N : Nat) (x_1 : Tcore) (x_2 : Message) : Option (Tcore) :=
 (cat? x_1.out ([(Message.mk x_2.Kind x_1.n.Id x_2.To x_1.n.Term x_2.Index x_2.LogTerm x_2.Commit x_2.Ok ([]) x_2.Conf x_2.Data x_2.Last)] : List Message)).bind fun x_103 =>
 some (Tcore.mk x_1.n x_103)
theorem sem_core_tell_i1 (N : Nat) (x_1 : Tcore) (x_2 : Message) (r : Tcore) (h : core_tell_i1 N x_1 x_2 = some r) : Says Try.prog 120 [.ptr 0 0, .agg [VI x_2.Kind, VI x_2.From, VI x_2.To, VI x_2.Term, VI x_2.Index, VI x_2.LogTerm, VI x_2.Commit, VB x_2.Ok, NI 51, .sl 1 3 0 x_2.Conf.length, VS x_2.Data, VB x_2.Last]] 7 [(0, .box [VI x_1.n.Id, VI x_1.n.Term, VI x_1.n.Vote, VI x_1.n.Role, VI x_1.n.Lead, .sl 2 3 0 x_1.n.Conf.length, VI x_1.n.Log.Start, VI x_1.n.Log.StartTerm, .sl 3 51 0 x_1.n.Log.Entries.length, VI x_1.n.Commit, VI x_1.n.Clock, VI x_1.n.Limit, .sl 4 3 0 x_1.n.Votes.length, .sl 5 135 0 x_1.n.Peers.length, .sl 6 58 0 x_1.out.length]), (1, .vec 3 (x_2.Conf.map encI)), (2, .vec 3 (x_1.n.Conf.map encI)), (3, .vec 51 (x_1.n.Log.Entries.map encEntry)), (4, .vec 3 (x_1.n.Votes.map encI)), (5, .vec 135 (x_1.n.Peers.map encPeer)), (6, .vec 58 (x_1.out.map (encMessage true)))] (.tup []) [(0, .box [VI r.n.Id, VI r.n.Term, VI r.n.Vote, VI r.n.Role, VI r.n.Lead, .sl 2 3 0 x_1.n.Conf.length, VI r.n.Log.Start, VI r.n.Log.StartTerm, .sl 3 51 0 x_1.n.Log.Entries.length, VI r.n.Commit, VI r.n.Clock, VI r.n.Limit, .sl 4 3 0 x_1.n.Votes.length, .sl 5 135 0 x_1.n.Peers.length, .sl 7 58 0 r.out.length]), (1, .gone), (2, .vec 3 (x_1.n.Conf.map encI)), (3, .vec 51 (x_1.n.Log.Entries.map encEntry)), (4, .vec 3 (x_1.n.Votes.map encI)), (5, .vec 135 (x_1.n.Peers.map encPeer)), (6, .gone), (7, .vec 58 (r.out.map (encMessage true)))] := by
  unfold core_tell_i1 at h
  refine Says.of_run s120 Try.call120 rfl fun B hB => ?_
  have hm : B.m ≤ 1000 := by omega
  refine Run.seq (Run.ops hm (Ops.st (s := 1000) (.bx rfl rfl) rfl rfl (Ops.nil (Run.seq (Run.draw hm hmix (OpsD.p rfl (OpsD.p rfl (OpsD.p rfl (OpsD.p rfl (OpsD.p rfl (OpsD.p rfl (OpsD.p rfl (OpsD.p rfl (OpsD.p rfl (OpsD.p rfl (OpsD.p rfl (OpsD.s0 (s := 5272) (.sto rfl rfl rfl rfl rfl rfl) rfl rfl (OpsD.p rfl (OpsD.s0 (s := 5304) (.sto rfl rfl rfl rfl rfl rfl) rfl rfl (OpsD.nil ⟨by kernel_rfl, ?_⟩))))))))))))))))))))
  refine Run.draw hm hmix (OpsD.p rfl (OpsD.p rfl (OpsD.p rfl (OpsD.p rfl (OpsD.p rfl (OpsD.p rfl (OpsD.st (s := 9288) (Ev.bsW (ys := ([(Message.mk x_2.Kind x_1.n.Id x_2.To x_1.n.Term x_2.Index x_2.LogTerm x_2.Commit x_2.Ok ([]) x_2.Conf x_2.Data x_2.Last)] : List Message)) (f := (encMessage true)) rfl (.cons (.c _) (.cons (.c _) (.cons (.c _) (.cons (.c _) (.cons (.c _) (.cons (.c _) (.cons (.c _) (.cons (.c _) (.cons (.c _) (.cons (.own rfl (lenmap rfl)) (.cons (.c _) (.cons (.c _) .nil)))))))))))) rfl rfl rfl rfl rfl) rfl rfl ?_)))))))
  obtain ⟨x_103, hx_103, h⟩ := bindO h
  refine OpsD.st (s := 9304) (Ev.apW (f := (encMessage true)) (ontoW rfl rfl rfl) (addsO rfl rfl rfl) rfl bt58 rfl hx_103) rfl rfl (OpsD.p rfl (OpsD.p rfl (OpsD.s0 (s := 9352) (.sto rfl rfl rfl rfl rfl rfl) rfl rfl (OpsD.nil ⟨by kernel_rfl, ?_⟩))))
  obtain rfl := someO h
  exact Ends.mkG (.inr rfl) rfl (gh_pk [] [0, 1, 2, 3, 4, 5, 6, 9304] hB rfl rfl rfl rfl) rfl rfl
def core_send (N : Nat) (x_1 : Tcore) (x_2 : Int) : Option (Tcore) :=
 (at? x_1.n.Peers x_2).bind fun x_137 =>
 (if (decide (x_137.Next > x_1.n.Log.Start)) = true then
 (cut? x_1.n.Log.Entries (w64 ((w64 (x_137.Next - x_1.n.Log.Start)) - (1 : Int))) (imin ((x_1.n.Log.Entries.length : Nat) : Int) (w64 ((w64 ((w64 (x_137.Next - x_1.n.Log.Start)) - (1 : Int))) + (4 : Int))))).bind fun x_158 =>
 (cat? ([] : List Entry) ((x_1.n.Log.Entries.drop ((w64 ((w64 (x_137.Next - x_1.n.Log.Start)) - (1 : Int))).toNat)).take ((imin ((x_1.n.Log.Entries.length : Nat) : Int) (w64 ((w64 ((w64 (x_137.Next - x_1.n.Log.Start)) - (1 : Int))) + (4 : Int)))).toNat - (w64 ((w64 (x_137.Next - x_1.n.Log.Start)) - (1 : Int))).toNat))).bind fun x_159 =>
 (impl_LogTerm N x_1.n.Log (w64 (x_137.Next - (1 : Int)))).bind fun y_162 =>
 (core_tell N x_1 (Message.mk (3 : Int) (0 : Int) x_137.Id (0 : Int) (w64 (x_137.Next - (1 : Int))) y_162 x_1.n.Commit false x_159 ([]) (⟨#[]⟩ : ByteArray) false)).bind fun y_163 =>
 some (Tcore.mk (Node.mk y_163.n.Id y_163.n.Term y_163.n.Vote y_163.n.Role y_163.n.Lead x_1.n.Conf (Log.mk y_163.n.Log.Start y_163.n.Log.StartTerm x_1.n.Log.Entries) y_163.n.Commit y_163.n.Clock y_163.n.Limit x_1.n.Votes x_1.n.Peers) y_163.out)
 else
 (cat? ([] : List Int) x_1.n.Conf).bind fun x_166 =>
 (core_tell_i1 N x_1 (Message.mk (5 : Int) (0 : Int) x_137.Id (0 : Int) x_1.n.Log.Start x_1.n.Log.StartTerm x_137.Sent false ([]) x_166 (⟨#[]⟩ : ByteArray) false)).bind fun y_167 =>
 some (Tcore.mk (Node.mk y_167.n.Id y_167.n.Term y_167.n.Vote y_167.n.Role y_167.n.Lead x_1.n.Conf (Log.mk y_167.n.Log.Start y_167.n.Log.StartTerm x_1.n.Log.Entries) y_167.n.Commit y_167.n.Clock y_167.n.Limit x_1.n.Votes x_1.n.Peers) y_167.out))
theorem sem_core_send (N : Nat) (x_1 : Tcore) (x_2 : Int) (r : Tcore) (h : core_send N x_1 x_2 = some r) : Says Try.prog 164 [.ptr 0 0, VI x_2] 6 [(0, .box [VI x_1.n.Id, VI x_1.n.Term, VI x_1.n.Vote, VI x_1.n.Role, VI x_1.n.Lead, .sl 1 3 0 x_1.n.Conf.length, VI x_1.n.Log.Start, VI x_1.n.Log.StartTerm, .sl 2 51 0 x_1.n.Log.Entries.length, VI x_1.n.Commit, VI x_1.n.Clock, VI x_1.n.Limit, .sl 3 3 0 x_1.n.Votes.length, .sl 4 135 0 x_1.n.Peers.length, .sl 5 58 0 x_1.out.length]), (1, .vec 3 (x_1.n.Conf.map encI)), (2, .vec 51 (x_1.n.Log.Entries.map encEntry)), (3, .vec 3 (x_1.n.Votes.map encI)), (4, .vec 135 (x_1.n.Peers.map encPeer)), (5, .vec 58 (x_1.out.map (encMessage true)))] (.tup []) [(0, .box [VI r.n.Id, VI r.n.Term, VI r.n.Vote, VI r.n.Role, VI r.n.Lead, .sl 1 3 0 x_1.n.Conf.length, VI r.n.Log.Start, VI r.n.Log.StartTerm, .sl 2 51 0 x_1.n.Log.Entries.length, VI r.n.Commit, VI r.n.Clock, VI r.n.Limit, .sl 3 3 0 x_1.n.Votes.length, .sl 4 135 0 x_1.n.Peers.length, .sl 6 58 0 r.out.length]), (1, .vec 3 (x_1.n.Conf.map encI)), (2, .vec 51 (x_1.n.Log.Entries.map encEntry)), (3, .vec 3 (x_1.n.Votes.map encI)), (4, .vec 135 (x_1.n.Peers.map encPeer)), (5, .gone), (6, .vec 58 (r.out.map (encMessage true)))] := by
  unfold core_send at h
  refine Says.of_run s164 Try.call164 rfl fun B hB => ?_
  have hm : B.m ≤ 1000 := by omega
  refine Run.seq (Run.ops hm (Ops.p rfl (Ops.p rfl (Ops.p rfl (Ops.p rfl (Ops.p rfl (Ops.p rfl ?_)))))))
  obtain ⟨x_137, hx_137, h⟩ := bindO h
  refine Ops.st (s := 1096) (Ev.iaW rfl rfl rfl hx_137) rfl rfl (Ops.p rfl (Ops.nil (Run.seq (Run.ops hm (Ops.p rfl (Ops.p rfl (Ops.p rfl (Ops.p rfl (Ops.p rfl (Ops.st (s := 5176) (.al rfl rfl) rfl rfl (Ops.s0 (s := 5192) (.sto rfl rfl rfl rfl rfl rfl) rfl rfl (Ops.nil (Run.seq (Run.seq (Run.draw hm hmix (OpsD.p rfl (OpsD.p rfl (OpsD.p rfl (OpsD.st (s := 9240) (Ev.ldE (f := encPeer) rfl rfl (at_some hx_137).2 rfl rfl rfl) rfl rfl (OpsD.p rfl (OpsD.p rfl (OpsD.p rfl (OpsD.nil ⟨by kernel_rfl, ?_⟩)))))))))))))))))))))))
  refine Run.condO rfl h (fun g_151 h => ?_) (fun g_151 h => ?_)
  · refine Run.seq (Run.draw hm hmix (OpsD.p rfl (OpsD.p rfl (OpsD.p rfl (OpsD.st (s := 13336) (Ev.ldE (f := encPeer) rfl rfl (at_some hx_137).2 rfl rfl rfl) rfl rfl (OpsD.p rfl (OpsD.p rfl (OpsD.p rfl (OpsD.p rfl (OpsD.p rfl (OpsD.nil ⟨by kernel_rfl, ?_⟩)))))))))))
    refine Run.seq (Run.ops hm (Ops.p rfl (Ops.p rfl (Ops.p rfl (Ops.p rfl (Ops.p rfl (Ops.p rfl (Ops.p rfl (Ops.p rfl (Ops.p rfl ?_))))))))))
    obtain ⟨x_158, hx_158, h⟩ := bindO h
    refine Ops.st (s := 17528) (Ev.slW (xs := x_1.n.Log.Entries) rfl rfl rfl rfl hx_158) rfl rfl ?_
    obtain ⟨x_159, hx_159, h⟩ := bindO h
    refine Ops.st (s := 17544) (Ev.apW (f := encEntry) (ontoN (f := encEntry) rfl) (addsP rfl rfl (fun _ => rfl)) rfl bt51 rfl hx_159) rfl rfl (Ops.p rfl (Ops.nil (Run.seq (Run.draw hm hmix (OpsD.p rfl (OpsD.p rfl (OpsD.p rfl (OpsD.p rfl (OpsD.st (s := 21544) (Ev.ldE (f := encPeer) rfl rfl (at_some hx_137).2 rfl rfl rfl) rfl rfl (OpsD.p rfl (OpsD.p rfl (OpsD.p rfl (OpsD.st (s := 21608) (Ev.ldE (f := encPeer) rfl rfl (at_some hx_137).2 rfl rfl rfl) rfl rfl (OpsD.p rfl (OpsD.p rfl (OpsD.p rfl (OpsD.p rfl (OpsD.p rfl (OpsD.st (s := 21704) (Ev.ldE (f := encPeer) rfl rfl (at_some hx_137).2 rfl rfl rfl) rfl rfl (OpsD.p rfl ?_))))))))))))))))))))
    obtain ⟨y_162, hy_162, h⟩ := bindO h
    refine OpsD.st (s := 21736) (Ev.call [] [2] 0 (sem_impl_LogTerm N x_1.n.Log (w64 (x_137.Next - (1 : Int))) _ hy_162) rfl rfl (.cons (.agg (.cons (.c _) (.cons (.c _) (.cons (.borrow rfl (by decide) (lendW (fun _ => rfl) _ rfl)) .nil)))) (.cons (.c _) .nil)) rfl (.inr ⟨rfl, ownL_root trivial⟩) rfl rfl) rfl rfl ?_
    refine OpsD.p rfl (OpsD.p rfl (OpsD.p rfl (OpsD.p rfl (OpsD.p rfl (OpsD.p rfl (OpsD.st (s := 21848) (.bd rfl rfl) rfl rfl ?_))))))
    obtain ⟨y_163, hy_163, h⟩ := bindO h
    refine OpsD.st (s := 21864) (Ev.call [0, 17544, 1, 2, 3, 4, 5] [] 1 (sem_core_tell N x_1 (Message.mk (3 : Int) (0 : Int) x_137.Id (0 : Int) (w64 (x_137.Next - (1 : Int))) y_162 x_1.n.Commit false x_159 ([]) (⟨#[]⟩ : ByteArray) false) _ hy_163) rfl rfl (.cons (.ptr rfl) (.cons (.agg (.cons (.c _) (.cons (.c _) (.cons (.c _) (.cons (.c _) (.cons (.c _) (.cons (.c _) (.cons (.c _) (.cons (.c _) (.cons (.sl rfl) (.cons (.c _) (.cons (.c _) (.cons (.c _) .nil))))))))))))) .nil)) rfl (.inl rfl) rfl rfl) rfl rfl (OpsD.nil ⟨by kernel_rfl, ?_⟩)
    refine Run.ret ?_
    obtain rfl := someO h
    exact Ends.mkG (.inl rfl) rfl (gh_pk [] [0, 1, 2, 3, 4, 5, 21864] hB rfl rfl rfl rfl) rfl rfl
  · refine Run.skip (Run.draw hm hmix (OpsD.p rfl (OpsD.p rfl (OpsD.p rfl (OpsD.p rfl (OpsD.st (s := 25640) (Ev.ldE (f := encPeer) rfl rfl (at_some hx_137).2 rfl rfl rfl) rfl rfl (OpsD.p rfl (OpsD.p rfl (OpsD.p rfl (OpsD.p rfl (OpsD.p rfl (OpsD.p rfl (OpsD.p rfl (OpsD.st (s := 25768) (Ev.ldE (f := encPeer) rfl rfl (at_some hx_137).2 rfl rfl rfl) rfl rfl (OpsD.p rfl (OpsD.p rfl (OpsD.p rfl (OpsD.p rfl (OpsD.p rfl ?_)))))))))))))))))))
    obtain ⟨x_166, hx_166, h⟩ := bindO h
    refine OpsD.st (s := 25864) (Ev.apW (f := encI) (ontoN (f := encI) rfl) (addsW rfl rfl rfl (fun _ => rfl)) rfl bt3 rfl hx_166) rfl rfl (OpsD.st (s := 25880) (.bd rfl rfl) rfl rfl ?_)
    obtain ⟨y_167, hy_167, h⟩ := bindO h
    refine OpsD.st (s := 25896) (Ev.call [0, 25864, 1, 2, 3, 4, 5] [] 1 (sem_core_tell_i1 N x_1 (Message.mk (5 : Int) (0 : Int) x_137.Id (0 : Int) x_1.n.Log.Start x_1.n.Log.StartTerm x_137.Sent false ([]) x_166 (⟨#[]⟩ : ByteArray) false) _ hy_167) rfl rfl (.cons (.ptr rfl) (.cons (.agg (.cons (.c _) (.cons (.c _) (.cons (.c _) (.cons (.c _) (.cons (.c _) (.cons (.c _) (.cons (.c _) (.cons (.c _) (.cons (.c _) (.cons (.sl rfl) (.cons (.c _) (.cons (.c _) .nil))))))))))))) .nil)) rfl (.inl rfl) rfl rfl) rfl rfl (OpsD.nil ⟨by kernel_rfl, ?_⟩)
    obtain rfl := someO h
    exact Ends.mkG (.inr rfl) rfl (gh_pk [] [0, 1, 2, 3, 4, 5, 25896] hB rfl rfl rfl rfl) rfl rfl
def core_sendAll_l1 (N : Nat) (x_1 : Tcore) : Nat → Int → Int → Int → Int → Int → Int → Int → Int → Int → Int → Int → (List Message) → Option (Int × Int × Int × Int × Int × Int × Int × Int × Int × Int × (List Message))
 | 0, _, _, _, _, _, _, _, _, _, _, _, _ => none
 | m + 1, x_128, x_129, x_130, x_131, x_132, x_133, x_134, x_135, x_136, x_137, x_138, x_143 =>
 (if (decide (x_128 < ((x_1.n.Peers.length : Nat) : Int))) = true then
 (core_send N (Tcore.mk (Node.mk x_129 x_130 x_131 x_132 x_133 x_1.n.Conf (Log.mk x_134 x_135 x_1.n.Log.Entries) x_136 x_137 x_138 x_1.n.Votes x_1.n.Peers) x_143) x_128).bind fun y_153 =>
 core_sendAll_l1 N x_1 m (w64 (x_128 + (1 : Int))) y_153.n.Id y_153.n.Term y_153.n.Vote y_153.n.Role y_153.n.Lead y_153.n.Log.Start y_153.n.Log.StartTerm y_153.n.Commit y_153.n.Clock y_153.n.Limit y_153.out
 else
 some (x_129, x_130, x_131, x_132, x_133, x_134, x_135, x_136, x_137, x_138, x_143))
def core_sendAll (N : Nat) (x_1 : Tcore) : Option (Tcore) :=
 (core_sendAll_l1 N x_1 N (0 : Int) x_1.n.Id x_1.n.Term x_1.n.Vote x_1.n.Role x_1.n.Lead x_1.n.Log.Start x_1.n.Log.StartTerm x_1.n.Commit x_1.n.Clock x_1.n.Limit ([] : (List Message))).bind (fun (v_148 : Int × Int × Int × Int × Int × Int × Int × Int × Int × Int × (List Message)) => some (Tcore.mk (Node.mk v_148.1 v_148.2.1 v_148.2.2.1 v_148.2.2.2.1 v_148.2.2.2.2.1 x_1.n.Conf (Log.mk v_148.2.2.2.2.2.1 v_148.2.2.2.2.2.2.1 x_1.n.Log.Entries) v_148.2.2.2.2.2.2.2.1 v_148.2.2.2.2.2.2.2.2.1 v_148.2.2.2.2.2.2.2.2.2.1 x_1.n.Votes x_1.n.Peers) v_148.2.2.2.2.2.2.2.2.2.2))
theorem sem_core_sendAll (N : Nat) (x_1 : Tcore) (r : Tcore) (h : core_sendAll N x_1 = some r) : Says Try.prog 99 [.ptr 0 0] 5 [(0, .box [VI x_1.n.Id, VI x_1.n.Term, VI x_1.n.Vote, VI x_1.n.Role, VI x_1.n.Lead, .sl 1 3 0 x_1.n.Conf.length, VI x_1.n.Log.Start, VI x_1.n.Log.StartTerm, .sl 2 51 0 x_1.n.Log.Entries.length, VI x_1.n.Commit, VI x_1.n.Clock, VI x_1.n.Limit, .sl 3 3 0 x_1.n.Votes.length, .sl 4 135 0 x_1.n.Peers.length, NI 58]), (1, .vec 3 (x_1.n.Conf.map encI)), (2, .vec 51 (x_1.n.Log.Entries.map encEntry)), (3, .vec 3 (x_1.n.Votes.map encI)), (4, .vec 135 (x_1.n.Peers.map encPeer))] (.tup []) [(0, .box [VI r.n.Id, VI r.n.Term, VI r.n.Vote, VI r.n.Role, VI r.n.Lead, .sl 1 3 0 x_1.n.Conf.length, VI r.n.Log.Start, VI r.n.Log.StartTerm, .sl 2 51 0 x_1.n.Log.Entries.length, VI r.n.Commit, VI r.n.Clock, VI r.n.Limit, .sl 3 3 0 x_1.n.Votes.length, .sl 4 135 0 x_1.n.Peers.length, .sl 5 58 0 r.out.length]), (1, .vec 3 (x_1.n.Conf.map encI)), (2, .vec 51 (x_1.n.Log.Entries.map encEntry)), (3, .vec 3 (x_1.n.Votes.map encI)), (4, .vec 135 (x_1.n.Peers.map encPeer)), (5, .vec 58 (r.out.map (encMessage true)))] := by
  unfold core_sendAll at h
  refine Says.of_run s99 Try.call99 rfl fun B hB => ?_
  have hm : B.m ≤ 1000 := by omega
  refine Run.seq (Run.ops hm (Ops.p rfl (Ops.p rfl (Ops.p rfl (Ops.p rfl (Ops.p rfl (Ops.p rfl (Ops.p rfl (Ops.nil (Run.block ?_))))))))))
  obtain ⟨res_148, h, hk_148⟩ := bindO h
  refine Run.loop (n := N) (fun m_148 fr σ => ∃ (x_128 : Int), ∃ (x_129 : Int), ∃ (x_130 : Int), ∃ (x_131 : Int), ∃ (x_132 : Int), ∃ (x_133 : Int), ∃ (x_134 : Int), ∃ (x_135 : Int), ∃ (x_136 : Int), ∃ (x_137 : Int), ∃ (x_138 : Int), ∃ (x_143 : (List Message)), core_sendAll_l1 N x_1 m_148 x_128 x_129 x_130 x_131 x_132 x_133 x_134 x_135 x_136 x_137 x_138 x_143 = some res_148 ∧ fr = [(0, .ptr 0 0), (8, VI ((x_1.n.Peers.length : Nat) : Int)), (9, VI x_128)] ∧ σ = [(0, .box [VI x_129, VI x_130, VI x_131, VI x_132, VI x_133, .sl 1 3 0 x_1.n.Conf.length, VI x_134, VI x_135, .sl 2 51 0 x_1.n.Log.Entries.length, VI x_136, VI x_137, VI x_138, .sl 3 3 0 x_1.n.Votes.length, .sl 4 135 0 x_1.n.Peers.length, .sl 5 58 0 x_143.length]), (1, .vec 3 (x_1.n.Conf.map encI)), (2, .vec 51 (x_1.n.Log.Entries.map encEntry)), (3, .vec 3 (x_1.n.Votes.map encI)), (4, .vec 135 (x_1.n.Peers.map encPeer)), (5, .vec 58 (x_143.map (encMessage true)))]) (Gh.trans (Gh.trans (gh_prn [0, 8, 9] [0, 1, 2, 3, 4] hB rfl) (gh_nil [] [0] hB rfl rfl rfl)) (gh_pk [0, 8, 9] [0, 1, 2, 3, 4, 20000000] hB rfl rfl rfl rfl)) ⟨_, _, _, _, _, _, _, _, _, _, _, _, h, rfl, rfl⟩ ?_
  rintro m_148 fr σ ⟨x_128, x_129, x_130, x_131, x_132, x_133, x_134, x_135, x_136, x_137, x_138, x_143, h, rfl, rfl⟩
  obtain _ | m_148 := m_148
  · rw [core_sendAll_l1] at h; cases h
  rw [core_sendAll_l1] at h
  refine Run.seq (Run.ops hm (Ops.p rfl (Ops.nil (Run.seq (Run.condO rfl h (fun g_151 h => ?_) (fun g_151 h => ?_))))))
  · refine Run.skip (Run.seq (Run.block (Run.seq (Run.ops hm (Ops.p rfl (Ops.p rfl (Ops.nil (Run.ops hm (Ops.p rfl (Ops.p rfl ?_))))))))))
    obtain ⟨y_153, hy_153, h⟩ := bindO h
    exact Ops.st (s := 13320) (Ev.call [0, 1, 2, 3, 4, 5] [] 1 (sem_core_send N (Tcore.mk (Node.mk x_129 x_130 x_131 x_132 x_133 x_1.n.Conf (Log.mk x_134 x_135 x_1.n.Log.Entries) x_136 x_137 x_138 x_1.n.Votes x_1.n.Peers) x_143) x_128 _ hy_153) rfl rfl (.cons (.ptr rfl) (.cons (.c _) .nil)) rfl (.inl rfl) rfl rfl) rfl rfl (Ops.nil (Run.ops hm (Ops.p rfl (Ops.p rfl (Ops.nil (⟨m_148, Nat.lt_succ_self m_148, _, _, (gh_pk [0, 8, 9] [0, 1, 2, 3, 4, 13320] hB rfl rfl rfl rfl), _, _, _, _, _, _, _, _, _, _, _, _, h, rfl, rfl⟩))))))
  · refine Run.exit ?_
    obtain rfl := someO h
    have h := hk_148
    obtain rfl := someO h
    exact Ends.mkG (.inr rfl) rfl (gh_pk [] [0, 1, 2, 3, 4, 5] hB rfl rfl rfl rfl) rfl rfl
def slices_Index_int_l1 (N : Nat) (x_1 : (List Int)) (x_2 : Int) : Nat → Int → Option ((Int) ⊕ (Unit))
 | 0, _ => none
 | m + 1, x_156 =>
 (if (decide (x_156 < (x_1.length : Int))) = true then
 (at? x_1 x_156).bind fun x_168 =>
 (if (x_2 == x_168) = true then
 some (Sum.inl x_156)
 else
 slices_Index_int_l1 N x_1 x_2 m (w64 (x_156 + (1 : Int))))
 else
 some (Sum.inr ()))
def slices_Index_int_l1_r (N : Nat) (x_1 : (List Int)) (x_2 : Int) : (List Int) → Int → Option ((Int) ⊕ (Unit))
 | [], x_156 =>
 some (Sum.inr ())
 | hd :: tl, x_156 =>
 (some hd).bind fun x_168 =>
 (if (x_2 == x_168) = true then
 some (Sum.inl x_156)
 else
 slices_Index_int_l1_r N x_1 x_2 tl (w64 (x_156 + (1 : Int))))
theorem slices_Index_int_l1_rng (N : Nat) (x_1 : (List Int)) (x_2 : Int) (hx : x_1.length ≤ 1099511627776) : ∀ (d k m : Nat), x_1.length = k + d → d < m → slices_Index_int_l1 N x_1 x_2 m (k : Int) = slices_Index_int_l1_r N x_1 x_2 (x_1.drop k) (k : Int) := by
  intro d
  induction d with
  | zero =>
    intro k m hd hm
    obtain ⟨m, rfl⟩ : ∃ q, m = q + 1 := ⟨m - 1, by omega⟩
    rw [slices_Index_int_l1, if_neg (by simp; omega), List.drop_eq_nil_of_le (by omega), slices_Index_int_l1_r]
  | succ d ih =>
    intro k m hd hm
    obtain ⟨m, rfl⟩ : ∃ q, m = q + 1 := ⟨m - 1, by omega⟩
    have hk : k < x_1.length := by omega
    rw [slices_Index_int_l1, if_pos (by simp; omega), List.drop_eq_getElem_cons hk, slices_Index_int_l1_r]
    have h1 := at_lt hk
    have h2 := w64_succ (k := k) (by omega)
    have h3 := ih (k + 1) m
    simp only [h1, h2, h3 (by omega) (by omega)]
theorem slices_Index_int_l1_eq {N : Nat} (x_1 : (List Int)) (x_2 : Int) (hx : x_1.length ≤ 1099511627776) (hN : x_1.length < N) : slices_Index_int_l1 N x_1 x_2 N 0 = slices_Index_int_l1_r N x_1 x_2 x_1 0 := slices_Index_int_l1_rng N x_1 x_2 hx x_1.length 0 N (by omega) hN
def slices_Index_int (N : Nat) (x_1 : (List Int)) (x_2 : Int) : Option (Int) :=
 joinP (fun (v_152 : Unit) =>
 some (-1 : Int)) fun j_152 =>
 (slices_Index_int_l1 N x_1 x_2 N (0 : Int)).bind (Sum.elim (fun v_162 => some v_162) (fun (v_163 : Unit) => j_152 ()))
theorem sem_slices_Index_int (N : Nat) (x_1 : (List Int)) (x_2 : Int) (r : Int) (h : slices_Index_int N x_1 x_2 = some r) : Says Try.prog 167 [RO 3 (x_1.map encI), VI x_2] 0 [] (VI r) [] := by
  unfold slices_Index_int at h
  refine Says.of_run s167 Try.call167 rfl fun B hB => ?_
  have hm : B.m ≤ 1000 := by omega
  refine Run.seq (Run.ops hm (Ops.p rfl (Ops.nil (Run.seqO h (fun (v_152 : Unit) => []) (fun (v_152 : Unit) => []) (fun h => ?_) (fun v_152 h => ?_)))))
  · refine Run.seq (Run.ops hm (Ops.p rfl (Ops.st (s := 5112) (Ev.lnF rfl) rfl rfl (Ops.p rfl (Ops.nil (Run.block ?_))))))
    obtain ⟨res_163, h, hk_163⟩ := bindO h
    refine Run.loop (n := N) (fun m_163 fr σ => ∃ (x_156 : Int), slices_Index_int_l1 N x_1 x_2 m_163 x_156 = some res_163 ∧ fr = [(0, RO 3 (x_1.map encI)), (1, VI x_2), (7, VI (x_1.length : Int)), (8, VI x_156)] ∧ σ = []) (gh_pk [0, 1, 7, 8] [] hB rfl rfl rfl rfl) ⟨_, h, rfl, rfl⟩ ?_
    rintro m_163 fr σ ⟨x_156, h, rfl, rfl⟩
    obtain _ | m_163 := m_163
    · rw [slices_Index_int_l1] at h; cases h
    rw [slices_Index_int_l1] at h
    refine Run.seq (Run.ops hm (Ops.p rfl (Ops.nil (Run.seq (Run.condO rfl h (fun g_166 h => ?_) (fun g_166 h => ?_))))))
    · refine Run.skip (Run.seq (Run.block (Run.seq (Run.ops hm (Ops.p rfl (Ops.p rfl (Ops.nil (Run.seq (Run.ops hm (Ops.p rfl (Ops.p rfl (Ops.p rfl ?_))))))))))))
      obtain ⟨x_168, hx_168, h⟩ := bindO h
      refine Ops.st (s := 17432) (Ev.iaF rfl rfl hx_168) rfl rfl (Ops.p rfl (Ops.p rfl (Ops.nil (Run.condO rfl h (fun g_169 h => ?_) (fun g_169 h => ?_)))))
      · refine Run.seq (Run.ops hm (Ops.p rfl (Ops.p rfl (Ops.nil (Run.ret ?_)))))
        obtain rfl := someO h
        have h := hk_163
        replace h := inlO h
        obtain rfl := someO h
        exact Ends.mkG (.inl rfl) rfl (gh_pk [0] [] hB rfl rfl rfl rfl) rfl rfl
      · exact Run.skip (Run.ops hm (Ops.p rfl (Ops.p rfl (Ops.nil (⟨m_163, Nat.lt_succ_self m_163, _, _, (gh_pk [0, 1, 7, 8] [] hB rfl rfl rfl rfl), _, h, rfl, rfl⟩)))))
    · refine Run.exit ?_
      obtain rfl := someO h
      have h := hk_163
      replace h := inrO h
      exact ⟨_, _, (gh_pk [] [] hB rfl rfl rfl rfl), (), h, rfl, rfl⟩
  · refine Run.seq (Run.ops hm (Ops.p rfl (Ops.nil (Run.ret ?_))))
    obtain rfl := someO h
    exact Ends.mkG (.inl rfl) rfl (gh_pk [0] [] hB rfl rfl rfl rfl) rfl rfl
def slices_Contains_int (N : Nat) (x_1 : (List Int)) (x_2 : Int) : Option (Bool) :=
 (slices_Index_int N x_1 x_2).bind fun y_103 =>
 some (decide (y_103 ≥ (0 : Int)))
theorem sem_slices_Contains_int (N : Nat) (x_1 : (List Int)) (x_2 : Int) (r : Bool) (h : slices_Contains_int N x_1 x_2 = some r) : Says Try.prog 117 [RO 3 (x_1.map encI), VI x_2] 0 [] (VB r) [] := by
  unfold slices_Contains_int at h
  refine Says.of_run s117 Try.call117 rfl fun B hB => ?_
  have hm : B.m ≤ 1000 := by omega
  refine Run.seq (Run.ops hm (Ops.p rfl (Ops.nil (Run.seq (Run.ops hm (Ops.p rfl (Ops.p rfl ?_)))))))
  obtain ⟨y_103, hy_103, h⟩ := bindO h
  refine Ops.st (s := 5128) (Ev.call [] [] 0 (sem_slices_Index_int N x_1 x_2 _ hy_103) rfl rfl (.cons (.c _) (.cons (.c _) .nil)) rfl (.inl rfl) rfl rfl) rfl rfl (Ops.p rfl (Ops.p rfl (Ops.nil (Run.ret ?_))))
  obtain rfl := someO h
  exact Ends.mkG (.inl rfl) rfl (gh_pk [0] [] hB rfl rfl rfl rfl) rfl rfl
def impl_Most_l1 (N : Nat) (x_1 : (List Int)) (x_2 : (List Int)) : Nat → Int → Int → Option (Int)
 | 0, _, _ => none
 | m + 1, x_186, x_189 =>
 (if (decide (x_189 < (x_1.length : Int))) = true then
 (at? x_1 x_189).bind fun x_206 =>
 (slices_Contains_int N x_2 x_206).bind fun y_208 =>
 (if y_208 = true then
 impl_Most_l1 N x_1 x_2 m (w64 (x_186 + (1 : Int))) (w64 (x_189 + (1 : Int)))
 else
 impl_Most_l1 N x_1 x_2 m x_186 (w64 (x_189 + (1 : Int))))
 else
 some x_186)
def impl_Most_l1_r (N : Nat) (x_1 : (List Int)) (x_2 : (List Int)) : (List Int) → Int → Int → Option (Int)
 | [], x_186, x_189 =>
 some x_186
 | hd :: tl, x_186, x_189 =>
 (some hd).bind fun x_206 =>
 (slices_Contains_int N x_2 x_206).bind fun y_208 =>
 (if y_208 = true then
 impl_Most_l1_r N x_1 x_2 tl (w64 (x_186 + (1 : Int))) (w64 (x_189 + (1 : Int)))
 else
 impl_Most_l1_r N x_1 x_2 tl x_186 (w64 (x_189 + (1 : Int))))
theorem impl_Most_l1_rng (N : Nat) (x_1 : (List Int)) (x_2 : (List Int)) (hx : x_1.length ≤ 1099511627776) : ∀ (d k m : Nat) (x_186 : Int), x_1.length = k + d → d < m → impl_Most_l1 N x_1 x_2 m x_186 (k : Int) = impl_Most_l1_r N x_1 x_2 (x_1.drop k) x_186 (k : Int) := by
  intro d
  induction d with
  | zero =>
    intro k m x_186 hd hm
    obtain ⟨m, rfl⟩ : ∃ q, m = q + 1 := ⟨m - 1, by omega⟩
    rw [impl_Most_l1, if_neg (by simp; omega), List.drop_eq_nil_of_le (by omega), impl_Most_l1_r]
  | succ d ih =>
    intro k m x_186 hd hm
    obtain ⟨m, rfl⟩ : ∃ q, m = q + 1 := ⟨m - 1, by omega⟩
    have hk : k < x_1.length := by omega
    rw [impl_Most_l1, if_pos (by simp; omega), List.drop_eq_getElem_cons hk, impl_Most_l1_r]
    have h1 := at_lt hk
    have h2 := w64_succ (k := k) (by omega)
    have h3 := ih (k + 1) m
    simp only [h1, h2, h3 _ (by omega) (by omega)]
theorem impl_Most_l1_eq {N : Nat} (x_1 : (List Int)) (x_2 : (List Int)) (hx : x_1.length ≤ 1099511627776) (hN : x_1.length < N) (x_186 : Int) : impl_Most_l1 N x_1 x_2 N x_186 0 = impl_Most_l1_r N x_1 x_2 x_1 x_186 0 := impl_Most_l1_rng N x_1 x_2 hx x_1.length 0 N x_186 (by omega) hN
def impl_Most (N : Nat) (x_1 : (List Int)) (x_2 : (List Int)) : Option (Bool) :=
 joinP (fun (v_183 : Int) =>
 (impl_ConfOk N x_1).bind fun y_212 =>
 (if y_212 = true then
 some (decide ((w64 ((2 : Int) * v_183)) > (x_1.length : Int)))
 else
 some false)) fun j_183 =>
 (impl_Most_l1 N x_1 x_2 N (0 : Int) (0 : Int)).bind (fun (v_199 : Int) => j_183 v_199)
theorem sem_impl_Most (N : Nat) (x_1 : (List Int)) (x_2 : (List Int)) (r : Bool) (h : impl_Most N x_1 x_2 = some r) : Says Try.prog 118 [RO 3 (x_1.map encI), RO 3 (x_2.map encI)] 0 [] (VB r) [] := by
  unfold impl_Most at h
  refine Says.of_run s118 Try.call118 rfl fun B hB => ?_
  have hm : B.m ≤ 1000 := by omega
  refine Run.seq (Run.ops hm (Ops.p rfl (Ops.nil (Run.seq (Run.ops hm (Ops.p rfl (Ops.nil (Run.seqO h (fun (v_183 : Int) => [(0, RO 3 (x_1.map encI)), (5, VI v_183)]) (fun (v_183 : Int) => []) (fun h => ?_) (fun v_183 h => ?_)))))))))
  · refine Run.seq (Run.ops hm (Ops.p rfl (Ops.st (s := 9208) (Ev.lnF rfl) rfl rfl (Ops.p rfl (Ops.nil (Run.block ?_))))))
    obtain ⟨res_199, h, hk_199⟩ := bindO h
    refine Run.loop (n := N) (fun m_199 fr σ => ∃ (x_186 : Int), ∃ (x_189 : Int), impl_Most_l1 N x_1 x_2 m_199 x_186 x_189 = some res_199 ∧ fr = [(0, RO 3 (x_1.map encI)), (1, RO 3 (x_2.map encI)), (5, VI x_186), (8, RO 3 (x_1.map encI)), (9, VI (x_1.length : Int)), (10, VI x_189)] ∧ σ = []) (gh_pk [0, 1, 5, 8, 9, 10] [] hB rfl rfl rfl rfl) ⟨_, _, h, rfl, rfl⟩ ?_
    rintro m_199 fr σ ⟨x_186, x_189, h, rfl, rfl⟩
    obtain _ | m_199 := m_199
    · rw [impl_Most_l1] at h; cases h
    rw [impl_Most_l1] at h
    refine Run.seq (Run.ops hm (Ops.p rfl (Ops.nil (Run.seq (Run.condO rfl h (fun g_202 h => ?_) (fun g_202 h => ?_))))))
    · refine Run.skip (Run.seq (Run.block (Run.seq (Run.ops hm ?_))))
      obtain ⟨x_206, hx_206, h⟩ := bindO h
      refine Ops.st (s := 17384) (Ev.iaF rfl rfl hx_206) rfl rfl (Ops.p rfl (Ops.p rfl (Ops.nil (Run.seq (Run.ops hm (Ops.p rfl (Ops.p rfl ?_)))))))
      obtain ⟨y_208, hy_208, h⟩ := bindO h
      refine Ops.st (s := 21512) (Ev.call [] [] 0 (sem_slices_Contains_int N x_2 x_206 _ hy_208) rfl rfl (.cons (.c _) (.cons (.c _) .nil)) rfl (.inl rfl) rfl rfl) rfl rfl (Ops.nil (Run.condO rfl h (fun g_209 h => ?_) (fun g_209 h => ?_)))
      · exact Run.ops hm (Ops.p rfl (Ops.p rfl (Ops.p rfl (Ops.nil (Run.ops hm (Ops.p rfl (Ops.p rfl (Ops.nil (⟨m_199, Nat.lt_succ_self m_199, _, _, (gh_pk [0, 1, 5, 8, 9, 10] [] hB rfl rfl rfl rfl), _, _, h, rfl, rfl⟩)))))))))
      · exact Run.skip (Run.ops hm (Ops.p rfl (Ops.p rfl (Ops.nil (⟨m_199, Nat.lt_succ_self m_199, _, _, (gh_pk [0, 1, 5, 8, 9, 10] [] hB rfl rfl rfl rfl), _, _, h, rfl, rfl⟩)))))
    · refine Run.exit ?_
      obtain rfl := someO h
      have h := hk_199
      exact ⟨_, _, (gh_pk [0, 5] [] hB rfl rfl rfl rfl), x_186, h, rfl, rfl⟩
  · refine Run.seq (Run.ops hm (Ops.p rfl ?_))
    obtain ⟨y_212, hy_212, h⟩ := bindO h
    refine Ops.st (s := 33784) (Ev.call [] [] 0 (sem_impl_ConfOk N x_1 _ hy_212) rfl rfl (.cons (.c _) .nil) rfl (.inl rfl) rfl rfl) rfl rfl (Ops.p rfl (Ops.askO (x := .t 22) rfl h (fun g_213 h => ?_) (fun g_213 h => ?_)))
    · refine Ops.gp rfl g_213 rfl (Ops.gp rfl g_213 rfl (Ops.gp rfl g_213 rfl (Ops.gs (s := 33864) rfl g_213 (Ev.lnF rfl) rfl rfl (Ops.gp rfl g_213 rfl (Ops.st (s := 33896) (.pkT rfl g_213 rfl) rfl rfl (Ops.p rfl (Ops.nil (Run.ret ?_))))))))
      obtain rfl := someO h
      exact Ends.mkG (.inl rfl) rfl (gh_pk [0] [] hB rfl rfl rfl rfl) rfl rfl
    · refine Ops.gn rfl g_213 (Ops.gn rfl g_213 (Ops.gn rfl g_213 (Ops.gn rfl g_213 (Ops.gn rfl g_213 (Ops.st (s := 33896) (.pkF rfl g_213 rfl) rfl rfl (Ops.p rfl (Ops.nil (Run.ret ?_))))))))
      obtain rfl := someO h
      exact Ends.mkG (.inl rfl) rfl (gh_pk [0] [] hB rfl rfl rfl rfl) rfl rfl
def impl_lastConf_l1 (N : Nat) (x_1 : Log) : Nat → Int → Option ((Int) ⊕ (Unit))
 | 0, _ => none
 | m + 1, x_171 =>
 (if (decide (x_171 ≥ (0 : Int))) = true then
 (at? x_1.Entries x_171).bind fun x_192 =>
 (if (x_192.Kind == (2 : Int)) = true then
 some (Sum.inl (w64 ((w64 (x_1.Start + x_171)) + (1 : Int))))
 else
 impl_lastConf_l1 N x_1 m (w64 (x_171 - (1 : Int))))
 else
 some (Sum.inr ()))
def impl_lastConf (N : Nat) (x_1 : Log) : Option (Int) :=
 joinP (fun (v_170 : Unit) =>
 some (0 : Int)) fun j_170 =>
 (impl_lastConf_l1 N x_1 N (w64 ((x_1.Entries.length : Int) - (1 : Int)))).bind (Sum.elim (fun v_183 => some v_183) (fun (v_184 : Unit) => j_170 ()))
theorem sem_impl_lastConf (N : Nat) (x_1 : Log) (r : Int) (h : impl_lastConf N x_1 = some r) : Says Try.prog 159 [.agg [VI x_1.Start, VI x_1.StartTerm, RO 51 (x_1.Entries.map encEntry)]] 0 [] (VI r) [] := by
  unfold impl_lastConf at h
  refine Says.of_run s159 Try.call159 rfl fun B hB => ?_
  have hm : B.m ≤ 1000 := by omega
  refine Run.seq (Run.ops hm (Ops.st (s := 1000) (.bx rfl rfl) rfl rfl (Ops.p rfl (Ops.nil (Run.seqO h (fun (v_170 : Unit) => []) (fun (v_170 : Unit) => []) (fun h => ?_) (fun v_170 h => ?_))))))
  · refine Run.seq (Run.ops hm (Ops.p rfl (Ops.p rfl (Ops.st (s := 5128) (Ev.lnF rfl) rfl rfl (Ops.p rfl (Ops.p rfl (Ops.nil (Run.block ?_))))))))
    obtain ⟨res_184, h, hk_184⟩ := bindO h
    refine Run.loop (n := N) (fun m_184 fr σ => ∃ (x_171 : Int), impl_lastConf_l1 N x_1 m_184 x_171 = some res_184 ∧ fr = [(1, .ptr 0 0), (3, VI x_171)] ∧ σ = [(0, .box [VI x_1.Start, VI x_1.StartTerm, RO 51 (x_1.Entries.map encEntry)])]) (gh_pk [1, 3] [1000] hB rfl rfl rfl rfl) ⟨_, h, rfl, rfl⟩ ?_
    rintro m_184 fr σ ⟨x_171, h, rfl, rfl⟩
    obtain _ | m_184 := m_184
    · rw [impl_lastConf_l1] at h; cases h
    rw [impl_lastConf_l1] at h
    refine Run.seq (Run.seq (Run.ops hm (Ops.p rfl (Ops.p rfl (Ops.nil (Run.condO rfl h (fun g_187 h => ?_) (fun g_187 h => ?_)))))))
    · refine Run.skip (Run.seq (Run.block (Run.seq (Run.ops hm (Ops.p rfl (Ops.p rfl (Ops.p rfl ?_)))))))
      obtain ⟨x_192, hx_192, h⟩ := bindO h
      refine Ops.st (s := 17432) (Ev.iaF rfl rfl hx_192) rfl rfl (Ops.p rfl (Ops.p rfl (Ops.p rfl (Ops.nil (Run.condO rfl h (fun g_193 h => ?_) (fun g_193 h => ?_))))))
      · refine Run.seq (Run.ops hm (Ops.p rfl (Ops.p rfl (Ops.p rfl (Ops.p rfl (Ops.p rfl (Ops.p rfl (Ops.nil (Run.ret ?_)))))))))
        obtain rfl := someO h
        have h := hk_184
        replace h := inlO h
        obtain rfl := someO h
        exact Ends.mkG (.inl rfl) rfl (gh_pk [0] [] hB rfl rfl rfl rfl) rfl rfl
      · exact Run.skip (Run.ops hm (Ops.p rfl (Ops.p rfl (Ops.p rfl (Ops.nil (⟨m_184, Nat.lt_succ_self m_184, _, _, (gh_pk [1, 3] [0] hB rfl rfl rfl rfl), _, h, rfl, rfl⟩))))))
    · refine Run.exit ?_
      obtain rfl := someO h
      have h := hk_184
      replace h := inrO h
      exact ⟨_, _, (gh_pk [] [] hB rfl rfl rfl rfl), (), h, rfl, rfl⟩
  · refine Run.seq (Run.ops hm (Ops.p rfl (Ops.nil (Run.ret ?_))))
    obtain rfl := someO h
    exact Ends.mkG (.inl rfl) rfl (gh_pk [0] [] hB rfl rfl rfl rfl) rfl rfl
def core_commit_l2 (N : Nat) (x_1 : Tcore) (x_1257 : Int) : Nat → Int → (List Int) → Option ((List Int))
 | 0, _, _ => none
 | m + 1, x_1587, x_1603 =>
 (if (decide (x_1587 < ((x_1.n.Peers.length : Nat) : Int))) = true then
 (at? x_1.n.Peers x_1587).bind fun x_1620 =>
 (if (decide (x_1620.Match ≥ x_1257)) = true then
 (cat? x_1603 ([x_1620.Id] : List Int)).bind fun x_1623 =>
 core_commit_l2 N x_1 x_1257 m (w64 (x_1587 + (1 : Int))) x_1623
 else
 core_commit_l2 N x_1 x_1257 m (w64 (x_1587 + (1 : Int))) x_1603)
 else
 some x_1603)
def core_commit_l1 (N : Nat) (x_1 : Tcore) : Nat → Int → Option (Int)
 | 0, _ => none
 | m + 1, x_1257 =>
 (if (decide (x_1257 > x_1.n.Commit)) = true then
 joinP (fun (v_1544 : Unit) =>
 core_commit_l1 N x_1 m (w64 (x_1257 - (1 : Int)))) fun j_1544 =>
 joinP (fun (v_1584 : (List Int)) =>
 (impl_LogTerm N x_1.n.Log x_1257).bind fun y_1628 =>
 (if (y_1628 == x_1.n.Term) = true then
 (impl_ConfOf N x_1.n).bind fun y_1630 =>
 (impl_Most N y_1630 v_1584).bind fun y_1631 =>
 (if y_1631 = true then
 some x_1257
 else
 j_1544 ())
 else
 j_1544 ())) fun j_1584 =>
 (core_commit_l2 N x_1 x_1257 N (0 : Int) ([x_1.n.Id] : List Int)).bind (fun (v_1613 : (List Int)) => j_1584 v_1613)
 else
 some x_1.n.Commit)
def core_commit (N : Nat) (x_1 : Tcore) : Option (Tcore) :=
 joinP (fun (v_1252 : Int) =>
 (if (x_1.n.Role == (2 : Int)) = true then
 (impl_ConfOf N (Node.mk x_1.n.Id x_1.n.Term x_1.n.Vote x_1.n.Role x_1.n.Lead x_1.n.Conf x_1.n.Log v_1252 x_1.n.Clock x_1.n.Limit x_1.n.Votes x_1.n.Peers)).bind fun y_1639 =>
 (slices_Contains_int N y_1639 x_1.n.Id).bind fun y_1640 =>
 (if (!y_1640) = true then
 (impl_lastConf N x_1.n.Log).bind fun y_1642 =>
 (if (decide (y_1642 ≤ v_1252)) = true then
 some (Tcore.mk (Node.mk x_1.n.Id x_1.n.Term x_1.n.Vote (0 : Int) (0 : Int) x_1.n.Conf x_1.n.Log v_1252 x_1.n.Clock x_1.n.Limit x_1.n.Votes ([])) x_1.out)
 else
 some (Tcore.mk (Node.mk x_1.n.Id x_1.n.Term x_1.n.Vote x_1.n.Role x_1.n.Lead x_1.n.Conf x_1.n.Log v_1252 x_1.n.Clock x_1.n.Limit x_1.n.Votes x_1.n.Peers) x_1.out))
 else
 some (Tcore.mk (Node.mk x_1.n.Id x_1.n.Term x_1.n.Vote x_1.n.Role x_1.n.Lead x_1.n.Conf x_1.n.Log v_1252 x_1.n.Clock x_1.n.Limit x_1.n.Votes x_1.n.Peers) x_1.out))
 else
 some (Tcore.mk (Node.mk x_1.n.Id x_1.n.Term x_1.n.Vote x_1.n.Role x_1.n.Lead x_1.n.Conf x_1.n.Log v_1252 x_1.n.Clock x_1.n.Limit x_1.n.Votes x_1.n.Peers) x_1.out))) fun j_1252 =>
 (impl_last N x_1.n.Log).bind fun y_1256 =>
 (core_commit_l1 N x_1 N y_1256).bind (fun (v_1452 : Int) => j_1252 v_1452)
theorem sem_core_commit (N : Nat) (x_1 : Tcore) (r : Tcore) (h : core_commit N x_1 = some r) : Says Try.prog 98 [.ptr 0 0] 6 [(0, .box [VI x_1.n.Id, VI x_1.n.Term, VI x_1.n.Vote, VI x_1.n.Role, VI x_1.n.Lead, .sl 1 3 0 x_1.n.Conf.length, VI x_1.n.Log.Start, VI x_1.n.Log.StartTerm, .sl 2 51 0 x_1.n.Log.Entries.length, VI x_1.n.Commit, VI x_1.n.Clock, VI x_1.n.Limit, .sl 3 3 0 x_1.n.Votes.length, .sl 4 135 0 x_1.n.Peers.length, .sl 5 58 0 x_1.out.length]), (1, .vec 3 (x_1.n.Conf.map encI)), (2, .vec 51 (x_1.n.Log.Entries.map encEntry)), (3, .vec 3 (x_1.n.Votes.map encI)), (4, .vec 135 (x_1.n.Peers.map encPeer)), (5, .vec 58 (x_1.out.map (encMessage true)))] (.tup []) [(0, .box [VI r.n.Id, VI r.n.Term, VI r.n.Vote, VI r.n.Role, VI r.n.Lead, .sl 6 3 0 r.n.Conf.length, VI r.n.Log.Start, VI r.n.Log.StartTerm, .sl 7 51 0 r.n.Log.Entries.length, VI r.n.Commit, VI r.n.Clock, VI r.n.Limit, .sl 8 3 0 r.n.Votes.length, .sl 9 135 0 r.n.Peers.length, .sl 10 58 0 r.out.length]), (1, .gone), (2, .gone), (3, .gone), (4, .gone), (5, .gone), (6, .vec 3 (r.n.Conf.map encI)), (7, .vec 51 (r.n.Log.Entries.map encEntry)), (8, .vec 3 (r.n.Votes.map encI)), (9, .vec 135 (r.n.Peers.map encPeer)), (10, .vec 58 (r.out.map (encMessage true)))] := by
  unfold core_commit at h
  refine Says.of_run s98 Try.call98 rfl fun B hB => ?_
  have hm : B.m ≤ 1000 := by omega
  refine Run.seq (Run.ops hm (Ops.p rfl (Ops.p rfl (Ops.p rfl (Ops.p rfl (Ops.nil (Run.seqO h (fun (v_1252 : Int) => [(2, .ptr 0 0)]) (fun (v_1252 : Int) => [(0, .box [VI x_1.n.Id, VI x_1.n.Term, VI x_1.n.Vote, VI x_1.n.Role, VI x_1.n.Lead, .sl 1 3 0 x_1.n.Conf.length, VI x_1.n.Log.Start, VI x_1.n.Log.StartTerm, .sl 2 51 0 x_1.n.Log.Entries.length, VI v_1252, VI x_1.n.Clock, VI x_1.n.Limit, .sl 3 3 0 x_1.n.Votes.length, .sl 4 135 0 x_1.n.Peers.length, .sl 5 58 0 x_1.out.length]), (1, .vec 3 (x_1.n.Conf.map encI)), (2, .vec 51 (x_1.n.Log.Entries.map encEntry)), (3, .vec 3 (x_1.n.Votes.map encI)), (4, .vec 135 (x_1.n.Peers.map encPeer)), (5, .vec 58 (x_1.out.map (encMessage true)))]) (fun h => ?_) (fun v_1252 h => ?_))))))))
  · refine Run.seq (Run.ops hm (Ops.p rfl (Ops.p rfl (Ops.p rfl (Ops.p rfl ?_)))))
    obtain ⟨y_1256, hy_1256, h⟩ := bindO h
    refine Ops.st (s := 5160) (Ev.call [] [2] 0 (sem_impl_last N x_1.n.Log _ hy_1256) rfl rfl (.cons (.agg (.cons (.c _) (.cons (.c _) (.cons (.borrow rfl (by decide) (lendW (fun _ => rfl) _ rfl)) .nil)))) .nil) rfl (.inr ⟨rfl, ownL_root trivial⟩) rfl rfl) rfl rfl ?_
    refine Ops.p rfl (Ops.nil (Run.block ?_))
    obtain ⟨res_1452, h, hk_1452⟩ := bindO h
    refine Run.loop (n := N) (fun m_1452 fr σ => ∃ (x_1257 : Int), core_commit_l1 N x_1 m_1452 x_1257 = some res_1452 ∧ fr = [(2, .ptr 0 0), (3, VI x_1257)] ∧ σ = [(0, .box [VI x_1.n.Id, VI x_1.n.Term, VI x_1.n.Vote, VI x_1.n.Role, VI x_1.n.Lead, .sl 1 3 0 x_1.n.Conf.length, VI x_1.n.Log.Start, VI x_1.n.Log.StartTerm, .sl 2 51 0 x_1.n.Log.Entries.length, VI x_1.n.Commit, VI x_1.n.Clock, VI x_1.n.Limit, .sl 3 3 0 x_1.n.Votes.length, .sl 4 135 0 x_1.n.Peers.length, .sl 5 58 0 x_1.out.length]), (1, .vec 3 (x_1.n.Conf.map encI)), (2, .vec 51 (x_1.n.Log.Entries.map encEntry)), (3, .vec 3 (x_1.n.Votes.map encI)), (4, .vec 135 (x_1.n.Peers.map encPeer)), (5, .vec 58 (x_1.out.map (encMessage true)))]) (gh_pk [2, 3] [0, 1, 2, 3, 4, 5] hB rfl rfl rfl rfl) ⟨_, h, rfl, rfl⟩ ?_
    rintro m_1452 fr σ ⟨x_1257, h, rfl, rfl⟩
    obtain _ | m_1452 := m_1452
    · rw [core_commit_l1] at h; cases h
    rw [core_commit_l1] at h
    refine Run.seq (Run.seq (Run.ops hm (Ops.p rfl (Ops.p rfl (Ops.p rfl (Ops.p rfl (Ops.p rfl (Ops.p rfl (Ops.nil (Run.condO rfl h (fun g_1455 h => ?_) (fun g_1455 h => ?_)))))))))))
    · refine Run.skip (Run.seqO h (fun (v_1544 : Unit) => [(2, .ptr 0 0), (3, VI x_1257)]) (fun (v_1544 : Unit) => [(0, .box [VI x_1.n.Id, VI x_1.n.Term, VI x_1.n.Vote, VI x_1.n.Role, VI x_1.n.Lead, .sl 1 3 0 x_1.n.Conf.length, VI x_1.n.Log.Start, VI x_1.n.Log.StartTerm, .sl 2 51 0 x_1.n.Log.Entries.length, VI x_1.n.Commit, VI x_1.n.Clock, VI x_1.n.Limit, .sl 3 3 0 x_1.n.Votes.length, .sl 4 135 0 x_1.n.Peers.length, .sl 5 58 0 x_1.out.length]), (1, .vec 3 (x_1.n.Conf.map encI)), (2, .vec 51 (x_1.n.Log.Entries.map encEntry)), (3, .vec 3 (x_1.n.Votes.map encI)), (4, .vec 135 (x_1.n.Peers.map encPeer)), (5, .vec 58 (x_1.out.map (encMessage true)))]) (fun h => ?_) (fun v_1544 h => ?_))
      · refine Run.block (Run.seq (Run.ops hm (Ops.p rfl (Ops.p rfl (Ops.p rfl (Ops.p rfl (Ops.st (s := 17448) (Ev.bsW (ys := ([x_1.n.Id] : List Int)) (f := encI) rfl (.cons (.c _) .nil) rfl rfl rfl rfl rfl) rfl rfl (Ops.p rfl (Ops.nil (Run.seqO h (fun (v_1584 : (List Int)) => [(2, .ptr 0 0), (3, VI x_1257), (4, .sl 6 3 0 v_1584.length)]) (fun (v_1584 : (List Int)) => [(0, .box [VI x_1.n.Id, VI x_1.n.Term, VI x_1.n.Vote, VI x_1.n.Role, VI x_1.n.Lead, .sl 1 3 0 x_1.n.Conf.length, VI x_1.n.Log.Start, VI x_1.n.Log.StartTerm, .sl 2 51 0 x_1.n.Log.Entries.length, VI x_1.n.Commit, VI x_1.n.Clock, VI x_1.n.Limit, .sl 3 3 0 x_1.n.Votes.length, .sl 4 135 0 x_1.n.Peers.length, .sl 5 58 0 x_1.out.length]), (1, .vec 3 (x_1.n.Conf.map encI)), (2, .vec 51 (x_1.n.Log.Entries.map encEntry)), (3, .vec 3 (x_1.n.Votes.map encI)), (4, .vec 135 (x_1.n.Peers.map encPeer)), (5, .vec 58 (x_1.out.map (encMessage true))), (6, .vec 3 (v_1584.map encI))]) (fun h => ?_) (fun v_1584 h => ?_)))))))))))
        · refine Run.seq (Run.ops hm (Ops.p rfl (Ops.p rfl (Ops.p rfl (Ops.p rfl (Ops.p rfl (Ops.p rfl (Ops.nil (Run.block ?_)))))))))
          obtain ⟨res_1613, h, hk_1613⟩ := bindO h
          refine Run.loop (n := N) (fun m_1613 fr σ => ∃ (x_1587 : Int), ∃ (x_1603 : (List Int)), core_commit_l2 N x_1 x_1257 m_1613 x_1587 x_1603 = some res_1613 ∧ fr = [(2, .ptr 0 0), (3, VI x_1257), (4, .sl 6 3 0 x_1603.length), (31, .sl 4 135 0 x_1.n.Peers.length), (32, VI ((x_1.n.Peers.length : Nat) : Int)), (33, VI x_1587)] ∧ σ = [(0, .box [VI x_1.n.Id, VI x_1.n.Term, VI x_1.n.Vote, VI x_1.n.Role, VI x_1.n.Lead, .sl 1 3 0 x_1.n.Conf.length, VI x_1.n.Log.Start, VI x_1.n.Log.StartTerm, .sl 2 51 0 x_1.n.Log.Entries.length, VI x_1.n.Commit, VI x_1.n.Clock, VI x_1.n.Limit, .sl 3 3 0 x_1.n.Votes.length, .sl 4 135 0 x_1.n.Peers.length, .sl 5 58 0 x_1.out.length]), (1, .vec 3 (x_1.n.Conf.map encI)), (2, .vec 51 (x_1.n.Log.Entries.map encEntry)), (3, .vec 3 (x_1.n.Votes.map encI)), (4, .vec 135 (x_1.n.Peers.map encPeer)), (5, .vec 58 (x_1.out.map (encMessage true))), (6, .vec 3 (x_1603.map encI))]) (gh_pk [2, 3, 4, 31, 32, 33] [0, 1, 2, 3, 4, 5, 17448] hB rfl rfl rfl rfl) ⟨_, _, h, rfl, rfl⟩ ?_
          rintro m_1613 fr σ ⟨x_1587, x_1603, h, rfl, rfl⟩
          obtain _ | m_1613 := m_1613
          · rw [core_commit_l2] at h; cases h
          rw [core_commit_l2] at h
          refine Run.seq (Run.ops hm (Ops.p rfl (Ops.nil (Run.seq (Run.condO rfl h (fun g_1616 h => ?_) (fun g_1616 h => ?_))))))
          · refine Run.skip (Run.seq (Run.block (Run.seq (Run.ops hm ?_))))
            obtain ⟨x_1620, hx_1620, h⟩ := bindO h
            refine Ops.st (s := 29672) (Ev.iaW rfl rfl rfl hx_1620) rfl rfl (Ops.st (s := 29688) (Ev.ldE (f := encPeer) rfl rfl (at_some hx_1620).2 rfl rfl rfl) rfl rfl (Ops.st (s := 29704) (.al rfl rfl) rfl rfl (Ops.s0 (s := 29720) (.sto rfl rfl rfl rfl rfl rfl) rfl rfl (Ops.nil (Run.seq (Run.ops hm (Ops.p rfl (Ops.p rfl (Ops.p rfl (Ops.p rfl (Ops.nil (Run.condO rfl h (fun g_1621 h => ?_) (fun g_1621 h => ?_)))))))))))))
            · refine Run.ops hm (Ops.p rfl (Ops.p rfl (Ops.p rfl (Ops.st (s := 37912) (Ev.bsW (ys := ([x_1620.Id] : List Int)) (f := encI) rfl (.cons (.c _) .nil) rfl rfl rfl rfl rfl) rfl rfl ?_))))
              obtain ⟨x_1623, hx_1623, h⟩ := bindO h
              exact Ops.st (s := 37928) (Ev.apW (f := encI) (ontoW rfl rfl rfl) (addsW rfl rfl rfl (fun _ => rfl)) rfl bt3 rfl hx_1623) rfl rfl (Ops.p rfl (Ops.nil (Run.ops hm (Ops.p rfl (Ops.p rfl (Ops.nil (⟨m_1613, Nat.lt_succ_self m_1613, _, _, (gh_pk [2, 3, 4, 31, 32, 33] [0, 1, 2, 3, 4, 5, 37928] hB rfl rfl rfl rfl), _, _, h, rfl, rfl⟩)))))))
            · exact Run.skip (Run.ops hm (Ops.p rfl (Ops.p rfl (Ops.nil (⟨m_1613, Nat.lt_succ_self m_1613, _, _, (gh_pk [2, 3, 4, 31, 32, 33] [0, 1, 2, 3, 4, 5, 6] hB rfl rfl rfl rfl), _, _, h, rfl, rfl⟩)))))
          · refine Run.exit ?_
            obtain rfl := someO h
            have h := hk_1613
            exact ⟨_, _, (gh_pk [2, 3, 4] [0, 1, 2, 3, 4, 5, 6] hB rfl rfl rfl rfl), x_1603, h, rfl, rfl⟩
        · refine Run.seq (Run.draw hm hmix (OpsD.p rfl (OpsD.p rfl (OpsD.p rfl (OpsD.p rfl (OpsD.p rfl ?_))))))
          obtain ⟨y_1628, hy_1628, h⟩ := bindO h
          refine OpsD.st (s := 46136) (Ev.call [] [2] 0 (sem_impl_LogTerm N x_1.n.Log x_1257 _ hy_1628) rfl rfl (.cons (.agg (.cons (.c _) (.cons (.c _) (.cons (.borrow rfl (by decide) (lendW (fun _ => rfl) _ rfl)) .nil)))) (.cons (.c _) .nil)) rfl (.inr ⟨rfl, ownL_root trivial⟩) rfl rfl) rfl rfl ?_
          refine OpsD.p rfl (OpsD.p rfl (OpsD.p rfl (OpsD.p rfl (OpsD.p rfl (OpsD.p rfl (OpsD.askO (x := .t 58) rfl h (fun g_1629 h => ?_) (fun g_1629 h => ?_)))))))
          · refine OpsD.gp rfl g_1629 rfl (OpsD.gp rfl g_1629 rfl (OpsD.gp rfl g_1629 rfl ?_))
            obtain ⟨y_1630, hy_1630, h⟩ := bindO h
            refine OpsD.gs (s := 46296) rfl g_1629 (Ev.call [] [1, 2, 3, 4] 1 (sem_impl_ConfOf N x_1.n _ hy_1630) rfl rfl (.cons (.agg (.cons (.c _) (.cons (.c _) (.cons (.c _) (.cons (.c _) (.cons (.c _) (.cons (.borrow rfl (by decide) (lendW (fun _ => rfl) _ rfl)) (.cons (.c _) (.cons (.c _) (.cons (.borrow rfl (by decide) (lendW (fun _ => rfl) _ rfl)) (.cons (.c _) (.cons (.c _) (.cons (.c _) (.cons (.borrow rfl (by decide) (lendW (fun _ => rfl) _ rfl)) (.cons (.borrow rfl (by decide) (lendW (fun _ => rfl) _ rfl)) .nil))))))))))))))) .nil) rfl (.inr ⟨rfl, ownL_root ⟨own_rows (fun _ => rfl) _, trivial⟩⟩) rfl rfl) rfl rfl ?_
            refine OpsD.gp rfl g_1629 rfl ?_
            obtain ⟨y_1631, hy_1631, h⟩ := bindO h
            refine OpsD.gs (s := 46328) rfl g_1629 (Ev.call [] [46296, 6] 0 (sem_impl_Most N y_1630 v_1584 _ hy_1631) rfl rfl (.cons (.borrow rfl (by decide) (lendW (fun _ => rfl) _ rfl)) (.cons (.borrow rfl (by decide) (lendW (fun _ => rfl) _ rfl)) .nil)) rfl (.inr ⟨rfl, ownL_root trivial⟩) rfl rfl) rfl rfl ?_
            refine OpsD.st (s := 46344) (.pkT rfl g_1629 rfl) rfl rfl (OpsD.nil ⟨by kernel_rfl, ?_⟩)
            refine Run.condO rfl h (fun g_1632 h => ?_) (fun g_1632 h => ?_)
            · refine Run.seq (Run.ops hm (Ops.p rfl (Ops.p rfl (Ops.p rfl (Ops.p rfl (Ops.s0 (s := 50216) (.sto rfl rfl rfl rfl rfl rfl) rfl rfl (Ops.nil (Run.exit ?_))))))))
              obtain rfl := someO h
              have h := hk_1452
              exact ⟨_, _, (gh_pk [2] [0, 1, 2, 3, 4, 5] hB rfl rfl rfl rfl), x_1257, h, rfl, rfl⟩
            · exact Run.skip (⟨_, _, (gh_pk [2, 3] [0, 1, 2, 3, 4, 5] hB rfl rfl rfl rfl), (), h, rfl, rfl⟩)
          · refine OpsD.gn rfl g_1629 (OpsD.gn rfl g_1629 (OpsD.gn rfl g_1629 (OpsD.gn rfl g_1629 (OpsD.gn rfl g_1629 (OpsD.gn rfl g_1629 (OpsD.st (s := 46344) (.pkF rfl g_1629 rfl) rfl rfl (OpsD.nil ⟨by kernel_rfl, ?_⟩)))))))
            exact Run.condF rfl rfl (Run.skip (⟨_, _, (gh_pk [2, 3] [0, 1, 2, 3, 4, 5] hB rfl rfl rfl rfl), (), h, rfl, rfl⟩))
      · exact Run.ops hm (Ops.p rfl (Ops.p rfl (Ops.p rfl (Ops.nil (⟨m_1452, Nat.lt_succ_self m_1452, _, _, (gh_pk [2, 3] [0, 1, 2, 3, 4, 5] hB rfl rfl rfl rfl), _, h, rfl, rfl⟩)))))
    · refine Run.exit ?_
      obtain rfl := someO h
      have h := hk_1452
      exact ⟨_, _, (gh_pk [2] [0, 1, 2, 3, 4, 5] hB rfl rfl rfl rfl), x_1.n.Commit, h, rfl, rfl⟩
  · refine Run.seq (Run.draw hm hmix (OpsD.p rfl (OpsD.p rfl (OpsD.p rfl (OpsD.p rfl (OpsD.p rfl (OpsD.p rfl (OpsD.askO (x := .t 75) rfl h (fun g_1638 h => ?_) (fun g_1638 h => ?_)))))))))
    · refine OpsD.gp rfl g_1638 rfl (OpsD.gp rfl g_1638 rfl (OpsD.gp rfl g_1638 rfl ?_))
      obtain ⟨y_1639, hy_1639, h⟩ := bindO h
      refine OpsD.gs (s := 54392) rfl g_1638 (Ev.call [] [1, 2, 3, 4] 1 (sem_impl_ConfOf N (Node.mk x_1.n.Id x_1.n.Term x_1.n.Vote x_1.n.Role x_1.n.Lead x_1.n.Conf x_1.n.Log v_1252 x_1.n.Clock x_1.n.Limit x_1.n.Votes x_1.n.Peers) _ hy_1639) rfl rfl (.cons (.agg (.cons (.c _) (.cons (.c _) (.cons (.c _) (.cons (.c _) (.cons (.c _) (.cons (.borrow rfl (by decide) (lendW (fun _ => rfl) _ rfl)) (.cons (.c _) (.cons (.c _) (.cons (.borrow rfl (by decide) (lendW (fun _ => rfl) _ rfl)) (.cons (.c _) (.cons (.c _) (.cons (.c _) (.cons (.borrow rfl (by decide) (lendW (fun _ => rfl) _ rfl)) (.cons (.borrow rfl (by decide) (lendW (fun _ => rfl) _ rfl)) .nil))))))))))))))) .nil) rfl (.inr ⟨rfl, ownL_root ⟨own_rows (fun _ => rfl) _, trivial⟩⟩) rfl rfl) rfl rfl ?_
      refine OpsD.gp rfl g_1638 rfl (OpsD.gp rfl g_1638 rfl (OpsD.gp rfl g_1638 rfl (OpsD.gp rfl g_1638 rfl ?_)))
      obtain ⟨y_1640, hy_1640, h⟩ := bindO h
      refine OpsD.gs (s := 54472) rfl g_1638 (Ev.call [] [54392] 0 (sem_slices_Contains_int N y_1639 x_1.n.Id _ hy_1640) rfl rfl (.cons (.borrow rfl (by decide) (lendW (fun _ => rfl) _ rfl)) (.cons (.c _) .nil)) rfl (.inr ⟨rfl, ownL_root trivial⟩) rfl rfl) rfl rfl ?_
      refine OpsD.gp rfl g_1638 rfl (OpsD.st (s := 54504) (.pkT rfl g_1638 rfl) rfl rfl (OpsD.p rfl (OpsD.askO (x := .t 87) rfl h (fun g_1641 h => ?_) (fun g_1641 h => ?_))))
      · refine OpsD.gp rfl g_1641 rfl (OpsD.gp rfl g_1641 rfl (OpsD.gp rfl g_1641 rfl (OpsD.gp rfl g_1641 rfl ?_)))
        obtain ⟨y_1642, hy_1642, h⟩ := bindO h
        refine OpsD.gs (s := 54600) rfl g_1641 (Ev.call [] [2] 0 (sem_impl_lastConf N x_1.n.Log _ hy_1642) rfl rfl (.cons (.agg (.cons (.c _) (.cons (.c _) (.cons (.borrow rfl (by decide) (lendW (fun _ => rfl) _ rfl)) .nil)))) .nil) rfl (.inr ⟨rfl, ownL_root trivial⟩) rfl rfl) rfl rfl ?_
        refine OpsD.gp rfl g_1641 rfl (OpsD.gp rfl g_1641 rfl (OpsD.gp rfl g_1641 rfl (OpsD.gp rfl g_1641 rfl (OpsD.gp rfl g_1641 rfl (OpsD.st (s := 54696) (.pkT rfl g_1641 rfl) rfl rfl (OpsD.nil ⟨by kernel_rfl, ?_⟩))))))
        refine Run.condO rfl h (fun g_1643 h => ?_) (fun g_1643 h => ?_)
        · refine Run.ops hm (Ops.p rfl (Ops.p rfl (Ops.p rfl (Ops.p rfl (Ops.p rfl (Ops.s0 (s := 58424) (.sto rfl rfl rfl rfl rfl rfl) rfl rfl (Ops.p rfl (Ops.p rfl (Ops.s0 (s := 58472) (.sto rfl rfl rfl rfl rfl rfl) rfl rfl (Ops.p rfl (Ops.p rfl (Ops.s0 (s := 58520) (.sto rfl rfl rfl rfl rfl rfl) rfl rfl (Ops.nil ?_)))))))))))))
          obtain rfl := someO h
          exact Ends.mkG (.inr rfl) rfl (Gh.trans (Gh.trans (Gh.trans (gh_prn [] [0, 1, 2, 3, 4, 5] hB rfl) (gh_mvE [] [1, 2, 3, 4, 5] hB rfl rfl)) (gh_nil [] [0] hB rfl rfl rfl)) (gh_pk [] [0, 1, 2, 3, 4, 5, 30000001, 30000002, 30000003, 20000000, 30000005] hB rfl rfl rfl rfl)) rfl rfl
        · refine Run.skip ?_
          obtain rfl := someO h
          exact Ends.mkG (.inr rfl) rfl (Gh.trans (Gh.trans (gh_prn [] [0, 1, 2, 3, 4, 5] hB rfl) (gh_mvE [] [1, 2, 3, 4, 5] hB rfl rfl)) (gh_pk [] [0, 1, 2, 3, 4, 5, 30000001, 30000002, 30000003, 30000004, 30000005] hB rfl rfl rfl rfl)) rfl rfl
      · refine OpsD.gn rfl g_1641 (OpsD.gn rfl g_1641 (OpsD.gn rfl g_1641 (OpsD.gn rfl g_1641 (OpsD.gn rfl g_1641 (OpsD.gn rfl g_1641 (OpsD.gn rfl g_1641 (OpsD.gn rfl g_1641 (OpsD.gn rfl g_1641 (OpsD.gn rfl g_1641 (OpsD.st (s := 54696) (.pkF rfl g_1641 rfl) rfl rfl (OpsD.nil ⟨by kernel_rfl, ?_⟩)))))))))))
        refine Run.condF rfl rfl (Run.skip ?_)
        obtain rfl := someO h
        exact Ends.mkG (.inr rfl) rfl (Gh.trans (Gh.trans (gh_prn [] [0, 1, 2, 3, 4, 5] hB rfl) (gh_mvE [] [1, 2, 3, 4, 5] hB rfl rfl)) (gh_pk [] [0, 1, 2, 3, 4, 5, 30000001, 30000002, 30000003, 30000004, 30000005] hB rfl rfl rfl rfl)) rfl rfl
    · refine OpsD.gn rfl g_1638 (OpsD.gn rfl g_1638 (OpsD.gn rfl g_1638 (OpsD.gn rfl g_1638 (OpsD.gn rfl g_1638 (OpsD.gn rfl g_1638 (OpsD.gn rfl g_1638 (OpsD.gn rfl g_1638 (OpsD.gn rfl g_1638 (OpsD.gn rfl g_1638 (OpsD.st (s := 54504) (.pkF rfl g_1638 rfl) rfl rfl (OpsD.p rfl (OpsD.gn rfl rfl (OpsD.gn rfl rfl (OpsD.gn rfl rfl (OpsD.gn rfl rfl (OpsD.gn rfl rfl (OpsD.gn rfl rfl (OpsD.gn rfl rfl (OpsD.gn rfl rfl (OpsD.gn rfl rfl (OpsD.gn rfl rfl (OpsD.st (s := 54696) (.pkF rfl rfl rfl) rfl rfl (OpsD.nil ⟨by kernel_rfl, ?_⟩)))))))))))))))))))))))
      refine Run.condF rfl rfl (Run.skip ?_)
      obtain rfl := someO h
      exact Ends.mkG (.inr rfl) rfl (Gh.trans (Gh.trans (gh_prn [] [0, 1, 2, 3, 4, 5] hB rfl) (gh_mvE [] [1, 2, 3, 4, 5] hB rfl rfl)) (gh_pk [] [0, 1, 2, 3, 4, 5, 30000001, 30000002, 30000003, 30000004, 30000005] hB rfl rfl rfl rfl)) rfl rfl
end Go.Proofs.Ytehknbpmpbghhaa.Pe.FnExactTick
