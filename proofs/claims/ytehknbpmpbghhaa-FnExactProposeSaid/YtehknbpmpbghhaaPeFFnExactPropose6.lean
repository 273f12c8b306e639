/- Functions, as pure functions; and that Go does just that. -/
import Derived.Test.YtehknbpmpbghhaaPeFFnExactPropose5
namespace Go.Proofs.Ytehknbpmpbghhaa.Pe.FnExactPropose
open Go Go.RowKit
set_option linter.unusedVariables false
set_option linter.unusedSimpArgs false
set_option maxHeartbeats 40000000
def core_tell (N : Nat) (x_1 : Tcore) (x_2 : Message) : Option (Tcore) :=
 (cat? x_1.out ([(Message.mk x_2.Kind x_1.n.Id x_2.To x_1.n.Term x_2.Index x_2.LogTerm x_2.Commit x_2.Ok x_2.Entries ([]) x_2.Data x_2.Last)] : List Message)).bind fun x_103 =>
 some (Tcore.mk x_1.n x_103)
theorem sem_core_tell (N : Nat) (x_1 : Tcore) (x_2 : Message) (r : Tcore) (h : core_tell N x_1 x_2 = some r) : Says Try.prog 120 [.ptr 0 0, .agg [VI x_2.Kind, VI x_2.From, VI x_2.To, VI x_2.Term, VI x_2.Index, VI x_2.LogTerm, VI x_2.Commit, VB x_2.Ok, .sl 1 51 0 x_2.Entries.length, NI 3, VS x_2.Data, VB x_2.Last]] 7 [(0, .box [VI x_1.n.Id, VI x_1.n.Term, VI x_1.n.Vote, VI x_1.n.Role, VI x_1.n.Lead, .sl 2 3 0 x_1.n.Conf.length, VI x_1.n.Log.Start, VI x_1.n.Log.StartTerm, .sl 3 51 0 x_1.n.Log.Entries.length, VI x_1.n.Commit, VI x_1.n.Clock, VI x_1.n.Limit, .sl 4 3 0 x_1.n.Votes.length, .sl 5 135 0 x_1.n.Peers.length, .sl 6 58 0 x_1.out.length]), (1, .vec 51 (x_2.Entries.map encEntry)), (2, .vec 3 (x_1.n.Conf.map encI)), (3, .vec 51 (x_1.n.Log.Entries.map encEntry)), (4, .vec 3 (x_1.n.Votes.map encI)), (5, .vec 135 (x_1.n.Peers.map encPeer)), (6, .vec 58 (x_1.out.map (encMessage true)))] (.tup []) [(0, .box [VI r.n.Id, VI r.n.Term, VI r.n.Vote, VI r.n.Role, VI r.n.Lead, .sl 2 3 0 x_1.n.Conf.length, VI r.n.Log.Start, VI r.n.Log.StartTerm, .sl 3 51 0 x_1.n.Log.Entries.length, VI r.n.Commit, VI r.n.Clock, VI r.n.Limit, .sl 4 3 0 x_1.n.Votes.length, .sl 5 135 0 x_1.n.Peers.length, .sl 7 58 0 r.out.length]), (1, .gone), (2, .vec 3 (x_1.n.Conf.map encI)), (3, .vec 51 (x_1.n.Log.Entries.map encEntry)), (4, .vec 3 (x_1.n.Votes.map encI)), (5, .vec 135 (x_1.n.Peers.map encPeer)), (6, .gone), (7, .vec 58 (r.out.map (encMessage true)))] := by
  unfold core_tell at h
  refine Says.of_run s120 Try.call120 rfl fun B hB => ?_
  have hm : B.m ≤ 1000 := by omega
  refine Run.seq (Run.ops hm (Ops.st (s := 1000) (.bx rfl rfl) rfl rfl (Ops.nil (Run.seq (Run.draw hm hmix (OpsD.p rfl (OpsD.p rfl (OpsD.p rfl (OpsD.p rfl (OpsD.p rfl (OpsD.p rfl (OpsD.p rfl (OpsD.p rfl (OpsD.p rfl (OpsD.p rfl (OpsD.p rfl (OpsD.s0 (s := 5272) (.sto rfl rfl rfl rfl rfl rfl) rfl rfl (OpsD.p rfl (OpsD.s0 (s := 5304) (.sto rfl rfl rfl rfl rfl rfl) rfl rfl (OpsD.nil ⟨by kernel_rfl, ?_⟩))))))))))))))))))))
  refine Run.draw hm hmix (OpsD.p rfl (OpsD.p rfl (OpsD.p rfl (OpsD.p rfl (OpsD.p rfl (OpsD.p rfl (OpsD.st (s := 9288) (Ev.bsW (ys := ([(Message.mk x_2.Kind x_1.n.Id x_2.To x_1.n.Term x_2.Index x_2.LogTerm x_2.Commit x_2.Ok x_2.Entries ([]) x_2.Data x_2.Last)] : List Message)) (f := (encMessage true)) rfl (.cons (.c _) (.cons (.c _) (.cons (.c _) (.cons (.c _) (.cons (.c _) (.cons (.c _) (.cons (.c _) (.cons (.c _) (.cons (.own rfl (lenmap rfl)) (.cons (.c _) (.cons (.c _) (.cons (.c _) .nil)))))))))))) rfl rfl rfl rfl rfl) rfl rfl ?_)))))))
  obtain ⟨x_103, hx_103, h⟩ := bindO h
  refine OpsD.st (s := 9304) (Ev.apW (f := (encMessage true)) (ontoW rfl rfl rfl) (addsO rfl rfl rfl) rfl bt58 rfl hx_103) rfl rfl (OpsD.p rfl (OpsD.p rfl (OpsD.s0 (s := 9352) (.sto rfl rfl rfl rfl rfl rfl) rfl rfl (OpsD.nil ⟨by kernel_rfl, ?_⟩))))
  obtain rfl := someO h
  exact Ends.mkG (.inr rfl) rfl (gh_pk [] [0, 1, 2, 3, 4, 5, 6, 9304] hB rfl rfl rfl rfl) rfl rfl
def core_tell_i1 (N : Nat) (x_1 : Tcore) (x_2 : Message) : Option (Tcore) :=
 (cat? x_1.out ([(Message.mk x_2.Kind x_1.n.Id x_2.To x_1.n.Term x_2.Index x_2.LogTerm x_2.Commit x_2.Ok ([]) x_2.Conf x_2.Data x_2.Last)] : List Message)).bind fun x_103 =>
 some (Tcore.mk x_1.n x_103)
theorem sem_core_tell_i1 (N : Nat) (x_1 : Tcore) (x_2 : Message) (r : Tcore) (h : core_tell_i1 N x_1 x_2 = some r) : Says Try.prog 120 [.ptr 0 0, .agg [VI x_2.Kind, VI x_2.From, VI x_2.To, VI x_2.Term, VI x_2.Index, VI x_2.LogTerm, VI x_2.Commit, VB x_2.Ok, NI 51, .sl 1 3 0 x_2.Conf.length, VS x_2.Data, VB x_2.Last]] 7 [(0, .box [VI x_1.n.Id, VI x_1.n.Term, VI x_1.n.Vote, VI x_1.n.Role, VI x_1.n.Lead, .sl 2 3 0 x_1.n.Conf.length, VI x_1.n.Log.Start, VI x_1.n.Log.StartTerm, .sl 3 51 0 x_1.n.Log.Entries.length, VI x_1.n.Commit, VI x_1.n.Clock, VI x_1.n.Limit, .sl 4 3 0 x_1.n.Votes.length, .sl 5 135 0 x_1.n.Peers.length, .sl 6 58 0 x_1.out.length]), (1, .vec 3 (x_2.Conf.map encI)), (2, .vec 3 (x_1.n.Conf.map encI)), (3, .vec 51 (x_1.n.Log.Entries.map encEntry)), (4, .vec 3 (x_1.n.Votes.map encI)), (5, .vec 135 (x_1.n.Peers.map encPeer)), (6, .vec 58 (x_1.out.map (encMessage true)))] (.tup []) [(0, .box [VI r.n.Id, VI r.n.Term, VI r.n.Vote, VI r.n.Role, VI r.n.Lead, .sl 2 3 0 x_1.n.Conf.length, VI r.n.Log.Start, VI r.n.Log.StartTerm, .sl 3 51 0 x_1.n.Log.Entries.length, VI r.n.Commit, VI r.n.Clock, VI r.n.Limit, .sl 4 3 0 x_1.n.Votes.length, .sl 5 135 0 x_1.n.Peers.length, .sl 7 58 0 r.out.length]), (1, .gone), (2, .vec 3 (x_1.n.Conf.map encI)), (3, .vec 51 (x_1.n.Log.Entries.map encEntry)), (4, .vec 3 (x_1.n.Votes.map encI)), (5, .vec 135 (x_1.n.Peers.map encPeer)), (6, .gone), (7, .vec 58 (r.out.map (encMessage true)))] := by
  unfold core_tell_i1 at h
  refine Says.of_run s120 Try.call120 rfl fun B hB => ?_
  have hm : B.m ≤ 1000 := by omega
  refine Run.seq (Run.ops hm (Ops.st (s := 1000) (.bx rfl rfl) rfl rfl (Ops.nil (Run.seq (Run.draw hm hmix (OpsD.p rfl (OpsD.p rfl (OpsD.p rfl (OpsD.p rfl (OpsD.p rfl (OpsD.p rfl (OpsD.p rfl (OpsD.p rfl (OpsD.p rfl (OpsD.p rfl (OpsD.p rfl (OpsD.s0 (s := 5272) (.sto rfl rfl rfl rfl rfl rfl) rfl rfl (OpsD.p rfl (OpsD.s0 (s := 5304) (.sto rfl rfl rfl rfl rfl rfl) rfl rfl (OpsD.nil ⟨by kernel_rfl, ?_⟩))))))))))))))))))))
  refine Run.draw hm hmix (OpsD.p rfl (OpsD.p rfl (OpsD.p rfl (OpsD.p rfl (OpsD.p rfl (OpsD.p rfl (OpsD.st (s := 9288) (Ev.bsW (ys := ([(Message.mk x_2.Kind x_1.n.Id x_2.To x_1.n.Term x_2.Index x_2.LogTerm x_2.Commit x_2.Ok ([]) x_2.Conf x_2.Data x_2.Last)] : List Message)) (f := (encMessage true)) rfl (.cons (.c _) (.cons (.c _) (.cons (.c _) (.cons (.c _) (.cons (.c _) (.cons (.c _) (.cons (.c _) (.cons (.c _) (.cons (.c _) (.cons (.own rfl (lenmap rfl)) (.cons (.c _) (.cons (.c _) .nil)))))))))))) rfl rfl rfl rfl rfl) rfl rfl ?_)))))))
  obtain ⟨x_103, hx_103, h⟩ := bindO h
  refine OpsD.st (s := 9304) (Ev.apW (f := (encMessage true)) (ontoW rfl rfl rfl) (addsO rfl rfl rfl) rfl bt58 rfl hx_103) rfl rfl (OpsD.p rfl (OpsD.p rfl (OpsD.s0 (s := 9352) (.sto rfl rfl rfl rfl rfl rfl) rfl rfl (OpsD.nil ⟨by kernel_rfl, ?_⟩))))
  obtain rfl := someO h
  exact Ends.mkG (.inr rfl) rfl (gh_pk [] [0, 1, 2, 3, 4, 5, 6, 9304] hB rfl rfl rfl rfl) rfl rfl
def core_send (N : Nat) (x_1 : Tcore) (x_2 : Int) : Option (Tcore) :=
 (at? x_1.n.Peers x_2).bind fun x_137 =>
 (if (decide (x_137.Next > x_1.n.Log.Start)) = true then
 (cut? x_1.n.Log.Entries (w64 ((w64 (x_137.Next - x_1.n.Log.Start)) - (1 : Int))) (imin ((x_1.n.Log.Entries.length : Nat) : Int) (w64 ((w64 ((w64 (x_137.Next - x_1.n.Log.Start)) - (1 : Int))) + (4 : Int))))).bind fun x_158 =>
 (cat? ([] : List Entry) ((x_1.n.Log.Entries.drop ((w64 ((w64 (x_137.Next - x_1.n.Log.Start)) - (1 : Int))).toNat)).take ((imin ((x_1.n.Log.Entries.length : Nat) : Int) (w64 ((w64 ((w64 (x_137.Next - x_1.n.Log.Start)) - (1 : Int))) + (4 : Int)))).toNat - (w64 ((w64 (x_137.Next - x_1.n.Log.Start)) - (1 : Int))).toNat))).bind fun x_159 =>
 (impl_LogTerm N x_1.n.Log (w64 (x_137.Next - (1 : Int)))).bind fun y_162 =>
 (core_tell N x_1 (Message.mk (3 : Int) (0 : Int) x_137.Id (0 : Int) (w64 (x_137.Next - (1 : Int))) y_162 x_1.n.Commit false x_159 ([]) (⟨#[]⟩ : ByteArray) false)).bind fun y_163 =>
 some (Tcore.mk (Node.mk y_163.n.Id y_163.n.Term y_163.n.Vote y_163.n.Role y_163.n.Lead x_1.n.Conf (Log.mk y_163.n.Log.Start y_163.n.Log.StartTerm x_1.n.Log.Entries) y_163.n.Commit y_163.n.Clock y_163.n.Limit x_1.n.Votes x_1.n.Peers) y_163.out)
 else
 (cat? ([] : List Int) x_1.n.Conf).bind fun x_166 =>
 (core_tell_i1 N x_1 (Message.mk (5 : Int) (0 : Int) x_137.Id (0 : Int) x_1.n.Log.Start x_1.n.Log.StartTerm x_137.Sent false ([]) x_166 (⟨#[]⟩ : ByteArray) false)).bind fun y_167 =>
 some (Tcore.mk (Node.mk y_167.n.Id y_167.n.Term y_167.n.Vote y_167.n.Role y_167.n.Lead x_1.n.Conf (Log.mk y_167.n.Log.Start y_167.n.Log.StartTerm x_1.n.Log.Entries) y_167.n.Commit y_167.n.Clock y_167.n.Limit x_1.n.Votes x_1.n.Peers) y_167.out))
theorem sem_core_send (N : Nat) (x_1 : Tcore) (x_2 : Int) (r : Tcore) (h : core_send N x_1 x_2 = some r) : Says Try.prog 164 [.ptr 0 0, VI x_2] 6 [(0, .box [VI x_1.n.Id, VI x_1.n.Term, VI x_1.n.Vote, VI x_1.n.Role, VI x_1.n.Lead, .sl 1 3 0 x_1.n.Conf.length, VI x_1.n.Log.Start, VI x_1.n.Log.StartTerm, .sl 2 51 0 x_1.n.Log.Entries.length, VI x_1.n.Commit, VI x_1.n.Clock, VI x_1.n.Limit, .sl 3 3 0 x_1.n.Votes.length, .sl 4 135 0 x_1.n.Peers.length, .sl 5 58 0 x_1.out.length]), (1, .vec 3 (x_1.n.Conf.map encI)), (2, .vec 51 (x_1.n.Log.Entries.map encEntry)), (3, .vec 3 (x_1.n.Votes.map encI)), (4, .vec 135 (x_1.n.Peers.map encPeer)), (5, .vec 58 (x_1.out.map (encMessage true)))] (.tup []) [(0, .box [VI r.n.Id, VI r.n.Term, VI r.n.Vote, VI r.n.Role, VI r.n.Lead, .sl 1 3 0 x_1.n.Conf.length, VI r.n.Log.Start, VI r.n.Log.StartTerm, .sl 2 51 0 x_1.n.Log.Entries.length, VI r.n.Commit, VI r.n.Clock, VI r.n.Limit, .sl 3 3 0 x_1.n.Votes.length, .sl 4 135 0 x_1.n.Peers.length, .sl 6 58 0 r.out.length]), (1, .vec 3 (x_1.n.Conf.map encI)), (2, .vec 51 (x_1.n.Log.Entries.map encEntry)), (3, .vec 3 (x_1.n.Votes.map encI)), (4, .vec 135 (x_1.n.Peers.map encPeer)), (5, .gone), (6, .vec 58 (r.out.map (encMessage true)))] := by
  unfold core_send at h
  refine Says.of_run s164 Try.call164 rfl fun B hB => ?_
  have hm : B.m ≤ 1000 := by omega
  refine Run.seq (Run.ops hm (Ops.p rfl (Ops.p rfl (Ops.p rfl (Ops.p rfl (Ops.p rfl (Ops.p rfl ?_)))))))
  obtain ⟨x_137, hx_137, h⟩ := bindO h
  refine Ops.st (s := 1096) (Ev.iaW rfl rfl rfl hx_137) rfl rfl (Ops.p rfl (Ops.nil (Run.seq (Run.ops hm (Ops.p rfl (Ops.p rfl (Ops.p rfl (Ops.p rfl (Ops.p rfl (Ops.st (s := 5176) (.al rfl rfl) rfl rfl (Ops.s0 (s := 5192) (.sto rfl rfl rfl rfl rfl rfl) rfl rfl (Ops.nil (Run.seq (Run.seq (Run.draw hm hmix (OpsD.p rfl (OpsD.p rfl (OpsD.p rfl (OpsD.st (s := 9240) (Ev.ldE (f := encPeer) rfl rfl (at_some hx_137).2 rfl rfl rfl) rfl rfl (OpsD.p rfl (OpsD.p rfl (OpsD.p rfl (OpsD.nil ⟨by kernel_rfl, ?_⟩)))))))))))))))))))))))
  refine Run.condO rfl h (fun g_151 h => ?_) (fun g_151 h => ?_)
  · refine Run.seq (Run.draw hm hmix (OpsD.p rfl (OpsD.p rfl (OpsD.p rfl (OpsD.st (s := 13336) (Ev.ldE (f := encPeer) rfl rfl (at_some hx_137).2 rfl rfl rfl) rfl rfl (OpsD.p rfl (OpsD.p rfl (OpsD.p rfl (OpsD.p rfl (OpsD.p rfl (OpsD.nil ⟨by kernel_rfl, ?_⟩)))))))))))
    refine Run.seq (Run.ops hm (Ops.p rfl (Ops.p rfl (Ops.p rfl (Ops.p rfl (Ops.p rfl (Ops.p rfl (Ops.p rfl (Ops.p rfl (Ops.p rfl ?_))))))))))
    obtain ⟨x_158, hx_158, h⟩ := bindO h
    refine Ops.st (s := 17528) (Ev.slW (xs := x_1.n.Log.Entries) rfl rfl rfl rfl hx_158) rfl rfl ?_
    obtain ⟨x_159, hx_159, h⟩ := bindO h
    refine Ops.st (s := 17544) (Ev.apW (f := encEntry) (ontoN (f := encEntry) rfl) (addsP rfl rfl (fun _ => rfl)) rfl bt51 rfl hx_159) rfl rfl (Ops.p rfl (Ops.nil (Run.seq (Run.draw hm hmix (OpsD.p rfl (OpsD.p rfl (OpsD.p rfl (OpsD.p rfl (OpsD.st (s := 21544) (Ev.ldE (f := encPeer) rfl rfl (at_some hx_137).2 rfl rfl rfl) rfl rfl (OpsD.p rfl (OpsD.p rfl (OpsD.p rfl (OpsD.st (s := 21608) (Ev.ldE (f := encPeer) rfl rfl (at_some hx_137).2 rfl rfl rfl) rfl rfl (OpsD.p rfl (OpsD.p rfl (OpsD.p rfl (OpsD.p rfl (OpsD.p rfl (OpsD.st (s := 21704) (Ev.ldE (f := encPeer) rfl rfl (at_some hx_137).2 rfl rfl rfl) rfl rfl (OpsD.p rfl ?_))))))))))))))))))))
    obtain ⟨y_162, hy_162, h⟩ := bindO h
    refine OpsD.st (s := 21736) (Ev.call [] [2] 0 (sem_impl_LogTerm N x_1.n.Log (w64 (x_137.Next - (1 : Int))) _ hy_162) rfl rfl (.cons (.agg (.cons (.c _) (.cons (.c _) (.cons (.borrow rfl (by decide) (lendW (fun _ => rfl) _ rfl)) .nil)))) (.cons (.c _) .nil)) rfl (.inr ⟨rfl, ownL_root trivial⟩) rfl rfl) rfl rfl ?_
    refine OpsD.p rfl (OpsD.p rfl (OpsD.p rfl (OpsD.p rfl (OpsD.p rfl (OpsD.p rfl (OpsD.st (s := 21848) (.bd rfl rfl) rfl rfl ?_))))))
    obtain ⟨y_163, hy_163, h⟩ := bindO h
    refine OpsD.st (s := 21864) (Ev.call [0, 17544, 1, 2, 3, 4, 5] [] 1 (sem_core_tell N x_1 (Message.mk (3 : Int) (0 : Int) x_137.Id (0 : Int) (w64 (x_137.Next - (1 : Int))) y_162 x_1.n.Commit false x_159 ([]) (⟨#[]⟩ : ByteArray) false) _ hy_163) rfl rfl (.cons (.ptr rfl) (.cons (.agg (.cons (.c _) (.cons (.c _) (.cons (.c _) (.cons (.c _) (.cons (.c _) (.cons (.c _) (.cons (.c _) (.cons (.c _) (.cons (.sl rfl) (.cons (.c _) (.cons (.c _) (.cons (.c _) .nil))))))))))))) .nil)) rfl (.inl rfl) rfl rfl) rfl rfl (OpsD.nil ⟨by kernel_rfl, ?_⟩)
    refine Run.ret ?_
    obtain rfl := someO h
    exact Ends.mkG (.inl rfl) rfl (gh_pk [] [0, 1, 2, 3, 4, 5, 21864] hB rfl rfl rfl rfl) rfl rfl
  · refine Run.skip (Run.draw hm hmix (OpsD.p rfl (OpsD.p rfl (OpsD.p rfl (OpsD.p rfl (OpsD.st (s := 25640) (Ev.ldE (f := encPeer) rfl rfl (at_some hx_137).2 rfl rfl rfl) rfl rfl (OpsD.p rfl (OpsD.p rfl (OpsD.p rfl (OpsD.p rfl (OpsD.p rfl (OpsD.p rfl (OpsD.p rfl (OpsD.st (s := 25768) (Ev.ldE (f := encPeer) rfl rfl (at_some hx_137).2 rfl rfl rfl) rfl rfl (OpsD.p rfl (OpsD.p rfl (OpsD.p rfl (OpsD.p rfl (OpsD.p rfl ?_)))))))))))))))))))
    obtain ⟨x_166, hx_166, h⟩ := bindO h
    refine OpsD.st (s := 25864) (Ev.apW (f := encI) (ontoN (f := encI) rfl) (addsW rfl rfl rfl (fun _ => rfl)) rfl bt3 rfl hx_166) rfl rfl (OpsD.st (s := 25880) (.bd rfl rfl) rfl rfl ?_)
    obtain ⟨y_167, hy_167, h⟩ := bindO h
    refine OpsD.st (s := 25896) (Ev.call [0, 25864, 1, 2, 3, 4, 5] [] 1 (sem_core_tell_i1 N x_1 (Message.mk (5 : Int) (0 : Int) x_137.Id (0 : Int) x_1.n.Log.Start x_1.n.Log.StartTerm x_137.Sent false ([]) x_166 (⟨#[]⟩ : ByteArray) false) _ hy_167) rfl rfl (.cons (.ptr rfl) (.cons (.agg (.cons (.c _) (.cons (.c _) (.cons (.c _) (.cons (.c _) (.cons (.c _) (.cons (.c _) (.cons (.c _) (.cons (.c _) (.cons (.c _) (.cons (.sl rfl) (.cons (.c _) (.cons (.c _) .nil))))))))))))) .nil)) rfl (.inl rfl) rfl rfl) rfl rfl (OpsD.nil ⟨by kernel_rfl, ?_⟩)
    obtain rfl := someO h
    exact Ends.mkG (.inr rfl) rfl (gh_pk [] [0, 1, 2, 3, 4, 5, 25896] hB rfl rfl rfl rfl) rfl rfl
def core_sendAll_l1 (N : Nat) (x_1 : Tcore) : Nat → Int → Int → Int → Int → Int → Int → Int → Int → Int → Int → Int → (List Message) → Option (Int × Int × Int × Int × Int × Int × Int × Int × Int × Int × (List Message))
 | 0, _, _, _, _, _, _, _, _, _, _, _, _ => none
 | m + 1, x_170, x_171, x_172, x_173, x_174, x_175, x_176, x_177, x_178, x_179, x_180, x_185 =>
 (if (decide (x_170 < ((x_1.n.Peers.length : Nat) : Int))) = true then
 (core_send N (Tcore.mk (Node.mk x_171 x_172 x_173 x_174 x_175 x_1.n.Conf (Log.mk x_176 x_177 x_1.n.Log.Entries) x_178 x_179 x_180 x_1.n.Votes x_1.n.Peers) x_185) x_170).bind fun y_195 =>
 core_sendAll_l1 N x_1 m (w64 (x_170 + (1 : Int))) y_195.n.Id y_195.n.Term y_195.n.Vote y_195.n.Role y_195.n.Lead y_195.n.Log.Start y_195.n.Log.StartTerm y_195.n.Commit y_195.n.Clock y_195.n.Limit y_195.out
 else
 some (x_171, x_172, x_173, x_174, x_175, x_176, x_177, x_178, x_179, x_180, x_185))
def core_sendAll (N : Nat) (x_1 : Tcore) : Option (Tcore) :=
 (core_sendAll_l1 N x_1 N (0 : Int) x_1.n.Id x_1.n.Term x_1.n.Vote x_1.n.Role x_1.n.Lead x_1.n.Log.Start x_1.n.Log.StartTerm x_1.n.Commit x_1.n.Clock x_1.n.Limit x_1.out).bind (fun (v_190 : Int × Int × Int × Int × Int × Int × Int × Int × Int × Int × (List Message)) => some (Tcore.mk (Node.mk v_190.1 v_190.2.1 v_190.2.2.1 v_190.2.2.2.1 v_190.2.2.2.2.1 x_1.n.Conf (Log.mk v_190.2.2.2.2.2.1 v_190.2.2.2.2.2.2.1 x_1.n.Log.Entries) v_190.2.2.2.2.2.2.2.1 v_190.2.2.2.2.2.2.2.2.1 v_190.2.2.2.2.2.2.2.2.2.1 x_1.n.Votes x_1.n.Peers) v_190.2.2.2.2.2.2.2.2.2.2))
theorem sem_core_sendAll (N : Nat) (x_1 : Tcore) (r : Tcore) (h : core_sendAll N x_1 = some r) : Says Try.prog 99 [.ptr 0 0] 6 [(0, .box [VI x_1.n.Id, VI x_1.n.Term, VI x_1.n.Vote, VI x_1.n.Role, VI x_1.n.Lead, .sl 1 3 0 x_1.n.Conf.length, VI x_1.n.Log.Start, VI x_1.n.Log.StartTerm, .sl 2 51 0 x_1.n.Log.Entries.length, VI x_1.n.Commit, VI x_1.n.Clock, VI x_1.n.Limit, .sl 3 3 0 x_1.n.Votes.length, .sl 4 135 0 x_1.n.Peers.length, .sl 5 58 0 x_1.out.length]), (1, .vec 3 (x_1.n.Conf.map encI)), (2, .vec 51 (x_1.n.Log.Entries.map encEntry)), (3, .vec 3 (x_1.n.Votes.map encI)), (4, .vec 135 (x_1.n.Peers.map encPeer)), (5, .vec 58 (x_1.out.map (encMessage true)))] (.tup []) [(0, .box [VI r.n.Id, VI r.n.Term, VI r.n.Vote, VI r.n.Role, VI r.n.Lead, .sl 6 3 0 r.n.Conf.length, VI r.n.Log.Start, VI r.n.Log.StartTerm, .sl 7 51 0 r.n.Log.Entries.length, VI r.n.Commit, VI r.n.Clock, VI r.n.Limit, .sl 8 3 0 r.n.Votes.length, .sl 9 135 0 r.n.Peers.length, .sl 10 58 0 r.out.length]), (1, .gone), (2, .gone), (3, .gone), (4, .gone), (5, .gone), (6, .vec 3 (r.n.Conf.map encI)), (7, .vec 51 (r.n.Log.Entries.map encEntry)), (8, .vec 3 (r.n.Votes.map encI)), (9, .vec 135 (r.n.Peers.map encPeer)), (10, .vec 58 (r.out.map (encMessage true)))] := by
  unfold core_sendAll at h
  refine Says.of_run s99 Try.call99 rfl fun B hB => ?_
  have hm : B.m ≤ 1000 := by omega
  refine Run.seq (Run.ops hm (Ops.p rfl (Ops.p rfl (Ops.p rfl (Ops.p rfl (Ops.p rfl (Ops.p rfl (Ops.p rfl (Ops.nil (Run.block ?_))))))))))
  obtain ⟨res_190, h, hk_190⟩ := bindO h
  refine Run.loop (n := N) (fun m_190 fr σ => ∃ (x_170 : Int), ∃ (x_171 : Int), ∃ (x_172 : Int), ∃ (x_173 : Int), ∃ (x_174 : Int), ∃ (x_175 : Int), ∃ (x_176 : Int), ∃ (x_177 : Int), ∃ (x_178 : Int), ∃ (x_179 : Int), ∃ (x_180 : Int), ∃ (x_185 : (List Message)), core_sendAll_l1 N x_1 m_190 x_170 x_171 x_172 x_173 x_174 x_175 x_176 x_177 x_178 x_179 x_180 x_185 = some res_190 ∧ fr = [(0, .ptr 0 0), (8, VI ((x_1.n.Peers.length : Nat) : Int)), (9, VI x_170)] ∧ σ = [(0, .box [VI x_171, VI x_172, VI x_173, VI x_174, VI x_175, .sl 6 3 0 x_1.n.Conf.length, VI x_176, VI x_177, .sl 7 51 0 x_1.n.Log.Entries.length, VI x_178, VI x_179, VI x_180, .sl 8 3 0 x_1.n.Votes.length, .sl 9 135 0 x_1.n.Peers.length, .sl 10 58 0 x_185.length]), (1, .gone), (2, .gone), (3, .gone), (4, .gone), (5, .gone), (6, .vec 3 (x_1.n.Conf.map encI)), (7, .vec 51 (x_1.n.Log.Entries.map encEntry)), (8, .vec 3 (x_1.n.Votes.map encI)), (9, .vec 135 (x_1.n.Peers.map encPeer)), (10, .vec 58 (x_185.map (encMessage true)))]) (Gh.trans (Gh.trans (gh_prn [0, 8, 9] [0, 1, 2, 3, 4, 5] hB rfl) (gh_mvE [0, 8, 9] [1, 2, 3, 4, 5] hB rfl rfl)) (gh_pk [0, 8, 9] [0, 1, 2, 3, 4, 5, 30000001, 30000002, 30000003, 30000004, 30000005] hB rfl rfl rfl rfl)) ⟨_, _, _, _, _, _, _, _, _, _, _, _, h, rfl, rfl⟩ ?_
  rintro m_190 fr σ ⟨x_170, x_171, x_172, x_173, x_174, x_175, x_176, x_177, x_178, x_179, x_180, x_185, h, rfl, rfl⟩
  obtain _ | m_190 := m_190
  · rw [core_sendAll_l1] at h; cases h
  rw [core_sendAll_l1] at h
  refine Run.seq (Run.ops hm (Ops.p rfl (Ops.nil (Run.seq (Run.condO rfl h (fun g_193 h => ?_) (fun g_193 h => ?_))))))
  · refine Run.skip (Run.seq (Run.block (Run.seq (Run.ops hm (Ops.p rfl (Ops.p rfl (Ops.nil (Run.ops hm (Ops.p rfl (Ops.p rfl ?_))))))))))
    obtain ⟨y_195, hy_195, h⟩ := bindO h
    exact Ops.st (s := 13320) (Ev.call [0, 6, 7, 8, 9, 10] [] 1 (sem_core_send N (Tcore.mk (Node.mk x_171 x_172 x_173 x_174 x_175 x_1.n.Conf (Log.mk x_176 x_177 x_1.n.Log.Entries) x_178 x_179 x_180 x_1.n.Votes x_1.n.Peers) x_185) x_170 _ hy_195) rfl rfl (.cons (.ptr rfl) (.cons (.c _) .nil)) rfl (.inl rfl) rfl rfl) rfl rfl (Ops.nil (Run.ops hm (Ops.p rfl (Ops.p rfl (Ops.nil (⟨m_190, Nat.lt_succ_self m_190, _, _, (gh_pk [0, 8, 9] [0, 1, 2, 3, 4, 5, 6, 7, 8, 9, 13320] hB rfl rfl rfl rfl), _, _, _, _, _, _, _, _, _, _, _, _, h, rfl, rfl⟩))))))
  · refine Run.exit ?_
    obtain rfl := someO h
    have h := hk_190
    obtain rfl := someO h
    exact Ends.mkG (.inr rfl) rfl (gh_pk [] [0, 1, 2, 3, 4, 5, 6, 7, 8, 9, 10] hB rfl rfl rfl rfl) rfl rfl
def impl_Propose_l1 (N : Nat) (x_1 : Node) (y_906 : Int) (y_1438 : Nat × (List Int)) : Nat → Int → (List Peer) → Option ((List Peer))
 | 0, _, _ => none
 | m + 1, x_1514, x_1549 =>
 (if (decide (x_1514 < ((y_1438.1 : Nat) : Int))) = true then
 (at? (y_1438.2.take y_1438.1) x_1514).bind fun x_1590 =>
 joinP (fun (v_1598 : Int × Int × Int × Int) =>
 (cat? x_1549 ([(Peer.mk v_1598.1 v_1598.2.1 v_1598.2.2.1 v_1598.2.2.2)] : List Peer)).bind fun x_1607 =>
 impl_Propose_l1 N x_1 y_906 y_1438 m (w64 (x_1514 + (1 : Int))) x_1607) fun j_1598 =>
 (slices_IndexFunc_Peer N x_1.Peers x_1590).bind fun y_1602 =>
 (if (decide (y_1602 ≥ (0 : Int))) = true then
 (at? x_1.Peers y_1602).bind fun x_1605 =>
 j_1598 (x_1605.Id, x_1605.Next, x_1605.Match, x_1605.Sent)
 else
 j_1598 (x_1590, w64 (y_906 + (1 : Int)), (0 : Int), (0 : Int)))
 else
 some x_1549)
def impl_Propose (N : Nat) (x_1 : Node) (x_2 : Int) (x_3 : ByteArray) : Option (Node × (List Message) × Int × Bool) :=
 (impl_NodeOk N x_1).bind fun y_874 =>
 (if (!y_874) = true then
 some ((Node.mk (0 : Int) (0 : Int) (0 : Int) (0 : Int) (0 : Int) ([]) (Log.mk (0 : Int) (0 : Int) ([])) (0 : Int) (0 : Int) (0 : Int) ([]) ([])), [], (0 : Int), false)
 else
 (if (x_1.Role != (2 : Int)) = true then
 some ((Node.mk (0 : Int) (0 : Int) (0 : Int) (0 : Int) (0 : Int) ([]) (Log.mk (0 : Int) (0 : Int) ([])) (0 : Int) (0 : Int) (0 : Int) ([]) ([])), [], (0 : Int), false)
 else
 (if (decide ((x_1.Log.Entries.length : Int) ≥ (120 : Int))) = true then
 some ((Node.mk (0 : Int) (0 : Int) (0 : Int) (0 : Int) (0 : Int) ([]) (Log.mk (0 : Int) (0 : Int) ([])) (0 : Int) (0 : Int) (0 : Int) ([]) ([])), [], (0 : Int), false)
 else
 (impl_last N x_1.Log).bind fun y_878 =>
 (if (decide (y_878 ≥ (100000 : Int))) = true then
 some ((Node.mk (0 : Int) (0 : Int) (0 : Int) (0 : Int) (0 : Int) ([]) (Log.mk (0 : Int) (0 : Int) ([])) (0 : Int) (0 : Int) (0 : Int) ([]) ([])), [], (0 : Int), false)
 else
 joinP (fun (v_889 : Unit) =>
 (impl_copyNode N x_1).bind fun y_902 =>
 (impl_last N x_1.Log).bind fun y_906 =>
 (cat? y_902.Log.Entries ([(Entry.mk x_1.Term x_2 x_3)] : List Entry)).bind fun x_910 =>
 joinP (fun (v_1259 : (List Int) × (List Entry) × (List Int) × (List Peer) × (List Peer) × (List Message)) =>
 (core_commit N (Tcore.mk (Node.mk y_902.Id y_902.Term y_902.Vote y_902.Role y_902.Lead y_902.Conf (Log.mk y_902.Log.Start y_902.Log.StartTerm x_910) y_902.Commit y_902.Clock y_902.Limit y_902.Votes v_1259.2.2.2.2.1) v_1259.2.2.2.2.2)).bind fun y_1611 =>
 (core_sendAll N y_1611).bind fun y_1615 =>
 some (y_1615.n, y_1615.out, w64 (y_906 + (1 : Int)), true)) fun j_1259 =>
 (if (x_2 == (2 : Int)) = true then
 joinP (fun (v_1434 : (List Peer)) =>
 j_1259 (([] : (List Int)), ([] : (List Entry)), ([] : (List Int)), ([] : (List Peer)), v_1434, ([] : (List Message)))) fun j_1434 =>
 (impl_othersOf N (Node.mk y_902.Id y_902.Term y_902.Vote y_902.Role y_902.Lead y_902.Conf (Log.mk y_902.Log.Start y_902.Log.StartTerm x_910) y_902.Commit y_902.Clock y_902.Limit y_902.Votes y_902.Peers)).bind fun y_1438 =>
 (impl_Propose_l1 N x_1 y_906 y_1438 N (0 : Int) ([] : (List Peer))).bind (fun (v_1583 : (List Peer)) => j_1434 v_1583)
 else
 j_1259 (([] : (List Int)), ([] : (List Entry)), ([] : (List Int)), ([] : (List Peer)), y_902.Peers, ([] : (List Message))))) fun j_889 =>
 (impl_EntryOk N (Entry.mk x_1.Term x_2 x_3)).bind fun y_894 =>
 (if (!y_894) = true then
 some ((Node.mk (0 : Int) (0 : Int) (0 : Int) (0 : Int) (0 : Int) ([]) (Log.mk (0 : Int) (0 : Int) ([])) (0 : Int) (0 : Int) (0 : Int) ([]) ([])), [], (0 : Int), false)
 else
 (if (x_2 == (2 : Int)) = true then
 (impl_confMay N x_1 x_3).bind fun y_897 =>
 (if (!y_897) = true then
 some ((Node.mk (0 : Int) (0 : Int) (0 : Int) (0 : Int) (0 : Int) ([]) (Log.mk (0 : Int) (0 : Int) ([])) (0 : Int) (0 : Int) (0 : Int) ([]) ([])), [], (0 : Int), false)
 else
 j_889 ())
 else
 j_889 ()))))))
theorem sem_impl_Propose (N : Nat) (x_1 : Node) (x_2 : Int) (x_3 : ByteArray) (r : Node × (List Message) × Int × Bool) (h : impl_Propose N x_1 x_2 x_3 = some r) : Says Try.prog 30 [.agg [VI x_1.Id, VI x_1.Term, VI x_1.Vote, VI x_1.Role, VI x_1.Lead, RO 3 (x_1.Conf.map encI), VI x_1.Log.Start, VI x_1.Log.StartTerm, RO 51 (x_1.Log.Entries.map encEntry), VI x_1.Commit, VI x_1.Clock, VI x_1.Limit, RO 3 (x_1.Votes.map encI), RO 135 (x_1.Peers.map encPeer)], VI x_2, VS x_3] 0 [] (.tup [.agg [VI r.1.Id, VI r.1.Term, VI r.1.Vote, VI r.1.Role, VI r.1.Lead, .sl 0 3 0 r.1.Conf.length, VI r.1.Log.Start, VI r.1.Log.StartTerm, .sl 1 51 0 r.1.Log.Entries.length, VI r.1.Commit, VI r.1.Clock, VI r.1.Limit, .sl 2 3 0 r.1.Votes.length, .sl 3 135 0 r.1.Peers.length], .sl 4 58 0 r.2.1.length, VI r.2.2.1, VB r.2.2.2]) [(0, .vec 3 (r.1.Conf.map encI)), (1, .vec 51 (r.1.Log.Entries.map encEntry)), (2, .vec 3 (r.1.Votes.map encI)), (3, .vec 135 (r.1.Peers.map encPeer)), (4, .vec 58 (r.2.1.map (encMessage true)))] := by
  unfold impl_Propose at h
  refine Says.of_run s30 Try.call30 rfl fun B hB => ?_
  have hm : B.m ≤ 1000 := by omega
  refine Run.seq (Run.ops hm (Ops.st (s := 1000) (.bx rfl rfl) rfl rfl (Ops.st (s := 1016) (.al rfl rfl) rfl rfl (Ops.p rfl (Ops.p rfl (Ops.p rfl (Ops.nil (Run.seq (Run.seq (Run.ops hm (Ops.p rfl ?_)))))))))))
  obtain ⟨y_874, hy_874, h⟩ := bindO h
  refine Ops.st (s := 5112) (Ev.call [] [] 0 (sem_impl_NodeOk N x_1 _ hy_874) rfl rfl (.cons (.agg (.cons (.c _) (.cons (.c _) (.cons (.c _) (.cons (.c _) (.cons (.c _) (.cons (.c _) (.cons (.c _) (.cons (.c _) (.cons (.c _) (.cons (.c _) (.cons (.c _) (.cons (.c _) (.cons (.c _) (.cons (.c _) .nil))))))))))))))) .nil) rfl (.inl rfl) rfl rfl) rfl rfl (Ops.p rfl (Ops.p rfl (Ops.askO (x := .t 21) rfl h (fun g_875 h => ?_) (fun g_875 h => ?_))))
  · refine Ops.gn rfl g_875 (Ops.gn rfl g_875 (Ops.gn rfl g_875 (Ops.st (s := 5208) (.pkT rfl g_875 rfl) rfl rfl (Ops.p rfl (Ops.gn rfl rfl (Ops.gn rfl rfl (Ops.gn rfl rfl (Ops.gn rfl rfl (Ops.gn rfl rfl (Ops.st (s := 5320) (.pkT rfl rfl rfl) rfl rfl (Ops.p rfl (Ops.gn rfl rfl (Ops.gn rfl rfl (Ops.gn rfl rfl (Ops.gn rfl rfl (Ops.st (s := 5416) (.pkT rfl rfl rfl) rfl rfl (Ops.nil (Run.condT rfl rfl (Run.seq (Run.ops hm (Ops.st (s := 9192) (.bd rfl rfl) rfl rfl (Ops.s0 (s := 9208) (.sto rfl rfl rfl rfl rfl rfl) rfl rfl (Ops.p rfl (Ops.p rfl (Ops.p rfl (Ops.nil (Run.ret ?_)))))))))))))))))))))))))))
    obtain rfl := someO h
    exact Ends.mkG (.inl rfl) rfl (Gh.trans (Gh.trans (gh_prn [0, 1, 2, 3] [] hB rfl) (gh_nil [0, 1] [] hB rfl rfl rfl)) (gh_pk [0, 1, 2, 3] [10000000, 10000001, 10000002, 10000003, 10000064] hB rfl rfl rfl rfl)) rfl rfl
  · refine Ops.gp rfl g_875 rfl (Ops.gp rfl g_875 rfl (Ops.gp rfl g_875 rfl (Ops.st (s := 5208) (.pkF rfl g_875 rfl) rfl rfl (Ops.p rfl (Ops.askO (x := .t 26) rfl h (fun g_876 h => ?_) (fun g_876 h => ?_))))))
    · refine Ops.gn rfl g_876 (Ops.gn rfl g_876 (Ops.gn rfl g_876 (Ops.gn rfl g_876 (Ops.gn rfl g_876 (Ops.st (s := 5320) (.pkT rfl g_876 rfl) rfl rfl (Ops.p rfl (Ops.gn rfl rfl (Ops.gn rfl rfl (Ops.gn rfl rfl (Ops.gn rfl rfl (Ops.st (s := 5416) (.pkT rfl rfl rfl) rfl rfl (Ops.nil (Run.condT rfl rfl (Run.seq (Run.ops hm (Ops.st (s := 9192) (.bd rfl rfl) rfl rfl (Ops.s0 (s := 9208) (.sto rfl rfl rfl rfl rfl rfl) rfl rfl (Ops.p rfl (Ops.p rfl (Ops.p rfl (Ops.nil (Run.ret ?_))))))))))))))))))))))
      obtain rfl := someO h
      exact Ends.mkG (.inl rfl) rfl (Gh.trans (Gh.trans (gh_prn [0, 1, 2, 3] [] hB rfl) (gh_nil [0, 1] [] hB rfl rfl rfl)) (gh_pk [0, 1, 2, 3] [10000000, 10000001, 10000002, 10000003, 10000064] hB rfl rfl rfl rfl)) rfl rfl
    · refine Ops.gp rfl g_876 rfl (Ops.gp rfl g_876 rfl (Ops.gp rfl g_876 rfl (Ops.gs (s := 5288) rfl g_876 (Ev.lnF rfl) rfl rfl (Ops.gp rfl g_876 rfl (Ops.st (s := 5320) (.pkF rfl g_876 rfl) rfl rfl (Ops.p rfl (Ops.askO (x := .t 33) rfl h (fun g_877 h => ?_) (fun g_877 h => ?_))))))))
      · refine Ops.gn rfl g_877 (Ops.gn rfl g_877 (Ops.gn rfl g_877 (Ops.gn rfl g_877 (Ops.st (s := 5416) (.pkT rfl g_877 rfl) rfl rfl (Ops.nil (Run.condT rfl rfl (Run.seq (Run.ops hm (Ops.st (s := 9192) (.bd rfl rfl) rfl rfl (Ops.s0 (s := 9208) (.sto rfl rfl rfl rfl rfl rfl) rfl rfl (Ops.p rfl (Ops.p rfl (Ops.p rfl (Ops.nil (Run.ret ?_)))))))))))))))
        obtain rfl := someO h
        exact Ends.mkG (.inl rfl) rfl (Gh.trans (Gh.trans (gh_prn [0, 1, 2, 3] [] hB rfl) (gh_nil [0, 1] [] hB rfl rfl rfl)) (gh_pk [0, 1, 2, 3] [10000000, 10000001, 10000002, 10000003, 10000064] hB rfl rfl rfl rfl)) rfl rfl
      · refine Ops.gp rfl g_877 rfl (Ops.gp rfl g_877 rfl ?_)
        obtain ⟨y_878, hy_878, h⟩ := bindO h
        refine Ops.gs (s := 5384) rfl g_877 (Ev.call [] [] 0 (sem_impl_last N x_1.Log _ hy_878) rfl rfl (.cons (.agg (.cons (.c _) (.cons (.c _) (.cons (.c _) .nil)))) .nil) rfl (.inl rfl) rfl rfl) rfl rfl (Ops.gp rfl g_877 rfl (Ops.st (s := 5416) (.pkF rfl g_877 rfl) rfl rfl (Ops.nil (Run.condO rfl h (fun g_879 h => ?_) (fun g_879 h => ?_)))))
        · refine Run.seq (Run.ops hm (Ops.st (s := 9192) (.bd rfl rfl) rfl rfl (Ops.s0 (s := 9208) (.sto rfl rfl rfl rfl rfl rfl) rfl rfl (Ops.p rfl (Ops.p rfl (Ops.p rfl (Ops.nil (Run.ret ?_))))))))
          obtain rfl := someO h
          exact Ends.mkG (.inl rfl) rfl (Gh.trans (Gh.trans (gh_prn [0, 1, 2, 3] [] hB rfl) (gh_nil [0, 1] [] hB rfl rfl rfl)) (gh_pk [0, 1, 2, 3] [10000000, 10000001, 10000002, 10000003, 10000064] hB rfl rfl rfl rfl)) rfl rfl
        · refine Run.skip (Run.seq (Run.ops hm (Ops.p rfl (Ops.p rfl (Ops.p rfl (Ops.p rfl (Ops.st (s := 13352) (.bd rfl rfl) rfl rfl (Ops.st (s := 13368) (.al rfl rfl) rfl rfl (Ops.s0 (s := 13384) (.sto rfl rfl rfl rfl rfl rfl) rfl rfl (Ops.nil (Run.seqO h (fun (v_889 : Unit) => [(1, VI x_2), (3, .ptr 0 0), (6, .ptr 1 0), (10, .ptr 2 0)]) (fun (v_889 : Unit) => [(0, .box [VI x_1.Id, VI x_1.Term, VI x_1.Vote, VI x_1.Role, VI x_1.Lead, RO 3 (x_1.Conf.map encI), VI x_1.Log.Start, VI x_1.Log.StartTerm, RO 51 (x_1.Log.Entries.map encEntry), VI x_1.Commit, VI x_1.Clock, VI x_1.Limit, RO 3 (x_1.Votes.map encI), RO 135 (x_1.Peers.map encPeer)]), (1, .box [VI (0 : Int), VI (0 : Int), VI (0 : Int), VI (0 : Int), VI (0 : Int), .sl 3 3 0 (([] : List Int).length), VI (0 : Int), VI (0 : Int), .sl 4 51 0 (([] : List Entry).length), VI (0 : Int), VI (0 : Int), VI (0 : Int), .sl 5 3 0 (([] : List Int).length), .sl 6 135 0 (([] : List Peer).length)]), (2, .box [VI x_1.Term, VI x_2, VS x_3]), (3, .vec 3 (([] : List Int).map encI)), (4, .vec 51 (([] : List Entry).map encEntry)), (5, .vec 3 (([] : List Int).map encI)), (6, .vec 135 (([] : List Peer).map encPeer))]) (fun h => ?_) (fun v_889 h => ?_))))))))))))
          · refine Run.seq (Run.ops hm (Ops.p rfl ?_))
            obtain ⟨y_894, hy_894, h⟩ := bindO h
            refine Ops.st (s := 17400) (Ev.call [] [] 0 (sem_impl_EntryOk N (Entry.mk x_1.Term x_2 x_3) _ hy_894) rfl rfl (.cons (.agg (.cons (.c _) (.cons (.c _) (.cons (.c _) .nil)))) .nil) rfl (.inl rfl) rfl rfl) rfl rfl (Ops.p rfl (Ops.p rfl (Ops.askO (x := .t 48) rfl h (fun g_895 h => ?_) (fun g_895 h => ?_))))
            · refine Ops.gn rfl g_895 (Ops.gn rfl g_895 (Ops.gn rfl g_895 (Ops.gu rfl (Ops.gu rfl (Ops.gu rfl (Ops.gu rfl (Ops.gn rfl g_895 (Ops.st (s := 17576) (.pkT rfl g_895 rfl) rfl rfl (Ops.nil (Run.condT rfl rfl (Run.seq (Run.ops hm (Ops.st (s := 21480) (.bd rfl rfl) rfl rfl (Ops.s0 (s := 21496) (.sto rfl rfl rfl rfl rfl rfl) rfl rfl (Ops.p rfl (Ops.p rfl (Ops.p rfl (Ops.nil (Run.ret ?_)))))))))))))))))))
              obtain rfl := someO h
              exact Ends.mkG (.inl rfl) rfl (Gh.trans (Gh.trans (gh_prn [0, 1, 2, 3] [] hB rfl) (gh_nil [0, 1] [] hB rfl rfl rfl)) (gh_pk [0, 1, 2, 3] [10000000, 10000001, 10000002, 10000003, 10000064] hB rfl rfl rfl rfl)) rfl rfl
            · refine Ops.gp rfl g_895 rfl (Ops.gp rfl g_895 rfl (Ops.gp rfl g_895 rfl (Ops.askO (x := .t 51) rfl h (fun g_896 h => ?_) (fun g_896 h => ?_))))
              · refine Ops.gp rfl g_896 rfl (Ops.gp rfl g_896 rfl ?_)
                obtain ⟨y_897, hy_897, h⟩ := bindO h
                refine Ops.gs (s := 17528) rfl g_896 (Ev.call [] [] 0 (sem_impl_confMay N x_1 x_3 _ hy_897) rfl rfl (.cons (.agg (.cons (.c _) (.cons (.c _) (.cons (.c _) (.cons (.c _) (.cons (.c _) (.cons (.c _) (.cons (.c _) (.cons (.c _) (.cons (.c _) (.cons (.c _) (.cons (.c _) (.cons (.c _) (.cons (.c _) (.cons (.c _) .nil))))))))))))))) (.cons (.c _) .nil)) rfl (.inl rfl) rfl rfl) rfl rfl (Ops.gp rfl g_896 rfl (Ops.gs (s := 17560) rfl g_895 (.pkT rfl g_896 rfl) rfl rfl (Ops.st (s := 17576) (.pkF rfl g_895 rfl) rfl rfl (Ops.nil (Run.condO rfl h (fun g_898 h => ?_) (fun g_898 h => ?_))))))
                · refine Run.seq (Run.ops hm (Ops.st (s := 21480) (.bd rfl rfl) rfl rfl (Ops.s0 (s := 21496) (.sto rfl rfl rfl rfl rfl rfl) rfl rfl (Ops.p rfl (Ops.p rfl (Ops.p rfl (Ops.nil (Run.ret ?_))))))))
                  obtain rfl := someO h
                  exact Ends.mkG (.inl rfl) rfl (Gh.trans (Gh.trans (gh_prn [0, 1, 2, 3] [] hB rfl) (gh_nil [0, 1] [] hB rfl rfl rfl)) (gh_pk [0, 1, 2, 3] [10000000, 10000001, 10000002, 10000003, 10000064] hB rfl rfl rfl rfl)) rfl rfl
                · exact Run.skip (⟨_, _, (Gh.trans (Gh.trans (gh_prn [1, 3, 6, 10] [1000, 1016, 13368] hB rfl) (gh_nil [] [1016] hB rfl rfl rfl)) (gh_pk [1, 3, 6, 10] [1000, 1016, 13368, 20000000, 20000001, 20000002, 20000003] hB rfl rfl rfl rfl)), (), h, rfl, rfl⟩)
              · exact Ops.gn rfl g_896 (Ops.gn rfl g_896 (Ops.gn rfl g_896 (Ops.gn rfl g_896 (Ops.gs (s := 17560) rfl g_895 (.pkF rfl g_896 rfl) rfl rfl (Ops.st (s := 17576) (.pkF rfl g_895 rfl) rfl rfl (Ops.nil (Run.condF rfl rfl (Run.skip (⟨_, _, (Gh.trans (Gh.trans (gh_prn [1, 3, 6, 10] [1000, 1016, 13368] hB rfl) (gh_nil [] [1016] hB rfl rfl rfl)) (gh_pk [1, 3, 6, 10] [1000, 1016, 13368, 20000000, 20000001, 20000002, 20000003] hB rfl rfl rfl rfl)), (), h, rfl, rfl⟩)))))))))
          · refine Run.seq (Run.ops hm (Ops.p rfl ?_))
            obtain ⟨y_902, hy_902, h⟩ := bindO h
            refine Ops.st (s := 25592) (Ev.call [] [] 4 (sem_impl_copyNode N x_1 _ hy_902) rfl rfl (.cons (.agg (.cons (.c _) (.cons (.c _) (.cons (.c _) (.cons (.c _) (.cons (.c _) (.cons (.c _) (.cons (.c _) (.cons (.c _) (.cons (.c _) (.cons (.c _) (.cons (.c _) (.cons (.c _) (.cons (.c _) (.cons (.c _) .nil))))))))))))))) .nil) rfl (.inl rfl) rfl rfl) rfl rfl (Ops.st (s := 25608) (.bd rfl rfl) rfl rfl (Ops.st (s := 25624) (.bx rfl rfl) rfl rfl (Ops.p rfl (Ops.nil (Run.seq (Run.ops hm (Ops.p rfl (Ops.p rfl ?_))))))))
            obtain ⟨y_906, hy_906, h⟩ := bindO h
            refine Ops.st (s := 29704) (Ev.call [] [] 0 (sem_impl_last N x_1.Log _ hy_906) rfl rfl (.cons (.agg (.cons (.c _) (.cons (.c _) (.cons (.c _) .nil)))) .nil) rfl (.inl rfl) rfl rfl) rfl rfl (Ops.p rfl (Ops.nil (Run.seq (Run.draw hm hmix (OpsD.p rfl (OpsD.p rfl (OpsD.p rfl (OpsD.p rfl (OpsD.p rfl (OpsD.p rfl (OpsD.p rfl (OpsD.p rfl (OpsD.st (s := 33896) (Ev.bsW (ys := ([(Entry.mk x_1.Term x_2 x_3)] : List Entry)) (f := encEntry) rfl (.cons (.c _) (.cons (.c _) (.cons (.c _) .nil))) rfl rfl rfl rfl rfl) rfl rfl ?_)))))))))))))
            obtain ⟨x_910, hx_910, h⟩ := bindO h
            refine OpsD.st (s := 33912) (Ev.apW (f := encEntry) (ontoW rfl rfl rfl) (addsW rfl rfl rfl (fun _ => rfl)) rfl bt51 rfl hx_910) rfl rfl (OpsD.p rfl (OpsD.p rfl (OpsD.p rfl (OpsD.p rfl (OpsD.s0 (s := 33992) (.sto rfl rfl rfl rfl rfl rfl) rfl rfl (OpsD.nil ⟨by kernel_rfl, ?_⟩))))))
            refine Run.seqO h (fun (v_1259 : (List Int) × (List Entry) × (List Int) × (List Peer) × (List Peer) × (List Message)) => [(6, .ptr 0 0), (11, .ptr 1 0), (12, VI y_906)]) (fun (v_1259 : (List Int) × (List Entry) × (List Int) × (List Peer) × (List Peer) × (List Message)) => [(0, .box [VI (0 : Int), VI (0 : Int), VI (0 : Int), VI (0 : Int), VI (0 : Int), .sl 2 3 0 v_1259.1.length, VI (0 : Int), VI (0 : Int), .sl 3 51 0 v_1259.2.1.length, VI (0 : Int), VI (0 : Int), VI (0 : Int), .sl 4 3 0 v_1259.2.2.1.length, .sl 5 135 0 v_1259.2.2.2.1.length]), (1, .box [VI y_902.Id, VI y_902.Term, VI y_902.Vote, VI y_902.Role, VI y_902.Lead, .sl 6 3 0 y_902.Conf.length, VI y_902.Log.Start, VI y_902.Log.StartTerm, .sl 7 51 0 x_910.length, VI y_902.Commit, VI y_902.Clock, VI y_902.Limit, .sl 8 3 0 y_902.Votes.length, .sl 9 135 0 v_1259.2.2.2.2.1.length, .sl 10 58 0 v_1259.2.2.2.2.2.length]), (2, .vec 3 (v_1259.1.map encI)), (3, .vec 51 (v_1259.2.1.map encEntry)), (4, .vec 3 (v_1259.2.2.1.map encI)), (5, .vec 135 (v_1259.2.2.2.1.map encPeer)), (6, .vec 3 (y_902.Conf.map encI)), (7, .vec 51 (x_910.map encEntry)), (8, .vec 3 (y_902.Votes.map encI)), (9, .vec 135 (v_1259.2.2.2.2.1.map encPeer)), (10, .vec 58 (v_1259.2.2.2.2.2.map (encMessage true)))]) (fun h => ?_) (fun v_1259 h => ?_)
            · refine Run.seq (Run.ops hm (Ops.p rfl (Ops.p rfl (Ops.nil (Run.condO rfl h (fun g_1260 h => ?_) (fun g_1260 h => ?_))))))
              · refine Run.seq (Run.ops hm (Ops.p rfl (Ops.nil (Run.seqO h (fun (v_1434 : (List Peer)) => [(6, .ptr 0 0), (11, .ptr 1 0), (12, VI y_906), (13, .sl 2 135 0 v_1434.length)]) (fun (v_1434 : (List Peer)) => [(0, .box [VI (0 : Int), VI (0 : Int), VI (0 : Int), VI (0 : Int), VI (0 : Int), .sl 3 3 0 (([] : (List Int)).length), VI (0 : Int), VI (0 : Int), .sl 4 51 0 (([] : (List Entry)).length), VI (0 : Int), VI (0 : Int), VI (0 : Int), .sl 5 3 0 (([] : (List Int)).length), .sl 6 135 0 (([] : (List Peer)).length)]), (1, .box [VI y_902.Id, VI y_902.Term, VI y_902.Vote, VI y_902.Role, VI y_902.Lead, .sl 7 3 0 y_902.Conf.length, VI y_902.Log.Start, VI y_902.Log.StartTerm, .sl 8 51 0 x_910.length, VI y_902.Commit, VI y_902.Clock, VI y_902.Limit, .sl 9 3 0 y_902.Votes.length, .sl 10 135 0 y_902.Peers.length, .sl 11 58 0 (([] : (List Message)).length)]), (2, .vec 135 (v_1434.map encPeer)), (3, .vec 3 (([] : (List Int)).map encI)), (4, .vec 51 (([] : (List Entry)).map encEntry)), (5, .vec 3 (([] : (List Int)).map encI)), (6, .vec 135 (([] : (List Peer)).map encPeer)), (7, .vec 3 (y_902.Conf.map encI)), (8, .vec 51 (x_910.map encEntry)), (9, .vec 3 (y_902.Votes.map encI)), (10, .vec 135 (y_902.Peers.map encPeer)), (11, .vec 58 (([] : (List Message)).map (encMessage true)))]) (fun h => ?_) (fun v_1434 h => ?_)))))
                · refine Run.seq (Run.ops hm (Ops.p rfl (Ops.p rfl (Ops.p rfl (Ops.p rfl ?_)))))
                  obtain ⟨y_1438, hy_1438, h⟩ := bindO h
                  refine Ops.st (s := 46120) (Ev.call [] [25592, 33912, 25594, 25595] 1 (sem_impl_othersOf N (Node.mk y_902.Id y_902.Term y_902.Vote y_902.Role y_902.Lead y_902.Conf (Log.mk y_902.Log.Start y_902.Log.StartTerm x_910) y_902.Commit y_902.Clock y_902.Limit y_902.Votes y_902.Peers) _ hy_1438) rfl rfl (.cons (.agg (.cons (.c _) (.cons (.c _) (.cons (.c _) (.cons (.c _) (.cons (.c _) (.cons (.borrow rfl (by decide) (lendW (fun _ => rfl) _ rfl)) (.cons (.c _) (.cons (.c _) (.cons (.borrow rfl (by decide) (lendW (fun _ => rfl) _ rfl)) (.cons (.c _) (.cons (.c _) (.cons (.c _) (.cons (.borrow rfl (by decide) (lendW (fun _ => rfl) _ rfl)) (.cons (.borrow rfl (by decide) (lendW (fun _ => rfl) _ rfl)) .nil))))))))))))))) .nil) rfl (.inr ⟨rfl, ownL_root ⟨own_rows (fun _ => rfl) _, trivial⟩⟩) rfl rfl) rfl rfl ?_
                  refine Ops.p rfl (Ops.p rfl (Ops.nil (Run.block ?_)))
                  obtain ⟨res_1583, h, hk_1583⟩ := bindO h
                  refine Run.loop (n := N) (fun m_1583 fr σ => ∃ (x_1514 : Int), ∃ (x_1549 : (List Peer)), impl_Propose_l1 N x_1 y_906 y_1438 m_1583 x_1514 x_1549 = some res_1583 ∧ fr = [(3, .ptr 0 0), (6, .ptr 1 0), (11, .ptr 2 0), (12, VI y_906), (13, .sl 3 135 0 x_1549.length), (86, .sl 4 3 0 y_1438.1), (87, VI ((y_1438.1 : Nat) : Int)), (88, VI x_1514)] ∧ σ = [(0, .box [VI x_1.Id, VI x_1.Term, VI x_1.Vote, VI x_1.Role, VI x_1.Lead, RO 3 (x_1.Conf.map encI), VI x_1.Log.Start, VI x_1.Log.StartTerm, RO 51 (x_1.Log.Entries.map encEntry), VI x_1.Commit, VI x_1.Clock, VI x_1.Limit, RO 3 (x_1.Votes.map encI), RO 135 (x_1.Peers.map encPeer)]), (1, .box [VI (0 : Int), VI (0 : Int), VI (0 : Int), VI (0 : Int), VI (0 : Int), .sl 5 3 0 (([] : (List Int)).length), VI (0 : Int), VI (0 : Int), .sl 6 51 0 (([] : (List Entry)).length), VI (0 : Int), VI (0 : Int), VI (0 : Int), .sl 7 3 0 (([] : (List Int)).length), .sl 8 135 0 (([] : (List Peer)).length)]), (2, .box [VI y_902.Id, VI y_902.Term, VI y_902.Vote, VI y_902.Role, VI y_902.Lead, .sl 9 3 0 y_902.Conf.length, VI y_902.Log.Start, VI y_902.Log.StartTerm, .sl 10 51 0 x_910.length, VI y_902.Commit, VI y_902.Clock, VI y_902.Limit, .sl 11 3 0 y_902.Votes.length, .sl 12 135 0 y_902.Peers.length, .sl 13 58 0 (([] : (List Message)).length)]), (3, .vec 135 (x_1549.map encPeer)), (4, .vec 3 (y_1438.2.map encI)), (5, .vec 3 (([] : (List Int)).map encI)), (6, .vec 51 (([] : (List Entry)).map encEntry)), (7, .vec 3 (([] : (List Int)).map encI)), (8, .vec 135 (([] : (List Peer)).map encPeer)), (9, .vec 3 (y_902.Conf.map encI)), (10, .vec 51 (x_910.map encEntry)), (11, .vec 3 (y_902.Votes.map encI)), (12, .vec 135 (y_902.Peers.map encPeer)), (13, .vec 58 (([] : (List Message)).map (encMessage true)))]) (Gh.trans (Gh.trans (gh_prn [3, 6, 11, 12, 13, 86, 87, 88] [0, 1, 25624, 46120, 3, 4, 5, 6, 25592, 33912, 25594, 25595] hB rfl) (gh_nil [13] [25624] hB rfl rfl rfl)) (gh_pk [3, 6, 11, 12, 13, 86, 87, 88] [0, 1, 25624, 10000000, 46120, 3, 4, 5, 6, 25592, 33912, 25594, 25595, 20000000] hB rfl rfl rfl rfl)) ⟨_, _, h, rfl, rfl⟩ ?_
                  rintro m_1583 fr σ ⟨x_1514, x_1549, h, rfl, rfl⟩
                  obtain _ | m_1583 := m_1583
                  · rw [impl_Propose_l1] at h; cases h
                  rw [impl_Propose_l1] at h
                  refine Run.seq (Run.ops hm (Ops.p rfl (Ops.nil (Run.seq (Run.condO rfl h (fun g_1586 h => ?_) (fun g_1586 h => ?_))))))
                  · refine Run.skip (Run.seq (Run.block (Run.seq (Run.ops hm ?_))))
                    obtain ⟨x_1590, hx_1590, h⟩ := bindO h
                    refine Ops.st (s := 54248) (Ev.iaP (xs := y_1438.2) rfl rfl hx_1590) rfl rfl (Ops.st (s := 54264) (Ev.ldE (f := encI) rfl rfl (at_part hx_1590) rfl rfl rfl) rfl rfl (Ops.st (s := 54280) (.al rfl rfl) rfl rfl (Ops.s0 (s := 54296) (.sto rfl rfl rfl rfl rfl rfl) rfl rfl (Ops.nil (Run.seq (Run.ops hm (Ops.p rfl (Ops.p rfl (Ops.p rfl (Ops.st (s := 58392) (.bd rfl rfl) rfl rfl (Ops.st (s := 58408) (.al rfl rfl) rfl rfl (Ops.s0 (s := 58424) (.sto rfl rfl rfl rfl rfl rfl) rfl rfl (Ops.nil (Run.seqO h (fun (v_1598 : Int × Int × Int × Int) => [(3, .ptr 0 0), (6, .ptr 1 0), (11, .ptr 2 0), (12, VI y_906), (13, .sl 3 135 0 x_1549.length), (16, .ptr 4 0), (86, .sl 5 3 0 y_1438.1), (87, VI ((y_1438.1 : Nat) : Int)), (88, VI x_1514)]) (fun (v_1598 : Int × Int × Int × Int) => [(0, .box [VI x_1.Id, VI x_1.Term, VI x_1.Vote, VI x_1.Role, VI x_1.Lead, RO 3 (x_1.Conf.map encI), VI x_1.Log.Start, VI x_1.Log.StartTerm, RO 51 (x_1.Log.Entries.map encEntry), VI x_1.Commit, VI x_1.Clock, VI x_1.Limit, RO 3 (x_1.Votes.map encI), RO 135 (x_1.Peers.map encPeer)]), (1, .box [VI (0 : Int), VI (0 : Int), VI (0 : Int), VI (0 : Int), VI (0 : Int), .sl 6 3 0 (([] : (List Int)).length), VI (0 : Int), VI (0 : Int), .sl 7 51 0 (([] : (List Entry)).length), VI (0 : Int), VI (0 : Int), VI (0 : Int), .sl 8 3 0 (([] : (List Int)).length), .sl 9 135 0 (([] : (List Peer)).length)]), (2, .box [VI y_902.Id, VI y_902.Term, VI y_902.Vote, VI y_902.Role, VI y_902.Lead, .sl 10 3 0 y_902.Conf.length, VI y_902.Log.Start, VI y_902.Log.StartTerm, .sl 11 51 0 x_910.length, VI y_902.Commit, VI y_902.Clock, VI y_902.Limit, .sl 12 3 0 y_902.Votes.length, .sl 13 135 0 y_902.Peers.length, .sl 14 58 0 (([] : (List Message)).length)]), (3, .vec 135 (x_1549.map encPeer)), (4, .box [VI v_1598.1, VI v_1598.2.1, VI v_1598.2.2.1, VI v_1598.2.2.2]), (5, .vec 3 (y_1438.2.map encI)), (6, .vec 3 (([] : (List Int)).map encI)), (7, .vec 51 (([] : (List Entry)).map encEntry)), (8, .vec 3 (([] : (List Int)).map encI)), (9, .vec 135 (([] : (List Peer)).map encPeer)), (10, .vec 3 (y_902.Conf.map encI)), (11, .vec 51 (x_910.map encEntry)), (12, .vec 3 (y_902.Votes.map encI)), (13, .vec 135 (y_902.Peers.map encPeer)), (14, .vec 58 (([] : (List Message)).map (encMessage true)))]) (fun h => ?_) (fun v_1598 h => ?_)))))))))))))))
                    · refine Run.seq (Run.ops hm (Ops.p rfl (Ops.p rfl (Ops.p rfl ?_))))
                      obtain ⟨y_1602, hy_1602, h⟩ := bindO h
                      refine Ops.st (s := 62488) (Ev.call [54280] [] 0 (sem_slices_IndexFunc_Peer N x_1.Peers x_1590 _ hy_1602) rfl rfl (.cons (.c _) (.cons (.fn (.cons (.ptr rfl) .nil)) .nil)) rfl (.inl rfl) rfl rfl) rfl rfl (Ops.p rfl (Ops.nil (Run.seq (Run.ops hm (Ops.p rfl (Ops.p rfl (Ops.nil (Run.condO rfl h (fun g_1603 h => ?_) (fun g_1603 h => ?_)))))))))
                      · refine Run.ops hm (Ops.p rfl (Ops.p rfl (Ops.p rfl ?_)))
                        obtain ⟨x_1605, hx_1605, h⟩ := bindO h
                        exact Ops.st (s := 70680) (Ev.iaF rfl rfl hx_1605) rfl rfl (Ops.p rfl (Ops.s0 (s := 70712) (.sto rfl rfl rfl rfl rfl rfl) rfl rfl (Ops.nil (⟨_, _, (gh_pk [3, 6, 11, 12, 13, 16, 86, 87, 88] [0, 1, 2, 3, 58408, 4, 5, 6, 7, 8, 9, 10, 11, 12, 13] hB rfl rfl rfl rfl), (x_1605.Id, x_1605.Next, x_1605.Match, x_1605.Sent), h, rfl, rfl⟩))))
                      · exact Run.skip (⟨_, _, (gh_pk [3, 6, 11, 12, 13, 16, 86, 87, 88] [0, 1, 2, 3, 58408, 4, 5, 6, 7, 8, 9, 10, 11, 12, 13] hB rfl rfl rfl rfl), (x_1590, w64 (y_906 + (1 : Int)), (0 : Int), (0 : Int)), h, rfl, rfl⟩)
                    · refine Run.ops hm (Ops.p rfl (Ops.p rfl (Ops.st (s := 74760) (Ev.bsW (ys := ([(Peer.mk v_1598.1 v_1598.2.1 v_1598.2.2.1 v_1598.2.2.2)] : List Peer)) (f := encPeer) rfl (.cons (.c _) (.cons (.c _) (.cons (.c _) (.cons (.c _) .nil)))) rfl rfl rfl rfl rfl) rfl rfl ?_)))
                      obtain ⟨x_1607, hx_1607, h⟩ := bindO h
                      exact Ops.st (s := 74776) (Ev.apW (f := encPeer) (ontoW rfl rfl rfl) (addsW rfl rfl rfl (fun _ => rfl)) rfl bt135 rfl hx_1607) rfl rfl (Ops.p rfl (Ops.nil (Run.ops hm (Ops.p rfl (Ops.p rfl (Ops.nil (⟨m_1583, Nat.lt_succ_self m_1583, _, _, (gh_pk [3, 6, 11, 12, 13, 86, 87, 88] [0, 1, 2, 74776, 5, 6, 7, 8, 9, 10, 11, 12, 13, 14] hB rfl rfl rfl rfl), _, _, h, rfl, rfl⟩)))))))
                  · refine Run.exit ?_
                    obtain rfl := someO h
                    have h := hk_1583
                    exact ⟨_, _, (gh_pk [6, 11, 12, 13] [1, 2, 3, 5, 6, 7, 8, 9, 10, 11, 12, 13] hB rfl rfl rfl rfl), x_1549, h, rfl, rfl⟩
                · exact Run.ops hm (Ops.p rfl (Ops.p rfl (Ops.p rfl (Ops.p rfl (Ops.p rfl (Ops.s0 (s := 83000) (.sto rfl rfl rfl rfl rfl rfl) rfl rfl (Ops.nil (⟨_, _, (gh_pk [6, 11, 12] [0, 1, 3, 4, 5, 6, 7, 8, 9, 2, 11] hB rfl rfl rfl rfl), (([] : (List Int)), ([] : (List Entry)), ([] : (List Int)), ([] : (List Peer)), v_1434, ([] : (List Message))), h, rfl, rfl⟩))))))))
              · exact Run.skip (⟨_, _, (Gh.trans (Gh.trans (gh_prn [6, 11, 12] [1, 25624, 3, 4, 5, 6, 25592, 33912, 25594, 25595] hB rfl) (gh_nil [] [25624] hB rfl rfl rfl)) (gh_pk [6, 11, 12] [1, 25624, 3, 4, 5, 6, 25592, 33912, 25594, 25595, 20000000] hB rfl rfl rfl rfl)), (([] : (List Int)), ([] : (List Entry)), ([] : (List Int)), ([] : (List Peer)), y_902.Peers, ([] : (List Message))), h, rfl, rfl⟩)
            · refine Run.seq (Run.ops hm (Ops.p rfl ?_))
              obtain ⟨y_1611, hy_1611, h⟩ := bindO h
              refine Ops.st (s := 87032) (Ev.call [1, 6, 7, 8, 9, 10] [] 5 (sem_core_commit N (Tcore.mk (Node.mk y_902.Id y_902.Term y_902.Vote y_902.Role y_902.Lead y_902.Conf (Log.mk y_902.Log.Start y_902.Log.StartTerm x_910) y_902.Commit y_902.Clock y_902.Limit y_902.Votes v_1259.2.2.2.2.1) v_1259.2.2.2.2.2) _ hy_1611) rfl rfl (.cons (.ptr rfl) .nil) rfl (.inl rfl) rfl rfl) rfl rfl (Ops.nil (Run.seq (Run.ops hm (Ops.p rfl ?_))))
              obtain ⟨y_1615, hy_1615, h⟩ := bindO h
              refine Ops.st (s := 91128) (Ev.call [1, 87032, 87033, 87034, 87035, 87036] [] 5 (sem_core_sendAll N y_1611 _ hy_1615) rfl rfl (.cons (.ptr rfl) .nil) rfl (.inl rfl) rfl rfl) rfl rfl (Ops.nil (Run.seq (Run.draw hm hmix (OpsD.p rfl (OpsD.p rfl (OpsD.p rfl (OpsD.p rfl (OpsD.p rfl (OpsD.p rfl (OpsD.p rfl (OpsD.p rfl (OpsD.p rfl (OpsD.p rfl (OpsD.s0 (s := 95368) (.sto rfl rfl rfl rfl rfl rfl) rfl rfl (OpsD.p rfl (OpsD.p rfl (OpsD.p rfl (OpsD.nil ⟨by kernel_rfl, ?_⟩))))))))))))))))))
              refine Run.ret ?_
              obtain rfl := someO h
              exact Ends.mkG (.inl rfl) rfl (gh_pk [0, 1, 2, 3] [91128, 91129, 91130, 91131, 91132] hB rfl rfl rfl rfl) rfl rfl
def laws_eqIntS_l1 (N : Nat) (x_1 : (List Int)) (x_2 : (List Int)) : Nat → Int → Option ((Bool) ⊕ (Unit))
 | 0, _ => none
 | m + 1, x_198 =>
 (if (decide (x_198 < (x_1.length : Int))) = true then
 (at? x_1 x_198).bind fun x_223 =>
 (at? x_2 x_198).bind fun x_224 =>
 (if (x_223 != x_224) = true then
 some (Sum.inl false)
 else
 laws_eqIntS_l1 N x_1 x_2 m (w64 (x_198 + (1 : Int))))
 else
 some (Sum.inr ()))
def laws_eqIntS_l1_r (N : Nat) (x_1 : (List Int)) (x_2 : (List Int)) : (List Int) → Int → Option ((Bool) ⊕ (Unit))
 | [], x_198 =>
 some (Sum.inr ())
 | hd :: tl, x_198 =>
 (some hd).bind fun x_223 =>
 (at? x_2 x_198).bind fun x_224 =>
 (if (x_223 != x_224) = true then
 some (Sum.inl false)
 else
 laws_eqIntS_l1_r N x_1 x_2 tl (w64 (x_198 + (1 : Int))))
theorem laws_eqIntS_l1_rng (N : Nat) (x_1 : (List Int)) (x_2 : (List Int)) (hx : x_1.length ≤ 1099511627776) : ∀ (d k m : Nat), x_1.length = k + d → d < m → laws_eqIntS_l1 N x_1 x_2 m (k : Int) = laws_eqIntS_l1_r N x_1 x_2 (x_1.drop k) (k : Int) := by
  intro d
  induction d with
  | zero =>
    intro k m hd hm
    obtain ⟨m, rfl⟩ : ∃ q, m = q + 1 := ⟨m - 1, by omega⟩
    rw [laws_eqIntS_l1, if_neg (by simp; omega), List.drop_eq_nil_of_le (by omega), laws_eqIntS_l1_r]
  | succ d ih =>
    intro k m hd hm
    obtain ⟨m, rfl⟩ : ∃ q, m = q + 1 := ⟨m - 1, by omega⟩
    have hk : k < x_1.length := by omega
    rw [laws_eqIntS_l1, if_pos (by simp; omega), List.drop_eq_getElem_cons hk, laws_eqIntS_l1_r]
    have h1 := at_lt hk
    have h2 := w64_succ (k := k) (by omega)
    have h3 := ih (k + 1) m
    simp only [h1, h2, h3 (by omega) (by omega)]
theorem laws_eqIntS_l1_eq {N : Nat} (x_1 : (List Int)) (x_2 : (List Int)) (hx : x_1.length ≤ 1099511627776) (hN : x_1.length < N) : laws_eqIntS_l1 N x_1 x_2 N 0 = laws_eqIntS_l1_r N x_1 x_2 x_1 0 := laws_eqIntS_l1_rng N x_1 x_2 hx x_1.length 0 N (by omega) hN
def laws_eqIntS (N : Nat) (x_1 : (List Int)) (x_2 : (List Int)) : Option (Bool) :=
 (if ((x_1.length : Int) != (x_2.length : Int)) = true then
 some false
 else
 joinP (fun (v_195 : Unit) =>
 some true) fun j_195 =>
 (laws_eqIntS_l1 N x_1 x_2 N (0 : Int)).bind (Sum.elim (fun v_211 => some v_211) (fun (v_212 : Unit) => j_195 ())))
theorem sem_laws_eqIntS (N : Nat) (x_1 : (List Int)) (x_2 : (List Int)) (r : Bool) (h : laws_eqIntS N x_1 x_2 = some r) : Says Try.prog 100 [RO 3 (x_1.map encI), RO 3 (x_2.map encI)] 0 [] (VB r) [] := by
  unfold laws_eqIntS at h
  refine Says.of_run s100 Try.call100 rfl fun B hB => ?_
  have hm : B.m ≤ 1000 := by omega
  refine Run.seq (Run.ops hm (Ops.p rfl (Ops.nil (Run.seq (Run.seq (Run.ops hm (Ops.p rfl (Ops.st (s := 5112) (Ev.lnF rfl) rfl rfl (Ops.p rfl (Ops.st (s := 5144) (Ev.lnF rfl) rfl rfl (Ops.p rfl (Ops.nil (Run.condO rfl h (fun g_164 h => ?_) (fun g_164 h => ?_))))))))))))))
  · refine Run.seq (Run.ops hm (Ops.p rfl (Ops.nil (Run.ret ?_))))
    obtain rfl := someO h
    exact Ends.mkG (.inl rfl) rfl (gh_pk [0] [] hB rfl rfl rfl rfl) rfl rfl
  · refine Run.skip (Run.seqO h (fun (v_195 : Unit) => []) (fun (v_195 : Unit) => []) (fun h => ?_) (fun v_195 h => ?_))
    · refine Run.seq (Run.ops hm (Ops.p rfl (Ops.nil (Run.block ?_))))
      obtain ⟨res_212, h, hk_212⟩ := bindO h
      refine Run.loop (n := N) (fun m_212 fr σ => ∃ (x_198 : Int), laws_eqIntS_l1 N x_1 x_2 m_212 x_198 = some res_212 ∧ fr = [(0, RO 3 (x_1.map encI)), (1, RO 3 (x_2.map encI)), (5, VI x_198)] ∧ σ = []) (gh_pk [0, 1, 5] [] hB rfl rfl rfl rfl) ⟨_, h, rfl, rfl⟩ ?_
      rintro m_212 fr σ ⟨x_198, h, rfl, rfl⟩
      obtain _ | m_212 := m_212
      · rw [laws_eqIntS_l1] at h; cases h
      rw [laws_eqIntS_l1] at h
      refine Run.seq (Run.seq (Run.ops hm (Ops.p rfl (Ops.p rfl (Ops.st (s := 17416) (Ev.lnF rfl) rfl rfl (Ops.p rfl (Ops.nil (Run.condO rfl h (fun g_215 h => ?_) (fun g_215 h => ?_)))))))))
      · refine Run.skip (Run.seq (Run.block (Run.seq (Run.draw hm hmix (OpsD.p rfl (OpsD.p rfl ?_))))))
        obtain ⟨x_223, hx_223, h⟩ := bindO h
        refine OpsD.st (s := 25608) (Ev.iaF rfl rfl hx_223) rfl rfl (OpsD.p rfl (OpsD.p rfl (OpsD.p rfl ?_)))
        obtain ⟨x_224, hx_224, h⟩ := bindO h
        refine OpsD.st (s := 25672) (Ev.iaF rfl rfl hx_224) rfl rfl (OpsD.p rfl (OpsD.p rfl (OpsD.nil ⟨by kernel_rfl, ?_⟩)))
        refine Run.condO rfl h (fun g_225 h => ?_) (fun g_225 h => ?_)
        · refine Run.seq (Run.ops hm (Ops.p rfl (Ops.nil (Run.ret ?_))))
          obtain rfl := someO h
          have h := hk_212
          replace h := inlO h
          obtain rfl := someO h
          exact Ends.mkG (.inl rfl) rfl (gh_pk [0] [] hB rfl rfl rfl rfl) rfl rfl
        · exact Run.skip (Run.ops hm (Ops.p rfl (Ops.p rfl (Ops.p rfl (Ops.nil (⟨m_212, Nat.lt_succ_self m_212, _, _, (gh_pk [0, 1, 5] [] hB rfl rfl rfl rfl), _, h, rfl, rfl⟩))))))
      · refine Run.exit ?_
        obtain rfl := someO h
        have h := hk_212
        replace h := inrO h
        exact ⟨_, _, (gh_pk [] [] hB rfl rfl rfl rfl), (), h, rfl, rfl⟩
    · refine Run.seq (Run.ops hm (Ops.p rfl (Ops.nil (Run.ret ?_))))
      obtain rfl := someO h
      exact Ends.mkG (.inl rfl) rfl (gh_pk [0] [] hB rfl rfl rfl rfl) rfl rfl
def laws_eqEntry (N : Nat) (x_1 : Entry) (x_2 : Entry) : Option (Bool) :=
 (if (x_1.Term != x_2.Term) = true then
 some false
 else
 (if (x_1.Kind != x_2.Kind) = true then
 some false
 else
 (if (!decide (x_1.Data = x_2.Data)) = true then
 some false
 else
 some true)))
theorem sem_laws_eqEntry (N : Nat) (x_1 : Entry) (x_2 : Entry) (r : Bool) (h : laws_eqEntry N x_1 x_2 = some r) : Says Try.prog 187 [.agg [VI x_1.Term, VI x_1.Kind, VS x_1.Data], .agg [VI x_2.Term, VI x_2.Kind, VS x_2.Data]] 0 [] (VB r) [] := by
  unfold laws_eqEntry at h
  refine Says.of_run s187 Try.call187 rfl fun B hB => ?_
  have hm : B.m ≤ 1000 := by omega
  refine Run.seq (Run.ops hm (Ops.st (s := 1000) (.bx rfl rfl) rfl rfl (Ops.st (s := 1016) (.bx rfl rfl) rfl rfl (Ops.p rfl (Ops.nil (Run.seq (Run.seq (Run.ops hm (Ops.p rfl (Ops.p rfl (Ops.p rfl (Ops.p rfl (Ops.p rfl (Ops.nil (Run.condO rfl h (fun g_106 h => ?_) (fun g_106 h => ?_))))))))))))))))
  · refine Run.seq (Run.ops hm (Ops.p rfl (Ops.nil (Run.ret ?_))))
    obtain rfl := someO h
    exact Ends.mkG (.inl rfl) rfl (gh_pk [0] [] hB rfl rfl rfl rfl) rfl rfl
  · refine Run.skip (Run.seq (Run.seq (Run.ops hm (Ops.p rfl (Ops.p rfl (Ops.p rfl (Ops.p rfl (Ops.p rfl (Ops.nil (Run.condO rfl h (fun g_108 h => ?_) (fun g_108 h => ?_)))))))))))
    · refine Run.seq (Run.ops hm (Ops.p rfl (Ops.nil (Run.ret ?_))))
      obtain rfl := someO h
      exact Ends.mkG (.inl rfl) rfl (gh_pk [0] [] hB rfl rfl rfl rfl) rfl rfl
    · refine Run.skip (Run.seq (Run.seq (Run.ops hm (Ops.p rfl (Ops.p rfl (Ops.p rfl (Ops.p rfl (Ops.p rfl (Ops.nil (Run.condO rfl h (fun g_109 h => ?_) (fun g_109 h => ?_)))))))))))
      · refine Run.seq (Run.ops hm (Ops.p rfl (Ops.nil (Run.ret ?_))))
        obtain rfl := someO h
        exact Ends.mkG (.inl rfl) rfl (gh_pk [0] [] hB rfl rfl rfl rfl) rfl rfl
      · refine Run.skip (Run.seq (Run.ops hm (Ops.p rfl (Ops.nil (Run.ret ?_)))))
        obtain rfl := someO h
        exact Ends.mkG (.inl rfl) rfl (gh_pk [0] [] hB rfl rfl rfl rfl) rfl rfl
def laws_eqEntryS_l1 (N : Nat) (x_1 : (List Entry)) (x_2 : (List Entry)) : Nat → Int → Option ((Bool) ⊕ (Unit))
 | 0, _ => none
 | m + 1, x_222 =>
 (if (decide (x_222 < (x_1.length : Int))) = true then
 (at? x_1 x_222).bind fun x_254 =>
 (at? x_2 x_222).bind fun x_255 =>
 (laws_eqEntry N x_254 x_255).bind fun y_256 =>
 (if (!y_256) = true then
 some (Sum.inl false)
 else
 laws_eqEntryS_l1 N x_1 x_2 m (w64 (x_222 + (1 : Int))))
 else
 some (Sum.inr ()))
def laws_eqEntryS_l1_r (N : Nat) (x_1 : (List Entry)) (x_2 : (List Entry)) : (List Entry) → Int → Option ((Bool) ⊕ (Unit))
 | [], x_222 =>
 some (Sum.inr ())
 | hd :: tl, x_222 =>
 (some hd).bind fun x_254 =>
 (at? x_2 x_222).bind fun x_255 =>
 (laws_eqEntry N x_254 x_255).bind fun y_256 =>
 (if (!y_256) = true then
 some (Sum.inl false)
 else
 laws_eqEntryS_l1_r N x_1 x_2 tl (w64 (x_222 + (1 : Int))))
theorem laws_eqEntryS_l1_rng (N : Nat) (x_1 : (List Entry)) (x_2 : (List Entry)) (hx : x_1.length ≤ 1099511627776) : ∀ (d k m : Nat), x_1.length = k + d → d < m → laws_eqEntryS_l1 N x_1 x_2 m (k : Int) = laws_eqEntryS_l1_r N x_1 x_2 (x_1.drop k) (k : Int) := by
  intro d
  induction d with
  | zero =>
    intro k m hd hm
    obtain ⟨m, rfl⟩ : ∃ q, m = q + 1 := ⟨m - 1, by omega⟩
    rw [laws_eqEntryS_l1, if_neg (by simp; omega), List.drop_eq_nil_of_le (by omega), laws_eqEntryS_l1_r]
  | succ d ih =>
    intro k m hd hm
    obtain ⟨m, rfl⟩ : ∃ q, m = q + 1 := ⟨m - 1, by omega⟩
    have hk : k < x_1.length := by omega
    rw [laws_eqEntryS_l1, if_pos (by simp; omega), List.drop_eq_getElem_cons hk, laws_eqEntryS_l1_r]
    have h1 := at_lt hk
    have h2 := w64_succ (k := k) (by omega)
    have h3 := ih (k + 1) m
    simp only [h1, h2, h3 (by omega) (by omega)]
theorem laws_eqEntryS_l1_eq {N : Nat} (x_1 : (List Entry)) (x_2 : (List Entry)) (hx : x_1.length ≤ 1099511627776) (hN : x_1.length < N) : laws_eqEntryS_l1 N x_1 x_2 N 0 = laws_eqEntryS_l1_r N x_1 x_2 x_1 0 := laws_eqEntryS_l1_rng N x_1 x_2 hx x_1.length 0 N (by omega) hN
def laws_eqEntryS (N : Nat) (x_1 : (List Entry)) (x_2 : (List Entry)) : Option (Bool) :=
 (if ((x_1.length : Int) != (x_2.length : Int)) = true then
 some false
 else
 joinP (fun (v_219 : Unit) =>
 some true) fun j_219 =>
 (laws_eqEntryS_l1 N x_1 x_2 N (0 : Int)).bind (Sum.elim (fun v_239 => some v_239) (fun (v_240 : Unit) => j_219 ())))
theorem sem_laws_eqEntryS (N : Nat) (x_1 : (List Entry)) (x_2 : (List Entry)) (r : Bool) (h : laws_eqEntryS N x_1 x_2 = some r) : Says Try.prog 165 [RO 51 (x_1.map encEntry), RO 51 (x_2.map encEntry)] 0 [] (VB r) [] := by
  unfold laws_eqEntryS at h
  refine Says.of_run s165 Try.call165 rfl fun B hB => ?_
  have hm : B.m ≤ 1000 := by omega
  refine Run.seq (Run.ops hm (Ops.p rfl (Ops.nil (Run.seq (Run.seq (Run.ops hm (Ops.p rfl (Ops.st (s := 5112) (Ev.lnF rfl) rfl rfl (Ops.p rfl (Ops.st (s := 5144) (Ev.lnF rfl) rfl rfl (Ops.p rfl (Ops.nil (Run.condO rfl h (fun g_180 h => ?_) (fun g_180 h => ?_))))))))))))))
  · refine Run.seq (Run.ops hm (Ops.p rfl (Ops.nil (Run.ret ?_))))
    obtain rfl := someO h
    exact Ends.mkG (.inl rfl) rfl (gh_pk [0] [] hB rfl rfl rfl rfl) rfl rfl
  · refine Run.skip (Run.seqO h (fun (v_219 : Unit) => []) (fun (v_219 : Unit) => []) (fun h => ?_) (fun v_219 h => ?_))
    · refine Run.seq (Run.ops hm (Ops.p rfl (Ops.nil (Run.block ?_))))
      obtain ⟨res_240, h, hk_240⟩ := bindO h
      refine Run.loop (n := N) (fun m_240 fr σ => ∃ (x_222 : Int), laws_eqEntryS_l1 N x_1 x_2 m_240 x_222 = some res_240 ∧ fr = [(0, RO 51 (x_1.map encEntry)), (1, RO 51 (x_2.map encEntry)), (5, VI x_222)] ∧ σ = []) (gh_pk [0, 1, 5] [] hB rfl rfl rfl rfl) ⟨_, h, rfl, rfl⟩ ?_
      rintro m_240 fr σ ⟨x_222, h, rfl, rfl⟩
      obtain _ | m_240 := m_240
      · rw [laws_eqEntryS_l1] at h; cases h
      rw [laws_eqEntryS_l1] at h
      refine Run.seq (Run.seq (Run.ops hm (Ops.p rfl (Ops.p rfl (Ops.st (s := 17416) (Ev.lnF rfl) rfl rfl (Ops.p rfl (Ops.nil (Run.condO rfl h (fun g_243 h => ?_) (fun g_243 h => ?_)))))))))
      · refine Run.skip (Run.seq (Run.block (Run.seq (Run.draw hm hmix (OpsD.p rfl (OpsD.p rfl ?_))))))
        obtain ⟨x_254, hx_254, h⟩ := bindO h
        refine OpsD.st (s := 25608) (Ev.iaF rfl rfl hx_254) rfl rfl (OpsD.p rfl (OpsD.p rfl (OpsD.p rfl ?_)))
        obtain ⟨x_255, hx_255, h⟩ := bindO h
        refine OpsD.st (s := 25672) (Ev.iaF rfl rfl hx_255) rfl rfl (OpsD.p rfl ?_)
        obtain ⟨y_256, hy_256, h⟩ := bindO h
        refine OpsD.st (s := 25704) (Ev.call [] [] 0 (sem_laws_eqEntry N x_254 x_255 _ hy_256) rfl rfl (.cons (.agg (.cons (.c _) (.cons (.c _) (.cons (.c _) .nil)))) (.cons (.agg (.cons (.c _) (.cons (.c _) (.cons (.c _) .nil)))) .nil)) rfl (.inl rfl) rfl rfl) rfl rfl (OpsD.p rfl (OpsD.nil ⟨by kernel_rfl, ?_⟩))
        refine Run.condO rfl h (fun g_257 h => ?_) (fun g_257 h => ?_)
        · refine Run.seq (Run.ops hm (Ops.p rfl (Ops.nil (Run.ret ?_))))
          obtain rfl := someO h
          have h := hk_240
          replace h := inlO h
          obtain rfl := someO h
          exact Ends.mkG (.inl rfl) rfl (gh_pk [0] [] hB rfl rfl rfl rfl) rfl rfl
        · exact Run.skip (Run.ops hm (Ops.p rfl (Ops.p rfl (Ops.p rfl (Ops.nil (⟨m_240, Nat.lt_succ_self m_240, _, _, (gh_pk [0, 1, 5] [] hB rfl rfl rfl rfl), _, h, rfl, rfl⟩))))))
      · refine Run.exit ?_
        obtain rfl := someO h
        have h := hk_240
        replace h := inrO h
        exact ⟨_, _, (gh_pk [] [] hB rfl rfl rfl rfl), (), h, rfl, rfl⟩
    · refine Run.seq (Run.ops hm (Ops.p rfl (Ops.nil (Run.ret ?_))))
      obtain rfl := someO h
      exact Ends.mkG (.inl rfl) rfl (gh_pk [0] [] hB rfl rfl rfl rfl) rfl rfl
end Go.Proofs.Ytehknbpmpbghhaa.Pe.FnExactPropose
