/- Functions, as pure functions; and that Go does just that. -/
import Derived.Test.YtebbgdjmplceiaaPeFFnAlone2
namespace Go.Proofs.Ytebbgdjmplceiaa.Pe.FnAlone
open Go Go.RowKit
set_option linter.unusedVariables false
set_option linter.unusedSimpArgs false
set_option maxHeartbeats 40000000
def core_sendAll_i1_l1 (N : Nat) (x_1 : Tcore) : Nat → Int → Int → Int → Int → Int → Int → Int → Int → Int → Int → Int → (List Message) → Option (Int × Int × Int × Int × Int × Int × Int × Int × Int × Int × (List Message))
 | 0, _, _, _, _, _, _, _, _, _, _, _, _ => none
 | m + 1, x_166, x_167, x_168, x_169, x_170, x_171, x_172, x_173, x_174, x_175, x_176, x_181 =>
 (if (decide (x_166 < ((x_1.n.Peers.length : Nat) : Int))) = true then
 (core_send N (Tcore.mk (Node.mk x_167 x_168 x_169 x_170 x_171 x_1.n.Conf (Log.mk x_172 x_173 x_1.n.Log.Entries) x_174 x_175 x_176 x_1.n.Votes x_1.n.Peers) x_181) x_166).bind fun y_189 =>
 core_sendAll_i1_l1 N x_1 m (w64 (x_166 + (1 : Int))) y_189.n.Id y_189.n.Term y_189.n.Vote y_189.n.Role y_189.n.Lead y_189.n.Log.Start y_189.n.Log.StartTerm y_189.n.Commit y_189.n.Clock y_189.n.Limit y_189.out
 else
 some (x_167, x_168, x_169, x_170, x_171, x_172, x_173, x_174, x_175, x_176, x_181))
def core_sendAll_i1 (N : Nat) (x_1 : Tcore) : Option (Tcore) :=
 (core_sendAll_i1_l1 N x_1 N (0 : Int) x_1.n.Id x_1.n.Term x_1.n.Vote x_1.n.Role x_1.n.Lead x_1.n.Log.Start x_1.n.Log.StartTerm x_1.n.Commit x_1.n.Clock x_1.n.Limit x_1.out).bind (fun (v_185 : Int × Int × Int × Int × Int × Int × Int × Int × Int × Int × (List Message)) => some (Tcore.mk (Node.mk v_185.1 v_185.2.1 v_185.2.2.1 v_185.2.2.2.1 v_185.2.2.2.2.1 x_1.n.Conf (Log.mk v_185.2.2.2.2.2.1 v_185.2.2.2.2.2.2.1 x_1.n.Log.Entries) v_185.2.2.2.2.2.2.2.1 v_185.2.2.2.2.2.2.2.2.1 v_185.2.2.2.2.2.2.2.2.2.1 x_1.n.Votes x_1.n.Peers) v_185.2.2.2.2.2.2.2.2.2.2))
theorem sem_core_sendAll_i1 (N : Nat) (x_1 : Tcore) (r : Tcore) (h : core_sendAll_i1 N x_1 = some r) : Says Try.prog 116 [.ptr 0 0] 6 [(0, .box [VI x_1.n.Id, VI x_1.n.Term, VI x_1.n.Vote, VI x_1.n.Role, VI x_1.n.Lead, .sl 1 3 0 x_1.n.Conf.length, VI x_1.n.Log.Start, VI x_1.n.Log.StartTerm, .sl 2 48 0 x_1.n.Log.Entries.length, VI x_1.n.Commit, VI x_1.n.Clock, VI x_1.n.Limit, .sl 3 3 0 x_1.n.Votes.length, .sl 4 172 0 x_1.n.Peers.length, .sl 5 168 0 x_1.out.length]), (1, .vec 3 (x_1.n.Conf.map encI)), (2, .vec 48 (x_1.n.Log.Entries.map encEntry)), (3, .vec 3 (x_1.n.Votes.map encI)), (4, .vec 172 (x_1.n.Peers.map encPeer)), (5, .vec 168 (x_1.out.map (encMessage true)))] (.tup []) [(0, .box [VI r.n.Id, VI r.n.Term, VI r.n.Vote, VI r.n.Role, VI r.n.Lead, .sl 6 3 0 r.n.Conf.length, VI r.n.Log.Start, VI r.n.Log.StartTerm, .sl 7 48 0 r.n.Log.Entries.length, VI r.n.Commit, VI r.n.Clock, VI r.n.Limit, .sl 8 3 0 r.n.Votes.length, .sl 9 172 0 r.n.Peers.length, .sl 10 168 0 r.out.length]), (1, .gone), (2, .gone), (3, .gone), (4, .gone), (5, .gone), (6, .vec 3 (r.n.Conf.map encI)), (7, .vec 48 (r.n.Log.Entries.map encEntry)), (8, .vec 3 (r.n.Votes.map encI)), (9, .vec 172 (r.n.Peers.map encPeer)), (10, .vec 168 (r.out.map (encMessage true)))] := by
  unfold core_sendAll_i1 at h
  refine Says.of_run s116 Try.call116 rfl fun B hB => ?_
  have hm : B.m ≤ 1000 := by omega
  refine Run.seq ?_
  refine Run.ops hm ?_
  refine Ops.p rfl ?_
  refine Ops.p rfl ?_
  refine Ops.p rfl ?_
  refine Ops.p rfl ?_
  refine Ops.p rfl ?_
  refine Ops.p rfl ?_
  refine Ops.p rfl ?_
  refine Ops.nil ?_
  refine Run.block ?_
  obtain ⟨res_185, h, hk_185⟩ := bindO h
  refine Run.loop (n := N) (fun m_185 fr σ => ∃ (x_166 : Int), ∃ (x_167 : Int), ∃ (x_168 : Int), ∃ (x_169 : Int), ∃ (x_170 : Int), ∃ (x_171 : Int), ∃ (x_172 : Int), ∃ (x_173 : Int), ∃ (x_174 : Int), ∃ (x_175 : Int), ∃ (x_176 : Int), ∃ (x_181 : (List Message)), core_sendAll_i1_l1 N x_1 m_185 x_166 x_167 x_168 x_169 x_170 x_171 x_172 x_173 x_174 x_175 x_176 x_181 = some res_185 ∧ fr = [(0, .ptr 0 0), (8, VI ((x_1.n.Peers.length : Nat) : Int)), (9, VI x_166)] ∧ σ = [(0, .box [VI x_167, VI x_168, VI x_169, VI x_170, VI x_171, .sl 6 3 0 x_1.n.Conf.length, VI x_172, VI x_173, .sl 7 48 0 x_1.n.Log.Entries.length, VI x_174, VI x_175, VI x_176, .sl 8 3 0 x_1.n.Votes.length, .sl 9 172 0 x_1.n.Peers.length, .sl 10 168 0 x_181.length]), (1, .gone), (2, .gone), (3, .gone), (4, .gone), (5, .gone), (6, .vec 3 (x_1.n.Conf.map encI)), (7, .vec 48 (x_1.n.Log.Entries.map encEntry)), (8, .vec 3 (x_1.n.Votes.map encI)), (9, .vec 172 (x_1.n.Peers.map encPeer)), (10, .vec 168 (x_181.map (encMessage true)))]) (Gh.trans (Gh.trans (gh_prn [0, 8, 9] [0, 1, 2, 3, 4, 5] hB rfl) (gh_mvE [0, 8, 9] [1, 2, 3, 4, 5] hB rfl rfl)) (gh_pk [0, 8, 9] [0, 1, 2, 3, 4, 5, 30000001, 30000002, 30000003, 30000004, 30000005] hB rfl rfl rfl rfl)) ⟨_, _, _, _, _, _, _, _, _, _, _, _, h, rfl, rfl⟩ ?_
  rintro m_185 fr σ ⟨x_166, x_167, x_168, x_169, x_170, x_171, x_172, x_173, x_174, x_175, x_176, x_181, h, rfl, rfl⟩
  obtain _ | m_185 := m_185
  · rw [core_sendAll_i1_l1] at h; cases h
  rw [core_sendAll_i1_l1] at h
  refine Run.seq ?_
  refine Run.ops hm ?_
  refine Ops.p rfl ?_
  refine Ops.nil ?_
  refine Run.seq ?_
  refine Run.condO rfl h (fun g_188 h => ?_) (fun g_188 h => ?_)
  · skip
    refine Run.skip ?_
    refine Run.seq ?_
    refine Run.block ?_
    refine Run.seq ?_
    refine Run.ops hm ?_
    refine Ops.p rfl ?_
    refine Ops.p rfl ?_
    refine Ops.nil ?_
    refine Run.ops hm ?_
    refine Ops.p rfl ?_
    refine Ops.p rfl ?_
    obtain ⟨y_189, hy_189, h⟩ := bindO h
    refine Ops.st (s := 13320) (Ev.call [0, 6, 7, 8, 9, 10] [] 1 (sem_core_send N (Tcore.mk (Node.mk x_167 x_168 x_169 x_170 x_171 x_1.n.Conf (Log.mk x_172 x_173 x_1.n.Log.Entries) x_174 x_175 x_176 x_1.n.Votes x_1.n.Peers) x_181) x_166 _ hy_189) rfl rfl (.cons (.ptr rfl) (.cons (.c _) .nil)) rfl (.inl rfl) rfl rfl) rfl rfl ?_
    refine Ops.nil ?_
    refine Run.ops hm ?_
    refine Ops.p rfl ?_
    refine Ops.p rfl ?_
    refine Ops.nil ?_
    exact ⟨m_185, Nat.lt_succ_self m_185, _, _, (gh_pk [0, 8, 9] [0, 1, 2, 3, 4, 5, 6, 7, 8, 9, 13320] hB rfl rfl rfl rfl), _, _, _, _, _, _, _, _, _, _, _, _, h, rfl, rfl⟩
  · skip
    refine Run.exit ?_
    obtain rfl := someO h
    have h := hk_185
    obtain rfl := someO h
    exact Ends.mkG (.inr rfl) rfl (gh_pk [] [0, 1, 2, 3, 4, 5, 6, 7, 8, 9, 10] hB rfl rfl rfl rfl) rfl rfl
def core_lead_l1 (N : Nat) (y_231 : Int) (y_300 : Nat × (List Int)) : Nat → Int → (List Peer) → Option ((List Peer))
 | 0, _, _ => none
 | m + 1, x_329, x_344 =>
 (if (decide (x_329 < ((y_300.1 : Nat) : Int))) = true then
 (at? (y_300.2.take y_300.1) x_329).bind fun x_356 =>
 (cat? x_344 ([(Peer.mk x_356 (w64 (y_231 + (1 : Int))) (0 : Int) (0 : Int))] : List Peer)).bind fun x_357 =>
 core_lead_l1 N y_231 y_300 m (w64 (x_329 + (1 : Int))) x_357
 else
 some x_344)
def core_lead (N : Nat) (x_1 : Tcore) : Option (Tcore) :=
 (impl_last N x_1.n.Log).bind fun y_231 =>
 joinP (fun (v_235 : (List Entry)) =>
 joinP (fun (v_298 : (List Peer)) =>
 (core_commit N (Tcore.mk (Node.mk x_1.n.Id x_1.n.Term x_1.n.Vote (2 : Int) x_1.n.Id x_1.n.Conf (Log.mk x_1.n.Log.Start x_1.n.Log.StartTerm v_235) x_1.n.Commit x_1.n.Clock x_1.n.Limit ([] : (List Int)) v_298) ([] : (List Message)))).bind fun y_358 =>
 (core_sendAll_i1 N y_358).bind fun y_359 =>
 some y_359) fun j_298 =>
 (impl_othersOf N (Node.mk x_1.n.Id x_1.n.Term x_1.n.Vote (2 : Int) x_1.n.Id x_1.n.Conf (Log.mk x_1.n.Log.Start x_1.n.Log.StartTerm v_235) x_1.n.Commit x_1.n.Clock x_1.n.Limit ([]) ([]))).bind fun y_300 =>
 (core_lead_l1 N y_231 y_300 N (0 : Int) ([] : (List Peer))).bind (fun (v_351 : (List Peer)) => j_298 v_351)) fun j_235 =>
 (if (decide (((x_1.n.Log.Entries.length : Nat) : Int) < (120 : Int))) = true then
 (if (decide ((w64 (y_231 + (1 : Int))) ≤ (100000 : Int))) = true then
 (cat? x_1.n.Log.Entries ([(Entry.mk x_1.n.Term (1 : Int) (⟨#[]⟩ : ByteArray))] : List Entry)).bind fun x_238 =>
 j_235 x_238
 else
 j_235 x_1.n.Log.Entries)
 else
 j_235 x_1.n.Log.Entries)
theorem sem_core_lead (N : Nat) (x_1 : Tcore) (r : Tcore) (h : core_lead N x_1 = some r) : Says Try.prog 119 [.ptr 0 0] 5 [(0, .box [VI x_1.n.Id, VI x_1.n.Term, VI x_1.n.Vote, VI x_1.n.Role, VI x_1.n.Lead, .sl 1 3 0 x_1.n.Conf.length, VI x_1.n.Log.Start, VI x_1.n.Log.StartTerm, .sl 2 48 0 x_1.n.Log.Entries.length, VI x_1.n.Commit, VI x_1.n.Clock, VI x_1.n.Limit, .sl 3 3 0 x_1.n.Votes.length, .sl 4 172 0 x_1.n.Peers.length, NI 168]), (1, .vec 3 (x_1.n.Conf.map encI)), (2, .vec 48 (x_1.n.Log.Entries.map encEntry)), (3, .vec 3 (x_1.n.Votes.map encI)), (4, .vec 172 (x_1.n.Peers.map encPeer))] (.tup []) [(0, .box [VI r.n.Id, VI r.n.Term, VI r.n.Vote, VI r.n.Role, VI r.n.Lead, .sl 5 3 0 r.n.Conf.length, VI r.n.Log.Start, VI r.n.Log.StartTerm, .sl 6 48 0 r.n.Log.Entries.length, VI r.n.Commit, VI r.n.Clock, VI r.n.Limit, .sl 7 3 0 r.n.Votes.length, .sl 8 172 0 r.n.Peers.length, .sl 9 168 0 r.out.length]), (1, .gone), (2, .gone), (3, .gone), (4, .gone), (5, .vec 3 (r.n.Conf.map encI)), (6, .vec 48 (r.n.Log.Entries.map encEntry)), (7, .vec 3 (r.n.Votes.map encI)), (8, .vec 172 (r.n.Peers.map encPeer)), (9, .vec 168 (r.out.map (encMessage true)))] := by
  unfold core_lead at h
  refine Says.of_run s119 Try.call119 rfl fun B hB => ?_
  have hm : B.m ≤ 1000 := by omega
  refine Run.seq ?_
  refine Run.ops hm ?_
  refine Ops.p rfl ?_
  refine Ops.p rfl ?_
  refine Ops.p rfl ?_
  refine Ops.p rfl ?_
  refine Ops.nil ?_
  refine Run.seq ?_
  refine Run.ops hm ?_
  refine Ops.p rfl ?_
  refine Ops.p rfl ?_
  refine Ops.p rfl ?_
  refine Ops.p rfl ?_
  refine Ops.p rfl ?_
  refine Ops.p rfl ?_
  refine Ops.p rfl ?_
  refine Ops.p rfl ?_
  refine Ops.p rfl ?_
  refine Ops.s0 (s := 5240) (.sto rfl rfl rfl rfl rfl rfl) rfl rfl ?_
  refine Ops.p rfl ?_
  refine Ops.p rfl ?_
  refine Ops.s0 (s := 5288) (.sto rfl rfl rfl rfl rfl rfl) rfl rfl ?_
  refine Ops.p rfl ?_
  refine Ops.p rfl ?_
  refine Ops.s0 (s := 5336) (.sto rfl rfl rfl rfl rfl rfl) rfl rfl ?_
  refine Ops.nil ?_
  refine Run.seq ?_
  refine Run.ops hm ?_
  refine Ops.p rfl ?_
  refine Ops.p rfl ?_
  refine Ops.p rfl ?_
  refine Ops.p rfl ?_
  obtain ⟨y_231, hy_231, h⟩ := bindO h
  refine Ops.st (s := 9256) (Ev.call [] [2] 0 (sem_impl_last N x_1.n.Log _ hy_231) rfl rfl (.cons (.agg (.cons (.c _) (.cons (.c _) (.cons (.borrow rfl (by decide) (lendW (fun _ => rfl) _ rfl)) .nil)))) .nil) rfl (.inr ⟨rfl, ownL_root trivial⟩) rfl rfl) rfl rfl ?_
  refine Ops.p rfl ?_
  refine Ops.nil ?_
  refine Run.seqO h (fun (v_235 : (List Entry)) => [(0, .ptr 0 0), (2, .ptr 0 0), (3, VI y_231)]) (fun (v_235 : (List Entry)) => [(0, .box [VI x_1.n.Id, VI x_1.n.Term, VI x_1.n.Vote, VI (2 : Int), VI x_1.n.Id, .sl 5 3 0 x_1.n.Conf.length, VI x_1.n.Log.Start, VI x_1.n.Log.StartTerm, .sl 6 48 0 v_235.length, VI x_1.n.Commit, VI x_1.n.Clock, VI x_1.n.Limit, .sl 7 3 0 (([] : List Int).length), .sl 8 172 0 x_1.n.Peers.length, .sl 9 168 0 (([] : List Message).length)]), (1, .gone), (2, .gone), (3, .gone), (4, .gone), (5, .vec 3 (x_1.n.Conf.map encI)), (6, .vec 48 (v_235.map encEntry)), (7, .vec 3 (([] : List Int).map encI)), (8, .vec 172 (x_1.n.Peers.map encPeer)), (9, .vec 168 (([] : List Message).map (encMessage true)))]) (fun h => ?_) (fun v_235 h => ?_)
  · skip
    refine Run.seq ?_
    refine Run.ops hm ?_
    refine Ops.p rfl ?_
    refine Ops.p rfl ?_
    refine Ops.p rfl ?_
    refine Ops.p rfl ?_
    refine Ops.p rfl ?_
    refine Ops.p rfl ?_
    refine Ops.p rfl ?_
    refine Ops.p rfl ?_
    refine Ops.askO (x := .t 34) rfl h (fun g_236 h => ?_) (fun g_236 h => ?_)
    · skip
      refine Ops.gp rfl g_236 rfl ?_
      refine Ops.gp rfl g_236 rfl ?_
      refine Ops.gp rfl g_236 rfl ?_
      refine Ops.st (s := 13464) (.pkT rfl g_236 rfl) rfl rfl ?_
      refine Ops.nil ?_
      refine Run.condO rfl h (fun g_237 h => ?_) (fun g_237 h => ?_)
      · skip
        refine Run.draw hm hmix ?_
        refine OpsD.p rfl ?_
        refine OpsD.p rfl ?_
        refine OpsD.p rfl ?_
        refine OpsD.p rfl ?_
        refine OpsD.p rfl ?_
        refine OpsD.p rfl ?_
        refine OpsD.p rfl ?_
        refine OpsD.p rfl ?_
        refine OpsD.p rfl ?_
        refine OpsD.p rfl ?_
        refine OpsD.st (s := 17544) (.bd rfl rfl) rfl rfl ?_
        refine OpsD.st (s := 17560) (Ev.bsW (ys := ([(Entry.mk x_1.n.Term (1 : Int) (⟨#[]⟩ : ByteArray))] : List Entry)) (f := encEntry) rfl (.cons (.c _) (.cons (.c _) (.cons (.c _) .nil))) rfl rfl rfl rfl rfl) rfl rfl ?_
        obtain ⟨x_238, hx_238, h⟩ := bindO h
        refine OpsD.st (s := 17576) (Ev.apW (f := encEntry) (ontoW rfl rfl rfl) (addsW rfl rfl rfl (fun _ => rfl)) rfl bt48 rfl hx_238) rfl rfl ?_
        refine OpsD.p rfl ?_
        refine OpsD.p rfl ?_
        refine OpsD.p rfl ?_
        refine OpsD.s0 (s := 17640) (.sto rfl rfl rfl rfl rfl rfl) rfl rfl ?_
        refine OpsD.nil ⟨by kernel_rfl, ?_⟩
        exact ⟨_, _, (Gh.trans (Gh.trans (Gh.trans (gh_prn [0, 2, 3] [0, 1, 2, 3, 4, 17576] hB rfl) (gh_mvE [0, 2, 3] [1, 3, 4] hB rfl rfl)) (gh_nil [] [0] hB rfl rfl rfl)) (gh_pk [0, 2, 3] [0, 1, 2, 3, 4, 30000001, 17576, 20000000, 30000004, 20000001] hB rfl rfl rfl rfl)), x_238, h, rfl, rfl⟩
      · skip
        refine Run.skip ?_
        exact ⟨_, _, (Gh.trans (Gh.trans (Gh.trans (gh_prn [0, 2, 3] [0, 1, 2, 3, 4] hB rfl) (gh_mvE [0, 2, 3] [1, 2, 3, 4] hB rfl rfl)) (gh_nil [] [0] hB rfl rfl rfl)) (gh_pk [0, 2, 3] [0, 1, 2, 3, 4, 30000001, 30000002, 20000000, 30000004, 20000001] hB rfl rfl rfl rfl)), x_1.n.Log.Entries, h, rfl, rfl⟩
    · skip
      refine Ops.gn rfl g_236 ?_
      refine Ops.gn rfl g_236 ?_
      refine Ops.gn rfl g_236 ?_
      refine Ops.st (s := 13464) (.pkF rfl g_236 rfl) rfl rfl ?_
      refine Ops.nil ?_
      refine Run.condF rfl rfl ?_
      refine Run.skip ?_
      exact ⟨_, _, (Gh.trans (Gh.trans (Gh.trans (gh_prn [0, 2, 3] [0, 1, 2, 3, 4] hB rfl) (gh_mvE [0, 2, 3] [1, 2, 3, 4] hB rfl rfl)) (gh_nil [] [0] hB rfl rfl rfl)) (gh_pk [0, 2, 3] [0, 1, 2, 3, 4, 30000001, 30000002, 20000000, 30000004, 20000001] hB rfl rfl rfl rfl)), x_1.n.Log.Entries, h, rfl, rfl⟩
  · skip
    refine Run.seq ?_
    refine Run.ops hm ?_
    refine Ops.p rfl ?_
    refine Ops.p rfl ?_
    refine Ops.p rfl ?_
    refine Ops.s0 (s := 21528) (.sto rfl rfl rfl rfl rfl rfl) rfl rfl ?_
    refine Ops.nil ?_
    refine Run.seqO h (fun (v_298 : (List Peer)) => [(0, .ptr 0 0)]) (fun (v_298 : (List Peer)) => [(0, .box [VI x_1.n.Id, VI x_1.n.Term, VI x_1.n.Vote, VI (2 : Int), VI x_1.n.Id, .sl 5 3 0 x_1.n.Conf.length, VI x_1.n.Log.Start, VI x_1.n.Log.StartTerm, .sl 6 48 0 v_235.length, VI x_1.n.Commit, VI x_1.n.Clock, VI x_1.n.Limit, .sl 7 3 0 (([] : (List Int)).length), .sl 8 172 0 v_298.length, .sl 9 168 0 (([] : (List Message)).length)]), (1, .gone), (2, .gone), (3, .gone), (4, .gone), (5, .vec 3 (x_1.n.Conf.map encI)), (6, .vec 48 (v_235.map encEntry)), (7, .vec 3 (([] : (List Int)).map encI)), (8, .vec 172 (v_298.map encPeer)), (9, .vec 168 (([] : (List Message)).map (encMessage true)))]) (fun h => ?_) (fun v_298 h => ?_)
    · skip
      refine Run.seq ?_
      refine Run.ops hm ?_
      refine Ops.p rfl ?_
      refine Ops.p rfl ?_
      refine Ops.p rfl ?_
      obtain ⟨y_300, hy_300, h⟩ := bindO h
      refine Ops.st (s := 25624) (Ev.call [] [5, 6, 7] 1 (sem_impl_othersOf N (Node.mk x_1.n.Id x_1.n.Term x_1.n.Vote (2 : Int) x_1.n.Id x_1.n.Conf (Log.mk x_1.n.Log.Start x_1.n.Log.StartTerm v_235) x_1.n.Commit x_1.n.Clock x_1.n.Limit ([]) ([])) _ hy_300) rfl rfl (.cons (.agg (.cons (.c _) (.cons (.c _) (.cons (.c _) (.cons (.c _) (.cons (.c _) (.cons (.borrow rfl (by decide) (lendW (fun _ => rfl) _ rfl)) (.cons (.c _) (.cons (.c _) (.cons (.borrow rfl (by decide) (lendW (fun _ => rfl) _ rfl)) (.cons (.c _) (.cons (.c _) (.cons (.c _) (.cons (.borrow rfl (by decide) (lendW (fun _ => rfl) _ rfl)) (.cons (.nil _ _) .nil))))))))))))))) .nil) rfl (.inr ⟨rfl, ownL_root ⟨own_rows (fun _ => rfl) _, trivial⟩⟩) rfl rfl) rfl rfl ?_
      refine Ops.p rfl ?_
      refine Ops.p rfl ?_
      refine Ops.nil ?_
      refine Run.block ?_
      obtain ⟨res_351, h, hk_351⟩ := bindO h
      refine Run.loop (n := N) (fun m_351 fr σ => ∃ (x_329 : Int), ∃ (x_344 : (List Peer)), core_lead_l1 N y_231 y_300 m_351 x_329 x_344 = some res_351 ∧ fr = [(0, .ptr 0 0), (2, .ptr 0 0), (3, VI y_231), (61, .sl 5 3 0 y_300.1), (62, VI ((y_300.1 : Nat) : Int)), (63, VI x_329)] ∧ σ = [(0, .box [VI x_1.n.Id, VI x_1.n.Term, VI x_1.n.Vote, VI (2 : Int), VI x_1.n.Id, .sl 6 3 0 x_1.n.Conf.length, VI x_1.n.Log.Start, VI x_1.n.Log.StartTerm, .sl 7 48 0 v_235.length, VI x_1.n.Commit, VI x_1.n.Clock, VI x_1.n.Limit, .sl 8 3 0 (([] : (List Int)).length), .sl 9 172 0 x_344.length, .sl 10 168 0 (([] : (List Message)).length)]), (1, .gone), (2, .gone), (3, .gone), (4, .gone), (5, .vec 3 (y_300.2.map encI)), (6, .vec 3 (x_1.n.Conf.map encI)), (7, .vec 48 (v_235.map encEntry)), (8, .vec 3 (([] : (List Int)).map encI)), (9, .vec 172 (x_344.map encPeer)), (10, .vec 168 (([] : (List Message)).map (encMessage true)))]) (Gh.trans (Gh.trans (gh_prn [0, 2, 3, 61, 62, 63] [0, 1, 2, 3, 4, 25624, 5, 6, 7, 9] hB rfl) (gh_nil [] [0] hB rfl rfl rfl)) (gh_pk [0, 2, 3, 61, 62, 63] [0, 1, 2, 3, 4, 25624, 5, 6, 7, 20000000, 9] hB rfl rfl rfl rfl)) ⟨_, _, h, rfl, rfl⟩ ?_
      rintro m_351 fr σ ⟨x_329, x_344, h, rfl, rfl⟩
      obtain _ | m_351 := m_351
      · rw [core_lead_l1] at h; cases h
      rw [core_lead_l1] at h
      refine Run.seq ?_
      refine Run.ops hm ?_
      refine Ops.p rfl ?_
      refine Ops.nil ?_
      refine Run.seq ?_
      refine Run.condO rfl h (fun g_354 h => ?_) (fun g_354 h => ?_)
      · skip
        refine Run.skip ?_
        refine Run.seq ?_
        refine Run.block ?_
        refine Run.seq ?_
        refine Run.ops hm ?_
        obtain ⟨x_356, hx_356, h⟩ := bindO h
        refine Ops.st (s := 33768) (Ev.iaP (xs := y_300.2) rfl rfl hx_356) rfl rfl ?_
        refine Ops.st (s := 33784) (Ev.ldE (f := encI) rfl rfl (at_part hx_356) rfl rfl rfl) rfl rfl ?_
        refine Ops.p rfl ?_
        refine Ops.nil ?_
        refine Run.ops hm ?_
        refine Ops.p rfl ?_
        refine Ops.p rfl ?_
        refine Ops.p rfl ?_
        refine Ops.p rfl ?_
        refine Ops.p rfl ?_
        refine Ops.p rfl ?_
        refine Ops.p rfl ?_
        refine Ops.p rfl ?_
        refine Ops.st (s := 37992) (.bd rfl rfl) rfl rfl ?_
        refine Ops.st (s := 38008) (Ev.bsW (ys := ([(Peer.mk x_356 (w64 (y_231 + (1 : Int))) (0 : Int) (0 : Int))] : List Peer)) (f := encPeer) rfl (.cons (.c _) (.cons (.c _) (.cons (.c _) (.cons (.c _) .nil)))) rfl rfl rfl rfl rfl) rfl rfl ?_
        obtain ⟨x_357, hx_357, h⟩ := bindO h
        refine Ops.st (s := 38024) (Ev.apW (f := encPeer) (ontoW rfl rfl rfl) (addsW rfl rfl rfl (fun _ => rfl)) rfl bt172 rfl hx_357) rfl rfl ?_
        refine Ops.p rfl ?_
        refine Ops.p rfl ?_
        refine Ops.s0 (s := 38072) (.sto rfl rfl rfl rfl rfl rfl) rfl rfl ?_
        refine Ops.nil ?_
        refine Run.ops hm ?_
        refine Ops.p rfl ?_
        refine Ops.p rfl ?_
        refine Ops.nil ?_
        exact ⟨m_351, Nat.lt_succ_self m_351, _, _, (gh_pk [0, 2, 3, 61, 62, 63] [0, 1, 2, 3, 4, 5, 6, 7, 8, 38024, 10] hB rfl rfl rfl rfl), _, _, h, rfl, rfl⟩
      · skip
        refine Run.exit ?_
        obtain rfl := someO h
        have h := hk_351
        exact ⟨_, _, (gh_pk [0] [0, 1, 2, 3, 4, 6, 7, 8, 9, 10] hB rfl rfl rfl rfl), x_344, h, rfl, rfl⟩
    · skip
      refine Run.seq ?_
      refine Run.ops hm ?_
      refine Ops.p rfl ?_
      obtain ⟨y_358, hy_358, h⟩ := bindO h
      refine Ops.st (s := 46072) (Ev.call [0, 5, 6, 7, 8, 9] [] 5 (sem_core_commit N (Tcore.mk (Node.mk x_1.n.Id x_1.n.Term x_1.n.Vote (2 : Int) x_1.n.Id x_1.n.Conf (Log.mk x_1.n.Log.Start x_1.n.Log.StartTerm v_235) x_1.n.Commit x_1.n.Clock x_1.n.Limit ([] : (List Int)) v_298) ([] : (List Message))) _ hy_358) rfl rfl (.cons (.ptr rfl) .nil) rfl (.inl rfl) rfl rfl) rfl rfl ?_
      refine Ops.nil ?_
      refine Run.ops hm ?_
      refine Ops.p rfl ?_
      obtain ⟨y_359, hy_359, h⟩ := bindO h
      refine Ops.st (s := 50168) (Ev.call [0, 46072, 46073, 46074, 46075, 46076] [] 5 (sem_core_sendAll_i1 N y_358 _ hy_359) rfl rfl (.cons (.ptr rfl) .nil) rfl (.inl rfl) rfl rfl) rfl rfl ?_
      refine Ops.nil ?_
      obtain rfl := someO h
      exact Ends.mkG (.inr rfl) rfl (gh_pk [] [0, 1, 2, 3, 4, 50168, 50169, 50170, 50171, 50172] hB rfl rfl rfl rfl) rfl rfl
def core_tell_i2 (N : Nat) (x_1 : Tcore) (x_2 : Message) : Option (Tcore) :=
 (cat? x_1.out ([(Message.mk x_2.Kind x_1.n.Id x_2.To x_1.n.Term x_2.Index x_2.LogTerm x_2.Commit x_2.Ok ([]) ([]) x_2.Data x_2.Last)] : List Message)).bind fun x_101 =>
 some (Tcore.mk x_1.n x_101)
theorem sem_core_tell_i2 (N : Nat) (x_1 : Tcore) (x_2 : Message) (r : Tcore) (h : core_tell_i2 N x_1 x_2 = some r) : Says Try.prog 122 [.ptr 0 0, .agg [VI x_2.Kind, VI x_2.From, VI x_2.To, VI x_2.Term, VI x_2.Index, VI x_2.LogTerm, VI x_2.Commit, VB x_2.Ok, NI 48, NI 3, VS x_2.Data, VB x_2.Last]] 6 [(0, .box [VI x_1.n.Id, VI x_1.n.Term, VI x_1.n.Vote, VI x_1.n.Role, VI x_1.n.Lead, .sl 1 3 0 x_1.n.Conf.length, VI x_1.n.Log.Start, VI x_1.n.Log.StartTerm, .sl 2 48 0 x_1.n.Log.Entries.length, VI x_1.n.Commit, VI x_1.n.Clock, VI x_1.n.Limit, .sl 3 3 0 x_1.n.Votes.length, .sl 4 172 0 x_1.n.Peers.length, .sl 5 168 0 x_1.out.length]), (1, .vec 3 (x_1.n.Conf.map encI)), (2, .vec 48 (x_1.n.Log.Entries.map encEntry)), (3, .vec 3 (x_1.n.Votes.map encI)), (4, .vec 172 (x_1.n.Peers.map encPeer)), (5, .vec 168 (x_1.out.map (encMessage true)))] (.tup []) [(0, .box [VI r.n.Id, VI r.n.Term, VI r.n.Vote, VI r.n.Role, VI r.n.Lead, .sl 1 3 0 x_1.n.Conf.length, VI r.n.Log.Start, VI r.n.Log.StartTerm, .sl 2 48 0 x_1.n.Log.Entries.length, VI r.n.Commit, VI r.n.Clock, VI r.n.Limit, .sl 3 3 0 x_1.n.Votes.length, .sl 4 172 0 x_1.n.Peers.length, .sl 6 168 0 r.out.length]), (1, .vec 3 (x_1.n.Conf.map encI)), (2, .vec 48 (x_1.n.Log.Entries.map encEntry)), (3, .vec 3 (x_1.n.Votes.map encI)), (4, .vec 172 (x_1.n.Peers.map encPeer)), (5, .gone), (6, .vec 168 (r.out.map (encMessage true)))] := by
  unfold core_tell_i2 at h
  refine Says.of_run s122 Try.call122 rfl fun B hB => ?_
  have hm : B.m ≤ 1000 := by omega
  refine Run.seq ?_
  refine Run.ops hm ?_
  refine Ops.st (s := 1000) (.bx rfl rfl) rfl rfl ?_
  refine Ops.nil ?_
  refine Run.seq ?_
  refine Run.draw hm hmix ?_
  refine OpsD.p rfl ?_
  refine OpsD.p rfl ?_
  refine OpsD.p rfl ?_
  refine OpsD.p rfl ?_
  refine OpsD.p rfl ?_
  refine OpsD.p rfl ?_
  refine OpsD.p rfl ?_
  refine OpsD.p rfl ?_
  refine OpsD.p rfl ?_
  refine OpsD.p rfl ?_
  refine OpsD.p rfl ?_
  refine OpsD.s0 (s := 5272) (.sto rfl rfl rfl rfl rfl rfl) rfl rfl ?_
  refine OpsD.p rfl ?_
  refine OpsD.s0 (s := 5304) (.sto rfl rfl rfl rfl rfl rfl) rfl rfl ?_
  refine OpsD.nil ⟨by kernel_rfl, ?_⟩
  refine Run.draw hm hmix ?_
  refine OpsD.p rfl ?_
  refine OpsD.p rfl ?_
  refine OpsD.p rfl ?_
  refine OpsD.p rfl ?_
  refine OpsD.p rfl ?_
  refine OpsD.p rfl ?_
  refine OpsD.st (s := 9288) (Ev.bsW (ys := ([(Message.mk x_2.Kind x_1.n.Id x_2.To x_1.n.Term x_2.Index x_2.LogTerm x_2.Commit x_2.Ok ([]) ([]) x_2.Data x_2.Last)] : List Message)) (f := (encMessage true)) rfl (.cons (.c _) (.cons (.c _) (.cons (.c _) (.cons (.c _) (.cons (.c _) (.cons (.c _) (.cons (.c _) (.cons (.c _) (.cons (.c _) (.cons (.c _) (.cons (.c _) (.cons (.c _) .nil)))))))))))) rfl rfl rfl rfl rfl) rfl rfl ?_
  obtain ⟨x_101, hx_101, h⟩ := bindO h
  refine OpsD.st (s := 9304) (Ev.apW (f := (encMessage true)) (ontoW rfl rfl rfl) (addsO rfl rfl rfl) rfl bt168 rfl hx_101) rfl rfl ?_
  refine OpsD.p rfl ?_
  refine OpsD.p rfl ?_
  refine OpsD.s0 (s := 9352) (.sto rfl rfl rfl rfl rfl rfl) rfl rfl ?_
  refine OpsD.nil ⟨by kernel_rfl, ?_⟩
  obtain rfl := someO h
  exact Ends.mkG (.inr rfl) rfl (gh_pk [] [0, 1, 2, 3, 4, 5, 9304] hB rfl rfl rfl rfl) rfl rfl
def impl_Tick_l1 (N : Nat) (x_1 : Node) (y_324 : Node) (y_350 : Int × Int) (y_442 : Nat × (List Int)) : Nat → Int → Int → Int → Int → Int → Int → Int → Int → Int → Int → Int → (List Message) → Option (Int × Int × Int × Int × Int × Int × Int × Int × Int × Int × (List Message))
 | 0, _, _, _, _, _, _, _, _, _, _, _, _ => none
 | m + 1, x_487, x_498, x_499, x_500, x_501, x_502, x_503, x_504, x_505, x_506, x_507, x_517 =>
 (if (decide (x_487 < ((y_442.1 : Nat) : Int))) = true then
 (at? (y_442.2.take y_442.1) x_487).bind fun x_528 =>
 (core_tell_i2 N (Tcore.mk (Node.mk x_498 x_499 x_500 x_501 x_502 y_324.Conf (Log.mk x_503 x_504 y_324.Log.Entries) x_505 x_506 x_507 ([x_1.Id] : List Int) y_324.Peers) x_517) (Message.mk (1 : Int) (0 : Int) x_528 (0 : Int) y_350.1 y_350.2 (0 : Int) false ([]) ([]) (⟨#[]⟩ : ByteArray) false)).bind fun y_529 =>
 impl_Tick_l1 N x_1 y_324 y_350 y_442 m (w64 (x_487 + (1 : Int))) y_529.n.Id y_529.n.Term y_529.n.Vote y_529.n.Role y_529.n.Lead y_529.n.Log.Start y_529.n.Log.StartTerm y_529.n.Commit y_529.n.Clock y_529.n.Limit y_529.out
 else
 some (x_498, x_499, x_500, x_501, x_502, x_503, x_504, x_505, x_506, x_507, x_517))
def impl_Tick (N : Nat) (x_1 : Node) (x_2 : Int) : Option (Node × (List Message) × Bool) :=
 (impl_NodeOk N x_1).bind fun y_319 =>
 (if (!y_319) = true then
 some ((Node.mk (0 : Int) (0 : Int) (0 : Int) (0 : Int) (0 : Int) ([]) (Log.mk (0 : Int) (0 : Int) ([])) (0 : Int) (0 : Int) (0 : Int) ([]) ([])), [], false)
 else
 (impl_within N x_2 (1 : Int) (20 : Int)).bind fun y_321 =>
 (if (!y_321) = true then
 some ((Node.mk (0 : Int) (0 : Int) (0 : Int) (0 : Int) (0 : Int) ([]) (Log.mk (0 : Int) (0 : Int) ([])) (0 : Int) (0 : Int) (0 : Int) ([]) ([])), [], false)
 else
 (impl_copyNode N x_1).bind fun y_324 =>
 (if (x_1.Role == (2 : Int)) = true then
 (core_sendAll N (Tcore.mk y_324 ([]))).bind fun y_330 =>
 some ((Node.mk y_330.n.Id y_330.n.Term y_330.n.Vote y_330.n.Role y_330.n.Lead y_324.Conf (Log.mk y_330.n.Log.Start y_330.n.Log.StartTerm y_324.Log.Entries) y_330.n.Commit y_330.n.Clock y_330.n.Limit y_324.Votes y_324.Peers), y_330.out, true)
 else
 (if (decide ((w64 (y_324.Clock + (1 : Int))) < y_324.Limit)) = true then
 some ((Node.mk y_324.Id y_324.Term y_324.Vote y_324.Role y_324.Lead y_324.Conf y_324.Log y_324.Commit (w64 (y_324.Clock + (1 : Int))) y_324.Limit y_324.Votes y_324.Peers), [], true)
 else
 (impl_ConfOf N x_1).bind fun y_334 =>
 (slices_Contains_int N y_334 x_1.Id).bind fun y_338 =>
 (if (!y_338) = true then
 some ((Node.mk y_324.Id y_324.Term y_324.Vote y_324.Role y_324.Lead y_324.Conf y_324.Log y_324.Commit (0 : Int) x_2 y_324.Votes y_324.Peers), [], true)
 else
 (if (decide (x_1.Term ≥ (100000 : Int))) = true then
 some ((Node.mk y_324.Id y_324.Term y_324.Vote y_324.Role y_324.Lead y_324.Conf y_324.Log y_324.Commit (0 : Int) x_2 y_324.Votes y_324.Peers), [], true)
 else
 (impl_Most N y_334 ([x_1.Id] : List Int)).bind fun y_345 =>
 (if y_345 = true then
 (core_lead N (Tcore.mk (Node.mk y_324.Id (w64 (y_324.Term + (1 : Int))) x_1.Id (1 : Int) (0 : Int) y_324.Conf y_324.Log y_324.Commit (0 : Int) x_2 ([x_1.Id] : List Int) y_324.Peers) ([]))).bind fun y_348 =>
 some (y_348.n, y_348.out, true)
 else
 (impl_LogLast N y_324.Log).bind fun y_350 =>
 joinP (fun (v_440 : Int × Int × Int × Int × Int × Int × Int × Int × Int × Int × (List Message)) =>
 some ((Node.mk v_440.1 v_440.2.1 v_440.2.2.1 v_440.2.2.2.1 v_440.2.2.2.2.1 y_324.Conf (Log.mk v_440.2.2.2.2.2.1 v_440.2.2.2.2.2.2.1 y_324.Log.Entries) v_440.2.2.2.2.2.2.2.1 v_440.2.2.2.2.2.2.2.2.1 v_440.2.2.2.2.2.2.2.2.2.1 ([x_1.Id] : List Int) y_324.Peers), v_440.2.2.2.2.2.2.2.2.2.2, true)) fun j_440 =>
 (impl_othersOf N (Node.mk y_324.Id (w64 (y_324.Term + (1 : Int))) x_1.Id (1 : Int) (0 : Int) y_324.Conf y_324.Log y_324.Commit (0 : Int) x_2 ([x_1.Id] : List Int) y_324.Peers)).bind fun y_442 =>
 (impl_Tick_l1 N x_1 y_324 y_350 y_442 N (0 : Int) y_324.Id (w64 (y_324.Term + (1 : Int))) x_1.Id (1 : Int) (0 : Int) y_324.Log.Start y_324.Log.StartTerm y_324.Commit (0 : Int) x_2 ([] : (List Message))).bind (fun (v_523 : Int × Int × Int × Int × Int × Int × Int × Int × Int × Int × (List Message)) => j_440 (v_523.1, v_523.2.1, v_523.2.2.1, v_523.2.2.2.1, v_523.2.2.2.2.1, v_523.2.2.2.2.2.1, v_523.2.2.2.2.2.2.1, v_523.2.2.2.2.2.2.2.1, v_523.2.2.2.2.2.2.2.2.1, v_523.2.2.2.2.2.2.2.2.2.1, v_523.2.2.2.2.2.2.2.2.2.2)))))))))
theorem sem_impl_Tick (N : Nat) (x_1 : Node) (x_2 : Int) (r : Node × (List Message) × Bool) (h : impl_Tick N x_1 x_2 = some r) : Says Try.prog 59 [.agg [VI x_1.Id, VI x_1.Term, VI x_1.Vote, VI x_1.Role, VI x_1.Lead, RO 3 (x_1.Conf.map encI), VI x_1.Log.Start, VI x_1.Log.StartTerm, RO 48 (x_1.Log.Entries.map encEntry), VI x_1.Commit, VI x_1.Clock, VI x_1.Limit, RO 3 (x_1.Votes.map encI), RO 172 (x_1.Peers.map encPeer)], VI x_2] 0 [] (.tup [.agg [VI r.1.Id, VI r.1.Term, VI r.1.Vote, VI r.1.Role, VI r.1.Lead, .sl 0 3 0 r.1.Conf.length, VI r.1.Log.Start, VI r.1.Log.StartTerm, .sl 1 48 0 r.1.Log.Entries.length, VI r.1.Commit, VI r.1.Clock, VI r.1.Limit, .sl 2 3 0 r.1.Votes.length, .sl 3 172 0 r.1.Peers.length], .sl 4 168 0 r.2.1.length, VB r.2.2]) [(0, .vec 3 (r.1.Conf.map encI)), (1, .vec 48 (r.1.Log.Entries.map encEntry)), (2, .vec 3 (r.1.Votes.map encI)), (3, .vec 172 (r.1.Peers.map encPeer)), (4, .vec 168 (r.2.1.map (encMessage true)))] := by
  unfold impl_Tick at h
  refine Says.of_run s59 Try.call59 rfl fun B hB => ?_
  have hm : B.m ≤ 1000 := by omega
  refine Run.seq ?_
  refine Run.ops hm ?_
  refine Ops.st (s := 1000) (.bx rfl rfl) rfl rfl ?_
  refine Ops.st (s := 1016) (.al rfl rfl) rfl rfl ?_
  refine Ops.p rfl ?_
  refine Ops.p rfl ?_
  refine Ops.nil ?_
  refine Run.seq ?_
  refine Run.seq ?_
  refine Run.ops hm ?_
  refine Ops.p rfl ?_
  obtain ⟨y_319, hy_319, h⟩ := bindO h
  refine Ops.st (s := 5112) (Ev.call [] [] 0 (sem_impl_NodeOk N x_1 _ hy_319) rfl rfl (.cons (.agg (.cons (.c _) (.cons (.c _) (.cons (.c _) (.cons (.c _) (.cons (.c _) (.cons (.c _) (.cons (.c _) (.cons (.c _) (.cons (.c _) (.cons (.c _) (.cons (.c _) (.cons (.c _) (.cons (.c _) (.cons (.c _) .nil))))))))))))))) .nil) rfl (.inl rfl) rfl rfl) rfl rfl ?_
  refine Ops.p rfl ?_
  refine Ops.p rfl ?_
  refine Ops.askO (x := .t 16) rfl h (fun g_320 h => ?_) (fun g_320 h => ?_)
  · skip
    refine Ops.gn rfl g_320 ?_
    refine Ops.gn rfl g_320 ?_
    refine Ops.gn rfl g_320 ?_
    refine Ops.st (s := 5208) (.pkT rfl g_320 rfl) rfl rfl ?_
    refine Ops.nil ?_
    refine Run.condT rfl rfl ?_
    refine Run.seq ?_
    refine Run.ops hm ?_
    refine Ops.st (s := 9192) (.bd rfl rfl) rfl rfl ?_
    refine Ops.s0 (s := 9208) (.sto rfl rfl rfl rfl rfl rfl) rfl rfl ?_
    refine Ops.p rfl ?_
    refine Ops.p rfl ?_
    refine Ops.nil ?_
    refine Run.ret ?_
    obtain rfl := someO h
    exact Ends.mkG (.inl rfl) rfl (Gh.trans (Gh.trans (gh_prn [0, 1, 2] [] hB rfl) (gh_nil [0, 1] [] hB rfl rfl rfl)) (gh_pk [0, 1, 2] [10000000, 10000001, 10000002, 10000003, 10000064] hB rfl rfl rfl rfl)) rfl rfl
  · skip
    refine Ops.gp rfl g_320 rfl ?_
    obtain ⟨y_321, hy_321, h⟩ := bindO h
    refine Ops.gs (s := 5176) rfl g_320 (Ev.call [] [] 0 (sem_impl_within N x_2 (1 : Int) (20 : Int) _ hy_321) rfl rfl (.cons (.c _) (.cons (.c _) (.cons (.c _) .nil))) rfl (.inl rfl) rfl rfl) rfl rfl ?_
    refine Ops.gp rfl g_320 rfl ?_
    refine Ops.st (s := 5208) (.pkF rfl g_320 rfl) rfl rfl ?_
    refine Ops.nil ?_
    refine Run.condO rfl h (fun g_322 h => ?_) (fun g_322 h => ?_)
    · skip
      refine Run.seq ?_
      refine Run.ops hm ?_
      refine Ops.st (s := 9192) (.bd rfl rfl) rfl rfl ?_
      refine Ops.s0 (s := 9208) (.sto rfl rfl rfl rfl rfl rfl) rfl rfl ?_
      refine Ops.p rfl ?_
      refine Ops.p rfl ?_
      refine Ops.nil ?_
      refine Run.ret ?_
      obtain rfl := someO h
      exact Ends.mkG (.inl rfl) rfl (Gh.trans (Gh.trans (gh_prn [0, 1, 2] [] hB rfl) (gh_nil [0, 1] [] hB rfl rfl rfl)) (gh_pk [0, 1, 2] [10000000, 10000001, 10000002, 10000003, 10000064] hB rfl rfl rfl rfl)) rfl rfl
    · skip
      refine Run.skip ?_
      refine Run.seq ?_
      refine Run.ops hm ?_
      refine Ops.p rfl ?_
      obtain ⟨y_324, hy_324, h⟩ := bindO h
      refine Ops.st (s := 13304) (Ev.call [] [] 4 (sem_impl_copyNode N x_1 _ hy_324) rfl rfl (.cons (.agg (.cons (.c _) (.cons (.c _) (.cons (.c _) (.cons (.c _) (.cons (.c _) (.cons (.c _) (.cons (.c _) (.cons (.c _) (.cons (.c _) (.cons (.c _) (.cons (.c _) (.cons (.c _) (.cons (.c _) (.cons (.c _) .nil))))))))))))))) .nil) rfl (.inl rfl) rfl rfl) rfl rfl ?_
      refine Ops.st (s := 13320) (.bd rfl rfl) rfl rfl ?_
      refine Ops.st (s := 13336) (.bx rfl rfl) rfl rfl ?_
      refine Ops.p rfl ?_
      refine Ops.nil ?_
      refine Run.seq ?_
      refine Run.seq ?_
      refine Run.ops hm ?_
      refine Ops.p rfl ?_
      refine Ops.p rfl ?_
      refine Ops.p rfl ?_
      refine Ops.nil ?_
      refine Run.condO rfl h (fun g_328 h => ?_) (fun g_328 h => ?_)
      · skip
        refine Run.seq ?_
        refine Run.ops hm ?_
        refine Ops.p rfl ?_
        obtain ⟨y_330, hy_330, h⟩ := bindO h
        refine Ops.st (s := 21496) (Ev.call [13336, 13304, 13305, 13306, 13307] [] 1 (sem_core_sendAll N (Tcore.mk y_324 ([])) _ hy_330) rfl rfl (.cons (.ptr rfl) .nil) rfl (.inl rfl) rfl rfl) rfl rfl ?_
        refine Ops.nil ?_
        refine Run.seq ?_
        refine Run.draw hm hmix ?_
        refine OpsD.p rfl ?_
        refine OpsD.p rfl ?_
        refine OpsD.p rfl ?_
        refine OpsD.p rfl ?_
        refine OpsD.p rfl ?_
        refine OpsD.p rfl ?_
        refine OpsD.p rfl ?_
        refine OpsD.p rfl ?_
        refine OpsD.s0 (s := 25704) (.sto rfl rfl rfl rfl rfl rfl) rfl rfl ?_
        refine OpsD.p rfl ?_
        refine OpsD.p rfl ?_
        refine OpsD.nil ⟨by kernel_rfl, ?_⟩
        refine Run.ret ?_
        obtain rfl := someO h
        exact Ends.mkG (.inl rfl) rfl (gh_pk [0, 1, 2] [13304, 13305, 13306, 13307, 21496] hB rfl rfl rfl rfl) rfl rfl
      · skip
        refine Run.skip ?_
        refine Run.seq ?_
        refine Run.ops hm ?_
        refine Ops.p rfl ?_
        refine Ops.p rfl ?_
        refine Ops.p rfl ?_
        refine Ops.p rfl ?_
        refine Ops.p rfl ?_
        refine Ops.p rfl ?_
        refine Ops.p rfl ?_
        refine Ops.p rfl ?_
        refine Ops.p rfl ?_
        refine Ops.s0 (s := 29816) (.sto rfl rfl rfl rfl rfl rfl) rfl rfl ?_
        refine Ops.nil ?_
        refine Run.seq ?_
        refine Run.seq ?_
        refine Run.draw hm hmix ?_
        refine OpsD.p rfl ?_
        refine OpsD.p rfl ?_
        refine OpsD.p rfl ?_
        refine OpsD.p rfl ?_
        refine OpsD.p rfl ?_
        refine OpsD.p rfl ?_
        refine OpsD.p rfl ?_
        refine OpsD.p rfl ?_
        refine OpsD.p rfl ?_
        refine OpsD.p rfl ?_
        refine OpsD.p rfl ?_
        refine OpsD.nil ⟨by kernel_rfl, ?_⟩
        refine Run.condO rfl h (fun g_332 h => ?_) (fun g_332 h => ?_)
        · skip
          refine Run.seq ?_
          refine Run.ops hm ?_
          refine Ops.p rfl ?_
          refine Ops.p rfl ?_
          refine Ops.p rfl ?_
          refine Ops.p rfl ?_
          refine Ops.s0 (s := 37928) (.sto rfl rfl rfl rfl rfl rfl) rfl rfl ?_
          refine Ops.p rfl ?_
          refine Ops.p rfl ?_
          refine Ops.nil ?_
          refine Run.ret ?_
          obtain rfl := someO h
          exact Ends.mkG (.inl rfl) rfl (Gh.trans (Gh.trans (gh_prn [0, 1, 2] [13304, 13305, 13306, 13307] hB rfl) (gh_nil [1] [] hB rfl rfl rfl)) (gh_pk [0, 1, 2] [13304, 13305, 13306, 13307, 10000000] hB rfl rfl rfl rfl)) rfl rfl
        · skip
          refine Run.skip ?_
          refine Run.seq ?_
          refine Run.ops hm ?_
          refine Ops.p rfl ?_
          refine Ops.p rfl ?_
          refine Ops.p rfl ?_
          refine Ops.p rfl ?_
          refine Ops.p rfl ?_
          refine Ops.p rfl ?_
          refine Ops.s0 (s := 42056) (.sto rfl rfl rfl rfl rfl rfl) rfl rfl ?_
          refine Ops.p rfl ?_
          refine Ops.p rfl ?_
          refine Ops.p rfl ?_
          refine Ops.s0 (s := 42120) (.sto rfl rfl rfl rfl rfl rfl) rfl rfl ?_
          refine Ops.nil ?_
          refine Run.seq ?_
          refine Run.ops hm ?_
          refine Ops.p rfl ?_
          obtain ⟨y_334, hy_334, h⟩ := bindO h
          refine Ops.st (s := 46072) (Ev.call [] [] 1 (sem_impl_ConfOf N x_1 _ hy_334) rfl rfl (.cons (.agg (.cons (.c _) (.cons (.c _) (.cons (.c _) (.cons (.c _) (.cons (.c _) (.cons (.c _) (.cons (.c _) (.cons (.c _) (.cons (.c _) (.cons (.c _) (.cons (.c _) (.cons (.c _) (.cons (.c _) (.cons (.c _) .nil))))))))))))))) .nil) rfl (.inl rfl) rfl rfl) rfl rfl ?_
          refine Ops.p rfl ?_
          refine Ops.nil ?_
          refine Run.seq ?_
          refine Run.seq ?_
          refine Run.ops hm ?_
          refine Ops.p rfl ?_
          refine Ops.p rfl ?_
          refine Ops.p rfl ?_
          obtain ⟨y_338, hy_338, h⟩ := bindO h
          refine Ops.st (s := 50200) (Ev.call [] [46072] 0 (sem_slices_Contains_int N y_334 x_1.Id _ hy_338) rfl rfl (.cons (.borrow rfl (by decide) (lendW (fun _ => rfl) _ rfl)) (.cons (.c _) .nil)) rfl (.inr ⟨rfl, ownL_root trivial⟩) rfl rfl) rfl rfl ?_
          refine Ops.p rfl ?_
          refine Ops.p rfl ?_
          refine Ops.askO (x := .t 79) rfl h (fun g_339 h => ?_) (fun g_339 h => ?_)
          · skip
            refine Ops.gn rfl g_339 ?_
            refine Ops.gn rfl g_339 ?_
            refine Ops.gn rfl g_339 ?_
            refine Ops.st (s := 50296) (.pkT rfl g_339 rfl) rfl rfl ?_
            refine Ops.nil ?_
            refine Run.condT rfl rfl ?_
            refine Run.seq ?_
            refine Run.ops hm ?_
            refine Ops.p rfl ?_
            refine Ops.p rfl ?_
            refine Ops.p rfl ?_
            refine Ops.p rfl ?_
            refine Ops.s0 (s := 54312) (.sto rfl rfl rfl rfl rfl rfl) rfl rfl ?_
            refine Ops.p rfl ?_
            refine Ops.p rfl ?_
            refine Ops.nil ?_
            refine Run.ret ?_
            obtain rfl := someO h
            exact Ends.mkG (.inl rfl) rfl (Gh.trans (Gh.trans (gh_prn [0, 1, 2] [13304, 13305, 13306, 13307] hB rfl) (gh_nil [1] [] hB rfl rfl rfl)) (gh_pk [0, 1, 2] [13304, 13305, 13306, 13307, 10000000] hB rfl rfl rfl rfl)) rfl rfl
          · skip
            refine Ops.gp rfl g_339 rfl ?_
            refine Ops.gp rfl g_339 rfl ?_
            refine Ops.gp rfl g_339 rfl ?_
            refine Ops.st (s := 50296) (.pkF rfl g_339 rfl) rfl rfl ?_
            refine Ops.nil ?_
            refine Run.condO rfl h (fun g_340 h => ?_) (fun g_340 h => ?_)
            · skip
              refine Run.seq ?_
              refine Run.ops hm ?_
              refine Ops.p rfl ?_
              refine Ops.p rfl ?_
              refine Ops.p rfl ?_
              refine Ops.p rfl ?_
              refine Ops.s0 (s := 54312) (.sto rfl rfl rfl rfl rfl rfl) rfl rfl ?_
              refine Ops.p rfl ?_
              refine Ops.p rfl ?_
              refine Ops.nil ?_
              refine Run.ret ?_
              obtain rfl := someO h
              exact Ends.mkG (.inl rfl) rfl (Gh.trans (Gh.trans (gh_prn [0, 1, 2] [13304, 13305, 13306, 13307] hB rfl) (gh_nil [1] [] hB rfl rfl rfl)) (gh_pk [0, 1, 2] [13304, 13305, 13306, 13307, 10000000] hB rfl rfl rfl rfl)) rfl rfl
            · skip
              refine Run.skip ?_
              refine Run.seq ?_
              refine Run.ops hm ?_
              refine Ops.p rfl ?_
              refine Ops.p rfl ?_
              refine Ops.p rfl ?_
              refine Ops.p rfl ?_
              refine Ops.p rfl ?_
              refine Ops.p rfl ?_
              refine Ops.p rfl ?_
              refine Ops.p rfl ?_
              refine Ops.p rfl ?_
              refine Ops.s0 (s := 58488) (.sto rfl rfl rfl rfl rfl rfl) rfl rfl ?_
              refine Ops.nil ?_
              refine Run.seq ?_
              refine Run.draw hm hmix ?_
              refine OpsD.p rfl ?_
              refine OpsD.p rfl ?_
              refine OpsD.p rfl ?_
              refine OpsD.p rfl ?_
              refine OpsD.p rfl ?_
              refine OpsD.p rfl ?_
              refine OpsD.p rfl ?_
              refine OpsD.p rfl ?_
              refine OpsD.st (s := 62568) (Ev.bsW (ys := ([x_1.Id] : List Int)) (f := encI) rfl (.cons (.c _) .nil) rfl rfl rfl rfl rfl) rfl rfl ?_
              refine OpsD.p rfl ?_
              refine OpsD.p rfl ?_
              refine OpsD.p rfl ?_
              refine OpsD.s0 (s := 62632) (.sto rfl rfl rfl rfl rfl rfl) rfl rfl ?_
              refine OpsD.p rfl ?_
              refine OpsD.p rfl ?_
              refine OpsD.p rfl ?_
              refine OpsD.s0 (s := 62696) (.sto rfl rfl rfl rfl rfl rfl) rfl rfl ?_
              refine OpsD.p rfl ?_
              refine OpsD.p rfl ?_
              refine OpsD.p rfl ?_
              refine OpsD.s0 (s := 62760) (.sto rfl rfl rfl rfl rfl rfl) rfl rfl ?_
              refine OpsD.p rfl ?_
              refine OpsD.p rfl ?_
              refine OpsD.p rfl ?_
              refine OpsD.s0 (s := 62824) (.sto rfl rfl rfl rfl rfl rfl) rfl rfl ?_
              refine OpsD.nil ⟨by kernel_rfl, ?_⟩
              refine Run.seq ?_
              refine Run.seq ?_
              refine Run.ops hm ?_
              refine Ops.p rfl ?_
              refine Ops.p rfl ?_
              refine Ops.p rfl ?_
              refine Ops.p rfl ?_
              refine Ops.p rfl ?_
              refine Ops.p rfl ?_
              obtain ⟨y_345, hy_345, h⟩ := bindO h
              refine Ops.st (s := 66632) (Ev.call [] [46072, 62568] 0 (sem_impl_Most N y_334 ([x_1.Id] : List Int) _ hy_345) rfl rfl (.cons (.borrow rfl (by decide) (lendW (fun _ => rfl) _ rfl)) (.cons (.borrow rfl (by decide) (lendW (fun _ => rfl) _ rfl)) .nil)) rfl (.inr ⟨rfl, ownL_root trivial⟩) rfl rfl) rfl rfl ?_
              refine Ops.nil ?_
              refine Run.condO rfl h (fun g_346 h => ?_) (fun g_346 h => ?_)
              · skip
                refine Run.seq ?_
                refine Run.ops hm ?_
                refine Ops.p rfl ?_
                obtain ⟨y_348, hy_348, h⟩ := bindO h
                refine Ops.st (s := 70648) (Ev.call [13336, 13304, 13305, 62568, 13307] [] 5 (sem_core_lead N (Tcore.mk (Node.mk y_324.Id (w64 (y_324.Term + (1 : Int))) x_1.Id (1 : Int) (0 : Int) y_324.Conf y_324.Log y_324.Commit (0 : Int) x_2 ([x_1.Id] : List Int) y_324.Peers) ([])) _ hy_348) rfl rfl (.cons (.ptr rfl) .nil) rfl (.inl rfl) rfl rfl) rfl rfl ?_
                refine Ops.nil ?_
                refine Run.seq ?_
                refine Run.draw hm hmix ?_
                refine OpsD.p rfl ?_
                refine OpsD.p rfl ?_
                refine OpsD.p rfl ?_
                refine OpsD.p rfl ?_
                refine OpsD.p rfl ?_
                refine OpsD.p rfl ?_
                refine OpsD.p rfl ?_
                refine OpsD.p rfl ?_
                refine OpsD.s0 (s := 74856) (.sto rfl rfl rfl rfl rfl rfl) rfl rfl ?_
                refine OpsD.p rfl ?_
                refine OpsD.p rfl ?_
                refine OpsD.nil ⟨by kernel_rfl, ?_⟩
                refine Run.ret ?_
                obtain rfl := someO h
                exact Ends.mkG (.inl rfl) rfl (gh_pk [0, 1, 2] [70648, 70649, 70650, 70651, 70652] hB rfl rfl rfl rfl) rfl rfl
              · skip
                refine Run.skip ?_
                refine Run.seq ?_
                refine Run.ops hm ?_
                refine Ops.p rfl ?_
                refine Ops.p rfl ?_
                refine Ops.p rfl ?_
                refine Ops.p rfl ?_
                refine Ops.p rfl ?_
                obtain ⟨y_350, hy_350, h⟩ := bindO h
                refine Ops.st (s := 78904) (Ev.call [] [13305] 0 (sem_impl_LogLast N y_324.Log _ hy_350) rfl rfl (.cons (.agg (.cons (.c _) (.cons (.c _) (.cons (.borrow rfl (by decide) (lendW (fun _ => rfl) _ rfl)) .nil)))) .nil) rfl (.inr ⟨rfl, ownL_root trivial⟩) rfl rfl) rfl rfl ?_
                refine Ops.p rfl ?_
                refine Ops.p rfl ?_
                refine Ops.p rfl ?_
                refine Ops.p rfl ?_
                refine Ops.p rfl ?_
                refine Ops.nil ?_
                refine Run.seqO h (fun (v_440 : Int × Int × Int × Int × Int × Int × Int × Int × Int × Int × (List Message)) => [(4, .ptr 0 0), (7, .ptr 1 0)]) (fun (v_440 : Int × Int × Int × Int × Int × Int × Int × Int × Int × Int × (List Message)) => [(0, .box [VI (0 : Int), VI (0 : Int), VI (0 : Int), VI (0 : Int), VI (0 : Int), .sl 2 3 0 (([] : (List Int)).length), VI (0 : Int), VI (0 : Int), .sl 3 48 0 (([] : (List Entry)).length), VI (0 : Int), VI (0 : Int), VI (0 : Int), .sl 4 3 0 (([] : (List Int)).length), .sl 5 172 0 (([] : (List Peer)).length)]), (1, .box [VI v_440.1, VI v_440.2.1, VI v_440.2.2.1, VI v_440.2.2.2.1, VI v_440.2.2.2.2.1, .sl 6 3 0 y_324.Conf.length, VI v_440.2.2.2.2.2.1, VI v_440.2.2.2.2.2.2.1, .sl 7 48 0 y_324.Log.Entries.length, VI v_440.2.2.2.2.2.2.2.1, VI v_440.2.2.2.2.2.2.2.2.1, VI v_440.2.2.2.2.2.2.2.2.2.1, .sl 8 3 0 (([x_1.Id] : List Int).length), .sl 9 172 0 y_324.Peers.length, .sl 10 168 0 v_440.2.2.2.2.2.2.2.2.2.2.length]), (2, .vec 3 (([] : (List Int)).map encI)), (3, .vec 48 (([] : (List Entry)).map encEntry)), (4, .vec 3 (([] : (List Int)).map encI)), (5, .vec 172 (([] : (List Peer)).map encPeer)), (6, .vec 3 (y_324.Conf.map encI)), (7, .vec 48 (y_324.Log.Entries.map encEntry)), (8, .vec 3 (([x_1.Id] : List Int).map encI)), (9, .vec 172 (y_324.Peers.map encPeer)), (10, .vec 168 (v_440.2.2.2.2.2.2.2.2.2.2.map (encMessage true)))]) (fun h => ?_) (fun v_440 h => ?_)
                · skip
                  refine Run.seq ?_
                  refine Run.ops hm ?_
                  refine Ops.p rfl ?_
                  refine Ops.p rfl ?_
                  refine Ops.p rfl ?_
                  refine Ops.p rfl ?_
                  obtain ⟨y_442, hy_442, h⟩ := bindO h
                  refine Ops.st (s := 82984) (Ev.call [] [13304, 13305, 62568, 13307] 1 (sem_impl_othersOf N (Node.mk y_324.Id (w64 (y_324.Term + (1 : Int))) x_1.Id (1 : Int) (0 : Int) y_324.Conf y_324.Log y_324.Commit (0 : Int) x_2 ([x_1.Id] : List Int) y_324.Peers) _ hy_442) rfl rfl (.cons (.agg (.cons (.c _) (.cons (.c _) (.cons (.c _) (.cons (.c _) (.cons (.c _) (.cons (.borrow rfl (by decide) (lendW (fun _ => rfl) _ rfl)) (.cons (.c _) (.cons (.c _) (.cons (.borrow rfl (by decide) (lendW (fun _ => rfl) _ rfl)) (.cons (.c _) (.cons (.c _) (.cons (.c _) (.cons (.borrow rfl (by decide) (lendW (fun _ => rfl) _ rfl)) (.cons (.borrow rfl (by decide) (lendW (fun _ => rfl) _ rfl)) .nil))))))))))))))) .nil) rfl (.inr ⟨rfl, ownL_root ⟨own_rows (fun _ => rfl) _, trivial⟩⟩) rfl rfl) rfl rfl ?_
                  refine Ops.p rfl ?_
                  refine Ops.p rfl ?_
                  refine Ops.nil ?_
                  refine Run.block ?_
                  obtain ⟨res_523, h, hk_523⟩ := bindO h
                  refine Run.loop (n := N) (fun m_523 fr σ => ∃ (x_487 : Int), ∃ (x_498 : Int), ∃ (x_499 : Int), ∃ (x_500 : Int), ∃ (x_501 : Int), ∃ (x_502 : Int), ∃ (x_503 : Int), ∃ (x_504 : Int), ∃ (x_505 : Int), ∃ (x_506 : Int), ∃ (x_507 : Int), ∃ (x_517 : (List Message)), impl_Tick_l1 N x_1 y_324 y_350 y_442 m_523 x_487 x_498 x_499 x_500 x_501 x_502 x_503 x_504 x_505 x_506 x_507 x_517 = some res_523 ∧ fr = [(4, .ptr 0 0), (7, .ptr 1 0), (9, VI y_350.1), (10, VI y_350.2), (148, .sl 2 3 0 y_442.1), (149, VI ((y_442.1 : Nat) : Int)), (150, VI x_487)] ∧ σ = [(0, .box [VI (0 : Int), VI (0 : Int), VI (0 : Int), VI (0 : Int), VI (0 : Int), .sl 3 3 0 (([] : (List Int)).length), VI (0 : Int), VI (0 : Int), .sl 4 48 0 (([] : (List Entry)).length), VI (0 : Int), VI (0 : Int), VI (0 : Int), .sl 5 3 0 (([] : (List Int)).length), .sl 6 172 0 (([] : (List Peer)).length)]), (1, .box [VI x_498, VI x_499, VI x_500, VI x_501, VI x_502, .sl 7 3 0 y_324.Conf.length, VI x_503, VI x_504, .sl 8 48 0 y_324.Log.Entries.length, VI x_505, VI x_506, VI x_507, .sl 9 3 0 (([x_1.Id] : List Int).length), .sl 10 172 0 y_324.Peers.length, .sl 11 168 0 x_517.length]), (2, .vec 3 (y_442.2.map encI)), (3, .vec 3 (([] : (List Int)).map encI)), (4, .vec 48 (([] : (List Entry)).map encEntry)), (5, .vec 3 (([] : (List Int)).map encI)), (6, .vec 172 (([] : (List Peer)).map encPeer)), (7, .vec 3 (y_324.Conf.map encI)), (8, .vec 48 (y_324.Log.Entries.map encEntry)), (9, .vec 3 (([x_1.Id] : List Int).map encI)), (10, .vec 172 (y_324.Peers.map encPeer)), (11, .vec 168 (x_517.map (encMessage true)))]) (Gh.trans (Gh.trans (gh_prn [4, 7, 9, 10, 148, 149, 150] [1016, 13336, 82984, 13304, 13305, 62568, 13307] hB rfl) (gh_nil [] [1016, 13336] hB rfl rfl rfl)) (gh_pk [4, 7, 9, 10, 148, 149, 150] [1016, 13336, 82984, 20000000, 20000001, 20000002, 20000003, 13304, 13305, 62568, 13307, 20000064] hB rfl rfl rfl rfl)) ⟨_, _, _, _, _, _, _, _, _, _, _, _, h, rfl, rfl⟩ ?_
                  rintro m_523 fr σ ⟨x_487, x_498, x_499, x_500, x_501, x_502, x_503, x_504, x_505, x_506, x_507, x_517, h, rfl, rfl⟩
                  obtain _ | m_523 := m_523
                  · rw [impl_Tick_l1] at h; cases h
                  rw [impl_Tick_l1] at h
                  refine Run.seq ?_
                  refine Run.ops hm ?_
                  refine Ops.p rfl ?_
                  refine Ops.nil ?_
                  refine Run.seq ?_
                  refine Run.condO rfl h (fun g_526 h => ?_) (fun g_526 h => ?_)
                  · skip
                    refine Run.skip ?_
                    refine Run.seq ?_
                    refine Run.block ?_
                    refine Run.seq ?_
                    refine Run.ops hm ?_
                    obtain ⟨x_528, hx_528, h⟩ := bindO h
                    refine Ops.st (s := 91112) (Ev.iaP (xs := y_442.2) rfl rfl hx_528) rfl rfl ?_
                    refine Ops.st (s := 91128) (Ev.ldE (f := encI) rfl rfl (at_part hx_528) rfl rfl rfl) rfl rfl ?_
                    refine Ops.p rfl ?_
                    refine Ops.nil ?_
                    refine Run.ops hm ?_
                    refine Ops.p rfl ?_
                    refine Ops.p rfl ?_
                    refine Ops.p rfl ?_
                    refine Ops.p rfl ?_
                    refine Ops.st (s := 95272) (.bd rfl rfl) rfl rfl ?_
                    obtain ⟨y_529, hy_529, h⟩ := bindO h
                    refine Ops.st (s := 95288) (Ev.call [1, 7, 8, 9, 10, 11] [] 1 (sem_core_tell_i2 N (Tcore.mk (Node.mk x_498 x_499 x_500 x_501 x_502 y_324.Conf (Log.mk x_503 x_504 y_324.Log.Entries) x_505 x_506 x_507 ([x_1.Id] : List Int) y_324.Peers) x_517) (Message.mk (1 : Int) (0 : Int) x_528 (0 : Int) y_350.1 y_350.2 (0 : Int) false ([]) ([]) (⟨#[]⟩ : ByteArray) false) _ hy_529) rfl rfl (.cons (.ptr rfl) (.cons (.agg (.cons (.c _) (.cons (.c _) (.cons (.c _) (.cons (.c _) (.cons (.c _) (.cons (.c _) (.cons (.c _) (.cons (.c _) (.cons (.c _) (.cons (.c _) (.cons (.c _) (.cons (.c _) .nil))))))))))))) .nil)) rfl (.inl rfl) rfl rfl) rfl rfl ?_
                    refine Ops.nil ?_
                    refine Run.ops hm ?_
                    refine Ops.p rfl ?_
                    refine Ops.p rfl ?_
                    refine Ops.nil ?_
                    exact ⟨m_523, Nat.lt_succ_self m_523, _, _, (gh_pk [4, 7, 9, 10, 148, 149, 150] [0, 1, 2, 3, 4, 5, 6, 7, 8, 9, 10, 95288] hB rfl rfl rfl rfl), _, _, _, _, _, _, _, _, _, _, _, _, h, rfl, rfl⟩
                  · skip
                    refine Run.exit ?_
                    obtain rfl := someO h
                    have h := hk_523
                    exact ⟨_, _, (gh_pk [4, 7] [0, 1, 3, 4, 5, 6, 7, 8, 9, 10, 11] hB rfl rfl rfl rfl), (x_498, x_499, x_500, x_501, x_502, x_503, x_504, x_505, x_506, x_507, x_517), h, rfl, rfl⟩
                · skip
                  refine Run.seq ?_
                  refine Run.draw hm hmix ?_
                  refine OpsD.p rfl ?_
                  refine OpsD.p rfl ?_
                  refine OpsD.p rfl ?_
                  refine OpsD.p rfl ?_
                  refine OpsD.p rfl ?_
                  refine OpsD.p rfl ?_
                  refine OpsD.p rfl ?_
                  refine OpsD.p rfl ?_
                  refine OpsD.s0 (s := 103528) (.sto rfl rfl rfl rfl rfl rfl) rfl rfl ?_
                  refine OpsD.p rfl ?_
                  refine OpsD.p rfl ?_
                  refine OpsD.nil ⟨by kernel_rfl, ?_⟩
                  refine Run.ret ?_
                  obtain rfl := someO h
                  exact Ends.mkG (.inl rfl) rfl (gh_pk [0, 1, 2] [6, 7, 8, 9, 10] hB rfl rfl rfl rfl) rfl rfl
def impl_confMay_1 (N : Nat) (x_1 : Int) (x_2 : (List Int)) : Option (Bool) :=
 (slices_Contains_int N x_2 x_1).bind fun y_101 =>
 some (!y_101)
theorem sem_impl_confMay_1 (N : Nat) (x_1 : Int) (x_2 : (List Int)) (r : Bool) (h : impl_confMay_1 N x_1 x_2 = some r) : Says Try.prog 154 [VI x_1, .ptr 0 0] 2 [(0, .box [.sl 1 3 0 x_2.length]), (1, .vec 3 (x_2.map encI))] (VB r) [(0, .box [.sl 1 3 0 x_2.length]), (1, .vec 3 (x_2.map encI))] := by
  unfold impl_confMay_1 at h
  refine Says.of_run s154 Try.call154 rfl fun B hB => ?_
  have hm : B.m ≤ 1000 := by omega
  refine Run.seq ?_
  refine Run.ops hm ?_
  refine Ops.p rfl ?_
  refine Ops.nil ?_
  refine Run.seq ?_
  refine Run.ops hm ?_
  refine Ops.p rfl ?_
  refine Ops.p rfl ?_
  obtain ⟨y_101, hy_101, h⟩ := bindO h
  refine Ops.st (s := 5128) (Ev.call [] [1] 0 (sem_slices_Contains_int N x_2 x_1 _ hy_101) rfl rfl (.cons (.borrow rfl (by decide) (lendW (fun _ => rfl) _ rfl)) (.cons (.c _) .nil)) rfl (.inr ⟨rfl, ownL_root trivial⟩) rfl rfl) rfl rfl ?_
  refine Ops.p rfl ?_
  refine Ops.p rfl ?_
  refine Ops.nil ?_
  refine Run.ret ?_
  obtain rfl := someO h
  exact Ends.mkG (.inl rfl) rfl (gh_pk [0] [0, 1] hB rfl rfl rfl rfl) rfl rfl
def slices_IndexFunc_int_i2_l1 (N : Nat) (x_1 : (List Int)) (x_2 : (List Int)) : Nat → Int → Option ((Int) ⊕ (Unit))
 | 0, _ => none
 | m + 1, x_155 =>
 (if (decide (x_155 < (x_1.length : Int))) = true then
 (at? x_1 x_155).bind fun x_167 =>
 (impl_confMay_1 N x_167 x_2).bind fun y_168 =>
 (if y_168 = true then
 some (Sum.inl x_155)
 else
 slices_IndexFunc_int_i2_l1 N x_1 x_2 m (w64 (x_155 + (1 : Int))))
 else
 some (Sum.inr ()))
def slices_IndexFunc_int_i2_l1_r (N : Nat) (x_1 : (List Int)) (x_2 : (List Int)) : (List Int) → Int → Option ((Int) ⊕ (Unit))
 | [], x_155 =>
 some (Sum.inr ())
 | hd :: tl, x_155 =>
 (some hd).bind fun x_167 =>
 (impl_confMay_1 N x_167 x_2).bind fun y_168 =>
 (if y_168 = true then
 some (Sum.inl x_155)
 else
 slices_IndexFunc_int_i2_l1_r N x_1 x_2 tl (w64 (x_155 + (1 : Int))))
theorem slices_IndexFunc_int_i2_l1_rng (N : Nat) (x_1 : (List Int)) (x_2 : (List Int)) (hx : x_1.length ≤ 1099511627776) : ∀ (d k m : Nat), x_1.length = k + d → d < m → slices_IndexFunc_int_i2_l1 N x_1 x_2 m (k : Int) = slices_IndexFunc_int_i2_l1_r N x_1 x_2 (x_1.drop k) (k : Int) := by
  intro d
  induction d with
  | zero =>
    intro k m hd hm
    obtain ⟨m, rfl⟩ : ∃ q, m = q + 1 := ⟨m - 1, by omega⟩
    rw [slices_IndexFunc_int_i2_l1, if_neg (by simp; omega), List.drop_eq_nil_of_le (by omega), slices_IndexFunc_int_i2_l1_r]
  | succ d ih =>
    intro k m hd hm
    obtain ⟨m, rfl⟩ : ∃ q, m = q + 1 := ⟨m - 1, by omega⟩
    have hk : k < x_1.length := by omega
    rw [slices_IndexFunc_int_i2_l1, if_pos (by simp; omega), List.drop_eq_getElem_cons hk, slices_IndexFunc_int_i2_l1_r]
    have h1 := at_lt hk
    have h2 := w64_succ (k := k) (by omega)
    have h3 := ih (k + 1) m
    simp only [h1, h2, h3 (by omega) (by omega)]
theorem slices_IndexFunc_int_i2_l1_eq {N : Nat} (x_1 : (List Int)) (x_2 : (List Int)) (hx : x_1.length ≤ 1099511627776) (hN : x_1.length < N) : slices_IndexFunc_int_i2_l1 N x_1 x_2 N 0 = slices_IndexFunc_int_i2_l1_r N x_1 x_2 x_1 0 := slices_IndexFunc_int_i2_l1_rng N x_1 x_2 hx x_1.length 0 N (by omega) hN
def slices_IndexFunc_int_i2 (N : Nat) (x_1 : (List Int)) (x_2 : (List Int)) : Option (Int) :=
 joinP (fun (v_152 : Unit) =>
 some (-1 : Int)) fun j_152 =>
 (slices_IndexFunc_int_i2_l1 N x_1 x_2 N (0 : Int)).bind (Sum.elim (fun v_162 => some v_162) (fun (v_163 : Unit) => j_152 ()))
theorem sem_slices_IndexFunc_int_i2 (N : Nat) (x_1 : (List Int)) (x_2 : (List Int)) (r : Int) (h : slices_IndexFunc_int_i2 N x_1 x_2 = some r) : Says Try.prog 158 [RO 3 (x_1.map encI), .fn 154 [.ptr 0 0]] 2 [(0, .box [.sl 1 3 0 x_2.length]), (1, .vec 3 (x_2.map encI))] (VI r) [(0, .box [.sl 1 3 0 x_2.length]), (1, .vec 3 (x_2.map encI))] := by
  unfold slices_IndexFunc_int_i2 at h
  refine Says.of_run s158 Try.call158 rfl fun B hB => ?_
  have hm : B.m ≤ 1000 := by omega
  refine Run.seq ?_
  refine Run.ops hm ?_
  refine Ops.p rfl ?_
  refine Ops.nil ?_
  refine Run.seqO h (fun (v_152 : Unit) => []) (fun (v_152 : Unit) => [(0, .box [.sl 1 3 0 x_2.length]), (1, .vec 3 (x_2.map encI))]) (fun h => ?_) (fun v_152 h => ?_)
  · skip
    refine Run.seq ?_
    refine Run.ops hm ?_
    refine Ops.p rfl ?_
    refine Ops.st (s := 5112) (Ev.lnF rfl) rfl rfl ?_
    refine Ops.p rfl ?_
    refine Ops.nil ?_
    refine Run.block ?_
    obtain ⟨res_163, h, hk_163⟩ := bindO h
    refine Run.loop (n := N) (fun m_163 fr σ => ∃ (x_155 : Int), slices_IndexFunc_int_i2_l1 N x_1 x_2 m_163 x_155 = some res_163 ∧ fr = [(0, RO 3 (x_1.map encI)), (1, .fn 154 [.ptr 0 0]), (7, VI (x_1.length : Int)), (8, VI x_155)] ∧ σ = [(0, .box [.sl 1 3 0 x_2.length]), (1, .vec 3 (x_2.map encI))]) (gh_pk [0, 1, 7, 8] [0, 1] hB rfl rfl rfl rfl) ⟨_, h, rfl, rfl⟩ ?_
    rintro m_163 fr σ ⟨x_155, h, rfl, rfl⟩
    obtain _ | m_163 := m_163
    · rw [slices_IndexFunc_int_i2_l1] at h; cases h
    rw [slices_IndexFunc_int_i2_l1] at h
    refine Run.seq ?_
    refine Run.ops hm ?_
    refine Ops.p rfl ?_
    refine Ops.nil ?_
    refine Run.seq ?_
    refine Run.condO rfl h (fun g_166 h => ?_) (fun g_166 h => ?_)
    · skip
      refine Run.skip ?_
      refine Run.seq ?_
      refine Run.block ?_
      refine Run.seq ?_
      refine Run.ops hm ?_
      refine Ops.p rfl ?_
      refine Ops.p rfl ?_
      refine Ops.nil ?_
      refine Run.seq ?_
      refine Run.ops hm ?_
      refine Ops.p rfl ?_
      refine Ops.p rfl ?_
      refine Ops.p rfl ?_
      obtain ⟨x_167, hx_167, h⟩ := bindO h
      refine Ops.st (s := 17432) (Ev.iaF rfl rfl hx_167) rfl rfl ?_
      refine Ops.p rfl ?_
      obtain ⟨y_168, hy_168, h⟩ := bindO h
      refine Ops.st (s := 17464) (Ev.callx [0, 1] [] 0 rfl (sem_impl_confMay_1 N x_167 x_2 _ hy_168) rfl rfl (.cons (.c _) (.cons (.ptr rfl) .nil)) rfl (.inl rfl) rfl rfl) rfl rfl ?_
      refine Ops.nil ?_
      refine Run.condO rfl h (fun g_169 h => ?_) (fun g_169 h => ?_)
      · skip
        refine Run.seq ?_
        refine Run.ops hm ?_
        refine Ops.p rfl ?_
        refine Ops.p rfl ?_
        refine Ops.nil ?_
        refine Run.ret ?_
        obtain rfl := someO h
        have h := hk_163
        replace h := inlO h
        obtain rfl := someO h
        exact Ends.mkG (.inl rfl) rfl (gh_pk [0] [0, 1] hB rfl rfl rfl rfl) rfl rfl
      · skip
        refine Run.skip ?_
        refine Run.ops hm ?_
        refine Ops.p rfl ?_
        refine Ops.p rfl ?_
        refine Ops.nil ?_
        exact ⟨m_163, Nat.lt_succ_self m_163, _, _, (gh_pk [0, 1, 7, 8] [0, 1] hB rfl rfl rfl rfl), _, h, rfl, rfl⟩
    · skip
      refine Run.exit ?_
      obtain rfl := someO h
      have h := hk_163
      replace h := inrO h
      exact ⟨_, _, (gh_pk [] [0, 1] hB rfl rfl rfl rfl), (), h, rfl, rfl⟩
  · skip
    refine Run.seq ?_
    refine Run.ops hm ?_
    refine Ops.p rfl ?_
    refine Ops.nil ?_
    refine Run.ret ?_
    obtain rfl := someO h
    exact Ends.mkG (.inl rfl) rfl (gh_pk [0] [0, 1] hB rfl rfl rfl rfl) rfl rfl
def slices_ContainsFunc_int (N : Nat) (x_1 : (List Int)) (x_2 : (List Int)) : Option (Bool) :=
 (slices_IndexFunc_int_i2 N x_1 x_2).bind fun y_101 =>
 some (decide (y_101 ≥ (0 : Int)))
theorem sem_slices_ContainsFunc_int (N : Nat) (x_1 : (List Int)) (x_2 : (List Int)) (r : Bool) (h : slices_ContainsFunc_int N x_1 x_2 = some r) : Says Try.prog 153 [RO 3 (x_1.map encI), .fn 154 [.ptr 0 0]] 2 [(0, .box [.sl 1 3 0 x_2.length]), (1, .vec 3 (x_2.map encI))] (VB r) [(0, .box [.sl 1 3 0 x_2.length]), (1, .vec 3 (x_2.map encI))] := by
  unfold slices_ContainsFunc_int at h
  refine Says.of_run s153 Try.call153 rfl fun B hB => ?_
  have hm : B.m ≤ 1000 := by omega
  refine Run.seq ?_
  refine Run.ops hm ?_
  refine Ops.p rfl ?_
  refine Ops.nil ?_
  refine Run.seq ?_
  refine Run.ops hm ?_
  refine Ops.p rfl ?_
  refine Ops.p rfl ?_
  obtain ⟨y_101, hy_101, h⟩ := bindO h
  refine Ops.st (s := 5128) (Ev.call [0, 1] [] 0 (sem_slices_IndexFunc_int_i2 N x_1 x_2 _ hy_101) rfl rfl (.cons (.c _) (.cons (.fn (.cons (.ptr rfl) .nil)) .nil)) rfl (.inl rfl) rfl rfl) rfl rfl ?_
  refine Ops.p rfl ?_
  refine Ops.p rfl ?_
  refine Ops.nil ?_
  refine Run.ret ?_
  obtain rfl := someO h
  exact Ends.mkG (.inl rfl) rfl (gh_pk [0] [0, 1] hB rfl rfl rfl rfl) rfl rfl
end Go.Proofs.Ytebbgdjmplceiaa.Pe.FnAlone
