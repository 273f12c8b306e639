/- Functions, as pure functions; and that Go does just that. -/
import Derived.Test.YtehknbpmpbghhaaPeFFnExactTick5
namespace Go.Proofs.Ytehknbpmpbghhaa.Pe.FnExactTick
open Go Go.RowKit
set_option linter.unusedVariables false
set_option linter.unusedSimpArgs false
set_option maxHeartbeats 40000000
def core_sendAll_i1_l1 (N : Nat) (x_1 : Tcore) : Nat → Int → Int → Int → Int → Int → Int → Int → Int → Int → Int → Int → (List Message) → Option (Int × Int × Int × Int × Int × Int × Int × Int × Int × Int × (List Message))
 | 0, _, _, _, _, _, _, _, _, _, _, _, _ => none
 | m + 1, x_170, x_171, x_172, x_173, x_174, x_175, x_176, x_177, x_178, x_179, x_180, x_185 =>
 (if (decide (x_170 < ((x_1.n.Peers.length : Nat) : Int))) = true then
 (core_send N (Tcore.mk (Node.mk x_171 x_172 x_173 x_174 x_175 x_1.n.Conf (Log.mk x_176 x_177 x_1.n.Log.Entries) x_178 x_179 x_180 x_1.n.Votes x_1.n.Peers) x_185) x_170).bind fun y_195 =>
 core_sendAll_i1_l1 N x_1 m (w64 (x_170 + (1 : Int))) y_195.n.Id y_195.n.Term y_195.n.Vote y_195.n.Role y_195.n.Lead y_195.n.Log.Start y_195.n.Log.StartTerm y_195.n.Commit y_195.n.Clock y_195.n.Limit y_195.out
 else
 some (x_171, x_172, x_173, x_174, x_175, x_176, x_177, x_178, x_179, x_180, x_185))
def core_sendAll_i1 (N : Nat) (x_1 : Tcore) : Option (Tcore) :=
 (core_sendAll_i1_l1 N x_1 N (0 : Int) x_1.n.Id x_1.n.Term x_1.n.Vote x_1.n.Role x_1.n.Lead x_1.n.Log.Start x_1.n.Log.StartTerm x_1.n.Commit x_1.n.Clock x_1.n.Limit x_1.out).bind (fun (v_190 : Int × Int × Int × Int × Int × Int × Int × Int × Int × Int × (List Message)) => some (Tcore.mk (Node.mk v_190.1 v_190.2.1 v_190.2.2.1 v_190.2.2.2.1 v_190.2.2.2.2.1 x_1.n.Conf (Log.mk v_190.2.2.2.2.2.1 v_190.2.2.2.2.2.2.1 x_1.n.Log.Entries) v_190.2.2.2.2.2.2.2.1 v_190.2.2.2.2.2.2.2.2.1 v_190.2.2.2.2.2.2.2.2.2.1 x_1.n.Votes x_1.n.Peers) v_190.2.2.2.2.2.2.2.2.2.2))
theorem sem_core_sendAll_i1 (N : Nat) (x_1 : Tcore) (r : Tcore) (h : core_sendAll_i1 N x_1 = some r) : Says Try.prog 99 [.ptr 0 0] 6 [(0, .box [VI x_1.n.Id, VI x_1.n.Term, VI x_1.n.Vote, VI x_1.n.Role, VI x_1.n.Lead, .sl 1 3 0 x_1.n.Conf.length, VI x_1.n.Log.Start, VI x_1.n.Log.StartTerm, .sl 2 51 0 x_1.n.Log.Entries.length, VI x_1.n.Commit, VI x_1.n.Clock, VI x_1.n.Limit, .sl 3 3 0 x_1.n.Votes.length, .sl 4 135 0 x_1.n.Peers.length, .sl 5 58 0 x_1.out.length]), (1, .vec 3 (x_1.n.Conf.map encI)), (2, .vec 51 (x_1.n.Log.Entries.map encEntry)), (3, .vec 3 (x_1.n.Votes.map encI)), (4, .vec 135 (x_1.n.Peers.map encPeer)), (5, .vec 58 (x_1.out.map (encMessage true)))] (.tup []) [(0, .box [VI r.n.Id, VI r.n.Term, VI r.n.Vote, VI r.n.Role, VI r.n.Lead, .sl 6 3 0 r.n.Conf.length, VI r.n.Log.Start, VI r.n.Log.StartTerm, .sl 7 51 0 r.n.Log.Entries.length, VI r.n.Commit, VI r.n.Clock, VI r.n.Limit, .sl 8 3 0 r.n.Votes.length, .sl 9 135 0 r.n.Peers.length, .sl 10 58 0 r.out.length]), (1, .gone), (2, .gone), (3, .gone), (4, .gone), (5, .gone), (6, .vec 3 (r.n.Conf.map encI)), (7, .vec 51 (r.n.Log.Entries.map encEntry)), (8, .vec 3 (r.n.Votes.map encI)), (9, .vec 135 (r.n.Peers.map encPeer)), (10, .vec 58 (r.out.map (encMessage true)))] := by
  unfold core_sendAll_i1 at h
  refine Says.of_run s99 Try.call99 rfl fun B hB => ?_
  have hm : B.m ≤ 1000 := by omega
  refine Run.seq (Run.ops hm (Ops.p rfl (Ops.p rfl (Ops.p rfl (Ops.p rfl (Ops.p rfl (Ops.p rfl (Ops.p rfl (Ops.nil (Run.block ?_))))))))))
  obtain ⟨res_190, h, hk_190⟩ := bindO h
  refine Run.loop (n := N) (fun m_190 fr σ => ∃ (x_170 : Int), ∃ (x_171 : Int), ∃ (x_172 : Int), ∃ (x_173 : Int), ∃ (x_174 : Int), ∃ (x_175 : Int), ∃ (x_176 : Int), ∃ (x_177 : Int), ∃ (x_178 : Int), ∃ (x_179 : Int), ∃ (x_180 : Int), ∃ (x_185 : (List Message)), core_sendAll_i1_l1 N x_1 m_190 x_170 x_171 x_172 x_173 x_174 x_175 x_176 x_177 x_178 x_179 x_180 x_185 = some res_190 ∧ fr = [(0, .ptr 0 0), (8, VI ((x_1.n.Peers.length : Nat) : Int)), (9, VI x_170)] ∧ σ = [(0, .box [VI x_171, VI x_172, VI x_173, VI x_174, VI x_175, .sl 6 3 0 x_1.n.Conf.length, VI x_176, VI x_177, .sl 7 51 0 x_1.n.Log.Entries.length, VI x_178, VI x_179, VI x_180, .sl 8 3 0 x_1.n.Votes.length, .sl 9 135 0 x_1.n.Peers.length, .sl 10 58 0 x_185.length]), (1, .gone), (2, .gone), (3, .gone), (4, .gone), (5, .gone), (6, .vec 3 (x_1.n.Conf.map encI)), (7, .vec 51 (x_1.n.Log.Entries.map encEntry)), (8, .vec 3 (x_1.n.Votes.map encI)), (9, .vec 135 (x_1.n.Peers.map encPeer)), (10, .vec 58 (x_185.map (encMessage true)))]) (Gh.trans (Gh.trans (gh_prn [0, 8, 9] [0, 1, 2, 3, 4, 5] hB rfl) (gh_mvE [0, 8, 9] [1, 2, 3, 4, 5] hB rfl rfl)) (gh_pk [0, 8, 9] [0, 1, 2, 3, 4, 5, 30000001, 30000002, 30000003, 30000004, 30000005] hB rfl rfl rfl rfl)) ⟨_, _, _, _, _, _, _, _, _, _, _, _, h, rfl, rfl⟩ ?_
  rintro m_190 fr σ ⟨x_170, x_171, x_172, x_173, x_174, x_175, x_176, x_177, x_178, x_179, x_180, x_185, h, rfl, rfl⟩
  obtain _ | m_190 := m_190
  · rw [core_sendAll_i1_l1] at h; cases h
  rw [core_sendAll_i1_l1] at h
  refine Run.seq (Run.ops hm (Ops.p rfl (Ops.nil (Run.seq (Run.condO rfl h (fun g_193 h => ?_) (fun g_193 h => ?_))))))
  · refine Run.skip (Run.seq (Run.block (Run.seq (Run.ops hm (Ops.p rfl (Ops.p rfl (Ops.nil (Run.ops hm (Ops.p rfl (Ops.p rfl ?_))))))))))
    obtain ⟨y_195, hy_195, h⟩ := bindO h
    exact Ops.st (s := 13320) (Ev.call [0, 6, 7, 8, 9, 10] [] 1 (sem_core_send N (Tcore.mk (Node.mk x_171 x_172 x_173 x_174 x_175 x_1.n.Conf (Log.mk x_176 x_177 x_1.n.Log.Entries) x_178 x_179 x_180 x_1.n.Votes x_1.n.Peers) x_185) x_170 _ hy_195) rfl rfl (.cons (.ptr rfl) (.cons (.c _) .nil)) rfl (.inl rfl) rfl rfl) rfl rfl (Ops.nil (Run.ops hm (Ops.p rfl (Ops.p rfl (Ops.nil (⟨m_190, Nat.lt_succ_self m_190, _, _, (gh_pk [0, 8, 9] [0, 1, 2, 3, 4, 5, 6, 7, 8, 9, 13320] hB rfl rfl rfl rfl), _, _, _, _, _, _, _, _, _, _, _, _, h, rfl, rfl⟩))))))
  · refine Run.exit ?_
    obtain rfl := someO h
    have h := hk_190
    obtain rfl := someO h
    exact Ends.mkG (.inr rfl) rfl (gh_pk [] [0, 1, 2, 3, 4, 5, 6, 7, 8, 9, 10] hB rfl rfl rfl rfl) rfl rfl
def core_lead_l1 (N : Nat) (y_263 : Int) (y_349 : Nat × (List Int)) : Nat → Int → (List Peer) → Option ((List Peer))
 | 0, _, _ => none
 | m + 1, x_381, x_396 =>
 (if (decide (x_381 < ((y_349.1 : Nat) : Int))) = true then
 (at? (y_349.2.take y_349.1) x_381).bind fun x_413 =>
 (cat? x_396 ([(Peer.mk x_413 (w64 (y_263 + (1 : Int))) (0 : Int) (0 : Int))] : List Peer)).bind fun x_415 =>
 core_lead_l1 N y_263 y_349 m (w64 (x_381 + (1 : Int))) x_415
 else
 some x_396)
def core_lead (N : Nat) (x_1 : Tcore) : Option (Tcore) :=
 (impl_last N x_1.n.Log).bind fun y_263 =>
 joinP (fun (v_269 : (List Entry)) =>
 joinP (fun (v_345 : (List Peer)) =>
 (core_commit N (Tcore.mk (Node.mk x_1.n.Id x_1.n.Term x_1.n.Vote (2 : Int) x_1.n.Id x_1.n.Conf (Log.mk x_1.n.Log.Start x_1.n.Log.StartTerm v_269) x_1.n.Commit x_1.n.Clock x_1.n.Limit ([] : (List Int)) v_345) ([] : (List Message)))).bind fun y_417 =>
 (core_sendAll_i1 N y_417).bind fun y_419 =>
 some y_419) fun j_345 =>
 (impl_othersOf N (Node.mk x_1.n.Id x_1.n.Term x_1.n.Vote (2 : Int) x_1.n.Id x_1.n.Conf (Log.mk x_1.n.Log.Start x_1.n.Log.StartTerm v_269) x_1.n.Commit x_1.n.Clock x_1.n.Limit ([]) ([]))).bind fun y_349 =>
 (core_lead_l1 N y_263 y_349 N (0 : Int) ([] : (List Peer))).bind (fun (v_406 : (List Peer)) => j_345 v_406)) fun j_269 =>
 (if (decide (((x_1.n.Log.Entries.length : Nat) : Int) < (120 : Int))) = true then
 (if (decide ((w64 (y_263 + (1 : Int))) ≤ (100000 : Int))) = true then
 (cat? x_1.n.Log.Entries ([(Entry.mk x_1.n.Term (1 : Int) (⟨#[]⟩ : ByteArray))] : List Entry)).bind fun x_274 =>
 j_269 x_274
 else
 j_269 x_1.n.Log.Entries)
 else
 j_269 x_1.n.Log.Entries)
theorem sem_core_lead (N : Nat) (x_1 : Tcore) (r : Tcore) (h : core_lead N x_1 = some r) : Says Try.prog 119 [.ptr 0 0] 5 [(0, .box [VI x_1.n.Id, VI x_1.n.Term, VI x_1.n.Vote, VI x_1.n.Role, VI x_1.n.Lead, .sl 1 3 0 x_1.n.Conf.length, VI x_1.n.Log.Start, VI x_1.n.Log.StartTerm, .sl 2 51 0 x_1.n.Log.Entries.length, VI x_1.n.Commit, VI x_1.n.Clock, VI x_1.n.Limit, .sl 3 3 0 x_1.n.Votes.length, .sl 4 135 0 x_1.n.Peers.length, NI 58]), (1, .vec 3 (x_1.n.Conf.map encI)), (2, .vec 51 (x_1.n.Log.Entries.map encEntry)), (3, .vec 3 (x_1.n.Votes.map encI)), (4, .vec 135 (x_1.n.Peers.map encPeer))] (.tup []) [(0, .box [VI r.n.Id, VI r.n.Term, VI r.n.Vote, VI r.n.Role, VI r.n.Lead, .sl 5 3 0 r.n.Conf.length, VI r.n.Log.Start, VI r.n.Log.StartTerm, .sl 6 51 0 r.n.Log.Entries.length, VI r.n.Commit, VI r.n.Clock, VI r.n.Limit, .sl 7 3 0 r.n.Votes.length, .sl 8 135 0 r.n.Peers.length, .sl 9 58 0 r.out.length]), (1, .gone), (2, .gone), (3, .gone), (4, .gone), (5, .vec 3 (r.n.Conf.map encI)), (6, .vec 51 (r.n.Log.Entries.map encEntry)), (7, .vec 3 (r.n.Votes.map encI)), (8, .vec 135 (r.n.Peers.map encPeer)), (9, .vec 58 (r.out.map (encMessage true)))] := by
  unfold core_lead at h
  refine Says.of_run s119 Try.call119 rfl fun B hB => ?_
  have hm : B.m ≤ 1000 := by omega
  refine Run.seq (Run.ops hm (Ops.p rfl (Ops.p rfl (Ops.p rfl (Ops.p rfl (Ops.nil (Run.seq (Run.ops hm (Ops.p rfl (Ops.p rfl (Ops.p rfl (Ops.p rfl (Ops.p rfl (Ops.p rfl (Ops.p rfl (Ops.p rfl (Ops.p rfl (Ops.s0 (s := 5240) (.sto rfl rfl rfl rfl rfl rfl) rfl rfl (Ops.p rfl (Ops.p rfl (Ops.s0 (s := 5288) (.sto rfl rfl rfl rfl rfl rfl) rfl rfl (Ops.p rfl (Ops.p rfl (Ops.s0 (s := 5336) (.sto rfl rfl rfl rfl rfl rfl) rfl rfl (Ops.nil (Run.seq (Run.ops hm (Ops.p rfl (Ops.p rfl (Ops.p rfl (Ops.p rfl ?_)))))))))))))))))))))))))))))))
  obtain ⟨y_263, hy_263, h⟩ := bindO h
  refine Ops.st (s := 9256) (Ev.call [] [2] 0 (sem_impl_last N x_1.n.Log _ hy_263) rfl rfl (.cons (.agg (.cons (.c _) (.cons (.c _) (.cons (.borrow rfl (by decide) (lendW (fun _ => rfl) _ rfl)) .nil)))) .nil) rfl (.inr ⟨rfl, ownL_root trivial⟩) rfl rfl) rfl rfl ?_
  refine Ops.p rfl (Ops.nil (Run.seqO h (fun (v_269 : (List Entry)) => [(0, .ptr 0 0), (2, .ptr 0 0), (3, VI y_263)]) (fun (v_269 : (List Entry)) => [(0, .box [VI x_1.n.Id, VI x_1.n.Term, VI x_1.n.Vote, VI (2 : Int), VI x_1.n.Id, .sl 5 3 0 x_1.n.Conf.length, VI x_1.n.Log.Start, VI x_1.n.Log.StartTerm, .sl 6 51 0 v_269.length, VI x_1.n.Commit, VI x_1.n.Clock, VI x_1.n.Limit, .sl 7 3 0 (([] : List Int).length), .sl 8 135 0 x_1.n.Peers.length, .sl 9 58 0 (([] : List Message).length)]), (1, .gone), (2, .gone), (3, .gone), (4, .gone), (5, .vec 3 (x_1.n.Conf.map encI)), (6, .vec 51 (v_269.map encEntry)), (7, .vec 3 (([] : List Int).map encI)), (8, .vec 135 (x_1.n.Peers.map encPeer)), (9, .vec 58 (([] : List Message).map (encMessage true)))]) (fun h => ?_) (fun v_269 h => ?_)))
  · refine Run.seq (Run.ops hm (Ops.p rfl (Ops.p rfl (Ops.p rfl (Ops.p rfl (Ops.p rfl (Ops.p rfl (Ops.p rfl (Ops.p rfl (Ops.askO (x := .t 34) rfl h (fun g_271 h => ?_) (fun g_271 h => ?_)))))))))))
    · refine Ops.gp rfl g_271 rfl (Ops.gp rfl g_271 rfl (Ops.gp rfl g_271 rfl (Ops.st (s := 13464) (.pkT rfl g_271 rfl) rfl rfl (Ops.nil (Run.condO rfl h (fun g_272 h => ?_) (fun g_272 h => ?_))))))
      · refine Run.draw hm hmix (OpsD.p rfl (OpsD.p rfl (OpsD.p rfl (OpsD.p rfl (OpsD.p rfl (OpsD.p rfl (OpsD.p rfl (OpsD.p rfl (OpsD.p rfl (OpsD.p rfl (OpsD.st (s := 17544) (.bd rfl rfl) rfl rfl (OpsD.st (s := 17560) (Ev.bsW (ys := ([(Entry.mk x_1.n.Term (1 : Int) (⟨#[]⟩ : ByteArray))] : List Entry)) (f := encEntry) rfl (.cons (.c _) (.cons (.c _) (.cons (.c _) .nil))) rfl rfl rfl rfl rfl) rfl rfl ?_))))))))))))
        obtain ⟨x_274, hx_274, h⟩ := bindO h
        refine OpsD.st (s := 17576) (Ev.apW (f := encEntry) (ontoW rfl rfl rfl) (addsW rfl rfl rfl (fun _ => rfl)) rfl bt51 rfl hx_274) rfl rfl (OpsD.p rfl (OpsD.p rfl (OpsD.p rfl (OpsD.s0 (s := 17640) (.sto rfl rfl rfl rfl rfl rfl) rfl rfl (OpsD.nil ⟨by kernel_rfl, ?_⟩)))))
        exact ⟨_, _, (Gh.trans (Gh.trans (Gh.trans (gh_prn [0, 2, 3] [0, 1, 2, 3, 4, 17576] hB rfl) (gh_mvE [0, 2, 3] [1, 3, 4] hB rfl rfl)) (gh_nil [] [0] hB rfl rfl rfl)) (gh_pk [0, 2, 3] [0, 1, 2, 3, 4, 30000001, 17576, 20000000, 30000004, 20000001] hB rfl rfl rfl rfl)), x_274, h, rfl, rfl⟩
      · exact Run.skip (⟨_, _, (Gh.trans (Gh.trans (Gh.trans (gh_prn [0, 2, 3] [0, 1, 2, 3, 4] hB rfl) (gh_mvE [0, 2, 3] [1, 2, 3, 4] hB rfl rfl)) (gh_nil [] [0] hB rfl rfl rfl)) (gh_pk [0, 2, 3] [0, 1, 2, 3, 4, 30000001, 30000002, 20000000, 30000004, 20000001] hB rfl rfl rfl rfl)), x_1.n.Log.Entries, h, rfl, rfl⟩)
    · exact Ops.gn rfl g_271 (Ops.gn rfl g_271 (Ops.gn rfl g_271 (Ops.st (s := 13464) (.pkF rfl g_271 rfl) rfl rfl (Ops.nil (Run.condF rfl rfl (Run.skip (⟨_, _, (Gh.trans (Gh.trans (Gh.trans (gh_prn [0, 2, 3] [0, 1, 2, 3, 4] hB rfl) (gh_mvE [0, 2, 3] [1, 2, 3, 4] hB rfl rfl)) (gh_nil [] [0] hB rfl rfl rfl)) (gh_pk [0, 2, 3] [0, 1, 2, 3, 4, 30000001, 30000002, 20000000, 30000004, 20000001] hB rfl rfl rfl rfl)), x_1.n.Log.Entries, h, rfl, rfl⟩)))))))
  · refine Run.seq (Run.ops hm (Ops.p rfl (Ops.p rfl (Ops.p rfl (Ops.s0 (s := 21528) (.sto rfl rfl rfl rfl rfl rfl) rfl rfl (Ops.nil (Run.seqO h (fun (v_345 : (List Peer)) => [(0, .ptr 0 0)]) (fun (v_345 : (List Peer)) => [(0, .box [VI x_1.n.Id, VI x_1.n.Term, VI x_1.n.Vote, VI (2 : Int), VI x_1.n.Id, .sl 5 3 0 x_1.n.Conf.length, VI x_1.n.Log.Start, VI x_1.n.Log.StartTerm, .sl 6 51 0 v_269.length, VI x_1.n.Commit, VI x_1.n.Clock, VI x_1.n.Limit, .sl 7 3 0 (([] : (List Int)).length), .sl 8 135 0 v_345.length, .sl 9 58 0 (([] : (List Message)).length)]), (1, .gone), (2, .gone), (3, .gone), (4, .gone), (5, .vec 3 (x_1.n.Conf.map encI)), (6, .vec 51 (v_269.map encEntry)), (7, .vec 3 (([] : (List Int)).map encI)), (8, .vec 135 (v_345.map encPeer)), (9, .vec 58 (([] : (List Message)).map (encMessage true)))]) (fun h => ?_) (fun v_345 h => ?_))))))))
    · refine Run.seq (Run.ops hm (Ops.p rfl (Ops.p rfl (Ops.p rfl ?_))))
      obtain ⟨y_349, hy_349, h⟩ := bindO h
      refine Ops.st (s := 25624) (Ev.call [] [5, 6, 7] 1 (sem_impl_othersOf N (Node.mk x_1.n.Id x_1.n.Term x_1.n.Vote (2 : Int) x_1.n.Id x_1.n.Conf (Log.mk x_1.n.Log.Start x_1.n.Log.StartTerm v_269) x_1.n.Commit x_1.n.Clock x_1.n.Limit ([]) ([])) _ hy_349) rfl rfl (.cons (.agg (.cons (.c _) (.cons (.c _) (.cons (.c _) (.cons (.c _) (.cons (.c _) (.cons (.borrow rfl (by decide) (lendW (fun _ => rfl) _ rfl)) (.cons (.c _) (.cons (.c _) (.cons (.borrow rfl (by decide) (lendW (fun _ => rfl) _ rfl)) (.cons (.c _) (.cons (.c _) (.cons (.c _) (.cons (.borrow rfl (by decide) (lendW (fun _ => rfl) _ rfl)) (.cons (.nil _ _) .nil))))))))))))))) .nil) rfl (.inr ⟨rfl, ownL_root ⟨own_rows (fun _ => rfl) _, trivial⟩⟩) rfl rfl) rfl rfl ?_
      refine Ops.p rfl (Ops.p rfl (Ops.nil (Run.block ?_)))
      obtain ⟨res_406, h, hk_406⟩ := bindO h
      refine Run.loop (n := N) (fun m_406 fr σ => ∃ (x_381 : Int), ∃ (x_396 : (List Peer)), core_lead_l1 N y_263 y_349 m_406 x_381 x_396 = some res_406 ∧ fr = [(0, .ptr 0 0), (2, .ptr 0 0), (3, VI y_263), (61, .sl 5 3 0 y_349.1), (62, VI ((y_349.1 : Nat) : Int)), (63, VI x_381)] ∧ σ = [(0, .box [VI x_1.n.Id, VI x_1.n.Term, VI x_1.n.Vote, VI (2 : Int), VI x_1.n.Id, .sl 6 3 0 x_1.n.Conf.length, VI x_1.n.Log.Start, VI x_1.n.Log.StartTerm, .sl 7 51 0 v_269.length, VI x_1.n.Commit, VI x_1.n.Clock, VI x_1.n.Limit, .sl 8 3 0 (([] : (List Int)).length), .sl 9 135 0 x_396.length, .sl 10 58 0 (([] : (List Message)).length)]), (1, .gone), (2, .gone), (3, .gone), (4, .gone), (5, .vec 3 (y_349.2.map encI)), (6, .vec 3 (x_1.n.Conf.map encI)), (7, .vec 51 (v_269.map encEntry)), (8, .vec 3 (([] : (List Int)).map encI)), (9, .vec 135 (x_396.map encPeer)), (10, .vec 58 (([] : (List Message)).map (encMessage true)))]) (Gh.trans (Gh.trans (gh_prn [0, 2, 3, 61, 62, 63] [0, 1, 2, 3, 4, 25624, 5, 6, 7, 9] hB rfl) (gh_nil [] [0] hB rfl rfl rfl)) (gh_pk [0, 2, 3, 61, 62, 63] [0, 1, 2, 3, 4, 25624, 5, 6, 7, 20000000, 9] hB rfl rfl rfl rfl)) ⟨_, _, h, rfl, rfl⟩ ?_
      rintro m_406 fr σ ⟨x_381, x_396, h, rfl, rfl⟩
      obtain _ | m_406 := m_406
      · rw [core_lead_l1] at h; cases h
      rw [core_lead_l1] at h
      refine Run.seq (Run.ops hm (Ops.p rfl (Ops.nil (Run.seq (Run.condO rfl h (fun g_409 h => ?_) (fun g_409 h => ?_))))))
      · refine Run.skip (Run.seq (Run.block (Run.seq (Run.ops hm ?_))))
        obtain ⟨x_413, hx_413, h⟩ := bindO h
        refine Ops.st (s := 33768) (Ev.iaP (xs := y_349.2) rfl rfl hx_413) rfl rfl (Ops.st (s := 33784) (Ev.ldE (f := encI) rfl rfl (at_part hx_413) rfl rfl rfl) rfl rfl (Ops.p rfl (Ops.nil (Run.ops hm (Ops.p rfl (Ops.p rfl (Ops.p rfl (Ops.p rfl (Ops.p rfl (Ops.p rfl (Ops.p rfl (Ops.p rfl (Ops.st (s := 37992) (.bd rfl rfl) rfl rfl (Ops.st (s := 38008) (Ev.bsW (ys := ([(Peer.mk x_413 (w64 (y_263 + (1 : Int))) (0 : Int) (0 : Int))] : List Peer)) (f := encPeer) rfl (.cons (.c _) (.cons (.c _) (.cons (.c _) (.cons (.c _) .nil)))) rfl rfl rfl rfl rfl) rfl rfl ?_))))))))))))))
        obtain ⟨x_415, hx_415, h⟩ := bindO h
        exact Ops.st (s := 38024) (Ev.apW (f := encPeer) (ontoW rfl rfl rfl) (addsW rfl rfl rfl (fun _ => rfl)) rfl bt135 rfl hx_415) rfl rfl (Ops.p rfl (Ops.p rfl (Ops.s0 (s := 38072) (.sto rfl rfl rfl rfl rfl rfl) rfl rfl (Ops.nil (Run.ops hm (Ops.p rfl (Ops.p rfl (Ops.nil (⟨m_406, Nat.lt_succ_self m_406, _, _, (gh_pk [0, 2, 3, 61, 62, 63] [0, 1, 2, 3, 4, 5, 6, 7, 8, 38024, 10] hB rfl rfl rfl rfl), _, _, h, rfl, rfl⟩)))))))))
      · refine Run.exit ?_
        obtain rfl := someO h
        have h := hk_406
        exact ⟨_, _, (gh_pk [0] [0, 1, 2, 3, 4, 6, 7, 8, 9, 10] hB rfl rfl rfl rfl), x_396, h, rfl, rfl⟩
    · refine Run.seq (Run.ops hm (Ops.p rfl ?_))
      obtain ⟨y_417, hy_417, h⟩ := bindO h
      refine Ops.st (s := 46072) (Ev.call [0, 5, 6, 7, 8, 9] [] 5 (sem_core_commit N (Tcore.mk (Node.mk x_1.n.Id x_1.n.Term x_1.n.Vote (2 : Int) x_1.n.Id x_1.n.Conf (Log.mk x_1.n.Log.Start x_1.n.Log.StartTerm v_269) x_1.n.Commit x_1.n.Clock x_1.n.Limit ([] : (List Int)) v_345) ([] : (List Message))) _ hy_417) rfl rfl (.cons (.ptr rfl) .nil) rfl (.inl rfl) rfl rfl) rfl rfl (Ops.nil (Run.ops hm (Ops.p rfl ?_)))
      obtain ⟨y_419, hy_419, h⟩ := bindO h
      refine Ops.st (s := 50168) (Ev.call [0, 46072, 46073, 46074, 46075, 46076] [] 5 (sem_core_sendAll_i1 N y_417 _ hy_419) rfl rfl (.cons (.ptr rfl) .nil) rfl (.inl rfl) rfl rfl) rfl rfl (Ops.nil ?_)
      obtain rfl := someO h
      exact Ends.mkG (.inr rfl) rfl (gh_pk [] [0, 1, 2, 3, 4, 50168, 50169, 50170, 50171, 50172] hB rfl rfl rfl rfl) rfl rfl
def core_tell_i2 (N : Nat) (x_1 : Tcore) (x_2 : Message) : Option (Tcore) :=
 (cat? x_1.out ([(Message.mk x_2.Kind x_1.n.Id x_2.To x_1.n.Term x_2.Index x_2.LogTerm x_2.Commit x_2.Ok ([]) ([]) x_2.Data x_2.Last)] : List Message)).bind fun x_103 =>
 some (Tcore.mk x_1.n x_103)
theorem sem_core_tell_i2 (N : Nat) (x_1 : Tcore) (x_2 : Message) (r : Tcore) (h : core_tell_i2 N x_1 x_2 = some r) : Says Try.prog 120 [.ptr 0 0, .agg [VI x_2.Kind, VI x_2.From, VI x_2.To, VI x_2.Term, VI x_2.Index, VI x_2.LogTerm, VI x_2.Commit, VB x_2.Ok, NI 51, NI 3, VS x_2.Data, VB x_2.Last]] 6 [(0, .box [VI x_1.n.Id, VI x_1.n.Term, VI x_1.n.Vote, VI x_1.n.Role, VI x_1.n.Lead, .sl 1 3 0 x_1.n.Conf.length, VI x_1.n.Log.Start, VI x_1.n.Log.StartTerm, .sl 2 51 0 x_1.n.Log.Entries.length, VI x_1.n.Commit, VI x_1.n.Clock, VI x_1.n.Limit, .sl 3 3 0 x_1.n.Votes.length, .sl 4 135 0 x_1.n.Peers.length, .sl 5 58 0 x_1.out.length]), (1, .vec 3 (x_1.n.Conf.map encI)), (2, .vec 51 (x_1.n.Log.Entries.map encEntry)), (3, .vec 3 (x_1.n.Votes.map encI)), (4, .vec 135 (x_1.n.Peers.map encPeer)), (5, .vec 58 (x_1.out.map (encMessage true)))] (.tup []) [(0, .box [VI r.n.Id, VI r.n.Term, VI r.n.Vote, VI r.n.Role, VI r.n.Lead, .sl 1 3 0 x_1.n.Conf.length, VI r.n.Log.Start, VI r.n.Log.StartTerm, .sl 2 51 0 x_1.n.Log.Entries.length, VI r.n.Commit, VI r.n.Clock, VI r.n.Limit, .sl 3 3 0 x_1.n.Votes.length, .sl 4 135 0 x_1.n.Peers.length, .sl 6 58 0 r.out.length]), (1, .vec 3 (x_1.n.Conf.map encI)), (2, .vec 51 (x_1.n.Log.Entries.map encEntry)), (3, .vec 3 (x_1.n.Votes.map encI)), (4, .vec 135 (x_1.n.Peers.map encPeer)), (5, .gone), (6, .vec 58 (r.out.map (encMessage true)))] := by
  unfold core_tell_i2 at h
  refine Says.of_run s120 Try.call120 rfl fun B hB => ?_
  have hm : B.m ≤ 1000 := by omega
  refine Run.seq (Run.ops hm (Ops.st (s := 1000) (.bx rfl rfl) rfl rfl (Ops.nil (Run.seq (Run.draw hm hmix (OpsD.p rfl (OpsD.p rfl (OpsD.p rfl (OpsD.p rfl (OpsD.p rfl (OpsD.p rfl (OpsD.p rfl (OpsD.p rfl (OpsD.p rfl (OpsD.p rfl (OpsD.p rfl (OpsD.s0 (s := 5272) (.sto rfl rfl rfl rfl rfl rfl) rfl rfl (OpsD.p rfl (OpsD.s0 (s := 5304) (.sto rfl rfl rfl rfl rfl rfl) rfl rfl (OpsD.nil ⟨by kernel_rfl, ?_⟩))))))))))))))))))))
  refine Run.draw hm hmix (OpsD.p rfl (OpsD.p rfl (OpsD.p rfl (OpsD.p rfl (OpsD.p rfl (OpsD.p rfl (OpsD.st (s := 9288) (Ev.bsW (ys := ([(Message.mk x_2.Kind x_1.n.Id x_2.To x_1.n.Term x_2.Index x_2.LogTerm x_2.Commit x_2.Ok ([]) ([]) x_2.Data x_2.Last)] : List Message)) (f := (encMessage true)) rfl (.cons (.c _) (.cons (.c _) (.cons (.c _) (.cons (.c _) (.cons (.c _) (.cons (.c _) (.cons (.c _) (.cons (.c _) (.cons (.c _) (.cons (.c _) (.cons (.c _) (.cons (.c _) .nil)))))))))))) rfl rfl rfl rfl rfl) rfl rfl ?_)))))))
  obtain ⟨x_103, hx_103, h⟩ := bindO h
  refine OpsD.st (s := 9304) (Ev.apW (f := (encMessage true)) (ontoW rfl rfl rfl) (addsO rfl rfl rfl) rfl bt58 rfl hx_103) rfl rfl (OpsD.p rfl (OpsD.p rfl (OpsD.s0 (s := 9352) (.sto rfl rfl rfl rfl rfl rfl) rfl rfl (OpsD.nil ⟨by kernel_rfl, ?_⟩))))
  obtain rfl := someO h
  exact Ends.mkG (.inr rfl) rfl (gh_pk [] [0, 1, 2, 3, 4, 5, 9304] hB rfl rfl rfl rfl) rfl rfl
def impl_Tick_l1 (N : Nat) (x_1 : Node) (y_380 : Node) (y_424 : Int × Int) (y_529 : Nat × (List Int)) : Nat → Int → Int → Int → Int → Int → Int → Int → Int → Int → Int → Int → (List Message) → Option (Int × Int × Int × Int × Int × Int × Int × Int × Int × Int × (List Message))
 | 0, _, _, _, _, _, _, _, _, _, _, _, _ => none
 | m + 1, x_577, x_588, x_589, x_590, x_591, x_592, x_593, x_594, x_595, x_596, x_597, x_607 =>
 (if (decide (x_577 < ((y_529.1 : Nat) : Int))) = true then
 (at? (y_529.2.take y_529.1) x_577).bind fun x_623 =>
 (core_tell_i2 N (Tcore.mk (Node.mk x_588 x_589 x_590 x_591 x_592 y_380.Conf (Log.mk x_593 x_594 y_380.Log.Entries) x_595 x_596 x_597 ([x_1.Id] : List Int) y_380.Peers) x_607) (Message.mk (1 : Int) (0 : Int) x_623 (0 : Int) y_424.1 y_424.2 (0 : Int) false ([]) ([]) (⟨#[]⟩ : ByteArray) false)).bind fun y_625 =>
 impl_Tick_l1 N x_1 y_380 y_424 y_529 m (w64 (x_577 + (1 : Int))) y_625.n.Id y_625.n.Term y_625.n.Vote y_625.n.Role y_625.n.Lead y_625.n.Log.Start y_625.n.Log.StartTerm y_625.n.Commit y_625.n.Clock y_625.n.Limit y_625.out
 else
 some (x_588, x_589, x_590, x_591, x_592, x_593, x_594, x_595, x_596, x_597, x_607))
def impl_Tick (N : Nat) (x_1 : Node) (x_2 : Int) : Option (Node × (List Message) × Bool) :=
 (impl_NodeOk N x_1).bind fun y_373 =>
 (if (!y_373) = true then
 some ((Node.mk (0 : Int) (0 : Int) (0 : Int) (0 : Int) (0 : Int) ([]) (Log.mk (0 : Int) (0 : Int) ([])) (0 : Int) (0 : Int) (0 : Int) ([]) ([])), [], false)
 else
 (impl_within N x_2 (1 : Int) (20 : Int)).bind fun y_375 =>
 (if (!y_375) = true then
 some ((Node.mk (0 : Int) (0 : Int) (0 : Int) (0 : Int) (0 : Int) ([]) (Log.mk (0 : Int) (0 : Int) ([])) (0 : Int) (0 : Int) (0 : Int) ([]) ([])), [], false)
 else
 (impl_copyNode N x_1).bind fun y_380 =>
 (if (x_1.Role == (2 : Int)) = true then
 (core_sendAll N (Tcore.mk y_380 ([]))).bind fun y_390 =>
 some ((Node.mk y_390.n.Id y_390.n.Term y_390.n.Vote y_390.n.Role y_390.n.Lead y_380.Conf (Log.mk y_390.n.Log.Start y_390.n.Log.StartTerm y_380.Log.Entries) y_390.n.Commit y_390.n.Clock y_390.n.Limit y_380.Votes y_380.Peers), y_390.out, true)
 else
 (if (decide ((w64 (y_380.Clock + (1 : Int))) < y_380.Limit)) = true then
 some ((Node.mk y_380.Id y_380.Term y_380.Vote y_380.Role y_380.Lead y_380.Conf y_380.Log y_380.Commit (w64 (y_380.Clock + (1 : Int))) y_380.Limit y_380.Votes y_380.Peers), [], true)
 else
 (impl_ConfOf N x_1).bind fun y_396 =>
 (slices_Contains_int N y_396 x_1.Id).bind fun y_404 =>
 (if (!y_404) = true then
 some ((Node.mk y_380.Id y_380.Term y_380.Vote y_380.Role y_380.Lead y_380.Conf y_380.Log y_380.Commit (0 : Int) x_2 y_380.Votes y_380.Peers), [], true)
 else
 (if (decide (x_1.Term ≥ (100000 : Int))) = true then
 some ((Node.mk y_380.Id y_380.Term y_380.Vote y_380.Role y_380.Lead y_380.Conf y_380.Log y_380.Commit (0 : Int) x_2 y_380.Votes y_380.Peers), [], true)
 else
 (impl_Most N y_396 ([x_1.Id] : List Int)).bind fun y_415 =>
 (if y_415 = true then
 (core_lead N (Tcore.mk (Node.mk y_380.Id (w64 (y_380.Term + (1 : Int))) x_1.Id (1 : Int) (0 : Int) y_380.Conf y_380.Log y_380.Commit (0 : Int) x_2 ([x_1.Id] : List Int) y_380.Peers) ([]))).bind fun y_420 =>
 some (y_420.n, y_420.out, true)
 else
 (impl_LogLast N y_380.Log).bind fun y_424 =>
 joinP (fun (v_525 : Int × Int × Int × Int × Int × Int × Int × Int × Int × Int × (List Message)) =>
 some ((Node.mk v_525.1 v_525.2.1 v_525.2.2.1 v_525.2.2.2.1 v_525.2.2.2.2.1 y_380.Conf (Log.mk v_525.2.2.2.2.2.1 v_525.2.2.2.2.2.2.1 y_380.Log.Entries) v_525.2.2.2.2.2.2.2.1 v_525.2.2.2.2.2.2.2.2.1 v_525.2.2.2.2.2.2.2.2.2.1 ([x_1.Id] : List Int) y_380.Peers), v_525.2.2.2.2.2.2.2.2.2.2, true)) fun j_525 =>
 (impl_othersOf N (Node.mk y_380.Id (w64 (y_380.Term + (1 : Int))) x_1.Id (1 : Int) (0 : Int) y_380.Conf y_380.Log y_380.Commit (0 : Int) x_2 ([x_1.Id] : List Int) y_380.Peers)).bind fun y_529 =>
 (impl_Tick_l1 N x_1 y_380 y_424 y_529 N (0 : Int) y_380.Id (w64 (y_380.Term + (1 : Int))) x_1.Id (1 : Int) (0 : Int) y_380.Log.Start y_380.Log.StartTerm y_380.Commit (0 : Int) x_2 ([] : (List Message))).bind (fun (v_616 : Int × Int × Int × Int × Int × Int × Int × Int × Int × Int × (List Message)) => j_525 (v_616.1, v_616.2.1, v_616.2.2.1, v_616.2.2.2.1, v_616.2.2.2.2.1, v_616.2.2.2.2.2.1, v_616.2.2.2.2.2.2.1, v_616.2.2.2.2.2.2.2.1, v_616.2.2.2.2.2.2.2.2.1, v_616.2.2.2.2.2.2.2.2.2.1, v_616.2.2.2.2.2.2.2.2.2.2)))))))))
theorem sem_impl_Tick (N : Nat) (x_1 : Node) (x_2 : Int) (r : Node × (List Message) × Bool) (h : impl_Tick N x_1 x_2 = some r) : Says Try.prog 38 [.agg [VI x_1.Id, VI x_1.Term, VI x_1.Vote, VI x_1.Role, VI x_1.Lead, RO 3 (x_1.Conf.map encI), VI x_1.Log.Start, VI x_1.Log.StartTerm, RO 51 (x_1.Log.Entries.map encEntry), VI x_1.Commit, VI x_1.Clock, VI x_1.Limit, RO 3 (x_1.Votes.map encI), RO 135 (x_1.Peers.map encPeer)], VI x_2] 0 [] (.tup [.agg [VI r.1.Id, VI r.1.Term, VI r.1.Vote, VI r.1.Role, VI r.1.Lead, .sl 0 3 0 r.1.Conf.length, VI r.1.Log.Start, VI r.1.Log.StartTerm, .sl 1 51 0 r.1.Log.Entries.length, VI r.1.Commit, VI r.1.Clock, VI r.1.Limit, .sl 2 3 0 r.1.Votes.length, .sl 3 135 0 r.1.Peers.length], .sl 4 58 0 r.2.1.length, VB r.2.2]) [(0, .vec 3 (r.1.Conf.map encI)), (1, .vec 51 (r.1.Log.Entries.map encEntry)), (2, .vec 3 (r.1.Votes.map encI)), (3, .vec 135 (r.1.Peers.map encPeer)), (4, .vec 58 (r.2.1.map (encMessage true)))] := by
  unfold impl_Tick at h
  refine Says.of_run s38 Try.call38 rfl fun B hB => ?_
  have hm : B.m ≤ 1000 := by omega
  refine Run.seq (Run.ops hm (Ops.st (s := 1000) (.bx rfl rfl) rfl rfl (Ops.st (s := 1016) (.al rfl rfl) rfl rfl (Ops.p rfl (Ops.p rfl (Ops.nil (Run.seq (Run.seq (Run.ops hm (Ops.p rfl ?_))))))))))
  obtain ⟨y_373, hy_373, h⟩ := bindO h
  refine Ops.st (s := 5112) (Ev.call [] [] 0 (sem_impl_NodeOk N x_1 _ hy_373) rfl rfl (.cons (.agg (.cons (.c _) (.cons (.c _) (.cons (.c _) (.cons (.c _) (.cons (.c _) (.cons (.c _) (.cons (.c _) (.cons (.c _) (.cons (.c _) (.cons (.c _) (.cons (.c _) (.cons (.c _) (.cons (.c _) (.cons (.c _) .nil))))))))))))))) .nil) rfl (.inl rfl) rfl rfl) rfl rfl (Ops.p rfl (Ops.p rfl (Ops.askO (x := .t 16) rfl h (fun g_374 h => ?_) (fun g_374 h => ?_))))
  · refine Ops.gn rfl g_374 (Ops.gn rfl g_374 (Ops.gn rfl g_374 (Ops.st (s := 5208) (.pkT rfl g_374 rfl) rfl rfl (Ops.nil (Run.condT rfl rfl (Run.seq (Run.ops hm (Ops.st (s := 9192) (.bd rfl rfl) rfl rfl (Ops.s0 (s := 9208) (.sto rfl rfl rfl rfl rfl rfl) rfl rfl (Ops.p rfl (Ops.p rfl (Ops.nil (Run.ret ?_)))))))))))))
    obtain rfl := someO h
    exact Ends.mkG (.inl rfl) rfl (Gh.trans (Gh.trans (gh_prn [0, 1, 2] [] hB rfl) (gh_nil [0, 1] [] hB rfl rfl rfl)) (gh_pk [0, 1, 2] [10000000, 10000001, 10000002, 10000003, 10000064] hB rfl rfl rfl rfl)) rfl rfl
  · refine Ops.gp rfl g_374 rfl ?_
    obtain ⟨y_375, hy_375, h⟩ := bindO h
    refine Ops.gs (s := 5176) rfl g_374 (Ev.call [] [] 0 (sem_impl_within N x_2 (1 : Int) (20 : Int) _ hy_375) rfl rfl (.cons (.c _) (.cons (.c _) (.cons (.c _) .nil))) rfl (.inl rfl) rfl rfl) rfl rfl (Ops.gp rfl g_374 rfl (Ops.st (s := 5208) (.pkF rfl g_374 rfl) rfl rfl (Ops.nil (Run.condO rfl h (fun g_376 h => ?_) (fun g_376 h => ?_)))))
    · refine Run.seq (Run.ops hm (Ops.st (s := 9192) (.bd rfl rfl) rfl rfl (Ops.s0 (s := 9208) (.sto rfl rfl rfl rfl rfl rfl) rfl rfl (Ops.p rfl (Ops.p rfl (Ops.nil (Run.ret ?_)))))))
      obtain rfl := someO h
      exact Ends.mkG (.inl rfl) rfl (Gh.trans (Gh.trans (gh_prn [0, 1, 2] [] hB rfl) (gh_nil [0, 1] [] hB rfl rfl rfl)) (gh_pk [0, 1, 2] [10000000, 10000001, 10000002, 10000003, 10000064] hB rfl rfl rfl rfl)) rfl rfl
    · refine Run.skip (Run.seq (Run.ops hm (Ops.p rfl ?_)))
      obtain ⟨y_380, hy_380, h⟩ := bindO h
      refine Ops.st (s := 13304) (Ev.call [] [] 4 (sem_impl_copyNode N x_1 _ hy_380) rfl rfl (.cons (.agg (.cons (.c _) (.cons (.c _) (.cons (.c _) (.cons (.c _) (.cons (.c _) (.cons (.c _) (.cons (.c _) (.cons (.c _) (.cons (.c _) (.cons (.c _) (.cons (.c _) (.cons (.c _) (.cons (.c _) (.cons (.c _) .nil))))))))))))))) .nil) rfl (.inl rfl) rfl rfl) rfl rfl (Ops.st (s := 13320) (.bd rfl rfl) rfl rfl (Ops.st (s := 13336) (.bx rfl rfl) rfl rfl (Ops.p rfl (Ops.nil (Run.seq (Run.seq (Run.ops hm (Ops.p rfl (Ops.p rfl (Ops.p rfl (Ops.nil (Run.condO rfl h (fun g_386 h => ?_) (fun g_386 h => ?_)))))))))))))
      · refine Run.seq (Run.ops hm (Ops.p rfl ?_))
        obtain ⟨y_390, hy_390, h⟩ := bindO h
        refine Ops.st (s := 21496) (Ev.call [13336, 13304, 13305, 13306, 13307] [] 1 (sem_core_sendAll N (Tcore.mk y_380 ([])) _ hy_390) rfl rfl (.cons (.ptr rfl) .nil) rfl (.inl rfl) rfl rfl) rfl rfl (Ops.nil (Run.seq (Run.draw hm hmix (OpsD.p rfl (OpsD.p rfl (OpsD.p rfl (OpsD.p rfl (OpsD.p rfl (OpsD.p rfl (OpsD.p rfl (OpsD.p rfl (OpsD.s0 (s := 25704) (.sto rfl rfl rfl rfl rfl rfl) rfl rfl (OpsD.p rfl (OpsD.p rfl (OpsD.nil ⟨by kernel_rfl, ?_⟩)))))))))))))))
        refine Run.ret ?_
        obtain rfl := someO h
        exact Ends.mkG (.inl rfl) rfl (gh_pk [0, 1, 2] [13304, 13305, 13306, 13307, 21496] hB rfl rfl rfl rfl) rfl rfl
      · refine Run.skip (Run.seq (Run.ops hm (Ops.p rfl (Ops.p rfl (Ops.p rfl (Ops.p rfl (Ops.p rfl (Ops.p rfl (Ops.p rfl (Ops.p rfl (Ops.p rfl (Ops.s0 (s := 29816) (.sto rfl rfl rfl rfl rfl rfl) rfl rfl (Ops.nil (Run.seq (Run.seq (Run.draw hm hmix (OpsD.p rfl (OpsD.p rfl (OpsD.p rfl (OpsD.p rfl (OpsD.p rfl (OpsD.p rfl (OpsD.p rfl (OpsD.p rfl (OpsD.p rfl (OpsD.p rfl (OpsD.p rfl (OpsD.nil ⟨by kernel_rfl, ?_⟩))))))))))))))))))))))))))))
        refine Run.condO rfl h (fun g_392 h => ?_) (fun g_392 h => ?_)
        · refine Run.seq (Run.ops hm (Ops.p rfl (Ops.p rfl (Ops.p rfl (Ops.p rfl (Ops.s0 (s := 37928) (.sto rfl rfl rfl rfl rfl rfl) rfl rfl (Ops.p rfl (Ops.p rfl (Ops.nil (Run.ret ?_))))))))))
          obtain rfl := someO h
          exact Ends.mkG (.inl rfl) rfl (Gh.trans (Gh.trans (gh_prn [0, 1, 2] [13304, 13305, 13306, 13307] hB rfl) (gh_nil [1] [] hB rfl rfl rfl)) (gh_pk [0, 1, 2] [13304, 13305, 13306, 13307, 10000000] hB rfl rfl rfl rfl)) rfl rfl
        · refine Run.skip (Run.seq (Run.ops hm (Ops.p rfl (Ops.p rfl (Ops.p rfl (Ops.p rfl (Ops.p rfl (Ops.p rfl (Ops.s0 (s := 42056) (.sto rfl rfl rfl rfl rfl rfl) rfl rfl (Ops.p rfl (Ops.p rfl (Ops.p rfl (Ops.s0 (s := 42120) (.sto rfl rfl rfl rfl rfl rfl) rfl rfl (Ops.nil (Run.seq (Run.ops hm (Ops.p rfl ?_)))))))))))))))))
          obtain ⟨y_396, hy_396, h⟩ := bindO h
          refine Ops.st (s := 46072) (Ev.call [] [] 1 (sem_impl_ConfOf N x_1 _ hy_396) rfl rfl (.cons (.agg (.cons (.c _) (.cons (.c _) (.cons (.c _) (.cons (.c _) (.cons (.c _) (.cons (.c _) (.cons (.c _) (.cons (.c _) (.cons (.c _) (.cons (.c _) (.cons (.c _) (.cons (.c _) (.cons (.c _) (.cons (.c _) .nil))))))))))))))) .nil) rfl (.inl rfl) rfl rfl) rfl rfl (Ops.p rfl (Ops.nil (Run.seq (Run.seq (Run.ops hm (Ops.p rfl (Ops.p rfl (Ops.p rfl ?_))))))))
          obtain ⟨y_404, hy_404, h⟩ := bindO h
          refine Ops.st (s := 50200) (Ev.call [] [46072] 0 (sem_slices_Contains_int N y_396 x_1.Id _ hy_404) rfl rfl (.cons (.borrow rfl (by decide) (lendW (fun _ => rfl) _ rfl)) (.cons (.c _) .nil)) rfl (.inr ⟨rfl, ownL_root trivial⟩) rfl rfl) rfl rfl ?_
          refine Ops.p rfl (Ops.p rfl (Ops.askO (x := .t 79) rfl h (fun g_405 h => ?_) (fun g_405 h => ?_)))
          · refine Ops.gn rfl g_405 (Ops.gn rfl g_405 (Ops.gn rfl g_405 (Ops.st (s := 50296) (.pkT rfl g_405 rfl) rfl rfl (Ops.nil (Run.condT rfl rfl (Run.seq (Run.ops hm (Ops.p rfl (Ops.p rfl (Ops.p rfl (Ops.p rfl (Ops.s0 (s := 54312) (.sto rfl rfl rfl rfl rfl rfl) rfl rfl (Ops.p rfl (Ops.p rfl (Ops.nil (Run.ret ?_))))))))))))))))
            obtain rfl := someO h
            exact Ends.mkG (.inl rfl) rfl (Gh.trans (Gh.trans (gh_prn [0, 1, 2] [13304, 13305, 13306, 13307] hB rfl) (gh_nil [1] [] hB rfl rfl rfl)) (gh_pk [0, 1, 2] [13304, 13305, 13306, 13307, 10000000] hB rfl rfl rfl rfl)) rfl rfl
          · refine Ops.gp rfl g_405 rfl (Ops.gp rfl g_405 rfl (Ops.gp rfl g_405 rfl (Ops.st (s := 50296) (.pkF rfl g_405 rfl) rfl rfl (Ops.nil (Run.condO rfl h (fun g_406 h => ?_) (fun g_406 h => ?_))))))
            · refine Run.seq (Run.ops hm (Ops.p rfl (Ops.p rfl (Ops.p rfl (Ops.p rfl (Ops.s0 (s := 54312) (.sto rfl rfl rfl rfl rfl rfl) rfl rfl (Ops.p rfl (Ops.p rfl (Ops.nil (Run.ret ?_))))))))))
              obtain rfl := someO h
              exact Ends.mkG (.inl rfl) rfl (Gh.trans (Gh.trans (gh_prn [0, 1, 2] [13304, 13305, 13306, 13307] hB rfl) (gh_nil [1] [] hB rfl rfl rfl)) (gh_pk [0, 1, 2] [13304, 13305, 13306, 13307, 10000000] hB rfl rfl rfl rfl)) rfl rfl
            · refine Run.skip (Run.seq (Run.ops hm (Ops.p rfl (Ops.p rfl (Ops.p rfl (Ops.p rfl (Ops.p rfl (Ops.p rfl (Ops.p rfl (Ops.p rfl (Ops.p rfl (Ops.s0 (s := 58488) (.sto rfl rfl rfl rfl rfl rfl) rfl rfl (Ops.nil (Run.seq (Run.draw hm hmix (OpsD.p rfl (OpsD.p rfl (OpsD.p rfl (OpsD.p rfl (OpsD.p rfl (OpsD.p rfl (OpsD.p rfl (OpsD.p rfl (OpsD.st (s := 62568) (Ev.bsW (ys := ([x_1.Id] : List Int)) (f := encI) rfl (.cons (.c _) .nil) rfl rfl rfl rfl rfl) rfl rfl (OpsD.p rfl (OpsD.p rfl (OpsD.p rfl (OpsD.s0 (s := 62632) (.sto rfl rfl rfl rfl rfl rfl) rfl rfl (OpsD.p rfl (OpsD.p rfl (OpsD.p rfl (OpsD.s0 (s := 62696) (.sto rfl rfl rfl rfl rfl rfl) rfl rfl (OpsD.p rfl (OpsD.p rfl (OpsD.p rfl (OpsD.s0 (s := 62760) (.sto rfl rfl rfl rfl rfl rfl) rfl rfl (OpsD.p rfl (OpsD.p rfl (OpsD.p rfl (OpsD.s0 (s := 62824) (.sto rfl rfl rfl rfl rfl rfl) rfl rfl (OpsD.nil ⟨by kernel_rfl, ?_⟩)))))))))))))))))))))))))))))))))))))))))
              refine Run.seq (Run.seq (Run.ops hm (Ops.p rfl (Ops.p rfl (Ops.p rfl (Ops.p rfl (Ops.p rfl (Ops.p rfl ?_))))))))
              obtain ⟨y_415, hy_415, h⟩ := bindO h
              refine Ops.st (s := 66632) (Ev.call [] [46072, 62568] 0 (sem_impl_Most N y_396 ([x_1.Id] : List Int) _ hy_415) rfl rfl (.cons (.borrow rfl (by decide) (lendW (fun _ => rfl) _ rfl)) (.cons (.borrow rfl (by decide) (lendW (fun _ => rfl) _ rfl)) .nil)) rfl (.inr ⟨rfl, ownL_root trivial⟩) rfl rfl) rfl rfl ?_
              refine Ops.nil (Run.condO rfl h (fun g_416 h => ?_) (fun g_416 h => ?_))
              · refine Run.seq (Run.ops hm (Ops.p rfl ?_))
                obtain ⟨y_420, hy_420, h⟩ := bindO h
                refine Ops.st (s := 70648) (Ev.call [13336, 13304, 13305, 62568, 13307] [] 5 (sem_core_lead N (Tcore.mk (Node.mk y_380.Id (w64 (y_380.Term + (1 : Int))) x_1.Id (1 : Int) (0 : Int) y_380.Conf y_380.Log y_380.Commit (0 : Int) x_2 ([x_1.Id] : List Int) y_380.Peers) ([])) _ hy_420) rfl rfl (.cons (.ptr rfl) .nil) rfl (.inl rfl) rfl rfl) rfl rfl (Ops.nil (Run.seq (Run.draw hm hmix (OpsD.p rfl (OpsD.p rfl (OpsD.p rfl (OpsD.p rfl (OpsD.p rfl (OpsD.p rfl (OpsD.p rfl (OpsD.p rfl (OpsD.s0 (s := 74856) (.sto rfl rfl rfl rfl rfl rfl) rfl rfl (OpsD.p rfl (OpsD.p rfl (OpsD.nil ⟨by kernel_rfl, ?_⟩)))))))))))))))
                refine Run.ret ?_
                obtain rfl := someO h
                exact Ends.mkG (.inl rfl) rfl (gh_pk [0, 1, 2] [70648, 70649, 70650, 70651, 70652] hB rfl rfl rfl rfl) rfl rfl
              · refine Run.skip (Run.seq (Run.ops hm (Ops.p rfl (Ops.p rfl (Ops.p rfl (Ops.p rfl (Ops.p rfl ?_)))))))
                obtain ⟨y_424, hy_424, h⟩ := bindO h
                refine Ops.st (s := 78904) (Ev.call [] [13305] 0 (sem_impl_LogLast N y_380.Log _ hy_424) rfl rfl (.cons (.agg (.cons (.c _) (.cons (.c _) (.cons (.borrow rfl (by decide) (lendW (fun _ => rfl) _ rfl)) .nil)))) .nil) rfl (.inr ⟨rfl, ownL_root trivial⟩) rfl rfl) rfl rfl ?_
                refine Ops.p rfl (Ops.p rfl (Ops.p rfl (Ops.p rfl (Ops.p rfl (Ops.nil (Run.seqO h (fun (v_525 : Int × Int × Int × Int × Int × Int × Int × Int × Int × Int × (List Message)) => [(4, .ptr 0 0), (7, .ptr 1 0)]) (fun (v_525 : Int × Int × Int × Int × Int × Int × Int × Int × Int × Int × (List Message)) => [(0, .box [VI (0 : Int), VI (0 : Int), VI (0 : Int), VI (0 : Int), VI (0 : Int), .sl 2 3 0 (([] : (List Int)).length), VI (0 : Int), VI (0 : Int), .sl 3 51 0 (([] : (List Entry)).length), VI (0 : Int), VI (0 : Int), VI (0 : Int), .sl 4 3 0 (([] : (List Int)).length), .sl 5 135 0 (([] : (List Peer)).length)]), (1, .box [VI v_525.1, VI v_525.2.1, VI v_525.2.2.1, VI v_525.2.2.2.1, VI v_525.2.2.2.2.1, .sl 6 3 0 y_380.Conf.length, VI v_525.2.2.2.2.2.1, VI v_525.2.2.2.2.2.2.1, .sl 7 51 0 y_380.Log.Entries.length, VI v_525.2.2.2.2.2.2.2.1, VI v_525.2.2.2.2.2.2.2.2.1, VI v_525.2.2.2.2.2.2.2.2.2.1, .sl 8 3 0 (([x_1.Id] : List Int).length), .sl 9 135 0 y_380.Peers.length, .sl 10 58 0 v_525.2.2.2.2.2.2.2.2.2.2.length]), (2, .vec 3 (([] : (List Int)).map encI)), (3, .vec 51 (([] : (List Entry)).map encEntry)), (4, .vec 3 (([] : (List Int)).map encI)), (5, .vec 135 (([] : (List Peer)).map encPeer)), (6, .vec 3 (y_380.Conf.map encI)), (7, .vec 51 (y_380.Log.Entries.map encEntry)), (8, .vec 3 (([x_1.Id] : List Int).map encI)), (9, .vec 135 (y_380.Peers.map encPeer)), (10, .vec 58 (v_525.2.2.2.2.2.2.2.2.2.2.map (encMessage true)))]) (fun h => ?_) (fun v_525 h => ?_)))))))
                · refine Run.seq (Run.ops hm (Ops.p rfl (Ops.p rfl (Ops.p rfl (Ops.p rfl ?_)))))
                  obtain ⟨y_529, hy_529, h⟩ := bindO h
                  refine Ops.st (s := 82984) (Ev.call [] [13304, 13305, 62568, 13307] 1 (sem_impl_othersOf N (Node.mk y_380.Id (w64 (y_380.Term + (1 : Int))) x_1.Id (1 : Int) (0 : Int) y_380.Conf y_380.Log y_380.Commit (0 : Int) x_2 ([x_1.Id] : List Int) y_380.Peers) _ hy_529) rfl rfl (.cons (.agg (.cons (.c _) (.cons (.c _) (.cons (.c _) (.cons (.c _) (.cons (.c _) (.cons (.borrow rfl (by decide) (lendW (fun _ => rfl) _ rfl)) (.cons (.c _) (.cons (.c _) (.cons (.borrow rfl (by decide) (lendW (fun _ => rfl) _ rfl)) (.cons (.c _) (.cons (.c _) (.cons (.c _) (.cons (.borrow rfl (by decide) (lendW (fun _ => rfl) _ rfl)) (.cons (.borrow rfl (by decide) (lendW (fun _ => rfl) _ rfl)) .nil))))))))))))))) .nil) rfl (.inr ⟨rfl, ownL_root ⟨own_rows (fun _ => rfl) _, trivial⟩⟩) rfl rfl) rfl rfl ?_
                  refine Ops.p rfl (Ops.p rfl (Ops.nil (Run.block ?_)))
                  obtain ⟨res_616, h, hk_616⟩ := bindO h
                  refine Run.loop (n := N) (fun m_616 fr σ => ∃ (x_577 : Int), ∃ (x_588 : Int), ∃ (x_589 : Int), ∃ (x_590 : Int), ∃ (x_591 : Int), ∃ (x_592 : Int), ∃ (x_593 : Int), ∃ (x_594 : Int), ∃ (x_595 : Int), ∃ (x_596 : Int), ∃ (x_597 : Int), ∃ (x_607 : (List Message)), impl_Tick_l1 N x_1 y_380 y_424 y_529 m_616 x_577 x_588 x_589 x_590 x_591 x_592 x_593 x_594 x_595 x_596 x_597 x_607 = some res_616 ∧ fr = [(4, .ptr 0 0), (7, .ptr 1 0), (9, VI y_424.1), (10, VI y_424.2), (148, .sl 2 3 0 y_529.1), (149, VI ((y_529.1 : Nat) : Int)), (150, VI x_577)] ∧ σ = [(0, .box [VI (0 : Int), VI (0 : Int), VI (0 : Int), VI (0 : Int), VI (0 : Int), .sl 3 3 0 (([] : (List Int)).length), VI (0 : Int), VI (0 : Int), .sl 4 51 0 (([] : (List Entry)).length), VI (0 : Int), VI (0 : Int), VI (0 : Int), .sl 5 3 0 (([] : (List Int)).length), .sl 6 135 0 (([] : (List Peer)).length)]), (1, .box [VI x_588, VI x_589, VI x_590, VI x_591, VI x_592, .sl 7 3 0 y_380.Conf.length, VI x_593, VI x_594, .sl 8 51 0 y_380.Log.Entries.length, VI x_595, VI x_596, VI x_597, .sl 9 3 0 (([x_1.Id] : List Int).length), .sl 10 135 0 y_380.Peers.length, .sl 11 58 0 x_607.length]), (2, .vec 3 (y_529.2.map encI)), (3, .vec 3 (([] : (List Int)).map encI)), (4, .vec 51 (([] : (List Entry)).map encEntry)), (5, .vec 3 (([] : (List Int)).map encI)), (6, .vec 135 (([] : (List Peer)).map encPeer)), (7, .vec 3 (y_380.Conf.map encI)), (8, .vec 51 (y_380.Log.Entries.map encEntry)), (9, .vec 3 (([x_1.Id] : List Int).map encI)), (10, .vec 135 (y_380.Peers.map encPeer)), (11, .vec 58 (x_607.map (encMessage true)))]) (Gh.trans (Gh.trans (gh_prn [4, 7, 9, 10, 148, 149, 150] [1016, 13336, 82984, 13304, 13305, 62568, 13307] hB rfl) (gh_nil [] [1016, 13336] hB rfl rfl rfl)) (gh_pk [4, 7, 9, 10, 148, 149, 150] [1016, 13336, 82984, 20000000, 20000001, 20000002, 20000003, 13304, 13305, 62568, 13307, 20000064] hB rfl rfl rfl rfl)) ⟨_, _, _, _, _, _, _, _, _, _, _, _, h, rfl, rfl⟩ ?_
                  rintro m_616 fr σ ⟨x_577, x_588, x_589, x_590, x_591, x_592, x_593, x_594, x_595, x_596, x_597, x_607, h, rfl, rfl⟩
                  obtain _ | m_616 := m_616
                  · rw [impl_Tick_l1] at h; cases h
                  rw [impl_Tick_l1] at h
                  refine Run.seq (Run.ops hm (Ops.p rfl (Ops.nil (Run.seq (Run.condO rfl h (fun g_619 h => ?_) (fun g_619 h => ?_))))))
                  · refine Run.skip (Run.seq (Run.block (Run.seq (Run.ops hm ?_))))
                    obtain ⟨x_623, hx_623, h⟩ := bindO h
                    refine Ops.st (s := 91112) (Ev.iaP (xs := y_529.2) rfl rfl hx_623) rfl rfl (Ops.st (s := 91128) (Ev.ldE (f := encI) rfl rfl (at_part hx_623) rfl rfl rfl) rfl rfl (Ops.p rfl (Ops.nil (Run.ops hm (Ops.p rfl (Ops.p rfl (Ops.p rfl (Ops.p rfl (Ops.st (s := 95272) (.bd rfl rfl) rfl rfl ?_)))))))))
                    obtain ⟨y_625, hy_625, h⟩ := bindO h
                    exact Ops.st (s := 95288) (Ev.call [1, 7, 8, 9, 10, 11] [] 1 (sem_core_tell_i2 N (Tcore.mk (Node.mk x_588 x_589 x_590 x_591 x_592 y_380.Conf (Log.mk x_593 x_594 y_380.Log.Entries) x_595 x_596 x_597 ([x_1.Id] : List Int) y_380.Peers) x_607) (Message.mk (1 : Int) (0 : Int) x_623 (0 : Int) y_424.1 y_424.2 (0 : Int) false ([]) ([]) (⟨#[]⟩ : ByteArray) false) _ hy_625) rfl rfl (.cons (.ptr rfl) (.cons (.agg (.cons (.c _) (.cons (.c _) (.cons (.c _) (.cons (.c _) (.cons (.c _) (.cons (.c _) (.cons (.c _) (.cons (.c _) (.cons (.c _) (.cons (.c _) (.cons (.c _) (.cons (.c _) .nil))))))))))))) .nil)) rfl (.inl rfl) rfl rfl) rfl rfl (Ops.nil (Run.ops hm (Ops.p rfl (Ops.p rfl (Ops.nil (⟨m_616, Nat.lt_succ_self m_616, _, _, (gh_pk [4, 7, 9, 10, 148, 149, 150] [0, 1, 2, 3, 4, 5, 6, 7, 8, 9, 10, 95288] hB rfl rfl rfl rfl), _, _, _, _, _, _, _, _, _, _, _, _, h, rfl, rfl⟩))))))
                  · refine Run.exit ?_
                    obtain rfl := someO h
                    have h := hk_616
                    exact ⟨_, _, (gh_pk [4, 7] [0, 1, 3, 4, 5, 6, 7, 8, 9, 10, 11] hB rfl rfl rfl rfl), (x_588, x_589, x_590, x_591, x_592, x_593, x_594, x_595, x_596, x_597, x_607), h, rfl, rfl⟩
                · refine Run.seq (Run.draw hm hmix (OpsD.p rfl (OpsD.p rfl (OpsD.p rfl (OpsD.p rfl (OpsD.p rfl (OpsD.p rfl (OpsD.p rfl (OpsD.p rfl (OpsD.s0 (s := 103528) (.sto rfl rfl rfl rfl rfl rfl) rfl rfl (OpsD.p rfl (OpsD.p rfl (OpsD.nil ⟨by kernel_rfl, ?_⟩)))))))))))))
                  refine Run.ret ?_
                  obtain rfl := someO h
                  exact Ends.mkG (.inl rfl) rfl (gh_pk [0, 1, 2] [6, 7, 8, 9, 10] hB rfl rfl rfl rfl) rfl rfl
def laws_eqIntS_l1 (N : Nat) (x_1 : (List Int)) (x_2 : (List Int)) : Nat → Int → Option ((Bool) ⊕ (Unit))
 | 0, _ => none
 | m + 1, x_198 =>
 (if (decide (x_198 < (x_1.length : Int))) = true then
 (at? x_1 x_198).bind fun x_223 =>
 (at? x_2 x_198).bind fun x_224 =>
 (if (x_223 != x_224) = true then
 some (Sum.inl false)
 else
 laws_eqIntS_l1 N x_1 x_2 m (w64 (x_198 + (1 : Int))))
 else
 some (Sum.inr ()))
def laws_eqIntS_l1_r (N : Nat) (x_1 : (List Int)) (x_2 : (List Int)) : (List Int) → Int → Option ((Bool) ⊕ (Unit))
 | [], x_198 =>
 some (Sum.inr ())
 | hd :: tl, x_198 =>
 (some hd).bind fun x_223 =>
 (at? x_2 x_198).bind fun x_224 =>
 (if (x_223 != x_224) = true then
 some (Sum.inl false)
 else
 laws_eqIntS_l1_r N x_1 x_2 tl (w64 (x_198 + (1 : Int))))
theorem laws_eqIntS_l1_rng (N : Nat) (x_1 : (List Int)) (x_2 : (List Int)) (hx : x_1.length ≤ 1099511627776) : ∀ (d k m : Nat), x_1.length = k + d → d < m → laws_eqIntS_l1 N x_1 x_2 m (k : Int) = laws_eqIntS_l1_r N x_1 x_2 (x_1.drop k) (k : Int) := by
  intro d
  induction d with
  | zero =>
    intro k m hd hm
    obtain ⟨m, rfl⟩ : ∃ q, m = q + 1 := ⟨m - 1, by omega⟩
    rw [laws_eqIntS_l1, if_neg (by simp; omega), List.drop_eq_nil_of_le (by omega), laws_eqIntS_l1_r]
  | succ d ih =>
    intro k m hd hm
    obtain ⟨m, rfl⟩ : ∃ q, m = q + 1 := ⟨m - 1, by omega⟩
    have hk : k < x_1.length := by omega
    rw [laws_eqIntS_l1, if_pos (by simp; omega), List.drop_eq_getElem_cons hk, laws_eqIntS_l1_r]
    have h1 := at_lt hk
    have h2 := w64_succ (k := k) (by omega)
    have h3 := ih (k + 1) m
    simp only [h1, h2, h3 (by omega) (by omega)]
theorem laws_eqIntS_l1_eq {N : Nat} (x_1 : (List Int)) (x_2 : (List Int)) (hx : x_1.length ≤ 1099511627776) (hN : x_1.length < N) : laws_eqIntS_l1 N x_1 x_2 N 0 = laws_eqIntS_l1_r N x_1 x_2 x_1 0 := laws_eqIntS_l1_rng N x_1 x_2 hx x_1.length 0 N (by omega) hN
def laws_eqIntS (N : Nat) (x_1 : (List Int)) (x_2 : (List Int)) : Option (Bool) :=
 (if ((x_1.length : Int) != (x_2.length : Int)) = true then
 some false
 else
 joinP (fun (v_195 : Unit) =>
 some true) fun j_195 =>
 (laws_eqIntS_l1 N x_1 x_2 N (0 : Int)).bind (Sum.elim (fun v_211 => some v_211) (fun (v_212 : Unit) => j_195 ())))
theorem sem_laws_eqIntS (N : Nat) (x_1 : (List Int)) (x_2 : (List Int)) (r : Bool) (h : laws_eqIntS N x_1 x_2 = some r) : Says Try.prog 100 [RO 3 (x_1.map encI), RO 3 (x_2.map encI)] 0 [] (VB r) [] := by
  unfold laws_eqIntS at h
  refine Says.of_run s100 Try.call100 rfl fun B hB => ?_
  have hm : B.m ≤ 1000 := by omega
  refine Run.seq (Run.ops hm (Ops.p rfl (Ops.nil (Run.seq (Run.seq (Run.ops hm (Ops.p rfl (Ops.st (s := 5112) (Ev.lnF rfl) rfl rfl (Ops.p rfl (Ops.st (s := 5144) (Ev.lnF rfl) rfl rfl (Ops.p rfl (Ops.nil (Run.condO rfl h (fun g_164 h => ?_) (fun g_164 h => ?_))))))))))))))
  · refine Run.seq (Run.ops hm (Ops.p rfl (Ops.nil (Run.ret ?_))))
    obtain rfl := someO h
    exact Ends.mkG (.inl rfl) rfl (gh_pk [0] [] hB rfl rfl rfl rfl) rfl rfl
  · refine Run.skip (Run.seqO h (fun (v_195 : Unit) => []) (fun (v_195 : Unit) => []) (fun h => ?_) (fun v_195 h => ?_))
    · refine Run.seq (Run.ops hm (Ops.p rfl (Ops.nil (Run.block ?_))))
      obtain ⟨res_212, h, hk_212⟩ := bindO h
      refine Run.loop (n := N) (fun m_212 fr σ => ∃ (x_198 : Int), laws_eqIntS_l1 N x_1 x_2 m_212 x_198 = some res_212 ∧ fr = [(0, RO 3 (x_1.map encI)), (1, RO 3 (x_2.map encI)), (5, VI x_198)] ∧ σ = []) (gh_pk [0, 1, 5] [] hB rfl rfl rfl rfl) ⟨_, h, rfl, rfl⟩ ?_
      rintro m_212 fr σ ⟨x_198, h, rfl, rfl⟩
      obtain _ | m_212 := m_212
      · rw [laws_eqIntS_l1] at h; cases h
      rw [laws_eqIntS_l1] at h
      refine Run.seq (Run.seq (Run.ops hm (Ops.p rfl (Ops.p rfl (Ops.st (s := 17416) (Ev.lnF rfl) rfl rfl (Ops.p rfl (Ops.nil (Run.condO rfl h (fun g_215 h => ?_) (fun g_215 h => ?_)))))))))
      · refine Run.skip (Run.seq (Run.block (Run.seq (Run.draw hm hmix (OpsD.p rfl (OpsD.p rfl ?_))))))
        obtain ⟨x_223, hx_223, h⟩ := bindO h
        refine OpsD.st (s := 25608) (Ev.iaF rfl rfl hx_223) rfl rfl (OpsD.p rfl (OpsD.p rfl (OpsD.p rfl ?_)))
        obtain ⟨x_224, hx_224, h⟩ := bindO h
        refine OpsD.st (s := 25672) (Ev.iaF rfl rfl hx_224) rfl rfl (OpsD.p rfl (OpsD.p rfl (OpsD.nil ⟨by kernel_rfl, ?_⟩)))
        refine Run.condO rfl h (fun g_225 h => ?_) (fun g_225 h => ?_)
        · refine Run.seq (Run.ops hm (Ops.p rfl (Ops.nil (Run.ret ?_))))
          obtain rfl := someO h
          have h := hk_212
          replace h := inlO h
          obtain rfl := someO h
          exact Ends.mkG (.inl rfl) rfl (gh_pk [0] [] hB rfl rfl rfl rfl) rfl rfl
        · exact Run.skip (Run.ops hm (Ops.p rfl (Ops.p rfl (Ops.p rfl (Ops.nil (⟨m_212, Nat.lt_succ_self m_212, _, _, (gh_pk [0, 1, 5] [] hB rfl rfl rfl rfl), _, h, rfl, rfl⟩))))))
      · refine Run.exit ?_
        obtain rfl := someO h
        have h := hk_212
        replace h := inrO h
        exact ⟨_, _, (gh_pk [] [] hB rfl rfl rfl rfl), (), h, rfl, rfl⟩
    · refine Run.seq (Run.ops hm (Ops.p rfl (Ops.nil (Run.ret ?_))))
      obtain rfl := someO h
      exact Ends.mkG (.inl rfl) rfl (gh_pk [0] [] hB rfl rfl rfl rfl) rfl rfl
def laws_eqEntry (N : Nat) (x_1 : Entry) (x_2 : Entry) : Option (Bool) :=
 (if (x_1.Term != x_2.Term) = true then
 some false
 else
 (if (x_1.Kind != x_2.Kind) = true then
 some false
 else
 (if (!decide (x_1.Data = x_2.Data)) = true then
 some false
 else
 some true)))
theorem sem_laws_eqEntry (N : Nat) (x_1 : Entry) (x_2 : Entry) (r : Bool) (h : laws_eqEntry N x_1 x_2 = some r) : Says Try.prog 187 [.agg [VI x_1.Term, VI x_1.Kind, VS x_1.Data], .agg [VI x_2.Term, VI x_2.Kind, VS x_2.Data]] 0 [] (VB r) [] := by
  unfold laws_eqEntry at h
  refine Says.of_run s187 Try.call187 rfl fun B hB => ?_
  have hm : B.m ≤ 1000 := by omega
  refine Run.seq (Run.ops hm (Ops.st (s := 1000) (.bx rfl rfl) rfl rfl (Ops.st (s := 1016) (.bx rfl rfl) rfl rfl (Ops.p rfl (Ops.nil (Run.seq (Run.seq (Run.ops hm (Ops.p rfl (Ops.p rfl (Ops.p rfl (Ops.p rfl (Ops.p rfl (Ops.nil (Run.condO rfl h (fun g_106 h => ?_) (fun g_106 h => ?_))))))))))))))))
  · refine Run.seq (Run.ops hm (Ops.p rfl (Ops.nil (Run.ret ?_))))
    obtain rfl := someO h
    exact Ends.mkG (.inl rfl) rfl (gh_pk [0] [] hB rfl rfl rfl rfl) rfl rfl
  · refine Run.skip (Run.seq (Run.seq (Run.ops hm (Ops.p rfl (Ops.p rfl (Ops.p rfl (Ops.p rfl (Ops.p rfl (Ops.nil (Run.condO rfl h (fun g_108 h => ?_) (fun g_108 h => ?_)))))))))))
    · refine Run.seq (Run.ops hm (Ops.p rfl (Ops.nil (Run.ret ?_))))
      obtain rfl := someO h
      exact Ends.mkG (.inl rfl) rfl (gh_pk [0] [] hB rfl rfl rfl rfl) rfl rfl
    · refine Run.skip (Run.seq (Run.seq (Run.ops hm (Ops.p rfl (Ops.p rfl (Ops.p rfl (Ops.p rfl (Ops.p rfl (Ops.nil (Run.condO rfl h (fun g_109 h => ?_) (fun g_109 h => ?_)))))))))))
      · refine Run.seq (Run.ops hm (Ops.p rfl (Ops.nil (Run.ret ?_))))
        obtain rfl := someO h
        exact Ends.mkG (.inl rfl) rfl (gh_pk [0] [] hB rfl rfl rfl rfl) rfl rfl
      · refine Run.skip (Run.seq (Run.ops hm (Ops.p rfl (Ops.nil (Run.ret ?_)))))
        obtain rfl := someO h
        exact Ends.mkG (.inl rfl) rfl (gh_pk [0] [] hB rfl rfl rfl rfl) rfl rfl
def laws_eqEntryS_l1 (N : Nat) (x_1 : (List Entry)) (x_2 : (List Entry)) : Nat → Int → Option ((Bool) ⊕ (Unit))
 | 0, _ => none
 | m + 1, x_222 =>
 (if (decide (x_222 < (x_1.length : Int))) = true then
 (at? x_1 x_222).bind fun x_254 =>
 (at? x_2 x_222).bind fun x_255 =>
 (laws_eqEntry N x_254 x_255).bind fun y_256 =>
 (if (!y_256) = true then
 some (Sum.inl false)
 else
 laws_eqEntryS_l1 N x_1 x_2 m (w64 (x_222 + (1 : Int))))
 else
 some (Sum.inr ()))
def laws_eqEntryS_l1_r (N : Nat) (x_1 : (List Entry)) (x_2 : (List Entry)) : (List Entry) → Int → Option ((Bool) ⊕ (Unit))
 | [], x_222 =>
 some (Sum.inr ())
 | hd :: tl, x_222 =>
 (some hd).bind fun x_254 =>
 (at? x_2 x_222).bind fun x_255 =>
 (laws_eqEntry N x_254 x_255).bind fun y_256 =>
 (if (!y_256) = true then
 some (Sum.inl false)
 else
 laws_eqEntryS_l1_r N x_1 x_2 tl (w64 (x_222 + (1 : Int))))
theorem laws_eqEntryS_l1_rng (N : Nat) (x_1 : (List Entry)) (x_2 : (List Entry)) (hx : x_1.length ≤ 1099511627776) : ∀ (d k m : Nat), x_1.length = k + d → d < m → laws_eqEntryS_l1 N x_1 x_2 m (k : Int) = laws_eqEntryS_l1_r N x_1 x_2 (x_1.drop k) (k : Int) := by
  intro d
  induction d with
  | zero =>
    intro k m hd hm
    obtain ⟨m, rfl⟩ : ∃ q, m = q + 1 := ⟨m - 1, by omega⟩
    rw [laws_eqEntryS_l1, if_neg (by simp; omega), List.drop_eq_nil_of_le (by omega), laws_eqEntryS_l1_r]
  | succ d ih =>
    intro k m hd hm
    obtain ⟨m, rfl⟩ : ∃ q, m = q + 1 := ⟨m - 1, by omega⟩
    have hk : k < x_1.length := by omega
    rw [laws_eqEntryS_l1, if_pos (by simp; omega), List.drop_eq_getElem_cons hk, laws_eqEntryS_l1_r]
    have h1 := at_lt hk
    have h2 := w64_succ (k := k) (by omega)
    have h3 := ih (k + 1) m
    simp only [h1, h2, h3 (by omega) (by omega)]
theorem laws_eqEntryS_l1_eq {N : Nat} (x_1 : (List Entry)) (x_2 : (List Entry)) (hx : x_1.length ≤ 1099511627776) (hN : x_1.length < N) : laws_eqEntryS_l1 N x_1 x_2 N 0 = laws_eqEntryS_l1_r N x_1 x_2 x_1 0 := laws_eqEntryS_l1_rng N x_1 x_2 hx x_1.length 0 N (by omega) hN
def laws_eqEntryS (N : Nat) (x_1 : (List Entry)) (x_2 : (List Entry)) : Option (Bool) :=
 (if ((x_1.length : Int) != (x_2.length : Int)) = true then
 some false
 else
 joinP (fun (v_219 : Unit) =>
 some true) fun j_219 =>
 (laws_eqEntryS_l1 N x_1 x_2 N (0 : Int)).bind (Sum.elim (fun v_239 => some v_239) (fun (v_240 : Unit) => j_219 ())))
theorem sem_laws_eqEntryS (N : Nat) (x_1 : (List Entry)) (x_2 : (List Entry)) (r : Bool) (h : laws_eqEntryS N x_1 x_2 = some r) : Says Try.prog 165 [RO 51 (x_1.map encEntry), RO 51 (x_2.map encEntry)] 0 [] (VB r) [] := by
  unfold laws_eqEntryS at h
  refine Says.of_run s165 Try.call165 rfl fun B hB => ?_
  have hm : B.m ≤ 1000 := by omega
  refine Run.seq (Run.ops hm (Ops.p rfl (Ops.nil (Run.seq (Run.seq (Run.ops hm (Ops.p rfl (Ops.st (s := 5112) (Ev.lnF rfl) rfl rfl (Ops.p rfl (Ops.st (s := 5144) (Ev.lnF rfl) rfl rfl (Ops.p rfl (Ops.nil (Run.condO rfl h (fun g_180 h => ?_) (fun g_180 h => ?_))))))))))))))
  · refine Run.seq (Run.ops hm (Ops.p rfl (Ops.nil (Run.ret ?_))))
    obtain rfl := someO h
    exact Ends.mkG (.inl rfl) rfl (gh_pk [0] [] hB rfl rfl rfl rfl) rfl rfl
  · refine Run.skip (Run.seqO h (fun (v_219 : Unit) => []) (fun (v_219 : Unit) => []) (fun h => ?_) (fun v_219 h => ?_))
    · refine Run.seq (Run.ops hm (Ops.p rfl (Ops.nil (Run.block ?_))))
      obtain ⟨res_240, h, hk_240⟩ := bindO h
      refine Run.loop (n := N) (fun m_240 fr σ => ∃ (x_222 : Int), laws_eqEntryS_l1 N x_1 x_2 m_240 x_222 = some res_240 ∧ fr = [(0, RO 51 (x_1.map encEntry)), (1, RO 51 (x_2.map encEntry)), (5, VI x_222)] ∧ σ = []) (gh_pk [0, 1, 5] [] hB rfl rfl rfl rfl) ⟨_, h, rfl, rfl⟩ ?_
      rintro m_240 fr σ ⟨x_222, h, rfl, rfl⟩
      obtain _ | m_240 := m_240
      · rw [laws_eqEntryS_l1] at h; cases h
      rw [laws_eqEntryS_l1] at h
      refine Run.seq (Run.seq (Run.ops hm (Ops.p rfl (Ops.p rfl (Ops.st (s := 17416) (Ev.lnF rfl) rfl rfl (Ops.p rfl (Ops.nil (Run.condO rfl h (fun g_243 h => ?_) (fun g_243 h => ?_)))))))))
      · refine Run.skip (Run.seq (Run.block (Run.seq (Run.draw hm hmix (OpsD.p rfl (OpsD.p rfl ?_))))))
        obtain ⟨x_254, hx_254, h⟩ := bindO h
        refine OpsD.st (s := 25608) (Ev.iaF rfl rfl hx_254) rfl rfl (OpsD.p rfl (OpsD.p rfl (OpsD.p rfl ?_)))
        obtain ⟨x_255, hx_255, h⟩ := bindO h
        refine OpsD.st (s := 25672) (Ev.iaF rfl rfl hx_255) rfl rfl (OpsD.p rfl ?_)
        obtain ⟨y_256, hy_256, h⟩ := bindO h
        refine OpsD.st (s := 25704) (Ev.call [] [] 0 (sem_laws_eqEntry N x_254 x_255 _ hy_256) rfl rfl (.cons (.agg (.cons (.c _) (.cons (.c _) (.cons (.c _) .nil)))) (.cons (.agg (.cons (.c _) (.cons (.c _) (.cons (.c _) .nil)))) .nil)) rfl (.inl rfl) rfl rfl) rfl rfl (OpsD.p rfl (OpsD.nil ⟨by kernel_rfl, ?_⟩))
        refine Run.condO rfl h (fun g_257 h => ?_) (fun g_257 h => ?_)
        · refine Run.seq (Run.ops hm (Ops.p rfl (Ops.nil (Run.ret ?_))))
          obtain rfl := someO h
          have h := hk_240
          replace h := inlO h
          obtain rfl := someO h
          exact Ends.mkG (.inl rfl) rfl (gh_pk [0] [] hB rfl rfl rfl rfl) rfl rfl
        · exact Run.skip (Run.ops hm (Ops.p rfl (Ops.p rfl (Ops.p rfl (Ops.nil (⟨m_240, Nat.lt_succ_self m_240, _, _, (gh_pk [0, 1, 5] [] hB rfl rfl rfl rfl), _, h, rfl, rfl⟩))))))
      · refine Run.exit ?_
        obtain rfl := someO h
        have h := hk_240
        replace h := inrO h
        exact ⟨_, _, (gh_pk [] [] hB rfl rfl rfl rfl), (), h, rfl, rfl⟩
    · refine Run.seq (Run.ops hm (Ops.p rfl (Ops.nil (Run.ret ?_))))
      obtain rfl := someO h
      exact Ends.mkG (.inl rfl) rfl (gh_pk [0] [] hB rfl rfl rfl rfl) rfl rfl
def laws_eqLog (N : Nat) (x_1 : Log) (x_2 : Log) : Option (Bool) :=
 (if (x_1.Start != x_2.Start) = true then
 some false
 else
 (if (x_1.StartTerm != x_2.StartTerm) = true then
 some false
 else
 (laws_eqEntryS N x_1.Entries x_2.Entries).bind fun y_112 =>
 (if (!y_112) = true then
 some false
 else
 some true)))
theorem sem_laws_eqLog (N : Nat) (x_1 : Log) (x_2 : Log) (r : Bool) (h : laws_eqLog N x_1 x_2 = some r) : Says Try.prog 101 [.agg [VI x_1.Start, VI x_1.StartTerm, RO 51 (x_1.Entries.map encEntry)], .agg [VI x_2.Start, VI x_2.StartTerm, RO 51 (x_2.Entries.map encEntry)]] 0 [] (VB r) [] := by
  unfold laws_eqLog at h
  refine Says.of_run s101 Try.call101 rfl fun B hB => ?_
  have hm : B.m ≤ 1000 := by omega
  refine Run.seq (Run.ops hm (Ops.st (s := 1000) (.bx rfl rfl) rfl rfl (Ops.st (s := 1016) (.bx rfl rfl) rfl rfl (Ops.p rfl (Ops.nil (Run.seq (Run.seq (Run.ops hm (Ops.p rfl (Ops.p rfl (Ops.p rfl (Ops.p rfl (Ops.p rfl (Ops.nil (Run.condO rfl h (fun g_108 h => ?_) (fun g_108 h => ?_))))))))))))))))
  · refine Run.seq (Run.ops hm (Ops.p rfl (Ops.nil (Run.ret ?_))))
    obtain rfl := someO h
    exact Ends.mkG (.inl rfl) rfl (gh_pk [0] [] hB rfl rfl rfl rfl) rfl rfl
  · refine Run.skip (Run.seq (Run.seq (Run.ops hm (Ops.p rfl (Ops.p rfl (Ops.p rfl (Ops.p rfl (Ops.p rfl (Ops.nil (Run.condO rfl h (fun g_110 h => ?_) (fun g_110 h => ?_)))))))))))
    · refine Run.seq (Run.ops hm (Ops.p rfl (Ops.nil (Run.ret ?_))))
      obtain rfl := someO h
      exact Ends.mkG (.inl rfl) rfl (gh_pk [0] [] hB rfl rfl rfl rfl) rfl rfl
    · refine Run.skip (Run.seq (Run.seq (Run.ops hm (Ops.p rfl (Ops.p rfl (Ops.p rfl (Ops.p rfl ?_)))))))
      obtain ⟨y_112, hy_112, h⟩ := bindO h
      refine Ops.st (s := 21544) (Ev.call [] [] 0 (sem_laws_eqEntryS N x_1.Entries x_2.Entries _ hy_112) rfl rfl (.cons (.c _) (.cons (.c _) .nil)) rfl (.inl rfl) rfl rfl) rfl rfl (Ops.p rfl (Ops.nil (Run.condO rfl h (fun g_113 h => ?_) (fun g_113 h => ?_))))
      · refine Run.seq (Run.ops hm (Ops.p rfl (Ops.nil (Run.ret ?_))))
        obtain rfl := someO h
        exact Ends.mkG (.inl rfl) rfl (gh_pk [0] [] hB rfl rfl rfl rfl) rfl rfl
      · refine Run.skip (Run.seq (Run.ops hm (Ops.p rfl (Ops.nil (Run.ret ?_)))))
        obtain rfl := someO h
        exact Ends.mkG (.inl rfl) rfl (gh_pk [0] [] hB rfl rfl rfl rfl) rfl rfl
def laws_eqPeer (N : Nat) (x_1 : Peer) (x_2 : Peer) : Option (Bool) :=
 (if (x_1.Id != x_2.Id) = true then
 some false
 else
 (if (x_1.Next != x_2.Next) = true then
 some false
 else
 (if (x_1.Match != x_2.Match) = true then
 some false
 else
 (if (x_1.Sent != x_2.Sent) = true then
 some false
 else
 some true))))
theorem sem_laws_eqPeer (N : Nat) (x_1 : Peer) (x_2 : Peer) (r : Bool) (h : laws_eqPeer N x_1 x_2 = some r) : Says Try.prog 166 [.agg [VI x_1.Id, VI x_1.Next, VI x_1.Match, VI x_1.Sent], .agg [VI x_2.Id, VI x_2.Next, VI x_2.Match, VI x_2.Sent]] 0 [] (VB r) [] := by
  unfold laws_eqPeer at h
  refine Says.of_run s166 Try.call166 rfl fun B hB => ?_
  have hm : B.m ≤ 1000 := by omega
  refine Run.seq (Run.ops hm (Ops.st (s := 1000) (.bx rfl rfl) rfl rfl (Ops.st (s := 1016) (.bx rfl rfl) rfl rfl (Ops.p rfl (Ops.nil (Run.seq (Run.seq (Run.ops hm (Ops.p rfl (Ops.p rfl (Ops.p rfl (Ops.p rfl (Ops.p rfl (Ops.nil (Run.condO rfl h (fun g_108 h => ?_) (fun g_108 h => ?_))))))))))))))))
  · refine Run.seq (Run.ops hm (Ops.p rfl (Ops.nil (Run.ret ?_))))
    obtain rfl := someO h
    exact Ends.mkG (.inl rfl) rfl (gh_pk [0] [] hB rfl rfl rfl rfl) rfl rfl
  · refine Run.skip (Run.seq (Run.seq (Run.ops hm (Ops.p rfl (Ops.p rfl (Ops.p rfl (Ops.p rfl (Ops.p rfl (Ops.nil (Run.condO rfl h (fun g_110 h => ?_) (fun g_110 h => ?_)))))))))))
    · refine Run.seq (Run.ops hm (Ops.p rfl (Ops.nil (Run.ret ?_))))
      obtain rfl := someO h
      exact Ends.mkG (.inl rfl) rfl (gh_pk [0] [] hB rfl rfl rfl rfl) rfl rfl
    · refine Run.skip (Run.seq (Run.seq (Run.ops hm (Ops.p rfl (Ops.p rfl (Ops.p rfl (Ops.p rfl (Ops.p rfl (Ops.nil (Run.condO rfl h (fun g_112 h => ?_) (fun g_112 h => ?_)))))))))))
      · refine Run.seq (Run.ops hm (Ops.p rfl (Ops.nil (Run.ret ?_))))
        obtain rfl := someO h
        exact Ends.mkG (.inl rfl) rfl (gh_pk [0] [] hB rfl rfl rfl rfl) rfl rfl
      · refine Run.skip (Run.seq (Run.seq (Run.ops hm (Ops.p rfl (Ops.p rfl (Ops.p rfl (Ops.p rfl (Ops.p rfl (Ops.nil (Run.condO rfl h (fun g_113 h => ?_) (fun g_113 h => ?_)))))))))))
        · refine Run.seq (Run.ops hm (Ops.p rfl (Ops.nil (Run.ret ?_))))
          obtain rfl := someO h
          exact Ends.mkG (.inl rfl) rfl (gh_pk [0] [] hB rfl rfl rfl rfl) rfl rfl
        · refine Run.skip (Run.seq (Run.ops hm (Ops.p rfl (Ops.nil (Run.ret ?_)))))
          obtain rfl := someO h
          exact Ends.mkG (.inl rfl) rfl (gh_pk [0] [] hB rfl rfl rfl rfl) rfl rfl
end Go.Proofs.Ytehknbpmpbghhaa.Pe.FnExactTick
