/- Functions, as pure functions; and that Go does just that. -/
import Derived.Test.YtehknbpmpbghhaaPeFFnExactPropose1
namespace Go.Proofs.Ytehknbpmpbghhaa.Pe.FnExactPropose
open Go Go.RowKit
set_option linter.unusedVariables false
set_option linter.unusedSimpArgs false
set_option maxHeartbeats 40000000
def spec_l16Near_l1 (N : Nat) (x_1 : (List Int)) (x_2 : (List Int)) : Nat → Int → Int → Option (Int)
 | 0, _, _ => none
 | m + 1, x_200, x_201 =>
 (if (decide (x_201 ≤ (4 : Int))) = true then
 joinP (fun (v_224 : Int) =>
 spec_l16Near_l1 N x_1 x_2 m v_224 (w64 (x_201 + (1 : Int)))) fun j_224 =>
 (spec_l09In N x_1 x_201).bind fun y_227 =>
 (spec_l09In N x_2 x_201).bind fun y_228 =>
 (if ((y_227 == y_228) ^^ true) = true then
 j_224 (w64 (x_200 + (1 : Int)))
 else
 j_224 x_200)
 else
 some x_200)
def spec_l16Near (N : Nat) (x_1 : (List Int)) (x_2 : (List Int)) : Option (Bool) :=
 joinP (fun (v_197 : Int) =>
 some (v_197 == (1 : Int))) fun j_197 =>
 (spec_l16Near_l1 N x_1 x_2 N (0 : Int) (1 : Int)).bind (fun (v_215 : Int) => j_197 v_215)
theorem sem_spec_l16Near (N : Nat) (x_1 : (List Int)) (x_2 : (List Int)) (r : Bool) (h : spec_l16Near N x_1 x_2 = some r) : Says Try.prog 83 [RO 3 (x_1.map encI), RO 3 (x_2.map encI)] 0 [] (VB r) [] := by
  unfold spec_l16Near at h
  refine Says.of_run s83 Try.call83 rfl fun B hB => ?_
  have hm : B.m ≤ 1000 := by omega
  refine Run.seq (Run.ops hm (Ops.p rfl (Ops.nil (Run.seq (Run.ops hm (Ops.p rfl (Ops.nil (Run.seqO h (fun (v_197 : Int) => [(5, VI v_197)]) (fun (v_197 : Int) => []) (fun h => ?_) (fun v_197 h => ?_)))))))))
  · refine Run.seq (Run.ops hm (Ops.p rfl (Ops.nil (Run.block ?_))))
    obtain ⟨res_215, h, hk_215⟩ := bindO h
    refine Run.loop (n := N) (fun m_215 fr σ => ∃ (x_200 : Int), ∃ (x_201 : Int), spec_l16Near_l1 N x_1 x_2 m_215 x_200 x_201 = some res_215 ∧ fr = [(0, RO 3 (x_1.map encI)), (1, RO 3 (x_2.map encI)), (5, VI x_200), (6, VI x_201)] ∧ σ = []) (gh_pk [0, 1, 5, 6] [] hB rfl rfl rfl rfl) ⟨_, _, h, rfl, rfl⟩ ?_
    rintro m_215 fr σ ⟨x_200, x_201, h, rfl, rfl⟩
    obtain _ | m_215 := m_215
    · rw [spec_l16Near_l1] at h; cases h
    rw [spec_l16Near_l1] at h
    refine Run.seq (Run.seq (Run.ops hm (Ops.p rfl (Ops.p rfl (Ops.nil (Run.condO rfl h (fun g_218 h => ?_) (fun g_218 h => ?_)))))))
    · refine Run.skip (Run.seqO h (fun (v_224 : Int) => [(0, RO 3 (x_1.map encI)), (1, RO 3 (x_2.map encI)), (5, VI v_224), (6, VI x_201)]) (fun (v_224 : Int) => []) (fun h => ?_) (fun v_224 h => ?_))
      · refine Run.block (Run.seq (Run.ops hm (Ops.p rfl (Ops.p rfl ?_))))
        obtain ⟨y_227, hy_227, h⟩ := bindO h
        refine Ops.st (s := 21512) (Ev.call [] [] 0 (sem_spec_l09In N x_1 x_201 _ hy_227) rfl rfl (.cons (.c _) (.cons (.c _) .nil)) rfl (.inl rfl) rfl rfl) rfl rfl (Ops.p rfl (Ops.p rfl ?_))
        obtain ⟨y_228, hy_228, h⟩ := bindO h
        refine Ops.st (s := 21560) (Ev.call [] [] 0 (sem_spec_l09In N x_2 x_201 _ hy_228) rfl rfl (.cons (.c _) (.cons (.c _) .nil)) rfl (.inl rfl) rfl rfl) rfl rfl (Ops.p rfl (Ops.nil (Run.condO rfl h (fun g_229 h => ?_) (fun g_229 h => ?_))))
        · exact Run.ops hm (Ops.p rfl (Ops.p rfl (Ops.p rfl (Ops.nil (⟨_, _, (gh_pk [0, 1, 5, 6] [] hB rfl rfl rfl rfl), w64 (x_200 + (1 : Int)), h, rfl, rfl⟩)))))
        · exact Run.skip (⟨_, _, (gh_pk [0, 1, 5, 6] [] hB rfl rfl rfl rfl), x_200, h, rfl, rfl⟩)
      · exact Run.ops hm (Ops.p rfl (Ops.p rfl (Ops.p rfl (Ops.nil (⟨m_215, Nat.lt_succ_self m_215, _, _, (gh_pk [0, 1, 5, 6] [] hB rfl rfl rfl rfl), _, _, h, rfl, rfl⟩)))))
    · refine Run.exit ?_
      obtain rfl := someO h
      have h := hk_215
      exact ⟨_, _, (gh_pk [5] [] hB rfl rfl rfl rfl), x_200, h, rfl, rfl⟩
  · refine Run.seq (Run.ops hm (Ops.p rfl (Ops.p rfl (Ops.p rfl (Ops.nil (Run.ret ?_))))))
    obtain rfl := someO h
    exact Ends.mkG (.inl rfl) rfl (gh_pk [0] [] hB rfl rfl rfl rfl) rfl rfl
def spec_l16Copy (N : Nat) (x_1 : Node) : Option (Node) :=
 (cat? ([] : List Int) x_1.Conf).bind fun x_119 =>
 (cat? ([] : List Entry) x_1.Log.Entries).bind fun x_123 =>
 (cat? ([] : List Int) x_1.Votes).bind fun x_127 =>
 (cat? ([] : List Peer) x_1.Peers).bind fun x_131 =>
 some (Node.mk x_1.Id x_1.Term x_1.Vote x_1.Role x_1.Lead x_119 (Log.mk x_1.Log.Start x_1.Log.StartTerm x_123) x_1.Commit x_1.Clock x_1.Limit x_127 x_131)
theorem sem_spec_l16Copy (N : Nat) (x_1 : Node) (r : Node) (h : spec_l16Copy N x_1 = some r) : Says Try.prog 85 [.agg [VI x_1.Id, VI x_1.Term, VI x_1.Vote, VI x_1.Role, VI x_1.Lead, RO 3 (x_1.Conf.map encI), VI x_1.Log.Start, VI x_1.Log.StartTerm, RO 51 (x_1.Log.Entries.map encEntry), VI x_1.Commit, VI x_1.Clock, VI x_1.Limit, RO 3 (x_1.Votes.map encI), RO 135 (x_1.Peers.map encPeer)]] 0 [] (.agg [VI r.Id, VI r.Term, VI r.Vote, VI r.Role, VI r.Lead, .sl 0 3 0 r.Conf.length, VI r.Log.Start, VI r.Log.StartTerm, .sl 1 51 0 r.Log.Entries.length, VI r.Commit, VI r.Clock, VI r.Limit, .sl 2 3 0 r.Votes.length, .sl 3 135 0 r.Peers.length]) [(0, .vec 3 (r.Conf.map encI)), (1, .vec 51 (r.Log.Entries.map encEntry)), (2, .vec 3 (r.Votes.map encI)), (3, .vec 135 (r.Peers.map encPeer))] := by
  unfold spec_l16Copy at h
  refine Says.of_run s85 Try.call85 rfl fun B hB => ?_
  have hm : B.m ≤ 1000 := by omega
  refine Run.seq (Run.ops hm (Ops.st (s := 1000) (.bx rfl rfl) rfl rfl (Ops.st (s := 1016) (.al rfl rfl) rfl rfl (Ops.nil (Run.seq (Run.ops hm (Ops.st (s := 5096) (Ev.bsW (ys := ([] : List Int)) (f := encI) rfl .nil rfl rfl rfl rfl rfl) rfl rfl (Ops.p rfl (Ops.p rfl ?_)))))))))
  obtain ⟨x_119, hx_119, h⟩ := bindO h
  refine Ops.st (s := 5144) (Ev.apW (f := encI) (ontoW rfl rfl rfl) (addsF rfl) rfl bt3 rfl hx_119) rfl rfl (Ops.p rfl (Ops.s0 (s := 5176) (.sto rfl rfl rfl rfl rfl rfl) rfl rfl (Ops.nil (Run.seq (Run.ops hm (Ops.st (s := 9192) (Ev.bsW (ys := ([] : List Entry)) (f := encEntry) rfl .nil rfl rfl rfl rfl rfl) rfl rfl (Ops.p rfl (Ops.p rfl (Ops.p rfl ?_)))))))))
  obtain ⟨x_123, hx_123, h⟩ := bindO h
  refine Ops.st (s := 9256) (Ev.apW (f := encEntry) (ontoW rfl rfl rfl) (addsF rfl) rfl bt51 rfl hx_123) rfl rfl (Ops.p rfl (Ops.p rfl (Ops.s0 (s := 9304) (.sto rfl rfl rfl rfl rfl rfl) rfl rfl (Ops.nil (Run.seq (Run.ops hm (Ops.st (s := 13288) (Ev.bsW (ys := ([] : List Int)) (f := encI) rfl .nil rfl rfl rfl rfl rfl) rfl rfl (Ops.p rfl (Ops.p rfl ?_)))))))))
  obtain ⟨x_127, hx_127, h⟩ := bindO h
  refine Ops.st (s := 13336) (Ev.apW (f := encI) (ontoW rfl rfl rfl) (addsF rfl) rfl bt3 rfl hx_127) rfl rfl (Ops.p rfl (Ops.s0 (s := 13368) (.sto rfl rfl rfl rfl rfl rfl) rfl rfl (Ops.nil (Run.seq (Run.ops hm (Ops.st (s := 17384) (Ev.bsW (ys := ([] : List Peer)) (f := encPeer) rfl .nil rfl rfl rfl rfl rfl) rfl rfl (Ops.p rfl (Ops.p rfl ?_))))))))
  obtain ⟨x_131, hx_131, h⟩ := bindO h
  refine Ops.st (s := 17432) (Ev.apW (f := encPeer) (ontoW rfl rfl rfl) (addsF rfl) rfl bt135 rfl hx_131) rfl rfl (Ops.p rfl (Ops.s0 (s := 17464) (.sto rfl rfl rfl rfl rfl rfl) rfl rfl (Ops.nil (Run.seq (Run.ops hm (Ops.p rfl (Ops.s0 (s := 21496) (.sto rfl rfl rfl rfl rfl rfl) rfl rfl (Ops.nil (Run.ret ?_)))))))))
  obtain rfl := someO h
  exact Ends.mkG (.inl rfl) rfl (gh_pk [0] [5144, 9256, 13336, 17432] hB rfl rfl rfl rfl) rfl rfl
def spec_Most_l1 (N : Nat) (x_1 : (List Int)) (x_2 : (List Int)) : Nat → Int → Int → Option (Int)
 | 0, _, _ => none
 | m + 1, x_204, x_205 =>
 (if (decide (x_205 < (x_1.length : Int))) = true then
 joinP (fun (v_228 : Int) =>
 spec_Most_l1 N x_1 x_2 m v_228 (w64 (x_205 + (1 : Int)))) fun j_228 =>
 (at? x_1 x_205).bind fun x_231 =>
 (spec_l09In N x_2 x_231).bind fun y_232 =>
 (if y_232 = true then
 j_228 (w64 (x_204 + (1 : Int)))
 else
 j_228 x_204)
 else
 some x_204)
def spec_Most_l1_r (N : Nat) (x_1 : (List Int)) (x_2 : (List Int)) : (List Int) → Int → Int → Option (Int)
 | [], x_204, x_205 =>
 some x_204
 | hd :: tl, x_204, x_205 =>
 joinP (fun (v_228 : Int) =>
 spec_Most_l1_r N x_1 x_2 tl v_228 (w64 (x_205 + (1 : Int)))) fun j_228 =>
 (some hd).bind fun x_231 =>
 (spec_l09In N x_2 x_231).bind fun y_232 =>
 (if y_232 = true then
 j_228 (w64 (x_204 + (1 : Int)))
 else
 j_228 x_204)
theorem spec_Most_l1_rng (N : Nat) (x_1 : (List Int)) (x_2 : (List Int)) (hx : x_1.length ≤ 1099511627776) : ∀ (d k m : Nat) (x_204 : Int), x_1.length = k + d → d < m → spec_Most_l1 N x_1 x_2 m x_204 (k : Int) = spec_Most_l1_r N x_1 x_2 (x_1.drop k) x_204 (k : Int) := by
  intro d
  induction d with
  | zero =>
    intro k m x_204 hd hm
    obtain ⟨m, rfl⟩ : ∃ q, m = q + 1 := ⟨m - 1, by omega⟩
    rw [spec_Most_l1, if_neg (by simp; omega), List.drop_eq_nil_of_le (by omega), spec_Most_l1_r]
  | succ d ih =>
    intro k m x_204 hd hm
    obtain ⟨m, rfl⟩ : ∃ q, m = q + 1 := ⟨m - 1, by omega⟩
    have hk : k < x_1.length := by omega
    rw [spec_Most_l1, if_pos (by simp; omega), List.drop_eq_getElem_cons hk, spec_Most_l1_r]
    have h1 := at_lt hk
    have h2 := w64_succ (k := k) (by omega)
    have h3 := ih (k + 1) m
    simp only [h1, h2, h3 _ (by omega) (by omega)]
theorem spec_Most_l1_eq {N : Nat} (x_1 : (List Int)) (x_2 : (List Int)) (hx : x_1.length ≤ 1099511627776) (hN : x_1.length < N) (x_204 : Int) : spec_Most_l1 N x_1 x_2 N x_204 0 = spec_Most_l1_r N x_1 x_2 x_1 x_204 0 := spec_Most_l1_rng N x_1 x_2 hx x_1.length 0 N x_204 (by omega) hN
def spec_Most (N : Nat) (x_1 : (List Int)) (x_2 : (List Int)) : Option (Bool) :=
 joinP (fun (v_201 : Int) =>
 (spec_ConfOk N x_1).bind fun y_236 =>
 (if y_236 = true then
 some (decide ((w64 ((2 : Int) * v_201)) > (x_1.length : Int)))
 else
 some false)) fun j_201 =>
 (spec_Most_l1 N x_1 x_2 N (0 : Int) (0 : Int)).bind (fun (v_219 : Int) => j_201 v_219)
theorem sem_spec_Most (N : Nat) (x_1 : (List Int)) (x_2 : (List Int)) (r : Bool) (h : spec_Most N x_1 x_2 = some r) : Says Try.prog 154 [RO 3 (x_1.map encI), RO 3 (x_2.map encI)] 0 [] (VB r) [] := by
  unfold spec_Most at h
  refine Says.of_run s154 Try.call154 rfl fun B hB => ?_
  have hm : B.m ≤ 1000 := by omega
  refine Run.seq (Run.ops hm (Ops.p rfl (Ops.nil (Run.seq (Run.ops hm (Ops.p rfl (Ops.nil (Run.seqO h (fun (v_201 : Int) => [(0, RO 3 (x_1.map encI)), (5, VI v_201)]) (fun (v_201 : Int) => []) (fun h => ?_) (fun v_201 h => ?_)))))))))
  · refine Run.seq (Run.ops hm (Ops.p rfl (Ops.nil (Run.block ?_))))
    obtain ⟨res_219, h, hk_219⟩ := bindO h
    refine Run.loop (n := N) (fun m_219 fr σ => ∃ (x_204 : Int), ∃ (x_205 : Int), spec_Most_l1 N x_1 x_2 m_219 x_204 x_205 = some res_219 ∧ fr = [(0, RO 3 (x_1.map encI)), (1, RO 3 (x_2.map encI)), (5, VI x_204), (6, VI x_205)] ∧ σ = []) (gh_pk [0, 1, 5, 6] [] hB rfl rfl rfl rfl) ⟨_, _, h, rfl, rfl⟩ ?_
    rintro m_219 fr σ ⟨x_204, x_205, h, rfl, rfl⟩
    obtain _ | m_219 := m_219
    · rw [spec_Most_l1] at h; cases h
    rw [spec_Most_l1] at h
    refine Run.seq (Run.seq (Run.ops hm (Ops.p rfl (Ops.p rfl (Ops.st (s := 13320) (Ev.lnF rfl) rfl rfl (Ops.p rfl (Ops.nil (Run.condO rfl h (fun g_222 h => ?_) (fun g_222 h => ?_)))))))))
    · refine Run.skip (Run.seqO h (fun (v_228 : Int) => [(0, RO 3 (x_1.map encI)), (1, RO 3 (x_2.map encI)), (5, VI v_228), (6, VI x_205)]) (fun (v_228 : Int) => []) (fun h => ?_) (fun v_228 h => ?_))
      · refine Run.block (Run.seq (Run.ops hm (Ops.p rfl (Ops.p rfl (Ops.p rfl ?_)))))
        obtain ⟨x_231, hx_231, h⟩ := bindO h
        refine Ops.st (s := 21528) (Ev.iaF rfl rfl hx_231) rfl rfl (Ops.p rfl ?_)
        obtain ⟨y_232, hy_232, h⟩ := bindO h
        refine Ops.st (s := 21560) (Ev.call [] [] 0 (sem_spec_l09In N x_2 x_231 _ hy_232) rfl rfl (.cons (.c _) (.cons (.c _) .nil)) rfl (.inl rfl) rfl rfl) rfl rfl (Ops.nil (Run.condO rfl h (fun g_233 h => ?_) (fun g_233 h => ?_)))
        · exact Run.ops hm (Ops.p rfl (Ops.p rfl (Ops.p rfl (Ops.nil (⟨_, _, (gh_pk [0, 1, 5, 6] [] hB rfl rfl rfl rfl), w64 (x_204 + (1 : Int)), h, rfl, rfl⟩)))))
        · exact Run.skip (⟨_, _, (gh_pk [0, 1, 5, 6] [] hB rfl rfl rfl rfl), x_204, h, rfl, rfl⟩)
      · exact Run.ops hm (Ops.p rfl (Ops.p rfl (Ops.p rfl (Ops.nil (⟨m_219, Nat.lt_succ_self m_219, _, _, (gh_pk [0, 1, 5, 6] [] hB rfl rfl rfl rfl), _, _, h, rfl, rfl⟩)))))
    · refine Run.exit ?_
      obtain rfl := someO h
      have h := hk_219
      exact ⟨_, _, (gh_pk [0, 5] [] hB rfl rfl rfl rfl), x_204, h, rfl, rfl⟩
  · refine Run.seq (Run.ops hm (Ops.p rfl ?_))
    obtain ⟨y_236, hy_236, h⟩ := bindO h
    refine Ops.st (s := 29688) (Ev.call [] [] 0 (sem_spec_ConfOk N x_1 _ hy_236) rfl rfl (.cons (.c _) .nil) rfl (.inl rfl) rfl rfl) rfl rfl (Ops.p rfl (Ops.askO (x := .t 23) rfl h (fun g_237 h => ?_) (fun g_237 h => ?_)))
    · refine Ops.gp rfl g_237 rfl (Ops.gp rfl g_237 rfl (Ops.gp rfl g_237 rfl (Ops.gs (s := 29768) rfl g_237 (Ev.lnF rfl) rfl rfl (Ops.gp rfl g_237 rfl (Ops.st (s := 29800) (.pkT rfl g_237 rfl) rfl rfl (Ops.p rfl (Ops.nil (Run.ret ?_))))))))
      obtain rfl := someO h
      exact Ends.mkG (.inl rfl) rfl (gh_pk [0] [] hB rfl rfl rfl rfl) rfl rfl
    · refine Ops.gn rfl g_237 (Ops.gn rfl g_237 (Ops.gn rfl g_237 (Ops.gn rfl g_237 (Ops.gn rfl g_237 (Ops.st (s := 29800) (.pkF rfl g_237 rfl) rfl rfl (Ops.p rfl (Ops.nil (Run.ret ?_))))))))
      obtain rfl := someO h
      exact Ends.mkG (.inl rfl) rfl (gh_pk [0] [] hB rfl rfl rfl rfl) rfl rfl
def spec_l16Follow (N : Nat) (x_1 : Tl16Run) (x_2 : Int) : Option (Tl16Run) :=
 some (Tl16Run.mk (Node.mk x_1.n.Id x_1.n.Term x_1.n.Vote (0 : Int) x_2 x_1.n.Conf x_1.n.Log x_1.n.Commit x_1.n.Clock x_1.n.Limit ([] : List Int) ([] : List Peer)) x_1.told)
theorem sem_spec_l16Follow (N : Nat) (x_1 : Tl16Run) (x_2 : Int) (r : Tl16Run) (h : spec_l16Follow N x_1 x_2 = some r) : Says Try.prog 155 [.ptr 0 0, VI x_2] 6 [(0, .box [VI x_1.n.Id, VI x_1.n.Term, VI x_1.n.Vote, VI x_1.n.Role, VI x_1.n.Lead, .sl 1 3 0 x_1.n.Conf.length, VI x_1.n.Log.Start, VI x_1.n.Log.StartTerm, .sl 2 51 0 x_1.n.Log.Entries.length, VI x_1.n.Commit, VI x_1.n.Clock, VI x_1.n.Limit, .sl 3 3 0 x_1.n.Votes.length, .sl 4 135 0 x_1.n.Peers.length, .sl 5 58 0 x_1.told.length]), (1, .vec 3 (x_1.n.Conf.map encI)), (2, .vec 51 (x_1.n.Log.Entries.map encEntry)), (3, .vec 3 (x_1.n.Votes.map encI)), (4, .vec 135 (x_1.n.Peers.map encPeer)), (5, .vec 58 (x_1.told.map (encMessage true)))] (.tup []) [(0, .box [VI r.n.Id, VI r.n.Term, VI r.n.Vote, VI r.n.Role, VI r.n.Lead, .sl 1 3 0 x_1.n.Conf.length, VI r.n.Log.Start, VI r.n.Log.StartTerm, .sl 2 51 0 x_1.n.Log.Entries.length, VI r.n.Commit, VI r.n.Clock, VI r.n.Limit, .sl 6 3 0 r.n.Votes.length, .sl 7 135 0 r.n.Peers.length, .sl 5 58 0 x_1.told.length]), (1, .vec 3 (x_1.n.Conf.map encI)), (2, .vec 51 (x_1.n.Log.Entries.map encEntry)), (3, .gone), (4, .gone), (5, .vec 58 (x_1.told.map (encMessage true))), (6, .vec 3 (r.n.Votes.map encI)), (7, .vec 135 (r.n.Peers.map encPeer))] := by
  unfold spec_l16Follow at h
  refine Says.of_run s155 Try.call155 rfl fun B hB => ?_
  have hm : B.m ≤ 1000 := by omega
  refine Run.seq (Run.ops hm (Ops.p rfl (Ops.p rfl (Ops.p rfl (Ops.p rfl (Ops.s0 (s := 1064) (.sto rfl rfl rfl rfl rfl rfl) rfl rfl (Ops.nil (Run.seq (Run.ops hm (Ops.p rfl (Ops.p rfl (Ops.p rfl (Ops.p rfl (Ops.p rfl (Ops.s0 (s := 5176) (.sto rfl rfl rfl rfl rfl rfl) rfl rfl (Ops.nil (Run.seq (Run.ops hm (Ops.p rfl (Ops.st (s := 9208) (Ev.bsW (ys := ([] : List Int)) (f := encI) rfl .nil rfl rfl rfl rfl rfl) rfl rfl (Ops.p rfl (Ops.p rfl (Ops.p rfl (Ops.s0 (s := 9272) (.sto rfl rfl rfl rfl rfl rfl) rfl rfl (Ops.nil (Run.ops hm (Ops.p rfl (Ops.st (s := 13304) (Ev.bsW (ys := ([] : List Peer)) (f := encPeer) rfl .nil rfl rfl rfl rfl rfl) rfl rfl (Ops.p rfl (Ops.p rfl (Ops.p rfl (Ops.s0 (s := 13368) (.sto rfl rfl rfl rfl rfl rfl) rfl rfl (Ops.nil ?_)))))))))))))))))))))))))))))))))
  obtain rfl := someO h
  exact Ends.mkG (.inr rfl) rfl (Gh.trans (Gh.trans (gh_prn [] [0, 1, 2, 3, 4, 5, 9208, 13304] hB rfl) (gh_mvE [] [3, 4] hB rfl rfl)) (gh_pk [] [0, 1, 2, 3, 4, 5, 9208, 13304] hB rfl rfl rfl rfl)) rfl rfl
def spec_l16Commit_l2 (N : Nat) (x_1 : Tl16Run) (x_1620 : Int) : Nat → Int → (List Int) → Option ((List Int))
 | 0, _, _ => none
 | m + 1, x_2056, x_2073 =>
 (if (decide (x_2056 < ((x_1.n.Peers.length : Nat) : Int))) = true then
 joinP (fun (v_2102 : (List Int)) =>
 spec_l16Commit_l2 N x_1 x_1620 m (w64 (x_2056 + (1 : Int))) v_2102) fun j_2102 =>
 (at? x_1.n.Peers x_2056).bind fun x_2104 =>
 (if (decide (x_2104.Match ≥ x_1620)) = true then
 (at? x_1.n.Peers x_2056).bind fun x_2108 =>
 (cat? x_2073 ([x_2108.Id] : List Int)).bind fun x_2109 =>
 j_2102 x_2109
 else
 j_2102 x_2073)
 else
 some x_2073)
def spec_l16Commit_l1 (N : Nat) (x_1 : Tl16Run) (y_1117 : (List Int)) : Nat → Int → Int → Option (Int)
 | 0, _, _ => none
 | m + 1, x_1620, x_1628 =>
 (if (decide (x_1620 > x_1628)) = true then
 joinP (fun (v_1998 : Int) =>
 spec_l16Commit_l1 N x_1 y_1117 m (w64 (x_1620 - (1 : Int))) v_1998) fun j_1998 =>
 joinP (fun (v_2054 : (List Int)) =>
 (spec_LogTerm N x_1.n.Log x_1620).bind fun y_2113 =>
 (if (y_2113 == x_1.n.Term) = true then
 (spec_Most N y_1117 v_2054).bind fun y_2115 =>
 (if y_2115 = true then
 j_1998 x_1620
 else
 j_1998 x_1628)
 else
 j_1998 x_1628)) fun j_2054 =>
 (spec_l16Commit_l2 N x_1 x_1620 N (0 : Int) ([x_1.n.Id] : List Int)).bind (fun (v_2091 : (List Int)) => j_2054 v_2091)
 else
 some x_1628)
def spec_l16Commit (N : Nat) (x_1 : Tl16Run) : Option (Tl16Run) :=
 (spec_ConfOf N x_1.n).bind fun y_1117 =>
 (spec_l12Last N x_1.n.Log).bind fun y_1121 =>
 joinP (fun (v_1619 : Int) =>
 (if (x_1.n.Role == (2 : Int)) = true then
 (spec_l09In N y_1117 x_1.n.Id).bind fun y_2122 =>
 (if (!y_2122) = true then
 (spec_l16ConfIndex N (Node.mk x_1.n.Id x_1.n.Term x_1.n.Vote x_1.n.Role x_1.n.Lead x_1.n.Conf x_1.n.Log v_1619 x_1.n.Clock x_1.n.Limit x_1.n.Votes x_1.n.Peers)).bind fun y_2124 =>
 (if (decide (y_2124 ≤ v_1619)) = true then
 (spec_l16Follow N (Tl16Run.mk (Node.mk x_1.n.Id x_1.n.Term x_1.n.Vote x_1.n.Role x_1.n.Lead x_1.n.Conf x_1.n.Log v_1619 x_1.n.Clock x_1.n.Limit x_1.n.Votes x_1.n.Peers) x_1.told) (0 : Int)).bind fun y_2127 =>
 some (Tl16Run.mk (Node.mk y_2127.n.Id y_2127.n.Term y_2127.n.Vote y_2127.n.Role y_2127.n.Lead x_1.n.Conf (Log.mk y_2127.n.Log.Start y_2127.n.Log.StartTerm x_1.n.Log.Entries) y_2127.n.Commit y_2127.n.Clock y_2127.n.Limit y_2127.n.Votes y_2127.n.Peers) x_1.told)
 else
 some (Tl16Run.mk (Node.mk x_1.n.Id x_1.n.Term x_1.n.Vote x_1.n.Role x_1.n.Lead x_1.n.Conf x_1.n.Log v_1619 x_1.n.Clock x_1.n.Limit x_1.n.Votes x_1.n.Peers) x_1.told))
 else
 some (Tl16Run.mk (Node.mk x_1.n.Id x_1.n.Term x_1.n.Vote x_1.n.Role x_1.n.Lead x_1.n.Conf x_1.n.Log v_1619 x_1.n.Clock x_1.n.Limit x_1.n.Votes x_1.n.Peers) x_1.told))
 else
 some (Tl16Run.mk (Node.mk x_1.n.Id x_1.n.Term x_1.n.Vote x_1.n.Role x_1.n.Lead x_1.n.Conf x_1.n.Log v_1619 x_1.n.Clock x_1.n.Limit x_1.n.Votes x_1.n.Peers) x_1.told))) fun j_1619 =>
 (spec_l16Commit_l1 N x_1 y_1117 N y_1121 x_1.n.Commit).bind (fun (v_1876 : Int) => j_1619 v_1876)
theorem sem_spec_l16Commit (N : Nat) (x_1 : Tl16Run) (r : Tl16Run) (h : spec_l16Commit N x_1 = some r) : Says Try.prog 87 [.ptr 0 0] 6 [(0, .box [VI x_1.n.Id, VI x_1.n.Term, VI x_1.n.Vote, VI x_1.n.Role, VI x_1.n.Lead, .sl 1 3 0 x_1.n.Conf.length, VI x_1.n.Log.Start, VI x_1.n.Log.StartTerm, .sl 2 51 0 x_1.n.Log.Entries.length, VI x_1.n.Commit, VI x_1.n.Clock, VI x_1.n.Limit, .sl 3 3 0 x_1.n.Votes.length, .sl 4 135 0 x_1.n.Peers.length, .sl 5 58 0 x_1.told.length]), (1, .vec 3 (x_1.n.Conf.map encI)), (2, .vec 51 (x_1.n.Log.Entries.map encEntry)), (3, .vec 3 (x_1.n.Votes.map encI)), (4, .vec 135 (x_1.n.Peers.map encPeer)), (5, .vec 58 (x_1.told.map (encMessage true)))] (.tup []) [(0, .box [VI r.n.Id, VI r.n.Term, VI r.n.Vote, VI r.n.Role, VI r.n.Lead, .sl 6 3 0 r.n.Conf.length, VI r.n.Log.Start, VI r.n.Log.StartTerm, .sl 7 51 0 r.n.Log.Entries.length, VI r.n.Commit, VI r.n.Clock, VI r.n.Limit, .sl 8 3 0 r.n.Votes.length, .sl 9 135 0 r.n.Peers.length, .sl 10 58 0 r.told.length]), (1, .gone), (2, .gone), (3, .gone), (4, .gone), (5, .gone), (6, .vec 3 (r.n.Conf.map encI)), (7, .vec 51 (r.n.Log.Entries.map encEntry)), (8, .vec 3 (r.n.Votes.map encI)), (9, .vec 135 (r.n.Peers.map encPeer)), (10, .vec 58 (r.told.map (encMessage true)))] := by
  unfold spec_l16Commit at h
  refine Says.of_run s87 Try.call87 rfl fun B hB => ?_
  have hm : B.m ≤ 1000 := by omega
  refine Run.seq (Run.ops hm (Ops.p rfl (Ops.p rfl (Ops.p rfl (Ops.p rfl ?_)))))
  obtain ⟨y_1117, hy_1117, h⟩ := bindO h
  refine Ops.st (s := 1064) (Ev.call [] [1, 2, 3, 4] 1 (sem_spec_ConfOf N x_1.n _ hy_1117) rfl rfl (.cons (.agg (.cons (.c _) (.cons (.c _) (.cons (.c _) (.cons (.c _) (.cons (.c _) (.cons (.borrow rfl (by decide) (lendW (fun _ => rfl) _ rfl)) (.cons (.c _) (.cons (.c _) (.cons (.borrow rfl (by decide) (lendW (fun _ => rfl) _ rfl)) (.cons (.c _) (.cons (.c _) (.cons (.c _) (.cons (.borrow rfl (by decide) (lendW (fun _ => rfl) _ rfl)) (.cons (.borrow rfl (by decide) (lendW (fun _ => rfl) _ rfl)) .nil))))))))))))))) .nil) rfl (.inr ⟨rfl, ownL_root ⟨own_rows (fun _ => rfl) _, trivial⟩⟩) rfl rfl) rfl rfl ?_
  refine Ops.p rfl (Ops.nil (Run.seq (Run.ops hm (Ops.p rfl (Ops.p rfl (Ops.p rfl (Ops.p rfl (Ops.p rfl ?_))))))))
  obtain ⟨y_1121, hy_1121, h⟩ := bindO h
  refine Ops.st (s := 5176) (Ev.call [] [2] 0 (sem_spec_l12Last N x_1.n.Log _ hy_1121) rfl rfl (.cons (.agg (.cons (.c _) (.cons (.c _) (.cons (.borrow rfl (by decide) (lendW (fun _ => rfl) _ rfl)) .nil)))) .nil) rfl (.inr ⟨rfl, ownL_root trivial⟩) rfl rfl) rfl rfl ?_
  refine Ops.p rfl (Ops.nil (Run.seqO h (fun (v_1619 : Int) => [(0, .ptr 0 0), (2, .sl 6 3 0 y_1117.length)]) (fun (v_1619 : Int) => [(0, .box [VI x_1.n.Id, VI x_1.n.Term, VI x_1.n.Vote, VI x_1.n.Role, VI x_1.n.Lead, .sl 1 3 0 x_1.n.Conf.length, VI x_1.n.Log.Start, VI x_1.n.Log.StartTerm, .sl 2 51 0 x_1.n.Log.Entries.length, VI v_1619, VI x_1.n.Clock, VI x_1.n.Limit, .sl 3 3 0 x_1.n.Votes.length, .sl 4 135 0 x_1.n.Peers.length, .sl 5 58 0 x_1.told.length]), (1, .vec 3 (x_1.n.Conf.map encI)), (2, .vec 51 (x_1.n.Log.Entries.map encEntry)), (3, .vec 3 (x_1.n.Votes.map encI)), (4, .vec 135 (x_1.n.Peers.map encPeer)), (5, .vec 58 (x_1.told.map (encMessage true))), (6, .vec 3 (y_1117.map encI))]) (fun h => ?_) (fun v_1619 h => ?_)))
  · refine Run.seq (Run.ops hm (Ops.p rfl (Ops.p rfl (Ops.nil (Run.block ?_)))))
    obtain ⟨res_1876, h, hk_1876⟩ := bindO h
    refine Run.loop (n := N) (fun m_1876 fr σ => ∃ (x_1620 : Int), ∃ (x_1628 : Int), spec_l16Commit_l1 N x_1 y_1117 m_1876 x_1620 x_1628 = some res_1876 ∧ fr = [(0, .ptr 0 0), (2, .sl 6 3 0 y_1117.length), (4, VI x_1620)] ∧ σ = [(0, .box [VI x_1.n.Id, VI x_1.n.Term, VI x_1.n.Vote, VI x_1.n.Role, VI x_1.n.Lead, .sl 1 3 0 x_1.n.Conf.length, VI x_1.n.Log.Start, VI x_1.n.Log.StartTerm, .sl 2 51 0 x_1.n.Log.Entries.length, VI x_1628, VI x_1.n.Clock, VI x_1.n.Limit, .sl 3 3 0 x_1.n.Votes.length, .sl 4 135 0 x_1.n.Peers.length, .sl 5 58 0 x_1.told.length]), (1, .vec 3 (x_1.n.Conf.map encI)), (2, .vec 51 (x_1.n.Log.Entries.map encEntry)), (3, .vec 3 (x_1.n.Votes.map encI)), (4, .vec 135 (x_1.n.Peers.map encPeer)), (5, .vec 58 (x_1.told.map (encMessage true))), (6, .vec 3 (y_1117.map encI))]) (gh_pk [0, 2, 4] [0, 1, 2, 3, 4, 5, 1064] hB rfl rfl rfl rfl) ⟨_, _, h, rfl, rfl⟩ ?_
    rintro m_1876 fr σ ⟨x_1620, x_1628, h, rfl, rfl⟩
    obtain _ | m_1876 := m_1876
    · rw [spec_l16Commit_l1] at h; cases h
    rw [spec_l16Commit_l1] at h
    refine Run.seq (Run.seq (Run.ops hm (Ops.p rfl (Ops.p rfl (Ops.p rfl (Ops.p rfl (Ops.p rfl (Ops.p rfl (Ops.p rfl (Ops.nil (Run.condO rfl h (fun g_1879 h => ?_) (fun g_1879 h => ?_))))))))))))
    · refine Run.skip (Run.seqO h (fun (v_1998 : Int) => [(0, .ptr 0 0), (2, .sl 6 3 0 y_1117.length), (4, VI x_1620)]) (fun (v_1998 : Int) => [(0, .box [VI x_1.n.Id, VI x_1.n.Term, VI x_1.n.Vote, VI x_1.n.Role, VI x_1.n.Lead, .sl 1 3 0 x_1.n.Conf.length, VI x_1.n.Log.Start, VI x_1.n.Log.StartTerm, .sl 2 51 0 x_1.n.Log.Entries.length, VI v_1998, VI x_1.n.Clock, VI x_1.n.Limit, .sl 3 3 0 x_1.n.Votes.length, .sl 4 135 0 x_1.n.Peers.length, .sl 5 58 0 x_1.told.length]), (1, .vec 3 (x_1.n.Conf.map encI)), (2, .vec 51 (x_1.n.Log.Entries.map encEntry)), (3, .vec 3 (x_1.n.Votes.map encI)), (4, .vec 135 (x_1.n.Peers.map encPeer)), (5, .vec 58 (x_1.told.map (encMessage true))), (6, .vec 3 (y_1117.map encI))]) (fun h => ?_) (fun v_1998 h => ?_))
      · refine Run.block (Run.seq (Run.ops hm (Ops.p rfl (Ops.p rfl (Ops.p rfl (Ops.p rfl (Ops.p rfl (Ops.st (s := 21560) (Ev.bsW (ys := ([x_1.n.Id] : List Int)) (f := encI) rfl (.cons (.c _) .nil) rfl rfl rfl rfl rfl) rfl rfl (Ops.p rfl (Ops.nil (Run.seqO h (fun (v_2054 : (List Int)) => [(0, .ptr 0 0), (2, .sl 6 3 0 y_1117.length), (4, VI x_1620), (5, .sl 7 3 0 v_2054.length)]) (fun (v_2054 : (List Int)) => [(0, .box [VI x_1.n.Id, VI x_1.n.Term, VI x_1.n.Vote, VI x_1.n.Role, VI x_1.n.Lead, .sl 1 3 0 x_1.n.Conf.length, VI x_1.n.Log.Start, VI x_1.n.Log.StartTerm, .sl 2 51 0 x_1.n.Log.Entries.length, VI x_1628, VI x_1.n.Clock, VI x_1.n.Limit, .sl 3 3 0 x_1.n.Votes.length, .sl 4 135 0 x_1.n.Peers.length, .sl 5 58 0 x_1.told.length]), (1, .vec 3 (x_1.n.Conf.map encI)), (2, .vec 51 (x_1.n.Log.Entries.map encEntry)), (3, .vec 3 (x_1.n.Votes.map encI)), (4, .vec 135 (x_1.n.Peers.map encPeer)), (5, .vec 58 (x_1.told.map (encMessage true))), (6, .vec 3 (y_1117.map encI)), (7, .vec 3 (v_2054.map encI))]) (fun h => ?_) (fun v_2054 h => ?_))))))))))))
        · refine Run.seq (Run.ops hm (Ops.p rfl (Ops.nil (Run.block ?_))))
          obtain ⟨res_2091, h, hk_2091⟩ := bindO h
          refine Run.loop (n := N) (fun m_2091 fr σ => ∃ (x_2056 : Int), ∃ (x_2073 : (List Int)), spec_l16Commit_l2 N x_1 x_1620 m_2091 x_2056 x_2073 = some res_2091 ∧ fr = [(0, .ptr 0 0), (2, .sl 6 3 0 y_1117.length), (4, VI x_1620), (5, .sl 7 3 0 x_2073.length), (6, VI x_2056)] ∧ σ = [(0, .box [VI x_1.n.Id, VI x_1.n.Term, VI x_1.n.Vote, VI x_1.n.Role, VI x_1.n.Lead, .sl 1 3 0 x_1.n.Conf.length, VI x_1.n.Log.Start, VI x_1.n.Log.StartTerm, .sl 2 51 0 x_1.n.Log.Entries.length, VI x_1628, VI x_1.n.Clock, VI x_1.n.Limit, .sl 3 3 0 x_1.n.Votes.length, .sl 4 135 0 x_1.n.Peers.length, .sl 5 58 0 x_1.told.length]), (1, .vec 3 (x_1.n.Conf.map encI)), (2, .vec 51 (x_1.n.Log.Entries.map encEntry)), (3, .vec 3 (x_1.n.Votes.map encI)), (4, .vec 135 (x_1.n.Peers.map encPeer)), (5, .vec 58 (x_1.told.map (encMessage true))), (6, .vec 3 (y_1117.map encI)), (7, .vec 3 (x_2073.map encI))]) (gh_pk [0, 2, 4, 5, 6] [0, 1, 2, 3, 4, 5, 6, 21560] hB rfl rfl rfl rfl) ⟨_, _, h, rfl, rfl⟩ ?_
          rintro m_2091 fr σ ⟨x_2056, x_2073, h, rfl, rfl⟩
          obtain _ | m_2091 := m_2091
          · rw [spec_l16Commit_l2] at h; cases h
          rw [spec_l16Commit_l2] at h
          refine Run.seq (Run.seq (Run.ops hm (Ops.p rfl (Ops.p rfl (Ops.p rfl (Ops.p rfl (Ops.p rfl (Ops.p rfl (Ops.p rfl (Ops.p rfl (Ops.nil (Run.condO rfl h (fun g_2094 h => ?_) (fun g_2094 h => ?_)))))))))))))
          · refine Run.skip (Run.seqO h (fun (v_2102 : (List Int)) => [(0, .ptr 0 0), (2, .sl 6 3 0 y_1117.length), (4, VI x_1620), (5, .sl 7 3 0 v_2102.length), (6, VI x_2056)]) (fun (v_2102 : (List Int)) => [(0, .box [VI x_1.n.Id, VI x_1.n.Term, VI x_1.n.Vote, VI x_1.n.Role, VI x_1.n.Lead, .sl 1 3 0 x_1.n.Conf.length, VI x_1.n.Log.Start, VI x_1.n.Log.StartTerm, .sl 2 51 0 x_1.n.Log.Entries.length, VI x_1628, VI x_1.n.Clock, VI x_1.n.Limit, .sl 3 3 0 x_1.n.Votes.length, .sl 4 135 0 x_1.n.Peers.length, .sl 5 58 0 x_1.told.length]), (1, .vec 3 (x_1.n.Conf.map encI)), (2, .vec 51 (x_1.n.Log.Entries.map encEntry)), (3, .vec 3 (x_1.n.Votes.map encI)), (4, .vec 135 (x_1.n.Peers.map encPeer)), (5, .vec 58 (x_1.told.map (encMessage true))), (6, .vec 3 (y_1117.map encI)), (7, .vec 3 (v_2102.map encI))]) (fun h => ?_) (fun v_2102 h => ?_))
            · refine Run.block (Run.seq (Run.ops hm (Ops.p rfl (Ops.p rfl (Ops.p rfl (Ops.p rfl (Ops.p rfl (Ops.p rfl ?_))))))))
              obtain ⟨x_2104, hx_2104, h⟩ := bindO h
              refine Ops.st (s := 37960) (Ev.iaW rfl rfl rfl hx_2104) rfl rfl (Ops.p rfl (Ops.st (s := 37992) (Ev.ldE (f := encPeer) rfl rfl (at_some hx_2104).2 rfl rfl rfl) rfl rfl (Ops.p rfl (Ops.p rfl (Ops.nil (Run.condO rfl h (fun g_2105 h => ?_) (fun g_2105 h => ?_)))))))
              · refine Run.ops hm (Ops.p rfl (Ops.p rfl (Ops.p rfl (Ops.p rfl (Ops.p rfl (Ops.p rfl (Ops.p rfl ?_)))))))
                obtain ⟨x_2108, hx_2108, h⟩ := bindO h
                refine Ops.st (s := 42072) (Ev.iaW rfl rfl rfl hx_2108) rfl rfl (Ops.p rfl (Ops.st (s := 42104) (Ev.ldE (f := encPeer) rfl rfl (at_some hx_2108).2 rfl rfl rfl) rfl rfl (Ops.st (s := 42120) (Ev.bsW (ys := ([x_2108.Id] : List Int)) (f := encI) rfl (.cons (.c _) .nil) rfl rfl rfl rfl rfl) rfl rfl ?_)))
                obtain ⟨x_2109, hx_2109, h⟩ := bindO h
                exact Ops.st (s := 42136) (Ev.apW (f := encI) (ontoW rfl rfl rfl) (addsW rfl rfl rfl (fun _ => rfl)) rfl bt3 rfl hx_2109) rfl rfl (Ops.p rfl (Ops.nil (⟨_, _, (gh_pk [0, 2, 4, 5, 6] [0, 1, 2, 3, 4, 5, 6, 42136] hB rfl rfl rfl rfl), x_2109, h, rfl, rfl⟩)))
              · exact Run.skip (⟨_, _, (gh_pk [0, 2, 4, 5, 6] [0, 1, 2, 3, 4, 5, 6, 7] hB rfl rfl rfl rfl), x_2073, h, rfl, rfl⟩)
            · exact Run.ops hm (Ops.p rfl (Ops.p rfl (Ops.p rfl (Ops.nil (⟨m_2091, Nat.lt_succ_self m_2091, _, _, (gh_pk [0, 2, 4, 5, 6] [0, 1, 2, 3, 4, 5, 6, 7] hB rfl rfl rfl rfl), _, _, h, rfl, rfl⟩)))))
          · refine Run.exit ?_
            obtain rfl := someO h
            have h := hk_2091
            exact ⟨_, _, (gh_pk [0, 2, 4, 5] [0, 1, 2, 3, 4, 5, 6, 7] hB rfl rfl rfl rfl), x_2073, h, rfl, rfl⟩
        · refine Run.seq (Run.draw hm hmix (OpsD.p rfl (OpsD.p rfl (OpsD.p rfl (OpsD.p rfl (OpsD.p rfl (OpsD.p rfl ?_)))))))
          obtain ⟨y_2113, hy_2113, h⟩ := bindO h
          refine OpsD.st (s := 46152) (Ev.call [] [2] 0 (sem_spec_LogTerm N x_1.n.Log x_1620 _ hy_2113) rfl rfl (.cons (.agg (.cons (.c _) (.cons (.c _) (.cons (.borrow rfl (by decide) (lendW (fun _ => rfl) _ rfl)) .nil)))) (.cons (.c _) .nil)) rfl (.inr ⟨rfl, ownL_root trivial⟩) rfl rfl) rfl rfl ?_
          refine OpsD.p rfl (OpsD.p rfl (OpsD.p rfl (OpsD.p rfl (OpsD.p rfl (OpsD.p rfl (OpsD.p rfl (OpsD.askO (x := .t 80) rfl h (fun g_2114 h => ?_) (fun g_2114 h => ?_))))))))
          · refine OpsD.gp rfl g_2114 rfl (OpsD.gp rfl g_2114 rfl ?_)
            obtain ⟨y_2115, hy_2115, h⟩ := bindO h
            refine OpsD.gs (s := 46312) rfl g_2114 (Ev.call [] [6, 7] 0 (sem_spec_Most N y_1117 v_2054 _ hy_2115) rfl rfl (.cons (.borrow rfl (by decide) (lendW (fun _ => rfl) _ rfl)) (.cons (.borrow rfl (by decide) (lendW (fun _ => rfl) _ rfl)) .nil)) rfl (.inr ⟨rfl, ownL_root trivial⟩) rfl rfl) rfl rfl ?_
            refine OpsD.st (s := 46328) (.pkT rfl g_2114 rfl) rfl rfl (OpsD.nil ⟨by kernel_rfl, ?_⟩)
            refine Run.condO rfl h (fun g_2116 h => ?_) (fun g_2116 h => ?_)
            · exact Run.ops hm (Ops.p rfl (Ops.p rfl (Ops.p rfl (Ops.p rfl (Ops.p rfl (Ops.s0 (s := 50232) (.sto rfl rfl rfl rfl rfl rfl) rfl rfl (Ops.nil (⟨_, _, (gh_pk [0, 2, 4] [0, 1, 2, 3, 4, 5, 6] hB rfl rfl rfl rfl), x_1620, h, rfl, rfl⟩))))))))
            · exact Run.skip (⟨_, _, (gh_pk [0, 2, 4] [0, 1, 2, 3, 4, 5, 6] hB rfl rfl rfl rfl), x_1628, h, rfl, rfl⟩)
          · refine OpsD.gn rfl g_2114 (OpsD.gn rfl g_2114 (OpsD.gn rfl g_2114 (OpsD.st (s := 46328) (.pkF rfl g_2114 rfl) rfl rfl (OpsD.nil ⟨by kernel_rfl, ?_⟩))))
            exact Run.condF rfl rfl (Run.skip (⟨_, _, (gh_pk [0, 2, 4] [0, 1, 2, 3, 4, 5, 6] hB rfl rfl rfl rfl), x_1628, h, rfl, rfl⟩))
      · exact Run.ops hm (Ops.p rfl (Ops.p rfl (Ops.p rfl (Ops.nil (⟨m_1876, Nat.lt_succ_self m_1876, _, _, (gh_pk [0, 2, 4] [0, 1, 2, 3, 4, 5, 6] hB rfl rfl rfl rfl), _, _, h, rfl, rfl⟩)))))
    · refine Run.exit ?_
      obtain rfl := someO h
      have h := hk_1876
      exact ⟨_, _, (gh_pk [0, 2] [0, 1, 2, 3, 4, 5, 6] hB rfl rfl rfl rfl), x_1628, h, rfl, rfl⟩
  · refine Run.seq (Run.draw hm hmix (OpsD.p rfl (OpsD.p rfl (OpsD.p rfl (OpsD.p rfl (OpsD.p rfl (OpsD.p rfl (OpsD.p rfl (OpsD.askO (x := .t 96) rfl h (fun g_2121 h => ?_) (fun g_2121 h => ?_))))))))))
    · refine OpsD.gp rfl g_2121 rfl (OpsD.gp rfl g_2121 rfl (OpsD.gp rfl g_2121 rfl (OpsD.gp rfl g_2121 rfl (OpsD.gp rfl g_2121 rfl (OpsD.gp rfl g_2121 rfl ?_)))))
      obtain ⟨y_2122, hy_2122, h⟩ := bindO h
      refine OpsD.gs (s := 54456) rfl g_2121 (Ev.call [] [6] 0 (sem_spec_l09In N y_1117 x_1.n.Id _ hy_2122) rfl rfl (.cons (.borrow rfl (by decide) (lendW (fun _ => rfl) _ rfl)) (.cons (.c _) .nil)) rfl (.inr ⟨rfl, ownL_root trivial⟩) rfl rfl) rfl rfl ?_
      refine OpsD.gp rfl g_2121 rfl (OpsD.st (s := 54488) (.pkT rfl g_2121 rfl) rfl rfl (OpsD.p rfl (OpsD.askO (x := .t 106) rfl h (fun g_2123 h => ?_) (fun g_2123 h => ?_))))
      · refine OpsD.gp rfl g_2123 rfl (OpsD.gp rfl g_2123 rfl (OpsD.gp rfl g_2123 rfl (OpsD.gp rfl g_2123 rfl ?_)))
        obtain ⟨y_2124, hy_2124, h⟩ := bindO h
        refine OpsD.gs (s := 54584) rfl g_2123 (Ev.call [] [1, 2, 3, 4] 0 (sem_spec_l16ConfIndex N (Node.mk x_1.n.Id x_1.n.Term x_1.n.Vote x_1.n.Role x_1.n.Lead x_1.n.Conf x_1.n.Log v_1619 x_1.n.Clock x_1.n.Limit x_1.n.Votes x_1.n.Peers) _ hy_2124) rfl rfl (.cons (.agg (.cons (.c _) (.cons (.c _) (.cons (.c _) (.cons (.c _) (.cons (.c _) (.cons (.borrow rfl (by decide) (lendW (fun _ => rfl) _ rfl)) (.cons (.c _) (.cons (.c _) (.cons (.borrow rfl (by decide) (lendW (fun _ => rfl) _ rfl)) (.cons (.c _) (.cons (.c _) (.cons (.c _) (.cons (.borrow rfl (by decide) (lendW (fun _ => rfl) _ rfl)) (.cons (.borrow rfl (by decide) (lendW (fun _ => rfl) _ rfl)) .nil))))))))))))))) .nil) rfl (.inr ⟨rfl, ownL_root trivial⟩) rfl rfl) rfl rfl ?_
        refine OpsD.gp rfl g_2123 rfl (OpsD.gp rfl g_2123 rfl (OpsD.gp rfl g_2123 rfl (OpsD.gp rfl g_2123 rfl (OpsD.gp rfl g_2123 rfl (OpsD.gp rfl g_2123 rfl (OpsD.st (s := 54696) (.pkT rfl g_2123 rfl) rfl rfl (OpsD.nil ⟨by kernel_rfl, ?_⟩)))))))
        refine Run.condO rfl h (fun g_2125 h => ?_) (fun g_2125 h => ?_)
        · refine Run.ops hm (Ops.p rfl ?_)
          obtain ⟨y_2127, hy_2127, h⟩ := bindO h
          refine Ops.st (s := 58360) (Ev.call [0, 1, 2, 3, 4, 5] [] 2 (sem_spec_l16Follow N (Tl16Run.mk (Node.mk x_1.n.Id x_1.n.Term x_1.n.Vote x_1.n.Role x_1.n.Lead x_1.n.Conf x_1.n.Log v_1619 x_1.n.Clock x_1.n.Limit x_1.n.Votes x_1.n.Peers) x_1.told) (0 : Int) _ hy_2127) rfl rfl (.cons (.ptr rfl) (.cons (.c _) .nil)) rfl (.inl rfl) rfl rfl) rfl rfl (Ops.nil ?_)
          obtain rfl := someO h
          exact Ends.mkG (.inr rfl) rfl (Gh.trans (Gh.trans (gh_prn [] [0, 1, 2, 3, 4, 5, 58360, 58361] hB rfl) (gh_mvE [] [1, 2, 5] hB rfl rfl)) (gh_pk [] [0, 1, 2, 3, 4, 5, 30000001, 30000002, 58360, 58361, 30000005] hB rfl rfl rfl rfl)) rfl rfl
        · refine Run.skip ?_
          obtain rfl := someO h
          exact Ends.mkG (.inr rfl) rfl (Gh.trans (Gh.trans (gh_prn [] [0, 1, 2, 3, 4, 5] hB rfl) (gh_mvE [] [1, 2, 3, 4, 5] hB rfl rfl)) (gh_pk [] [0, 1, 2, 3, 4, 5, 30000001, 30000002, 30000003, 30000004, 30000005] hB rfl rfl rfl rfl)) rfl rfl
      · refine OpsD.gn rfl g_2123 (OpsD.gn rfl g_2123 (OpsD.gn rfl g_2123 (OpsD.gn rfl g_2123 (OpsD.gn rfl g_2123 (OpsD.gn rfl g_2123 (OpsD.gn rfl g_2123 (OpsD.gn rfl g_2123 (OpsD.gn rfl g_2123 (OpsD.gn rfl g_2123 (OpsD.gn rfl g_2123 (OpsD.st (s := 54696) (.pkF rfl g_2123 rfl) rfl rfl (OpsD.nil ⟨by kernel_rfl, ?_⟩))))))))))))
        refine Run.condF rfl rfl (Run.skip ?_)
        obtain rfl := someO h
        exact Ends.mkG (.inr rfl) rfl (Gh.trans (Gh.trans (gh_prn [] [0, 1, 2, 3, 4, 5] hB rfl) (gh_mvE [] [1, 2, 3, 4, 5] hB rfl rfl)) (gh_pk [] [0, 1, 2, 3, 4, 5, 30000001, 30000002, 30000003, 30000004, 30000005] hB rfl rfl rfl rfl)) rfl rfl
    · refine OpsD.gn rfl g_2121 (OpsD.gn rfl g_2121 (OpsD.gn rfl g_2121 (OpsD.gn rfl g_2121 (OpsD.gn rfl g_2121 (OpsD.gn rfl g_2121 (OpsD.gn rfl g_2121 (OpsD.gn rfl g_2121 (OpsD.st (s := 54488) (.pkF rfl g_2121 rfl) rfl rfl (OpsD.p rfl (OpsD.gn rfl rfl (OpsD.gn rfl rfl (OpsD.gn rfl rfl (OpsD.gn rfl rfl (OpsD.gn rfl rfl (OpsD.gn rfl rfl (OpsD.gn rfl rfl (OpsD.gn rfl rfl (OpsD.gn rfl rfl (OpsD.gn rfl rfl (OpsD.gn rfl rfl (OpsD.st (s := 54696) (.pkF rfl rfl rfl) rfl rfl (OpsD.nil ⟨by kernel_rfl, ?_⟩))))))))))))))))))))))
      refine Run.condF rfl rfl (Run.skip ?_)
      obtain rfl := someO h
      exact Ends.mkG (.inr rfl) rfl (Gh.trans (Gh.trans (gh_prn [] [0, 1, 2, 3, 4, 5] hB rfl) (gh_mvE [] [1, 2, 3, 4, 5] hB rfl rfl)) (gh_pk [] [0, 1, 2, 3, 4, 5, 30000001, 30000002, 30000003, 30000004, 30000005] hB rfl rfl rfl rfl)) rfl rfl
def spec_l16Tell (N : Nat) (x_1 : Tl16Run) (x_2 : Message) : Option (Tl16Run) :=
 (cat? x_1.told ([(Message.mk x_2.Kind x_1.n.Id x_2.To x_1.n.Term x_2.Index x_2.LogTerm x_2.Commit x_2.Ok ([]) x_2.Conf x_2.Data x_2.Last)] : List Message)).bind fun x_103 =>
 some (Tl16Run.mk x_1.n x_103)
theorem sem_spec_l16Tell (N : Nat) (x_1 : Tl16Run) (x_2 : Message) (r : Tl16Run) (h : spec_l16Tell N x_1 x_2 = some r) : Says Try.prog 116 [.ptr 0 0, .agg [VI x_2.Kind, VI x_2.From, VI x_2.To, VI x_2.Term, VI x_2.Index, VI x_2.LogTerm, VI x_2.Commit, VB x_2.Ok, NI 51, .sl 1 3 0 x_2.Conf.length, VS x_2.Data, VB x_2.Last]] 7 [(0, .box [VI x_1.n.Id, VI x_1.n.Term, VI x_1.n.Vote, VI x_1.n.Role, VI x_1.n.Lead, .sl 2 3 0 x_1.n.Conf.length, VI x_1.n.Log.Start, VI x_1.n.Log.StartTerm, .sl 3 51 0 x_1.n.Log.Entries.length, VI x_1.n.Commit, VI x_1.n.Clock, VI x_1.n.Limit, .sl 4 3 0 x_1.n.Votes.length, .sl 5 135 0 x_1.n.Peers.length, .sl 6 58 0 x_1.told.length]), (1, .vec 3 (x_2.Conf.map encI)), (2, .vec 3 (x_1.n.Conf.map encI)), (3, .vec 51 (x_1.n.Log.Entries.map encEntry)), (4, .vec 3 (x_1.n.Votes.map encI)), (5, .vec 135 (x_1.n.Peers.map encPeer)), (6, .vec 58 (x_1.told.map (encMessage true)))] (.tup []) [(0, .box [VI r.n.Id, VI r.n.Term, VI r.n.Vote, VI r.n.Role, VI r.n.Lead, .sl 2 3 0 x_1.n.Conf.length, VI r.n.Log.Start, VI r.n.Log.StartTerm, .sl 3 51 0 x_1.n.Log.Entries.length, VI r.n.Commit, VI r.n.Clock, VI r.n.Limit, .sl 4 3 0 x_1.n.Votes.length, .sl 5 135 0 x_1.n.Peers.length, .sl 7 58 0 r.told.length]), (1, .gone), (2, .vec 3 (x_1.n.Conf.map encI)), (3, .vec 51 (x_1.n.Log.Entries.map encEntry)), (4, .vec 3 (x_1.n.Votes.map encI)), (5, .vec 135 (x_1.n.Peers.map encPeer)), (6, .gone), (7, .vec 58 (r.told.map (encMessage true)))] := by
  unfold spec_l16Tell at h
  refine Says.of_run s116 Try.call116 rfl fun B hB => ?_
  have hm : B.m ≤ 1000 := by omega
  refine Run.seq (Run.ops hm (Ops.st (s := 1000) (.bx rfl rfl) rfl rfl (Ops.nil (Run.seq (Run.ops hm (Ops.p rfl (Ops.p rfl (Ops.p rfl (Ops.p rfl (Ops.p rfl (Ops.p rfl (Ops.s0 (s := 5192) (.sto rfl rfl rfl rfl rfl rfl) rfl rfl (Ops.nil (Run.seq (Run.ops hm (Ops.p rfl (Ops.p rfl (Ops.p rfl (Ops.p rfl (Ops.p rfl (Ops.p rfl (Ops.s0 (s := 9288) (.sto rfl rfl rfl rfl rfl rfl) rfl rfl (Ops.nil (Run.draw hm hmix (OpsD.p rfl (OpsD.p rfl (OpsD.p rfl (OpsD.p rfl (OpsD.p rfl (OpsD.p rfl (OpsD.st (s := 13384) (Ev.bsW (ys := ([(Message.mk x_2.Kind x_1.n.Id x_2.To x_1.n.Term x_2.Index x_2.LogTerm x_2.Commit x_2.Ok ([]) x_2.Conf x_2.Data x_2.Last)] : List Message)) (f := (encMessage true)) rfl (.cons (.c _) (.cons (.c _) (.cons (.c _) (.cons (.c _) (.cons (.c _) (.cons (.c _) (.cons (.c _) (.cons (.c _) (.cons (.c _) (.cons (.own rfl (lenmap rfl)) (.cons (.c _) (.cons (.c _) .nil)))))))))))) rfl rfl rfl rfl rfl) rfl rfl ?_)))))))))))))))))))))))))))))))
  obtain ⟨x_103, hx_103, h⟩ := bindO h
  refine OpsD.st (s := 13400) (Ev.apW (f := (encMessage true)) (ontoW rfl rfl rfl) (addsO rfl rfl rfl) rfl bt58 rfl hx_103) rfl rfl (OpsD.p rfl (OpsD.p rfl (OpsD.s0 (s := 13448) (.sto rfl rfl rfl rfl rfl rfl) rfl rfl (OpsD.nil ⟨by kernel_rfl, ?_⟩))))
  obtain rfl := someO h
  exact Ends.mkG (.inr rfl) rfl (gh_pk [] [0, 1, 2, 3, 4, 5, 6, 13400] hB rfl rfl rfl rfl) rfl rfl
def spec_l16Tell_i1 (N : Nat) (x_1 : Tl16Run) (x_2 : Message) : Option (Tl16Run) :=
 (cat? x_1.told ([(Message.mk x_2.Kind x_1.n.Id x_2.To x_1.n.Term x_2.Index x_2.LogTerm x_2.Commit x_2.Ok x_2.Entries x_2.Conf x_2.Data x_2.Last)] : List Message)).bind fun x_103 =>
 some (Tl16Run.mk x_1.n x_103)
theorem sem_spec_l16Tell_i1 (N : Nat) (x_1 : Tl16Run) (x_2 : Message) (r : Tl16Run) (h : spec_l16Tell_i1 N x_1 x_2 = some r) : Says Try.prog 116 [.ptr 0 0, .agg [VI x_2.Kind, VI x_2.From, VI x_2.To, VI x_2.Term, VI x_2.Index, VI x_2.LogTerm, VI x_2.Commit, VB x_2.Ok, .sl 1 51 0 x_2.Entries.length, .sl 2 3 0 x_2.Conf.length, VS x_2.Data, VB x_2.Last]] 8 [(0, .box [VI x_1.n.Id, VI x_1.n.Term, VI x_1.n.Vote, VI x_1.n.Role, VI x_1.n.Lead, .sl 3 3 0 x_1.n.Conf.length, VI x_1.n.Log.Start, VI x_1.n.Log.StartTerm, .sl 4 51 0 x_1.n.Log.Entries.length, VI x_1.n.Commit, VI x_1.n.Clock, VI x_1.n.Limit, .sl 5 3 0 x_1.n.Votes.length, .sl 6 135 0 x_1.n.Peers.length, .sl 7 58 0 x_1.told.length]), (1, .vec 51 (x_2.Entries.map encEntry)), (2, .vec 3 (x_2.Conf.map encI)), (3, .vec 3 (x_1.n.Conf.map encI)), (4, .vec 51 (x_1.n.Log.Entries.map encEntry)), (5, .vec 3 (x_1.n.Votes.map encI)), (6, .vec 135 (x_1.n.Peers.map encPeer)), (7, .vec 58 (x_1.told.map (encMessage true)))] (.tup []) [(0, .box [VI r.n.Id, VI r.n.Term, VI r.n.Vote, VI r.n.Role, VI r.n.Lead, .sl 3 3 0 x_1.n.Conf.length, VI r.n.Log.Start, VI r.n.Log.StartTerm, .sl 4 51 0 x_1.n.Log.Entries.length, VI r.n.Commit, VI r.n.Clock, VI r.n.Limit, .sl 5 3 0 x_1.n.Votes.length, .sl 6 135 0 x_1.n.Peers.length, .sl 8 58 0 r.told.length]), (1, .gone), (2, .gone), (3, .vec 3 (x_1.n.Conf.map encI)), (4, .vec 51 (x_1.n.Log.Entries.map encEntry)), (5, .vec 3 (x_1.n.Votes.map encI)), (6, .vec 135 (x_1.n.Peers.map encPeer)), (7, .gone), (8, .vec 58 (r.told.map (encMessage true)))] := by
  unfold spec_l16Tell_i1 at h
  refine Says.of_run s116 Try.call116 rfl fun B hB => ?_
  have hm : B.m ≤ 1000 := by omega
  refine Run.seq (Run.ops hm (Ops.st (s := 1000) (.bx rfl rfl) rfl rfl (Ops.nil (Run.seq (Run.ops hm (Ops.p rfl (Ops.p rfl (Ops.p rfl (Ops.p rfl (Ops.p rfl (Ops.p rfl (Ops.s0 (s := 5192) (.sto rfl rfl rfl rfl rfl rfl) rfl rfl (Ops.nil (Run.seq (Run.ops hm (Ops.p rfl (Ops.p rfl (Ops.p rfl (Ops.p rfl (Ops.p rfl (Ops.p rfl (Ops.s0 (s := 9288) (.sto rfl rfl rfl rfl rfl rfl) rfl rfl (Ops.nil (Run.draw hm hmix (OpsD.p rfl (OpsD.p rfl (OpsD.p rfl (OpsD.p rfl (OpsD.p rfl (OpsD.p rfl (OpsD.st (s := 13384) (Ev.bsW (ys := ([(Message.mk x_2.Kind x_1.n.Id x_2.To x_1.n.Term x_2.Index x_2.LogTerm x_2.Commit x_2.Ok x_2.Entries x_2.Conf x_2.Data x_2.Last)] : List Message)) (f := (encMessage true)) rfl (.cons (.c _) (.cons (.c _) (.cons (.c _) (.cons (.c _) (.cons (.c _) (.cons (.c _) (.cons (.c _) (.cons (.c _) (.cons (.own rfl (lenmap rfl)) (.cons (.own rfl (lenmap rfl)) (.cons (.c _) (.cons (.c _) .nil)))))))))))) rfl rfl rfl rfl rfl) rfl rfl ?_)))))))))))))))))))))))))))))))
  obtain ⟨x_103, hx_103, h⟩ := bindO h
  refine OpsD.st (s := 13400) (Ev.apW (f := (encMessage true)) (ontoW rfl rfl rfl) (addsO rfl rfl rfl) rfl bt58 rfl hx_103) rfl rfl (OpsD.p rfl (OpsD.p rfl (OpsD.s0 (s := 13448) (.sto rfl rfl rfl rfl rfl rfl) rfl rfl (OpsD.nil ⟨by kernel_rfl, ?_⟩))))
  obtain rfl := someO h
  exact Ends.mkG (.inr rfl) rfl (gh_pk [] [0, 1, 2, 3, 4, 5, 6, 7, 13400] hB rfl rfl rfl rfl) rfl rfl
def spec_l16Send_l1 (N : Nat) (x_1 : Tl16Run) : Nat → Int → (List Entry) → Option ((List Entry))
 | 0, _, _ => none
 | m + 1, x_312, x_340 =>
 (if (decide (x_312 < ((x_1.n.Log.Entries.length : Nat) : Int))) = true then
 (if (decide (((x_340.length : Nat) : Int) < (4 : Int))) = true then
 (at? x_1.n.Log.Entries x_312).bind fun x_370 =>
 (cat? x_340 ([x_370] : List Entry)).bind fun x_371 =>
 spec_l16Send_l1 N x_1 m (w64 (x_312 + (1 : Int))) x_371
 else
 some x_340)
 else
 some x_340)
def spec_l16Send (N : Nat) (x_1 : Tl16Run) (x_2 : Peer) : Option (Tl16Run) :=
 (if (decide (x_2.Next ≤ x_1.n.Log.Start)) = true then
 (cat? ([] : List Int) x_1.n.Conf).bind fun x_245 =>
 (spec_l16Tell N x_1 (Message.mk (5 : Int) (0 : Int) x_2.Id (0 : Int) x_1.n.Log.Start x_1.n.Log.StartTerm x_2.Sent false ([]) x_245 (⟨#[]⟩ : ByteArray) false)).bind fun y_246 =>
 some (Tl16Run.mk (Node.mk y_246.n.Id y_246.n.Term y_246.n.Vote y_246.n.Role y_246.n.Lead x_1.n.Conf (Log.mk y_246.n.Log.Start y_246.n.Log.StartTerm x_1.n.Log.Entries) y_246.n.Commit y_246.n.Clock y_246.n.Limit x_1.n.Votes x_1.n.Peers) y_246.told)
 else
 (spec_LogTerm N x_1.n.Log (w64 (x_2.Next - (1 : Int)))).bind fun y_250 =>
 joinP (fun (v_311 : (List Entry)) =>
 (spec_l16Tell_i1 N x_1 (Message.mk (3 : Int) (0 : Int) x_2.Id (0 : Int) (w64 (x_2.Next - (1 : Int))) y_250 x_1.n.Commit false v_311 ([] : (List Int)) (⟨#[]⟩ : ByteArray) false)).bind fun y_373 =>
 some (Tl16Run.mk (Node.mk y_373.n.Id y_373.n.Term y_373.n.Vote y_373.n.Role y_373.n.Lead x_1.n.Conf (Log.mk y_373.n.Log.Start y_373.n.Log.StartTerm x_1.n.Log.Entries) y_373.n.Commit y_373.n.Clock y_373.n.Limit x_1.n.Votes x_1.n.Peers) y_373.told)) fun j_311 =>
 (spec_l16Send_l1 N x_1 N (w64 ((w64 (x_2.Next - x_1.n.Log.Start)) - (1 : Int))) ([] : (List Entry))).bind (fun (v_356 : (List Entry)) => j_311 v_356))
theorem sem_spec_l16Send (N : Nat) (x_1 : Tl16Run) (x_2 : Peer) (r : Tl16Run) (h : spec_l16Send N x_1 x_2 = some r) : Says Try.prog 156 [.ptr 0 0, .agg [VI x_2.Id, VI x_2.Next, VI x_2.Match, VI x_2.Sent]] 6 [(0, .box [VI x_1.n.Id, VI x_1.n.Term, VI x_1.n.Vote, VI x_1.n.Role, VI x_1.n.Lead, .sl 1 3 0 x_1.n.Conf.length, VI x_1.n.Log.Start, VI x_1.n.Log.StartTerm, .sl 2 51 0 x_1.n.Log.Entries.length, VI x_1.n.Commit, VI x_1.n.Clock, VI x_1.n.Limit, .sl 3 3 0 x_1.n.Votes.length, .sl 4 135 0 x_1.n.Peers.length, .sl 5 58 0 x_1.told.length]), (1, .vec 3 (x_1.n.Conf.map encI)), (2, .vec 51 (x_1.n.Log.Entries.map encEntry)), (3, .vec 3 (x_1.n.Votes.map encI)), (4, .vec 135 (x_1.n.Peers.map encPeer)), (5, .vec 58 (x_1.told.map (encMessage true)))] (.tup []) [(0, .box [VI r.n.Id, VI r.n.Term, VI r.n.Vote, VI r.n.Role, VI r.n.Lead, .sl 1 3 0 x_1.n.Conf.length, VI r.n.Log.Start, VI r.n.Log.StartTerm, .sl 2 51 0 x_1.n.Log.Entries.length, VI r.n.Commit, VI r.n.Clock, VI r.n.Limit, .sl 3 3 0 x_1.n.Votes.length, .sl 4 135 0 x_1.n.Peers.length, .sl 6 58 0 r.told.length]), (1, .vec 3 (x_1.n.Conf.map encI)), (2, .vec 51 (x_1.n.Log.Entries.map encEntry)), (3, .vec 3 (x_1.n.Votes.map encI)), (4, .vec 135 (x_1.n.Peers.map encPeer)), (5, .gone), (6, .vec 58 (r.told.map (encMessage true)))] := by
  unfold spec_l16Send at h
  refine Says.of_run s156 Try.call156 rfl fun B hB => ?_
  have hm : B.m ≤ 1000 := by omega
  refine Run.seq (Run.ops hm (Ops.st (s := 1000) (.bx rfl rfl) rfl rfl (Ops.nil (Run.seq (Run.ops hm (Ops.p rfl (Ops.p rfl (Ops.p rfl (Ops.p rfl (Ops.p rfl (Ops.st (s := 5176) (.al rfl rfl) rfl rfl (Ops.s0 (s := 5192) (.sto rfl rfl rfl rfl rfl rfl) rfl rfl (Ops.nil (Run.seq (Run.seq (Run.ops hm (Ops.p rfl (Ops.p rfl (Ops.p rfl (Ops.p rfl (Ops.p rfl (Ops.nil (Run.condO rfl h (fun g_242 h => ?_) (fun g_242 h => ?_))))))))))))))))))))))))
  · refine Run.seq (Run.draw hm hmix (OpsD.p rfl (OpsD.p rfl (OpsD.p rfl (OpsD.p rfl (OpsD.p rfl (OpsD.p rfl (OpsD.p rfl (OpsD.st (s := 13400) (Ev.bsW (ys := ([] : List Int)) (f := encI) rfl .nil rfl rfl rfl rfl rfl) rfl rfl (OpsD.p rfl (OpsD.p rfl (OpsD.p rfl (OpsD.p rfl (OpsD.p rfl ?_))))))))))))))
    obtain ⟨x_245, hx_245, h⟩ := bindO h
    refine OpsD.st (s := 13496) (Ev.apW (f := encI) (ontoW rfl rfl rfl) (addsW rfl rfl rfl (fun _ => rfl)) rfl bt3 rfl hx_245) rfl rfl (OpsD.p rfl (OpsD.p rfl (OpsD.st (s := 13544) (.bd rfl rfl) rfl rfl ?_)))
    obtain ⟨y_246, hy_246, h⟩ := bindO h
    refine OpsD.st (s := 13560) (Ev.call [0, 13496, 1, 2, 3, 4, 5] [] 1 (sem_spec_l16Tell N x_1 (Message.mk (5 : Int) (0 : Int) x_2.Id (0 : Int) x_1.n.Log.Start x_1.n.Log.StartTerm x_2.Sent false ([]) x_245 (⟨#[]⟩ : ByteArray) false) _ hy_246) rfl rfl (.cons (.ptr rfl) (.cons (.agg (.cons (.c _) (.cons (.c _) (.cons (.c _) (.cons (.c _) (.cons (.c _) (.cons (.c _) (.cons (.c _) (.cons (.c _) (.cons (.c _) (.cons (.sl rfl) (.cons (.c _) (.cons (.c _) .nil))))))))))))) .nil)) rfl (.inl rfl) rfl rfl) rfl rfl (OpsD.nil ⟨by kernel_rfl, ?_⟩)
    refine Run.ret ?_
    obtain rfl := someO h
    exact Ends.mkG (.inl rfl) rfl (gh_pk [] [0, 1, 2, 3, 4, 5, 13560] hB rfl rfl rfl rfl) rfl rfl
  · refine Run.skip (Run.seq (Run.draw hm hmix (OpsD.p rfl (OpsD.p rfl (OpsD.p rfl (OpsD.p rfl (OpsD.p rfl (OpsD.p rfl (OpsD.p rfl (OpsD.p rfl (OpsD.p rfl ?_)))))))))))
    obtain ⟨y_250, hy_250, h⟩ := bindO h
    refine OpsD.st (s := 17528) (Ev.call [] [2] 0 (sem_spec_LogTerm N x_1.n.Log (w64 (x_2.Next - (1 : Int))) _ hy_250) rfl rfl (.cons (.agg (.cons (.c _) (.cons (.c _) (.cons (.borrow rfl (by decide) (lendW (fun _ => rfl) _ rfl)) .nil)))) (.cons (.c _) .nil)) rfl (.inr ⟨rfl, ownL_root trivial⟩) rfl rfl) rfl rfl ?_
    refine OpsD.p rfl (OpsD.p rfl (OpsD.p rfl (OpsD.p rfl (OpsD.p rfl (OpsD.st (s := 17624) (.bd rfl rfl) rfl rfl (OpsD.st (s := 17640) (.al rfl rfl) rfl rfl (OpsD.s0 (s := 17656) (.sto rfl rfl rfl rfl rfl rfl) rfl rfl (OpsD.nil ⟨by kernel_rfl, ?_⟩))))))))
    refine Run.seqO h (fun (v_311 : (List Entry)) => [(0, .ptr 0 0), (5, .ptr 6 0)]) (fun (v_311 : (List Entry)) => [(0, .box [VI x_1.n.Id, VI x_1.n.Term, VI x_1.n.Vote, VI x_1.n.Role, VI x_1.n.Lead, .sl 1 3 0 x_1.n.Conf.length, VI x_1.n.Log.Start, VI x_1.n.Log.StartTerm, .sl 2 51 0 x_1.n.Log.Entries.length, VI x_1.n.Commit, VI x_1.n.Clock, VI x_1.n.Limit, .sl 3 3 0 x_1.n.Votes.length, .sl 4 135 0 x_1.n.Peers.length, .sl 5 58 0 x_1.told.length]), (1, .vec 3 (x_1.n.Conf.map encI)), (2, .vec 51 (x_1.n.Log.Entries.map encEntry)), (3, .vec 3 (x_1.n.Votes.map encI)), (4, .vec 135 (x_1.n.Peers.map encPeer)), (5, .vec 58 (x_1.told.map (encMessage true))), (6, .box [VI (3 : Int), VI (0 : Int), VI x_2.Id, VI (0 : Int), VI (w64 (x_2.Next - (1 : Int))), VI y_250, VI x_1.n.Commit, VB false, .sl 7 51 0 v_311.length, .sl 8 3 0 (([] : (List Int)).length), VS (⟨#[]⟩ : ByteArray), VB false]), (7, .vec 51 (v_311.map encEntry)), (8, .vec 3 (([] : (List Int)).map encI))]) (fun h => ?_) (fun v_311 h => ?_)
    · refine Run.seq (Run.ops hm (Ops.p rfl (Ops.p rfl (Ops.p rfl (Ops.p rfl (Ops.p rfl (Ops.p rfl (Ops.p rfl (Ops.nil (Run.block ?_))))))))))
      obtain ⟨res_356, h, hk_356⟩ := bindO h
      refine Run.loop (n := N) (fun m_356 fr σ => ∃ (x_312 : Int), ∃ (x_340 : (List Entry)), spec_l16Send_l1 N x_1 m_356 x_312 x_340 = some res_356 ∧ fr = [(0, .ptr 0 0), (4, .ptr 6 0), (5, .ptr 7 0), (6, VI x_312)] ∧ σ = [(0, .box [VI x_1.n.Id, VI x_1.n.Term, VI x_1.n.Vote, VI x_1.n.Role, VI x_1.n.Lead, .sl 1 3 0 x_1.n.Conf.length, VI x_1.n.Log.Start, VI x_1.n.Log.StartTerm, .sl 2 51 0 x_1.n.Log.Entries.length, VI x_1.n.Commit, VI x_1.n.Clock, VI x_1.n.Limit, .sl 3 3 0 x_1.n.Votes.length, .sl 4 135 0 x_1.n.Peers.length, .sl 5 58 0 x_1.told.length]), (1, .vec 3 (x_1.n.Conf.map encI)), (2, .vec 51 (x_1.n.Log.Entries.map encEntry)), (3, .vec 3 (x_1.n.Votes.map encI)), (4, .vec 135 (x_1.n.Peers.map encPeer)), (5, .vec 58 (x_1.told.map (encMessage true))), (6, .box [VI x_1.n.Log.Start, VI x_1.n.Log.StartTerm, .sl 2 51 0 x_1.n.Log.Entries.length]), (7, .box [VI (3 : Int), VI (0 : Int), VI x_2.Id, VI (0 : Int), VI (w64 (x_2.Next - (1 : Int))), VI y_250, VI x_1.n.Commit, VB false, .sl 8 51 0 x_340.length, .sl 9 3 0 (([] : (List Int)).length), VS (⟨#[]⟩ : ByteArray), VB false]), (8, .vec 51 (x_340.map encEntry)), (9, .vec 3 (([] : (List Int)).map encI))]) (Gh.trans (Gh.trans (gh_prn [0, 4, 5, 6] [0, 1, 2, 3, 4, 5, 5176, 17640] hB rfl) (gh_nil [] [17640] hB rfl rfl rfl)) (gh_pk [0, 4, 5, 6] [0, 1, 2, 3, 4, 5, 5176, 17640, 20000000, 20000001] hB rfl rfl rfl rfl)) ⟨_, _, h, rfl, rfl⟩ ?_
      rintro m_356 fr σ ⟨x_312, x_340, h, rfl, rfl⟩
      obtain _ | m_356 := m_356
      · rw [spec_l16Send_l1] at h; cases h
      rw [spec_l16Send_l1] at h
      refine Run.seq (Run.seq (Run.ops hm (Ops.p rfl (Ops.p rfl (Ops.p rfl (Ops.p rfl (Ops.p rfl (Ops.p rfl (Ops.askO (x := .t 62) rfl h (fun g_362 h => ?_) (fun g_362 h => ?_))))))))))
      · refine Ops.gp rfl g_362 rfl (Ops.gp rfl g_362 rfl (Ops.gp rfl g_362 rfl (Ops.gp rfl g_362 rfl (Ops.st (s := 25736) (.pkT rfl g_362 rfl) rfl rfl (Ops.nil (Run.condO rfl h (fun g_363 h => ?_) (fun g_363 h => ?_)))))))
        · refine Run.skip (Run.seq (Run.block (Run.draw hm hmix (OpsD.p rfl (OpsD.p rfl (OpsD.p rfl (OpsD.p rfl (OpsD.p rfl ?_))))))))
          obtain ⟨x_370, hx_370, h⟩ := bindO h
          refine OpsD.st (s := 33848) (Ev.iaW rfl rfl rfl hx_370) rfl rfl (OpsD.st (s := 33864) (Ev.ldE (f := encEntry) rfl rfl (at_some hx_370).2 rfl rfl rfl) rfl rfl (OpsD.st (s := 33880) (Ev.bsW (ys := ([x_370] : List Entry)) (f := encEntry) rfl (.cons (.c _) (.cons (.c _) (.cons (.c _) .nil))) rfl rfl rfl rfl rfl) rfl rfl ?_))
          obtain ⟨x_371, hx_371, h⟩ := bindO h
          refine OpsD.st (s := 33896) (Ev.apW (f := encEntry) (ontoW rfl rfl rfl) (addsW rfl rfl rfl (fun _ => rfl)) rfl bt51 rfl hx_371) rfl rfl (OpsD.p rfl (OpsD.s0 (s := 33928) (.sto rfl rfl rfl rfl rfl rfl) rfl rfl (OpsD.nil ⟨by kernel_rfl, ?_⟩)))
          exact Run.ops hm (Ops.p rfl (Ops.p rfl (Ops.p rfl (Ops.nil (⟨m_356, Nat.lt_succ_self m_356, _, _, (gh_pk [0, 4, 5, 6] [0, 1, 2, 3, 4, 5, 6, 7, 33896, 9] hB rfl rfl rfl rfl), _, _, h, rfl, rfl⟩)))))
        · refine Run.exit ?_
          obtain rfl := someO h
          have h := hk_356
          exact ⟨_, _, (gh_pk [0, 5] [0, 1, 2, 3, 4, 5, 7, 8, 9] hB rfl rfl rfl rfl), x_340, h, rfl, rfl⟩
      · refine Ops.gn rfl g_362 (Ops.gn rfl g_362 (Ops.gn rfl g_362 (Ops.gn rfl g_362 (Ops.st (s := 25736) (.pkF rfl g_362 rfl) rfl rfl (Ops.nil (Run.condF rfl rfl (Run.exit ?_)))))))
        obtain rfl := someO h
        have h := hk_356
        exact ⟨_, _, (gh_pk [0, 5] [0, 1, 2, 3, 4, 5, 7, 8, 9] hB rfl rfl rfl rfl), x_340, h, rfl, rfl⟩
    · refine Run.ops hm (Ops.p rfl (Ops.p rfl ?_))
      obtain ⟨y_373, hy_373, h⟩ := bindO h
      refine Ops.st (s := 37896) (Ev.call [0, 7, 8, 1, 2, 3, 4, 5] [] 1 (sem_spec_l16Tell_i1 N x_1 (Message.mk (3 : Int) (0 : Int) x_2.Id (0 : Int) (w64 (x_2.Next - (1 : Int))) y_250 x_1.n.Commit false v_311 ([] : (List Int)) (⟨#[]⟩ : ByteArray) false) _ hy_373) rfl rfl (.cons (.ptr rfl) (.cons (.agg (.cons (.c _) (.cons (.c _) (.cons (.c _) (.cons (.c _) (.cons (.c _) (.cons (.c _) (.cons (.c _) (.cons (.c _) (.cons (.sl rfl) (.cons (.sl rfl) (.cons (.c _) (.cons (.c _) .nil))))))))))))) .nil)) rfl (.inl rfl) rfl rfl) rfl rfl (Ops.nil ?_)
      obtain rfl := someO h
      exact Ends.mkG (.inr rfl) rfl (gh_pk [] [0, 1, 2, 3, 4, 5, 37896] hB rfl rfl rfl rfl) rfl rfl
def spec_l16SendAll_l1 (N : Nat) (x_1 : Tl16Run) : Nat → Int → Int → Int → Int → Int → Int → Int → Int → Int → Int → Int → (List Message) → Option (Int × Int × Int × Int × Int × Int × Int × Int × Int × Int × (List Message))
 | 0, _, _, _, _, _, _, _, _, _, _, _, _ => none
 | m + 1, x_190, x_191, x_192, x_193, x_194, x_195, x_196, x_197, x_198, x_199, x_200, x_205 =>
 (if (decide (x_190 < ((x_1.n.Peers.length : Nat) : Int))) = true then
 (at? x_1.n.Peers x_190).bind fun x_226 =>
 (spec_l16Send N (Tl16Run.mk (Node.mk x_191 x_192 x_193 x_194 x_195 x_1.n.Conf (Log.mk x_196 x_197 x_1.n.Log.Entries) x_198 x_199 x_200 x_1.n.Votes x_1.n.Peers) x_205) x_226).bind fun y_227 =>
 spec_l16SendAll_l1 N x_1 m (w64 (x_190 + (1 : Int))) y_227.n.Id y_227.n.Term y_227.n.Vote y_227.n.Role y_227.n.Lead y_227.n.Log.Start y_227.n.Log.StartTerm y_227.n.Commit y_227.n.Clock y_227.n.Limit y_227.told
 else
 some (x_191, x_192, x_193, x_194, x_195, x_196, x_197, x_198, x_199, x_200, x_205))
def spec_l16SendAll (N : Nat) (x_1 : Tl16Run) : Option (Tl16Run) :=
 (spec_l16SendAll_l1 N x_1 N (0 : Int) x_1.n.Id x_1.n.Term x_1.n.Vote x_1.n.Role x_1.n.Lead x_1.n.Log.Start x_1.n.Log.StartTerm x_1.n.Commit x_1.n.Clock x_1.n.Limit x_1.told).bind (fun (v_216 : Int × Int × Int × Int × Int × Int × Int × Int × Int × Int × (List Message)) => some (Tl16Run.mk (Node.mk v_216.1 v_216.2.1 v_216.2.2.1 v_216.2.2.2.1 v_216.2.2.2.2.1 x_1.n.Conf (Log.mk v_216.2.2.2.2.2.1 v_216.2.2.2.2.2.2.1 x_1.n.Log.Entries) v_216.2.2.2.2.2.2.2.1 v_216.2.2.2.2.2.2.2.2.1 v_216.2.2.2.2.2.2.2.2.2.1 x_1.n.Votes x_1.n.Peers) v_216.2.2.2.2.2.2.2.2.2.2))
theorem sem_spec_l16SendAll (N : Nat) (x_1 : Tl16Run) (r : Tl16Run) (h : spec_l16SendAll N x_1 = some r) : Says Try.prog 88 [.ptr 0 0] 6 [(0, .box [VI x_1.n.Id, VI x_1.n.Term, VI x_1.n.Vote, VI x_1.n.Role, VI x_1.n.Lead, .sl 1 3 0 x_1.n.Conf.length, VI x_1.n.Log.Start, VI x_1.n.Log.StartTerm, .sl 2 51 0 x_1.n.Log.Entries.length, VI x_1.n.Commit, VI x_1.n.Clock, VI x_1.n.Limit, .sl 3 3 0 x_1.n.Votes.length, .sl 4 135 0 x_1.n.Peers.length, .sl 5 58 0 x_1.told.length]), (1, .vec 3 (x_1.n.Conf.map encI)), (2, .vec 51 (x_1.n.Log.Entries.map encEntry)), (3, .vec 3 (x_1.n.Votes.map encI)), (4, .vec 135 (x_1.n.Peers.map encPeer)), (5, .vec 58 (x_1.told.map (encMessage true)))] (.tup []) [(0, .box [VI r.n.Id, VI r.n.Term, VI r.n.Vote, VI r.n.Role, VI r.n.Lead, .sl 6 3 0 r.n.Conf.length, VI r.n.Log.Start, VI r.n.Log.StartTerm, .sl 7 51 0 r.n.Log.Entries.length, VI r.n.Commit, VI r.n.Clock, VI r.n.Limit, .sl 8 3 0 r.n.Votes.length, .sl 9 135 0 r.n.Peers.length, .sl 10 58 0 r.told.length]), (1, .gone), (2, .gone), (3, .gone), (4, .gone), (5, .gone), (6, .vec 3 (r.n.Conf.map encI)), (7, .vec 51 (r.n.Log.Entries.map encEntry)), (8, .vec 3 (r.n.Votes.map encI)), (9, .vec 135 (r.n.Peers.map encPeer)), (10, .vec 58 (r.told.map (encMessage true)))] := by
  unfold spec_l16SendAll at h
  refine Says.of_run s88 Try.call88 rfl fun B hB => ?_
  have hm : B.m ≤ 1000 := by omega
  refine Run.seq (Run.ops hm (Ops.p rfl (Ops.nil (Run.block ?_))))
  obtain ⟨res_216, h, hk_216⟩ := bindO h
  refine Run.loop (n := N) (fun m_216 fr σ => ∃ (x_190 : Int), ∃ (x_191 : Int), ∃ (x_192 : Int), ∃ (x_193 : Int), ∃ (x_194 : Int), ∃ (x_195 : Int), ∃ (x_196 : Int), ∃ (x_197 : Int), ∃ (x_198 : Int), ∃ (x_199 : Int), ∃ (x_200 : Int), ∃ (x_205 : (List Message)), spec_l16SendAll_l1 N x_1 m_216 x_190 x_191 x_192 x_193 x_194 x_195 x_196 x_197 x_198 x_199 x_200 x_205 = some res_216 ∧ fr = [(0, .ptr 0 0), (2, VI x_190)] ∧ σ = [(0, .box [VI x_191, VI x_192, VI x_193, VI x_194, VI x_195, .sl 6 3 0 x_1.n.Conf.length, VI x_196, VI x_197, .sl 7 51 0 x_1.n.Log.Entries.length, VI x_198, VI x_199, VI x_200, .sl 8 3 0 x_1.n.Votes.length, .sl 9 135 0 x_1.n.Peers.length, .sl 10 58 0 x_205.length]), (1, .gone), (2, .gone), (3, .gone), (4, .gone), (5, .gone), (6, .vec 3 (x_1.n.Conf.map encI)), (7, .vec 51 (x_1.n.Log.Entries.map encEntry)), (8, .vec 3 (x_1.n.Votes.map encI)), (9, .vec 135 (x_1.n.Peers.map encPeer)), (10, .vec 58 (x_205.map (encMessage true)))]) (Gh.trans (Gh.trans (gh_prn [0, 2] [0, 1, 2, 3, 4, 5] hB rfl) (gh_mvE [0, 2] [1, 2, 3, 4, 5] hB rfl rfl)) (gh_pk [0, 2] [0, 1, 2, 3, 4, 5, 30000001, 30000002, 30000003, 30000004, 30000005] hB rfl rfl rfl rfl)) ⟨_, _, _, _, _, _, _, _, _, _, _, _, h, rfl, rfl⟩ ?_
  rintro m_216 fr σ ⟨x_190, x_191, x_192, x_193, x_194, x_195, x_196, x_197, x_198, x_199, x_200, x_205, h, rfl, rfl⟩
  obtain _ | m_216 := m_216
  · rw [spec_l16SendAll_l1] at h; cases h
  rw [spec_l16SendAll_l1] at h
  refine Run.seq (Run.seq (Run.ops hm (Ops.p rfl (Ops.p rfl (Ops.p rfl (Ops.p rfl (Ops.p rfl (Ops.p rfl (Ops.p rfl (Ops.p rfl (Ops.nil (Run.condO rfl h (fun g_219 h => ?_) (fun g_219 h => ?_)))))))))))))
  · refine Run.skip (Run.seq (Run.block (Run.ops hm (Ops.p rfl (Ops.p rfl (Ops.p rfl (Ops.p rfl (Ops.p rfl (Ops.p rfl (Ops.p rfl ?_))))))))))
    obtain ⟨x_226, hx_226, h⟩ := bindO h
    refine Ops.st (s := 13400) (Ev.iaW rfl rfl rfl hx_226) rfl rfl (Ops.st (s := 13416) (Ev.ldE (f := encPeer) rfl rfl (at_some hx_226).2 rfl rfl rfl) rfl rfl ?_)
    obtain ⟨y_227, hy_227, h⟩ := bindO h
    exact Ops.st (s := 13432) (Ev.call [0, 6, 7, 8, 9, 10] [] 1 (sem_spec_l16Send N (Tl16Run.mk (Node.mk x_191 x_192 x_193 x_194 x_195 x_1.n.Conf (Log.mk x_196 x_197 x_1.n.Log.Entries) x_198 x_199 x_200 x_1.n.Votes x_1.n.Peers) x_205) x_226 _ hy_227) rfl rfl (.cons (.ptr rfl) (.cons (.agg (.cons (.c _) (.cons (.c _) (.cons (.c _) (.cons (.c _) .nil))))) .nil)) rfl (.inl rfl) rfl rfl) rfl rfl (Ops.nil (Run.ops hm (Ops.p rfl (Ops.p rfl (Ops.p rfl (Ops.nil (⟨m_216, Nat.lt_succ_self m_216, _, _, (gh_pk [0, 2] [0, 1, 2, 3, 4, 5, 6, 7, 8, 9, 13432] hB rfl rfl rfl rfl), _, _, _, _, _, _, _, _, _, _, _, _, h, rfl, rfl⟩)))))))
  · refine Run.exit ?_
    obtain rfl := someO h
    have h := hk_216
    obtain rfl := someO h
    exact Ends.mkG (.inr rfl) rfl (gh_pk [] [0, 1, 2, 3, 4, 5, 6, 7, 8, 9, 10] hB rfl rfl rfl rfl) rfl rfl
end Go.Proofs.Ytehknbpmpbghhaa.Pe.FnExactPropose
