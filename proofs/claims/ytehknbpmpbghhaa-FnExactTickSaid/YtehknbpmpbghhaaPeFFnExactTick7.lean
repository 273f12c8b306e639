/- Functions, as pure functions; and that Go does just that. -/
import Derived.Test.YtehknbpmpbghhaaPeFFnExactTick6
namespace Go.Proofs.Ytehknbpmpbghhaa.Pe.FnExactTick
open Go Go.RowKit
set_option linter.unusedVariables false
set_option linter.unusedSimpArgs false
set_option maxHeartbeats 40000000
def laws_eqPeerS_l1 (N : Nat) (x_1 : (List Peer)) (x_2 : (List Peer)) : Nat → Int → Option ((Bool) ⊕ (Unit))
 | 0, _ => none
 | m + 1, x_222 =>
 (if (decide (x_222 < (x_1.length : Int))) = true then
 (at? x_1 x_222).bind fun x_254 =>
 (at? x_2 x_222).bind fun x_255 =>
 (laws_eqPeer N x_254 x_255).bind fun y_256 =>
 (if (!y_256) = true then
 some (Sum.inl false)
 else
 laws_eqPeerS_l1 N x_1 x_2 m (w64 (x_222 + (1 : Int))))
 else
 some (Sum.inr ()))
def laws_eqPeerS_l1_r (N : Nat) (x_1 : (List Peer)) (x_2 : (List Peer)) : (List Peer) → Int → Option ((Bool) ⊕ (Unit))
 | [], x_222 =>
 some (Sum.inr ())
 | hd :: tl, x_222 =>
 (some hd).bind fun x_254 =>
 (at? x_2 x_222).bind fun x_255 =>
 (laws_eqPeer N x_254 x_255).bind fun y_256 =>
 (if (!y_256) = true then
 some (Sum.inl false)
 else
 laws_eqPeerS_l1_r N x_1 x_2 tl (w64 (x_222 + (1 : Int))))
theorem laws_eqPeerS_l1_rng (N : Nat) (x_1 : (List Peer)) (x_2 : (List Peer)) (hx : x_1.length ≤ 1099511627776) : ∀ (d k m : Nat), x_1.length = k + d → d < m → laws_eqPeerS_l1 N x_1 x_2 m (k : Int) = laws_eqPeerS_l1_r N x_1 x_2 (x_1.drop k) (k : Int) := by
  intro d
  induction d with
  | zero =>
    intro k m hd hm
    obtain ⟨m, rfl⟩ : ∃ q, m = q + 1 := ⟨m - 1, by omega⟩
    rw [laws_eqPeerS_l1, if_neg (by simp; omega), List.drop_eq_nil_of_le (by omega), laws_eqPeerS_l1_r]
  | succ d ih =>
    intro k m hd hm
    obtain ⟨m, rfl⟩ : ∃ q, m = q + 1 := ⟨m - 1, by omega⟩
    have hk : k < x_1.length := by omega
    rw [laws_eqPeerS_l1, if_pos (by simp; omega), List.drop_eq_getElem_cons hk, laws_eqPeerS_l1_r]
    have h1 := at_lt hk
    have h2 := w64_succ (k := k) (by omega)
    have h3 := ih (k + 1) m
    simp only [h1, h2, h3 (by omega) (by omega)]
theorem laws_eqPeerS_l1_eq {N : Nat} (x_1 : (List Peer)) (x_2 : (List Peer)) (hx : x_1.length ≤ 1099511627776) (hN : x_1.length < N) : laws_eqPeerS_l1 N x_1 x_2 N 0 = laws_eqPeerS_l1_r N x_1 x_2 x_1 0 := laws_eqPeerS_l1_rng N x_1 x_2 hx x_1.length 0 N (by omega) hN
def laws_eqPeerS (N : Nat) (x_1 : (List Peer)) (x_2 : (List Peer)) : Option (Bool) :=
 (if ((x_1.length : Int) != (x_2.length : Int)) = true then
 some false
 else
 joinP (fun (v_219 : Unit) =>
 some true) fun j_219 =>
 (laws_eqPeerS_l1 N x_1 x_2 N (0 : Int)).bind (Sum.elim (fun v_239 => some v_239) (fun (v_240 : Unit) => j_219 ())))
theorem sem_laws_eqPeerS (N : Nat) (x_1 : (List Peer)) (x_2 : (List Peer)) (r : Bool) (h : laws_eqPeerS N x_1 x_2 = some r) : Says Try.prog 102 [RO 135 (x_1.map encPeer), RO 135 (x_2.map encPeer)] 0 [] (VB r) [] := by
  unfold laws_eqPeerS at h
  refine Says.of_run s102 Try.call102 rfl fun B hB => ?_
  have hm : B.m ≤ 1000 := by omega
  refine Run.seq (Run.ops hm (Ops.p rfl (Ops.nil (Run.seq (Run.seq (Run.ops hm (Ops.p rfl (Ops.st (s := 5112) (Ev.lnF rfl) rfl rfl (Ops.p rfl (Ops.st (s := 5144) (Ev.lnF rfl) rfl rfl (Ops.p rfl (Ops.nil (Run.condO rfl h (fun g_180 h => ?_) (fun g_180 h => ?_))))))))))))))
  · refine Run.seq (Run.ops hm (Ops.p rfl (Ops.nil (Run.ret ?_))))
    obtain rfl := someO h
    exact Ends.mkG (.inl rfl) rfl (gh_pk [0] [] hB rfl rfl rfl rfl) rfl rfl
  · refine Run.skip (Run.seqO h (fun (v_219 : Unit) => []) (fun (v_219 : Unit) => []) (fun h => ?_) (fun v_219 h => ?_))
    · refine Run.seq (Run.ops hm (Ops.p rfl (Ops.nil (Run.block ?_))))
      obtain ⟨res_240, h, hk_240⟩ := bindO h
      refine Run.loop (n := N) (fun m_240 fr σ => ∃ (x_222 : Int), laws_eqPeerS_l1 N x_1 x_2 m_240 x_222 = some res_240 ∧ fr = [(0, RO 135 (x_1.map encPeer)), (1, RO 135 (x_2.map encPeer)), (5, VI x_222)] ∧ σ = []) (gh_pk [0, 1, 5] [] hB rfl rfl rfl rfl) ⟨_, h, rfl, rfl⟩ ?_
      rintro m_240 fr σ ⟨x_222, h, rfl, rfl⟩
      obtain _ | m_240 := m_240
      · rw [laws_eqPeerS_l1] at h; cases h
      rw [laws_eqPeerS_l1] at h
      refine Run.seq (Run.seq (Run.ops hm (Ops.p rfl (Ops.p rfl (Ops.st (s := 17416) (Ev.lnF rfl) rfl rfl (Ops.p rfl (Ops.nil (Run.condO rfl h (fun g_243 h => ?_) (fun g_243 h => ?_)))))))))
      · refine Run.skip (Run.seq (Run.block (Run.seq (Run.draw hm hmix (OpsD.p rfl (OpsD.p rfl ?_))))))
        obtain ⟨x_254, hx_254, h⟩ := bindO h
        refine OpsD.st (s := 25608) (Ev.iaF rfl rfl hx_254) rfl rfl (OpsD.p rfl (OpsD.p rfl (OpsD.p rfl ?_)))
        obtain ⟨x_255, hx_255, h⟩ := bindO h
        refine OpsD.st (s := 25672) (Ev.iaF rfl rfl hx_255) rfl rfl (OpsD.p rfl ?_)
        obtain ⟨y_256, hy_256, h⟩ := bindO h
        refine OpsD.st (s := 25704) (Ev.call [] [] 0 (sem_laws_eqPeer N x_254 x_255 _ hy_256) rfl rfl (.cons (.agg (.cons (.c _) (.cons (.c _) (.cons (.c _) (.cons (.c _) .nil))))) (.cons (.agg (.cons (.c _) (.cons (.c _) (.cons (.c _) (.cons (.c _) .nil))))) .nil)) rfl (.inl rfl) rfl rfl) rfl rfl (OpsD.p rfl (OpsD.nil ⟨by kernel_rfl, ?_⟩))
        refine Run.condO rfl h (fun g_257 h => ?_) (fun g_257 h => ?_)
        · refine Run.seq (Run.ops hm (Ops.p rfl (Ops.nil (Run.ret ?_))))
          obtain rfl := someO h
          have h := hk_240
          replace h := inlO h
          obtain rfl := someO h
          exact Ends.mkG (.inl rfl) rfl (gh_pk [0] [] hB rfl rfl rfl rfl) rfl rfl
        · exact Run.skip (Run.ops hm (Ops.p rfl (Ops.p rfl (Ops.p rfl (Ops.nil (⟨m_240, Nat.lt_succ_self m_240, _, _, (gh_pk [0, 1, 5] [] hB rfl rfl rfl rfl), _, h, rfl, rfl⟩))))))
      · refine Run.exit ?_
        obtain rfl := someO h
        have h := hk_240
        replace h := inrO h
        exact ⟨_, _, (gh_pk [] [] hB rfl rfl rfl rfl), (), h, rfl, rfl⟩
    · refine Run.seq (Run.ops hm (Ops.p rfl (Ops.nil (Run.ret ?_))))
      obtain rfl := someO h
      exact Ends.mkG (.inl rfl) rfl (gh_pk [0] [] hB rfl rfl rfl rfl) rfl rfl
def laws_eqNode (N : Nat) (x_1 : Node) (x_2 : Node) : Option (Bool) :=
 (if (x_1.Id != x_2.Id) = true then
 some false
 else
 (if (x_1.Term != x_2.Term) = true then
 some false
 else
 (if (x_1.Vote != x_2.Vote) = true then
 some false
 else
 (if (x_1.Role != x_2.Role) = true then
 some false
 else
 (if (x_1.Lead != x_2.Lead) = true then
 some false
 else
 (laws_eqIntS N x_1.Conf x_2.Conf).bind fun y_151 =>
 (if (!y_151) = true then
 some false
 else
 (laws_eqLog N x_1.Log x_2.Log).bind fun y_157 =>
 (if (!y_157) = true then
 some false
 else
 (if (x_1.Commit != x_2.Commit) = true then
 some false
 else
 (if (x_1.Clock != x_2.Clock) = true then
 some false
 else
 (if (x_1.Limit != x_2.Limit) = true then
 some false
 else
 (laws_eqIntS N x_1.Votes x_2.Votes).bind fun y_169 =>
 (if (!y_169) = true then
 some false
 else
 (laws_eqPeerS N x_1.Peers x_2.Peers).bind fun y_172 =>
 (if (!y_172) = true then
 some false
 else
 some true))))))))))))
theorem sem_laws_eqNode (N : Nat) (x_1 : Node) (x_2 : Node) (r : Bool) (h : laws_eqNode N x_1 x_2 = some r) : Says Try.prog 31 [.agg [VI x_1.Id, VI x_1.Term, VI x_1.Vote, VI x_1.Role, VI x_1.Lead, RO 3 (x_1.Conf.map encI), VI x_1.Log.Start, VI x_1.Log.StartTerm, RO 51 (x_1.Log.Entries.map encEntry), VI x_1.Commit, VI x_1.Clock, VI x_1.Limit, RO 3 (x_1.Votes.map encI), RO 135 (x_1.Peers.map encPeer)], .agg [VI x_2.Id, VI x_2.Term, VI x_2.Vote, VI x_2.Role, VI x_2.Lead, RO 3 (x_2.Conf.map encI), VI x_2.Log.Start, VI x_2.Log.StartTerm, RO 51 (x_2.Log.Entries.map encEntry), VI x_2.Commit, VI x_2.Clock, VI x_2.Limit, RO 3 (x_2.Votes.map encI), RO 135 (x_2.Peers.map encPeer)]] 0 [] (VB r) [] := by
  unfold laws_eqNode at h
  refine Says.of_run s31 Try.call31 rfl fun B hB => ?_
  have hm : B.m ≤ 1000 := by omega
  refine Run.seq (Run.ops hm (Ops.st (s := 1000) (.bx rfl rfl) rfl rfl (Ops.st (s := 1016) (.bx rfl rfl) rfl rfl (Ops.p rfl (Ops.nil (Run.seq (Run.seq (Run.ops hm (Ops.p rfl (Ops.p rfl (Ops.p rfl (Ops.p rfl (Ops.p rfl (Ops.nil (Run.condO rfl h (fun g_138 h => ?_) (fun g_138 h => ?_))))))))))))))))
  · refine Run.seq (Run.ops hm (Ops.p rfl (Ops.nil (Run.ret ?_))))
    obtain rfl := someO h
    exact Ends.mkG (.inl rfl) rfl (gh_pk [0] [] hB rfl rfl rfl rfl) rfl rfl
  · refine Run.skip (Run.seq (Run.seq (Run.ops hm (Ops.p rfl (Ops.p rfl (Ops.p rfl (Ops.p rfl (Ops.p rfl (Ops.nil (Run.condO rfl h (fun g_140 h => ?_) (fun g_140 h => ?_)))))))))))
    · refine Run.seq (Run.ops hm (Ops.p rfl (Ops.nil (Run.ret ?_))))
      obtain rfl := someO h
      exact Ends.mkG (.inl rfl) rfl (gh_pk [0] [] hB rfl rfl rfl rfl) rfl rfl
    · refine Run.skip (Run.seq (Run.seq (Run.ops hm (Ops.p rfl (Ops.p rfl (Ops.p rfl (Ops.p rfl (Ops.p rfl (Ops.nil (Run.condO rfl h (fun g_142 h => ?_) (fun g_142 h => ?_)))))))))))
      · refine Run.seq (Run.ops hm (Ops.p rfl (Ops.nil (Run.ret ?_))))
        obtain rfl := someO h
        exact Ends.mkG (.inl rfl) rfl (gh_pk [0] [] hB rfl rfl rfl rfl) rfl rfl
      · refine Run.skip (Run.seq (Run.seq (Run.ops hm (Ops.p rfl (Ops.p rfl (Ops.p rfl (Ops.p rfl (Ops.p rfl (Ops.nil (Run.condO rfl h (fun g_144 h => ?_) (fun g_144 h => ?_)))))))))))
        · refine Run.seq (Run.ops hm (Ops.p rfl (Ops.nil (Run.ret ?_))))
          obtain rfl := someO h
          exact Ends.mkG (.inl rfl) rfl (gh_pk [0] [] hB rfl rfl rfl rfl) rfl rfl
        · refine Run.skip (Run.seq (Run.seq (Run.ops hm (Ops.p rfl (Ops.p rfl (Ops.p rfl (Ops.p rfl (Ops.p rfl (Ops.nil (Run.condO rfl h (fun g_146 h => ?_) (fun g_146 h => ?_)))))))))))
          · refine Run.seq (Run.ops hm (Ops.p rfl (Ops.nil (Run.ret ?_))))
            obtain rfl := someO h
            exact Ends.mkG (.inl rfl) rfl (gh_pk [0] [] hB rfl rfl rfl rfl) rfl rfl
          · refine Run.skip (Run.seq (Run.seq (Run.ops hm (Ops.p rfl (Ops.p rfl (Ops.p rfl (Ops.p rfl ?_)))))))
            obtain ⟨y_151, hy_151, h⟩ := bindO h
            refine Ops.st (s := 46120) (Ev.call [] [] 0 (sem_laws_eqIntS N x_1.Conf x_2.Conf _ hy_151) rfl rfl (.cons (.c _) (.cons (.c _) .nil)) rfl (.inl rfl) rfl rfl) rfl rfl (Ops.p rfl (Ops.nil (Run.condO rfl h (fun g_152 h => ?_) (fun g_152 h => ?_))))
            · refine Run.seq (Run.ops hm (Ops.p rfl (Ops.nil (Run.ret ?_))))
              obtain rfl := someO h
              exact Ends.mkG (.inl rfl) rfl (gh_pk [0] [] hB rfl rfl rfl rfl) rfl rfl
            · refine Run.skip (Run.seq (Run.seq (Run.ops hm (Ops.p rfl (Ops.p rfl (Ops.p rfl (Ops.p rfl ?_)))))))
              obtain ⟨y_157, hy_157, h⟩ := bindO h
              refine Ops.st (s := 54312) (Ev.call [] [] 0 (sem_laws_eqLog N x_1.Log x_2.Log _ hy_157) rfl rfl (.cons (.agg (.cons (.c _) (.cons (.c _) (.cons (.c _) .nil)))) (.cons (.agg (.cons (.c _) (.cons (.c _) (.cons (.c _) .nil)))) .nil)) rfl (.inl rfl) rfl rfl) rfl rfl (Ops.p rfl (Ops.nil (Run.condO rfl h (fun g_158 h => ?_) (fun g_158 h => ?_))))
              · refine Run.seq (Run.ops hm (Ops.p rfl (Ops.nil (Run.ret ?_))))
                obtain rfl := someO h
                exact Ends.mkG (.inl rfl) rfl (gh_pk [0] [] hB rfl rfl rfl rfl) rfl rfl
              · refine Run.skip (Run.seq (Run.seq (Run.ops hm (Ops.p rfl (Ops.p rfl (Ops.p rfl (Ops.p rfl (Ops.p rfl (Ops.nil (Run.condO rfl h (fun g_160 h => ?_) (fun g_160 h => ?_)))))))))))
                · refine Run.seq (Run.ops hm (Ops.p rfl (Ops.nil (Run.ret ?_))))
                  obtain rfl := someO h
                  exact Ends.mkG (.inl rfl) rfl (gh_pk [0] [] hB rfl rfl rfl rfl) rfl rfl
                · refine Run.skip (Run.seq (Run.seq (Run.ops hm (Ops.p rfl (Ops.p rfl (Ops.p rfl (Ops.p rfl (Ops.p rfl (Ops.nil (Run.condO rfl h (fun g_162 h => ?_) (fun g_162 h => ?_)))))))))))
                  · refine Run.seq (Run.ops hm (Ops.p rfl (Ops.nil (Run.ret ?_))))
                    obtain rfl := someO h
                    exact Ends.mkG (.inl rfl) rfl (gh_pk [0] [] hB rfl rfl rfl rfl) rfl rfl
                  · refine Run.skip (Run.seq (Run.seq (Run.ops hm (Ops.p rfl (Ops.p rfl (Ops.p rfl (Ops.p rfl (Ops.p rfl (Ops.nil (Run.condO rfl h (fun g_164 h => ?_) (fun g_164 h => ?_)))))))))))
                    · refine Run.seq (Run.ops hm (Ops.p rfl (Ops.nil (Run.ret ?_))))
                      obtain rfl := someO h
                      exact Ends.mkG (.inl rfl) rfl (gh_pk [0] [] hB rfl rfl rfl rfl) rfl rfl
                    · refine Run.skip (Run.seq (Run.seq (Run.ops hm (Ops.p rfl (Ops.p rfl (Ops.p rfl (Ops.p rfl ?_)))))))
                      obtain ⟨y_169, hy_169, h⟩ := bindO h
                      refine Ops.st (s := 87080) (Ev.call [] [] 0 (sem_laws_eqIntS N x_1.Votes x_2.Votes _ hy_169) rfl rfl (.cons (.c _) (.cons (.c _) .nil)) rfl (.inl rfl) rfl rfl) rfl rfl (Ops.p rfl (Ops.nil (Run.condO rfl h (fun g_170 h => ?_) (fun g_170 h => ?_))))
                      · refine Run.seq (Run.ops hm (Ops.p rfl (Ops.nil (Run.ret ?_))))
                        obtain rfl := someO h
                        exact Ends.mkG (.inl rfl) rfl (gh_pk [0] [] hB rfl rfl rfl rfl) rfl rfl
                      · refine Run.skip (Run.seq (Run.seq (Run.ops hm (Ops.p rfl (Ops.p rfl (Ops.p rfl (Ops.p rfl ?_)))))))
                        obtain ⟨y_172, hy_172, h⟩ := bindO h
                        refine Ops.st (s := 95272) (Ev.call [] [] 0 (sem_laws_eqPeerS N x_1.Peers x_2.Peers _ hy_172) rfl rfl (.cons (.c _) (.cons (.c _) .nil)) rfl (.inl rfl) rfl rfl) rfl rfl (Ops.p rfl (Ops.nil (Run.condO rfl h (fun g_173 h => ?_) (fun g_173 h => ?_))))
                        · refine Run.seq (Run.ops hm (Ops.p rfl (Ops.nil (Run.ret ?_))))
                          obtain rfl := someO h
                          exact Ends.mkG (.inl rfl) rfl (gh_pk [0] [] hB rfl rfl rfl rfl) rfl rfl
                        · refine Run.skip (Run.seq (Run.ops hm (Ops.p rfl (Ops.nil (Run.ret ?_)))))
                          obtain rfl := someO h
                          exact Ends.mkG (.inl rfl) rfl (gh_pk [0] [] hB rfl rfl rfl rfl) rfl rfl
def laws_eqMessage (N : Nat) (x_1 : Message) (x_2 : Message) : Option (Bool) :=
 (if (x_1.Kind != x_2.Kind) = true then
 some false
 else
 (if (x_1.From != x_2.From) = true then
 some false
 else
 (if (x_1.To != x_2.To) = true then
 some false
 else
 (if (x_1.Term != x_2.Term) = true then
 some false
 else
 (if (x_1.Index != x_2.Index) = true then
 some false
 else
 (if (x_1.LogTerm != x_2.LogTerm) = true then
 some false
 else
 (if (x_1.Commit != x_2.Commit) = true then
 some false
 else
 (if ((x_1.Ok == x_2.Ok) ^^ true) = true then
 some false
 else
 (laws_eqEntryS N x_1.Entries x_2.Entries).bind fun y_151 =>
 (if (!y_151) = true then
 some false
 else
 (laws_eqIntS N x_1.Conf x_2.Conf).bind fun y_157 =>
 (if (!y_157) = true then
 some false
 else
 (if (!decide (x_1.Data = x_2.Data)) = true then
 some false
 else
 (if ((x_1.Last == x_2.Last) ^^ true) = true then
 some false
 else
 some true))))))))))))
theorem sem_laws_eqMessage (N : Nat) (x_1 : Message) (x_2 : Message) (r : Bool) (h : laws_eqMessage N x_1 x_2 = some r) : Says Try.prog 103 [.agg [VI x_1.Kind, VI x_1.From, VI x_1.To, VI x_1.Term, VI x_1.Index, VI x_1.LogTerm, VI x_1.Commit, VB x_1.Ok, RO 51 (x_1.Entries.map encEntry), RO 3 (x_1.Conf.map encI), VS x_1.Data, VB x_1.Last], .agg [VI x_2.Kind, VI x_2.From, VI x_2.To, VI x_2.Term, VI x_2.Index, VI x_2.LogTerm, VI x_2.Commit, VB x_2.Ok, RO 51 (x_2.Entries.map encEntry), RO 3 (x_2.Conf.map encI), VS x_2.Data, VB x_2.Last]] 0 [] (VB r) [] := by
  unfold laws_eqMessage at h
  refine Says.of_run s103 Try.call103 rfl fun B hB => ?_
  have hm : B.m ≤ 1000 := by omega
  refine Run.seq (Run.ops hm (Ops.st (s := 1000) (.bx rfl rfl) rfl rfl (Ops.st (s := 1016) (.bx rfl rfl) rfl rfl (Ops.p rfl (Ops.nil (Run.seq (Run.seq (Run.ops hm (Ops.p rfl (Ops.p rfl (Ops.p rfl (Ops.p rfl (Ops.p rfl (Ops.nil (Run.condO rfl h (fun g_132 h => ?_) (fun g_132 h => ?_))))))))))))))))
  · refine Run.seq (Run.ops hm (Ops.p rfl (Ops.nil (Run.ret ?_))))
    obtain rfl := someO h
    exact Ends.mkG (.inl rfl) rfl (gh_pk [0] [] hB rfl rfl rfl rfl) rfl rfl
  · refine Run.skip (Run.seq (Run.seq (Run.ops hm (Ops.p rfl (Ops.p rfl (Ops.p rfl (Ops.p rfl (Ops.p rfl (Ops.nil (Run.condO rfl h (fun g_134 h => ?_) (fun g_134 h => ?_)))))))))))
    · refine Run.seq (Run.ops hm (Ops.p rfl (Ops.nil (Run.ret ?_))))
      obtain rfl := someO h
      exact Ends.mkG (.inl rfl) rfl (gh_pk [0] [] hB rfl rfl rfl rfl) rfl rfl
    · refine Run.skip (Run.seq (Run.seq (Run.ops hm (Ops.p rfl (Ops.p rfl (Ops.p rfl (Ops.p rfl (Ops.p rfl (Ops.nil (Run.condO rfl h (fun g_136 h => ?_) (fun g_136 h => ?_)))))))))))
      · refine Run.seq (Run.ops hm (Ops.p rfl (Ops.nil (Run.ret ?_))))
        obtain rfl := someO h
        exact Ends.mkG (.inl rfl) rfl (gh_pk [0] [] hB rfl rfl rfl rfl) rfl rfl
      · refine Run.skip (Run.seq (Run.seq (Run.ops hm (Ops.p rfl (Ops.p rfl (Ops.p rfl (Ops.p rfl (Ops.p rfl (Ops.nil (Run.condO rfl h (fun g_138 h => ?_) (fun g_138 h => ?_)))))))))))
        · refine Run.seq (Run.ops hm (Ops.p rfl (Ops.nil (Run.ret ?_))))
          obtain rfl := someO h
          exact Ends.mkG (.inl rfl) rfl (gh_pk [0] [] hB rfl rfl rfl rfl) rfl rfl
        · refine Run.skip (Run.seq (Run.seq (Run.ops hm (Ops.p rfl (Ops.p rfl (Ops.p rfl (Ops.p rfl (Ops.p rfl (Ops.nil (Run.condO rfl h (fun g_140 h => ?_) (fun g_140 h => ?_)))))))))))
          · refine Run.seq (Run.ops hm (Ops.p rfl (Ops.nil (Run.ret ?_))))
            obtain rfl := someO h
            exact Ends.mkG (.inl rfl) rfl (gh_pk [0] [] hB rfl rfl rfl rfl) rfl rfl
          · refine Run.skip (Run.seq (Run.seq (Run.ops hm (Ops.p rfl (Ops.p rfl (Ops.p rfl (Ops.p rfl (Ops.p rfl (Ops.nil (Run.condO rfl h (fun g_142 h => ?_) (fun g_142 h => ?_)))))))))))
            · refine Run.seq (Run.ops hm (Ops.p rfl (Ops.nil (Run.ret ?_))))
              obtain rfl := someO h
              exact Ends.mkG (.inl rfl) rfl (gh_pk [0] [] hB rfl rfl rfl rfl) rfl rfl
            · refine Run.skip (Run.seq (Run.seq (Run.ops hm (Ops.p rfl (Ops.p rfl (Ops.p rfl (Ops.p rfl (Ops.p rfl (Ops.nil (Run.condO rfl h (fun g_144 h => ?_) (fun g_144 h => ?_)))))))))))
              · refine Run.seq (Run.ops hm (Ops.p rfl (Ops.nil (Run.ret ?_))))
                obtain rfl := someO h
                exact Ends.mkG (.inl rfl) rfl (gh_pk [0] [] hB rfl rfl rfl rfl) rfl rfl
              · refine Run.skip (Run.seq (Run.seq (Run.ops hm (Ops.p rfl (Ops.p rfl (Ops.p rfl (Ops.p rfl (Ops.p rfl (Ops.nil (Run.condO rfl h (fun g_146 h => ?_) (fun g_146 h => ?_)))))))))))
                · refine Run.seq (Run.ops hm (Ops.p rfl (Ops.nil (Run.ret ?_))))
                  obtain rfl := someO h
                  exact Ends.mkG (.inl rfl) rfl (gh_pk [0] [] hB rfl rfl rfl rfl) rfl rfl
                · refine Run.skip (Run.seq (Run.seq (Run.ops hm (Ops.p rfl (Ops.p rfl (Ops.p rfl (Ops.p rfl ?_)))))))
                  obtain ⟨y_151, hy_151, h⟩ := bindO h
                  refine Ops.st (s := 70696) (Ev.call [] [] 0 (sem_laws_eqEntryS N x_1.Entries x_2.Entries _ hy_151) rfl rfl (.cons (.c _) (.cons (.c _) .nil)) rfl (.inl rfl) rfl rfl) rfl rfl (Ops.p rfl (Ops.nil (Run.condO rfl h (fun g_152 h => ?_) (fun g_152 h => ?_))))
                  · refine Run.seq (Run.ops hm (Ops.p rfl (Ops.nil (Run.ret ?_))))
                    obtain rfl := someO h
                    exact Ends.mkG (.inl rfl) rfl (gh_pk [0] [] hB rfl rfl rfl rfl) rfl rfl
                  · refine Run.skip (Run.seq (Run.seq (Run.ops hm (Ops.p rfl (Ops.p rfl (Ops.p rfl (Ops.p rfl ?_)))))))
                    obtain ⟨y_157, hy_157, h⟩ := bindO h
                    refine Ops.st (s := 78888) (Ev.call [] [] 0 (sem_laws_eqIntS N x_1.Conf x_2.Conf _ hy_157) rfl rfl (.cons (.c _) (.cons (.c _) .nil)) rfl (.inl rfl) rfl rfl) rfl rfl (Ops.p rfl (Ops.nil (Run.condO rfl h (fun g_158 h => ?_) (fun g_158 h => ?_))))
                    · refine Run.seq (Run.ops hm (Ops.p rfl (Ops.nil (Run.ret ?_))))
                      obtain rfl := someO h
                      exact Ends.mkG (.inl rfl) rfl (gh_pk [0] [] hB rfl rfl rfl rfl) rfl rfl
                    · refine Run.skip (Run.seq (Run.seq (Run.ops hm (Ops.p rfl (Ops.p rfl (Ops.p rfl (Ops.p rfl (Ops.p rfl (Ops.nil (Run.condO rfl h (fun g_160 h => ?_) (fun g_160 h => ?_)))))))))))
                      · refine Run.seq (Run.ops hm (Ops.p rfl (Ops.nil (Run.ret ?_))))
                        obtain rfl := someO h
                        exact Ends.mkG (.inl rfl) rfl (gh_pk [0] [] hB rfl rfl rfl rfl) rfl rfl
                      · refine Run.skip (Run.seq (Run.seq (Run.ops hm (Ops.p rfl (Ops.p rfl (Ops.p rfl (Ops.p rfl (Ops.p rfl (Ops.nil (Run.condO rfl h (fun g_161 h => ?_) (fun g_161 h => ?_)))))))))))
                        · refine Run.seq (Run.ops hm (Ops.p rfl (Ops.nil (Run.ret ?_))))
                          obtain rfl := someO h
                          exact Ends.mkG (.inl rfl) rfl (gh_pk [0] [] hB rfl rfl rfl rfl) rfl rfl
                        · refine Run.skip (Run.seq (Run.ops hm (Ops.p rfl (Ops.nil (Run.ret ?_)))))
                          obtain rfl := someO h
                          exact Ends.mkG (.inl rfl) rfl (gh_pk [0] [] hB rfl rfl rfl rfl) rfl rfl
def laws_eqMessageS_l1 (N : Nat) (x_1 : (List Message)) (x_2 : (List Message)) : Nat → Int → Option ((Bool) ⊕ (Unit))
 | 0, _ => none
 | m + 1, x_222 =>
 (if (decide (x_222 < (x_1.length : Int))) = true then
 (at? x_1 x_222).bind fun x_254 =>
 (at? x_2 x_222).bind fun x_255 =>
 (laws_eqMessage N x_254 x_255).bind fun y_256 =>
 (if (!y_256) = true then
 some (Sum.inl false)
 else
 laws_eqMessageS_l1 N x_1 x_2 m (w64 (x_222 + (1 : Int))))
 else
 some (Sum.inr ()))
def laws_eqMessageS_l1_r (N : Nat) (x_1 : (List Message)) (x_2 : (List Message)) : (List Message) → Int → Option ((Bool) ⊕ (Unit))
 | [], x_222 =>
 some (Sum.inr ())
 | hd :: tl, x_222 =>
 (some hd).bind fun x_254 =>
 (at? x_2 x_222).bind fun x_255 =>
 (laws_eqMessage N x_254 x_255).bind fun y_256 =>
 (if (!y_256) = true then
 some (Sum.inl false)
 else
 laws_eqMessageS_l1_r N x_1 x_2 tl (w64 (x_222 + (1 : Int))))
theorem laws_eqMessageS_l1_rng (N : Nat) (x_1 : (List Message)) (x_2 : (List Message)) (hx : x_1.length ≤ 1099511627776) : ∀ (d k m : Nat), x_1.length = k + d → d < m → laws_eqMessageS_l1 N x_1 x_2 m (k : Int) = laws_eqMessageS_l1_r N x_1 x_2 (x_1.drop k) (k : Int) := by
  intro d
  induction d with
  | zero =>
    intro k m hd hm
    obtain ⟨m, rfl⟩ : ∃ q, m = q + 1 := ⟨m - 1, by omega⟩
    rw [laws_eqMessageS_l1, if_neg (by simp; omega), List.drop_eq_nil_of_le (by omega), laws_eqMessageS_l1_r]
  | succ d ih =>
    intro k m hd hm
    obtain ⟨m, rfl⟩ : ∃ q, m = q + 1 := ⟨m - 1, by omega⟩
    have hk : k < x_1.length := by omega
    rw [laws_eqMessageS_l1, if_pos (by simp; omega), List.drop_eq_getElem_cons hk, laws_eqMessageS_l1_r]
    have h1 := at_lt hk
    have h2 := w64_succ (k := k) (by omega)
    have h3 := ih (k + 1) m
    simp only [h1, h2, h3 (by omega) (by omega)]
theorem laws_eqMessageS_l1_eq {N : Nat} (x_1 : (List Message)) (x_2 : (List Message)) (hx : x_1.length ≤ 1099511627776) (hN : x_1.length < N) : laws_eqMessageS_l1 N x_1 x_2 N 0 = laws_eqMessageS_l1_r N x_1 x_2 x_1 0 := laws_eqMessageS_l1_rng N x_1 x_2 hx x_1.length 0 N (by omega) hN
def laws_eqMessageS (N : Nat) (x_1 : (List Message)) (x_2 : (List Message)) : Option (Bool) :=
 (if ((x_1.length : Int) != (x_2.length : Int)) = true then
 some false
 else
 joinP (fun (v_219 : Unit) =>
 some true) fun j_219 =>
 (laws_eqMessageS_l1 N x_1 x_2 N (0 : Int)).bind (Sum.elim (fun v_239 => some v_239) (fun (v_240 : Unit) => j_219 ())))
theorem sem_laws_eqMessageS (N : Nat) (x_1 : (List Message)) (x_2 : (List Message)) (r : Bool) (h : laws_eqMessageS N x_1 x_2 = some r) : Says Try.prog 32 [RO 58 (x_1.map (encMessage false)), RO 58 (x_2.map (encMessage false))] 0 [] (VB r) [] := by
  unfold laws_eqMessageS at h
  refine Says.of_run s32 Try.call32 rfl fun B hB => ?_
  have hm : B.m ≤ 1000 := by omega
  refine Run.seq (Run.ops hm (Ops.p rfl (Ops.nil (Run.seq (Run.seq (Run.ops hm (Ops.p rfl (Ops.st (s := 5112) (Ev.lnF rfl) rfl rfl (Ops.p rfl (Ops.st (s := 5144) (Ev.lnF rfl) rfl rfl (Ops.p rfl (Ops.nil (Run.condO rfl h (fun g_180 h => ?_) (fun g_180 h => ?_))))))))))))))
  · refine Run.seq (Run.ops hm (Ops.p rfl (Ops.nil (Run.ret ?_))))
    obtain rfl := someO h
    exact Ends.mkG (.inl rfl) rfl (gh_pk [0] [] hB rfl rfl rfl rfl) rfl rfl
  · refine Run.skip (Run.seqO h (fun (v_219 : Unit) => []) (fun (v_219 : Unit) => []) (fun h => ?_) (fun v_219 h => ?_))
    · refine Run.seq (Run.ops hm (Ops.p rfl (Ops.nil (Run.block ?_))))
      obtain ⟨res_240, h, hk_240⟩ := bindO h
      refine Run.loop (n := N) (fun m_240 fr σ => ∃ (x_222 : Int), laws_eqMessageS_l1 N x_1 x_2 m_240 x_222 = some res_240 ∧ fr = [(0, RO 58 (x_1.map (encMessage false))), (1, RO 58 (x_2.map (encMessage false))), (5, VI x_222)] ∧ σ = []) (gh_pk [0, 1, 5] [] hB rfl rfl rfl rfl) ⟨_, h, rfl, rfl⟩ ?_
      rintro m_240 fr σ ⟨x_222, h, rfl, rfl⟩
      obtain _ | m_240 := m_240
      · rw [laws_eqMessageS_l1] at h; cases h
      rw [laws_eqMessageS_l1] at h
      refine Run.seq (Run.seq (Run.ops hm (Ops.p rfl (Ops.p rfl (Ops.st (s := 17416) (Ev.lnF rfl) rfl rfl (Ops.p rfl (Ops.nil (Run.condO rfl h (fun g_243 h => ?_) (fun g_243 h => ?_)))))))))
      · refine Run.skip (Run.seq (Run.block (Run.seq (Run.draw hm hmix (OpsD.p rfl (OpsD.p rfl ?_))))))
        obtain ⟨x_254, hx_254, h⟩ := bindO h
        refine OpsD.st (s := 25608) (Ev.iaF rfl rfl hx_254) rfl rfl (OpsD.p rfl (OpsD.p rfl (OpsD.p rfl ?_)))
        obtain ⟨x_255, hx_255, h⟩ := bindO h
        refine OpsD.st (s := 25672) (Ev.iaF rfl rfl hx_255) rfl rfl (OpsD.p rfl ?_)
        obtain ⟨y_256, hy_256, h⟩ := bindO h
        refine OpsD.st (s := 25704) (Ev.call [] [] 0 (sem_laws_eqMessage N x_254 x_255 _ hy_256) rfl rfl (.cons (.agg (.cons (.c _) (.cons (.c _) (.cons (.c _) (.cons (.c _) (.cons (.c _) (.cons (.c _) (.cons (.c _) (.cons (.c _) (.cons (.c _) (.cons (.c _) (.cons (.c _) (.cons (.c _) .nil))))))))))))) (.cons (.agg (.cons (.c _) (.cons (.c _) (.cons (.c _) (.cons (.c _) (.cons (.c _) (.cons (.c _) (.cons (.c _) (.cons (.c _) (.cons (.c _) (.cons (.c _) (.cons (.c _) (.cons (.c _) .nil))))))))))))) .nil)) rfl (.inl rfl) rfl rfl) rfl rfl (OpsD.p rfl (OpsD.nil ⟨by kernel_rfl, ?_⟩))
        refine Run.condO rfl h (fun g_257 h => ?_) (fun g_257 h => ?_)
        · refine Run.seq (Run.ops hm (Ops.p rfl (Ops.nil (Run.ret ?_))))
          obtain rfl := someO h
          have h := hk_240
          replace h := inlO h
          obtain rfl := someO h
          exact Ends.mkG (.inl rfl) rfl (gh_pk [0] [] hB rfl rfl rfl rfl) rfl rfl
        · exact Run.skip (Run.ops hm (Ops.p rfl (Ops.p rfl (Ops.p rfl (Ops.nil (⟨m_240, Nat.lt_succ_self m_240, _, _, (gh_pk [0, 1, 5] [] hB rfl rfl rfl rfl), _, h, rfl, rfl⟩))))))
      · refine Run.exit ?_
        obtain rfl := someO h
        have h := hk_240
        replace h := inrO h
        exact ⟨_, _, (gh_pk [] [] hB rfl rfl rfl rfl), (), h, rfl, rfl⟩
    · refine Run.seq (Run.ops hm (Ops.p rfl (Ops.nil (Run.ret ?_))))
      obtain rfl := someO h
      exact Ends.mkG (.inl rfl) rfl (gh_pk [0] [] hB rfl rfl rfl rfl) rfl rfl
def laws_markIntS_l1 (N : Nat) : Nat → Int → Int → (List Int) → Option (Int × (List Int))
 | 0, _, _, _ => none
 | m + 1, x_177, x_178, x_179 =>
 (if (decide (x_178 < ((x_179.length : Nat) : Int))) = true then
 (at? x_179 x_178).bind fun x_201 =>
 laws_markIntS_l1 N m (w64 (x_177 + (1 : Int))) (w64 (x_178 + (1 : Int))) (x_179.set x_178.toNat x_177)
 else
 some (x_177, x_179))
def laws_markIntS (N : Nat) (x_1 : (List Int)) (x_2 : Int) : Option (Int × (List Int)) :=
 joinP (fun (v_176 : Int × (List Int)) =>
 some (v_176.1, v_176.2)) fun j_176 =>
 (laws_markIntS_l1 N N x_2 (0 : Int) x_1).bind (fun (v_190 : Int × (List Int)) => j_176 (v_190.1, v_190.2))
theorem sem_laws_markIntS (N : Nat) (x_1 : (List Int)) (x_2 : Int) (r : Int × (List Int)) (h : laws_markIntS N x_1 x_2 = some r) : Says Try.prog 104 [.sl 0 3 0 x_1.length, VI x_2] 1 [(0, .vec 3 (x_1.map encI))] (VI r.1) [(0, .vec 3 (r.2.map encI))] := by
  unfold laws_markIntS at h
  refine Says.of_run s104 Try.call104 rfl fun B hB => ?_
  have hm : B.m ≤ 1000 := by omega
  refine Run.seq (Run.ops hm (Ops.p rfl (Ops.nil (Run.seqO h (fun (v_176 : Int × (List Int)) => [(1, VI v_176.1)]) (fun (v_176 : Int × (List Int)) => [(0, .vec 3 (v_176.2.map encI))]) (fun h => ?_) (fun v_176 h => ?_)))))
  · refine Run.seq (Run.ops hm (Ops.p rfl (Ops.nil (Run.block ?_))))
    obtain ⟨res_190, h, hk_190⟩ := bindO h
    refine Run.loop (n := N) (fun m_190 fr σ => ∃ (x_177 : Int), ∃ (x_178 : Int), ∃ (x_179 : (List Int)), laws_markIntS_l1 N m_190 x_177 x_178 x_179 = some res_190 ∧ fr = [(0, .sl 0 3 0 x_179.length), (1, VI x_177), (5, VI x_178)] ∧ σ = [(0, .vec 3 (x_179.map encI))]) (gh_pk [0, 1, 5] [0] hB rfl rfl rfl rfl) ⟨_, _, _, h, rfl, rfl⟩ ?_
    rintro m_190 fr σ ⟨x_177, x_178, x_179, h, rfl, rfl⟩
    obtain _ | m_190 := m_190
    · rw [laws_markIntS_l1] at h; cases h
    rw [laws_markIntS_l1] at h
    refine Run.seq (Run.seq (Run.ops hm (Ops.p rfl (Ops.p rfl (Ops.p rfl (Ops.p rfl (Ops.nil (Run.condO rfl h (fun g_193 h => ?_) (fun g_193 h => ?_)))))))))
    · refine Run.skip (Run.seq (Run.block (Run.seq (Run.ops hm (Ops.p rfl (Ops.p rfl (Ops.p rfl ?_)))))))
      obtain ⟨x_201, hx_201, h⟩ := bindO h
      exact Ops.st (s := 17432) (Ev.iaW rfl rfl rfl hx_201) rfl rfl (Ops.s0 (s := 17448) (Ev.stE (f := encI) (v' := x_177) rfl rfl (at_some hx_201).2 rfl (.cons (.c _) .nil) rfl rfl rfl rfl rfl) rfl rfl (Ops.nil (Run.ops hm (Ops.p rfl (Ops.p rfl (Ops.p rfl (Ops.nil (Run.ops hm (Ops.p rfl (Ops.p rfl (Ops.p rfl (Ops.nil (⟨m_190, Nat.lt_succ_self m_190, _, _, (gh_pk [0, 1, 5] [0] hB rfl rfl (by first | rfl | (simp only [List.length_set]; done) | (simp only [List.length_set]; rfl)) (by first | rfl | (simp only [List.length_set]; done) | (simp only [List.length_set]; rfl))), _, _, _, h, rfl, rfl⟩)))))))))))))
    · refine Run.exit ?_
      obtain rfl := someO h
      have h := hk_190
      exact ⟨_, _, (gh_pk [1] [0] hB rfl rfl rfl rfl), (x_177, x_179), h, rfl, rfl⟩
  · refine Run.seq (Run.ops hm (Ops.p rfl (Ops.p rfl (Ops.nil (Run.ret ?_)))))
    obtain rfl := someO h
    exact Ends.mkG (.inl rfl) rfl (gh_pk [0] [0] hB rfl rfl rfl rfl) rfl rfl
def laws_markText_l1 (N : Nat) : Nat → Int → ByteArray → Option (ByteArray)
 | 0, _, _ => none
 | m + 1, x_192, x_193 =>
 (if (decide (x_192 > (0 : Int))) = true then
 (intD .rem .i64 x_192 (10 : Int)).bind fun x_216 =>
 (scat? (strOf ([IntKind.wrap .u8 (w64 ((48 : Int) + x_216))] : List Int)) x_193).bind fun x_217 =>
 (intD .quo .i64 x_192 (10 : Int)).bind fun x_219 =>
 laws_markText_l1 N m x_219 x_217
 else
 some x_193)
def laws_markText (N : Nat) (x_1 : Int) : Option (ByteArray) :=
 (if (decide (x_1 ≤ (0 : Int))) = true then
 some (⟨#[109, 48]⟩ : ByteArray)
 else
 joinP (fun (v_191 : ByteArray) =>
 (scat? (⟨#[109]⟩ : ByteArray) v_191).bind fun x_221 =>
 some x_221) fun j_191 =>
 (laws_markText_l1 N N x_1 (⟨#[]⟩ : ByteArray)).bind (fun (v_206 : ByteArray) => j_191 v_206))
theorem sem_laws_markText (N : Nat) (x_1 : Int) (r : ByteArray) (h : laws_markText N x_1 = some r) : Says Try.prog 108 [VI x_1] 0 [] (VS r) [] := by
  unfold laws_markText at h
  refine Says.of_run s108 Try.call108 rfl fun B hB => ?_
  have hm : B.m ≤ 1000 := by omega
  refine Run.seq (Run.ops hm (Ops.p rfl (Ops.nil (Run.seq (Run.seq (Run.ops hm (Ops.p rfl (Ops.p rfl (Ops.nil (Run.condO rfl h (fun g_162 h => ?_) (fun g_162 h => ?_)))))))))))
  · refine Run.seq (Run.ops hm (Ops.p rfl (Ops.nil (Run.ret ?_))))
    obtain rfl := someO h
    exact Ends.mkG (.inl rfl) rfl (gh_pk [0] [] hB rfl rfl rfl rfl) rfl rfl
  · refine Run.skip (Run.seq (Run.ops hm (Ops.p rfl (Ops.nil (Run.seqO h (fun (v_191 : ByteArray) => [(3, VS v_191)]) (fun (v_191 : ByteArray) => []) (fun h => ?_) (fun v_191 h => ?_))))))
    · refine Run.block ?_
      obtain ⟨res_206, h, hk_206⟩ := bindO h
      refine Run.loop (n := N) (fun m_206 fr σ => ∃ (x_192 : Int), ∃ (x_193 : ByteArray), laws_markText_l1 N m_206 x_192 x_193 = some res_206 ∧ fr = [(0, VI x_192), (3, VS x_193)] ∧ σ = []) (gh_pk [0, 3] [] hB rfl rfl rfl rfl) ⟨_, _, h, rfl, rfl⟩ ?_
      rintro m_206 fr σ ⟨x_192, x_193, h, rfl, rfl⟩
      obtain _ | m_206 := m_206
      · rw [laws_markText_l1] at h; cases h
      rw [laws_markText_l1] at h
      refine Run.seq (Run.seq (Run.ops hm (Ops.p rfl (Ops.p rfl (Ops.nil (Run.condO rfl h (fun g_209 h => ?_) (fun g_209 h => ?_)))))))
      · refine Run.skip (Run.block (Run.seq (Run.ops hm (Ops.p rfl ?_))))
        obtain ⟨x_216, hx_216, h⟩ := bindO h
        refine Ops.st (s := 21496) (.bin rfl rfl hx_216) rfl rfl (Ops.p rfl (Ops.p rfl (Ops.st (s := 21544) (Ev.bsW (ys := ([IntKind.wrap .u8 (w64 ((48 : Int) + x_216))] : List Int)) (f := encU) rfl (.cons (.c _) .nil) rfl rfl rfl rfl rfl) rfl rfl (Ops.st (s := 21560) (.sbC (addsW (f := encU) rfl rfl rfl (fun _ => rfl))) rfl rfl (Ops.p rfl ?_)))))
        obtain ⟨x_217, hx_217, h⟩ := bindO h
        refine Ops.st (s := 21592) (Ev.addS rfl rfl hx_217) rfl rfl (Ops.p rfl (Ops.nil (Run.ops hm (Ops.p rfl ?_))))
        obtain ⟨x_219, hx_219, h⟩ := bindO h
        exact Ops.st (s := 25592) (.bin rfl rfl hx_219) rfl rfl (Ops.p rfl (Ops.nil (⟨m_206, Nat.lt_succ_self m_206, _, _, (gh_pk [0, 3] [] hB rfl rfl rfl rfl), _, _, h, rfl, rfl⟩)))
      · refine Run.exit ?_
        obtain rfl := someO h
        have h := hk_206
        exact ⟨_, _, (gh_pk [3] [] hB rfl rfl rfl rfl), x_193, h, rfl, rfl⟩
    · refine Run.seq (Run.ops hm (Ops.p rfl ?_))
      obtain ⟨x_221, hx_221, h⟩ := bindO h
      refine Ops.st (s := 29688) (Ev.addS rfl rfl hx_221) rfl rfl (Ops.p rfl (Ops.nil (Run.ret ?_)))
      obtain rfl := someO h
      exact Ends.mkG (.inl rfl) rfl (gh_pk [0] [] hB rfl rfl rfl rfl) rfl rfl
def laws_markEntryS_l1 (N : Nat) : Nat → Int → Int → (List Entry) → Option (Int × (List Entry))
 | 0, _, _, _ => none
 | m + 1, x_321, x_322, x_323 =>
 (if (decide (x_322 < ((x_323.length : Nat) : Int))) = true then
 (at? x_323 x_322).bind fun x_381 =>
 (at? (x_323.set x_322.toNat (Entry.mk x_321 x_381.Kind x_381.Data)) x_322).bind fun x_385 =>
 (laws_markText N (w64 ((w64 (x_321 + (1 : Int))) + (1 : Int)))).bind fun y_392 =>
 (at? ((x_323.set x_322.toNat (Entry.mk x_321 x_381.Kind x_381.Data)).set x_322.toNat (Entry.mk x_385.Term (w64 (x_321 + (1 : Int))) x_385.Data)) x_322).bind fun x_393 =>
 laws_markEntryS_l1 N m (w64 ((w64 ((w64 (x_321 + (1 : Int))) + (1 : Int))) + (1 : Int))) (w64 (x_322 + (1 : Int))) (((x_323.set x_322.toNat (Entry.mk x_321 x_381.Kind x_381.Data)).set x_322.toNat (Entry.mk x_385.Term (w64 (x_321 + (1 : Int))) x_385.Data)).set x_322.toNat (Entry.mk x_393.Term x_393.Kind y_392))
 else
 some (x_321, x_323))
def laws_markEntryS (N : Nat) (x_1 : (List Entry)) (x_2 : Int) : Option (Int × (List Entry)) :=
 joinP (fun (v_320 : Int × (List Entry)) =>
 some (v_320.1, v_320.2)) fun j_320 =>
 (laws_markEntryS_l1 N N x_2 (0 : Int) x_1).bind (fun (v_358 : Int × (List Entry)) => j_320 (v_358.1, v_358.2))
theorem sem_laws_markEntryS (N : Nat) (x_1 : (List Entry)) (x_2 : Int) (r : Int × (List Entry)) (h : laws_markEntryS N x_1 x_2 = some r) : Says Try.prog 107 [.sl 0 51 0 x_1.length, VI x_2] 1 [(0, .vec 51 (x_1.map encEntry))] (VI r.1) [(0, .vec 51 (r.2.map encEntry))] := by
  unfold laws_markEntryS at h
  refine Says.of_run s107 Try.call107 rfl fun B hB => ?_
  have hm : B.m ≤ 1000 := by omega
  refine Run.seq (Run.ops hm (Ops.p rfl (Ops.nil (Run.seqO h (fun (v_320 : Int × (List Entry)) => [(1, VI v_320.1)]) (fun (v_320 : Int × (List Entry)) => [(0, .vec 51 (v_320.2.map encEntry))]) (fun h => ?_) (fun v_320 h => ?_)))))
  · refine Run.seq (Run.ops hm (Ops.p rfl (Ops.nil (Run.block ?_))))
    obtain ⟨res_358, h, hk_358⟩ := bindO h
    refine Run.loop (n := N) (fun m_358 fr σ => ∃ (x_321 : Int), ∃ (x_322 : Int), ∃ (x_323 : (List Entry)), laws_markEntryS_l1 N m_358 x_321 x_322 x_323 = some res_358 ∧ fr = [(0, .sl 0 51 0 x_323.length), (1, VI x_321), (5, VI x_322)] ∧ σ = [(0, .vec 51 (x_323.map encEntry))]) (gh_pk [0, 1, 5] [0] hB rfl rfl rfl rfl) ⟨_, _, _, h, rfl, rfl⟩ ?_
    rintro m_358 fr σ ⟨x_321, x_322, x_323, h, rfl, rfl⟩
    obtain _ | m_358 := m_358
    · rw [laws_markEntryS_l1] at h; cases h
    rw [laws_markEntryS_l1] at h
    refine Run.seq (Run.seq (Run.ops hm (Ops.p rfl (Ops.p rfl (Ops.p rfl (Ops.p rfl (Ops.nil (Run.condO rfl h (fun g_361 h => ?_) (fun g_361 h => ?_)))))))))
    · refine Run.skip (Run.seq (Run.block (Run.seq (Run.ops hm (Ops.p rfl (Ops.p rfl (Ops.p rfl ?_)))))))
      obtain ⟨x_381, hx_381, h⟩ := bindO h
      refine Ops.st (s := 17432) (Ev.iaW rfl rfl rfl hx_381) rfl rfl (Ops.p rfl (Ops.s0 (s := 17464) (Ev.stE (f := encEntry) (v' := (Entry.mk x_321 x_381.Kind x_381.Data)) rfl rfl (at_some hx_381).2 rfl (.cons (.c _) .nil) rfl rfl rfl rfl rfl) rfl rfl (Ops.nil (Run.seq (Run.ops hm (Ops.p rfl (Ops.p rfl (Ops.p rfl (Ops.nil (Run.seq (Run.ops hm (Ops.p rfl (Ops.p rfl (Ops.p rfl ?_))))))))))))))
      obtain ⟨x_385, hx_385, h⟩ := bindO h
      refine Ops.st (s := 25624) (Ev.iaW rfl (by simp) rfl hx_385) rfl rfl ?_
      refine Ops.p rfl (Ops.s0 (s := 25656) (Ev.stE (f := encEntry) (v' := (Entry.mk x_385.Term (w64 (x_321 + (1 : Int))) x_385.Data)) rfl rfl (at_some hx_385).2 rfl (.cons (.c _) .nil) rfl rfl rfl rfl rfl) rfl rfl (Ops.nil (Run.seq (Run.ops hm (Ops.p rfl (Ops.p rfl (Ops.p rfl (Ops.nil (Run.seq (Run.ops hm (Ops.p rfl (Ops.p rfl (Ops.p rfl ?_)))))))))))))
      obtain ⟨y_392, hy_392, h⟩ := bindO h
      refine Ops.st (s := 33816) (Ev.call [] [] 0 (sem_laws_markText N (w64 ((w64 (x_321 + (1 : Int))) + (1 : Int))) _ hy_392) rfl rfl (.cons (.c _) .nil) rfl (.inl rfl) rfl rfl) rfl rfl ?_
      obtain ⟨x_393, hx_393, h⟩ := bindO h
      refine Ops.st (s := 33832) (Ev.iaW rfl (by simp) rfl hx_393) rfl rfl ?_
      exact Ops.p rfl (Ops.s0 (s := 33864) (Ev.stE (f := encEntry) (v' := (Entry.mk x_393.Term x_393.Kind y_392)) rfl rfl (at_some hx_393).2 rfl (.cons (.c _) .nil) rfl rfl rfl rfl rfl) rfl rfl (Ops.nil (Run.ops hm (Ops.p rfl (Ops.p rfl (Ops.p rfl (Ops.nil (Run.ops hm (Ops.p rfl (Ops.p rfl (Ops.p rfl (Ops.nil (⟨m_358, Nat.lt_succ_self m_358, _, _, (gh_pk [0, 1, 5] [0] hB rfl rfl (by first | rfl | (simp only [List.length_set]; done) | (simp only [List.length_set]; rfl)) (by first | rfl | (simp only [List.length_set]; done) | (simp only [List.length_set]; rfl))), _, _, _, h, rfl, rfl⟩)))))))))))))
    · refine Run.exit ?_
      obtain rfl := someO h
      have h := hk_358
      exact ⟨_, _, (gh_pk [1] [0] hB rfl rfl rfl rfl), (x_321, x_323), h, rfl, rfl⟩
  · refine Run.seq (Run.ops hm (Ops.p rfl (Ops.p rfl (Ops.nil (Run.ret ?_)))))
    obtain rfl := someO h
    exact Ends.mkG (.inl rfl) rfl (gh_pk [0] [0] hB rfl rfl rfl rfl) rfl rfl
def laws_markLog (N : Nat) (x_1 : Log) (x_2 : Int) : Option (Int × (List Entry)) :=
 (laws_markEntryS N x_1.Entries x_2).bind fun y_114 =>
 (len? x_1.Entries y_114.2).bind fun y_115 =>
 some (y_114.1, y_114.2)
theorem sem_laws_markLog (N : Nat) (x_1 : Log) (x_2 : Int) (r : Int × (List Entry)) (h : laws_markLog N x_1 x_2 = some r) : Says Try.prog 105 [.agg [VI x_1.Start, VI x_1.StartTerm, .sl 0 51 0 x_1.Entries.length], VI x_2] 1 [(0, .vec 51 (x_1.Entries.map encEntry))] (VI r.1) [(0, .vec 51 (r.2.map encEntry))] := by
  unfold laws_markLog at h
  refine Says.of_run s105 Try.call105 rfl fun B hB => ?_
  have hm : B.m ≤ 1000 := by omega
  refine Run.seq (Run.ops hm (Ops.st (s := 1000) (.bx rfl rfl) rfl rfl (Ops.p rfl (Ops.nil (Run.seq (Run.ops hm (Ops.p rfl (Ops.p rfl (Ops.p rfl ?_)))))))))
  obtain ⟨y_114, hy_114, h⟩ := bindO h
  obtain ⟨y_115, hy_115, h⟩ := bindO h
  refine Ops.st (s := 5144) (Ev.call [0] [] 0 (sem_laws_markEntryS N x_1.Entries x_2 _ hy_114) rfl rfl (.cons (.sl rfl) (.cons (.c _) .nil)) rfl (.inl rfl) rfl rfl) rfl rfl (Ops.p rfl (Ops.nil (Run.seq (Run.ops hm (Ops.p rfl (Ops.p rfl (Ops.nil (Run.ret ?_))))))))
  obtain rfl := someO h
  exact Ends.mkG (.inl rfl) rfl (gh_pk [0] [0] hB rfl rfl rfl rfl) (by first | rfl | (simp only [List.length_set, (len_some hy_115)]; done) | (simp only [List.length_set, (len_some hy_115)]; rfl)) (by first | rfl | (simp only [List.length_set, (len_some hy_115)]; done) | (simp only [List.length_set, (len_some hy_115)]; rfl))
def laws_markPeerS_l1 (N : Nat) : Nat → Int → Int → (List Peer) → Option (Int × (List Peer))
 | 0, _, _, _ => none
 | m + 1, x_321, x_322, x_323 =>
 (if (decide (x_322 < ((x_323.length : Nat) : Int))) = true then
 (at? x_323 x_322).bind fun x_381 =>
 (at? (x_323.set x_322.toNat (Peer.mk x_321 x_381.Next x_381.Match x_381.Sent)) x_322).bind fun x_385 =>
 (at? ((x_323.set x_322.toNat (Peer.mk x_321 x_381.Next x_381.Match x_381.Sent)).set x_322.toNat (Peer.mk x_385.Id (w64 (x_321 + (1 : Int))) x_385.Match x_385.Sent)) x_322).bind fun x_389 =>
 (at? (((x_323.set x_322.toNat (Peer.mk x_321 x_381.Next x_381.Match x_381.Sent)).set x_322.toNat (Peer.mk x_385.Id (w64 (x_321 + (1 : Int))) x_385.Match x_385.Sent)).set x_322.toNat (Peer.mk x_389.Id x_389.Next (w64 ((w64 (x_321 + (1 : Int))) + (1 : Int))) x_389.Sent)) x_322).bind fun x_393 =>
 laws_markPeerS_l1 N m (w64 ((w64 ((w64 ((w64 (x_321 + (1 : Int))) + (1 : Int))) + (1 : Int))) + (1 : Int))) (w64 (x_322 + (1 : Int))) ((((x_323.set x_322.toNat (Peer.mk x_321 x_381.Next x_381.Match x_381.Sent)).set x_322.toNat (Peer.mk x_385.Id (w64 (x_321 + (1 : Int))) x_385.Match x_385.Sent)).set x_322.toNat (Peer.mk x_389.Id x_389.Next (w64 ((w64 (x_321 + (1 : Int))) + (1 : Int))) x_389.Sent)).set x_322.toNat (Peer.mk x_393.Id x_393.Next x_393.Match (w64 ((w64 ((w64 (x_321 + (1 : Int))) + (1 : Int))) + (1 : Int)))))
 else
 some (x_321, x_323))
def laws_markPeerS (N : Nat) (x_1 : (List Peer)) (x_2 : Int) : Option (Int × (List Peer)) :=
 joinP (fun (v_320 : Int × (List Peer)) =>
 some (v_320.1, v_320.2)) fun j_320 =>
 (laws_markPeerS_l1 N N x_2 (0 : Int) x_1).bind (fun (v_358 : Int × (List Peer)) => j_320 (v_358.1, v_358.2))
theorem sem_laws_markPeerS (N : Nat) (x_1 : (List Peer)) (x_2 : Int) (r : Int × (List Peer)) (h : laws_markPeerS N x_1 x_2 = some r) : Says Try.prog 106 [.sl 0 135 0 x_1.length, VI x_2] 1 [(0, .vec 135 (x_1.map encPeer))] (VI r.1) [(0, .vec 135 (r.2.map encPeer))] := by
  unfold laws_markPeerS at h
  refine Says.of_run s106 Try.call106 rfl fun B hB => ?_
  have hm : B.m ≤ 1000 := by omega
  refine Run.seq (Run.ops hm (Ops.p rfl (Ops.nil (Run.seqO h (fun (v_320 : Int × (List Peer)) => [(1, VI v_320.1)]) (fun (v_320 : Int × (List Peer)) => [(0, .vec 135 (v_320.2.map encPeer))]) (fun h => ?_) (fun v_320 h => ?_)))))
  · refine Run.seq (Run.ops hm (Ops.p rfl (Ops.nil (Run.block ?_))))
    obtain ⟨res_358, h, hk_358⟩ := bindO h
    refine Run.loop (n := N) (fun m_358 fr σ => ∃ (x_321 : Int), ∃ (x_322 : Int), ∃ (x_323 : (List Peer)), laws_markPeerS_l1 N m_358 x_321 x_322 x_323 = some res_358 ∧ fr = [(0, .sl 0 135 0 x_323.length), (1, VI x_321), (5, VI x_322)] ∧ σ = [(0, .vec 135 (x_323.map encPeer))]) (gh_pk [0, 1, 5] [0] hB rfl rfl rfl rfl) ⟨_, _, _, h, rfl, rfl⟩ ?_
    rintro m_358 fr σ ⟨x_321, x_322, x_323, h, rfl, rfl⟩
    obtain _ | m_358 := m_358
    · rw [laws_markPeerS_l1] at h; cases h
    rw [laws_markPeerS_l1] at h
    refine Run.seq (Run.seq (Run.ops hm (Ops.p rfl (Ops.p rfl (Ops.p rfl (Ops.p rfl (Ops.nil (Run.condO rfl h (fun g_361 h => ?_) (fun g_361 h => ?_)))))))))
    · refine Run.skip (Run.seq (Run.block (Run.seq (Run.ops hm (Ops.p rfl (Ops.p rfl (Ops.p rfl ?_)))))))
      obtain ⟨x_381, hx_381, h⟩ := bindO h
      refine Ops.st (s := 17432) (Ev.iaW rfl rfl rfl hx_381) rfl rfl (Ops.p rfl (Ops.s0 (s := 17464) (Ev.stE (f := encPeer) (v' := (Peer.mk x_321 x_381.Next x_381.Match x_381.Sent)) rfl rfl (at_some hx_381).2 rfl (.cons (.c _) .nil) rfl rfl rfl rfl rfl) rfl rfl (Ops.nil (Run.seq (Run.ops hm (Ops.p rfl (Ops.p rfl (Ops.p rfl (Ops.nil (Run.seq (Run.ops hm (Ops.p rfl (Ops.p rfl (Ops.p rfl ?_))))))))))))))
      obtain ⟨x_385, hx_385, h⟩ := bindO h
      refine Ops.st (s := 25624) (Ev.iaW rfl (by simp) rfl hx_385) rfl rfl ?_
      refine Ops.p rfl (Ops.s0 (s := 25656) (Ev.stE (f := encPeer) (v' := (Peer.mk x_385.Id (w64 (x_321 + (1 : Int))) x_385.Match x_385.Sent)) rfl rfl (at_some hx_385).2 rfl (.cons (.c _) .nil) rfl rfl rfl rfl rfl) rfl rfl (Ops.nil (Run.seq (Run.ops hm (Ops.p rfl (Ops.p rfl (Ops.p rfl (Ops.nil (Run.seq (Run.ops hm (Ops.p rfl (Ops.p rfl (Ops.p rfl ?_)))))))))))))
      obtain ⟨x_389, hx_389, h⟩ := bindO h
      refine Ops.st (s := 33816) (Ev.iaW rfl (by simp) rfl hx_389) rfl rfl ?_
      refine Ops.p rfl (Ops.s0 (s := 33848) (Ev.stE (f := encPeer) (v' := (Peer.mk x_389.Id x_389.Next (w64 ((w64 (x_321 + (1 : Int))) + (1 : Int))) x_389.Sent)) rfl rfl (at_some hx_389).2 rfl (.cons (.c _) .nil) rfl rfl rfl rfl rfl) rfl rfl (Ops.nil (Run.seq (Run.ops hm (Ops.p rfl (Ops.p rfl (Ops.p rfl (Ops.nil (Run.seq (Run.ops hm (Ops.p rfl (Ops.p rfl (Ops.p rfl ?_)))))))))))))
      obtain ⟨x_393, hx_393, h⟩ := bindO h
      refine Ops.st (s := 42008) (Ev.iaW rfl (by simp) rfl hx_393) rfl rfl ?_
      exact Ops.p rfl (Ops.s0 (s := 42040) (Ev.stE (f := encPeer) (v' := (Peer.mk x_393.Id x_393.Next x_393.Match (w64 ((w64 ((w64 (x_321 + (1 : Int))) + (1 : Int))) + (1 : Int))))) rfl rfl (at_some hx_393).2 rfl (.cons (.c _) .nil) rfl rfl rfl rfl rfl) rfl rfl (Ops.nil (Run.ops hm (Ops.p rfl (Ops.p rfl (Ops.p rfl (Ops.nil (Run.ops hm (Ops.p rfl (Ops.p rfl (Ops.p rfl (Ops.nil (⟨m_358, Nat.lt_succ_self m_358, _, _, (gh_pk [0, 1, 5] [0] hB rfl rfl (by first | rfl | (simp only [List.length_set]; done) | (simp only [List.length_set]; rfl)) (by first | rfl | (simp only [List.length_set]; done) | (simp only [List.length_set]; rfl))), _, _, _, h, rfl, rfl⟩)))))))))))))
    · refine Run.exit ?_
      obtain rfl := someO h
      have h := hk_358
      exact ⟨_, _, (gh_pk [1] [0] hB rfl rfl rfl rfl), (x_321, x_323), h, rfl, rfl⟩
  · refine Run.seq (Run.ops hm (Ops.p rfl (Ops.p rfl (Ops.nil (Run.ret ?_)))))
    obtain rfl := someO h
    exact Ends.mkG (.inl rfl) rfl (gh_pk [0] [0] hB rfl rfl rfl rfl) rfl rfl
def laws_markNode (N : Nat) (x_1 : Node) (x_2 : Int) : Option (Int × (List Int) × (List Entry) × (List Int) × (List Peer)) :=
 (laws_markIntS N x_1.Conf x_2).bind fun y_138 =>
 (len? x_1.Conf y_138.2).bind fun y_139 =>
 (laws_markLog N x_1.Log y_138.1).bind fun y_146 =>
 (len? x_1.Log.Entries y_146.2).bind fun y_147 =>
 (laws_markIntS N x_1.Votes y_146.1).bind fun y_154 =>
 (len? x_1.Votes y_154.2).bind fun y_155 =>
 (laws_markPeerS N x_1.Peers y_154.1).bind fun y_162 =>
 (len? x_1.Peers y_162.2).bind fun y_163 =>
 some (y_162.1, y_138.2, y_146.2, y_154.2, y_162.2)
theorem sem_laws_markNode (N : Nat) (x_1 : Node) (x_2 : Int) (r : Int × (List Int) × (List Entry) × (List Int) × (List Peer)) (h : laws_markNode N x_1 x_2 = some r) : Says Try.prog 33 [.agg [VI x_1.Id, VI x_1.Term, VI x_1.Vote, VI x_1.Role, VI x_1.Lead, .sl 0 3 0 x_1.Conf.length, VI x_1.Log.Start, VI x_1.Log.StartTerm, .sl 1 51 0 x_1.Log.Entries.length, VI x_1.Commit, VI x_1.Clock, VI x_1.Limit, .sl 2 3 0 x_1.Votes.length, .sl 3 135 0 x_1.Peers.length], VI x_2] 4 [(0, .vec 3 (x_1.Conf.map encI)), (1, .vec 51 (x_1.Log.Entries.map encEntry)), (2, .vec 3 (x_1.Votes.map encI)), (3, .vec 135 (x_1.Peers.map encPeer))] (VI r.1) [(0, .vec 3 (r.2.1.map encI)), (1, .vec 51 (r.2.2.1.map encEntry)), (2, .vec 3 (r.2.2.2.1.map encI)), (3, .vec 135 (r.2.2.2.2.map encPeer))] := by
  unfold laws_markNode at h
  refine Says.of_run s33 Try.call33 rfl fun B hB => ?_
  have hm : B.m ≤ 1000 := by omega
  refine Run.seq (Run.ops hm (Ops.st (s := 1000) (.bx rfl rfl) rfl rfl (Ops.p rfl (Ops.nil (Run.seq (Run.ops hm (Ops.p rfl (Ops.p rfl (Ops.p rfl ?_)))))))))
  obtain ⟨y_138, hy_138, h⟩ := bindO h
  obtain ⟨y_139, hy_139, h⟩ := bindO h
  refine Ops.st (s := 5144) (Ev.call [0] [] 0 (sem_laws_markIntS N x_1.Conf x_2 _ hy_138) rfl rfl (.cons (.sl rfl) (.cons (.c _) .nil)) rfl (.inl rfl) rfl rfl) rfl rfl (Ops.p rfl (Ops.nil (Run.seq (Run.ops hm (Ops.p rfl (Ops.p rfl (Ops.p rfl ?_)))))))
  obtain ⟨y_146, hy_146, h⟩ := bindO h
  obtain ⟨y_147, hy_147, h⟩ := bindO h
  refine Ops.st (s := 9240) (Ev.call [1] [] 0 (sem_laws_markLog N x_1.Log y_138.1 _ hy_146) rfl rfl (.cons (.agg (.cons (.c _) (.cons (.c _) (.cons (.sl rfl) .nil)))) (.cons (.c _) .nil)) rfl (.inl rfl) rfl rfl) rfl rfl (Ops.p rfl (Ops.nil (Run.seq (Run.ops hm (Ops.p rfl (Ops.p rfl (Ops.p rfl ?_)))))))
  obtain ⟨y_154, hy_154, h⟩ := bindO h
  obtain ⟨y_155, hy_155, h⟩ := bindO h
  refine Ops.st (s := 13336) (Ev.call [2] [] 0 (sem_laws_markIntS N x_1.Votes y_146.1 _ hy_154) rfl rfl (.cons (.sl rfl) (.cons (.c _) .nil)) rfl (.inl rfl) rfl rfl) rfl rfl (Ops.p rfl (Ops.nil (Run.seq (Run.ops hm (Ops.p rfl (Ops.p rfl (Ops.p rfl ?_)))))))
  obtain ⟨y_162, hy_162, h⟩ := bindO h
  obtain ⟨y_163, hy_163, h⟩ := bindO h
  refine Ops.st (s := 17432) (Ev.call [3] [] 0 (sem_laws_markPeerS N x_1.Peers y_154.1 _ hy_162) rfl rfl (.cons (.sl rfl) (.cons (.c _) .nil)) rfl (.inl rfl) rfl rfl) rfl rfl (Ops.p rfl (Ops.nil (Run.seq (Run.ops hm (Ops.p rfl (Ops.p rfl (Ops.nil (Run.ret ?_))))))))
  obtain rfl := someO h
  exact Ends.mkG (.inl rfl) rfl (gh_pk [0] [0, 1, 2, 3] hB rfl rfl rfl rfl) (by first | rfl | (simp only [List.length_set, (len_some hy_139), (len_some hy_147), (len_some hy_155), (len_some hy_163)]; done) | (simp only [List.length_set, (len_some hy_139), (len_some hy_147), (len_some hy_155), (len_some hy_163)]; rfl)) (by first | rfl | (simp only [List.length_set, (len_some hy_139), (len_some hy_147), (len_some hy_155), (len_some hy_163)]; done) | (simp only [List.length_set, (len_some hy_139), (len_some hy_147), (len_some hy_155), (len_some hy_163)]; rfl))
def laws_markMessageS_l1 (N : Nat) : Nat → Int → Int → (List Message) → Option (Int × (List Message))
 | 0, _, _, _ => none
 | m + 1, x_1137, x_1138, x_1139 =>
 (if (decide (x_1138 < ((x_1139.length : Nat) : Int))) = true then
 (at? x_1139 x_1138).bind fun x_1401 =>
 (at? (x_1139.set x_1138.toNat (Message.mk x_1137 x_1401.From x_1401.To x_1401.Term x_1401.Index x_1401.LogTerm x_1401.Commit x_1401.Ok x_1401.Entries x_1401.Conf x_1401.Data x_1401.Last)) x_1138).bind fun x_1405 =>
 (at? ((x_1139.set x_1138.toNat (Message.mk x_1137 x_1401.From x_1401.To x_1401.Term x_1401.Index x_1401.LogTerm x_1401.Commit x_1401.Ok x_1401.Entries x_1401.Conf x_1401.Data x_1401.Last)).set x_1138.toNat (Message.mk x_1405.Kind (w64 (x_1137 + (1 : Int))) x_1405.To x_1405.Term x_1405.Index x_1405.LogTerm x_1405.Commit x_1405.Ok x_1405.Entries x_1405.Conf x_1405.Data x_1405.Last)) x_1138).bind fun x_1409 =>
 (at? (((x_1139.set x_1138.toNat (Message.mk x_1137 x_1401.From x_1401.To x_1401.Term x_1401.Index x_1401.LogTerm x_1401.Commit x_1401.Ok x_1401.Entries x_1401.Conf x_1401.Data x_1401.Last)).set x_1138.toNat (Message.mk x_1405.Kind (w64 (x_1137 + (1 : Int))) x_1405.To x_1405.Term x_1405.Index x_1405.LogTerm x_1405.Commit x_1405.Ok x_1405.Entries x_1405.Conf x_1405.Data x_1405.Last)).set x_1138.toNat (Message.mk x_1409.Kind x_1409.From (w64 ((w64 (x_1137 + (1 : Int))) + (1 : Int))) x_1409.Term x_1409.Index x_1409.LogTerm x_1409.Commit x_1409.Ok x_1409.Entries x_1409.Conf x_1409.Data x_1409.Last)) x_1138).bind fun x_1413 =>
 (at? ((((x_1139.set x_1138.toNat (Message.mk x_1137 x_1401.From x_1401.To x_1401.Term x_1401.Index x_1401.LogTerm x_1401.Commit x_1401.Ok x_1401.Entries x_1401.Conf x_1401.Data x_1401.Last)).set x_1138.toNat (Message.mk x_1405.Kind (w64 (x_1137 + (1 : Int))) x_1405.To x_1405.Term x_1405.Index x_1405.LogTerm x_1405.Commit x_1405.Ok x_1405.Entries x_1405.Conf x_1405.Data x_1405.Last)).set x_1138.toNat (Message.mk x_1409.Kind x_1409.From (w64 ((w64 (x_1137 + (1 : Int))) + (1 : Int))) x_1409.Term x_1409.Index x_1409.LogTerm x_1409.Commit x_1409.Ok x_1409.Entries x_1409.Conf x_1409.Data x_1409.Last)).set x_1138.toNat (Message.mk x_1413.Kind x_1413.From x_1413.To (w64 ((w64 ((w64 (x_1137 + (1 : Int))) + (1 : Int))) + (1 : Int))) x_1413.Index x_1413.LogTerm x_1413.Commit x_1413.Ok x_1413.Entries x_1413.Conf x_1413.Data x_1413.Last)) x_1138).bind fun x_1417 =>
 (at? (((((x_1139.set x_1138.toNat (Message.mk x_1137 x_1401.From x_1401.To x_1401.Term x_1401.Index x_1401.LogTerm x_1401.Commit x_1401.Ok x_1401.Entries x_1401.Conf x_1401.Data x_1401.Last)).set x_1138.toNat (Message.mk x_1405.Kind (w64 (x_1137 + (1 : Int))) x_1405.To x_1405.Term x_1405.Index x_1405.LogTerm x_1405.Commit x_1405.Ok x_1405.Entries x_1405.Conf x_1405.Data x_1405.Last)).set x_1138.toNat (Message.mk x_1409.Kind x_1409.From (w64 ((w64 (x_1137 + (1 : Int))) + (1 : Int))) x_1409.Term x_1409.Index x_1409.LogTerm x_1409.Commit x_1409.Ok x_1409.Entries x_1409.Conf x_1409.Data x_1409.Last)).set x_1138.toNat (Message.mk x_1413.Kind x_1413.From x_1413.To (w64 ((w64 ((w64 (x_1137 + (1 : Int))) + (1 : Int))) + (1 : Int))) x_1413.Index x_1413.LogTerm x_1413.Commit x_1413.Ok x_1413.Entries x_1413.Conf x_1413.Data x_1413.Last)).set x_1138.toNat (Message.mk x_1417.Kind x_1417.From x_1417.To x_1417.Term (w64 ((w64 ((w64 ((w64 (x_1137 + (1 : Int))) + (1 : Int))) + (1 : Int))) + (1 : Int))) x_1417.LogTerm x_1417.Commit x_1417.Ok x_1417.Entries x_1417.Conf x_1417.Data x_1417.Last)) x_1138).bind fun x_1421 =>
 (at? ((((((x_1139.set x_1138.toNat (Message.mk x_1137 x_1401.From x_1401.To x_1401.Term x_1401.Index x_1401.LogTerm x_1401.Commit x_1401.Ok x_1401.Entries x_1401.Conf x_1401.Data x_1401.Last)).set x_1138.toNat (Message.mk x_1405.Kind (w64 (x_1137 + (1 : Int))) x_1405.To x_1405.Term x_1405.Index x_1405.LogTerm x_1405.Commit x_1405.Ok x_1405.Entries x_1405.Conf x_1405.Data x_1405.Last)).set x_1138.toNat (Message.mk x_1409.Kind x_1409.From (w64 ((w64 (x_1137 + (1 : Int))) + (1 : Int))) x_1409.Term x_1409.Index x_1409.LogTerm x_1409.Commit x_1409.Ok x_1409.Entries x_1409.Conf x_1409.Data x_1409.Last)).set x_1138.toNat (Message.mk x_1413.Kind x_1413.From x_1413.To (w64 ((w64 ((w64 (x_1137 + (1 : Int))) + (1 : Int))) + (1 : Int))) x_1413.Index x_1413.LogTerm x_1413.Commit x_1413.Ok x_1413.Entries x_1413.Conf x_1413.Data x_1413.Last)).set x_1138.toNat (Message.mk x_1417.Kind x_1417.From x_1417.To x_1417.Term (w64 ((w64 ((w64 ((w64 (x_1137 + (1 : Int))) + (1 : Int))) + (1 : Int))) + (1 : Int))) x_1417.LogTerm x_1417.Commit x_1417.Ok x_1417.Entries x_1417.Conf x_1417.Data x_1417.Last)).set x_1138.toNat (Message.mk x_1421.Kind x_1421.From x_1421.To x_1421.Term x_1421.Index (w64 ((w64 ((w64 ((w64 ((w64 (x_1137 + (1 : Int))) + (1 : Int))) + (1 : Int))) + (1 : Int))) + (1 : Int))) x_1421.Commit x_1421.Ok x_1421.Entries x_1421.Conf x_1421.Data x_1421.Last)) x_1138).bind fun x_1425 =>
 (intD .rem .i64 (w64 ((w64 ((w64 ((w64 ((w64 ((w64 ((w64 (x_1137 + (1 : Int))) + (1 : Int))) + (1 : Int))) + (1 : Int))) + (1 : Int))) + (1 : Int))) + (1 : Int))) (3 : Int)).bind fun x_1432 =>
 (at? (((((((x_1139.set x_1138.toNat (Message.mk x_1137 x_1401.From x_1401.To x_1401.Term x_1401.Index x_1401.LogTerm x_1401.Commit x_1401.Ok x_1401.Entries x_1401.Conf x_1401.Data x_1401.Last)).set x_1138.toNat (Message.mk x_1405.Kind (w64 (x_1137 + (1 : Int))) x_1405.To x_1405.Term x_1405.Index x_1405.LogTerm x_1405.Commit x_1405.Ok x_1405.Entries x_1405.Conf x_1405.Data x_1405.Last)).set x_1138.toNat (Message.mk x_1409.Kind x_1409.From (w64 ((w64 (x_1137 + (1 : Int))) + (1 : Int))) x_1409.Term x_1409.Index x_1409.LogTerm x_1409.Commit x_1409.Ok x_1409.Entries x_1409.Conf x_1409.Data x_1409.Last)).set x_1138.toNat (Message.mk x_1413.Kind x_1413.From x_1413.To (w64 ((w64 ((w64 (x_1137 + (1 : Int))) + (1 : Int))) + (1 : Int))) x_1413.Index x_1413.LogTerm x_1413.Commit x_1413.Ok x_1413.Entries x_1413.Conf x_1413.Data x_1413.Last)).set x_1138.toNat (Message.mk x_1417.Kind x_1417.From x_1417.To x_1417.Term (w64 ((w64 ((w64 ((w64 (x_1137 + (1 : Int))) + (1 : Int))) + (1 : Int))) + (1 : Int))) x_1417.LogTerm x_1417.Commit x_1417.Ok x_1417.Entries x_1417.Conf x_1417.Data x_1417.Last)).set x_1138.toNat (Message.mk x_1421.Kind x_1421.From x_1421.To x_1421.Term x_1421.Index (w64 ((w64 ((w64 ((w64 ((w64 (x_1137 + (1 : Int))) + (1 : Int))) + (1 : Int))) + (1 : Int))) + (1 : Int))) x_1421.Commit x_1421.Ok x_1421.Entries x_1421.Conf x_1421.Data x_1421.Last)).set x_1138.toNat (Message.mk x_1425.Kind x_1425.From x_1425.To x_1425.Term x_1425.Index x_1425.LogTerm (w64 ((w64 ((w64 ((w64 ((w64 ((w64 (x_1137 + (1 : Int))) + (1 : Int))) + (1 : Int))) + (1 : Int))) + (1 : Int))) + (1 : Int))) x_1425.Ok x_1425.Entries x_1425.Conf x_1425.Data x_1425.Last)) x_1138).bind fun x_1433 =>
 (at? ((((((((x_1139.set x_1138.toNat (Message.mk x_1137 x_1401.From x_1401.To x_1401.Term x_1401.Index x_1401.LogTerm x_1401.Commit x_1401.Ok x_1401.Entries x_1401.Conf x_1401.Data x_1401.Last)).set x_1138.toNat (Message.mk x_1405.Kind (w64 (x_1137 + (1 : Int))) x_1405.To x_1405.Term x_1405.Index x_1405.LogTerm x_1405.Commit x_1405.Ok x_1405.Entries x_1405.Conf x_1405.Data x_1405.Last)).set x_1138.toNat (Message.mk x_1409.Kind x_1409.From (w64 ((w64 (x_1137 + (1 : Int))) + (1 : Int))) x_1409.Term x_1409.Index x_1409.LogTerm x_1409.Commit x_1409.Ok x_1409.Entries x_1409.Conf x_1409.Data x_1409.Last)).set x_1138.toNat (Message.mk x_1413.Kind x_1413.From x_1413.To (w64 ((w64 ((w64 (x_1137 + (1 : Int))) + (1 : Int))) + (1 : Int))) x_1413.Index x_1413.LogTerm x_1413.Commit x_1413.Ok x_1413.Entries x_1413.Conf x_1413.Data x_1413.Last)).set x_1138.toNat (Message.mk x_1417.Kind x_1417.From x_1417.To x_1417.Term (w64 ((w64 ((w64 ((w64 (x_1137 + (1 : Int))) + (1 : Int))) + (1 : Int))) + (1 : Int))) x_1417.LogTerm x_1417.Commit x_1417.Ok x_1417.Entries x_1417.Conf x_1417.Data x_1417.Last)).set x_1138.toNat (Message.mk x_1421.Kind x_1421.From x_1421.To x_1421.Term x_1421.Index (w64 ((w64 ((w64 ((w64 ((w64 (x_1137 + (1 : Int))) + (1 : Int))) + (1 : Int))) + (1 : Int))) + (1 : Int))) x_1421.Commit x_1421.Ok x_1421.Entries x_1421.Conf x_1421.Data x_1421.Last)).set x_1138.toNat (Message.mk x_1425.Kind x_1425.From x_1425.To x_1425.Term x_1425.Index x_1425.LogTerm (w64 ((w64 ((w64 ((w64 ((w64 ((w64 (x_1137 + (1 : Int))) + (1 : Int))) + (1 : Int))) + (1 : Int))) + (1 : Int))) + (1 : Int))) x_1425.Ok x_1425.Entries x_1425.Conf x_1425.Data x_1425.Last)).set x_1138.toNat (Message.mk x_1433.Kind x_1433.From x_1433.To x_1433.Term x_1433.Index x_1433.LogTerm x_1433.Commit (x_1432 == (0 : Int)) x_1433.Entries x_1433.Conf x_1433.Data x_1433.Last)) x_1138).bind fun x_1445 =>
 (laws_markEntryS N ((Message.mk x_1433.Kind x_1433.From x_1433.To x_1433.Term x_1433.Index x_1433.LogTerm x_1433.Commit (x_1432 == (0 : Int)) x_1433.Entries x_1433.Conf x_1433.Data x_1433.Last).Entries) (w64 ((w64 ((w64 ((w64 ((w64 ((w64 ((w64 ((w64 (x_1137 + (1 : Int))) + (1 : Int))) + (1 : Int))) + (1 : Int))) + (1 : Int))) + (1 : Int))) + (1 : Int))) + (1 : Int)))).bind fun y_1446 =>
 (len? ((Message.mk x_1433.Kind x_1433.From x_1433.To x_1433.Term x_1433.Index x_1433.LogTerm x_1433.Commit (x_1432 == (0 : Int)) x_1433.Entries x_1433.Conf x_1433.Data x_1433.Last).Entries) y_1446.2).bind fun y_1447 =>
 (at? ((((((((x_1139.set x_1138.toNat (Message.mk x_1137 x_1401.From x_1401.To x_1401.Term x_1401.Index x_1401.LogTerm x_1401.Commit x_1401.Ok x_1401.Entries x_1401.Conf x_1401.Data x_1401.Last)).set x_1138.toNat (Message.mk x_1405.Kind (w64 (x_1137 + (1 : Int))) x_1405.To x_1405.Term x_1405.Index x_1405.LogTerm x_1405.Commit x_1405.Ok x_1405.Entries x_1405.Conf x_1405.Data x_1405.Last)).set x_1138.toNat (Message.mk x_1409.Kind x_1409.From (w64 ((w64 (x_1137 + (1 : Int))) + (1 : Int))) x_1409.Term x_1409.Index x_1409.LogTerm x_1409.Commit x_1409.Ok x_1409.Entries x_1409.Conf x_1409.Data x_1409.Last)).set x_1138.toNat (Message.mk x_1413.Kind x_1413.From x_1413.To (w64 ((w64 ((w64 (x_1137 + (1 : Int))) + (1 : Int))) + (1 : Int))) x_1413.Index x_1413.LogTerm x_1413.Commit x_1413.Ok x_1413.Entries x_1413.Conf x_1413.Data x_1413.Last)).set x_1138.toNat (Message.mk x_1417.Kind x_1417.From x_1417.To x_1417.Term (w64 ((w64 ((w64 ((w64 (x_1137 + (1 : Int))) + (1 : Int))) + (1 : Int))) + (1 : Int))) x_1417.LogTerm x_1417.Commit x_1417.Ok x_1417.Entries x_1417.Conf x_1417.Data x_1417.Last)).set x_1138.toNat (Message.mk x_1421.Kind x_1421.From x_1421.To x_1421.Term x_1421.Index (w64 ((w64 ((w64 ((w64 ((w64 (x_1137 + (1 : Int))) + (1 : Int))) + (1 : Int))) + (1 : Int))) + (1 : Int))) x_1421.Commit x_1421.Ok x_1421.Entries x_1421.Conf x_1421.Data x_1421.Last)).set x_1138.toNat (Message.mk x_1425.Kind x_1425.From x_1425.To x_1425.Term x_1425.Index x_1425.LogTerm (w64 ((w64 ((w64 ((w64 ((w64 ((w64 (x_1137 + (1 : Int))) + (1 : Int))) + (1 : Int))) + (1 : Int))) + (1 : Int))) + (1 : Int))) x_1425.Ok x_1425.Entries x_1425.Conf x_1425.Data x_1425.Last)).set x_1138.toNat (Message.mk x_1433.Kind x_1433.From x_1433.To x_1433.Term x_1433.Index x_1433.LogTerm x_1433.Commit (x_1432 == (0 : Int)) x_1433.Entries x_1433.Conf x_1433.Data x_1433.Last)) x_1138).bind fun x_1459 =>
 (laws_markIntS N ((Message.mk x_1433.Kind x_1433.From x_1433.To x_1433.Term x_1433.Index x_1433.LogTerm x_1433.Commit (x_1432 == (0 : Int)) x_1433.Entries x_1433.Conf x_1433.Data x_1433.Last).Conf) y_1446.1).bind fun y_1460 =>
 (len? ((Message.mk x_1433.Kind x_1433.From x_1433.To x_1433.Term x_1433.Index x_1433.LogTerm x_1433.Commit (x_1432 == (0 : Int)) x_1433.Entries x_1433.Conf x_1433.Data x_1433.Last).Conf) y_1460.2).bind fun y_1461 =>
 (laws_markText N y_1460.1).bind fun y_1472 =>
 (at? (((((((((x_1139.set x_1138.toNat (Message.mk x_1137 x_1401.From x_1401.To x_1401.Term x_1401.Index x_1401.LogTerm x_1401.Commit x_1401.Ok x_1401.Entries x_1401.Conf x_1401.Data x_1401.Last)).set x_1138.toNat (Message.mk x_1405.Kind (w64 (x_1137 + (1 : Int))) x_1405.To x_1405.Term x_1405.Index x_1405.LogTerm x_1405.Commit x_1405.Ok x_1405.Entries x_1405.Conf x_1405.Data x_1405.Last)).set x_1138.toNat (Message.mk x_1409.Kind x_1409.From (w64 ((w64 (x_1137 + (1 : Int))) + (1 : Int))) x_1409.Term x_1409.Index x_1409.LogTerm x_1409.Commit x_1409.Ok x_1409.Entries x_1409.Conf x_1409.Data x_1409.Last)).set x_1138.toNat (Message.mk x_1413.Kind x_1413.From x_1413.To (w64 ((w64 ((w64 (x_1137 + (1 : Int))) + (1 : Int))) + (1 : Int))) x_1413.Index x_1413.LogTerm x_1413.Commit x_1413.Ok x_1413.Entries x_1413.Conf x_1413.Data x_1413.Last)).set x_1138.toNat (Message.mk x_1417.Kind x_1417.From x_1417.To x_1417.Term (w64 ((w64 ((w64 ((w64 (x_1137 + (1 : Int))) + (1 : Int))) + (1 : Int))) + (1 : Int))) x_1417.LogTerm x_1417.Commit x_1417.Ok x_1417.Entries x_1417.Conf x_1417.Data x_1417.Last)).set x_1138.toNat (Message.mk x_1421.Kind x_1421.From x_1421.To x_1421.Term x_1421.Index (w64 ((w64 ((w64 ((w64 ((w64 (x_1137 + (1 : Int))) + (1 : Int))) + (1 : Int))) + (1 : Int))) + (1 : Int))) x_1421.Commit x_1421.Ok x_1421.Entries x_1421.Conf x_1421.Data x_1421.Last)).set x_1138.toNat (Message.mk x_1425.Kind x_1425.From x_1425.To x_1425.Term x_1425.Index x_1425.LogTerm (w64 ((w64 ((w64 ((w64 ((w64 ((w64 (x_1137 + (1 : Int))) + (1 : Int))) + (1 : Int))) + (1 : Int))) + (1 : Int))) + (1 : Int))) x_1425.Ok x_1425.Entries x_1425.Conf x_1425.Data x_1425.Last)).set x_1138.toNat (Message.mk x_1433.Kind x_1433.From x_1433.To x_1433.Term x_1433.Index x_1433.LogTerm x_1433.Commit (x_1432 == (0 : Int)) x_1433.Entries x_1433.Conf x_1433.Data x_1433.Last)).set x_1138.toNat (Message.mk ((Message.mk x_1433.Kind x_1433.From x_1433.To x_1433.Term x_1433.Index x_1433.LogTerm x_1433.Commit (x_1432 == (0 : Int)) x_1433.Entries x_1433.Conf x_1433.Data x_1433.Last).Kind) ((Message.mk x_1433.Kind x_1433.From x_1433.To x_1433.Term x_1433.Index x_1433.LogTerm x_1433.Commit (x_1432 == (0 : Int)) x_1433.Entries x_1433.Conf x_1433.Data x_1433.Last).From) ((Message.mk x_1433.Kind x_1433.From x_1433.To x_1433.Term x_1433.Index x_1433.LogTerm x_1433.Commit (x_1432 == (0 : Int)) x_1433.Entries x_1433.Conf x_1433.Data x_1433.Last).To) ((Message.mk x_1433.Kind x_1433.From x_1433.To x_1433.Term x_1433.Index x_1433.LogTerm x_1433.Commit (x_1432 == (0 : Int)) x_1433.Entries x_1433.Conf x_1433.Data x_1433.Last).Term) ((Message.mk x_1433.Kind x_1433.From x_1433.To x_1433.Term x_1433.Index x_1433.LogTerm x_1433.Commit (x_1432 == (0 : Int)) x_1433.Entries x_1433.Conf x_1433.Data x_1433.Last).Index) ((Message.mk x_1433.Kind x_1433.From x_1433.To x_1433.Term x_1433.Index x_1433.LogTerm x_1433.Commit (x_1432 == (0 : Int)) x_1433.Entries x_1433.Conf x_1433.Data x_1433.Last).LogTerm) ((Message.mk x_1433.Kind x_1433.From x_1433.To x_1433.Term x_1433.Index x_1433.LogTerm x_1433.Commit (x_1432 == (0 : Int)) x_1433.Entries x_1433.Conf x_1433.Data x_1433.Last).Commit) ((Message.mk x_1433.Kind x_1433.From x_1433.To x_1433.Term x_1433.Index x_1433.LogTerm x_1433.Commit (x_1432 == (0 : Int)) x_1433.Entries x_1433.Conf x_1433.Data x_1433.Last).Ok) y_1446.2 y_1460.2 ((Message.mk x_1433.Kind x_1433.From x_1433.To x_1433.Term x_1433.Index x_1433.LogTerm x_1433.Commit (x_1432 == (0 : Int)) x_1433.Entries x_1433.Conf x_1433.Data x_1433.Last).Data) ((Message.mk x_1433.Kind x_1433.From x_1433.To x_1433.Term x_1433.Index x_1433.LogTerm x_1433.Commit (x_1432 == (0 : Int)) x_1433.Entries x_1433.Conf x_1433.Data x_1433.Last).Last))) x_1138).bind fun x_1473 =>
 (intD .rem .i64 (w64 (y_1460.1 + (1 : Int))) (3 : Int)).bind fun x_1480 =>
 (at? ((((((((((x_1139.set x_1138.toNat (Message.mk x_1137 x_1401.From x_1401.To x_1401.Term x_1401.Index x_1401.LogTerm x_1401.Commit x_1401.Ok x_1401.Entries x_1401.Conf x_1401.Data x_1401.Last)).set x_1138.toNat (Message.mk x_1405.Kind (w64 (x_1137 + (1 : Int))) x_1405.To x_1405.Term x_1405.Index x_1405.LogTerm x_1405.Commit x_1405.Ok x_1405.Entries x_1405.Conf x_1405.Data x_1405.Last)).set x_1138.toNat (Message.mk x_1409.Kind x_1409.From (w64 ((w64 (x_1137 + (1 : Int))) + (1 : Int))) x_1409.Term x_1409.Index x_1409.LogTerm x_1409.Commit x_1409.Ok x_1409.Entries x_1409.Conf x_1409.Data x_1409.Last)).set x_1138.toNat (Message.mk x_1413.Kind x_1413.From x_1413.To (w64 ((w64 ((w64 (x_1137 + (1 : Int))) + (1 : Int))) + (1 : Int))) x_1413.Index x_1413.LogTerm x_1413.Commit x_1413.Ok x_1413.Entries x_1413.Conf x_1413.Data x_1413.Last)).set x_1138.toNat (Message.mk x_1417.Kind x_1417.From x_1417.To x_1417.Term (w64 ((w64 ((w64 ((w64 (x_1137 + (1 : Int))) + (1 : Int))) + (1 : Int))) + (1 : Int))) x_1417.LogTerm x_1417.Commit x_1417.Ok x_1417.Entries x_1417.Conf x_1417.Data x_1417.Last)).set x_1138.toNat (Message.mk x_1421.Kind x_1421.From x_1421.To x_1421.Term x_1421.Index (w64 ((w64 ((w64 ((w64 ((w64 (x_1137 + (1 : Int))) + (1 : Int))) + (1 : Int))) + (1 : Int))) + (1 : Int))) x_1421.Commit x_1421.Ok x_1421.Entries x_1421.Conf x_1421.Data x_1421.Last)).set x_1138.toNat (Message.mk x_1425.Kind x_1425.From x_1425.To x_1425.Term x_1425.Index x_1425.LogTerm (w64 ((w64 ((w64 ((w64 ((w64 ((w64 (x_1137 + (1 : Int))) + (1 : Int))) + (1 : Int))) + (1 : Int))) + (1 : Int))) + (1 : Int))) x_1425.Ok x_1425.Entries x_1425.Conf x_1425.Data x_1425.Last)).set x_1138.toNat (Message.mk x_1433.Kind x_1433.From x_1433.To x_1433.Term x_1433.Index x_1433.LogTerm x_1433.Commit (x_1432 == (0 : Int)) x_1433.Entries x_1433.Conf x_1433.Data x_1433.Last)).set x_1138.toNat (Message.mk ((Message.mk x_1433.Kind x_1433.From x_1433.To x_1433.Term x_1433.Index x_1433.LogTerm x_1433.Commit (x_1432 == (0 : Int)) x_1433.Entries x_1433.Conf x_1433.Data x_1433.Last).Kind) ((Message.mk x_1433.Kind x_1433.From x_1433.To x_1433.Term x_1433.Index x_1433.LogTerm x_1433.Commit (x_1432 == (0 : Int)) x_1433.Entries x_1433.Conf x_1433.Data x_1433.Last).From) ((Message.mk x_1433.Kind x_1433.From x_1433.To x_1433.Term x_1433.Index x_1433.LogTerm x_1433.Commit (x_1432 == (0 : Int)) x_1433.Entries x_1433.Conf x_1433.Data x_1433.Last).To) ((Message.mk x_1433.Kind x_1433.From x_1433.To x_1433.Term x_1433.Index x_1433.LogTerm x_1433.Commit (x_1432 == (0 : Int)) x_1433.Entries x_1433.Conf x_1433.Data x_1433.Last).Term) ((Message.mk x_1433.Kind x_1433.From x_1433.To x_1433.Term x_1433.Index x_1433.LogTerm x_1433.Commit (x_1432 == (0 : Int)) x_1433.Entries x_1433.Conf x_1433.Data x_1433.Last).Index) ((Message.mk x_1433.Kind x_1433.From x_1433.To x_1433.Term x_1433.Index x_1433.LogTerm x_1433.Commit (x_1432 == (0 : Int)) x_1433.Entries x_1433.Conf x_1433.Data x_1433.Last).LogTerm) ((Message.mk x_1433.Kind x_1433.From x_1433.To x_1433.Term x_1433.Index x_1433.LogTerm x_1433.Commit (x_1432 == (0 : Int)) x_1433.Entries x_1433.Conf x_1433.Data x_1433.Last).Commit) ((Message.mk x_1433.Kind x_1433.From x_1433.To x_1433.Term x_1433.Index x_1433.LogTerm x_1433.Commit (x_1432 == (0 : Int)) x_1433.Entries x_1433.Conf x_1433.Data x_1433.Last).Ok) y_1446.2 y_1460.2 ((Message.mk x_1433.Kind x_1433.From x_1433.To x_1433.Term x_1433.Index x_1433.LogTerm x_1433.Commit (x_1432 == (0 : Int)) x_1433.Entries x_1433.Conf x_1433.Data x_1433.Last).Data) ((Message.mk x_1433.Kind x_1433.From x_1433.To x_1433.Term x_1433.Index x_1433.LogTerm x_1433.Commit (x_1432 == (0 : Int)) x_1433.Entries x_1433.Conf x_1433.Data x_1433.Last).Last))).set x_1138.toNat (Message.mk x_1473.Kind x_1473.From x_1473.To x_1473.Term x_1473.Index x_1473.LogTerm x_1473.Commit x_1473.Ok x_1473.Entries x_1473.Conf y_1472 x_1473.Last)) x_1138).bind fun x_1481 =>
 laws_markMessageS_l1 N m (w64 ((w64 (y_1460.1 + (1 : Int))) + (1 : Int))) (w64 (x_1138 + (1 : Int))) (((((((((((x_1139.set x_1138.toNat (Message.mk x_1137 x_1401.From x_1401.To x_1401.Term x_1401.Index x_1401.LogTerm x_1401.Commit x_1401.Ok x_1401.Entries x_1401.Conf x_1401.Data x_1401.Last)).set x_1138.toNat (Message.mk x_1405.Kind (w64 (x_1137 + (1 : Int))) x_1405.To x_1405.Term x_1405.Index x_1405.LogTerm x_1405.Commit x_1405.Ok x_1405.Entries x_1405.Conf x_1405.Data x_1405.Last)).set x_1138.toNat (Message.mk x_1409.Kind x_1409.From (w64 ((w64 (x_1137 + (1 : Int))) + (1 : Int))) x_1409.Term x_1409.Index x_1409.LogTerm x_1409.Commit x_1409.Ok x_1409.Entries x_1409.Conf x_1409.Data x_1409.Last)).set x_1138.toNat (Message.mk x_1413.Kind x_1413.From x_1413.To (w64 ((w64 ((w64 (x_1137 + (1 : Int))) + (1 : Int))) + (1 : Int))) x_1413.Index x_1413.LogTerm x_1413.Commit x_1413.Ok x_1413.Entries x_1413.Conf x_1413.Data x_1413.Last)).set x_1138.toNat (Message.mk x_1417.Kind x_1417.From x_1417.To x_1417.Term (w64 ((w64 ((w64 ((w64 (x_1137 + (1 : Int))) + (1 : Int))) + (1 : Int))) + (1 : Int))) x_1417.LogTerm x_1417.Commit x_1417.Ok x_1417.Entries x_1417.Conf x_1417.Data x_1417.Last)).set x_1138.toNat (Message.mk x_1421.Kind x_1421.From x_1421.To x_1421.Term x_1421.Index (w64 ((w64 ((w64 ((w64 ((w64 (x_1137 + (1 : Int))) + (1 : Int))) + (1 : Int))) + (1 : Int))) + (1 : Int))) x_1421.Commit x_1421.Ok x_1421.Entries x_1421.Conf x_1421.Data x_1421.Last)).set x_1138.toNat (Message.mk x_1425.Kind x_1425.From x_1425.To x_1425.Term x_1425.Index x_1425.LogTerm (w64 ((w64 ((w64 ((w64 ((w64 ((w64 (x_1137 + (1 : Int))) + (1 : Int))) + (1 : Int))) + (1 : Int))) + (1 : Int))) + (1 : Int))) x_1425.Ok x_1425.Entries x_1425.Conf x_1425.Data x_1425.Last)).set x_1138.toNat (Message.mk x_1433.Kind x_1433.From x_1433.To x_1433.Term x_1433.Index x_1433.LogTerm x_1433.Commit (x_1432 == (0 : Int)) x_1433.Entries x_1433.Conf x_1433.Data x_1433.Last)).set x_1138.toNat (Message.mk ((Message.mk x_1433.Kind x_1433.From x_1433.To x_1433.Term x_1433.Index x_1433.LogTerm x_1433.Commit (x_1432 == (0 : Int)) x_1433.Entries x_1433.Conf x_1433.Data x_1433.Last).Kind) ((Message.mk x_1433.Kind x_1433.From x_1433.To x_1433.Term x_1433.Index x_1433.LogTerm x_1433.Commit (x_1432 == (0 : Int)) x_1433.Entries x_1433.Conf x_1433.Data x_1433.Last).From) ((Message.mk x_1433.Kind x_1433.From x_1433.To x_1433.Term x_1433.Index x_1433.LogTerm x_1433.Commit (x_1432 == (0 : Int)) x_1433.Entries x_1433.Conf x_1433.Data x_1433.Last).To) ((Message.mk x_1433.Kind x_1433.From x_1433.To x_1433.Term x_1433.Index x_1433.LogTerm x_1433.Commit (x_1432 == (0 : Int)) x_1433.Entries x_1433.Conf x_1433.Data x_1433.Last).Term) ((Message.mk x_1433.Kind x_1433.From x_1433.To x_1433.Term x_1433.Index x_1433.LogTerm x_1433.Commit (x_1432 == (0 : Int)) x_1433.Entries x_1433.Conf x_1433.Data x_1433.Last).Index) ((Message.mk x_1433.Kind x_1433.From x_1433.To x_1433.Term x_1433.Index x_1433.LogTerm x_1433.Commit (x_1432 == (0 : Int)) x_1433.Entries x_1433.Conf x_1433.Data x_1433.Last).LogTerm) ((Message.mk x_1433.Kind x_1433.From x_1433.To x_1433.Term x_1433.Index x_1433.LogTerm x_1433.Commit (x_1432 == (0 : Int)) x_1433.Entries x_1433.Conf x_1433.Data x_1433.Last).Commit) ((Message.mk x_1433.Kind x_1433.From x_1433.To x_1433.Term x_1433.Index x_1433.LogTerm x_1433.Commit (x_1432 == (0 : Int)) x_1433.Entries x_1433.Conf x_1433.Data x_1433.Last).Ok) y_1446.2 y_1460.2 ((Message.mk x_1433.Kind x_1433.From x_1433.To x_1433.Term x_1433.Index x_1433.LogTerm x_1433.Commit (x_1432 == (0 : Int)) x_1433.Entries x_1433.Conf x_1433.Data x_1433.Last).Data) ((Message.mk x_1433.Kind x_1433.From x_1433.To x_1433.Term x_1433.Index x_1433.LogTerm x_1433.Commit (x_1432 == (0 : Int)) x_1433.Entries x_1433.Conf x_1433.Data x_1433.Last).Last))).set x_1138.toNat (Message.mk x_1473.Kind x_1473.From x_1473.To x_1473.Term x_1473.Index x_1473.LogTerm x_1473.Commit x_1473.Ok x_1473.Entries x_1473.Conf y_1472 x_1473.Last)).set x_1138.toNat (Message.mk x_1481.Kind x_1481.From x_1481.To x_1481.Term x_1481.Index x_1481.LogTerm x_1481.Commit x_1481.Ok x_1481.Entries x_1481.Conf x_1481.Data (x_1480 == (0 : Int))))
 else
 some (x_1137, x_1139))
def laws_markMessageS (N : Nat) (x_1 : (List Message)) (x_2 : Int) : Option (Int × (List Message)) :=
 joinP (fun (v_1136 : Int × (List Message)) =>
 some (v_1136.1, v_1136.2)) fun j_1136 =>
 (laws_markMessageS_l1 N N x_2 (0 : Int) x_1).bind (fun (v_1310 : Int × (List Message)) => j_1136 (v_1310.1, v_1310.2))
theorem sem_laws_markMessageS (N : Nat) (x_1 : (List Message)) (x_2 : Int) (r : Int × (List Message)) (h : laws_markMessageS N x_1 x_2 = some r) : Says Try.prog 34 [.sl 0 58 0 x_1.length, VI x_2] 1 [(0, .vec 58 (x_1.map (encMessage true)))] (VI r.1) [(0, .vec 58 (r.2.map (encMessage true)))] := by
  unfold laws_markMessageS at h
  refine Says.of_run s34 Try.call34 rfl fun B hB => ?_
  have hm : B.m ≤ 1000 := by omega
  refine Run.seq (Run.ops hm (Ops.p rfl (Ops.nil (Run.seqO h (fun (v_1136 : Int × (List Message)) => [(1, VI v_1136.1)]) (fun (v_1136 : Int × (List Message)) => [(0, .vec 58 (v_1136.2.map (encMessage true)))]) (fun h => ?_) (fun v_1136 h => ?_)))))
  · refine Run.seq (Run.ops hm (Ops.p rfl (Ops.nil (Run.block ?_))))
    obtain ⟨res_1310, h, hk_1310⟩ := bindO h
    refine Run.loop (n := N) (fun m_1310 fr σ => ∃ (x_1137 : Int), ∃ (x_1138 : Int), ∃ (x_1139 : (List Message)), laws_markMessageS_l1 N m_1310 x_1137 x_1138 x_1139 = some res_1310 ∧ fr = [(0, .sl 0 58 0 x_1139.length), (1, VI x_1137), (5, VI x_1138)] ∧ σ = [(0, .vec 58 (x_1139.map (encMessage true)))]) (gh_pk [0, 1, 5] [0] hB rfl rfl rfl rfl) ⟨_, _, _, h, rfl, rfl⟩ ?_
    rintro m_1310 fr σ ⟨x_1137, x_1138, x_1139, h, rfl, rfl⟩
    obtain _ | m_1310 := m_1310
    · rw [laws_markMessageS_l1] at h; cases h
    rw [laws_markMessageS_l1] at h
    refine Run.seq (Run.seq (Run.ops hm (Ops.p rfl (Ops.p rfl (Ops.p rfl (Ops.p rfl (Ops.nil (Run.condO rfl h (fun g_1313 h => ?_) (fun g_1313 h => ?_)))))))))
    · refine Run.skip (Run.seq (Run.block (Run.seq (Run.ops hm (Ops.p rfl (Ops.p rfl (Ops.p rfl ?_)))))))
      obtain ⟨x_1401, hx_1401, h⟩ := bindO h
      refine Ops.st (s := 17432) (Ev.iaW rfl rfl rfl hx_1401) rfl rfl (Ops.p rfl (Ops.s0 (s := 17464) (Ev.stE (f := (encMessage true)) (v' := (Message.mk x_1137 x_1401.From x_1401.To x_1401.Term x_1401.Index x_1401.LogTerm x_1401.Commit x_1401.Ok x_1401.Entries x_1401.Conf x_1401.Data x_1401.Last)) rfl rfl (at_some hx_1401).2 rfl (.cons (.c _) .nil) rfl rfl rfl rfl rfl) rfl rfl (Ops.nil (Run.seq (Run.ops hm (Ops.p rfl (Ops.p rfl (Ops.p rfl (Ops.nil (Run.seq (Run.ops hm (Ops.p rfl (Ops.p rfl (Ops.p rfl ?_))))))))))))))
      obtain ⟨x_1405, hx_1405, h⟩ := bindO h
      refine Ops.st (s := 25624) (Ev.iaW rfl (by simp) rfl hx_1405) rfl rfl ?_
      refine Ops.p rfl (Ops.s0 (s := 25656) (Ev.stE (f := (encMessage true)) (v' := (Message.mk x_1405.Kind (w64 (x_1137 + (1 : Int))) x_1405.To x_1405.Term x_1405.Index x_1405.LogTerm x_1405.Commit x_1405.Ok x_1405.Entries x_1405.Conf x_1405.Data x_1405.Last)) rfl rfl (at_some hx_1405).2 rfl (.cons (.c _) .nil) rfl rfl rfl rfl rfl) rfl rfl (Ops.nil (Run.seq (Run.ops hm (Ops.p rfl (Ops.p rfl (Ops.p rfl (Ops.nil (Run.seq (Run.ops hm (Ops.p rfl (Ops.p rfl (Ops.p rfl ?_)))))))))))))
      obtain ⟨x_1409, hx_1409, h⟩ := bindO h
      refine Ops.st (s := 33816) (Ev.iaW rfl (by simp) rfl hx_1409) rfl rfl ?_
      refine Ops.p rfl (Ops.s0 (s := 33848) (Ev.stE (f := (encMessage true)) (v' := (Message.mk x_1409.Kind x_1409.From (w64 ((w64 (x_1137 + (1 : Int))) + (1 : Int))) x_1409.Term x_1409.Index x_1409.LogTerm x_1409.Commit x_1409.Ok x_1409.Entries x_1409.Conf x_1409.Data x_1409.Last)) rfl rfl (at_some hx_1409).2 rfl (.cons (.c _) .nil) rfl rfl rfl rfl rfl) rfl rfl (Ops.nil (Run.seq (Run.ops hm (Ops.p rfl (Ops.p rfl (Ops.p rfl (Ops.nil (Run.seq (Run.ops hm (Ops.p rfl (Ops.p rfl (Ops.p rfl ?_)))))))))))))
      obtain ⟨x_1413, hx_1413, h⟩ := bindO h
      refine Ops.st (s := 42008) (Ev.iaW rfl (by simp) rfl hx_1413) rfl rfl ?_
      refine Ops.p rfl (Ops.s0 (s := 42040) (Ev.stE (f := (encMessage true)) (v' := (Message.mk x_1413.Kind x_1413.From x_1413.To (w64 ((w64 ((w64 (x_1137 + (1 : Int))) + (1 : Int))) + (1 : Int))) x_1413.Index x_1413.LogTerm x_1413.Commit x_1413.Ok x_1413.Entries x_1413.Conf x_1413.Data x_1413.Last)) rfl rfl (at_some hx_1413).2 rfl (.cons (.c _) .nil) rfl rfl rfl rfl rfl) rfl rfl (Ops.nil (Run.seq (Run.ops hm (Ops.p rfl (Ops.p rfl (Ops.p rfl (Ops.nil (Run.seq (Run.ops hm (Ops.p rfl (Ops.p rfl (Ops.p rfl ?_)))))))))))))
      obtain ⟨x_1417, hx_1417, h⟩ := bindO h
      refine Ops.st (s := 50200) (Ev.iaW rfl (by simp) rfl hx_1417) rfl rfl ?_
      refine Ops.p rfl (Ops.s0 (s := 50232) (Ev.stE (f := (encMessage true)) (v' := (Message.mk x_1417.Kind x_1417.From x_1417.To x_1417.Term (w64 ((w64 ((w64 ((w64 (x_1137 + (1 : Int))) + (1 : Int))) + (1 : Int))) + (1 : Int))) x_1417.LogTerm x_1417.Commit x_1417.Ok x_1417.Entries x_1417.Conf x_1417.Data x_1417.Last)) rfl rfl (at_some hx_1417).2 rfl (.cons (.c _) .nil) rfl rfl rfl rfl rfl) rfl rfl (Ops.nil (Run.seq (Run.ops hm (Ops.p rfl (Ops.p rfl (Ops.p rfl (Ops.nil (Run.seq (Run.ops hm (Ops.p rfl (Ops.p rfl (Ops.p rfl ?_)))))))))))))
      obtain ⟨x_1421, hx_1421, h⟩ := bindO h
      refine Ops.st (s := 58392) (Ev.iaW rfl (by simp) rfl hx_1421) rfl rfl ?_
      refine Ops.p rfl (Ops.s0 (s := 58424) (Ev.stE (f := (encMessage true)) (v' := (Message.mk x_1421.Kind x_1421.From x_1421.To x_1421.Term x_1421.Index (w64 ((w64 ((w64 ((w64 ((w64 (x_1137 + (1 : Int))) + (1 : Int))) + (1 : Int))) + (1 : Int))) + (1 : Int))) x_1421.Commit x_1421.Ok x_1421.Entries x_1421.Conf x_1421.Data x_1421.Last)) rfl rfl (at_some hx_1421).2 rfl (.cons (.c _) .nil) rfl rfl rfl rfl rfl) rfl rfl (Ops.nil (Run.seq (Run.ops hm (Ops.p rfl (Ops.p rfl (Ops.p rfl (Ops.nil (Run.seq (Run.ops hm (Ops.p rfl (Ops.p rfl (Ops.p rfl ?_)))))))))))))
      obtain ⟨x_1425, hx_1425, h⟩ := bindO h
      refine Ops.st (s := 66584) (Ev.iaW rfl (by simp) rfl hx_1425) rfl rfl ?_
      refine Ops.p rfl (Ops.s0 (s := 66616) (Ev.stE (f := (encMessage true)) (v' := (Message.mk x_1425.Kind x_1425.From x_1425.To x_1425.Term x_1425.Index x_1425.LogTerm (w64 ((w64 ((w64 ((w64 ((w64 ((w64 (x_1137 + (1 : Int))) + (1 : Int))) + (1 : Int))) + (1 : Int))) + (1 : Int))) + (1 : Int))) x_1425.Ok x_1425.Entries x_1425.Conf x_1425.Data x_1425.Last)) rfl rfl (at_some hx_1425).2 rfl (.cons (.c _) .nil) rfl rfl rfl rfl rfl) rfl rfl (Ops.nil (Run.seq (Run.ops hm (Ops.p rfl (Ops.p rfl (Ops.p rfl (Ops.nil (Run.seq (Run.ops hm (Ops.p rfl (Ops.p rfl (Ops.p rfl ?_)))))))))))))
      obtain ⟨x_1432, hx_1432, h⟩ := bindO h
      refine Ops.st (s := 74776) (.bin rfl rfl hx_1432) rfl rfl (Ops.p rfl ?_)
      obtain ⟨x_1433, hx_1433, h⟩ := bindO h
      refine Ops.st (s := 74808) (Ev.iaW rfl (by simp) rfl hx_1433) rfl rfl ?_
      refine Ops.p rfl (Ops.s0 (s := 74840) (Ev.stE (f := (encMessage true)) (v' := (Message.mk x_1433.Kind x_1433.From x_1433.To x_1433.Term x_1433.Index x_1433.LogTerm x_1433.Commit (x_1432 == (0 : Int)) x_1433.Entries x_1433.Conf x_1433.Data x_1433.Last)) rfl rfl (at_some hx_1433).2 rfl (.cons (.c _) .nil) rfl rfl rfl rfl rfl) rfl rfl (Ops.nil (Run.seq (Run.ops hm (Ops.p rfl (Ops.p rfl (Ops.p rfl (Ops.nil (Run.seq (Run.gh (Gh.opE (f := (encMessage true)) (xs := ((((((((x_1139.set x_1138.toNat (Message.mk x_1137 x_1401.From x_1401.To x_1401.Term x_1401.Index x_1401.LogTerm x_1401.Commit x_1401.Ok x_1401.Entries x_1401.Conf x_1401.Data x_1401.Last)).set x_1138.toNat (Message.mk x_1405.Kind (w64 (x_1137 + (1 : Int))) x_1405.To x_1405.Term x_1405.Index x_1405.LogTerm x_1405.Commit x_1405.Ok x_1405.Entries x_1405.Conf x_1405.Data x_1405.Last)).set x_1138.toNat (Message.mk x_1409.Kind x_1409.From (w64 ((w64 (x_1137 + (1 : Int))) + (1 : Int))) x_1409.Term x_1409.Index x_1409.LogTerm x_1409.Commit x_1409.Ok x_1409.Entries x_1409.Conf x_1409.Data x_1409.Last)).set x_1138.toNat (Message.mk x_1413.Kind x_1413.From x_1413.To (w64 ((w64 ((w64 (x_1137 + (1 : Int))) + (1 : Int))) + (1 : Int))) x_1413.Index x_1413.LogTerm x_1413.Commit x_1413.Ok x_1413.Entries x_1413.Conf x_1413.Data x_1413.Last)).set x_1138.toNat (Message.mk x_1417.Kind x_1417.From x_1417.To x_1417.Term (w64 ((w64 ((w64 ((w64 (x_1137 + (1 : Int))) + (1 : Int))) + (1 : Int))) + (1 : Int))) x_1417.LogTerm x_1417.Commit x_1417.Ok x_1417.Entries x_1417.Conf x_1417.Data x_1417.Last)).set x_1138.toNat (Message.mk x_1421.Kind x_1421.From x_1421.To x_1421.Term x_1421.Index (w64 ((w64 ((w64 ((w64 ((w64 (x_1137 + (1 : Int))) + (1 : Int))) + (1 : Int))) + (1 : Int))) + (1 : Int))) x_1421.Commit x_1421.Ok x_1421.Entries x_1421.Conf x_1421.Data x_1421.Last)).set x_1138.toNat (Message.mk x_1425.Kind x_1425.From x_1425.To x_1425.Term x_1425.Index x_1425.LogTerm (w64 ((w64 ((w64 ((w64 ((w64 ((w64 (x_1137 + (1 : Int))) + (1 : Int))) + (1 : Int))) + (1 : Int))) + (1 : Int))) + (1 : Int))) x_1425.Ok x_1425.Entries x_1425.Conf x_1425.Data x_1425.Last)).set x_1138.toNat (Message.mk x_1433.Kind x_1433.From x_1433.To x_1433.Term x_1433.Index x_1433.LogTerm x_1433.Commit (x_1432 == (0 : Int)) x_1433.Entries x_1433.Conf x_1433.Data x_1433.Last))) (u := (Message.mk x_1433.Kind x_1433.From x_1433.To x_1433.Term x_1433.Index x_1433.LogTerm x_1433.Commit (x_1432 == (0 : Int)) x_1433.Entries x_1433.Conf x_1433.Data x_1433.Last)) 0 8 40000062 rfl (set_at (at_some hx_1433).2) rfl rfl (Nat.le_trans hm (by decide))) ?_))))))))))
      refine Run.ops hm (Ops.p rfl (Ops.p rfl ?_))
      obtain ⟨x_1445, hx_1445, h⟩ := bindO h
      refine Ops.st (s := 82952) (Ev.iaW rfl (by simp) rfl hx_1445) rfl rfl ?_
      refine Ops.p rfl (Ops.st (s := 82984) (Ev.ldL1 rfl rfl rfl rfl rfl) rfl rfl (Ops.p rfl ?_))
      obtain ⟨y_1446, hy_1446, h⟩ := bindO h
      obtain ⟨y_1447, hy_1447, h⟩ := bindO h
      refine Ops.st (s := 83016) (Ev.call [40000062] [] 0 (sem_laws_markEntryS N ((Message.mk x_1433.Kind x_1433.From x_1433.To x_1433.Term x_1433.Index x_1433.LogTerm x_1433.Commit (x_1432 == (0 : Int)) x_1433.Entries x_1433.Conf x_1433.Data x_1433.Last).Entries) (w64 ((w64 ((w64 ((w64 ((w64 ((w64 ((w64 ((w64 (x_1137 + (1 : Int))) + (1 : Int))) + (1 : Int))) + (1 : Int))) + (1 : Int))) + (1 : Int))) + (1 : Int))) + (1 : Int))) _ hy_1446) rfl rfl (.cons (.sl rfl) (.cons (.c _) .nil)) rfl (.inl rfl) rfl rfl) rfl rfl (Ops.p rfl (Ops.nil (Run.seq (Run.gh (Gh.opL 0 9 40000064 rfl rfl rfl (Nat.le_trans hm (by decide))) ?_))))
      refine Run.ops hm (Ops.p rfl (Ops.p rfl ?_))
      obtain ⟨x_1459, hx_1459, h⟩ := bindO h
      refine Ops.st (s := 87048) (Ev.iaW rfl (by simp) rfl hx_1459) rfl rfl ?_
      refine Ops.p rfl (Ops.st (s := 87080) (Ev.ldL1 rfl rfl rfl rfl rfl) rfl rfl (Ops.p rfl ?_))
      obtain ⟨y_1460, hy_1460, h⟩ := bindO h
      obtain ⟨y_1461, hy_1461, h⟩ := bindO h
      refine Ops.st (s := 87112) (Ev.call [40000064] [] 0 (sem_laws_markIntS N ((Message.mk x_1433.Kind x_1433.From x_1433.To x_1433.Term x_1433.Index x_1433.LogTerm x_1433.Commit (x_1432 == (0 : Int)) x_1433.Entries x_1433.Conf x_1433.Data x_1433.Last).Conf) y_1446.1 _ hy_1460) rfl rfl (.cons (.sl rfl) (.cons (.c _) .nil)) rfl (.inl rfl) rfl rfl) rfl rfl (Ops.p rfl (Ops.nil (Run.seq (Run.gh (Gh.clL 0 8 40000062 rfl rfl rfl rfl) (Run.gh (Gh.clL 0 9 40000064 rfl rfl rfl rfl) (Run.gh (Gh.unE (f := (encMessage true)) (xs := ((((((((x_1139.set x_1138.toNat (Message.mk x_1137 x_1401.From x_1401.To x_1401.Term x_1401.Index x_1401.LogTerm x_1401.Commit x_1401.Ok x_1401.Entries x_1401.Conf x_1401.Data x_1401.Last)).set x_1138.toNat (Message.mk x_1405.Kind (w64 (x_1137 + (1 : Int))) x_1405.To x_1405.Term x_1405.Index x_1405.LogTerm x_1405.Commit x_1405.Ok x_1405.Entries x_1405.Conf x_1405.Data x_1405.Last)).set x_1138.toNat (Message.mk x_1409.Kind x_1409.From (w64 ((w64 (x_1137 + (1 : Int))) + (1 : Int))) x_1409.Term x_1409.Index x_1409.LogTerm x_1409.Commit x_1409.Ok x_1409.Entries x_1409.Conf x_1409.Data x_1409.Last)).set x_1138.toNat (Message.mk x_1413.Kind x_1413.From x_1413.To (w64 ((w64 ((w64 (x_1137 + (1 : Int))) + (1 : Int))) + (1 : Int))) x_1413.Index x_1413.LogTerm x_1413.Commit x_1413.Ok x_1413.Entries x_1413.Conf x_1413.Data x_1413.Last)).set x_1138.toNat (Message.mk x_1417.Kind x_1417.From x_1417.To x_1417.Term (w64 ((w64 ((w64 ((w64 (x_1137 + (1 : Int))) + (1 : Int))) + (1 : Int))) + (1 : Int))) x_1417.LogTerm x_1417.Commit x_1417.Ok x_1417.Entries x_1417.Conf x_1417.Data x_1417.Last)).set x_1138.toNat (Message.mk x_1421.Kind x_1421.From x_1421.To x_1421.Term x_1421.Index (w64 ((w64 ((w64 ((w64 ((w64 (x_1137 + (1 : Int))) + (1 : Int))) + (1 : Int))) + (1 : Int))) + (1 : Int))) x_1421.Commit x_1421.Ok x_1421.Entries x_1421.Conf x_1421.Data x_1421.Last)).set x_1138.toNat (Message.mk x_1425.Kind x_1425.From x_1425.To x_1425.Term x_1425.Index x_1425.LogTerm (w64 ((w64 ((w64 ((w64 ((w64 ((w64 (x_1137 + (1 : Int))) + (1 : Int))) + (1 : Int))) + (1 : Int))) + (1 : Int))) + (1 : Int))) x_1425.Ok x_1425.Entries x_1425.Conf x_1425.Data x_1425.Last)).set x_1138.toNat (Message.mk x_1433.Kind x_1433.From x_1433.To x_1433.Term x_1433.Index x_1433.LogTerm x_1433.Commit (x_1432 == (0 : Int)) x_1433.Entries x_1433.Conf x_1433.Data x_1433.Last))) 0 (Message.mk ((Message.mk x_1433.Kind x_1433.From x_1433.To x_1433.Term x_1433.Index x_1433.LogTerm x_1433.Commit (x_1432 == (0 : Int)) x_1433.Entries x_1433.Conf x_1433.Data x_1433.Last).Kind) ((Message.mk x_1433.Kind x_1433.From x_1433.To x_1433.Term x_1433.Index x_1433.LogTerm x_1433.Commit (x_1432 == (0 : Int)) x_1433.Entries x_1433.Conf x_1433.Data x_1433.Last).From) ((Message.mk x_1433.Kind x_1433.From x_1433.To x_1433.Term x_1433.Index x_1433.LogTerm x_1433.Commit (x_1432 == (0 : Int)) x_1433.Entries x_1433.Conf x_1433.Data x_1433.Last).To) ((Message.mk x_1433.Kind x_1433.From x_1433.To x_1433.Term x_1433.Index x_1433.LogTerm x_1433.Commit (x_1432 == (0 : Int)) x_1433.Entries x_1433.Conf x_1433.Data x_1433.Last).Term) ((Message.mk x_1433.Kind x_1433.From x_1433.To x_1433.Term x_1433.Index x_1433.LogTerm x_1433.Commit (x_1432 == (0 : Int)) x_1433.Entries x_1433.Conf x_1433.Data x_1433.Last).Index) ((Message.mk x_1433.Kind x_1433.From x_1433.To x_1433.Term x_1433.Index x_1433.LogTerm x_1433.Commit (x_1432 == (0 : Int)) x_1433.Entries x_1433.Conf x_1433.Data x_1433.Last).LogTerm) ((Message.mk x_1433.Kind x_1433.From x_1433.To x_1433.Term x_1433.Index x_1433.LogTerm x_1433.Commit (x_1432 == (0 : Int)) x_1433.Entries x_1433.Conf x_1433.Data x_1433.Last).Commit) ((Message.mk x_1433.Kind x_1433.From x_1433.To x_1433.Term x_1433.Index x_1433.LogTerm x_1433.Commit (x_1432 == (0 : Int)) x_1433.Entries x_1433.Conf x_1433.Data x_1433.Last).Ok) y_1446.2 y_1460.2 ((Message.mk x_1433.Kind x_1433.From x_1433.To x_1433.Term x_1433.Index x_1433.LogTerm x_1433.Commit (x_1432 == (0 : Int)) x_1433.Entries x_1433.Conf x_1433.Data x_1433.Last).Data) ((Message.mk x_1433.Kind x_1433.From x_1433.To x_1433.Term x_1433.Index x_1433.LogTerm x_1433.Commit (x_1432 == (0 : Int)) x_1433.Entries x_1433.Conf x_1433.Data x_1433.Last).Last)) rfl rfl) (Run.ops hm (Ops.p rfl (Ops.p rfl (Ops.p rfl ?_))))))))))
      obtain ⟨y_1472, hy_1472, h⟩ := bindO h
      refine Ops.st (s := 91160) (Ev.call [] [] 0 (sem_laws_markText N y_1460.1 _ hy_1472) rfl rfl (.cons (.c _) .nil) rfl (.inl rfl) rfl rfl) rfl rfl ?_
      obtain ⟨x_1473, hx_1473, h⟩ := bindO h
      refine Ops.st (s := 91176) (Ev.iaW rfl (by simp) rfl hx_1473) rfl rfl ?_
      refine Ops.p rfl (Ops.s0 (s := 91208) (Ev.stE (f := (encMessage true)) (v' := (Message.mk x_1473.Kind x_1473.From x_1473.To x_1473.Term x_1473.Index x_1473.LogTerm x_1473.Commit x_1473.Ok x_1473.Entries x_1473.Conf y_1472 x_1473.Last)) rfl rfl (at_some hx_1473).2 rfl (.cons (.c _) .nil) rfl rfl rfl rfl rfl) rfl rfl (Ops.nil (Run.seq (Run.ops hm (Ops.p rfl (Ops.p rfl (Ops.p rfl (Ops.nil (Run.seq (Run.ops hm (Ops.p rfl (Ops.p rfl (Ops.p rfl ?_)))))))))))))
      obtain ⟨x_1480, hx_1480, h⟩ := bindO h
      refine Ops.st (s := 99352) (.bin rfl rfl hx_1480) rfl rfl (Ops.p rfl ?_)
      obtain ⟨x_1481, hx_1481, h⟩ := bindO h
      refine Ops.st (s := 99384) (Ev.iaW rfl (by simp) rfl hx_1481) rfl rfl ?_
      exact Ops.p rfl (Ops.s0 (s := 99416) (Ev.stE (f := (encMessage true)) (v' := (Message.mk x_1481.Kind x_1481.From x_1481.To x_1481.Term x_1481.Index x_1481.LogTerm x_1481.Commit x_1481.Ok x_1481.Entries x_1481.Conf x_1481.Data (x_1480 == (0 : Int)))) rfl rfl (at_some hx_1481).2 rfl (.cons (.c _) .nil) rfl rfl rfl rfl rfl) rfl rfl (Ops.nil (Run.ops hm (Ops.p rfl (Ops.p rfl (Ops.p rfl (Ops.nil (Run.ops hm (Ops.p rfl (Ops.p rfl (Ops.p rfl (Ops.nil (⟨m_1310, Nat.lt_succ_self m_1310, _, _, (gh_pk [0, 1, 5] [0] hB rfl rfl (by first | rfl | (simp only [List.length_set]; done) | (simp only [List.length_set]; rfl)) (by first | rfl | (simp only [List.length_set]; done) | (simp only [List.length_set]; rfl))), _, _, _, h, rfl, rfl⟩)))))))))))))
    · refine Run.exit ?_
      obtain rfl := someO h
      have h := hk_1310
      exact ⟨_, _, (gh_pk [1] [0] hB rfl rfl rfl rfl), (x_1137, x_1139), h, rfl, rfl⟩
  · refine Run.seq (Run.ops hm (Ops.p rfl (Ops.p rfl (Ops.nil (Run.ret ?_)))))
    obtain rfl := someO h
    exact Ends.mkG (.inl rfl) rfl (gh_pk [0] [0] hB rfl rfl rfl rfl) rfl rfl
end Go.Proofs.Ytehknbpmpbghhaa.Pe.FnExactTick
