/- Functions, as pure functions; and that Go does just that. -/
import Derived.Test.YtebbgdjmplceiaaPeFFnExactNodeNew3
namespace Go.Proofs.Ytebbgdjmplceiaa.Pe.FnExactNodeNew
open Go Go.RowKit
set_option linter.unusedVariables false
set_option linter.unusedSimpArgs false
set_option maxHeartbeats 40000000
def laws_eqLog (N : Nat) (x_1 : Log) (x_2 : Log) : Option (Bool) :=
 (if (x_1.Start != x_2.Start) = true then
 some false
 else
 (if (x_1.StartTerm != x_2.StartTerm) = true then
 some false
 else
 (laws_eqEntryS N x_1.Entries x_2.Entries).bind fun y_110 =>
 (if (!y_110) = true then
 some false
 else
 some true)))
theorem sem_laws_eqLog (N : Nat) (x_1 : Log) (x_2 : Log) (r : Bool) (h : laws_eqLog N x_1 x_2 = some r) : Says Try.prog 35 [.agg [VI x_1.Start, VI x_1.StartTerm, RO 48 (x_1.Entries.map encEntry)], .agg [VI x_2.Start, VI x_2.StartTerm, RO 48 (x_2.Entries.map encEntry)]] 0 [] (VB r) [] := by
  unfold laws_eqLog at h
  refine Says.of_run s35 Try.call35 rfl fun B hB => ?_
  have hm : B.m ≤ 1000 := by omega
  refine Run.seq ?_
  refine Run.ops hm ?_
  refine Ops.st (s := 1000) (.bx rfl rfl) rfl rfl ?_
  refine Ops.st (s := 1016) (.bx rfl rfl) rfl rfl ?_
  refine Ops.p rfl ?_
  refine Ops.nil ?_
  refine Run.seq ?_
  refine Run.seq ?_
  refine Run.ops hm ?_
  refine Ops.p rfl ?_
  refine Ops.p rfl ?_
  refine Ops.p rfl ?_
  refine Ops.p rfl ?_
  refine Ops.p rfl ?_
  refine Ops.nil ?_
  refine Run.condO rfl h (fun g_107 h => ?_) (fun g_107 h => ?_)
  · skip
    refine Run.seq ?_
    refine Run.ops hm ?_
    refine Ops.p rfl ?_
    refine Ops.nil ?_
    refine Run.ret ?_
    obtain rfl := someO h
    exact Ends.mkG (.inl rfl) rfl (gh_pk [0] [] hB rfl rfl rfl rfl) rfl rfl
  · skip
    refine Run.skip ?_
    refine Run.seq ?_
    refine Run.seq ?_
    refine Run.ops hm ?_
    refine Ops.p rfl ?_
    refine Ops.p rfl ?_
    refine Ops.p rfl ?_
    refine Ops.p rfl ?_
    refine Ops.p rfl ?_
    refine Ops.nil ?_
    refine Run.condO rfl h (fun g_109 h => ?_) (fun g_109 h => ?_)
    · skip
      refine Run.seq ?_
      refine Run.ops hm ?_
      refine Ops.p rfl ?_
      refine Ops.nil ?_
      refine Run.ret ?_
      obtain rfl := someO h
      exact Ends.mkG (.inl rfl) rfl (gh_pk [0] [] hB rfl rfl rfl rfl) rfl rfl
    · skip
      refine Run.skip ?_
      refine Run.seq ?_
      refine Run.seq ?_
      refine Run.ops hm ?_
      refine Ops.p rfl ?_
      refine Ops.p rfl ?_
      refine Ops.p rfl ?_
      refine Ops.p rfl ?_
      obtain ⟨y_110, hy_110, h⟩ := bindO h
      refine Ops.st (s := 21544) (Ev.call [] [] 0 (sem_laws_eqEntryS N x_1.Entries x_2.Entries _ hy_110) rfl rfl (.cons (.c _) (.cons (.c _) .nil)) rfl (.inl rfl) rfl rfl) rfl rfl ?_
      refine Ops.p rfl ?_
      refine Ops.nil ?_
      refine Run.condO rfl h (fun g_111 h => ?_) (fun g_111 h => ?_)
      · skip
        refine Run.seq ?_
        refine Run.ops hm ?_
        refine Ops.p rfl ?_
        refine Ops.nil ?_
        refine Run.ret ?_
        obtain rfl := someO h
        exact Ends.mkG (.inl rfl) rfl (gh_pk [0] [] hB rfl rfl rfl rfl) rfl rfl
      · skip
        refine Run.skip ?_
        refine Run.seq ?_
        refine Run.ops hm ?_
        refine Ops.p rfl ?_
        refine Ops.nil ?_
        refine Run.ret ?_
        obtain rfl := someO h
        exact Ends.mkG (.inl rfl) rfl (gh_pk [0] [] hB rfl rfl rfl rfl) rfl rfl
def laws_eqPeer (N : Nat) (x_1 : Peer) (x_2 : Peer) : Option (Bool) :=
 (if (x_1.Id != x_2.Id) = true then
 some false
 else
 (if (x_1.Next != x_2.Next) = true then
 some false
 else
 (if (x_1.Match != x_2.Match) = true then
 some false
 else
 (if (x_1.Sent != x_2.Sent) = true then
 some false
 else
 some true))))
theorem sem_laws_eqPeer (N : Nat) (x_1 : Peer) (x_2 : Peer) (r : Bool) (h : laws_eqPeer N x_1 x_2 = some r) : Says Try.prog 145 [.agg [VI x_1.Id, VI x_1.Next, VI x_1.Match, VI x_1.Sent], .agg [VI x_2.Id, VI x_2.Next, VI x_2.Match, VI x_2.Sent]] 0 [] (VB r) [] := by
  unfold laws_eqPeer at h
  refine Says.of_run s145 Try.call145 rfl fun B hB => ?_
  have hm : B.m ≤ 1000 := by omega
  refine Run.seq ?_
  refine Run.ops hm ?_
  refine Ops.st (s := 1000) (.bx rfl rfl) rfl rfl ?_
  refine Ops.st (s := 1016) (.bx rfl rfl) rfl rfl ?_
  refine Ops.p rfl ?_
  refine Ops.nil ?_
  refine Run.seq ?_
  refine Run.seq ?_
  refine Run.ops hm ?_
  refine Ops.p rfl ?_
  refine Ops.p rfl ?_
  refine Ops.p rfl ?_
  refine Ops.p rfl ?_
  refine Ops.p rfl ?_
  refine Ops.nil ?_
  refine Run.condO rfl h (fun g_108 h => ?_) (fun g_108 h => ?_)
  · skip
    refine Run.seq ?_
    refine Run.ops hm ?_
    refine Ops.p rfl ?_
    refine Ops.nil ?_
    refine Run.ret ?_
    obtain rfl := someO h
    exact Ends.mkG (.inl rfl) rfl (gh_pk [0] [] hB rfl rfl rfl rfl) rfl rfl
  · skip
    refine Run.skip ?_
    refine Run.seq ?_
    refine Run.seq ?_
    refine Run.ops hm ?_
    refine Ops.p rfl ?_
    refine Ops.p rfl ?_
    refine Ops.p rfl ?_
    refine Ops.p rfl ?_
    refine Ops.p rfl ?_
    refine Ops.nil ?_
    refine Run.condO rfl h (fun g_110 h => ?_) (fun g_110 h => ?_)
    · skip
      refine Run.seq ?_
      refine Run.ops hm ?_
      refine Ops.p rfl ?_
      refine Ops.nil ?_
      refine Run.ret ?_
      obtain rfl := someO h
      exact Ends.mkG (.inl rfl) rfl (gh_pk [0] [] hB rfl rfl rfl rfl) rfl rfl
    · skip
      refine Run.skip ?_
      refine Run.seq ?_
      refine Run.seq ?_
      refine Run.ops hm ?_
      refine Ops.p rfl ?_
      refine Ops.p rfl ?_
      refine Ops.p rfl ?_
      refine Ops.p rfl ?_
      refine Ops.p rfl ?_
      refine Ops.nil ?_
      refine Run.condO rfl h (fun g_112 h => ?_) (fun g_112 h => ?_)
      · skip
        refine Run.seq ?_
        refine Run.ops hm ?_
        refine Ops.p rfl ?_
        refine Ops.nil ?_
        refine Run.ret ?_
        obtain rfl := someO h
        exact Ends.mkG (.inl rfl) rfl (gh_pk [0] [] hB rfl rfl rfl rfl) rfl rfl
      · skip
        refine Run.skip ?_
        refine Run.seq ?_
        refine Run.seq ?_
        refine Run.ops hm ?_
        refine Ops.p rfl ?_
        refine Ops.p rfl ?_
        refine Ops.p rfl ?_
        refine Ops.p rfl ?_
        refine Ops.p rfl ?_
        refine Ops.nil ?_
        refine Run.condO rfl h (fun g_113 h => ?_) (fun g_113 h => ?_)
        · skip
          refine Run.seq ?_
          refine Run.ops hm ?_
          refine Ops.p rfl ?_
          refine Ops.nil ?_
          refine Run.ret ?_
          obtain rfl := someO h
          exact Ends.mkG (.inl rfl) rfl (gh_pk [0] [] hB rfl rfl rfl rfl) rfl rfl
        · skip
          refine Run.skip ?_
          refine Run.seq ?_
          refine Run.ops hm ?_
          refine Ops.p rfl ?_
          refine Ops.nil ?_
          refine Run.ret ?_
          obtain rfl := someO h
          exact Ends.mkG (.inl rfl) rfl (gh_pk [0] [] hB rfl rfl rfl rfl) rfl rfl
def laws_eqPeerS_l1 (N : Nat) (x_1 : (List Peer)) (x_2 : (List Peer)) : Nat → Int → Option ((Bool) ⊕ (Unit))
 | 0, _ => none
 | m + 1, x_186 =>
 (if (decide (x_186 < (x_1.length : Int))) = true then
 (at? x_1 x_186).bind fun x_206 =>
 (at? x_2 x_186).bind fun x_207 =>
 (laws_eqPeer N x_206 x_207).bind fun y_208 =>
 (if (!y_208) = true then
 some (Sum.inl false)
 else
 laws_eqPeerS_l1 N x_1 x_2 m (w64 (x_186 + (1 : Int))))
 else
 some (Sum.inr ()))
def laws_eqPeerS_l1_r (N : Nat) (x_1 : (List Peer)) (x_2 : (List Peer)) : (List Peer) → Int → Option ((Bool) ⊕ (Unit))
 | [], x_186 =>
 some (Sum.inr ())
 | hd :: tl, x_186 =>
 (some hd).bind fun x_206 =>
 (at? x_2 x_186).bind fun x_207 =>
 (laws_eqPeer N x_206 x_207).bind fun y_208 =>
 (if (!y_208) = true then
 some (Sum.inl false)
 else
 laws_eqPeerS_l1_r N x_1 x_2 tl (w64 (x_186 + (1 : Int))))
theorem laws_eqPeerS_l1_rng (N : Nat) (x_1 : (List Peer)) (x_2 : (List Peer)) (hx : x_1.length ≤ 1099511627776) : ∀ (d k m : Nat), x_1.length = k + d → d < m → laws_eqPeerS_l1 N x_1 x_2 m (k : Int) = laws_eqPeerS_l1_r N x_1 x_2 (x_1.drop k) (k : Int) := by
  intro d
  induction d with
  | zero =>
    intro k m hd hm
    obtain ⟨m, rfl⟩ : ∃ q, m = q + 1 := ⟨m - 1, by omega⟩
    rw [laws_eqPeerS_l1, if_neg (by simp; omega), List.drop_eq_nil_of_le (by omega), laws_eqPeerS_l1_r]
  | succ d ih =>
    intro k m hd hm
    obtain ⟨m, rfl⟩ : ∃ q, m = q + 1 := ⟨m - 1, by omega⟩
    have hk : k < x_1.length := by omega
    rw [laws_eqPeerS_l1, if_pos (by simp; omega), List.drop_eq_getElem_cons hk, laws_eqPeerS_l1_r]
    have h1 := at_lt hk
    have h2 := w64_succ (k := k) (by omega)
    have h3 := ih (k + 1) m
    simp only [h1, h2, h3 (by omega) (by omega)]
theorem laws_eqPeerS_l1_eq {N : Nat} (x_1 : (List Peer)) (x_2 : (List Peer)) (hx : x_1.length ≤ 1099511627776) (hN : x_1.length < N) : laws_eqPeerS_l1 N x_1 x_2 N 0 = laws_eqPeerS_l1_r N x_1 x_2 x_1 0 := laws_eqPeerS_l1_rng N x_1 x_2 hx x_1.length 0 N (by omega) hN
def laws_eqPeerS (N : Nat) (x_1 : (List Peer)) (x_2 : (List Peer)) : Option (Bool) :=
 (if ((x_1.length : Int) != (x_2.length : Int)) = true then
 some false
 else
 joinP (fun (v_183 : Unit) =>
 some true) fun j_183 =>
 (laws_eqPeerS_l1 N x_1 x_2 N (0 : Int)).bind (Sum.elim (fun v_197 => some v_197) (fun (v_198 : Unit) => j_183 ())))
theorem sem_laws_eqPeerS (N : Nat) (x_1 : (List Peer)) (x_2 : (List Peer)) (r : Bool) (h : laws_eqPeerS N x_1 x_2 = some r) : Says Try.prog 109 [RO 172 (x_1.map encPeer), RO 172 (x_2.map encPeer)] 0 [] (VB r) [] := by
  unfold laws_eqPeerS at h
  refine Says.of_run s109 Try.call109 rfl fun B hB => ?_
  have hm : B.m ≤ 1000 := by omega
  refine Run.seq ?_
  refine Run.ops hm ?_
  refine Ops.p rfl ?_
  refine Ops.nil ?_
  refine Run.seq ?_
  refine Run.seq ?_
  refine Run.ops hm ?_
  refine Ops.p rfl ?_
  refine Ops.st (s := 5112) (Ev.lnF rfl) rfl rfl ?_
  refine Ops.p rfl ?_
  refine Ops.st (s := 5144) (Ev.lnF rfl) rfl rfl ?_
  refine Ops.p rfl ?_
  refine Ops.nil ?_
  refine Run.condO rfl h (fun g_156 h => ?_) (fun g_156 h => ?_)
  · skip
    refine Run.seq ?_
    refine Run.ops hm ?_
    refine Ops.p rfl ?_
    refine Ops.nil ?_
    refine Run.ret ?_
    obtain rfl := someO h
    exact Ends.mkG (.inl rfl) rfl (gh_pk [0] [] hB rfl rfl rfl rfl) rfl rfl
  · skip
    refine Run.skip ?_
    refine Run.seqO h (fun (v_183 : Unit) => []) (fun (v_183 : Unit) => []) (fun h => ?_) (fun v_183 h => ?_)
    · skip
      refine Run.seq ?_
      refine Run.ops hm ?_
      refine Ops.p rfl ?_
      refine Ops.nil ?_
      refine Run.block ?_
      obtain ⟨res_198, h, hk_198⟩ := bindO h
      refine Run.loop (n := N) (fun m_198 fr σ => ∃ (x_186 : Int), laws_eqPeerS_l1 N x_1 x_2 m_198 x_186 = some res_198 ∧ fr = [(0, RO 172 (x_1.map encPeer)), (1, RO 172 (x_2.map encPeer)), (5, VI x_186)] ∧ σ = []) (gh_pk [0, 1, 5] [] hB rfl rfl rfl rfl) ⟨_, h, rfl, rfl⟩ ?_
      rintro m_198 fr σ ⟨x_186, h, rfl, rfl⟩
      obtain _ | m_198 := m_198
      · rw [laws_eqPeerS_l1] at h; cases h
      rw [laws_eqPeerS_l1] at h
      refine Run.seq ?_
      refine Run.seq ?_
      refine Run.ops hm ?_
      refine Ops.p rfl ?_
      refine Ops.p rfl ?_
      refine Ops.st (s := 17416) (Ev.lnF rfl) rfl rfl ?_
      refine Ops.p rfl ?_
      refine Ops.nil ?_
      refine Run.condO rfl h (fun g_201 h => ?_) (fun g_201 h => ?_)
      · skip
        refine Run.skip ?_
        refine Run.seq ?_
        refine Run.block ?_
        refine Run.seq ?_
        refine Run.draw hm hmix ?_
        refine OpsD.p rfl ?_
        refine OpsD.p rfl ?_
        obtain ⟨x_206, hx_206, h⟩ := bindO h
        refine OpsD.st (s := 25608) (Ev.iaF rfl rfl hx_206) rfl rfl ?_
        refine OpsD.p rfl ?_
        refine OpsD.p rfl ?_
        refine OpsD.p rfl ?_
        obtain ⟨x_207, hx_207, h⟩ := bindO h
        refine OpsD.st (s := 25672) (Ev.iaF rfl rfl hx_207) rfl rfl ?_
        refine OpsD.p rfl ?_
        obtain ⟨y_208, hy_208, h⟩ := bindO h
        refine OpsD.st (s := 25704) (Ev.call [] [] 0 (sem_laws_eqPeer N x_206 x_207 _ hy_208) rfl rfl (.cons (.agg (.cons (.c _) (.cons (.c _) (.cons (.c _) (.cons (.c _) .nil))))) (.cons (.agg (.cons (.c _) (.cons (.c _) (.cons (.c _) (.cons (.c _) .nil))))) .nil)) rfl (.inl rfl) rfl rfl) rfl rfl ?_
        refine OpsD.p rfl ?_
        refine OpsD.nil ⟨by kernel_rfl, ?_⟩
        refine Run.condO rfl h (fun g_209 h => ?_) (fun g_209 h => ?_)
        · skip
          refine Run.seq ?_
          refine Run.ops hm ?_
          refine Ops.p rfl ?_
          refine Ops.nil ?_
          refine Run.ret ?_
          obtain rfl := someO h
          have h := hk_198
          replace h := inlO h
          obtain rfl := someO h
          exact Ends.mkG (.inl rfl) rfl (gh_pk [0] [] hB rfl rfl rfl rfl) rfl rfl
        · skip
          refine Run.skip ?_
          refine Run.ops hm ?_
          refine Ops.p rfl ?_
          refine Ops.p rfl ?_
          refine Ops.p rfl ?_
          refine Ops.nil ?_
          exact ⟨m_198, Nat.lt_succ_self m_198, _, _, (gh_pk [0, 1, 5] [] hB rfl rfl rfl rfl), _, h, rfl, rfl⟩
      · skip
        refine Run.exit ?_
        obtain rfl := someO h
        have h := hk_198
        replace h := inrO h
        exact ⟨_, _, (gh_pk [] [] hB rfl rfl rfl rfl), (), h, rfl, rfl⟩
    · skip
      refine Run.seq ?_
      refine Run.ops hm ?_
      refine Ops.p rfl ?_
      refine Ops.nil ?_
      refine Run.ret ?_
      obtain rfl := someO h
      exact Ends.mkG (.inl rfl) rfl (gh_pk [0] [] hB rfl rfl rfl rfl) rfl rfl
def laws_eqNode (N : Nat) (x_1 : Node) (x_2 : Node) : Option (Bool) :=
 (if (x_1.Id != x_2.Id) = true then
 some false
 else
 (if (x_1.Term != x_2.Term) = true then
 some false
 else
 (if (x_1.Vote != x_2.Vote) = true then
 some false
 else
 (if (x_1.Role != x_2.Role) = true then
 some false
 else
 (if (x_1.Lead != x_2.Lead) = true then
 some false
 else
 (laws_eqIntS N x_1.Conf x_2.Conf).bind fun y_142 =>
 (if (!y_142) = true then
 some false
 else
 (laws_eqLog N x_1.Log x_2.Log).bind fun y_146 =>
 (if (!y_146) = true then
 some false
 else
 (if (x_1.Commit != x_2.Commit) = true then
 some false
 else
 (if (x_1.Clock != x_2.Clock) = true then
 some false
 else
 (if (x_1.Limit != x_2.Limit) = true then
 some false
 else
 (laws_eqIntS N x_1.Votes x_2.Votes).bind fun y_156 =>
 (if (!y_156) = true then
 some false
 else
 (laws_eqPeerS N x_1.Peers x_2.Peers).bind fun y_158 =>
 (if (!y_158) = true then
 some false
 else
 some true))))))))))))
theorem sem_laws_eqNode (N : Nat) (x_1 : Node) (x_2 : Node) (r : Bool) (h : laws_eqNode N x_1 x_2 = some r) : Says Try.prog 50 [.agg [VI x_1.Id, VI x_1.Term, VI x_1.Vote, VI x_1.Role, VI x_1.Lead, RO 3 (x_1.Conf.map encI), VI x_1.Log.Start, VI x_1.Log.StartTerm, RO 48 (x_1.Log.Entries.map encEntry), VI x_1.Commit, VI x_1.Clock, VI x_1.Limit, RO 3 (x_1.Votes.map encI), RO 172 (x_1.Peers.map encPeer)], .agg [VI x_2.Id, VI x_2.Term, VI x_2.Vote, VI x_2.Role, VI x_2.Lead, RO 3 (x_2.Conf.map encI), VI x_2.Log.Start, VI x_2.Log.StartTerm, RO 48 (x_2.Log.Entries.map encEntry), VI x_2.Commit, VI x_2.Clock, VI x_2.Limit, RO 3 (x_2.Votes.map encI), RO 172 (x_2.Peers.map encPeer)]] 0 [] (VB r) [] := by
  unfold laws_eqNode at h
  refine Says.of_run s50 Try.call50 rfl fun B hB => ?_
  have hm : B.m ≤ 1000 := by omega
  refine Run.seq ?_
  refine Run.ops hm ?_
  refine Ops.st (s := 1000) (.bx rfl rfl) rfl rfl ?_
  refine Ops.st (s := 1016) (.bx rfl rfl) rfl rfl ?_
  refine Ops.p rfl ?_
  refine Ops.nil ?_
  refine Run.seq ?_
  refine Run.seq ?_
  refine Run.ops hm ?_
  refine Ops.p rfl ?_
  refine Ops.p rfl ?_
  refine Ops.p rfl ?_
  refine Ops.p rfl ?_
  refine Ops.p rfl ?_
  refine Ops.nil ?_
  refine Run.condO rfl h (fun g_131 h => ?_) (fun g_131 h => ?_)
  · skip
    refine Run.seq ?_
    refine Run.ops hm ?_
    refine Ops.p rfl ?_
    refine Ops.nil ?_
    refine Run.ret ?_
    obtain rfl := someO h
    exact Ends.mkG (.inl rfl) rfl (gh_pk [0] [] hB rfl rfl rfl rfl) rfl rfl
  · skip
    refine Run.skip ?_
    refine Run.seq ?_
    refine Run.seq ?_
    refine Run.ops hm ?_
    refine Ops.p rfl ?_
    refine Ops.p rfl ?_
    refine Ops.p rfl ?_
    refine Ops.p rfl ?_
    refine Ops.p rfl ?_
    refine Ops.nil ?_
    refine Run.condO rfl h (fun g_133 h => ?_) (fun g_133 h => ?_)
    · skip
      refine Run.seq ?_
      refine Run.ops hm ?_
      refine Ops.p rfl ?_
      refine Ops.nil ?_
      refine Run.ret ?_
      obtain rfl := someO h
      exact Ends.mkG (.inl rfl) rfl (gh_pk [0] [] hB rfl rfl rfl rfl) rfl rfl
    · skip
      refine Run.skip ?_
      refine Run.seq ?_
      refine Run.seq ?_
      refine Run.ops hm ?_
      refine Ops.p rfl ?_
      refine Ops.p rfl ?_
      refine Ops.p rfl ?_
      refine Ops.p rfl ?_
      refine Ops.p rfl ?_
      refine Ops.nil ?_
      refine Run.condO rfl h (fun g_135 h => ?_) (fun g_135 h => ?_)
      · skip
        refine Run.seq ?_
        refine Run.ops hm ?_
        refine Ops.p rfl ?_
        refine Ops.nil ?_
        refine Run.ret ?_
        obtain rfl := someO h
        exact Ends.mkG (.inl rfl) rfl (gh_pk [0] [] hB rfl rfl rfl rfl) rfl rfl
      · skip
        refine Run.skip ?_
        refine Run.seq ?_
        refine Run.seq ?_
        refine Run.ops hm ?_
        refine Ops.p rfl ?_
        refine Ops.p rfl ?_
        refine Ops.p rfl ?_
        refine Ops.p rfl ?_
        refine Ops.p rfl ?_
        refine Ops.nil ?_
        refine Run.condO rfl h (fun g_137 h => ?_) (fun g_137 h => ?_)
        · skip
          refine Run.seq ?_
          refine Run.ops hm ?_
          refine Ops.p rfl ?_
          refine Ops.nil ?_
          refine Run.ret ?_
          obtain rfl := someO h
          exact Ends.mkG (.inl rfl) rfl (gh_pk [0] [] hB rfl rfl rfl rfl) rfl rfl
        · skip
          refine Run.skip ?_
          refine Run.seq ?_
          refine Run.seq ?_
          refine Run.ops hm ?_
          refine Ops.p rfl ?_
          refine Ops.p rfl ?_
          refine Ops.p rfl ?_
          refine Ops.p rfl ?_
          refine Ops.p rfl ?_
          refine Ops.nil ?_
          refine Run.condO rfl h (fun g_139 h => ?_) (fun g_139 h => ?_)
          · skip
            refine Run.seq ?_
            refine Run.ops hm ?_
            refine Ops.p rfl ?_
            refine Ops.nil ?_
            refine Run.ret ?_
            obtain rfl := someO h
            exact Ends.mkG (.inl rfl) rfl (gh_pk [0] [] hB rfl rfl rfl rfl) rfl rfl
          · skip
            refine Run.skip ?_
            refine Run.seq ?_
            refine Run.seq ?_
            refine Run.ops hm ?_
            refine Ops.p rfl ?_
            refine Ops.p rfl ?_
            refine Ops.p rfl ?_
            refine Ops.p rfl ?_
            obtain ⟨y_142, hy_142, h⟩ := bindO h
            refine Ops.st (s := 46120) (Ev.call [] [] 0 (sem_laws_eqIntS N x_1.Conf x_2.Conf _ hy_142) rfl rfl (.cons (.c _) (.cons (.c _) .nil)) rfl (.inl rfl) rfl rfl) rfl rfl ?_
            refine Ops.p rfl ?_
            refine Ops.nil ?_
            refine Run.condO rfl h (fun g_143 h => ?_) (fun g_143 h => ?_)
            · skip
              refine Run.seq ?_
              refine Run.ops hm ?_
              refine Ops.p rfl ?_
              refine Ops.nil ?_
              refine Run.ret ?_
              obtain rfl := someO h
              exact Ends.mkG (.inl rfl) rfl (gh_pk [0] [] hB rfl rfl rfl rfl) rfl rfl
            · skip
              refine Run.skip ?_
              refine Run.seq ?_
              refine Run.seq ?_
              refine Run.ops hm ?_
              refine Ops.p rfl ?_
              refine Ops.p rfl ?_
              refine Ops.p rfl ?_
              refine Ops.p rfl ?_
              obtain ⟨y_146, hy_146, h⟩ := bindO h
              refine Ops.st (s := 54312) (Ev.call [] [] 0 (sem_laws_eqLog N x_1.Log x_2.Log _ hy_146) rfl rfl (.cons (.agg (.cons (.c _) (.cons (.c _) (.cons (.c _) .nil)))) (.cons (.agg (.cons (.c _) (.cons (.c _) (.cons (.c _) .nil)))) .nil)) rfl (.inl rfl) rfl rfl) rfl rfl ?_
              refine Ops.p rfl ?_
              refine Ops.nil ?_
              refine Run.condO rfl h (fun g_147 h => ?_) (fun g_147 h => ?_)
              · skip
                refine Run.seq ?_
                refine Run.ops hm ?_
                refine Ops.p rfl ?_
                refine Ops.nil ?_
                refine Run.ret ?_
                obtain rfl := someO h
                exact Ends.mkG (.inl rfl) rfl (gh_pk [0] [] hB rfl rfl rfl rfl) rfl rfl
              · skip
                refine Run.skip ?_
                refine Run.seq ?_
                refine Run.seq ?_
                refine Run.ops hm ?_
                refine Ops.p rfl ?_
                refine Ops.p rfl ?_
                refine Ops.p rfl ?_
                refine Ops.p rfl ?_
                refine Ops.p rfl ?_
                refine Ops.nil ?_
                refine Run.condO rfl h (fun g_149 h => ?_) (fun g_149 h => ?_)
                · skip
                  refine Run.seq ?_
                  refine Run.ops hm ?_
                  refine Ops.p rfl ?_
                  refine Ops.nil ?_
                  refine Run.ret ?_
                  obtain rfl := someO h
                  exact Ends.mkG (.inl rfl) rfl (gh_pk [0] [] hB rfl rfl rfl rfl) rfl rfl
                · skip
                  refine Run.skip ?_
                  refine Run.seq ?_
                  refine Run.seq ?_
                  refine Run.ops hm ?_
                  refine Ops.p rfl ?_
                  refine Ops.p rfl ?_
                  refine Ops.p rfl ?_
                  refine Ops.p rfl ?_
                  refine Ops.p rfl ?_
                  refine Ops.nil ?_
                  refine Run.condO rfl h (fun g_151 h => ?_) (fun g_151 h => ?_)
                  · skip
                    refine Run.seq ?_
                    refine Run.ops hm ?_
                    refine Ops.p rfl ?_
                    refine Ops.nil ?_
                    refine Run.ret ?_
                    obtain rfl := someO h
                    exact Ends.mkG (.inl rfl) rfl (gh_pk [0] [] hB rfl rfl rfl rfl) rfl rfl
                  · skip
                    refine Run.skip ?_
                    refine Run.seq ?_
                    refine Run.seq ?_
                    refine Run.ops hm ?_
                    refine Ops.p rfl ?_
                    refine Ops.p rfl ?_
                    refine Ops.p rfl ?_
                    refine Ops.p rfl ?_
                    refine Ops.p rfl ?_
                    refine Ops.nil ?_
                    refine Run.condO rfl h (fun g_153 h => ?_) (fun g_153 h => ?_)
                    · skip
                      refine Run.seq ?_
                      refine Run.ops hm ?_
                      refine Ops.p rfl ?_
                      refine Ops.nil ?_
                      refine Run.ret ?_
                      obtain rfl := someO h
                      exact Ends.mkG (.inl rfl) rfl (gh_pk [0] [] hB rfl rfl rfl rfl) rfl rfl
                    · skip
                      refine Run.skip ?_
                      refine Run.seq ?_
                      refine Run.seq ?_
                      refine Run.ops hm ?_
                      refine Ops.p rfl ?_
                      refine Ops.p rfl ?_
                      refine Ops.p rfl ?_
                      refine Ops.p rfl ?_
                      obtain ⟨y_156, hy_156, h⟩ := bindO h
                      refine Ops.st (s := 87080) (Ev.call [] [] 0 (sem_laws_eqIntS N x_1.Votes x_2.Votes _ hy_156) rfl rfl (.cons (.c _) (.cons (.c _) .nil)) rfl (.inl rfl) rfl rfl) rfl rfl ?_
                      refine Ops.p rfl ?_
                      refine Ops.nil ?_
                      refine Run.condO rfl h (fun g_157 h => ?_) (fun g_157 h => ?_)
                      · skip
                        refine Run.seq ?_
                        refine Run.ops hm ?_
                        refine Ops.p rfl ?_
                        refine Ops.nil ?_
                        refine Run.ret ?_
                        obtain rfl := someO h
                        exact Ends.mkG (.inl rfl) rfl (gh_pk [0] [] hB rfl rfl rfl rfl) rfl rfl
                      · skip
                        refine Run.skip ?_
                        refine Run.seq ?_
                        refine Run.seq ?_
                        refine Run.ops hm ?_
                        refine Ops.p rfl ?_
                        refine Ops.p rfl ?_
                        refine Ops.p rfl ?_
                        refine Ops.p rfl ?_
                        obtain ⟨y_158, hy_158, h⟩ := bindO h
                        refine Ops.st (s := 95272) (Ev.call [] [] 0 (sem_laws_eqPeerS N x_1.Peers x_2.Peers _ hy_158) rfl rfl (.cons (.c _) (.cons (.c _) .nil)) rfl (.inl rfl) rfl rfl) rfl rfl ?_
                        refine Ops.p rfl ?_
                        refine Ops.nil ?_
                        refine Run.condO rfl h (fun g_159 h => ?_) (fun g_159 h => ?_)
                        · skip
                          refine Run.seq ?_
                          refine Run.ops hm ?_
                          refine Ops.p rfl ?_
                          refine Ops.nil ?_
                          refine Run.ret ?_
                          obtain rfl := someO h
                          exact Ends.mkG (.inl rfl) rfl (gh_pk [0] [] hB rfl rfl rfl rfl) rfl rfl
                        · skip
                          refine Run.skip ?_
                          refine Run.seq ?_
                          refine Run.ops hm ?_
                          refine Ops.p rfl ?_
                          refine Ops.nil ?_
                          refine Run.ret ?_
                          obtain rfl := someO h
                          exact Ends.mkG (.inl rfl) rfl (gh_pk [0] [] hB rfl rfl rfl rfl) rfl rfl
def laws_markIntS_l1 (N : Nat) : Nat → Int → Int → (List Int) → Option (Int × (List Int))
 | 0, _, _, _ => none
 | m + 1, x_153, x_154, x_155 =>
 (if (decide (x_154 < ((x_155.length : Nat) : Int))) = true then
 (at? x_155 x_154).bind fun x_169 =>
 laws_markIntS_l1 N m (w64 (x_153 + (1 : Int))) (w64 (x_154 + (1 : Int))) (x_155.set x_154.toNat x_153)
 else
 some (x_153, x_155))
def laws_markIntS (N : Nat) (x_1 : (List Int)) (x_2 : Int) : Option (Int × (List Int)) :=
 joinP (fun (v_152 : Int × (List Int)) =>
 some (v_152.1, v_152.2)) fun j_152 =>
 (laws_markIntS_l1 N N x_2 (0 : Int) x_1).bind (fun (v_162 : Int × (List Int)) => j_152 (v_162.1, v_162.2))
theorem sem_laws_markIntS (N : Nat) (x_1 : (List Int)) (x_2 : Int) (r : Int × (List Int)) (h : laws_markIntS N x_1 x_2 = some r) : Says Try.prog 52 [.sl 0 3 0 x_1.length, VI x_2] 1 [(0, .vec 3 (x_1.map encI))] (VI r.1) [(0, .vec 3 (r.2.map encI))] := by
  unfold laws_markIntS at h
  refine Says.of_run s52 Try.call52 rfl fun B hB => ?_
  have hm : B.m ≤ 1000 := by omega
  refine Run.seq ?_
  refine Run.ops hm ?_
  refine Ops.p rfl ?_
  refine Ops.nil ?_
  refine Run.seqO h (fun (v_152 : Int × (List Int)) => [(1, VI v_152.1)]) (fun (v_152 : Int × (List Int)) => [(0, .vec 3 (v_152.2.map encI))]) (fun h => ?_) (fun v_152 h => ?_)
  · skip
    refine Run.seq ?_
    refine Run.ops hm ?_
    refine Ops.p rfl ?_
    refine Ops.nil ?_
    refine Run.block ?_
    obtain ⟨res_162, h, hk_162⟩ := bindO h
    refine Run.loop (n := N) (fun m_162 fr σ => ∃ (x_153 : Int), ∃ (x_154 : Int), ∃ (x_155 : (List Int)), laws_markIntS_l1 N m_162 x_153 x_154 x_155 = some res_162 ∧ fr = [(0, .sl 0 3 0 x_155.length), (1, VI x_153), (5, VI x_154)] ∧ σ = [(0, .vec 3 (x_155.map encI))]) (gh_pk [0, 1, 5] [0] hB rfl rfl rfl rfl) ⟨_, _, _, h, rfl, rfl⟩ ?_
    rintro m_162 fr σ ⟨x_153, x_154, x_155, h, rfl, rfl⟩
    obtain _ | m_162 := m_162
    · rw [laws_markIntS_l1] at h; cases h
    rw [laws_markIntS_l1] at h
    refine Run.seq ?_
    refine Run.seq ?_
    refine Run.ops hm ?_
    refine Ops.p rfl ?_
    refine Ops.p rfl ?_
    refine Ops.p rfl ?_
    refine Ops.p rfl ?_
    refine Ops.nil ?_
    refine Run.condO rfl h (fun g_165 h => ?_) (fun g_165 h => ?_)
    · skip
      refine Run.skip ?_
      refine Run.seq ?_
      refine Run.block ?_
      refine Run.seq ?_
      refine Run.ops hm ?_
      refine Ops.p rfl ?_
      refine Ops.p rfl ?_
      refine Ops.p rfl ?_
      obtain ⟨x_169, hx_169, h⟩ := bindO h
      refine Ops.st (s := 17432) (Ev.iaW rfl rfl rfl hx_169) rfl rfl ?_
      refine Ops.s0 (s := 17448) (Ev.stE (f := encI) (v' := x_153) rfl rfl (at_some hx_169).2 rfl (.cons (.c _) .nil) rfl rfl rfl rfl rfl) rfl rfl ?_
      refine Ops.nil ?_
      refine Run.ops hm ?_
      refine Ops.p rfl ?_
      refine Ops.p rfl ?_
      refine Ops.p rfl ?_
      refine Ops.nil ?_
      refine Run.ops hm ?_
      refine Ops.p rfl ?_
      refine Ops.p rfl ?_
      refine Ops.p rfl ?_
      refine Ops.nil ?_
      exact ⟨m_162, Nat.lt_succ_self m_162, _, _, (gh_pk [0, 1, 5] [0] hB rfl rfl (by first | rfl | (simp only [List.length_set]; done) | (simp only [List.length_set]; rfl)) (by first | rfl | (simp only [List.length_set]; done) | (simp only [List.length_set]; rfl))), _, _, _, h, rfl, rfl⟩
    · skip
      refine Run.exit ?_
      obtain rfl := someO h
      have h := hk_162
      exact ⟨_, _, (gh_pk [1] [0] hB rfl rfl rfl rfl), (x_153, x_155), h, rfl, rfl⟩
  · skip
    refine Run.seq ?_
    refine Run.ops hm ?_
    refine Ops.p rfl ?_
    refine Ops.p rfl ?_
    refine Ops.nil ?_
    refine Run.ret ?_
    obtain rfl := someO h
    exact Ends.mkG (.inl rfl) rfl (gh_pk [0] [0] hB rfl rfl rfl rfl) rfl rfl
def laws_markText_l1 (N : Nat) : Nat → Int → ByteArray → Option (ByteArray)
 | 0, _, _ => none
 | m + 1, x_161, x_162 =>
 (if (decide (x_161 > (0 : Int))) = true then
 (intD .rem .i64 x_161 (10 : Int)).bind fun x_176 =>
 (scat? (strOf ([IntKind.wrap .u8 (w64 ((48 : Int) + x_176))] : List Int)) x_162).bind fun x_177 =>
 (intD .quo .i64 x_161 (10 : Int)).bind fun x_178 =>
 laws_markText_l1 N m x_178 x_177
 else
 some x_162)
def laws_markText (N : Nat) (x_1 : Int) : Option (ByteArray) :=
 (if (decide (x_1 ≤ (0 : Int))) = true then
 some (⟨#[109, 48]⟩ : ByteArray)
 else
 joinP (fun (v_160 : ByteArray) =>
 (scat? (⟨#[109]⟩ : ByteArray) v_160).bind fun x_179 =>
 some x_179) fun j_160 =>
 (laws_markText_l1 N N x_1 (⟨#[]⟩ : ByteArray)).bind (fun (v_170 : ByteArray) => j_160 v_170))
theorem sem_laws_markText (N : Nat) (x_1 : Int) (r : ByteArray) (h : laws_markText N x_1 = some r) : Says Try.prog 157 [VI x_1] 0 [] (VS r) [] := by
  unfold laws_markText at h
  refine Says.of_run s157 Try.call157 rfl fun B hB => ?_
  have hm : B.m ≤ 1000 := by omega
  refine Run.seq ?_
  refine Run.ops hm ?_
  refine Ops.p rfl ?_
  refine Ops.nil ?_
  refine Run.seq ?_
  refine Run.seq ?_
  refine Run.ops hm ?_
  refine Ops.p rfl ?_
  refine Ops.p rfl ?_
  refine Ops.nil ?_
  refine Run.condO rfl h (fun g_141 h => ?_) (fun g_141 h => ?_)
  · skip
    refine Run.seq ?_
    refine Run.ops hm ?_
    refine Ops.p rfl ?_
    refine Ops.nil ?_
    refine Run.ret ?_
    obtain rfl := someO h
    exact Ends.mkG (.inl rfl) rfl (gh_pk [0] [] hB rfl rfl rfl rfl) rfl rfl
  · skip
    refine Run.skip ?_
    refine Run.seq ?_
    refine Run.ops hm ?_
    refine Ops.p rfl ?_
    refine Ops.nil ?_
    refine Run.seqO h (fun (v_160 : ByteArray) => [(3, VS v_160)]) (fun (v_160 : ByteArray) => []) (fun h => ?_) (fun v_160 h => ?_)
    · skip
      refine Run.block ?_
      obtain ⟨res_170, h, hk_170⟩ := bindO h
      refine Run.loop (n := N) (fun m_170 fr σ => ∃ (x_161 : Int), ∃ (x_162 : ByteArray), laws_markText_l1 N m_170 x_161 x_162 = some res_170 ∧ fr = [(0, VI x_161), (3, VS x_162)] ∧ σ = []) (gh_pk [0, 3] [] hB rfl rfl rfl rfl) ⟨_, _, h, rfl, rfl⟩ ?_
      rintro m_170 fr σ ⟨x_161, x_162, h, rfl, rfl⟩
      obtain _ | m_170 := m_170
      · rw [laws_markText_l1] at h; cases h
      rw [laws_markText_l1] at h
      refine Run.seq ?_
      refine Run.seq ?_
      refine Run.ops hm ?_
      refine Ops.p rfl ?_
      refine Ops.p rfl ?_
      refine Ops.nil ?_
      refine Run.condO rfl h (fun g_173 h => ?_) (fun g_173 h => ?_)
      · skip
        refine Run.skip ?_
        refine Run.block ?_
        refine Run.seq ?_
        refine Run.ops hm ?_
        refine Ops.p rfl ?_
        obtain ⟨x_176, hx_176, h⟩ := bindO h
        refine Ops.st (s := 21496) (.bin rfl rfl hx_176) rfl rfl ?_
        refine Ops.p rfl ?_
        refine Ops.p rfl ?_
        refine Ops.st (s := 21544) (Ev.bsW (ys := ([IntKind.wrap .u8 (w64 ((48 : Int) + x_176))] : List Int)) (f := encU) rfl (.cons (.c _) .nil) rfl rfl rfl rfl rfl) rfl rfl ?_
        refine Ops.st (s := 21560) (.sbC (addsW (f := encU) rfl rfl rfl (fun _ => rfl))) rfl rfl ?_
        refine Ops.p rfl ?_
        obtain ⟨x_177, hx_177, h⟩ := bindO h
        refine Ops.st (s := 21592) (Ev.addS rfl rfl hx_177) rfl rfl ?_
        refine Ops.p rfl ?_
        refine Ops.nil ?_
        refine Run.ops hm ?_
        refine Ops.p rfl ?_
        obtain ⟨x_178, hx_178, h⟩ := bindO h
        refine Ops.st (s := 25592) (.bin rfl rfl hx_178) rfl rfl ?_
        refine Ops.p rfl ?_
        refine Ops.nil ?_
        exact ⟨m_170, Nat.lt_succ_self m_170, _, _, (gh_pk [0, 3] [] hB rfl rfl rfl rfl), _, _, h, rfl, rfl⟩
      · skip
        refine Run.exit ?_
        obtain rfl := someO h
        have h := hk_170
        exact ⟨_, _, (gh_pk [3] [] hB rfl rfl rfl rfl), x_162, h, rfl, rfl⟩
    · skip
      refine Run.seq ?_
      refine Run.ops hm ?_
      refine Ops.p rfl ?_
      obtain ⟨x_179, hx_179, h⟩ := bindO h
      refine Ops.st (s := 29688) (Ev.addS rfl rfl hx_179) rfl rfl ?_
      refine Ops.p rfl ?_
      refine Ops.nil ?_
      refine Run.ret ?_
      obtain rfl := someO h
      exact Ends.mkG (.inl rfl) rfl (gh_pk [0] [] hB rfl rfl rfl rfl) rfl rfl
def laws_markEntryS_l1 (N : Nat) : Nat → Int → Int → (List Entry) → Option (Int × (List Entry))
 | 0, _, _, _ => none
 | m + 1, x_225, x_226, x_227 =>
 (if (decide (x_226 < ((x_227.length : Nat) : Int))) = true then
 (at? x_227 x_226).bind fun x_259 =>
 (at? (x_227.set x_226.toNat (Entry.mk x_225 x_259.Kind x_259.Data)) x_226).bind fun x_261 =>
 (laws_markText N (w64 ((w64 (x_225 + (1 : Int))) + (1 : Int)))).bind fun y_264 =>
 (at? ((x_227.set x_226.toNat (Entry.mk x_225 x_259.Kind x_259.Data)).set x_226.toNat (Entry.mk x_261.Term (w64 (x_225 + (1 : Int))) x_261.Data)) x_226).bind fun x_265 =>
 laws_markEntryS_l1 N m (w64 ((w64 ((w64 (x_225 + (1 : Int))) + (1 : Int))) + (1 : Int))) (w64 (x_226 + (1 : Int))) (((x_227.set x_226.toNat (Entry.mk x_225 x_259.Kind x_259.Data)).set x_226.toNat (Entry.mk x_261.Term (w64 (x_225 + (1 : Int))) x_261.Data)).set x_226.toNat (Entry.mk x_265.Term x_265.Kind y_264))
 else
 some (x_225, x_227))
def laws_markEntryS (N : Nat) (x_1 : (List Entry)) (x_2 : Int) : Option (Int × (List Entry)) :=
 joinP (fun (v_224 : Int × (List Entry)) =>
 some (v_224.1, v_224.2)) fun j_224 =>
 (laws_markEntryS_l1 N N x_2 (0 : Int) x_1).bind (fun (v_246 : Int × (List Entry)) => j_224 (v_246.1, v_246.2))
theorem sem_laws_markEntryS (N : Nat) (x_1 : (List Entry)) (x_2 : Int) (r : Int × (List Entry)) (h : laws_markEntryS N x_1 x_2 = some r) : Says Try.prog 146 [.sl 0 48 0 x_1.length, VI x_2] 1 [(0, .vec 48 (x_1.map encEntry))] (VI r.1) [(0, .vec 48 (r.2.map encEntry))] := by
  unfold laws_markEntryS at h
  refine Says.of_run s146 Try.call146 rfl fun B hB => ?_
  have hm : B.m ≤ 1000 := by omega
  refine Run.seq ?_
  refine Run.ops hm ?_
  refine Ops.p rfl ?_
  refine Ops.nil ?_
  refine Run.seqO h (fun (v_224 : Int × (List Entry)) => [(1, VI v_224.1)]) (fun (v_224 : Int × (List Entry)) => [(0, .vec 48 (v_224.2.map encEntry))]) (fun h => ?_) (fun v_224 h => ?_)
  · skip
    refine Run.seq ?_
    refine Run.ops hm ?_
    refine Ops.p rfl ?_
    refine Ops.nil ?_
    refine Run.block ?_
    obtain ⟨res_246, h, hk_246⟩ := bindO h
    refine Run.loop (n := N) (fun m_246 fr σ => ∃ (x_225 : Int), ∃ (x_226 : Int), ∃ (x_227 : (List Entry)), laws_markEntryS_l1 N m_246 x_225 x_226 x_227 = some res_246 ∧ fr = [(0, .sl 0 48 0 x_227.length), (1, VI x_225), (5, VI x_226)] ∧ σ = [(0, .vec 48 (x_227.map encEntry))]) (gh_pk [0, 1, 5] [0] hB rfl rfl rfl rfl) ⟨_, _, _, h, rfl, rfl⟩ ?_
    rintro m_246 fr σ ⟨x_225, x_226, x_227, h, rfl, rfl⟩
    obtain _ | m_246 := m_246
    · rw [laws_markEntryS_l1] at h; cases h
    rw [laws_markEntryS_l1] at h
    refine Run.seq ?_
    refine Run.seq ?_
    refine Run.ops hm ?_
    refine Ops.p rfl ?_
    refine Ops.p rfl ?_
    refine Ops.p rfl ?_
    refine Ops.p rfl ?_
    refine Ops.nil ?_
    refine Run.condO rfl h (fun g_249 h => ?_) (fun g_249 h => ?_)
    · skip
      refine Run.skip ?_
      refine Run.seq ?_
      refine Run.block ?_
      refine Run.seq ?_
      refine Run.ops hm ?_
      refine Ops.p rfl ?_
      refine Ops.p rfl ?_
      refine Ops.p rfl ?_
      obtain ⟨x_259, hx_259, h⟩ := bindO h
      refine Ops.st (s := 17432) (Ev.iaW rfl rfl rfl hx_259) rfl rfl ?_
      refine Ops.p rfl ?_
      refine Ops.s0 (s := 17464) (Ev.stE (f := encEntry) (v' := (Entry.mk x_225 x_259.Kind x_259.Data)) rfl rfl (at_some hx_259).2 rfl (.cons (.c _) .nil) rfl rfl rfl rfl rfl) rfl rfl ?_
      refine Ops.nil ?_
      refine Run.seq ?_
      refine Run.ops hm ?_
      refine Ops.p rfl ?_
      refine Ops.p rfl ?_
      refine Ops.p rfl ?_
      refine Ops.nil ?_
      refine Run.seq ?_
      refine Run.ops hm ?_
      refine Ops.p rfl ?_
      refine Ops.p rfl ?_
      refine Ops.p rfl ?_
      obtain ⟨x_261, hx_261, h⟩ := bindO h
      refine Ops.st (s := 25624) (Ev.iaW rfl (by simp) rfl hx_261) rfl rfl ?_
      refine Ops.p rfl ?_
      refine Ops.s0 (s := 25656) (Ev.stE (f := encEntry) (v' := (Entry.mk x_261.Term (w64 (x_225 + (1 : Int))) x_261.Data)) rfl rfl (at_some hx_261).2 rfl (.cons (.c _) .nil) rfl rfl rfl rfl rfl) rfl rfl ?_
      refine Ops.nil ?_
      refine Run.seq ?_
      refine Run.ops hm ?_
      refine Ops.p rfl ?_
      refine Ops.p rfl ?_
      refine Ops.p rfl ?_
      refine Ops.nil ?_
      refine Run.seq ?_
      refine Run.ops hm ?_
      refine Ops.p rfl ?_
      refine Ops.p rfl ?_
      refine Ops.p rfl ?_
      obtain ⟨y_264, hy_264, h⟩ := bindO h
      refine Ops.st (s := 33816) (Ev.call [] [] 0 (sem_laws_markText N (w64 ((w64 (x_225 + (1 : Int))) + (1 : Int))) _ hy_264) rfl rfl (.cons (.c _) .nil) rfl (.inl rfl) rfl rfl) rfl rfl ?_
      obtain ⟨x_265, hx_265, h⟩ := bindO h
      refine Ops.st (s := 33832) (Ev.iaW rfl (by simp) rfl hx_265) rfl rfl ?_
      refine Ops.p rfl ?_
      refine Ops.s0 (s := 33864) (Ev.stE (f := encEntry) (v' := (Entry.mk x_265.Term x_265.Kind y_264)) rfl rfl (at_some hx_265).2 rfl (.cons (.c _) .nil) rfl rfl rfl rfl rfl) rfl rfl ?_
      refine Ops.nil ?_
      refine Run.ops hm ?_
      refine Ops.p rfl ?_
      refine Ops.p rfl ?_
      refine Ops.p rfl ?_
      refine Ops.nil ?_
      refine Run.ops hm ?_
      refine Ops.p rfl ?_
      refine Ops.p rfl ?_
      refine Ops.p rfl ?_
      refine Ops.nil ?_
      exact ⟨m_246, Nat.lt_succ_self m_246, _, _, (gh_pk [0, 1, 5] [0] hB rfl rfl (by first | rfl | (simp only [List.length_set]; done) | (simp only [List.length_set]; rfl)) (by first | rfl | (simp only [List.length_set]; done) | (simp only [List.length_set]; rfl))), _, _, _, h, rfl, rfl⟩
    · skip
      refine Run.exit ?_
      obtain rfl := someO h
      have h := hk_246
      exact ⟨_, _, (gh_pk [1] [0] hB rfl rfl rfl rfl), (x_225, x_227), h, rfl, rfl⟩
  · skip
    refine Run.seq ?_
    refine Run.ops hm ?_
    refine Ops.p rfl ?_
    refine Ops.p rfl ?_
    refine Ops.nil ?_
    refine Run.ret ?_
    obtain rfl := someO h
    exact Ends.mkG (.inl rfl) rfl (gh_pk [0] [0] hB rfl rfl rfl rfl) rfl rfl
def laws_markLog (N : Nat) (x_1 : Log) (x_2 : Int) : Option (Int × (List Entry)) :=
 (laws_markEntryS N x_1.Entries x_2).bind fun y_106 =>
 (len? x_1.Entries y_106.2).bind fun y_107 =>
 some (y_106.1, y_106.2)
theorem sem_laws_markLog (N : Nat) (x_1 : Log) (x_2 : Int) (r : Int × (List Entry)) (h : laws_markLog N x_1 x_2 = some r) : Says Try.prog 110 [.agg [VI x_1.Start, VI x_1.StartTerm, .sl 0 48 0 x_1.Entries.length], VI x_2] 1 [(0, .vec 48 (x_1.Entries.map encEntry))] (VI r.1) [(0, .vec 48 (r.2.map encEntry))] := by
  unfold laws_markLog at h
  refine Says.of_run s110 Try.call110 rfl fun B hB => ?_
  have hm : B.m ≤ 1000 := by omega
  refine Run.seq ?_
  refine Run.ops hm ?_
  refine Ops.st (s := 1000) (.bx rfl rfl) rfl rfl ?_
  refine Ops.p rfl ?_
  refine Ops.nil ?_
  refine Run.seq ?_
  refine Run.ops hm ?_
  refine Ops.p rfl ?_
  refine Ops.p rfl ?_
  refine Ops.p rfl ?_
  obtain ⟨y_106, hy_106, h⟩ := bindO h
  obtain ⟨y_107, hy_107, h⟩ := bindO h
  refine Ops.st (s := 5144) (Ev.call [0] [] 0 (sem_laws_markEntryS N x_1.Entries x_2 _ hy_106) rfl rfl (.cons (.sl rfl) (.cons (.c _) .nil)) rfl (.inl rfl) rfl rfl) rfl rfl ?_
  refine Ops.p rfl ?_
  refine Ops.nil ?_
  refine Run.seq ?_
  refine Run.ops hm ?_
  refine Ops.p rfl ?_
  refine Ops.p rfl ?_
  refine Ops.nil ?_
  refine Run.ret ?_
  obtain rfl := someO h
  exact Ends.mkG (.inl rfl) rfl (gh_pk [0] [0] hB rfl rfl rfl rfl) (by first | rfl | (simp only [List.length_set, (len_some hy_107)]; done) | (simp only [List.length_set, (len_some hy_107)]; rfl)) (by first | rfl | (simp only [List.length_set, (len_some hy_107)]; done) | (simp only [List.length_set, (len_some hy_107)]; rfl))
def laws_markPeerS_l1 (N : Nat) : Nat → Int → Int → (List Peer) → Option (Int × (List Peer))
 | 0, _, _, _ => none
 | m + 1, x_225, x_226, x_227 =>
 (if (decide (x_226 < ((x_227.length : Nat) : Int))) = true then
 (at? x_227 x_226).bind fun x_259 =>
 (at? (x_227.set x_226.toNat (Peer.mk x_225 x_259.Next x_259.Match x_259.Sent)) x_226).bind fun x_261 =>
 (at? ((x_227.set x_226.toNat (Peer.mk x_225 x_259.Next x_259.Match x_259.Sent)).set x_226.toNat (Peer.mk x_261.Id (w64 (x_225 + (1 : Int))) x_261.Match x_261.Sent)) x_226).bind fun x_263 =>
 (at? (((x_227.set x_226.toNat (Peer.mk x_225 x_259.Next x_259.Match x_259.Sent)).set x_226.toNat (Peer.mk x_261.Id (w64 (x_225 + (1 : Int))) x_261.Match x_261.Sent)).set x_226.toNat (Peer.mk x_263.Id x_263.Next (w64 ((w64 (x_225 + (1 : Int))) + (1 : Int))) x_263.Sent)) x_226).bind fun x_265 =>
 laws_markPeerS_l1 N m (w64 ((w64 ((w64 ((w64 (x_225 + (1 : Int))) + (1 : Int))) + (1 : Int))) + (1 : Int))) (w64 (x_226 + (1 : Int))) ((((x_227.set x_226.toNat (Peer.mk x_225 x_259.Next x_259.Match x_259.Sent)).set x_226.toNat (Peer.mk x_261.Id (w64 (x_225 + (1 : Int))) x_261.Match x_261.Sent)).set x_226.toNat (Peer.mk x_263.Id x_263.Next (w64 ((w64 (x_225 + (1 : Int))) + (1 : Int))) x_263.Sent)).set x_226.toNat (Peer.mk x_265.Id x_265.Next x_265.Match (w64 ((w64 ((w64 (x_225 + (1 : Int))) + (1 : Int))) + (1 : Int)))))
 else
 some (x_225, x_227))
def laws_markPeerS (N : Nat) (x_1 : (List Peer)) (x_2 : Int) : Option (Int × (List Peer)) :=
 joinP (fun (v_224 : Int × (List Peer)) =>
 some (v_224.1, v_224.2)) fun j_224 =>
 (laws_markPeerS_l1 N N x_2 (0 : Int) x_1).bind (fun (v_246 : Int × (List Peer)) => j_224 (v_246.1, v_246.2))
theorem sem_laws_markPeerS (N : Nat) (x_1 : (List Peer)) (x_2 : Int) (r : Int × (List Peer)) (h : laws_markPeerS N x_1 x_2 = some r) : Says Try.prog 111 [.sl 0 172 0 x_1.length, VI x_2] 1 [(0, .vec 172 (x_1.map encPeer))] (VI r.1) [(0, .vec 172 (r.2.map encPeer))] := by
  unfold laws_markPeerS at h
  refine Says.of_run s111 Try.call111 rfl fun B hB => ?_
  have hm : B.m ≤ 1000 := by omega
  refine Run.seq ?_
  refine Run.ops hm ?_
  refine Ops.p rfl ?_
  refine Ops.nil ?_
  refine Run.seqO h (fun (v_224 : Int × (List Peer)) => [(1, VI v_224.1)]) (fun (v_224 : Int × (List Peer)) => [(0, .vec 172 (v_224.2.map encPeer))]) (fun h => ?_) (fun v_224 h => ?_)
  · skip
    refine Run.seq ?_
    refine Run.ops hm ?_
    refine Ops.p rfl ?_
    refine Ops.nil ?_
    refine Run.block ?_
    obtain ⟨res_246, h, hk_246⟩ := bindO h
    refine Run.loop (n := N) (fun m_246 fr σ => ∃ (x_225 : Int), ∃ (x_226 : Int), ∃ (x_227 : (List Peer)), laws_markPeerS_l1 N m_246 x_225 x_226 x_227 = some res_246 ∧ fr = [(0, .sl 0 172 0 x_227.length), (1, VI x_225), (5, VI x_226)] ∧ σ = [(0, .vec 172 (x_227.map encPeer))]) (gh_pk [0, 1, 5] [0] hB rfl rfl rfl rfl) ⟨_, _, _, h, rfl, rfl⟩ ?_
    rintro m_246 fr σ ⟨x_225, x_226, x_227, h, rfl, rfl⟩
    obtain _ | m_246 := m_246
    · rw [laws_markPeerS_l1] at h; cases h
    rw [laws_markPeerS_l1] at h
    refine Run.seq ?_
    refine Run.seq ?_
    refine Run.ops hm ?_
    refine Ops.p rfl ?_
    refine Ops.p rfl ?_
    refine Ops.p rfl ?_
    refine Ops.p rfl ?_
    refine Ops.nil ?_
    refine Run.condO rfl h (fun g_249 h => ?_) (fun g_249 h => ?_)
    · skip
      refine Run.skip ?_
      refine Run.seq ?_
      refine Run.block ?_
      refine Run.seq ?_
      refine Run.ops hm ?_
      refine Ops.p rfl ?_
      refine Ops.p rfl ?_
      refine Ops.p rfl ?_
      obtain ⟨x_259, hx_259, h⟩ := bindO h
      refine Ops.st (s := 17432) (Ev.iaW rfl rfl rfl hx_259) rfl rfl ?_
      refine Ops.p rfl ?_
      refine Ops.s0 (s := 17464) (Ev.stE (f := encPeer) (v' := (Peer.mk x_225 x_259.Next x_259.Match x_259.Sent)) rfl rfl (at_some hx_259).2 rfl (.cons (.c _) .nil) rfl rfl rfl rfl rfl) rfl rfl ?_
      refine Ops.nil ?_
      refine Run.seq ?_
      refine Run.ops hm ?_
      refine Ops.p rfl ?_
      refine Ops.p rfl ?_
      refine Ops.p rfl ?_
      refine Ops.nil ?_
      refine Run.seq ?_
      refine Run.ops hm ?_
      refine Ops.p rfl ?_
      refine Ops.p rfl ?_
      refine Ops.p rfl ?_
      obtain ⟨x_261, hx_261, h⟩ := bindO h
      refine Ops.st (s := 25624) (Ev.iaW rfl (by simp) rfl hx_261) rfl rfl ?_
      refine Ops.p rfl ?_
      refine Ops.s0 (s := 25656) (Ev.stE (f := encPeer) (v' := (Peer.mk x_261.Id (w64 (x_225 + (1 : Int))) x_261.Match x_261.Sent)) rfl rfl (at_some hx_261).2 rfl (.cons (.c _) .nil) rfl rfl rfl rfl rfl) rfl rfl ?_
      refine Ops.nil ?_
      refine Run.seq ?_
      refine Run.ops hm ?_
      refine Ops.p rfl ?_
      refine Ops.p rfl ?_
      refine Ops.p rfl ?_
      refine Ops.nil ?_
      refine Run.seq ?_
      refine Run.ops hm ?_
      refine Ops.p rfl ?_
      refine Ops.p rfl ?_
      refine Ops.p rfl ?_
      obtain ⟨x_263, hx_263, h⟩ := bindO h
      refine Ops.st (s := 33816) (Ev.iaW rfl (by simp) rfl hx_263) rfl rfl ?_
      refine Ops.p rfl ?_
      refine Ops.s0 (s := 33848) (Ev.stE (f := encPeer) (v' := (Peer.mk x_263.Id x_263.Next (w64 ((w64 (x_225 + (1 : Int))) + (1 : Int))) x_263.Sent)) rfl rfl (at_some hx_263).2 rfl (.cons (.c _) .nil) rfl rfl rfl rfl rfl) rfl rfl ?_
      refine Ops.nil ?_
      refine Run.seq ?_
      refine Run.ops hm ?_
      refine Ops.p rfl ?_
      refine Ops.p rfl ?_
      refine Ops.p rfl ?_
      refine Ops.nil ?_
      refine Run.seq ?_
      refine Run.ops hm ?_
      refine Ops.p rfl ?_
      refine Ops.p rfl ?_
      refine Ops.p rfl ?_
      obtain ⟨x_265, hx_265, h⟩ := bindO h
      refine Ops.st (s := 42008) (Ev.iaW rfl (by simp) rfl hx_265) rfl rfl ?_
      refine Ops.p rfl ?_
      refine Ops.s0 (s := 42040) (Ev.stE (f := encPeer) (v' := (Peer.mk x_265.Id x_265.Next x_265.Match (w64 ((w64 ((w64 (x_225 + (1 : Int))) + (1 : Int))) + (1 : Int))))) rfl rfl (at_some hx_265).2 rfl (.cons (.c _) .nil) rfl rfl rfl rfl rfl) rfl rfl ?_
      refine Ops.nil ?_
      refine Run.ops hm ?_
      refine Ops.p rfl ?_
      refine Ops.p rfl ?_
      refine Ops.p rfl ?_
      refine Ops.nil ?_
      refine Run.ops hm ?_
      refine Ops.p rfl ?_
      refine Ops.p rfl ?_
      refine Ops.p rfl ?_
      refine Ops.nil ?_
      exact ⟨m_246, Nat.lt_succ_self m_246, _, _, (gh_pk [0, 1, 5] [0] hB rfl rfl (by first | rfl | (simp only [List.length_set]; done) | (simp only [List.length_set]; rfl)) (by first | rfl | (simp only [List.length_set]; done) | (simp only [List.length_set]; rfl))), _, _, _, h, rfl, rfl⟩
    · skip
      refine Run.exit ?_
      obtain rfl := someO h
      have h := hk_246
      exact ⟨_, _, (gh_pk [1] [0] hB rfl rfl rfl rfl), (x_225, x_227), h, rfl, rfl⟩
  · skip
    refine Run.seq ?_
    refine Run.ops hm ?_
    refine Ops.p rfl ?_
    refine Ops.p rfl ?_
    refine Ops.nil ?_
    refine Run.ret ?_
    obtain rfl := someO h
    exact Ends.mkG (.inl rfl) rfl (gh_pk [0] [0] hB rfl rfl rfl rfl) rfl rfl
def laws_markNode (N : Nat) (x_1 : Node) (x_2 : Int) : Option (Int × (List Int) × (List Entry) × (List Int) × (List Peer)) :=
 (laws_markIntS N x_1.Conf x_2).bind fun y_118 =>
 (len? x_1.Conf y_118.2).bind fun y_119 =>
 (laws_markLog N x_1.Log y_118.1).bind fun y_122 =>
 (len? x_1.Log.Entries y_122.2).bind fun y_123 =>
 (laws_markIntS N x_1.Votes y_122.1).bind fun y_126 =>
 (len? x_1.Votes y_126.2).bind fun y_127 =>
 (laws_markPeerS N x_1.Peers y_126.1).bind fun y_130 =>
 (len? x_1.Peers y_130.2).bind fun y_131 =>
 some (y_130.1, y_118.2, y_122.2, y_126.2, y_130.2)
theorem sem_laws_markNode (N : Nat) (x_1 : Node) (x_2 : Int) (r : Int × (List Int) × (List Entry) × (List Int) × (List Peer)) (h : laws_markNode N x_1 x_2 = some r) : Says Try.prog 51 [.agg [VI x_1.Id, VI x_1.Term, VI x_1.Vote, VI x_1.Role, VI x_1.Lead, .sl 0 3 0 x_1.Conf.length, VI x_1.Log.Start, VI x_1.Log.StartTerm, .sl 1 48 0 x_1.Log.Entries.length, VI x_1.Commit, VI x_1.Clock, VI x_1.Limit, .sl 2 3 0 x_1.Votes.length, .sl 3 172 0 x_1.Peers.length], VI x_2] 4 [(0, .vec 3 (x_1.Conf.map encI)), (1, .vec 48 (x_1.Log.Entries.map encEntry)), (2, .vec 3 (x_1.Votes.map encI)), (3, .vec 172 (x_1.Peers.map encPeer))] (VI r.1) [(0, .vec 3 (r.2.1.map encI)), (1, .vec 48 (r.2.2.1.map encEntry)), (2, .vec 3 (r.2.2.2.1.map encI)), (3, .vec 172 (r.2.2.2.2.map encPeer))] := by
  unfold laws_markNode at h
  refine Says.of_run s51 Try.call51 rfl fun B hB => ?_
  have hm : B.m ≤ 1000 := by omega
  refine Run.seq ?_
  refine Run.ops hm ?_
  refine Ops.st (s := 1000) (.bx rfl rfl) rfl rfl ?_
  refine Ops.p rfl ?_
  refine Ops.nil ?_
  refine Run.seq ?_
  refine Run.ops hm ?_
  refine Ops.p rfl ?_
  refine Ops.p rfl ?_
  refine Ops.p rfl ?_
  obtain ⟨y_118, hy_118, h⟩ := bindO h
  obtain ⟨y_119, hy_119, h⟩ := bindO h
  refine Ops.st (s := 5144) (Ev.call [0] [] 0 (sem_laws_markIntS N x_1.Conf x_2 _ hy_118) rfl rfl (.cons (.sl rfl) (.cons (.c _) .nil)) rfl (.inl rfl) rfl rfl) rfl rfl ?_
  refine Ops.p rfl ?_
  refine Ops.nil ?_
  refine Run.seq ?_
  refine Run.ops hm ?_
  refine Ops.p rfl ?_
  refine Ops.p rfl ?_
  refine Ops.p rfl ?_
  obtain ⟨y_122, hy_122, h⟩ := bindO h
  obtain ⟨y_123, hy_123, h⟩ := bindO h
  refine Ops.st (s := 9240) (Ev.call [1] [] 0 (sem_laws_markLog N x_1.Log y_118.1 _ hy_122) rfl rfl (.cons (.agg (.cons (.c _) (.cons (.c _) (.cons (.sl rfl) .nil)))) (.cons (.c _) .nil)) rfl (.inl rfl) rfl rfl) rfl rfl ?_
  refine Ops.p rfl ?_
  refine Ops.nil ?_
  refine Run.seq ?_
  refine Run.ops hm ?_
  refine Ops.p rfl ?_
  refine Ops.p rfl ?_
  refine Ops.p rfl ?_
  obtain ⟨y_126, hy_126, h⟩ := bindO h
  obtain ⟨y_127, hy_127, h⟩ := bindO h
  refine Ops.st (s := 13336) (Ev.call [2] [] 0 (sem_laws_markIntS N x_1.Votes y_122.1 _ hy_126) rfl rfl (.cons (.sl rfl) (.cons (.c _) .nil)) rfl (.inl rfl) rfl rfl) rfl rfl ?_
  refine Ops.p rfl ?_
  refine Ops.nil ?_
  refine Run.seq ?_
  refine Run.ops hm ?_
  refine Ops.p rfl ?_
  refine Ops.p rfl ?_
  refine Ops.p rfl ?_
  obtain ⟨y_130, hy_130, h⟩ := bindO h
  obtain ⟨y_131, hy_131, h⟩ := bindO h
  refine Ops.st (s := 17432) (Ev.call [3] [] 0 (sem_laws_markPeerS N x_1.Peers y_126.1 _ hy_130) rfl rfl (.cons (.sl rfl) (.cons (.c _) .nil)) rfl (.inl rfl) rfl rfl) rfl rfl ?_
  refine Ops.p rfl ?_
  refine Ops.nil ?_
  refine Run.seq ?_
  refine Run.ops hm ?_
  refine Ops.p rfl ?_
  refine Ops.p rfl ?_
  refine Ops.nil ?_
  refine Run.ret ?_
  obtain rfl := someO h
  exact Ends.mkG (.inl rfl) rfl (gh_pk [0] [0, 1, 2, 3] hB rfl rfl rfl rfl) (by first | rfl | (simp only [List.length_set, (len_some hy_119), (len_some hy_123), (len_some hy_127), (len_some hy_131)]; done) | (simp only [List.length_set, (len_some hy_119), (len_some hy_123), (len_some hy_127), (len_some hy_131)]; rfl)) (by first | rfl | (simp only [List.length_set, (len_some hy_119), (len_some hy_123), (len_some hy_127), (len_some hy_131)]; done) | (simp only [List.length_set, (len_some hy_119), (len_some hy_123), (len_some hy_127), (len_some hy_131)]; rfl))
def laws_heldIntS_l1 (N : Nat) (x_1 : (List Int)) : Nat → Int → Int → Option ((Int) ⊕ (Int))
 | 0, _, _ => none
 | m + 1, x_181, x_182 =>
 (if (decide (x_182 < (x_1.length : Int))) = true then
 (at? x_1 x_182).bind fun x_204 =>
 (if (x_204 != x_181) = true then
 some (Sum.inl (-1 : Int))
 else
 laws_heldIntS_l1 N x_1 m (w64 (x_181 + (1 : Int))) (w64 (x_182 + (1 : Int))))
 else
 some (Sum.inr x_181))
def laws_heldIntS_l1_r (N : Nat) (x_1 : (List Int)) : (List Int) → Int → Int → Option ((Int) ⊕ (Int))
 | [], x_181, x_182 =>
 some (Sum.inr x_181)
 | hd :: tl, x_181, x_182 =>
 (some hd).bind fun x_204 =>
 (if (x_204 != x_181) = true then
 some (Sum.inl (-1 : Int))
 else
 laws_heldIntS_l1_r N x_1 tl (w64 (x_181 + (1 : Int))) (w64 (x_182 + (1 : Int))))
theorem laws_heldIntS_l1_rng (N : Nat) (x_1 : (List Int)) (hx : x_1.length ≤ 1099511627776) : ∀ (d k m : Nat) (x_181 : Int), x_1.length = k + d → d < m → laws_heldIntS_l1 N x_1 m x_181 (k : Int) = laws_heldIntS_l1_r N x_1 (x_1.drop k) x_181 (k : Int) := by
  intro d
  induction d with
  | zero =>
    intro k m x_181 hd hm
    obtain ⟨m, rfl⟩ : ∃ q, m = q + 1 := ⟨m - 1, by omega⟩
    rw [laws_heldIntS_l1, if_neg (by simp; omega), List.drop_eq_nil_of_le (by omega), laws_heldIntS_l1_r]
  | succ d ih =>
    intro k m x_181 hd hm
    obtain ⟨m, rfl⟩ : ∃ q, m = q + 1 := ⟨m - 1, by omega⟩
    have hk : k < x_1.length := by omega
    rw [laws_heldIntS_l1, if_pos (by simp; omega), List.drop_eq_getElem_cons hk, laws_heldIntS_l1_r]
    have h1 := at_lt hk
    have h2 := w64_succ (k := k) (by omega)
    have h3 := ih (k + 1) m
    simp only [h1, h2, h3 _ (by omega) (by omega)]
theorem laws_heldIntS_l1_eq {N : Nat} (x_1 : (List Int)) (hx : x_1.length ≤ 1099511627776) (hN : x_1.length < N) (x_181 : Int) : laws_heldIntS_l1 N x_1 N x_181 0 = laws_heldIntS_l1_r N x_1 x_1 x_181 0 := laws_heldIntS_l1_rng N x_1 hx x_1.length 0 N x_181 (by omega) hN
def laws_heldIntS (N : Nat) (x_1 : (List Int)) (x_2 : Int) : Option (Int) :=
 joinP (fun (v_179 : Int) =>
 some v_179) fun j_179 =>
 (laws_heldIntS_l1 N x_1 N x_2 (0 : Int)).bind (Sum.elim (fun v_193 => some v_193) (fun (v_194 : Int) => j_179 v_194))
theorem sem_laws_heldIntS (N : Nat) (x_1 : (List Int)) (x_2 : Int) (r : Int) (h : laws_heldIntS N x_1 x_2 = some r) : Says Try.prog 53 [RO 3 (x_1.map encI), VI x_2] 0 [] (VI r) [] := by
  unfold laws_heldIntS at h
  refine Says.of_run s53 Try.call53 rfl fun B hB => ?_
  have hm : B.m ≤ 1000 := by omega
  refine Run.seq ?_
  refine Run.ops hm ?_
  refine Ops.p rfl ?_
  refine Ops.nil ?_
  refine Run.seqO h (fun (v_179 : Int) => [(1, VI v_179)]) (fun (v_179 : Int) => []) (fun h => ?_) (fun v_179 h => ?_)
  · skip
    refine Run.seq ?_
    refine Run.ops hm ?_
    refine Ops.p rfl ?_
    refine Ops.nil ?_
    refine Run.block ?_
    obtain ⟨res_194, h, hk_194⟩ := bindO h
    refine Run.loop (n := N) (fun m_194 fr σ => ∃ (x_181 : Int), ∃ (x_182 : Int), laws_heldIntS_l1 N x_1 m_194 x_181 x_182 = some res_194 ∧ fr = [(0, RO 3 (x_1.map encI)), (1, VI x_181), (5, VI x_182)] ∧ σ = []) (gh_pk [0, 1, 5] [] hB rfl rfl rfl rfl) ⟨_, _, h, rfl, rfl⟩ ?_
    rintro m_194 fr σ ⟨x_181, x_182, h, rfl, rfl⟩
    obtain _ | m_194 := m_194
    · rw [laws_heldIntS_l1] at h; cases h
    rw [laws_heldIntS_l1] at h
    refine Run.seq ?_
    refine Run.seq ?_
    refine Run.ops hm ?_
    refine Ops.p rfl ?_
    refine Ops.p rfl ?_
    refine Ops.st (s := 9224) (Ev.lnF rfl) rfl rfl ?_
    refine Ops.p rfl ?_
    refine Ops.nil ?_
    refine Run.condO rfl h (fun g_197 h => ?_) (fun g_197 h => ?_)
    · skip
      refine Run.skip ?_
      refine Run.seq ?_
      refine Run.block ?_
      refine Run.seq ?_
      refine Run.seq ?_
      refine Run.ops hm ?_
      refine Ops.p rfl ?_
      refine Ops.p rfl ?_
      obtain ⟨x_204, hx_204, h⟩ := bindO h
      refine Ops.st (s := 17416) (Ev.iaF rfl rfl hx_204) rfl rfl ?_
      refine Ops.p rfl ?_
      refine Ops.p rfl ?_
      refine Ops.p rfl ?_
      refine Ops.nil ?_
      refine Run.condO rfl h (fun g_205 h => ?_) (fun g_205 h => ?_)
      · skip
        refine Run.seq ?_
        refine Run.ops hm ?_
        refine Ops.p rfl ?_
        refine Ops.nil ?_
        refine Run.ret ?_
        obtain rfl := someO h
        have h := hk_194
        replace h := inlO h
        obtain rfl := someO h
        exact Ends.mkG (.inl rfl) rfl (gh_pk [0] [] hB rfl rfl rfl rfl) rfl rfl
      · skip
        refine Run.skip ?_
        refine Run.ops hm ?_
        refine Ops.p rfl ?_
        refine Ops.p rfl ?_
        refine Ops.p rfl ?_
        refine Ops.nil ?_
        refine Run.ops hm ?_
        refine Ops.p rfl ?_
        refine Ops.p rfl ?_
        refine Ops.p rfl ?_
        refine Ops.nil ?_
        exact ⟨m_194, Nat.lt_succ_self m_194, _, _, (gh_pk [0, 1, 5] [] hB rfl rfl rfl rfl), _, _, h, rfl, rfl⟩
    · skip
      refine Run.exit ?_
      obtain rfl := someO h
      have h := hk_194
      replace h := inrO h
      exact ⟨_, _, (gh_pk [1] [] hB rfl rfl rfl rfl), x_181, h, rfl, rfl⟩
  · skip
    refine Run.seq ?_
    refine Run.ops hm ?_
    refine Ops.p rfl ?_
    refine Ops.p rfl ?_
    refine Ops.nil ?_
    refine Run.ret ?_
    obtain rfl := someO h
    exact Ends.mkG (.inl rfl) rfl (gh_pk [0] [] hB rfl rfl rfl rfl) rfl rfl
def laws_heldEntryS_l1 (N : Nat) (x_1 : (List Entry)) : Nat → Int → Int → Option ((Int) ⊕ (Int))
 | 0, _, _ => none
 | m + 1, x_301, x_302 =>
 (if (decide (x_302 < (x_1.length : Int))) = true then
 (at? x_1 x_302).bind fun x_354 =>
 (if (x_354.Term != x_301) = true then
 some (Sum.inl (-1 : Int))
 else
 (at? x_1 x_302).bind fun x_358 =>
 (if (x_358.Kind != (w64 (x_301 + (1 : Int)))) = true then
 some (Sum.inl (-1 : Int))
 else
 (at? x_1 x_302).bind fun x_363 =>
 (laws_markText N (w64 ((w64 (x_301 + (1 : Int))) + (1 : Int)))).bind fun y_364 =>
 (if (!decide (x_363.Data = y_364)) = true then
 some (Sum.inl (-1 : Int))
 else
 laws_heldEntryS_l1 N x_1 m (w64 ((w64 ((w64 (x_301 + (1 : Int))) + (1 : Int))) + (1 : Int))) (w64 (x_302 + (1 : Int))))))
 else
 some (Sum.inr x_301))
def laws_heldEntryS_l1_r (N : Nat) (x_1 : (List Entry)) : (List Entry) → Int → Int → Option ((Int) ⊕ (Int))
 | [], x_301, x_302 =>
 some (Sum.inr x_301)
 | hd :: tl, x_301, x_302 =>
 (some hd).bind fun x_354 =>
 (if (x_354.Term != x_301) = true then
 some (Sum.inl (-1 : Int))
 else
 (some hd).bind fun x_358 =>
 (if (x_358.Kind != (w64 (x_301 + (1 : Int)))) = true then
 some (Sum.inl (-1 : Int))
 else
 (some hd).bind fun x_363 =>
 (laws_markText N (w64 ((w64 (x_301 + (1 : Int))) + (1 : Int)))).bind fun y_364 =>
 (if (!decide (x_363.Data = y_364)) = true then
 some (Sum.inl (-1 : Int))
 else
 laws_heldEntryS_l1_r N x_1 tl (w64 ((w64 ((w64 (x_301 + (1 : Int))) + (1 : Int))) + (1 : Int))) (w64 (x_302 + (1 : Int))))))
theorem laws_heldEntryS_l1_rng (N : Nat) (x_1 : (List Entry)) (hx : x_1.length ≤ 1099511627776) : ∀ (d k m : Nat) (x_301 : Int), x_1.length = k + d → d < m → laws_heldEntryS_l1 N x_1 m x_301 (k : Int) = laws_heldEntryS_l1_r N x_1 (x_1.drop k) x_301 (k : Int) := by
  intro d
  induction d with
  | zero =>
    intro k m x_301 hd hm
    obtain ⟨m, rfl⟩ : ∃ q, m = q + 1 := ⟨m - 1, by omega⟩
    rw [laws_heldEntryS_l1, if_neg (by simp; omega), List.drop_eq_nil_of_le (by omega), laws_heldEntryS_l1_r]
  | succ d ih =>
    intro k m x_301 hd hm
    obtain ⟨m, rfl⟩ : ∃ q, m = q + 1 := ⟨m - 1, by omega⟩
    have hk : k < x_1.length := by omega
    rw [laws_heldEntryS_l1, if_pos (by simp; omega), List.drop_eq_getElem_cons hk, laws_heldEntryS_l1_r]
    have h1 := at_lt hk
    have h2 := w64_succ (k := k) (by omega)
    have h3 := ih (k + 1) m
    simp only [h1, h2, h3 _ (by omega) (by omega)]
theorem laws_heldEntryS_l1_eq {N : Nat} (x_1 : (List Entry)) (hx : x_1.length ≤ 1099511627776) (hN : x_1.length < N) (x_301 : Int) : laws_heldEntryS_l1 N x_1 N x_301 0 = laws_heldEntryS_l1_r N x_1 x_1 x_301 0 := laws_heldEntryS_l1_rng N x_1 hx x_1.length 0 N x_301 (by omega) hN
def laws_heldEntryS (N : Nat) (x_1 : (List Entry)) (x_2 : Int) : Option (Int) :=
 joinP (fun (v_299 : Int) =>
 some v_299) fun j_299 =>
 (laws_heldEntryS_l1 N x_1 N x_2 (0 : Int)).bind (Sum.elim (fun v_333 => some v_333) (fun (v_334 : Int) => j_299 v_334))
theorem sem_laws_heldEntryS (N : Nat) (x_1 : (List Entry)) (x_2 : Int) (r : Int) (h : laws_heldEntryS N x_1 x_2 = some r) : Says Try.prog 156 [RO 48 (x_1.map encEntry), VI x_2] 0 [] (VI r) [] := by
  unfold laws_heldEntryS at h
  refine Says.of_run s156 Try.call156 rfl fun B hB => ?_
  have hm : B.m ≤ 1000 := by omega
  refine Run.seq ?_
  refine Run.ops hm ?_
  refine Ops.p rfl ?_
  refine Ops.nil ?_
  refine Run.seqO h (fun (v_299 : Int) => [(1, VI v_299)]) (fun (v_299 : Int) => []) (fun h => ?_) (fun v_299 h => ?_)
  · skip
    refine Run.seq ?_
    refine Run.ops hm ?_
    refine Ops.p rfl ?_
    refine Ops.nil ?_
    refine Run.block ?_
    obtain ⟨res_334, h, hk_334⟩ := bindO h
    refine Run.loop (n := N) (fun m_334 fr σ => ∃ (x_301 : Int), ∃ (x_302 : Int), laws_heldEntryS_l1 N x_1 m_334 x_301 x_302 = some res_334 ∧ fr = [(0, RO 48 (x_1.map encEntry)), (1, VI x_301), (5, VI x_302)] ∧ σ = []) (gh_pk [0, 1, 5] [] hB rfl rfl rfl rfl) ⟨_, _, h, rfl, rfl⟩ ?_
    rintro m_334 fr σ ⟨x_301, x_302, h, rfl, rfl⟩
    obtain _ | m_334 := m_334
    · rw [laws_heldEntryS_l1] at h; cases h
    rw [laws_heldEntryS_l1] at h
    refine Run.seq ?_
    refine Run.seq ?_
    refine Run.ops hm ?_
    refine Ops.p rfl ?_
    refine Ops.p rfl ?_
    refine Ops.st (s := 9224) (Ev.lnF rfl) rfl rfl ?_
    refine Ops.p rfl ?_
    refine Ops.nil ?_
    refine Run.condO rfl h (fun g_337 h => ?_) (fun g_337 h => ?_)
    · skip
      refine Run.skip ?_
      refine Run.seq ?_
      refine Run.block ?_
      refine Run.seq ?_
      refine Run.seq ?_
      refine Run.ops hm ?_
      refine Ops.p rfl ?_
      refine Ops.p rfl ?_
      obtain ⟨x_354, hx_354, h⟩ := bindO h
      refine Ops.st (s := 17416) (Ev.iaF rfl rfl hx_354) rfl rfl ?_
      refine Ops.p rfl ?_
      refine Ops.p rfl ?_
      refine Ops.p rfl ?_
      refine Ops.p rfl ?_
      refine Ops.nil ?_
      refine Run.condO rfl h (fun g_355 h => ?_) (fun g_355 h => ?_)
      · skip
        refine Run.seq ?_
        refine Run.ops hm ?_
        refine Ops.p rfl ?_
        refine Ops.nil ?_
        refine Run.ret ?_
        obtain rfl := someO h
        have h := hk_334
        replace h := inlO h
        obtain rfl := someO h
        exact Ends.mkG (.inl rfl) rfl (gh_pk [0] [] hB rfl rfl rfl rfl) rfl rfl
      · skip
        refine Run.skip ?_
        refine Run.seq ?_
        refine Run.ops hm ?_
        refine Ops.p rfl ?_
        refine Ops.p rfl ?_
        refine Ops.p rfl ?_
        refine Ops.nil ?_
        refine Run.seq ?_
        refine Run.seq ?_
        refine Run.ops hm ?_
        refine Ops.p rfl ?_
        refine Ops.p rfl ?_
        obtain ⟨x_358, hx_358, h⟩ := bindO h
        refine Ops.st (s := 29704) (Ev.iaF rfl rfl hx_358) rfl rfl ?_
        refine Ops.p rfl ?_
        refine Ops.p rfl ?_
        refine Ops.p rfl ?_
        refine Ops.p rfl ?_
        refine Ops.nil ?_
        refine Run.condO rfl h (fun g_359 h => ?_) (fun g_359 h => ?_)
        · skip
          refine Run.seq ?_
          refine Run.ops hm ?_
          refine Ops.p rfl ?_
          refine Ops.nil ?_
          refine Run.ret ?_
          obtain rfl := someO h
          have h := hk_334
          replace h := inlO h
          obtain rfl := someO h
          exact Ends.mkG (.inl rfl) rfl (gh_pk [0] [] hB rfl rfl rfl rfl) rfl rfl
        · skip
          refine Run.skip ?_
          refine Run.seq ?_
          refine Run.ops hm ?_
          refine Ops.p rfl ?_
          refine Ops.p rfl ?_
          refine Ops.p rfl ?_
          refine Ops.nil ?_
          refine Run.seq ?_
          refine Run.seq ?_
          refine Run.draw hm hmix ?_
          refine OpsD.p rfl ?_
          refine OpsD.p rfl ?_
          obtain ⟨x_363, hx_363, h⟩ := bindO h
          refine OpsD.st (s := 41992) (Ev.iaF rfl rfl hx_363) rfl rfl ?_
          refine OpsD.p rfl ?_
          refine OpsD.p rfl ?_
          refine OpsD.p rfl ?_
          obtain ⟨y_364, hy_364, h⟩ := bindO h
          refine OpsD.st (s := 42056) (Ev.call [] [] 0 (sem_laws_markText N (w64 ((w64 (x_301 + (1 : Int))) + (1 : Int))) _ hy_364) rfl rfl (.cons (.c _) .nil) rfl (.inl rfl) rfl rfl) rfl rfl ?_
          refine OpsD.p rfl ?_
          refine OpsD.nil ⟨by kernel_rfl, ?_⟩
          refine Run.condO rfl h (fun g_365 h => ?_) (fun g_365 h => ?_)
          · skip
            refine Run.seq ?_
            refine Run.ops hm ?_
            refine Ops.p rfl ?_
            refine Ops.nil ?_
            refine Run.ret ?_
            obtain rfl := someO h
            have h := hk_334
            replace h := inlO h
            obtain rfl := someO h
            exact Ends.mkG (.inl rfl) rfl (gh_pk [0] [] hB rfl rfl rfl rfl) rfl rfl
          · skip
            refine Run.skip ?_
            refine Run.ops hm ?_
            refine Ops.p rfl ?_
            refine Ops.p rfl ?_
            refine Ops.p rfl ?_
            refine Ops.nil ?_
            refine Run.ops hm ?_
            refine Ops.p rfl ?_
            refine Ops.p rfl ?_
            refine Ops.p rfl ?_
            refine Ops.nil ?_
            exact ⟨m_334, Nat.lt_succ_self m_334, _, _, (gh_pk [0, 1, 5] [] hB rfl rfl rfl rfl), _, _, h, rfl, rfl⟩
    · skip
      refine Run.exit ?_
      obtain rfl := someO h
      have h := hk_334
      replace h := inrO h
      exact ⟨_, _, (gh_pk [1] [] hB rfl rfl rfl rfl), x_301, h, rfl, rfl⟩
  · skip
    refine Run.seq ?_
    refine Run.ops hm ?_
    refine Ops.p rfl ?_
    refine Ops.p rfl ?_
    refine Ops.nil ?_
    refine Run.ret ?_
    obtain rfl := someO h
    exact Ends.mkG (.inl rfl) rfl (gh_pk [0] [] hB rfl rfl rfl rfl) rfl rfl
end Go.Proofs.Ytebbgdjmplceiaa.Pe.FnExactNodeNew
