/- Functions, as pure functions; and that Go does just that. -/
import Derived.Test.YtebbgdjmplceiaaPeFFnExactNodeOk3
namespace Go.Proofs.Ytebbgdjmplceiaa.Pe.FnExactNodeOk
open Go Go.RowKit
set_option linter.unusedVariables false
set_option linter.unusedSimpArgs false
set_option maxHeartbeats 40000000
def laws_eqEntry (N : Nat) (x_1 : Entry) (x_2 : Entry) : Option (Bool) :=
 (if (x_1.Term != x_2.Term) = true then
 some false
 else
 (if (x_1.Kind != x_2.Kind) = true then
 some false
 else
 (if (!decide (x_1.Data = x_2.Data)) = true then
 some false
 else
 some true)))
theorem sem_laws_eqEntry (N : Nat) (x_1 : Entry) (x_2 : Entry) (r : Bool) (h : laws_eqEntry N x_1 x_2 = some r) : Says Try.prog 34 [.agg [VI x_1.Term, VI x_1.Kind, VS x_1.Data], .agg [VI x_2.Term, VI x_2.Kind, VS x_2.Data]] 0 [] (VB r) [] := by
  unfold laws_eqEntry at h
  refine Says.of_run s34 Try.call34 rfl fun B hB => ?_
  have hm : B.m ≤ 1000 := by omega
  refine Run.seq ?_
  refine Run.ops hm ?_
  refine Ops.st (s := 1000) (.bx rfl rfl) rfl rfl ?_
  refine Ops.st (s := 1016) (.bx rfl rfl) rfl rfl ?_
  refine Ops.p rfl ?_
  refine Ops.nil ?_
  refine Run.seq ?_
  refine Run.seq ?_
  refine Run.ops hm ?_
  refine Ops.p rfl ?_
  refine Ops.p rfl ?_
  refine Ops.p rfl ?_
  refine Ops.p rfl ?_
  refine Ops.p rfl ?_
  refine Ops.nil ?_
  refine Run.condO rfl h (fun g_106 h => ?_) (fun g_106 h => ?_)
  · skip
    refine Run.seq ?_
    refine Run.ops hm ?_
    refine Ops.p rfl ?_
    refine Ops.nil ?_
    refine Run.ret ?_
    obtain rfl := someO h
    exact Ends.mkG (.inl rfl) rfl (gh_pk [0] [] hB rfl rfl rfl rfl) rfl rfl
  · skip
    refine Run.skip ?_
    refine Run.seq ?_
    refine Run.seq ?_
    refine Run.ops hm ?_
    refine Ops.p rfl ?_
    refine Ops.p rfl ?_
    refine Ops.p rfl ?_
    refine Ops.p rfl ?_
    refine Ops.p rfl ?_
    refine Ops.nil ?_
    refine Run.condO rfl h (fun g_108 h => ?_) (fun g_108 h => ?_)
    · skip
      refine Run.seq ?_
      refine Run.ops hm ?_
      refine Ops.p rfl ?_
      refine Ops.nil ?_
      refine Run.ret ?_
      obtain rfl := someO h
      exact Ends.mkG (.inl rfl) rfl (gh_pk [0] [] hB rfl rfl rfl rfl) rfl rfl
    · skip
      refine Run.skip ?_
      refine Run.seq ?_
      refine Run.seq ?_
      refine Run.ops hm ?_
      refine Ops.p rfl ?_
      refine Ops.p rfl ?_
      refine Ops.p rfl ?_
      refine Ops.p rfl ?_
      refine Ops.p rfl ?_
      refine Ops.nil ?_
      refine Run.condO rfl h (fun g_109 h => ?_) (fun g_109 h => ?_)
      · skip
        refine Run.seq ?_
        refine Run.ops hm ?_
        refine Ops.p rfl ?_
        refine Ops.nil ?_
        refine Run.ret ?_
        obtain rfl := someO h
        exact Ends.mkG (.inl rfl) rfl (gh_pk [0] [] hB rfl rfl rfl rfl) rfl rfl
      · skip
        refine Run.skip ?_
        refine Run.seq ?_
        refine Run.ops hm ?_
        refine Ops.p rfl ?_
        refine Ops.nil ?_
        refine Run.ret ?_
        obtain rfl := someO h
        exact Ends.mkG (.inl rfl) rfl (gh_pk [0] [] hB rfl rfl rfl rfl) rfl rfl
def laws_eqEntryS_l1 (N : Nat) (x_1 : (List Entry)) (x_2 : (List Entry)) : Nat → Int → Option ((Bool) ⊕ (Unit))
 | 0, _ => none
 | m + 1, x_186 =>
 (if (decide (x_186 < (x_1.length : Int))) = true then
 (at? x_1 x_186).bind fun x_206 =>
 (at? x_2 x_186).bind fun x_207 =>
 (laws_eqEntry N x_206 x_207).bind fun y_208 =>
 (if (!y_208) = true then
 some (Sum.inl false)
 else
 laws_eqEntryS_l1 N x_1 x_2 m (w64 (x_186 + (1 : Int))))
 else
 some (Sum.inr ()))
def laws_eqEntryS_l1_r (N : Nat) (x_1 : (List Entry)) (x_2 : (List Entry)) : (List Entry) → Int → Option ((Bool) ⊕ (Unit))
 | [], x_186 =>
 some (Sum.inr ())
 | hd :: tl, x_186 =>
 (some hd).bind fun x_206 =>
 (at? x_2 x_186).bind fun x_207 =>
 (laws_eqEntry N x_206 x_207).bind fun y_208 =>
 (if (!y_208) = true then
 some (Sum.inl false)
 else
 laws_eqEntryS_l1_r N x_1 x_2 tl (w64 (x_186 + (1 : Int))))
theorem laws_eqEntryS_l1_rng (N : Nat) (x_1 : (List Entry)) (x_2 : (List Entry)) (hx : x_1.length ≤ 1099511627776) : ∀ (d k m : Nat), x_1.length = k + d → d < m → laws_eqEntryS_l1 N x_1 x_2 m (k : Int) = laws_eqEntryS_l1_r N x_1 x_2 (x_1.drop k) (k : Int) := by
  intro d
  induction d with
  | zero =>
    intro k m hd hm
    obtain ⟨m, rfl⟩ : ∃ q, m = q + 1 := ⟨m - 1, by omega⟩
    rw [laws_eqEntryS_l1, if_neg (by simp; omega), List.drop_eq_nil_of_le (by omega), laws_eqEntryS_l1_r]
  | succ d ih =>
    intro k m hd hm
    obtain ⟨m, rfl⟩ : ∃ q, m = q + 1 := ⟨m - 1, by omega⟩
    have hk : k < x_1.length := by omega
    rw [laws_eqEntryS_l1, if_pos (by simp; omega), List.drop_eq_getElem_cons hk, laws_eqEntryS_l1_r]
    have h1 := at_lt hk
    have h2 := w64_succ (k := k) (by omega)
    have h3 := ih (k + 1) m
    simp only [h1, h2, h3 (by omega) (by omega)]
theorem laws_eqEntryS_l1_eq {N : Nat} (x_1 : (List Entry)) (x_2 : (List Entry)) (hx : x_1.length ≤ 1099511627776) (hN : x_1.length < N) : laws_eqEntryS_l1 N x_1 x_2 N 0 = laws_eqEntryS_l1_r N x_1 x_2 x_1 0 := laws_eqEntryS_l1_rng N x_1 x_2 hx x_1.length 0 N (by omega) hN
def laws_eqEntryS (N : Nat) (x_1 : (List Entry)) (x_2 : (List Entry)) : Option (Bool) :=
 (if ((x_1.length : Int) != (x_2.length : Int)) = true then
 some false
 else
 joinP (fun (v_183 : Unit) =>
 some true) fun j_183 =>
 (laws_eqEntryS_l1 N x_1 x_2 N (0 : Int)).bind (Sum.elim (fun v_197 => some v_197) (fun (v_198 : Unit) => j_183 ())))
theorem sem_laws_eqEntryS (N : Nat) (x_1 : (List Entry)) (x_2 : (List Entry)) (r : Bool) (h : laws_eqEntryS N x_1 x_2 = some r) : Says Try.prog 91 [RO 48 (x_1.map encEntry), RO 48 (x_2.map encEntry)] 0 [] (VB r) [] := by
  unfold laws_eqEntryS at h
  refine Says.of_run s91 Try.call91 rfl fun B hB => ?_
  have hm : B.m ≤ 1000 := by omega
  refine Run.seq ?_
  refine Run.ops hm ?_
  refine Ops.p rfl ?_
  refine Ops.nil ?_
  refine Run.seq ?_
  refine Run.seq ?_
  refine Run.ops hm ?_
  refine Ops.p rfl ?_
  refine Ops.st (s := 5112) (Ev.lnF rfl) rfl rfl ?_
  refine Ops.p rfl ?_
  refine Ops.st (s := 5144) (Ev.lnF rfl) rfl rfl ?_
  refine Ops.p rfl ?_
  refine Ops.nil ?_
  refine Run.condO rfl h (fun g_156 h => ?_) (fun g_156 h => ?_)
  · skip
    refine Run.seq ?_
    refine Run.ops hm ?_
    refine Ops.p rfl ?_
    refine Ops.nil ?_
    refine Run.ret ?_
    obtain rfl := someO h
    exact Ends.mkG (.inl rfl) rfl (gh_pk [0] [] hB rfl rfl rfl rfl) rfl rfl
  · skip
    refine Run.skip ?_
    refine Run.seqO h (fun (v_183 : Unit) => []) (fun (v_183 : Unit) => []) (fun h => ?_) (fun v_183 h => ?_)
    · skip
      refine Run.seq ?_
      refine Run.ops hm ?_
      refine Ops.p rfl ?_
      refine Ops.nil ?_
      refine Run.block ?_
      obtain ⟨res_198, h, hk_198⟩ := bindO h
      refine Run.loop (n := N) (fun m_198 fr σ => ∃ (x_186 : Int), laws_eqEntryS_l1 N x_1 x_2 m_198 x_186 = some res_198 ∧ fr = [(0, RO 48 (x_1.map encEntry)), (1, RO 48 (x_2.map encEntry)), (5, VI x_186)] ∧ σ = []) (gh_pk [0, 1, 5] [] hB rfl rfl rfl rfl) ⟨_, h, rfl, rfl⟩ ?_
      rintro m_198 fr σ ⟨x_186, h, rfl, rfl⟩
      obtain _ | m_198 := m_198
      · rw [laws_eqEntryS_l1] at h; cases h
      rw [laws_eqEntryS_l1] at h
      refine Run.seq ?_
      refine Run.seq ?_
      refine Run.ops hm ?_
      refine Ops.p rfl ?_
      refine Ops.p rfl ?_
      refine Ops.st (s := 17416) (Ev.lnF rfl) rfl rfl ?_
      refine Ops.p rfl ?_
      refine Ops.nil ?_
      refine Run.condO rfl h (fun g_201 h => ?_) (fun g_201 h => ?_)
      · skip
        refine Run.skip ?_
        refine Run.seq ?_
        refine Run.block ?_
        refine Run.seq ?_
        refine Run.draw hm hmix ?_
        refine OpsD.p rfl ?_
        refine OpsD.p rfl ?_
        obtain ⟨x_206, hx_206, h⟩ := bindO h
        refine OpsD.st (s := 25608) (Ev.iaF rfl rfl hx_206) rfl rfl ?_
        refine OpsD.p rfl ?_
        refine OpsD.p rfl ?_
        refine OpsD.p rfl ?_
        obtain ⟨x_207, hx_207, h⟩ := bindO h
        refine OpsD.st (s := 25672) (Ev.iaF rfl rfl hx_207) rfl rfl ?_
        refine OpsD.p rfl ?_
        obtain ⟨y_208, hy_208, h⟩ := bindO h
        refine OpsD.st (s := 25704) (Ev.call [] [] 0 (sem_laws_eqEntry N x_206 x_207 _ hy_208) rfl rfl (.cons (.agg (.cons (.c _) (.cons (.c _) (.cons (.c _) .nil)))) (.cons (.agg (.cons (.c _) (.cons (.c _) (.cons (.c _) .nil)))) .nil)) rfl (.inl rfl) rfl rfl) rfl rfl ?_
        refine OpsD.p rfl ?_
        refine OpsD.nil ⟨by kernel_rfl, ?_⟩
        refine Run.condO rfl h (fun g_209 h => ?_) (fun g_209 h => ?_)
        · skip
          refine Run.seq ?_
          refine Run.ops hm ?_
          refine Ops.p rfl ?_
          refine Ops.nil ?_
          refine Run.ret ?_
          obtain rfl := someO h
          have h := hk_198
          replace h := inlO h
          obtain rfl := someO h
          exact Ends.mkG (.inl rfl) rfl (gh_pk [0] [] hB rfl rfl rfl rfl) rfl rfl
        · skip
          refine Run.skip ?_
          refine Run.ops hm ?_
          refine Ops.p rfl ?_
          refine Ops.p rfl ?_
          refine Ops.p rfl ?_
          refine Ops.nil ?_
          exact ⟨m_198, Nat.lt_succ_self m_198, _, _, (gh_pk [0, 1, 5] [] hB rfl rfl rfl rfl), _, h, rfl, rfl⟩
      · skip
        refine Run.exit ?_
        obtain rfl := someO h
        have h := hk_198
        replace h := inrO h
        exact ⟨_, _, (gh_pk [] [] hB rfl rfl rfl rfl), (), h, rfl, rfl⟩
    · skip
      refine Run.seq ?_
      refine Run.ops hm ?_
      refine Ops.p rfl ?_
      refine Ops.nil ?_
      refine Run.ret ?_
      obtain rfl := someO h
      exact Ends.mkG (.inl rfl) rfl (gh_pk [0] [] hB rfl rfl rfl rfl) rfl rfl
def laws_eqLog (N : Nat) (x_1 : Log) (x_2 : Log) : Option (Bool) :=
 (if (x_1.Start != x_2.Start) = true then
 some false
 else
 (if (x_1.StartTerm != x_2.StartTerm) = true then
 some false
 else
 (laws_eqEntryS N x_1.Entries x_2.Entries).bind fun y_110 =>
 (if (!y_110) = true then
 some false
 else
 some true)))
theorem sem_laws_eqLog (N : Nat) (x_1 : Log) (x_2 : Log) (r : Bool) (h : laws_eqLog N x_1 x_2 = some r) : Says Try.prog 35 [.agg [VI x_1.Start, VI x_1.StartTerm, RO 48 (x_1.Entries.map encEntry)], .agg [VI x_2.Start, VI x_2.StartTerm, RO 48 (x_2.Entries.map encEntry)]] 0 [] (VB r) [] := by
  unfold laws_eqLog at h
  refine Says.of_run s35 Try.call35 rfl fun B hB => ?_
  have hm : B.m ≤ 1000 := by omega
  refine Run.seq ?_
  refine Run.ops hm ?_
  refine Ops.st (s := 1000) (.bx rfl rfl) rfl rfl ?_
  refine Ops.st (s := 1016) (.bx rfl rfl) rfl rfl ?_
  refine Ops.p rfl ?_
  refine Ops.nil ?_
  refine Run.seq ?_
  refine Run.seq ?_
  refine Run.ops hm ?_
  refine Ops.p rfl ?_
  refine Ops.p rfl ?_
  refine Ops.p rfl ?_
  refine Ops.p rfl ?_
  refine Ops.p rfl ?_
  refine Ops.nil ?_
  refine Run.condO rfl h (fun g_107 h => ?_) (fun g_107 h => ?_)
  · skip
    refine Run.seq ?_
    refine Run.ops hm ?_
    refine Ops.p rfl ?_
    refine Ops.nil ?_
    refine Run.ret ?_
    obtain rfl := someO h
    exact Ends.mkG (.inl rfl) rfl (gh_pk [0] [] hB rfl rfl rfl rfl) rfl rfl
  · skip
    refine Run.skip ?_
    refine Run.seq ?_
    refine Run.seq ?_
    refine Run.ops hm ?_
    refine Ops.p rfl ?_
    refine Ops.p rfl ?_
    refine Ops.p rfl ?_
    refine Ops.p rfl ?_
    refine Ops.p rfl ?_
    refine Ops.nil ?_
    refine Run.condO rfl h (fun g_109 h => ?_) (fun g_109 h => ?_)
    · skip
      refine Run.seq ?_
      refine Run.ops hm ?_
      refine Ops.p rfl ?_
      refine Ops.nil ?_
      refine Run.ret ?_
      obtain rfl := someO h
      exact Ends.mkG (.inl rfl) rfl (gh_pk [0] [] hB rfl rfl rfl rfl) rfl rfl
    · skip
      refine Run.skip ?_
      refine Run.seq ?_
      refine Run.seq ?_
      refine Run.ops hm ?_
      refine Ops.p rfl ?_
      refine Ops.p rfl ?_
      refine Ops.p rfl ?_
      refine Ops.p rfl ?_
      obtain ⟨y_110, hy_110, h⟩ := bindO h
      refine Ops.st (s := 21544) (Ev.call [] [] 0 (sem_laws_eqEntryS N x_1.Entries x_2.Entries _ hy_110) rfl rfl (.cons (.c _) (.cons (.c _) .nil)) rfl (.inl rfl) rfl rfl) rfl rfl ?_
      refine Ops.p rfl ?_
      refine Ops.nil ?_
      refine Run.condO rfl h (fun g_111 h => ?_) (fun g_111 h => ?_)
      · skip
        refine Run.seq ?_
        refine Run.ops hm ?_
        refine Ops.p rfl ?_
        refine Ops.nil ?_
        refine Run.ret ?_
        obtain rfl := someO h
        exact Ends.mkG (.inl rfl) rfl (gh_pk [0] [] hB rfl rfl rfl rfl) rfl rfl
      · skip
        refine Run.skip ?_
        refine Run.seq ?_
        refine Run.ops hm ?_
        refine Ops.p rfl ?_
        refine Ops.nil ?_
        refine Run.ret ?_
        obtain rfl := someO h
        exact Ends.mkG (.inl rfl) rfl (gh_pk [0] [] hB rfl rfl rfl rfl) rfl rfl
def laws_eqPeer (N : Nat) (x_1 : Peer) (x_2 : Peer) : Option (Bool) :=
 (if (x_1.Id != x_2.Id) = true then
 some false
 else
 (if (x_1.Next != x_2.Next) = true then
 some false
 else
 (if (x_1.Match != x_2.Match) = true then
 some false
 else
 (if (x_1.Sent != x_2.Sent) = true then
 some false
 else
 some true))))
theorem sem_laws_eqPeer (N : Nat) (x_1 : Peer) (x_2 : Peer) (r : Bool) (h : laws_eqPeer N x_1 x_2 = some r) : Says Try.prog 145 [.agg [VI x_1.Id, VI x_1.Next, VI x_1.Match, VI x_1.Sent], .agg [VI x_2.Id, VI x_2.Next, VI x_2.Match, VI x_2.Sent]] 0 [] (VB r) [] := by
  unfold laws_eqPeer at h
  refine Says.of_run s145 Try.call145 rfl fun B hB => ?_
  have hm : B.m ≤ 1000 := by omega
  refine Run.seq ?_
  refine Run.ops hm ?_
  refine Ops.st (s := 1000) (.bx rfl rfl) rfl rfl ?_
  refine Ops.st (s := 1016) (.bx rfl rfl) rfl rfl ?_
  refine Ops.p rfl ?_
  refine Ops.nil ?_
  refine Run.seq ?_
  refine Run.seq ?_
  refine Run.ops hm ?_
  refine Ops.p rfl ?_
  refine Ops.p rfl ?_
  refine Ops.p rfl ?_
  refine Ops.p rfl ?_
  refine Ops.p rfl ?_
  refine Ops.nil ?_
  refine Run.condO rfl h (fun g_108 h => ?_) (fun g_108 h => ?_)
  · skip
    refine Run.seq ?_
    refine Run.ops hm ?_
    refine Ops.p rfl ?_
    refine Ops.nil ?_
    refine Run.ret ?_
    obtain rfl := someO h
    exact Ends.mkG (.inl rfl) rfl (gh_pk [0] [] hB rfl rfl rfl rfl) rfl rfl
  · skip
    refine Run.skip ?_
    refine Run.seq ?_
    refine Run.seq ?_
    refine Run.ops hm ?_
    refine Ops.p rfl ?_
    refine Ops.p rfl ?_
    refine Ops.p rfl ?_
    refine Ops.p rfl ?_
    refine Ops.p rfl ?_
    refine Ops.nil ?_
    refine Run.condO rfl h (fun g_110 h => ?_) (fun g_110 h => ?_)
    · skip
      refine Run.seq ?_
      refine Run.ops hm ?_
      refine Ops.p rfl ?_
      refine Ops.nil ?_
      refine Run.ret ?_
      obtain rfl := someO h
      exact Ends.mkG (.inl rfl) rfl (gh_pk [0] [] hB rfl rfl rfl rfl) rfl rfl
    · skip
      refine Run.skip ?_
      refine Run.seq ?_
      refine Run.seq ?_
      refine Run.ops hm ?_
      refine Ops.p rfl ?_
      refine Ops.p rfl ?_
      refine Ops.p rfl ?_
      refine Ops.p rfl ?_
      refine Ops.p rfl ?_
      refine Ops.nil ?_
      refine Run.condO rfl h (fun g_112 h => ?_) (fun g_112 h => ?_)
      · skip
        refine Run.seq ?_
        refine Run.ops hm ?_
        refine Ops.p rfl ?_
        refine Ops.nil ?_
        refine Run.ret ?_
        obtain rfl := someO h
        exact Ends.mkG (.inl rfl) rfl (gh_pk [0] [] hB rfl rfl rfl rfl) rfl rfl
      · skip
        refine Run.skip ?_
        refine Run.seq ?_
        refine Run.seq ?_
        refine Run.ops hm ?_
        refine Ops.p rfl ?_
        refine Ops.p rfl ?_
        refine Ops.p rfl ?_
        refine Ops.p rfl ?_
        refine Ops.p rfl ?_
        refine Ops.nil ?_
        refine Run.condO rfl h (fun g_113 h => ?_) (fun g_113 h => ?_)
        · skip
          refine Run.seq ?_
          refine Run.ops hm ?_
          refine Ops.p rfl ?_
          refine Ops.nil ?_
          refine Run.ret ?_
          obtain rfl := someO h
          exact Ends.mkG (.inl rfl) rfl (gh_pk [0] [] hB rfl rfl rfl rfl) rfl rfl
        · skip
          refine Run.skip ?_
          refine Run.seq ?_
          refine Run.ops hm ?_
          refine Ops.p rfl ?_
          refine Ops.nil ?_
          refine Run.ret ?_
          obtain rfl := someO h
          exact Ends.mkG (.inl rfl) rfl (gh_pk [0] [] hB rfl rfl rfl rfl) rfl rfl
def laws_eqPeerS_l1 (N : Nat) (x_1 : (List Peer)) (x_2 : (List Peer)) : Nat → Int → Option ((Bool) ⊕ (Unit))
 | 0, _ => none
 | m + 1, x_186 =>
 (if (decide (x_186 < (x_1.length : Int))) = true then
 (at? x_1 x_186).bind fun x_206 =>
 (at? x_2 x_186).bind fun x_207 =>
 (laws_eqPeer N x_206 x_207).bind fun y_208 =>
 (if (!y_208) = true then
 some (Sum.inl false)
 else
 laws_eqPeerS_l1 N x_1 x_2 m (w64 (x_186 + (1 : Int))))
 else
 some (Sum.inr ()))
def laws_eqPeerS_l1_r (N : Nat) (x_1 : (List Peer)) (x_2 : (List Peer)) : (List Peer) → Int → Option ((Bool) ⊕ (Unit))
 | [], x_186 =>
 some (Sum.inr ())
 | hd :: tl, x_186 =>
 (some hd).bind fun x_206 =>
 (at? x_2 x_186).bind fun x_207 =>
 (laws_eqPeer N x_206 x_207).bind fun y_208 =>
 (if (!y_208) = true then
 some (Sum.inl false)
 else
 laws_eqPeerS_l1_r N x_1 x_2 tl (w64 (x_186 + (1 : Int))))
theorem laws_eqPeerS_l1_rng (N : Nat) (x_1 : (List Peer)) (x_2 : (List Peer)) (hx : x_1.length ≤ 1099511627776) : ∀ (d k m : Nat), x_1.length = k + d → d < m → laws_eqPeerS_l1 N x_1 x_2 m (k : Int) = laws_eqPeerS_l1_r N x_1 x_2 (x_1.drop k) (k : Int) := by
  intro d
  induction d with
  | zero =>
    intro k m hd hm
    obtain ⟨m, rfl⟩ : ∃ q, m = q + 1 := ⟨m - 1, by omega⟩
    rw [laws_eqPeerS_l1, if_neg (by simp; omega), List.drop_eq_nil_of_le (by omega), laws_eqPeerS_l1_r]
  | succ d ih =>
    intro k m hd hm
    obtain ⟨m, rfl⟩ : ∃ q, m = q + 1 := ⟨m - 1, by omega⟩
    have hk : k < x_1.length := by omega
    rw [laws_eqPeerS_l1, if_pos (by simp; omega), List.drop_eq_getElem_cons hk, laws_eqPeerS_l1_r]
    have h1 := at_lt hk
    have h2 := w64_succ (k := k) (by omega)
    have h3 := ih (k + 1) m
    simp only [h1, h2, h3 (by omega) (by omega)]
theorem laws_eqPeerS_l1_eq {N : Nat} (x_1 : (List Peer)) (x_2 : (List Peer)) (hx : x_1.length ≤ 1099511627776) (hN : x_1.length < N) : laws_eqPeerS_l1 N x_1 x_2 N 0 = laws_eqPeerS_l1_r N x_1 x_2 x_1 0 := laws_eqPeerS_l1_rng N x_1 x_2 hx x_1.length 0 N (by omega) hN
def laws_eqPeerS (N : Nat) (x_1 : (List Peer)) (x_2 : (List Peer)) : Option (Bool) :=
 (if ((x_1.length : Int) != (x_2.length : Int)) = true then
 some false
 else
 joinP (fun (v_183 : Unit) =>
 some true) fun j_183 =>
 (laws_eqPeerS_l1 N x_1 x_2 N (0 : Int)).bind (Sum.elim (fun v_197 => some v_197) (fun (v_198 : Unit) => j_183 ())))
theorem sem_laws_eqPeerS (N : Nat) (x_1 : (List Peer)) (x_2 : (List Peer)) (r : Bool) (h : laws_eqPeerS N x_1 x_2 = some r) : Says Try.prog 109 [RO 172 (x_1.map encPeer), RO 172 (x_2.map encPeer)] 0 [] (VB r) [] := by
  unfold laws_eqPeerS at h
  refine Says.of_run s109 Try.call109 rfl fun B hB => ?_
  have hm : B.m ≤ 1000 := by omega
  refine Run.seq ?_
  refine Run.ops hm ?_
  refine Ops.p rfl ?_
  refine Ops.nil ?_
  refine Run.seq ?_
  refine Run.seq ?_
  refine Run.ops hm ?_
  refine Ops.p rfl ?_
  refine Ops.st (s := 5112) (Ev.lnF rfl) rfl rfl ?_
  refine Ops.p rfl ?_
  refine Ops.st (s := 5144) (Ev.lnF rfl) rfl rfl ?_
  refine Ops.p rfl ?_
  refine Ops.nil ?_
  refine Run.condO rfl h (fun g_156 h => ?_) (fun g_156 h => ?_)
  · skip
    refine Run.seq ?_
    refine Run.ops hm ?_
    refine Ops.p rfl ?_
    refine Ops.nil ?_
    refine Run.ret ?_
    obtain rfl := someO h
    exact Ends.mkG (.inl rfl) rfl (gh_pk [0] [] hB rfl rfl rfl rfl) rfl rfl
  · skip
    refine Run.skip ?_
    refine Run.seqO h (fun (v_183 : Unit) => []) (fun (v_183 : Unit) => []) (fun h => ?_) (fun v_183 h => ?_)
    · skip
      refine Run.seq ?_
      refine Run.ops hm ?_
      refine Ops.p rfl ?_
      refine Ops.nil ?_
      refine Run.block ?_
      obtain ⟨res_198, h, hk_198⟩ := bindO h
      refine Run.loop (n := N) (fun m_198 fr σ => ∃ (x_186 : Int), laws_eqPeerS_l1 N x_1 x_2 m_198 x_186 = some res_198 ∧ fr = [(0, RO 172 (x_1.map encPeer)), (1, RO 172 (x_2.map encPeer)), (5, VI x_186)] ∧ σ = []) (gh_pk [0, 1, 5] [] hB rfl rfl rfl rfl) ⟨_, h, rfl, rfl⟩ ?_
      rintro m_198 fr σ ⟨x_186, h, rfl, rfl⟩
      obtain _ | m_198 := m_198
      · rw [laws_eqPeerS_l1] at h; cases h
      rw [laws_eqPeerS_l1] at h
      refine Run.seq ?_
      refine Run.seq ?_
      refine Run.ops hm ?_
      refine Ops.p rfl ?_
      refine Ops.p rfl ?_
      refine Ops.st (s := 17416) (Ev.lnF rfl) rfl rfl ?_
      refine Ops.p rfl ?_
      refine Ops.nil ?_
      refine Run.condO rfl h (fun g_201 h => ?_) (fun g_201 h => ?_)
      · skip
        refine Run.skip ?_
        refine Run.seq ?_
        refine Run.block ?_
        refine Run.seq ?_
        refine Run.draw hm hmix ?_
        refine OpsD.p rfl ?_
        refine OpsD.p rfl ?_
        obtain ⟨x_206, hx_206, h⟩ := bindO h
        refine OpsD.st (s := 25608) (Ev.iaF rfl rfl hx_206) rfl rfl ?_
        refine OpsD.p rfl ?_
        refine OpsD.p rfl ?_
        refine OpsD.p rfl ?_
        obtain ⟨x_207, hx_207, h⟩ := bindO h
        refine OpsD.st (s := 25672) (Ev.iaF rfl rfl hx_207) rfl rfl ?_
        refine OpsD.p rfl ?_
        obtain ⟨y_208, hy_208, h⟩ := bindO h
        refine OpsD.st (s := 25704) (Ev.call [] [] 0 (sem_laws_eqPeer N x_206 x_207 _ hy_208) rfl rfl (.cons (.agg (.cons (.c _) (.cons (.c _) (.cons (.c _) (.cons (.c _) .nil))))) (.cons (.agg (.cons (.c _) (.cons (.c _) (.cons (.c _) (.cons (.c _) .nil))))) .nil)) rfl (.inl rfl) rfl rfl) rfl rfl ?_
        refine OpsD.p rfl ?_
        refine OpsD.nil ⟨by kernel_rfl, ?_⟩
        refine Run.condO rfl h (fun g_209 h => ?_) (fun g_209 h => ?_)
        · skip
          refine Run.seq ?_
          refine Run.ops hm ?_
          refine Ops.p rfl ?_
          refine Ops.nil ?_
          refine Run.ret ?_
          obtain rfl := someO h
          have h := hk_198
          replace h := inlO h
          obtain rfl := someO h
          exact Ends.mkG (.inl rfl) rfl (gh_pk [0] [] hB rfl rfl rfl rfl) rfl rfl
        · skip
          refine Run.skip ?_
          refine Run.ops hm ?_
          refine Ops.p rfl ?_
          refine Ops.p rfl ?_
          refine Ops.p rfl ?_
          refine Ops.nil ?_
          exact ⟨m_198, Nat.lt_succ_self m_198, _, _, (gh_pk [0, 1, 5] [] hB rfl rfl rfl rfl), _, h, rfl, rfl⟩
      · skip
        refine Run.exit ?_
        obtain rfl := someO h
        have h := hk_198
        replace h := inrO h
        exact ⟨_, _, (gh_pk [] [] hB rfl rfl rfl rfl), (), h, rfl, rfl⟩
    · skip
      refine Run.seq ?_
      refine Run.ops hm ?_
      refine Ops.p rfl ?_
      refine Ops.nil ?_
      refine Run.ret ?_
      obtain rfl := someO h
      exact Ends.mkG (.inl rfl) rfl (gh_pk [0] [] hB rfl rfl rfl rfl) rfl rfl
def laws_eqNode (N : Nat) (x_1 : Node) (x_2 : Node) : Option (Bool) :=
 (if (x_1.Id != x_2.Id) = true then
 some false
 else
 (if (x_1.Term != x_2.Term) = true then
 some false
 else
 (if (x_1.Vote != x_2.Vote) = true then
 some false
 else
 (if (x_1.Role != x_2.Role) = true then
 some false
 else
 (if (x_1.Lead != x_2.Lead) = true then
 some false
 else
 (laws_eqIntS N x_1.Conf x_2.Conf).bind fun y_142 =>
 (if (!y_142) = true then
 some false
 else
 (laws_eqLog N x_1.Log x_2.Log).bind fun y_146 =>
 (if (!y_146) = true then
 some false
 else
 (if (x_1.Commit != x_2.Commit) = true then
 some false
 else
 (if (x_1.Clock != x_2.Clock) = true then
 some false
 else
 (if (x_1.Limit != x_2.Limit) = true then
 some false
 else
 (laws_eqIntS N x_1.Votes x_2.Votes).bind fun y_156 =>
 (if (!y_156) = true then
 some false
 else
 (laws_eqPeerS N x_1.Peers x_2.Peers).bind fun y_158 =>
 (if (!y_158) = true then
 some false
 else
 some true))))))))))))
theorem sem_laws_eqNode (N : Nat) (x_1 : Node) (x_2 : Node) (r : Bool) (h : laws_eqNode N x_1 x_2 = some r) : Says Try.prog 50 [.agg [VI x_1.Id, VI x_1.Term, VI x_1.Vote, VI x_1.Role, VI x_1.Lead, RO 3 (x_1.Conf.map encI), VI x_1.Log.Start, VI x_1.Log.StartTerm, RO 48 (x_1.Log.Entries.map encEntry), VI x_1.Commit, VI x_1.Clock, VI x_1.Limit, RO 3 (x_1.Votes.map encI), RO 172 (x_1.Peers.map encPeer)], .agg [VI x_2.Id, VI x_2.Term, VI x_2.Vote, VI x_2.Role, VI x_2.Lead, RO 3 (x_2.Conf.map encI), VI x_2.Log.Start, VI x_2.Log.StartTerm, RO 48 (x_2.Log.Entries.map encEntry), VI x_2.Commit, VI x_2.Clock, VI x_2.Limit, RO 3 (x_2.Votes.map encI), RO 172 (x_2.Peers.map encPeer)]] 0 [] (VB r) [] := by
  unfold laws_eqNode at h
  refine Says.of_run s50 Try.call50 rfl fun B hB => ?_
  have hm : B.m ≤ 1000 := by omega
  refine Run.seq ?_
  refine Run.ops hm ?_
  refine Ops.st (s := 1000) (.bx rfl rfl) rfl rfl ?_
  refine Ops.st (s := 1016) (.bx rfl rfl) rfl rfl ?_
  refine Ops.p rfl ?_
  refine Ops.nil ?_
  refine Run.seq ?_
  refine Run.seq ?_
  refine Run.ops hm ?_
  refine Ops.p rfl ?_
  refine Ops.p rfl ?_
  refine Ops.p rfl ?_
  refine Ops.p rfl ?_
  refine Ops.p rfl ?_
  refine Ops.nil ?_
  refine Run.condO rfl h (fun g_131 h => ?_) (fun g_131 h => ?_)
  · skip
    refine Run.seq ?_
    refine Run.ops hm ?_
    refine Ops.p rfl ?_
    refine Ops.nil ?_
    refine Run.ret ?_
    obtain rfl := someO h
    exact Ends.mkG (.inl rfl) rfl (gh_pk [0] [] hB rfl rfl rfl rfl) rfl rfl
  · skip
    refine Run.skip ?_
    refine Run.seq ?_
    refine Run.seq ?_
    refine Run.ops hm ?_
    refine Ops.p rfl ?_
    refine Ops.p rfl ?_
    refine Ops.p rfl ?_
    refine Ops.p rfl ?_
    refine Ops.p rfl ?_
    refine Ops.nil ?_
    refine Run.condO rfl h (fun g_133 h => ?_) (fun g_133 h => ?_)
    · skip
      refine Run.seq ?_
      refine Run.ops hm ?_
      refine Ops.p rfl ?_
      refine Ops.nil ?_
      refine Run.ret ?_
      obtain rfl := someO h
      exact Ends.mkG (.inl rfl) rfl (gh_pk [0] [] hB rfl rfl rfl rfl) rfl rfl
    · skip
      refine Run.skip ?_
      refine Run.seq ?_
      refine Run.seq ?_
      refine Run.ops hm ?_
      refine Ops.p rfl ?_
      refine Ops.p rfl ?_
      refine Ops.p rfl ?_
      refine Ops.p rfl ?_
      refine Ops.p rfl ?_
      refine Ops.nil ?_
      refine Run.condO rfl h (fun g_135 h => ?_) (fun g_135 h => ?_)
      · skip
        refine Run.seq ?_
        refine Run.ops hm ?_
        refine Ops.p rfl ?_
        refine Ops.nil ?_
        refine Run.ret ?_
        obtain rfl := someO h
        exact Ends.mkG (.inl rfl) rfl (gh_pk [0] [] hB rfl rfl rfl rfl) rfl rfl
      · skip
        refine Run.skip ?_
        refine Run.seq ?_
        refine Run.seq ?_
        refine Run.ops hm ?_
        refine Ops.p rfl ?_
        refine Ops.p rfl ?_
        refine Ops.p rfl ?_
        refine Ops.p rfl ?_
        refine Ops.p rfl ?_
        refine Ops.nil ?_
        refine Run.condO rfl h (fun g_137 h => ?_) (fun g_137 h => ?_)
        · skip
          refine Run.seq ?_
          refine Run.ops hm ?_
          refine Ops.p rfl ?_
          refine Ops.nil ?_
          refine Run.ret ?_
          obtain rfl := someO h
          exact Ends.mkG (.inl rfl) rfl (gh_pk [0] [] hB rfl rfl rfl rfl) rfl rfl
        · skip
          refine Run.skip ?_
          refine Run.seq ?_
          refine Run.seq ?_
          refine Run.ops hm ?_
          refine Ops.p rfl ?_
          refine Ops.p rfl ?_
          refine Ops.p rfl ?_
          refine Ops.p rfl ?_
          refine Ops.p rfl ?_
          refine Ops.nil ?_
          refine Run.condO rfl h (fun g_139 h => ?_) (fun g_139 h => ?_)
          · skip
            refine Run.seq ?_
            refine Run.ops hm ?_
            refine Ops.p rfl ?_
            refine Ops.nil ?_
            refine Run.ret ?_
            obtain rfl := someO h
            exact Ends.mkG (.inl rfl) rfl (gh_pk [0] [] hB rfl rfl rfl rfl) rfl rfl
          · skip
            refine Run.skip ?_
            refine Run.seq ?_
            refine Run.seq ?_
            refine Run.ops hm ?_
            refine Ops.p rfl ?_
            refine Ops.p rfl ?_
            refine Ops.p rfl ?_
            refine Ops.p rfl ?_
            obtain ⟨y_142, hy_142, h⟩ := bindO h
            refine Ops.st (s := 46120) (Ev.call [] [] 0 (sem_laws_eqIntS N x_1.Conf x_2.Conf _ hy_142) rfl rfl (.cons (.c _) (.cons (.c _) .nil)) rfl (.inl rfl) rfl rfl) rfl rfl ?_
            refine Ops.p rfl ?_
            refine Ops.nil ?_
            refine Run.condO rfl h (fun g_143 h => ?_) (fun g_143 h => ?_)
            · skip
              refine Run.seq ?_
              refine Run.ops hm ?_
              refine Ops.p rfl ?_
              refine Ops.nil ?_
              refine Run.ret ?_
              obtain rfl := someO h
              exact Ends.mkG (.inl rfl) rfl (gh_pk [0] [] hB rfl rfl rfl rfl) rfl rfl
            · skip
              refine Run.skip ?_
              refine Run.seq ?_
              refine Run.seq ?_
              refine Run.ops hm ?_
              refine Ops.p rfl ?_
              refine Ops.p rfl ?_
              refine Ops.p rfl ?_
              refine Ops.p rfl ?_
              obtain ⟨y_146, hy_146, h⟩ := bindO h
              refine Ops.st (s := 54312) (Ev.call [] [] 0 (sem_laws_eqLog N x_1.Log x_2.Log _ hy_146) rfl rfl (.cons (.agg (.cons (.c _) (.cons (.c _) (.cons (.c _) .nil)))) (.cons (.agg (.cons (.c _) (.cons (.c _) (.cons (.c _) .nil)))) .nil)) rfl (.inl rfl) rfl rfl) rfl rfl ?_
              refine Ops.p rfl ?_
              refine Ops.nil ?_
              refine Run.condO rfl h (fun g_147 h => ?_) (fun g_147 h => ?_)
              · skip
                refine Run.seq ?_
                refine Run.ops hm ?_
                refine Ops.p rfl ?_
                refine Ops.nil ?_
                refine Run.ret ?_
                obtain rfl := someO h
                exact Ends.mkG (.inl rfl) rfl (gh_pk [0] [] hB rfl rfl rfl rfl) rfl rfl
              · skip
                refine Run.skip ?_
                refine Run.seq ?_
                refine Run.seq ?_
                refine Run.ops hm ?_
                refine Ops.p rfl ?_
                refine Ops.p rfl ?_
                refine Ops.p rfl ?_
                refine Ops.p rfl ?_
                refine Ops.p rfl ?_
                refine Ops.nil ?_
                refine Run.condO rfl h (fun g_149 h => ?_) (fun g_149 h => ?_)
                · skip
                  refine Run.seq ?_
                  refine Run.ops hm ?_
                  refine Ops.p rfl ?_
                  refine Ops.nil ?_
                  refine Run.ret ?_
                  obtain rfl := someO h
                  exact Ends.mkG (.inl rfl) rfl (gh_pk [0] [] hB rfl rfl rfl rfl) rfl rfl
                · skip
                  refine Run.skip ?_
                  refine Run.seq ?_
                  refine Run.seq ?_
                  refine Run.ops hm ?_
                  refine Ops.p rfl ?_
                  refine Ops.p rfl ?_
                  refine Ops.p rfl ?_
                  refine Ops.p rfl ?_
                  refine Ops.p rfl ?_
                  refine Ops.nil ?_
                  refine Run.condO rfl h (fun g_151 h => ?_) (fun g_151 h => ?_)
                  · skip
                    refine Run.seq ?_
                    refine Run.ops hm ?_
                    refine Ops.p rfl ?_
                    refine Ops.nil ?_
                    refine Run.ret ?_
                    obtain rfl := someO h
                    exact Ends.mkG (.inl rfl) rfl (gh_pk [0] [] hB rfl rfl rfl rfl) rfl rfl
                  · skip
                    refine Run.skip ?_
                    refine Run.seq ?_
                    refine Run.seq ?_
                    refine Run.ops hm ?_
                    refine Ops.p rfl ?_
                    refine Ops.p rfl ?_
                    refine Ops.p rfl ?_
                    refine Ops.p rfl ?_
                    refine Ops.p rfl ?_
                    refine Ops.nil ?_
                    refine Run.condO rfl h (fun g_153 h => ?_) (fun g_153 h => ?_)
                    · skip
                      refine Run.seq ?_
                      refine Run.ops hm ?_
                      refine Ops.p rfl ?_
                      refine Ops.nil ?_
                      refine Run.ret ?_
                      obtain rfl := someO h
                      exact Ends.mkG (.inl rfl) rfl (gh_pk [0] [] hB rfl rfl rfl rfl) rfl rfl
                    · skip
                      refine Run.skip ?_
                      refine Run.seq ?_
                      refine Run.seq ?_
                      refine Run.ops hm ?_
                      refine Ops.p rfl ?_
                      refine Ops.p rfl ?_
                      refine Ops.p rfl ?_
                      refine Ops.p rfl ?_
                      obtain ⟨y_156, hy_156, h⟩ := bindO h
                      refine Ops.st (s := 87080) (Ev.call [] [] 0 (sem_laws_eqIntS N x_1.Votes x_2.Votes _ hy_156) rfl rfl (.cons (.c _) (.cons (.c _) .nil)) rfl (.inl rfl) rfl rfl) rfl rfl ?_
                      refine Ops.p rfl ?_
                      refine Ops.nil ?_
                      refine Run.condO rfl h (fun g_157 h => ?_) (fun g_157 h => ?_)
                      · skip
                        refine Run.seq ?_
                        refine Run.ops hm ?_
                        refine Ops.p rfl ?_
                        refine Ops.nil ?_
                        refine Run.ret ?_
                        obtain rfl := someO h
                        exact Ends.mkG (.inl rfl) rfl (gh_pk [0] [] hB rfl rfl rfl rfl) rfl rfl
                      · skip
                        refine Run.skip ?_
                        refine Run.seq ?_
                        refine Run.seq ?_
                        refine Run.ops hm ?_
                        refine Ops.p rfl ?_
                        refine Ops.p rfl ?_
                        refine Ops.p rfl ?_
                        refine Ops.p rfl ?_
                        obtain ⟨y_158, hy_158, h⟩ := bindO h
                        refine Ops.st (s := 95272) (Ev.call [] [] 0 (sem_laws_eqPeerS N x_1.Peers x_2.Peers _ hy_158) rfl rfl (.cons (.c _) (.cons (.c _) .nil)) rfl (.inl rfl) rfl rfl) rfl rfl ?_
                        refine Ops.p rfl ?_
                        refine Ops.nil ?_
                        refine Run.condO rfl h (fun g_159 h => ?_) (fun g_159 h => ?_)
                        · skip
                          refine Run.seq ?_
                          refine Run.ops hm ?_
                          refine Ops.p rfl ?_
                          refine Ops.nil ?_
                          refine Run.ret ?_
                          obtain rfl := someO h
                          exact Ends.mkG (.inl rfl) rfl (gh_pk [0] [] hB rfl rfl rfl rfl) rfl rfl
                        · skip
                          refine Run.skip ?_
                          refine Run.seq ?_
                          refine Run.ops hm ?_
                          refine Ops.p rfl ?_
                          refine Ops.nil ?_
                          refine Run.ret ?_
                          obtain rfl := someO h
                          exact Ends.mkG (.inl rfl) rfl (gh_pk [0] [] hB rfl rfl rfl rfl) rfl rfl
def laws_FnExactNodeOk (N : Nat) (x_1 : Node) : Option (Bool) :=
 (laws_szNode N x_1 (1048576 : Int)).bind fun y_118 =>
 (if (decide (y_118 < (0 : Int))) = true then
 some true
 else
 (laws_toNode N x_1).bind fun y_123 =>
 (spec_NodeOk N y_123).bind fun y_124 =>
 (laws_toNode N x_1).bind fun y_126 =>
 (impl_NodeOk N y_126).bind fun y_128 =>
 (if ((y_128 == y_124) ^^ true) = true then
 some false
 else
 (laws_toNode N x_1).bind fun y_131 =>
 (laws_eqNode N y_126 y_131).bind fun y_132 =>
 (if (!y_132) = true then
 some false
 else
 some true)))
theorem sem_laws_FnExactNodeOk (N : Nat) (x_1 : Node) (r : Bool) (h : laws_FnExactNodeOk N x_1 = some r) : Says Try.prog 12 [.agg [VI x_1.Id, VI x_1.Term, VI x_1.Vote, VI x_1.Role, VI x_1.Lead, RO 3 (x_1.Conf.map encI), VI x_1.Log.Start, VI x_1.Log.StartTerm, RO 71 (x_1.Log.Entries.map encEntry), VI x_1.Commit, VI x_1.Clock, VI x_1.Limit, RO 3 (x_1.Votes.map encI), RO 182 (x_1.Peers.map encPeer)]] 0 [] (VB r) [] := by
  unfold laws_FnExactNodeOk at h
  refine Says.of_run s12 Try.call12 rfl fun B hB => ?_
  have hm : B.m ≤ 1000 := by omega
  refine Run.seq ?_
  refine Run.ops hm ?_
  refine Ops.st (s := 1000) (.bx rfl rfl) rfl rfl ?_
  refine Ops.p rfl ?_
  refine Ops.nil ?_
  refine Run.seq ?_
  refine Run.ops hm ?_
  refine Ops.p rfl ?_
  refine Ops.nil ?_
  refine Run.seq ?_
  refine Run.ops hm ?_
  refine Ops.p rfl ?_
  refine Ops.p rfl ?_
  obtain ⟨y_118, hy_118, h⟩ := bindO h
  refine Ops.st (s := 9224) (Ev.call [] [] 0 (sem_laws_szNode N x_1 (1048576 : Int) _ hy_118) rfl rfl (.cons (.agg (.cons (.c _) (.cons (.c _) (.cons (.c _) (.cons (.c _) (.cons (.c _) (.cons (.c _) (.cons (.c _) (.cons (.c _) (.cons (.c _) (.cons (.c _) (.cons (.c _) (.cons (.c _) (.cons (.c _) (.cons (.c _) .nil))))))))))))))) (.cons (.c _) .nil)) rfl (.inl rfl) rfl rfl) rfl rfl ?_
  refine Ops.p rfl ?_
  refine Ops.nil ?_
  refine Run.seq ?_
  refine Run.seq ?_
  refine Run.ops hm ?_
  refine Ops.p rfl ?_
  refine Ops.p rfl ?_
  refine Ops.nil ?_
  refine Run.condO rfl h (fun g_120 h => ?_) (fun g_120 h => ?_)
  · skip
    refine Run.seq ?_
    refine Run.ops hm ?_
    refine Ops.p rfl ?_
    refine Ops.nil ?_
    refine Run.ret ?_
    obtain rfl := someO h
    exact Ends.mkG (.inl rfl) rfl (gh_pk [0] [] hB rfl rfl rfl rfl) rfl rfl
  · skip
    refine Run.skip ?_
    refine Run.seq ?_
    refine Run.ops hm ?_
    refine Ops.p rfl ?_
    obtain ⟨y_123, hy_123, h⟩ := bindO h
    refine Ops.st (s := 21496) (Ev.call [] [] 4 (sem_laws_toNode N x_1 _ hy_123) rfl rfl (.cons (.agg (.cons (.c _) (.cons (.c _) (.cons (.c _) (.cons (.c _) (.cons (.c _) (.cons (.c _) (.cons (.c _) (.cons (.c _) (.cons (.c _) (.cons (.c _) (.cons (.c _) (.cons (.c _) (.cons (.c _) (.cons (.c _) .nil))))))))))))))) .nil) rfl (.inl rfl) rfl rfl) rfl rfl ?_
    obtain ⟨y_124, hy_124, h⟩ := bindO h
    refine Ops.st (s := 21512) (Ev.call [] [21496, 21497, 21498, 21499] 0 (sem_spec_NodeOk N y_123 _ hy_124) rfl rfl (.cons (.agg (.cons (.c _) (.cons (.c _) (.cons (.c _) (.cons (.c _) (.cons (.c _) (.cons (.borrow rfl (by decide) (lendW (fun _ => rfl) _ rfl)) (.cons (.c _) (.cons (.c _) (.cons (.borrow rfl (by decide) (lendW (fun _ => rfl) _ rfl)) (.cons (.c _) (.cons (.c _) (.cons (.c _) (.cons (.borrow rfl (by decide) (lendW (fun _ => rfl) _ rfl)) (.cons (.borrow rfl (by decide) (lendW (fun _ => rfl) _ rfl)) .nil))))))))))))))) .nil) rfl (.inr ⟨rfl, ownL_root trivial⟩) rfl rfl) rfl rfl ?_
    refine Ops.p rfl ?_
    refine Ops.nil ?_
    refine Run.seq ?_
    refine Run.ops hm ?_
    refine Ops.p rfl ?_
    obtain ⟨y_126, hy_126, h⟩ := bindO h
    refine Ops.st (s := 25592) (Ev.call [] [] 4 (sem_laws_toNode N x_1 _ hy_126) rfl rfl (.cons (.agg (.cons (.c _) (.cons (.c _) (.cons (.c _) (.cons (.c _) (.cons (.c _) (.cons (.c _) (.cons (.c _) (.cons (.c _) (.cons (.c _) (.cons (.c _) (.cons (.c _) (.cons (.c _) (.cons (.c _) (.cons (.c _) .nil))))))))))))))) .nil) rfl (.inl rfl) rfl rfl) rfl rfl ?_
    refine Ops.st (s := 25608) (.al rfl rfl) rfl rfl ?_
    refine Ops.s0 (s := 25624) (.sto rfl rfl rfl rfl rfl rfl) rfl rfl ?_
    refine Ops.nil ?_
    refine Run.seq ?_
    refine Run.ops hm ?_
    refine Ops.p rfl ?_
    obtain ⟨y_128, hy_128, h⟩ := bindO h
    refine Ops.st (s := 29688) (Ev.call [] [25592, 25593, 25594, 25595] 0 (sem_impl_NodeOk N y_126 _ hy_128) rfl rfl (.cons (.agg (.cons (.c _) (.cons (.c _) (.cons (.c _) (.cons (.c _) (.cons (.c _) (.cons (.borrow rfl (by decide) (lendW (fun _ => rfl) _ rfl)) (.cons (.c _) (.cons (.c _) (.cons (.borrow rfl (by decide) (lendW (fun _ => rfl) _ rfl)) (.cons (.c _) (.cons (.c _) (.cons (.c _) (.cons (.borrow rfl (by decide) (lendW (fun _ => rfl) _ rfl)) (.cons (.borrow rfl (by decide) (lendW (fun _ => rfl) _ rfl)) .nil))))))))))))))) .nil) rfl (.inr ⟨rfl, ownL_root trivial⟩) rfl rfl) rfl rfl ?_
    refine Ops.p rfl ?_
    refine Ops.nil ?_
    refine Run.seq ?_
    refine Run.seq ?_
    refine Run.ops hm ?_
    refine Ops.p rfl ?_
    refine Ops.p rfl ?_
    refine Ops.p rfl ?_
    refine Ops.nil ?_
    refine Run.condO rfl h (fun g_130 h => ?_) (fun g_130 h => ?_)
    · skip
      refine Run.seq ?_
      refine Run.ops hm ?_
      refine Ops.p rfl ?_
      refine Ops.nil ?_
      refine Run.ret ?_
      obtain rfl := someO h
      exact Ends.mkG (.inl rfl) rfl (gh_pk [0] [] hB rfl rfl rfl rfl) rfl rfl
    · skip
      refine Run.skip ?_
      refine Run.seq ?_
      refine Run.seq ?_
      refine Run.draw hm hmix ?_
      refine OpsD.p rfl ?_
      refine OpsD.p rfl ?_
      obtain ⟨y_131, hy_131, h⟩ := bindO h
      refine OpsD.st (s := 41992) (Ev.call [] [] 4 (sem_laws_toNode N x_1 _ hy_131) rfl rfl (.cons (.agg (.cons (.c _) (.cons (.c _) (.cons (.c _) (.cons (.c _) (.cons (.c _) (.cons (.c _) (.cons (.c _) (.cons (.c _) (.cons (.c _) (.cons (.c _) (.cons (.c _) (.cons (.c _) (.cons (.c _) (.cons (.c _) .nil))))))))))))))) .nil) rfl (.inl rfl) rfl rfl) rfl rfl ?_
      obtain ⟨y_132, hy_132, h⟩ := bindO h
      refine OpsD.st (s := 42008) (Ev.call [] [25592, 25593, 25594, 25595, 41992, 41993, 41994, 41995] 0 (sem_laws_eqNode N y_126 y_131 _ hy_132) rfl rfl (.cons (.agg (.cons (.c _) (.cons (.c _) (.cons (.c _) (.cons (.c _) (.cons (.c _) (.cons (.borrow rfl (by decide) (lendW (fun _ => rfl) _ rfl)) (.cons (.c _) (.cons (.c _) (.cons (.borrow rfl (by decide) (lendW (fun _ => rfl) _ rfl)) (.cons (.c _) (.cons (.c _) (.cons (.c _) (.cons (.borrow rfl (by decide) (lendW (fun _ => rfl) _ rfl)) (.cons (.borrow rfl (by decide) (lendW (fun _ => rfl) _ rfl)) .nil))))))))))))))) (.cons (.agg (.cons (.c _) (.cons (.c _) (.cons (.c _) (.cons (.c _) (.cons (.c _) (.cons (.borrow rfl (by decide) (lendW (fun _ => rfl) _ rfl)) (.cons (.c _) (.cons (.c _) (.cons (.borrow rfl (by decide) (lendW (fun _ => rfl) _ rfl)) (.cons (.c _) (.cons (.c _) (.cons (.c _) (.cons (.borrow rfl (by decide) (lendW (fun _ => rfl) _ rfl)) (.cons (.borrow rfl (by decide) (lendW (fun _ => rfl) _ rfl)) .nil))))))))))))))) .nil)) rfl (.inr ⟨rfl, ownL_root trivial⟩) rfl rfl) rfl rfl ?_
      refine OpsD.p rfl ?_
      refine OpsD.nil ⟨by kernel_rfl, ?_⟩
      refine Run.condO rfl h (fun g_133 h => ?_) (fun g_133 h => ?_)
      · skip
        refine Run.seq ?_
        refine Run.ops hm ?_
        refine Ops.p rfl ?_
        refine Ops.nil ?_
        refine Run.ret ?_
        obtain rfl := someO h
        exact Ends.mkG (.inl rfl) rfl (gh_pk [0] [] hB rfl rfl rfl rfl) rfl rfl
      · skip
        refine Run.skip ?_
        refine Run.seq ?_
        refine Run.ops hm ?_
        refine Ops.p rfl ?_
        refine Ops.nil ?_
        refine Run.ret ?_
        obtain rfl := someO h
        exact Ends.mkG (.inl rfl) rfl (gh_pk [0] [] hB rfl rfl rfl rfl) rfl rfl
end Go.Proofs.Ytebbgdjmplceiaa.Pe.FnExactNodeOk
