/- Functions, as pure functions; and that Go does just that. -/
import Derived.Test.YtebbgdjmplceiaaPeFFnExactOneLeader0
namespace Go.Proofs.Ytebbgdjmplceiaa.Pe.FnExactOneLeader
open Go Go.RowKit
set_option linter.unusedVariables false
set_option linter.unusedSimpArgs false
set_option maxHeartbeats 40000000
def laws_eqEntry (N : Nat) (x_1 : Entry) (x_2 : Entry) : Option (Bool) :=
 (if (x_1.Term != x_2.Term) = true then
 some false
 else
 (if (x_1.Kind != x_2.Kind) = true then
 some false
 else
 (if (!decide (x_1.Data = x_2.Data)) = true then
 some false
 else
 some true)))
theorem sem_laws_eqEntry (N : Nat) (x_1 : Entry) (x_2 : Entry) (r : Bool) (h : laws_eqEntry N x_1 x_2 = some r) : Says Try.prog 34 [.agg [VI x_1.Term, VI x_1.Kind, VS x_1.Data], .agg [VI x_2.Term, VI x_2.Kind, VS x_2.Data]] 0 [] (VB r) [] := by
  unfold laws_eqEntry at h
  refine Says.of_run s34 Try.call34 rfl fun B hB => ?_
  have hm : B.m ≤ 1000 := by omega
  refine Run.seq ?_
  refine Run.ops hm ?_
  refine Ops.st (s := 1000) (.bx rfl rfl) rfl rfl ?_
  refine Ops.st (s := 1016) (.bx rfl rfl) rfl rfl ?_
  refine Ops.p rfl ?_
  refine Ops.nil ?_
  refine Run.seq ?_
  refine Run.seq ?_
  refine Run.ops hm ?_
  refine Ops.p rfl ?_
  refine Ops.p rfl ?_
  refine Ops.p rfl ?_
  refine Ops.p rfl ?_
  refine Ops.p rfl ?_
  refine Ops.nil ?_
  refine Run.condO rfl h (fun g_106 h => ?_) (fun g_106 h => ?_)
  · skip
    refine Run.seq ?_
    refine Run.ops hm ?_
    refine Ops.p rfl ?_
    refine Ops.nil ?_
    refine Run.ret ?_
    obtain rfl := someO h
    exact Ends.mk (.inl rfl) hB rfl rfl rfl rfl
  · skip
    refine Run.skip ?_
    refine Run.seq ?_
    refine Run.seq ?_
    refine Run.ops hm ?_
    refine Ops.p rfl ?_
    refine Ops.p rfl ?_
    refine Ops.p rfl ?_
    refine Ops.p rfl ?_
    refine Ops.p rfl ?_
    refine Ops.nil ?_
    refine Run.condO rfl h (fun g_108 h => ?_) (fun g_108 h => ?_)
    · skip
      refine Run.seq ?_
      refine Run.ops hm ?_
      refine Ops.p rfl ?_
      refine Ops.nil ?_
      refine Run.ret ?_
      obtain rfl := someO h
      exact Ends.mk (.inl rfl) hB rfl rfl rfl rfl
    · skip
      refine Run.skip ?_
      refine Run.seq ?_
      refine Run.seq ?_
      refine Run.ops hm ?_
      refine Ops.p rfl ?_
      refine Ops.p rfl ?_
      refine Ops.p rfl ?_
      refine Ops.p rfl ?_
      refine Ops.p rfl ?_
      refine Ops.nil ?_
      refine Run.condO rfl h (fun g_109 h => ?_) (fun g_109 h => ?_)
      · skip
        refine Run.seq ?_
        refine Run.ops hm ?_
        refine Ops.p rfl ?_
        refine Ops.nil ?_
        refine Run.ret ?_
        obtain rfl := someO h
        exact Ends.mk (.inl rfl) hB rfl rfl rfl rfl
      · skip
        refine Run.skip ?_
        refine Run.seq ?_
        refine Run.ops hm ?_
        refine Ops.p rfl ?_
        refine Ops.nil ?_
        refine Run.ret ?_
        obtain rfl := someO h
        exact Ends.mk (.inl rfl) hB rfl rfl rfl rfl
def laws_eqEntryS_l1 (N : Nat) (x_1 : (List Entry)) (x_2 : (List Entry)) : Nat → Int → Option ((Bool) ⊕ (Unit))
 | 0, _ => none
 | m + 1, x_186 =>
 (if (decide (x_186 < (x_1.length : Int))) = true then
 (at? x_1 x_186).bind fun x_206 =>
 (at? x_2 x_186).bind fun x_207 =>
 (laws_eqEntry N x_206 x_207).bind fun y_208 =>
 (if (!y_208) = true then
 some (Sum.inl false)
 else
 laws_eqEntryS_l1 N x_1 x_2 m (w64 (x_186 + (1 : Int))))
 else
 some (Sum.inr ()))
def laws_eqEntryS_l1_r (N : Nat) (x_1 : (List Entry)) (x_2 : (List Entry)) : (List Entry) → Int → Option ((Bool) ⊕ (Unit))
 | [], x_186 =>
 some (Sum.inr ())
 | hd :: tl, x_186 =>
 (some hd).bind fun x_206 =>
 (at? x_2 x_186).bind fun x_207 =>
 (laws_eqEntry N x_206 x_207).bind fun y_208 =>
 (if (!y_208) = true then
 some (Sum.inl false)
 else
 laws_eqEntryS_l1_r N x_1 x_2 tl (w64 (x_186 + (1 : Int))))
theorem laws_eqEntryS_l1_rng (N : Nat) (x_1 : (List Entry)) (x_2 : (List Entry)) (hx : x_1.length ≤ 1099511627776) : ∀ (d k m : Nat), x_1.length = k + d → d < m → laws_eqEntryS_l1 N x_1 x_2 m (k : Int) = laws_eqEntryS_l1_r N x_1 x_2 (x_1.drop k) (k : Int) := by
  intro d
  induction d with
  | zero =>
    intro k m hd hm
    obtain ⟨m, rfl⟩ : ∃ q, m = q + 1 := ⟨m - 1, by omega⟩
    rw [laws_eqEntryS_l1, if_neg (by simp; omega), List.drop_eq_nil_of_le (by omega), laws_eqEntryS_l1_r]
  | succ d ih =>
    intro k m hd hm
    obtain ⟨m, rfl⟩ : ∃ q, m = q + 1 := ⟨m - 1, by omega⟩
    have hk : k < x_1.length := by omega
    rw [laws_eqEntryS_l1, if_pos (by simp; omega), List.drop_eq_getElem_cons hk, laws_eqEntryS_l1_r]
    have h1 := at_lt hk
    have h2 := w64_succ (k := k) (by omega)
    have h3 := ih (k + 1) m
    simp only [h1, h2, h3 (by omega) (by omega)]
theorem laws_eqEntryS_l1_eq {N : Nat} (x_1 : (List Entry)) (x_2 : (List Entry)) (hx : x_1.length ≤ 1099511627776) (hN : x_1.length < N) : laws_eqEntryS_l1 N x_1 x_2 N 0 = laws_eqEntryS_l1_r N x_1 x_2 x_1 0 := laws_eqEntryS_l1_rng N x_1 x_2 hx x_1.length 0 N (by omega) hN
def laws_eqEntryS (N : Nat) (x_1 : (List Entry)) (x_2 : (List Entry)) : Option (Bool) :=
 (if ((x_1.length : Int) != (x_2.length : Int)) = true then
 some false
 else
 joinP (fun (v_183 : Unit) =>
 some true) fun j_183 =>
 (laws_eqEntryS_l1 N x_1 x_2 N (0 : Int)).bind (Sum.elim (fun v_197 => some v_197) (fun (v_198 : Unit) => j_183 ())))
theorem sem_laws_eqEntryS (N : Nat) (x_1 : (List Entry)) (x_2 : (List Entry)) (r : Bool) (h : laws_eqEntryS N x_1 x_2 = some r) : Says Try.prog 91 [RO 48 (x_1.map encEntry), RO 48 (x_2.map encEntry)] 0 [] (VB r) [] := by
  unfold laws_eqEntryS at h
  refine Says.of_run s91 Try.call91 rfl fun B hB => ?_
  have hm : B.m ≤ 1000 := by omega
  refine Run.seq ?_
  refine Run.ops hm ?_
  refine Ops.p rfl ?_
  refine Ops.nil ?_
  refine Run.seq ?_
  refine Run.seq ?_
  refine Run.ops hm ?_
  refine Ops.p rfl ?_
  refine Ops.st (s := 5112) (Ev.lnF rfl) rfl rfl ?_
  refine Ops.p rfl ?_
  refine Ops.st (s := 5144) (Ev.lnF rfl) rfl rfl ?_
  refine Ops.p rfl ?_
  refine Ops.nil ?_
  refine Run.condO rfl h (fun g_156 h => ?_) (fun g_156 h => ?_)
  · skip
    refine Run.seq ?_
    refine Run.ops hm ?_
    refine Ops.p rfl ?_
    refine Ops.nil ?_
    refine Run.ret ?_
    obtain rfl := someO h
    exact Ends.mk (.inl rfl) hB rfl rfl rfl rfl
  · skip
    refine Run.skip ?_
    refine Run.seqO h (fun (v_183 : Unit) => []) (fun (v_183 : Unit) => []) (fun h => ?_) (fun v_183 h => ?_)
    · skip
      refine Run.seq ?_
      refine Run.ops hm ?_
      refine Ops.p rfl ?_
      refine Ops.nil ?_
      refine Run.block ?_
      obtain ⟨res_198, h, hk_198⟩ := bindO h
      refine Run.loop (n := N) (fun m_198 fr σ => ∃ (x_186 : Int), laws_eqEntryS_l1 N x_1 x_2 m_198 x_186 = some res_198 ∧ fr = [(0, RO 48 (x_1.map encEntry)), (1, RO 48 (x_2.map encEntry)), (5, VI x_186)] ∧ σ = []) (gh_canonE (ts := [0, 1, 5]) hB rfl rfl rfl) ⟨_, h, rfl, rfl⟩ ?_
      rintro m_198 fr σ ⟨x_186, h, rfl, rfl⟩
      obtain _ | m_198 := m_198
      · rw [laws_eqEntryS_l1] at h; cases h
      rw [laws_eqEntryS_l1] at h
      refine Run.seq ?_
      refine Run.seq ?_
      refine Run.ops hm ?_
      refine Ops.p rfl ?_
      refine Ops.p rfl ?_
      refine Ops.st (s := 17416) (Ev.lnF rfl) rfl rfl ?_
      refine Ops.p rfl ?_
      refine Ops.nil ?_
      refine Run.condO rfl h (fun g_201 h => ?_) (fun g_201 h => ?_)
      · skip
        refine Run.skip ?_
        refine Run.seq ?_
        refine Run.block ?_
        refine Run.seq ?_
        refine Run.draw hm hmix ?_
        refine OpsD.p rfl ?_
        refine OpsD.p rfl ?_
        obtain ⟨x_206, hx_206, h⟩ := bindO h
        refine OpsD.st (s := 25608) (Ev.iaF rfl rfl hx_206) rfl rfl ?_
        refine OpsD.p rfl ?_
        refine OpsD.p rfl ?_
        refine OpsD.p rfl ?_
        obtain ⟨x_207, hx_207, h⟩ := bindO h
        refine OpsD.st (s := 25672) (Ev.iaF rfl rfl hx_207) rfl rfl ?_
        refine OpsD.p rfl ?_
        obtain ⟨y_208, hy_208, h⟩ := bindO h
        refine OpsD.st (s := 25704) (Ev.call [] [] 0 (sem_laws_eqEntry N x_206 x_207 _ hy_208) rfl rfl (.cons (.agg (.cons (.c _) (.cons (.c _) (.cons (.c _) .nil)))) (.cons (.agg (.cons (.c _) (.cons (.c _) (.cons (.c _) .nil)))) .nil)) rfl (.inl rfl) rfl rfl) rfl rfl ?_
        refine OpsD.p rfl ?_
        refine OpsD.nil ⟨by kernel_rfl, ?_⟩
        refine Run.condO rfl h (fun g_209 h => ?_) (fun g_209 h => ?_)
        · skip
          refine Run.seq ?_
          refine Run.ops hm ?_
          refine Ops.p rfl ?_
          refine Ops.nil ?_
          refine Run.ret ?_
          obtain rfl := someO h
          have h := hk_198
          replace h := inlO h
          obtain rfl := someO h
          exact Ends.mk (.inl rfl) hB rfl rfl rfl rfl
        · skip
          refine Run.skip ?_
          refine Run.ops hm ?_
          refine Ops.p rfl ?_
          refine Ops.p rfl ?_
          refine Ops.p rfl ?_
          refine Ops.nil ?_
          exact ⟨m_198, Nat.lt_succ_self m_198, _, _, gh_canonE (ts := [0, 1, 5]) hB rfl rfl rfl, _, h, rfl, rfl⟩
      · skip
        refine Run.exit ?_
        obtain rfl := someO h
        have h := hk_198
        replace h := inrO h
        exact ⟨_, _, gh_canonE (ts := []) hB rfl rfl rfl, (), h, rfl, rfl⟩
    · skip
      refine Run.seq ?_
      refine Run.ops hm ?_
      refine Ops.p rfl ?_
      refine Ops.nil ?_
      refine Run.ret ?_
      obtain rfl := someO h
      exact Ends.mk (.inl rfl) hB rfl rfl rfl rfl
def laws_eqLog (N : Nat) (x_1 : Log) (x_2 : Log) : Option (Bool) :=
 (if (x_1.Start != x_2.Start) = true then
 some false
 else
 (if (x_1.StartTerm != x_2.StartTerm) = true then
 some false
 else
 (laws_eqEntryS N x_1.Entries x_2.Entries).bind fun y_110 =>
 (if (!y_110) = true then
 some false
 else
 some true)))
theorem sem_laws_eqLog (N : Nat) (x_1 : Log) (x_2 : Log) (r : Bool) (h : laws_eqLog N x_1 x_2 = some r) : Says Try.prog 35 [.agg [VI x_1.Start, VI x_1.StartTerm, RO 48 (x_1.Entries.map encEntry)], .agg [VI x_2.Start, VI x_2.StartTerm, RO 48 (x_2.Entries.map encEntry)]] 0 [] (VB r) [] := by
  unfold laws_eqLog at h
  refine Says.of_run s35 Try.call35 rfl fun B hB => ?_
  have hm : B.m ≤ 1000 := by omega
  refine Run.seq ?_
  refine Run.ops hm ?_
  refine Ops.st (s := 1000) (.bx rfl rfl) rfl rfl ?_
  refine Ops.st (s := 1016) (.bx rfl rfl) rfl rfl ?_
  refine Ops.p rfl ?_
  refine Ops.nil ?_
  refine Run.seq ?_
  refine Run.seq ?_
  refine Run.ops hm ?_
  refine Ops.p rfl ?_
  refine Ops.p rfl ?_
  refine Ops.p rfl ?_
  refine Ops.p rfl ?_
  refine Ops.p rfl ?_
  refine Ops.nil ?_
  refine Run.condO rfl h (fun g_107 h => ?_) (fun g_107 h => ?_)
  · skip
    refine Run.seq ?_
    refine Run.ops hm ?_
    refine Ops.p rfl ?_
    refine Ops.nil ?_
    refine Run.ret ?_
    obtain rfl := someO h
    exact Ends.mk (.inl rfl) hB rfl rfl rfl rfl
  · skip
    refine Run.skip ?_
    refine Run.seq ?_
    refine Run.seq ?_
    refine Run.ops hm ?_
    refine Ops.p rfl ?_
    refine Ops.p rfl ?_
    refine Ops.p rfl ?_
    refine Ops.p rfl ?_
    refine Ops.p rfl ?_
    refine Ops.nil ?_
    refine Run.condO rfl h (fun g_109 h => ?_) (fun g_109 h => ?_)
    · skip
      refine Run.seq ?_
      refine Run.ops hm ?_
      refine Ops.p rfl ?_
      refine Ops.nil ?_
      refine Run.ret ?_
      obtain rfl := someO h
      exact Ends.mk (.inl rfl) hB rfl rfl rfl rfl
    · skip
      refine Run.skip ?_
      refine Run.seq ?_
      refine Run.seq ?_
      refine Run.ops hm ?_
      refine Ops.p rfl ?_
      refine Ops.p rfl ?_
      refine Ops.p rfl ?_
      refine Ops.p rfl ?_
      obtain ⟨y_110, hy_110, h⟩ := bindO h
      refine Ops.st (s := 21544) (Ev.call [] [] 0 (sem_laws_eqEntryS N x_1.Entries x_2.Entries _ hy_110) rfl rfl (.cons (.c _) (.cons (.c _) .nil)) rfl (.inl rfl) rfl rfl) rfl rfl ?_
      refine Ops.p rfl ?_
      refine Ops.nil ?_
      refine Run.condO rfl h (fun g_111 h => ?_) (fun g_111 h => ?_)
      · skip
        refine Run.seq ?_
        refine Run.ops hm ?_
        refine Ops.p rfl ?_
        refine Ops.nil ?_
        refine Run.ret ?_
        obtain rfl := someO h
        exact Ends.mk (.inl rfl) hB rfl rfl rfl rfl
      · skip
        refine Run.skip ?_
        refine Run.seq ?_
        refine Run.ops hm ?_
        refine Ops.p rfl ?_
        refine Ops.nil ?_
        refine Run.ret ?_
        obtain rfl := someO h
        exact Ends.mk (.inl rfl) hB rfl rfl rfl rfl
def laws_eqLeader (N : Nat) (x_1 : Leader) (x_2 : Leader) : Option (Bool) :=
 (if (x_1.Node != x_2.Node) = true then
 some false
 else
 (if (x_1.Term != x_2.Term) = true then
 some false
 else
 (laws_eqLog N x_1.Log x_2.Log).bind fun y_110 =>
 (if (!y_110) = true then
 some false
 else
 some true)))
theorem sem_laws_eqLeader (N : Nat) (x_1 : Leader) (x_2 : Leader) (r : Bool) (h : laws_eqLeader N x_1 x_2 = some r) : Says Try.prog 84 [.agg [VI x_1.Node, VI x_1.Term, VI x_1.Log.Start, VI x_1.Log.StartTerm, RO 48 (x_1.Log.Entries.map encEntry)], .agg [VI x_2.Node, VI x_2.Term, VI x_2.Log.Start, VI x_2.Log.StartTerm, RO 48 (x_2.Log.Entries.map encEntry)]] 0 [] (VB r) [] := by
  unfold laws_eqLeader at h
  refine Says.of_run s84 Try.call84 rfl fun B hB => ?_
  have hm : B.m ≤ 1000 := by omega
  refine Run.seq ?_
  refine Run.ops hm ?_
  refine Ops.st (s := 1000) (.bx rfl rfl) rfl rfl ?_
  refine Ops.st (s := 1016) (.bx rfl rfl) rfl rfl ?_
  refine Ops.p rfl ?_
  refine Ops.nil ?_
  refine Run.seq ?_
  refine Run.seq ?_
  refine Run.ops hm ?_
  refine Ops.p rfl ?_
  refine Ops.p rfl ?_
  refine Ops.p rfl ?_
  refine Ops.p rfl ?_
  refine Ops.p rfl ?_
  refine Ops.nil ?_
  refine Run.condO rfl h (fun g_107 h => ?_) (fun g_107 h => ?_)
  · skip
    refine Run.seq ?_
    refine Run.ops hm ?_
    refine Ops.p rfl ?_
    refine Ops.nil ?_
    refine Run.ret ?_
    obtain rfl := someO h
    exact Ends.mk (.inl rfl) hB rfl rfl rfl rfl
  · skip
    refine Run.skip ?_
    refine Run.seq ?_
    refine Run.seq ?_
    refine Run.ops hm ?_
    refine Ops.p rfl ?_
    refine Ops.p rfl ?_
    refine Ops.p rfl ?_
    refine Ops.p rfl ?_
    refine Ops.p rfl ?_
    refine Ops.nil ?_
    refine Run.condO rfl h (fun g_109 h => ?_) (fun g_109 h => ?_)
    · skip
      refine Run.seq ?_
      refine Run.ops hm ?_
      refine Ops.p rfl ?_
      refine Ops.nil ?_
      refine Run.ret ?_
      obtain rfl := someO h
      exact Ends.mk (.inl rfl) hB rfl rfl rfl rfl
    · skip
      refine Run.skip ?_
      refine Run.seq ?_
      refine Run.seq ?_
      refine Run.ops hm ?_
      refine Ops.p rfl ?_
      refine Ops.p rfl ?_
      refine Ops.p rfl ?_
      refine Ops.p rfl ?_
      obtain ⟨y_110, hy_110, h⟩ := bindO h
      refine Ops.st (s := 21544) (Ev.call [] [] 0 (sem_laws_eqLog N x_1.Log x_2.Log _ hy_110) rfl rfl (.cons (.agg (.cons (.c _) (.cons (.c _) (.cons (.c _) .nil)))) (.cons (.agg (.cons (.c _) (.cons (.c _) (.cons (.c _) .nil)))) .nil)) rfl (.inl rfl) rfl rfl) rfl rfl ?_
      refine Ops.p rfl ?_
      refine Ops.nil ?_
      refine Run.condO rfl h (fun g_111 h => ?_) (fun g_111 h => ?_)
      · skip
        refine Run.seq ?_
        refine Run.ops hm ?_
        refine Ops.p rfl ?_
        refine Ops.nil ?_
        refine Run.ret ?_
        obtain rfl := someO h
        exact Ends.mk (.inl rfl) hB rfl rfl rfl rfl
      · skip
        refine Run.skip ?_
        refine Run.seq ?_
        refine Run.ops hm ?_
        refine Ops.p rfl ?_
        refine Ops.nil ?_
        refine Run.ret ?_
        obtain rfl := someO h
        exact Ends.mk (.inl rfl) hB rfl rfl rfl rfl
def laws_eqLeaderS_l1 (N : Nat) (x_1 : (List Leader)) (x_2 : (List Leader)) : Nat → Int → Option ((Bool) ⊕ (Unit))
 | 0, _ => none
 | m + 1, x_186 =>
 (if (decide (x_186 < (x_1.length : Int))) = true then
 (at? x_1 x_186).bind fun x_206 =>
 (at? x_2 x_186).bind fun x_207 =>
 (laws_eqLeader N x_206 x_207).bind fun y_208 =>
 (if (!y_208) = true then
 some (Sum.inl false)
 else
 laws_eqLeaderS_l1 N x_1 x_2 m (w64 (x_186 + (1 : Int))))
 else
 some (Sum.inr ()))
def laws_eqLeaderS_l1_r (N : Nat) (x_1 : (List Leader)) (x_2 : (List Leader)) : (List Leader) → Int → Option ((Bool) ⊕ (Unit))
 | [], x_186 =>
 some (Sum.inr ())
 | hd :: tl, x_186 =>
 (some hd).bind fun x_206 =>
 (at? x_2 x_186).bind fun x_207 =>
 (laws_eqLeader N x_206 x_207).bind fun y_208 =>
 (if (!y_208) = true then
 some (Sum.inl false)
 else
 laws_eqLeaderS_l1_r N x_1 x_2 tl (w64 (x_186 + (1 : Int))))
theorem laws_eqLeaderS_l1_rng (N : Nat) (x_1 : (List Leader)) (x_2 : (List Leader)) (hx : x_1.length ≤ 1099511627776) : ∀ (d k m : Nat), x_1.length = k + d → d < m → laws_eqLeaderS_l1 N x_1 x_2 m (k : Int) = laws_eqLeaderS_l1_r N x_1 x_2 (x_1.drop k) (k : Int) := by
  intro d
  induction d with
  | zero =>
    intro k m hd hm
    obtain ⟨m, rfl⟩ : ∃ q, m = q + 1 := ⟨m - 1, by omega⟩
    rw [laws_eqLeaderS_l1, if_neg (by simp; omega), List.drop_eq_nil_of_le (by omega), laws_eqLeaderS_l1_r]
  | succ d ih =>
    intro k m hd hm
    obtain ⟨m, rfl⟩ : ∃ q, m = q + 1 := ⟨m - 1, by omega⟩
    have hk : k < x_1.length := by omega
    rw [laws_eqLeaderS_l1, if_pos (by simp; omega), List.drop_eq_getElem_cons hk, laws_eqLeaderS_l1_r]
    have h1 := at_lt hk
    have h2 := w64_succ (k := k) (by omega)
    have h3 := ih (k + 1) m
    simp only [h1, h2, h3 (by omega) (by omega)]
theorem laws_eqLeaderS_l1_eq {N : Nat} (x_1 : (List Leader)) (x_2 : (List Leader)) (hx : x_1.length ≤ 1099511627776) (hN : x_1.length < N) : laws_eqLeaderS_l1 N x_1 x_2 N 0 = laws_eqLeaderS_l1_r N x_1 x_2 x_1 0 := laws_eqLeaderS_l1_rng N x_1 x_2 hx x_1.length 0 N (by omega) hN
def laws_eqLeaderS (N : Nat) (x_1 : (List Leader)) (x_2 : (List Leader)) : Option (Bool) :=
 (if ((x_1.length : Int) != (x_2.length : Int)) = true then
 some false
 else
 joinP (fun (v_183 : Unit) =>
 some true) fun j_183 =>
 (laws_eqLeaderS_l1 N x_1 x_2 N (0 : Int)).bind (Sum.elim (fun v_197 => some v_197) (fun (v_198 : Unit) => j_183 ())))
theorem sem_laws_eqLeaderS (N : Nat) (x_1 : (List Leader)) (x_2 : (List Leader)) (r : Bool) (h : laws_eqLeaderS N x_1 x_2 = some r) : Says Try.prog 29 [RO 129 (x_1.map (encLeader false)), RO 129 (x_2.map (encLeader false))] 0 [] (VB r) [] := by
  unfold laws_eqLeaderS at h
  refine Says.of_run s29 Try.call29 rfl fun B hB => ?_
  have hm : B.m ≤ 1000 := by omega
  refine Run.seq ?_
  refine Run.ops hm ?_
  refine Ops.p rfl ?_
  refine Ops.nil ?_
  refine Run.seq ?_
  refine Run.seq ?_
  refine Run.ops hm ?_
  refine Ops.p rfl ?_
  refine Ops.st (s := 5112) (Ev.lnF rfl) rfl rfl ?_
  refine Ops.p rfl ?_
  refine Ops.st (s := 5144) (Ev.lnF rfl) rfl rfl ?_
  refine Ops.p rfl ?_
  refine Ops.nil ?_
  refine Run.condO rfl h (fun g_156 h => ?_) (fun g_156 h => ?_)
  · skip
    refine Run.seq ?_
    refine Run.ops hm ?_
    refine Ops.p rfl ?_
    refine Ops.nil ?_
    refine Run.ret ?_
    obtain rfl := someO h
    exact Ends.mk (.inl rfl) hB rfl rfl rfl rfl
  · skip
    refine Run.skip ?_
    refine Run.seqO h (fun (v_183 : Unit) => []) (fun (v_183 : Unit) => []) (fun h => ?_) (fun v_183 h => ?_)
    · skip
      refine Run.seq ?_
      refine Run.ops hm ?_
      refine Ops.p rfl ?_
      refine Ops.nil ?_
      refine Run.block ?_
      obtain ⟨res_198, h, hk_198⟩ := bindO h
      refine Run.loop (n := N) (fun m_198 fr σ => ∃ (x_186 : Int), laws_eqLeaderS_l1 N x_1 x_2 m_198 x_186 = some res_198 ∧ fr = [(0, RO 129 (x_1.map (encLeader false))), (1, RO 129 (x_2.map (encLeader false))), (5, VI x_186)] ∧ σ = []) (gh_canonE (ts := [0, 1, 5]) hB rfl rfl rfl) ⟨_, h, rfl, rfl⟩ ?_
      rintro m_198 fr σ ⟨x_186, h, rfl, rfl⟩
      obtain _ | m_198 := m_198
      · rw [laws_eqLeaderS_l1] at h; cases h
      rw [laws_eqLeaderS_l1] at h
      refine Run.seq ?_
      refine Run.seq ?_
      refine Run.ops hm ?_
      refine Ops.p rfl ?_
      refine Ops.p rfl ?_
      refine Ops.st (s := 17416) (Ev.lnF rfl) rfl rfl ?_
      refine Ops.p rfl ?_
      refine Ops.nil ?_
      refine Run.condO rfl h (fun g_201 h => ?_) (fun g_201 h => ?_)
      · skip
        refine Run.skip ?_
        refine Run.seq ?_
        refine Run.block ?_
        refine Run.seq ?_
        refine Run.draw hm hmix ?_
        refine OpsD.p rfl ?_
        refine OpsD.p rfl ?_
        obtain ⟨x_206, hx_206, h⟩ := bindO h
        refine OpsD.st (s := 25608) (Ev.iaF rfl rfl hx_206) rfl rfl ?_
        refine OpsD.p rfl ?_
        refine OpsD.p rfl ?_
        refine OpsD.p rfl ?_
        obtain ⟨x_207, hx_207, h⟩ := bindO h
        refine OpsD.st (s := 25672) (Ev.iaF rfl rfl hx_207) rfl rfl ?_
        refine OpsD.p rfl ?_
        obtain ⟨y_208, hy_208, h⟩ := bindO h
        refine OpsD.st (s := 25704) (Ev.call [] [] 0 (sem_laws_eqLeader N x_206 x_207 _ hy_208) rfl rfl (.cons (.agg (.cons (.c _) (.cons (.c _) (.cons (.c _) (.cons (.c _) (.cons (.c _) .nil)))))) (.cons (.agg (.cons (.c _) (.cons (.c _) (.cons (.c _) (.cons (.c _) (.cons (.c _) .nil)))))) .nil)) rfl (.inl rfl) rfl rfl) rfl rfl ?_
        refine OpsD.p rfl ?_
        refine OpsD.nil ⟨by kernel_rfl, ?_⟩
        refine Run.condO rfl h (fun g_209 h => ?_) (fun g_209 h => ?_)
        · skip
          refine Run.seq ?_
          refine Run.ops hm ?_
          refine Ops.p rfl ?_
          refine Ops.nil ?_
          refine Run.ret ?_
          obtain rfl := someO h
          have h := hk_198
          replace h := inlO h
          obtain rfl := someO h
          exact Ends.mk (.inl rfl) hB rfl rfl rfl rfl
        · skip
          refine Run.skip ?_
          refine Run.ops hm ?_
          refine Ops.p rfl ?_
          refine Ops.p rfl ?_
          refine Ops.p rfl ?_
          refine Ops.nil ?_
          exact ⟨m_198, Nat.lt_succ_self m_198, _, _, gh_canonE (ts := [0, 1, 5]) hB rfl rfl rfl, _, h, rfl, rfl⟩
      · skip
        refine Run.exit ?_
        obtain rfl := someO h
        have h := hk_198
        replace h := inrO h
        exact ⟨_, _, gh_canonE (ts := []) hB rfl rfl rfl, (), h, rfl, rfl⟩
    · skip
      refine Run.seq ?_
      refine Run.ops hm ?_
      refine Ops.p rfl ?_
      refine Ops.nil ?_
      refine Run.ret ?_
      obtain rfl := someO h
      exact Ends.mk (.inl rfl) hB rfl rfl rfl rfl
def laws_FnExactOneLeader (N : Nat) (x_1 : (List Leader)) : Option (Bool) :=
 (laws_szLeaderS N x_1 (1048576 : Int)).bind fun y_118 =>
 (if (decide (y_118 < (0 : Int))) = true then
 some true
 else
 (laws_toLeaderS N x_1).bind fun y_123 =>
 (spec_OneLeader N y_123).bind fun y_124 =>
 (laws_toLeaderS N x_1).bind fun y_126 =>
 (impl_OneLeader N y_126).bind fun y_128 =>
 (if ((y_128 == y_124) ^^ true) = true then
 some false
 else
 (laws_toLeaderS N x_1).bind fun y_131 =>
 (laws_eqLeaderS N y_126 y_131).bind fun y_132 =>
 (if (!y_132) = true then
 some false
 else
 some true)))
theorem sem_laws_FnExactOneLeader (N : Nat) (x_1 : (List Leader)) (r : Bool) (h : laws_FnExactOneLeader N x_1 = some r) : Says Try.prog 5 [RO 127 (x_1.map (encLeaderL false))] 0 [] (VB r) [] := by
  unfold laws_FnExactOneLeader at h
  refine Says.of_run s5 Try.call5 rfl fun B hB => ?_
  have hm : B.m ≤ 1000 := by omega
  refine Run.seq ?_
  refine Run.ops hm ?_
  refine Ops.p rfl ?_
  refine Ops.nil ?_
  refine Run.seq ?_
  refine Run.ops hm ?_
  refine Ops.p rfl ?_
  refine Ops.nil ?_
  refine Run.seq ?_
  refine Run.ops hm ?_
  refine Ops.p rfl ?_
  refine Ops.p rfl ?_
  obtain ⟨y_118, hy_118, h⟩ := bindO h
  refine Ops.st (s := 9224) (Ev.call [] [] 0 (sem_laws_szLeaderS N x_1 (1048576 : Int) _ hy_118) rfl rfl (.cons (.c _) (.cons (.c _) .nil)) rfl (.inl rfl) rfl rfl) rfl rfl ?_
  refine Ops.p rfl ?_
  refine Ops.nil ?_
  refine Run.seq ?_
  refine Run.seq ?_
  refine Run.ops hm ?_
  refine Ops.p rfl ?_
  refine Ops.p rfl ?_
  refine Ops.nil ?_
  refine Run.condO rfl h (fun g_120 h => ?_) (fun g_120 h => ?_)
  · skip
    refine Run.seq ?_
    refine Run.ops hm ?_
    refine Ops.p rfl ?_
    refine Ops.nil ?_
    refine Run.ret ?_
    obtain rfl := someO h
    exact Ends.mk (.inl rfl) hB rfl rfl rfl rfl
  · skip
    refine Run.skip ?_
    refine Run.seq ?_
    refine Run.ops hm ?_
    refine Ops.p rfl ?_
    obtain ⟨y_123, hy_123, h⟩ := bindO h
    refine Ops.st (s := 21496) (Ev.call [] [] 1 (sem_laws_toLeaderS N x_1 _ hy_123) rfl rfl (.cons (.c _) .nil) rfl (.inl rfl) rfl rfl) rfl rfl ?_
    obtain ⟨y_124, hy_124, h⟩ := bindO h
    refine Ops.st (s := 21512) (Ev.call [] [21496] 0 (sem_spec_OneLeader N y_123 _ hy_124) rfl rfl (.cons (.borrow rfl (by decide) (lendW ro_encLeader _ rfl)) .nil) rfl (.inr ⟨rfl, ownL_root trivial⟩) rfl rfl) rfl rfl ?_
    refine Ops.p rfl ?_
    refine Ops.nil ?_
    refine Run.seq ?_
    refine Run.ops hm ?_
    refine Ops.p rfl ?_
    obtain ⟨y_126, hy_126, h⟩ := bindO h
    refine Ops.st (s := 25592) (Ev.call [] [] 1 (sem_laws_toLeaderS N x_1 _ hy_126) rfl rfl (.cons (.c _) .nil) rfl (.inl rfl) rfl rfl) rfl rfl ?_
    refine Ops.p rfl ?_
    refine Ops.nil ?_
    refine Run.seq ?_
    refine Run.ops hm ?_
    refine Ops.p rfl ?_
    obtain ⟨y_128, hy_128, h⟩ := bindO h
    refine Ops.st (s := 29688) (Ev.call [] [25592] 0 (sem_impl_OneLeader N y_126 _ hy_128) rfl rfl (.cons (.borrow rfl (by decide) (lendW ro_encLeader _ rfl)) .nil) rfl (.inr ⟨rfl, ownL_root trivial⟩) rfl rfl) rfl rfl ?_
    refine Ops.p rfl ?_
    refine Ops.nil ?_
    refine Run.seq ?_
    refine Run.seq ?_
    refine Run.ops hm ?_
    refine Ops.p rfl ?_
    refine Ops.p rfl ?_
    refine Ops.p rfl ?_
    refine Ops.nil ?_
    refine Run.condO rfl h (fun g_130 h => ?_) (fun g_130 h => ?_)
    · skip
      refine Run.seq ?_
      refine Run.ops hm ?_
      refine Ops.p rfl ?_
      refine Ops.nil ?_
      refine Run.ret ?_
      obtain rfl := someO h
      exact Ends.mk (.inl rfl) hB rfl rfl rfl rfl
    · skip
      refine Run.skip ?_
      refine Run.seq ?_
      refine Run.seq ?_
      refine Run.ops hm ?_
      refine Ops.p rfl ?_
      refine Ops.p rfl ?_
      obtain ⟨y_131, hy_131, h⟩ := bindO h
      refine Ops.st (s := 41992) (Ev.call [] [] 1 (sem_laws_toLeaderS N x_1 _ hy_131) rfl rfl (.cons (.c _) .nil) rfl (.inl rfl) rfl rfl) rfl rfl ?_
      obtain ⟨y_132, hy_132, h⟩ := bindO h
      refine Ops.st (s := 42008) (Ev.call [] [25592, 41992] 0 (sem_laws_eqLeaderS N y_126 y_131 _ hy_132) rfl rfl (.cons (.borrow rfl (by decide) (lendW ro_encLeader _ rfl)) (.cons (.borrow rfl (by decide) (lendW ro_encLeader _ rfl)) .nil)) rfl (.inr ⟨rfl, ownL_root trivial⟩) rfl rfl) rfl rfl ?_
      refine Ops.p rfl ?_
      refine Ops.nil ?_
      refine Run.condO rfl h (fun g_133 h => ?_) (fun g_133 h => ?_)
      · skip
        refine Run.seq ?_
        refine Run.ops hm ?_
        refine Ops.p rfl ?_
        refine Ops.nil ?_
        refine Run.ret ?_
        obtain rfl := someO h
        exact Ends.mk (.inl rfl) hB rfl rfl rfl rfl
      · skip
        refine Run.skip ?_
        refine Run.seq ?_
        refine Run.ops hm ?_
        refine Ops.p rfl ?_
        refine Ops.nil ?_
        refine Run.ret ?_
        obtain rfl := someO h
        exact Ends.mk (.inl rfl) hB rfl rfl rfl rfl
end Go.Proofs.Ytebbgdjmplceiaa.Pe.FnExactOneLeader
