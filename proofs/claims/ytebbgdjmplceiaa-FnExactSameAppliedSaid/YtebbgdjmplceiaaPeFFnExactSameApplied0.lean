/- Functions, as pure functions; and that Go does just that. -/
import Derived.Test.YtebbgdjmplceiaaPeTy
import Derived.Test.YtebbgdjmplceiaaPeSFnExactSameApplied
namespace Go.Proofs.Ytebbgdjmplceiaa.Pe.FnExactSameApplied
open Go Go.RowKit
set_option linter.unusedVariables false
set_option linter.unusedSimpArgs false
set_option maxHeartbeats 40000000
theorem hmix : Try.prog.follows .mixedOrders = true := by kernel_rfl
structure Entry where
  Term : Int
  Kind : Int
  Data : ByteArray
abbrev encEntry (x : Entry) : List C := [.i .i64 x.Term, .i .i64 x.Kind, .s x.Data]
structure Applied where
  Node : Int
  Term : Int
  Index : Int
  Entry : Entry
abbrev encApplied (x : Applied) : List C := [.i .i64 x.Node, .i .i64 x.Term, .i .i64 x.Index, .i .i64 x.Entry.Term, .i .i64 x.Entry.Kind, .s x.Entry.Data]
theorem bt77 : bytesOf Try.prog 77 ≤ 2048 := of_decide_eq_true (by kernel_rfl)
def laws_szEntry (N : Nat) (x_1 : Entry) (x_2 : Int) : Option (Int) :=
 (if (decide ((w64 (x_2 - (x_1.Data.size : Int))) < (0 : Int))) = true then
 some (-1 : Int)
 else
 some (w64 (x_2 - (x_1.Data.size : Int))))
theorem sem_laws_szEntry (N : Nat) (x_1 : Entry) (x_2 : Int) (r : Int) (h : laws_szEntry N x_1 x_2 = some r) : Says Try.prog 102 [.agg [VI x_1.Term, VI x_1.Kind, VS x_1.Data], VI x_2] 0 [] (VI r) [] := by
  unfold laws_szEntry at h
  refine Says.of_run s102 Try.call102 rfl fun B hB => ?_
  have hm : B.m ≤ 1000 := by omega
  refine Run.seq ?_
  refine Run.ops hm ?_
  refine Ops.st (s := 1000) (.bx rfl rfl) rfl rfl ?_
  refine Ops.p rfl ?_
  refine Ops.nil ?_
  refine Run.seq ?_
  refine Run.ops hm ?_
  refine Ops.p rfl ?_
  refine Ops.p rfl ?_
  refine Ops.p rfl ?_
  refine Ops.p rfl ?_
  refine Ops.p rfl ?_
  refine Ops.p rfl ?_
  refine Ops.nil ?_
  refine Run.seq ?_
  refine Run.seq ?_
  refine Run.ops hm ?_
  refine Ops.p rfl ?_
  refine Ops.p rfl ?_
  refine Ops.nil ?_
  refine Run.condO rfl h (fun g_103 h => ?_) (fun g_103 h => ?_)
  · skip
    refine Run.seq ?_
    refine Run.ops hm ?_
    refine Ops.p rfl ?_
    refine Ops.nil ?_
    refine Run.ret ?_
    obtain rfl := someO h
    exact Ends.mk (.inl rfl) hB rfl rfl rfl rfl
  · skip
    refine Run.skip ?_
    refine Run.seq ?_
    refine Run.ops hm ?_
    refine Ops.p rfl ?_
    refine Ops.p rfl ?_
    refine Ops.nil ?_
    refine Run.ret ?_
    obtain rfl := someO h
    exact Ends.mk (.inl rfl) hB rfl rfl rfl rfl
def laws_szApplied (N : Nat) (x_1 : Applied) (x_2 : Int) : Option (Int) :=
 (laws_szEntry N x_1.Entry x_2).bind fun y_105 =>
 (if (decide (y_105 < (0 : Int))) = true then
 some (-1 : Int)
 else
 some y_105)
theorem sem_laws_szApplied (N : Nat) (x_1 : Applied) (x_2 : Int) (r : Int) (h : laws_szApplied N x_1 x_2 = some r) : Says Try.prog 41 [.agg [VI x_1.Node, VI x_1.Term, VI x_1.Index, VI x_1.Entry.Term, VI x_1.Entry.Kind, VS x_1.Entry.Data], VI x_2] 0 [] (VI r) [] := by
  unfold laws_szApplied at h
  refine Says.of_run s41 Try.call41 rfl fun B hB => ?_
  have hm : B.m ≤ 1000 := by omega
  refine Run.seq ?_
  refine Run.ops hm ?_
  refine Ops.st (s := 1000) (.bx rfl rfl) rfl rfl ?_
  refine Ops.p rfl ?_
  refine Ops.nil ?_
  refine Run.seq ?_
  refine Run.ops hm ?_
  refine Ops.p rfl ?_
  refine Ops.p rfl ?_
  refine Ops.p rfl ?_
  obtain ⟨y_105, hy_105, h⟩ := bindO h
  refine Ops.st (s := 5144) (Ev.call [] [] 0 (sem_laws_szEntry N x_1.Entry x_2 _ hy_105) rfl rfl (.cons (.agg (.cons (.c _) (.cons (.c _) (.cons (.c _) .nil)))) (.cons (.c _) .nil)) rfl (.inl rfl) rfl rfl) rfl rfl ?_
  refine Ops.p rfl ?_
  refine Ops.nil ?_
  refine Run.seq ?_
  refine Run.seq ?_
  refine Run.ops hm ?_
  refine Ops.p rfl ?_
  refine Ops.p rfl ?_
  refine Ops.nil ?_
  refine Run.condO rfl h (fun g_107 h => ?_) (fun g_107 h => ?_)
  · skip
    refine Run.seq ?_
    refine Run.ops hm ?_
    refine Ops.p rfl ?_
    refine Ops.nil ?_
    refine Run.ret ?_
    obtain rfl := someO h
    exact Ends.mk (.inl rfl) hB rfl rfl rfl rfl
  · skip
    refine Run.skip ?_
    refine Run.seq ?_
    refine Run.ops hm ?_
    refine Ops.p rfl ?_
    refine Ops.p rfl ?_
    refine Ops.nil ?_
    refine Run.ret ?_
    obtain rfl := someO h
    exact Ends.mk (.inl rfl) hB rfl rfl rfl rfl
def laws_szAppliedS_l1 (N : Nat) (x_1 : (List Applied)) : Nat → Int → Int → Option ((Int) ⊕ (Int))
 | 0, _, _ => none
 | m + 1, x_197, x_198 =>
 (if (decide (x_198 < (x_1.length : Int))) = true then
 (at? x_1 x_198).bind fun x_223 =>
 (laws_szApplied N x_223 x_197).bind fun y_224 =>
 (if (decide (y_224 < (0 : Int))) = true then
 some (Sum.inl (-1 : Int))
 else
 laws_szAppliedS_l1 N x_1 m y_224 (w64 (x_198 + (1 : Int))))
 else
 some (Sum.inr x_197))
def laws_szAppliedS_l1_r (N : Nat) (x_1 : (List Applied)) : (List Applied) → Int → Int → Option ((Int) ⊕ (Int))
 | [], x_197, x_198 =>
 some (Sum.inr x_197)
 | hd :: tl, x_197, x_198 =>
 (some hd).bind fun x_223 =>
 (laws_szApplied N x_223 x_197).bind fun y_224 =>
 (if (decide (y_224 < (0 : Int))) = true then
 some (Sum.inl (-1 : Int))
 else
 laws_szAppliedS_l1_r N x_1 tl y_224 (w64 (x_198 + (1 : Int))))
theorem laws_szAppliedS_l1_rng (N : Nat) (x_1 : (List Applied)) (hx : x_1.length ≤ 1099511627776) : ∀ (d k m : Nat) (x_197 : Int), x_1.length = k + d → d < m → laws_szAppliedS_l1 N x_1 m x_197 (k : Int) = laws_szAppliedS_l1_r N x_1 (x_1.drop k) x_197 (k : Int) := by
  intro d
  induction d with
  | zero =>
    intro k m x_197 hd hm
    obtain ⟨m, rfl⟩ : ∃ q, m = q + 1 := ⟨m - 1, by omega⟩
    rw [laws_szAppliedS_l1, if_neg (by simp; omega), List.drop_eq_nil_of_le (by omega), laws_szAppliedS_l1_r]
  | succ d ih =>
    intro k m x_197 hd hm
    obtain ⟨m, rfl⟩ : ∃ q, m = q + 1 := ⟨m - 1, by omega⟩
    have hk : k < x_1.length := by omega
    rw [laws_szAppliedS_l1, if_pos (by simp; omega), List.drop_eq_getElem_cons hk, laws_szAppliedS_l1_r]
    have h1 := at_lt hk
    have h2 := w64_succ (k := k) (by omega)
    have h3 := ih (k + 1) m
    simp only [h1, h2, h3 _ (by omega) (by omega)]
theorem laws_szAppliedS_l1_eq {N : Nat} (x_1 : (List Applied)) (hx : x_1.length ≤ 1099511627776) (hN : x_1.length < N) (x_197 : Int) : laws_szAppliedS_l1 N x_1 N x_197 0 = laws_szAppliedS_l1_r N x_1 x_1 x_197 0 := laws_szAppliedS_l1_rng N x_1 hx x_1.length 0 N x_197 (by omega) hN
def laws_szAppliedS (N : Nat) (x_1 : (List Applied)) (x_2 : Int) : Option (Int) :=
 (if (decide ((w64 (x_2 - (x_1.length : Int))) < (0 : Int))) = true then
 some (-1 : Int)
 else
 joinP (fun (v_195 : Int) =>
 some v_195) fun j_195 =>
 (laws_szAppliedS_l1 N x_1 N (w64 (x_2 - (x_1.length : Int))) (0 : Int)).bind (Sum.elim (fun v_211 => some v_211) (fun (v_212 : Int) => j_195 v_212)))
theorem sem_laws_szAppliedS (N : Nat) (x_1 : (List Applied)) (x_2 : Int) (r : Int) (h : laws_szAppliedS N x_1 x_2 = some r) : Says Try.prog 15 [RO 73 (x_1.map encApplied), VI x_2] 0 [] (VI r) [] := by
  unfold laws_szAppliedS at h
  refine Says.of_run s15 Try.call15 rfl fun B hB => ?_
  have hm : B.m ≤ 1000 := by omega
  refine Run.seq ?_
  refine Run.ops hm ?_
  refine Ops.p rfl ?_
  refine Ops.nil ?_
  refine Run.seq ?_
  refine Run.ops hm ?_
  refine Ops.p rfl ?_
  refine Ops.p rfl ?_
  refine Ops.st (s := 5128) (Ev.lnF rfl) rfl rfl ?_
  refine Ops.p rfl ?_
  refine Ops.p rfl ?_
  refine Ops.nil ?_
  refine Run.seq ?_
  refine Run.seq ?_
  refine Run.ops hm ?_
  refine Ops.p rfl ?_
  refine Ops.p rfl ?_
  refine Ops.nil ?_
  refine Run.condO rfl h (fun g_164 h => ?_) (fun g_164 h => ?_)
  · skip
    refine Run.seq ?_
    refine Run.ops hm ?_
    refine Ops.p rfl ?_
    refine Ops.nil ?_
    refine Run.ret ?_
    obtain rfl := someO h
    exact Ends.mk (.inl rfl) hB rfl rfl rfl rfl
  · skip
    refine Run.skip ?_
    refine Run.seqO h (fun (v_195 : Int) => [(1, VI v_195)]) (fun (v_195 : Int) => []) (fun h => ?_) (fun v_195 h => ?_)
    · skip
      refine Run.seq ?_
      refine Run.ops hm ?_
      refine Ops.p rfl ?_
      refine Ops.nil ?_
      refine Run.block ?_
      obtain ⟨res_212, h, hk_212⟩ := bindO h
      refine Run.loop (n := N) (fun m_212 fr σ => ∃ (x_197 : Int), ∃ (x_198 : Int), laws_szAppliedS_l1 N x_1 m_212 x_197 x_198 = some res_212 ∧ fr = [(0, RO 73 (x_1.map encApplied)), (1, VI x_197), (5, VI x_198)] ∧ σ = []) (gh_canonE (ts := [0, 1, 5]) hB rfl rfl rfl) ⟨_, _, h, rfl, rfl⟩ ?_
      rintro m_212 fr σ ⟨x_197, x_198, h, rfl, rfl⟩
      obtain _ | m_212 := m_212
      · rw [laws_szAppliedS_l1] at h; cases h
      rw [laws_szAppliedS_l1] at h
      refine Run.seq ?_
      refine Run.seq ?_
      refine Run.ops hm ?_
      refine Ops.p rfl ?_
      refine Ops.p rfl ?_
      refine Ops.st (s := 21512) (Ev.lnF rfl) rfl rfl ?_
      refine Ops.p rfl ?_
      refine Ops.nil ?_
      refine Run.condO rfl h (fun g_215 h => ?_) (fun g_215 h => ?_)
      · skip
        refine Run.skip ?_
        refine Run.seq ?_
        refine Run.block ?_
        refine Run.seq ?_
        refine Run.ops hm ?_
        refine Ops.p rfl ?_
        refine Ops.p rfl ?_
        obtain ⟨x_223, hx_223, h⟩ := bindO h
        refine Ops.st (s := 29704) (Ev.iaF rfl rfl hx_223) rfl rfl ?_
        refine Ops.p rfl ?_
        refine Ops.p rfl ?_
        obtain ⟨y_224, hy_224, h⟩ := bindO h
        refine Ops.st (s := 29752) (Ev.call [] [] 0 (sem_laws_szApplied N x_223 x_197 _ hy_224) rfl rfl (.cons (.agg (.cons (.c _) (.cons (.c _) (.cons (.c _) (.cons (.c _) (.cons (.c _) (.cons (.c _) .nil))))))) (.cons (.c _) .nil)) rfl (.inl rfl) rfl rfl) rfl rfl ?_
        refine Ops.p rfl ?_
        refine Ops.nil ?_
        refine Run.seq ?_
        refine Run.ops hm ?_
        refine Ops.p rfl ?_
        refine Ops.p rfl ?_
        refine Ops.nil ?_
        refine Run.condO rfl h (fun g_225 h => ?_) (fun g_225 h => ?_)
        · skip
          refine Run.seq ?_
          refine Run.ops hm ?_
          refine Ops.p rfl ?_
          refine Ops.nil ?_
          refine Run.ret ?_
          obtain rfl := someO h
          have h := hk_212
          replace h := inlO h
          obtain rfl := someO h
          exact Ends.mk (.inl rfl) hB rfl rfl rfl rfl
        · skip
          refine Run.skip ?_
          refine Run.ops hm ?_
          refine Ops.p rfl ?_
          refine Ops.p rfl ?_
          refine Ops.p rfl ?_
          refine Ops.nil ?_
          exact ⟨m_212, Nat.lt_succ_self m_212, _, _, gh_canonE (ts := [0, 1, 5]) hB rfl rfl rfl, _, _, h, rfl, rfl⟩
      · skip
        refine Run.exit ?_
        obtain rfl := someO h
        have h := hk_212
        replace h := inrO h
        exact ⟨_, _, gh_canonE (ts := [1]) hB rfl rfl rfl, x_197, h, rfl, rfl⟩
    · skip
      refine Run.seq ?_
      refine Run.ops hm ?_
      refine Ops.p rfl ?_
      refine Ops.p rfl ?_
      refine Ops.nil ?_
      refine Run.ret ?_
      obtain rfl := someO h
      exact Ends.mk (.inl rfl) hB rfl rfl rfl rfl
def laws_toEntry (N : Nat) (x_1 : Entry) : Option (Entry) :=
 some x_1
theorem sem_laws_toEntry (N : Nat) (x_1 : Entry) (r : Entry) (h : laws_toEntry N x_1 = some r) : Says Try.prog 103 [.agg [VI x_1.Term, VI x_1.Kind, VS x_1.Data]] 0 [] (.agg [VI r.Term, VI r.Kind, VS r.Data]) [] := by
  unfold laws_toEntry at h
  refine Says.of_run s103 Try.call103 rfl fun B hB => ?_
  have hm : B.m ≤ 1000 := by omega
  refine Run.seq ?_
  refine Run.ops hm ?_
  refine Ops.st (s := 1000) (.bx rfl rfl) rfl rfl ?_
  refine Ops.st (s := 1016) (.al rfl rfl) rfl rfl ?_
  refine Ops.nil ?_
  refine Run.seq ?_
  refine Run.ops hm ?_
  refine Ops.st (s := 5096) (.al rfl rfl) rfl rfl ?_
  refine Ops.nil ?_
  refine Run.seq ?_
  refine Run.ops hm ?_
  refine Ops.p rfl ?_
  refine Ops.p rfl ?_
  refine Ops.p rfl ?_
  refine Ops.s0 (s := 9240) (.sto rfl rfl rfl rfl rfl rfl) rfl rfl ?_
  refine Ops.nil ?_
  refine Run.seq ?_
  refine Run.ops hm ?_
  refine Ops.p rfl ?_
  refine Ops.p rfl ?_
  refine Ops.p rfl ?_
  refine Ops.s0 (s := 13336) (.sto rfl rfl rfl rfl rfl rfl) rfl rfl ?_
  refine Ops.nil ?_
  refine Run.seq ?_
  refine Run.ops hm ?_
  refine Ops.p rfl ?_
  refine Ops.p rfl ?_
  refine Ops.p rfl ?_
  refine Ops.s0 (s := 17432) (.sto rfl rfl rfl rfl rfl rfl) rfl rfl ?_
  refine Ops.nil ?_
  refine Run.seq ?_
  refine Run.ops hm ?_
  refine Ops.p rfl ?_
  refine Ops.s0 (s := 21496) (.sto rfl rfl rfl rfl rfl rfl) rfl rfl ?_
  refine Ops.nil ?_
  refine Run.ret ?_
  obtain rfl := someO h
  exact Ends.mk (.inl rfl) hB rfl rfl rfl rfl
def laws_toApplied (N : Nat) (x_1 : Applied) : Option (Applied) :=
 (laws_toEntry N x_1.Entry).bind fun y_103 =>
 some (Applied.mk x_1.Node x_1.Term x_1.Index y_103)
theorem sem_laws_toApplied (N : Nat) (x_1 : Applied) (r : Applied) (h : laws_toApplied N x_1 = some r) : Says Try.prog 43 [.agg [VI x_1.Node, VI x_1.Term, VI x_1.Index, VI x_1.Entry.Term, VI x_1.Entry.Kind, VS x_1.Entry.Data]] 0 [] (.agg [VI r.Node, VI r.Term, VI r.Index, VI r.Entry.Term, VI r.Entry.Kind, VS r.Entry.Data]) [] := by
  unfold laws_toApplied at h
  refine Says.of_run s43 Try.call43 rfl fun B hB => ?_
  have hm : B.m ≤ 1000 := by omega
  refine Run.seq ?_
  refine Run.ops hm ?_
  refine Ops.st (s := 1000) (.bx rfl rfl) rfl rfl ?_
  refine Ops.st (s := 1016) (.al rfl rfl) rfl rfl ?_
  refine Ops.nil ?_
  refine Run.seq ?_
  refine Run.ops hm ?_
  refine Ops.st (s := 5096) (.al rfl rfl) rfl rfl ?_
  refine Ops.nil ?_
  refine Run.seq ?_
  refine Run.ops hm ?_
  refine Ops.p rfl ?_
  refine Ops.p rfl ?_
  refine Ops.p rfl ?_
  refine Ops.s0 (s := 9240) (.sto rfl rfl rfl rfl rfl rfl) rfl rfl ?_
  refine Ops.nil ?_
  refine Run.seq ?_
  refine Run.ops hm ?_
  refine Ops.p rfl ?_
  refine Ops.p rfl ?_
  refine Ops.p rfl ?_
  refine Ops.s0 (s := 13336) (.sto rfl rfl rfl rfl rfl rfl) rfl rfl ?_
  refine Ops.nil ?_
  refine Run.seq ?_
  refine Run.ops hm ?_
  refine Ops.p rfl ?_
  refine Ops.p rfl ?_
  refine Ops.p rfl ?_
  refine Ops.s0 (s := 17432) (.sto rfl rfl rfl rfl rfl rfl) rfl rfl ?_
  refine Ops.nil ?_
  refine Run.seq ?_
  refine Run.ops hm ?_
  refine Ops.p rfl ?_
  refine Ops.p rfl ?_
  obtain ⟨y_103, hy_103, h⟩ := bindO h
  refine Ops.st (s := 21512) (Ev.call [] [] 0 (sem_laws_toEntry N x_1.Entry _ hy_103) rfl rfl (.cons (.agg (.cons (.c _) (.cons (.c _) (.cons (.c _) .nil)))) .nil) rfl (.inl rfl) rfl rfl) rfl rfl ?_
  refine Ops.p rfl ?_
  refine Ops.s0 (s := 21544) (.sto rfl rfl rfl rfl rfl rfl) rfl rfl ?_
  refine Ops.nil ?_
  refine Run.seq ?_
  refine Run.ops hm ?_
  refine Ops.p rfl ?_
  refine Ops.s0 (s := 25592) (.sto rfl rfl rfl rfl rfl rfl) rfl rfl ?_
  refine Ops.nil ?_
  refine Run.ret ?_
  obtain rfl := someO h
  exact Ends.mk (.inl rfl) hB rfl rfl rfl rfl
def laws_toAppliedS_l1 (N : Nat) (x_1 : (List Applied)) : Nat → Int → (List Applied) → Option ((List Applied))
 | 0, _, _ => none
 | m + 1, x_170, x_171 =>
 (if (decide (x_170 < (x_1.length : Int))) = true then
 (at? x_1 x_170).bind fun x_187 =>
 (laws_toApplied N x_187).bind fun y_188 =>
 (at? x_171 x_170).bind fun x_189 =>
 laws_toAppliedS_l1 N x_1 m (w64 (x_170 + (1 : Int))) (x_171.set x_170.toNat y_188)
 else
 some x_171)
def laws_toAppliedS_l1_r (N : Nat) (x_1 : (List Applied)) : (List Applied) → Int → (List Applied) → Option ((List Applied))
 | [], x_170, x_171 =>
 some x_171
 | hd :: tl, x_170, x_171 =>
 (some hd).bind fun x_187 =>
 (laws_toApplied N x_187).bind fun y_188 =>
 (at? x_171 x_170).bind fun x_189 =>
 laws_toAppliedS_l1_r N x_1 tl (w64 (x_170 + (1 : Int))) (x_171.set x_170.toNat y_188)
theorem laws_toAppliedS_l1_rng (N : Nat) (x_1 : (List Applied)) (hx : x_1.length ≤ 1099511627776) : ∀ (d k m : Nat) (x_171 : (List Applied)), x_1.length = k + d → d < m → laws_toAppliedS_l1 N x_1 m (k : Int) x_171 = laws_toAppliedS_l1_r N x_1 (x_1.drop k) (k : Int) x_171 := by
  intro d
  induction d with
  | zero =>
    intro k m x_171 hd hm
    obtain ⟨m, rfl⟩ : ∃ q, m = q + 1 := ⟨m - 1, by omega⟩
    rw [laws_toAppliedS_l1, if_neg (by simp; omega), List.drop_eq_nil_of_le (by omega), laws_toAppliedS_l1_r]
  | succ d ih =>
    intro k m x_171 hd hm
    obtain ⟨m, rfl⟩ : ∃ q, m = q + 1 := ⟨m - 1, by omega⟩
    have hk : k < x_1.length := by omega
    rw [laws_toAppliedS_l1, if_pos (by simp; omega), List.drop_eq_getElem_cons hk, laws_toAppliedS_l1_r]
    have h1 := at_lt hk
    have h2 := w64_succ (k := k) (by omega)
    have h3 := ih (k + 1) m
    simp only [h1, h2, h3 _ (by omega) (by omega)]
theorem laws_toAppliedS_l1_eq {N : Nat} (x_1 : (List Applied)) (hx : x_1.length ≤ 1099511627776) (hN : x_1.length < N) (x_171 : (List Applied)) : laws_toAppliedS_l1 N x_1 N 0 x_171 = laws_toAppliedS_l1_r N x_1 x_1 0 x_171 := laws_toAppliedS_l1_rng N x_1 hx x_1.length 0 N x_171 (by omega) hN
def laws_toAppliedS (N : Nat) (x_1 : (List Applied)) : Option ((List Applied)) :=
 (mk? (Applied.mk (0 : Int) (0 : Int) (0 : Int) (Entry.mk (0 : Int) (0 : Int) (⟨#[]⟩ : ByteArray))) (x_1.length : Int)).bind fun x_146 =>
 joinP (fun (v_168 : (List Applied)) =>
 some v_168) fun j_168 =>
 (laws_toAppliedS_l1 N x_1 N (0 : Int) x_146).bind (fun (v_180 : (List Applied)) => j_168 v_180)
theorem sem_laws_toAppliedS (N : Nat) (x_1 : (List Applied)) (r : (List Applied)) (h : laws_toAppliedS N x_1 = some r) : Says Try.prog 17 [RO 73 (x_1.map encApplied)] 0 [] (.sl 0 77 0 r.length) [(0, .vec 77 (r.map encApplied))] := by
  unfold laws_toAppliedS at h
  refine Says.of_run s17 Try.call17 rfl fun B hB => ?_
  have hm : B.m ≤ 1000 := by omega
  refine Run.seq ?_
  refine Run.ops hm ?_
  refine Ops.p rfl ?_
  refine Ops.nil ?_
  refine Run.seq ?_
  refine Run.ops hm ?_
  refine Ops.p rfl ?_
  refine Ops.st (s := 5112) (Ev.lnF rfl) rfl rfl ?_
  obtain ⟨x_146, hx_146, h⟩ := bindO h
  refine Ops.st (s := 5128) (Ev.msW (f := encApplied) (zv := (Applied.mk (0 : Int) (0 : Int) (0 : Int) (Entry.mk (0 : Int) (0 : Int) (⟨#[]⟩ : ByteArray)))) rfl rfl rfl bt77 rfl hx_146) rfl rfl ?_
  refine Ops.p rfl ?_
  refine Ops.nil ?_
  refine Run.seqO h (fun (v_168 : (List Applied)) => [(3, .sl 0 77 0 v_168.length)]) (fun (v_168 : (List Applied)) => [(0, .vec 77 (v_168.map encApplied))]) (fun h => ?_) (fun v_168 h => ?_)
  · skip
    refine Run.seq ?_
    refine Run.ops hm ?_
    refine Ops.p rfl ?_
    refine Ops.nil ?_
    refine Run.block ?_
    obtain ⟨res_180, h, hk_180⟩ := bindO h
    refine Run.loop (n := N) (fun m_180 fr σ => ∃ (x_170 : Int), ∃ (x_171 : (List Applied)), laws_toAppliedS_l1 N x_1 m_180 x_170 x_171 = some res_180 ∧ fr = [(0, RO 73 (x_1.map encApplied)), (3, .sl 0 77 0 x_171.length), (4, VI x_170)] ∧ σ = [(0, .vec 77 (x_171.map encApplied))]) (gh_canonE (ts := [0, 3, 4]) hB rfl rfl rfl) ⟨_, _, h, rfl, rfl⟩ ?_
    rintro m_180 fr σ ⟨x_170, x_171, h, rfl, rfl⟩
    obtain _ | m_180 := m_180
    · rw [laws_toAppliedS_l1] at h; cases h
    rw [laws_toAppliedS_l1] at h
    refine Run.seq ?_
    refine Run.seq ?_
    refine Run.ops hm ?_
    refine Ops.p rfl ?_
    refine Ops.p rfl ?_
    refine Ops.st (s := 13320) (Ev.lnF rfl) rfl rfl ?_
    refine Ops.p rfl ?_
    refine Ops.nil ?_
    refine Run.condO rfl h (fun g_183 h => ?_) (fun g_183 h => ?_)
    · skip
      refine Run.skip ?_
      refine Run.seq ?_
      refine Run.block ?_
      refine Run.ops hm ?_
      refine Ops.p rfl ?_
      refine Ops.p rfl ?_
      refine Ops.p rfl ?_
      refine Ops.p rfl ?_
      obtain ⟨x_187, hx_187, h⟩ := bindO h
      refine Ops.st (s := 21544) (Ev.iaF rfl rfl hx_187) rfl rfl ?_
      refine Ops.p rfl ?_
      obtain ⟨y_188, hy_188, h⟩ := bindO h
      refine Ops.st (s := 21576) (Ev.call [] [] 0 (sem_laws_toApplied N x_187 _ hy_188) rfl rfl (.cons (.agg (.cons (.c _) (.cons (.c _) (.cons (.c _) (.cons (.c _) (.cons (.c _) (.cons (.c _) .nil))))))) .nil) rfl (.inl rfl) rfl rfl) rfl rfl ?_
      obtain ⟨x_189, hx_189, h⟩ := bindO h
      refine Ops.st (s := 21592) (Ev.iaW rfl rfl rfl hx_189) rfl rfl ?_
      refine Ops.s0 (s := 21608) (Ev.stE (f := encApplied) (v' := y_188) rfl rfl (at_some hx_189).2 rfl (.cons (.c _) (.cons (.c _) (.cons (.c _) (.cons (.c _) (.cons (.c _) (.cons (.c _) .nil)))))) rfl rfl rfl rfl rfl) rfl rfl ?_
      refine Ops.nil ?_
      refine Run.ops hm ?_
      refine Ops.p rfl ?_
      refine Ops.p rfl ?_
      refine Ops.p rfl ?_
      refine Ops.nil ?_
      exact ⟨m_180, Nat.lt_succ_self m_180, _, _, gh_canonE (ts := [0, 3, 4]) hB rfl (by first | rfl | (simp only [List.length_set]; done) | (simp only [List.length_set]; rfl)) (by first | rfl | (simp only [List.length_set]; done) | (simp only [List.length_set]; rfl)), _, _, h, rfl, rfl⟩
    · skip
      refine Run.exit ?_
      obtain rfl := someO h
      have h := hk_180
      exact ⟨_, _, gh_canonE (ts := [3]) hB rfl rfl rfl, x_171, h, rfl, rfl⟩
  · skip
    refine Run.seq ?_
    refine Run.ops hm ?_
    refine Ops.p rfl ?_
    refine Ops.p rfl ?_
    refine Ops.nil ?_
    refine Run.ret ?_
    obtain rfl := someO h
    exact Ends.mk (.inl rfl) hB rfl rfl rfl rfl
def spec_SameApplied_l2 (N : Nat) (x_1 : (List Applied)) (x_568 : Int) : Nat → Int → Option ((Bool) ⊕ (Unit))
 | 0, _ => none
 | m + 1, x_688 =>
 (if (decide (x_688 < x_568)) = true then
 joinP (fun (v_715 : Unit) =>
 spec_SameApplied_l2 N x_1 x_568 m (w64 (x_688 + (1 : Int)))) fun j_715 =>
 (at? x_1 x_568).bind fun x_716 =>
 (at? x_1 x_688).bind fun x_717 =>
 (if (x_716.Index == x_717.Index) = true then
 (at? x_1 x_568).bind fun x_719 =>
 (at? x_1 x_688).bind fun x_720 =>
 (if (((x_719.Entry.Term == x_720.Entry.Term) && ((x_719.Entry.Kind == x_720.Entry.Kind) && (decide (x_719.Entry.Data = x_720.Entry.Data) && true))) ^^ true) = true then
 some (Sum.inl false)
 else
 j_715 ())
 else
 j_715 ())
 else
 some (Sum.inr ()))
def spec_SameApplied_l1 (N : Nat) (x_1 : (List Applied)) : Nat → Int → Option ((Bool) ⊕ (Unit))
 | 0, _ => none
 | m + 1, x_568 =>
 (if (decide (x_568 < (x_1.length : Int))) = true then
 joinP (fun (v_685 : Unit) =>
 spec_SameApplied_l1 N x_1 m (w64 (x_568 + (1 : Int)))) fun j_685 =>
 (spec_SameApplied_l2 N x_1 x_568 N (0 : Int)).bind (Sum.elim (fun v_704 => some (Sum.inl v_704)) (fun (v_705 : Unit) => j_685 ()))
 else
 some (Sum.inr ()))
def spec_SameApplied_l1_r (N : Nat) (x_1 : (List Applied)) : (List Applied) → Int → Option ((Bool) ⊕ (Unit))
 | [], x_568 =>
 some (Sum.inr ())
 | hd :: tl, x_568 =>
 joinP (fun (v_685 : Unit) =>
 spec_SameApplied_l1_r N x_1 tl (w64 (x_568 + (1 : Int)))) fun j_685 =>
 (spec_SameApplied_l2 N x_1 x_568 N (0 : Int)).bind (Sum.elim (fun v_704 => some (Sum.inl v_704)) (fun (v_705 : Unit) => j_685 ()))
theorem spec_SameApplied_l1_rng (N : Nat) (x_1 : (List Applied)) (hx : x_1.length ≤ 1099511627776) : ∀ (d k m : Nat), x_1.length = k + d → d < m → spec_SameApplied_l1 N x_1 m (k : Int) = spec_SameApplied_l1_r N x_1 (x_1.drop k) (k : Int) := by
  intro d
  induction d with
  | zero =>
    intro k m hd hm
    obtain ⟨m, rfl⟩ : ∃ q, m = q + 1 := ⟨m - 1, by omega⟩
    rw [spec_SameApplied_l1, if_neg (by simp; omega), List.drop_eq_nil_of_le (by omega), spec_SameApplied_l1_r]
  | succ d ih =>
    intro k m hd hm
    obtain ⟨m, rfl⟩ : ∃ q, m = q + 1 := ⟨m - 1, by omega⟩
    have hk : k < x_1.length := by omega
    rw [spec_SameApplied_l1, if_pos (by simp; omega), List.drop_eq_getElem_cons hk, spec_SameApplied_l1_r]
    have h1 := at_lt hk
    have h2 := w64_succ (k := k) (by omega)
    have h3 := ih (k + 1) m
    simp only [h1, h2, h3 (by omega) (by omega)]
theorem spec_SameApplied_l1_eq {N : Nat} (x_1 : (List Applied)) (hx : x_1.length ≤ 1099511627776) (hN : x_1.length < N) : spec_SameApplied_l1 N x_1 N 0 = spec_SameApplied_l1_r N x_1 x_1 0 := spec_SameApplied_l1_rng N x_1 hx x_1.length 0 N (by omega) hN
def spec_SameApplied (N : Nat) (x_1 : (List Applied)) : Option (Bool) :=
 joinP (fun (v_566 : Unit) =>
 some true) fun j_566 =>
 (spec_SameApplied_l1 N x_1 N (0 : Int)).bind (Sum.elim (fun v_644 => some v_644) (fun (v_645 : Unit) => j_566 ()))
theorem sem_spec_SameApplied (N : Nat) (x_1 : (List Applied)) (r : Bool) (h : spec_SameApplied N x_1 = some r) : Says Try.prog 16 [RO 77 (x_1.map encApplied)] 0 [] (VB r) [] := by
  unfold spec_SameApplied at h
  refine Says.of_run s16 Try.call16 rfl fun B hB => ?_
  have hm : B.m ≤ 1000 := by omega
  refine Run.seq ?_
  refine Run.ops hm ?_
  refine Ops.p rfl ?_
  refine Ops.nil ?_
  refine Run.seqO h (fun (v_566 : Unit) => []) (fun (v_566 : Unit) => []) (fun h => ?_) (fun v_566 h => ?_)
  · skip
    refine Run.seq ?_
    refine Run.ops hm ?_
    refine Ops.p rfl ?_
    refine Ops.nil ?_
    refine Run.block ?_
    obtain ⟨res_645, h, hk_645⟩ := bindO h
    refine Run.loop (n := N) (fun m_645 fr σ => ∃ (x_568 : Int), spec_SameApplied_l1 N x_1 m_645 x_568 = some res_645 ∧ fr = [(0, RO 77 (x_1.map encApplied)), (3, VI x_568)] ∧ σ = []) (gh_canonE (ts := [0, 3]) hB rfl rfl rfl) ⟨_, h, rfl, rfl⟩ ?_
    rintro m_645 fr σ ⟨x_568, h, rfl, rfl⟩
    obtain _ | m_645 := m_645
    · rw [spec_SameApplied_l1] at h; cases h
    rw [spec_SameApplied_l1] at h
    refine Run.seq ?_
    refine Run.seq ?_
    refine Run.ops hm ?_
    refine Ops.p rfl ?_
    refine Ops.p rfl ?_
    refine Ops.st (s := 9224) (Ev.lnF rfl) rfl rfl ?_
    refine Ops.p rfl ?_
    refine Ops.nil ?_
    refine Run.condO rfl h (fun g_648 h => ?_) (fun g_648 h => ?_)
    · skip
      refine Run.skip ?_
      refine Run.seqO h (fun (v_685 : Unit) => [(0, RO 77 (x_1.map encApplied)), (3, VI x_568)]) (fun (v_685 : Unit) => []) (fun h => ?_) (fun v_685 h => ?_)
      · skip
        refine Run.block ?_
        refine Run.seq ?_
        refine Run.ops hm ?_
        refine Ops.p rfl ?_
        refine Ops.nil ?_
        refine Run.block ?_
        obtain ⟨res_705, h, hk_705⟩ := bindO h
        refine Run.loop (n := N) (fun m_705 fr σ => ∃ (x_688 : Int), spec_SameApplied_l2 N x_1 x_568 m_705 x_688 = some res_705 ∧ fr = [(0, RO 77 (x_1.map encApplied)), (3, VI x_568), (4, VI x_688)] ∧ σ = []) (gh_canonE (ts := [0, 3, 4]) hB rfl rfl rfl) ⟨_, h, rfl, rfl⟩ ?_
        rintro m_705 fr σ ⟨x_688, h, rfl, rfl⟩
        obtain _ | m_705 := m_705
        · rw [spec_SameApplied_l2] at h; cases h
        rw [spec_SameApplied_l2] at h
        refine Run.seq ?_
        refine Run.seq ?_
        refine Run.ops hm ?_
        refine Ops.p rfl ?_
        refine Ops.p rfl ?_
        refine Ops.p rfl ?_
        refine Ops.nil ?_
        refine Run.condO rfl h (fun g_708 h => ?_) (fun g_708 h => ?_)
        · skip
          refine Run.skip ?_
          refine Run.seqO h (fun (v_715 : Unit) => [(0, RO 77 (x_1.map encApplied)), (3, VI x_568), (4, VI x_688)]) (fun (v_715 : Unit) => []) (fun h => ?_) (fun v_715 h => ?_)
          · skip
            refine Run.block ?_
            refine Run.seq ?_
            refine Run.draw hm hmix ?_
            refine OpsD.p rfl ?_
            refine OpsD.p rfl ?_
            obtain ⟨x_716, hx_716, h⟩ := bindO h
            refine OpsD.st (s := 29704) (Ev.iaF rfl rfl hx_716) rfl rfl ?_
            refine OpsD.p rfl ?_
            refine OpsD.p rfl ?_
            refine OpsD.p rfl ?_
            refine OpsD.p rfl ?_
            obtain ⟨x_717, hx_717, h⟩ := bindO h
            refine OpsD.st (s := 29784) (Ev.iaF rfl rfl hx_717) rfl rfl ?_
            refine OpsD.p rfl ?_
            refine OpsD.p rfl ?_
            refine OpsD.p rfl ?_
            refine OpsD.p rfl ?_
            refine OpsD.askO (x := .t 27) rfl h (fun g_718 h => ?_) (fun g_718 h => ?_)
            · skip
              refine OpsD.gp rfl g_718 rfl ?_
              refine OpsD.gp rfl g_718 rfl ?_
              obtain ⟨x_719, hx_719, h⟩ := bindO h
              refine OpsD.gs (s := 29896) rfl g_718 (Ev.iaF rfl rfl hx_719) rfl rfl ?_
              refine OpsD.gp rfl g_718 rfl ?_
              refine OpsD.gp rfl g_718 rfl ?_
              refine OpsD.gp rfl g_718 rfl ?_
              refine OpsD.gp rfl g_718 rfl ?_
              obtain ⟨x_720, hx_720, h⟩ := bindO h
              refine OpsD.gs (s := 29976) rfl g_718 (Ev.iaF rfl rfl hx_720) rfl rfl ?_
              refine OpsD.gp rfl g_718 rfl ?_
              refine OpsD.gp rfl g_718 rfl ?_
              refine OpsD.gp rfl g_718 rfl ?_
              refine OpsD.st (s := 30040) (.pkT rfl g_718 rfl) rfl rfl ?_
              refine OpsD.nil ⟨by kernel_rfl, ?_⟩
              refine Run.condO rfl h (fun g_721 h => ?_) (fun g_721 h => ?_)
              · skip
                refine Run.seq ?_
                refine Run.ops hm ?_
                refine Ops.p rfl ?_
                refine Ops.nil ?_
                refine Run.ret ?_
                obtain rfl := someO h
                have h := hk_705
                replace h := inlO h
                obtain rfl := someO h
                have h := hk_645
                replace h := inlO h
                obtain rfl := someO h
                exact Ends.mk (.inl rfl) hB rfl rfl rfl rfl
              · skip
                refine Run.skip ?_
                exact ⟨_, _, gh_canonE (ts := [0, 3, 4]) hB rfl rfl rfl, (), h, rfl, rfl⟩
            · skip
              refine OpsD.gn rfl g_718 ?_
              refine OpsD.gn rfl g_718 ?_
              refine OpsD.gn rfl g_718 ?_
              refine OpsD.gn rfl g_718 ?_
              refine OpsD.gn rfl g_718 ?_
              refine OpsD.gn rfl g_718 ?_
              refine OpsD.gn rfl g_718 ?_
              refine OpsD.gn rfl g_718 ?_
              refine OpsD.gn rfl g_718 ?_
              refine OpsD.gn rfl g_718 ?_
              refine OpsD.gn rfl g_718 ?_
              refine OpsD.st (s := 30040) (.pkF rfl g_718 rfl) rfl rfl ?_
              refine OpsD.nil ⟨by kernel_rfl, ?_⟩
              refine Run.condF rfl rfl ?_
              refine Run.skip ?_
              exact ⟨_, _, gh_canonE (ts := [0, 3, 4]) hB rfl rfl rfl, (), h, rfl, rfl⟩
          · skip
            refine Run.ops hm ?_
            refine Ops.p rfl ?_
            refine Ops.p rfl ?_
            refine Ops.p rfl ?_
            refine Ops.nil ?_
            exact ⟨m_705, Nat.lt_succ_self m_705, _, _, gh_canonE (ts := [0, 3, 4]) hB rfl rfl rfl, _, h, rfl, rfl⟩
        · skip
          refine Run.exit ?_
          obtain rfl := someO h
          have h := hk_705
          replace h := inrO h
          exact ⟨_, _, gh_canonE (ts := [0, 3]) hB rfl rfl rfl, (), h, rfl, rfl⟩
      · skip
        refine Run.ops hm ?_
        refine Ops.p rfl ?_
        refine Ops.p rfl ?_
        refine Ops.p rfl ?_
        refine Ops.nil ?_
        exact ⟨m_645, Nat.lt_succ_self m_645, _, _, gh_canonE (ts := [0, 3]) hB rfl rfl rfl, _, h, rfl, rfl⟩
    · skip
      refine Run.exit ?_
      obtain rfl := someO h
      have h := hk_645
      replace h := inrO h
      exact ⟨_, _, gh_canonE (ts := []) hB rfl rfl rfl, (), h, rfl, rfl⟩
  · skip
    refine Run.seq ?_
    refine Run.ops hm ?_
    refine Ops.p rfl ?_
    refine Ops.nil ?_
    refine Run.ret ?_
    obtain rfl := someO h
    exact Ends.mk (.inl rfl) hB rfl rfl rfl rfl
def impl_SameApplied_1 (N : Nat) (x_1 : Applied) (x_2 : Applied) : Option (Bool) :=
 (if (x_2.Index == x_1.Index) = true then
 some (((x_2.Entry.Term == x_1.Entry.Term) && ((x_2.Entry.Kind == x_1.Entry.Kind) && (decide (x_2.Entry.Data = x_1.Entry.Data) && true))) ^^ true)
 else
 some false)
theorem sem_impl_SameApplied_1 (N : Nat) (x_1 : Applied) (x_2 : Applied) (r : Bool) (h : impl_SameApplied_1 N x_1 x_2 = some r) : Says Try.prog 71 [.agg [VI x_1.Node, VI x_1.Term, VI x_1.Index, VI x_1.Entry.Term, VI x_1.Entry.Kind, VS x_1.Entry.Data], .ptr 0 0] 1 [(0, .box [VI x_2.Node, VI x_2.Term, VI x_2.Index, VI x_2.Entry.Term, VI x_2.Entry.Kind, VS x_2.Entry.Data])] (VB r) [(0, .box [VI x_2.Node, VI x_2.Term, VI x_2.Index, VI x_2.Entry.Term, VI x_2.Entry.Kind, VS x_2.Entry.Data])] := by
  unfold impl_SameApplied_1 at h
  refine Says.of_run s71 Try.call71 rfl fun B hB => ?_
  have hm : B.m ≤ 1000 := by omega
  refine Run.seq ?_
  refine Run.ops hm ?_
  refine Ops.st (s := 1000) (.bx rfl rfl) rfl rfl ?_
  refine Ops.p rfl ?_
  refine Ops.nil ?_
  refine Run.seq ?_
  refine Run.ops hm ?_
  refine Ops.p rfl ?_
  refine Ops.p rfl ?_
  refine Ops.p rfl ?_
  refine Ops.p rfl ?_
  refine Ops.p rfl ?_
  refine Ops.p rfl ?_
  refine Ops.askO (x := .t 9) rfl h (fun g_101 h => ?_) (fun g_101 h => ?_)
  · skip
    refine Ops.gp rfl g_101 rfl ?_
    refine Ops.gp rfl g_101 rfl ?_
    refine Ops.gp rfl g_101 rfl ?_
    refine Ops.gp rfl g_101 rfl ?_
    refine Ops.gp rfl g_101 rfl ?_
    refine Ops.st (s := 5272) (.pkT rfl g_101 rfl) rfl rfl ?_
    refine Ops.p rfl ?_
    refine Ops.nil ?_
    refine Run.ret ?_
    obtain rfl := someO h
    exact Ends.mk (.inl rfl) hB rfl rfl rfl rfl
  · skip
    refine Ops.gn rfl g_101 ?_
    refine Ops.gn rfl g_101 ?_
    refine Ops.gn rfl g_101 ?_
    refine Ops.gn rfl g_101 ?_
    refine Ops.gn rfl g_101 ?_
    refine Ops.st (s := 5272) (.pkF rfl g_101 rfl) rfl rfl ?_
    refine Ops.p rfl ?_
    refine Ops.nil ?_
    refine Run.ret ?_
    obtain rfl := someO h
    exact Ends.mk (.inl rfl) hB rfl rfl rfl rfl
def slices_IndexFunc_Applied_l1 (N : Nat) (x_1 : (List Applied)) (x_2 : Applied) : Nat → Int → Option ((Int) ⊕ (Unit))
 | 0, _ => none
 | m + 1, x_170 =>
 (if (decide (x_170 < (x_1.length : Int))) = true then
 (at? x_1 x_170).bind fun x_187 =>
 (impl_SameApplied_1 N x_187 x_2).bind fun y_188 =>
 (if y_188 = true then
 some (Sum.inl x_170)
 else
 slices_IndexFunc_Applied_l1 N x_1 x_2 m (w64 (x_170 + (1 : Int))))
 else
 some (Sum.inr ()))
def slices_IndexFunc_Applied_l1_r (N : Nat) (x_1 : (List Applied)) (x_2 : Applied) : (List Applied) → Int → Option ((Int) ⊕ (Unit))
 | [], x_170 =>
 some (Sum.inr ())
 | hd :: tl, x_170 =>
 (some hd).bind fun x_187 =>
 (impl_SameApplied_1 N x_187 x_2).bind fun y_188 =>
 (if y_188 = true then
 some (Sum.inl x_170)
 else
 slices_IndexFunc_Applied_l1_r N x_1 x_2 tl (w64 (x_170 + (1 : Int))))
theorem slices_IndexFunc_Applied_l1_rng (N : Nat) (x_1 : (List Applied)) (x_2 : Applied) (hx : x_1.length ≤ 1099511627776) : ∀ (d k m : Nat), x_1.length = k + d → d < m → slices_IndexFunc_Applied_l1 N x_1 x_2 m (k : Int) = slices_IndexFunc_Applied_l1_r N x_1 x_2 (x_1.drop k) (k : Int) := by
  intro d
  induction d with
  | zero =>
    intro k m hd hm
    obtain ⟨m, rfl⟩ : ∃ q, m = q + 1 := ⟨m - 1, by omega⟩
    rw [slices_IndexFunc_Applied_l1, if_neg (by simp; omega), List.drop_eq_nil_of_le (by omega), slices_IndexFunc_Applied_l1_r]
  | succ d ih =>
    intro k m hd hm
    obtain ⟨m, rfl⟩ : ∃ q, m = q + 1 := ⟨m - 1, by omega⟩
    have hk : k < x_1.length := by omega
    rw [slices_IndexFunc_Applied_l1, if_pos (by simp; omega), List.drop_eq_getElem_cons hk, slices_IndexFunc_Applied_l1_r]
    have h1 := at_lt hk
    have h2 := w64_succ (k := k) (by omega)
    have h3 := ih (k + 1) m
    simp only [h1, h2, h3 (by omega) (by omega)]
theorem slices_IndexFunc_Applied_l1_eq {N : Nat} (x_1 : (List Applied)) (x_2 : Applied) (hx : x_1.length ≤ 1099511627776) (hN : x_1.length < N) : slices_IndexFunc_Applied_l1 N x_1 x_2 N 0 = slices_IndexFunc_Applied_l1_r N x_1 x_2 x_1 0 := slices_IndexFunc_Applied_l1_rng N x_1 x_2 hx x_1.length 0 N (by omega) hN
def slices_IndexFunc_Applied (N : Nat) (x_1 : (List Applied)) (x_2 : Applied) : Option (Int) :=
 joinP (fun (v_167 : Unit) =>
 some (-1 : Int)) fun j_167 =>
 (slices_IndexFunc_Applied_l1 N x_1 x_2 N (0 : Int)).bind (Sum.elim (fun v_182 => some v_182) (fun (v_183 : Unit) => j_167 ()))
theorem sem_slices_IndexFunc_Applied (N : Nat) (x_1 : (List Applied)) (x_2 : Applied) (r : Int) (h : slices_IndexFunc_Applied N x_1 x_2 = some r) : Says Try.prog 140 [RO 77 (x_1.map encApplied), .fn 71 [.ptr 0 0]] 1 [(0, .box [VI x_2.Node, VI x_2.Term, VI x_2.Index, VI x_2.Entry.Term, VI x_2.Entry.Kind, VS x_2.Entry.Data])] (VI r) [(0, .box [VI x_2.Node, VI x_2.Term, VI x_2.Index, VI x_2.Entry.Term, VI x_2.Entry.Kind, VS x_2.Entry.Data])] := by
  unfold slices_IndexFunc_Applied at h
  refine Says.of_run s140 Try.call140 rfl fun B hB => ?_
  have hm : B.m ≤ 1000 := by omega
  refine Run.seq ?_
  refine Run.ops hm ?_
  refine Ops.p rfl ?_
  refine Ops.nil ?_
  refine Run.seqO h (fun (v_167 : Unit) => []) (fun (v_167 : Unit) => [(0, .box [VI x_2.Node, VI x_2.Term, VI x_2.Index, VI x_2.Entry.Term, VI x_2.Entry.Kind, VS x_2.Entry.Data])]) (fun h => ?_) (fun v_167 h => ?_)
  · skip
    refine Run.seq ?_
    refine Run.ops hm ?_
    refine Ops.p rfl ?_
    refine Ops.st (s := 5112) (Ev.lnF rfl) rfl rfl ?_
    refine Ops.p rfl ?_
    refine Ops.nil ?_
    refine Run.block ?_
    obtain ⟨res_183, h, hk_183⟩ := bindO h
    refine Run.loop (n := N) (fun m_183 fr σ => ∃ (x_170 : Int), slices_IndexFunc_Applied_l1 N x_1 x_2 m_183 x_170 = some res_183 ∧ fr = [(0, RO 77 (x_1.map encApplied)), (1, .fn 71 [.ptr 0 0]), (7, VI (x_1.length : Int)), (8, VI x_170)] ∧ σ = [(0, .box [VI x_2.Node, VI x_2.Term, VI x_2.Index, VI x_2.Entry.Term, VI x_2.Entry.Kind, VS x_2.Entry.Data])]) (gh_canonE (ts := [0, 1, 7, 8]) hB rfl rfl rfl) ⟨_, h, rfl, rfl⟩ ?_
    rintro m_183 fr σ ⟨x_170, h, rfl, rfl⟩
    obtain _ | m_183 := m_183
    · rw [slices_IndexFunc_Applied_l1] at h; cases h
    rw [slices_IndexFunc_Applied_l1] at h
    refine Run.seq ?_
    refine Run.ops hm ?_
    refine Ops.p rfl ?_
    refine Ops.nil ?_
    refine Run.seq ?_
    refine Run.condO rfl h (fun g_186 h => ?_) (fun g_186 h => ?_)
    · skip
      refine Run.skip ?_
      refine Run.seq ?_
      refine Run.block ?_
      refine Run.seq ?_
      refine Run.ops hm ?_
      refine Ops.p rfl ?_
      refine Ops.p rfl ?_
      refine Ops.nil ?_
      refine Run.seq ?_
      refine Run.ops hm ?_
      refine Ops.p rfl ?_
      refine Ops.p rfl ?_
      refine Ops.p rfl ?_
      obtain ⟨x_187, hx_187, h⟩ := bindO h
      refine Ops.st (s := 17432) (Ev.iaF rfl rfl hx_187) rfl rfl ?_
      refine Ops.p rfl ?_
      obtain ⟨y_188, hy_188, h⟩ := bindO h
      refine Ops.st (s := 17464) (Ev.callx [0] [] 0 rfl (sem_impl_SameApplied_1 N x_187 x_2 _ hy_188) rfl rfl (.cons (.agg (.cons (.c _) (.cons (.c _) (.cons (.c _) (.cons (.c _) (.cons (.c _) (.cons (.c _) .nil))))))) (.cons (.ptr rfl) .nil)) rfl (.inl rfl) rfl rfl) rfl rfl ?_
      refine Ops.nil ?_
      refine Run.condO rfl h (fun g_189 h => ?_) (fun g_189 h => ?_)
      · skip
        refine Run.seq ?_
        refine Run.ops hm ?_
        refine Ops.p rfl ?_
        refine Ops.p rfl ?_
        refine Ops.nil ?_
        refine Run.ret ?_
        obtain rfl := someO h
        have h := hk_183
        replace h := inlO h
        obtain rfl := someO h
        exact Ends.mk (.inl rfl) hB rfl rfl rfl rfl
      · skip
        refine Run.skip ?_
        refine Run.ops hm ?_
        refine Ops.p rfl ?_
        refine Ops.p rfl ?_
        refine Ops.nil ?_
        exact ⟨m_183, Nat.lt_succ_self m_183, _, _, gh_canonE (ts := [0, 1, 7, 8]) hB rfl rfl rfl, _, h, rfl, rfl⟩
    · skip
      refine Run.exit ?_
      obtain rfl := someO h
      have h := hk_183
      replace h := inrO h
      exact ⟨_, _, gh_canonE (ts := []) hB rfl rfl rfl, (), h, rfl, rfl⟩
  · skip
    refine Run.seq ?_
    refine Run.ops hm ?_
    refine Ops.p rfl ?_
    refine Ops.nil ?_
    refine Run.ret ?_
    obtain rfl := someO h
    exact Ends.mk (.inl rfl) hB rfl rfl rfl rfl
def slices_ContainsFunc_Applied (N : Nat) (x_1 : (List Applied)) (x_2 : Applied) : Option (Bool) :=
 (slices_IndexFunc_Applied N x_1 x_2).bind fun y_101 =>
 some (decide (y_101 ≥ (0 : Int)))
theorem sem_slices_ContainsFunc_Applied (N : Nat) (x_1 : (List Applied)) (x_2 : Applied) (r : Bool) (h : slices_ContainsFunc_Applied N x_1 x_2 = some r) : Says Try.prog 70 [RO 77 (x_1.map encApplied), .fn 71 [.ptr 0 0]] 1 [(0, .box [VI x_2.Node, VI x_2.Term, VI x_2.Index, VI x_2.Entry.Term, VI x_2.Entry.Kind, VS x_2.Entry.Data])] (VB r) [(0, .box [VI x_2.Node, VI x_2.Term, VI x_2.Index, VI x_2.Entry.Term, VI x_2.Entry.Kind, VS x_2.Entry.Data])] := by
  unfold slices_ContainsFunc_Applied at h
  refine Says.of_run s70 Try.call70 rfl fun B hB => ?_
  have hm : B.m ≤ 1000 := by omega
  refine Run.seq ?_
  refine Run.ops hm ?_
  refine Ops.p rfl ?_
  refine Ops.nil ?_
  refine Run.seq ?_
  refine Run.ops hm ?_
  refine Ops.p rfl ?_
  refine Ops.p rfl ?_
  obtain ⟨y_101, hy_101, h⟩ := bindO h
  refine Ops.st (s := 5128) (Ev.call [0] [] 0 (sem_slices_IndexFunc_Applied N x_1 x_2 _ hy_101) rfl rfl (.cons (.c _) (.cons (.fn (.cons (.ptr rfl) .nil)) .nil)) rfl (.inl rfl) rfl rfl) rfl rfl ?_
  refine Ops.p rfl ?_
  refine Ops.p rfl ?_
  refine Ops.nil ?_
  refine Run.ret ?_
  obtain rfl := someO h
  exact Ends.mk (.inl rfl) hB rfl rfl rfl rfl
def impl_SameApplied_l1 (N : Nat) (x_1 : (List Applied)) : Nat → Int → Option ((Bool) ⊕ (Unit))
 | 0, _ => none
 | m + 1, x_168 =>
 (if (decide (x_168 < (x_1.length : Int))) = true then
 (at? x_1 x_168).bind fun x_182 =>
 (take? x_1 x_168).bind fun x_183 =>
 (slices_ContainsFunc_Applied N x_183 x_182).bind fun y_184 =>
 (if y_184 = true then
 some (Sum.inl false)
 else
 impl_SameApplied_l1 N x_1 m (w64 (x_168 + (1 : Int))))
 else
 some (Sum.inr ()))
def impl_SameApplied_l1_r (N : Nat) (x_1 : (List Applied)) : (List Applied) → Int → Option ((Bool) ⊕ (Unit))
 | [], x_168 =>
 some (Sum.inr ())
 | hd :: tl, x_168 =>
 (some hd).bind fun x_182 =>
 (take? x_1 x_168).bind fun x_183 =>
 (slices_ContainsFunc_Applied N x_183 x_182).bind fun y_184 =>
 (if y_184 = true then
 some (Sum.inl false)
 else
 impl_SameApplied_l1_r N x_1 tl (w64 (x_168 + (1 : Int))))
theorem impl_SameApplied_l1_rng (N : Nat) (x_1 : (List Applied)) (hx : x_1.length ≤ 1099511627776) : ∀ (d k m : Nat), x_1.length = k + d → d < m → impl_SameApplied_l1 N x_1 m (k : Int) = impl_SameApplied_l1_r N x_1 (x_1.drop k) (k : Int) := by
  intro d
  induction d with
  | zero =>
    intro k m hd hm
    obtain ⟨m, rfl⟩ : ∃ q, m = q + 1 := ⟨m - 1, by omega⟩
    rw [impl_SameApplied_l1, if_neg (by simp; omega), List.drop_eq_nil_of_le (by omega), impl_SameApplied_l1_r]
  | succ d ih =>
    intro k m hd hm
    obtain ⟨m, rfl⟩ : ∃ q, m = q + 1 := ⟨m - 1, by omega⟩
    have hk : k < x_1.length := by omega
    rw [impl_SameApplied_l1, if_pos (by simp; omega), List.drop_eq_getElem_cons hk, impl_SameApplied_l1_r]
    have h1 := at_lt hk
    have h2 := w64_succ (k := k) (by omega)
    have h3 := ih (k + 1) m
    simp only [h1, h2, h3 (by omega) (by omega)]
theorem impl_SameApplied_l1_eq {N : Nat} (x_1 : (List Applied)) (hx : x_1.length ≤ 1099511627776) (hN : x_1.length < N) : impl_SameApplied_l1 N x_1 N 0 = impl_SameApplied_l1_r N x_1 x_1 0 := impl_SameApplied_l1_rng N x_1 hx x_1.length 0 N (by omega) hN
def impl_SameApplied (N : Nat) (x_1 : (List Applied)) : Option (Bool) :=
 joinP (fun (v_164 : Unit) =>
 some true) fun j_164 =>
 (impl_SameApplied_l1 N x_1 N (0 : Int)).bind (Sum.elim (fun v_176 => some v_176) (fun (v_177 : Unit) => j_164 ()))
theorem sem_impl_SameApplied (N : Nat) (x_1 : (List Applied)) (r : Bool) (h : impl_SameApplied N x_1 = some r) : Says Try.prog 18 [RO 77 (x_1.map encApplied)] 0 [] (VB r) [] := by
  unfold impl_SameApplied at h
  refine Says.of_run s18 Try.call18 rfl fun B hB => ?_
  have hm : B.m ≤ 1000 := by omega
  refine Run.seq ?_
  refine Run.ops hm ?_
  refine Ops.p rfl ?_
  refine Ops.nil ?_
  refine Run.seqO h (fun (v_164 : Unit) => []) (fun (v_164 : Unit) => []) (fun h => ?_) (fun v_164 h => ?_)
  · skip
    refine Run.seq ?_
    refine Run.ops hm ?_
    refine Ops.p rfl ?_
    refine Ops.st (s := 5112) (Ev.lnF rfl) rfl rfl ?_
    refine Ops.p rfl ?_
    refine Ops.nil ?_
    refine Run.block ?_
    obtain ⟨res_177, h, hk_177⟩ := bindO h
    refine Run.loop (n := N) (fun m_177 fr σ => ∃ (x_168 : Int), impl_SameApplied_l1 N x_1 m_177 x_168 = some res_177 ∧ fr = [(0, RO 77 (x_1.map encApplied)), (5, RO 77 (x_1.map encApplied)), (6, VI (x_1.length : Int)), (7, VI x_168)] ∧ σ = []) (gh_canonE (ts := [0, 5, 6, 7]) hB rfl rfl rfl) ⟨_, h, rfl, rfl⟩ ?_
    rintro m_177 fr σ ⟨x_168, h, rfl, rfl⟩
    obtain _ | m_177 := m_177
    · rw [impl_SameApplied_l1] at h; cases h
    rw [impl_SameApplied_l1] at h
    refine Run.seq ?_
    refine Run.ops hm ?_
    refine Ops.p rfl ?_
    refine Ops.nil ?_
    refine Run.seq ?_
    refine Run.condO rfl h (fun g_180 h => ?_) (fun g_180 h => ?_)
    · skip
      refine Run.skip ?_
      refine Run.seq ?_
      refine Run.block ?_
      refine Run.seq ?_
      refine Run.ops hm ?_
      refine Ops.p rfl ?_
      obtain ⟨x_182, hx_182, h⟩ := bindO h
      refine Ops.st (s := 13304) (Ev.iaF rfl rfl hx_182) rfl rfl ?_
      refine Ops.p rfl ?_
      refine Ops.st (s := 13336) (.al rfl rfl) rfl rfl ?_
      refine Ops.p rfl ?_
      refine Ops.s0 (s := 13368) (.sto rfl rfl rfl rfl rfl rfl) rfl rfl ?_
      refine Ops.nil ?_
      refine Run.seq ?_
      refine Run.ops hm ?_
      refine Ops.p rfl ?_
      refine Ops.p rfl ?_
      obtain ⟨x_183, hx_183, h⟩ := bindO h
      refine Ops.st (s := 17416) (Ev.slFh rfl rfl hx_183) rfl rfl ?_
      refine Ops.p rfl ?_
      obtain ⟨y_184, hy_184, h⟩ := bindO h
      refine Ops.st (s := 17448) (Ev.call [13336] [] 0 (sem_slices_ContainsFunc_Applied N x_183 x_182 _ hy_184) rfl rfl (.cons (.c _) (.cons (.fn (.cons (.ptr rfl) .nil)) .nil)) rfl (.inl rfl) rfl rfl) rfl rfl ?_
      refine Ops.nil ?_
      refine Run.condO rfl h (fun g_185 h => ?_) (fun g_185 h => ?_)
      · skip
        refine Run.seq ?_
        refine Run.ops hm ?_
        refine Ops.p rfl ?_
        refine Ops.nil ?_
        refine Run.ret ?_
        obtain rfl := someO h
        have h := hk_177
        replace h := inlO h
        obtain rfl := someO h
        exact Ends.mk (.inl rfl) hB rfl rfl rfl rfl
      · skip
        refine Run.skip ?_
        refine Run.ops hm ?_
        refine Ops.p rfl ?_
        refine Ops.p rfl ?_
        refine Ops.nil ?_
        exact ⟨m_177, Nat.lt_succ_self m_177, _, _, gh_canonE (ts := [0, 5, 6, 7]) hB rfl rfl rfl, _, h, rfl, rfl⟩
    · skip
      refine Run.exit ?_
      obtain rfl := someO h
      have h := hk_177
      replace h := inrO h
      exact ⟨_, _, gh_canonE (ts := []) hB rfl rfl rfl, (), h, rfl, rfl⟩
  · skip
    refine Run.seq ?_
    refine Run.ops hm ?_
    refine Ops.p rfl ?_
    refine Ops.nil ?_
    refine Run.ret ?_
    obtain rfl := someO h
    exact Ends.mk (.inl rfl) hB rfl rfl rfl rfl
def laws_eqEntry (N : Nat) (x_1 : Entry) (x_2 : Entry) : Option (Bool) :=
 (if (x_1.Term != x_2.Term) = true then
 some false
 else
 (if (x_1.Kind != x_2.Kind) = true then
 some false
 else
 (if (!decide (x_1.Data = x_2.Data)) = true then
 some false
 else
 some true)))
theorem sem_laws_eqEntry (N : Nat) (x_1 : Entry) (x_2 : Entry) (r : Bool) (h : laws_eqEntry N x_1 x_2 = some r) : Says Try.prog 34 [.agg [VI x_1.Term, VI x_1.Kind, VS x_1.Data], .agg [VI x_2.Term, VI x_2.Kind, VS x_2.Data]] 0 [] (VB r) [] := by
  unfold laws_eqEntry at h
  refine Says.of_run s34 Try.call34 rfl fun B hB => ?_
  have hm : B.m ≤ 1000 := by omega
  refine Run.seq ?_
  refine Run.ops hm ?_
  refine Ops.st (s := 1000) (.bx rfl rfl) rfl rfl ?_
  refine Ops.st (s := 1016) (.bx rfl rfl) rfl rfl ?_
  refine Ops.p rfl ?_
  refine Ops.nil ?_
  refine Run.seq ?_
  refine Run.seq ?_
  refine Run.ops hm ?_
  refine Ops.p rfl ?_
  refine Ops.p rfl ?_
  refine Ops.p rfl ?_
  refine Ops.p rfl ?_
  refine Ops.p rfl ?_
  refine Ops.nil ?_
  refine Run.condO rfl h (fun g_106 h => ?_) (fun g_106 h => ?_)
  · skip
    refine Run.seq ?_
    refine Run.ops hm ?_
    refine Ops.p rfl ?_
    refine Ops.nil ?_
    refine Run.ret ?_
    obtain rfl := someO h
    exact Ends.mk (.inl rfl) hB rfl rfl rfl rfl
  · skip
    refine Run.skip ?_
    refine Run.seq ?_
    refine Run.seq ?_
    refine Run.ops hm ?_
    refine Ops.p rfl ?_
    refine Ops.p rfl ?_
    refine Ops.p rfl ?_
    refine Ops.p rfl ?_
    refine Ops.p rfl ?_
    refine Ops.nil ?_
    refine Run.condO rfl h (fun g_108 h => ?_) (fun g_108 h => ?_)
    · skip
      refine Run.seq ?_
      refine Run.ops hm ?_
      refine Ops.p rfl ?_
      refine Ops.nil ?_
      refine Run.ret ?_
      obtain rfl := someO h
      exact Ends.mk (.inl rfl) hB rfl rfl rfl rfl
    · skip
      refine Run.skip ?_
      refine Run.seq ?_
      refine Run.seq ?_
      refine Run.ops hm ?_
      refine Ops.p rfl ?_
      refine Ops.p rfl ?_
      refine Ops.p rfl ?_
      refine Ops.p rfl ?_
      refine Ops.p rfl ?_
      refine Ops.nil ?_
      refine Run.condO rfl h (fun g_109 h => ?_) (fun g_109 h => ?_)
      · skip
        refine Run.seq ?_
        refine Run.ops hm ?_
        refine Ops.p rfl ?_
        refine Ops.nil ?_
        refine Run.ret ?_
        obtain rfl := someO h
        exact Ends.mk (.inl rfl) hB rfl rfl rfl rfl
      · skip
        refine Run.skip ?_
        refine Run.seq ?_
        refine Run.ops hm ?_
        refine Ops.p rfl ?_
        refine Ops.nil ?_
        refine Run.ret ?_
        obtain rfl := someO h
        exact Ends.mk (.inl rfl) hB rfl rfl rfl rfl
def laws_eqApplied (N : Nat) (x_1 : Applied) (x_2 : Applied) : Option (Bool) :=
 (if (x_1.Node != x_2.Node) = true then
 some false
 else
 (if (x_1.Term != x_2.Term) = true then
 some false
 else
 (if (x_1.Index != x_2.Index) = true then
 some false
 else
 (laws_eqEntry N x_1.Entry x_2.Entry).bind fun y_114 =>
 (if (!y_114) = true then
 some false
 else
 some true))))
theorem sem_laws_eqApplied (N : Nat) (x_1 : Applied) (x_2 : Applied) (r : Bool) (h : laws_eqApplied N x_1 x_2 = some r) : Says Try.prog 72 [.agg [VI x_1.Node, VI x_1.Term, VI x_1.Index, VI x_1.Entry.Term, VI x_1.Entry.Kind, VS x_1.Entry.Data], .agg [VI x_2.Node, VI x_2.Term, VI x_2.Index, VI x_2.Entry.Term, VI x_2.Entry.Kind, VS x_2.Entry.Data]] 0 [] (VB r) [] := by
  unfold laws_eqApplied at h
  refine Says.of_run s72 Try.call72 rfl fun B hB => ?_
  have hm : B.m ≤ 1000 := by omega
  refine Run.seq ?_
  refine Run.ops hm ?_
  refine Ops.st (s := 1000) (.bx rfl rfl) rfl rfl ?_
  refine Ops.st (s := 1016) (.bx rfl rfl) rfl rfl ?_
  refine Ops.p rfl ?_
  refine Ops.nil ?_
  refine Run.seq ?_
  refine Run.seq ?_
  refine Run.ops hm ?_
  refine Ops.p rfl ?_
  refine Ops.p rfl ?_
  refine Ops.p rfl ?_
  refine Ops.p rfl ?_
  refine Ops.p rfl ?_
  refine Ops.nil ?_
  refine Run.condO rfl h (fun g_109 h => ?_) (fun g_109 h => ?_)
  · skip
    refine Run.seq ?_
    refine Run.ops hm ?_
    refine Ops.p rfl ?_
    refine Ops.nil ?_
    refine Run.ret ?_
    obtain rfl := someO h
    exact Ends.mk (.inl rfl) hB rfl rfl rfl rfl
  · skip
    refine Run.skip ?_
    refine Run.seq ?_
    refine Run.seq ?_
    refine Run.ops hm ?_
    refine Ops.p rfl ?_
    refine Ops.p rfl ?_
    refine Ops.p rfl ?_
    refine Ops.p rfl ?_
    refine Ops.p rfl ?_
    refine Ops.nil ?_
    refine Run.condO rfl h (fun g_111 h => ?_) (fun g_111 h => ?_)
    · skip
      refine Run.seq ?_
      refine Run.ops hm ?_
      refine Ops.p rfl ?_
      refine Ops.nil ?_
      refine Run.ret ?_
      obtain rfl := someO h
      exact Ends.mk (.inl rfl) hB rfl rfl rfl rfl
    · skip
      refine Run.skip ?_
      refine Run.seq ?_
      refine Run.seq ?_
      refine Run.ops hm ?_
      refine Ops.p rfl ?_
      refine Ops.p rfl ?_
      refine Ops.p rfl ?_
      refine Ops.p rfl ?_
      refine Ops.p rfl ?_
      refine Ops.nil ?_
      refine Run.condO rfl h (fun g_113 h => ?_) (fun g_113 h => ?_)
      · skip
        refine Run.seq ?_
        refine Run.ops hm ?_
        refine Ops.p rfl ?_
        refine Ops.nil ?_
        refine Run.ret ?_
        obtain rfl := someO h
        exact Ends.mk (.inl rfl) hB rfl rfl rfl rfl
      · skip
        refine Run.skip ?_
        refine Run.seq ?_
        refine Run.seq ?_
        refine Run.ops hm ?_
        refine Ops.p rfl ?_
        refine Ops.p rfl ?_
        refine Ops.p rfl ?_
        refine Ops.p rfl ?_
        obtain ⟨y_114, hy_114, h⟩ := bindO h
        refine Ops.st (s := 29736) (Ev.call [] [] 0 (sem_laws_eqEntry N x_1.Entry x_2.Entry _ hy_114) rfl rfl (.cons (.agg (.cons (.c _) (.cons (.c _) (.cons (.c _) .nil)))) (.cons (.agg (.cons (.c _) (.cons (.c _) (.cons (.c _) .nil)))) .nil)) rfl (.inl rfl) rfl rfl) rfl rfl ?_
        refine Ops.p rfl ?_
        refine Ops.nil ?_
        refine Run.condO rfl h (fun g_115 h => ?_) (fun g_115 h => ?_)
        · skip
          refine Run.seq ?_
          refine Run.ops hm ?_
          refine Ops.p rfl ?_
          refine Ops.nil ?_
          refine Run.ret ?_
          obtain rfl := someO h
          exact Ends.mk (.inl rfl) hB rfl rfl rfl rfl
        · skip
          refine Run.skip ?_
          refine Run.seq ?_
          refine Run.ops hm ?_
          refine Ops.p rfl ?_
          refine Ops.nil ?_
          refine Run.ret ?_
          obtain rfl := someO h
          exact Ends.mk (.inl rfl) hB rfl rfl rfl rfl
def laws_eqAppliedS_l1 (N : Nat) (x_1 : (List Applied)) (x_2 : (List Applied)) : Nat → Int → Option ((Bool) ⊕ (Unit))
 | 0, _ => none
 | m + 1, x_186 =>
 (if (decide (x_186 < (x_1.length : Int))) = true then
 (at? x_1 x_186).bind fun x_206 =>
 (at? x_2 x_186).bind fun x_207 =>
 (laws_eqApplied N x_206 x_207).bind fun y_208 =>
 (if (!y_208) = true then
 some (Sum.inl false)
 else
 laws_eqAppliedS_l1 N x_1 x_2 m (w64 (x_186 + (1 : Int))))
 else
 some (Sum.inr ()))
def laws_eqAppliedS_l1_r (N : Nat) (x_1 : (List Applied)) (x_2 : (List Applied)) : (List Applied) → Int → Option ((Bool) ⊕ (Unit))
 | [], x_186 =>
 some (Sum.inr ())
 | hd :: tl, x_186 =>
 (some hd).bind fun x_206 =>
 (at? x_2 x_186).bind fun x_207 =>
 (laws_eqApplied N x_206 x_207).bind fun y_208 =>
 (if (!y_208) = true then
 some (Sum.inl false)
 else
 laws_eqAppliedS_l1_r N x_1 x_2 tl (w64 (x_186 + (1 : Int))))
theorem laws_eqAppliedS_l1_rng (N : Nat) (x_1 : (List Applied)) (x_2 : (List Applied)) (hx : x_1.length ≤ 1099511627776) : ∀ (d k m : Nat), x_1.length = k + d → d < m → laws_eqAppliedS_l1 N x_1 x_2 m (k : Int) = laws_eqAppliedS_l1_r N x_1 x_2 (x_1.drop k) (k : Int) := by
  intro d
  induction d with
  | zero =>
    intro k m hd hm
    obtain ⟨m, rfl⟩ : ∃ q, m = q + 1 := ⟨m - 1, by omega⟩
    rw [laws_eqAppliedS_l1, if_neg (by simp; omega), List.drop_eq_nil_of_le (by omega), laws_eqAppliedS_l1_r]
  | succ d ih =>
    intro k m hd hm
    obtain ⟨m, rfl⟩ : ∃ q, m = q + 1 := ⟨m - 1, by omega⟩
    have hk : k < x_1.length := by omega
    rw [laws_eqAppliedS_l1, if_pos (by simp; omega), List.drop_eq_getElem_cons hk, laws_eqAppliedS_l1_r]
    have h1 := at_lt hk
    have h2 := w64_succ (k := k) (by omega)
    have h3 := ih (k + 1) m
    simp only [h1, h2, h3 (by omega) (by omega)]
theorem laws_eqAppliedS_l1_eq {N : Nat} (x_1 : (List Applied)) (x_2 : (List Applied)) (hx : x_1.length ≤ 1099511627776) (hN : x_1.length < N) : laws_eqAppliedS_l1 N x_1 x_2 N 0 = laws_eqAppliedS_l1_r N x_1 x_2 x_1 0 := laws_eqAppliedS_l1_rng N x_1 x_2 hx x_1.length 0 N (by omega) hN
def laws_eqAppliedS (N : Nat) (x_1 : (List Applied)) (x_2 : (List Applied)) : Option (Bool) :=
 (if ((x_1.length : Int) != (x_2.length : Int)) = true then
 some false
 else
 joinP (fun (v_183 : Unit) =>
 some true) fun j_183 =>
 (laws_eqAppliedS_l1 N x_1 x_2 N (0 : Int)).bind (Sum.elim (fun v_197 => some v_197) (fun (v_198 : Unit) => j_183 ())))
theorem sem_laws_eqAppliedS (N : Nat) (x_1 : (List Applied)) (x_2 : (List Applied)) (r : Bool) (h : laws_eqAppliedS N x_1 x_2 = some r) : Says Try.prog 19 [RO 77 (x_1.map encApplied), RO 77 (x_2.map encApplied)] 0 [] (VB r) [] := by
  unfold laws_eqAppliedS at h
  refine Says.of_run s19 Try.call19 rfl fun B hB => ?_
  have hm : B.m ≤ 1000 := by omega
  refine Run.seq ?_
  refine Run.ops hm ?_
  refine Ops.p rfl ?_
  refine Ops.nil ?_
  refine Run.seq ?_
  refine Run.seq ?_
  refine Run.ops hm ?_
  refine Ops.p rfl ?_
  refine Ops.st (s := 5112) (Ev.lnF rfl) rfl rfl ?_
  refine Ops.p rfl ?_
  refine Ops.st (s := 5144) (Ev.lnF rfl) rfl rfl ?_
  refine Ops.p rfl ?_
  refine Ops.nil ?_
  refine Run.condO rfl h (fun g_156 h => ?_) (fun g_156 h => ?_)
  · skip
    refine Run.seq ?_
    refine Run.ops hm ?_
    refine Ops.p rfl ?_
    refine Ops.nil ?_
    refine Run.ret ?_
    obtain rfl := someO h
    exact Ends.mk (.inl rfl) hB rfl rfl rfl rfl
  · skip
    refine Run.skip ?_
    refine Run.seqO h (fun (v_183 : Unit) => []) (fun (v_183 : Unit) => []) (fun h => ?_) (fun v_183 h => ?_)
    · skip
      refine Run.seq ?_
      refine Run.ops hm ?_
      refine Ops.p rfl ?_
      refine Ops.nil ?_
      refine Run.block ?_
      obtain ⟨res_198, h, hk_198⟩ := bindO h
      refine Run.loop (n := N) (fun m_198 fr σ => ∃ (x_186 : Int), laws_eqAppliedS_l1 N x_1 x_2 m_198 x_186 = some res_198 ∧ fr = [(0, RO 77 (x_1.map encApplied)), (1, RO 77 (x_2.map encApplied)), (5, VI x_186)] ∧ σ = []) (gh_canonE (ts := [0, 1, 5]) hB rfl rfl rfl) ⟨_, h, rfl, rfl⟩ ?_
      rintro m_198 fr σ ⟨x_186, h, rfl, rfl⟩
      obtain _ | m_198 := m_198
      · rw [laws_eqAppliedS_l1] at h; cases h
      rw [laws_eqAppliedS_l1] at h
      refine Run.seq ?_
      refine Run.seq ?_
      refine Run.ops hm ?_
      refine Ops.p rfl ?_
      refine Ops.p rfl ?_
      refine Ops.st (s := 17416) (Ev.lnF rfl) rfl rfl ?_
      refine Ops.p rfl ?_
      refine Ops.nil ?_
      refine Run.condO rfl h (fun g_201 h => ?_) (fun g_201 h => ?_)
      · skip
        refine Run.skip ?_
        refine Run.seq ?_
        refine Run.block ?_
        refine Run.seq ?_
        refine Run.draw hm hmix ?_
        refine OpsD.p rfl ?_
        refine OpsD.p rfl ?_
        obtain ⟨x_206, hx_206, h⟩ := bindO h
        refine OpsD.st (s := 25608) (Ev.iaF rfl rfl hx_206) rfl rfl ?_
        refine OpsD.p rfl ?_
        refine OpsD.p rfl ?_
        refine OpsD.p rfl ?_
        obtain ⟨x_207, hx_207, h⟩ := bindO h
        refine OpsD.st (s := 25672) (Ev.iaF rfl rfl hx_207) rfl rfl ?_
        refine OpsD.p rfl ?_
        obtain ⟨y_208, hy_208, h⟩ := bindO h
        refine OpsD.st (s := 25704) (Ev.call [] [] 0 (sem_laws_eqApplied N x_206 x_207 _ hy_208) rfl rfl (.cons (.agg (.cons (.c _) (.cons (.c _) (.cons (.c _) (.cons (.c _) (.cons (.c _) (.cons (.c _) .nil))))))) (.cons (.agg (.cons (.c _) (.cons (.c _) (.cons (.c _) (.cons (.c _) (.cons (.c _) (.cons (.c _) .nil))))))) .nil)) rfl (.inl rfl) rfl rfl) rfl rfl ?_
        refine OpsD.p rfl ?_
        refine OpsD.nil ⟨by kernel_rfl, ?_⟩
        refine Run.condO rfl h (fun g_209 h => ?_) (fun g_209 h => ?_)
        · skip
          refine Run.seq ?_
          refine Run.ops hm ?_
          refine Ops.p rfl ?_
          refine Ops.nil ?_
          refine Run.ret ?_
          obtain rfl := someO h
          have h := hk_198
          replace h := inlO h
          obtain rfl := someO h
          exact Ends.mk (.inl rfl) hB rfl rfl rfl rfl
        · skip
          refine Run.skip ?_
          refine Run.ops hm ?_
          refine Ops.p rfl ?_
          refine Ops.p rfl ?_
          refine Ops.p rfl ?_
          refine Ops.nil ?_
          exact ⟨m_198, Nat.lt_succ_self m_198, _, _, gh_canonE (ts := [0, 1, 5]) hB rfl rfl rfl, _, h, rfl, rfl⟩
      · skip
        refine Run.exit ?_
        obtain rfl := someO h
        have h := hk_198
        replace h := inrO h
        exact ⟨_, _, gh_canonE (ts := []) hB rfl rfl rfl, (), h, rfl, rfl⟩
    · skip
      refine Run.seq ?_
      refine Run.ops hm ?_
      refine Ops.p rfl ?_
      refine Ops.nil ?_
      refine Run.ret ?_
      obtain rfl := someO h
      exact Ends.mk (.inl rfl) hB rfl rfl rfl rfl
def laws_FnExactSameApplied (N : Nat) (x_1 : (List Applied)) : Option (Bool) :=
 (laws_szAppliedS N x_1 (1048576 : Int)).bind fun y_118 =>
 (if (decide (y_118 < (0 : Int))) = true then
 some true
 else
 (laws_toAppliedS N x_1).bind fun y_123 =>
 (spec_SameApplied N y_123).bind fun y_124 =>
 (laws_toAppliedS N x_1).bind fun y_126 =>
 (impl_SameApplied N y_126).bind fun y_128 =>
 (if ((y_128 == y_124) ^^ true) = true then
 some false
 else
 (laws_toAppliedS N x_1).bind fun y_131 =>
 (laws_eqAppliedS N y_126 y_131).bind fun y_132 =>
 (if (!y_132) = true then
 some false
 else
 some true)))
theorem sem_laws_FnExactSameApplied (N : Nat) (x_1 : (List Applied)) (r : Bool) (h : laws_FnExactSameApplied N x_1 = some r) : Says Try.prog 3 [RO 73 (x_1.map encApplied)] 0 [] (VB r) [] := by
  unfold laws_FnExactSameApplied at h
  refine Says.of_run s3 Try.call3 rfl fun B hB => ?_
  have hm : B.m ≤ 1000 := by omega
  refine Run.seq ?_
  refine Run.ops hm ?_
  refine Ops.p rfl ?_
  refine Ops.nil ?_
  refine Run.seq ?_
  refine Run.ops hm ?_
  refine Ops.p rfl ?_
  refine Ops.nil ?_
  refine Run.seq ?_
  refine Run.ops hm ?_
  refine Ops.p rfl ?_
  refine Ops.p rfl ?_
  obtain ⟨y_118, hy_118, h⟩ := bindO h
  refine Ops.st (s := 9224) (Ev.call [] [] 0 (sem_laws_szAppliedS N x_1 (1048576 : Int) _ hy_118) rfl rfl (.cons (.c _) (.cons (.c _) .nil)) rfl (.inl rfl) rfl rfl) rfl rfl ?_
  refine Ops.p rfl ?_
  refine Ops.nil ?_
  refine Run.seq ?_
  refine Run.seq ?_
  refine Run.ops hm ?_
  refine Ops.p rfl ?_
  refine Ops.p rfl ?_
  refine Ops.nil ?_
  refine Run.condO rfl h (fun g_120 h => ?_) (fun g_120 h => ?_)
  · skip
    refine Run.seq ?_
    refine Run.ops hm ?_
    refine Ops.p rfl ?_
    refine Ops.nil ?_
    refine Run.ret ?_
    obtain rfl := someO h
    exact Ends.mk (.inl rfl) hB rfl rfl rfl rfl
  · skip
    refine Run.skip ?_
    refine Run.seq ?_
    refine Run.ops hm ?_
    refine Ops.p rfl ?_
    obtain ⟨y_123, hy_123, h⟩ := bindO h
    refine Ops.st (s := 21496) (Ev.call [] [] 1 (sem_laws_toAppliedS N x_1 _ hy_123) rfl rfl (.cons (.c _) .nil) rfl (.inl rfl) rfl rfl) rfl rfl ?_
    obtain ⟨y_124, hy_124, h⟩ := bindO h
    refine Ops.st (s := 21512) (Ev.call [] [21496] 0 (sem_spec_SameApplied N y_123 _ hy_124) rfl rfl (.cons (.borrow rfl (by decide) (lendW (fun _ => rfl) _ rfl)) .nil) rfl (.inr ⟨rfl, ownL_root trivial⟩) rfl rfl) rfl rfl ?_
    refine Ops.p rfl ?_
    refine Ops.nil ?_
    refine Run.seq ?_
    refine Run.ops hm ?_
    refine Ops.p rfl ?_
    obtain ⟨y_126, hy_126, h⟩ := bindO h
    refine Ops.st (s := 25592) (Ev.call [] [] 1 (sem_laws_toAppliedS N x_1 _ hy_126) rfl rfl (.cons (.c _) .nil) rfl (.inl rfl) rfl rfl) rfl rfl ?_
    refine Ops.p rfl ?_
    refine Ops.nil ?_
    refine Run.seq ?_
    refine Run.ops hm ?_
    refine Ops.p rfl ?_
    obtain ⟨y_128, hy_128, h⟩ := bindO h
    refine Ops.st (s := 29688) (Ev.call [] [25592] 0 (sem_impl_SameApplied N y_126 _ hy_128) rfl rfl (.cons (.borrow rfl (by decide) (lendW (fun _ => rfl) _ rfl)) .nil) rfl (.inr ⟨rfl, ownL_root trivial⟩) rfl rfl) rfl rfl ?_
    refine Ops.p rfl ?_
    refine Ops.nil ?_
    refine Run.seq ?_
    refine Run.seq ?_
    refine Run.ops hm ?_
    refine Ops.p rfl ?_
    refine Ops.p rfl ?_
    refine Ops.p rfl ?_
    refine Ops.nil ?_
    refine Run.condO rfl h (fun g_130 h => ?_) (fun g_130 h => ?_)
    · skip
      refine Run.seq ?_
      refine Run.ops hm ?_
      refine Ops.p rfl ?_
      refine Ops.nil ?_
      refine Run.ret ?_
      obtain rfl := someO h
      exact Ends.mk (.inl rfl) hB rfl rfl rfl rfl
    · skip
      refine Run.skip ?_
      refine Run.seq ?_
      refine Run.seq ?_
      refine Run.ops hm ?_
      refine Ops.p rfl ?_
      refine Ops.p rfl ?_
      obtain ⟨y_131, hy_131, h⟩ := bindO h
      refine Ops.st (s := 41992) (Ev.call [] [] 1 (sem_laws_toAppliedS N x_1 _ hy_131) rfl rfl (.cons (.c _) .nil) rfl (.inl rfl) rfl rfl) rfl rfl ?_
      obtain ⟨y_132, hy_132, h⟩ := bindO h
      refine Ops.st (s := 42008) (Ev.call [] [25592, 41992] 0 (sem_laws_eqAppliedS N y_126 y_131 _ hy_132) rfl rfl (.cons (.borrow rfl (by decide) (lendW (fun _ => rfl) _ rfl)) (.cons (.borrow rfl (by decide) (lendW (fun _ => rfl) _ rfl)) .nil)) rfl (.inr ⟨rfl, ownL_root trivial⟩) rfl rfl) rfl rfl ?_
      refine Ops.p rfl ?_
      refine Ops.nil ?_
      refine Run.condO rfl h (fun g_133 h => ?_) (fun g_133 h => ?_)
      · skip
        refine Run.seq ?_
        refine Run.ops hm ?_
        refine Ops.p rfl ?_
        refine Ops.nil ?_
        refine Run.ret ?_
        obtain rfl := someO h
        exact Ends.mk (.inl rfl) hB rfl rfl rfl rfl
      · skip
        refine Run.skip ?_
        refine Run.seq ?_
        refine Run.ops hm ?_
        refine Ops.p rfl ?_
        refine Ops.nil ?_
        refine Run.ret ?_
        obtain rfl := someO h
        exact Ends.mk (.inl rfl) hB rfl rfl rfl rfl
end Go.Proofs.Ytebbgdjmplceiaa.Pe.FnExactSameApplied
