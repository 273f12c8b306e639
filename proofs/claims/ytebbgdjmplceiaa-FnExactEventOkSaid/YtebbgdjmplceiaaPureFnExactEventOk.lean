/- The law FnExactEventOk, as a statement over lists and numbers alone. -/
import Derived.Test.YtebbgdjmplceiaaPeHFnExactEventOk
namespace Go.Proofs.Ytebbgdjmplceiaa.Pe.FnExactEventOk
open Go Go.RowKit
set_option linter.unusedVariables false
set_option linter.unusedSimpArgs false
set_option maxHeartbeats 4000000
theorem in_eq (N : Nat) (x a b : Int) : spec_l01In N x a b = some (decide (a ≤ x ∧ x ≤ b)) := by
  unfold spec_l01In
  by_cases h : a ≤ x <;> simp [h]
theorem within_eq (N : Nat) (x a b : Int) : impl_within N x a b = some (decide (a ≤ x ∧ x ≤ b)) := by
  unfold impl_within
  by_cases h : a ≤ x <;> simp [h]
/-- Numbers that rise, each within two bounds. -/
def rise (lo hi : Int) : Option Int → List Int → Bool
  | _, [] => true
  | p, x :: xs => decide (lo ≤ x ∧ x ≤ hi) && ((match p with | some q => decide (q < x) | none => true) && rise lo hi (some x) xs)
theorem rise_cons (lo hi : Int) (p : Option Int) (x : Int) (xs : List Int) : rise lo hi p (x :: xs) = (decide (lo ≤ x ∧ x ≤ hi) && ((match p with | some q => decide (q < x) | none => true) && rise lo hi (some x) xs)) := by
  cases p <;> rfl
def confOk (c : List Int) : Bool := decide (c.length ≤ 4) && (decide (1 ≤ c.length) && rise 1 4 none c)
def prev (c : List Int) (k : Nat) : Option Int := if k = 0 then none else c[k - 1]?
theorem prev_succ {c : List Int} {k : Nat} (h : k < c.length) : prev c (k + 1) = some c[k] := by
  simp [prev, h]
theorem rise_drop {c : List Int} {k : Nat} {lo hi : Int} (h : k < c.length) : rise lo hi (prev c k) (c.drop k) = (decide (lo ≤ c[k] ∧ c[k] ≤ hi) && ((if k = 0 then true else decide (c[k - 1]'(by omega) < c[k])) && rise lo hi (prev c (k + 1)) (c.drop (k + 1)))) := by
  rw [List.drop_eq_getElem_cons h, rise_cons, prev_succ h]
  by_cases h0 : k = 0
  · simp [prev, h0]
  · simp only [prev, h0, if_false]
    rw [List.getElem?_eq_getElem (by omega)]
theorem at_pred {c : List Int} {k : Nat} (h : k < c.length) (h0 : k ≠ 0) (hc : c.length ≤ 1099511627776) : at? c (w64 ((k : Int) - 1)) = some (c[k - 1]'(by omega)) := by
  rw [w64_id (by omega) (by omega), show (k : Int) - 1 = ((k - 1 : Nat) : Int) by omega, at_lt]
theorem rise_r (N : Nat) (c : List Int) (lo hi : Int) (hc : c.length ≤ 1099511627776) : ∀ (d k : Nat), c.length = k + d → spec_l07Rise_l1_r N c lo hi (c.drop k) (k : Int) = some (if rise lo hi (prev c k) (c.drop k) then .inr () else .inl false)
  | 0, k, h => by rw [List.drop_eq_nil_of_le (by omega), spec_l07Rise_l1_r]; rfl
  | d + 1, k, h => by
    have hk : k < c.length := by omega
    rw [rise_drop hk, List.drop_eq_getElem_cons hk, spec_l07Rise_l1_r]
    simp only [joinP, Option.bind_some, in_eq, w64_succ (k := k) (by omega), rise_r N c lo hi hc d (k + 1) (by omega)]
    by_cases h1 : lo ≤ c[k] ∧ c[k] ≤ hi
    · by_cases h0 : k = 0
      · subst h0
        simp [h1]
      · rw [at_pred hk h0 hc]
        have : (0 : Int) < k := by omega
        by_cases h2 : c[k - 1] < c[k]
        · have h3 : ¬ c[k] ≤ c[k - 1] := by omega
          simp [h1, h0, h2, h3]
        · have h3 : c[k] ≤ c[k - 1] := by omega
          simp [h1, h0, h2, h3]
    · simp [h1]
theorem rise_eq (N : Nat) (hN : Big N) (c : List Int) (lo hi : Int) (hc : c.length ≤ 1099511627776) : spec_l07Rise N c lo hi = some (rise lo hi none c) := by
  unfold spec_l07Rise
  simp only [joinP]
  rw [spec_l07Rise_l1_eq c lo hi (by omega) (by omega), show (0 : Int) = ((0 : Nat) : Int) from rfl]
  have := rise_r N c lo hi hc c.length 0 (by omega)
  rw [List.drop_zero] at this
  rw [this]
  simp only [prev, if_true]
  cases rise lo hi none c <;> rfl
theorem confOk_spec (N : Nat) (hN : Big N) (c : List Int) (hc : c.length ≤ 1099511627776) : spec_ConfOk N c = some (confOk c) := by
  unfold spec_ConfOk confOk
  simp only [in_eq, Option.bind_some, rise_eq N hN c 1 4 hc]
  by_cases h1 : c.length ≤ 4
  · by_cases h2 : 1 ≤ c.length
    · have h3 : (1 : Int) ≤ c.length ∧ (c.length : Int) ≤ 4 := by omega
      simp [h1, h2, h3]
    · have h3 : ¬ ((1 : Int) ≤ c.length ∧ (c.length : Int) ≤ 4) := by omega
      simp only [h3, if_false, h2, decide_false, Bool.false_and, Bool.and_false, Bool.false_eq_true]
  · have h3 : ¬ ((1 : Int) ≤ c.length ∧ (c.length : Int) ≤ 4) := by omega
    simp only [h3, if_false, h1, decide_false, Bool.false_and, Bool.and_false, Bool.false_eq_true]
theorem conf_r (N : Nat) (c : List Int) (hc : c.length ≤ 1099511627776) : ∀ (d k : Nat), c.length = k + d → impl_ConfOk_l1_r N c (c.drop k) (k : Int) = some (if rise 1 4 (prev c k) (c.drop k) then .inr () else .inl false)
  | 0, k, h => by rw [List.drop_eq_nil_of_le (by omega), impl_ConfOk_l1_r]; rfl
  | d + 1, k, h => by
    have hk : k < c.length := by omega
    rw [rise_drop hk, List.drop_eq_getElem_cons hk, impl_ConfOk_l1_r]
    simp only [joinP, Option.bind_some, within_eq, w64_succ (k := k) (by omega), conf_r N c hc d (k + 1) (by omega)]
    by_cases h1 : (1 : Int) ≤ c[k] ∧ c[k] ≤ 4
    · by_cases h0 : k = 0
      · subst h0
        simp [h1]
      · rw [at_pred hk h0 hc]
        have : (0 : Int) < k := by omega
        by_cases h2 : c[k - 1] < c[k]
        · have h3 : ¬ c[k] ≤ c[k - 1] := by omega
          simp [h1, h0, h2, h3]
        · have h3 : c[k] ≤ c[k - 1] := by omega
          simp [h1, h0, h2, h3]
    · simp [h1]
theorem confOk_impl (N : Nat) (hN : Big N) (c : List Int) (hc : c.length ≤ 1099511627776) : impl_ConfOk N c = some (confOk c) := by
  unfold impl_ConfOk confOk
  simp only [joinP]
  rw [impl_ConfOk_l1_eq c (by omega) (by omega), show (0 : Int) = ((0 : Nat) : Int) from rfl]
  have := conf_r N c hc c.length 0 (by omega)
  rw [List.drop_zero] at this
  rw [this]
  simp only [prev, if_true, within_eq]
  cases rise 1 4 none c with
  | false => simp
  | true =>
    simp only [if_true, Option.bind_some, Sum.elim_inr, Bool.and_true, Option.some.injEq]
    rw [← Bool.decide_and]
    simp only [decide_eq_decide]
    omega
theorem confOk_len {c : List Int} (h : confOk c = true) : 1 ≤ c.length ∧ c.length ≤ 4 := by
  unfold confOk at h
  simp only [Bool.and_eq_true, decide_eq_true_eq] at h
  exact ⟨h.2.1, h.1⟩
def emp : ByteArray := ⟨#[]⟩
theorem emp_size {t : ByteArray} (h : t = (⟨#[]⟩ : ByteArray)) : t.size = 0 := by subst h; rfl
def cmdOk (x : Command) : Bool := decide ((1 ≤ x.Op ∧ x.Op ≤ 5) ∧ (0 ≤ x.Session ∧ x.Session ≤ 100000) ∧ (0 ≤ x.Seq ∧ x.Seq ≤ 100000) ∧ (x.Value.size ≤ 12 ∧ x.Old.size ≤ 12) ∧
  (if x.Op = 1 then x.Session = 0 ∧ x.Seq = 0 ∧ x.Key = (⟨#[]⟩ : ByteArray) ∧ x.Value = (⟨#[]⟩ : ByteArray) ∧ x.Old = (⟨#[]⟩ : ByteArray)
   else (1 ≤ x.Key.size ∧ x.Key.size ≤ 9) ∧ (x.Op = 2 ∨ x.Op = 4 → x.Value = (⟨#[]⟩ : ByteArray)) ∧ (x.Op = 2 ∨ x.Op = 3 ∨ x.Op = 4 → x.Old = (⟨#[]⟩ : ByteArray))))
theorem iff_b {b : Bool} {p : Prop} [Decidable p] (h : b = true ↔ p) : b = decide p := by
  cases b with
  | true => exact (decide_eq_true (h.1 rfl)).symm
  | false => exact (decide_eq_false (fun hp => by cases h.2 hp)).symm
theorem cmdOk_spec (N : Nat) (x : Command) : spec_CommandOk N x = some (cmdOk x) := by
  unfold spec_CommandOk cmdOk
  simp only [in_eq, Option.bind_some]
  repeat' split
  all_goals (refine congrArg some (iff_b ?_))
  all_goals simp only [Bool.not_eq_true', decide_eq_false_iff_not, decide_eq_true_eq, beq_iff_eq, Bool.and_eq_true, Bool.bne_false, Bool.xor_false, Bool.false_eq_true, false_iff, true_iff, Bool.and_true] at *
  all_goals grind
theorem cmdOk_impl (N : Nat) (x : Command) : impl_CommandOk N x = some (cmdOk x) := by
  unfold impl_CommandOk cmdOk
  simp only [within_eq, Option.bind_some, joinP]
  have e0 := @emp_size
  repeat' split
  all_goals (refine congrArg some (iff_b ?_))
  all_goals simp only [Bool.not_eq_true', decide_eq_false_iff_not, decide_eq_true_eq, beq_iff_eq, Bool.and_eq_true, Bool.bne_false, Bool.xor_false, Bool.false_eq_true, false_iff, true_iff, Bool.and_true] at *
  all_goals grind
theorem holds (x0 : Int) (x1 : Event) (w0 : WI .i64 x0) (w1 : wfEvent x1) : ∃ N, laws_FnExactEventOk N x0 x1 = some true := by
  obtain ⟨N, hN⟩ : ∃ N, Big N := ⟨1099511627777, by decide⟩
  refine ⟨N, ?_⟩
  unfold laws_FnExactEventOk
  rw [sz_Event N x1 1048576 (by decide) (by decide) w1 hN]
  simp only [Option.bind_some]
  by_cases h : (totEvent x1 : Int) ≤ 1048576
  · rw [if_pos h, if_neg (by simp; omega), to_Event N x1 (by omega) hN]
    simp only [Option.bind_some]
    have hl : x1.Conf.length ≤ 1048576 := by
      simp only [totEvent, totL] at h
      omega
    obtain ⟨b, h1, h2⟩ : ∃ b, spec_EventOk N x0 x1 = some b ∧ impl_EventOk N x0 x1 = some b := by
      unfold spec_EventOk impl_EventOk
      simp only [in_eq, within_eq, cmdOk_spec, cmdOk_impl, Option.bind_some, confOk_spec N hN x1.Conf (by omega), confOk_impl N hN x1.Conf (by omega)]
      have hp : confOk x1.Conf = true → at? x1.Conf (w64 ((x1.Conf.length : Int) - 1)) = some (x1.Conf.getD (x1.Conf.length - 1) 0) := by
        intro hc
        have := confOk_len hc
        rw [w64_id (by omega) (by omega), show (x1.Conf.length : Int) - 1 = ((x1.Conf.length - 1 : Nat) : Int) by omega, at_lt (by omega)]
        simp [List.getD, List.getElem?_eq_getElem (show x1.Conf.length - 1 < x1.Conf.length by omega)]
      cases hc : confOk x1.Conf with
      | true =>
        rw [hp hc]
        simp only [Option.bind_some]
        repeat' split
        all_goals exact ⟨_, rfl, rfl⟩
      | false =>
        simp only [Bool.false_eq_true, if_false]
        repeat' split
        all_goals exact ⟨_, rfl, rfl⟩
    rw [h1, h2]
    simp only [Option.bind_some]
    rw [if_neg (by simp), eq_Event N x1 (by omega) hN]
    rfl
  · rw [if_neg h]
    rfl
end Go.Proofs.Ytebbgdjmplceiaa.Pe.FnExactEventOk
