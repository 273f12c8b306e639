/- The law FnExactOneLeader, as a statement over lists and numbers alone. -/
import Derived.Test.YtebbgdjmplceiaaPeHFnExactOneLeader
namespace Go.Proofs.Ytebbgdjmplceiaa.Pe.FnExactOneLeader
open Go Go.RowKit
set_option linter.unusedVariables false

/-- Do two clash? -/
def clash (a b : Leader) : Bool := (a.Term == b.Term) && (a.Node != b.Node)
/-- No two clash: each with those ahead of it. -/
def noPair (xs : List Leader) : Nat → Nat → Bool
  | 0, _ => true
  | d + 1, k => match xs[k]? with
    | none => true
    | some x => !((xs.take k).any (clash x)) && noPair xs d (k + 1)

theorem ix_r (N : Nat) (c : List Leader) (x : Leader) : ∀ (tl : List Leader) (k : Nat), k + tl.length ≤ 1099511627776 → slices_IndexFunc_Leader_l1_r N c x tl (k : Int) = some (if tl.any (clash x) then .inl ((k + tl.findIdx (clash x) : Nat) : Int) else .inr ())
  | [], k, h => rfl
  | y :: tl, k, h => by
    simp only [List.length_cons] at h
    rw [slices_IndexFunc_Leader_l1_r]
    have e : impl_OneLeader_1 N y x = some (clash x y) := by
      unfold impl_OneLeader_1 clash
      cases h1 : (x.Term == y.Term) <;> simp
    simp only [Option.bind_some, e, w64_succ (k := k) (by omega)]
    cases h1 : clash x y with
    | true => simp [List.findIdx_cons, h1]
    | false =>
      rw [if_neg (by simp), ix_r N c x tl (k + 1) (by omega)]
      simp only [List.any_cons, h1, Bool.false_or, List.findIdx_cons, cond_false]
      congr 2
      simp only [Sum.inl.injEq]
      omega
theorem contains (N : Nat) (hN : Big N) (c : List Leader) (x : Leader) (h : c.length ≤ 1099511627) : slices_ContainsFunc_Leader N c x = some (c.any (clash x)) := by
  unfold slices_ContainsFunc_Leader slices_IndexFunc_Leader
  simp only [joinP]
  rw [slices_IndexFunc_Leader_l1_eq c x (by omega) (by omega), show (0 : Int) = ((0 : Nat) : Int) from rfl, ix_r N c x c 0 (by omega)]
  cases h1 : c.any (clash x) with
  | true => simp
  | false => simp
theorem impl_r (N : Nat) (hN : Big N) (c : List Leader) (hc : c.length ≤ 1099511627) : ∀ (d k : Nat), c.length = k + d → impl_OneLeader_l1_r N c (c.drop k) (k : Int) = some (if noPair c d k then .inr () else .inl false)
  | 0, k, h => by rw [List.drop_eq_nil_of_le (by omega), impl_OneLeader_l1_r]; rfl
  | d + 1, k, h => by
    have hk : k < c.length := by omega
    rw [List.drop_eq_getElem_cons hk, impl_OneLeader_l1_r]
    simp only [Option.bind_some, take_ok (xs := c) (i := k) (by omega), w64_succ (k := k) (by omega)]
    rw [contains N hN _ _ (by rw [List.length_take]; omega)]
    simp only [Option.bind_some, noPair, List.getElem?_eq_getElem hk]
    cases h1 : (c.take k).any (clash c[k]) with
    | true => simp
    | false =>
      rw [if_neg (by simp), impl_r N hN c hc d (k + 1) (by omega)]
      simp
theorem spec_in (N : Nat) (c : List Leader) (k : Nat) (hk : k < c.length) (hc : c.length ≤ 1099511627) : ∀ (d q m : Nat), k = q + d → d < m → spec_OneLeader_l2 N c (k : Int) m (q : Int) = some (if ((c.take k).drop q).any (clash c[k]) then .inl false else .inr ())
  | 0, q, m, h, hm => by
    obtain ⟨m, rfl⟩ : ∃ z, m = z + 1 := ⟨m - 1, by omega⟩
    rw [spec_OneLeader_l2, if_neg (by simp; omega), List.drop_eq_nil_of_le (by simp; omega)]
    rfl
  | d + 1, q, m, h, hm => by
    obtain ⟨m, rfl⟩ : ∃ z, m = z + 1 := ⟨m - 1, by omega⟩
    have hq : q < (c.take k).length := by rw [List.length_take]; omega
    have hqc : q < c.length := by omega
    rw [spec_OneLeader_l2, if_pos (by simp; omega), List.drop_eq_getElem_cons hq]
    simp only [joinP, at_lt hk, at_lt hqc, Option.bind_some, w64_succ (k := q) (by omega), List.getElem_take, List.any_cons]
    have ih := spec_in N c k hk hc d (q + 1) m (by omega) (by omega)
    rw [ih]
    unfold clash
    cases h1 : (c[k].Term == c[q].Term) with
    | false => simp
    | true =>
      rw [if_pos rfl]
      cases h2 : (c[k].Node != c[q].Node) with
      | true => simp
      | false => simp
theorem spec_r (N : Nat) (hN : Big N) (c : List Leader) (hc : c.length ≤ 1099511627) : ∀ (d k : Nat), c.length = k + d → spec_OneLeader_l1_r N c (c.drop k) (k : Int) = some (if noPair c d k then .inr () else .inl false)
  | 0, k, h => by rw [List.drop_eq_nil_of_le (by omega), spec_OneLeader_l1_r]; rfl
  | d + 1, k, h => by
    have hk : k < c.length := by omega
    rw [List.drop_eq_getElem_cons hk, spec_OneLeader_l1_r]
    simp only [joinP, w64_succ (k := k) (by omega)]
    have h2 := spec_in N c k hk hc k 0 N (by omega) (by omega)
    rw [show (0 : Int) = ((0 : Nat) : Int) from rfl, h2]
    simp only [Option.bind_some, noPair, List.getElem?_eq_getElem hk, List.drop_zero]
    cases h1 : (c.take k).any (clash c[k]) with
    | true => simp
    | false =>
      have ih := spec_r N hN c hc d (k + 1) (by omega)
      simp only [Bool.false_eq_true, if_false, Sum.elim_inr, ih, Bool.not_false, Bool.true_and]
theorem same (N : Nat) (hN : Big N) (c : List Leader) (hc : c.length ≤ 1099511627) : spec_OneLeader N c = some (noPair c c.length 0) ∧ impl_OneLeader N c = some (noPair c c.length 0) := by
  constructor
  · unfold spec_OneLeader
    simp only [joinP]
    rw [spec_OneLeader_l1_eq c (by omega) (by omega), show (0 : Int) = ((0 : Nat) : Int) from rfl]
    have := spec_r N hN c hc c.length 0 (by omega)
    rw [List.drop_zero] at this
    rw [this]
    cases noPair c c.length 0 <;> rfl
  · unfold impl_OneLeader
    simp only [joinP]
    rw [impl_OneLeader_l1_eq c (by omega) (by omega), show (0 : Int) = ((0 : Nat) : Int) from rfl]
    have := impl_r N hN c hc c.length 0 (by omega)
    rw [List.drop_zero] at this
    rw [this]
    cases noPair c c.length 0 <;> rfl
theorem holds (x0 : List Leader) (w0 : x0.length ≤ maxLen ∧ ∀ y ∈ x0, wfLeader y) : ∃ N, laws_FnExactOneLeader N x0 = some true := by
  obtain ⟨N, hN⟩ : ∃ N, Big N := ⟨1099511627777, by decide⟩
  refine ⟨N, ?_⟩
  unfold laws_FnExactOneLeader
  rw [sz_LeaderS N x0 1048576 (by decide) (by decide) w0 hN]
  simp only [Option.bind_some]
  by_cases h : (totL totLeader x0 : Int) ≤ 1048576
  · rw [if_pos h, if_neg (by simp; omega)]
    have hl : x0.length ≤ 1048576 := by simp only [totL] at h; omega
    rw [to_LeaderS N x0 (by omega) hN]
    simp only [Option.bind_some]
    obtain ⟨h1, h2⟩ := same N hN x0 (by omega)
    rw [h1, h2]
    simp only [Option.bind_some]
    rw [if_neg (by simp), eq_LeaderS N x0 (by omega) hN]
    rfl
  · rw [if_neg h]
    rfl
end Go.Proofs.Ytebbgdjmplceiaa.Pe.FnExactOneLeader
