/- The law FnExactOnce, as a statement over lists and numbers alone. -/
import Derived.Test.YtebbgdjmplceiaaPeHFnExactOnce
namespace Go.Proofs.Ytebbgdjmplceiaa.Pe.FnExactOnce
open Go Go.RowKit
set_option linter.unusedVariables false
set_option linter.unusedSimpArgs false

/-- Does a text tell a result? -/
def resu (t : ByteArray) : Bool := (!decide (t = (⟨#[101, 120, 112, 105, 114, 101, 100]⟩ : ByteArray))) && ((!decide (t = (⟨#[115, 116, 97, 108, 101]⟩ : ByteArray))) && (!decide (t = (⟨#[103, 97, 112]⟩ : ByteArray))))
def cnt (x : Reply) : Bool := decide (x.Command.Session > 0) && resu x.Text
/-- Do two clash? -/
def clash (a b : Reply) : Bool := cnt a && (cnt b && ((a.Command.Session == b.Command.Session) && ((a.Command.Seq == b.Command.Seq) && (!decide (a.Text = b.Text)))))
theorem resu_eq (N : Nat) (t : ByteArray) : spec_l19Result N t = some (resu t) := by
  unfold spec_l19Result resu
  cases (!decide (t = (⟨#[101, 120, 112, 105, 114, 101, 100]⟩ : ByteArray))) <;> cases (!decide (t = (⟨#[115, 116, 97, 108, 101]⟩ : ByteArray))) <;> simp
theorem cnt_eq (N : Nat) (x : Reply) : impl_counts N x = some (cnt x) := by
  unfold impl_counts cnt resu
  cases (decide (x.Command.Session > 0)) <;> cases (!decide (x.Text = (⟨#[101, 120, 112, 105, 114, 101, 100]⟩ : ByteArray))) <;> cases (!decide (x.Text = (⟨#[115, 116, 97, 108, 101]⟩ : ByteArray))) <;> simp
/-- No two clash: each with those ahead of it. -/
def noPair (xs : List Reply) : Nat → Nat → Bool
  | 0, _ => true
  | d + 1, k => match xs[k]? with
    | none => true
    | some x => !((xs.take k).any (clash x)) && noPair xs d (k + 1)

theorem ix_r (N : Nat) (c : List Reply) (x : Reply) (hx : cnt x = true) : ∀ (tl : List Reply) (k : Nat), k + tl.length ≤ 1099511627776 → slices_IndexFunc_Reply_l1_r N c x tl (k : Int) = some (if tl.any (clash x) then .inl ((k + tl.findIdx (clash x) : Nat) : Int) else .inr ())
  | [], k, h => rfl
  | y :: tl, k, h => by
    simp only [List.length_cons] at h
    rw [slices_IndexFunc_Reply_l1_r]
    have e : impl_Once_1 N y x = some (clash x y) := by
      unfold impl_Once_1 clash
      rw [cnt_eq, hx]
      cases cnt y <;> cases h1 : (x.Command.Session == y.Command.Session) <;> cases h2 : (x.Command.Seq == y.Command.Seq) <;> simp
    simp only [Option.bind_some, e, w64_succ (k := k) (by omega)]
    cases h1 : clash x y with
    | true => simp [List.findIdx_cons, h1]
    | false =>
      rw [if_neg (by simp), ix_r N c x hx tl (k + 1) (by omega)]
      simp only [List.any_cons, h1, Bool.false_or, List.findIdx_cons, cond_false]
      congr 2
      simp only [Sum.inl.injEq]
      omega
theorem contains (N : Nat) (hN : Big N) (c : List Reply) (x : Reply) (hx : cnt x = true) (h : c.length ≤ 1099511627) : slices_ContainsFunc_Reply N c x = some (c.any (clash x)) := by
  unfold slices_ContainsFunc_Reply slices_IndexFunc_Reply
  simp only [joinP]
  rw [slices_IndexFunc_Reply_l1_eq c x (by omega) (by omega), show (0 : Int) = ((0 : Nat) : Int) from rfl, ix_r N c x hx c 0 (by omega)]
  cases h1 : c.any (clash x) with
  | true => simp
  | false => simp
theorem impl_r (N : Nat) (hN : Big N) (c : List Reply) (hc : c.length ≤ 1099511627) : ∀ (d k : Nat), c.length = k + d → impl_Once_l1_r N c (c.drop k) (k : Int) = some (if noPair c d k then .inr () else .inl false)
  | 0, k, h => by rw [List.drop_eq_nil_of_le (by omega), impl_Once_l1_r]; rfl
  | d + 1, k, h => by
    have hk : k < c.length := by omega
    rw [List.drop_eq_getElem_cons hk, impl_Once_l1_r]
    simp only [Option.bind_some, take_ok (xs := c) (i := k) (by omega), w64_succ (k := k) (by omega), cnt_eq, noPair, List.getElem?_eq_getElem hk]
    cases hc0 : cnt c[k] with
    | false =>
      have hz : (c.take k).any (clash c[k]) = false := by
        rw [List.any_eq_false]
        intro z _
        simp [clash, hc0]
      rw [if_pos (by simp), impl_r N hN c hc d (k + 1) (by omega), hz]
      simp
    | true =>
    rw [if_neg (by simp), contains N hN _ _ hc0 (by rw [List.length_take]; omega)]
    simp only [Option.bind_some]
    cases h1 : (c.take k).any (clash c[k]) with
    | true => simp
    | false =>
      rw [if_neg (by simp), impl_r N hN c hc d (k + 1) (by omega)]
      simp
theorem spec_in (N : Nat) (c : List Reply) (k : Nat) (hk : k < c.length) (hc : c.length ≤ 1099511627) : ∀ (d q m : Nat), k = q + d → d < m → spec_Once_l2 N c (k : Int) m (q : Int) = some (if ((c.take k).drop q).any (clash c[k]) then .inl false else .inr ())
  | 0, q, m, h, hm => by
    obtain ⟨m, rfl⟩ : ∃ z, m = z + 1 := ⟨m - 1, by omega⟩
    rw [spec_Once_l2, if_neg (by simp; omega), List.drop_eq_nil_of_le (by simp; omega)]
    rfl
  | d + 1, q, m, h, hm => by
    obtain ⟨m, rfl⟩ : ∃ z, m = z + 1 := ⟨m - 1, by omega⟩
    have hq : q < (c.take k).length := by rw [List.length_take]; omega
    have hqc : q < c.length := by omega
    rw [spec_Once_l2, if_pos (by simp; omega), List.drop_eq_getElem_cons hq]
    simp only [joinP, at_lt hk, at_lt hqc, Option.bind_some, w64_succ (k := q) (by omega), List.getElem_take, List.any_cons]
    have ih := spec_in N c k hk hc d (q + 1) m (by omega) (by omega)
    rw [ih]
    have e : ∀ (z : Option (Bool ⊕ Unit)), (if decide (c[k].Command.Session > 0) = true then if (c[k].Command.Session == c[q].Command.Session) = true then if (c[k].Command.Seq == c[q].Command.Seq) = true then (spec_l19Result N c[k].Text).bind fun y => if y = true then (spec_l19Result N c[q].Text).bind fun y => if y = true then if (!decide (c[k].Text = c[q].Text)) = true then some (Sum.inl false) else z else z else z else z else z else z) = if clash c[k] c[q] = true then some (Sum.inl false) else z := by
      intro z
      simp only [resu_eq, Option.bind_some]
      unfold clash cnt
      by_cases h1 : c[k].Command.Session > 0
      · by_cases h2 : c[k].Command.Session = c[q].Command.Session
        · have h3 : c[q].Command.Session > 0 := by rw [← h2]; exact h1
          simp only [h1, h2, h3, decide_true, beq_self_eq_true, if_true, Bool.true_and]
          cases (c[k].Command.Seq == c[q].Command.Seq) <;> cases resu c[k].Text <;> cases resu c[q].Text <;> simp
        · have h4 : (c[k].Command.Session == c[q].Command.Session) = false := by simpa using h2
          simp [h1, h4]
      · simp [h1]
    rw [e]
    cases h1 : clash c[k] c[q] <;> simp
theorem spec_r (N : Nat) (hN : Big N) (c : List Reply) (hc : c.length ≤ 1099511627) : ∀ (d k : Nat), c.length = k + d → spec_Once_l1_r N c (c.drop k) (k : Int) = some (if noPair c d k then .inr () else .inl false)
  | 0, k, h => by rw [List.drop_eq_nil_of_le (by omega), spec_Once_l1_r]; rfl
  | d + 1, k, h => by
    have hk : k < c.length := by omega
    rw [List.drop_eq_getElem_cons hk, spec_Once_l1_r]
    simp only [joinP, w64_succ (k := k) (by omega)]
    have h2 := spec_in N c k hk hc k 0 N (by omega) (by omega)
    rw [show (0 : Int) = ((0 : Nat) : Int) from rfl, h2]
    simp only [Option.bind_some, noPair, List.getElem?_eq_getElem hk, List.drop_zero]
    cases h1 : (c.take k).any (clash c[k]) with
    | true => simp
    | false =>
      have ih := spec_r N hN c hc d (k + 1) (by omega)
      simp only [Bool.false_eq_true, if_false, Sum.elim_inr, ih, Bool.not_false, Bool.true_and]
theorem same (N : Nat) (hN : Big N) (c : List Reply) (hc : c.length ≤ 1099511627) : spec_Once N c = some (noPair c c.length 0) ∧ impl_Once N c = some (noPair c c.length 0) := by
  constructor
  · unfold spec_Once
    simp only [joinP]
    rw [spec_Once_l1_eq c (by omega) (by omega), show (0 : Int) = ((0 : Nat) : Int) from rfl]
    have := spec_r N hN c hc c.length 0 (by omega)
    rw [List.drop_zero] at this
    rw [this]
    cases noPair c c.length 0 <;> rfl
  · unfold impl_Once
    simp only [joinP]
    rw [impl_Once_l1_eq c (by omega) (by omega), show (0 : Int) = ((0 : Nat) : Int) from rfl]
    have := impl_r N hN c hc c.length 0 (by omega)
    rw [List.drop_zero] at this
    rw [this]
    cases noPair c c.length 0 <;> rfl
theorem holds (x0 : List Reply) (w0 : x0.length ≤ maxLen ∧ ∀ y ∈ x0, wfReply y) : ∃ N, laws_FnExactOnce N x0 = some true := by
  obtain ⟨N, hN⟩ : ∃ N, Big N := ⟨1099511627777, by decide⟩
  refine ⟨N, ?_⟩
  unfold laws_FnExactOnce
  rw [sz_ReplyS N x0 1048576 (by decide) (by decide) w0 hN]
  simp only [Option.bind_some]
  by_cases h : (totL totReply x0 : Int) ≤ 1048576
  · rw [if_pos h, if_neg (by simp; omega)]
    have hl : x0.length ≤ 1048576 := by simp only [totL] at h; omega
    rw [to_ReplyS N x0 (by omega) hN]
    simp only [Option.bind_some]
    obtain ⟨h1, h2⟩ := same N hN x0 (by omega)
    rw [h1, h2]
    simp only [Option.bind_some]
    rw [if_neg (by simp), eq_ReplyS N x0 (by omega) hN]
    rfl
  · rw [if_neg h]
    rfl
end Go.Proofs.Ytebbgdjmplceiaa.Pe.FnExactOnce
