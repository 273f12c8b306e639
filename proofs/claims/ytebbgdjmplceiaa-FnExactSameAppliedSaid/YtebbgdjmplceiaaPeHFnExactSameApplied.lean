/- What the law's helper functions tell. -/
import Derived.Test.YtebbgdjmplceiaaPeLib
import Derived.Test.YtebbgdjmplceiaaPeFFnExactSameApplied0
namespace Go.Proofs.Ytebbgdjmplceiaa.Pe.FnExactSameApplied
open Go Go.RowKit
set_option linter.unusedVariables false
set_option linter.unusedSimpArgs false
set_option maxHeartbeats 40000000
theorem le_sum {α : Type} {f : α → Nat} {y : α} : ∀ {xs : List α}, y ∈ xs → f y ≤ (xs.map f).sum
  | x :: xs, h => by
    rcases List.mem_cons.1 h with rfl | h
    · simp
    · have := le_sum (f := f) h
      simp only [List.map_cons, List.sum_cons]
      omega
def wfEntry (x : Entry) : Prop := (WI .i64 x.Term) ∧ (WI .i64 x.Kind) ∧ (x.Data.size ≤ maxLen)
def wfApplied (x : Applied) : Prop := (WI .i64 x.Node) ∧ (WI .i64 x.Term) ∧ (WI .i64 x.Index) ∧ (wfEntry x.Entry)
def totEntry (x : Entry) : Nat := ByteArray.size x.Data
theorem sz_Entry (N : Nat) (x : Entry) (l : Int) (h0 : 0 ≤ l) (h1 : l ≤ 1099511627776) (w : wfEntry x) (hN : Big N) : laws_szEntry N x l = some (if (totEntry x : Int) ≤ l then l - totEntry x else -1) := by
  have hM := maxLen_le
  unfold laws_szEntry
  unfold wfEntry at w
  have e1 : w64 (l - (x.Data.size : Int)) = l - x.Data.size := w64_id (by have := w.2.2; omega) (by omega)
  rw [e1]
  by_cases c1 : l - (x.Data.size : Int) < 0
  · rw [if_pos (by simpa using c1), if_neg (by simp only [totEntry]; omega)]
  rw [if_neg (by simpa using c1)]
  rw [if_pos (by simp only [totEntry]; omega)]
  first
    | (simp only [totEntry]; done)
    | (simp only [totEntry]; congr 1; omega)
def totApplied (x : Applied) : Nat := totEntry x.Entry
theorem sz_Applied (N : Nat) (x : Applied) (l : Int) (h0 : 0 ≤ l) (h1 : l ≤ 1099511627776) (w : wfApplied x) (hN : Big N) : laws_szApplied N x l = some (if (totApplied x : Int) ≤ l then l - totApplied x else -1) := by
  have hM := maxLen_le
  unfold laws_szApplied
  unfold wfApplied at w
  rw [sz_Entry N x.Entry l (by omega) (by omega) w.2.2.2 hN]
  simp only [Option.bind_some]
  by_cases c1 : ¬ ((totEntry x.Entry : Int) ≤ l)
  · rw [if_neg c1, if_pos (by decide), if_neg (by simp only [totApplied]; omega)]
  replace c1 := Classical.not_not.1 c1
  rw [if_pos c1, if_neg (by simp; omega)]
  rw [if_pos (by simp only [totApplied]; omega)]
  first
    | (simp only [totApplied]; done)
    | (simp only [totApplied]; congr 1; omega)
theorem sz_AppliedS_r (N : Nat) (hN : Big N) (c : (List Applied)) : ∀ (tl : (List Applied)) (l i : Int), 0 ≤ l → l ≤ 1099511627776 → (∀ y ∈ tl, wfApplied y) → laws_szAppliedS_l1_r N c tl l i = some (if ((tl.map totApplied).sum : Int) ≤ l then .inr (l - (tl.map totApplied).sum) else .inl (-1))
  | [], l, i, h0, h1, w => by simp [laws_szAppliedS_l1_r, h0]
  | y :: tl, l, i, h0, h1, w => by
    rw [laws_szAppliedS_l1_r]
    simp only [Option.bind_some, List.map_cons, List.sum_cons]
    rw [sz_Applied N y l h0 h1 (w y (by simp)) hN]
    simp only [Option.bind_some]
    by_cases c1 : ¬ ((totApplied y : Int) ≤ l)
    · rw [if_neg c1, if_pos (by decide), if_neg (by omega)]
    replace c1 := Classical.not_not.1 c1
    rw [if_pos c1, if_neg (by simp; omega), sz_AppliedS_r N hN c tl _ _ (by omega) (by omega) (fun z hz => w z (by simp [hz]))]
    by_cases c2 : ((tl.map totApplied).sum : Int) ≤ l - totApplied y
    · rw [if_pos c2, if_pos (by omega)]
      congr 2 <;> omega
    · rw [if_neg c2, if_neg (by omega)]
theorem sz_AppliedS (N : Nat) (x : (List Applied)) (l : Int) (h0 : 0 ≤ l) (h1 : l ≤ 1099511627776) (w : x.length ≤ maxLen ∧ ∀ y ∈ x, wfApplied y) (hN : Big N) : laws_szAppliedS N x l = some (if ((totL totApplied) x : Int) ≤ l then l - (totL totApplied) x else -1) := by
  have hM := maxLen_le
  unfold laws_szAppliedS
  have e1 : w64 (l - (x.length : Int)) = l - x.length := w64_id (by have := w.1; omega) (by omega)
  rw [e1]
  by_cases c : l - (x.length : Int) < 0
  · rw [if_pos (by simpa using c), if_neg (by simp only [totL]; omega)]
  rw [if_neg (by simpa using c)]
  simp only [joinP]
  rw [laws_szAppliedS_l1_eq x (by omega) (by omega), sz_AppliedS_r N hN x x _ _ (by omega) (by omega) w.2]
  simp only [Option.bind_some]
  by_cases c2 : ((x.map totApplied).sum : Int) ≤ l - x.length
  · rw [if_pos c2, if_pos (by simp only [totL]; omega)]
    simp only [Sum.elim_inr, totL]
    congr 1 <;> omega
  · rw [if_neg c2, if_neg (by simp only [totL]; omega)]
    rfl
theorem to_Entry (N : Nat) (x : Entry) (h : totEntry x ≤ 1099511627) (hN : Big N) : laws_toEntry N x = some x := by
  unfold laws_toEntry
  simp only [totEntry] at h
  try rfl
theorem to_Applied (N : Nat) (x : Applied) (h : totApplied x ≤ 1099511627) (hN : Big N) : laws_toApplied N x = some x := by
  unfold laws_toApplied
  simp only [totApplied] at h
  rw [to_Entry N x.Entry (by omega) hN]
  simp only [Option.bind_some]
  try rfl
theorem to_AppliedS_r (N : Nat) (hN : Big N) (c : (List Applied)) : ∀ (tl : (List Applied)) (k : Nat) (acc : (List Applied)), acc.length = k + tl.length → k + tl.length ≤ 1099511627776 → (∀ y ∈ tl, totApplied y ≤ 1099511627) → laws_toAppliedS_l1_r N c tl (k : Int) acc = some (acc.take k ++ tl)
  | [], k, acc, h, hk, w => by
    rw [laws_toAppliedS_l1_r, List.append_nil, List.take_of_length_le (by simp at h; omega)]
  | y :: tl, k, acc, h, hk, w => by
    simp only [List.length_cons] at h hk
    rw [laws_toAppliedS_l1_r]
    have hlt : k < acc.length := by omega
    simp only [Option.bind_some, to_Applied N y (w y (by simp)) hN, at_lt hlt, w64_succ (k := k) (by omega), Int.toNat_natCast]
    rw [to_AppliedS_r N hN c tl (k + 1) _ (by simp; omega) (by omega) (fun z hz => w z (by simp [hz])), take_set_succ hlt, List.append_assoc]
    rfl
theorem to_AppliedS (N : Nat) (x : (List Applied)) (h : (totL totApplied) x ≤ 1099511627) (hN : Big N) : laws_toAppliedS N x = some x := by
  unfold laws_toAppliedS
  have hl : x.length ≤ 1099511627 := by simp only [totL] at h; omega
  rw [mk_some (by omega)]
  simp only [Option.bind_some, joinP]
  rw [laws_toAppliedS_l1_eq x (by omega) (by omega), show (0 : Int) = ((0 : Nat) : Int) from rfl, to_AppliedS_r N hN x x 0 _ (by simp) (by omega) (fun y hy => Nat.le_trans (le_sum hy) (by simp only [totL] at h; omega))]
  simp
theorem eq_Entry (N : Nat) (x : Entry) (h : totEntry x ≤ 1099511627) (hN : Big N) : laws_eqEntry N x x = some true := by
  unfold laws_eqEntry
  simp only [totEntry] at h
  simp
theorem eq_Applied (N : Nat) (x : Applied) (h : totApplied x ≤ 1099511627) (hN : Big N) : laws_eqApplied N x x = some true := by
  unfold laws_eqApplied
  simp only [totApplied] at h
  simp [eq_Entry N x.Entry (by omega) hN]
theorem eq_AppliedS_r (N : Nat) (hN : Big N) (c : (List Applied)) (hc : c.length ≤ 1099511627776) (w : ∀ y ∈ c, totApplied y ≤ 1099511627) : ∀ (d k : Nat), c.length = k + d → laws_eqAppliedS_l1_r N c c (c.drop k) (k : Int) = some (.inr ())
  | 0, k, h => by rw [List.drop_eq_nil_of_le (by omega), laws_eqAppliedS_l1_r]
  | d + 1, k, h => by
    have hk : k < c.length := by omega
    rw [List.drop_eq_getElem_cons hk, laws_eqAppliedS_l1_r]
    simp only [Option.bind_some, at_lt hk, w64_succ (k := k) (by omega)]
    have := eq_AppliedS_r N hN c hc w d (k + 1) (by omega)
    simpa [eq_Applied N _ (w _ (List.getElem_mem hk)) hN] using this
theorem eq_AppliedS (N : Nat) (x : (List Applied)) (h : (totL totApplied) x ≤ 1099511627) (hN : Big N) : laws_eqAppliedS N x x = some true := by
  unfold laws_eqAppliedS
  have hl : x.length ≤ 1099511627 := by simp only [totL] at h; omega
  have := eq_AppliedS_r N hN x (by omega) (fun y hy => Nat.le_trans (le_sum hy) (by simp only [totL] at h; omega)) x.length 0 (by omega)
  simp only [List.drop_zero] at this
  simp only [joinP]
  rw [if_neg (by simp), laws_eqAppliedS_l1_eq x x (by omega) (by omega), show (0 : Int) = ((0 : Nat) : Int) from rfl, this]
  rfl
end Go.Proofs.Ytebbgdjmplceiaa.Pe.FnExactSameApplied
