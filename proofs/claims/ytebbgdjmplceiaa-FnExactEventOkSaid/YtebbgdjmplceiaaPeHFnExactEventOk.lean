/- What the law's helper functions tell. -/
import Derived.Test.YtebbgdjmplceiaaPeLib
import Derived.Test.YtebbgdjmplceiaaPeFFnExactEventOk1
namespace Go.Proofs.Ytebbgdjmplceiaa.Pe.FnExactEventOk
open Go Go.RowKit
set_option linter.unusedVariables false
set_option linter.unusedSimpArgs false
set_option maxHeartbeats 40000000
theorem le_sum {α : Type} {f : α → Nat} {y : α} : ∀ {xs : List α}, y ∈ xs → f y ≤ (xs.map f).sum
  | x :: xs, h => by
    rcases List.mem_cons.1 h with rfl | h
    · simp
    · have := le_sum (f := f) h
      simp only [List.map_cons, List.sum_cons]
      omega
def wfCommand (x : Command) : Prop := (WI .i64 x.Op) ∧ (WI .i64 x.Session) ∧ (WI .i64 x.Seq) ∧ (x.Key.size ≤ maxLen) ∧ (x.Value.size ≤ maxLen) ∧ (x.Old.size ≤ maxLen)
def wfEvent (x : Event) : Prop := (WI .i64 x.Kind) ∧ (WI .i64 x.Node) ∧ (WI .i64 x.At) ∧ (WI .i64 x.Limit) ∧ (wfCommand x.Command) ∧ (x.Conf.length ≤ maxLen ∧ ∀ y ∈ x.Conf, WI .i64 y) ∧ (True) ∧ (WI .i64 x.Whole) ∧ (WI .i64 x.Part)
def totCommand (x : Command) : Nat := ByteArray.size x.Key + ByteArray.size x.Value + ByteArray.size x.Old
theorem sz_Command (N : Nat) (x : Command) (l : Int) (h0 : 0 ≤ l) (h1 : l ≤ 1099511627776) (w : wfCommand x) (hN : Big N) : laws_szCommand N x l = some (if (totCommand x : Int) ≤ l then l - totCommand x else -1) := by
  have hM := maxLen_le
  unfold laws_szCommand
  unfold wfCommand at w
  have e1 : w64 (l - (x.Key.size : Int)) = l - x.Key.size := w64_id (by have := w.2.2.2.1; omega) (by omega)
  rw [e1]
  by_cases c1 : l - (x.Key.size : Int) < 0
  · rw [if_pos (by simpa using c1), if_neg (by simp only [totCommand]; omega)]
  rw [if_neg (by simpa using c1)]
  have e2 : w64 ((l - (x.Key.size : Int)) - (x.Value.size : Int)) = (l - (x.Key.size : Int)) - x.Value.size := w64_id (by have := w.2.2.2.2.1; omega) (by omega)
  rw [e2]
  by_cases c2 : (l - (x.Key.size : Int)) - (x.Value.size : Int) < 0
  · rw [if_pos (by simpa using c2), if_neg (by simp only [totCommand]; omega)]
  rw [if_neg (by simpa using c2)]
  have e3 : w64 (((l - (x.Key.size : Int)) - (x.Value.size : Int)) - (x.Old.size : Int)) = ((l - (x.Key.size : Int)) - (x.Value.size : Int)) - x.Old.size := w64_id (by have := w.2.2.2.2.2; omega) (by omega)
  rw [e3]
  by_cases c3 : ((l - (x.Key.size : Int)) - (x.Value.size : Int)) - (x.Old.size : Int) < 0
  · rw [if_pos (by simpa using c3), if_neg (by simp only [totCommand]; omega)]
  rw [if_neg (by simpa using c3)]
  rw [if_pos (by simp only [totCommand]; omega)]
  first
    | (simp only [totCommand]; done)
    | (simp only [totCommand]; congr 1; done)
    | (simp only [totCommand]; congr 1; omega)
theorem sz_IntS (N : Nat) (x : (List Int)) (l : Int) (h0 : 0 ≤ l) (h1 : l ≤ 1099511627776) (w : x.length ≤ maxLen ∧ ∀ y ∈ x, WI .i64 y) (hN : Big N) : laws_szIntS N x l = some (if ((totL (fun _ => 0)) x : Int) ≤ l then l - (totL (fun _ => 0)) x else -1) := by
  have hM := maxLen_le
  unfold laws_szIntS
  have e1 : w64 (l - (x.length : Int)) = l - x.length := w64_id (by have := w.1; omega) (by omega)
  rw [e1]
  by_cases c : l - (x.length : Int) < 0
  · rw [if_pos (by simpa using c), if_neg (by simp only [totL]; omega)]
  rw [if_neg (by simpa using c)]
  have hs : (x.map (fun _ => 0)).sum = 0 := by
    clear e1 c w
    induction x with
    | nil => rfl
    | cons y x ih => simp [ih]
  rw [if_pos (by simp only [totL, hs]; omega)]
  first
    | (simp only [totL, hs]; done)
    | (simp only [totL, hs]; congr 1; done)
    | (simp only [totL, hs]; congr 1; omega)
def totEvent (x : Event) : Nat := totCommand x.Command + (totL (fun _ => 0)) x.Conf
theorem sz_Event (N : Nat) (x : Event) (l : Int) (h0 : 0 ≤ l) (h1 : l ≤ 1099511627776) (w : wfEvent x) (hN : Big N) : laws_szEvent N x l = some (if (totEvent x : Int) ≤ l then l - totEvent x else -1) := by
  have hM := maxLen_le
  unfold laws_szEvent
  unfold wfEvent at w
  rw [sz_Command N x.Command l (by omega) (by omega) w.2.2.2.2.1 hN]
  simp only [Option.bind_some]
  by_cases c1 : ¬ ((totCommand x.Command : Int) ≤ l)
  · rw [if_neg c1, if_pos (by decide), if_neg (by simp only [totEvent]; omega)]
  replace c1 := Classical.not_not.1 c1
  rw [if_pos c1, if_neg (by simp; omega)]
  rw [sz_IntS N x.Conf (l - (totCommand x.Command : Int)) (by omega) (by omega) w.2.2.2.2.2.1 hN]
  simp only [Option.bind_some]
  by_cases c2 : ¬ (((totL (fun _ => 0)) x.Conf : Int) ≤ (l - (totCommand x.Command : Int)))
  · rw [if_neg c2, if_pos (by decide), if_neg (by simp only [totEvent]; omega)]
  replace c2 := Classical.not_not.1 c2
  rw [if_pos c2, if_neg (by simp; omega)]
  rw [if_pos (by simp only [totEvent]; omega)]
  first
    | (simp only [totEvent]; done)
    | (simp only [totEvent]; congr 1; done)
    | (simp only [totEvent]; congr 1; omega)
theorem to_Command (N : Nat) (x : Command) (h : totCommand x ≤ 1099511627) (hN : Big N) : laws_toCommand N x = some x := by
  unfold laws_toCommand
  simp only [totCommand] at h
  try rfl
theorem to_IntS_r (N : Nat) (c : (List Int)) : ∀ (tl : (List Int)) (k : Nat) (acc : (List Int)), acc.length = k + tl.length → k + tl.length ≤ 1099511627776 → laws_toIntS_l1_r N c tl (k : Int) acc = some (acc.take k ++ tl)
  | [], k, acc, h, hk => by
    rw [laws_toIntS_l1_r, List.append_nil, List.take_of_length_le (by simp at h; omega)]
  | y :: tl, k, acc, h, hk => by
    simp only [List.length_cons] at h hk
    rw [laws_toIntS_l1_r]
    have hlt : k < acc.length := by omega
    simp only [Option.bind_some, at_lt hlt, w64_succ (k := k) (by omega), Int.toNat_natCast]
    rw [to_IntS_r N c tl (k + 1) _ (by simp; omega) (by omega), take_set_succ hlt, List.append_assoc]
    rfl
theorem to_IntS (N : Nat) (x : (List Int)) (h : (totL (fun _ => 0)) x ≤ 1099511627) (hN : Big N) : laws_toIntS N x = some x := by
  unfold laws_toIntS
  have hl : x.length ≤ 1099511627 := by simp only [totL] at h; omega
  rw [mk_some (by omega)]
  simp only [Option.bind_some, joinP]
  rw [laws_toIntS_l1_eq x (by omega) (by omega), show (0 : Int) = ((0 : Nat) : Int) from rfl, to_IntS_r N x x 0 _ (by simp) (by omega) ]
  simp
theorem to_Event (N : Nat) (x : Event) (h : totEvent x ≤ 1099511627) (hN : Big N) : laws_toEvent N x = some x := by
  unfold laws_toEvent
  simp only [totEvent] at h
  rw [to_Command N x.Command (by omega) hN]
  simp only [Option.bind_some]
  rw [to_IntS N x.Conf (by omega) hN]
  simp only [Option.bind_some]
  try rfl
theorem eq_Command (N : Nat) (x : Command) (h : totCommand x ≤ 1099511627) (hN : Big N) : laws_eqCommand N x x = some true := by
  unfold laws_eqCommand
  simp only [totCommand] at h
  simp
theorem eq_IntS_r (N : Nat) (hN : Big N) (c : (List Int)) (hc : c.length ≤ 1099511627776) : ∀ (d k : Nat), c.length = k + d → laws_eqIntS_l1_r N c c (c.drop k) (k : Int) = some (.inr ())
  | 0, k, h => by rw [List.drop_eq_nil_of_le (by omega), laws_eqIntS_l1_r]
  | d + 1, k, h => by
    have hk : k < c.length := by omega
    rw [List.drop_eq_getElem_cons hk, laws_eqIntS_l1_r]
    simp only [Option.bind_some, at_lt hk, w64_succ (k := k) (by omega)]
    have := eq_IntS_r N hN c hc  d (k + 1) (by omega)
    simpa using this
theorem eq_IntS (N : Nat) (x : (List Int)) (h : (totL (fun _ => 0)) x ≤ 1099511627) (hN : Big N) : laws_eqIntS N x x = some true := by
  unfold laws_eqIntS
  have hl : x.length ≤ 1099511627 := by simp only [totL] at h; omega
  have := eq_IntS_r N hN x (by omega)  x.length 0 (by omega)
  simp only [List.drop_zero] at this
  simp only [joinP]
  rw [if_neg (by simp), laws_eqIntS_l1_eq x x (by omega) (by omega), show (0 : Int) = ((0 : Nat) : Int) from rfl, this]
  rfl
theorem eq_Event (N : Nat) (x : Event) (h : totEvent x ≤ 1099511627) (hN : Big N) : laws_eqEvent N x x = some true := by
  unfold laws_eqEvent
  simp only [totEvent] at h
  simp [eq_Command N x.Command (by omega) hN, eq_IntS N x.Conf (by omega) hN]
end Go.Proofs.Ytebbgdjmplceiaa.Pe.FnExactEventOk
