/- What the law's helper functions tell. -/
import Derived.Test.YtebbgdjmplceiaaPeLib
import Derived.Test.YtebbgdjmplceiaaPeFFnExactOnce1
namespace Go.Proofs.Ytebbgdjmplceiaa.Pe.FnExactOnce
open Go Go.RowKit
set_option linter.unusedVariables false
set_option linter.unusedSimpArgs false
set_option maxHeartbeats 40000000
theorem le_sum {α : Type} {f : α → Nat} {y : α} : ∀ {xs : List α}, y ∈ xs → f y ≤ (xs.map f).sum
  | x :: xs, h => by
    rcases List.mem_cons.1 h with rfl | h
    · simp
    · have := le_sum (f := f) h
      simp only [List.map_cons, List.sum_cons]
      omega
def wfCommand (x : Command) : Prop := (WI .i64 x.Op) ∧ (WI .i64 x.Session) ∧ (WI .i64 x.Seq) ∧ (x.Key.size ≤ maxLen) ∧ (x.Value.size ≤ maxLen) ∧ (x.Old.size ≤ maxLen)
def wfReply (x : Reply) : Prop := (WI .i64 x.Call) ∧ (WI .i64 x.Index) ∧ (wfCommand x.Command) ∧ (x.Text.size ≤ maxLen)
def totCommand (x : Command) : Nat := ByteArray.size x.Key + ByteArray.size x.Value + ByteArray.size x.Old
theorem sz_Command (N : Nat) (x : Command) (l : Int) (h0 : 0 ≤ l) (h1 : l ≤ 1099511627776) (w : wfCommand x) (hN : Big N) : laws_szCommand N x l = some (if (totCommand x : Int) ≤ l then l - totCommand x else -1) := by
  have hM := maxLen_le
  unfold laws_szCommand
  unfold wfCommand at w
  have e1 : w64 (l - (x.Key.size : Int)) = l - x.Key.size := w64_id (by have := w.2.2.2.1; omega) (by omega)
  rw [e1]
  by_cases c1 : l - (x.Key.size : Int) < 0
  · rw [if_pos (by simpa using c1), if_neg (by simp only [totCommand]; omega)]
  rw [if_neg (by simpa using c1)]
  have e2 : w64 ((l - (x.Key.size : Int)) - (x.Value.size : Int)) = (l - (x.Key.size : Int)) - x.Value.size := w64_id (by have := w.2.2.2.2.1; omega) (by omega)
  rw [e2]
  by_cases c2 : (l - (x.Key.size : Int)) - (x.Value.size : Int) < 0
  · rw [if_pos (by simpa using c2), if_neg (by simp only [totCommand]; omega)]
  rw [if_neg (by simpa using c2)]
  have e3 : w64 (((l - (x.Key.size : Int)) - (x.Value.size : Int)) - (x.Old.size : Int)) = ((l - (x.Key.size : Int)) - (x.Value.size : Int)) - x.Old.size := w64_id (by have := w.2.2.2.2.2; omega) (by omega)
  rw [e3]
  by_cases c3 : ((l - (x.Key.size : Int)) - (x.Value.size : Int)) - (x.Old.size : Int) < 0
  · rw [if_pos (by simpa using c3), if_neg (by simp only [totCommand]; omega)]
  rw [if_neg (by simpa using c3)]
  rw [if_pos (by simp only [totCommand]; omega)]
  first
    | (simp only [totCommand]; done)
    | (simp only [totCommand]; congr 1; omega)
def totReply (x : Reply) : Nat := totCommand x.Command + ByteArray.size x.Text
theorem sz_Reply (N : Nat) (x : Reply) (l : Int) (h0 : 0 ≤ l) (h1 : l ≤ 1099511627776) (w : wfReply x) (hN : Big N) : laws_szReply N x l = some (if (totReply x : Int) ≤ l then l - totReply x else -1) := by
  have hM := maxLen_le
  unfold laws_szReply
  unfold wfReply at w
  rw [sz_Command N x.Command l (by omega) (by omega) w.2.2.1 hN]
  simp only [Option.bind_some]
  by_cases c1 : ¬ ((totCommand x.Command : Int) ≤ l)
  · rw [if_neg c1, if_pos (by decide), if_neg (by simp only [totReply]; omega)]
  replace c1 := Classical.not_not.1 c1
  rw [if_pos c1, if_neg (by simp; omega)]
  have e2 : w64 ((l - (totCommand x.Command : Int)) - (x.Text.size : Int)) = (l - (totCommand x.Command : Int)) - x.Text.size := w64_id (by have := w.2.2.2; omega) (by omega)
  rw [e2]
  by_cases c2 : (l - (totCommand x.Command : Int)) - (x.Text.size : Int) < 0
  · rw [if_pos (by simpa using c2), if_neg (by simp only [totReply]; omega)]
  rw [if_neg (by simpa using c2)]
  rw [if_pos (by simp only [totReply]; omega)]
  first
    | (simp only [totReply]; done)
    | (simp only [totReply]; congr 1; omega)
theorem sz_ReplyS_r (N : Nat) (hN : Big N) (c : (List Reply)) : ∀ (tl : (List Reply)) (l i : Int), 0 ≤ l → l ≤ 1099511627776 → (∀ y ∈ tl, wfReply y) → laws_szReplyS_l1_r N c tl l i = some (if ((tl.map totReply).sum : Int) ≤ l then .inr (l - (tl.map totReply).sum) else .inl (-1))
  | [], l, i, h0, h1, w => by simp [laws_szReplyS_l1_r, h0]
  | y :: tl, l, i, h0, h1, w => by
    rw [laws_szReplyS_l1_r]
    simp only [Option.bind_some, List.map_cons, List.sum_cons]
    rw [sz_Reply N y l h0 h1 (w y (by simp)) hN]
    simp only [Option.bind_some]
    by_cases c1 : ¬ ((totReply y : Int) ≤ l)
    · rw [if_neg c1, if_pos (by decide), if_neg (by omega)]
    replace c1 := Classical.not_not.1 c1
    rw [if_pos c1, if_neg (by simp; omega), sz_ReplyS_r N hN c tl _ _ (by omega) (by omega) (fun z hz => w z (by simp [hz]))]
    by_cases c2 : ((tl.map totReply).sum : Int) ≤ l - totReply y
    · rw [if_pos c2, if_pos (by omega)]
      congr 2 <;> omega
    · rw [if_neg c2, if_neg (by omega)]
theorem sz_ReplyS (N : Nat) (x : (List Reply)) (l : Int) (h0 : 0 ≤ l) (h1 : l ≤ 1099511627776) (w : x.length ≤ maxLen ∧ ∀ y ∈ x, wfReply y) (hN : Big N) : laws_szReplyS N x l = some (if ((totL totReply) x : Int) ≤ l then l - (totL totReply) x else -1) := by
  have hM := maxLen_le
  unfold laws_szReplyS
  have e1 : w64 (l - (x.length : Int)) = l - x.length := w64_id (by have := w.1; omega) (by omega)
  rw [e1]
  by_cases c : l - (x.length : Int) < 0
  · rw [if_pos (by simpa using c), if_neg (by simp only [totL]; omega)]
  rw [if_neg (by simpa using c)]
  simp only [joinP]
  rw [laws_szReplyS_l1_eq x (by omega) (by omega), sz_ReplyS_r N hN x x _ _ (by omega) (by omega) w.2]
  simp only [Option.bind_some]
  by_cases c2 : ((x.map totReply).sum : Int) ≤ l - x.length
  · rw [if_pos c2, if_pos (by simp only [totL]; omega)]
    simp only [Sum.elim_inr, totL]
    congr 1 <;> omega
  · rw [if_neg c2, if_neg (by simp only [totL]; omega)]
    rfl
theorem to_Command (N : Nat) (x : Command) (h : totCommand x ≤ 1099511627) (hN : Big N) : laws_toCommand N x = some x := by
  unfold laws_toCommand
  simp only [totCommand] at h
  try rfl
theorem to_Reply (N : Nat) (x : Reply) (h : totReply x ≤ 1099511627) (hN : Big N) : laws_toReply N x = some x := by
  unfold laws_toReply
  simp only [totReply] at h
  rw [to_Command N x.Command (by omega) hN]
  simp only [Option.bind_some]
  try rfl
theorem to_ReplyS_r (N : Nat) (hN : Big N) (c : (List Reply)) : ∀ (tl : (List Reply)) (k : Nat) (acc : (List Reply)), acc.length = k + tl.length → k + tl.length ≤ 1099511627776 → (∀ y ∈ tl, totReply y ≤ 1099511627) → laws_toReplyS_l1_r N c tl (k : Int) acc = some (acc.take k ++ tl)
  | [], k, acc, h, hk, w => by
    rw [laws_toReplyS_l1_r, List.append_nil, List.take_of_length_le (by simp at h; omega)]
  | y :: tl, k, acc, h, hk, w => by
    simp only [List.length_cons] at h hk
    rw [laws_toReplyS_l1_r]
    have hlt : k < acc.length := by omega
    simp only [Option.bind_some, to_Reply N y (w y (by simp)) hN, at_lt hlt, w64_succ (k := k) (by omega), Int.toNat_natCast]
    rw [to_ReplyS_r N hN c tl (k + 1) _ (by simp; omega) (by omega) (fun z hz => w z (by simp [hz])), take_set_succ hlt, List.append_assoc]
    rfl
theorem to_ReplyS (N : Nat) (x : (List Reply)) (h : (totL totReply) x ≤ 1099511627) (hN : Big N) : laws_toReplyS N x = some x := by
  unfold laws_toReplyS
  have hl : x.length ≤ 1099511627 := by simp only [totL] at h; omega
  rw [mk_some (by omega)]
  simp only [Option.bind_some, joinP]
  rw [laws_toReplyS_l1_eq x (by omega) (by omega), show (0 : Int) = ((0 : Nat) : Int) from rfl, to_ReplyS_r N hN x x 0 _ (by simp) (by omega) (fun y hy => Nat.le_trans (le_sum hy) (by simp only [totL] at h; omega))]
  simp
theorem eq_Command (N : Nat) (x : Command) (h : totCommand x ≤ 1099511627) (hN : Big N) : laws_eqCommand N x x = some true := by
  unfold laws_eqCommand
  simp only [totCommand] at h
  simp
theorem eq_Reply (N : Nat) (x : Reply) (h : totReply x ≤ 1099511627) (hN : Big N) : laws_eqReply N x x = some true := by
  unfold laws_eqReply
  simp only [totReply] at h
  simp [eq_Command N x.Command (by omega) hN]
theorem eq_ReplyS_r (N : Nat) (hN : Big N) (c : (List Reply)) (hc : c.length ≤ 1099511627776) (w : ∀ y ∈ c, totReply y ≤ 1099511627) : ∀ (d k : Nat), c.length = k + d → laws_eqReplyS_l1_r N c c (c.drop k) (k : Int) = some (.inr ())
  | 0, k, h => by rw [List.drop_eq_nil_of_le (by omega), laws_eqReplyS_l1_r]
  | d + 1, k, h => by
    have hk : k < c.length := by omega
    rw [List.drop_eq_getElem_cons hk, laws_eqReplyS_l1_r]
    simp only [Option.bind_some, at_lt hk, w64_succ (k := k) (by omega)]
    have := eq_ReplyS_r N hN c hc w d (k + 1) (by omega)
    simpa [eq_Reply N _ (w _ (List.getElem_mem hk)) hN] using this
theorem eq_ReplyS (N : Nat) (x : (List Reply)) (h : (totL totReply) x ≤ 1099511627) (hN : Big N) : laws_eqReplyS N x x = some true := by
  unfold laws_eqReplyS
  have hl : x.length ≤ 1099511627 := by simp only [totL] at h; omega
  have := eq_ReplyS_r N hN x (by omega) (fun y hy => Nat.le_trans (le_sum hy) (by simp only [totL] at h; omega)) x.length 0 (by omega)
  simp only [List.drop_zero] at this
  simp only [joinP]
  rw [if_neg (by simp), laws_eqReplyS_l1_eq x x (by omega) (by omega), show (0 : Int) = ((0 : Nat) : Int) from rfl, this]
  rfl
end Go.Proofs.Ytebbgdjmplceiaa.Pe.FnExactOnce
