/- What the law's helper functions tell. -/
import Derived.Test.YtebbgdjmplceiaaPeLib
import Derived.Test.YtebbgdjmplceiaaPeFFnExactWhole2
namespace Go.Proofs.Ytebbgdjmplceiaa.Pe.FnExactWhole
open Go Go.RowKit
set_option linter.unusedVariables false
set_option linter.unusedSimpArgs false
set_option maxHeartbeats 40000000
theorem le_sum {α : Type} {f : α → Nat} {y : α} : ∀ {xs : List α}, y ∈ xs → f y ≤ (xs.map f).sum
  | x :: xs, h => by
    rcases List.mem_cons.1 h with rfl | h
    · simp
    · have := le_sum (f := f) h
      simp only [List.map_cons, List.sum_cons]
      omega
def wfEntry (x : Entry) : Prop := (WI .i64 x.Term) ∧ (WI .i64 x.Kind) ∧ (x.Data.size ≤ maxLen)
def wfLog (x : Log) : Prop := (WI .i64 x.Start) ∧ (WI .i64 x.StartTerm) ∧ (x.Entries.length ≤ maxLen ∧ ∀ y ∈ x.Entries, wfEntry y)
def wfLeader (x : Leader) : Prop := (WI .i64 x.Node) ∧ (WI .i64 x.Term) ∧ (wfLog x.Log)
def wfApplied (x : Applied) : Prop := (WI .i64 x.Node) ∧ (WI .i64 x.Term) ∧ (WI .i64 x.Index) ∧ (wfEntry x.Entry)
def totEntry (x : Entry) : Nat := ByteArray.size x.Data
theorem sz_Entry (N : Nat) (x : Entry) (l : Int) (h0 : 0 ≤ l) (h1 : l ≤ 1099511627776) (w : wfEntry x) (hN : Big N) : laws_szEntry N x l = some (if (totEntry x : Int) ≤ l then l - totEntry x else -1) := by
  have hM := maxLen_le
  unfold laws_szEntry
  unfold wfEntry at w
  have e1 : w64 (l - (x.Data.size : Int)) = l - x.Data.size := w64_id (by have := w.2.2; omega) (by omega)
  rw [e1]
  by_cases c1 : l - (x.Data.size : Int) < 0
  · rw [if_pos (by simpa using c1), if_neg (by simp only [totEntry]; omega)]
  rw [if_neg (by simpa using c1)]
  rw [if_pos (by simp only [totEntry]; omega)]
  first
    | (simp only [totEntry]; done)
    | (simp only [totEntry]; congr 1; omega)
theorem sz_EntryS_r (N : Nat) (hN : Big N) (c : (List Entry)) : ∀ (tl : (List Entry)) (l i : Int), 0 ≤ l → l ≤ 1099511627776 → (∀ y ∈ tl, wfEntry y) → laws_szEntryS_l1_r N c tl l i = some (if ((tl.map totEntry).sum : Int) ≤ l then .inr (l - (tl.map totEntry).sum) else .inl (-1))
  | [], l, i, h0, h1, w => by simp [laws_szEntryS_l1_r, h0]
  | y :: tl, l, i, h0, h1, w => by
    rw [laws_szEntryS_l1_r]
    simp only [Option.bind_some, List.map_cons, List.sum_cons]
    rw [sz_Entry N y l h0 h1 (w y (by simp)) hN]
    simp only [Option.bind_some]
    by_cases c1 : ¬ ((totEntry y : Int) ≤ l)
    · rw [if_neg c1, if_pos (by decide), if_neg (by omega)]
    replace c1 := Classical.not_not.1 c1
    rw [if_pos c1, if_neg (by simp; omega), sz_EntryS_r N hN c tl _ _ (by omega) (by omega) (fun z hz => w z (by simp [hz]))]
    by_cases c2 : ((tl.map totEntry).sum : Int) ≤ l - totEntry y
    · rw [if_pos c2, if_pos (by omega)]
      congr 2 <;> omega
    · rw [if_neg c2, if_neg (by omega)]
theorem sz_EntryS (N : Nat) (x : (List Entry)) (l : Int) (h0 : 0 ≤ l) (h1 : l ≤ 1099511627776) (w : x.length ≤ maxLen ∧ ∀ y ∈ x, wfEntry y) (hN : Big N) : laws_szEntryS N x l = some (if ((totL totEntry) x : Int) ≤ l then l - (totL totEntry) x else -1) := by
  have hM := maxLen_le
  unfold laws_szEntryS
  have e1 : w64 (l - (x.length : Int)) = l - x.length := w64_id (by have := w.1; omega) (by omega)
  rw [e1]
  by_cases c : l - (x.length : Int) < 0
  · rw [if_pos (by simpa using c), if_neg (by simp only [totL]; omega)]
  rw [if_neg (by simpa using c)]
  simp only [joinP]
  rw [laws_szEntryS_l1_eq x (by omega) (by omega), sz_EntryS_r N hN x x _ _ (by omega) (by omega) w.2]
  simp only [Option.bind_some]
  by_cases c2 : ((x.map totEntry).sum : Int) ≤ l - x.length
  · rw [if_pos c2, if_pos (by simp only [totL]; omega)]
    simp only [Sum.elim_inr, totL]
    congr 1 <;> omega
  · rw [if_neg c2, if_neg (by simp only [totL]; omega)]
    rfl
def totLog (x : Log) : Nat := (totL totEntry) x.Entries
theorem sz_Log (N : Nat) (x : Log) (l : Int) (h0 : 0 ≤ l) (h1 : l ≤ 1099511627776) (w : wfLog x) (hN : Big N) : laws_szLog N x l = some (if (totLog x : Int) ≤ l then l - totLog x else -1) := by
  have hM := maxLen_le
  unfold laws_szLog
  unfold wfLog at w
  rw [sz_EntryS N x.Entries l (by omega) (by omega) w.2.2 hN]
  simp only [Option.bind_some]
  by_cases c1 : ¬ (((totL totEntry) x.Entries : Int) ≤ l)
  · rw [if_neg c1, if_pos (by decide), if_neg (by simp only [totLog]; omega)]
  replace c1 := Classical.not_not.1 c1
  rw [if_pos c1, if_neg (by simp; omega)]
  rw [if_pos (by simp only [totLog]; omega)]
  first
    | (simp only [totLog]; done)
    | (simp only [totLog]; congr 1; omega)
def totLeader (x : Leader) : Nat := totLog x.Log
theorem sz_Leader (N : Nat) (x : Leader) (l : Int) (h0 : 0 ≤ l) (h1 : l ≤ 1099511627776) (w : wfLeader x) (hN : Big N) : laws_szLeader N x l = some (if (totLeader x : Int) ≤ l then l - totLeader x else -1) := by
  have hM := maxLen_le
  unfold laws_szLeader
  unfold wfLeader at w
  rw [sz_Log N x.Log l (by omega) (by omega) w.2.2 hN]
  simp only [Option.bind_some]
  by_cases c1 : ¬ ((totLog x.Log : Int) ≤ l)
  · rw [if_neg c1, if_pos (by decide), if_neg (by simp only [totLeader]; omega)]
  replace c1 := Classical.not_not.1 c1
  rw [if_pos c1, if_neg (by simp; omega)]
  rw [if_pos (by simp only [totLeader]; omega)]
  first
    | (simp only [totLeader]; done)
    | (simp only [totLeader]; congr 1; omega)
theorem sz_LeaderS_r (N : Nat) (hN : Big N) (c : (List Leader)) : ∀ (tl : (List Leader)) (l i : Int), 0 ≤ l → l ≤ 1099511627776 → (∀ y ∈ tl, wfLeader y) → laws_szLeaderS_l1_r N c tl l i = some (if ((tl.map totLeader).sum : Int) ≤ l then .inr (l - (tl.map totLeader).sum) else .inl (-1))
  | [], l, i, h0, h1, w => by simp [laws_szLeaderS_l1_r, h0]
  | y :: tl, l, i, h0, h1, w => by
    rw [laws_szLeaderS_l1_r]
    simp only [Option.bind_some, List.map_cons, List.sum_cons]
    rw [sz_Leader N y l h0 h1 (w y (by simp)) hN]
    simp only [Option.bind_some]
    by_cases c1 : ¬ ((totLeader y : Int) ≤ l)
    · rw [if_neg c1, if_pos (by decide), if_neg (by omega)]
    replace c1 := Classical.not_not.1 c1
    rw [if_pos c1, if_neg (by simp; omega), sz_LeaderS_r N hN c tl _ _ (by omega) (by omega) (fun z hz => w z (by simp [hz]))]
    by_cases c2 : ((tl.map totLeader).sum : Int) ≤ l - totLeader y
    · rw [if_pos c2, if_pos (by omega)]
      congr 2 <;> omega
    · rw [if_neg c2, if_neg (by omega)]
theorem sz_LeaderS (N : Nat) (x : (List Leader)) (l : Int) (h0 : 0 ≤ l) (h1 : l ≤ 1099511627776) (w : x.length ≤ maxLen ∧ ∀ y ∈ x, wfLeader y) (hN : Big N) : laws_szLeaderS N x l = some (if ((totL totLeader) x : Int) ≤ l then l - (totL totLeader) x else -1) := by
  have hM := maxLen_le
  unfold laws_szLeaderS
  have e1 : w64 (l - (x.length : Int)) = l - x.length := w64_id (by have := w.1; omega) (by omega)
  rw [e1]
  by_cases c : l - (x.length : Int) < 0
  · rw [if_pos (by simpa using c), if_neg (by simp only [totL]; omega)]
  rw [if_neg (by simpa using c)]
  simp only [joinP]
  rw [laws_szLeaderS_l1_eq x (by omega) (by omega), sz_LeaderS_r N hN x x _ _ (by omega) (by omega) w.2]
  simp only [Option.bind_some]
  by_cases c2 : ((x.map totLeader).sum : Int) ≤ l - x.length
  · rw [if_pos c2, if_pos (by simp only [totL]; omega)]
    simp only [Sum.elim_inr, totL]
    congr 1 <;> omega
  · rw [if_neg c2, if_neg (by simp only [totL]; omega)]
    rfl
def totApplied (x : Applied) : Nat := totEntry x.Entry
theorem sz_Applied (N : Nat) (x : Applied) (l : Int) (h0 : 0 ≤ l) (h1 : l ≤ 1099511627776) (w : wfApplied x) (hN : Big N) : laws_szApplied N x l = some (if (totApplied x : Int) ≤ l then l - totApplied x else -1) := by
  have hM := maxLen_le
  unfold laws_szApplied
  unfold wfApplied at w
  rw [sz_Entry N x.Entry l (by omega) (by omega) w.2.2.2 hN]
  simp only [Option.bind_some]
  by_cases c1 : ¬ ((totEntry x.Entry : Int) ≤ l)
  · rw [if_neg c1, if_pos (by decide), if_neg (by simp only [totApplied]; omega)]
  replace c1 := Classical.not_not.1 c1
  rw [if_pos c1, if_neg (by simp; omega)]
  rw [if_pos (by simp only [totApplied]; omega)]
  first
    | (simp only [totApplied]; done)
    | (simp only [totApplied]; congr 1; omega)
theorem to_Entry (N : Nat) (x : Entry) (h : totEntry x ≤ 1099511627) (hN : Big N) : laws_toEntry N x = some x := by
  unfold laws_toEntry
  simp only [totEntry] at h
  try rfl
theorem to_EntryS_r (N : Nat) (hN : Big N) (c : (List Entry)) : ∀ (tl : (List Entry)) (k : Nat) (acc : (List Entry)), acc.length = k + tl.length → k + tl.length ≤ 1099511627776 → (∀ y ∈ tl, totEntry y ≤ 1099511627) → laws_toEntryS_l1_r N c tl (k : Int) acc = some (acc.take k ++ tl)
  | [], k, acc, h, hk, w => by
    rw [laws_toEntryS_l1_r, List.append_nil, List.take_of_length_le (by simp at h; omega)]
  | y :: tl, k, acc, h, hk, w => by
    simp only [List.length_cons] at h hk
    rw [laws_toEntryS_l1_r]
    have hlt : k < acc.length := by omega
    simp only [Option.bind_some, to_Entry N y (w y (by simp)) hN, at_lt hlt, w64_succ (k := k) (by omega), Int.toNat_natCast]
    rw [to_EntryS_r N hN c tl (k + 1) _ (by simp; omega) (by omega) (fun z hz => w z (by simp [hz])), take_set_succ hlt, List.append_assoc]
    rfl
theorem to_EntryS (N : Nat) (x : (List Entry)) (h : (totL totEntry) x ≤ 1099511627) (hN : Big N) : laws_toEntryS N x = some x := by
  unfold laws_toEntryS
  have hl : x.length ≤ 1099511627 := by simp only [totL] at h; omega
  rw [mk_some (by omega)]
  simp only [Option.bind_some, joinP]
  rw [laws_toEntryS_l1_eq x (by omega) (by omega), show (0 : Int) = ((0 : Nat) : Int) from rfl, to_EntryS_r N hN x x 0 _ (by simp) (by omega) (fun y hy => Nat.le_trans (le_sum hy) (by simp only [totL] at h; omega))]
  simp
theorem to_Log (N : Nat) (x : Log) (h : totLog x ≤ 1099511627) (hN : Big N) : laws_toLog N x = some x := by
  unfold laws_toLog
  simp only [totLog] at h
  rw [to_EntryS N x.Entries (by omega) hN]
  simp only [Option.bind_some]
  try rfl
theorem to_Leader (N : Nat) (x : Leader) (h : totLeader x ≤ 1099511627) (hN : Big N) : laws_toLeader N x = some x := by
  unfold laws_toLeader
  simp only [totLeader] at h
  rw [to_Log N x.Log (by omega) hN]
  simp only [Option.bind_some]
  try rfl
theorem to_LeaderS_r (N : Nat) (hN : Big N) (c : (List Leader)) : ∀ (tl : (List Leader)) (k : Nat) (acc : (List Leader)), acc.length = k + tl.length → k + tl.length ≤ 1099511627776 → (∀ y ∈ tl, totLeader y ≤ 1099511627) → laws_toLeaderS_l1_r N c tl (k : Int) acc = some (acc.take k ++ tl)
  | [], k, acc, h, hk, w => by
    rw [laws_toLeaderS_l1_r, List.append_nil, List.take_of_length_le (by simp at h; omega)]
  | y :: tl, k, acc, h, hk, w => by
    simp only [List.length_cons] at h hk
    rw [laws_toLeaderS_l1_r]
    have hlt : k < acc.length := by omega
    simp only [Option.bind_some, to_Leader N y (w y (by simp)) hN, at_lt hlt, w64_succ (k := k) (by omega), Int.toNat_natCast]
    rw [to_LeaderS_r N hN c tl (k + 1) _ (by simp; omega) (by omega) (fun z hz => w z (by simp [hz])), take_set_succ hlt, List.append_assoc]
    rfl
theorem to_LeaderS (N : Nat) (x : (List Leader)) (h : (totL totLeader) x ≤ 1099511627) (hN : Big N) : laws_toLeaderS N x = some x := by
  unfold laws_toLeaderS
  have hl : x.length ≤ 1099511627 := by simp only [totL] at h; omega
  rw [mk_some (by omega)]
  simp only [Option.bind_some, joinP]
  rw [laws_toLeaderS_l1_eq x (by omega) (by omega), show (0 : Int) = ((0 : Nat) : Int) from rfl, to_LeaderS_r N hN x x 0 _ (by simp) (by omega) (fun y hy => Nat.le_trans (le_sum hy) (by simp only [totL] at h; omega))]
  simp
theorem to_Applied (N : Nat) (x : Applied) (h : totApplied x ≤ 1099511627) (hN : Big N) : laws_toApplied N x = some x := by
  unfold laws_toApplied
  simp only [totApplied] at h
  rw [to_Entry N x.Entry (by omega) hN]
  simp only [Option.bind_some]
  try rfl
theorem eq_Entry (N : Nat) (x : Entry) (h : totEntry x ≤ 1099511627) (hN : Big N) : laws_eqEntry N x x = some true := by
  unfold laws_eqEntry
  simp only [totEntry] at h
  simp
theorem eq_EntryS_r (N : Nat) (hN : Big N) (c : (List Entry)) (hc : c.length ≤ 1099511627776) (w : ∀ y ∈ c, totEntry y ≤ 1099511627) : ∀ (d k : Nat), c.length = k + d → laws_eqEntryS_l1_r N c c (c.drop k) (k : Int) = some (.inr ())
  | 0, k, h => by rw [List.drop_eq_nil_of_le (by omega), laws_eqEntryS_l1_r]
  | d + 1, k, h => by
    have hk : k < c.length := by omega
    rw [List.drop_eq_getElem_cons hk, laws_eqEntryS_l1_r]
    simp only [Option.bind_some, at_lt hk, w64_succ (k := k) (by omega)]
    have := eq_EntryS_r N hN c hc w d (k + 1) (by omega)
    simpa [eq_Entry N _ (w _ (List.getElem_mem hk)) hN] using this
theorem eq_EntryS (N : Nat) (x : (List Entry)) (h : (totL totEntry) x ≤ 1099511627) (hN : Big N) : laws_eqEntryS N x x = some true := by
  unfold laws_eqEntryS
  have hl : x.length ≤ 1099511627 := by simp only [totL] at h; omega
  have := eq_EntryS_r N hN x (by omega) (fun y hy => Nat.le_trans (le_sum hy) (by simp only [totL] at h; omega)) x.length 0 (by omega)
  simp only [List.drop_zero] at this
  simp only [joinP]
  rw [if_neg (by simp), laws_eqEntryS_l1_eq x x (by omega) (by omega), show (0 : Int) = ((0 : Nat) : Int) from rfl, this]
  rfl
theorem eq_Log (N : Nat) (x : Log) (h : totLog x ≤ 1099511627) (hN : Big N) : laws_eqLog N x x = some true := by
  unfold laws_eqLog
  simp only [totLog] at h
  simp [eq_EntryS N x.Entries (by omega) hN]
theorem eq_Leader (N : Nat) (x : Leader) (h : totLeader x ≤ 1099511627) (hN : Big N) : laws_eqLeader N x x = some true := by
  unfold laws_eqLeader
  simp only [totLeader] at h
  simp [eq_Log N x.Log (by omega) hN]
theorem eq_LeaderS_r (N : Nat) (hN : Big N) (c : (List Leader)) (hc : c.length ≤ 1099511627776) (w : ∀ y ∈ c, totLeader y ≤ 1099511627) : ∀ (d k : Nat), c.length = k + d → laws_eqLeaderS_l1_r N c c (c.drop k) (k : Int) = some (.inr ())
  | 0, k, h => by rw [List.drop_eq_nil_of_le (by omega), laws_eqLeaderS_l1_r]
  | d + 1, k, h => by
    have hk : k < c.length := by omega
    rw [List.drop_eq_getElem_cons hk, laws_eqLeaderS_l1_r]
    simp only [Option.bind_some, at_lt hk, w64_succ (k := k) (by omega)]
    have := eq_LeaderS_r N hN c hc w d (k + 1) (by omega)
    simpa [eq_Leader N _ (w _ (List.getElem_mem hk)) hN] using this
theorem eq_LeaderS (N : Nat) (x : (List Leader)) (h : (totL totLeader) x ≤ 1099511627) (hN : Big N) : laws_eqLeaderS N x x = some true := by
  unfold laws_eqLeaderS
  have hl : x.length ≤ 1099511627 := by simp only [totL] at h; omega
  have := eq_LeaderS_r N hN x (by omega) (fun y hy => Nat.le_trans (le_sum hy) (by simp only [totL] at h; omega)) x.length 0 (by omega)
  simp only [List.drop_zero] at this
  simp only [joinP]
  rw [if_neg (by simp), laws_eqLeaderS_l1_eq x x (by omega) (by omega), show (0 : Int) = ((0 : Nat) : Int) from rfl, this]
  rfl
end Go.Proofs.Ytebbgdjmplceiaa.Pe.FnExactWhole
