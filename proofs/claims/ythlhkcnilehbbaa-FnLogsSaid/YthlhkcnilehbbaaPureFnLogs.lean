/- The law FnLogs, as a statement over lists and numbers alone. -/
import Derived.Test.YthlhkcnilehbbaaPeHFnLogs
import Derived.KernelRfl
import Derived.Lib.ItoaNum
import Derived.Lib.ItoaLen
import Derived.Lib.AtoiAll
namespace Go.Proofs.Ythlhkcnilehbbaa.Pe.FnLogs
open Go Go.RowKit
set_option linter.unusedVariables false
set_option linter.unusedSimpArgs false
set_option maxHeartbeats 4000000
theorem in_eq (N : Nat) (x a b : Int) : spec_l01In N x a b = some (decide (a ≤ x ∧ x ≤ b)) := by
  unfold spec_l01In
  by_cases h : a ≤ x <;> simp [h]
theorem within_eq (N : Nat) (x a b : Int) : impl_within N x a b = some (decide (a ≤ x ∧ x ≤ b)) := by
  unfold impl_within
  by_cases h : a ≤ x <;> simp [h]
/-- Numbers that rise, each within two bounds. -/
def rise (lo hi : Int) : Option Int → List Int → Bool
  | _, [] => true
  | p, x :: xs => decide (lo ≤ x ∧ x ≤ hi) && ((match p with | some q => decide (q < x) | none => true) && rise lo hi (some x) xs)
theorem rise_cons (lo hi : Int) (p : Option Int) (x : Int) (xs : List Int) : rise lo hi p (x :: xs) = (decide (lo ≤ x ∧ x ≤ hi) && ((match p with | some q => decide (q < x) | none => true) && rise lo hi (some x) xs)) := by
  cases p <;> rfl
def confOk (c : List Int) : Bool := decide (c.length ≤ 4) && (decide (1 ≤ c.length) && rise 1 4 none c)
def prev (c : List Int) (k : Nat) : Option Int := if k = 0 then none else c[k - 1]?
theorem prev_succ {c : List Int} {k : Nat} (h : k < c.length) : prev c (k + 1) = some c[k] := by
  simp [prev, h]
theorem rise_drop {c : List Int} {k : Nat} {lo hi : Int} (h : k < c.length) : rise lo hi (prev c k) (c.drop k) = (decide (lo ≤ c[k] ∧ c[k] ≤ hi) && ((if k = 0 then true else decide (c[k - 1]'(by omega) < c[k])) && rise lo hi (prev c (k + 1)) (c.drop (k + 1)))) := by
  rw [List.drop_eq_getElem_cons h, rise_cons, prev_succ h]
  by_cases h0 : k = 0
  · simp [prev, h0]
  · simp only [prev, h0, if_false]
    rw [List.getElem?_eq_getElem (by omega)]
theorem at_pred {c : List Int} {k : Nat} (h : k < c.length) (h0 : k ≠ 0) (hc : c.length ≤ 1099511627776) : at? c (w64 ((k : Int) - 1)) = some (c[k - 1]'(by omega)) := by
  rw [w64_id (by omega) (by omega), show (k : Int) - 1 = ((k - 1 : Nat) : Int) by omega, at_lt]
theorem rise_r (N : Nat) (c : List Int) (lo hi : Int) (hc : c.length ≤ 1099511627776) : ∀ (d k : Nat), c.length = k + d → spec_l07Rise_l1_r N c lo hi (c.drop k) (k : Int) = some (if rise lo hi (prev c k) (c.drop k) then .inr () else .inl false)
  | 0, k, h => by rw [List.drop_eq_nil_of_le (by omega), spec_l07Rise_l1_r]; rfl
  | d + 1, k, h => by
    have hk : k < c.length := by omega
    rw [rise_drop hk, List.drop_eq_getElem_cons hk, spec_l07Rise_l1_r]
    simp only [joinP, Option.bind_some, in_eq, w64_succ (k := k) (by omega), rise_r N c lo hi hc d (k + 1) (by omega)]
    by_cases h1 : lo ≤ c[k] ∧ c[k] ≤ hi
    · by_cases h0 : k = 0
      · subst h0
        simp [h1]
      · rw [at_pred hk h0 hc]
        have : (0 : Int) < k := by omega
        by_cases h2 : c[k - 1] < c[k]
        · have h3 : ¬ c[k] ≤ c[k - 1] := by omega
          simp [h1, h0, h2, h3]
        · have h3 : c[k] ≤ c[k - 1] := by omega
          simp [h1, h0, h2, h3]
    · simp [h1]
theorem rise_eq (N : Nat) (hN : Big N) (c : List Int) (lo hi : Int) (hc : c.length ≤ 1099511627776) : spec_l07Rise N c lo hi = some (rise lo hi none c) := by
  unfold spec_l07Rise
  simp only [joinP]
  rw [spec_l07Rise_l1_eq c lo hi (by omega) (by omega), show (0 : Int) = ((0 : Nat) : Int) from rfl]
  have := rise_r N c lo hi hc c.length 0 (by omega)
  rw [List.drop_zero] at this
  rw [this]
  simp only [prev, if_true]
  cases rise lo hi none c <;> rfl
theorem confOk_spec (N : Nat) (hN : Big N) (c : List Int) (hc : c.length ≤ 1099511627776) : spec_ConfOk N c = some (confOk c) := by
  unfold spec_ConfOk confOk
  simp only [in_eq, Option.bind_some, rise_eq N hN c 1 4 hc]
  by_cases h1 : c.length ≤ 4
  · by_cases h2 : 1 ≤ c.length
    · have h3 : (1 : Int) ≤ c.length ∧ (c.length : Int) ≤ 4 := by omega
      simp [h1, h2, h3]
    · have h3 : ¬ ((1 : Int) ≤ c.length ∧ (c.length : Int) ≤ 4) := by omega
      simp only [h3, if_false, h2, decide_false, Bool.false_and, Bool.and_false, Bool.false_eq_true]
  · have h3 : ¬ ((1 : Int) ≤ c.length ∧ (c.length : Int) ≤ 4) := by omega
    simp only [h3, if_false, h1, decide_false, Bool.false_and, Bool.and_false, Bool.false_eq_true]
theorem conf_r (N : Nat) (c : List Int) (hc : c.length ≤ 1099511627776) : ∀ (d k : Nat), c.length = k + d → impl_ConfOk_l1_r N c (c.drop k) (k : Int) = some (if rise 1 4 (prev c k) (c.drop k) then .inr () else .inl false)
  | 0, k, h => by rw [List.drop_eq_nil_of_le (by omega), impl_ConfOk_l1_r]; rfl
  | d + 1, k, h => by
    have hk : k < c.length := by omega
    rw [rise_drop hk, List.drop_eq_getElem_cons hk, impl_ConfOk_l1_r]
    simp only [joinP, Option.bind_some, within_eq, w64_succ (k := k) (by omega), conf_r N c hc d (k + 1) (by omega)]
    by_cases h1 : (1 : Int) ≤ c[k] ∧ c[k] ≤ 4
    · by_cases h0 : k = 0
      · subst h0
        simp [h1]
      · rw [at_pred hk h0 hc]
        have : (0 : Int) < k := by omega
        by_cases h2 : c[k - 1] < c[k]
        · have h3 : ¬ c[k] ≤ c[k - 1] := by omega
          simp [h1, h0, h2, h3]
        · have h3 : c[k] ≤ c[k - 1] := by omega
          simp [h1, h0, h2, h3]
    · simp [h1]
theorem confOk_impl (N : Nat) (hN : Big N) (c : List Int) (hc : c.length ≤ 1099511627776) : impl_ConfOk N c = some (confOk c) := by
  unfold impl_ConfOk confOk
  simp only [joinP]
  rw [impl_ConfOk_l1_eq c (by omega) (by omega), show (0 : Int) = ((0 : Nat) : Int) from rfl]
  have := conf_r N c hc c.length 0 (by omega)
  rw [List.drop_zero] at this
  rw [this]
  simp only [prev, if_true, within_eq]
  cases rise 1 4 none c with
  | false => simp
  | true =>
    simp only [if_true, Option.bind_some, Sum.elim_inr, Bool.and_true, Option.some.injEq]
    rw [← Bool.decide_and]
    simp only [decide_eq_decide]
    omega
theorem confOk_len {c : List Int} (h : confOk c = true) : 1 ≤ c.length ∧ c.length ≤ 4 := by
  unfold confOk at h
  simp only [Bool.and_eq_true, decide_eq_true_eq] at h
  exact ⟨h.2.1, h.1⟩
def emp : ByteArray := ⟨#[]⟩
theorem emp_size {t : ByteArray} (h : t = (⟨#[]⟩ : ByteArray)) : t.size = 0 := by subst h; rfl
def cmdOk (x : Command) : Bool := decide ((1 ≤ x.Op ∧ x.Op ≤ 5) ∧ (0 ≤ x.Session ∧ x.Session ≤ 100000) ∧ (0 ≤ x.Seq ∧ x.Seq ≤ 100000) ∧ (x.Value.size ≤ 12 ∧ x.Old.size ≤ 12) ∧
  (if x.Op = 1 then x.Session = 0 ∧ x.Seq = 0 ∧ x.Key = (⟨#[]⟩ : ByteArray) ∧ x.Value = (⟨#[]⟩ : ByteArray) ∧ x.Old = (⟨#[]⟩ : ByteArray)
   else (1 ≤ x.Key.size ∧ x.Key.size ≤ 9) ∧ (x.Op = 2 ∨ x.Op = 4 → x.Value = (⟨#[]⟩ : ByteArray)) ∧ (x.Op = 2 ∨ x.Op = 3 ∨ x.Op = 4 → x.Old = (⟨#[]⟩ : ByteArray))))
theorem iff_b {b : Bool} {p : Prop} [Decidable p] (h : b = true ↔ p) : b = decide p := by
  cases b with
  | true => exact (decide_eq_true (h.1 rfl)).symm
  | false => exact (decide_eq_false (fun hp => by cases h.2 hp)).symm
theorem cmdOk_spec (N : Nat) (x : Command) : spec_CommandOk N x = some (cmdOk x) := by
  unfold spec_CommandOk cmdOk
  simp only [in_eq, Option.bind_some]
  repeat' split
  all_goals (refine congrArg some (iff_b ?_))
  all_goals simp only [Bool.not_eq_true', decide_eq_false_iff_not, decide_eq_true_eq, beq_iff_eq, Bool.and_eq_true, Bool.bne_false, Bool.xor_false, Bool.false_eq_true, false_iff, true_iff, Bool.and_true] at *
  all_goals grind
/-- A text's bytes, as numbers. -/
def ints (t : ByteArray) : List Int := t.data.toList.map fun b => (b.toNat : Int)
theorem ints_len (t : ByteArray) : (ints t).length = t.size := by
  unfold ints
  rw [List.length_map, Array.length_toList]
  rfl
theorem sat_lt {t : ByteArray} {k : Nat} (h : k < t.size) : sat? t (k : Int) = some ((ints t)[k]'(by rw [ints_len]; exact h)) := by
  unfold sat?
  rw [if_pos (by omega), Int.toNat_natCast, getElem?_pos t k h]
  simp only [ints, List.getElem_map, Option.map_some]
  rfl
theorem ints_w {t : ByteArray} {k : Nat} (h : k < (ints t).length) : w64 ((ints t)[k]) = (ints t)[k] := by
  have : (ints t)[k] = ((t.data.toList[k]'(by rw [ints_len] at h; rw [Array.length_toList]; exact h)).toNat : Int) := by simp only [ints, List.getElem_map]
  rw [this]
  have h2 := UInt8.toNat_lt (t.data.toList[k]'(by rw [ints_len] at h; rw [Array.length_toList]; exact h))
  exact w64_id (by omega) (by omega)
theorem take_one {α : Type} {xs : List α} {k : Nat} (h : k < xs.length) : xs.take k ++ [xs[k]] = xs.take (k + 1) := by
  rw [List.take_add_one, List.getElem?_eq_getElem h]
  rfl
/-- What a text tells as a conf. -/
def readConf (t : ByteArray) : List Int × Bool := if confOk (ints t) = true then (ints t, true) else ([], false)
theorem readConf_r (N : Nat) (t : ByteArray) (ht : t.size ≤ 1099511627) : ∀ (d k m : Nat), t.size = k + d → d < m → impl_ReadConf_l1 N t m (k : Int) ((ints t).take k) = some (ints t)
  | 0, k, m, h, hm => by
    obtain ⟨m, rfl⟩ : ∃ q, m = q + 1 := ⟨m - 1, by omega⟩
    rw [impl_ReadConf_l1, if_neg (by simp; omega), List.take_of_length_le (by rw [ints_len]; omega)]
  | d + 1, k, m, h, hm => by
    obtain ⟨m, rfl⟩ : ∃ q, m = q + 1 := ⟨m - 1, by omega⟩
    have hk : k < (ints t).length := by rw [ints_len]; omega
    rw [impl_ReadConf_l1, if_pos (by simp; omega), sat_lt (by omega)]
    simp only [Option.bind_some, ints_w hk, w64_succ (k := k) (by omega)]
    rw [cat_ok (by rw [List.length_take]; simp only [List.length_cons, List.length_nil]; omega), Option.bind_some, take_one hk]
    exact readConf_r N t ht d (k + 1) m (by omega) (by omega)
theorem readConf_impl (N : Nat) (hN : Big N) (t : ByteArray) (ht : t.size ≤ 1099511627) : impl_ReadConf N t = some (readConf t) := by
  unfold impl_ReadConf readConf
  simp only [joinP]
  have := readConf_r N t ht t.size 0 N (by omega) (by omega)
  rw [show (0 : Int) = ((0 : Nat) : Int) from rfl, show ([] : List Int) = (ints t).take 0 from rfl, this]
  simp only [Option.bind_some, confOk_impl N hN (ints t) (by rw [ints_len]; omega)]
  cases confOk (ints t) <;> rfl
theorem readConf_s (N : Nat) (t : ByteArray) (ht : t.size ≤ 1099511627) : ∀ (d k m : Nat), t.size = k + d → d < m → k ≤ 5 → spec_ReadConf_l1 N t m (k : Int) ((ints t).take k) = some ((ints t).take 5)
  | 0, k, m, h, hm, h5 => by
    obtain ⟨m, rfl⟩ : ∃ q, m = q + 1 := ⟨m - 1, by omega⟩
    rw [spec_ReadConf_l1, if_neg (by simp; omega), List.take_of_length_le (by rw [ints_len]; omega), List.take_of_length_le (by rw [ints_len]; omega)]
  | d + 1, k, m, h, hm, h5 => by
    obtain ⟨m, rfl⟩ : ∃ q, m = q + 1 := ⟨m - 1, by omega⟩
    have hk : k < (ints t).length := by rw [ints_len]; omega
    by_cases h4 : k = 5
    · subst h4
      rw [spec_ReadConf_l1, if_pos (by simp; omega), if_neg (by simp)]
    rw [spec_ReadConf_l1, if_pos (by simp; omega), if_pos (by simp; omega), sat_lt (by omega)]
    simp only [Option.bind_some, ints_w hk, w64_succ (k := k) (by omega)]
    rw [cat_ok (by rw [List.length_take]; simp only [List.length_cons, List.length_nil]; omega), Option.bind_some, take_one hk]
    exact readConf_s N t ht d (k + 1) m (by omega) (by omega) (by omega)
theorem readConf_spec (N : Nat) (hN : Big N) (t : ByteArray) (ht : t.size ≤ 1099511627) : spec_ReadConf N t = some (readConf t) := by
  unfold spec_ReadConf readConf
  simp only [joinP]
  have := readConf_s N t ht t.size 0 N (by omega) (by omega) (by omega)
  rw [show (0 : Int) = ((0 : Nat) : Int) from rfl, show ([] : List Int) = (ints t).take 0 from rfl, this]
  simp only [Option.bind_some, confOk_spec N hN ((ints t).take 5) (by rw [List.length_take]; omega)]
  by_cases h5 : t.size ≤ 5
  · rw [List.take_of_length_le (by rw [ints_len]; exact h5), if_neg (by simp [ints_len])]
    cases confOk (ints t) <;> rfl
  · have hf : confOk (ints t) = false := by
      cases hc : confOk (ints t) with
      | false => rfl
      | true => have := confOk_len hc; rw [ints_len] at this; omega
    rw [if_pos (by rw [List.length_take, ints_len]; simp; omega), hf]
    rfl
def entOk (e : Entry) : Bool := decide (0 ≤ e.Term ∧ e.Term ≤ 100000) && (if e.Kind = 1 then decide (e.Data = (⟨#[]⟩ : ByteArray)) else if e.Kind = 2 then confOk (ints e.Data) else if e.Kind = 3 then decide (e.Data.size ≤ 120) else false)
theorem readConf_ok (t : ByteArray) : (readConf t).2 = confOk (ints t) := by
  unfold readConf
  cases confOk (ints t) <;> rfl
theorem entOk_spec (N : Nat) (hN : Big N) (e : Entry) (h : e.Data.size ≤ 1099511627) : spec_EntryOk N e = some (entOk e) := by
  unfold spec_EntryOk entOk
  simp only [in_eq, Option.bind_some, readConf_spec N hN e.Data h, readConf_ok]
  by_cases h0 : 0 ≤ e.Term ∧ e.Term ≤ 100000
  · by_cases h1 : e.Kind = 1
    · simp [h0, h1]
    · by_cases h2 : e.Kind = 2
      · simp [h0, h2]
      · by_cases h3 : e.Kind = 3
        · simp [h0, h3]
          omega
        · simp [h1, h2, h3]
  · simp [h0]
theorem entOk_impl (N : Nat) (hN : Big N) (e : Entry) (h : e.Data.size ≤ 1099511627) : impl_EntryOk N e = some (entOk e) := by
  rw [← entOk_spec N hN e h]
  unfold spec_EntryOk impl_EntryOk
  simp only [in_eq, within_eq, readConf_spec N hN e.Data h, readConf_impl N hN e.Data h]
def termsOk : Int → List Entry → Bool
  | _, [] => true
  | t, e :: es => entOk e && (decide (t ≤ e.Term) && termsOk e.Term es)
theorem termsOk_cons (t : Int) (e : Entry) (es : List Entry) : termsOk t (e :: es) = (entOk e && (decide (t ≤ e.Term) && termsOk e.Term es)) := rfl
def logOk (l : Log) : Bool := decide (0 ≤ l.Start ∧ l.Start ≤ 100000) && (decide (0 ≤ l.StartTerm ∧ l.StartTerm ≤ 100000) && (decide (l.Entries.length ≤ 120) && (decide (l.Start + l.Entries.length ≤ 100000) && termsOk l.StartTerm l.Entries)))
theorem logOk_s (N : Nat) (hN : Big N) (c : Log) : ∀ (es : List Entry) (t : Int) (k : Nat), k + es.length ≤ 1099511627 → (∀ e ∈ es, e.Data.size ≤ 1099511627) → spec_LogOk_l1_r N c es t (k : Int) = some (if termsOk t es then .inr () else .inl false)
  | [], t, k, hk, h => rfl
  | e :: es, t, k, hk, h => by
    simp only [List.length_cons] at hk
    rw [spec_LogOk_l1_r, termsOk_cons]
    simp only [Option.bind_some, entOk_spec N hN e (h e (by simp)), w64_succ (k := k) (by omega), logOk_s N hN c es e.Term (k + 1) (by omega) (fun z hz => h z (by simp [hz]))]
    cases entOk e with
    | false => simp
    | true =>
      by_cases ht : e.Term < t
      · have : ¬ t ≤ e.Term := by omega
        simp [ht, this]
      · have : t ≤ e.Term := by omega
        simp [ht, this]
theorem logOk_i (N : Nat) (hN : Big N) (c : Log) : ∀ (es : List Entry) (t : Int) (k : Nat), k + es.length ≤ 1099511627 → (∀ e ∈ es, e.Data.size ≤ 1099511627) → impl_LogOk_l1_r N c es t (k : Int) = some (if termsOk t es then .inr () else .inl false)
  | [], t, k, hk, h => rfl
  | e :: es, t, k, hk, h => by
    simp only [List.length_cons] at hk
    rw [impl_LogOk_l1_r, termsOk_cons]
    simp only [Option.bind_some, entOk_impl N hN e (h e (by simp)), w64_succ (k := k) (by omega), logOk_i N hN c es e.Term (k + 1) (by omega) (fun z hz => h z (by simp [hz]))]
    cases entOk e with
    | false => simp
    | true =>
      by_cases ht : e.Term < t
      · have : ¬ t ≤ e.Term := by omega
        simp [ht, this]
      · have : t ≤ e.Term := by omega
        simp [ht, this]
abbrev smallL (l : Log) : Prop := l.Entries.length ≤ 1099511627 ∧ ∀ e ∈ l.Entries, e.Data.size ≤ 1099511627
theorem logOk_spec (N : Nat) (hN : Big N) (l : Log) (h : smallL l) : spec_LogOk N l = some (logOk l) := by
  obtain ⟨hl, hd⟩ := h
  unfold spec_LogOk logOk
  simp only [in_eq, Option.bind_some, joinP]
  rw [spec_LogOk_l1_eq l (by omega) (by omega), show (0 : Int) = ((0 : Nat) : Int) from rfl, logOk_s N hN l l.Entries l.StartTerm 0 (by omega) hd]
  by_cases h1 : 0 ≤ l.Start ∧ l.Start ≤ 100000
  · by_cases h2 : 0 ≤ l.StartTerm ∧ l.StartTerm ≤ 100000
    · by_cases h3 : l.Entries.length ≤ 120
      · rw [w64_id (by omega) (by omega)]
        have h3' : ¬ (l.Entries.length : Int) > 120 := by omega
        by_cases h4 : l.Start + l.Entries.length ≤ 100000
        · have h4' : ¬ l.Start + l.Entries.length > 100000 := by omega
          simp only [Int.natCast_zero, h1, h2, h3, h3', h4, h4', decide_true, Bool.not_true, Bool.false_eq_true, if_false, decide_false, Bool.true_and, and_self]
          cases termsOk l.StartTerm l.Entries <;> rfl
        · have h4' : l.Start + l.Entries.length > 100000 := by omega
          simp [h1, h2, h3', h4, h4']
      · have h3' : (l.Entries.length : Int) > 120 := by omega
        simp [h1, h2, h3, h3']
    · simp [h1, h2]
  · simp [h1]
theorem logOk_impl (N : Nat) (hN : Big N) (l : Log) (h : smallL l) : impl_LogOk N l = some (logOk l) := by
  rw [← logOk_spec N hN l h]
  obtain ⟨hl, hd⟩ := h
  unfold spec_LogOk impl_LogOk
  simp only [in_eq, within_eq, joinP]
  rw [spec_LogOk_l1_eq l (by omega) (by omega), impl_LogOk_l1_eq l (by omega) (by omega), show (0 : Int) = ((0 : Nat) : Int) from rfl, logOk_s N hN l l.Entries l.StartTerm 0 (by omega) hd, logOk_i N hN l l.Entries l.StartTerm 0 (by omega) hd]
theorem logOk_at {l : Log} (h : logOk l = true) : 0 ≤ l.Start ∧ l.Start ≤ 100000 ∧ 0 ≤ l.StartTerm ∧ l.StartTerm ≤ 100000 ∧ l.Entries.length ≤ 120 ∧ l.Start + l.Entries.length ≤ 100000 ∧ termsOk l.StartTerm l.Entries = true := by
  unfold logOk at h
  simp only [Bool.and_eq_true, decide_eq_true_eq] at h
  obtain ⟨⟨h1, h2⟩, ⟨h3, h4⟩, h5, h6, h7⟩ := h
  exact ⟨h1, h2, h3, h4, h5, h6, h7⟩
theorem ba_cat (a b : List UInt8) : (⟨a.toArray⟩ : ByteArray) ++ ⟨b.toArray⟩ = ⟨(a ++ b).toArray⟩ := by
  apply ByteArray.ext
  simp
theorem sat_at {t : ByteArray} {k : Nat} {c : UInt8} {r : List UInt8} (h : t.data.toList.drop k = c :: r) : sat? t (k : Int) = some (c.toNat : Int) := by
  unfold sat?
  rw [if_pos (by omega), Int.toNat_natCast]
  have hk : k < t.data.toList.length := by
    rcases Nat.lt_or_ge k t.data.toList.length with h1 | h1
    · exact h1
    · rw [List.drop_eq_nil_of_le h1] at h
      cases h
  have h1 : t.data.toList[k]? = some c := by
    have : (t.data.toList.drop k)[0]? = some c := by rw [h]; rfl
    rw [List.getElem?_drop, Nat.add_zero] at this
    exact this
  have hs : k < t.size := by
    rw [Array.length_toList] at hk
    exact hk
  rw [getElem?_pos t k hs]
  have h2 : t.data[k]'hs = c := by
    rw [Array.getElem?_toList] at h1
    have := Array.getElem?_eq_some_iff.1 h1
    exact this.2
  have h3 : t[k] = c := h2
  rw [h3]
  rfl
/-- A text between two places. -/
theorem ext_toList (t : ByteArray) (i j : Nat) (hij : i ≤ j) (hj : j ≤ t.size) : (t.extract i j).data.toList = (t.data.toList.drop i).take (j - i) := by
  have : (t.extract i j).data = t.data.extract i j := by
    rw [ByteArray.data_extract]
  rw [this, Array.toList_extract]
theorem ext_size (t : ByteArray) (i j : Nat) (hij : i ≤ j) (hj : j ≤ t.size) : (t.extract i j).size = j - i := by
  rw [ByteArray.size_extract]
  omega
theorem ba_ext' {a b : ByteArray} (h : a.data.toList = b.data.toList) : a = b := ByteArray.ext (Array.toList_inj.1 h)
theorem ext_ext (t : ByteArray) (i j p q : Nat) (hij : i ≤ j) (hj : j ≤ t.size) (hpq : p ≤ q) (hq : q ≤ j - i) : (t.extract i j).extract p q = t.extract (i + p) (i + q) := by
  apply ba_ext'
  rw [ext_toList _ p q hpq (by rw [ext_size t i j hij hj]; exact hq), ext_toList t i j hij hj, ext_toList t (i + p) (i + q) (by omega) (by omega), List.drop_take, List.drop_drop, List.take_take]
  congr 1
  omega
theorem stake_ok {t : ByteArray} {k : Nat} (h : k ≤ t.size) : stake? t (k : Int) = some (t.extract 0 k) := by
  unfold stake?
  rw [if_pos (by omega), Int.toNat_natCast]
theorem sdrop_ok {t : ByteArray} {k : Nat} (h : k ≤ t.size) : sdrop? t (k : Int) = some (t.extract k t.size) := by
  unfold sdrop?
  rw [if_pos (by omega), Int.toNat_natCast]
theorem scut_ok {t : ByteArray} {i j : Nat} (h : i ≤ j) (h2 : j ≤ t.size) : scut? t (i : Int) (j : Int) = some (t.extract i j) := by
  unfold scut?
  rw [if_pos (by omega), Int.toNat_natCast, Int.toNat_natCast]
theorem ext_full (t : ByteArray) : t.extract 0 t.size = t := by
  apply ba_ext'
  rw [ext_toList t 0 t.size (by omega) (Nat.le_refl _), List.drop_zero, List.take_of_length_le (by rw [Array.length_toList]; exact Nat.le_refl _)]
theorem ext_app (t : ByteArray) (a b c : Nat) (h1 : a ≤ b) (h2 : b ≤ c) (h3 : c ≤ t.size) : t.extract a b ++ t.extract b c = t.extract a c := by
  apply ba_ext'
  rw [ByteArray.data_append, Array.toList_append, ext_toList t a b h1 (by omega), ext_toList t b c h2 h3, ext_toList t a c (by omega) h3]
  have : c - a = (b - a) + (c - b) := by omega
  rw [this, List.take_add, List.drop_drop]
  congr 3 <;> omega
theorem rows_push (ns : List Int) (acc : ByteArray) : ns.foldl (fun r n => r.push (UInt8.ofNat n.toNat)) acc = ⟨acc.data ++ (ns.map fun n => UInt8.ofNat n.toNat).toArray⟩ := by
  induction ns generalizing acc with
  | nil => simp
  | cons n ns ih =>
    rw [List.foldl_cons, ih]
    apply ByteArray.ext
    simp [ByteArray.push]
theorem strOf_data (ns : List Int) : strOf ns = ⟨(ns.map fun n => UInt8.ofNat n.toNat).toArray⟩ := by
  show ns.foldl _ _ = _
  rw [rows_push]
  apply ByteArray.ext
  simp
theorem strOf_cat (a b : List Int) : strOf (a ++ b) = strOf a ++ strOf b := by
  rw [strOf_data, strOf_data, strOf_data, ba_cat, List.map_append]
theorem strOf_ints (t : ByteArray) : strOf (intsOf t) = t := by
  rw [strOf_data]
  unfold intsOf
  apply ByteArray.ext
  rw [List.map_map]
  have : ∀ l : List UInt8, l.map ((fun n : Int => UInt8.ofNat n.toNat) ∘ fun b : UInt8 => (b.toNat : Int)) = l := by
    intro l
    induction l with
    | nil => rfl
    | cons x l ih =>
      rw [List.map_cons, ih]
      congr 1
      show UInt8.ofNat ((x.toNat : Int)).toNat = x
      rw [Int.toNat_natCast]
      exact UInt8.ofNat_toNat
  rw [this]
/-- A number as a row of bytes, seven bits each, the least first. -/
def enc (n : Nat) : List UInt8 := if h : n < 128 then [UInt8.ofNat n] else UInt8.ofNat (n % 128 + 128) :: enc (n / 128)
termination_by n
decreasing_by omega
theorem enc_lo {n : Nat} (h : n < 128) : enc n = [UInt8.ofNat n] := by rw [enc, dif_pos h]
theorem enc_hi {n : Nat} (h : ¬ n < 128) : enc n = UInt8.ofNat (n % 128 + 128) :: enc (n / 128) := by rw [enc, dif_neg h]
theorem enc_pos (n : Nat) : 1 ≤ (enc n).length := by
  rw [enc]
  split <;> simp
theorem enc_len : ∀ (k n : Nat), n < 128 ^ (k + 1) → (enc n).length ≤ k + 1
  | 0, n, h => by rw [enc_lo (by omega)]; simp
  | k + 1, n, h => by
    by_cases h1 : n < 128
    · rw [enc_lo h1]; simp
    · rw [enc_hi h1, List.length_cons]
      have := enc_len k (n / 128) (by rw [Nat.pow_succ] at h; omega)
      omega
theorem enc_len5 {n : Nat} (h : n ≤ 1000000000) : (enc n).length ≤ 5 := enc_len 4 n (by omega)
/-- The number that a row of bytes tells, and how many bytes it took. -/
def rv : List UInt8 → Nat → Nat → Option (Nat × Nat)
  | [], _, _ => none
  | c :: r, j, n => if 5 ≤ j then none else if c.toNat < 128 then some (n + c.toNat % 128 * 128 ^ j, j + 1) else rv r (j + 1) (n + c.toNat % 128 * 128 ^ j)
def valB : List UInt8 → Nat
  | [] => 0
  | c :: r => c.toNat % 128 + 128 * valB r
/-- A whole number's bytes: all but the last one go on. -/
def whl : List UInt8 → Prop
  | [] => False
  | [c] => c.toNat < 128
  | c :: r => 128 ≤ c.toNat ∧ whl r
theorem whl_cons {c : UInt8} {r : List UInt8} (hr : r ≠ []) : whl (c :: r) ↔ 128 ≤ c.toNat ∧ whl r := by
  cases r with
  | nil => exact absurd rfl hr
  | cons d r => rfl
theorem whl_ne {d : List UInt8} (h : whl d) : d ≠ [] := by
  rintro rfl
  exact h
theorem rv_whl : ∀ (l : List UInt8) (j n m k : Nat), rv l j n = some (m, k) → j < k ∧ k ≤ 5 ∧ k - j ≤ l.length ∧ whl (l.take (k - j)) ∧ m = n + 128 ^ j * valB (l.take (k - j))
  | [], j, n, m, k, h => by cases h
  | c :: r, j, n, m, k, h => by
    rw [rv] at h
    split at h
    · cases h
    · split at h
      · rename_i h1 h2
        simp only [Option.some.injEq, Prod.mk.injEq] at h
        obtain ⟨rfl, rfl⟩ := h
        rw [show j + 1 - j = 1 by omega, List.take_succ_cons, List.take_zero]
        refine ⟨by omega, by omega, by simp, h2, ?_⟩
        simp only [valB]
        rw [Nat.mul_zero, Nat.add_zero, Nat.mul_comm]
      · rename_i h1 h2
        obtain ⟨a, b, c1, d, e⟩ := rv_whl r (j + 1) _ m k h
        have hk : k - j = (k - (j + 1)) + 1 := by omega
        rw [hk, List.take_succ_cons, List.length_cons]
        refine ⟨by omega, b, by omega, (whl_cons (whl_ne d)).2 ⟨by omega, d⟩, ?_⟩
        rw [e, valB, Nat.pow_succ, Nat.mul_add, Nat.mul_comm (c.toNat % 128), Nat.add_assoc, Nat.mul_assoc]
theorem enc_val : ∀ d : List UInt8, whl d → (enc (valB d)).length = d.length → enc (valB d) = d
  | [], h, _ => by cases h
  | [c], h, _ => by
    have hc : c.toNat < 128 := h
    simp only [valB]
    rw [Nat.mul_zero, Nat.add_zero, Nat.mod_eq_of_lt hc, enc_lo hc, UInt8.ofNat_toNat]
  | c :: d :: r, h, hl => by
    have h1 : 128 ≤ c.toNat := h.1
    have h2 : whl (d :: r) := h.2
    rw [valB] at hl ⊢
    have hc := c.toNat_lt
    by_cases h3 : c.toNat % 128 + 128 * valB (d :: r) < 128
    · rw [enc_lo h3] at hl
      simp at hl
    · rw [enc_hi h3] at hl ⊢
      have e1 : (c.toNat % 128 + 128 * valB (d :: r)) % 128 = c.toNat % 128 := by omega
      have e2 : (c.toNat % 128 + 128 * valB (d :: r)) / 128 = valB (d :: r) := by omega
      rw [e1, e2] at hl ⊢
      rw [enc_val (d :: r) h2 (by simpa using hl)]
      congr 1
      apply UInt8.toNat_inj.1
      rw [UInt8.toNat_ofNat']
      omega
theorem whl_enc : ∀ n : Nat, whl (enc n) ∧ valB (enc n) = n := by
  intro n
  induction n using Nat.strongRecOn with
  | _ n ih =>
    by_cases h : n < 128
    · rw [enc_lo h]
      have : (UInt8.ofNat n).toNat = n := by rw [UInt8.toNat_ofNat']; omega
      exact ⟨by show (UInt8.ofNat n).toNat < 128; omega, by simp only [valB, this]; omega⟩
    · rw [enc_hi h]
      obtain ⟨a, b⟩ := ih (n / 128) (by omega)
      have : (UInt8.ofNat (n % 128 + 128)).toNat = n % 128 + 128 := by rw [UInt8.toNat_ofNat']; omega
      refine ⟨(whl_cons (whl_ne a)).2 ⟨by omega, a⟩, ?_⟩
      rw [valB, b, this]
      omega
theorem rv_of_whl : ∀ (d r : List UInt8) (j n : Nat), whl d → j + d.length ≤ 5 → rv (d ++ r) j n = some (n + 128 ^ j * valB d, j + d.length)
  | [], r, j, n, h, _ => by cases h
  | [c], r, j, n, h, hl => by
    have hc : c.toNat < 128 := h
    simp only [List.length_cons, List.length_nil] at hl ⊢
    rw [List.cons_append, rv, if_neg (by omega), if_pos hc]
    have e : valB [c] = c.toNat % 128 := by simp [valB]
    rw [e, Nat.mul_comm]
  | c :: d :: r', r, j, n, h, hl => by
    have h1 : 128 ≤ c.toNat := h.1
    have h2 : whl (d :: r') := h.2
    rw [List.length_cons] at hl
    rw [List.cons_append, rv, if_neg (by simp only [List.length_cons] at hl; omega), if_neg (by omega), rv_of_whl (d :: r') r (j + 1) _ h2 (by omega)]
    have e : valB (c :: d :: r') = c.toNat % 128 + 128 * valB (d :: r') := rfl
    rw [e]
    generalize valB (d :: r') = V
    rw [Nat.pow_succ, Nat.mul_add, Nat.mul_comm (c.toNat % 128), ← Nat.mul_assoc (128 ^ j) 128 V, List.length_cons (a := c)]
    congr 2
    · omega
    · omega
theorem rv_enc (n : Nat) (r : List UInt8) (h : n ≤ 1000000000) : rv (enc n ++ r) 0 0 = some (n, (enc n).length) := by
  obtain ⟨a, b⟩ := whl_enc n
  rw [rv_of_whl _ _ _ _ a (by have := enc_len5 h; omega), b]
  simp
/-- What a text tells at a place: a number of its right form, and the next place. -/
def rdv (l : List UInt8) : Option (Nat × Nat) := match rv l 0 0 with
  | some (n, k) => if n ≤ 1000000000 ∧ (enc n).length = k then some (n, k) else none
  | none => none
theorem rdv_some {l : List UInt8} {n k : Nat} : rdv l = some (n, k) ↔ n ≤ 1000000000 ∧ k = (enc n).length ∧ l.take k = enc n ∧ k ≤ l.length := by
  unfold rdv
  constructor
  · intro h
    split at h
    · rename_i m k' hr
      split at h
      · rename_i h1
        simp only [Option.some.injEq, Prod.mk.injEq] at h
        obtain ⟨rfl, rfl⟩ := h
        obtain ⟨a, b, c, d, e⟩ := rv_whl l 0 0 m k' hr
        rw [Nat.sub_zero] at c d e
        rw [Nat.pow_zero, Nat.one_mul, Nat.zero_add] at e
        refine ⟨h1.1, h1.2.symm, ?_, c⟩
        have := enc_val _ d (by rw [← e, h1.2, List.length_take]; omega)
        rw [← e] at this
        exact this.symm
      · cases h
    · cases h
  · rintro ⟨h1, rfl, h3, h4⟩
    have e : l = enc n ++ l.drop (enc n).length := by
      rw [← h3, List.length_take, Nat.min_eq_left h4, List.take_append_drop]
    rw [e, rv_enc n _ h1]
    simp only
    rw [if_pos ⟨h1, trivial⟩]
/-- A number's bytes, as ints. -/
def encI (n : Nat) : List Int := (enc n).map fun c => (c.toNat : Int)
abbrev encT (n : Nat) : ByteArray := ⟨(enc n).toArray⟩
theorem strOf_encI (n : Nat) : strOf (encI n) = encT n := by
  rw [strOf_data]
  congr 1
  unfold encI
  rw [List.map_map]
  congr 1
  have : ∀ l : List UInt8, l.map ((fun n : Int => UInt8.ofNat n.toNat) ∘ fun c : UInt8 => (c.toNat : Int)) = l := by
    intro l
    induction l with
    | nil => rfl
    | cons a l ih => rw [List.map_cons, ih]; congr 1; simp
  exact this _
theorem encT_size (n : Nat) : (encT n).size = (enc n).length := List.size_toArray
theorem spec_l01Var_loop (N : Nat) : ∀ (k m n : Nat) (acc : List Int), n < 128 ^ (k + 1) → k < m → acc.length + k ≤ 1000 → n ≤ 1099511627776 →
    ∃ (v : Int) (l : List Int), spec_l01Var_l1 N m (n : Int) acc = some (v, l) ∧ cat? l [IntKind.wrap .u8 v] = some (acc ++ encI n)
  | k, m, n, acc, hn, hm, ha, hb => by
    obtain ⟨m, rfl⟩ : ∃ q, m = q + 1 := ⟨m - 1, by omega⟩
    rw [spec_l01Var_l1]
    by_cases h : n < 128
    · rw [if_neg (by simp; omega)]
      refine ⟨_, _, rfl, ?_⟩
      have e : IntKind.wrap .u8 (n : Int) = (n : Int) := by rw [IntKind.wrap_u8]; omega
      rw [e, show cat? acc [(n : Int)] = some (acc ++ [(n : Int)]) from if_pos (by simp; omega)]
      unfold encI
      rw [enc_lo h]
      have : (UInt8.ofNat n).toNat = n := by rw [UInt8.toNat_ofNat']; omega
      rw [List.map_cons, List.map_nil, this]
    · obtain ⟨k, rfl⟩ : ∃ q, k = q + 1 := by
        cases k with
        | zero => exact absurd hn (by simp; omega)
        | succ q => exact ⟨q, rfl⟩
      rw [if_pos (by simp; omega)]
      have e1 : intD .rem .i64 (n : Int) 128 = some ((n % 128 : Nat) : Int) := by
        simp only [intD]
        rw [if_neg (by decide), Int.tmod_eq_emod_of_nonneg (by omega)]
        rfl
      have e2 : intD .quo .i64 (n : Int) 128 = some ((n / 128 : Nat) : Int) := by
        simp only [intD]
        rw [if_neg (by decide), Int.tdiv_eq_ediv_of_nonneg (by omega), IntKind.wrap_i64]
        refine congrArg some ?_
        omega
      have e3 : IntKind.wrap .u8 (w64 (((n % 128 : Nat) : Int) + 128)) = ((n % 128 + 128 : Nat) : Int) := by
        rw [w64_id (by omega) (by omega), IntKind.wrap_u8]
        omega
      rw [e1, Option.bind_some, e3, show cat? acc [((n % 128 + 128 : Nat) : Int)] = some (acc ++ [((n % 128 + 128 : Nat) : Int)]) from if_pos (by simp; omega), Option.bind_some, e2, Option.bind_some]
      obtain ⟨v, l, h1, h2⟩ := spec_l01Var_loop N k m (n / 128) (acc ++ [((n % 128 + 128 : Nat) : Int)]) (by rw [Nat.pow_succ] at hn; omega) (by omega) (by simp; omega) (by omega)
      refine ⟨v, l, h1, ?_⟩
      rw [h2]
      unfold encI
      rw [enc_hi h]
      have : (UInt8.ofNat (n % 128 + 128)).toNat = n % 128 + 128 := by rw [UInt8.toNat_ofNat']; omega
      rw [List.map_cons, this, List.append_assoc, List.singleton_append]
theorem impl_VarText_loop (N : Nat) : ∀ (k m n : Nat) (acc : List Int), n < 128 ^ (k + 1) → k < m → acc.length + k ≤ 1000 → n ≤ 1099511627776 →
    ∃ (v : Int) (l : List Int), impl_VarText_l1 N m (n : Int) acc = some (v, l) ∧ cat? l [IntKind.wrap .u8 v] = some (acc ++ encI n)
  | k, m, n, acc, hn, hm, ha, hb => by
    obtain ⟨m, rfl⟩ : ∃ q, m = q + 1 := ⟨m - 1, by omega⟩
    rw [impl_VarText_l1]
    by_cases h : n < 128
    · rw [if_neg (by simp; omega)]
      refine ⟨_, _, rfl, ?_⟩
      have e : IntKind.wrap .u8 (n : Int) = (n : Int) := by rw [IntKind.wrap_u8]; omega
      rw [e, show cat? acc [(n : Int)] = some (acc ++ [(n : Int)]) from if_pos (by simp; omega)]
      unfold encI
      rw [enc_lo h]
      have : (UInt8.ofNat n).toNat = n := by rw [UInt8.toNat_ofNat']; omega
      rw [List.map_cons, List.map_nil, this]
    · obtain ⟨k, rfl⟩ : ∃ q, k = q + 1 := by
        cases k with
        | zero => exact absurd hn (by simp; omega)
        | succ q => exact ⟨q, rfl⟩
      rw [if_pos (by simp; omega)]
      have e1 : intD .rem .i64 (n : Int) 128 = some ((n % 128 : Nat) : Int) := by
        simp only [intD]
        rw [if_neg (by decide), Int.tmod_eq_emod_of_nonneg (by omega)]
        rfl
      have e2 : intD .quo .i64 (n : Int) 128 = some ((n / 128 : Nat) : Int) := by
        simp only [intD]
        rw [if_neg (by decide), Int.tdiv_eq_ediv_of_nonneg (by omega), IntKind.wrap_i64]
        refine congrArg some ?_
        omega
      have e3 : IntKind.wrap .u8 (w64 (((n % 128 : Nat) : Int) + 128)) = ((n % 128 + 128 : Nat) : Int) := by
        rw [w64_id (by omega) (by omega), IntKind.wrap_u8]
        omega
      rw [e1, Option.bind_some, e3, show cat? acc [((n % 128 + 128 : Nat) : Int)] = some (acc ++ [((n % 128 + 128 : Nat) : Int)]) from if_pos (by simp; omega), Option.bind_some, e2, Option.bind_some]
      obtain ⟨v, l, h1, h2⟩ := impl_VarText_loop N k m (n / 128) (acc ++ [((n % 128 + 128 : Nat) : Int)]) (by rw [Nat.pow_succ] at hn; omega) (by omega) (by simp; omega) (by omega)
      refine ⟨v, l, h1, ?_⟩
      rw [h2]
      unfold encI
      rw [enc_hi h]
      have : (UInt8.ofNat (n % 128 + 128)).toNat = n % 128 + 128 := by rw [UInt8.toNat_ofNat']; omega
      rw [List.map_cons, this, List.append_assoc, List.singleton_append]
theorem var_spec (N : Nat) (hN : Big N) (n : Nat) (h : n ≤ 1099511627776) : spec_l01Var N (n : Int) = some (encT n) := by
  unfold spec_l01Var
  simp only [joinP]
  obtain ⟨v, l, h1, h2⟩ := spec_l01Var_loop N 9 N n [] (by omega) (by unfold Big at hN; omega) (by simp) h
  rw [h1, Option.bind_some]
  simp only
  rw [h2, Option.bind_some, List.nil_append, strOf_encI]
theorem var_impl (N : Nat) (hN : Big N) (n : Nat) (h : n ≤ 1099511627776) : impl_VarText N (n : Int) = some (if n ≤ 1000000000 then (encT n, true) else (⟨#[]⟩, false)) := by
  unfold impl_VarText
  rw [within_eq, Option.bind_some]
  by_cases h1 : n ≤ 1000000000
  · have e : decide (0 ≤ (n : Int) ∧ (n : Int) ≤ 1000000000) = true := by simp; omega
    rw [e, if_pos h1, if_neg (by decide)]
    simp only [joinP]
    obtain ⟨v, l, h1, h2⟩ := impl_VarText_loop N 9 N n [] (by omega) (by unfold Big at hN; omega) (by simp) h
    rw [h1, Option.bind_some]
    simp only
    rw [h2, Option.bind_some, List.nil_append, strOf_encI]
  · have e : decide (0 ≤ (n : Int) ∧ (n : Int) ≤ 1000000000) = false := by simp; omega
    rw [e, if_neg h1, if_pos (by decide)]
/-- What is read of a text at a place. -/
def rdvT (t : ByteArray) (a : Nat) : Option (Nat × Nat) := rdv (t.data.toList.drop a)
def rdR (t : ByteArray) (a : Nat) : Int × Int × Bool := match rdvT t a with
  | some (n, k) => ((n : Int), ((a + k : Nat) : Int), true)
  | none => (0, 0, false)
def outR (a : Nat) : Option (Nat × Nat) → (Int × Int × Bool) ⊕ Unit
  | none => .inr ()
  | some (n, k) => .inl (if n ≤ 1000000000 ∧ (enc n).length = k then ((n : Int), ((a + k : Nat) : Int), true) else (0, 0, false))
theorem outR_ok (t : ByteArray) (a : Nat) : (match outR a (rv (t.data.toList.drop a) 0 0) with | .inl x => x | .inr () => (0, 0, false)) = rdR t a := by
  unfold rdR rdvT rdv outR
  cases rv (t.data.toList.drop a) 0 0 with
  | none => rfl
  | some q =>
    obtain ⟨n, k⟩ := q
    simp only
    by_cases h : n ≤ 1000000000 ∧ (enc n).length = k
    · rw [if_pos h, if_pos h]
    · rw [if_neg h, if_neg h]
theorem take_eq {t : ByteArray} {a n k : Nat} (h : rv (t.data.toList.drop a) 0 0 = some (n, k)) : a + k ≤ t.size ∧ (encT n = t.extract a (a + k) ↔ (enc n).length = k) := by
  obtain ⟨_, b, c, d, e⟩ := rv_whl _ 0 0 n k h
  rw [Nat.sub_zero] at c d e
  rw [Nat.pow_zero, Nat.one_mul, Nat.zero_add] at e
  have hlen : t.data.toList.length = t.size := Array.length_toList
  rw [List.length_drop, hlen] at c
  have hk : 0 < k := by omega
  have hs : a + k ≤ t.size := by omega
  have hx : (t.extract a (a + k)).data.toList = (t.data.toList.drop a).take k := by
    rw [ext_toList t a (a + k) (by omega) hs]
    congr 1
    omega
  have hl : ((t.data.toList.drop a).take k).length = k := by rw [List.length_take, List.length_drop, hlen]; omega
  refine ⟨hs, fun h => ?_, fun h => ?_⟩
  · have : (encT n).size = k := by rw [h, ext_size t a (a + k) (by omega) hs]; omega
    rw [encT_size] at this
    exact this
  · apply ba_ext'
    rw [hx]
    show (enc n).toArray.toList = _
    rw [List.toList_toArray]
    have := enc_val _ d (by rw [← e, h, hl])
    rw [← e] at this
    exact this
theorem rv_step {t : ByteArray} {i j acc : Nat} (hi : i < t.size) : ∃ c : UInt8, sat? t (i : Int) = some (c.toNat : Int) ∧ (j < 5 → rv (t.data.toList.drop i) j acc = if c.toNat < 128 then some (acc + c.toNat % 128 * 128 ^ j, j + 1) else rv (t.data.toList.drop (i + 1)) (j + 1) (acc + c.toNat % 128 * 128 ^ j)) := by
  have hlt : i < t.data.toList.length := by rw [Array.length_toList]; exact hi
  have hc := List.drop_eq_getElem_cons hlt
  generalize t.data.toList[i] = c at hc
  exact ⟨c, sat_at hc, fun hj => by rw [hc, rv, if_neg (by omega)]⟩
theorem rv_end {t : ByteArray} {i j acc : Nat} (hi : t.size ≤ i) : rv (t.data.toList.drop i) j acc = none := by
  rw [List.drop_eq_nil_of_le (by rw [Array.length_toList]; exact hi)]
  rfl
theorem rv_five {l : List UInt8} {acc : Nat} : rv l 5 acc = none := by
  cases l with
  | nil => rfl
  | cons c r => rw [rv, if_pos (by omega)]
theorem rem128 (c : Nat) : intD .rem .i64 (c : Int) 128 = some ((c % 128 : Nat) : Int) := by
  simp only [intD]
  rw [if_neg (by decide), Int.tmod_eq_emod_of_nonneg (by omega)]
  rfl
theorem rvS_loop (N : Nat) (hN : Big N) (t : ByteArray) (a : Nat) (ht : t.size ≤ 1099511627) (ha : a ≤ t.size) : ∀ (d j m acc : Nat), 5 = j + d → d < m → acc < 128 ^ j → a + j ≤ t.size → rv (t.data.toList.drop a) 0 0 = rv (t.data.toList.drop (a + j)) j acc →
    spec_ReadVar_l1 N t (a : Int) m (acc : Int) ((128 ^ j : Nat) : Int) ((a + j : Nat) : Int) = some (outR a (rv (t.data.toList.drop a) 0 0))
  | 0, j, m, acc, hj, hm, hacc, has, hr => by
    obtain ⟨m, rfl⟩ : ∃ q, m = q + 1 := ⟨m - 1, by omega⟩
    have : j = 5 := by omega
    subst this
    rw [hr, rv_five, spec_ReadVar_l1, w64_id (n := (a : Int) + 5) (by omega) (by omega)]
    split
    · rw [if_neg (by simp only [decide_eq_true_eq]; omega)]; rfl
    · rfl
  | d + 1, j, m, acc, hj, hm, hacc, has, hr => by
    obtain ⟨m, rfl⟩ : ∃ q, m = q + 1 := ⟨m - 1, by omega⟩
    have hp : (128 : Nat) ^ j ≤ 128 ^ 4 := Nat.pow_le_pow_right (by decide) (by omega)
    have hp0 : 0 < (128 : Nat) ^ j := Nat.pow_pos (by decide)
    rw [spec_ReadVar_l1, w64_id (n := (a : Int) + 5) (by omega) (by omega)]
    by_cases hs : a + j < t.size
    · obtain ⟨c, hc, hst⟩ := rv_step (j := j) (acc := acc) hs
      have hc8 : c.toNat < 256 := c.toNat_lt
      have hst := hst (by omega)
      rw [if_pos (by simp only [decide_eq_true_eq]; omega), if_pos (by simp only [decide_eq_true_eq]; omega)]
      simp only [hc, Option.bind_some]
      rw [w64_id (n := (c.toNat : Int)) (by omega) (by omega), rem128]
      simp only [Option.bind_some]
      have hmul : c.toNat % 128 * 128 ^ j + 128 ^ j ≤ 128 * 128 ^ j := by
        have := Nat.mul_le_mul_right (128 ^ j) (show c.toNat % 128 + 1 ≤ 128 by omega)
        rw [Nat.add_mul, Nat.one_mul] at this
        exact this
      generalize hP : (128 : Nat) ^ j = P at *
      have e1 : ((c.toNat % 128 : Nat) : Int) * ((P : Nat) : Int) = ((c.toNat % 128 * P : Nat) : Int) := by rw [Int.natCast_mul]
      have e2 : w64 ((acc : Int) + w64 (((c.toNat % 128 : Nat) : Int) * ((P : Nat) : Int))) = ((acc + c.toNat % 128 * P : Nat) : Int) := by
        rw [e1, w64_id (n := ((c.toNat % 128 * P : Nat) : Int)) (by omega) (by omega), w64_id (by omega) (by omega)]
        omega
      rw [e2, w64_succ (by omega)]
      by_cases hlo : c.toNat < 128
      · rw [if_pos (by simp only [decide_eq_true_eq]; omega)]
        rw [if_pos hlo] at hst
        rw [hr, hst]
        have hz := take_eq (hr.trans hst)
        simp only [outR]
        by_cases hbig : acc + c.toNat % 128 * P ≤ 1000000000
        · rw [if_neg (by simp only [decide_eq_true_eq]; omega), var_spec N hN _ (by omega), Option.bind_some, scut_ok (by omega) (by omega), Option.bind_some]
          by_cases hq : (enc (acc + c.toNat % 128 * P)).length = j + 1
          · rw [if_neg (by simpa [Nat.add_assoc] using hz.2.2 hq), if_pos ⟨hbig, hq⟩]
            rfl
          · rw [if_pos (by simpa [Nat.add_assoc] using fun h => hq (hz.2.1 h)), if_neg (fun h => hq h.2)]
        · rw [if_pos (by simp only [decide_eq_true_eq]; omega), if_neg (fun h => hbig h.1)]
      · rw [if_neg (by simp only [decide_eq_true_eq]; omega)]
        rw [if_neg hlo] at hst
        have e3 : w64 (((P : Nat) : Int) * 128) = ((128 ^ (j + 1) : Nat) : Int) := by
          rw [w64_id (by omega) (by omega), Nat.pow_succ, hP, Int.natCast_mul]
          rfl
        rw [e3]
        exact rvS_loop N hN t a ht ha d (j + 1) m _ (by omega) (by omega) (by rw [Nat.pow_succ, hP]; omega) (by omega) (hr.trans (by rw [hst, Nat.add_assoc]))
    · rw [if_neg (by simp only [decide_eq_true_eq]; omega), hr, rv_end (by omega)]
      rfl
theorem rvI_loop (N : Nat) (hN : Big N) (t : ByteArray) (a : Nat) (ht : t.size ≤ 1099511627) (ha : a ≤ t.size) : ∀ (d j m acc : Nat), 5 = j + d → d < m → acc < 128 ^ j → a + j ≤ t.size → rv (t.data.toList.drop a) 0 0 = rv (t.data.toList.drop (a + j)) j acc →
    impl_ReadVar_l1 N t (a : Int) m (acc : Int) (j : Int) = some (outR a (rv (t.data.toList.drop a) 0 0))
  | 0, j, m, acc, hj, hm, hacc, has, hr => by
    obtain ⟨m, rfl⟩ : ∃ q, m = q + 1 := ⟨m - 1, by omega⟩
    have : j = 5 := by omega
    subst this
    rw [hr, rv_five, impl_ReadVar_l1, if_neg (by decide)]
    rfl
  | d + 1, j, m, acc, hj, hm, hacc, has, hr => by
    obtain ⟨m, rfl⟩ : ∃ q, m = q + 1 := ⟨m - 1, by omega⟩
    have hp : (128 : Nat) ^ j ≤ 128 ^ 4 := Nat.pow_le_pow_right (by decide) (by omega)
    have hp0 : 0 < (128 : Nat) ^ j := Nat.pow_pos (by decide)
    rw [impl_ReadVar_l1, if_pos (by simp only [decide_eq_true_eq]; omega)]
    have ew : w64 ((a : Int) + (j : Int)) = ((a + j : Nat) : Int) := by rw [w64_id (by omega) (by omega)]; omega
    rw [ew]
    by_cases hs : a + j < t.size
    · obtain ⟨c, hc, hst⟩ := rv_step (j := j) (acc := acc) hs
      have hc8 : c.toNat < 256 := c.toNat_lt
      have hst := hst (by omega)
      rw [if_pos (by simp only [decide_eq_true_eq]; omega)]
      simp only [hc, Option.bind_some]
      rw [w64_id (n := (c.toNat : Int)) (by omega) (by omega), rem128]
      simp only [Option.bind_some]
      have hsh : intSh .shl .i64 ((c.toNat % 128 : Nat) : Int) (w64 (7 * (j : Int))) = some ((c.toNat % 128 * 128 ^ j : Nat) : Int) := by
        have hj5 : j = 0 ∨ j = 1 ∨ j = 2 ∨ j = 3 ∨ j = 4 := by omega
        have hx : c.toNat % 128 < 128 := by omega
        generalize c.toNat % 128 = x at hx
        rcases hj5 with rfl | rfl | rfl | rfl | rfl
        · simp only [intSh]
          rw [w64_id (by decide) (by decide), if_neg (by decide), show (min (7 * ((0 : Nat) : Int)).toNat IntKind.i64.bits) = 0 from rfl, IntKind.wrap_i64]
          refine congrArg some ?_
          omega
        · simp only [intSh]
          rw [w64_id (by decide) (by decide), if_neg (by decide), show (min (7 * ((1 : Nat) : Int)).toNat IntKind.i64.bits) = 7 from rfl, IntKind.wrap_i64]
          refine congrArg some ?_
          omega
        · simp only [intSh]
          rw [w64_id (by decide) (by decide), if_neg (by decide), show (min (7 * ((2 : Nat) : Int)).toNat IntKind.i64.bits) = 14 from rfl, IntKind.wrap_i64]
          refine congrArg some ?_
          omega
        · simp only [intSh]
          rw [w64_id (by decide) (by decide), if_neg (by decide), show (min (7 * ((3 : Nat) : Int)).toNat IntKind.i64.bits) = 21 from rfl, IntKind.wrap_i64]
          refine congrArg some ?_
          omega
        · simp only [intSh]
          rw [w64_id (by decide) (by decide), if_neg (by decide), show (min (7 * ((4 : Nat) : Int)).toNat IntKind.i64.bits) = 28 from rfl, IntKind.wrap_i64]
          refine congrArg some ?_
          omega
      rw [hsh]
      simp only [Option.bind_some]
      have hmul : c.toNat % 128 * 128 ^ j + 128 ^ j ≤ 128 * 128 ^ j := by
        have := Nat.mul_le_mul_right (128 ^ j) (show c.toNat % 128 + 1 ≤ 128 by omega)
        rw [Nat.add_mul, Nat.one_mul] at this
        exact this
      generalize hP : (128 : Nat) ^ j = P at *
      have e2 : w64 ((acc : Int) + ((c.toNat % 128 * P : Nat) : Int)) = ((acc + c.toNat % 128 * P : Nat) : Int) := by
        rw [w64_id (by omega) (by omega)]
        omega
      rw [e2]
      by_cases hlo : c.toNat < 128
      · rw [if_pos (by simp only [decide_eq_true_eq]; omega), var_impl N hN _ (by omega), Option.bind_some]
        rw [if_pos hlo] at hst
        rw [hr, hst]
        simp only [outR]
        rw [w64_succ (k := j) (by omega), w64_succ (k := a + j) (by omega)]
        by_cases hbig : acc + c.toNat % 128 * P ≤ 1000000000
        · rw [if_pos hbig]
          simp only [Bool.not_true, Bool.false_eq_true, ↓reduceIte]
          by_cases hq : (enc (acc + c.toNat % 128 * P)).length = j + 1
          · rw [if_neg (by rw [encT_size, hq]; simp), if_pos ⟨hbig, hq⟩]
            rfl
          · rw [if_pos (by rw [encT_size]; simp only [bne_iff_ne, ne_eq]; omega), if_neg (fun h => hq h.2)]
        · rw [if_neg hbig, if_pos (by decide), if_neg (fun h => hbig h.1)]
      · rw [if_neg (by simp only [decide_eq_true_eq]; omega), w64_succ (k := j) (by omega)]
        rw [if_neg hlo] at hst
        exact rvI_loop N hN t a ht ha d (j + 1) m _ (by omega) (by omega) (by rw [Nat.pow_succ, hP]; omega) (by omega) (hr.trans (by rw [hst, Nat.add_assoc]))
    · rw [if_neg (by simp only [decide_eq_true_eq]; omega), hr, rv_end (by omega)]
      rfl
theorem rvar_spec (N : Nat) (hN : Big N) (t : ByteArray) (a : Nat) (ht : t.size ≤ 1099511627) (ha : a ≤ t.size) : spec_ReadVar N t (a : Int) = some (rdR t a) := by
  unfold spec_ReadVar
  rw [in_eq, Option.bind_some]
  have e : decide (0 ≤ (a : Int) ∧ (a : Int) ≤ (t.size : Int)) = true := by simp; omega
  rw [e, if_neg (by decide)]
  simp only [joinP]
  have := rvS_loop N hN t a ht ha 5 0 N 0 rfl (by unfold Big at hN; omega) (by decide) (by omega) rfl
  rw [Nat.pow_zero, Nat.add_zero] at this
  rw [show (0 : Int) = ((0 : Nat) : Int) from rfl, show (1 : Int) = ((1 : Nat) : Int) from rfl, this, Option.bind_some, ← outR_ok t a]
  cases outR a (rv (t.data.toList.drop a) 0 0) <;> rfl
theorem rvar_impl (N : Nat) (hN : Big N) (t : ByteArray) (a : Nat) (ht : t.size ≤ 1099511627) (ha : a ≤ t.size) : impl_ReadVar N t (a : Int) = some (rdR t a) := by
  unfold impl_ReadVar
  rw [within_eq, Option.bind_some]
  have e : decide (0 ≤ (a : Int) ∧ (a : Int) ≤ (t.size : Int)) = true := by simp; omega
  rw [e, if_neg (by decide)]
  simp only [joinP]
  have := rvI_loop N hN t a ht ha 5 0 N 0 rfl (by unfold Big at hN; omega) (by decide) (by omega) rfl
  rw [show (0 : Int) = ((0 : Nat) : Int) from rfl, this, Option.bind_some, ← outR_ok t a]
  cases outR a (rv (t.data.toList.drop a) 0 0) <;> rfl
theorem scat_le {t u : ByteArray} (h : t.size + u.size ≤ 9223372036854775807) : scat? t u = some (t ++ u) := if_pos h
theorem xor_u32 (a b : Int) : ∃ r, intD .xor .u32 a b = some r ∧ 0 ≤ r ∧ r < 4294967296 := by
  refine ⟨_, rfl, ?_, ?_⟩ <;> (rw [IntKind.wrap_u32]; omega)
theorem sum8 (N : Nat) : ∀ (d k m : Nat) (s : Int), 8 = k + d → d < m → 0 ≤ s → s < 4294967296 → ∃ r, spec_SumMore_l2 N m s (k : Int) = some r ∧ impl_SumMore_l2 N m s (k : Int) = some r ∧ 0 ≤ r ∧ r < 4294967296
  | 0, k, m, s, hk, hm, h0, h1 => by
    obtain ⟨m, rfl⟩ : ∃ q, m = q + 1 := ⟨m - 1, by omega⟩
    rw [spec_SumMore_l2, impl_SumMore_l2, if_neg (by simp only [decide_eq_true_eq]; omega), if_neg (by simp only [decide_eq_true_eq]; omega)]
    exact ⟨s, rfl, rfl, h0, h1⟩
  | d + 1, k, m, s, hk, hm, h0, h1 => by
    obtain ⟨m, rfl⟩ : ∃ q, m = q + 1 := ⟨m - 1, by omega⟩
    rw [spec_SumMore_l2, impl_SumMore_l2, if_pos (by simp only [decide_eq_true_eq]; omega), if_pos (by simp only [decide_eq_true_eq]; omega)]
    have e1 : intD .rem .u32 s 2 = some (s.tmod 2) := rfl
    have e2 : intD .quo .u32 s 2 = some (s / 2) := by
      simp only [intD]
      rw [if_neg (by decide), Int.tdiv_eq_ediv_of_nonneg h0, IntKind.wrap_u32]
      refine congrArg some ?_
      omega
    obtain ⟨x, e3, x0, x1⟩ := xor_u32 (s / 2) 3558460437
    simp only [joinP, e1, e2, e3, Option.bind_some, w64_succ (show k < 9223372036854775807 by omega)]
    by_cases h : (s.tmod 2 == 1) = true
    · rw [if_pos h, if_pos h]
      exact sum8 N d (k + 1) m x (by omega) (by omega) x0 x1
    · rw [if_neg h, if_neg h]
      exact sum8 N d (k + 1) m (s / 2) (by omega) (by omega) (by omega) (by omega)
theorem sum_loop (N : Nat) (hN : Big N) (t : ByteArray) (ht : t.size ≤ 1099511627) : ∀ (d k m : Nat) (s : Int), t.size = k + d → d < m → 0 ≤ s → s < 4294967296 → ∃ r, spec_SumMore_l1 N t m s (k : Int) = some r ∧ impl_SumMore_l1 N t m s (k : Int) = some r ∧ 0 ≤ r ∧ r < 4294967296
  | 0, k, m, s, hk, hm, h0, h1 => by
    obtain ⟨m, rfl⟩ : ∃ q, m = q + 1 := ⟨m - 1, by omega⟩
    rw [spec_SumMore_l1, impl_SumMore_l1, if_neg (by simp only [decide_eq_true_eq]; omega), if_neg (by simp only [decide_eq_true_eq]; omega)]
    exact ⟨s, rfl, rfl, h0, h1⟩
  | d + 1, k, m, s, hk, hm, h0, h1 => by
    obtain ⟨m, rfl⟩ : ∃ q, m = q + 1 := ⟨m - 1, by omega⟩
    rw [spec_SumMore_l1, impl_SumMore_l1, if_pos (by simp only [decide_eq_true_eq]; omega), if_pos (by simp only [decide_eq_true_eq]; omega)]
    obtain ⟨c, hc, _⟩ := rv_step (t := t) (i := k) (j := 0) (acc := 0) (by omega)
    obtain ⟨x, e3, x0, x1⟩ := xor_u32 s (IntKind.wrap .u32 (c.toNat : Int))
    obtain ⟨y, f1, f2, y0, y1⟩ := sum8 N 8 0 N x rfl (by unfold Big at hN; omega) x0 x1
    rw [show ((0 : Nat) : Int) = 0 from rfl] at f1 f2
    simp only [joinP, hc, e3, f1, f2, Option.bind_some, w64_succ (show k < 9223372036854775807 by omega)]
    exact sum_loop N hN t ht d (k + 1) m y (by omega) (by omega) y0 y1
theorem sum_ok (N : Nat) (hN : Big N) (t : ByteArray) (ht : t.size ≤ 1099511627) : ∃ s, spec_SumOf N t = some s ∧ impl_SumOf N t = some s ∧ 0 ≤ s ∧ s < 4294967296 := by
  obtain ⟨r, e1, e2, h0, h1⟩ := sum_loop N hN t ht t.size 0 N 4294967295 (by omega) (by unfold Big at hN; omega) (by decide) (by decide)
  rw [show ((0 : Nat) : Int) = 0 from rfl] at e1 e2
  refine ⟨r, ?_, ?_, h0, h1⟩
  · unfold spec_SumOf spec_SumMore
    simp only [joinP, e1, Option.bind_some]
  · unfold impl_SumOf impl_SumMore
    simp only [joinP, e2, Option.bind_some]
theorem shr_ok (s : Int) (k : Int) (hk : 0 ≤ k) : ∃ r, intSh .shr .u32 s k = some r := by
  simp only [intSh]
  rw [if_neg (by omega)]
  exact ⟨_, rfl⟩
/-- The four bytes of a text's sum. -/
def fourN (N : Nat) (t : ByteArray) : ByteArray := match spec_SumOf N t with
  | some s => (match spec_l02Four N s with | some b => b | none => ⟨#[]⟩)
  | none => ⟨#[]⟩
theorem four_ok (N : Nat) (hN : Big N) (t : ByteArray) (ht : t.size ≤ 1099511627) : ∃ s a b c, spec_SumOf N t = some s ∧ impl_SumOf N t = some s ∧ spec_l02Four N s = some (fourN N t) ∧ (fourN N t).size = 4 ∧
    intSh .shr .u32 s 24 = some a ∧ intSh .shr .u32 s 16 = some b ∧ intSh .shr .u32 s 8 = some c ∧ strOf ([IntKind.wrap .u8 a, IntKind.wrap .u8 b, IntKind.wrap .u8 c, IntKind.wrap .u8 s] : List Int) = fourN N t := by
  obtain ⟨s, e1, e2, _, _⟩ := sum_ok N hN t ht
  obtain ⟨a, ea⟩ := shr_ok s 24 (by decide)
  obtain ⟨b, eb⟩ := shr_ok s 16 (by decide)
  obtain ⟨c, ec⟩ := shr_ok s 8 (by decide)
  have e3 : spec_l02Four N s = some (strOf ([IntKind.wrap .u8 a, IntKind.wrap .u8 b, IntKind.wrap .u8 c, IntKind.wrap .u8 s] : List Int)) := by
    unfold spec_l02Four
    simp only [ea, eb, ec, Option.bind_some]
  have e4 : fourN N t = strOf ([IntKind.wrap .u8 a, IntKind.wrap .u8 b, IntKind.wrap .u8 c, IntKind.wrap .u8 s] : List Int) := by
    unfold fourN
    rw [e1]
    simp only
    rw [e3]
  refine ⟨s, a, b, c, e1, e2, by rw [e3, e4], by rw [e4, strOf_data]; rfl, ea, eb, ec, e4.symm⟩
/-- A frame. -/
def frm (N : Nat) (t : ByteArray) : ByteArray := encT t.size ++ fourN N t ++ t
theorem four_size (N : Nat) (hN : Big N) (t : ByteArray) (ht : t.size ≤ 1099511627) : (fourN N t).size = 4 := by
  obtain ⟨_, _, _, _, _, _, _, h, _⟩ := four_ok N hN t ht
  exact h
theorem frm_size (N : Nat) (hN : Big N) (t : ByteArray) (ht : t.size ≤ 1099511627) : (frm N t).size = (enc t.size).length + 4 + t.size := by
  unfold frm
  rw [ByteArray.size_append, ByteArray.size_append, encT_size, four_size N hN t ht]
theorem frame_spec (N : Nat) (hN : Big N) (t : ByteArray) (ht : t.size ≤ 1099511627) : spec_Frame N t = some (if 1 ≤ t.size ∧ t.size ≤ 9000 then (frm N t, true) else (⟨#[]⟩, false)) := by
  unfold spec_Frame
  rw [in_eq, Option.bind_some]
  by_cases h : 1 ≤ t.size ∧ t.size ≤ 9000
  · have e : decide ((1 : Int) ≤ (t.size : Int) ∧ (t.size : Int) ≤ 9000) = true := by simp only [decide_eq_true_eq]; omega
    obtain ⟨s, a, b, c, e1, _, e3, e4, _⟩ := four_ok N hN t ht
    have z := encT_size t.size
    have y := enc_len5 (n := t.size) (by omega)
    rw [e, if_pos h]
    simp only [Bool.not_true, Bool.false_eq_true, ↓reduceIte]
    rw [var_spec N hN t.size (by omega), Option.bind_some, e1, Option.bind_some, e3, Option.bind_some, scat_le (by omega), Option.bind_some, scat_le (by rw [ByteArray.size_append]; omega), Option.bind_some]
    rfl
  · have e : decide ((1 : Int) ≤ (t.size : Int) ∧ (t.size : Int) ≤ 9000) = false := by simp only [decide_eq_false_iff_not]; omega
    rw [e, if_neg h]
    rfl
theorem frame_impl (N : Nat) (hN : Big N) (t : ByteArray) (ht : t.size ≤ 1099511627) : impl_Frame N t = some (if 1 ≤ t.size ∧ t.size ≤ 9000 then (frm N t, true) else (⟨#[]⟩, false)) := by
  unfold impl_Frame
  rw [within_eq, Option.bind_some]
  by_cases h : 1 ≤ t.size ∧ t.size ≤ 9000
  · have e : decide ((1 : Int) ≤ (t.size : Int) ∧ (t.size : Int) ≤ 9000) = true := by simp only [decide_eq_true_eq]; omega
    obtain ⟨s, a, b, c, _, e1, _, e4, ea, eb, ec, e5⟩ := four_ok N hN t ht
    have z := encT_size t.size
    have y := enc_len5 (n := t.size) (by omega)
    rw [e, if_pos h]
    simp only [Bool.not_true, Bool.false_eq_true, ↓reduceIte]
    rw [var_impl N hN t.size (by omega), if_pos (by omega)]
    simp only [e1, ea, eb, ec, Option.bind_some, e5]
    rw [scat_le (by omega), Option.bind_some, scat_le (by rw [ByteArray.size_append]; omega), Option.bind_some]
    rfl
  · have e : decide ((1 : Int) ≤ (t.size : Int) ∧ (t.size : Int) ≤ 9000) = false := by simp only [decide_eq_false_iff_not]; omega
    rw [e, if_neg h]
    rfl
/-- An entry's record. -/
def etx (idx : Nat) (e : Entry) : ByteArray := (⟨#[69]⟩ : ByteArray) ++ encT idx ++ encT e.Term.toNat ++ (⟨#[UInt8.ofNat e.Kind.toNat]⟩ : ByteArray) ++ e.Data
theorem ent_in {e : Entry} (h : entOk e = true) : (0 ≤ e.Term ∧ e.Term ≤ 100000) ∧ (1 ≤ e.Kind ∧ e.Kind ≤ 3) ∧ e.Data.size ≤ 120 := by
  unfold entOk at h
  simp only [Bool.and_eq_true, decide_eq_true_eq] at h
  refine ⟨h.1, ?_⟩
  have h2 := h.2
  split at h2
  · rename_i hk
    simp only [decide_eq_true_eq] at h2
    rw [h2]
    exact ⟨by omega, by decide⟩
  · split at h2
    · rename_i hk
      have := confOk_len h2
      rw [ints_len] at this
      exact ⟨by omega, by omega⟩
    · split at h2
      · rename_i hk
        simp only [decide_eq_true_eq] at h2
        exact ⟨by omega, h2⟩
      · cases h2
theorem etx_size {idx : Nat} {e : Entry} (hi : idx ≤ 100000) (h : entOk e = true) : 1 ≤ (etx idx e).size ∧ (etx idx e).size ≤ 140 := by
  obtain ⟨h1, h2, h3⟩ := ent_in h
  unfold etx
  have y1 := enc_len5 (n := idx) (by omega)
  have y2 := enc_len5 (n := e.Term.toNat) (by omega)
  have z1 := encT_size idx
  have z2 := encT_size e.Term.toNat
  have z3 : (⟨#[69]⟩ : ByteArray).size = 1 := rfl
  have z4 : (⟨#[UInt8.ofNat e.Kind.toNat]⟩ : ByteArray).size = 1 := rfl
  simp only [ByteArray.size_append]
  omega
theorem kind_str {k : Int} (h : 1 ≤ k ∧ k ≤ 3) : strOf ([IntKind.wrap .u8 k] : List Int) = ⟨#[UInt8.ofNat k.toNat]⟩ := by
  have e : IntKind.wrap .u8 k = k := by rw [IntKind.wrap_u8]; omega
  rw [e, strOf_data]
  simp
theorem etext_spec (N : Nat) (hN : Big N) (idx : Nat) (e : Entry) (hi : 1 ≤ idx ∧ idx ≤ 100000) (h : entOk e = true) : spec_EntryText N (idx : Int) e = some (etx idx e, true) := by
  obtain ⟨h1, h2, h3⟩ := ent_in h
  have y1 := enc_len5 (n := idx) (by omega)
  have y2 := enc_len5 (n := e.Term.toNat) (by omega)
  have z1 := encT_size idx
  have z2 := encT_size e.Term.toNat
  have z3 : (⟨#[69]⟩ : ByteArray).size = 1 := rfl
  have z4 : (⟨#[UInt8.ofNat e.Kind.toNat]⟩ : ByteArray).size = 1 := rfl
  have ed : decide ((1 : Int) ≤ (idx : Int) ∧ (idx : Int) ≤ 100000) = true := by simp only [decide_eq_true_eq]; omega
  have et : e.Term = ((e.Term.toNat : Nat) : Int) := by omega
  have v2 := var_spec N hN e.Term.toNat (by omega)
  rw [← et] at v2
  unfold spec_EntryText
  rw [entOk_spec N hN e (by omega), h, in_eq, ed]
  simp only [Option.bind_some, Bool.not_true, Bool.false_eq_true, ↓reduceIte]
  rw [var_spec N hN idx (by omega), Option.bind_some, scat_le (by omega), Option.bind_some, v2, Option.bind_some, scat_le (by simp only [ByteArray.size_append]; omega), Option.bind_some, kind_str h2, scat_le (by simp only [ByteArray.size_append]; omega), Option.bind_some, scat_le (by simp only [ByteArray.size_append]; omega), Option.bind_some]
  rfl
theorem vars_impl (N : Nat) (hN : Big N) (a b : Nat) (ha : a ≤ 1000000000) (hb : b ≤ 1000000000) : impl_vars N [(a : Int), (b : Int)] = some (encT a ++ encT b, true) := by
  unfold impl_vars
  simp only [joinP]
  rw [impl_vars_l1_eq [(a : Int), (b : Int)] (by show (2 : Nat) ≤ _; decide) (by unfold Big at hN; show (2 : Nat) < N; omega)]
  have y1 := enc_len5 ha
  have y2 := enc_len5 hb
  have z1 := encT_size a
  have z2 := encT_size b
  have l1 : (intsOf (encT a)).length = (encT a).size := by unfold intsOf; rw [List.length_map, Array.length_toList]; rfl
  have l2 : (intsOf (encT b)).length = (encT b).size := by unfold intsOf; rw [List.length_map, Array.length_toList]; rfl
  simp only [impl_vars_l1_r, Option.bind_some, var_impl N hN a (by omega), var_impl N hN b (by omega), if_pos ha, if_pos hb, Bool.not_true, Bool.false_eq_true, ↓reduceIte]
  rw [show cat? ([] : List Int) (intsOf (encT a)) = some (intsOf (encT a)) from if_pos (by simp only [List.length_nil]; omega), Option.bind_some, show cat? (intsOf (encT a)) (intsOf (encT b)) = some (intsOf (encT a) ++ intsOf (encT b)) from if_pos (by omega), Option.bind_some]
  simp only [Option.bind_some, Sum.elim_inr]
  rw [strOf_cat, strOf_ints, strOf_ints]
theorem etext_impl (N : Nat) (hN : Big N) (idx : Nat) (e : Entry) (hi : 1 ≤ idx ∧ idx ≤ 100000) (h : entOk e = true) : impl_EntryText N (idx : Int) e = some (etx idx e, true) := by
  obtain ⟨h1, h2, h3⟩ := ent_in h
  have y1 := enc_len5 (n := idx) (by omega)
  have y2 := enc_len5 (n := e.Term.toNat) (by omega)
  have z1 := encT_size idx
  have z2 := encT_size e.Term.toNat
  have z3 : (⟨#[69]⟩ : ByteArray).size = 1 := rfl
  have z4 : (⟨#[UInt8.ofNat e.Kind.toNat]⟩ : ByteArray).size = 1 := rfl
  have ed : decide ((1 : Int) ≤ (idx : Int) ∧ (idx : Int) ≤ 100000) = true := by simp only [decide_eq_true_eq]; omega
  have et : e.Term = ((e.Term.toNat : Nat) : Int) := by omega
  have v2 := vars_impl N hN idx e.Term.toNat (by omega) (by omega)
  rw [← et] at v2
  unfold impl_EntryText
  rw [entOk_impl N hN e (by omega), h, within_eq, ed]
  simp only [Option.bind_some, Bool.not_true, Bool.false_eq_true, ↓reduceIte]
  rw [v2, Option.bind_some, scat_le (by simp only [ByteArray.size_append]; omega), Option.bind_some, kind_str h2, scat_le (by simp only [ByteArray.size_append]; omega), Option.bind_some, scat_le (by simp only [ByteArray.size_append]; omega), Option.bind_some]
  unfold etx
  simp only [ByteArray.append_assoc]
/-- Frames of entries, each at its place. -/
def frs (N : Nat) : Nat → List Entry → ByteArray
  | _, [] => ⟨#[]⟩
  | i, e :: es => frm N (etx i e) ++ frs N (i + 1) es
theorem frs_size (N : Nat) (hN : Big N) : ∀ (es : List Entry) (i : Nat), i + es.length ≤ 100001 → (∀ e ∈ es, entOk e = true) → (frs N i es).size ≤ 150 * es.length
  | [], _, _, _ => Nat.zero_le _
  | e :: es, i, hi, h => by
    simp only [List.length_cons] at hi ⊢
    have h1 := etx_size (idx := i) (by omega) (h e (by simp))
    have h2 := frm_size N hN (etx i e) (by omega)
    have h3 := enc_len5 (n := (etx i e).size) (by omega)
    have h4 := frs_size N hN es (i + 1) (by omega) (fun x hx => h x (by simp [hx]))
    rw [frs, ByteArray.size_append]
    omega
theorem ints_cat (a b : ByteArray) : intsOf (a ++ b) = intsOf a ++ intsOf b := by
  unfold intsOf
  rw [ByteArray.data_append, Array.toList_append, List.map_append]
theorem ints_size (t : ByteArray) : (intsOf t).length = t.size := by unfold intsOf; rw [List.length_map, Array.length_toList]; rfl
theorem frames_s (N : Nat) (hN : Big N) (l : Log) (s : Nat) (hs : l.Start = s) (hl : s + l.Entries.length ≤ 100000) (h : ∀ e ∈ l.Entries, entOk e = true) : ∀ (d k m : Nat) (acc : List Int), l.Entries.length = k + d → d < m → acc.length + 200 * d ≤ 100000000 →
    spec_l12Frames_l1 N l m (k : Int) acc = some (acc ++ intsOf (frs N (s + 1 + k) (l.Entries.drop k)))
  | 0, k, m, acc, hk, hm, ha => by
    obtain ⟨m, rfl⟩ : ∃ q, m = q + 1 := ⟨m - 1, by omega⟩
    rw [spec_l12Frames_l1, if_neg (by simp only [decide_eq_true_eq]; omega), List.drop_eq_nil_of_le (by omega), frs]
    simp [intsOf]
  | d + 1, k, m, acc, hk, hm, ha => by
    obtain ⟨m, rfl⟩ : ∃ q, m = q + 1 := ⟨m - 1, by omega⟩
    have hlt : k < l.Entries.length := by omega
    have he := h _ (List.getElem_mem hlt)
    rw [spec_l12Frames_l1, if_pos (by simp only [decide_eq_true_eq]; omega), at_lt hlt, Option.bind_some]
    have ei : w64 (w64 (l.Start + 1) + (k : Int)) = ((s + 1 + k : Nat) : Int) := by
      rw [hs, w64_id (n := (s : Int) + 1) (by omega) (by omega), w64_id (by omega) (by omega)]
      omega
    have hsz := etx_size (idx := s + 1 + k) (by omega) he
    rw [ei, etext_spec N hN _ _ (by omega) he, Option.bind_some, frame_spec N hN _ (by simp only; omega), if_pos (by simp only; omega), Option.bind_some]
    have hf := frm_size N hN (etx (s + 1 + k) l.Entries[k]) (by omega)
    have hy := enc_len5 (n := (etx (s + 1 + k) l.Entries[k]).size) (by omega)
    simp only
    rw [show cat? acc (intsOf (frm N (etx (s + 1 + k) l.Entries[k]))) = some (acc ++ intsOf (frm N (etx (s + 1 + k) l.Entries[k]))) from if_pos (by rw [ints_size]; omega), Option.bind_some, w64_succ (by omega)]
    rw [frames_s N hN l s hs hl h d (k + 1) m _ (by omega) (by omega) (by rw [List.length_append, ints_size]; omega), List.drop_eq_getElem_cons hlt, frs, ints_cat, List.append_assoc, Nat.add_assoc (s + 1) k 1]
theorem frames_i (N : Nat) (hN : Big N) (l : Log) (s : Nat) (hs : l.Start = s) (hl : s + l.Entries.length ≤ 100000) (h : ∀ e ∈ l.Entries, entOk e = true) : ∀ (d k m : Nat) (acc : List Int), l.Entries.length = k + d → d < m → acc.length + 200 * d ≤ 100000000 →
    impl_entryFrames_l1 N l m (k : Int) acc = some (acc ++ intsOf (frs N (s + 1 + k) (l.Entries.drop k)))
  | 0, k, m, acc, hk, hm, ha => by
    obtain ⟨m, rfl⟩ : ∃ q, m = q + 1 := ⟨m - 1, by omega⟩
    rw [impl_entryFrames_l1, if_neg (by simp only [decide_eq_true_eq]; omega), List.drop_eq_nil_of_le (by omega), frs]
    simp [intsOf]
  | d + 1, k, m, acc, hk, hm, ha => by
    obtain ⟨m, rfl⟩ : ∃ q, m = q + 1 := ⟨m - 1, by omega⟩
    have hlt : k < l.Entries.length := by omega
    have he := h _ (List.getElem_mem hlt)
    rw [impl_entryFrames_l1, if_pos (by simp only [decide_eq_true_eq]; omega), at_lt hlt, Option.bind_some]
    have ei : w64 (w64 (l.Start + 1) + (k : Int)) = ((s + 1 + k : Nat) : Int) := by
      rw [hs, w64_id (n := (s : Int) + 1) (by omega) (by omega), w64_id (by omega) (by omega)]
      omega
    have hsz := etx_size (idx := s + 1 + k) (by omega) he
    rw [ei, etext_impl N hN _ _ (by omega) he, Option.bind_some, show impl_framed N (etx (s + 1 + k) l.Entries[k], true).1 = some (frm N (etx (s + 1 + k) l.Entries[k])) by unfold impl_framed; rw [frame_impl N hN _ (by simp only; omega), if_pos (by simp only; omega)]; rfl, Option.bind_some]
    have hf := frm_size N hN (etx (s + 1 + k) l.Entries[k]) (by omega)
    have hy := enc_len5 (n := (etx (s + 1 + k) l.Entries[k]).size) (by omega)
    rw [show cat? acc (intsOf (frm N (etx (s + 1 + k) l.Entries[k]))) = some (acc ++ intsOf (frm N (etx (s + 1 + k) l.Entries[k]))) from if_pos (by rw [ints_size]; omega), Option.bind_some, w64_succ (by omega)]
    rw [frames_i N hN l s hs hl h d (k + 1) m _ (by omega) (by omega) (by rw [List.length_append, ints_size]; omega), List.drop_eq_getElem_cons hlt, frs, ints_cat, List.append_assoc, Nat.add_assoc (s + 1) k 1]
theorem lframes_spec (N : Nat) (hN : Big N) (l : Log) (s : Nat) (hs : l.Start = s) (hl : s + l.Entries.length ≤ 100000) (h : ∀ e ∈ l.Entries, entOk e = true) (k : Nat) (hk : k ≤ l.Entries.length) : spec_l12Frames N l (k : Int) = some (frs N (s + 1 + k) (l.Entries.drop k)) := by
  unfold spec_l12Frames
  simp only [joinP]
  rw [frames_s N hN l s hs hl h (l.Entries.length - k) k N [] (by omega) (by unfold Big at hN; omega) (by simp only [List.length_nil]; omega), Option.bind_some, List.nil_append, strOf_ints]
theorem lframes_impl (N : Nat) (hN : Big N) (l : Log) (s : Nat) (hs : l.Start = s) (hl : s + l.Entries.length ≤ 100000) (h : ∀ e ∈ l.Entries, entOk e = true) (k : Nat) (hk : k ≤ l.Entries.length) : impl_entryFrames N l (k : Int) = some (frs N (s + 1 + k) (l.Entries.drop k)) := by
  unfold impl_entryFrames
  simp only [joinP]
  rw [frames_i N hN l s hs hl h (l.Entries.length - k) k N [] (by omega) (by unfold Big at hN; omega) (by simp only [List.length_nil]; omega), Option.bind_some, List.nil_append, strOf_ints]
/-- The record that begins a log. -/
def htx (s t : Nat) : ByteArray := (⟨#[83]⟩ : ByteArray) ++ encT s ++ encT t
theorem htx_size {s t : Nat} (hs : s ≤ 100000) (ht : t ≤ 100000) : 1 ≤ (htx s t).size ∧ (htx s t).size ≤ 11 := by
  unfold htx
  have y1 := enc_len5 (n := s) (by omega)
  have y2 := enc_len5 (n := t) (by omega)
  have z1 := encT_size s
  have z2 := encT_size t
  have z3 : (⟨#[83]⟩ : ByteArray).size = 1 := rfl
  simp only [ByteArray.size_append]
  omega
/-- A log's file. -/
def lfile (N : Nat) (s t : Nat) (es : List Entry) : ByteArray := frm N (htx s t) ++ frs N (s + 1) es
theorem lfile_size (N : Nat) (hN : Big N) {s t : Nat} {es : List Entry} (hs : s + es.length ≤ 100000) (ht : t ≤ 100000) (h : ∀ e ∈ es, entOk e = true) : (lfile N s t es).size ≤ 30 + 150 * es.length := by
  have h1 := htx_size (s := s) (t := t) (by omega) ht
  have h2 := frm_size N hN (htx s t) (by omega)
  have h3 := enc_len5 (n := (htx s t).size) (by omega)
  have h4 := frs_size N hN es (s + 1) (by omega) h
  unfold lfile
  rw [ByteArray.size_append]
  omega
/-- A right log, of no more than so many entries. -/
structure GoodL (l : Log) (s t : Nat) : Prop where
  ok : logOk l = true
  start : l.Start = s
  term : l.StartTerm = t
  len : l.Entries.length ≤ 20
  s0 : s ≤ 1000
  t0 : t ≤ 1000
theorem terms_all : ∀ (es : List Entry) (t : Int), termsOk t es = true → ∀ e ∈ es, entOk e = true
  | [], _, _, e, he => by cases he
  | x :: es, t, h, e, he => by
    rw [termsOk_cons] at h
    simp only [Bool.and_eq_true] at h
    rcases List.mem_cons.1 he with rfl | he
    · exact h.1
    · exact terms_all es _ h.2.2 e he
theorem GoodL.all {l : Log} {s t : Nat} (h : GoodL l s t) : ∀ e ∈ l.Entries, entOk e = true := terms_all _ _ (logOk_at h.ok).2.2.2.2.2.2
theorem GoodL.small {l : Log} {s t : Nat} (h : GoodL l s t) : smallL l := ⟨by have := h.len; omega, fun e he => by have := (ent_in (h.all e he)).2.2; omega⟩
theorem logfile_spec (N : Nat) (hN : Big N) {l : Log} {s t : Nat} (h : GoodL l s t) : spec_LogFile N l = some (lfile N s t l.Entries, true) := by
  have hs := h.start
  have ht := h.term
  have hl := h.len
  have s0 := h.s0
  have t0 := h.t0
  unfold spec_LogFile spec_l12Head
  rw [logOk_spec N hN l h.small, h.ok]
  simp only [Option.bind_some, Bool.not_true, Bool.false_eq_true, ↓reduceIte]
  have y1 := enc_len5 (n := s) (by omega)
  have y2 := enc_len5 (n := t) (by omega)
  have z1 := encT_size s
  have z2 := encT_size t
  have z3 : (⟨#[83]⟩ : ByteArray).size = 1 := rfl
  rw [hs, ht, var_spec N hN s (by omega), Option.bind_some, scat_le (by omega), Option.bind_some, var_spec N hN t (by omega), Option.bind_some, scat_le (by simp only [ByteArray.size_append]; omega), Option.bind_some]
  have hz := htx_size (s := s) (t := t) (by omega) (by omega)
  change ((spec_Frame N (htx s t)).bind fun y139 => some y139.1).bind _ = _
  have hf := lframes_spec N hN l s hs (by omega) h.all 0 (by omega)
  rw [List.drop_zero, Nat.add_zero, show ((0 : Nat) : Int) = 0 from rfl] at hf
  have hsz := lfile_size N hN (s := s) (t := t) (es := l.Entries) (by omega) (by omega) h.all
  have hsz2 := hsz
  unfold lfile at hsz2
  rw [ByteArray.size_append] at hsz2
  rw [frame_spec N hN _ (by omega), if_pos (by omega), Option.bind_some, Option.bind_some, hf, Option.bind_some, scat_le (by simp only; omega), Option.bind_some]
  change (if decide (((lfile N s t l.Entries).size : Int) > 20000) = true then _ else some (lfile N s t l.Entries, true)) = _
  rw [if_neg (by simp only [decide_eq_true_eq]; omega)]
theorem logfile_impl (N : Nat) (hN : Big N) {l : Log} {s t : Nat} (h : GoodL l s t) : impl_LogFile N l = some (lfile N s t l.Entries, true) := by
  have hs := h.start
  have ht := h.term
  have hl := h.len
  have s0 := h.s0
  have t0 := h.t0
  unfold impl_LogFile
  rw [logOk_impl N hN l h.small, h.ok]
  simp only [Option.bind_some, Bool.not_true, Bool.false_eq_true, ↓reduceIte]
  have y1 := enc_len5 (n := s) (by omega)
  have y2 := enc_len5 (n := t) (by omega)
  have z1 := encT_size s
  have z2 := encT_size t
  have z3 : (⟨#[83]⟩ : ByteArray).size = 1 := rfl
  rw [hs, ht, vars_impl N hN s t (by omega) (by omega), Option.bind_some, scat_le (by simp only [ByteArray.size_append]; omega), Option.bind_some]
  have hz := htx_size (s := s) (t := t) (by omega) (by omega)
  have he : (⟨#[83]⟩ : ByteArray) ++ (encT s ++ encT t, true).1 = htx s t := by unfold htx; rw [ByteArray.append_assoc]
  rw [he]
  have hf := lframes_impl N hN l s hs (by omega) h.all 0 (by omega)
  rw [List.drop_zero, Nat.add_zero, show ((0 : Nat) : Int) = 0 from rfl] at hf
  have hsz := lfile_size N hN (s := s) (t := t) (es := l.Entries) (by omega) (by omega) h.all
  have hsz2 := hsz
  unfold lfile at hsz2
  rw [ByteArray.size_append] at hsz2
  have hfr : impl_framed N (htx s t) = some (frm N (htx s t)) := by
    unfold impl_framed
    rw [frame_impl N hN _ (by omega), if_pos (by omega)]
    rfl
  rw [hfr, Option.bind_some, hf, Option.bind_some, scat_le (by omega), Option.bind_some]
  change (if decide (((lfile N s t l.Entries).size : Int) > 20000) = true then _ else some (lfile N s t l.Entries, true)) = _
  rw [if_neg (by simp only [decide_eq_true_eq]; omega)]
theorem rv_part : ∀ (d : List UInt8) (q j acc : Nat), whl d → q < d.length → rv (d.take q) j acc = none
  | [], q, j, acc, h, _ => by cases h
  | [c], q, j, acc, h, hq => by
    have : q = 0 := by simp at hq; exact hq
    subst this
    rfl
  | c :: d :: r, q, j, acc, h, hq => by
    have h1 : 128 ≤ c.toNat := h.1
    have h2 : whl (d :: r) := h.2
    cases q with
    | zero => rfl
    | succ q =>
      rw [List.take_succ_cons, rv]
      split
      · rfl
      · rw [if_neg (by omega)]
        exact rv_part (d :: r) q (j + 1) _ h2 (by simp only [List.length_cons] at hq ⊢; omega)
abbrev bs (t : ByteArray) : List UInt8 := t.data.toList
theorem bs_len (t : ByteArray) : (bs t).length = t.size := Array.length_toList
theorem bs_app (a b : ByteArray) : bs (a ++ b) = bs a ++ bs b := by
  unfold bs
  rw [ByteArray.data_append, Array.toList_append]
theorem bs_enc (n : Nat) : bs (encT n) = enc n := List.toList_toArray
theorem bs_frm (N : Nat) (r : ByteArray) : bs (frm N r) = enc r.size ++ (bs (fourN N r) ++ bs r) := by
  unfold frm
  rw [bs_app, bs_app, bs_enc, List.append_assoc]
abbrev okR (r : ByteArray) : Prop := 1 ≤ r.size ∧ r.size ≤ 9000
theorem drop_len {t : ByteArray} {a : Nat} {l : List UInt8} (h : (bs t).drop a = l) (hl : l ≠ []) : t.size = a + l.length := by
  have h1 : ((bs t).drop a).length = l.length := by rw [h]
  rw [List.length_drop, bs_len] at h1
  have : 0 < l.length := List.length_pos_iff.2 hl
  omega
/-- A whole frame at a place. -/
theorem at_frame (N : Nat) (hN : Big N) {t r : ByteArray} {a : Nat} {M : List UInt8} (hr : okR r) (h : (bs t).drop a = bs (frm N r) ++ M) :
    a + (frm N r).size ≤ t.size ∧ rdR t a = ((r.size : Int), ((a + (enc r.size).length : Nat) : Int), true) ∧ t.extract (a + (enc r.size).length + 4) (a + (enc r.size).length + 4 + r.size) = r ∧ t.extract a (a + (enc r.size).length + 4 + r.size) = frm N r := by
  have h4 := four_size N hN r (by omega)
  have hf := frm_size N hN r (by omega)
  have hk := enc_pos r.size
  have hsz := drop_len h (by
    intro e
    have : (bs (frm N r) ++ M).length = 0 := by rw [e]; rfl
    rw [List.length_append, bs_len] at this
    omega)
  rw [List.length_append, bs_len] at hsz
  have hd := h
  rw [bs_frm, List.append_assoc] at hd
  have hle : a + (frm N r).size ≤ t.size := by omega
  refine ⟨hle, ?_, ?_, ?_⟩
  · have : rdvT t a = some (r.size, (enc r.size).length) := by
      unfold rdvT
      rw [show t.data.toList.drop a = _ from hd]
      refine rdv_some.2 ⟨by omega, rfl, by rw [List.take_left], by rw [List.length_append]; omega⟩
    unfold rdR
    rw [this]
  · apply ba_ext'
    rw [ext_toList t _ _ (by omega) (by omega)]
    have e1 : a + (enc r.size).length + 4 + r.size - (a + (enc r.size).length + 4) = (bs r).length := by rw [bs_len]; omega
    have e2 : t.data.toList.drop (a + (enc r.size).length + 4) = bs r ++ M := by
      rw [Nat.add_assoc, ← List.drop_drop, show t.data.toList.drop a = _ from hd, ← List.drop_drop, List.drop_left, List.append_assoc]
      have : 4 = (bs (fourN N r)).length := by rw [bs_len, h4]
      rw [this, List.drop_left]
    rw [e2, e1, List.take_left]
  · apply ba_ext'
    rw [ext_toList t _ _ (by omega) (by omega)]
    have e1 : a + (enc r.size).length + 4 + r.size - a = (bs (frm N r)).length := by rw [bs_len]; omega
    rw [show t.data.toList.drop a = _ from h, e1, List.take_left]
/-- Nothing, or a frame's beginning. -/
def torn (N : Nat) (p : List UInt8) : Prop := p = [] ∨ ∃ r, okR r ∧ ∃ q, q < (frm N r).size ∧ p = (bs (frm N r)).take q
theorem at_torn (N : Nat) (hN : Big N) {t : ByteArray} {a : Nat} {p : List UInt8} (ha : a ≤ t.size) (hp : torn N p) (h : (bs t).drop a = p) :
    rdR t a = (0, 0, false) ∨ ∃ n k : Nat, rdR t a = ((n : Int), ((a + k : Nat) : Int), true) ∧ t.size < a + k + 4 + n ∧ a + k ≤ t.size ∧ n ≤ 9000 := by
  rcases hp with rfl | ⟨r, hr, q, hq, rfl⟩
  · left
    unfold rdR rdvT
    rw [show t.data.toList.drop a = [] from h]
    rfl
  · have h4 := four_size N hN r (by omega)
    have hf := frm_size N hN r (by omega)
    have hpl : ((bs (frm N r)).take q).length = q := by rw [List.length_take, bs_len]; omega
    have hsz : t.size = a + q := by
      have h1 : ((bs t).drop a).length = q := by rw [h, hpl]
      rw [List.length_drop, bs_len] at h1
      omega
    by_cases hk : q < (enc r.size).length
    · left
      have e : (bs (frm N r)).take q = (enc r.size).take q := by
        rw [bs_frm, List.take_append_of_le_length (by omega)]
      unfold rdR rdvT rdv
      rw [show t.data.toList.drop a = _ from h, e, rv_part _ q 0 0 (whl_enc r.size).1 hk]
    · right
      refine ⟨r.size, (enc r.size).length, ?_, by omega, by omega, hr.2⟩
      have : rdvT t a = some (r.size, (enc r.size).length) := by
        unfold rdvT
        rw [show t.data.toList.drop a = _ from h]
        refine rdv_some.2 ⟨by omega, rfl, ?_, by rw [hpl]; omega⟩
        rw [List.take_take, Nat.min_eq_left (by omega), bs_frm, List.take_left]
      unfold rdR
      rw [this]
/-- Frames, one behind the other. -/
def cats (N : Nat) (rs : List ByteArray) : List UInt8 := (rs.map fun r => bs (frm N r)).flatten
def lens (N : Nat) (rs : List ByteArray) : Nat := (cats N rs).length
theorem cats_cons (N : Nat) (r : ByteArray) (rs : List ByteArray) : cats N (r :: rs) = bs (frm N r) ++ cats N rs := rfl
theorem unf_i (N : Nat) (hN : Big N) (t : ByteArray) (ht : t.size ≤ 20000) (p : List UInt8) (hp : torn N p) : ∀ (rs : List ByteArray) (a m : Nat) (acc : List ByteArray), (∀ r ∈ rs, okR r) → a ≤ t.size → (bs t).drop a = cats N rs ++ p → rs.length < m → acc.length + rs.length ≤ 1000000 →
    impl_Unframe_l1 N t m (a : Int) acc = some (acc ++ rs, ((a + lens N rs : Nat) : Int))
  | [], a, m, acc, hr, ha, h, hm, hb => by
    obtain ⟨m, rfl⟩ : ∃ q, m = q + 1 := ⟨m - 1, by simp at hm; omega⟩
    rw [impl_Unframe_l1, rvar_impl N hN t a (by omega) ha, Option.bind_some]
    have h' : (bs t).drop a = p := by rw [h]; rfl
    have hz : lens N [] = 0 := rfl
    rcases at_torn N hN ha hp h' with e | ⟨n, k, e, h1, h2, h3⟩
    · rw [e]
      simp [hz]
    · rw [e]
      simp only [Bool.not_true, Bool.false_eq_true, ↓reduceIte]
      have e3 : w64 ((t.size : Int) - ((a + k : Nat) : Int)) = (t.size : Int) - ((a + k : Nat) : Int) := w64_id (by omega) (by omega)
      rw [e3, w64_id (by omega) (by omega), if_pos (by simp only [decide_eq_true_eq]; omega), hz]
      simp
  | r :: rs, a, m, acc, hr, ha, h, hm, hb => by
    simp only [List.length_cons] at hm hb
    obtain ⟨m, rfl⟩ : ∃ q, m = q + 1 := ⟨m - 1, by omega⟩
    have hro := hr r (by simp)
    rw [cats_cons, List.append_assoc] at h
    obtain ⟨g1, g2, g3, g4⟩ := at_frame N hN hro h
    have hf := frm_size N hN r (by omega)
    rw [impl_Unframe_l1, rvar_impl N hN t a (by omega) ha, Option.bind_some, g2]
    simp only [Bool.not_true, Bool.false_eq_true, ↓reduceIte]
    have e3 : w64 ((t.size : Int) - ((a + (enc r.size).length : Nat) : Int)) = (t.size : Int) - ((a + (enc r.size).length : Nat) : Int) := w64_id (by omega) (by omega)
    have e4 : w64 (((a + (enc r.size).length : Nat) : Int) + 4) = ((a + (enc r.size).length + 4 : Nat) : Int) := by rw [w64_id (by omega) (by omega)]; omega
    have e5 : w64 (((a + (enc r.size).length + 4 : Nat) : Int) + (r.size : Int)) = ((a + (enc r.size).length + 4 + r.size : Nat) : Int) := by rw [w64_id (by omega) (by omega)]; omega
    rw [e3, w64_id (n := (t.size : Int) - ((a + (enc r.size).length : Nat) : Int) - 4) (by omega) (by omega), if_neg (by simp only [decide_eq_true_eq]; omega), e4, e5, scut_ok (by omega) (by omega), Option.bind_some, g3, frame_impl N hN r (by omega), if_pos hro, Option.bind_some]
    simp only [Bool.not_true, Bool.false_eq_true, ↓reduceIte]
    rw [scut_ok (by omega) (by omega), Option.bind_some, g4, if_neg (by simp), show cat? acc [r] = some (acc ++ [r]) from if_pos (by simp; omega), Option.bind_some]
    have hnext : (bs t).drop (a + (enc r.size).length + 4 + r.size) = cats N rs ++ p := by
      have : a + (enc r.size).length + 4 + r.size = a + (bs (frm N r)).length := by rw [bs_len]; omega
      rw [this, ← List.drop_drop, h, List.drop_left]
    rw [unf_i N hN t ht p hp rs _ m _ (fun x hx => hr x (by simp [hx])) (by omega) hnext (by omega) (by simp; omega)]
    have hl : lens N (r :: rs) = (frm N r).size + lens N rs := by
      unfold lens
      rw [cats_cons, List.length_append, bs_len]
    rw [hl, List.append_assoc, List.singleton_append]
    congr 3
    omega
theorem unf_s (N : Nat) (hN : Big N) (t : ByteArray) (ht : t.size ≤ 20000) (p : List UInt8) (hp : torn N p) : ∀ (rs : List ByteArray) (a m : Nat) (acc : List ByteArray), (∀ r ∈ rs, okR r) → a ≤ t.size → (bs t).drop a = cats N rs ++ p → rs.length < m → acc.length + rs.length ≤ 1000000 →
    spec_Unframe_l1 N t m (a : Int) acc = some (.inl (acc ++ rs, ((a + lens N rs : Nat) : Int))) ∨ spec_Unframe_l1 N t m (a : Int) acc = some (.inr (((a + lens N rs : Nat) : Int), acc ++ rs))
  | [], a, m, acc, hr, ha, h, hm, hb => by
    obtain ⟨m, rfl⟩ : ∃ q, m = q + 1 := ⟨m - 1, by simp at hm; omega⟩
    have hz : lens N [] = 0 := rfl
    rw [spec_Unframe_l1]
    by_cases hlt : a < t.size
    · rw [if_pos (by simp only [decide_eq_true_eq]; omega), rvar_spec N hN t a (by omega) ha, Option.bind_some]
      have h' : (bs t).drop a = p := by rw [h]; rfl
      left
      rcases at_torn N hN ha hp h' with e | ⟨n, k, e, h1, h2, h3⟩
      · rw [e]
        simp [hz]
      · rw [e]
        simp only [Bool.not_true, Bool.false_eq_true, ↓reduceIte]
        have e3 : w64 ((t.size : Int) - ((a + k : Nat) : Int)) = (t.size : Int) - ((a + k : Nat) : Int) := w64_id (by omega) (by omega)
        rw [e3, w64_id (by omega) (by omega), if_pos (by simp only [decide_eq_true_eq]; omega), hz]
        simp
    · right
      rw [if_neg (by simp only [decide_eq_true_eq]; omega), hz]
      simp
  | r :: rs, a, m, acc, hr, ha, h, hm, hb => by
    simp only [List.length_cons] at hm hb
    obtain ⟨m, rfl⟩ : ∃ q, m = q + 1 := ⟨m - 1, by omega⟩
    have hro := hr r (by simp)
    rw [cats_cons, List.append_assoc] at h
    obtain ⟨g1, g2, g3, g4⟩ := at_frame N hN hro h
    have hf := frm_size N hN r (by omega)
    rw [spec_Unframe_l1, if_pos (by simp only [decide_eq_true_eq]; omega), rvar_spec N hN t a (by omega) ha, Option.bind_some, g2]
    simp only [Bool.not_true, Bool.false_eq_true, ↓reduceIte]
    have e3 : w64 ((t.size : Int) - ((a + (enc r.size).length : Nat) : Int)) = (t.size : Int) - ((a + (enc r.size).length : Nat) : Int) := w64_id (by omega) (by omega)
    have e4 : w64 (((a + (enc r.size).length : Nat) : Int) + 4) = ((a + (enc r.size).length + 4 : Nat) : Int) := by rw [w64_id (by omega) (by omega)]; omega
    have e5 : w64 (((a + (enc r.size).length + 4 : Nat) : Int) + (r.size : Int)) = ((a + (enc r.size).length + 4 + r.size : Nat) : Int) := by rw [w64_id (by omega) (by omega)]; omega
    rw [e3, w64_id (n := (t.size : Int) - ((a + (enc r.size).length : Nat) : Int) - 4) (by omega) (by omega), if_neg (by simp only [decide_eq_true_eq]; omega), e4, e5, scut_ok (by omega) (by omega), Option.bind_some, g3, frame_spec N hN r (by omega), if_pos hro, Option.bind_some]
    simp only [Bool.not_true, Bool.false_eq_true, ↓reduceIte]
    rw [scut_ok (by omega) (by omega), Option.bind_some, g4, if_neg (by simp), show cat? acc [r] = some (acc ++ [r]) from if_pos (by simp; omega), Option.bind_some]
    have hnext : (bs t).drop (a + (enc r.size).length + 4 + r.size) = cats N rs ++ p := by
      have : a + (enc r.size).length + 4 + r.size = a + (bs (frm N r)).length := by rw [bs_len]; omega
      rw [this, ← List.drop_drop, h, List.drop_left]
    have ih := unf_s N hN t ht p hp rs _ m (acc ++ [r]) (fun x hx => hr x (by simp [hx])) (by omega) hnext (by omega) (by simp; omega)
    have hl : lens N (r :: rs) = (frm N r).size + lens N rs := by
      unfold lens
      rw [cats_cons, List.length_append, bs_len]
    rw [List.append_assoc, List.singleton_append] at ih
    have e6 : a + (enc r.size).length + 4 + r.size + lens N rs = a + lens N (r :: rs) := by omega
    rw [e6] at ih
    exact ih
theorem unframe_impl (N : Nat) (hN : Big N) (t : ByteArray) (ht : t.size ≤ 20000) {rs : List ByteArray} {p : List UInt8} (hp : torn N p) (hr : ∀ r ∈ rs, okR r) (h : bs t = cats N rs ++ p) (hl : rs.length ≤ 1000) : impl_Unframe N t = some (rs, (lens N rs : Int)) := by
  unfold impl_Unframe
  rw [if_neg (by simp only [decide_eq_true_eq]; omega)]
  have := unf_i N hN t ht p hp rs 0 N [] hr (by omega) (by rw [List.drop_zero]; exact h) (by unfold Big at hN; omega) (by simp; omega)
  rw [show ((0 : Nat) : Int) = 0 from rfl] at this
  rw [this, Option.bind_some, List.nil_append, Nat.zero_add]
theorem unframe_spec (N : Nat) (hN : Big N) (t : ByteArray) (ht : t.size ≤ 20000) {rs : List ByteArray} {p : List UInt8} (hp : torn N p) (hr : ∀ r ∈ rs, okR r) (h : bs t = cats N rs ++ p) (hl : rs.length ≤ 1000) : spec_Unframe N t = some (rs, (lens N rs : Int)) := by
  unfold spec_Unframe
  rw [if_neg (by simp only [decide_eq_true_eq]; omega)]
  simp only [joinP]
  have := unf_s N hN t ht p hp rs 0 N [] hr (by omega) (by rw [List.drop_zero]; exact h) (by unfold Big at hN; omega) (by simp; omega)
  rw [show ((0 : Nat) : Int) = 0 from rfl, List.nil_append, Nat.zero_add] at this
  rcases this with e | e <;> rw [e] <;> rfl
/-- A number at a place of a text, and the next place; a short text at a place. -/
def pv (t : ByteArray) (a : Nat) : Option (Nat × Nat) := match rdvT t a with
  | some (n, k) => some (n, a + k)
  | none => none
theorem pv_some {t : ByteArray} {a n b : Nat} (ha : a ≤ t.size) (h : pv t a = some (n, b)) : n ≤ 1000000000 ∧ a ≤ b ∧ b ≤ t.size ∧ encT n = t.extract a b := by
  unfold pv rdvT at h
  cases hr : rdv (t.data.toList.drop a) with
  | none => rw [hr] at h; cases h
  | some q =>
    obtain ⟨m, k⟩ := q
    rw [hr] at h
    simp only [Option.some.injEq, Prod.mk.injEq] at h
    obtain ⟨rfl, rfl⟩ := h
    obtain ⟨h1, h2, h3, h4⟩ := rdv_some.1 hr
    have hlen : t.data.toList.length = t.size := Array.length_toList
    rw [List.length_drop, hlen] at h4
    refine ⟨h1, by omega, by omega, ?_⟩
    apply ba_ext'
    rw [ext_toList t a (a + k) (by omega) (by omega), Nat.add_sub_cancel_left, h3]
theorem sv_ok (N : Nat) (hN : Big N) (t : ByteArray) (a : Nat) (ht : t.size ≤ 1099511627) (ha : a ≤ t.size) : spec_l05Var N ⟨t, a, false⟩ = some (match pv t a with | some (n, b) => ((n : Int), ⟨t, b, false⟩) | none => (0, ⟨t, a, true⟩)) := by
  unfold spec_l05Var
  simp only
  rw [rvar_spec N hN t a ht ha, Option.bind_some]
  unfold pv rdR
  cases rdvT t a <;> rfl
theorem sv_bad (N : Nat) (hN : Big N) (t : ByteArray) (a : Nat) (ht : t.size ≤ 1099511627) (ha : a ≤ t.size) : spec_l05Var N ⟨t, a, true⟩ = some (0, ⟨t, a, true⟩) := by
  unfold spec_l05Var
  simp only
  rw [rvar_spec N hN t a ht ha, Option.bind_some]
  rfl
theorem nv_ok (N : Nat) (hN : Big N) (t : ByteArray) (a : Nat) (ht : t.size ≤ 1099511627) (ha : a ≤ t.size) : reader_num N ⟨t, a, false⟩ = some (match pv t a with | some (n, b) => ((n : Int), ⟨t, b, false⟩) | none => (0, ⟨t, a, true⟩)) := by
  unfold reader_num
  simp only
  rw [rvar_impl N hN t a ht ha, Option.bind_some]
  unfold pv rdR
  cases rdvT t a <;> rfl
theorem nv_bad (N : Nat) (hN : Big N) (t : ByteArray) (a : Nat) (ht : t.size ≤ 1099511627) (ha : a ≤ t.size) : reader_num N ⟨t, a, true⟩ = some (0, ⟨t, a, true⟩) := by
  unfold reader_num
  simp only
  rw [rvar_impl N hN t a ht ha, Option.bind_some]
  rfl
theorem take_ok (N : Nat) (t : ByteArray) (a n : Nat) (ht : t.size ≤ 1099511627) (ha : a ≤ t.size) (hn : n ≤ 1000000000) : spec_l05Take N ⟨t, a, false⟩ (n : Int) = some (if n ≤ t.size - a then (t.extract a (a + n), ⟨t, (a + n : Nat), false⟩) else (⟨#[]⟩, ⟨t, a, true⟩)) := by
  unfold spec_l05Take
  simp only [Bool.false_eq_true, ↓reduceIte]
  rw [w64_id (n := (t.size : Int) - (a : Int)) (by omega) (by omega)]
  by_cases h : n ≤ t.size - a
  · have e1 : w64 ((a : Int) + (n : Int)) = ((a + n : Nat) : Int) := by rw [w64_id (by omega) (by omega)]; omega
    have e2 : w64 (((a + n : Nat) : Int) - (n : Int)) = (a : Int) := by rw [w64_id (by omega) (by omega)]; omega
    rw [if_neg (by simp only [decide_eq_true_eq]; omega), e1, e2, scut_ok (by omega) (by omega), Option.bind_some, if_pos h]
  · rw [if_pos (by simp only [decide_eq_true_eq]; omega), if_neg h]
theorem take_bad (N : Nat) (t : ByteArray) (a : Int) (n : Int) : spec_l05Take N ⟨t, a, true⟩ n = some (⟨#[]⟩, ⟨t, a, true⟩) := rfl
theorem pv_at {t : ByteArray} {a n : Nat} {M : List UInt8} (hn : n ≤ 1000000000) (h : (bs t).drop a = enc n ++ M) : pv t a = some (n, a + (enc n).length) := by
  unfold pv rdvT
  rw [show t.data.toList.drop a = _ from h, rdv_some.2 ⟨hn, rfl, by rw [List.take_left], by rw [List.length_append]; omega⟩]
theorem byte_ok (N : Nat) {t : ByteArray} {a : Nat} {c : UInt8} {M : List UInt8} (ht : t.size ≤ 1099511627) (h : (bs t).drop a = c :: M) : reader_byte N ⟨t, a, false⟩ = some ((c.toNat : Int), ⟨t, ((a + 1 : Nat) : Int), false⟩) := by
  have hs := drop_len h (by simp)
  simp only [List.length_cons] at hs
  have hc := c.toNat_lt
  unfold reader_byte
  simp only [Bool.false_eq_true, ↓reduceIte]
  rw [if_neg (by simp only [decide_eq_true_eq]; omega), w64_succ (by omega)]
  have e3 : w64 (((a + 1 : Nat) : Int) - 1) = (a : Int) := by rw [w64_id (by omega) (by omega)]; omega
  rw [e3, sat_at (r := M) h, Option.bind_some, w64_id (n := (c.toNat : Int)) (by omega) (by omega)]
theorem bs_etx (i : Nat) (e : Entry) : bs (etx i e) = 69 :: (enc i ++ (enc e.Term.toNat ++ (UInt8.ofNat e.Kind.toNat :: bs e.Data))) := by
  unfold etx
  rw [bs_app, bs_app, bs_app, bs_app, bs_enc, bs_enc, List.append_assoc, List.append_assoc, List.append_assoc]
  rfl
theorem bs_htx (s t : Nat) : bs (htx s t) = 83 :: (enc s ++ enc t) := by
  unfold htx
  rw [bs_app, bs_app, bs_enc, bs_enc, List.append_assoc]
  rfl
theorem drop_cons {l : List UInt8} {c : UInt8} {M : List UInt8} (h : l = c :: M) : l.drop 1 = M := by rw [h]; rfl
theorem drop_app {l A M : List UInt8} {a : Nat} (h : l.drop a = A ++ M) : l.drop (a + A.length) = M := by
  rw [← List.drop_drop, h, List.drop_left]
theorem start_head (N : Nat) (hN : Big N) {s t : Nat} (hs : s ≤ 100000) (ht : t ≤ 100000) : impl_readStart N (htx s t) = some (⟨s, t, []⟩, true) := by
  have hz := htx_size (s := s) (t := t) hs ht
  have h0 := bs_htx s t
  have h1 := drop_cons h0
  have h2 := drop_app h1
  have p1 := pv_at (t := htx s t) (a := 1) (by omega) h1
  have p2 := pv_at (t := htx s t) (a := 1 + (enc s).length) (n := t) (M := []) (by omega) (by rw [List.append_nil]; exact h2)
  have hsz : (htx s t).size = 1 + (enc s).length + (enc t).length := by
    rw [← bs_len, h0]
    simp only [List.length_cons, List.length_append]
    omega
  unfold impl_readStart
  have b := byte_ok N (t := htx s t) (a := 0) (c := 83) (by omega) (by rw [List.drop_zero]; exact h0)
  rw [show ((0 : Nat) : Int) = 0 from rfl] at b
  rw [b, Option.bind_some]
  simp only [Nat.zero_add]
  rw [nv_ok N hN _ 1 (by omega) (by omega), p1, Option.bind_some]
  simp only
  rw [nv_ok N hN _ (1 + (enc s).length) (by omega) (by omega), p2, Option.bind_some]
  simp only
  rw [if_pos (by decide)]
  unfold reader_done
  simp only [Bool.not_false, ↓reduceIte, Option.bind_some]
  have : (((1 + (enc s).length + (enc t).length : Nat) : Int) == ((htx s t).size : Int)) = true := by rw [hsz]; simp
  rw [this]
theorem start_ent (N : Nat) (hN : Big N) {i : Nat} {e : Entry} (hi : i ≤ 100000) (h : entOk e = true) : ∃ l, impl_readStart N (etx i e) = some (l, false) := by
  have hz := etx_size hi h
  obtain ⟨g1, g2, g3⟩ := ent_in h
  have h0 := bs_etx i e
  have h1 := drop_cons h0
  have h2 := drop_app h1
  have p1 := pv_at (t := etx i e) (a := 1) (by omega) h1
  have p2 := pv_at (t := etx i e) (a := 1 + (enc i).length) (n := e.Term.toNat) (by omega) h2
  have hsz : (etx i e).size = 1 + (enc i).length + (enc e.Term.toNat).length + 1 + e.Data.size := by
    rw [← bs_len, h0]
    simp only [List.length_cons, List.length_append, bs_len]
    omega
  unfold impl_readStart
  have b := byte_ok N (t := etx i e) (a := 0) (c := 69) (by omega) (by rw [List.drop_zero]; exact h0)
  rw [show ((0 : Nat) : Int) = 0 from rfl] at b
  rw [b, Option.bind_some]
  simp only [Nat.zero_add]
  rw [nv_ok N hN _ 1 (by omega) (by omega), p1, Option.bind_some]
  simp only
  rw [nv_ok N hN _ (1 + (enc i).length) (by omega) (by omega), p2, Option.bind_some]
  simp only
  rw [if_neg (by decide)]
  exact ⟨_, rfl⟩
theorem kind_byte {k : Int} (h : 1 ≤ k ∧ k ≤ 3) : ((UInt8.ofNat k.toNat).toNat : Int) = k := by
  have : (UInt8.ofNat k.toNat).toNat = k.toNat := by rw [UInt8.toNat_ofNat']; omega
  rw [this]
  omega
theorem data_tail {i : Nat} {e : Entry} : sdrop? (etx i e) ((1 + (enc i).length + (enc e.Term.toNat).length + 1 : Nat) : Int) = some e.Data := by
  have h0 := bs_etx i e
  have h3 := drop_app (drop_app (drop_cons h0))
  have h4 : (bs (etx i e)).drop (1 + (enc i).length + (enc e.Term.toNat).length + 1) = bs e.Data := by rw [← List.drop_drop, h3]; rfl
  have hsz : (etx i e).size = 1 + (enc i).length + (enc e.Term.toNat).length + 1 + e.Data.size := by
    rw [← bs_len, h0]
    simp only [List.length_cons, List.length_append, bs_len]
    omega
  rw [sdrop_ok (by omega)]
  congr 1
  apply ba_ext'
  rw [ext_toList _ _ _ (by omega) (Nat.le_refl _), show (etx i e).data.toList.drop _ = _ from h4, List.take_of_length_le (by rw [bs_len]; omega)]
theorem ent_eq {e : Entry} (h : entOk e = true) : (⟨((e.Term.toNat : Nat) : Int), ((UInt8.ofNat e.Kind.toNat).toNat : Int), e.Data⟩ : Entry) = e := by
  obtain ⟨g1, g2, g3⟩ := ent_in h
  rw [kind_byte g2, Int.toNat_of_nonneg g1.1]
theorem rent_impl (N : Nat) (hN : Big N) {i : Nat} {e : Entry} (hi : 1 ≤ i ∧ i ≤ 100000) (h : entOk e = true) : impl_ReadEntry N (etx i e) = some ((i : Int), e, true) := by
  have hz := etx_size hi.2 h
  obtain ⟨g1, g2, g3⟩ := ent_in h
  have h0 := bs_etx i e
  have h1 := drop_cons h0
  have h2 := drop_app h1
  have h3 := drop_app h2
  have p1 := pv_at (t := etx i e) (a := 1) (by omega) h1
  have p2 := pv_at (t := etx i e) (a := 1 + (enc i).length) (n := e.Term.toNat) (by omega) h2
  have hsz : (etx i e).size = 1 + (enc i).length + (enc e.Term.toNat).length + 1 + e.Data.size := by
    rw [← bs_len, h0]
    simp only [List.length_cons, List.length_append, bs_len]
    omega
  unfold impl_ReadEntry
  have b := byte_ok N (t := etx i e) (a := 0) (c := 69) (by omega) (by rw [List.drop_zero]; exact h0)
  rw [show ((0 : Nat) : Int) = 0 from rfl] at b
  rw [b, Option.bind_some]
  simp only [Nat.zero_add]
  rw [nv_ok N hN _ 1 (by omega) (by omega), p1, Option.bind_some]
  simp only
  rw [nv_ok N hN _ (1 + (enc i).length) (by omega) (by omega), p2, Option.bind_some]
  simp only
  rw [byte_ok N (by omega) h3, Option.bind_some]
  simp only [Bool.false_eq_true, ↓reduceIte]
  rw [if_neg (by decide), data_tail, Option.bind_some, ent_eq h, entOk_impl N hN e (by omega), h, within_eq]
  have ed : decide ((1 : Int) ≤ (i : Int) ∧ (i : Int) ≤ 100000) = true := by simp only [decide_eq_true_eq]; omega
  simp only [Option.bind_some, ed, Bool.not_true, Bool.false_eq_true, ↓reduceIte]
theorem take1 (N : Nat) {t : ByteArray} {a : Nat} {c : UInt8} {M : List UInt8} (ht : t.size ≤ 1099511627) (h : (bs t).drop a = c :: M) : spec_l05Take N ⟨t, a, false⟩ 1 = some (⟨#[c]⟩, ⟨t, ((a + 1 : Nat) : Int), false⟩) := by
  have hs := drop_len h (by simp)
  simp only [List.length_cons] at hs
  have e := take_ok N t a 1 ht (by omega) (by decide)
  rw [show ((1 : Nat) : Int) = 1 from rfl] at e
  rw [e, if_pos (by omega)]
  have : t.extract a (a + 1) = ⟨#[c]⟩ := by
    apply ba_ext'
    rw [ext_toList t a (a + 1) (by omega) (by omega), show t.data.toList.drop a = _ from h, Nat.add_sub_cancel_left]
    rfl
  rw [this]
theorem rent_spec (N : Nat) (hN : Big N) {i : Nat} {e : Entry} (hi : 1 ≤ i ∧ i ≤ 100000) (h : entOk e = true) : spec_ReadEntry N (etx i e) = some ((i : Int), e, true) := by
  have hz := etx_size hi.2 h
  obtain ⟨g1, g2, g3⟩ := ent_in h
  have h0 := bs_etx i e
  have h1 := drop_cons h0
  have h2 := drop_app h1
  have h3 := drop_app h2
  have p1 := pv_at (t := etx i e) (a := 1) (by omega) h1
  have p2 := pv_at (t := etx i e) (a := 1 + (enc i).length) (n := e.Term.toNat) (by omega) h2
  have hsz : (etx i e).size = 1 + (enc i).length + (enc e.Term.toNat).length + 1 + e.Data.size := by
    rw [← bs_len, h0]
    simp only [List.length_cons, List.length_append, bs_len]
    omega
  have hc := (UInt8.ofNat e.Kind.toNat).toNat_lt
  unfold spec_ReadEntry
  have b := take1 N (t := etx i e) (a := 0) (c := 69) (by omega) (by rw [List.drop_zero]; exact h0)
  rw [show ((0 : Nat) : Int) = 0 from rfl] at b
  rw [b, Option.bind_some]
  simp only [Nat.zero_add]
  rw [sv_ok N hN _ 1 (by omega) (by omega), p1, Option.bind_some]
  simp only
  rw [sv_ok N hN _ (1 + (enc i).length) (by omega) (by omega), p2, Option.bind_some]
  simp only
  rw [take1 N (by omega) h3, Option.bind_some]
  simp only [Bool.false_eq_true, ↓reduceIte]
  have e2 : sat? (⟨#[UInt8.ofNat e.Kind.toNat]⟩ : ByteArray) 0 = some ((UInt8.ofNat e.Kind.toNat).toNat : Int) := sat_at (t := ⟨#[UInt8.ofNat e.Kind.toNat]⟩) (k := 0) (r := []) rfl
  rw [e2, Option.bind_some, w64_id (n := ((UInt8.ofNat e.Kind.toNat).toNat : Int)) (by omega) (by omega), data_tail, Option.bind_some, ent_eq h, etext_spec N hN i e hi h, Option.bind_some]
  simp
theorem sstart_head (N : Nat) (hN : Big N) {s t : Nat} (hs : s ≤ 100000) (ht : t ≤ 100000) : spec_l12Start N (htx s t) = some (⟨s, t, []⟩, true) := by
  have hz := htx_size (s := s) (t := t) hs ht
  have h0 := bs_htx s t
  have h1 := drop_cons h0
  have h2 := drop_app h1
  have p1 := pv_at (t := htx s t) (a := 1) (by omega) h1
  have p2 := pv_at (t := htx s t) (a := 1 + (enc s).length) (n := t) (M := []) (by omega) (by rw [List.append_nil]; exact h2)
  have hsz : (htx s t).size = 1 + (enc s).length + (enc t).length := by
    rw [← bs_len, h0]
    simp only [List.length_cons, List.length_append]
    omega
  have z1 := encT_size s
  have z2 := encT_size t
  have z3 : (⟨#[83]⟩ : ByteArray).size = 1 := rfl
  unfold spec_l12Start
  have b := take1 N (t := htx s t) (a := 0) (c := 83) (by omega) (by rw [List.drop_zero]; exact h0)
  rw [show ((0 : Nat) : Int) = 0 from rfl] at b
  rw [b, Option.bind_some]
  simp only [Nat.zero_add]
  rw [sv_ok N hN _ 1 (by omega) (by omega), p1, Option.bind_some]
  simp only
  rw [sv_ok N hN _ (1 + (enc s).length) (by omega) (by omega), p2, Option.bind_some]
  simp only [Bool.false_eq_true, ↓reduceIte]
  rw [var_spec N hN s (by omega), Option.bind_some, scat_le (by omega), Option.bind_some, var_spec N hN t (by omega), Option.bind_some, scat_le (by simp only [ByteArray.size_append]; omega), Option.bind_some]
  change (if (!decide (htx s t = htx s t)) = true then _ else _) = _
  simp
theorem sstart_ent (N : Nat) (hN : Big N) {i : Nat} {e : Entry} (hi : i ≤ 100000) (h : entOk e = true) : ∃ l, spec_l12Start N (etx i e) = some (l, false) := by
  have hz := etx_size hi h
  obtain ⟨g1, g2, g3⟩ := ent_in h
  have h0 := bs_etx i e
  have h1 := drop_cons h0
  have h2 := drop_app h1
  have p1 := pv_at (t := etx i e) (a := 1) (by omega) h1
  have p2 := pv_at (t := etx i e) (a := 1 + (enc i).length) (n := e.Term.toNat) (by omega) h2
  have hsz : (etx i e).size = 1 + (enc i).length + (enc e.Term.toNat).length + 1 + e.Data.size := by
    rw [← bs_len, h0]
    simp only [List.length_cons, List.length_append, bs_len]
    omega
  have y1 := enc_len5 (n := i) (by omega)
  have y2 := enc_len5 (n := e.Term.toNat) (by omega)
  have z1 := encT_size i
  have z2 := encT_size e.Term.toNat
  have z3 : (⟨#[83]⟩ : ByteArray).size = 1 := rfl
  unfold spec_l12Start
  have b := take1 N (t := etx i e) (a := 0) (c := 69) (by omega) (by rw [List.drop_zero]; exact h0)
  rw [show ((0 : Nat) : Int) = 0 from rfl] at b
  rw [b, Option.bind_some]
  simp only [Nat.zero_add]
  rw [sv_ok N hN _ 1 (by omega) (by omega), p1, Option.bind_some]
  simp only
  rw [sv_ok N hN _ (1 + (enc i).length) (by omega) (by omega), p2, Option.bind_some]
  simp only [Bool.false_eq_true, ↓reduceIte]
  rw [var_spec N hN i (by omega), Option.bind_some, scat_le (by omega), Option.bind_some, var_spec N hN e.Term.toNat (by omega), Option.bind_some, scat_le (by simp only [ByteArray.size_append]; omega), Option.bind_some]
  have hne : ¬ (⟨#[83]⟩ : ByteArray) ++ encT i ++ encT e.Term.toNat = etx i e := by
    intro hq
    have : bs ((⟨#[83]⟩ : ByteArray) ++ encT i ++ encT e.Term.toNat) = bs (etx i e) := by rw [hq]
    rw [h0, bs_app, bs_app, show bs (⟨#[83]⟩ : ByteArray) = [83] from rfl] at this
    have h5 : (83 : UInt8) = 69 := by
      have := congrArg List.head? this
      simp at this
    cases h5
  rw [if_pos (by simpa using hne)]
  exact ⟨_, rfl⟩
/-- An entry that takes a place. -/
def appE (es : List Entry) (p : Nat × Entry) : List Entry := es.take p.1 ++ [p.2]
/-- Entries that may come, one behind the other. -/
def okPs (s : Nat) : List Entry → List (Nat × Entry) → Prop
  | _, [] => True
  | es, p :: ps => p.1 ≤ es.length ∧ s + 1 + p.1 ≤ 100000 ∧ entOk p.2 = true ∧ okPs s (appE es p) ps
def ertx (s : Nat) (p : Nat × Entry) : ByteArray := etx (s + 1 + p.1) p.2
theorem app_len {es : List Entry} {p : Nat × Entry} (h : p.1 ≤ es.length) : (appE es p).length = p.1 + 1 := by
  unfold appE
  rw [List.length_append, List.length_take, List.length_singleton]
  omega
theorem cat_e (es : List Entry) (e : Entry) (h : es.length ≤ 1000000) : cat? es [e] = some (es ++ [e]) := by
  unfold cat?
  rw [if_pos (by simp; omega)]
theorem take_e {es : List Entry} {k : Nat} (h : k ≤ es.length) : take? es (k : Int) = some (es.take k) := by
  unfold take?
  rw [if_pos (by omega), Int.toNat_natCast]
theorem rl_i (N : Nat) (hN : Big N) (y : List ByteArray × Int) (s t : Nat) (hs : s ≤ 100000) (hl : y.1.length ≤ 1000) : ∀ (ps : List (Nat × Entry)) (pre : List ByteArray) (m : Nat) (es : List Entry), y.1 = pre ++ ps.map (ertx s) → 1 ≤ pre.length → ps.length < m → okPs s es ps → es.length + ps.length ≤ 100000 →
    impl_ReadLog_l1 N y m (pre.length : Int) (s : Int) (t : Int) es = some (.inr ((s : Int), (t : Int), ps.foldl appE es))
  | [], pre, m, es, hy, hp, hm, hk, hb => by
    obtain ⟨m, rfl⟩ : ∃ q, m = q + 1 := ⟨m - 1, by simp at hm; omega⟩
    have : y.1.length = pre.length := by rw [hy]; simp
    rw [impl_ReadLog_l1, if_neg (by simp only [decide_eq_true_eq]; omega)]
    rfl
  | p :: ps, pre, m, es, hy, hp, hm, hk, hb => by
    simp only [List.length_cons] at hm hb
    obtain ⟨m, rfl⟩ : ∃ q, m = q + 1 := ⟨m - 1, by omega⟩
    obtain ⟨k1, k2, k3, k4⟩ := hk
    have hyl : y.1.length = pre.length + (ps.length + 1) := by rw [hy]; simp
    have hat : at? y.1 (pre.length : Int) = some (ertx s p) := by
      rw [hy]
      unfold at?
      rw [if_pos (by omega), Int.toNat_natCast, List.getElem?_append_right (Nat.le_refl _)]
      simp
    obtain ⟨l0, e0⟩ := start_ent N hN (i := s + 1 + p.1) (e := p.2) k2 k3
    rw [impl_ReadLog_l1, if_pos (by simp only [decide_eq_true_eq]; omega), hat, Option.bind_some]
    unfold ertx
    rw [e0, Option.bind_some]
    simp only [Bool.false_eq_true, ↓reduceIte]
    rw [rent_impl N hN ⟨by omega, k2⟩ k3, Option.bind_some]
    simp only [Bool.not_true, Bool.false_eq_true, ↓reduceIte]
    have hne : ((pre.length : Int) == 0) = false := by rw [beq_eq_false_iff_ne]; omega
    rw [hne]
    simp only [Bool.false_eq_true, ↓reduceIte]
    have e1 : w64 (((s + 1 + p.1 : Nat) : Int) - (s : Int)) = ((p.1 + 1 : Nat) : Int) := by rw [w64_id (by omega) (by omega)]; omega
    have e2 : w64 (((es.length : Nat) : Int) + 1) = ((es.length + 1 : Nat) : Int) := w64_succ (by omega)
    have e3 : w64 (((p.1 + 1 : Nat) : Int) - 1) = (p.1 : Int) := by rw [w64_id (by omega) (by omega)]; omega
    have ed : decide ((1 : Int) ≤ ((p.1 + 1 : Nat) : Int) ∧ ((p.1 + 1 : Nat) : Int) ≤ ((es.length + 1 : Nat) : Int)) = true := by simp only [decide_eq_true_eq]; omega
    rw [e1, e2, within_eq, ed, Option.bind_some]
    simp only [Bool.not_true, Bool.false_eq_true, ↓reduceIte]
    rw [e3, take_e k1, Option.bind_some, Int.toNat_natCast, cat_e _ _ (by rw [List.length_take]; omega), Option.bind_some, w64_succ (by omega)]
    have hal := app_len k1
    have := rl_i N hN y s t hs hl ps (pre ++ [ertx s p]) m (appE es p) (by rw [hy]; simp) (by simp) (by omega) k4 (by omega)
    rw [List.length_append, List.length_singleton] at this
    exact this
theorem rl_s (N : Nat) (hN : Big N) (y : List ByteArray × Int) (s t : Nat) (hs : s ≤ 100000) (hl : y.1.length ≤ 1000) : ∀ (ps : List (Nat × Entry)) (pre : List ByteArray) (m : Nat) (es : List Entry), y.1 = pre ++ ps.map (ertx s) → 1 ≤ pre.length → ps.length < m → okPs s es ps → es.length + ps.length ≤ 100000 →
    spec_ReadLog_l1 N y m (pre.length : Int) (s : Int) (t : Int) es = some (.inr ((s : Int), (t : Int), ps.foldl appE es))
  | [], pre, m, es, hy, hp, hm, hk, hb => by
    obtain ⟨m, rfl⟩ : ∃ q, m = q + 1 := ⟨m - 1, by simp at hm; omega⟩
    have : y.1.length = pre.length := by rw [hy]; simp
    rw [spec_ReadLog_l1, if_neg (by simp only [decide_eq_true_eq]; omega)]
    rfl
  | p :: ps, pre, m, es, hy, hp, hm, hk, hb => by
    simp only [List.length_cons] at hm hb
    obtain ⟨m, rfl⟩ : ∃ q, m = q + 1 := ⟨m - 1, by omega⟩
    obtain ⟨k1, k2, k3, k4⟩ := hk
    have hyl : y.1.length = pre.length + (ps.length + 1) := by rw [hy]; simp
    have hat : at? y.1 (pre.length : Int) = some (ertx s p) := by
      rw [hy]
      unfold at?
      rw [if_pos (by omega), Int.toNat_natCast, List.getElem?_append_right (Nat.le_refl _)]
      simp
    obtain ⟨l0, e0⟩ := sstart_ent N hN (i := s + 1 + p.1) (e := p.2) k2 k3
    rw [spec_ReadLog_l1, if_pos (by simp only [decide_eq_true_eq]; omega)]
    simp only [joinP, hat, Option.bind_some]
    have e0' : spec_l12Start N (ertx s p) = some (l0, false) := e0
    have r0 : spec_ReadEntry N (ertx s p) = some (((s + 1 + p.1 : Nat) : Int), p.2, true) := rent_spec N hN ⟨by omega, k2⟩ k3
    rw [e0', Option.bind_some]
    simp only [Bool.false_eq_true, ↓reduceIte]
    rw [r0, Option.bind_some]
    have hne : ((pre.length : Int) == 0) = false := by rw [beq_eq_false_iff_ne]; omega
    rw [hne]
    simp only [Bool.not_true, Bool.false_eq_true, ↓reduceIte]
    rw [if_neg (by simp only [decide_eq_true_eq]; omega)]
    have e1 : w64 (((s + 1 + p.1 : Nat) : Int) - (s : Int)) = ((p.1 + 1 : Nat) : Int) := by rw [w64_id (by omega) (by omega)]; omega
    have e3 : w64 (((p.1 + 1 : Nat) : Int) - 1) = (p.1 : Int) := by rw [w64_id (by omega) (by omega)]; omega
    have el : spec_l12Last N (Log.mk (s : Int) (t : Int) es) = some (((s + es.length : Nat)) : Int) := by
      unfold spec_l12Last
      simp only
      rw [w64_id (by omega) (by omega)]
      rfl
    rw [el, Option.bind_some, w64_succ (by omega), if_neg (by simp only [decide_eq_true_eq]; omega), e1, e3, take_e k1, Option.bind_some, Int.toNat_natCast]
    have c1 : cat? ([] : List Entry) (es.take p.1) = some (es.take p.1) := by
      unfold cat?
      rw [if_pos (by rw [List.length_take]; simp; omega), List.nil_append]
    rw [c1, Option.bind_some, cat_e _ _ (by rw [List.length_take]; omega), Option.bind_some, w64_succ (by omega)]
    have hal := app_len k1
    have := rl_s N hN y s t hs hl ps (pre ++ [ertx s p]) m (appE es p) (by rw [hy]; simp) (by simp) (by omega) k4 (by omega)
    rw [List.length_append, List.length_singleton] at this
    exact this
/-- A file's records, and a torn end. -/
structure IsFile (N : Nat) (F : ByteArray) (s t : Nat) (ps : List (Nat × Entry)) (p : List UInt8) : Prop where
  eq : bs F = cats N (htx s t :: ps.map (ertx s)) ++ p
  torn : torn N p
  size : F.size ≤ 20000
  ok : okPs s [] ps
  s0 : s ≤ 1000
  t0 : t ≤ 1000
  len : ps.length ≤ 100
theorem okR_ps {s : Nat} : ∀ {ps : List (Nat × Entry)} {es : List Entry}, okPs s es ps → ∀ r ∈ ps.map (ertx s), okR r
  | [], _, _, r, hr => by cases hr
  | p :: ps, es, h, r, hr => by
    obtain ⟨h1, h2, h3, h4⟩ := h
    rcases List.mem_cons.1 hr with rfl | hr
    · have := etx_size (idx := s + 1 + p.1) h2 h3
      exact ⟨this.1, by have := this.2; unfold ertx; omega⟩
    · exact okR_ps h4 r hr
theorem IsFile.recs {N : Nat} {F : ByteArray} {s t : Nat} {ps : List (Nat × Entry)} {p : List UInt8} (h : IsFile N F s t ps p) : ∀ r ∈ htx s t :: ps.map (ertx s), okR r := by
  intro r hr
  have s0 := h.s0
  have t0 := h.t0
  rcases List.mem_cons.1 hr with rfl | hr
  · have := htx_size (s := s) (t := t) (by omega) (by omega)
    exact ⟨this.1, by omega⟩
  · exact okR_ps h.ok r hr
theorem readlog_impl (N : Nat) (hN : Big N) {F : ByteArray} {s t : Nat} {ps : List (Nat × Entry)} {p : List UInt8} (h : IsFile N F s t ps p) (hok : logOk ⟨s, t, ps.foldl appE []⟩ = true) (hsm : smallL ⟨s, t, ps.foldl appE []⟩) :
    impl_ReadLog N F = some (⟨s, t, ps.foldl appE []⟩, (lens N (htx s t :: ps.map (ertx s)) : Int), true) := by
  have s0 := h.s0
  have t0 := h.t0
  have hl := h.len
  unfold impl_ReadLog
  rw [unframe_impl N hN F h.size h.torn h.recs h.eq (by simp; omega), Option.bind_some]
  simp only [joinP]
  obtain ⟨q, hq⟩ : ∃ q, N = q + 1 := ⟨N - 1, by unfold Big at hN; omega⟩
  have e1 : impl_ReadLog_l1 N (htx s t :: ps.map (ertx s), (lens N (htx s t :: ps.map (ertx s)) : Int)) N 0 0 0 [] = some (.inr ((s : Int), (t : Int), ps.foldl appE [])) := by
    conv => lhs; arg 3; rw [hq]
    rw [impl_ReadLog_l1, if_pos (by simp)]
    have a0 : at? (htx s t :: ps.map (ertx s)) 0 = some (htx s t) := rfl
    simp only
    rw [a0, Option.bind_some, start_head N hN (by omega) (by omega), Option.bind_some]
    simp only [↓reduceIte]
    have := rl_i N hN (htx s t :: ps.map (ertx s), (lens N (htx s t :: ps.map (ertx s)) : Int)) s t (by omega) (by simp; omega) ps [htx s t] q [] rfl (by simp) (by unfold Big at hN; omega) h.ok (by simp; omega)
    exact this
  rw [e1, Option.bind_some]
  simp only [Sum.elim_inr]
  rw [if_neg (by simp; omega), logOk_impl N hN _ hsm, hok, Option.bind_some]
  rfl
theorem readlog_spec (N : Nat) (hN : Big N) {F : ByteArray} {s t : Nat} {ps : List (Nat × Entry)} {p : List UInt8} (h : IsFile N F s t ps p) (hok : logOk ⟨s, t, ps.foldl appE []⟩ = true) (hsm : smallL ⟨s, t, ps.foldl appE []⟩) :
    spec_ReadLog N F = some (⟨s, t, ps.foldl appE []⟩, (lens N (htx s t :: ps.map (ertx s)) : Int), true) := by
  have s0 := h.s0
  have t0 := h.t0
  have hl := h.len
  unfold spec_ReadLog
  rw [unframe_spec N hN F h.size h.torn h.recs h.eq (by simp; omega), Option.bind_some]
  simp only [joinP]
  obtain ⟨q, hq⟩ : ∃ q, N = q + 1 := ⟨N - 1, by unfold Big at hN; omega⟩
  have e1 : spec_ReadLog_l1 N (htx s t :: ps.map (ertx s), (lens N (htx s t :: ps.map (ertx s)) : Int)) N 0 0 0 [] = some (.inr ((s : Int), (t : Int), ps.foldl appE [])) := by
    conv => lhs; arg 3; rw [hq]
    rw [spec_ReadLog_l1, if_pos (by simp)]
    have a0 : at? (htx s t :: ps.map (ertx s)) 0 = some (htx s t) := rfl
    simp only [joinP]
    rw [a0, Option.bind_some, sstart_head N hN (by omega) (by omega), Option.bind_some]
    simp only [↓reduceIte]
    have := rl_s N hN (htx s t :: ps.map (ertx s), (lens N (htx s t :: ps.map (ertx s)) : Int)) s t (by omega) (by simp; omega) ps [htx s t] q [] rfl (by simp) (by unfold Big at hN; omega) h.ok (by simp; omega)
    exact this
  rw [e1, Option.bind_some]
  simp only [Sum.elim_inr]
  rw [if_neg (by simp; omega), logOk_spec N hN _ hsm, hok, Option.bind_some]
  rfl
/-- Entries, each at its place. -/
def ens : Nat → List Entry → List (Nat × Entry)
  | _, [] => []
  | k, e :: es => (k, e) :: ens (k + 1) es
theorem ens_len : ∀ (es : List Entry) (k : Nat), (ens k es).length = es.length
  | [], _ => rfl
  | e :: es, k => by rw [ens, List.length_cons, ens_len es, List.length_cons]
theorem fold_ens : ∀ (es pre : List Entry), (ens pre.length es).foldl appE pre = pre ++ es
  | [], pre => by simp [ens]
  | e :: es, pre => by
    have h := fold_ens es (pre ++ [e])
    rw [List.length_append, List.length_singleton] at h
    rw [ens, List.foldl_cons]
    have : appE pre (pre.length, e) = pre ++ [e] := by unfold appE; rw [List.take_length]
    rw [this, h, List.append_assoc, List.singleton_append]
theorem fold_ens_at {es pre : List Entry} {k : Nat} (hk : k ≤ pre.length) (h0 : es ≠ []) : (ens k es).foldl appE pre = pre.take k ++ es := by
  cases es with
  | nil => exact absurd rfl h0
  | cons e es =>
    rw [ens, List.foldl_cons]
    have h := fold_ens es (pre.take k ++ [e])
    rw [List.length_append, List.length_take, Nat.min_eq_left hk, List.length_singleton] at h
    show (ens (k + 1) es).foldl appE (pre.take k ++ [e]) = _
    rw [h, List.append_assoc, List.singleton_append]
theorem okPs_ens (s : Nat) : ∀ (es pre : List Entry) (k : Nat), k ≤ pre.length → s + k + es.length ≤ 100000 → (∀ e ∈ es, entOk e = true) → okPs s pre (ens k es)
  | [], _, _, _, _, _ => trivial
  | e :: es, pre, k, hk, hb, h => by
    simp only [List.length_cons] at hb
    refine ⟨hk, by simp only; omega, h e (by simp), ?_⟩
    have hl := app_len (es := pre) (p := (k, e)) hk
    exact okPs_ens s es (appE pre (k, e)) (k + 1) (by omega) (by omega) (fun x hx => h x (by simp [hx]))
theorem okPs_app (s : Nat) : ∀ (ps qs : List (Nat × Entry)) (es : List Entry), okPs s es ps → okPs s (ps.foldl appE es) qs → okPs s es (ps ++ qs)
  | [], qs, es, _, h => h
  | p :: ps, qs, es, h, h2 => ⟨h.1, h.2.1, h.2.2.1, okPs_app s ps qs _ h.2.2.2 h2⟩
theorem cats_app (N : Nat) (a b : List ByteArray) : cats N (a ++ b) = cats N a ++ cats N b := by
  unfold cats
  rw [List.map_append, List.flatten_append]
theorem cats_ens (N : Nat) (s : Nat) : ∀ (es : List Entry) (k : Nat), cats N ((ens k es).map (ertx s)) = bs (frs N (s + 1 + k) es)
  | [], _ => rfl
  | e :: es, k => by
    rw [ens, List.map_cons, cats_cons, cats_ens N s es (k + 1), frs, bs_app]
    rfl
theorem bs_lfile (N : Nat) (s t : Nat) (es : List Entry) : bs (lfile N s t es) = cats N (htx s t :: (ens 0 es).map (ertx s)) := by
  unfold lfile
  rw [bs_app, cats_cons, cats_ens N s es 0]
theorem ens_take : ∀ (es : List Entry) (k j : Nat), (ens k es).take j = ens k (es.take j)
  | [], k, j => by simp [ens]
  | e :: es, k, 0 => rfl
  | e :: es, k, j + 1 => by rw [ens, List.take_succ_cons, List.take_succ_cons, ens, ens_take es (k + 1) j]
/-- Frames that are cut at a byte: some whole ones, and a torn one. -/
theorem cut_cats (N : Nat) : ∀ (rs : List ByteArray) (q : Nat), (∀ r ∈ rs, okR r) → ∃ j p, torn N p ∧ (cats N rs).take q = cats N (rs.take j) ++ p
  | [], q, _ => ⟨0, [], .inl rfl, by simp [cats]⟩
  | r :: rs, q, h => by
    have hr := h r (by simp)
    by_cases hq : q < (frm N r).size
    · refine ⟨0, (bs (frm N r)).take q, .inr ⟨r, hr, q, hq, rfl⟩, ?_⟩
      rw [cats_cons, List.take_append_of_le_length (by rw [bs_len]; omega)]
      rfl
    · obtain ⟨j, p, hp, e⟩ := cut_cats N rs (q - (frm N r).size) (fun x hx => h x (by simp [hx]))
      refine ⟨j + 1, p, hp, ?_⟩
      rw [cats_cons, List.take_append, bs_len, List.take_of_length_le (by rw [bs_len]; omega), e, List.take_succ_cons, cats_cons, List.append_assoc]
theorem lens_lfile (N : Nat) (s t : Nat) (es : List Entry) : lens N (htx s t :: (ens 0 es).map (ertx s)) = (lfile N s t es).size := by
  unfold lens
  rw [← bs_lfile, bs_len]
/-- A log's file is one. -/
theorem file_of (N : Nat) (hN : Big N) {l : Log} {s t : Nat} (h : GoodL l s t) : IsFile N (lfile N s t l.Entries) s t (ens 0 l.Entries) [] := by
  have hl := h.len
  have s0 := h.s0
  have t0 := h.t0
  have hsz := lfile_size N hN (s := s) (t := t) (es := l.Entries) (by omega) (by omega) h.all
  exact ⟨by rw [bs_lfile, List.append_nil], .inl rfl, by omega, okPs_ens s _ [] 0 (Nat.zero_le _) (by omega) h.all, h.s0, h.t0, by rw [ens_len]; omega⟩
theorem good_eq {l : Log} {s t : Nat} (h : GoodL l s t) : (⟨(s : Int), (t : Int), l.Entries⟩ : Log) = l := by
  rw [← h.start, ← h.term]
theorem read_own (N : Nat) (hN : Big N) {l : Log} {s t : Nat} (h : GoodL l s t) : impl_ReadLog N (lfile N s t l.Entries) = some (l, ((lfile N s t l.Entries).size : Int), true) ∧ spec_ReadLog N (lfile N s t l.Entries) = some (l, ((lfile N s t l.Entries).size : Int), true) := by
  have hf := file_of N hN h
  have e : (ens 0 l.Entries).foldl appE [] = l.Entries := by
    have := fold_ens l.Entries []
    simpa using this
  have hok : logOk ⟨(s : Int), (t : Int), (ens 0 l.Entries).foldl appE []⟩ = true := by rw [e, good_eq h]; exact h.ok
  have hsm : smallL ⟨(s : Int), (t : Int), (ens 0 l.Entries).foldl appE []⟩ := by rw [e, good_eq h]; exact h.small
  have h1 := readlog_impl N hN hf hok hsm
  have h2 := readlog_spec N hN hf hok hsm
  rw [e, good_eq h, lens_lfile] at h1 h2
  exact ⟨h1, h2⟩
/-- The file behind some more bytes of entries, cut at a byte. -/
theorem read_cut (N : Nat) (hN : Big N) {l : Log} {s t : Nat} (h : GoodL l s t) {k : Nat} (hk : k ≤ l.Entries.length) {more : List Entry} (hm : ∀ e ∈ more, entOk e = true) (hml : more.length ≤ 20) (ho : ∀ j, logOk ⟨(s : Int), (t : Int), l.Entries.take k ++ more.take j⟩ = true) (q : Nat) {F : ByteArray} (hF : bs F = bs (lfile N s t l.Entries) ++ (bs (frs N (s + 1 + k) more)).take q) :
    ∃ es end', impl_ReadLog N F = some (⟨(s : Int), (t : Int), es⟩, end', true) ∧ logOk ⟨(s : Int), (t : Int), es⟩ = true ∧ (es = l.Entries ∨ ∃ j, es = l.Entries.take k ++ more.take j) := by
  have hl := h.len
  have s0 := h.s0
  have t0 := h.t0
  have hokm : okPs s l.Entries (ens k more) := okPs_ens s more l.Entries k hk (by omega) hm
  have h1 : F.size = (lfile N s t l.Entries).size + ((bs (frs N (s + 1 + k) more)).take q).length := by rw [← bs_len F, hF, List.length_append, bs_len]
  obtain ⟨j, p, hp, e⟩ := cut_cats N ((ens k more).map (ertx s)) q (okR_ps hokm)
  rw [cats_ens] at e
  rw [e, bs_lfile, ← List.map_take, ens_take, ← List.append_assoc, ← cats_app, List.cons_append, ← List.map_append] at hF
  have hsz := lfile_size N hN (s := s) (t := t) (es := l.Entries) (by omega) (by omega) h.all
  have hfs := frs_size N hN more (s + 1 + k) (by omega) hm
  have hmt : ∀ e ∈ more.take j, entOk e = true := fun e he => hm e (List.mem_of_mem_take he)
  have e0 : (ens 0 l.Entries).foldl appE [] = l.Entries := by
    have := fold_ens l.Entries []
    simpa using this
  have hFs : F.size ≤ 20000 := by
    have h2 : ((bs (frs N (s + 1 + k) more)).take q).length ≤ (frs N (s + 1 + k) more).size := by rw [List.length_take, bs_len]; omega
    omega
  have hfile : IsFile N F s t (ens 0 l.Entries ++ ens k (more.take j)) p := ⟨hF, hp, hFs, okPs_app s _ _ _ (okPs_ens s _ [] 0 (Nat.zero_le _) (by omega) h.all) (by rw [e0]; exact okPs_ens s _ _ k hk (by rw [List.length_take]; omega) hmt), h.s0, h.t0, by rw [List.length_append, ens_len, ens_len, List.length_take]; omega⟩
  have hfold : (ens 0 l.Entries ++ ens k (more.take j)).foldl appE [] = l.Entries ∨ (ens 0 l.Entries ++ ens k (more.take j)).foldl appE [] = l.Entries.take k ++ more.take j := by
    rw [List.foldl_append, e0]
    by_cases hz : more.take j = []
    · left
      rw [hz]
      rfl
    · right
      exact fold_ens_at hk hz
  have hall : ∀ es, (es = l.Entries ∨ es = l.Entries.take k ++ more.take j) → logOk ⟨(s : Int), (t : Int), es⟩ = true ∧ smallL ⟨(s : Int), (t : Int), es⟩ := by
    rintro es (rfl | rfl)
    · rw [good_eq h]
      exact ⟨h.ok, h.small⟩
    · refine ⟨ho j, ?_, ?_⟩
      · simp only [List.length_append, List.length_take]
        omega
      · intro e he
        have := terms_all _ _ (logOk_at (ho j)).2.2.2.2.2.2 e he
        have := (ent_in this).2.2
        omega
  obtain ⟨a, b⟩ := hall _ hfold
  refine ⟨_, _, readlog_impl N hN hfile a b, a, ?_⟩
  rcases hfold with e | e
  · exact .inl e
  · exact .inr ⟨j, e⟩
def eqe (x y : Entry) : Bool := (x.Term == y.Term) && ((x.Kind == y.Kind) && (decide (x.Data = y.Data) && true))
theorem eqe_iff {x y : Entry} : eqe x y = true ↔ x = y := by
  unfold eqe
  cases x
  cases y
  simp only [Bool.and_true, Bool.and_eq_true, beq_iff_eq, decide_eq_true_eq, Entry.mk.injEq]
theorem eqe_self (x : Entry) : eqe x x = true := eqe_iff.2 rfl
/-- How many entries two logs have alike at their beginning. -/
def cpl : List Entry → List Entry → Nat
  | x :: xs, y :: ys => if eqe x y = true then cpl xs ys + 1 else 0
  | _, _ => 0
theorem cpl_le : ∀ (a b : List Entry), cpl a b ≤ a.length ∧ cpl a b ≤ b.length
  | [], _ => ⟨Nat.zero_le _, Nat.zero_le _⟩
  | x :: xs, [] => ⟨Nat.zero_le _, Nat.zero_le _⟩
  | x :: xs, y :: ys => by
    have := cpl_le xs ys
    rw [cpl]
    split <;> simp only [List.length_cons] <;> omega
theorem cpl_take : ∀ (a b : List Entry), a.take (cpl a b) = b.take (cpl a b)
  | [], _ => by simp [cpl]
  | x :: xs, [] => by simp [cpl]
  | x :: xs, y :: ys => by
    rw [cpl]
    split
    · rename_i h
      rw [List.take_succ_cons, List.take_succ_cons, cpl_take xs ys, eqe_iff.1 h]
    · rfl
def sameE (a b : List Entry) : Bool := decide (a.length = b.length) && decide (cpl a b = a.length)
theorem sameE_iff {a b : List Entry} : sameE a b = true ↔ a = b := by
  unfold sameE
  simp only [Bool.and_eq_true, decide_eq_true_eq]
  constructor
  · rintro ⟨h1, h2⟩
    have := cpl_take a b
    rw [h2, List.take_length, h1, List.take_length] at this
    exact this
  · rintro rfl
    refine ⟨rfl, ?_⟩
    induction a with
    | nil => rfl
    | cons x xs ih => rw [cpl, if_pos (eqe_self x), ih, List.length_cons]
theorem cpl_drop : ∀ (a b : List Entry) (k : Nat), k ≤ cpl a b → cpl (a.drop k) (b.drop k) = cpl a b - k
  | a, b, 0, _ => by simp
  | [], _, k + 1, h => by simp [cpl] at h
  | x :: xs, [], k + 1, h => by simp [cpl] at h
  | x :: xs, y :: ys, k + 1, h => by
    rw [cpl] at h ⊢
    split at h
    · rename_i he
      rw [if_pos he, List.drop_succ_cons, List.drop_succ_cons, cpl_drop xs ys k (by omega)]
      omega
    · omega
theorem cpl_step {a b : List Entry} {k : Nat} (h1 : k < a.length) (h2 : k < b.length) (hk : k ≤ cpl a b) : if eqe a[k] b[k] = true then k + 1 ≤ cpl a b else cpl a b = k := by
  have h := cpl_drop a b k hk
  rw [List.drop_eq_getElem_cons h1, List.drop_eq_getElem_cons h2, cpl] at h
  split
  · rename_i he
    rw [if_pos he] at h
    omega
  · rename_i he
    rw [if_neg he] at h
    omega
theorem steps_i (N : Nat) (a b : Log) (ha : a.Entries.length ≤ 1000) (hb : b.Entries.length ≤ 1000) : ∀ (d k m : Nat), a.Entries.length + 1 = k + d → d < m → k ≤ cpl a.Entries b.Entries → impl_LogSteps_l1 N a b m (k : Int) = some (cpl a.Entries b.Entries : Int) ∧ spec_LogSteps_l1 N a b m (k : Int) = some (cpl a.Entries b.Entries : Int)
  | 0, k, m, hk, hm, hc => by have := cpl_le a.Entries b.Entries; omega
  | d + 1, k, m, hk, hm, hc => by
    obtain ⟨m, rfl⟩ : ∃ q, m = q + 1 := ⟨m - 1, by omega⟩
    have hle := cpl_le a.Entries b.Entries
    have em : imin (a.Entries.length : Int) (b.Entries.length : Int) = ((min a.Entries.length b.Entries.length : Nat) : Int) := by unfold imin; split <;> omega
    rw [impl_LogSteps_l1, spec_LogSteps_l1, em]
    by_cases h1 : k < a.Entries.length
    · by_cases h2 : k < b.Entries.length
      · rw [if_pos (by simp only [decide_eq_true_eq]; omega), if_pos (by simp only [decide_eq_true_eq]; omega), if_pos (by simp only [decide_eq_true_eq]; omega)]
        simp only [at_lt h1, at_lt h2, Option.bind_some]
        have hs := cpl_step h1 h2 hc
        have ee : ∀ x y : Entry, (((x.Term == y.Term) && ((x.Kind == y.Kind) && (decide (x.Data = y.Data) && true))) ^^ false) = eqe x y := fun x y => by rw [Bool.xor_false]; rfl
        rw [ee]
        by_cases he : eqe a.Entries[k] b.Entries[k] = true
        · rw [if_pos he] at hs
          rw [if_pos he, if_pos he, w64_succ (by omega)]
          exact steps_i N a b ha hb d (k + 1) m (by omega) (by omega) hs
        · rw [if_neg he] at hs
          rw [if_neg he, if_neg he, hs]
          exact ⟨rfl, rfl⟩
      · have : cpl a.Entries b.Entries = k := by omega
        rw [if_neg (by simp only [decide_eq_true_eq]; omega), if_pos (by simp only [decide_eq_true_eq]; omega), if_neg (by simp only [decide_eq_true_eq]; omega), this]
        exact ⟨rfl, rfl⟩
    · have : cpl a.Entries b.Entries = k := by omega
      rw [if_neg (by simp only [decide_eq_true_eq]; omega), if_neg (by simp only [decide_eq_true_eq]; omega), this]
      exact ⟨rfl, rfl⟩
def ok1 (b : Bool) : Bool ⊕ Unit := match b with | true => .inr () | false => .inl false
theorem same_l1 (N : Nat) (a b : List Entry) (ha : a.length ≤ 1000) (hab : a.length = b.length) : ∀ (d k m : Nat), a.length = k + d → d < m → k ≤ cpl a b → slices_Equal_Entry_l1 N a b m (k : Int) = some (ok1 (decide (cpl a b = a.length)))
  | 0, k, m, hk, hm, hc => by
    obtain ⟨m, rfl⟩ : ∃ q, m = q + 1 := ⟨m - 1, by omega⟩
    have := cpl_le a b
    rw [slices_Equal_Entry_l1, if_neg (by simp only [decide_eq_true_eq]; omega), decide_eq_true (by omega : cpl a b = a.length)]
    rfl
  | d + 1, k, m, hk, hm, hc => by
    obtain ⟨m, rfl⟩ : ∃ q, m = q + 1 := ⟨m - 1, by omega⟩
    have h1 : k < a.length := by omega
    have h2 : k < b.length := by omega
    rw [slices_Equal_Entry_l1, if_pos (by simp only [decide_eq_true_eq]; omega), at_lt h1, at_lt h2]
    simp only [Option.bind_some]
    have hs := cpl_step h1 h2 hc
    have ee : ∀ x y : Entry, (((x.Term == y.Term) && ((x.Kind == y.Kind) && (decide (x.Data = y.Data) && true))) ^^ true) = !eqe x y := fun x y => by rw [Bool.xor_true]; rfl
    rw [ee]
    by_cases he : eqe a[k] b[k] = true
    · rw [if_pos he] at hs
      rw [if_neg (by simp [he]), w64_succ (by omega)]
      exact same_l1 N a b ha hab d (k + 1) m (by omega) (by omega) hs
    · rw [if_neg he] at hs
      rw [if_pos (by simp [he]), decide_eq_false (by omega)]
      rfl
theorem same_sl1 (N : Nat) (x y : Log) (ha : x.Entries.length ≤ 1000) (hab : x.Entries.length = y.Entries.length) : ∀ (d k m : Nat), x.Entries.length = k + d → d < m → k ≤ cpl x.Entries y.Entries → spec_l12Same_l1 N x y m (k : Int) = some (ok1 (decide (cpl x.Entries y.Entries = x.Entries.length))) ∧ laws_sameLog_l1 N x y m (k : Int) = some (ok1 (decide (cpl x.Entries y.Entries = x.Entries.length)))
  | 0, k, m, hk, hm, hc => by
    obtain ⟨m, rfl⟩ : ∃ q, m = q + 1 := ⟨m - 1, by omega⟩
    have := cpl_le x.Entries y.Entries
    rw [spec_l12Same_l1, laws_sameLog_l1, if_neg (by simp only [decide_eq_true_eq]; omega), if_neg (by simp only [decide_eq_true_eq]; omega), decide_eq_true (by omega : cpl x.Entries y.Entries = x.Entries.length)]
    exact ⟨rfl, rfl⟩
  | d + 1, k, m, hk, hm, hc => by
    obtain ⟨m, rfl⟩ : ∃ q, m = q + 1 := ⟨m - 1, by omega⟩
    have h1 : k < x.Entries.length := by omega
    have h2 : k < y.Entries.length := by omega
    rw [spec_l12Same_l1, laws_sameLog_l1, if_pos (by simp only [decide_eq_true_eq]; omega), if_pos (by simp only [decide_eq_true_eq]; omega), at_lt h1, at_lt h2]
    simp only [Option.bind_some]
    have hs := cpl_step h1 h2 hc
    have ee : ∀ x y : Entry, (((x.Term == y.Term) && ((x.Kind == y.Kind) && (decide (x.Data = y.Data) && true))) ^^ true) = !eqe x y := fun x y => by rw [Bool.xor_true]; rfl
    rw [ee]
    by_cases he : eqe x.Entries[k] y.Entries[k] = true
    · rw [if_pos he] at hs
      rw [if_neg (by simp [he]), if_neg (by simp [he]), w64_succ (by omega)]
      exact same_sl1 N x y ha hab d (k + 1) m (by omega) (by omega) hs
    · rw [if_neg he] at hs
      rw [if_pos (by simp [he]), if_pos (by simp [he]), decide_eq_false (by omega)]
      exact ⟨rfl, rfl⟩
def sameL (a b : Log) : Bool := (a.Start == b.Start) && ((a.StartTerm == b.StartTerm) && sameE a.Entries b.Entries)
theorem sameL_iff {a b : Log} : sameL a b = true ↔ a = b := by
  unfold sameL
  cases a
  cases b
  simp only [Bool.and_eq_true, beq_iff_eq, sameE_iff, Log.mk.injEq]
theorem same_impl (N : Nat) (hN : Big N) (a b : Log) (ha : a.Entries.length ≤ 1000) (hb : b.Entries.length ≤ 1000) : impl_sameLog N a b = some (sameL a b) := by
  unfold impl_sameLog sameL
  cases h1 : a.Start == b.Start with
  | false => simp
  | true =>
    cases h2 : a.StartTerm == b.StartTerm with
    | false => simp
    | true =>
      simp only [↓reduceIte, Bool.true_and]
      unfold slices_Equal_Entry sameE
      by_cases h3 : a.Entries.length = b.Entries.length
      · have hne : ((a.Entries.length : Int) != (b.Entries.length : Int)) = false := by rw [h3]; simp
        rw [hne, decide_eq_true h3]
        simp only [Bool.false_eq_true, ↓reduceIte, joinP, Bool.true_and]
        have := same_l1 N a.Entries b.Entries ha h3 a.Entries.length 0 N (by omega) (by unfold Big at hN; omega) (Nat.zero_le _)
        rw [show ((0 : Nat) : Int) = 0 from rfl] at this
        rw [this, Option.bind_some]
        cases decide (cpl a.Entries b.Entries = a.Entries.length) <;> rfl
      · have hne : ((a.Entries.length : Int) != (b.Entries.length : Int)) = true := by rw [bne_iff_ne]; omega
        rw [hne, decide_eq_false h3]
        rfl
theorem same_both (N : Nat) (hN : Big N) (a b : Log) (ha : a.Entries.length ≤ 1000) (hb : b.Entries.length ≤ 1000) : spec_l12Same N a b = some (sameL a b) ∧ laws_sameLog N a b = some (sameL a b) := by
  unfold spec_l12Same laws_sameLog sameL
  cases h1 : a.Start == b.Start with
  | false =>
    have e : (a.Start != b.Start) = true := by rw [bne, h1]; rfl
    simp [e]
  | true =>
    have e : (a.Start != b.Start) = false := by rw [bne, h1]; rfl
    rw [e]
    cases h2 : a.StartTerm == b.StartTerm with
    | false =>
      have e : (a.StartTerm != b.StartTerm) = true := by rw [bne, h2]; rfl
      simp [e]
    | true =>
      have e : (a.StartTerm != b.StartTerm) = false := by rw [bne, h2]; rfl
      rw [e]
      unfold sameE
      by_cases h3 : a.Entries.length = b.Entries.length
      · have hne : ((a.Entries.length : Int) != (b.Entries.length : Int)) = false := by rw [h3]; simp
        rw [hne, decide_eq_true h3]
        simp only [Bool.false_eq_true, ↓reduceIte, joinP, Bool.true_and]
        have := same_sl1 N a b ha h3 a.Entries.length 0 N (by omega) (by unfold Big at hN; omega) (Nat.zero_le _)
        rw [show ((0 : Nat) : Int) = 0 from rfl] at this
        rw [this.1, this.2, Option.bind_some]
        cases decide (cpl a.Entries b.Entries = a.Entries.length) <;> exact ⟨rfl, rfl⟩
      · have hne : ((a.Entries.length : Int) != (b.Entries.length : Int)) = true := by rw [bne_iff_ne]; omega
        rw [hne, decide_eq_false h3]
        exact ⟨rfl, rfl⟩
/-- What LogSteps hands over. -/
def stepsOf (N : Nat) (old now : Log) (s t : Nat) : List Raw :=
  if sameL old now = true then []
  else if old.Start = now.Start ∧ old.StartTerm = now.StartTerm ∧ cpl old.Entries now.Entries < now.Entries.length then [⟨2, ⟨#[108, 111, 103]⟩, ⟨#[]⟩, frs N (s + 1 + cpl old.Entries now.Entries) (now.Entries.drop (cpl old.Entries now.Entries))⟩]
  else [⟨1, ⟨#[108, 111, 103, 43]⟩, ⟨#[]⟩, lfile N s t now.Entries⟩, ⟨3, ⟨#[108, 111, 103, 43]⟩, ⟨#[108, 111, 103]⟩, ⟨#[]⟩⟩]
theorem frs_pos (N : Nat) (hN : Big N) : ∀ (es : List Entry) (i : Nat), es ≠ [] → i + es.length ≤ 100001 → (∀ e ∈ es, entOk e = true) → 0 < (frs N i es).size
  | [], _, h, _, _ => absurd rfl h
  | e :: es, i, _, hi, h => by
    simp only [List.length_cons] at hi
    have h1 := etx_size (idx := i) (by omega) (h e (by simp))
    have h2 := frm_size N hN (etx i e) (by omega)
    rw [frs, ByteArray.size_append]
    omega
theorem logsteps_impl (N : Nat) (hN : Big N) {old now : Log} {s t s' t' : Nat} (ho : GoodL old s t) (hn : GoodL now s' t') : impl_LogSteps N (lfile N s t old.Entries) old now = some (stepsOf N old now s' t', true) := by
  have hl := ho.len
  have hl' := hn.len
  have s0 := ho.s0
  have t0 := ho.t0
  have s1 := hn.s0
  have t1 := hn.t0
  have hsz := lfile_size N hN (s := s) (t := t) (es := old.Entries) (by omega) (by omega) ho.all
  have hc := cpl_le old.Entries now.Entries
  unfold impl_LogSteps
  rw [(read_own N hN ho).1, logfile_impl N hN hn, logOk_impl N hN old ho.small, ho.ok]
  simp only [Option.bind_some, Bool.not_true, Bool.false_eq_true, ↓reduceIte]
  rw [if_neg (by simp), same_impl N hN old old (by omega) (by omega), sameL_iff.2 rfl, Option.bind_some]
  simp only [Bool.not_true, Bool.false_eq_true, ↓reduceIte]
  rw [same_impl N hN old now (by omega) (by omega), Option.bind_some]
  unfold stepsOf
  by_cases h1 : sameL old now = true
  · rw [if_pos h1, if_pos h1]
  · rw [if_neg h1, if_neg h1]
    simp only [joinP]
    by_cases h2 : old.Start = now.Start
    · rw [if_pos (by simpa using h2)]
      by_cases h3 : old.StartTerm = now.StartTerm
      · rw [if_pos (by simpa using h3)]
        have hst := steps_i N old now (by omega) (by omega) (old.Entries.length + 1) 0 N (by omega) (by unfold Big at hN; omega) (Nat.zero_le _)
        rw [show ((0 : Nat) : Int) = 0 from rfl] at hst
        rw [hst.1, Option.bind_some, lframes_impl N hN now s' hn.start (by omega) hn.all _ hc.2, Option.bind_some]
        have hall : ∀ e ∈ now.Entries.drop (cpl old.Entries now.Entries), entOk e = true := fun e he => hn.all e (List.mem_of_mem_drop he)
        have hfs := frs_size N hN (now.Entries.drop (cpl old.Entries now.Entries)) (s' + 1 + cpl old.Entries now.Entries) (by rw [List.length_drop]; omega) hall
        rw [List.length_drop] at hfs
        by_cases h4 : cpl old.Entries now.Entries < now.Entries.length
        · have hp := frs_pos N hN (now.Entries.drop (cpl old.Entries now.Entries)) (s' + 1 + cpl old.Entries now.Entries) (by
            intro e
            have := congrArg List.length e
            rw [List.length_drop] at this
            simp only [List.length_nil] at this
            omega) (by rw [List.length_drop]; omega) hall
          have hne : ¬ frs N (s' + 1 + cpl old.Entries now.Entries) (now.Entries.drop (cpl old.Entries now.Entries)) = (⟨#[]⟩ : ByteArray) := by
            intro e
            rw [e] at hp
            cases hp
          rw [if_pos (by simpa using hne), w64_id (by omega) (by omega), if_pos (by simp only [decide_eq_true_eq]; omega), if_pos ⟨h2, h3, h4⟩]
        · have he : now.Entries.drop (cpl old.Entries now.Entries) = [] := List.drop_eq_nil_of_le (by omega)
          rw [he, if_neg (by simp [frs]), if_neg (fun h => h4 h.2.2)]
      · rw [if_neg (by simpa using h3), if_neg (fun h => h3 h.2.1)]
    · rw [if_neg (by simpa using h2), if_neg (fun h => h2 h.1)]
theorem logsteps_spec (N : Nat) (hN : Big N) {old now : Log} {s t s' t' : Nat} (ho : GoodL old s t) (hn : GoodL now s' t') : ∃ l, spec_LogSteps N (lfile N s t old.Entries) old now = some (l, true) := by
  have hl := ho.len
  have hl' := hn.len
  have s0 := ho.s0
  have t0 := ho.t0
  have s1 := hn.s0
  have hc := cpl_le old.Entries now.Entries
  unfold spec_LogSteps
  rw [(read_own N hN ho).2, logfile_spec N hN hn, logOk_spec N hN old ho.small, ho.ok]
  simp only [Option.bind_some, Bool.not_true, Bool.false_eq_true, ↓reduceIte]
  rw [if_neg (by simp), (same_both N hN old old (by omega) (by omega)).1, sameL_iff.2 rfl, Option.bind_some]
  simp only [Bool.not_true, Bool.false_eq_true, ↓reduceIte]
  rw [(same_both N hN old now (by omega) (by omega)).1, Option.bind_some]
  by_cases h1 : sameL old now = true
  · rw [if_pos h1]
    exact ⟨_, rfl⟩
  · rw [if_neg h1]
    simp only [joinP]
    have hst := steps_i N old now (by omega) (by omega) (old.Entries.length + 1) 0 N (by omega) (by unfold Big at hN; omega) (Nat.zero_le _)
    rw [show ((0 : Nat) : Int) = 0 from rfl] at hst
    rw [hst.2, Option.bind_some, lframes_spec N hN now s' hn.start (by omega) hn.all _ hc.2, Option.bind_some]
    split
    · split
      · split
        · split
          · exact ⟨_, rfl⟩
          · exact ⟨_, rfl⟩
        · exact ⟨_, rfl⟩
      · exact ⟨_, rfl⟩
    · exact ⟨_, rfl⟩
abbrev nL : ByteArray := ⟨#[108, 111, 103]⟩
abbrev nP : ByteArray := ⟨#[108, 111, 103, 43]⟩
abbrev d1 (F : ByteArray) : Disk := ⟨[⟨nL, F⟩]⟩
abbrev d2 (F G : ByteArray) : Disk := ⟨[⟨nL, F⟩, ⟨nP, G⟩]⟩
abbrev rAdd (A : ByteArray) : Raw := ⟨2, nL, ⟨#[]⟩, A⟩
abbrev rPut (G : ByteArray) : Raw := ⟨1, nP, ⟨#[]⟩, G⟩
abbrev rMove : Raw := ⟨3, nP, nL, ⟨#[]⟩⟩
theorem dok1 (N : Nat) {F : ByteArray} (h : F.size ≤ 20000) : spec_DiskOk (N + 100) (d1 F) = some true := by
  have i : spec_l01In (N + 100) (nL.size : Int) 1 12 = some true := rfl
  have g : decide ((F.size : Int) > 20000) = false := by simp only [decide_eq_false_iff_not]; omega
  have e := spec_DiskOk_l1_eq (N := N + 100) (d1 F) (by simp) (by simp)
  unfold spec_DiskOk
  rw [if_neg (by simp)]
  simp only [joinP]
  rw [e]
  simp only [spec_DiskOk_l1_r, joinP, Option.bind_some, i, g, Bool.not_true, Bool.false_eq_true, if_false]
  rfl
theorem lessLP : Op.bytesLess nL.toList nP.toList = true := by
  show @Eq Bool _ _
  kernel_rfl
theorem a0LP (F G : ByteArray) : at? (d2 F G).Files 0 = some ⟨nL, F⟩ := rfl
theorem iL (N : Nat) : spec_l01In (N + 100) (nL.size : Int) 1 12 = some true := rfl
theorem iP (N : Nat) : spec_l01In (N + 100) (nP.size : Int) 1 12 = some true := rfl
theorem dokE (N : Nat) (F G : ByteArray) : spec_DiskOk_l1 (N + 100) (d2 F G) (N + 100) 0 = spec_DiskOk_l1_r (N + 100) (d2 F G) (d2 F G).Files 0 := spec_DiskOk_l1_eq (N := N + 100) (d2 F G) (by simp) (by simp)
theorem dokS (N : Nat) (X : Disk) {F G : ByteArray} (h2 : G.size ≤ 20000) (a0 : at? X.Files 0 = some ⟨nL, F⟩) : spec_DiskOk_l1_r (N + 100) X [⟨nP, G⟩] 1 = some (.inr ()) := by
  have g2 : decide ((G.size : Int) > 20000) = false := by simp only [decide_eq_false_iff_not]; omega
  have w0 : w64 (1 - 1) = 0 := by
    rw [w64_id (n := 1 - 1) (by omega) (by omega)]
    omega
  have q : (!Op.bytesLess nL.toList nP.toList) = false := by rw [lessLP]; rfl
  rw [spec_DiskOk_l1_r]
  simp only [joinP]
  rw [Option.bind_some, iP, Option.bind_some, if_neg (by simp), Option.bind_some, g2, if_neg (by simp), if_pos (by simp), w0, a0, Option.bind_some, Option.bind_some, q, if_neg (by simp)]
  rfl
theorem dokT (N : Nat) (X : Disk) {F G : ByteArray} (h : F.size ≤ 20000) (h2 : G.size ≤ 20000) (a0 : at? X.Files 0 = some ⟨nL, F⟩) (k : Int) (hk : k = 0) (tl : List File) (ht : spec_DiskOk_l1_r (N + 100) X tl 1 = some (.inr ())) : spec_DiskOk_l1_r (N + 100) X (⟨nL, F⟩ :: tl) k = some (.inr ()) := by
  have g : decide ((F.size : Int) > 20000) = false := by simp only [decide_eq_false_iff_not]; omega
  have w1 : w64 (k + 1) = 1 := by
    rw [w64_id (n := k + 1) (by omega) (by omega)]
    omega
  rw [spec_DiskOk_l1_r]
  simp only [joinP]
  rw [Option.bind_some, iL, Option.bind_some, if_neg (by simp), Option.bind_some, g, if_neg (by simp), if_neg (by simp only [decide_eq_true_eq]; omega), w1, ht]
theorem dok2 (N : Nat) {F G : ByteArray} (h : F.size ≤ 20000) (h2 : G.size ≤ 20000) : spec_DiskOk (N + 100) (d2 F G) = some true := by
  unfold spec_DiskOk
  rw [if_neg (by simp)]
  simp only [joinP]
  rw [dokE N F G, dokT N (d2 F G) h h2 (a0LP F G) 0 rfl _ (dokS N _ h2 (a0LP F G))]
  rfl
theorem at1L (N : Nat) (F : ByteArray) : spec_l03At (N + 100) (d1 F) nL = some 0 := by
  show @Eq (Option Int) _ _
  kernel_rfl
theorem at1P (N : Nat) (F : ByteArray) : spec_l03At (N + 100) (d1 F) nP = some (-1) := by
  show @Eq (Option Int) _ _
  kernel_rfl
theorem at2L (N : Nat) (F G : ByteArray) : spec_l03At (N + 100) (d2 F G) nL = some 0 := by
  show @Eq (Option Int) _ _
  kernel_rfl
theorem at2P (N : Nat) (F G : ByteArray) : spec_l03At (N + 100) (d2 F G) nP = some 1 := by
  show @Eq (Option Int) _ _
  kernel_rfl
theorem put1L (N : Nat) (F A : ByteArray) : spec_l03Put (N + 100) (d1 F) ⟨nL, A⟩ = some (d1 A) := by
  show @Eq (Option Disk) _ _
  kernel_rfl
theorem put1P (N : Nat) (F G : ByteArray) : spec_l03Put (N + 100) (d1 F) ⟨nP, G⟩ = some (d2 F G) := by
  show @Eq (Option Disk) _ _
  kernel_rfl
theorem drop2 (N : Nat) (F G : ByteArray) : spec_l03Drop (N + 100) (d2 F G) nP = some (d1 F) := by
  show @Eq (Option Disk) _ _
  kernel_rfl
theorem text1 (N : Nat) (F : ByteArray) : spec_l03Text (N + 100) (d1 F) nL = some F := by
  show @Eq (Option ByteArray) _ _
  kernel_rfl
theorem raw_put (N : Nat) {F G : ByteArray} (h : F.size ≤ 20000) (h2 : G.size ≤ 20000) : spec_PutRaw (N + 100) (d1 F) (rPut G) = some (d2 F G, true) := by
  unfold spec_PutRaw
  have c : cat? ([] : List File) (d1 F).Files = some (d1 F).Files := rfl
  have i : spec_l01In (N + 100) 1 1 4 = some true := rfl
  simp only [joinP, at1P, dok1 N h, i, c, put1P, Option.bind_some, Bool.not_true, Bool.false_eq_true, if_false]
  rw [show (Disk.mk (d2 F G).Files) = d2 F G from rfl, dok2 N h h2]
  rfl
theorem raw_add (N : Nat) {F A : ByteArray} (h : F.size + A.size ≤ 20000) : spec_PutRaw (N + 100) (d1 F) (rAdd A) = some (d1 (F ++ A), true) := by
  unfold spec_PutRaw
  have c : cat? ([] : List File) (d1 F).Files = some (d1 F).Files := rfl
  have i : spec_l01In (N + 100) 2 1 4 = some true := rfl
  have s : scat? F A = some (F ++ A) := scat_ok (by omega)
  have hFA : (F ++ A).size ≤ 20000 := by rw [ByteArray.size_append]; exact h
  simp only [joinP, at1L, dok1 N (show F.size ≤ 20000 by omega), i, c, text1, s, put1L, Option.bind_some, Bool.not_true, Bool.false_eq_true, if_false]
  rw [show (Disk.mk (d1 (F ++ A)).Files) = d1 (F ++ A) from rfl, dok1 N hFA]
  rfl
theorem raw_move (N : Nat) {F G : ByteArray} (h : F.size ≤ 20000) (h2 : G.size ≤ 20000) : spec_PutRaw (N + 100) (d2 F G) rMove = some (d1 G, true) := by
  unfold spec_PutRaw
  have c : cat? ([] : List File) (d2 F G).Files = some (d2 F G).Files := rfl
  have i : spec_l01In (N + 100) 3 1 4 = some true := rfl
  have a : at? (d2 F G).Files 1 = some ⟨nP, G⟩ := rfl
  have ne : decide (nL = nP) = false := by decide
  simp only [joinP, at2P, dok2 N h h2, i, c, drop2, a, ne, put1L, Option.bind_some, Bool.not_true, Bool.false_eq_true, if_false]
  rw [show (Disk.mk (d1 G).Files) = d1 G from rfl, dok1 N h2]
  rfl
theorem file1 (N : Nat) {F : ByteArray} (h : F.size ≤ 20000) : spec_FileAt (N + 100) (d1 F) nL = some (F, true) := by
  unfold spec_FileAt
  rw [at1L, dok1 N h]
  rfl
theorem file2 (N : Nat) {F G : ByteArray} (h : F.size ≤ 20000) (h2 : G.size ≤ 20000) : spec_FileAt (N + 100) (d2 F G) nL = some (F, true) := by
  unfold spec_FileAt
  rw [at2L, dok2 N h h2]
  rfl
theorem raws0 (N : Nat) {F : ByteArray} (h : F.size ≤ 20000) : spec_PutRaws (N + 100) (d1 F) [] = some (d1 F, 0) := by
  unfold spec_PutRaws
  rw [dok1 N h]
  rfl
theorem raws_put (N : Nat) {F G : ByteArray} (h : F.size ≤ 20000) (h2 : G.size ≤ 20000) : spec_PutRaws (N + 100) (d1 F) [rPut G] = some (d2 F G, 1) := by
  have c : cat? ([] : List File) (d1 F).Files = some (d1 F).Files := rfl
  have e := spec_PutRaws_l1_eq (N := N + 100) [rPut G] (by simp) (by simp) (d1 F).Files
  unfold spec_PutRaws
  simp only [joinP, dok1 N h, c, e, Option.bind_some, spec_PutRaws_l1_r, raw_put N h h2]
  rfl
theorem raws_add (N : Nat) {F A : ByteArray} (h : F.size + A.size ≤ 20000) : spec_PutRaws (N + 100) (d1 F) [rAdd A] = some (d1 (F ++ A), 1) := by
  have c : cat? ([] : List File) (d1 F).Files = some (d1 F).Files := rfl
  have e := spec_PutRaws_l1_eq (N := N + 100) [rAdd A] (by simp) (by simp) (d1 F).Files
  unfold spec_PutRaws
  simp only [joinP, dok1 N (show F.size ≤ 20000 by omega), c, e, Option.bind_some, spec_PutRaws_l1_r, raw_add N h]
  rfl
theorem raws_move (N : Nat) {F G : ByteArray} (h : F.size ≤ 20000) (h2 : G.size ≤ 20000) : spec_PutRaws (N + 100) (d1 F) [rPut G, rMove] = some (d1 G, 2) := by
  have c : cat? ([] : List File) (d1 F).Files = some (d1 F).Files := rfl
  have e := spec_PutRaws_l1_eq (N := N + 100) [rPut G, rMove] (by simp) (by simp) (d1 F).Files
  unfold spec_PutRaws
  simp only [joinP, dok1 N h, c, e, Option.bind_some, spec_PutRaws_l1_r, raw_put N h h2, Bool.not_true, Bool.false_eq_true, if_false]
  rw [show (Disk.mk (d2 F G).Files) = d2 F G from rfl, raw_move N h h2]
  rfl
theorem cutraws0 (N : Nat) {F : ByteArray} (h : F.size ≤ 20000) {rs : List Raw} (hr : rs.length ≤ 60) (w : Nat) (hw : w ≤ rs.length) {R : Int} (hR : spec_l03Room (N + 100) rs (w : Int) = some R) (h0 : 0 ≤ R) {D : Disk} (hp : spec_PutRaws (N + 100) (d1 F) (rs.take w) = some (D, ((rs.take w).length : Int))) : spec_CutRaws (N + 100) (d1 F) rs (w : Int) 0 = some (D, true) := by
  unfold spec_CutRaws
  rw [dok1 N h, Option.bind_some, if_neg (by simp), if_neg (by simp only [decide_eq_true_eq]; omega), in_eq, Option.bind_some, decide_eq_true (by omega), if_neg (by simp), hR, Option.bind_some, in_eq, Option.bind_some, decide_eq_true (by omega), if_neg (by simp), Pe.take_ok hw, Option.bind_some, cat_ok (by rw [List.length_take]; simp; omega), Option.bind_some]
  simp only [joinP, List.nil_append]
  rw [if_neg (by simp), hp, Option.bind_some, if_neg (by simp)]
theorem cutrawsp (N : Nat) {F : ByteArray} (h : F.size ≤ 20000) {rs : List Raw} (hr : rs.length ≤ 60) (w : Nat) (hw : w < rs.length) {x : Raw} (hx : at? rs (w : Int) = some x) (hk : 1 ≤ x.Kind ∧ x.Kind ≤ 2) (q : Nat) (hq : q ≤ x.Text.size) (q0 : 0 < q) {D : Disk} (hp : spec_PutRaws (N + 100) (d1 F) (rs.take w ++ [⟨x.Kind, x.Name, x.To, x.Text.extract 0 q⟩]) = some (D, ((rs.take w ++ [⟨x.Kind, x.Name, x.To, x.Text.extract 0 q⟩] : List Raw).length : Int))) : spec_CutRaws (N + 100) (d1 F) rs (w : Int) (q : Int) = some (D, true) := by
  have hR : spec_l03Room (N + 100) rs (w : Int) = some (x.Text.size : Int) := by
    unfold spec_l03Room
    rw [if_neg (by simp only [decide_eq_true_eq]; omega), hx, Option.bind_some, if_neg (by simp only [decide_eq_true_eq]; omega), Option.bind_some, if_neg (by simp only [decide_eq_true_eq]; omega), Option.bind_some]
  unfold spec_CutRaws
  rw [dok1 N h, Option.bind_some, if_neg (by simp), if_neg (by simp only [decide_eq_true_eq]; omega), in_eq, Option.bind_some, decide_eq_true (by omega), if_neg (by simp), hR, Option.bind_some, in_eq, Option.bind_some, decide_eq_true (by omega), if_neg (by simp), Pe.take_ok (by omega), Option.bind_some, cat_ok (by rw [List.length_take]; simp; omega), Option.bind_some]
  simp only [joinP, List.nil_append]
  rw [if_pos (by simp only [decide_eq_true_eq]; omega), hx, Option.bind_some, stake_ok hq, Option.bind_some, cat_ok (by rw [List.length_take]; simp; omega), Option.bind_some, hp, Option.bind_some, if_neg (by simp)]
theorem rem_nat (a : Nat) (b : Nat) (hb : 0 < b) (ha : a ≤ 100000) (hb2 : b ≤ 100000) : intD .rem .i64 (a : Int) (b : Int) = some ((a % b : Nat) : Int) := by
  unfold intD
  simp only
  rw [if_neg (by simp; omega)]
  have e : Int.tmod (a : Int) (b : Int) = ((a % b : Nat) : Int) := by
    rw [Int.tmod_eq_emod_of_nonneg (by omega)]
    rfl
  have hlt := Nat.mod_lt a hb
  rw [e]
/-- Where a cut comes behind whole raw changes alone. -/
theorem cutof0 (N : Nat) {F : ByteArray} (h : F.size ≤ 20000) {rs : List Raw} (hr : rs.length ≤ 60) {a : Nat} (b : Int) (ha : a ≤ 10000) {w : Nat} (hw : a % (rs.length + 1) = w) (hx : w = rs.length ∨ ∃ x, at? rs (w : Int) = some x ∧ 2 < x.Kind) {D : Disk} (hp : spec_PutRaws (N + 100) (d1 F) (rs.take w) = some (D, ((rs.take w).length : Int))) : laws_cutOf (N + 100) (d1 F) rs (a : Int) b = some (D, true) := by
  have hlt : w < rs.length + 1 := by
    rw [← hw]
    exact Nat.mod_lt a (by omega)
  unfold laws_cutOf
  rw [w64_succ (by omega), rem_nat a _ (by omega) (by omega) (by omega), Option.bind_some, hw]
  simp only [joinP]
  rcases hx with he | ⟨x, hx, hk⟩
  · have hR : spec_l03Room (N + 100) rs (w : Int) = some 0 := by
      unfold spec_l03Room
      rw [if_pos (by simp only [decide_eq_true_eq]; omega)]
    rw [if_neg (by simp only [decide_eq_true_eq]; omega), cutraws0 N h hr w (by omega) hR (by omega) hp]
    rfl
  · by_cases he : w < rs.length
    · have hR : spec_l03Room (N + 100) rs (w : Int) = some 0 := by
        unfold spec_l03Room
        rw [if_neg (by simp only [decide_eq_true_eq]; omega), hx, Option.bind_some, if_pos (by simp only [decide_eq_true_eq]; omega)]
      rw [if_pos (by simp only [decide_eq_true_eq]; omega), hx, Option.bind_some, if_neg (by simp only [decide_eq_true_eq]; omega), cutraws0 N h hr w (by omega) hR (by omega) hp]
      rfl
    · have hR : spec_l03Room (N + 100) rs (w : Int) = some 0 := by
        unfold spec_l03Room
        rw [if_pos (by simp only [decide_eq_true_eq]; omega)]
      rw [if_neg (by simp only [decide_eq_true_eq]; omega), cutraws0 N h hr w (by omega) hR (by omega) hp]
      rfl
/-- Where a cut lies within one. -/
theorem cutofp (N : Nat) {F : ByteArray} (h : F.size ≤ 20000) {rs : List Raw} (hr : rs.length ≤ 60) {a b : Nat} (ha : a ≤ 10000) (hb : b ≤ 10000) {w : Nat} (hw : a % (rs.length + 1) = w) (hwl : w < rs.length) {x : Raw} (hx : at? rs (w : Int) = some x) (hk : 1 ≤ x.Kind ∧ x.Kind ≤ 2) (hs : x.Text.size ≤ 20000) {D0 : Disk} (hp0 : spec_PutRaws (N + 100) (d1 F) (rs.take w) = some (D0, ((rs.take w).length : Int)))
    {D : Nat → Disk} (hp : ∀ q, q ≤ x.Text.size → spec_PutRaws (N + 100) (d1 F) (rs.take w ++ [⟨x.Kind, x.Name, x.To, x.Text.extract 0 q⟩]) = some (D q, ((rs.take w ++ [⟨x.Kind, x.Name, x.To, x.Text.extract 0 q⟩] : List Raw).length : Int))) :
    laws_cutOf (N + 100) (d1 F) rs (a : Int) (b : Int) = some (D0, true) ∨ ∃ q, q ≤ x.Text.size ∧ laws_cutOf (N + 100) (d1 F) rs (a : Int) (b : Int) = some (D q, true) := by
  have hR : spec_l03Room (N + 100) rs (w : Int) = some (x.Text.size : Int) := by
    unfold spec_l03Room
    rw [if_neg (by simp only [decide_eq_true_eq]; omega), hx, Option.bind_some, if_neg (by simp only [decide_eq_true_eq]; omega), Option.bind_some, if_neg (by simp only [decide_eq_true_eq]; omega), Option.bind_some]
  have hq := Nat.mod_lt b (show 0 < x.Text.size + 1 by omega)
  unfold laws_cutOf
  rw [w64_succ (by omega), rem_nat a _ (by omega) (by omega) (by omega), Option.bind_some, hw]
  simp only [joinP]
  rw [if_pos (by simp only [decide_eq_true_eq]; omega), hx, Option.bind_some, if_pos (by simp only [decide_eq_true_eq]; omega), Option.bind_some, w64_succ (by omega), rem_nat b _ (by omega) (by omega) (by omega), Option.bind_some]
  by_cases h0 : b % (x.Text.size + 1) = 0
  · left
    rw [h0, show ((0 : Nat) : Int) = 0 from rfl, cutraws0 N h hr w (by omega) hR (by omega) hp0]
    rfl
  · right
    refine ⟨b % (x.Text.size + 1), by omega, ?_⟩
    rw [cutrawsp N h hr w hwl hx hk _ (by omega) (by omega) (hp _ (by omega))]
    rfl
theorem read_add (N : Nat) (hN : Big N) {l : Log} {s t : Nat} (h : GoodL l s t) {k : Nat} (hk : k ≤ l.Entries.length) {more : List Entry} (hm : ∀ e ∈ more, entOk e = true) (hml : more.length ≤ 20) (h0 : more ≠ []) (ho : logOk ⟨(s : Int), (t : Int), l.Entries.take k ++ more⟩ = true) {F : ByteArray} (hF : bs F = bs (lfile N s t l.Entries) ++ bs (frs N (s + 1 + k) more)) :
    ∃ end', impl_ReadLog N F = some (⟨(s : Int), (t : Int), l.Entries.take k ++ more⟩, end', true) := by
  have hl := h.len
  have s0 := h.s0
  have t0 := h.t0
  have hokm : okPs s l.Entries (ens k more) := okPs_ens s more l.Entries k hk (by omega) hm
  have h1 : F.size = (lfile N s t l.Entries).size + (frs N (s + 1 + k) more).size := by rw [← bs_len F, hF, List.length_append, bs_len, bs_len]
  have hsz := lfile_size N hN (s := s) (t := t) (es := l.Entries) (by omega) (by omega) h.all
  have hfs := frs_size N hN more (s + 1 + k) (by omega) hm
  rw [bs_lfile, ← cats_ens N s more k, ← cats_app, List.cons_append, ← List.map_append] at hF
  have e0 : (ens 0 l.Entries).foldl appE [] = l.Entries := by
    have := fold_ens l.Entries []
    simpa using this
  have hfile : IsFile N F s t (ens 0 l.Entries ++ ens k more) [] := ⟨by rw [hF, List.append_nil], .inl rfl, by omega, okPs_app s _ _ _ (okPs_ens s _ [] 0 (Nat.zero_le _) (by omega) h.all) (by rw [e0]; exact hokm), h.s0, h.t0, by rw [List.length_append, ens_len, ens_len]; omega⟩
  have hfold : (ens 0 l.Entries ++ ens k more).foldl appE [] = l.Entries.take k ++ more := by
    rw [List.foldl_append, e0]
    exact fold_ens_at hk h0
  have hsm : smallL ⟨(s : Int), (t : Int), l.Entries.take k ++ more⟩ := by
    refine ⟨?_, ?_⟩
    · simp only [List.length_append, List.length_take]
      omega
    · intro e he
      have := terms_all _ _ (logOk_at ho).2.2.2.2.2.2 e he
      have := (ent_in this).2.2
      omega
  have r := readlog_impl N hN hfile (by rw [hfold]; exact ho) (by rw [hfold]; exact hsm)
  rw [hfold] at r
  exact ⟨_, r⟩
theorem drop_ne {α : Type} {l : List α} {k : Nat} (h : k < l.length) : l.drop k ≠ [] := by
  intro e
  have := congrArg List.length e
  rw [List.length_drop] at this
  simp only [List.length_nil] at this
  omega
theorem take_drop_cpl (a b : List Entry) : a.take (cpl a b) ++ b.drop (cpl a b) = b := by
  rw [cpl_take, List.take_append_drop]
/-- The sizes of what lies on the disk. -/
theorem sizes (N : Nat) (hN : Big N) {old now : Log} {s t s' t' : Nat} (ho : GoodL old s t) (hn : GoodL now s' t') : (lfile N s t old.Entries).size ≤ 20000 ∧ (lfile N s' t' now.Entries).size ≤ 20000 ∧ (lfile N s t old.Entries).size + (frs N (s' + 1 + cpl old.Entries now.Entries) (now.Entries.drop (cpl old.Entries now.Entries))).size ≤ 20000 := by
  have hl := ho.len
  have hl' := hn.len
  have s0 := ho.s0
  have t0 := ho.t0
  have s1 := hn.s0
  have t1 := hn.t0
  have hc := cpl_le old.Entries now.Entries
  have h1 := lfile_size N hN (s := s) (t := t) (es := old.Entries) (by omega) (by omega) ho.all
  have h2 := lfile_size N hN (s := s') (t := t') (es := now.Entries) (by omega) (by omega) hn.all
  have h3 := frs_size N hN (now.Entries.drop (cpl old.Entries now.Entries)) (s' + 1 + cpl old.Entries now.Entries) (by rw [List.length_drop]; omega) (fun e he => hn.all e (List.mem_of_mem_drop he))
  rw [List.length_drop] at h3
  omega
/-- All the steps put: the new log's file lies there. -/
theorem put_logs (N : Nat) (hN : Big (N + 100)) {old now : Log} {s t s' t' : Nat} (ho : GoodL old s t) (hn : GoodL now s' t') :
    ∃ D G q, spec_PutRaws (N + 100) (d1 (lfile (N + 100) s t old.Entries)) (stepsOf (N + 100) old now s' t') = some (D, ((stepsOf (N + 100) old now s' t').length : Int)) ∧ spec_FileAt (N + 100) D nL = some (G, true) ∧ impl_ReadLog (N + 100) G = some (now, q, true) := by
  obtain ⟨z1, z2, z3⟩ := sizes (N + 100) hN ho hn
  have hl := ho.len
  have hl' := hn.len
  unfold stepsOf
  split
  · rename_i h1
    have he := sameL_iff.1 h1
    subst he
    exact ⟨_, _, _, raws0 N z1, file1 N z1, (read_own (N + 100) hN ho).1⟩
  · split
    · rename_i h1 h2
      obtain ⟨h2, h3, h4⟩ := h2
      have es : s' = s := by
        have a := ho.start
        have b := hn.start
        omega
      have et : t' = t := by
        have a := ho.term
        have b := hn.term
        omega
      subst es
      subst et
      have hgo := good_eq hn
      obtain ⟨q, hq⟩ := read_add (N + 100) hN ho (cpl_le old.Entries now.Entries).1 (more := now.Entries.drop (cpl old.Entries now.Entries)) (fun e he => hn.all e (List.mem_of_mem_drop he)) (by rw [List.length_drop]; omega) (drop_ne h4) (by rw [take_drop_cpl, hgo]; exact hn.ok) (F := lfile (N + 100) s' t' old.Entries ++ frs (N + 100) (s' + 1 + cpl old.Entries now.Entries) (now.Entries.drop (cpl old.Entries now.Entries))) (bs_app _ _)
      rw [take_drop_cpl, hgo] at hq
      exact ⟨_, _, _, raws_add N z3, file1 N (by rw [ByteArray.size_append]; exact z3), hq⟩
    · exact ⟨_, _, _, raws_move N z1 z2, file1 N z2, (read_own (N + 100) hN hn).1⟩
theorem ext_le {t : ByteArray} {q : Nat} (h : q ≤ t.size) : (t.extract 0 q).size = q := by
  rw [ByteArray.size_extract]
  omega
/-- The steps cut: old's file, now's, or old's and a piece of the entries that came. -/
theorem cut_logs (N : Nat) (hN : Big (N + 100)) {old now : Log} {s t s' t' : Nat} (ho : GoodL old s t) (hn : GoodL now s' t') {a b : Nat} (ha : a ≤ 10000) (hb : b ≤ 10000) :
    ∃ D G, laws_cutOf (N + 100) (d1 (lfile (N + 100) s t old.Entries)) (stepsOf (N + 100) old now s' t') (a : Int) (b : Int) = some (D, true) ∧ spec_FileAt (N + 100) D nL = some (G, true) ∧
      (G = lfile (N + 100) s t old.Entries ∨ G = lfile (N + 100) s' t' now.Entries ∨ (s' = s ∧ t' = t ∧ ∃ q, bs G = bs (lfile (N + 100) s t old.Entries) ++ (bs (frs (N + 100) (s + 1 + cpl old.Entries now.Entries) (now.Entries.drop (cpl old.Entries now.Entries)))).take q)) := by
  obtain ⟨z1, z2, z3⟩ := sizes (N + 100) hN ho hn
  unfold stepsOf
  split
  · have := cutof0 N z1 (rs := []) (by simp) (b : Int) ha (w := 0) (by simp only [List.length_nil]; omega) (.inl rfl) (raws0 N z1)
    exact ⟨_, _, this, file1 N z1, .inl rfl⟩
  · split
    · rename_i h1 h2
      obtain ⟨h2, h3, h4⟩ := h2
      have es : s' = s := by
        have a := ho.start
        have b := hn.start
        omega
      have et : t' = t := by
        have a := ho.term
        have b := hn.term
        omega
      subst es
      subst et
      generalize hA : frs (N + 100) (s' + 1 + cpl old.Entries now.Entries) (now.Entries.drop (cpl old.Entries now.Entries)) = A at z3
      have hw := Nat.mod_lt a (show 0 < 2 by omega)
      by_cases hw0 : a % 2 = 0
      · rcases cutofp N z1 (rs := [rAdd A]) (by simp) ha hb (w := 0) hw0 (by simp) (x := rAdd A) rfl ⟨by simp only; omega, by simp only; omega⟩ (by simp only; omega) (raws0 N z1) (D := fun q => d1 (lfile (N + 100) s' t' old.Entries ++ A.extract 0 q)) (fun q hq => raws_add N (by simp only at hq; rw [ext_le hq]; omega)) with h | ⟨q, hq, h⟩
        · exact ⟨_, _, h, file1 N z1, .inl rfl⟩
        · refine ⟨_, _, h, file1 N (by simp only at hq; rw [ByteArray.size_append, ext_le hq]; omega), .inr (.inr ⟨rfl, rfl, q, ?_⟩)⟩
          have hx := ext_toList A 0 q (Nat.zero_le _) (by simp only at hq; exact hq)
          rw [bs_app]
          exact congrArg _ hx
      · have hw1 : a % 2 = 1 := by omega
        have := cutof0 N z1 (rs := [rAdd A]) (by simp) (b : Int) ha (w := 1) hw1 (.inl rfl) (raws_add N z3)
        refine ⟨_, _, this, file1 N (by rw [ByteArray.size_append]; exact z3), .inr (.inr ⟨rfl, rfl, A.size, ?_⟩)⟩
        rw [bs_app, List.take_of_length_le (by rw [bs_len]; omega)]
    · generalize hA : lfile (N + 100) s' t' now.Entries = A at z2
      have hw := Nat.mod_lt a (show 0 < 3 by omega)
      have h012 : a % 3 = 0 ∨ a % 3 = 1 ∨ a % 3 = 2 := by omega
      rcases h012 with hw0 | hw0 | hw0
      · rcases cutofp N z1 (rs := [rPut A, rMove]) (by simp) ha hb (w := 0) hw0 (by simp) (x := rPut A) rfl ⟨by simp only; omega, by simp only; omega⟩ z2 (raws0 N z1) (D := fun q => d2 (lfile (N + 100) s t old.Entries) (A.extract 0 q)) (fun q hq => raws_put N z1 (by simp only at hq; rw [ext_le hq]; omega)) with h | ⟨q, hq, h⟩
        · exact ⟨_, _, h, file1 N z1, .inl rfl⟩
        · exact ⟨_, _, h, file2 N z1 (by simp only at hq; rw [ext_le hq]; omega), .inl rfl⟩
      · have := cutof0 N z1 (rs := [rPut A, rMove]) (by simp) (b : Int) ha (w := 1) hw0 (.inr ⟨rMove, rfl, by decide⟩) (raws_put N z1 z2)
        exact ⟨_, _, this, file2 N z1 z2, .inl rfl⟩
      · have := cutof0 N z1 (rs := [rPut A, rMove]) (by simp) (b : Int) ha (w := 2) hw0 (.inl rfl) (raws_move N z1 z2)
        exact ⟨_, _, this, file1 N z2, .inr (.inl rfl)⟩
theorem and_lo (a b : Int) (hb : 0 ≤ b) (hb' : b ≤ 9223372036854775807) : ∃ r, intD .and .i64 a b = some r ∧ 0 ≤ r ∧ r ≤ b := by
  have h1 : ((BitVec.ofInt 64 a &&& BitVec.ofInt 64 b).toNat : Int) ≤ b := by
    rw [BitVec.toNat_and]
    have h2 : (BitVec.ofInt 64 a).toNat &&& (BitVec.ofInt 64 b).toNat ≤ (BitVec.ofInt 64 b).toNat := Nat.and_le_right
    have h3 : ((BitVec.ofInt 64 b).toNat : Int) = b := by
      rw [BitVec.toNat_ofInt]
      omega
    omega
  have h2 : intD .and .i64 a b = some (w64 ((BitVec.ofInt 64 a &&& BitVec.ofInt 64 b).toNat : Int)) := rfl
  rw [w64_id (by omega) (by omega)] at h2
  exact ⟨_, h2, by omega, h1⟩
theorem rem_lo (a : Int) (ha : 0 ≤ a) (b : Int) (hb : 0 < b) : ∃ r, intD .rem .i64 a b = some r ∧ 0 ≤ r ∧ r < b := by
  refine ⟨a.tmod b, ?_, Int.tmod_nonneg _ ha, Int.tmod_lt_of_pos _ hb⟩
  unfold intD
  simp only
  rw [if_neg (by omega)]
theorem shr_some (a b : Int) (hb : 0 ≤ b) : ∃ r, intSh .shr .i64 a b = some r := by
  unfold intSh
  simp only
  rw [if_neg (by omega)]
  exact ⟨_, rfl⟩
theorem l01byte_ok (N : Nat) (c : Tl01Cur) (h0 : 0 ≤ c.i) (hl : c.b.length ≤ 1099511627776) : ∃ r c', spec_l01Byte N c = some (r, c') ∧ 0 ≤ r ∧ r ≤ 255 ∧ c'.b = c.b ∧ 0 ≤ c'.i := by
  unfold spec_l01Byte joinP
  obtain ⟨r1, e1⟩ := shr_some (w64 ((w64 (c.h * (6364136223846793005 : Int))) + (1442695040888963407 : Int))) 33 (by decide)
  obtain ⟨r2, e2⟩ := shr_some (w64 ((w64 (c.h * (6364136223846793005 : Int))) + (1442695040888963407 : Int))) 45 (by decide)
  rw [e1, Option.bind_some, e2, Option.bind_some]
  obtain ⟨r3, e3⟩ : ∃ r, intD .xor .i64 r1 r2 = some r := ⟨_, rfl⟩
  rw [e3, Option.bind_some]
  obtain ⟨r4, e4, l4, u4⟩ := and_lo r3 255 (by decide) (by decide)
  rw [e4, Option.bind_some]
  simp only
  by_cases hi : c.i < c.b.length
  · have hk : c.i.toNat < c.b.length := by omega
    have e5 : at? c.b c.i = some c.b[c.i.toNat] := by
      have := at_lt (xs := c.b) hk
      rwa [Int.toNat_of_nonneg h0] at this
    rw [if_pos (by simpa using hi), e5, Option.bind_some]
    obtain ⟨r6, e6, l6, u6⟩ := and_lo (w64 (r4 + w64 c.b[c.i.toNat])) 255 (by decide) (by decide)
    rw [e6, Option.bind_some]
    exact ⟨_, _, rfl, l6, u6, rfl, by simp only; rw [w64_id (by omega) (by omega)]; omega⟩
  · rw [if_neg (by simpa using hi)]
    exact ⟨_, _, rfl, l4, u4, rfl, h0⟩
theorem below_ok (N : Nat) (c : Tl01Cur) (k : Int) (h0 : 0 ≤ c.i) (hl : c.b.length ≤ 1099511627776) : ∃ r c', spec_l01Below N c k = some (r, c') ∧ 0 ≤ r ∧ (0 < k → r < k) ∧ (k ≤ 0 → r = 0) ∧ c'.b = c.b ∧ 0 ≤ c'.i := by
  unfold spec_l01Below
  by_cases h1 : k ≤ 0
  · rw [if_pos (by simpa using h1)]
    exact ⟨_, _, rfl, Int.le_refl _, fun h => by omega, fun _ => rfl, rfl, h0⟩
  rw [if_neg (by simpa using h1)]
  by_cases h2 : k ≤ 256
  · rw [if_pos (by simpa using h2)]
    obtain ⟨r, c', e, l, u, hb, hi⟩ := l01byte_ok N c h0 hl
    obtain ⟨q, eq, lq, uq⟩ := rem_lo r l k (by omega)
    rw [e, Option.bind_some, eq, Option.bind_some]
    exact ⟨_, _, rfl, lq, fun _ => uq, fun h => by omega, hb, hi⟩
  · rw [if_neg (by simpa using h2)]
    obtain ⟨r1, c1, e1, l1, u1, b1, i1⟩ := l01byte_ok N c h0 hl
    obtain ⟨r2, c2, e2, l2, u2, b2, i2⟩ := l01byte_ok N c1 i1 (by rw [b1]; exact hl)
    obtain ⟨r3, c3, e3, l3, u3, b3, i3⟩ := l01byte_ok N c2 i2 (by rw [b2, b1]; exact hl)
    obtain ⟨r4, c4, e4, l4, u4, b4, i4⟩ := l01byte_ok N c3 i3 (by rw [b3, b2, b1]; exact hl)
    simp only [e1, e2, e3, e4, Option.bind_some]
    rw [w64_id (n := r1 * 16777216) (by omega) (by omega), w64_id (n := r2 * 65536) (by omega) (by omega), w64_id (n := r3 * 256) (by omega) (by omega), w64_id (n := r1 * 16777216 + r2 * 65536) (by omega) (by omega), w64_id (n := r1 * 16777216 + r2 * 65536 + r3 * 256) (by omega) (by omega), w64_id (n := r1 * 16777216 + r2 * 65536 + r3 * 256 + r4) (by omega) (by omega)]
    obtain ⟨q, eq, lq, uq⟩ := rem_lo (r1 * 16777216 + r2 * 65536 + r3 * 256 + r4) (by omega) k (by omega)
    rw [eq, Option.bind_some]
    exact ⟨_, _, rfl, lq, fun _ => uq, fun h => by omega, by rw [b4, b3, b2, b1], i4⟩
theorem new_l1 (N : Nat) (c : List Int) : ∀ (tl : List Int) (x k : Int), ∃ h, spec_l01New_l1_r N c tl x k = some h := by
  intro tl
  induction tl with
  | nil => exact fun x k => ⟨_, rfl⟩
  | cons a tl ih =>
    intro x k
    rw [spec_l01New_l1_r]
    split
    · obtain ⟨r, e, _, _⟩ := and_lo (w64 ((w64 ((w64 (x * (131 : Int))) + (w64 a))) + (7 : Int))) 1073741823 (by decide) (by decide)
      rw [Option.bind_some, e, Option.bind_some]
      exact ih _ _
    · exact ⟨_, rfl⟩
theorem new_ok (N : Nat) (hN : Big N) (c : List Int) (hl : c.length ≤ 1099511627) : ∃ h, spec_l01New N c = some ⟨c, 0, h⟩ := by
  unfold spec_l01New joinP
  rw [spec_l01New_l1_eq c (by omega) (by have := hN; unfold Big at this; omega)]
  obtain ⟨h, e⟩ := new_l1 N c c (w64 ((10301 : Int) + (c.length : Int))) 0
  rw [e]
  exact ⟨_, rfl⟩
theorem places_l1 (N : Nat) : ∀ (d m : Nat) (i : Nat) (c : Tl01Cur) (acc : List Int), i + d = 12 → d < m → acc.length = i → (∀ y ∈ acc, 0 ≤ y ∧ y < 10000) → 0 ≤ c.i → c.b.length ≤ 1099511627776 →
    ∃ out, spec_DrawPlaces_l1 N m (i : Int) c.b c.i c.h acc = some out ∧ out.length = 12 ∧ ∀ y ∈ out, 0 ≤ y ∧ y < 10000 := by
  intro d
  induction d with
  | zero =>
    intro m i c acc hd hm ha hy h0 hl
    obtain ⟨m, rfl⟩ : ∃ q, m = q + 1 := ⟨m - 1, by omega⟩
    rw [spec_DrawPlaces_l1, if_neg (by simp; omega)]
    exact ⟨_, rfl, by omega, hy⟩
  | succ d ih =>
    intro m i c acc hd hm ha hy h0 hl
    obtain ⟨m, rfl⟩ : ∃ q, m = q + 1 := ⟨m - 1, by omega⟩
    rw [spec_DrawPlaces_l1, if_pos (by simp; omega)]
    obtain ⟨r, c', e, lr, ur, _, hb, hi⟩ := below_ok N c 10000 h0 hl
    rw [show (Tl01Cur.mk c.b c.i c.h) = c from rfl, e, Option.bind_some, cat_ok (by simp; omega), Option.bind_some, w64_succ (by omega)]
    refine ih m (i + 1) c' (acc ++ [r]) (by omega) (by omega) (by simp; omega) (fun y hq => ?_) hi (by rw [hb]; exact hl)
    rcases List.mem_append.1 hq with hq | hq
    · exact hy y hq
    · obtain rfl := List.mem_singleton.1 hq
      exact ⟨lr, ur (by decide)⟩
theorem places_ok (N : Nat) (hN : Big N) (c : List Int) (hl : c.length ≤ 1099511627) : ∃ out, spec_DrawPlaces N c = some out ∧ out.length = 12 ∧ ∀ y ∈ out, 0 ≤ y ∧ y < 10000 := by
  obtain ⟨h, e⟩ := new_ok N hN c hl
  obtain ⟨r, c', e', _, _, hb, hi⟩ := l01byte_ok N ⟨c, 0, h⟩ (Int.le_refl _) (by simp only; omega)
  unfold spec_DrawPlaces joinP
  rw [e, Option.bind_some, e', Option.bind_some]
  obtain ⟨out, eo, hlo, hy⟩ := places_l1 N 12 N 0 c' [] rfl (by have := hN; unfold Big at this; omega) rfl (fun _ h => by cases h) hi (by rw [hb]; simp only; omega)
  rw [show (0 : Int) = ((0 : Nat) : Int) from rfl]
  simp only at eo ⊢
  rw [eo, Option.bind_some]
  exact ⟨out, rfl, hlo, hy⟩
theorem rise_len : ∀ {xs : List Int} {lo hi : Int} {p : Int}, rise lo hi (some p) xs = true → p ≤ hi → (xs.length : Int) ≤ hi - p
  | [], lo, hi, p, _, hp => by simp only [List.length_nil]; omega
  | x :: xs, lo, hi, p, h, hp => by
    rw [rise_cons] at h
    simp only [Bool.and_eq_true, decide_eq_true_eq] at h
    have := rise_len h.2.2 h.1.2
    simp only [List.length_cons]
    omega
theorem votes_len {xs : List Int} (h : rise 1 4 none xs = true) : xs.length ≤ 4 := by
  cases xs with
  | nil => exact Nat.zero_le _
  | cons x xs =>
    rw [rise_cons] at h
    simp only [Bool.and_eq_true, decide_eq_true_eq] at h
    have := rise_len h.2.2 h.1.2
    simp only [List.length_cons]
    omega
/-- A place in a drawn code. -/
def CurOk (b : List Int) (c : Tl01Cur) : Prop := c.b = b ∧ 0 ≤ c.i
theorem below_cur (N : Nat) {b : List Int} (hl : b.length ≤ 1099511627776) {c : Tl01Cur} (h : CurOk b c) (k : Int) : ∃ r c', spec_l01Below N c k = some (r, c') ∧ 0 ≤ r ∧ (0 < k → r < k) ∧ CurOk b c' := by
  obtain ⟨r, c', e, l, u, _, hb, hi⟩ := below_ok N c k h.2 (by rw [h.1]; exact hl)
  exact ⟨r, c', e, l, u, hb.trans h.1, hi⟩
theorem once_cur (N : Nat) {b : List Int} (hl : b.length ≤ 1099511627776) {c : Tl01Cur} (h : CurOk b c) (k : Int) : ∃ q c', spec_l01Once N c k = some (q, c') ∧ CurOk b c' := by
  obtain ⟨r, c', e, _, _, hc⟩ := below_cur N hl h k
  unfold spec_l01Once
  rw [e, Option.bind_some]
  exact ⟨_, _, rfl, hc⟩
theorem rise_snoc {lo hi y : Int} : ∀ {xs : List Int} {p : Option Int}, rise lo hi p xs = true → (∀ x ∈ xs, x < y) → (∀ q, p = some q → q < y) → lo ≤ y ∧ y ≤ hi → rise lo hi p (xs ++ [y]) = true
  | [], p, _, _, hp, hy => by
    rw [List.nil_append, rise_cons]
    simp only [Bool.and_eq_true, decide_eq_true_eq]
    refine ⟨hy, ?_, rfl⟩
    cases p with
    | none => rfl
    | some q => exact decide_eq_true (hp q rfl)
  | x :: xs, p, h, hx, hp, hy => by
    rw [List.cons_append, rise_cons]
    rw [rise_cons] at h
    simp only [Bool.and_eq_true, decide_eq_true_eq] at h ⊢
    exact ⟨h.1, h.2.1, rise_snoc h.2.2 (fun z hz => hx z (List.mem_cons_of_mem _ hz)) (fun q hq => by cases hq; exact hx x List.mem_cons_self) hy⟩
theorem conf_l1 (N : Nat) {b : List Int} (hl : b.length ≤ 1099511627776) : ∀ (d f : Nat) (i : Int) (c : Tl01Cur) (acc : List Int), i + d = 5 → 1 ≤ i → d < f → CurOk b c → rise 1 4 none acc = true → (∀ x ∈ acc, x < i) →
    ∃ c' out, spec_l07Conf_l1 N f i c.b c.i c.h acc = some (c'.b, c'.i, c'.h, out) ∧ CurOk b c' ∧ rise 1 4 none out = true := by
  intro d
  induction d with
  | zero =>
    intro f i c acc hd h1 hf hc ha hx
    obtain ⟨f, rfl⟩ : ∃ q, f = q + 1 := ⟨f - 1, by omega⟩
    rw [spec_l07Conf_l1, if_neg (by simp; omega)]
    exact ⟨c, acc, rfl, hc, ha⟩
  | succ d ih =>
    intro f i c acc hd h1 hf hc ha hx
    obtain ⟨f, rfl⟩ : ∃ q, f = q + 1 := ⟨f - 1, by omega⟩
    have hal := votes_len ha
    rw [spec_l07Conf_l1, if_pos (by simp; omega)]
    simp only [joinP]
    obtain ⟨q, c', e, hc'⟩ := once_cur N hl hc 2
    rw [show (Tl01Cur.mk c.b c.i c.h) = c from rfl, e, Option.bind_some, w64_id (n := i + 1) (by omega) (by omega)]
    cases q with
    | true =>
      rw [if_pos rfl, cat_ok (by simp; omega), Option.bind_some]
      exact ih f (i + 1) c' (acc ++ [i]) (by omega) (by omega) (by omega) hc' (rise_snoc ha hx (fun q hq => by cases hq) (by omega)) (fun x hx' => by
        rcases List.mem_append.1 hx' with h | h
        · have := hx x h
          omega
        · simp only [List.mem_singleton] at h
          omega)
    | false =>
      rw [if_neg (by simp)]
      exact ih f (i + 1) c' acc (by omega) (by omega) (by omega) hc' ha (fun x h => by have := hx x h; omega)
theorem conf_cur (N : Nat) (hN : Big N) {b : List Int} (hl : b.length ≤ 1099511627776) {c : Tl01Cur} (h : CurOk b c) : ∃ cf c', spec_l07Conf N c = some (cf, c') ∧ confOk cf = true ∧ CurOk b c' := by
  obtain ⟨c', out, e, hc, hr⟩ := conf_l1 N hl 4 N 1 c [] (by decide) (by decide) (by have := hN; unfold Big at this; omega) h rfl (fun x hx => by cases hx)
  have ho := votes_len hr
  unfold spec_l07Conf
  simp only [joinP]
  rw [e, Option.bind_some]
  simp only
  by_cases h0 : out.length = 0
  · have : out = [] := List.eq_nil_of_length_eq_zero h0
    subst this
    rw [if_pos (show ((((([] : List Int)).length : Nat) : Int) == (0 : Int)) = true from rfl), cat_ok (by simp), Option.bind_some]
    exact ⟨[1], c', rfl, by decide, hc⟩
  · rw [if_neg (show ¬ ((((out.length : Nat) : Int) == (0 : Int)) = true) by rw [beq_iff_eq]; omega)]
    refine ⟨out, c', rfl, ?_, hc⟩
    unfold confOk
    rw [hr, decide_eq_true ho, decide_eq_true (by omega)]
    rfl
theorem pick_cur (N : Nat) {b : List Int} (hl : b.length ≤ 1099511627776) {c : Tl01Cur} (h : CurOk b c) {xs : List ByteArray} (hx : 0 < xs.length) : ∃ t c', spec_l01Pick_i1 N c xs = some (t, c') ∧ t ∈ xs ∧ CurOk b c' := by
  obtain ⟨r, c', e, l, u, hc⟩ := below_cur N hl h (xs.length : Int)
  have hr := u (by omega)
  unfold spec_l01Pick_i1
  rw [e, Option.bind_some]
  have hk : r.toNat < xs.length := by omega
  have := at_lt (xs := xs) hk
  rw [Int.toNat_of_nonneg l] at this
  simp only
  rw [this, Option.bind_some]
  exact ⟨_, _, rfl, List.getElem_mem hk, hc⟩
theorem pickInt_cur (N : Nat) {b : List Int} (hl : b.length ≤ 1099511627776) {c : Tl01Cur} (h : CurOk b c) {xs : List Int} (hx : 0 < xs.length) : ∃ t c', spec_l01PickInt_i1 N c xs = some (t, c') ∧ t ∈ xs ∧ CurOk b c' := by
  obtain ⟨r, c', e, l, u, hc⟩ := below_cur N hl h (xs.length : Int)
  have hr := u (by omega)
  unfold spec_l01PickInt_i1
  rw [e, Option.bind_some]
  have hk : r.toNat < xs.length := by omega
  have := at_lt (xs := xs) hk
  rw [Int.toNat_of_nonneg l] at this
  simp only
  rw [this, Option.bind_some]
  exact ⟨_, _, rfl, List.getElem_mem hk, hc⟩
theorem u8_conf {x : Int} (h : 1 ≤ x ∧ x ≤ 4) : IntKind.wrap .u8 x = x := by
  rw [IntKind.wrap_u8]
  omega
theorem rise_in : ∀ {xs : List Int} {lo hi : Int} {p : Option Int}, rise lo hi p xs = true → ∀ x ∈ xs, lo ≤ x ∧ x ≤ hi
  | [], _, _, _, _, x, hx => by cases hx
  | y :: ys, lo, hi, p, h, x, hx => by
    rw [rise_cons] at h
    simp only [Bool.and_eq_true, decide_eq_true_eq] at h
    rcases List.mem_cons.1 hx with rfl | hx
    · exact h.1
    · exact rise_in h.2.2 x hx
theorem conf_in {c : List Int} (h : confOk c = true) : ∀ x ∈ c, 1 ≤ x ∧ x ≤ 4 := by
  unfold confOk at h
  simp only [Bool.and_eq_true, decide_eq_true_eq] at h
  exact rise_in h.2.2
theorem ct_r (N : Nat) (c : List Int) : ∀ (xs : List Int) (k : Nat) (acc : List Int), k + xs.length ≤ 1000 → acc.length + xs.length ≤ 1000 → (∀ x ∈ xs, 1 ≤ x ∧ x ≤ 4) → spec_ConfText_l1_r N c xs (k : Int) acc = some (acc ++ xs)
  | [], k, acc, _, _, _ => by rw [List.append_nil]; rfl
  | x :: xs, k, acc, h1, h2, h => by
    simp only [List.length_cons] at h1 h2
    rw [spec_ConfText_l1_r, Option.bind_some, u8_conf (h x (by simp)), cat_ok (by simp; omega), Option.bind_some, w64_succ (by omega), ct_r N c xs (k + 1) (acc ++ [x]) (by omega) (by simp; omega) (fun y hy => h y (by simp [hy])), List.append_assoc, List.singleton_append]
theorem ints_strOf {c : List Int} (h : ∀ x ∈ c, 1 ≤ x ∧ x ≤ 4) : ints (strOf c) = c := by
  rw [strOf_data]
  unfold ints
  rw [List.map_map]
  induction c with
  | nil => rfl
  | cons x c ih =>
    rw [List.map_cons, ih (fun y hy => h y (by simp [hy]))]
    congr 1
    have hx := h x (by simp)
    show ((UInt8.ofNat x.toNat).toNat : Int) = x
    rw [UInt8.toNat_ofNat']
    omega
theorem confText_eq (N : Nat) (hN : Big N) {c : List Int} (hc : confOk c = true) : spec_ConfText N c = some (strOf c, true) := by
  have hl := confOk_len hc
  unfold spec_ConfText
  rw [confOk_spec N hN c (by omega), Option.bind_some, hc, if_neg (by simp)]
  simp only [joinP]
  rw [spec_ConfText_l1_eq c (by omega) (by have := hN; unfold Big at this; omega), show (0 : Int) = ((0 : Nat) : Int) from rfl, ct_r N c c 0 [] (by omega) (by simp; omega) (conf_in hc), Option.bind_some, List.nil_append]
theorem lvar_ok (N : Nat) (hN : Big N) (x : Int) (h0 : 0 ≤ x) (h1 : x ≤ 200000) : ∃ t, spec_l01Var N x = some t ∧ t.size ≤ 5 := by
  have e := var_spec N hN x.toNat (by omega)
  rw [Int.toNat_of_nonneg h0] at e
  exact ⟨_, e, by rw [encT_size]; exact enc_len5 (by omega)⟩
theorem lshort_ok (N : Nat) (hN : Big N) (s : ByteArray) (h : s.size ≤ 10) : ∃ t, spec_l05Short N s = some t ∧ t.size ≤ 15 := by
  obtain ⟨t, e, ht⟩ := lvar_ok N hN (s.size : Int) (by omega) (by omega)
  unfold spec_l05Short
  rw [e, Option.bind_some, scat_ok (by omega), Option.bind_some]
  exact ⟨_, rfl, by rw [ByteArray.size_append]; omega⟩
theorem cmdOk_total (N : Nat) (x : Command) : ∃ q, spec_CommandOk N x = some q := by
  have h : (spec_CommandOk N x).isSome = true := by
    unfold spec_CommandOk
    simp only [in_eq, Option.bind_some]
    repeat' split
    all_goals rfl
  exact Option.isSome_iff_exists.1 h
structure CmdSmall (x : Command) : Prop where
  session : 0 ≤ x.Session ∧ x.Session ≤ 1000
  seq : 0 ≤ x.Seq ∧ x.Seq ≤ 1000
  key : x.Key.size ≤ 10
  value : x.Value.size ≤ 10
  old : x.Old.size ≤ 10
theorem lcmdText_ok (N : Nat) (hN : Big N) (x : Command) (h : CmdSmall x) : ∃ t q, spec_CommandText N x = some (t, q) ∧ t.size ≤ 100 := by
  obtain ⟨q, e⟩ := cmdOk_total N x
  unfold spec_CommandText
  rw [e, Option.bind_some]
  cases q with
  | false => exact ⟨_, _, rfl, Nat.zero_le _⟩
  | true =>
    rw [if_neg (by simp)]
    obtain ⟨t1, e1, h1⟩ := lvar_ok N hN x.Session h.session.1 (by have := h.session; omega)
    obtain ⟨t2, e2, h2⟩ := lvar_ok N hN x.Seq h.seq.1 (by have := h.seq; omega)
    obtain ⟨t3, e3, h3⟩ := lshort_ok N hN x.Key h.key
    obtain ⟨t4, e4, h4⟩ := lshort_ok N hN x.Value h.value
    obtain ⟨t5, e5, h5⟩ := lshort_ok N hN x.Old h.old
    have h0 : (strOf [IntKind.wrap .u8 x.Op]).size = 1 := by rw [strOf_data]; rfl
    simp only [e1, e2, e3, e4, e5, Option.bind_some]
    rw [scat_ok (by omega)]
    simp only [Option.bind_some]
    rw [scat_ok (by rw [ByteArray.size_append]; omega)]
    simp only [Option.bind_some]
    rw [scat_ok (by rw [ByteArray.size_append, ByteArray.size_append]; omega)]
    simp only [Option.bind_some]
    rw [scat_ok (by rw [ByteArray.size_append, ByteArray.size_append, ByteArray.size_append]; omega)]
    simp only [Option.bind_some]
    rw [scat_ok (by rw [ByteArray.size_append, ByteArray.size_append, ByteArray.size_append, ByteArray.size_append]; omega)]
    refine ⟨_, _, rfl, ?_⟩
    rw [ByteArray.size_append, ByteArray.size_append, ByteArray.size_append, ByteArray.size_append, ByteArray.size_append]
    omega
theorem small_text {xs : List ByteArray} (h : xs.all (fun t => decide (t.size ≤ 10)) = true) {t : ByteArray} (ht : t ∈ xs) : t.size ≤ 10 := by
  simpa using List.all_eq_true.1 h t ht
theorem z1000 : (0 : Int) ≤ 0 ∧ (0 : Int) ≤ 1000 := by omega
theorem l15Right_cur (N : Nat) {b : List Int} (hl : b.length ≤ 1099511627776) {c : Tl01Cur} (h : CurOk b c) : ∃ x c', spec_l15Right N c = some (x, c') ∧ CmdSmall x ∧ CurOk b c' := by
  have hz : (⟨#[]⟩ : ByteArray).size ≤ 10 := by decide
  obtain ⟨r1, c1, e1, l1, u1, h1⟩ := below_cur N hl h 5
  have u1' := u1 (by decide)
  unfold spec_l15Right
  rw [e1, Option.bind_some]
  simp only [joinP]
  rw [w64_id (n := 1 + r1) (by omega) (by omega)]
  by_cases k1 : 1 + r1 = 1
  · rw [if_pos (by simpa using k1)]
    exact ⟨_, _, rfl, ⟨z1000, z1000, hz, hz, hz⟩, h1⟩
  rw [if_neg (by simpa using k1)]
  obtain ⟨r2, c2, e2, l2, u2, h2⟩ := below_cur N hl h1 4
  obtain ⟨r3, c3, e3, l3, u3, h3⟩ := below_cur N hl h2 3
  have u2' := u2 (by decide)
  have u3' := u3 (by decide)
  obtain ⟨t4, c4, e4, m4, h4⟩ := pick_cur N hl h3 (xs := [(⟨#[97]⟩ : ByteArray), (⟨#[98]⟩ : ByteArray), (⟨#[99]⟩ : ByteArray)]) (by decide)
  have s4 := small_text (by decide) m4
  simp only [e2, e3, e4, Option.bind_some]
  rw [w64_id (n := 1 + r2) (by omega) (by omega), w64_id (n := 1 + r3) (by omega) (by omega)]
  obtain ⟨t5, c5, e5, m5, h5⟩ := pick_cur N hl h4 (xs := [(⟨#[]⟩ : ByteArray), (⟨#[49]⟩ : ByteArray), (⟨#[50]⟩ : ByteArray), (⟨#[116, 104, 114, 101, 101]⟩ : ByteArray)]) (by decide)
  obtain ⟨t6, c6, e6, m6, h6⟩ := pick_cur N hl h5 (xs := [(⟨#[]⟩ : ByteArray), (⟨#[49]⟩ : ByteArray), (⟨#[50]⟩ : ByteArray), (⟨#[116, 104, 114, 101, 101]⟩ : ByteArray)]) (by decide)
  have s5 := small_text (by decide) m5
  have s6 := small_text (by decide) m6
  by_cases k3 : 1 + r1 = 3
  · rw [if_pos (by simpa using k3), e5, Option.bind_some]
    exact ⟨_, _, rfl, ⟨by simp only; omega, by simp only; omega, s4, s5, hz⟩, h5⟩
  rw [if_neg (by simpa using k3)]
  by_cases k5 : 1 + r1 = 5
  · rw [if_pos (by simpa using k5), e5, Option.bind_some, e6, Option.bind_some]
    exact ⟨_, _, rfl, ⟨by simp only; omega, by simp only; omega, s4, s5, s6⟩, h6⟩
  · rw [if_neg (by simpa using k5)]
    exact ⟨_, _, rfl, ⟨by simp only; omega, by simp only; omega, s4, hz, hz⟩, h4⟩
theorem lright_cur (N : Nat) (hN : Big N) {b : List Int} (hl : b.length ≤ 1099511627776) {c : Tl01Cur} (h : CurOk b c) (T : Int) (hT : 0 ≤ T ∧ T ≤ 1000) : ∃ e c', spec_l11Right N c T = some (e, c') ∧ e.Term = T ∧ entOk e = true ∧ CurOk b c' := by
  have hT2 : 0 ≤ T ∧ T ≤ 100000 := by omega
  obtain ⟨k, c1, e1, m1, h1⟩ := pickInt_cur N hl h (xs := [1, 2, 3, 3, 3]) (by decide)
  have mk : k = 1 ∨ k = 2 ∨ k = 3 := by
    simp only [List.mem_cons, List.not_mem_nil, or_false] at m1
    omega
  unfold spec_l11Right
  rw [e1, Option.bind_some]
  simp only [joinP]
  by_cases k2 : k = 2
  · rw [if_pos (by simpa using k2)]
    obtain ⟨cf, c2, e2, hc, h2⟩ := conf_cur N hN hl h1
    rw [e2, Option.bind_some, confText_eq N hN hc, Option.bind_some]
    refine ⟨_, _, rfl, rfl, ?_, h2⟩
    unfold entOk
    simp only [k2]
    rw [ints_strOf (conf_in hc), hc]
    simp [hT2]
  rw [if_neg (by simpa using k2)]
  by_cases k3 : k = 3
  · rw [if_pos (by simpa using k3)]
    obtain ⟨x, c2, e2, hx, h2⟩ := l15Right_cur N hl h1
    obtain ⟨t, q, e3, h3⟩ := lcmdText_ok N hN x hx
    rw [e2, Option.bind_some, e3, Option.bind_some]
    refine ⟨_, _, rfl, rfl, ?_, h2⟩
    unfold entOk
    simp only [k3]
    have : t.size ≤ 120 := by omega
    simp [hT2, this]
  · rw [if_neg (by simpa using k3)]
    refine ⟨_, _, rfl, rfl, ?_, h1⟩
    have k1 : k = 1 := by omega
    unfold entOk
    simp only [k1]
    simp [hT2]
/-- The term of the last of some entries. -/
def lastT : Int → List Entry → Int
  | t, [] => t
  | _, e :: es => lastT e.Term es
theorem lastT_snoc : ∀ (es : List Entry) (t : Int) (e : Entry), lastT t (es ++ [e]) = e.Term
  | [], _, _ => rfl
  | x :: es, _, e => lastT_snoc es x.Term e
theorem termsOk_snoc : ∀ (es : List Entry) (t : Int) (e : Entry), termsOk t es = true → entOk e = true → lastT t es ≤ e.Term → termsOk t (es ++ [e]) = true
  | [], t, e, _, he, hl => by
    rw [List.nil_append, termsOk_cons, he, decide_eq_true (show t ≤ e.Term from hl)]
    rfl
  | x :: es, t, e, h, he, hl => by
    rw [termsOk_cons] at h
    simp only [Bool.and_eq_true] at h
    rw [List.cons_append, termsOk_cons, h.1, h.2.1, termsOk_snoc es x.Term e h.2.2 he hl]
    rfl
theorem lastT_ge : ∀ (es : List Entry) (t : Int), termsOk t es = true → t ≤ lastT t es
  | [], t, _ => Int.le_refl t
  | x :: es, t, h => by
    rw [termsOk_cons] at h
    simp only [Bool.and_eq_true, decide_eq_true_eq] at h
    exact Int.le_trans h.2.1 (lastT_ge es x.Term h.2.2)
theorem lastT_take : ∀ (es : List Entry) (t : Int) (k : Nat), termsOk t es = true → lastT t (es.take k) ≤ lastT t es
  | [], t, k, _ => by rw [List.take_nil]; exact Int.le_refl _
  | x :: es, t, 0, h => lastT_ge (x :: es) t h
  | x :: es, t, k + 1, h => by
    rw [termsOk_cons] at h
    simp only [Bool.and_eq_true, decide_eq_true_eq] at h
    exact lastT_take es x.Term k h.2.2
theorem termsOk_take : ∀ (es : List Entry) (t : Int) (k : Nat), termsOk t es = true → termsOk t (es.take k) = true
  | [], t, k, _ => by rw [List.take_nil]; rfl
  | x :: es, t, 0, h => rfl
  | x :: es, t, k + 1, h => by
    rw [termsOk_cons] at h
    simp only [Bool.and_eq_true] at h
    rw [List.take_succ_cons, termsOk_cons, h.1, h.2.1, termsOk_take es x.Term k h.2.2]
    rfl
theorem termsOk_drop : ∀ (es : List Entry) (t : Int) (k : Nat), termsOk t es = true → termsOk (lastT t (es.take k)) (es.drop k) = true
  | [], t, k, _ => by rw [List.drop_nil]; rfl
  | x :: es, t, 0, h => h
  | x :: es, t, k + 1, h => by
    rw [termsOk_cons] at h
    simp only [Bool.and_eq_true] at h
    exact termsOk_drop es x.Term k h.2.2
theorem lastT_get : ∀ (es : List Entry) (t : Int) (k : Nat) (h : k < es.length), lastT t (es.take (k + 1)) = es[k].Term
  | x :: es, t, 0, h => rfl
  | x :: es, t, k + 1, h => lastT_get es x.Term k (by simpa using h)
/-- A small right log: at most n entries, of terms up to T. -/
structure Sml (l : Log) (n : Nat) (T : Int) : Prop where
  s0 : 0 ≤ l.Start
  s1 : l.Start ≤ 4 * n
  t0 : 0 ≤ l.StartTerm
  len : l.Entries.length ≤ n
  ok : termsOk l.StartTerm l.Entries = true
  last : lastT l.StartTerm l.Entries ≤ T
theorem Sml.good {l : Log} {n : Nat} {T : Int} (h : Sml l n T) (hn : n ≤ 20) (hT : T ≤ 1000) : GoodL l l.Start.toNat l.StartTerm.toNat := by
  have := h.s0
  have := h.s1
  have := h.t0
  have := h.len
  have := h.last
  have := lastT_ge _ _ h.ok
  refine ⟨?_, by omega, by omega, by omega, by omega, by omega⟩
  unfold logOk
  simp only [Bool.and_eq_true, decide_eq_true_eq]
  exact ⟨⟨by omega, by omega⟩, ⟨by omega, by omega⟩, by omega, by omega, h.ok⟩
theorem l12Right_l1 (N : Nat) (hN : Big N) {b : List Int} (hl : b.length ≤ 1099511627776) (s st : Int) (hs : 0 ≤ s ∧ s ≤ 28) (hst : 0 ≤ st ∧ st ≤ 2) : ∀ (d m i : Nat) (c : Tl01Cur) (T : Int) (acc : List Entry), i + d = 8 → d ≤ m → CurOk b c → acc.length = i → i ≤ 7 → termsOk st acc = true → lastT st acc = T → T ≤ 2 + 2 * i →
    ∃ c' out, spec_l12Right_l1 N m T (i : Int) c.b c.i c.h acc = some (c'.b, c'.i, c'.h, out) ∧ CurOk b c' ∧ Sml ⟨s, st, out⟩ 7 16 := by
  intro d
  induction d with
  | zero => intro m i c T acc hd _ _ _ hi; omega
  | succ d ih =>
    intro m i c T acc hd hm hc ha hi ht hT hb
    obtain ⟨m, rfl⟩ : ∃ q, m = q + 1 := ⟨m - 1, by omega⟩
    obtain ⟨r, c1, e1, l1, u1, h1⟩ := below_cur N hl hc 8
    have u1' := u1 (by decide)
    have hge := lastT_ge _ _ ht
    rw [spec_l12Right_l1, show (Tl01Cur.mk c.b c.i c.h) = c from rfl, e1, Option.bind_some]
    by_cases hr : (i : Int) < r
    · rw [if_pos (by simpa using hr)]
      simp only [joinP]
      obtain ⟨q, c2, e2, h2⟩ := once_cur N hl h1 3
      simp only [e2, Option.bind_some]
      have fin : ∀ (T' : Int) (c3 : Tl01Cur), CurOk b c3 → T ≤ T' → T' ≤ T + 2 →
          ∃ c' out, ((spec_l11Right N (Tl01Cur.mk c3.b c3.i c3.h) T').bind fun y464 => (cat? acc ([y464.1] : List Entry)).bind fun x465 => spec_l12Right_l1 N m T' (w64 ((i : Int) + 1)) y464.2.b y464.2.i y464.2.h x465) = some (c'.b, c'.i, c'.h, out) ∧ CurOk b c' ∧ Sml ⟨s, st, out⟩ 7 16 := by
        intro T' c3 h3 hle hle2
        obtain ⟨e, c4, e4, eT, eo, h4⟩ := lright_cur N hN hl h3 T' (by omega)
        rw [show (Tl01Cur.mk c3.b c3.i c3.h) = c3 from rfl, e4, Option.bind_some, cat_e _ _ (by omega), Option.bind_some, w64_succ (by omega)]
        exact ih m (i + 1) c4 T' (acc ++ [e]) (by omega) (by omega) h4 (by simp; omega) (by omega) (termsOk_snoc _ _ _ ht eo (by omega)) (by rw [lastT_snoc, eT]) (by omega)
      cases q with
      | true =>
        rw [if_pos rfl]
        obtain ⟨r3, c3, e3, l3, u3, h3⟩ := below_cur N hl h2 2
        have u3' := u3 (by decide)
        rw [e3, Option.bind_some, w64_id (n := T + 1) (by omega) (by omega), w64_id (by omega) (by omega)]
        exact fin _ c3 h3 (by omega) (by omega)
      | false =>
        rw [if_neg (by decide)]
        exact fin T c2 h2 (Int.le_refl _) (by omega)
    · rw [if_neg (by simpa using hr)]
      exact ⟨c1, acc, rfl, h1, hs.1, by simp only; omega, hst.1, by simp only; omega, ht, by simp only; omega⟩
theorem l12Right_cur (N : Nat) (hN : Big N) {b : List Int} (hl : b.length ≤ 1099511627776) {c : Tl01Cur} (h : CurOk b c) : ∃ l c', spec_l12Right N c = some (l, c') ∧ Sml l 7 16 ∧ CurOk b c' := by
  obtain ⟨r1, c1, e1, l1, u1, h1⟩ := below_cur N hl h 3
  obtain ⟨r2, c2, e2, l2, u2, h2⟩ := below_cur N hl h1 4
  obtain ⟨r3, c3, e3, l3, u3, h3⟩ := below_cur N hl h2 3
  have u1' := u1 (by decide)
  have u2' := u2 (by decide)
  have u3' := u3 (by decide)
  have hp : 0 ≤ r1 * r2 ∧ r1 * r2 ≤ 6 := by
    have a1 : r1 = 0 ∨ r1 = 1 ∨ r1 = 2 := by omega
    rcases a1 with rfl | rfl | rfl <;> omega
  have hw : w64 (r1 * r2) = r1 * r2 := w64_id (by omega) (by omega)
  obtain ⟨c', out, e, hc, hs⟩ := l12Right_l1 N hN hl (r1 * r2) r3 (by omega) (by omega) 8 N 0 c3 r3 [] rfl (by unfold Big at hN; omega) h3 rfl (by omega) rfl rfl (by omega)
  unfold spec_l12Right
  simp only [e1, e2, e3, Option.bind_some, joinP]
  rw [show ((0 : Nat) : Int) = 0 from rfl] at e
  rw [e, Option.bind_some, hw]
  exact ⟨_, c', rfl, hs, hc⟩
theorem loglast_ok (N : Nat) {l : Log} {n : Nat} {T : Int} (h : Sml l n T) (hn : n ≤ 100) : ∃ i, spec_LogLast N l = some (i, lastT l.StartTerm l.Entries) := by
  have := h.len
  unfold spec_LogLast
  by_cases h0 : l.Entries = []
  · rw [h0, if_pos (by simp)]
    exact ⟨_, rfl⟩
  · have hp : 0 < l.Entries.length := List.length_pos_iff.2 h0
    have e : (l.Entries.length : Int) - 1 = ((l.Entries.length - 1 : Nat) : Int) := by omega
    have e2 := lastT_get l.Entries l.StartTerm (l.Entries.length - 1) (by omega)
    rw [show l.Entries.length - 1 + 1 = l.Entries.length by omega, List.take_length] at e2
    rw [if_neg (by simp; omega), w64_id (n := (l.Entries.length : Int) - 1) (by omega) (by omega), e, at_lt (by omega), Option.bind_some, e2]
    exact ⟨_, rfl⟩
theorem l12Next_l1 (N : Nat) (hN : Big N) {b : List Int} (hl : b.length ≤ 1099511627776) (x : Log) (hs : 0 ≤ x.Start ∧ x.Start ≤ 28) (hst : 0 ≤ x.StartTerm) : ∀ (d m i : Nat) (c : Tl01Cur) (T : Int) (acc : List Entry), i + d = 4 → d ≤ m → CurOk b c → acc.length ≤ 7 + i → i ≤ 3 → termsOk x.StartTerm acc = true → lastT x.StartTerm acc ≤ T → T ≤ 16 + i →
    ∃ c' out, spec_l12Next_i1_l1 N x m T (i : Int) c.b c.i c.h acc = some (c'.b, c'.i, c'.h, out) ∧ CurOk b c' ∧ Sml ⟨x.Start, x.StartTerm, out⟩ 10 19 := by
  intro d
  induction d with
  | zero => intro m i c T acc hd _ _ _ hi; omega
  | succ d ih =>
    intro m i c T acc hd hm hc ha hi ht hT hb
    obtain ⟨m, rfl⟩ : ∃ q, m = q + 1 := ⟨m - 1, by omega⟩
    obtain ⟨r, c1, e1, l1, u1, h1⟩ := below_cur N hl hc 4
    have u1' := u1 (by decide)
    have hge := lastT_ge _ _ ht
    rw [spec_l12Next_i1_l1, show (Tl01Cur.mk c.b c.i c.h) = c from rfl, e1, Option.bind_some]
    by_cases hr : (i : Int) < r
    · rw [if_pos (by simpa using hr)]
      obtain ⟨r2, c2, e2, l2, u2, h2⟩ := below_cur N hl h1 2
      have u2' := u2 (by decide)
      rw [e2, Option.bind_some]
      obtain ⟨e, c3, e3, eT, eo, h3⟩ := lright_cur N hN hl h2 (T + r2) (by omega)
      simp only
      rw [w64_id (n := T + r2) (by omega) (by omega), e3, Option.bind_some, cat_e _ _ (by omega), Option.bind_some]
      have htk := termsOk_snoc _ _ _ ht eo (by omega)
      have hls := lastT_snoc acc x.StartTerm e
      obtain ⟨j, ej⟩ := loglast_ok N (l := ⟨x.Start, x.StartTerm, acc ++ [e]⟩) (n := 20) (T := 100) ⟨hs.1, by simp only; omega, hst, by simp; omega, htk, by simp only; omega⟩ (by decide)
      rw [ej, Option.bind_some, w64_succ (by omega)]
      simp only
      rw [hls]
      exact ih m (i + 1) c3 e.Term (acc ++ [e]) (by omega) (by omega) h3 (by simp; omega) (by omega) htk (by omega) (by omega)
    · rw [if_neg (by simpa using hr)]
      exact ⟨c1, acc, rfl, h1, hs.1, by simp only; omega, hst, by simp only; omega, ht, by simp only; omega⟩
theorem logterm_at (N : Nat) {l : Log} {n : Nat} {T : Int} (h : Sml l n T) (hn : n ≤ 100) (k : Nat) (hk : k ≤ l.Entries.length) : spec_LogTerm N l (l.Start + k) = some (lastT l.StartTerm (l.Entries.take k)) := by
  have := h.len
  have := h.s0
  have := h.s1
  unfold spec_LogTerm spec_l12Last
  cases k with
  | zero =>
    rw [if_pos (by simp)]
    rfl
  | succ k =>
    rw [if_neg (by simp; omega), if_neg (by simp; omega), Option.bind_some, w64_id (n := l.Start + (l.Entries.length : Int)) (by omega) (by omega), if_neg (by simp; omega), w64_id (n := l.Start + ((k + 1 : Nat) : Int) - l.Start) (by omega) (by omega), w64_id (by omega) (by omega), show l.Start + ((k + 1 : Nat) : Int) - l.Start - 1 = (k : Int) by omega, at_lt (by omega), Option.bind_some, lastT_get _ _ _ (by omega)]
theorem logbehind_at (N : Nat) (hN : Big N) {l : Log} {n : Nat} {T : Int} (h : Sml l n T) (hn : n ≤ 20) (hT : T ≤ 1000) (k : Nat) (hk : k ≤ l.Entries.length) : spec_LogBehind N l (l.Start + k) (lastT l.StartTerm (l.Entries.take k)) = some ⟨l.Start + k, lastT l.StartTerm (l.Entries.take k), l.Entries.drop k⟩ := by
  have hg := h.good hn hT
  have := h.len
  have := h.s0
  have := h.s1
  unfold spec_LogBehind
  simp only [joinP]
  rw [logOk_spec N hN l hg.small, hg.ok, Option.bind_some, if_pos rfl]
  unfold spec_l12Last
  rw [Option.bind_some, w64_id (n := l.Start + (l.Entries.length : Int)) (by omega) (by omega), in_eq, Option.bind_some, if_pos (by simp; omega), logterm_at N h (by omega) k hk, Option.bind_some, if_pos (by simp), w64_id (by omega) (by omega), show l.Start + (k : Int) - l.Start = (k : Int) by omega]
  have hd : drop? l.Entries (k : Int) = some (l.Entries.drop k) := by
    unfold drop?
    rw [if_pos (by omega)]
    rfl
  rw [hd, Option.bind_some, cat_ok (by simp; omega), Option.bind_some]
  rfl
theorem l12Next_cur (N : Nat) (hN : Big N) {b : List Int} (hl : b.length ≤ 1099511627776) {c : Tl01Cur} (h : CurOk b c) {x : Log} (hx : Sml x 7 16) : ∃ l c', spec_l12Next_i1 N c x = some (l, c') ∧ Sml l 10 19 ∧ CurOk b c' := by
  have hlen := hx.len
  have hs0 := hx.s0
  have hs1 := hx.s1
  obtain ⟨i0, e0⟩ := loglast_ok N hx (by decide)
  unfold spec_l12Next_i1
  rw [e0, Option.bind_some]
  simp only [joinP]
  obtain ⟨q, c1, e1, h1⟩ := once_cur N hl h 2
  have fin : ∀ (k : Nat) (c2 : Tl01Cur), k ≤ x.Entries.length → CurOk b c2 → ∃ l c', ((take? x.Entries (k : Int)).bind fun x332 =>
 (cat? ([] : List Entry) (x.Entries.take (k : Int).toNat)).bind fun x333 =>
 (spec_l12Next_i1_l1 N x N (lastT x.StartTerm x.Entries) 0 c2.b c2.i c2.h x333).bind (fun v463 =>
 (spec_l01Once N (Tl01Cur.mk v463.1 v463.2.1 v463.2.2.1) 4).bind fun y512 =>
 (if y512.1 = true then
 (spec_l01Below N y512.2 (w64 (((v463.2.2.2.length : Nat) : Int) + 1))).bind fun y517 =>
 (spec_LogTerm N (Log.mk x.Start x.StartTerm v463.2.2.2) (w64 (x.Start + y517.1))).bind fun y520 =>
 (spec_LogBehind N (Log.mk x.Start x.StartTerm v463.2.2.2) (w64 (x.Start + y517.1)) y520).bind fun y521 =>
 some ((Log.mk y521.Start y521.StartTerm y521.Entries),(Tl01Cur.mk y517.2.b y517.2.i y517.2.h))
 else
 some ((Log.mk x.Start x.StartTerm v463.2.2.2),(Tl01Cur.mk y512.2.b y512.2.i y512.2.h))))) = some (l, c') ∧ Sml l 10 19 ∧ CurOk b c' := by
    intro k c2 hk h2
    have htk : take? x.Entries (k : Int) = some (x.Entries.take k) := take_e hk
    rw [htk, Option.bind_some, Int.toNat_natCast, cat_ok (by simp; omega), Option.bind_some, List.nil_append]
    obtain ⟨c3, out, e3, h3, hm⟩ := l12Next_l1 N hN hl x ⟨hs0, hs1⟩ hx.t0 4 N 0 c2 (lastT x.StartTerm x.Entries) (x.Entries.take k) rfl (by unfold Big at hN; omega) h2 (by rw [List.length_take]; omega) (by omega) (termsOk_take _ _ _ hx.ok) (lastT_take _ _ _ hx.ok) (by have := hx.last; omega)
    rw [show ((0 : Nat) : Int) = 0 from rfl] at e3
    rw [e3, Option.bind_some]
    simp only
    obtain ⟨q4, c4, e4, h4⟩ := once_cur N hl h3 4
    rw [show (Tl01Cur.mk c3.b c3.i c3.h) = c3 from rfl, e4, Option.bind_some]
    have hol := hm.len
    simp only at hol
    cases q4 with
    | true =>
      rw [if_pos rfl, w64_succ (by omega)]
      obtain ⟨r5, c5, e5, l5, u5, h5⟩ := below_cur N hl h4 ((out.length + 1 : Nat) : Int)
      have u5' := u5 (by omega)
      obtain ⟨j, rfl⟩ : ∃ j : Nat, r5 = (j : Int) := ⟨r5.toNat, by omega⟩
      have hj : j ≤ out.length := by omega
      have t1 := logterm_at N hm (by decide) j hj
      have t2 := logbehind_at N hN hm (by decide) (by decide) j hj
      simp only at t1 t2
      rw [e5, Option.bind_some]
      simp only
      rw [w64_id (n := x.Start + (j : Int)) (by omega) (by omega), t1, Option.bind_some, t2, Option.bind_some]
      have hlt := lastT_take out x.StartTerm j hm.ok
      have hld : lastT (lastT x.StartTerm (out.take j)) (out.drop j) ≤ 19 := by
        have e : lastT (lastT x.StartTerm (out.take j)) (out.drop j) = lastT x.StartTerm out := by
          have : ∀ (a b : List Entry) (t : Int), lastT (lastT t a) b = lastT t (a ++ b) := by
            intro a
            induction a with
            | nil => intro b t; rfl
            | cons y a ih => intro b t; exact ih b y.Term
          rw [this, List.take_append_drop]
        rw [e]
        exact hm.last
      have hge := lastT_ge _ _ (termsOk_take _ _ j hm.ok)
      exact ⟨_, c5, rfl, ⟨by simp only; omega, by simp only; omega, by have := hx.t0; simp only at hge ⊢; omega, by simp only [List.length_drop]; omega, termsOk_drop _ _ _ hm.ok, hld⟩, h5⟩
    | false =>
      rw [if_neg (by simp)]
      exact ⟨_, c4, rfl, hm, h4⟩
  rw [e1, Option.bind_some]
  cases q with
  | true =>
    rw [if_pos rfl, w64_succ (by omega)]
    obtain ⟨r2, c2, e2, l2, u2, h2⟩ := below_cur N hl h1 ((x.Entries.length + 1 : Nat) : Int)
    have u2' := u2 (by omega)
    obtain ⟨j, rfl⟩ : ∃ j : Nat, r2 = (j : Int) := ⟨r2.toNat, by omega⟩
    rw [e2, Option.bind_some]
    exact fin j c2 (by omega) h2
  | false =>
    rw [if_neg (by simp)]
    exact fin x.Entries.length c1 (Nat.le_refl _) h1
theorem entAt_total (N : Nat) (hN : Big N) {l : Log} {n : Nat} {T : Int} (h : Sml l n T) (hn : n ≤ 20) (hT : T ≤ 1000) (i : Int) (hi : 0 ≤ i ∧ i ≤ 1000000) : ∃ e q, spec_EntryAt N l i = some (e, q) := by
  have hg := h.good hn hT
  have := h.len
  have := h.s0
  have := h.s1
  unfold spec_EntryAt spec_l12Last
  rw [logOk_spec N hN l hg.small, hg.ok, Option.bind_some, if_neg (by simp)]
  split
  · exact ⟨_, _, rfl⟩
  · rename_i h1
    rw [Option.bind_some, w64_id (n := l.Start + (l.Entries.length : Int)) (by omega) (by omega)]
    split
    · exact ⟨_, _, rfl⟩
    · rename_i h2
      simp only [decide_eq_true_eq] at h1 h2
      obtain ⟨k, hk⟩ : ∃ k : Nat, i - l.Start - 1 = (k : Int) := ⟨(i - l.Start - 1).toNat, by omega⟩
      rw [w64_id (n := i - l.Start) (by omega) (by omega), w64_id (by omega) (by omega), hk, at_lt (by omega), Option.bind_some]
      exact ⟨_, _, rfl⟩
theorem entAt_at (N : Nat) (hN : Big N) {l : Log} {n : Nat} {T : Int} (h : Sml l n T) (hn : n ≤ 20) (hT : T ≤ 1000) (k : Nat) (hk : k < l.Entries.length) : spec_EntryAt N l (l.Start + 1 + k) = some (l.Entries[k], true) := by
  have hg := h.good hn hT
  have := h.len
  have := h.s0
  have := h.s1
  unfold spec_EntryAt spec_l12Last
  rw [logOk_spec N hN l hg.small, hg.ok, Option.bind_some, if_neg (by simp), if_neg (by simp; omega), Option.bind_some, w64_id (n := l.Start + (l.Entries.length : Int)) (by omega) (by omega), if_neg (by simp; omega), w64_id (n := l.Start + 1 + (k : Int) - l.Start) (by omega) (by omega), w64_id (by omega) (by omega), show l.Start + 1 + (k : Int) - l.Start - 1 = (k : Int) by omega, at_lt hk, Option.bind_some]
/-- A log that is old's, or the beginning of now's. -/
def OneOf (x old now : Log) : Prop := (x.Start = old.Start ∧ x.Entries = old.Entries) ∨ (x.Start = now.Start ∧ ∃ j, x.Entries = now.Entries.take j)
theorem logs_l (N : Nat) (hN : Big N) (F : ByteArray) {old now x : Log} (q : Int) (ho : Sml old 7 16) (hn : Sml now 10 19) (hx : OneOf x old now) (hxl : x.Entries.length ≤ 20) (hxs : 0 ≤ x.Start ∧ x.Start ≤ 1000) : ∀ (d m k : Nat), x.Entries.length = k + d → d < m → laws_FnLogs_l1 N (F, old, now) (x, q, true) m (k : Int) = some (.inr ()) := by
  intro d
  induction d with
  | zero =>
    intro m k hk hm
    obtain ⟨m, rfl⟩ : ∃ q, m = q + 1 := ⟨m - 1, by omega⟩
    rw [laws_FnLogs_l1, if_neg (by simp; omega)]
  | succ d ih =>
    intro m k hk hm
    obtain ⟨m, rfl⟩ : ∃ q, m = q + 1 := ⟨m - 1, by omega⟩
    have hkx : k < x.Entries.length := by omega
    obtain ⟨e1, q1, h1⟩ := entAt_total N hN ho (by decide) (by decide) (x.Start + 1 + k) (by omega)
    obtain ⟨e2, q2, h2⟩ := entAt_total N hN hn (by decide) (by decide) (x.Start + 1 + k) (by omega)
    have hm' := ih m (k + 1) (by omega) (by omega)
    have ee : ∀ x y : Entry, (((x.Term == y.Term) && ((x.Kind == y.Kind) && (decide (x.Data = y.Data) && true))) ^^ false) = eqe x y := fun x y => by rw [Bool.xor_false]; rfl
    rw [laws_FnLogs_l1, if_pos (by simp; omega)]
    simp only [joinP]
    rw [w64_id (n := x.Start + 1) (by omega) (by omega), w64_id (by omega) (by omega), h1, Option.bind_some, h2, Option.bind_some, at_lt hkx]
    simp only [Option.bind_some, ee]
    rw [w64_succ (by omega), hm']
    rcases hx with ⟨hs, he⟩ | ⟨hs, j, he⟩
    · have hko : k < old.Entries.length := by rw [← he]; exact hkx
      have h3 := entAt_at N hN ho (by decide) (by decide) k hko
      rw [← hs, h1] at h3
      simp only [Option.some.injEq, Prod.mk.injEq] at h3
      have hxe : x.Entries[k] = old.Entries[k] := by simp only [he]
      rw [h3.1, h3.2, hxe, eqe_self]
      rfl
    · have hkn : k < now.Entries.length := by rw [he, List.length_take] at hkx; omega
      have h3 := entAt_at N hN hn (by decide) (by decide) k hkn
      rw [← hs, h2] at h3
      simp only [Option.some.injEq, Prod.mk.injEq] at h3
      have hxe : x.Entries[k] = now.Entries[k] := by simp only [he, List.getElem_take]
      rw [h3.1, h3.2, hxe, eqe_self]
      cases q1 <;> cases eqe e1 now.Entries[k] <;> rfl
theorem holds (x0 : (List Int)) (w0 : x0.length ≤ maxLen ∧ ∀ y ∈ x0, WI .u8 y) : ∃ N, laws_FnLogs N x0 = some true := by
  obtain ⟨K, hN⟩ : ∃ K, Big (K + 100) := ⟨1099511627777, by decide⟩
  refine ⟨K + 100, ?_⟩
  unfold laws_FnLogs laws_big
  rw [Option.bind_some]
  by_cases hb : (x0.length : Int) > 1048576
  · rw [if_pos (by simpa using hb)]
  rw [if_neg (by simpa using hb)]
  obtain ⟨h, e0⟩ := new_ok (K + 100) hN x0 (by omega)
  have hl : x0.length ≤ 1099511627776 := by omega
  obtain ⟨old, c1, e1, ho, h1⟩ := l12Right_cur (K + 100) hN hl (c := ⟨x0, 0, h⟩) ⟨rfl, Int.le_refl _⟩
  obtain ⟨now, c2, e2, hn, h2⟩ := l12Next_cur (K + 100) hN hl h1 ho
  have go := ho.good (by decide) (by decide)
  have gn := hn.good (by decide) (by decide)
  unfold spec_DrawRightLogs
  rw [e0, Option.bind_some, e1, Option.bind_some, logfile_spec (K + 100) hN go, Option.bind_some, e2, Option.bind_some, Option.bind_some]
  simp only
  have hlo := go.len
  have hln := gn.len
  rw [logfile_impl (K + 100) hN go, Option.bind_some]
  simp only
  rw [(read_own (K + 100) hN go).1, Option.bind_some, if_neg (by simp), if_neg (by simp), if_neg (by simp), if_neg (by simp), (same_both (K + 100) hN old old (by omega) (by omega)).2, sameL_iff.2 rfl, Option.bind_some, if_neg (by simp), logsteps_impl (K + 100) hN go gn, Option.bind_some]
  obtain ⟨l2, e3⟩ := logsteps_spec (K + 100) hN go gn
  rw [e3, Option.bind_some, if_neg (by simp), if_neg (by simp)]
  simp only
  obtain ⟨D, G, q, p1, p2, p3⟩ := put_logs K hN go gn
  rw [p1, Option.bind_some]
  simp only
  rw [p2, Option.bind_some, p3, Option.bind_some, if_neg (by simp), if_neg (by simp), (same_both (K + 100) hN now now (by omega) (by omega)).2, sameL_iff.2 rfl, Option.bind_some, if_neg (by simp)]
  obtain ⟨ps, e4, hp, hy⟩ := places_ok (K + 100) hN x0 (by omega)
  have a0 := at_lt (xs := ps) (k := 0) (by omega)
  have a1 := at_lt (xs := ps) (k := 1) (by omega)
  obtain ⟨u, hu⟩ : ∃ u : Nat, ps[0] = (u : Int) := ⟨ps[0].toNat, by have := hy ps[0] (List.getElem_mem _); omega⟩
  obtain ⟨v, hv⟩ : ∃ v : Nat, ps[1] = (v : Int) := ⟨ps[1].toNat, by have := hy ps[1] (List.getElem_mem _); omega⟩
  have hu2 := hy ps[0] (List.getElem_mem _)
  have hv2 := hy ps[1] (List.getElem_mem _)
  rw [show (0 : Int) = ((0 : Nat) : Int) from rfl, show (1 : Int) = ((1 : Nat) : Int) from rfl] at *
  rw [e4, Option.bind_some, a0, Option.bind_some, a1, Option.bind_some, hu, hv]
  obtain ⟨D2, G2, r1, r2, r3⟩ := cut_logs K hN go gn (a := u) (b := v) (by omega) (by omega)
  rw [r1, Option.bind_some]
  simp only
  rw [r2, Option.bind_some]
  simp only
  have key : ∃ x q, impl_ReadLog (K + 100) G2 = some (x, q, true) ∧ logOk x = true ∧ smallL x ∧ OneOf x old now ∧ x.Entries.length ≤ 20 ∧ 0 ≤ x.Start ∧ x.Start ≤ 1000 ∧ (x.Start = old.Start ∨ x.Start = now.Start) := by
    rcases r3 with r3 | r3 | ⟨es, et, q, r3⟩
    · rw [r3]
      exact ⟨_, _, (read_own (K + 100) hN go).1, go.ok, go.small, .inl ⟨rfl, rfl⟩, hlo, ho.s0, by have := ho.s1; omega, .inl rfl⟩
    · rw [r3]
      exact ⟨_, _, (read_own (K + 100) hN gn).1, gn.ok, gn.small, .inr ⟨rfl, now.Entries.length, by rw [List.take_length]⟩, hln, hn.s0, by have := hn.s1; omega, .inr rfl⟩
    · have hc := cpl_le old.Entries now.Entries
      have ht := cpl_take old.Entries now.Entries
      have hpre : ∀ j, old.Entries.take (cpl old.Entries now.Entries) ++ (now.Entries.drop (cpl old.Entries now.Entries)).take j = now.Entries.take (cpl old.Entries now.Entries + j) := by
        intro j
        rw [ht, List.take_add]
      have hlen : ∀ j, logOk ⟨((old.Start.toNat : Nat) : Int), ((old.StartTerm.toNat : Nat) : Int), now.Entries.take j⟩ = true := by
        intro j
        have s1 := gn.start
        have t1 := gn.term
        have hok := logOk_at gn.ok
        unfold logOk
        rw [es] at s1
        rw [et] at t1
        simp only [Bool.and_eq_true, decide_eq_true_eq]
        rw [← s1, ← t1]
        refine ⟨⟨hok.1, hok.2.1⟩, ⟨hok.2.2.1, hok.2.2.2.1⟩, ?_, ?_, termsOk_take _ _ _ hn.ok⟩
        · rw [List.length_take]; omega
        · rw [List.length_take]; omega
      obtain ⟨es', end', k1, k2, k3⟩ := read_cut (K + 100) hN go hc.1 (more := now.Entries.drop (cpl old.Entries now.Entries)) (fun e he => gn.all e (List.mem_of_mem_drop he)) (by rw [List.length_drop]; omega) (fun j => by rw [hpre]; exact hlen _) q r3
      have s1 := go.start
      have t1 := go.term
      have s2 := gn.start
      have hh : es' = old.Entries ∨ ∃ j, es' = now.Entries.take j := by
        rcases k3 with k3 | ⟨j, k3⟩
        · exact .inl k3
        · exact .inr ⟨_, k3.trans (hpre j)⟩
      have hel : es'.length ≤ 20 := by
        rcases hh with hh | ⟨j, hh⟩
        · rw [hh]; exact hlo
        · rw [hh, List.length_take]; omega
      refine ⟨_, _, k1, k2, ⟨by simp only; omega, fun e he => ?_⟩, ?_, hel, by simp only; omega, by have := go.s0; simp only; omega, .inl (by simp only; omega)⟩
      · have := terms_all _ _ (logOk_at k2).2.2.2.2.2.2 e he
        have := (ent_in this).2.2
        omega
      · rcases hh with hh | ⟨j, hh⟩
        · exact .inl ⟨by simp only; omega, hh⟩
        · exact .inr ⟨by simp only; omega, j, hh⟩
  obtain ⟨x, q2, x1, x2, x3, x4, x5, x6, x7, x8⟩ := key
  rw [x1, Option.bind_some, if_neg (by simp), if_neg (by simp), logOk_spec (K + 100) hN x x3, x2, Option.bind_some, if_neg (by simp)]
  simp only [joinP]
  rw [logs_l (K + 100) hN _ q2 ho hn x4 x5 ⟨x6, x7⟩ x.Entries.length (K + 100) 0 (by omega) (by unfold Big at hN; omega), Option.bind_some]
  simp only [Sum.elim_inr]
  rcases x8 with x8 | x8
  · rw [if_pos (by simpa using x8)]
  · split
    · rfl
    · rw [show (x.Start == now.Start) = true by simpa using x8]
end Go.Proofs.Ythlhkcnilehbbaa.Pe.FnLogs
