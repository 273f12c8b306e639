/- The law FnExactWhole, as a statement over lists and numbers alone. -/
import Derived.Test.YtebbgdjmplceiaaPeHFnExactWhole
namespace Go.Proofs.Ytebbgdjmplceiaa.Pe.FnExactWhole
open Go Go.RowKit
set_option linter.unusedVariables false
set_option linter.unusedSimpArgs false
set_option maxHeartbeats 4000000
theorem wi {n : Int} (h : WI .i64 n) : -9223372036854775808 ≤ n ∧ n ≤ 9223372036854775807 := by
  have := h
  simp only [WI, Lit.wf, beq_iff_eq, decide_eq_true_eq, Bool.and_eq_true] at this
  exact this
theorem in_eq (N : Nat) (x a b : Int) : spec_l01In N x a b = some (decide (a ≤ x ∧ x ≤ b)) := by
  unfold spec_l01In
  by_cases h : a ≤ x <;> simp [h]
theorem within_eq (N : Nat) (x a b : Int) : impl_within N x a b = some (decide (a ≤ x ∧ x ≤ b)) := by
  unfold impl_within
  by_cases h : a ≤ x <;> simp [h]
/-- Numbers that rise, each within two bounds. -/
def rise (lo hi : Int) : Option Int → List Int → Bool
  | _, [] => true
  | p, x :: xs => decide (lo ≤ x ∧ x ≤ hi) && ((match p with | some q => decide (q < x) | none => true) && rise lo hi (some x) xs)
theorem rise_cons (lo hi : Int) (p : Option Int) (x : Int) (xs : List Int) : rise lo hi p (x :: xs) = (decide (lo ≤ x ∧ x ≤ hi) && ((match p with | some q => decide (q < x) | none => true) && rise lo hi (some x) xs)) := by
  cases p <;> rfl
def confOk (c : List Int) : Bool := decide (c.length ≤ 4) && (decide (1 ≤ c.length) && rise 1 4 none c)
def prev (c : List Int) (k : Nat) : Option Int := if k = 0 then none else c[k - 1]?
theorem prev_succ {c : List Int} {k : Nat} (h : k < c.length) : prev c (k + 1) = some c[k] := by
  simp [prev, h]
theorem rise_drop {c : List Int} {k : Nat} {lo hi : Int} (h : k < c.length) : rise lo hi (prev c k) (c.drop k) = (decide (lo ≤ c[k] ∧ c[k] ≤ hi) && ((if k = 0 then true else decide (c[k - 1]'(by omega) < c[k])) && rise lo hi (prev c (k + 1)) (c.drop (k + 1)))) := by
  rw [List.drop_eq_getElem_cons h, rise_cons, prev_succ h]
  by_cases h0 : k = 0
  · simp [prev, h0]
  · simp only [prev, h0, if_false]
    rw [List.getElem?_eq_getElem (by omega)]
theorem at_pred {c : List Int} {k : Nat} (h : k < c.length) (h0 : k ≠ 0) (hc : c.length ≤ 1099511627776) : at? c (w64 ((k : Int) - 1)) = some (c[k - 1]'(by omega)) := by
  rw [w64_id (by omega) (by omega), show (k : Int) - 1 = ((k - 1 : Nat) : Int) by omega, at_lt]
theorem rise_r (N : Nat) (c : List Int) (lo hi : Int) (hc : c.length ≤ 1099511627776) : ∀ (d k : Nat), c.length = k + d → spec_l07Rise_l1_r N c lo hi (c.drop k) (k : Int) = some (if rise lo hi (prev c k) (c.drop k) then .inr () else .inl false)
  | 0, k, h => by rw [List.drop_eq_nil_of_le (by omega), spec_l07Rise_l1_r]; rfl
  | d + 1, k, h => by
    have hk : k < c.length := by omega
    rw [rise_drop hk, List.drop_eq_getElem_cons hk, spec_l07Rise_l1_r]
    simp only [joinP, Option.bind_some, in_eq, w64_succ (k := k) (by omega), rise_r N c lo hi hc d (k + 1) (by omega)]
    by_cases h1 : lo ≤ c[k] ∧ c[k] ≤ hi
    · by_cases h0 : k = 0
      · subst h0
        simp [h1]
      · rw [at_pred hk h0 hc]
        have : (0 : Int) < k := by omega
        by_cases h2 : c[k - 1] < c[k]
        · have h3 : ¬ c[k] ≤ c[k - 1] := by omega
          simp [h1, h0, h2, h3]
        · have h3 : c[k] ≤ c[k - 1] := by omega
          simp [h1, h0, h2, h3]
    · simp [h1]
theorem rise_eq (N : Nat) (hN : Big N) (c : List Int) (lo hi : Int) (hc : c.length ≤ 1099511627776) : spec_l07Rise N c lo hi = some (rise lo hi none c) := by
  unfold spec_l07Rise
  simp only [joinP]
  rw [spec_l07Rise_l1_eq c lo hi (by omega) (by omega), show (0 : Int) = ((0 : Nat) : Int) from rfl]
  have := rise_r N c lo hi hc c.length 0 (by omega)
  rw [List.drop_zero] at this
  rw [this]
  simp only [prev, if_true]
  cases rise lo hi none c <;> rfl
theorem confOk_spec (N : Nat) (hN : Big N) (c : List Int) (hc : c.length ≤ 1099511627776) : spec_ConfOk N c = some (confOk c) := by
  unfold spec_ConfOk confOk
  simp only [in_eq, Option.bind_some, rise_eq N hN c 1 4 hc]
  by_cases h1 : c.length ≤ 4
  · by_cases h2 : 1 ≤ c.length
    · have h3 : (1 : Int) ≤ c.length ∧ (c.length : Int) ≤ 4 := by omega
      simp [h1, h2, h3]
    · have h3 : ¬ ((1 : Int) ≤ c.length ∧ (c.length : Int) ≤ 4) := by omega
      simp only [h3, if_false, h2, decide_false, Bool.false_and, Bool.and_false, Bool.false_eq_true]
  · have h3 : ¬ ((1 : Int) ≤ c.length ∧ (c.length : Int) ≤ 4) := by omega
    simp only [h3, if_false, h1, decide_false, Bool.false_and, Bool.and_false, Bool.false_eq_true]
theorem conf_r (N : Nat) (c : List Int) (hc : c.length ≤ 1099511627776) : ∀ (d k : Nat), c.length = k + d → impl_ConfOk_l1_r N c (c.drop k) (k : Int) = some (if rise 1 4 (prev c k) (c.drop k) then .inr () else .inl false)
  | 0, k, h => by rw [List.drop_eq_nil_of_le (by omega), impl_ConfOk_l1_r]; rfl
  | d + 1, k, h => by
    have hk : k < c.length := by omega
    rw [rise_drop hk, List.drop_eq_getElem_cons hk, impl_ConfOk_l1_r]
    simp only [joinP, Option.bind_some, within_eq, w64_succ (k := k) (by omega), conf_r N c hc d (k + 1) (by omega)]
    by_cases h1 : (1 : Int) ≤ c[k] ∧ c[k] ≤ 4
    · by_cases h0 : k = 0
      · subst h0
        simp [h1]
      · rw [at_pred hk h0 hc]
        have : (0 : Int) < k := by omega
        by_cases h2 : c[k - 1] < c[k]
        · have h3 : ¬ c[k] ≤ c[k - 1] := by omega
          simp [h1, h0, h2, h3]
        · have h3 : c[k] ≤ c[k - 1] := by omega
          simp [h1, h0, h2, h3]
    · simp [h1]
theorem confOk_impl (N : Nat) (hN : Big N) (c : List Int) (hc : c.length ≤ 1099511627776) : impl_ConfOk N c = some (confOk c) := by
  unfold impl_ConfOk confOk
  simp only [joinP]
  rw [impl_ConfOk_l1_eq c (by omega) (by omega), show (0 : Int) = ((0 : Nat) : Int) from rfl]
  have := conf_r N c hc c.length 0 (by omega)
  rw [List.drop_zero] at this
  rw [this]
  simp only [prev, if_true, within_eq]
  cases rise 1 4 none c with
  | false => simp
  | true =>
    simp only [if_true, Option.bind_some, Sum.elim_inr, Bool.and_true, Option.some.injEq]
    rw [← Bool.decide_and]
    simp only [decide_eq_decide]
    omega
theorem confOk_len {c : List Int} (h : confOk c = true) : 1 ≤ c.length ∧ c.length ≤ 4 := by
  unfold confOk at h
  simp only [Bool.and_eq_true, decide_eq_true_eq] at h
  exact ⟨h.2.1, h.1⟩
/-- A text's bytes, as numbers. -/
def ints (t : ByteArray) : List Int := t.data.toList.map fun b => (b.toNat : Int)
theorem ints_len (t : ByteArray) : (ints t).length = t.size := by
  unfold ints
  rw [List.length_map, Array.length_toList]
  rfl
theorem sat_lt {t : ByteArray} {k : Nat} (h : k < t.size) : sat? t (k : Int) = some ((ints t)[k]'(by rw [ints_len]; exact h)) := by
  unfold sat?
  rw [if_pos (by omega), Int.toNat_natCast, getElem?_pos t k h]
  simp only [ints, List.getElem_map, Option.map_some]
  rfl
theorem ints_w {t : ByteArray} {k : Nat} (h : k < (ints t).length) : w64 ((ints t)[k]) = (ints t)[k] := by
  have : (ints t)[k] = ((t.data.toList[k]'(by rw [ints_len] at h; rw [Array.length_toList]; exact h)).toNat : Int) := by simp only [ints, List.getElem_map]
  rw [this]
  have h2 := UInt8.toNat_lt (t.data.toList[k]'(by rw [ints_len] at h; rw [Array.length_toList]; exact h))
  exact w64_id (by omega) (by omega)
theorem take_one {α : Type} {xs : List α} {k : Nat} (h : k < xs.length) : xs.take k ++ [xs[k]] = xs.take (k + 1) := by
  rw [List.take_add_one, List.getElem?_eq_getElem h]
  rfl
/-- What a text tells as a conf. -/
def readConf (t : ByteArray) : List Int × Bool := if confOk (ints t) = true then (ints t, true) else ([], false)
theorem readConf_r (N : Nat) (t : ByteArray) (ht : t.size ≤ 1099511627) : ∀ (d k m : Nat), t.size = k + d → d < m → impl_ReadConf_l1 N t m (k : Int) ((ints t).take k) = some (ints t)
  | 0, k, m, h, hm => by
    obtain ⟨m, rfl⟩ : ∃ q, m = q + 1 := ⟨m - 1, by omega⟩
    rw [impl_ReadConf_l1, if_neg (by simp; omega), List.take_of_length_le (by rw [ints_len]; omega)]
  | d + 1, k, m, h, hm => by
    obtain ⟨m, rfl⟩ : ∃ q, m = q + 1 := ⟨m - 1, by omega⟩
    have hk : k < (ints t).length := by rw [ints_len]; omega
    rw [impl_ReadConf_l1, if_pos (by simp; omega), sat_lt (by omega)]
    simp only [Option.bind_some, ints_w hk, w64_succ (k := k) (by omega)]
    rw [cat_ok (by rw [List.length_take]; simp only [List.length_cons, List.length_nil]; omega), Option.bind_some, take_one hk]
    exact readConf_r N t ht d (k + 1) m (by omega) (by omega)
theorem readConf_impl (N : Nat) (hN : Big N) (t : ByteArray) (ht : t.size ≤ 1099511627) : impl_ReadConf N t = some (readConf t) := by
  unfold impl_ReadConf readConf
  simp only [joinP]
  have := readConf_r N t ht t.size 0 N (by omega) (by omega)
  rw [show (0 : Int) = ((0 : Nat) : Int) from rfl, show ([] : List Int) = (ints t).take 0 from rfl, this]
  simp only [Option.bind_some, confOk_impl N hN (ints t) (by rw [ints_len]; omega)]
  cases confOk (ints t) <;> rfl
theorem readConf_s (N : Nat) (t : ByteArray) (ht : t.size ≤ 1099511627) : ∀ (d k m : Nat), t.size = k + d → d < m → k ≤ 5 → spec_ReadConf_l1 N t m (k : Int) ((ints t).take k) = some ((ints t).take 5)
  | 0, k, m, h, hm, h5 => by
    obtain ⟨m, rfl⟩ : ∃ q, m = q + 1 := ⟨m - 1, by omega⟩
    rw [spec_ReadConf_l1, if_neg (by simp; omega), List.take_of_length_le (by rw [ints_len]; omega), List.take_of_length_le (by rw [ints_len]; omega)]
  | d + 1, k, m, h, hm, h5 => by
    obtain ⟨m, rfl⟩ : ∃ q, m = q + 1 := ⟨m - 1, by omega⟩
    have hk : k < (ints t).length := by rw [ints_len]; omega
    by_cases h4 : k = 5
    · subst h4
      rw [spec_ReadConf_l1, if_pos (by simp; omega), if_neg (by simp)]
    rw [spec_ReadConf_l1, if_pos (by simp; omega), if_pos (by simp; omega), sat_lt (by omega)]
    simp only [Option.bind_some, ints_w hk, w64_succ (k := k) (by omega)]
    rw [cat_ok (by rw [List.length_take]; simp only [List.length_cons, List.length_nil]; omega), Option.bind_some, take_one hk]
    exact readConf_s N t ht d (k + 1) m (by omega) (by omega) (by omega)
theorem readConf_spec (N : Nat) (hN : Big N) (t : ByteArray) (ht : t.size ≤ 1099511627) : spec_ReadConf N t = some (readConf t) := by
  unfold spec_ReadConf readConf
  simp only [joinP]
  have := readConf_s N t ht t.size 0 N (by omega) (by omega) (by omega)
  rw [show (0 : Int) = ((0 : Nat) : Int) from rfl, show ([] : List Int) = (ints t).take 0 from rfl, this]
  simp only [Option.bind_some, confOk_spec N hN ((ints t).take 5) (by rw [List.length_take]; omega)]
  by_cases h5 : t.size ≤ 5
  · rw [List.take_of_length_le (by rw [ints_len]; exact h5), if_neg (by simp [ints_len])]
    cases confOk (ints t) <;> rfl
  · have hf : confOk (ints t) = false := by
      cases hc : confOk (ints t) with
      | false => rfl
      | true => have := confOk_len hc; rw [ints_len] at this; omega
    rw [if_pos (by rw [List.length_take, ints_len]; simp; omega), hf]
    rfl
def entOk (e : Entry) : Bool := decide (0 ≤ e.Term ∧ e.Term ≤ 100000) && (if e.Kind = 1 then decide (e.Data = (⟨#[]⟩ : ByteArray)) else if e.Kind = 2 then confOk (ints e.Data) else if e.Kind = 3 then decide (e.Data.size ≤ 120) else false)
theorem readConf_ok (t : ByteArray) : (readConf t).2 = confOk (ints t) := by
  unfold readConf
  cases confOk (ints t) <;> rfl
theorem entOk_spec (N : Nat) (hN : Big N) (e : Entry) (h : e.Data.size ≤ 1099511627) : spec_EntryOk N e = some (entOk e) := by
  unfold spec_EntryOk entOk
  simp only [in_eq, Option.bind_some, readConf_spec N hN e.Data h, readConf_ok]
  by_cases h0 : 0 ≤ e.Term ∧ e.Term ≤ 100000
  · by_cases h1 : e.Kind = 1
    · simp [h0, h1]
    · by_cases h2 : e.Kind = 2
      · simp [h0, h2]
      · by_cases h3 : e.Kind = 3
        · simp [h0, h3]
          omega
        · simp [h1, h2, h3]
  · simp [h0]
theorem entOk_impl (N : Nat) (hN : Big N) (e : Entry) (h : e.Data.size ≤ 1099511627) : impl_EntryOk N e = some (entOk e) := by
  rw [← entOk_spec N hN e h]
  unfold spec_EntryOk impl_EntryOk
  simp only [in_eq, within_eq, readConf_spec N hN e.Data h, readConf_impl N hN e.Data h]
def termsOk : Int → List Entry → Bool
  | _, [] => true
  | t, e :: es => entOk e && (decide (t ≤ e.Term) && termsOk e.Term es)
theorem termsOk_cons (t : Int) (e : Entry) (es : List Entry) : termsOk t (e :: es) = (entOk e && (decide (t ≤ e.Term) && termsOk e.Term es)) := rfl
def logOk (l : Log) : Bool := decide (0 ≤ l.Start ∧ l.Start ≤ 100000) && (decide (0 ≤ l.StartTerm ∧ l.StartTerm ≤ 100000) && (decide (l.Entries.length ≤ 120) && (decide (l.Start + l.Entries.length ≤ 100000) && termsOk l.StartTerm l.Entries)))
theorem logOk_s (N : Nat) (hN : Big N) (c : Log) : ∀ (es : List Entry) (t : Int) (k : Nat), k + es.length ≤ 1099511627 → (∀ e ∈ es, e.Data.size ≤ 1099511627) → spec_LogOk_l1_r N c es t (k : Int) = some (if termsOk t es then .inr () else .inl false)
  | [], t, k, hk, h => rfl
  | e :: es, t, k, hk, h => by
    simp only [List.length_cons] at hk
    rw [spec_LogOk_l1_r, termsOk_cons]
    simp only [Option.bind_some, entOk_spec N hN e (h e (by simp)), w64_succ (k := k) (by omega), logOk_s N hN c es e.Term (k + 1) (by omega) (fun z hz => h z (by simp [hz]))]
    cases entOk e with
    | false => simp
    | true =>
      by_cases ht : e.Term < t
      · have : ¬ t ≤ e.Term := by omega
        simp [ht, this]
      · have : t ≤ e.Term := by omega
        simp [ht, this]
theorem logOk_i (N : Nat) (hN : Big N) (c : Log) : ∀ (es : List Entry) (t : Int) (k : Nat), k + es.length ≤ 1099511627 → (∀ e ∈ es, e.Data.size ≤ 1099511627) → impl_LogOk_l1_r N c es t (k : Int) = some (if termsOk t es then .inr () else .inl false)
  | [], t, k, hk, h => rfl
  | e :: es, t, k, hk, h => by
    simp only [List.length_cons] at hk
    rw [impl_LogOk_l1_r, termsOk_cons]
    simp only [Option.bind_some, entOk_impl N hN e (h e (by simp)), w64_succ (k := k) (by omega), logOk_i N hN c es e.Term (k + 1) (by omega) (fun z hz => h z (by simp [hz]))]
    cases entOk e with
    | false => simp
    | true =>
      by_cases ht : e.Term < t
      · have : ¬ t ≤ e.Term := by omega
        simp [ht, this]
      · have : t ≤ e.Term := by omega
        simp [ht, this]
theorem data_le {l : Log} (h : totLog l ≤ 1099511627) : l.Entries.length ≤ 1099511627 ∧ ∀ e ∈ l.Entries, e.Data.size ≤ 1099511627 := by
  simp only [totLog, totL] at h
  refine ⟨by omega, fun e he => ?_⟩
  have := le_sum (f := totEntry) he
  simp only [totEntry] at this
  omega
theorem logOk_spec (N : Nat) (hN : Big N) (l : Log) (h : totLog l ≤ 1099511627) : spec_LogOk N l = some (logOk l) := by
  obtain ⟨hl, hd⟩ := data_le h
  unfold spec_LogOk logOk
  simp only [in_eq, Option.bind_some, joinP]
  rw [spec_LogOk_l1_eq l (by omega) (by omega), show (0 : Int) = ((0 : Nat) : Int) from rfl, logOk_s N hN l l.Entries l.StartTerm 0 (by omega) hd]
  by_cases h1 : 0 ≤ l.Start ∧ l.Start ≤ 100000
  · by_cases h2 : 0 ≤ l.StartTerm ∧ l.StartTerm ≤ 100000
    · by_cases h3 : l.Entries.length ≤ 120
      · rw [w64_id (by omega) (by omega)]
        have h3' : ¬ (l.Entries.length : Int) > 120 := by omega
        by_cases h4 : l.Start + l.Entries.length ≤ 100000
        · have h4' : ¬ l.Start + l.Entries.length > 100000 := by omega
          simp only [Int.natCast_zero, h1, h2, h3, h3', h4, h4', decide_true, Bool.not_true, Bool.false_eq_true, if_false, decide_false, Bool.true_and, and_self]
          cases termsOk l.StartTerm l.Entries <;> rfl
        · have h4' : l.Start + l.Entries.length > 100000 := by omega
          simp [h1, h2, h3', h4, h4']
      · have h3' : (l.Entries.length : Int) > 120 := by omega
        simp [h1, h2, h3, h3']
    · simp [h1, h2]
  · simp [h1]
theorem logOk_impl (N : Nat) (hN : Big N) (l : Log) (h : totLog l ≤ 1099511627) : impl_LogOk N l = some (logOk l) := by
  rw [← logOk_spec N hN l h]
  obtain ⟨hl, hd⟩ := data_le h
  unfold spec_LogOk impl_LogOk
  simp only [in_eq, within_eq, joinP]
  rw [spec_LogOk_l1_eq l (by omega) (by omega), impl_LogOk_l1_eq l (by omega) (by omega), show (0 : Int) = ((0 : Nat) : Int) from rfl, logOk_s N hN l l.Entries l.StartTerm 0 (by omega) hd, logOk_i N hN l l.Entries l.StartTerm 0 (by omega) hd]
theorem logOk_at {l : Log} (h : logOk l = true) : 0 ≤ l.Start ∧ l.Start ≤ 100000 ∧ 0 ≤ l.StartTerm ∧ l.StartTerm ≤ 100000 ∧ l.Entries.length ≤ 120 ∧ l.Start + l.Entries.length ≤ 100000 ∧ termsOk l.StartTerm l.Entries = true := by
  unfold logOk at h
  simp only [Bool.and_eq_true, decide_eq_true_eq] at h
  obtain ⟨⟨h1, h2⟩, ⟨h3, h4⟩, h5, h6, h7⟩ := h
  exact ⟨h1, h2, h3, h4, h5, h6, h7⟩
def entryAt (l : Log) (i : Int) : Entry × Bool := match logOk l && decide (l.Start < i ∧ i ≤ l.Start + l.Entries.length), l.Entries[(i - l.Start - 1).toNat]? with
  | true, some e => (e, true)
  | _, _ => (⟨0, 0, ⟨#[]⟩⟩, false)
theorem entryAt_spec (N : Nat) (hN : Big N) (l : Log) (i : Int) (h : totLog l ≤ 1099511627) (hi : WI .i64 i) : spec_EntryAt N l i = some (entryAt l i) := by
  unfold spec_EntryAt spec_l12Last entryAt
  simp only [logOk_spec N hN l h, Option.bind_some]
  cases ho : logOk l with
  | false => simp
  | true =>
    obtain ⟨a1, a2, a3, a4, a5, a6, a7⟩ := logOk_at ho
    have hw := wi hi
    rw [w64_id (by omega) (by omega)]
    by_cases h1 : i ≤ l.Start
    · have : ¬ (l.Start < i ∧ i ≤ l.Start + l.Entries.length) := by omega
      simp [h1, this]
    · by_cases h2 : i > l.Start + l.Entries.length
      · have : ¬ (l.Start < i ∧ i ≤ l.Start + l.Entries.length) := by omega
        simp [h1, h2, this]
      · have h3 : l.Start < i ∧ i ≤ l.Start + l.Entries.length := by omega
        have h4 : (i - l.Start - 1).toNat < l.Entries.length := by omega
        rw [w64_id (n := i - l.Start) (by omega) (by omega), w64_id (by omega) (by omega), show i - l.Start - 1 = (((i - l.Start - 1).toNat : Nat) : Int) by omega, at_lt h4]
        simp only [h1, h2, h3, decide_true, decide_false, Bool.not_true, Bool.false_eq_true, if_false, Option.bind_some, Bool.true_and, Int.toNat_natCast, List.getElem?_eq_getElem h4, and_self]
theorem entryAt_impl (N : Nat) (hN : Big N) (l : Log) (i : Int) (h : totLog l ≤ 1099511627) (hi : WI .i64 i) : impl_EntryAt N l i = some (entryAt l i) := by
  unfold impl_EntryAt impl_hasEntry entryAt
  simp only [logOk_impl N hN l h, within_eq, Option.bind_some]
  cases ho : logOk l with
  | false => simp
  | true =>
    obtain ⟨a1, a2, a3, a4, a5, a6, a7⟩ := logOk_at ho
    have hw := wi hi
    by_cases h1 : i ≤ l.Start
    · have h1' : ¬ i > l.Start := by omega
      have : ¬ (l.Start < i ∧ i ≤ l.Start + l.Entries.length) := by omega
      simp [h1', this]
    · have h1' : i > l.Start := by omega
      rw [w64_id (n := i - l.Start) (by omega) (by omega)]
      by_cases h2 : i > l.Start + l.Entries.length
      · have : ¬ (l.Start < i ∧ i ≤ l.Start + l.Entries.length) := by omega
        have h2' : ¬ (1 ≤ i - l.Start ∧ i - l.Start ≤ l.Entries.length) := by omega
        simp [h1', h2', show ¬ i ≤ l.Start + l.Entries.length by omega]
      · have h3 : l.Start < i ∧ i ≤ l.Start + l.Entries.length := by omega
        have h2' : 1 ≤ i - l.Start ∧ i - l.Start ≤ l.Entries.length := by omega
        have h4 : (i - l.Start - 1).toNat < l.Entries.length := by omega
        rw [w64_id (by omega) (by omega), show i - l.Start - 1 = (((i - l.Start - 1).toNat : Nat) : Int) by omega, at_lt h4]
        simp only [h1', h2', h3, decide_true, decide_false, Bool.not_true, Bool.false_eq_true, if_false, if_true, Option.bind_some, Bool.true_and, Int.toNat_natCast, List.getElem?_eq_getElem h4, and_self]
def sameE (a b : Entry) : Bool := ((a.Term == b.Term) && ((a.Kind == b.Kind) && (decide (a.Data = b.Data) && true))) ^^ true
/-- A leader that lacks what was applied. -/
def lacks (a : Applied) (x : Leader) : Bool := decide (x.Term > a.Term) && (decide (x.Log.Start < a.Index) && (!(entryAt x.Log a.Index).2 || sameE (entryAt x.Log a.Index).1 a.Entry))
theorem lacks_impl (N : Nat) (hN : Big N) (a : Applied) (x : Leader) (h : totLeader x ≤ 1099511627) (ha : WI .i64 a.Index) : impl_Whole_1 N x a = some (lacks a x) := by
  unfold impl_Whole_1 lacks sameE
  rw [entryAt_impl N hN x.Log a.Index (by simpa [totLeader] using h) ha]
  simp only [Option.bind_some]
  by_cases h1 : x.Term > a.Term
  · by_cases h2 : x.Log.Start < a.Index
    · cases (entryAt x.Log a.Index).2 <;> simp [h1, h2]
    · simp [h2]
  · simp [h1]
theorem whole_ir (N : Nat) (hN : Big N) (c : List Leader) (a : Applied) (ha : WI .i64 a.Index) : ∀ (tl : List Leader) (k : Nat), k + tl.length ≤ 1099511627 → (∀ x ∈ tl, totLeader x ≤ 1099511627) → ∃ q : Nat, slices_IndexFunc_Leader_l1_r N c a tl (k : Int) = some (if tl.any (lacks a) then .inl (q : Int) else .inr ())
  | [], k, hk, h => ⟨0, rfl⟩
  | x :: tl, k, hk, h => by
    simp only [List.length_cons] at hk
    rw [slices_IndexFunc_Leader_l1_r]
    simp only [Option.bind_some, lacks_impl N hN a x (h x (by simp)) ha, w64_succ (k := k) (by omega), List.any_cons]
    by_cases hl : lacks a x = true
    · exact ⟨k, by simp [hl]⟩
    · obtain ⟨q, hq⟩ := whole_ir N hN c a ha tl (k + 1) (by omega) (fun z hz => h z (by simp [hz]))
      have hl : lacks a x = false := by simpa using hl
      exact ⟨q, by simp only [hl, Bool.false_eq_true, if_false, hq, Bool.false_or]⟩
theorem whole_sr (N : Nat) (hN : Big N) (c : List Leader) (a : Applied) (ha : WI .i64 a.Index) : ∀ (tl : List Leader) (k : Nat), k + tl.length ≤ 1099511627 → (∀ x ∈ tl, totLeader x ≤ 1099511627) → spec_Whole_l1_r N c a tl (k : Int) = some (if tl.any (lacks a) then .inl false else .inr ())
  | [], k, hk, h => rfl
  | x :: tl, k, hk, h => by
    simp only [List.length_cons] at hk
    rw [spec_Whole_l1_r]
    have hx := h x (by simp)
    simp only [joinP, Option.bind_some, entryAt_spec N hN x.Log a.Index (by simpa [totLeader] using hx) ha, w64_succ (k := k) (by omega), whole_sr N hN c a ha tl (k + 1) (by omega) (fun z hz => h z (by simp [hz]))]
    rw [show (some (if (x :: tl).any (lacks a) = true then Sum.inl false else Sum.inr ()) : Option (Bool ⊕ Unit)) = (if lacks a x = true then some (Sum.inl false) else some (if tl.any (lacks a) = true then Sum.inl false else Sum.inr ())) from by by_cases h : lacks a x = true <;> simp [h]]
    generalize (some (if tl.any (lacks a) = true then Sum.inl false else Sum.inr ()) : Option (Bool ⊕ Unit)) = z
    unfold lacks sameE
    by_cases h1 : x.Term > a.Term
    · have h1' : ¬ x.Term ≤ a.Term := by omega
      by_cases h2 : x.Log.Start < a.Index
      · have h2' : ¬ x.Log.Start ≥ a.Index := by omega
        cases (entryAt x.Log a.Index).2 with
        | false => simp [h1, h1', h2, h2']
        | true => simp [h1, h1', h2, h2']
      · have h2' : x.Log.Start ≥ a.Index := by omega
        simp [h2, h2']
    · have h1' : x.Term ≤ a.Term := by omega
      simp [h1, h1']
theorem holds (x0 : (List Leader)) (x1 : Applied) (w0 : x0.length ≤ maxLen ∧ ∀ y ∈ x0, wfLeader y) (w1 : wfApplied x1) : ∃ N, laws_FnExactWhole N x0 x1 = some true := by
  obtain ⟨N, hN⟩ : ∃ N, Big N := ⟨1099511627777, by decide⟩
  refine ⟨N, ?_⟩
  unfold laws_FnExactWhole
  rw [sz_LeaderS N x0 1048576 (by decide) (by decide) w0 hN]
  simp only [Option.bind_some]
  by_cases h : (totL totLeader x0 : Int) ≤ 1048576
  · rw [if_pos h, if_neg (by simp; omega), sz_Applied N x1 _ (by omega) (by omega) w1 hN]
    simp only [Option.bind_some]
    by_cases h2 : (totApplied x1 : Int) ≤ 1048576 - totL totLeader x0
    · rw [if_pos h2, if_neg (by simp; omega), to_LeaderS N x0 (by omega) hN, to_Applied N x1 (by omega) hN]
      simp only [Option.bind_some]
      have hl : x0.length ≤ 1048576 := by simp only [totL] at h; omega
      have hx : ∀ x ∈ x0, totLeader x ≤ 1099511627 := fun x hx => by
        have := le_sum (f := totLeader) hx
        simp only [totL] at h
        omega
      have ha : WI .i64 x1.Index := w1.2.2.1
      have e1 : spec_Whole N x0 x1 = some (!x0.any (lacks x1)) := by
        unfold spec_Whole
        simp only [joinP]
        rw [spec_Whole_l1_eq x0 x1 (by omega) (by omega), show (0 : Int) = ((0 : Nat) : Int) from rfl, whole_sr N hN x0 x1 ha x0 0 (by omega) hx]
        cases x0.any (lacks x1) <;> rfl
      have e2 : impl_Whole N x0 x1 = some (!x0.any (lacks x1)) := by
        unfold impl_Whole slices_ContainsFunc_Leader slices_IndexFunc_Leader
        simp only [joinP]
        obtain ⟨q, hq⟩ := whole_ir N hN x0 x1 ha x0 0 (by omega) hx
        rw [slices_IndexFunc_Leader_l1_eq x0 x1 (by omega) (by omega), show (0 : Int) = ((0 : Nat) : Int) from rfl, hq]
        cases x0.any (lacks x1) with
        | false => simp
        | true => simp
      rw [e1, e2]
      simp only [Option.bind_some]
      rw [if_neg (by simp), eq_LeaderS N x0 (by omega) hN]
      rfl
    · rw [if_neg h2]
      rfl
  · rw [if_neg h]
    rfl
end Go.Proofs.Ytebbgdjmplceiaa.Pe.FnExactWhole
