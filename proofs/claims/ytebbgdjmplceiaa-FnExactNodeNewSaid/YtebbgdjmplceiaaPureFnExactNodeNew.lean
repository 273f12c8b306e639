/- The law FnExactNodeNew, as a statement over lists and numbers alone. -/
import Derived.Test.YtebbgdjmplceiaaPeHFnExactNodeNew
namespace Go.Proofs.Ytebbgdjmplceiaa.Pe.FnExactNodeNew
open Go Go.RowKit
set_option linter.unusedVariables false
set_option linter.unusedSimpArgs false
set_option maxHeartbeats 4000000
theorem wi {n : Int} (h : WI .i64 n) : -9223372036854775808 ≤ n ∧ n ≤ 9223372036854775807 := by
  have := h
  simp only [WI, Lit.wf, beq_iff_eq, decide_eq_true_eq, Bool.and_eq_true] at this
  exact this
theorem in_eq (N : Nat) (x a b : Int) : spec_l01In N x a b = some (decide (a ≤ x ∧ x ≤ b)) := by
  unfold spec_l01In
  by_cases h : a ≤ x <;> simp [h]
theorem within_eq (N : Nat) (x a b : Int) : impl_within N x a b = some (decide (a ≤ x ∧ x ≤ b)) := by
  unfold impl_within
  by_cases h : a ≤ x <;> simp [h]
/-- Numbers that rise, each within two bounds. -/
def rise (lo hi : Int) : Option Int → List Int → Bool
  | _, [] => true
  | p, x :: xs => decide (lo ≤ x ∧ x ≤ hi) && ((match p with | some q => decide (q < x) | none => true) && rise lo hi (some x) xs)
theorem rise_cons (lo hi : Int) (p : Option Int) (x : Int) (xs : List Int) : rise lo hi p (x :: xs) = (decide (lo ≤ x ∧ x ≤ hi) && ((match p with | some q => decide (q < x) | none => true) && rise lo hi (some x) xs)) := by
  cases p <;> rfl
def confOk (c : List Int) : Bool := decide (c.length ≤ 4) && (decide (1 ≤ c.length) && rise 1 4 none c)
def prev (c : List Int) (k : Nat) : Option Int := if k = 0 then none else c[k - 1]?
theorem prev_succ {c : List Int} {k : Nat} (h : k < c.length) : prev c (k + 1) = some c[k] := by
  simp [prev, h]
theorem rise_drop {c : List Int} {k : Nat} {lo hi : Int} (h : k < c.length) : rise lo hi (prev c k) (c.drop k) = (decide (lo ≤ c[k] ∧ c[k] ≤ hi) && ((if k = 0 then true else decide (c[k - 1]'(by omega) < c[k])) && rise lo hi (prev c (k + 1)) (c.drop (k + 1)))) := by
  rw [List.drop_eq_getElem_cons h, rise_cons, prev_succ h]
  by_cases h0 : k = 0
  · simp [prev, h0]
  · simp only [prev, h0, if_false]
    rw [List.getElem?_eq_getElem (by omega)]
theorem at_pred {c : List Int} {k : Nat} (h : k < c.length) (h0 : k ≠ 0) (hc : c.length ≤ 1099511627776) : at? c (w64 ((k : Int) - 1)) = some (c[k - 1]'(by omega)) := by
  rw [w64_id (by omega) (by omega), show (k : Int) - 1 = ((k - 1 : Nat) : Int) by omega, at_lt]
theorem rise_r (N : Nat) (c : List Int) (lo hi : Int) (hc : c.length ≤ 1099511627776) : ∀ (d k : Nat), c.length = k + d → spec_l07Rise_l1_r N c lo hi (c.drop k) (k : Int) = some (if rise lo hi (prev c k) (c.drop k) then .inr () else .inl false)
  | 0, k, h => by rw [List.drop_eq_nil_of_le (by omega), spec_l07Rise_l1_r]; rfl
  | d + 1, k, h => by
    have hk : k < c.length := by omega
    rw [rise_drop hk, List.drop_eq_getElem_cons hk, spec_l07Rise_l1_r]
    simp only [joinP, Option.bind_some, in_eq, w64_succ (k := k) (by omega), rise_r N c lo hi hc d (k + 1) (by omega)]
    by_cases h1 : lo ≤ c[k] ∧ c[k] ≤ hi
    · by_cases h0 : k = 0
      · subst h0
        simp [h1]
      · rw [at_pred hk h0 hc]
        have : (0 : Int) < k := by omega
        by_cases h2 : c[k - 1] < c[k]
        · have h3 : ¬ c[k] ≤ c[k - 1] := by omega
          simp [h1, h0, h2, h3]
        · have h3 : c[k] ≤ c[k - 1] := by omega
          simp [h1, h0, h2, h3]
    · simp [h1]
theorem rise_eq (N : Nat) (hN : Big N) (c : List Int) (lo hi : Int) (hc : c.length ≤ 1099511627776) : spec_l07Rise N c lo hi = some (rise lo hi none c) := by
  unfold spec_l07Rise
  simp only [joinP]
  rw [spec_l07Rise_l1_eq c lo hi (by omega) (by omega), show (0 : Int) = ((0 : Nat) : Int) from rfl]
  have := rise_r N c lo hi hc c.length 0 (by omega)
  rw [List.drop_zero] at this
  rw [this]
  simp only [prev, if_true]
  cases rise lo hi none c <;> rfl
theorem confOk_spec (N : Nat) (hN : Big N) (c : List Int) (hc : c.length ≤ 1099511627776) : spec_ConfOk N c = some (confOk c) := by
  unfold spec_ConfOk confOk
  simp only [in_eq, Option.bind_some, rise_eq N hN c 1 4 hc]
  by_cases h1 : c.length ≤ 4
  · by_cases h2 : 1 ≤ c.length
    · have h3 : (1 : Int) ≤ c.length ∧ (c.length : Int) ≤ 4 := by omega
      simp [h1, h2, h3]
    · have h3 : ¬ ((1 : Int) ≤ c.length ∧ (c.length : Int) ≤ 4) := by omega
      simp only [h3, if_false, h2, decide_false, Bool.false_and, Bool.and_false, Bool.false_eq_true]
  · have h3 : ¬ ((1 : Int) ≤ c.length ∧ (c.length : Int) ≤ 4) := by omega
    simp only [h3, if_false, h1, decide_false, Bool.false_and, Bool.and_false, Bool.false_eq_true]
theorem conf_r (N : Nat) (c : List Int) (hc : c.length ≤ 1099511627776) : ∀ (d k : Nat), c.length = k + d → impl_ConfOk_l1_r N c (c.drop k) (k : Int) = some (if rise 1 4 (prev c k) (c.drop k) then .inr () else .inl false)
  | 0, k, h => by rw [List.drop_eq_nil_of_le (by omega), impl_ConfOk_l1_r]; rfl
  | d + 1, k, h => by
    have hk : k < c.length := by omega
    rw [rise_drop hk, List.drop_eq_getElem_cons hk, impl_ConfOk_l1_r]
    simp only [joinP, Option.bind_some, within_eq, w64_succ (k := k) (by omega), conf_r N c hc d (k + 1) (by omega)]
    by_cases h1 : (1 : Int) ≤ c[k] ∧ c[k] ≤ 4
    · by_cases h0 : k = 0
      · subst h0
        simp [h1]
      · rw [at_pred hk h0 hc]
        have : (0 : Int) < k := by omega
        by_cases h2 : c[k - 1] < c[k]
        · have h3 : ¬ c[k] ≤ c[k - 1] := by omega
          simp [h1, h0, h2, h3]
        · have h3 : c[k] ≤ c[k - 1] := by omega
          simp [h1, h0, h2, h3]
    · simp [h1]
theorem confOk_impl (N : Nat) (hN : Big N) (c : List Int) (hc : c.length ≤ 1099511627776) : impl_ConfOk N c = some (confOk c) := by
  unfold impl_ConfOk confOk
  simp only [joinP]
  rw [impl_ConfOk_l1_eq c (by omega) (by omega), show (0 : Int) = ((0 : Nat) : Int) from rfl]
  have := conf_r N c hc c.length 0 (by omega)
  rw [List.drop_zero] at this
  rw [this]
  simp only [prev, if_true, within_eq]
  cases rise 1 4 none c with
  | false => simp
  | true =>
    simp only [if_true, Option.bind_some, Sum.elim_inr, Bool.and_true, Option.some.injEq]
    rw [← Bool.decide_and]
    simp only [decide_eq_decide]
    omega
theorem confOk_len {c : List Int} (h : confOk c = true) : 1 ≤ c.length ∧ c.length ≤ 4 := by
  unfold confOk at h
  simp only [Bool.and_eq_true, decide_eq_true_eq] at h
  exact ⟨h.2.1, h.1⟩
/-- A text's bytes, as numbers. -/
def ints (t : ByteArray) : List Int := t.data.toList.map fun b => (b.toNat : Int)
theorem ints_len (t : ByteArray) : (ints t).length = t.size := by
  unfold ints
  rw [List.length_map, Array.length_toList]
  rfl
theorem sat_lt {t : ByteArray} {k : Nat} (h : k < t.size) : sat? t (k : Int) = some ((ints t)[k]'(by rw [ints_len]; exact h)) := by
  unfold sat?
  rw [if_pos (by omega), Int.toNat_natCast, getElem?_pos t k h]
  simp only [ints, List.getElem_map, Option.map_some]
  rfl
theorem ints_w {t : ByteArray} {k : Nat} (h : k < (ints t).length) : w64 ((ints t)[k]) = (ints t)[k] := by
  have : (ints t)[k] = ((t.data.toList[k]'(by rw [ints_len] at h; rw [Array.length_toList]; exact h)).toNat : Int) := by simp only [ints, List.getElem_map]
  rw [this]
  have h2 := UInt8.toNat_lt (t.data.toList[k]'(by rw [ints_len] at h; rw [Array.length_toList]; exact h))
  exact w64_id (by omega) (by omega)
theorem take_one {α : Type} {xs : List α} {k : Nat} (h : k < xs.length) : xs.take k ++ [xs[k]] = xs.take (k + 1) := by
  rw [List.take_add_one, List.getElem?_eq_getElem h]
  rfl
/-- What a text tells as a conf. -/
def readConf (t : ByteArray) : List Int × Bool := if confOk (ints t) = true then (ints t, true) else ([], false)
theorem readConf_r (N : Nat) (t : ByteArray) (ht : t.size ≤ 1099511627) : ∀ (d k m : Nat), t.size = k + d → d < m → impl_ReadConf_l1 N t m (k : Int) ((ints t).take k) = some (ints t)
  | 0, k, m, h, hm => by
    obtain ⟨m, rfl⟩ : ∃ q, m = q + 1 := ⟨m - 1, by omega⟩
    rw [impl_ReadConf_l1, if_neg (by simp; omega), List.take_of_length_le (by rw [ints_len]; omega)]
  | d + 1, k, m, h, hm => by
    obtain ⟨m, rfl⟩ : ∃ q, m = q + 1 := ⟨m - 1, by omega⟩
    have hk : k < (ints t).length := by rw [ints_len]; omega
    rw [impl_ReadConf_l1, if_pos (by simp; omega), sat_lt (by omega)]
    simp only [Option.bind_some, ints_w hk, w64_succ (k := k) (by omega)]
    rw [cat_ok (by rw [List.length_take]; simp only [List.length_cons, List.length_nil]; omega), Option.bind_some, take_one hk]
    exact readConf_r N t ht d (k + 1) m (by omega) (by omega)
theorem readConf_impl (N : Nat) (hN : Big N) (t : ByteArray) (ht : t.size ≤ 1099511627) : impl_ReadConf N t = some (readConf t) := by
  unfold impl_ReadConf readConf
  simp only [joinP]
  have := readConf_r N t ht t.size 0 N (by omega) (by omega)
  rw [show (0 : Int) = ((0 : Nat) : Int) from rfl, show ([] : List Int) = (ints t).take 0 from rfl, this]
  simp only [Option.bind_some, confOk_impl N hN (ints t) (by rw [ints_len]; omega)]
  cases confOk (ints t) <;> rfl
theorem readConf_s (N : Nat) (t : ByteArray) (ht : t.size ≤ 1099511627) : ∀ (d k m : Nat), t.size = k + d → d < m → k ≤ 5 → spec_ReadConf_l1 N t m (k : Int) ((ints t).take k) = some ((ints t).take 5)
  | 0, k, m, h, hm, h5 => by
    obtain ⟨m, rfl⟩ : ∃ q, m = q + 1 := ⟨m - 1, by omega⟩
    rw [spec_ReadConf_l1, if_neg (by simp; omega), List.take_of_length_le (by rw [ints_len]; omega), List.take_of_length_le (by rw [ints_len]; omega)]
  | d + 1, k, m, h, hm, h5 => by
    obtain ⟨m, rfl⟩ : ∃ q, m = q + 1 := ⟨m - 1, by omega⟩
    have hk : k < (ints t).length := by rw [ints_len]; omega
    by_cases h4 : k = 5
    · subst h4
      rw [spec_ReadConf_l1, if_pos (by simp; omega), if_neg (by simp)]
    rw [spec_ReadConf_l1, if_pos (by simp; omega), if_pos (by simp; omega), sat_lt (by omega)]
    simp only [Option.bind_some, ints_w hk, w64_succ (k := k) (by omega)]
    rw [cat_ok (by rw [List.length_take]; simp only [List.length_cons, List.length_nil]; omega), Option.bind_some, take_one hk]
    exact readConf_s N t ht d (k + 1) m (by omega) (by omega) (by omega)
theorem readConf_spec (N : Nat) (hN : Big N) (t : ByteArray) (ht : t.size ≤ 1099511627) : spec_ReadConf N t = some (readConf t) := by
  unfold spec_ReadConf readConf
  simp only [joinP]
  have := readConf_s N t ht t.size 0 N (by omega) (by omega) (by omega)
  rw [show (0 : Int) = ((0 : Nat) : Int) from rfl, show ([] : List Int) = (ints t).take 0 from rfl, this]
  simp only [Option.bind_some, confOk_spec N hN ((ints t).take 5) (by rw [List.length_take]; omega)]
  by_cases h5 : t.size ≤ 5
  · rw [List.take_of_length_le (by rw [ints_len]; exact h5), if_neg (by simp [ints_len])]
    cases confOk (ints t) <;> rfl
  · have hf : confOk (ints t) = false := by
      cases hc : confOk (ints t) with
      | false => rfl
      | true => have := confOk_len hc; rw [ints_len] at this; omega
    rw [if_pos (by rw [List.length_take, ints_len]; simp; omega), hf]
    rfl
def entOk (e : Entry) : Bool := decide (0 ≤ e.Term ∧ e.Term ≤ 100000) && (if e.Kind = 1 then decide (e.Data = (⟨#[]⟩ : ByteArray)) else if e.Kind = 2 then confOk (ints e.Data) else if e.Kind = 3 then decide (e.Data.size ≤ 120) else false)
theorem readConf_ok (t : ByteArray) : (readConf t).2 = confOk (ints t) := by
  unfold readConf
  cases confOk (ints t) <;> rfl
theorem entOk_spec (N : Nat) (hN : Big N) (e : Entry) (h : e.Data.size ≤ 1099511627) : spec_EntryOk N e = some (entOk e) := by
  unfold spec_EntryOk entOk
  simp only [in_eq, Option.bind_some, readConf_spec N hN e.Data h, readConf_ok]
  by_cases h0 : 0 ≤ e.Term ∧ e.Term ≤ 100000
  · by_cases h1 : e.Kind = 1
    · simp [h0, h1]
    · by_cases h2 : e.Kind = 2
      · simp [h0, h2]
      · by_cases h3 : e.Kind = 3
        · simp [h0, h3]
          omega
        · simp [h1, h2, h3]
  · simp [h0]
theorem entOk_impl (N : Nat) (hN : Big N) (e : Entry) (h : e.Data.size ≤ 1099511627) : impl_EntryOk N e = some (entOk e) := by
  rw [← entOk_spec N hN e h]
  unfold spec_EntryOk impl_EntryOk
  simp only [in_eq, within_eq, readConf_spec N hN e.Data h, readConf_impl N hN e.Data h]
def termsOk : Int → List Entry → Bool
  | _, [] => true
  | t, e :: es => entOk e && (decide (t ≤ e.Term) && termsOk e.Term es)
theorem termsOk_cons (t : Int) (e : Entry) (es : List Entry) : termsOk t (e :: es) = (entOk e && (decide (t ≤ e.Term) && termsOk e.Term es)) := rfl
def logOk (l : Log) : Bool := decide (0 ≤ l.Start ∧ l.Start ≤ 100000) && (decide (0 ≤ l.StartTerm ∧ l.StartTerm ≤ 100000) && (decide (l.Entries.length ≤ 120) && (decide (l.Start + l.Entries.length ≤ 100000) && termsOk l.StartTerm l.Entries)))
theorem logOk_s (N : Nat) (hN : Big N) (c : Log) : ∀ (es : List Entry) (t : Int) (k : Nat), k + es.length ≤ 1099511627 → (∀ e ∈ es, e.Data.size ≤ 1099511627) → spec_LogOk_l1_r N c es t (k : Int) = some (if termsOk t es then .inr () else .inl false)
  | [], t, k, hk, h => rfl
  | e :: es, t, k, hk, h => by
    simp only [List.length_cons] at hk
    rw [spec_LogOk_l1_r, termsOk_cons]
    simp only [Option.bind_some, entOk_spec N hN e (h e (by simp)), w64_succ (k := k) (by omega), logOk_s N hN c es e.Term (k + 1) (by omega) (fun z hz => h z (by simp [hz]))]
    cases entOk e with
    | false => simp
    | true =>
      by_cases ht : e.Term < t
      · have : ¬ t ≤ e.Term := by omega
        simp [ht, this]
      · have : t ≤ e.Term := by omega
        simp [ht, this]
theorem logOk_i (N : Nat) (hN : Big N) (c : Log) : ∀ (es : List Entry) (t : Int) (k : Nat), k + es.length ≤ 1099511627 → (∀ e ∈ es, e.Data.size ≤ 1099511627) → impl_LogOk_l1_r N c es t (k : Int) = some (if termsOk t es then .inr () else .inl false)
  | [], t, k, hk, h => rfl
  | e :: es, t, k, hk, h => by
    simp only [List.length_cons] at hk
    rw [impl_LogOk_l1_r, termsOk_cons]
    simp only [Option.bind_some, entOk_impl N hN e (h e (by simp)), w64_succ (k := k) (by omega), logOk_i N hN c es e.Term (k + 1) (by omega) (fun z hz => h z (by simp [hz]))]
    cases entOk e with
    | false => simp
    | true =>
      by_cases ht : e.Term < t
      · have : ¬ t ≤ e.Term := by omega
        simp [ht, this]
      · have : t ≤ e.Term := by omega
        simp [ht, this]
theorem data_le {l : Log} (h : totLog l ≤ 1099511627) : l.Entries.length ≤ 1099511627 ∧ ∀ e ∈ l.Entries, e.Data.size ≤ 1099511627 := by
  simp only [totLog, totL] at h
  refine ⟨by omega, fun e he => ?_⟩
  have := le_sum (f := totEntry) he
  simp only [totEntry] at this
  omega
theorem logOk_spec (N : Nat) (hN : Big N) (l : Log) (h : totLog l ≤ 1099511627) : spec_LogOk N l = some (logOk l) := by
  obtain ⟨hl, hd⟩ := data_le h
  unfold spec_LogOk logOk
  simp only [in_eq, Option.bind_some, joinP]
  rw [spec_LogOk_l1_eq l (by omega) (by omega), show (0 : Int) = ((0 : Nat) : Int) from rfl, logOk_s N hN l l.Entries l.StartTerm 0 (by omega) hd]
  by_cases h1 : 0 ≤ l.Start ∧ l.Start ≤ 100000
  · by_cases h2 : 0 ≤ l.StartTerm ∧ l.StartTerm ≤ 100000
    · by_cases h3 : l.Entries.length ≤ 120
      · rw [w64_id (by omega) (by omega)]
        have h3' : ¬ (l.Entries.length : Int) > 120 := by omega
        by_cases h4 : l.Start + l.Entries.length ≤ 100000
        · have h4' : ¬ l.Start + l.Entries.length > 100000 := by omega
          simp only [Int.natCast_zero, h1, h2, h3, h3', h4, h4', decide_true, Bool.not_true, Bool.false_eq_true, if_false, decide_false, Bool.true_and, and_self]
          cases termsOk l.StartTerm l.Entries <;> rfl
        · have h4' : l.Start + l.Entries.length > 100000 := by omega
          simp [h1, h2, h3', h4, h4']
      · have h3' : (l.Entries.length : Int) > 120 := by omega
        simp [h1, h2, h3, h3']
    · simp [h1, h2]
  · simp [h1]
theorem logOk_impl (N : Nat) (hN : Big N) (l : Log) (h : totLog l ≤ 1099511627) : impl_LogOk N l = some (logOk l) := by
  rw [← logOk_spec N hN l h]
  obtain ⟨hl, hd⟩ := data_le h
  unfold spec_LogOk impl_LogOk
  simp only [in_eq, within_eq, joinP]
  rw [spec_LogOk_l1_eq l (by omega) (by omega), impl_LogOk_l1_eq l (by omega) (by omega), show (0 : Int) = ((0 : Nat) : Int) from rfl, logOk_s N hN l l.Entries l.StartTerm 0 (by omega) hd, logOk_i N hN l l.Entries l.StartTerm 0 (by omega) hd]
theorem logOk_at {l : Log} (h : logOk l = true) : 0 ≤ l.Start ∧ l.Start ≤ 100000 ∧ 0 ≤ l.StartTerm ∧ l.StartTerm ≤ 100000 ∧ l.Entries.length ≤ 120 ∧ l.Start + l.Entries.length ≤ 100000 ∧ termsOk l.StartTerm l.Entries = true := by
  unfold logOk at h
  simp only [Bool.and_eq_true, decide_eq_true_eq] at h
  obtain ⟨⟨h1, h2⟩, ⟨h3, h4⟩, h5, h6, h7⟩ := h
  exact ⟨h1, h2, h3, h4, h5, h6, h7⟩
/-- An entry that tells a conf. -/
def tells (e : Entry) : Bool := confOk (ints e.Data) && (e.Kind == 2)
def confsUp (index : Int) : List Entry → Int → List Int → List Int
  | [], _, out => out
  | e :: es, p, out => if p ≤ index then confsUp index es (p + 1) (if tells e = true then ints e.Data else out) else out
def confAt (n : Node) (index : Int) : List Int := confsUp index n.Log.Entries (n.Log.Start + 1) n.Conf
theorem confsUp_snoc (index : Int) (e : Entry) : ∀ (es : List Entry) (p : Int) (out : List Int), confsUp index (es ++ [e]) p out = if (decide (p + es.length ≤ index) && tells e) = true then ints e.Data else confsUp index es p out
  | [], p, out => by
    simp only [List.nil_append, confsUp, List.length_nil]
    by_cases h : p ≤ index
    · have : p + ((0 : Nat) : Int) ≤ index := by omega
      simp only [h, if_true, this, decide_true, Bool.true_and]
    · have : ¬ p + ((0 : Nat) : Int) ≤ index := by omega
      simp [h]
  | x :: es, p, out => by
    simp only [List.cons_append, confsUp, List.length_cons]
    by_cases h : p ≤ index
    · rw [if_pos h, if_pos h, confsUp_snoc index e es (p + 1)]
      rw [show p + 1 + (es.length : Int) = p + ((es.length + 1 : Nat) : Int) by omega]
    · rw [if_neg h, if_neg h, if_neg]
      simp only [Bool.and_eq_true, decide_eq_true_eq]
      rintro ⟨h1, _⟩
      omega
theorem readConf_1 {t : ByteArray} (h : confOk (ints t) = true) : (readConf t).1 = ints t := by
  unfold readConf
  rw [if_pos h]
theorem confAt_sr (N : Nat) (hN : Big N) (n : Node) (index : Int) (hs : 0 ≤ n.Log.Start ∧ n.Log.Start ≤ 100000) : ∀ (es : List Entry) (k : Nat) (out : List Int), k + es.length ≤ 1000 → (∀ e ∈ es, e.Data.size ≤ 1099511627) → spec_ConfAt_l1_r N n index es (k : Int) out = some (confsUp index es (n.Log.Start + 1 + k) out)
  | [], k, out, hk, h => rfl
  | e :: es, k, out, hk, h => by
    simp only [List.length_cons] at hk
    rw [spec_ConfAt_l1_r, confsUp]
    rw [w64_id (n := n.Log.Start + 1) (by omega) (by omega), w64_id (by omega) (by omega)]
    by_cases hp : n.Log.Start + 1 + k ≤ index
    · simp only [hp, decide_true, if_true, joinP, Option.bind_some, readConf_spec N hN e.Data (h e (by simp)), readConf_ok, w64_succ (k := k) (by omega)]
      have ih := fun o => confAt_sr N hN n index hs es (k + 1) o (by omega) (fun z hz => h z (by simp [hz]))
      simp only [ih]
      rw [show n.Log.Start + 1 + ((k + 1 : Nat) : Int) = n.Log.Start + 1 + k + 1 by omega]
      unfold tells
      by_cases h2 : e.Kind = 2
      · cases hc : confOk (ints e.Data) with
        | true => simp [h2, readConf_1 hc]
        | false => simp [h2]
      · simp [h2]
    · simp [hp]
theorem confAt_spec (N : Nat) (hN : Big N) (n : Node) (index : Int) (hl : logOk n.Log = true) (h : totNode n ≤ 1099511627) : spec_ConfAt N n index = some (confAt n index) := by
  obtain ⟨a1, a2, a3, a4, a5, a6, a7⟩ := logOk_at hl
  have hd : totLog n.Log ≤ 1099511627 := by simp only [totNode] at h; omega
  have hc : n.Conf.length ≤ 1099511627 := by simp only [totNode, totL] at h; omega
  unfold spec_ConfAt confAt
  rw [cat_ok (by simp only [List.length_nil]; omega)]
  simp only [Option.bind_some, joinP, List.nil_append]
  rw [spec_ConfAt_l1_eq n index (by omega) (by omega), show (0 : Int) = ((0 : Nat) : Int) from rfl, confAt_sr N hN n index ⟨a1, a2⟩ n.Log.Entries 0 n.Conf (by omega) (data_le hd).2]
  simp
theorem confAt_ir (N : Nat) (hN : Big N) (n : Node) (index : Int) (hs : 0 ≤ n.Log.Start ∧ n.Log.Start ≤ 100000) (hl : n.Log.Entries.length ≤ 120) (hd : ∀ e ∈ n.Log.Entries, e.Data.size ≤ 1099511627) : ∀ (k m : Nat), k ≤ n.Log.Entries.length → k < m → ∃ o : Option (List Int), impl_ConfAt_l1 N n index m ((k : Int) - 1) = some (match o with | some c => .inl c | none => .inr ()) ∧ ∀ out, confsUp index (n.Log.Entries.take k) (n.Log.Start + 1) out = o.getD out
  | 0, m, hk, hm => by
    obtain ⟨m, rfl⟩ : ∃ q, m = q + 1 := ⟨m - 1, by omega⟩
    refine ⟨none, ?_, fun out => rfl⟩
    rw [impl_ConfAt_l1, if_neg (by simp)]
  | k + 1, m, hk, hm => by
    obtain ⟨m, rfl⟩ : ∃ q, m = q + 1 := ⟨m - 1, by omega⟩
    have hlt : k < n.Log.Entries.length := by omega
    obtain ⟨o, ho, hu⟩ := confAt_ir N hN n index hs hl hd k m (by omega) (by omega)
    rw [impl_ConfAt_l1, show ((k + 1 : Nat) : Int) - 1 = (k : Int) by omega, if_pos (by simp), at_lt hlt]
    simp only [joinP, Option.bind_some, readConf_impl N hN _ (hd _ (List.getElem_mem hlt)), readConf_ok]
    rw [w64_id (n := (k : Int) - 1) (by omega) (by omega), w64_id (n := n.Log.Start + k) (by omega) (by omega), w64_id (by omega) (by omega), ho]
    have htk : n.Log.Entries.take (k + 1) = n.Log.Entries.take k ++ [n.Log.Entries[k]] := by rw [take_one hlt]
    have hlen : (n.Log.Entries.take k).length = k := by rw [List.length_take]; omega
    have hpos : n.Log.Start + 1 + ((n.Log.Entries.take k).length : Int) = n.Log.Start + k + 1 := by rw [hlen]; omega
    by_cases hv : (decide (n.Log.Start + k + 1 ≤ index) && tells n.Log.Entries[k]) = true
    · refine ⟨some (ints n.Log.Entries[k].Data), ?_, fun out => ?_⟩
      · simp only [tells, Bool.and_eq_true, decide_eq_true_eq] at hv
        simp [hv.1, hv.2.1, hv.2.2, readConf_1 hv.2.1]
      · rw [htk, confsUp_snoc, hpos, if_pos hv]
        rfl
    · refine ⟨o, ?_, fun out => ?_⟩
      · unfold tells at hv
        cases hc : confOk (ints n.Log.Entries[k].Data) with
        | false => simp
        | true =>
          rw [hc] at hv
          by_cases h2 : n.Log.Entries[k].Kind = 2
          · have h3 : ¬ n.Log.Start + k + 1 ≤ index := by
              intro h3
              simp [h2, h3] at hv
            simp [h2, h3]
          · simp [h2]
      · rw [htk, confsUp_snoc, hpos, if_neg hv]
        exact hu out
theorem confAt_impl (N : Nat) (hN : Big N) (n : Node) (index : Int) (hl : logOk n.Log = true) (h : totNode n ≤ 1099511627) : impl_ConfAt N n index = some (confAt n index) := by
  obtain ⟨a1, a2, a3, a4, a5, a6, a7⟩ := logOk_at hl
  have hd : totLog n.Log ≤ 1099511627 := by simp only [totNode] at h; omega
  have hc : n.Conf.length ≤ 1099511627 := by simp only [totNode, totL] at h; omega
  unfold impl_ConfAt confAt
  rw [w64_id (by omega) (by omega)]
  obtain ⟨o, ho, hu⟩ := confAt_ir N hN n index ⟨a1, a2⟩ a5 (data_le hd).2 n.Log.Entries.length N (Nat.le_refl _) (by omega)
  have := hu n.Conf
  rw [List.take_length] at this
  simp only [joinP]
  rw [ho, this, cat_ok (by simp only [List.length_nil]; omega)]
  cases o <;> simp
/-- A right log's conf. -/
def confOf (n : Node) : List Int := confAt n 100120
theorem confsUp_all {i j : Int} : ∀ (es : List Entry) (p : Int) (out : List Int), p + es.length ≤ i + 1 → p + es.length ≤ j + 1 → confsUp i es p out = confsUp j es p out
  | [], p, out, h1, h2 => rfl
  | e :: es, p, out, h1, h2 => by
    simp only [List.length_cons] at h1 h2
    simp only [confsUp]
    rw [if_pos (show p ≤ i by omega), if_pos (show p ≤ j by omega)]
    exact confsUp_all es (p + 1) _ (by omega) (by omega)
theorem confOf_spec (N : Nat) (hN : Big N) (n : Node) (hl : logOk n.Log = true) (h : totNode n ≤ 1099511627) : spec_ConfOf N n = some (confOf n) := by
  unfold spec_ConfOf
  rw [confAt_spec N hN n _ hl h]
  rfl
theorem confOf_impl (N : Nat) (hN : Big N) (n : Node) (hl : logOk n.Log = true) (h : totNode n ≤ 1099511627) : impl_ConfOf N n = some (confOf n) := by
  obtain ⟨a1, a2, a3, a4, a5, a6, a7⟩ := logOk_at hl
  unfold impl_ConfOf
  rw [confAt_impl N hN n _ hl h, Option.bind_some]
  unfold confOf confAt
  rw [confsUp_all (i := 9223372036854775807) (j := 100120) _ _ _ (by omega) (by omega)]
theorem confAt_len {n : Node} {i : Int} : (confAt n i).length ≤ max 4 n.Conf.length := by
  unfold confAt
  have : ∀ (es : List Entry) (p : Int) (out : List Int), (confsUp i es p out).length ≤ max 4 out.length := by
    intro es
    induction es with
    | nil => intro p out; simp only [confsUp]; omega
    | cons e es ih =>
      intro p out
      rw [confsUp]
      split
      · by_cases ht : tells e = true
        · have h4 := ih (p + 1) (ints e.Data)
          rw [if_pos ht]
          have : confOk (ints e.Data) = true := by
            unfold tells at ht
            simp only [Bool.and_eq_true] at ht
            exact ht.1
          have := confOk_len this
          omega
        · rw [if_neg ht]; exact ih (p + 1) out
      · omega
  exact this _ _ _
def others (c : List Int) (id : Int) : List Int := c.filter (· != id)
theorem others_sr (N : Nat) (c : List Int) (id : Int) : ∀ (xs : List Int) (k : Nat) (out : List Int), out.length + xs.length ≤ 1099511627 → k + xs.length ≤ 1099511627 → spec_l16Others_l1_r N c id xs (k : Int) out = some (out ++ others xs id)
  | [], k, out, h, h2 => by simp [spec_l16Others_l1_r, others]
  | x :: xs, k, out, h, h2 => by
    simp only [List.length_cons] at h h2
    rw [spec_l16Others_l1_r]
    simp only [joinP, Option.bind_some, w64_succ (k := k) (by omega)]
    by_cases hx : (x != id) = true
    · rw [if_pos hx, cat_ok (by simp only [List.length_cons, List.length_nil]; omega), Option.bind_some, others_sr N c id xs (k + 1) _ (by simp only [List.length_append, List.length_cons, List.length_nil]; omega) (by omega)]
      simp [others, hx]
    · rw [if_neg hx, others_sr N c id xs (k + 1) _ (by omega) (by omega)]
      simp only [others, List.filter_cons, hx, Bool.false_eq_true, if_false]
theorem others_spec (N : Nat) (hN : Big N) (c : List Int) (id : Int) (h : c.length ≤ 1099511627) : spec_l16Others N c id = some (others c id) := by
  unfold spec_l16Others
  simp only [joinP]
  rw [spec_l16Others_l1_eq c id (by omega) (by omega), show (0 : Int) = ((0 : Nat) : Int) from rfl, others_sr N c id c 0 [] (by simp; omega) (by omega)]
  simp
theorem ixDel (N : Nat) (c : List Int) (n : Node) (h : c.length ≤ 1099511627) : ∀ (d k m : Nat), c.length = k + d → d < m → (∀ x ∈ c.take k, (x == n.Id) = false) → (slices_IndexFunc_int_i1_l1 N c n m (k : Int) = some (.inr ()) ∧ ∀ x ∈ c, (x == n.Id) = false) ∨ ∃ q : Nat, q < c.length ∧ slices_IndexFunc_int_i1_l1 N c n m (k : Int) = some (.inl (q : Int)) ∧ (∀ x ∈ c.take q, (x == n.Id) = false) ∧ (c[q]? = some n.Id)
  | 0, k, m, hd, hm, hp => by
    obtain ⟨m, rfl⟩ : ∃ q, m = q + 1 := ⟨m - 1, by omega⟩
    left
    rw [slices_IndexFunc_int_i1_l1, if_neg (by simp; omega)]
    refine ⟨rfl, ?_⟩
    rwa [List.take_of_length_le (by omega)] at hp
  | d + 1, k, m, hd, hm, hp => by
    obtain ⟨m, rfl⟩ : ∃ q, m = q + 1 := ⟨m - 1, by omega⟩
    have hk : k < c.length := by omega
    rw [slices_IndexFunc_int_i1_l1, if_pos (by simp; omega), at_lt hk]
    simp only [Option.bind_some, impl_othersOf_1, w64_succ (k := k) (by omega)]
    by_cases hx : (c[k] == n.Id) = true
    · right
      refine ⟨k, hk, by rw [if_pos hx], hp, ?_⟩
      rw [List.getElem?_eq_getElem hk]
      simpa using hx
    · rw [if_neg hx]
      refine ixDel N c n h d (k + 1) m (by omega) (by omega) ?_
      rw [← take_one hk]
      intro x hx'
      rcases List.mem_append.1 hx' with h1 | h1
      · exact hp x h1
      · simp only [List.mem_singleton] at h1
        subst h1
        simpa using hx
theorem others_take {xs : List Int} {id : Int} {k : Nat} (h : k < xs.length) : others (xs.take (k + 1)) id = others (xs.take k) id ++ (if (xs[k] != id) = true then [xs[k]] else []) := by
  rw [← take_one h]
  unfold others
  rw [List.filter_append]
  congr 1
  cases hx : (xs[k] != id) <;> simp [hx]
theorem others_take_le {xs : List Int} {id : Int} {k : Nat} : (others (xs.take k) id).length ≤ k := by
  unfold others
  have := List.length_filter_le (· != id) (xs.take k)
  have h2 := List.length_take_le k xs
  omega
theorem del_r (N : Nat) (n : Node) (xs : List Int) (hx : xs.length ≤ 1099511627) : ∀ (d j m i : Nat) (cur : List Int), xs.length = j + d → d < m → i = (others (xs.take j) n.Id).length → cur.length = xs.length → cur.take i = others (xs.take j) n.Id → cur.drop j = xs.drop j →
    ∃ cur', slices_DeleteFunc_int_l1 N n m (i : Int) (j : Int) cur = some (((others xs n.Id).length : Int), cur') ∧ cur'.length = xs.length ∧ cur'.take (others xs n.Id).length = others xs n.Id
  | 0, j, m, i, cur, hd, hm, hi, hl, ht, hdr => by
    obtain ⟨m, rfl⟩ : ∃ q, m = q + 1 := ⟨m - 1, by omega⟩
    rw [slices_DeleteFunc_int_l1, if_neg (by simp; omega)]
    rw [List.take_of_length_le (l := xs) (by omega)] at hi ht
    subst hi
    exact ⟨cur, rfl, hl, ht⟩
  | d + 1, j, m, i, cur, hd, hm, hi, hl, ht, hdr => by
    obtain ⟨m, rfl⟩ : ∃ q, m = q + 1 := ⟨m - 1, by omega⟩
    have hj : j < xs.length := by omega
    have hjc : j < cur.length := by omega
    have hij : i ≤ j := by rw [hi]; exact others_take_le
    have hcj : cur[j] = xs[j] := by
      rw [List.drop_eq_getElem_cons hjc, List.drop_eq_getElem_cons hj] at hdr
      exact (List.cons.inj hdr).1
    have hdr' : cur.drop (j + 1) = xs.drop (j + 1) := by
      rw [List.drop_eq_getElem_cons hjc, List.drop_eq_getElem_cons hj] at hdr
      exact (List.cons.inj hdr).2
    rw [slices_DeleteFunc_int_l1, if_pos (by simp; omega), at_lt hjc]
    simp only [joinP, Option.bind_some, impl_othersOf_1, w64_succ (k := j) (by omega), hcj]
    have ho := others_take (id := n.Id) hj
    by_cases hx1 : xs[j] = n.Id
    · rw [if_neg (by simp [hx1])]
      rw [if_neg (by simp [hx1]), List.append_nil] at ho
      exact del_r N n xs hx d (j + 1) m i cur (by omega) (by omega) (by rw [ho]; exact hi) hl (by rw [ho]; exact ht) hdr'
    · rw [if_pos (by simpa using hx1), at_lt (xs := cur) (k := i) (by omega)]
      rw [if_pos (by simpa using hx1)] at ho
      simp only [Option.bind_some, w64_succ (k := i) (by omega), Int.toNat_natCast]
      refine del_r N n xs hx d (j + 1) m (i + 1) _ (by omega) (by omega) (by rw [ho]; simp [hi]) (by simp [hl]) ?_ ?_
      · rw [take_set_succ (by omega), ht, ho]
      · rw [List.drop_set, if_pos (by omega)]
        exact hdr'
theorem del_eq (N : Nat) (hN : Big N) (n : Node) (xs : List Int) (hx : xs.length ≤ 1099511627) : ∃ k ys, slices_DeleteFunc_int N xs n = some (k, ys) ∧ ys.take k = others xs n.Id ∧ k = (others xs n.Id).length ∧ xs.length = ys.length := by
  unfold slices_DeleteFunc_int slices_IndexFunc_int_i1
  simp only [joinP]
  rcases ixDel N xs n hx xs.length 0 N (by omega) (by omega) (by simp) with ⟨h1, h2⟩ | ⟨q, hq, h1, h2, h3⟩
  · rw [show (0 : Int) = ((0 : Nat) : Int) from rfl, h1]
    have he : others xs n.Id = xs := by
      unfold others
      rw [List.filter_eq_self]
      intro a ha
      simp [bne, h2 a ha]
    exact ⟨xs.length, xs, by simp, by rw [he, List.take_length], by rw [he], rfl⟩
  · rw [show (0 : Int) = ((0 : Nat) : Int) from rfl, h1]
    have ho : others (xs.take (q + 1)) n.Id = xs.take q := by
      rw [others_take hq]
      have hqe : xs[q] = n.Id := by rw [List.getElem?_eq_getElem hq] at h3; exact Option.some.inj h3
      rw [if_neg (by simp [hqe]), List.append_nil]
      unfold others
      rw [List.filter_eq_self]
      intro a ha
      simp [bne, h2 a ha]
    obtain ⟨cur, c1, c2, c3⟩ := del_r N n xs hx (xs.length - (q + 1)) (q + 1) N q xs (by omega) (by omega) (by rw [ho, List.length_take]; omega) rfl (by rw [ho]) rfl
    simp only [Option.bind_some, Sum.elim_inl, w64_succ (k := q) (by omega)]
    rw [if_neg (by simp), c1]
    have hle : (others xs n.Id).length ≤ cur.length := by rw [c2]; exact List.length_filter_le _ _
    simp only [Option.bind_some]
    rw [drop_ok hle]
    simp only [Option.bind_some, Int.toNat_natCast]
    have hclr : clr? ((0 : Nat) : Int) cur (others xs n.Id).length (cur.length - (others xs n.Id).length) = some (cur.take (others xs n.Id).length ++ (List.replicate (cur.length - (others xs n.Id).length) 0 ++ cur.drop ((others xs n.Id).length + (cur.length - (others xs n.Id).length)))) := by
      unfold clr?
      rw [if_pos (by omega)]
      rfl
    rw [hclr]
    simp only [Option.bind_some]
    rw [take_ok (by simp only [List.length_append, List.length_take]; omega)]
    refine ⟨_, _, rfl, ?_, rfl, by simp only [List.length_append, List.length_take, List.length_replicate, List.length_drop]; omega⟩
    rw [List.take_append_of_le_length (by rw [List.length_take]; omega), List.take_take, Nat.min_self]
    exact c3
theorem othersOf_impl (N : Nat) (hN : Big N) (n : Node) (hl : logOk n.Log = true) (h : totNode n ≤ 1099511627) : ∃ k ys, impl_othersOf N n = some (k, ys) ∧ ys.take k = others (confOf n) n.Id := by
  unfold impl_othersOf
  rw [confOf_impl N hN n hl h, Option.bind_some]
  have hc : n.Conf.length ≤ 1099511627 := by simp only [totNode, totL] at h; omega
  have hlen := confAt_len (n := n) (i := 100120)
  obtain ⟨k, ys, h1, h2, _, h4⟩ := del_eq N hN n (confOf n) (by unfold confOf; omega)
  refine ⟨k, ys, ?_, h2⟩
  rw [h1, Option.bind_some]
  simp only [len?]
  rw [if_pos h4]
  rfl
theorem equal_r (N : Nat) (a b : List Int) (ha : a.length ≤ 1099511627) (hl : a.length = b.length) : ∀ (d k : Nat), a.length = k + d → slices_Equal_int_l1_r N a b (a.drop k) (k : Int) = some (if a.drop k = b.drop k then .inr () else .inl false)
  | 0, k, h => by rw [List.drop_eq_nil_of_le (by omega), List.drop_eq_nil_of_le (by omega), slices_Equal_int_l1_r]; rfl
  | d + 1, k, h => by
    have hk : k < a.length := by omega
    have hkb : k < b.length := by omega
    rw [List.drop_eq_getElem_cons hk, List.drop_eq_getElem_cons hkb, slices_Equal_int_l1_r]
    simp only [Option.bind_some, at_lt hkb, w64_succ (k := k) (by omega), equal_r N a b ha hl d (k + 1) (by omega), List.cons.injEq]
    by_cases hx : a[k] = b[k] <;> simp [hx]
theorem equal_eq (N : Nat) (hN : Big N) (a b : List Int) (ha : a.length ≤ 1099511627) : slices_Equal_int N a b = some (decide (a = b)) := by
  unfold slices_Equal_int
  by_cases hl : a.length = b.length
  · simp only [joinP]
    rw [if_neg (by simp [hl]), slices_Equal_int_l1_eq a b (by omega) (by omega), show (0 : Int) = ((0 : Nat) : Int) from rfl]
    have := equal_r N a b ha hl a.length 0 (by omega)
    rw [List.drop_zero, List.drop_zero] at this
    rw [this]
    by_cases he : a = b <;> simp [he]
  · have : a ≠ b := fun h => hl (by rw [h])
    rw [if_pos (by simp; omega)]
    simp [this]
def logEnd (l : Log) : Int := l.Start + l.Entries.length
def logTerm (l : Log) : Int := match l.Entries.getLast? with | some e => e.Term | none => l.StartTerm
theorem logLast_gen {l : Log} (hl : logOk l = true) : (if ((l.Entries.length : Int) == (0 : Int)) = true then some (l.Start, l.StartTerm) else (at? l.Entries (w64 ((l.Entries.length : Int) - (1 : Int)))).bind fun x => some (w64 (l.Start + (l.Entries.length : Int)), x.Term)) = some (logEnd l, logTerm l) := by
  obtain ⟨a1, a2, a3, a4, a5, a6, a7⟩ := logOk_at hl
  unfold logEnd logTerm
  by_cases h : l.Entries.length = 0
  · have he : l.Entries = [] := List.eq_nil_of_length_eq_zero h
    rw [he]
    simp
  · rw [if_neg (by simp; intro hh; rw [hh] at h; simp at h), w64_id (by omega) (by omega), w64_id (by omega) (by omega), show (l.Entries.length : Int) - 1 = ((l.Entries.length - 1 : Nat) : Int) by omega, at_lt (by omega), List.getLast?_eq_getElem?, List.getElem?_eq_getElem (by omega)]
    rfl
theorem logLast_spec (N : Nat) {l : Log} (hl : logOk l = true) : spec_LogLast N l = some (logEnd l, logTerm l) := logLast_gen hl
theorem logLast_impl (N : Nat) {l : Log} (hl : logOk l = true) : impl_LogLast N l = some (logEnd l, logTerm l) := logLast_gen hl
theorem entOk_term {e : Entry} (h : entOk e = true) : 0 ≤ e.Term ∧ e.Term ≤ 100000 := by
  unfold entOk at h
  simp only [Bool.and_eq_true, decide_eq_true_eq] at h
  exact h.1
theorem termsOk_mem : ∀ {es : List Entry} {t : Int}, termsOk t es = true → ∀ e ∈ es, entOk e = true
  | x :: es, t, h, e, he => by
    rw [termsOk_cons] at h
    simp only [Bool.and_eq_true] at h
    rcases List.mem_cons.1 he with rfl | he
    · exact h.1
    · exact termsOk_mem h.2.2 e he
theorem logTerm_nn {l : Log} (hl : logOk l = true) : 0 ≤ logTerm l ∧ logTerm l ≤ 100000 := by
  obtain ⟨a1, a2, a3, a4, a5, a6, a7⟩ := logOk_at hl
  unfold logTerm
  cases h : l.Entries.getLast? with
  | none => exact ⟨a3, a4⟩
  | some e => exact entOk_term (termsOk_mem a7 e (List.mem_of_getLast? h))
def peerOk (last : Int) (p : Peer) : Bool := decide (1 ≤ p.Next ∧ p.Next ≤ last + 1) && (decide (0 ≤ p.Match ∧ p.Match ≤ w64 (p.Next - 1)) && decide (0 ≤ p.Sent ∧ p.Sent ≤ 20000))
def peersOk (n : Node) (ids : List Int) : Bool := decide (n.Peers.map (·.Id) = ids) && n.Peers.all (peerOk (logEnd n.Log))
theorem peers_ir (N : Nat) (n : Node) (hl : logOk n.Log = true) : ∀ (ps : List Peer) (k : Nat) (out : List Int), out.length + ps.length ≤ 1099511627 → k + ps.length ≤ 1099511627 → impl_peersOk_l1_r N n ps (k : Int) out = some (if ps.all (peerOk (logEnd n.Log)) then .inr (out ++ ps.map (·.Id)) else .inl false)
  | [], k, out, h, h2 => by simp [impl_peersOk_l1_r]
  | p :: ps, k, out, h, h2 => by
    simp only [List.length_cons] at h h2
    obtain ⟨a1, a2, a3, a4, a5, a6, a7⟩ := logOk_at hl
    rw [impl_peersOk_l1_r]
    simp only [Option.bind_some, impl_last, within_eq, w64_succ (k := k) (by omega)]
    rw [cat_ok (by simp only [List.length_cons, List.length_nil]; omega), w64_id (n := n.Log.Start + n.Log.Entries.length) (by omega) (by omega), w64_id (n := n.Log.Start + n.Log.Entries.length + 1) (by omega) (by omega)]
    simp only [Option.bind_some, peers_ir N n hl ps (k + 1) (out ++ [p.Id]) (by simp only [List.length_append, List.length_cons, List.length_nil]; omega) (by omega)]
    have e : peerOk (logEnd n.Log) p = (decide (1 ≤ p.Next ∧ p.Next ≤ n.Log.Start + n.Log.Entries.length + 1) && (decide (0 ≤ p.Match ∧ p.Match ≤ w64 (p.Next - 1)) && decide (0 ≤ p.Sent ∧ p.Sent ≤ 20000))) := rfl
    rw [List.all_cons, e]
    by_cases h1 : 1 ≤ p.Next ∧ p.Next ≤ n.Log.Start + n.Log.Entries.length + 1
    · by_cases h2 : 0 ≤ p.Match ∧ p.Match ≤ w64 (p.Next - 1)
      · by_cases h3 : 0 ≤ p.Sent ∧ p.Sent ≤ 20000
        · simp only [h1, h2, h3, and_self, decide_true, Bool.not_true, Bool.false_eq_true, if_false, Bool.true_and, List.map_cons, List.append_assoc, List.cons_append, List.nil_append]
        · simp [h3]
      · simp [h2]
    · simp [h1]
theorem peersOk_impl (N : Nat) (hN : Big N) (n : Node) (hl : logOk n.Log = true) (h : totNode n ≤ 1099511627) : impl_peersOk N n = some (peersOk n (others (confOf n) n.Id)) := by
  have hp : n.Peers.length ≤ 1099511627 := by simp only [totNode, totL] at h; omega
  unfold impl_peersOk peersOk
  simp only [joinP]
  obtain ⟨k, ys, h1, h2⟩ := othersOf_impl N hN n hl h
  rw [impl_peersOk_l1_eq n (by omega) (by omega), show (0 : Int) = ((0 : Nat) : Int) from rfl, peers_ir N n hl n.Peers 0 [] (by simp; omega) (by omega), h1]
  cases hall : n.Peers.all (peerOk (logEnd n.Log)) with
  | false => simp
  | true =>
    simp only [if_true, Option.bind_some, Sum.elim_inr, List.nil_append, h2, Bool.and_true]
    rw [equal_eq N hN _ _ (by simpa using hp)]
    rfl
theorem peers_sr (N : Nat) (n : Node) (y : Int × Int) (v : List Int) (hv : v.length ≤ 1099511627) (hl : n.Peers.length = v.length) (hy : 0 ≤ y.1 ∧ y.1 ≤ 200000) : ∀ (d k m : Nat), v.length = k + d → d < m → spec_NodeOk_l1 N n y v m (k : Int) = some (if (decide ((n.Peers.drop k).map (·.Id) = v.drop k) && (n.Peers.drop k).all (peerOk y.1)) = true then .inr () else .inl false)
  | 0, k, m, h, hm => by
    obtain ⟨m, rfl⟩ : ∃ q, m = q + 1 := ⟨m - 1, by omega⟩
    rw [spec_NodeOk_l1, if_neg (by simp; omega), List.drop_eq_nil_of_le (by omega), List.drop_eq_nil_of_le (by omega)]
    rfl
  | d + 1, k, m, h, hm => by
    obtain ⟨m, rfl⟩ : ∃ q, m = q + 1 := ⟨m - 1, by omega⟩
    have hk : k < v.length := by omega
    have hkp : k < n.Peers.length := by omega
    rw [spec_NodeOk_l1, if_pos (by simp; omega), at_lt hkp, at_lt hk]
    simp only [Option.bind_some, in_eq, w64_succ (k := k) (by omega), peers_sr N n y v hv hl hy d (k + 1) m (by omega) (by omega)]
    rw [w64_id (n := y.1 + 1) (by omega) (by omega), List.drop_eq_getElem_cons hk, List.drop_eq_getElem_cons hkp]
    have e : peerOk y.1 n.Peers[k] = (decide (1 ≤ n.Peers[k].Next ∧ n.Peers[k].Next ≤ y.1 + 1) && (decide (0 ≤ n.Peers[k].Match ∧ n.Peers[k].Match ≤ w64 (n.Peers[k].Next - 1)) && decide (0 ≤ n.Peers[k].Sent ∧ n.Peers[k].Sent ≤ 20000))) := rfl
    have hb : (decide ((n.Peers[k] :: n.Peers.drop (k + 1)).map (·.Id) = v[k] :: v.drop (k + 1)) && (n.Peers[k] :: n.Peers.drop (k + 1)).all (peerOk y.1)) = (decide (n.Peers[k].Id = v[k]) && (peerOk y.1 n.Peers[k] && (decide ((n.Peers.drop (k + 1)).map (·.Id) = v.drop (k + 1)) && (n.Peers.drop (k + 1)).all (peerOk y.1)))) := by
      rw [List.map_cons, List.all_cons]
      by_cases h0 : n.Peers[k].Id = v[k]
      · simp only [h0, List.cons.injEq, true_and, decide_true, Bool.true_and]
        cases peerOk y.1 n.Peers[k] <;> simp
      · simp only [List.cons.injEq, h0, false_and, decide_false, Bool.false_and]
    rw [hb, e]
    generalize (decide ((n.Peers.drop (k + 1)).map (·.Id) = v.drop (k + 1)) && (n.Peers.drop (k + 1)).all (peerOk y.1)) = z
    by_cases h0 : n.Peers[k].Id = v[k]
    · by_cases h1 : 1 ≤ n.Peers[k].Next ∧ n.Peers[k].Next ≤ y.1 + 1
      · by_cases h2 : 0 ≤ n.Peers[k].Match ∧ n.Peers[k].Match ≤ w64 (n.Peers[k].Next - 1)
        · by_cases h3 : 0 ≤ n.Peers[k].Sent ∧ n.Peers[k].Sent ≤ 20000
          · simp only [h0, h1, h2, h3, and_self, decide_true, Bool.not_true, Bool.false_eq_true, if_false, Bool.true_and, bne_self_eq_false]
          · simp [h0, h3]
        · simp [h0, h2]
      · simp [h0, h1]
    · simp [h0]
/-- What is asked of a node whose log is right. -/
def nodeOk (n : Node) : Bool := decide (1 ≤ n.Id ∧ n.Id ≤ 4) && (confOk n.Conf && (logOk n.Log && (decide (logTerm n.Log ≤ n.Term ∧ n.Term ≤ 100000) && (decide (0 ≤ n.Vote ∧ n.Vote ≤ 4) && (decide (0 ≤ n.Lead ∧ n.Lead ≤ 4) && (decide (0 ≤ n.Role ∧ n.Role ≤ 2) && (decide (n.Log.Start ≤ n.Commit ∧ n.Commit ≤ logEnd n.Log) && (decide (1 ≤ n.Limit ∧ n.Limit ≤ 20) && (decide (0 ≤ n.Clock ∧ n.Clock ≤ 20) && (rise 1 4 none n.Votes && (decide (n.Role ≠ 1 → n.Votes.length = 0) && (if n.Role = 2 then peersOk n (others (confOf n) n.Id) else decide (n.Peers.length = 0)))))))))))))
theorem votes_r (N : Nat) (n : Node) (hc : n.Votes.length ≤ 1099511627776) : ∀ (d k : Nat), n.Votes.length = k + d → impl_NodeOk_l1_r N n (n.Votes.drop k) (k : Int) = some (if rise 1 4 (prev n.Votes k) (n.Votes.drop k) then .inr () else .inl false)
  | 0, k, h => by rw [List.drop_eq_nil_of_le (by omega), impl_NodeOk_l1_r]; rfl
  | d + 1, k, h => by
    have hk : k < n.Votes.length := by omega
    rw [rise_drop hk, List.drop_eq_getElem_cons hk, impl_NodeOk_l1_r]
    simp only [joinP, Option.bind_some, within_eq, w64_succ (k := k) (by omega), votes_r N n hc d (k + 1) (by omega)]
    by_cases h1 : (1 : Int) ≤ n.Votes[k] ∧ n.Votes[k] ≤ 4
    · by_cases h0 : k = 0
      · subst h0
        simp [h1]
      · rw [at_pred hk h0 hc]
        have : (0 : Int) < k := by omega
        by_cases h2 : n.Votes[k - 1] < n.Votes[k]
        · have h3 : ¬ n.Votes[k] ≤ n.Votes[k - 1] := by omega
          simp [h1, h0, h2, h3]
        · have h3 : n.Votes[k] ≤ n.Votes[k - 1] := by omega
          simp [h1, h0, h2, h3]
    · simp [h1]
theorem iteF {b x : Bool} : (if (!b) = true then some false else some x) = some (b && x) := by cases b <;> rfl
theorem iteF' {b : Bool} {y : Option Bool} {x : Bool} (h : b = true → y = some x) : (if (!b) = true then some false else y) = some (b && x) := by
  cases b with
  | false => rfl
  | true => simpa using h rfl
theorem nodeOk_impl (N : Nat) (hN : Big N) (n : Node) (h : totNode n ≤ 1099511627) : impl_NodeOk N n = some (nodeOk n) := by
  have hv : n.Votes.length ≤ 1099511627 := by simp only [totNode, totL] at h; omega
  have hcl : n.Conf.length ≤ 1099511627 := by simp only [totNode, totL] at h; omega
  have hd : totLog n.Log ≤ 1099511627 := by simp only [totNode] at h; omega
  unfold impl_NodeOk nodeOk
  simp only [within_eq, Option.bind_some, confOk_impl N hN n.Conf (by omega), logOk_impl N hN n.Log hd]
  refine iteF' fun _ => iteF' fun _ => iteF' fun hl => ?_
  rw [logLast_impl N hl]
  simp only [Option.bind_some]
  refine iteF' fun _ => iteF' fun _ => iteF' fun _ => iteF' fun _ => iteF' fun _ => iteF' fun _ => iteF' fun _ => ?_
  simp only [joinP]
  have hr := votes_r N n (by omega) n.Votes.length 0 (by omega)
  rw [List.drop_zero] at hr
  rw [impl_NodeOk_l1_eq n (by omega) (by omega), show (0 : Int) = ((0 : Nat) : Int) from rfl, hr, peersOk_impl N hN n hl h]
  simp only [prev, if_true, Option.bind_some]
  cases rise 1 4 none n.Votes with
  | false => rfl
  | true =>
    have hpe : ((n.Peers.length : Int) == (0 : Int)) = decide (n.Peers.length = 0) := by
      rw [Bool.eq_iff_iff]
      simp only [beq_iff_eq, decide_eq_true_eq]
      omega
    rw [show (((0 : Nat) : Int)) = (0 : Int) from rfl, hpe]
    simp only [if_true, Option.bind_some, Sum.elim_inr, Bool.true_and]
    generalize decide (n.Peers.length = 0) = q
    by_cases h2 : n.Role = 2
    · by_cases hvl : n.Votes.length = 0
      · simp [h2, hvl]
      · have : 0 < n.Votes.length := by omega
        simp [h2, hvl, this]
    · by_cases h1 : n.Role = 1
      · simp [h1]
      · by_cases hvl : n.Votes.length = 0
        · simp [h2, h1, hvl]
        · have : 0 < n.Votes.length := by omega
          simp [h1, hvl, this]
theorem peersOk_len {n : Node} {ids : List Int} (h : n.Peers.length ≠ ids.length) : peersOk n ids = false := by
  unfold peersOk
  have : n.Peers.map (·.Id) ≠ ids := fun he => h (by rw [← he]; simp)
  simp [this]
theorem nodeOk_spec (N : Nat) (hN : Big N) (n : Node) (h : totNode n ≤ 1099511627) : spec_NodeOk N n = some (nodeOk n) := by
  have hv : n.Votes.length ≤ 1099511627 := by simp only [totNode, totL] at h; omega
  have hcl : n.Conf.length ≤ 1099511627 := by simp only [totNode, totL] at h; omega
  have hpl : n.Peers.length ≤ 1099511627 := by simp only [totNode, totL] at h; omega
  have hd : totLog n.Log ≤ 1099511627 := by simp only [totNode] at h; omega
  unfold spec_NodeOk nodeOk
  simp only [in_eq, Option.bind_some, confOk_spec N hN n.Conf (by omega), logOk_spec N hN n.Log hd, rise_eq N hN n.Votes 1 4 (by omega)]
  refine iteF' fun _ => iteF' fun _ => iteF' fun hl => ?_
  obtain ⟨a1, a2, a3, a4, a5, a6, a7⟩ := logOk_at hl
  have ht := logTerm_nn hl
  rw [logLast_spec N hl]
  simp only [Option.bind_some, joinP]
  have hloop : ∀ v : List Int, v.length ≤ 1099511627 → (if ((n.Peers.length : Int) != ((v.length : Nat) : Int)) = true then some false else (spec_NodeOk_l1 N n (logEnd n.Log, logTerm n.Log) v N (0 : Int)).bind (Sum.elim (fun v => some v) (fun _ => some true))) = some (peersOk n v) := by
    intro v hvl
    by_cases hlen : n.Peers.length = v.length
    · rw [if_neg (by simp [hlen]), show (0 : Int) = ((0 : Nat) : Int) from rfl, peers_sr N n _ v hvl hlen (by unfold logEnd; simp only; omega) v.length 0 N (by omega) (by omega)]
      simp only [List.drop_zero]
      unfold peersOk
      cases hq : (decide (n.Peers.map (·.Id) = v) && n.Peers.all (peerOk (logEnd n.Log))) <;> simp
    · rw [if_pos (by simp; omega), peersOk_len hlen]
  have hco : (confOf n).length ≤ 1099511627 := by
    have := confAt_len (n := n) (i := 100120)
    unfold confOf
    omega
  have hoth : (others (confOf n) n.Id).length ≤ 1099511627 := by
    unfold others
    have := List.length_filter_le (· != n.Id) (confOf n)
    omega
  have hrest : (if (n.Role == (2 : Int)) = true then (spec_ConfOf N n).bind fun y_349 => (spec_l16Others N y_349 n.Id).bind fun v => (if ((n.Peers.length : Int) != ((v.length : Nat) : Int)) = true then some false else (spec_NodeOk_l1 N n (logEnd n.Log, logTerm n.Log) v N (0 : Int)).bind (Sum.elim (fun v => some v) (fun _ => some true))) else (if ((n.Peers.length : Int) != ((([] : List Int).length : Nat) : Int)) = true then some false else (spec_NodeOk_l1 N n (logEnd n.Log, logTerm n.Log) [] N (0 : Int)).bind (Sum.elim (fun v => some v) (fun _ => some true)))) = some (if n.Role = 2 then peersOk n (others (confOf n) n.Id) else decide (n.Peers.length = 0)) := by
    by_cases h2 : n.Role = 2
    · rw [if_pos (by simp [h2]), if_pos h2, confOf_spec N hN n hl h, Option.bind_some, others_spec N hN (confOf n) n.Id hco, Option.bind_some, hloop _ hoth]
    · rw [if_neg (by simp [h2]), if_neg h2, hloop [] (by simp)]
      congr 1
      by_cases hp : n.Peers.length = 0
      · have : n.Peers = [] := List.eq_nil_of_length_eq_zero hp
        simp [peersOk, this]
      · rw [peersOk_len (by simpa using hp)]
        simp [hp]
  rw [hrest]
  generalize (if n.Role = 2 then peersOk n (others (confOf n) n.Id) else decide (n.Peers.length = 0)) = z
  by_cases c1 : 0 ≤ n.Term ∧ n.Term ≤ 100000
  · by_cases c2 : logTerm n.Log ≤ n.Term
    · have c3 : ¬ n.Term < logTerm n.Log := by omega
      simp only [c1, c2, c3, and_self, decide_true, Bool.not_true, Bool.false_eq_true, if_false, decide_false, Bool.true_and]
      by_cases d1 : 0 ≤ n.Vote ∧ n.Vote ≤ 4 <;> by_cases d2 : 0 ≤ n.Lead ∧ n.Lead ≤ 4 <;> by_cases d3 : 0 ≤ n.Role ∧ n.Role ≤ 2 <;> simp only [d1, d2, d3, and_self, decide_true, decide_false, Bool.not_true, Bool.not_false, Bool.false_eq_true, if_false, if_true, Bool.true_and, Bool.false_and]
      by_cases d4 : n.Log.Start ≤ n.Commit ∧ n.Commit ≤ logEnd n.Log <;> by_cases d5 : 0 ≤ n.Clock ∧ n.Clock ≤ 20 <;> by_cases d6 : 1 ≤ n.Limit ∧ n.Limit ≤ 20 <;> simp only [d4, d5, d6, and_self, decide_true, decide_false, Bool.not_true, Bool.not_false, Bool.false_eq_true, if_false, if_true, Bool.true_and, Bool.false_and]
      cases rise 1 4 none n.Votes with
      | false => rfl
      | true =>
        by_cases h1 : n.Role = 1
        · simp [h1]
        · by_cases hvl : n.Votes.length = 0
          · simp [h1, hvl]
          · have : 0 < n.Votes.length := by omega
            simp [h1, hvl, this]
    · have c3 : n.Term < logTerm n.Log := by omega
      have c4 : ¬ (logTerm n.Log ≤ n.Term ∧ n.Term ≤ 100000) := by omega
      simp only [c1, c3, c4, and_self, decide_true, decide_false, Bool.not_true, Bool.false_eq_true, if_false, if_true, Bool.false_and]
      by_cases d1 : 0 ≤ n.Vote ∧ n.Vote ≤ 4 <;> by_cases d2 : 0 ≤ n.Lead ∧ n.Lead ≤ 4 <;> by_cases d3 : 0 ≤ n.Role ∧ n.Role ≤ 2 <;> simp [d1, d2, d3, c2]
  · have c4 : ¬ (logTerm n.Log ≤ n.Term ∧ n.Term ≤ 100000) := by omega
    simp [c1, c4]
theorem len_ok {α β : Type} {xs : List α} {ys : List β} (h : xs.length = ys.length) : len? xs ys = some () := by
  unfold len?
  rw [if_pos h]
def cntNode (n : Node) : Int := n.Conf.length + 3 * n.Log.Entries.length + n.Votes.length + 4 * n.Peers.length
theorem mark_Node (N : Nat) (hN : Big N) (n : Node) (k : Int) (h1 : 1 ≤ k) (hb : k + cntNode n ≤ 1099511627) : ∃ c e v p, laws_markNode N n k = some (k + cntNode n, c, e, v, p) ∧ n.Conf.length = c.length ∧ n.Log.Entries.length = e.length ∧ n.Votes.length = v.length ∧ n.Peers.length = p.length ∧
    laws_heldNode N (Node.mk n.Id n.Term n.Vote n.Role n.Lead c (Log.mk n.Log.Start n.Log.StartTerm e) n.Commit n.Clock n.Limit v p) k = some (k + cntNode n) := by
  unfold cntNode at hb
  obtain ⟨c, c1, c2, c3⟩ := mark_IntS N hN n.Conf k h1 (by omega)
  obtain ⟨e, e1, e2, e3⟩ := mark_EntryS N hN n.Log.Entries (k + 1 * n.Conf.length) (by omega) (by omega)
  obtain ⟨v, v1, v2, v3⟩ := mark_IntS N hN n.Votes (k + 1 * n.Conf.length + 3 * n.Log.Entries.length) (by omega) (by omega)
  obtain ⟨p, p1, p2, p3⟩ := mark_PeerS N hN n.Peers (k + 1 * n.Conf.length + 3 * n.Log.Entries.length + 1 * n.Votes.length) (by omega) (by omega)
  have hk : k + 1 * (n.Conf.length : Int) + 3 * n.Log.Entries.length + 1 * n.Votes.length + 4 * n.Peers.length = k + cntNode n := by
    unfold cntNode
    omega
  refine ⟨c, e, v, p, ?_, c2, e2, v2, p2, ?_⟩
  · unfold laws_markNode laws_markLog
    simp only [c1, e1, v1, p1, Option.bind_some, len_ok c2, len_ok e2, len_ok v2, len_ok p2, hk]
  · unfold laws_heldNode laws_heldLog
    simp only [c3, Option.bind_some, e3]
    rw [if_neg (by simp; omega), if_neg (by simp; omega)]
    simp only [Option.bind_some, v3]
    rw [if_neg (by simp; omega), if_neg (by simp; omega)]
    simp only [Option.bind_some, p3]
    rw [if_neg (by simp; omega), hk]
def zNode : Node := ⟨0, 0, 0, 0, 0, [], ⟨0, 0, []⟩, 0, 0, 0, [], []⟩
def newNode (i : Int) (c : List Int) : Node := ⟨i, 0, 0, 0, 0, c, ⟨0, 0, []⟩, 0, 0, 20, [], []⟩
def nodeNew (i : Int) (c : List Int) : Node × Bool := if nodeOk (newNode i c) = true then (newNode i c, true) else (zNode, false)
theorem sum_zero {α : Type} : ∀ (xs : List α), (xs.map (fun _ => 0)).sum = 0
  | [] => rfl
  | _ :: xs => by simp [sum_zero xs]
theorem newTot (i : Int) (c : List Int) : totNode (newNode i c) ≤ 2 * c.length + 8 := by
  simp only [newNode, totNode, totLog, totL, sum_zero, List.length_nil, List.map_nil, List.sum_nil]
  omega
theorem new_spec (N : Nat) (hN : Big N) (i : Int) (c : List Int) (h : c.length ≤ 1048576) : spec_NodeNew N i c = some (nodeNew i c) := by
  have ht := newTot i c
  unfold spec_NodeNew nodeNew
  rw [cat_ok (by simp only [List.length_nil]; omega)]
  simp only [Option.bind_some, List.nil_append]
  rw [show (Node.mk i 0 0 0 0 c (Log.mk 0 0 []) 0 0 20 [] []) = newNode i c from rfl, nodeOk_spec N hN (newNode i c) (by omega)]
  cases hk : nodeOk (newNode i c) <;> rfl
theorem new_impl (N : Nat) (hN : Big N) (i : Int) (c : List Int) (h : c.length ≤ 1048576) : impl_NodeNew N i c = some (nodeNew i c) := by
  have ht := newTot i c
  unfold impl_NodeNew nodeNew
  rw [cat_ok (by simp only [List.length_nil]; omega)]
  simp only [Option.bind_some, List.nil_append]
  rw [show (Node.mk i 0 0 0 0 c (Log.mk 0 0 []) 0 0 20 [] []) = newNode i c from rfl, nodeOk_impl N hN (newNode i c) (by omega)]
  cases hk : nodeOk (newNode i c) <;> rfl
theorem nodeNew_tot (i : Int) (c : List Int) : totNode (nodeNew i c).1 ≤ 2 * c.length + 8 := by
  unfold nodeNew
  split
  · exact newTot i c
  · simp [zNode, totNode, totLog, totL]
theorem cnt_le (n : Node) : cntNode n ≤ 4 * totNode n := by
  unfold cntNode
  simp only [totNode, totLog, totL]
  omega
theorem holds (x0 : Int) (x1 : List Int) (w0 : WI .i64 x0) (w1 : x1.length ≤ maxLen ∧ ∀ y ∈ x1, WI .i64 y) : ∃ N, laws_FnExactNodeNew N x0 x1 = some true := by
  obtain ⟨N, hN⟩ : ∃ N, Big N := ⟨1099511627777, by decide⟩
  refine ⟨N, ?_⟩
  unfold laws_FnExactNodeNew
  by_cases h : (x1.length : Int) > 1048576
  · rw [if_pos (by simpa using h)]
  · have hl : x1.length ≤ 1048576 := by omega
    have hl' : totL (fun _ => 0) x1 ≤ 1099511627 := by simp only [totL, sum_zero]; omega
    have ht := nodeNew_tot x0 x1
    rw [if_neg (by simpa using h)]
    simp only [to_IntS N x1 hl' hN, Option.bind_some, new_spec N hN x0 x1 hl, new_impl N hN x0 x1 hl, eq_Node N (nodeNew x0 x1).1 (by omega) hN, eq_IntS N x1 hl' hN]
    have hn2 := cnt_le (nodeNew x0 x1).1
    obtain ⟨b, b1, b2, b3⟩ := mark_IntS N hN x1 1 (by decide) (by omega)
    obtain ⟨c', e', v', p', q1, q2, q3, q4, q5, q6⟩ := mark_Node N hN (nodeNew x0 x1).1 1 (by decide) (by omega)
    have hz2 : 0 ≤ cntNode (nodeNew x0 x1).1 := by unfold cntNode; omega
    simp only [b1, q1, Option.bind_some, len_ok b2, len_ok q2, len_ok q3, len_ok q4, len_ok q5, q6]
    have e1 : decide ((1 : Int) + 1 * (x1.length : Int) < 0) = false := by simp; omega
    have e2 : decide (1 + cntNode (nodeNew x0 x1).1 < 0) = false := by simp; omega
    simp only [e1, e2]
    simp
end Go.Proofs.Ytebbgdjmplceiaa.Pe.FnExactNodeNew
