import Derived.Test.YtehknbpmpbghhaaPeHFnSettles
namespace Go.Proofs.Ytehknbpmpbghhaa.Pe.FnSettles
open Go Go.RowKit
set_option linter.unusedVariables false
set_option linter.unusedSimpArgs false
set_option maxHeartbeats 4000000
def totEntry (x : Entry) : Nat := ByteArray.size x.Data
def totLog (x : Log) : Nat := (totL totEntry) x.Entries
def totPeer (x : Peer) : Nat := 0
def totNode (x : Node) : Nat := (totL (fun _ => 0)) x.Conf + totLog x.Log + (totL (fun _ => 0)) x.Votes + (totL totPeer) x.Peers
def totMessage (x : Message) : Nat := (totL totEntry) x.Entries + (totL (fun _ => 0)) x.Conf + ByteArray.size x.Data
theorem wi {n : Int} (h : WI .i64 n) : -9223372036854775808 ≤ n ∧ n ≤ 9223372036854775807 := by
 have := h
 simp only [WI, Lit.wf, beq_iff_eq, decide_eq_true_eq, Bool.and_eq_true] at this
 exact this
theorem in_eq (N : Nat) (x a b : Int) : spec_l01In N x a b = some (decide (a ≤ x ∧ x ≤ b)) := by
 unfold spec_l01In
 by_cases h : a ≤ x <;> simp [h]
theorem within_eq (N : Nat) (x a b : Int) : impl_within N x a b = some (decide (a ≤ x ∧ x ≤ b)) := by
 unfold impl_within
 by_cases h : a ≤ x <;> simp [h]
def rise (lo hi : Int) : Option Int → List Int → Bool
 | _, [] => true
 | p, x :: xs => decide (lo ≤ x ∧ x ≤ hi) && ((match p with | some q => decide (q < x) | none => true) && rise lo hi (some x) xs)
theorem rise_cons (lo hi : Int) (p : Option Int) (x : Int) (xs : List Int) : rise lo hi p (x :: xs) = (decide (lo ≤ x ∧ x ≤ hi) && ((match p with | some q => decide (q < x) | none => true) && rise lo hi (some x) xs)) := by
 cases p <;> rfl
def confOk (c : List Int) : Bool := decide (c.length ≤ 4) && (decide (1 ≤ c.length) && rise 1 4 none c)
def prev (c : List Int) (k : Nat) : Option Int := if k = 0 then none else c[k - 1]?
theorem prev_succ {c : List Int} {k : Nat} (h : k < c.length) : prev c (k + 1) = some c[k] := by
 simp [prev, h]
theorem rise_drop {c : List Int} {k : Nat} {lo hi : Int} (h : k < c.length) : rise lo hi (prev c k) (c.drop k) = (decide (lo ≤ c[k] ∧ c[k] ≤ hi) && ((if k = 0 then true else decide (c[k - 1]'(by omega) < c[k])) && rise lo hi (prev c (k + 1)) (c.drop (k + 1)))) := by
 rw [List.drop_eq_getElem_cons h, rise_cons, prev_succ h]
 by_cases h0 : k = 0
 ·simp [prev, h0]
 ·simp only [prev, h0, if_false]
  rw [List.getElem?_eq_getElem (by omega)]
theorem at_pred {c : List Int} {k : Nat} (h : k < c.length) (h0 : k ≠ 0) (hc : c.length ≤ 1099511627776) : at? c (w64 ((k : Int) - 1)) = some (c[k - 1]'(by omega)) := by
 rw [w64_id (by omega) (by omega), show (k : Int) - 1 = ((k - 1 : Nat) : Int) by omega, at_lt]
theorem rise_r (N : Nat) (c : List Int) (lo hi : Int) (hc : c.length ≤ 1099511627776) : ∀ (d k : Nat), c.length = k + d → spec_l07Rise_l1_r N c lo hi (c.drop k) (k : Int) = some (if rise lo hi (prev c k) (c.drop k) then .inr () else .inl false)
 | 0, k, h => by rw [List.drop_eq_nil_of_le (by omega), spec_l07Rise_l1_r]; rfl
 | d + 1, k, h => by
  have hk : k < c.length := by omega
  rw [rise_drop hk, List.drop_eq_getElem_cons hk, spec_l07Rise_l1_r]
  simp only [joinP, Option.bind_some, in_eq, w64_succ (k := k) (by omega), rise_r N c lo hi hc d (k + 1) (by omega)]
  by_cases h1 : lo ≤ c[k] ∧ c[k] ≤ hi
  ·by_cases h0 : k = 0
   ·subst h0
    simp [h1]
   ·rw [at_pred hk h0 hc]
    have : (0 : Int) < k := by omega
    by_cases h2 : c[k - 1] < c[k]
    ·have h3 : ¬ c[k] ≤ c[k - 1] := by omega
     simp [h1, h0, h2, h3]
    ·have h3 : c[k] ≤ c[k - 1] := by omega
     simp [h1, h0, h2, h3]
  ·simp [h1]
theorem rise_eq (N : Nat) (hN : Big N) (c : List Int) (lo hi : Int) (hc : c.length ≤ 1099511627776) : spec_l07Rise N c lo hi = some (rise lo hi none c) := by
 unfold spec_l07Rise
 simp only [joinP]
 rw [spec_l07Rise_l1_eq c lo hi (by omega) (by omega), show (0 : Int) = ((0 : Nat) : Int) from rfl]
 have := rise_r N c lo hi hc c.length 0 (by omega)
 rw [List.drop_zero] at this
 rw [this]
 simp only [prev, if_true]
 cases rise lo hi none c <;> rfl
theorem confOk_spec (N : Nat) (hN : Big N) (c : List Int) (hc : c.length ≤ 1099511627776) : spec_ConfOk N c = some (confOk c) := by
 unfold spec_ConfOk confOk
 simp only [in_eq, Option.bind_some, rise_eq N hN c 1 4 hc]
 by_cases h1 : c.length ≤ 4
 ·by_cases h2 : 1 ≤ c.length
  ·have h3 : (1 : Int) ≤ c.length ∧ (c.length : Int) ≤ 4 := by omega
   simp [h1, h2, h3]
  ·have h3 : ¬ ((1 : Int) ≤ c.length ∧ (c.length : Int) ≤ 4) := by omega
   simp only [h3, if_false, h2, decide_false, Bool.false_and, Bool.and_false, Bool.false_eq_true]
 ·have h3 : ¬ ((1 : Int) ≤ c.length ∧ (c.length : Int) ≤ 4) := by omega
  simp only [h3, if_false, h1, decide_false, Bool.false_and, Bool.and_false, Bool.false_eq_true]
theorem conf_r (N : Nat) (c : List Int) (hc : c.length ≤ 1099511627776) : ∀ (d k : Nat), c.length = k + d → impl_ConfOk_l1_r N c (c.drop k) (k : Int) = some (if rise 1 4 (prev c k) (c.drop k) then .inr () else .inl false)
 | 0, k, h => by rw [List.drop_eq_nil_of_le (by omega), impl_ConfOk_l1_r]; rfl
 | d + 1, k, h => by
  have hk : k < c.length := by omega
  rw [rise_drop hk, List.drop_eq_getElem_cons hk, impl_ConfOk_l1_r]
  simp only [joinP, Option.bind_some, within_eq, w64_succ (k := k) (by omega), conf_r N c hc d (k + 1) (by omega)]
  by_cases h1 : (1 : Int) ≤ c[k] ∧ c[k] ≤ 4
  ·by_cases h0 : k = 0
   ·subst h0
    simp [h1]
   ·rw [at_pred hk h0 hc]
    have : (0 : Int) < k := by omega
    by_cases h2 : c[k - 1] < c[k]
    ·have h3 : ¬ c[k] ≤ c[k - 1] := by omega
     simp [h1, h0, h2, h3]
    ·have h3 : c[k] ≤ c[k - 1] := by omega
     simp [h1, h0, h2, h3]
  ·simp [h1]
theorem confOk_impl (N : Nat) (hN : Big N) (c : List Int) (hc : c.length ≤ 1099511627776) : impl_ConfOk N c = some (confOk c) := by
 unfold impl_ConfOk confOk
 simp only [joinP]
 rw [impl_ConfOk_l1_eq c (by omega) (by omega), show (0 : Int) = ((0 : Nat) : Int) from rfl]
 have := conf_r N c hc c.length 0 (by omega)
 rw [List.drop_zero] at this
 rw [this]
 simp only [prev, if_true, within_eq]
 cases rise 1 4 none c with
 | false => simp
 | true =>
  simp only [if_true, Option.bind_some, Sum.elim_inr, Bool.and_true, Option.some.injEq]
  rw [← Bool.decide_and]
  simp only [decide_eq_decide]
  omega
theorem confOk_len {c : List Int} (h : confOk c = true) : 1 ≤ c.length ∧ c.length ≤ 4 := by
 unfold confOk at h
 simp only [Bool.and_eq_true, decide_eq_true_eq] at h
 exact ⟨h.2.1, h.1⟩
def ints (t : ByteArray) : List Int := t.data.toList.map fun b => (b.toNat : Int)
theorem ints_len (t : ByteArray) : (ints t).length = t.size := by
 unfold ints
 rw [List.length_map, Array.length_toList]
 rfl
theorem sat_lt {t : ByteArray} {k : Nat} (h : k < t.size) : sat? t (k : Int) = some ((ints t)[k]'(by rw [ints_len]; exact h)) := by
 unfold sat?
 rw [if_pos (by omega), Int.toNat_natCast, getElem?_pos t k h]
 simp only [ints, List.getElem_map, Option.map_some]
 rfl
theorem ints_w {t : ByteArray} {k : Nat} (h : k < (ints t).length) : w64 ((ints t)[k]) = (ints t)[k] := by
 have : (ints t)[k] = ((t.data.toList[k]'(by rw [ints_len] at h; rw [Array.length_toList]; exact h)).toNat : Int) := by simp only [ints, List.getElem_map]
 rw [this]
 have h2 := UInt8.toNat_lt (t.data.toList[k]'(by rw [ints_len] at h; rw [Array.length_toList]; exact h))
 exact w64_id (by omega) (by omega)
theorem take_one {α : Type} {xs : List α} {k : Nat} (h : k < xs.length) : xs.take k ++ [xs[k]] = xs.take (k + 1) := by
 rw [List.take_add_one, List.getElem?_eq_getElem h]
 rfl
def readConf (t : ByteArray) : List Int × Bool := if confOk (ints t) = true then (ints t, true) else ([], false)
theorem readConf_r (N : Nat) (t : ByteArray) (ht : t.size ≤ 1099511627) : ∀ (d k m : Nat), t.size = k + d → d < m → impl_ReadConf_l1 N t m (k : Int) ((ints t).take k) = some (ints t)
 | 0, k, m, h, hm => by
  obtain ⟨m, rfl⟩ : ∃ q, m = q + 1 := ⟨m - 1, by omega⟩
  rw [impl_ReadConf_l1, if_neg (by simp; omega), List.take_of_length_le (by rw [ints_len]; omega)]
 | d + 1, k, m, h, hm => by
  obtain ⟨m, rfl⟩ : ∃ q, m = q + 1 := ⟨m - 1, by omega⟩
  have hk : k < (ints t).length := by rw [ints_len]; omega
  rw [impl_ReadConf_l1, if_pos (by simp; omega), sat_lt (by omega)]
  simp only [Option.bind_some, ints_w hk, w64_succ (k := k) (by omega)]
  rw [cat_ok (by rw [List.length_take]; simp only [List.length_cons, List.length_nil]; omega), Option.bind_some, take_one hk]
  exact readConf_r N t ht d (k + 1) m (by omega) (by omega)
theorem readConf_impl (N : Nat) (hN : Big N) (t : ByteArray) (ht : t.size ≤ 1099511627) : impl_ReadConf N t = some (readConf t) := by
 unfold impl_ReadConf readConf
 simp only [joinP]
 have := readConf_r N t ht t.size 0 N (by omega) (by omega)
 rw [show (0 : Int) = ((0 : Nat) : Int) from rfl, show ([] : List Int) = (ints t).take 0 from rfl, this]
 simp only [Option.bind_some, confOk_impl N hN (ints t) (by rw [ints_len]; omega)]
 cases confOk (ints t) <;> rfl
theorem readConf_s (N : Nat) (t : ByteArray) (ht : t.size ≤ 1099511627) : ∀ (d k m : Nat), t.size = k + d → d < m → k ≤ 5 → spec_ReadConf_l1 N t m (k : Int) ((ints t).take k) = some ((ints t).take 5)
 | 0, k, m, h, hm, h5 => by
  obtain ⟨m, rfl⟩ : ∃ q, m = q + 1 := ⟨m - 1, by omega⟩
  rw [spec_ReadConf_l1, if_neg (by simp; omega), List.take_of_length_le (by rw [ints_len]; omega), List.take_of_length_le (by rw [ints_len]; omega)]
 | d + 1, k, m, h, hm, h5 => by
  obtain ⟨m, rfl⟩ : ∃ q, m = q + 1 := ⟨m - 1, by omega⟩
  have hk : k < (ints t).length := by rw [ints_len]; omega
  by_cases h4 : k = 5
  ·subst h4
   rw [spec_ReadConf_l1, if_pos (by simp; omega), if_neg (by simp)]
  rw [spec_ReadConf_l1, if_pos (by simp; omega), if_pos (by simp; omega), sat_lt (by omega)]
  simp only [Option.bind_some, ints_w hk, w64_succ (k := k) (by omega)]
  rw [cat_ok (by rw [List.length_take]; simp only [List.length_cons, List.length_nil]; omega), Option.bind_some, take_one hk]
  exact readConf_s N t ht d (k + 1) m (by omega) (by omega) (by omega)
theorem readConf_spec (N : Nat) (hN : Big N) (t : ByteArray) (ht : t.size ≤ 1099511627) : spec_ReadConf N t = some (readConf t) := by
 unfold spec_ReadConf readConf
 simp only [joinP]
 have := readConf_s N t ht t.size 0 N (by omega) (by omega) (by omega)
 rw [show (0 : Int) = ((0 : Nat) : Int) from rfl, show ([] : List Int) = (ints t).take 0 from rfl, this]
 simp only [Option.bind_some, confOk_spec N hN ((ints t).take 5) (by rw [List.length_take]; omega)]
 by_cases h5 : t.size ≤ 5
 ·rw [List.take_of_length_le (by rw [ints_len]; exact h5), if_neg (by simp [ints_len])]
  cases confOk (ints t) <;> rfl
 ·have hf : confOk (ints t) = false := by
   cases hc : confOk (ints t) with
   | false => rfl
   | true => have := confOk_len hc; rw [ints_len] at this; omega
  rw [if_pos (by rw [List.length_take, ints_len]; simp; omega), hf]
  rfl
def entOk (e : Entry) : Bool := decide (0 ≤ e.Term ∧ e.Term ≤ 100000) && (if e.Kind = 1 then decide (e.Data = (⟨#[]⟩ : ByteArray)) else if e.Kind = 2 then confOk (ints e.Data) else if e.Kind = 3 then decide (e.Data.size ≤ 120) else false)
theorem readConf_ok (t : ByteArray) : (readConf t).2 = confOk (ints t) := by
 unfold readConf
 cases confOk (ints t) <;> rfl
theorem entOk_spec (N : Nat) (hN : Big N) (e : Entry) (h : e.Data.size ≤ 1099511627) : spec_EntryOk N e = some (entOk e) := by
 unfold spec_EntryOk entOk
 simp only [in_eq, Option.bind_some, readConf_spec N hN e.Data h, readConf_ok]
 by_cases h0 : 0 ≤ e.Term ∧ e.Term ≤ 100000
 ·by_cases h1 : e.Kind = 1
  ·simp [h0, h1]
  ·by_cases h2 : e.Kind = 2
   ·simp [h0, h2]
   ·by_cases h3 : e.Kind = 3
    ·simp [h0, h3]
     omega
    ·simp [h1, h2, h3]
 ·simp [h0]
theorem entOk_impl (N : Nat) (hN : Big N) (e : Entry) (h : e.Data.size ≤ 1099511627) : impl_EntryOk N e = some (entOk e) := by
 rw [← entOk_spec N hN e h]
 unfold spec_EntryOk impl_EntryOk
 simp only [in_eq, within_eq, readConf_spec N hN e.Data h, readConf_impl N hN e.Data h]
def termsOk : Int → List Entry → Bool
 | _, [] => true
 | t, e :: es => entOk e && (decide (t ≤ e.Term) && termsOk e.Term es)
theorem termsOk_cons (t : Int) (e : Entry) (es : List Entry) : termsOk t (e :: es) = (entOk e && (decide (t ≤ e.Term) && termsOk e.Term es)) := rfl
def logOk (l : Log) : Bool := decide (0 ≤ l.Start ∧ l.Start ≤ 100000) && (decide (0 ≤ l.StartTerm ∧ l.StartTerm ≤ 100000) && (decide (l.Entries.length ≤ 120) && (decide (l.Start + l.Entries.length ≤ 100000) && termsOk l.StartTerm l.Entries)))
theorem logOk_s (N : Nat) (hN : Big N) (c : Log) : ∀ (es : List Entry) (t : Int) (k : Nat), k + es.length ≤ 1099511627 → (∀ e ∈ es, e.Data.size ≤ 1099511627) → spec_LogOk_l1_r N c es t (k : Int) = some (if termsOk t es then .inr () else .inl false)
 | [], t, k, hk, h => rfl
 | e :: es, t, k, hk, h => by
  simp only [List.length_cons] at hk
  rw [spec_LogOk_l1_r, termsOk_cons]
  simp only [Option.bind_some, entOk_spec N hN e (h e (by simp)), w64_succ (k := k) (by omega), logOk_s N hN c es e.Term (k + 1) (by omega) (fun z hz => h z (by simp [hz]))]
  cases entOk e with
  | false => simp
  | true =>
   by_cases ht : e.Term < t
   ·have : ¬ t ≤ e.Term := by omega
    simp [ht, this]
   ·have : t ≤ e.Term := by omega
    simp [ht, this]
theorem logOk_i (N : Nat) (hN : Big N) (c : Log) : ∀ (es : List Entry) (t : Int) (k : Nat), k + es.length ≤ 1099511627 → (∀ e ∈ es, e.Data.size ≤ 1099511627) → impl_LogOk_l1_r N c es t (k : Int) = some (if termsOk t es then .inr () else .inl false)
 | [], t, k, hk, h => rfl
 | e :: es, t, k, hk, h => by
  simp only [List.length_cons] at hk
  rw [impl_LogOk_l1_r, termsOk_cons]
  simp only [Option.bind_some, entOk_impl N hN e (h e (by simp)), w64_succ (k := k) (by omega), logOk_i N hN c es e.Term (k + 1) (by omega) (fun z hz => h z (by simp [hz]))]
  cases entOk e with
  | false => simp
  | true =>
   by_cases ht : e.Term < t
   ·have : ¬ t ≤ e.Term := by omega
    simp [ht, this]
   ·have : t ≤ e.Term := by omega
    simp [ht, this]
theorem data_le {l : Log} (h : totLog l ≤ 1099511627) : l.Entries.length ≤ 1099511627 ∧ ∀ e ∈ l.Entries, e.Data.size ≤ 1099511627 := by
 simp only [totLog, totL] at h
 refine ⟨by omega, fun e he => ?_⟩
 have := le_sum (f := totEntry) he
 simp only [totEntry] at this
 omega
theorem logOk_spec (N : Nat) (hN : Big N) (l : Log) (h : totLog l ≤ 1099511627) : spec_LogOk N l = some (logOk l) := by
 obtain ⟨hl, hd⟩ := data_le h
 unfold spec_LogOk logOk
 simp only [in_eq, Option.bind_some, joinP]
 rw [spec_LogOk_l1_eq l (by omega) (by omega), show (0 : Int) = ((0 : Nat) : Int) from rfl, logOk_s N hN l l.Entries l.StartTerm 0 (by omega) hd]
 by_cases h1 : 0 ≤ l.Start ∧ l.Start ≤ 100000
 ·by_cases h2 : 0 ≤ l.StartTerm ∧ l.StartTerm ≤ 100000
  ·by_cases h3 : l.Entries.length ≤ 120
   ·rw [w64_id (by omega) (by omega)]
    have h3' : ¬ (l.Entries.length : Int) > 120 := by omega
    by_cases h4 : l.Start + l.Entries.length ≤ 100000
    ·have h4' : ¬ l.Start + l.Entries.length > 100000 := by omega
     simp only [Int.natCast_zero, h1, h2, h3, h3', h4, h4', decide_true, Bool.not_true, Bool.false_eq_true, if_false, decide_false, Bool.true_and, and_self]
     cases termsOk l.StartTerm l.Entries <;> rfl
    ·have h4' : l.Start + l.Entries.length > 100000 := by omega
     simp [h1, h2, h3', h4, h4']
   ·have h3' : (l.Entries.length : Int) > 120 := by omega
    simp [h1, h2, h3, h3']
  ·simp [h1, h2]
 ·simp [h1]
theorem logOk_impl (N : Nat) (hN : Big N) (l : Log) (h : totLog l ≤ 1099511627) : impl_LogOk N l = some (logOk l) := by
 rw [← logOk_spec N hN l h]
 obtain ⟨hl, hd⟩ := data_le h
 unfold spec_LogOk impl_LogOk
 simp only [in_eq, within_eq, joinP]
 rw [spec_LogOk_l1_eq l (by omega) (by omega), impl_LogOk_l1_eq l (by omega) (by omega), show (0 : Int) = ((0 : Nat) : Int) from rfl, logOk_s N hN l l.Entries l.StartTerm 0 (by omega) hd, logOk_i N hN l l.Entries l.StartTerm 0 (by omega) hd]
theorem logOk_at {l : Log} (h : logOk l = true) : 0 ≤ l.Start ∧ l.Start ≤ 100000 ∧ 0 ≤ l.StartTerm ∧ l.StartTerm ≤ 100000 ∧ l.Entries.length ≤ 120 ∧ l.Start + l.Entries.length ≤ 100000 ∧ termsOk l.StartTerm l.Entries = true := by
 unfold logOk at h
 simp only [Bool.and_eq_true, decide_eq_true_eq] at h
 obtain ⟨⟨h1, h2⟩, ⟨h3, h4⟩, h5, h6, h7⟩ := h
 exact ⟨h1, h2, h3, h4, h5, h6, h7⟩
def tells (e : Entry) : Bool := confOk (ints e.Data) && (e.Kind == 2)
def confsUp (index : Int) : List Entry → Int → List Int → List Int
 | [], _, out => out
 | e :: es, p, out => if p ≤ index then confsUp index es (p + 1) (if tells e = true then ints e.Data else out) else out
def confAt (n : Node) (index : Int) : List Int := confsUp index n.Log.Entries (n.Log.Start + 1) n.Conf
theorem confsUp_snoc (index : Int) (e : Entry) : ∀ (es : List Entry) (p : Int) (out : List Int), confsUp index (es ++ [e]) p out = if (decide (p + es.length ≤ index) && tells e) = true then ints e.Data else confsUp index es p out
 | [], p, out => by
  simp only [List.nil_append, confsUp, List.length_nil]
  by_cases h : p ≤ index
  ·have : p + ((0 : Nat) : Int) ≤ index := by omega
   simp only [h, if_true, this, decide_true, Bool.true_and]
  ·have : ¬ p + ((0 : Nat) : Int) ≤ index := by omega
   simp [h]
 | x :: es, p, out => by
  simp only [List.cons_append, confsUp, List.length_cons]
  by_cases h : p ≤ index
  ·rw [if_pos h, if_pos h, confsUp_snoc index e es (p + 1)]
   rw [show p + 1 + (es.length : Int) = p + ((es.length + 1 : Nat) : Int) by omega]
  ·rw [if_neg h, if_neg h, if_neg]
   simp only [Bool.and_eq_true, decide_eq_true_eq]
   rintro ⟨h1, _⟩
   omega
theorem readConf_1 {t : ByteArray} (h : confOk (ints t) = true) : (readConf t).1 = ints t := by
 unfold readConf
 rw [if_pos h]
theorem confAt_sr (N : Nat) (hN : Big N) (n : Node) (index : Int) (hs : 0 ≤ n.Log.Start ∧ n.Log.Start ≤ 100000) : ∀ (es : List Entry) (k : Nat) (out : List Int), k + es.length ≤ 1000 → (∀ e ∈ es, e.Data.size ≤ 1099511627) → spec_ConfAt_l1_r N n index es (k : Int) out = some (confsUp index es (n.Log.Start + 1 + k) out)
 | [], k, out, hk, h => rfl
 | e :: es, k, out, hk, h => by
  simp only [List.length_cons] at hk
  rw [spec_ConfAt_l1_r, confsUp]
  rw [w64_id (n := n.Log.Start + 1) (by omega) (by omega), w64_id (by omega) (by omega)]
  by_cases hp : n.Log.Start + 1 + k ≤ index
  ·simp only [hp, decide_true, if_true, joinP, Option.bind_some, readConf_spec N hN e.Data (h e (by simp)), readConf_ok, w64_succ (k := k) (by omega)]
   have ih := fun o => confAt_sr N hN n index hs es (k + 1) o (by omega) (fun z hz => h z (by simp [hz]))
   simp only [ih]
   rw [show n.Log.Start + 1 + ((k + 1 : Nat) : Int) = n.Log.Start + 1 + k + 1 by omega]
   unfold tells
   by_cases h2 : e.Kind = 2
   ·cases hc : confOk (ints e.Data) with
    | true => simp [h2, readConf_1 hc]
    | false => simp [h2]
   ·simp [h2]
  ·simp [hp]
theorem confAt_spec (N : Nat) (hN : Big N) (n : Node) (index : Int) (hl : logOk n.Log = true) (h : totNode n ≤ 1099511627) : spec_ConfAt N n index = some (confAt n index) := by
 obtain ⟨a1, a2, a3, a4, a5, a6, a7⟩ := logOk_at hl
 have hd : totLog n.Log ≤ 1099511627 := by simp only [totNode] at h; omega
 have hc : n.Conf.length ≤ 1099511627 := by simp only [totNode, totL] at h; omega
 unfold spec_ConfAt confAt
 rw [cat_ok (by simp only [List.length_nil]; omega)]
 simp only [Option.bind_some, joinP, List.nil_append]
 rw [spec_ConfAt_l1_eq n index (by omega) (by omega), show (0 : Int) = ((0 : Nat) : Int) from rfl, confAt_sr N hN n index ⟨a1, a2⟩ n.Log.Entries 0 n.Conf (by omega) (data_le hd).2]
 simp
theorem confAt_ir (N : Nat) (hN : Big N) (n : Node) (index : Int) (hs : 0 ≤ n.Log.Start ∧ n.Log.Start ≤ 100000) (hl : n.Log.Entries.length ≤ 120) (hd : ∀ e ∈ n.Log.Entries, e.Data.size ≤ 1099511627) : ∀ (k m : Nat), k ≤ n.Log.Entries.length → k < m → ∃ o : Option (List Int), impl_ConfAt_l1 N n index m ((k : Int) - 1) = some (match o with | some c => .inl c | none => .inr ()) ∧ ∀ out, confsUp index (n.Log.Entries.take k) (n.Log.Start + 1) out = o.getD out
 | 0, m, hk, hm => by
  obtain ⟨m, rfl⟩ : ∃ q, m = q + 1 := ⟨m - 1, by omega⟩
  refine ⟨none, ?_, fun out => rfl⟩
  rw [impl_ConfAt_l1, if_neg (by simp)]
 | k + 1, m, hk, hm => by
  obtain ⟨m, rfl⟩ : ∃ q, m = q + 1 := ⟨m - 1, by omega⟩
  have hlt : k < n.Log.Entries.length := by omega
  obtain ⟨o, ho, hu⟩ := confAt_ir N hN n index hs hl hd k m (by omega) (by omega)
  rw [impl_ConfAt_l1, show ((k + 1 : Nat) : Int) - 1 = (k : Int) by omega, if_pos (by simp), at_lt hlt]
  simp only [joinP, Option.bind_some, readConf_impl N hN _ (hd _ (List.getElem_mem hlt)), readConf_ok]
  rw [w64_id (n := (k : Int) - 1) (by omega) (by omega), w64_id (n := n.Log.Start + k) (by omega) (by omega), w64_id (by omega) (by omega), ho]
  have htk : n.Log.Entries.take (k + 1) = n.Log.Entries.take k ++ [n.Log.Entries[k]] := by rw [take_one hlt]
  have hlen : (n.Log.Entries.take k).length = k := by rw [List.length_take]; omega
  have hpos : n.Log.Start + 1 + ((n.Log.Entries.take k).length : Int) = n.Log.Start + k + 1 := by rw [hlen]; omega
  by_cases hv : (decide (n.Log.Start + k + 1 ≤ index) && tells n.Log.Entries[k]) = true
  ·refine ⟨some (ints n.Log.Entries[k].Data), ?_, fun out => ?_⟩
   ·simp only [tells, Bool.and_eq_true, decide_eq_true_eq] at hv
    simp [hv.1, hv.2.1, hv.2.2, readConf_1 hv.2.1]
   ·rw [htk, confsUp_snoc, hpos, if_pos hv]
    rfl
  ·refine ⟨o, ?_, fun out => ?_⟩
   ·unfold tells at hv
    cases hc : confOk (ints n.Log.Entries[k].Data) with
    | false => simp
    | true =>
     rw [hc] at hv
     by_cases h2 : n.Log.Entries[k].Kind = 2
     ·have h3 : ¬ n.Log.Start + k + 1 ≤ index := by
       intro h3
       simp [h2, h3] at hv
      simp [h2, h3]
     ·simp [h2]
   ·rw [htk, confsUp_snoc, hpos, if_neg hv]
    exact hu out
theorem confAt_impl (N : Nat) (hN : Big N) (n : Node) (index : Int) (hl : logOk n.Log = true) (h : totNode n ≤ 1099511627) : impl_ConfAt N n index = some (confAt n index) := by
 obtain ⟨a1, a2, a3, a4, a5, a6, a7⟩ := logOk_at hl
 have hd : totLog n.Log ≤ 1099511627 := by simp only [totNode] at h; omega
 have hc : n.Conf.length ≤ 1099511627 := by simp only [totNode, totL] at h; omega
 unfold impl_ConfAt confAt
 rw [w64_id (by omega) (by omega)]
 obtain ⟨o, ho, hu⟩ := confAt_ir N hN n index ⟨a1, a2⟩ a5 (data_le hd).2 n.Log.Entries.length N (Nat.le_refl _) (by omega)
 have := hu n.Conf
 rw [List.take_length] at this
 simp only [joinP]
 rw [ho, this, cat_ok (by simp only [List.length_nil]; omega)]
 cases o <;> simp
def confOf (n : Node) : List Int := confAt n 100120
theorem confsUp_all {i j : Int} : ∀ (es : List Entry) (p : Int) (out : List Int), p + es.length ≤ i + 1 → p + es.length ≤ j + 1 → confsUp i es p out = confsUp j es p out
 | [], p, out, h1, h2 => rfl
 | e :: es, p, out, h1, h2 => by
  simp only [List.length_cons] at h1 h2
  simp only [confsUp]
  rw [if_pos (show p ≤ i by omega), if_pos (show p ≤ j by omega)]
  exact confsUp_all es (p + 1) _ (by omega) (by omega)
theorem confOf_spec (N : Nat) (hN : Big N) (n : Node) (hl : logOk n.Log = true) (h : totNode n ≤ 1099511627) : spec_ConfOf N n = some (confOf n) := by
 unfold spec_ConfOf
 rw [confAt_spec N hN n _ hl h]
 rfl
theorem confOf_impl (N : Nat) (hN : Big N) (n : Node) (hl : logOk n.Log = true) (h : totNode n ≤ 1099511627) : impl_ConfOf N n = some (confOf n) := by
 obtain ⟨a1, a2, a3, a4, a5, a6, a7⟩ := logOk_at hl
 unfold impl_ConfOf
 rw [confAt_impl N hN n _ hl h, Option.bind_some]
 unfold confOf confAt
 rw [confsUp_all (i := 9223372036854775807) (j := 100120) _ _ _ (by omega) (by omega)]
theorem confAt_len {n : Node} {i : Int} : (confAt n i).length ≤ max 4 n.Conf.length := by
 unfold confAt
 have : ∀ (es : List Entry) (p : Int) (out : List Int), (confsUp i es p out).length ≤ max 4 out.length := by
  intro es
  induction es with
  | nil => intro p out; simp only [confsUp]; omega
  | cons e es ih =>
   intro p out
   rw [confsUp]
   split
   ·by_cases ht : tells e = true
    ·have h4 := ih (p + 1) (ints e.Data)
     rw [if_pos ht]
     have : confOk (ints e.Data) = true := by
      unfold tells at ht
      simp only [Bool.and_eq_true] at ht
      exact ht.1
     have := confOk_len this
     omega
    ·rw [if_neg ht]; exact ih (p + 1) out
   ·omega
 exact this _ _ _
def others (c : List Int) (id : Int) : List Int := c.filter (· != id)
theorem others_sr (N : Nat) (c : List Int) (id : Int) : ∀ (xs : List Int) (k : Nat) (out : List Int), out.length + xs.length ≤ 1099511627 → k + xs.length ≤ 1099511627 → spec_l16Others_l1_r N c id xs (k : Int) out = some (out ++ others xs id)
 | [], k, out, h, h2 => by simp [spec_l16Others_l1_r, others]
 | x :: xs, k, out, h, h2 => by
  simp only [List.length_cons] at h h2
  rw [spec_l16Others_l1_r]
  simp only [joinP, Option.bind_some, w64_succ (k := k) (by omega)]
  by_cases hx : (x != id) = true
  ·rw [if_pos hx, cat_ok (by simp only [List.length_cons, List.length_nil]; omega), Option.bind_some, others_sr N c id xs (k + 1) _ (by simp only [List.length_append, List.length_cons, List.length_nil]; omega) (by omega)]
   simp [others, hx]
  ·rw [if_neg hx, others_sr N c id xs (k + 1) _ (by omega) (by omega)]
   simp only [others, List.filter_cons, hx, Bool.false_eq_true, if_false]
theorem others_spec (N : Nat) (hN : Big N) (c : List Int) (id : Int) (h : c.length ≤ 1099511627) : spec_l16Others N c id = some (others c id) := by
 unfold spec_l16Others
 simp only [joinP]
 rw [spec_l16Others_l1_eq c id (by omega) (by omega), show (0 : Int) = ((0 : Nat) : Int) from rfl, others_sr N c id c 0 [] (by simp; omega) (by omega)]
 simp
theorem ixDel (N : Nat) (c : List Int) (n : Node) (h : c.length ≤ 1099511627) : ∀ (d k m : Nat), c.length = k + d → d < m → (∀ x ∈ c.take k, (x == n.Id) = false) → (slices_IndexFunc_int_i1_l1 N c n m (k : Int) = some (.inr ()) ∧ ∀ x ∈ c, (x == n.Id) = false) ∨ ∃ q : Nat, q < c.length ∧ slices_IndexFunc_int_i1_l1 N c n m (k : Int) = some (.inl (q : Int)) ∧ (∀ x ∈ c.take q, (x == n.Id) = false) ∧ (c[q]? = some n.Id)
 | 0, k, m, hd, hm, hp => by
  obtain ⟨m, rfl⟩ : ∃ q, m = q + 1 := ⟨m - 1, by omega⟩
  left
  rw [slices_IndexFunc_int_i1_l1, if_neg (by simp; omega)]
  refine ⟨rfl, ?_⟩
  rwa [List.take_of_length_le (by omega)] at hp
 | d + 1, k, m, hd, hm, hp => by
  obtain ⟨m, rfl⟩ : ∃ q, m = q + 1 := ⟨m - 1, by omega⟩
  have hk : k < c.length := by omega
  rw [slices_IndexFunc_int_i1_l1, if_pos (by simp; omega), at_lt hk]
  simp only [Option.bind_some, impl_othersOf_1, w64_succ (k := k) (by omega)]
  by_cases hx : (c[k] == n.Id) = true
  ·right
   refine ⟨k, hk, by rw [if_pos hx], hp, ?_⟩
   rw [List.getElem?_eq_getElem hk]
   simpa using hx
  ·rw [if_neg hx]
   refine ixDel N c n h d (k + 1) m (by omega) (by omega) ?_
   rw [← take_one hk]
   intro x hx'
   rcases List.mem_append.1 hx' with h1 | h1
   ·exact hp x h1
   ·simp only [List.mem_singleton] at h1
    subst h1
    simpa using hx
theorem others_take {xs : List Int} {id : Int} {k : Nat} (h : k < xs.length) : others (xs.take (k + 1)) id = others (xs.take k) id ++ (if (xs[k] != id) = true then [xs[k]] else []) := by
 rw [← take_one h]
 unfold others
 rw [List.filter_append]
 congr 1
 cases hx : (xs[k] != id) <;> simp [hx]
theorem others_take_le {xs : List Int} {id : Int} {k : Nat} : (others (xs.take k) id).length ≤ k := by
 unfold others
 have := List.length_filter_le (· != id) (xs.take k)
 have h2 := List.length_take_le k xs
 omega
theorem del_r (N : Nat) (n : Node) (xs : List Int) (hx : xs.length ≤ 1099511627) : ∀ (d j m i : Nat) (cur : List Int), xs.length = j + d → d < m → i = (others (xs.take j) n.Id).length → cur.length = xs.length → cur.take i = others (xs.take j) n.Id → cur.drop j = xs.drop j →
  ∃ cur', slices_DeleteFunc_int_l1 N n m (i : Int) (j : Int) cur = some (((others xs n.Id).length : Int), cur') ∧ cur'.length = xs.length ∧ cur'.take (others xs n.Id).length = others xs n.Id
 | 0, j, m, i, cur, hd, hm, hi, hl, ht, hdr => by
  obtain ⟨m, rfl⟩ : ∃ q, m = q + 1 := ⟨m - 1, by omega⟩
  rw [slices_DeleteFunc_int_l1, if_neg (by simp; omega)]
  rw [List.take_of_length_le (l := xs) (by omega)] at hi ht
  subst hi
  exact ⟨cur, rfl, hl, ht⟩
 | d + 1, j, m, i, cur, hd, hm, hi, hl, ht, hdr => by
  obtain ⟨m, rfl⟩ : ∃ q, m = q + 1 := ⟨m - 1, by omega⟩
  have hj : j < xs.length := by omega
  have hjc : j < cur.length := by omega
  have hij : i ≤ j := by rw [hi]; exact others_take_le
  have hcj : cur[j] = xs[j] := by
   rw [List.drop_eq_getElem_cons hjc, List.drop_eq_getElem_cons hj] at hdr
   exact (List.cons.inj hdr).1
  have hdr' : cur.drop (j + 1) = xs.drop (j + 1) := by
   rw [List.drop_eq_getElem_cons hjc, List.drop_eq_getElem_cons hj] at hdr
   exact (List.cons.inj hdr).2
  rw [slices_DeleteFunc_int_l1, if_pos (by simp; omega), at_lt hjc]
  simp only [joinP, Option.bind_some, impl_othersOf_1, w64_succ (k := j) (by omega), hcj]
  have ho := others_take (id := n.Id) hj
  by_cases hx1 : xs[j] = n.Id
  ·rw [if_neg (by simp [hx1])]
   rw [if_neg (by simp [hx1]), List.append_nil] at ho
   exact del_r N n xs hx d (j + 1) m i cur (by omega) (by omega) (by rw [ho]; exact hi) hl (by rw [ho]; exact ht) hdr'
  ·rw [if_pos (by simpa using hx1), at_lt (xs := cur) (k := i) (by omega)]
   rw [if_pos (by simpa using hx1)] at ho
   simp only [Option.bind_some, w64_succ (k := i) (by omega), Int.toNat_natCast]
   refine del_r N n xs hx d (j + 1) m (i + 1) _ (by omega) (by omega) (by rw [ho]; simp [hi]) (by simp [hl]) ?_ ?_
   ·rw [take_set_succ (by omega), ht, ho]
   ·rw [List.drop_set, if_pos (by omega)]
    exact hdr'
theorem del_eq (N : Nat) (hN : Big N) (n : Node) (xs : List Int) (hx : xs.length ≤ 1099511627) : ∃ k ys, slices_DeleteFunc_int N xs n = some (k, ys) ∧ ys.take k = others xs n.Id ∧ k = (others xs n.Id).length ∧ xs.length = ys.length := by
 unfold slices_DeleteFunc_int slices_IndexFunc_int_i1
 simp only [joinP]
 rcases ixDel N xs n hx xs.length 0 N (by omega) (by omega) (by simp) with ⟨h1, h2⟩ | ⟨q, hq, h1, h2, h3⟩
 ·rw [show (0 : Int) = ((0 : Nat) : Int) from rfl, h1]
  have he : others xs n.Id = xs := by
   unfold others
   rw [List.filter_eq_self]
   intro a ha
   simp [bne, h2 a ha]
  exact ⟨xs.length, xs, by simp, by rw [he, List.take_length], by rw [he], rfl⟩
 ·rw [show (0 : Int) = ((0 : Nat) : Int) from rfl, h1]
  have ho : others (xs.take (q + 1)) n.Id = xs.take q := by
   rw [others_take hq]
   have hqe : xs[q] = n.Id := by rw [List.getElem?_eq_getElem hq] at h3; exact Option.some.inj h3
   rw [if_neg (by simp [hqe]), List.append_nil]
   unfold others
   rw [List.filter_eq_self]
   intro a ha
   simp [bne, h2 a ha]
  obtain ⟨cur, c1, c2, c3⟩ := del_r N n xs hx (xs.length - (q + 1)) (q + 1) N q xs (by omega) (by omega) (by rw [ho, List.length_take]; omega) rfl (by rw [ho]) rfl
  simp only [Option.bind_some, Sum.elim_inl, w64_succ (k := q) (by omega)]
  rw [if_neg (by simp), c1]
  have hle : (others xs n.Id).length ≤ cur.length := by rw [c2]; exact List.length_filter_le _ _
  simp only [Option.bind_some]
  rw [drop_ok hle]
  simp only [Option.bind_some, Int.toNat_natCast]
  have hclr : clr? ((0 : Nat) : Int) cur (others xs n.Id).length (cur.length - (others xs n.Id).length) = some (cur.take (others xs n.Id).length ++ (List.replicate (cur.length - (others xs n.Id).length) 0 ++ cur.drop ((others xs n.Id).length + (cur.length - (others xs n.Id).length)))) := by
   unfold clr?
   rw [if_pos (by omega)]
   rfl
  rw [hclr]
  simp only [Option.bind_some]
  rw [take_ok (by simp only [List.length_append, List.length_take]; omega)]
  refine ⟨_, _, rfl, ?_, rfl, by simp only [List.length_append, List.length_take, List.length_replicate, List.length_drop]; omega⟩
  rw [List.take_append_of_le_length (by rw [List.length_take]; omega), List.take_take, Nat.min_self]
  exact c3
theorem othersOf_impl (N : Nat) (hN : Big N) (n : Node) (hl : logOk n.Log = true) (h : totNode n ≤ 1099511627) : ∃ k ys, impl_othersOf N n = some (k, ys) ∧ ys.take k = others (confOf n) n.Id := by
 unfold impl_othersOf
 rw [confOf_impl N hN n hl h, Option.bind_some]
 have hc : n.Conf.length ≤ 1099511627 := by simp only [totNode, totL] at h; omega
 have hlen := confAt_len (n := n) (i := 100120)
 obtain ⟨k, ys, h1, h2, _, h4⟩ := del_eq N hN n (confOf n) (by unfold confOf; omega)
 refine ⟨k, ys, ?_, h2⟩
 rw [h1, Option.bind_some]
 simp only [len?]
 rw [if_pos h4]
 rfl
theorem equal_r (N : Nat) (a b : List Int) (ha : a.length ≤ 1099511627) (hl : a.length = b.length) : ∀ (d k : Nat), a.length = k + d → slices_Equal_int_l1_r N a b (a.drop k) (k : Int) = some (if a.drop k = b.drop k then .inr () else .inl false)
 | 0, k, h => by rw [List.drop_eq_nil_of_le (by omega), List.drop_eq_nil_of_le (by omega), slices_Equal_int_l1_r]; rfl
 | d + 1, k, h => by
  have hk : k < a.length := by omega
  have hkb : k < b.length := by omega
  rw [List.drop_eq_getElem_cons hk, List.drop_eq_getElem_cons hkb, slices_Equal_int_l1_r]
  simp only [Option.bind_some, at_lt hkb, w64_succ (k := k) (by omega), equal_r N a b ha hl d (k + 1) (by omega), List.cons.injEq]
  by_cases hx : a[k] = b[k] <;> simp [hx]
theorem equal_eq (N : Nat) (hN : Big N) (a b : List Int) (ha : a.length ≤ 1099511627) : slices_Equal_int N a b = some (decide (a = b)) := by
 unfold slices_Equal_int
 by_cases hl : a.length = b.length
 ·simp only [joinP]
  rw [if_neg (by simp [hl]), slices_Equal_int_l1_eq a b (by omega) (by omega), show (0 : Int) = ((0 : Nat) : Int) from rfl]
  have := equal_r N a b ha hl a.length 0 (by omega)
  rw [List.drop_zero, List.drop_zero] at this
  rw [this]
  by_cases he : a = b <;> simp [he]
 ·have : a ≠ b := fun h => hl (by rw [h])
  rw [if_pos (by simp; omega)]
  simp [this]
def logEnd (l : Log) : Int := l.Start + l.Entries.length
def logTerm (l : Log) : Int := match l.Entries.getLast? with | some e => e.Term | none => l.StartTerm
theorem logLast_gen {l : Log} (hl : logOk l = true) : (if ((l.Entries.length : Int) == (0 : Int)) = true then some (l.Start, l.StartTerm) else (at? l.Entries (w64 ((l.Entries.length : Int) - (1 : Int)))).bind fun x => some (w64 (l.Start + (l.Entries.length : Int)), x.Term)) = some (logEnd l, logTerm l) := by
 obtain ⟨a1, a2, a3, a4, a5, a6, a7⟩ := logOk_at hl
 unfold logEnd logTerm
 by_cases h : l.Entries.length = 0
 ·have he : l.Entries = [] := List.eq_nil_of_length_eq_zero h
  rw [he]
  simp
 ·rw [if_neg (by simp; intro hh; rw [hh] at h; simp at h), w64_id (by omega) (by omega), w64_id (by omega) (by omega), show (l.Entries.length : Int) - 1 = ((l.Entries.length - 1 : Nat) : Int) by omega, at_lt (by omega), List.getLast?_eq_getElem?, List.getElem?_eq_getElem (by omega)]
  rfl
theorem logLast_spec (N : Nat) {l : Log} (hl : logOk l = true) : spec_LogLast N l = some (logEnd l, logTerm l) := logLast_gen hl
theorem logLast_impl (N : Nat) {l : Log} (hl : logOk l = true) : impl_LogLast N l = some (logEnd l, logTerm l) := logLast_gen hl
theorem entOk_term {e : Entry} (h : entOk e = true) : 0 ≤ e.Term ∧ e.Term ≤ 100000 := by
 unfold entOk at h
 simp only [Bool.and_eq_true, decide_eq_true_eq] at h
 exact h.1
theorem termsOk_mem : ∀ {es : List Entry} {t : Int}, termsOk t es = true → ∀ e ∈ es, entOk e = true
 | x :: es, t, h, e, he => by
  rw [termsOk_cons] at h
  simp only [Bool.and_eq_true] at h
  rcases List.mem_cons.1 he with rfl | he
  ·exact h.1
  ·exact termsOk_mem h.2.2 e he
theorem logTerm_nn {l : Log} (hl : logOk l = true) : 0 ≤ logTerm l ∧ logTerm l ≤ 100000 := by
 obtain ⟨a1, a2, a3, a4, a5, a6, a7⟩ := logOk_at hl
 unfold logTerm
 cases h : l.Entries.getLast? with
 | none => exact ⟨a3, a4⟩
 | some e => exact entOk_term (termsOk_mem a7 e (List.mem_of_getLast? h))
def peerOk (last : Int) (p : Peer) : Bool := decide (1 ≤ p.Next ∧ p.Next ≤ last + 1) && (decide (0 ≤ p.Match ∧ p.Match ≤ w64 (p.Next - 1)) && decide (0 ≤ p.Sent ∧ p.Sent ≤ 20000))
def peersOk (n : Node) (ids : List Int) : Bool := decide (n.Peers.map (·.Id) = ids) && n.Peers.all (peerOk (logEnd n.Log))
theorem peers_ir (N : Nat) (n : Node) (hl : logOk n.Log = true) : ∀ (ps : List Peer) (k : Nat) (out : List Int), out.length + ps.length ≤ 1099511627 → k + ps.length ≤ 1099511627 → impl_peersOk_l1_r N n ps (k : Int) out = some (if ps.all (peerOk (logEnd n.Log)) then .inr (out ++ ps.map (·.Id)) else .inl false)
 | [], k, out, h, h2 => by simp [impl_peersOk_l1_r]
 | p :: ps, k, out, h, h2 => by
  simp only [List.length_cons] at h h2
  obtain ⟨a1, a2, a3, a4, a5, a6, a7⟩ := logOk_at hl
  rw [impl_peersOk_l1_r]
  simp only [Option.bind_some, impl_last, within_eq, w64_succ (k := k) (by omega)]
  rw [cat_ok (by simp only [List.length_cons, List.length_nil]; omega), w64_id (n := n.Log.Start + n.Log.Entries.length) (by omega) (by omega), w64_id (n := n.Log.Start + n.Log.Entries.length + 1) (by omega) (by omega)]
  simp only [Option.bind_some, peers_ir N n hl ps (k + 1) (out ++ [p.Id]) (by simp only [List.length_append, List.length_cons, List.length_nil]; omega) (by omega)]
  have e : peerOk (logEnd n.Log) p = (decide (1 ≤ p.Next ∧ p.Next ≤ n.Log.Start + n.Log.Entries.length + 1) && (decide (0 ≤ p.Match ∧ p.Match ≤ w64 (p.Next - 1)) && decide (0 ≤ p.Sent ∧ p.Sent ≤ 20000))) := rfl
  rw [List.all_cons, e]
  by_cases h1 : 1 ≤ p.Next ∧ p.Next ≤ n.Log.Start + n.Log.Entries.length + 1
  ·by_cases h2 : 0 ≤ p.Match ∧ p.Match ≤ w64 (p.Next - 1)
   ·by_cases h3 : 0 ≤ p.Sent ∧ p.Sent ≤ 20000
    ·simp only [h1, h2, h3, and_self, decide_true, Bool.not_true, Bool.false_eq_true, if_false, Bool.true_and, List.map_cons, List.append_assoc, List.cons_append, List.nil_append]
    ·simp [h3]
   ·simp [h2]
  ·simp [h1]
theorem peersOk_impl (N : Nat) (hN : Big N) (n : Node) (hl : logOk n.Log = true) (h : totNode n ≤ 1099511627) : impl_peersOk N n = some (peersOk n (others (confOf n) n.Id)) := by
 have hp : n.Peers.length ≤ 1099511627 := by simp only [totNode, totL] at h; omega
 unfold impl_peersOk peersOk
 simp only [joinP]
 obtain ⟨k, ys, h1, h2⟩ := othersOf_impl N hN n hl h
 rw [impl_peersOk_l1_eq n (by omega) (by omega), show (0 : Int) = ((0 : Nat) : Int) from rfl, peers_ir N n hl n.Peers 0 [] (by simp; omega) (by omega), h1]
 cases hall : n.Peers.all (peerOk (logEnd n.Log)) with
 | false => simp
 | true =>
  simp only [if_true, Option.bind_some, Sum.elim_inr, List.nil_append, h2, Bool.and_true]
  rw [equal_eq N hN _ _ (by simpa using hp)]
  rfl
theorem peers_sr (N : Nat) (n : Node) (y : Int × Int) (v : List Int) (hv : v.length ≤ 1099511627) (hl : n.Peers.length = v.length) (hy : 0 ≤ y.1 ∧ y.1 ≤ 200000) : ∀ (d k m : Nat), v.length = k + d → d < m → spec_NodeOk_l1 N n y v m (k : Int) = some (if (decide ((n.Peers.drop k).map (·.Id) = v.drop k) && (n.Peers.drop k).all (peerOk y.1)) = true then .inr () else .inl false)
 | 0, k, m, h, hm => by
  obtain ⟨m, rfl⟩ : ∃ q, m = q + 1 := ⟨m - 1, by omega⟩
  rw [spec_NodeOk_l1, if_neg (by simp; omega), List.drop_eq_nil_of_le (by omega), List.drop_eq_nil_of_le (by omega)]
  rfl
 | d + 1, k, m, h, hm => by
  obtain ⟨m, rfl⟩ : ∃ q, m = q + 1 := ⟨m - 1, by omega⟩
  have hk : k < v.length := by omega
  have hkp : k < n.Peers.length := by omega
  rw [spec_NodeOk_l1, if_pos (by simp; omega), at_lt hkp, at_lt hk]
  simp only [Option.bind_some, in_eq, w64_succ (k := k) (by omega), peers_sr N n y v hv hl hy d (k + 1) m (by omega) (by omega)]
  rw [w64_id (n := y.1 + 1) (by omega) (by omega), List.drop_eq_getElem_cons hk, List.drop_eq_getElem_cons hkp]
  have e : peerOk y.1 n.Peers[k] = (decide (1 ≤ n.Peers[k].Next ∧ n.Peers[k].Next ≤ y.1 + 1) && (decide (0 ≤ n.Peers[k].Match ∧ n.Peers[k].Match ≤ w64 (n.Peers[k].Next - 1)) && decide (0 ≤ n.Peers[k].Sent ∧ n.Peers[k].Sent ≤ 20000))) := rfl
  have hb : (decide ((n.Peers[k] :: n.Peers.drop (k + 1)).map (·.Id) = v[k] :: v.drop (k + 1)) && (n.Peers[k] :: n.Peers.drop (k + 1)).all (peerOk y.1)) = (decide (n.Peers[k].Id = v[k]) && (peerOk y.1 n.Peers[k] && (decide ((n.Peers.drop (k + 1)).map (·.Id) = v.drop (k + 1)) && (n.Peers.drop (k + 1)).all (peerOk y.1)))) := by
   rw [List.map_cons, List.all_cons]
   by_cases h0 : n.Peers[k].Id = v[k]
   ·simp only [h0, List.cons.injEq, true_and, decide_true, Bool.true_and]
    cases peerOk y.1 n.Peers[k] <;> simp
   ·simp only [List.cons.injEq, h0, false_and, decide_false, Bool.false_and]
  rw [hb, e]
  generalize (decide ((n.Peers.drop (k + 1)).map (·.Id) = v.drop (k + 1)) && (n.Peers.drop (k + 1)).all (peerOk y.1)) = z
  by_cases h0 : n.Peers[k].Id = v[k]
  ·by_cases h1 : 1 ≤ n.Peers[k].Next ∧ n.Peers[k].Next ≤ y.1 + 1
   ·by_cases h2 : 0 ≤ n.Peers[k].Match ∧ n.Peers[k].Match ≤ w64 (n.Peers[k].Next - 1)
    ·by_cases h3 : 0 ≤ n.Peers[k].Sent ∧ n.Peers[k].Sent ≤ 20000
     ·simp only [h0, h1, h2, h3, and_self, decide_true, Bool.not_true, Bool.false_eq_true, if_false, Bool.true_and, bne_self_eq_false]
     ·simp [h0, h3]
    ·simp [h0, h2]
   ·simp [h0, h1]
  ·simp [h0]
def nodeOk (n : Node) : Bool := decide (1 ≤ n.Id ∧ n.Id ≤ 4) && (confOk n.Conf && (logOk n.Log && (decide (logTerm n.Log ≤ n.Term ∧ n.Term ≤ 100000) && (decide (0 ≤ n.Vote ∧ n.Vote ≤ 4) && (decide (0 ≤ n.Lead ∧ n.Lead ≤ 4) && (decide (0 ≤ n.Role ∧ n.Role ≤ 2) && (decide (n.Log.Start ≤ n.Commit ∧ n.Commit ≤ logEnd n.Log) && (decide (1 ≤ n.Limit ∧ n.Limit ≤ 20) && (decide (0 ≤ n.Clock ∧ n.Clock ≤ 20) && (rise 1 4 none n.Votes && (decide (n.Role ≠ 1 → n.Votes.length = 0) && (if n.Role = 2 then peersOk n (others (confOf n) n.Id) else decide (n.Peers.length = 0)))))))))))))
theorem votes_r (N : Nat) (n : Node) (hc : n.Votes.length ≤ 1099511627776) : ∀ (d k : Nat), n.Votes.length = k + d → impl_NodeOk_l1_r N n (n.Votes.drop k) (k : Int) = some (if rise 1 4 (prev n.Votes k) (n.Votes.drop k) then .inr () else .inl false)
 | 0, k, h => by rw [List.drop_eq_nil_of_le (by omega), impl_NodeOk_l1_r]; rfl
 | d + 1, k, h => by
  have hk : k < n.Votes.length := by omega
  rw [rise_drop hk, List.drop_eq_getElem_cons hk, impl_NodeOk_l1_r]
  simp only [joinP, Option.bind_some, within_eq, w64_succ (k := k) (by omega), votes_r N n hc d (k + 1) (by omega)]
  by_cases h1 : (1 : Int) ≤ n.Votes[k] ∧ n.Votes[k] ≤ 4
  ·by_cases h0 : k = 0
   ·subst h0
    simp [h1]
   ·rw [at_pred hk h0 hc]
    have : (0 : Int) < k := by omega
    by_cases h2 : n.Votes[k - 1] < n.Votes[k]
    ·have h3 : ¬ n.Votes[k] ≤ n.Votes[k - 1] := by omega
     simp [h1, h0, h2, h3]
    ·have h3 : n.Votes[k] ≤ n.Votes[k - 1] := by omega
     simp [h1, h0, h2, h3]
  ·simp [h1]
theorem iteF {b x : Bool} : (if (!b) = true then some false else some x) = some (b && x) := by cases b <;> rfl
theorem iteF' {b : Bool} {y : Option Bool} {x : Bool} (h : b = true → y = some x) : (if (!b) = true then some false else y) = some (b && x) := by
 cases b with
 | false => rfl
 | true => simpa using h rfl
theorem nodeOk_impl (N : Nat) (hN : Big N) (n : Node) (h : totNode n ≤ 1099511627) : impl_NodeOk N n = some (nodeOk n) := by
 have hv : n.Votes.length ≤ 1099511627 := by simp only [totNode, totL] at h; omega
 have hcl : n.Conf.length ≤ 1099511627 := by simp only [totNode, totL] at h; omega
 have hd : totLog n.Log ≤ 1099511627 := by simp only [totNode] at h; omega
 unfold impl_NodeOk nodeOk
 simp only [within_eq, Option.bind_some, confOk_impl N hN n.Conf (by omega), logOk_impl N hN n.Log hd]
 refine iteF' fun _ => iteF' fun _ => iteF' fun hl => ?_
 rw [logLast_impl N hl]
 simp only [Option.bind_some]
 refine iteF' fun _ => iteF' fun _ => iteF' fun _ => iteF' fun _ => iteF' fun _ => iteF' fun _ => iteF' fun _ => ?_
 simp only [joinP]
 have hr := votes_r N n (by omega) n.Votes.length 0 (by omega)
 rw [List.drop_zero] at hr
 rw [impl_NodeOk_l1_eq n (by omega) (by omega), show (0 : Int) = ((0 : Nat) : Int) from rfl, hr, peersOk_impl N hN n hl h]
 simp only [prev, if_true, Option.bind_some]
 cases rise 1 4 none n.Votes with
 | false => rfl
 | true =>
  have hpe : ((n.Peers.length : Int) == (0 : Int)) = decide (n.Peers.length = 0) := by
   rw [Bool.eq_iff_iff]
   simp only [beq_iff_eq, decide_eq_true_eq]
   omega
  rw [show (((0 : Nat) : Int)) = (0 : Int) from rfl, hpe]
  simp only [if_true, Option.bind_some, Sum.elim_inr, Bool.true_and]
  generalize decide (n.Peers.length = 0) = q
  by_cases h2 : n.Role = 2
  ·by_cases hvl : n.Votes.length = 0
   ·simp [h2, hvl]
   ·have : 0 < n.Votes.length := by omega
    simp [h2, hvl, this]
  ·by_cases h1 : n.Role = 1
   ·simp [h1]
   ·by_cases hvl : n.Votes.length = 0
    ·simp [h2, h1, hvl]
    ·have : 0 < n.Votes.length := by omega
     simp [h1, hvl, this]
theorem peersOk_len {n : Node} {ids : List Int} (h : n.Peers.length ≠ ids.length) : peersOk n ids = false := by
 unfold peersOk
 have : n.Peers.map (·.Id) ≠ ids := fun he => h (by rw [← he]; simp)
 simp [this]
theorem nodeOk_spec (N : Nat) (hN : Big N) (n : Node) (h : totNode n ≤ 1099511627) : spec_NodeOk N n = some (nodeOk n) := by
 have hv : n.Votes.length ≤ 1099511627 := by simp only [totNode, totL] at h; omega
 have hcl : n.Conf.length ≤ 1099511627 := by simp only [totNode, totL] at h; omega
 have hpl : n.Peers.length ≤ 1099511627 := by simp only [totNode, totL] at h; omega
 have hd : totLog n.Log ≤ 1099511627 := by simp only [totNode] at h; omega
 unfold spec_NodeOk nodeOk
 simp only [in_eq, Option.bind_some, confOk_spec N hN n.Conf (by omega), logOk_spec N hN n.Log hd, rise_eq N hN n.Votes 1 4 (by omega)]
 refine iteF' fun _ => iteF' fun _ => iteF' fun hl => ?_
 obtain ⟨a1, a2, a3, a4, a5, a6, a7⟩ := logOk_at hl
 have ht := logTerm_nn hl
 rw [logLast_spec N hl]
 simp only [Option.bind_some, joinP]
 have hloop : ∀ v : List Int, v.length ≤ 1099511627 → (if ((n.Peers.length : Int) != ((v.length : Nat) : Int)) = true then some false else (spec_NodeOk_l1 N n (logEnd n.Log, logTerm n.Log) v N (0 : Int)).bind (Sum.elim (fun v => some v) (fun _ => some true))) = some (peersOk n v) := by
  intro v hvl
  by_cases hlen : n.Peers.length = v.length
  ·rw [if_neg (by simp [hlen]), show (0 : Int) = ((0 : Nat) : Int) from rfl, peers_sr N n _ v hvl hlen (by unfold logEnd; simp only; omega) v.length 0 N (by omega) (by omega)]
   simp only [List.drop_zero]
   unfold peersOk
   cases hq : (decide (n.Peers.map (·.Id) = v) && n.Peers.all (peerOk (logEnd n.Log))) <;> simp
  ·rw [if_pos (by simp; omega), peersOk_len hlen]
 have hco : (confOf n).length ≤ 1099511627 := by
  have := confAt_len (n := n) (i := 100120)
  unfold confOf
  omega
 have hoth : (others (confOf n) n.Id).length ≤ 1099511627 := by
  unfold others
  have := List.length_filter_le (· != n.Id) (confOf n)
  omega
 have hrest : (if (n.Role == (2 : Int)) = true then (spec_ConfOf N n).bind fun y_349 => (spec_l16Others N y_349 n.Id).bind fun v => (if ((n.Peers.length : Int) != ((v.length : Nat) : Int)) = true then some false else (spec_NodeOk_l1 N n (logEnd n.Log, logTerm n.Log) v N (0 : Int)).bind (Sum.elim (fun v => some v) (fun _ => some true))) else (if ((n.Peers.length : Int) != ((([] : List Int).length : Nat) : Int)) = true then some false else (spec_NodeOk_l1 N n (logEnd n.Log, logTerm n.Log) [] N (0 : Int)).bind (Sum.elim (fun v => some v) (fun _ => some true)))) = some (if n.Role = 2 then peersOk n (others (confOf n) n.Id) else decide (n.Peers.length = 0)) := by
  by_cases h2 : n.Role = 2
  ·rw [if_pos (by simp [h2]), if_pos h2, confOf_spec N hN n hl h, Option.bind_some, others_spec N hN (confOf n) n.Id hco, Option.bind_some, hloop _ hoth]
  ·rw [if_neg (by simp [h2]), if_neg h2, hloop [] (by simp)]
   congr 1
   by_cases hp : n.Peers.length = 0
   ·have : n.Peers = [] := List.eq_nil_of_length_eq_zero hp
    simp [peersOk, this]
   ·rw [peersOk_len (by simpa using hp)]
    simp [hp]
 rw [hrest]
 generalize (if n.Role = 2 then peersOk n (others (confOf n) n.Id) else decide (n.Peers.length = 0)) = z
 by_cases c1 : 0 ≤ n.Term ∧ n.Term ≤ 100000
 ·by_cases c2 : logTerm n.Log ≤ n.Term
  ·have c3 : ¬ n.Term < logTerm n.Log := by omega
   simp only [c1, c2, c3, and_self, decide_true, Bool.not_true, Bool.false_eq_true, if_false, decide_false, Bool.true_and]
   by_cases d1 : 0 ≤ n.Vote ∧ n.Vote ≤ 4 <;> by_cases d2 : 0 ≤ n.Lead ∧ n.Lead ≤ 4 <;> by_cases d3 : 0 ≤ n.Role ∧ n.Role ≤ 2 <;> simp only [d1, d2, d3, and_self, decide_true, decide_false, Bool.not_true, Bool.not_false, Bool.false_eq_true, if_false, if_true, Bool.true_and, Bool.false_and]
   by_cases d4 : n.Log.Start ≤ n.Commit ∧ n.Commit ≤ logEnd n.Log <;> by_cases d5 : 0 ≤ n.Clock ∧ n.Clock ≤ 20 <;> by_cases d6 : 1 ≤ n.Limit ∧ n.Limit ≤ 20 <;> simp only [d4, d5, d6, and_self, decide_true, decide_false, Bool.not_true, Bool.not_false, Bool.false_eq_true, if_false, if_true, Bool.true_and, Bool.false_and]
   cases rise 1 4 none n.Votes with
   | false => rfl
   | true =>
    by_cases h1 : n.Role = 1
    ·simp [h1]
    ·by_cases hvl : n.Votes.length = 0
     ·simp [h1, hvl]
     ·have : 0 < n.Votes.length := by omega
      simp [h1, hvl, this]
  ·have c3 : n.Term < logTerm n.Log := by omega
   have c4 : ¬ (logTerm n.Log ≤ n.Term ∧ n.Term ≤ 100000) := by omega
   simp only [c1, c3, c4, and_self, decide_true, decide_false, Bool.not_true, Bool.false_eq_true, if_false, if_true, Bool.false_and]
   by_cases d1 : 0 ≤ n.Vote ∧ n.Vote ≤ 4 <;> by_cases d2 : 0 ≤ n.Lead ∧ n.Lead ≤ 4 <;> by_cases d3 : 0 ≤ n.Role ∧ n.Role ≤ 2 <;> simp [d1, d2, d3, c2]
 ·have c4 : ¬ (logTerm n.Log ≤ n.Term ∧ n.Term ≤ 100000) := by omega
  simp [c1, c4]
def termAt (l : Log) (i : Int) : Int := if i = l.Start then l.StartTerm else match decide (l.Start < i ∧ i ≤ l.Start + l.Entries.length), l.Entries[(i - l.Start - 1).toNat]? with
 | true, some e => e.Term
 | _, _ => -1
theorem termAt_spec (N : Nat) {l : Log} (hl : logOk l = true) {i : Int} (hi : WI .i64 i) : spec_LogTerm N l i = some (termAt l i) := by
 obtain ⟨a1, a2, a3, a4, a5, a6, a7⟩ := logOk_at hl
 have hw := wi hi
 unfold spec_LogTerm spec_l12Last termAt
 by_cases h0 : i = l.Start
 ·rw [if_pos (by simpa using h0), if_pos h0]
 rw [if_neg (by simpa using h0), if_neg h0]
 simp only [Option.bind_some]
 rw [w64_id (n := l.Start + l.Entries.length) (by omega) (by omega)]
 by_cases h1 : i < l.Start
 ·have h2 : ¬ (l.Start < i ∧ i ≤ l.Start + l.Entries.length) := by omega
  rw [if_pos (by simpa using h1), decide_eq_false h2]
 ·rw [if_neg (by simpa using h1)]
  by_cases h3 : i > l.Start + l.Entries.length
  ·have h2 : ¬ (l.Start < i ∧ i ≤ l.Start + l.Entries.length) := by omega
   rw [if_pos (by simpa using h3), decide_eq_false h2]
  ·have h2 : l.Start < i ∧ i ≤ l.Start + l.Entries.length := by omega
   have h4 : (i - l.Start - 1).toNat < l.Entries.length := by omega
   rw [if_neg (by simpa using h3), w64_id (n := i - l.Start) (by omega) (by omega), w64_id (by omega) (by omega), decide_eq_true h2, show i - l.Start - 1 = (((i - l.Start - 1).toNat : Nat) : Int) by omega, at_lt h4]
   simp only [Option.bind_some, Int.toNat_natCast, List.getElem?_eq_getElem h4]
theorem termAt_impl (N : Nat) {l : Log} (hl : logOk l = true) {i : Int} (hi : WI .i64 i) : impl_LogTerm N l i = some (termAt l i) := by
 obtain ⟨a1, a2, a3, a4, a5, a6, a7⟩ := logOk_at hl
 have hw := wi hi
 unfold impl_LogTerm impl_hasEntry termAt
 by_cases h0 : i = l.Start
 ·rw [if_pos (by simpa using h0), if_pos h0]
 rw [if_neg (by simpa using h0), if_neg h0]
 simp only [within_eq, Option.bind_some]
 by_cases h1 : i > l.Start
 ·rw [if_pos (by simpa using h1), Option.bind_some, w64_id (n := i - l.Start) (by omega) (by omega)]
  by_cases h3 : i > l.Start + l.Entries.length
  ·have h2 : ¬ (l.Start < i ∧ i ≤ l.Start + l.Entries.length) := by omega
   rw [if_neg (by simp; omega), decide_eq_false h2]
  ·have h2 : l.Start < i ∧ i ≤ l.Start + l.Entries.length := by omega
   have h4 : (i - l.Start - 1).toNat < l.Entries.length := by omega
   rw [if_pos (by simp; omega), w64_id (by omega) (by omega), decide_eq_true h2, show i - l.Start - 1 = (((i - l.Start - 1).toNat : Nat) : Int) by omega, at_lt h4]
   simp only [Option.bind_some, Int.toNat_natCast, List.getElem?_eq_getElem h4]
 ·have h2 : ¬ (l.Start < i ∧ i ≤ l.Start + l.Entries.length) := by omega
  rw [if_neg (by simpa using h1), Option.bind_some, if_neg (by simp), decide_eq_false h2]
theorem copy_spec (N : Nat) (n : Node) (h : totNode n ≤ 1099511627) : spec_l16Copy N n = some n := by
 simp only [totNode, totLog, totL] at h
 unfold spec_l16Copy
 rw [cat_ok (by simp only [List.length_nil]; omega), cat_ok (by simp only [List.length_nil]; omega), cat_ok (by simp only [List.length_nil]; omega), cat_ok (by simp only [List.length_nil]; omega)]
 rfl
theorem copy_impl (N : Nat) (n : Node) (h : totNode n ≤ 1099511627) : impl_copyNode N n = some n := by
 simp only [totNode, totLog, totL] at h
 unfold impl_copyNode impl_copyLog
 rw [cat_ok (by simp only [List.length_nil]; omega), cat_ok (by simp only [List.length_nil]; omega), cat_ok (by simp only [List.length_nil]; omega), cat_ok (by simp only [List.length_nil]; omega)]
 rfl
theorem in_sr (N : Nat) (c : List Int) (y : Int) : ∀ (xs : List Int) (k : Nat), k + xs.length ≤ 1099511627776 → spec_l09In_l1_r N c y xs (k : Int) = some (if y ∈ xs then .inl true else .inr ()) := by
 intro xs
 induction xs with
 | nil => intro k _; rfl
 | cons x xs ih =>
  intro k hk
  simp only [List.length_cons] at hk
  rw [spec_l09In_l1_r, Option.bind_some]
  by_cases h : x = y
  ·subst h
   simp
  ·rw [if_neg (by simpa using h), w64_succ (by omega), ih (k + 1) (by omega)]
   have h' : ¬ y = x := fun e => h e.symm
   simp [h']
theorem in_spec (N : Nat) (hN : Big N) (c : List Int) (y : Int) (h : c.length ≤ 1099511627) : spec_l09In N c y = some (decide (y ∈ c)) := by
 unfold spec_l09In joinP
 rw [spec_l09In_l1_eq c y (by omega) (by have := hN; unfold Big at this; omega)]
 have := in_sr N c y c 0 (by omega)
 rw [show (0 : Int) = ((0 : Nat) : Int) from rfl, this]
 simp only [Option.bind_some]
 by_cases hy : y ∈ c <;> simp [hy]
def cnt (v : List Int) : List Int → Nat
 | [] => 0
 | x :: xs => (if x ∈ v then 1 else 0) + cnt v xs
theorem cnt_le_len (v : List Int) : ∀ xs : List Int, cnt v xs ≤ xs.length
 | [] => Nat.le_refl _
 | x :: xs => by
  have := cnt_le_len v xs
  simp only [cnt, List.length_cons]
  split <;> omega
def most (c v : List Int) : Bool := confOk c && decide ((2 * cnt v c : Int) > c.length)
theorem most_sr (N : Nat) (hN : Big N) (c v : List Int) (hv : v.length ≤ 1099511627) : ∀ (xs : List Int) (k a : Nat), k + xs.length ≤ 1099511627 → a ≤ k → spec_Most_l1_r N c v xs (a : Int) (k : Int) = some ((a + cnt v xs : Nat) : Int) := by
 intro xs
 induction xs with
 | nil => intro k a _ _; rfl
 | cons x xs ih =>
  intro k a hk ha
  simp only [List.length_cons] at hk
  rw [spec_Most_l1_r]
  unfold joinP
  simp only [Option.bind_some, in_spec N hN v x hv, w64_succ (k := k) (by omega), w64_succ (k := a) (by omega)]
  by_cases hx : x ∈ v
  ·rw [if_pos (by simpa using hx), ih (k + 1) (a + 1) (by omega) (by omega)]
   simp only [cnt, if_pos hx]
   congr 2
   omega
  ·rw [if_neg (by simpa using hx), ih (k + 1) a (by omega) (by omega)]
   simp only [cnt, if_neg hx, Nat.zero_add]
theorem most_spec (N : Nat) (hN : Big N) (c v : List Int) (hc : c.length ≤ 1099511627) (hv : v.length ≤ 1099511627) : spec_Most N c v = some (most c v) := by
 have hb := cnt_le_len v c
 have h0 := most_sr N hN c v hv c 0 0 (by omega) (Nat.le_refl _)
 unfold spec_Most joinP most
 rw [spec_Most_l1_eq c v (by omega) (by have := hN; unfold Big at this; omega)]
 rw [show (0 : Int) = ((0 : Nat) : Int) from rfl, h0]
 simp only [Option.bind_some, confOk_spec N hN c (by omega), Nat.zero_add]
 rw [w64_id (by omega) (by omega)]
 cases confOk c <;> simp
theorem wi_of {n : Int} (h0 : -9223372036854775808 ≤ n) (h1 : n ≤ 9223372036854775807) : WI .i64 n := by
 simp only [WI, Lit.wf, beq_iff_eq, decide_eq_true_eq, Bool.and_eq_true]
 exact ⟨h0, h1⟩
theorem tot_of {n : Node} (h : totNode n ≤ 1099511627) : n.Conf.length ≤ 1099511627 ∧ totLog n.Log ≤ 1099511627 ∧ n.Votes.length ≤ 1099511627 ∧ n.Peers.length ≤ 1099511627 := by
 simp only [totNode, totLog, totL] at h ⊢
 omega
theorem peer_next {l : Log} {p : Peer} (h : peerOk (logEnd l) p = true) : 1 ≤ p.Next ∧ p.Next ≤ l.Start + l.Entries.length + 1 := by
 unfold peerOk at h
 simp only [Bool.and_eq_true, decide_eq_true_eq] at h
 have h1 := h.1
 simp only [logEnd] at h1
 exact h1
def sendMsg (n : Node) (p : Peer) : Message :=
 if p.Next ≤ n.Log.Start then ⟨5, n.Id, p.Id, n.Term, n.Log.Start, n.Log.StartTerm, p.Sent, false, [], n.Conf, ⟨#[]⟩, false⟩
 else ⟨3, n.Id, p.Id, n.Term, p.Next - 1, termAt n.Log (p.Next - 1), n.Commit, false, (n.Log.Entries.drop (p.Next - n.Log.Start - 1).toNat).take 4, [], ⟨#[]⟩, false⟩
theorem send_l1 (N : Nat) (x : Tl16Run) (hl : x.n.Log.Entries.length ≤ 120) : ∀ (d m i : Nat) (acc : List Entry), x.n.Log.Entries.length = i + d → d < m → acc.length ≤ 4 →
  spec_l16Send_l1 N x m (i : Int) acc = some (acc ++ (x.n.Log.Entries.drop i).take (4 - acc.length)) := by
 intro d
 induction d with
 | zero =>
  intro m i acc hd hm ha
  obtain ⟨m, rfl⟩ : ∃ q, m = q + 1 := ⟨m - 1, by omega⟩
  rw [spec_l16Send_l1, if_neg (by simp; omega), List.drop_eq_nil_of_le (by omega)]
  simp
 | succ d ih =>
  intro m i acc hd hm ha
  obtain ⟨m, rfl⟩ : ∃ q, m = q + 1 := ⟨m - 1, by omega⟩
  have hi : i < x.n.Log.Entries.length := by omega
  rw [spec_l16Send_l1, if_pos (by simp; omega)]
  by_cases h4 : acc.length < 4
  ·rw [if_pos (by simp; omega), at_lt hi, Option.bind_some, cat_ok (by simp; omega), Option.bind_some, w64_succ (by omega), ih m (i + 1) _ (by omega) (by omega) (by simp; omega), List.drop_eq_getElem_cons hi]
   obtain ⟨q, hq⟩ : ∃ q, 4 - acc.length = q + 1 := ⟨4 - acc.length - 1, by omega⟩
   rw [hq, List.take_succ_cons]
   simp only [List.length_append, List.length_cons, List.length_nil, List.append_assoc, List.cons_append, List.nil_append]
   rw [show 4 - (acc.length + (0 + 1)) = q by omega]
  ·rw [if_neg (by simp; omega), show 4 - acc.length = 0 by omega]
   simp
theorem send_spec (N : Nat) (hN : Big N) (n : Node) (told : List Message) (p : Peer) (hl : logOk n.Log = true) (hp : peerOk (logEnd n.Log) p = true) (ht : told.length ≤ 1099511627) (hc : n.Conf.length ≤ 1099511627) :
  spec_l16Send N ⟨n, told⟩ p = some ⟨n, told ++ [sendMsg n p]⟩ := by
 obtain ⟨a1, a2, a3, a4, a5, a6, a7⟩ := logOk_at hl
 have hp2 := peer_next hp
 unfold spec_l16Send spec_l16Tell spec_l16Tell_i1 joinP sendMsg
 by_cases h1 : p.Next ≤ n.Log.Start
 ·rw [if_pos (by simpa using h1), if_pos h1]
  simp only
  rw [cat_ok (by simp only [List.length_nil]; omega), Option.bind_some, cat_ok (by simp; omega)]
  rfl
 ·rw [if_neg (by simpa using h1), if_neg h1]
  simp only
  have hw : WI .i64 (p.Next - 1) := wi_of (by omega) (by omega)
  rw [w64_id (n := p.Next - 1) (by omega) (by omega), w64_id (n := p.Next - n.Log.Start) (by omega) (by omega), w64_id (n := p.Next - n.Log.Start - 1) (by omega) (by omega), termAt_spec N hl hw, Option.bind_some]
  have := send_l1 N ⟨n, told⟩ a5 (n.Log.Entries.length - (p.Next - n.Log.Start - 1).toNat) N (p.Next - n.Log.Start - 1).toNat [] (by simp only; omega) (by have := hN; unfold Big at this; omega) (by simp)
  rw [Int.toNat_of_nonneg (by omega)] at this
  simp only at this
  rw [this, Option.bind_some]
  rw [cat_ok (by simp; omega)]
  rfl
theorem sendAll_s_l1 (N : Nat) (hN : Big N) (n : Node) (t0 : List Message) (hl : logOk n.Log = true) (hp : ∀ p ∈ n.Peers, peerOk (logEnd n.Log) p = true) (hc : n.Conf.length ≤ 1099511627) (hq : n.Peers.length ≤ 1000) : ∀ (d m i : Nat) (t : List Message), n.Peers.length = i + d → d < m → t.length + d ≤ 1099511627 →
  spec_l16SendAll_l1 N ⟨n, t0⟩ m (i : Int) n.Id n.Term n.Vote n.Role n.Lead n.Log.Start n.Log.StartTerm n.Commit n.Clock n.Limit t = some (n.Id, n.Term, n.Vote, n.Role, n.Lead, n.Log.Start, n.Log.StartTerm, n.Commit, n.Clock, n.Limit, t ++ (n.Peers.drop i).map (sendMsg n)) := by
 intro d
 induction d with
 | zero =>
  intro m i t hd hm ht
  obtain ⟨m, rfl⟩ : ∃ q, m = q + 1 := ⟨m - 1, by omega⟩
  rw [spec_l16SendAll_l1, if_neg (by simp; omega), List.drop_eq_nil_of_le (by omega)]
  simp
 | succ d ih =>
  intro m i t hd hm ht
  obtain ⟨m, rfl⟩ : ∃ q, m = q + 1 := ⟨m - 1, by omega⟩
  have hi : i < n.Peers.length := by omega
  have hs := send_spec N hN n t n.Peers[i] hl (hp _ (List.getElem_mem hi)) (by omega) hc
  rw [spec_l16SendAll_l1, if_pos (by simp; omega)]
  simp only
  rw [at_lt hi, Option.bind_some, show (Tl16Run.mk (Node.mk n.Id n.Term n.Vote n.Role n.Lead n.Conf (Log.mk n.Log.Start n.Log.StartTerm n.Log.Entries) n.Commit n.Clock n.Limit n.Votes n.Peers) t) = ⟨n, t⟩ from rfl, hs, Option.bind_some, w64_succ (by omega)]
  simp only
  rw [ih m (i + 1) _ (by omega) (by omega) (by simp; omega), List.drop_eq_getElem_cons hi]
  simp only [List.map_cons, List.append_assoc, List.cons_append, List.nil_append]
theorem sendAll_s (N : Nat) (hN : Big N) (n : Node) (t : List Message) (hl : logOk n.Log = true) (hp : ∀ p ∈ n.Peers, peerOk (logEnd n.Log) p = true) (hc : n.Conf.length ≤ 1099511627) (hq : n.Peers.length ≤ 1000) (ht : t.length ≤ 1099510000) :
  spec_l16SendAll N ⟨n, t⟩ = some ⟨n, [] ++ n.Peers.map (sendMsg n)⟩ := by
 have h := sendAll_s_l1 N hN n t hl hp hc hq n.Peers.length N 0 [] (by omega) (by have := hN; unfold Big at this; omega) (by simp only [List.length_nil]; omega)
 unfold spec_l16SendAll
 rw [show (0 : Int) = ((0 : Nat) : Int) from rfl]
 simp only
 rw [h, Option.bind_some]
 rfl
theorem sendAll_s1_l1 (N : Nat) (hN : Big N) (n : Node) (t0 : List Message) (hl : logOk n.Log = true) (hp : ∀ p ∈ n.Peers, peerOk (logEnd n.Log) p = true) (hc : n.Conf.length ≤ 1099511627) (hq : n.Peers.length ≤ 1000) : ∀ (d m i : Nat) (t : List Message), n.Peers.length = i + d → d < m → t.length + d ≤ 1099511627 →
  spec_l16SendAll_i1_l1 N ⟨n, t0⟩ m (i : Int) n.Id n.Term n.Vote n.Role n.Lead n.Log.Start n.Log.StartTerm n.Commit n.Clock n.Limit t = some (n.Id, n.Term, n.Vote, n.Role, n.Lead, n.Log.Start, n.Log.StartTerm, n.Commit, n.Clock, n.Limit, t ++ (n.Peers.drop i).map (sendMsg n)) := by
 intro d
 induction d with
 | zero =>
  intro m i t hd hm ht
  obtain ⟨m, rfl⟩ : ∃ q, m = q + 1 := ⟨m - 1, by omega⟩
  rw [spec_l16SendAll_i1_l1, if_neg (by simp; omega), List.drop_eq_nil_of_le (by omega)]
  simp
 | succ d ih =>
  intro m i t hd hm ht
  obtain ⟨m, rfl⟩ : ∃ q, m = q + 1 := ⟨m - 1, by omega⟩
  have hi : i < n.Peers.length := by omega
  have hs := send_spec N hN n t n.Peers[i] hl (hp _ (List.getElem_mem hi)) (by omega) hc
  rw [spec_l16SendAll_i1_l1, if_pos (by simp; omega)]
  simp only
  rw [at_lt hi, Option.bind_some, show (Tl16Run.mk (Node.mk n.Id n.Term n.Vote n.Role n.Lead n.Conf (Log.mk n.Log.Start n.Log.StartTerm n.Log.Entries) n.Commit n.Clock n.Limit n.Votes n.Peers) t) = ⟨n, t⟩ from rfl, hs, Option.bind_some, w64_succ (by omega)]
  simp only
  rw [ih m (i + 1) _ (by omega) (by omega) (by simp; omega), List.drop_eq_getElem_cons hi]
  simp only [List.map_cons, List.append_assoc, List.cons_append, List.nil_append]
theorem sendAll_s1 (N : Nat) (hN : Big N) (n : Node) (t : List Message) (hl : logOk n.Log = true) (hp : ∀ p ∈ n.Peers, peerOk (logEnd n.Log) p = true) (hc : n.Conf.length ≤ 1099511627) (hq : n.Peers.length ≤ 1000) (ht : t.length ≤ 1099510000) :
  spec_l16SendAll_i1 N ⟨n, t⟩ = some ⟨n, t ++ n.Peers.map (sendMsg n)⟩ := by
 have h := sendAll_s1_l1 N hN n t hl hp hc hq n.Peers.length N 0 t (by omega) (by have := hN; unfold Big at this; omega) (by omega)
 unfold spec_l16SendAll_i1
 rw [show (0 : Int) = ((0 : Nat) : Int) from rfl]
 simp only
 rw [h, Option.bind_some]
 rfl
def ids (n : Node) (i : Int) : List Int := n.Id :: (n.Peers.filter (fun p => decide (p.Match ≥ i))).map (·.Id)
theorem ids_len (n : Node) (i : Int) : (ids n i).length ≤ n.Peers.length + 1 := by
 have := List.length_filter_le (fun p : Peer => decide (p.Match ≥ i)) n.Peers
 simp only [ids, List.length_cons, List.length_map]
 omega
theorem com_sl2 (N : Nat) (x : Tl16Run) (i : Int) (hq : x.n.Peers.length ≤ 1000) : ∀ (d m k : Nat) (acc : List Int), x.n.Peers.length = k + d → d < m → acc.length + d ≤ 100000 →
  spec_l16Commit_l2 N x i m (k : Int) acc = some (acc ++ ((x.n.Peers.drop k).filter (fun p => decide (p.Match ≥ i))).map (·.Id)) := by
 intro d
 induction d with
 | zero =>
  intro m k acc hd hm ha
  obtain ⟨m, rfl⟩ : ∃ q, m = q + 1 := ⟨m - 1, by omega⟩
  rw [spec_l16Commit_l2, if_neg (by simp; omega), List.drop_eq_nil_of_le (by omega)]
  simp
 | succ d ih =>
  intro m k acc hd hm ha
  obtain ⟨m, rfl⟩ : ∃ q, m = q + 1 := ⟨m - 1, by omega⟩
  have hi : k < x.n.Peers.length := by omega
  rw [spec_l16Commit_l2, if_pos (by simp; omega)]
  unfold joinP
  simp only [at_lt hi, Option.bind_some, w64_succ (k := k) (by omega)]
  rw [List.drop_eq_getElem_cons hi]
  by_cases h : x.n.Peers[k].Match ≥ i
  ·rw [if_pos (by simpa using h), cat_ok (by simp; omega), Option.bind_some, ih m (k + 1) _ (by omega) (by omega) (by simp; omega), List.filter_cons_of_pos (by simpa using h)]
   simp only [List.map_cons, List.append_assoc, List.cons_append, List.nil_append]
  ·rw [if_neg (by simpa using h), ih m (k + 1) _ (by omega) (by omega) (by omega), List.filter_cons_of_neg (by simpa using h)]
def good (n : Node) (c : List Int) (i : Int) : Bool := (termAt n.Log i == n.Term) && most c (ids n i)
def comTo (n : Node) (c : List Int) : Nat → Int
 | 0 => n.Commit
 | d + 1 => if good n c (n.Commit + (d + 1 : Nat)) = true then n.Commit + (d + 1 : Nat) else comTo n c d
theorem comTo_le (n : Node) (c : List Int) : ∀ d : Nat, n.Commit ≤ comTo n c d ∧ comTo n c d ≤ n.Commit + d
 | 0 => by simp [comTo]
 | d + 1 => by
  have := comTo_le n c d
  unfold comTo
  split <;> omega
theorem com_sl1 (N : Nat) (hN : Big N) (n : Node) (t : List Message) (c : List Int) (hl : logOk n.Log = true) (hq : n.Peers.length ≤ 1000) (hc : c.length ≤ 1000) (h0 : 0 ≤ n.Commit) : ∀ (d m : Nat), n.Commit + d ≤ 200000 → d + 1 < m →
  spec_l16Commit_l1 N ⟨n, t⟩ c m (n.Commit + d) n.Commit = some (comTo n c d) := by
 intro d
 induction d with
 | zero =>
  intro m hb hm
  obtain ⟨m, rfl⟩ : ∃ q, m = q + 1 := ⟨m - 1, by omega⟩
  rw [spec_l16Commit_l1, if_neg (by simp)]
  rfl
 | succ d ih =>
  intro m hb hm
  obtain ⟨m, rfl⟩ : ∃ q, m = q + 1 := ⟨m - 1, by omega⟩
  have h2 := com_sl2 N ⟨n, t⟩ (n.Commit + (d + 1 : Nat)) hq n.Peers.length N 0 [n.Id] (by simp only; omega) (by have := hN; unfold Big at this; omega) (by simp; omega)
  have hi : n.Id :: ((n.Peers.drop 0).filter (fun p => decide (p.Match ≥ n.Commit + (d + 1 : Nat)))).map (·.Id) = ids n (n.Commit + (d + 1 : Nat)) := rfl
  simp only [List.cons_append, List.nil_append] at h2
  rw [hi] at h2
  have hll := ids_len n (n.Commit + (d + 1 : Nat))
  have hw : w64 (n.Commit + (d + 1 : Nat) - 1) = n.Commit + d := by rw [w64_id (by omega) (by omega)]; omega
  rw [spec_l16Commit_l1, if_pos (by simp; omega)]
  unfold joinP
  rw [show (0 : Int) = ((0 : Nat) : Int) from rfl]
  simp only [h2, Option.bind_some, termAt_spec N hl (i := n.Commit + (d + 1 : Nat)) (wi_of (by omega) (by omega)), hw, most_spec N hN c (ids n (n.Commit + (d + 1 : Nat))) (by omega) (by omega), ih m (by omega) (by omega)]
  obtain ⟨m, rfl⟩ : ∃ q, m = q + 1 := ⟨m - 1, by omega⟩
  have hdone : spec_l16Commit_l1 N ⟨n, t⟩ c (m + 1) (n.Commit + d) (n.Commit + (d + 1 : Nat)) = some (n.Commit + (d + 1 : Nat)) := by
   rw [spec_l16Commit_l1, if_neg (by simp; omega)]
  rw [hdone]
  rw [comTo]
  unfold good
  by_cases g1 : termAt n.Log (n.Commit + (d + 1 : Nat)) = n.Term
  ·rw [if_pos (by simpa using g1)]
   by_cases g2 : most c (ids n (n.Commit + (d + 1 : Nat))) = true
   ·rw [if_pos g2, if_pos (by rw [g1, g2, beq_self_eq_true]; rfl)]
   ·rw [if_neg g2, if_neg (by rw [Bool.eq_false_iff.2 g2]; simp)]
  ·rw [if_neg (by simpa using g1), if_neg (by rw [beq_false_of_ne g1]; simp)]
def confIx : List Entry → Option Nat
 | [] => none
 | e :: es => match confIx es with
  | some q => some (q + 1)
  | none => if (e.Kind == 2) = true then some 0 else none
theorem confIx_snoc (e : Entry) : ∀ es : List Entry, confIx (es ++ [e]) = if (e.Kind == 2) = true then some es.length else confIx es
 | [] => by
  simp only [List.nil_append, confIx]
  split <;> rfl
 | x :: es => by
  simp only [List.cons_append, confIx, confIx_snoc e es, List.length_cons]
  cases (e.Kind == 2) with
  | true => simp
  | false => simp
theorem confIx_lt : ∀ {es : List Entry} {q : Nat}, confIx es = some q → q < es.length
 | e :: es, q, h => by
  simp only [confIx] at h
  simp only [List.length_cons]
  split at h
  ·rename_i q' hq
   have := confIx_lt hq
   simp only [Option.some.injEq] at h
   omega
  ·split at h
   ·simp only [Option.some.injEq] at h; omega
   ·cases h
theorem cix_sr (N : Nat) (x : Node) (hs : 0 ≤ x.Log.Start ∧ x.Log.Start ≤ 100000) : ∀ (es : List Entry) (k : Nat) (acc : Int), k + es.length ≤ 1000 → spec_l16ConfIndex_l1_r N x es acc (k : Int) = some (match confIx es with | some q => x.Log.Start + 1 + k + q | none => acc) := by
 intro es
 induction es with
 | nil => intro k acc _; rfl
 | cons e es ih =>
  intro k acc hk
  simp only [List.length_cons] at hk
  rw [spec_l16ConfIndex_l1_r]
  unfold joinP
  simp only [Option.bind_some, w64_succ (k := k) (by omega), ih (k + 1) _ (by omega)]
  rw [w64_id (n := x.Log.Start + 1) (by omega) (by omega), w64_id (n := x.Log.Start + 1 + k) (by omega) (by omega)]
  simp only [confIx]
  cases confIx es with
  | some q =>
   simp only
   split <;> (congr 1; omega)
  | none =>
   simp only
   split <;> simp
theorem cix_spec (N : Nat) (hN : Big N) (x : Node) (hl : logOk x.Log = true) : spec_l16ConfIndex N x = some (match confIx x.Log.Entries with | some q => x.Log.Start + 1 + q | none => x.Log.Start) := by
 obtain ⟨a1, a2, a3, a4, a5, a6, a7⟩ := logOk_at hl
 have h := cix_sr N x ⟨a1, a2⟩ x.Log.Entries 0 x.Log.Start (by omega)
 unfold spec_l16ConfIndex joinP
 rw [spec_l16ConfIndex_l1_eq x (by omega) (by have := hN; unfold Big at this; omega)]
 rw [show (0 : Int) = ((0 : Nat) : Int) from rfl, h]
 cases confIx x.Log.Entries with
 | none => rfl
 | some q => simp
def fol (n : Node) (v : Int) : Bool := match confIx n.Log.Entries with | some q => decide (n.Log.Start + 1 + q ≤ v) | none => true
def commitN (n : Node) : Node :=
 if n.Role = 2 ∧ n.Id ∉ confOf n ∧ fol n (comTo n (confOf n) (logEnd n.Log - n.Commit).toNat) = true then ⟨n.Id, n.Term, n.Vote, 0, 0, n.Conf, n.Log, comTo n (confOf n) (logEnd n.Log - n.Commit).toNat, n.Clock, n.Limit, [], []⟩
 else ⟨n.Id, n.Term, n.Vote, n.Role, n.Lead, n.Conf, n.Log, comTo n (confOf n) (logEnd n.Log - n.Commit).toNat, n.Clock, n.Limit, n.Votes, n.Peers⟩
theorem confOf_len {n : Node} (h : n.Conf.length ≤ 1000) : (confOf n).length ≤ 1000 := by
 have := confAt_len (n := n) (i := 100120)
 unfold confOf
 omega
theorem commit_spec (N : Nat) (hN : Big N) (n : Node) (t : List Message) (hl : logOk n.Log = true) (ht : totNode n ≤ 1099511627) (hq : n.Peers.length ≤ 1000) (hc : n.Conf.length ≤ 1000) (hm : n.Log.Start ≤ n.Commit ∧ n.Commit ≤ logEnd n.Log) : spec_l16Commit N ⟨n, t⟩ = some ⟨commitN n, t⟩ := by
 obtain ⟨a1, a2, a3, a4, a5, a6, a7⟩ := logOk_at hl
 have hcl := confOf_len hc
 simp only [logEnd] at hm
 obtain ⟨d, hd⟩ : ∃ d : Nat, n.Log.Start + n.Log.Entries.length = n.Commit + d := ⟨(n.Log.Start + n.Log.Entries.length - n.Commit).toNat, by omega⟩
 have h1 := com_sl1 N hN n t (confOf n) hl hq hcl (by omega) d N (by omega) (by have := hN; unfold Big at this; omega)
 have hb := comTo_le n (confOf n) d
 have hk : (logEnd n.Log - n.Commit).toNat = d := by simp only [logEnd]; omega
 unfold spec_l16Commit spec_l12Last spec_l16Follow joinP commitN
 rw [hk]
 simp only [confOf_spec N hN n hl ht, Option.bind_some]
 rw [w64_id (n := n.Log.Start + n.Log.Entries.length) (by omega) (by omega), hd, h1]
 simp only [Option.bind_some, in_spec N hN (confOf n) n.Id (by omega)]
 generalize comTo n (confOf n) d = v at hb
 by_cases hr : n.Role = 2
 ·rw [if_pos (by simpa using hr)]
  by_cases hi : n.Id ∈ confOf n
  ·rw [if_neg (by simpa using hi), if_neg (fun h => h.2.1 hi)]
  ·have hcx := cix_spec N hN (Node.mk n.Id n.Term n.Vote n.Role n.Lead n.Conf n.Log v n.Clock n.Limit n.Votes n.Peers) hl
   rw [if_pos (by simpa using hi)]
   simp only [hcx, Option.bind_some]
   have hiff : decide ((match confIx n.Log.Entries with | some q => n.Log.Start + 1 + (q : Int) | none => n.Log.Start) ≤ v) = fol n v := by
    unfold fol
    cases hx : confIx n.Log.Entries with
    | none => simp; omega
    | some q => rfl
   rw [hiff]
   by_cases hf : fol n v = true
   ·rw [if_pos hf, if_pos ⟨hr, hi, hf⟩]
   ·rw [if_neg hf, if_neg (fun h => hf h.2.2)]
 ·rw [if_neg (by simpa using hr), if_neg (fun h => hr h.1)]
theorem othersOf_len (N : Nat) (hN : Big N) (n : Node) (hl : logOk n.Log = true) (h : totNode n ≤ 1099511627) : ∃ k ys, impl_othersOf N n = some (k, ys) ∧ ys.take k = others (confOf n) n.Id ∧ k = (others (confOf n) n.Id).length := by
 unfold impl_othersOf
 rw [confOf_impl N hN n hl h, Option.bind_some]
 have hc : n.Conf.length ≤ 1099511627 := by simp only [totNode, totL] at h; omega
 have hlen := confAt_len (n := n) (i := 100120)
 obtain ⟨k, ys, h1, h2, h3, h4⟩ := del_eq N hN n (confOf n) (by unfold confOf; omega)
 refine ⟨k, ys, ?_, h2, h3⟩
 rw [h1, Option.bind_some]
 simp only [len?]
 rw [if_pos h4]
 rfl
def grown (n : Node) : List Entry := if n.Log.Entries.length < 120 ∧ logEnd n.Log < 100000 then n.Log.Entries ++ [⟨n.Term, 1, ⟨#[]⟩⟩] else n.Log.Entries
def newLog (n : Node) : Log := ⟨n.Log.Start, n.Log.StartTerm, grown n⟩
def lead1 (n : Node) (ps : List Peer) : Node := ⟨n.Id, n.Term, n.Vote, 2, n.Id, n.Conf, newLog n, n.Commit, n.Clock, n.Limit, [], ps⟩
def lead0 (n : Node) : Node := lead1 n ((others (confOf (lead1 n [])) n.Id).map (fun x => ⟨x, logEnd n.Log + 1, 0, 0⟩))
def leadN (n : Node) : Node := commitN (lead0 n)
theorem termsOk_snoc : ∀ (es : List Entry) (t : Int) (e : Entry), termsOk t es = true → entOk e = true → (match es.getLast? with | some x => x.Term | none => t) ≤ e.Term → termsOk t (es ++ [e]) = true
 | [], t, e, _, he, hl => by
  simp only [List.nil_append, termsOk_cons, he, Bool.true_and, Bool.and_eq_true, decide_eq_true_eq]
  exact ⟨hl, rfl⟩
 | x :: es, t, e, h, he, hl => by
  simp only [List.cons_append, termsOk_cons, Bool.and_eq_true, decide_eq_true_eq] at h ⊢
  refine ⟨h.1, h.2.1, termsOk_snoc es x.Term e h.2.2 he ?_⟩
  cases es with
  | nil => exact hl
  | cons y es =>
   rw [List.getLast?_cons_cons] at hl
   cases hq : (y :: es).getLast? with
   | none => simp at hq
   | some z => rw [hq] at hl; exact hl
theorem newLog_ok {n : Node} (hl : logOk n.Log = true) (ht : logTerm n.Log ≤ n.Term ∧ n.Term ≤ 100000) : logOk (newLog n) = true := by
 obtain ⟨a1, a2, a3, a4, a5, a6, a7⟩ := logOk_at hl
 have h0 := logTerm_nn hl
 unfold newLog grown
 split
 ·rename_i hg
  simp only [logEnd] at hg
  have he : entOk ⟨n.Term, 1, ⟨#[]⟩⟩ = true := by
   unfold entOk
   simp only [Bool.and_eq_true, decide_eq_true_eq]
   exact ⟨⟨by omega, by omega⟩, by simp⟩
  have h1 := termsOk_snoc n.Log.Entries n.Log.StartTerm ⟨n.Term, 1, ⟨#[]⟩⟩ a7 he (by have := ht.1; unfold logTerm at this; exact this)
  unfold logOk
  simp only [h1, List.length_append, List.length_cons, List.length_nil, Bool.and_true, Bool.and_eq_true, decide_eq_true_eq]
  refine ⟨⟨a1, a2⟩, ⟨a3, a4⟩, by omega, by omega⟩
 ·exact hl
theorem grown_len {n : Node} (h : n.Log.Entries.length ≤ 120) : (grown n).length ≤ 120 ∧ n.Log.Entries.length ≤ (grown n).length := by
 unfold grown
 split
 ·rename_i hg
  simp only [List.length_append, List.length_cons, List.length_nil]
  omega
 ·omega
theorem others_len (c : List Int) (i : Int) : (others c i).length ≤ c.length := List.length_filter_le _ _
theorem sum_snoc {α : Type} {f : α → Nat} {xs : List α} {y : α} : ((xs ++ [y]).map f).sum = (xs.map f).sum + f y := by simp
theorem lead1_tot (n : Node) (ps : List Peer) (hp : ps.length ≤ 1000) : totNode (lead1 n ps) ≤ totNode n + 4000 := by
 have hz : ∀ {α : Type} (xs : List α), (xs.map (fun _ => 0)).sum = 0 := fun xs => by induction xs <;> simp_all
 simp only [lead1, newLog, totNode, totLog, totL, hz, List.length_nil, List.map_nil, List.sum_nil]
 have hps : (ps.map totPeer).sum = 0 := by
  have : totPeer = fun _ => 0 := rfl
  rw [this, hz]
 have hps2 : (n.Peers.map totPeer).sum = 0 := by
  have : totPeer = fun _ => 0 := rfl
  rw [this, hz]
 try simp only [hps, hps2]
 unfold grown
 split
 ·simp only [sum_snoc, List.length_append, List.length_cons, List.length_nil]
  have : totEntry ⟨n.Term, 1, ⟨#[]⟩⟩ = 0 := rfl
  omega
 ·omega
theorem commitN_log (n : Node) : (commitN n).Log = n.Log := by unfold commitN; split <;> rfl
theorem commitN_conf (n : Node) : (commitN n).Conf = n.Conf := by unfold commitN; split <;> rfl
theorem commitN_peers (n : Node) : (commitN n).Peers = [] ∨ (commitN n).Peers = n.Peers := by
 unfold commitN
 split
 ·exact .inl rfl
 ·exact .inr rfl
theorem room_spec (N : Nat) (x : Node) (hl : logOk x.Log = true) : spec_l16Room N x = some (decide (x.Log.Entries.length < 120 ∧ logEnd x.Log < 100000)) := by
 obtain ⟨a1, a2, a3, a4, a5, a6, a7⟩ := logOk_at hl
 unfold spec_l16Room spec_l12Last logEnd
 by_cases h : x.Log.Entries.length < 120
 ·rw [if_pos (by simp; omega), Option.bind_some, w64_id (by omega) (by omega)]
  simp [h]
 ·rw [if_neg (by simp; omega)]
  simp [h]
theorem nodeOk_at {n : Node} (h : nodeOk n = true) : (1 ≤ n.Id ∧ n.Id ≤ 4) ∧ confOk n.Conf = true ∧ logOk n.Log = true ∧ (logTerm n.Log ≤ n.Term ∧ n.Term ≤ 100000) ∧ (n.Log.Start ≤ n.Commit ∧ n.Commit ≤ logEnd n.Log) ∧ (1 ≤ n.Limit ∧ n.Limit ≤ 20) ∧ (0 ≤ n.Clock ∧ n.Clock ≤ 20) ∧ (n.Role ≠ 1 → n.Votes.length = 0) ∧ (if n.Role = 2 then peersOk n (others (confOf n) n.Id) else decide (n.Peers.length = 0)) = true := by
 unfold nodeOk at h
 simp only [Bool.and_eq_true, decide_eq_true_eq] at h
 exact ⟨h.1, h.2.1, h.2.2.1, h.2.2.2.1, h.2.2.2.2.2.2.2.1, h.2.2.2.2.2.2.2.2.1, h.2.2.2.2.2.2.2.2.2.1, h.2.2.2.2.2.2.2.2.2.2.2.1, h.2.2.2.2.2.2.2.2.2.2.2.2⟩
def zNode : Node := ⟨0, 0, 0, 0, 0, [], ⟨0, 0, []⟩, 0, 0, 0, [], []⟩
theorem lead_sl1 (N : Nat) (e : Int) (he : 0 ≤ e ∧ e ≤ 200000) (c : List Int) (hc : c.length ≤ 1000) : ∀ (d m i : Nat) (acc : List Peer), c.length = i + d → d < m → acc.length + d ≤ 100000 →
  spec_l16Lead_l1 N e c m (i : Int) acc = some (acc ++ (c.drop i).map (fun x => ⟨x, e + 1, 0, 0⟩)) := by
 intro d
 induction d with
 | zero =>
  intro m i acc hd hm ha
  obtain ⟨m, rfl⟩ : ∃ q, m = q + 1 := ⟨m - 1, by omega⟩
  rw [spec_l16Lead_l1, if_neg (by simp; omega), List.drop_eq_nil_of_le (by omega)]
  simp
 | succ d ih =>
  intro m i acc hd hm ha
  obtain ⟨m, rfl⟩ : ∃ q, m = q + 1 := ⟨m - 1, by omega⟩
  have hi : i < c.length := by omega
  rw [spec_l16Lead_l1, if_pos (by simp; omega), at_lt hi, Option.bind_some, cat_ok (by simp; omega), Option.bind_some, w64_succ (by omega), ih m (i + 1) _ (by omega) (by omega) (by simp; omega), w64_id (n := e + 1) (by omega) (by omega), List.drop_eq_getElem_cons hi]
  simp only [List.map_cons, List.append_assoc, List.cons_append, List.nil_append]
def tailS (N : Nat) (n : Node) (e : Int) (v : List Entry) : Option Tl16Run :=
 (spec_ConfOf N (Node.mk n.Id n.Term n.Vote (2 : Int) n.Id n.Conf (Log.mk n.Log.Start n.Log.StartTerm v) n.Commit n.Clock n.Limit ([] : List Int) n.Peers)).bind fun y_229 =>
 (spec_l16Others N y_229 n.Id).bind fun y_230 =>
 (spec_l16Lead_l1 N e y_230 N (0 : Int) ([] : List Peer)).bind fun v_271 =>
 (spec_l16Commit N (Tl16Run.mk (Node.mk n.Id n.Term n.Vote (2 : Int) n.Id n.Conf (Log.mk n.Log.Start n.Log.StartTerm v) n.Commit n.Clock n.Limit ([] : List Int) v_271) [])).bind fun y_313 =>
 (spec_l16SendAll_i1 N y_313).bind fun y_315 => some y_315
theorem lead_sdef (N : Nat) (n : Node) : spec_l16Lead N ⟨n, []⟩ = (spec_l12Last N n.Log).bind fun e => (spec_l16Room N (Node.mk n.Id n.Term n.Vote (2 : Int) n.Id n.Conf n.Log n.Commit n.Clock n.Limit ([] : List Int) n.Peers)).bind fun y =>
  if y = true then (cat? n.Log.Entries ([(Entry.mk n.Term (1 : Int) (⟨#[]⟩ : ByteArray))] : List Entry)).bind fun x => tailS N n e x else tailS N n e n.Log.Entries := by
 unfold spec_l16Lead joinP tailS
 rfl
theorem lead_peers (n : Node) (hl : logOk n.Log = true) : ∀ p ∈ (leadN n).Peers, peerOk (logEnd (leadN n).Log) p = true := by
 obtain ⟨a1, a2, a3, a4, a5, a6, a7⟩ := logOk_at hl
 have hg := grown_len (n := n) a5
 intro p hp
 have hlog : (leadN n).Log = newLog n := by unfold leadN; rw [commitN_log]; rfl
 rcases commitN_peers (lead0 n) with h | h
 ·unfold leadN at hp
  rw [h] at hp
  cases hp
 ·unfold leadN at hp
  rw [h] at hp
  obtain ⟨x, _, rfl⟩ := List.mem_map.1 hp
  rw [hlog]
  unfold peerOk newLog logEnd
  simp only [Bool.and_eq_true, decide_eq_true_eq]
  rw [w64_id (by omega) (by omega)]
  refine ⟨⟨by omega, by omega⟩, ⟨by omega, by omega⟩, by omega, by omega⟩
theorem lead0_len (n : Node) (hc : n.Conf.length ≤ 4) : (lead0 n).Peers.length ≤ 4 := by
 have h1 := others_len (confOf (lead1 n [])) n.Id
 have h2 := confAt_len (n := lead1 n []) (i := 100120)
 have h3 : (lead1 n []).Conf = n.Conf := rfl
 show ((others (confOf (lead1 n [])) n.Id).map _).length ≤ 4
 rw [List.length_map]
 rw [h3] at h2
 have h4 : (confOf (lead1 n [])).length ≤ max 4 n.Conf.length := h2
 omega
theorem tail_spec (N : Nat) (hN : Big N) (n : Node) (hl : logOk n.Log = true) (ht : totNode n ≤ 1099500000) (hc : n.Conf.length ≤ 4) (hq : n.Peers.length ≤ 1000) (hm : n.Log.Start ≤ n.Commit ∧ n.Commit ≤ logEnd n.Log) (htm : logTerm n.Log ≤ n.Term ∧ n.Term ≤ 100000) :
  tailS N n (logEnd n.Log) (grown n) = some ⟨leadN n, (leadN n).Peers.map (sendMsg (leadN n))⟩ := by
 obtain ⟨a1, a2, a3, a4, a5, a6, a7⟩ := logOk_at hl
 have hg := grown_len (n := n) a5
 have hl1 := newLog_ok hl htm
 have h0 := lead0_len n hc
 have hcl : (confOf (lead1 n [])).length ≤ 4 := by
  have := confAt_len (n := lead1 n []) (i := 100120)
  have h3 : (lead1 n []).Conf = n.Conf := rfl
  unfold confOf
  rw [h3] at this
  omega
 have hol := others_len (confOf (lead1 n [])) n.Id
 have hc1 := confOf_spec N hN (lead1 n n.Peers) hl1 (by have := lead1_tot n n.Peers hq; omega)
 have hl0 := lead_sl1 N (logEnd n.Log) (by simp only [logEnd]; omega) (others (confOf (lead1 n [])) n.Id) (by omega) (others (confOf (lead1 n [])) n.Id).length N 0 [] (by omega) (by have := hN; unfold Big at this; omega) (by simp; omega)
 have hcm := commit_spec N hN (lead0 n) [] hl1 (by have := lead1_tot n (lead0 n).Peers (by omega); have e : lead1 n (lead0 n).Peers = lead0 n := rfl; rw [e] at this; omega) (by omega) (by show n.Conf.length ≤ 1000; omega) (by show n.Log.Start ≤ n.Commit ∧ n.Commit ≤ logEnd (newLog n); simp only [logEnd, newLog] at hm ⊢; omega)
 have hsa := sendAll_s1 N hN (leadN n) [] (by unfold leadN; rw [commitN_log]; exact hl1) (lead_peers n hl) (by unfold leadN; rw [commitN_conf]; show n.Conf.length ≤ _; omega) (by
  unfold leadN
  rcases commitN_peers (lead0 n) with h | h
  ·rw [h]; exact Nat.zero_le _
  ·rw [h]; omega) (by simp)
 unfold tailS
 rw [show (Node.mk n.Id n.Term n.Vote (2 : Int) n.Id n.Conf (Log.mk n.Log.Start n.Log.StartTerm (grown n)) n.Commit n.Clock n.Limit ([] : List Int) n.Peers) = lead1 n n.Peers from rfl, hc1, Option.bind_some, show confOf (lead1 n n.Peers) = confOf (lead1 n []) from rfl, others_spec N hN _ _ (by omega), Option.bind_some, show (0 : Int) = ((0 : Nat) : Int) from rfl, hl0, Option.bind_some]
 rw [show (Node.mk n.Id n.Term n.Vote (2 : Int) n.Id n.Conf (Log.mk n.Log.Start n.Log.StartTerm (grown n)) n.Commit n.Clock n.Limit ([] : List Int) ([] ++ ((others (confOf (lead1 n [])) n.Id).drop 0).map (fun x => ⟨x, logEnd n.Log + 1, 0, 0⟩))) = lead0 n from rfl, hcm, Option.bind_some, show commitN (lead0 n) = leadN n from rfl, hsa]
 rfl
theorem lead_spec (N : Nat) (hN : Big N) (n : Node) (hl : logOk n.Log = true) (ht : totNode n ≤ 1099500000) (hc : n.Conf.length ≤ 4) (hq : n.Peers.length ≤ 1000) (hm : n.Log.Start ≤ n.Commit ∧ n.Commit ≤ logEnd n.Log) (htm : logTerm n.Log ≤ n.Term ∧ n.Term ≤ 100000) :
  spec_l16Lead N ⟨n, []⟩ = some ⟨leadN n, (leadN n).Peers.map (sendMsg (leadN n))⟩ := by
 obtain ⟨a1, a2, a3, a4, a5, a6, a7⟩ := logOk_at hl
 have h := tail_spec N hN n hl ht hc hq hm htm
 have hr := room_spec N (Node.mk n.Id n.Term n.Vote (2 : Int) n.Id n.Conf n.Log n.Commit n.Clock n.Limit ([] : List Int) n.Peers) hl
 rw [lead_sdef]
 unfold spec_l12Last
 rw [Option.bind_some, w64_id (n := n.Log.Start + n.Log.Entries.length) (by omega) (by omega), hr, Option.bind_some]
 unfold grown at h
 by_cases hg : n.Log.Entries.length < 120 ∧ logEnd n.Log < 100000
 ·rw [if_pos hg] at h
  rw [if_pos (by simpa using hg), cat_ok (by simp; omega), Option.bind_some]
  exact h
 ·rw [if_neg hg] at h
  rw [if_neg (fun e => hg (by simpa using e))]
  exact h
def cand (n : Node) (l : Int) : Node := ⟨n.Id, n.Term + 1, n.Id, 1, 0, n.Conf, n.Log, n.Commit, 0, l, [n.Id], n.Peers⟩
def askMsg (c : Node) (x : Int) : Message := ⟨1, c.Id, x, c.Term, logEnd c.Log, logTerm c.Log, 0, false, [], [], ⟨#[]⟩, false⟩
def rest (n : Node) (l : Int) : Node := ⟨n.Id, n.Term, n.Vote, n.Role, n.Lead, n.Conf, n.Log, n.Commit, 0, l, n.Votes, n.Peers⟩
def tickN (n : Node) (l : Int) : Node × List Message × Bool :=
 if nodeOk n = false then (zNode, [], false) else
 if decide (1 ≤ l ∧ l ≤ 20) = false then (zNode, [], false) else
 if n.Role = 2 then (n, n.Peers.map (sendMsg n), true) else
 if n.Clock + 1 < n.Limit then (⟨n.Id, n.Term, n.Vote, n.Role, n.Lead, n.Conf, n.Log, n.Commit, n.Clock + 1, n.Limit, n.Votes, n.Peers⟩, [], true) else
 if n.Id ∉ confOf n then (rest n l, [], true) else
 if n.Term = 100000 then (rest n l, [], true) else
 if most (confOf n) [n.Id] = true then (leadN (cand n l), (leadN (cand n l)).Peers.map (sendMsg (leadN (cand n l))), true) else
 (cand n l, (others (confOf n) n.Id).map (askMsg (cand n l)), true)
theorem tick_sl1 (N : Nat) (n : Node) (l : Int) (c : List Int) (hc : c.length ≤ 1000) : ∀ (d m i : Nat) (t : List Message), c.length = i + d → d < m → t.length + d ≤ 100000 →
  spec_Tick_l1 N n n (logEnd n.Log, logTerm n.Log) c m (i : Int) n.Id (n.Term + 1) n.Id 1 0 n.Log.Start n.Log.StartTerm n.Commit 0 l t = some (n.Id, n.Term + 1, n.Id, 1, 0, n.Log.Start, n.Log.StartTerm, n.Commit, 0, l, t ++ (c.drop i).map (askMsg (cand n l))) := by
 intro d
 induction d with
 | zero =>
  intro m i t hd hm ha
  obtain ⟨m, rfl⟩ : ∃ q, m = q + 1 := ⟨m - 1, by omega⟩
  rw [spec_Tick_l1, if_neg (by simp; omega), List.drop_eq_nil_of_le (by omega)]
  simp
 | succ d ih =>
  intro m i t hd hm ha
  obtain ⟨m, rfl⟩ : ∃ q, m = q + 1 := ⟨m - 1, by omega⟩
  have hi : i < c.length := by omega
  rw [spec_Tick_l1, if_pos (by simp; omega), at_lt hi, Option.bind_some]
  unfold spec_l16Tell
  simp only
  rw [cat_ok (by simp; omega)]
  simp only [Option.bind_some]
  rw [w64_succ (by omega), ih m (i + 1) _ (by omega) (by omega) (by simp; omega), List.drop_eq_getElem_cons hi]
  simp only [List.map_cons, List.append_assoc, List.cons_append, List.nil_append]
  rfl
theorem peers_ok {n : Node} (h : (if n.Role = 2 then peersOk n (others (confOf n) n.Id) else decide (n.Peers.length = 0)) = true) (hr : n.Role = 2) : ∀ p ∈ n.Peers, peerOk (logEnd n.Log) p = true := by
 rw [if_pos hr] at h
 unfold peersOk at h
 simp only [Bool.and_eq_true, List.all_eq_true] at h
 exact h.2
theorem tick_spec (N : Nat) (hN : Big N) (n : Node) (l : Int) (h : totNode n ≤ 1048576) : spec_Tick N n l = some (tickN n l) := by
 have hd : n.Conf.length ≤ 1048576 ∧ n.Peers.length ≤ 1048576 := by simp only [totNode, totL] at h; omega
 unfold spec_Tick tickN
 rw [nodeOk_spec N hN n (by omega), Option.bind_some]
 cases hk : nodeOk n with
 | false => rfl
 | true =>
  obtain ⟨k1, k2, k3, k4, k5, k6, k7, k8, k9⟩ := nodeOk_at hk
  have hcl := confOk_len k2
  have hlt := logTerm_nn k3
  obtain ⟨a1, a2, a3, a4, a5, a6, a7⟩ := logOk_at k3
  have hcf : (confOf n).length ≤ 4 := by
   have := confAt_len (n := n) (i := 100120)
   unfold confOf
   omega
  rw [if_neg (by simp), if_neg (by simp), in_eq, Option.bind_some]
  by_cases hl : 1 ≤ l ∧ l ≤ 20
  ·rw [if_neg (by simp [hl]), if_neg (by simp [hl]), copy_spec N n (by omega), Option.bind_some]
   by_cases hr : n.Role = 2
   ·have hpl : n.Peers.length ≤ 1000 := by
     rw [if_pos hr] at k9
     unfold peersOk at k9
     simp only [Bool.and_eq_true, decide_eq_true_eq] at k9
     have h1 := congrArg List.length k9.1
     have h2 := others_len (confOf n) n.Id
     rw [List.length_map] at h1
     omega
    rw [if_pos (by simpa using hr), if_pos hr, sendAll_s N hN n [] k3 (peers_ok k9 hr) (by omega) hpl (by simp), Option.bind_some]
    rfl
   ·have hpl : n.Peers.length = 0 := by
     rw [if_neg hr] at k9
     simpa using k9
    rw [if_neg (by simpa using hr), if_neg hr, w64_id (n := n.Clock + 1) (by omega) (by omega)]
    by_cases hck : n.Clock + 1 < n.Limit
    ·rw [if_pos (by simpa using hck), if_pos hck]
    ·rw [if_neg (by simpa using hck), if_neg hck]
     have hcs := confOf_spec N hN (Node.mk n.Id n.Term n.Vote n.Role n.Lead n.Conf n.Log n.Commit (0 : Int) l n.Votes n.Peers) k3 (by have : totNode (Node.mk n.Id n.Term n.Vote n.Role n.Lead n.Conf n.Log n.Commit (0 : Int) l n.Votes n.Peers) = totNode n := rfl; omega)
     rw [show confOf (Node.mk n.Id n.Term n.Vote n.Role n.Lead n.Conf n.Log n.Commit (0 : Int) l n.Votes n.Peers) = confOf n from rfl] at hcs
     rw [hcs, Option.bind_some, in_spec N hN (confOf n) n.Id (by omega), Option.bind_some]
     by_cases hi : n.Id ∈ confOf n
     ·rw [if_neg (by simp [hi]), if_neg (show ¬ (n.Id ∉ confOf n) from fun e => e hi)]
      by_cases ht : n.Term = 100000
      ·rw [if_pos (by simpa using ht), if_pos ht]
       rfl
      ·rw [if_neg (by simpa using ht), if_neg ht, w64_id (n := n.Term + 1) (by omega) (by omega)]
       have hcs2 := confOf_spec N hN (cand n l) k3 (by have : totNode (cand n l) ≤ totNode n + 1 := by { simp only [cand, totNode, totL]; simp; omega }; omega)
       rw [show confOf (cand n l) = confOf n from rfl] at hcs2
       have hel : spec_l16Elected N ⟨cand n l, []⟩ = some (most (confOf n) [n.Id], ⟨cand n l, []⟩) := by
        unfold spec_l16Elected
        simp only
        rw [hcs2, Option.bind_some, most_spec N hN (confOf n) (cand n l).Votes (by omega) (by show ([n.Id] : List Int).length ≤ _; simp), Option.bind_some]
        rfl
       rw [show (Node.mk n.Id (n.Term + 1) n.Id (1 : Int) (0 : Int) n.Conf n.Log n.Commit (0 : Int) l ([n.Id] : List Int) n.Peers) = cand n l from rfl, hel, Option.bind_some]
       simp only
       have hm2 : (cand n l).Log.Start ≤ (cand n l).Commit ∧ (cand n l).Commit ≤ logEnd (cand n l).Log := k5
       by_cases hw : most (confOf n) [n.Id] = true
       ·rw [if_pos hw, if_pos hw]
        have hld := lead_spec N hN (cand n l) k3 (by have : totNode (cand n l) ≤ totNode n + 1 := by { simp only [cand, totNode, totL]; simp; omega }; omega) hcl.2 (by show n.Peers.length ≤ 1000; omega) hm2 (by show logTerm n.Log ≤ n.Term + 1 ∧ n.Term + 1 ≤ 100000; omega)
        rw [show (Node.mk (cand n l).Id (cand n l).Term (cand n l).Vote (cand n l).Role (cand n l).Lead n.Conf (Log.mk (cand n l).Log.Start (cand n l).Log.StartTerm n.Log.Entries) (cand n l).Commit (cand n l).Clock (cand n l).Limit ([n.Id] : List Int) n.Peers) = cand n l from rfl, hld, Option.bind_some]
       ·rw [if_neg hw, if_neg hw]
        rw [show (Log.mk (cand n l).Log.Start (cand n l).Log.StartTerm n.Log.Entries) = n.Log from rfl, logLast_spec N k3, Option.bind_some, others_spec N hN _ _ (by omega), Option.bind_some]
        unfold joinP
        have hol := others_len (confOf n) n.Id
        have htk := tick_sl1 N n l (others (confOf n) n.Id) (by omega) (others (confOf n) n.Id).length N 0 [] (by omega) (by have := hN; unfold Big at this; omega) (by simp; omega)
        rw [show (0 : Int) = ((0 : Nat) : Int) from rfl]
        have htk2 : spec_Tick_l1 N n n (logEnd n.Log, logTerm n.Log) (others (confOf n) n.Id) N ((0 : Nat) : Int) (cand n l).Id (cand n l).Term (cand n l).Vote (cand n l).Role (cand n l).Lead (cand n l).Log.Start (cand n l).Log.StartTerm (cand n l).Commit (cand n l).Clock (cand n l).Limit [] = _ := htk
        rw [htk2]
        rfl
     ·rw [if_pos (by simp [hi]), if_pos hi]
      rfl
  ·rw [if_pos (by simp [hl]), if_pos (by simp [hl])]
   rfl
theorem sum0 {α : Type} {f : α → Nat} (hf : ∀ x, f x = 0) : ∀ xs : List α, (xs.map f).sum = 0
 | [] => rfl
 | x :: xs => by simp [hf x, sum0 hf xs]
theorem sum_sub {f : Entry → Nat} (xs : List Entry) (d k : Nat) : (((xs.drop d).take k).map f).sum ≤ (xs.map f).sum := by
 have h1 : (xs.map f).sum = ((xs.take d).map f).sum + ((xs.drop d).map f).sum := by
  conv => lhs; rw [← List.take_append_drop d xs, List.map_append, List.sum_append]
 have h2 : ((xs.drop d).map f).sum = (((xs.drop d).take k).map f).sum + (((xs.drop d).drop k).map f).sum := by
  conv => lhs; rw [← List.take_append_drop k (xs.drop d), List.map_append, List.sum_append]
 omega
theorem send_small (n : Node) (p : Peer) (hc : n.Conf.length ≤ 4) : (sendMsg n p).Entries.length ≤ 4 ∧ (sendMsg n p).Conf.length ≤ 4 ∧ totMessage (sendMsg n p) ≤ totNode n + 4 := by
 have hz : (⟨#[]⟩ : ByteArray).size = 0 := rfl
 unfold sendMsg
 split
 ·refine ⟨Nat.zero_le _, hc, ?_⟩
  simp only [totMessage, totNode, totLog, totL, List.length_nil, List.map_nil, List.sum_nil, hz]
  omega
 ·have hs := sum_sub (f := totEntry) n.Log.Entries (p.Next - n.Log.Start - 1).toNat 4
  have hl : ((n.Log.Entries.drop (p.Next - n.Log.Start - 1).toNat).take 4).length ≤ 4 := by
   rw [List.length_take]
   omega
  refine ⟨hl, Nat.zero_le _, ?_⟩
  simp only [totMessage, totNode, totLog, totL, List.length_nil, List.map_nil, List.sum_nil, hz]
  omega
def allConfs : List (List Int) := [[1], [2], [3], [4], [1, 2], [1, 3], [1, 4], [2, 3], [2, 4], [3, 4], [1, 2, 3], [1, 2, 4], [1, 3, 4], [2, 3, 4], [1, 2, 3, 4]]
theorem conf_all {c : List Int} (h : confOk c = true) : c ∈ allConfs := by
 have hl := confOk_len h
 unfold confOk at h
 simp only [Bool.and_eq_true, decide_eq_true_eq] at h
 obtain ⟨_, _, hr⟩ := h
 have four : ∀ x : Int, 1 ≤ x ∧ x ≤ 4 → x = 1 ∨ x = 2 ∨ x = 3 ∨ x = 4 := fun x hx => by omega
 match c, hl, hr with
 | [a], _, hr =>
  simp only [rise_cons, Bool.and_eq_true, decide_eq_true_eq] at hr
  rcases four a hr.1 with rfl | rfl | rfl | rfl <;> decide
 | [a, b], _, hr =>
  simp only [rise_cons, Bool.and_eq_true, decide_eq_true_eq] at hr
  obtain ⟨ha, _, hb, hab, _⟩ := hr
  rcases four a ha with rfl | rfl | rfl | rfl <;> rcases four b hb with rfl | rfl | rfl | rfl <;> first | decide | (exfalso; omega)
 | [a, b, c], _, hr =>
  simp only [rise_cons, Bool.and_eq_true, decide_eq_true_eq] at hr
  obtain ⟨ha, _, hb, hab, hc, hbc, _⟩ := hr
  rcases four a ha with rfl | rfl | rfl | rfl <;> rcases four b hb with rfl | rfl | rfl | rfl <;> first | (exfalso; omega) | (rcases four c hc with rfl | rfl | rfl | rfl <;> first | decide | (exfalso; omega))
 | [a, b, c, d], _, hr =>
  simp only [rise_cons, Bool.and_eq_true, decide_eq_true_eq] at hr
  obtain ⟨ha, _, hb, hab, hc, hbc, hd, hcd, _⟩ := hr
  have : a = 1 ∧ b = 2 ∧ c = 3 ∧ d = 4 := by omega
  obtain ⟨rfl, rfl, rfl, rfl⟩ := this
  decide
def dif (a b : List Int) : Nat := ([1, 2, 3, 4].filter (fun i : Int => decide (i ∈ a) != decide (i ∈ b))).length
def near (a b : List Int) : Bool := decide (dif a b = 1)
def may (a b : List Int) : Bool := if b.length > a.length then decide (b.length = a.length + 1) && !(a.any fun x => !decide (x ∈ b)) else decide (a.length = b.length + 1) && !(b.any fun x => !decide (x ∈ a))
theorem near_may {a b : List Int} (ha : confOk a = true) (hb : confOk b = true) : may a b = near a b := by
 have h : ∀ a ∈ allConfs, ∀ b ∈ allConfs, may a b = near a b := by decide +kernel
 exact h a (conf_all ha) b (conf_all hb)
def propLog (n : Node) (e : Entry) : Log := ⟨n.Log.Start, n.Log.StartTerm, n.Log.Entries ++ [e]⟩
def prop1 (n : Node) (e : Entry) (ps : List Peer) : Node := ⟨n.Id, n.Term, n.Vote, n.Role, n.Lead, n.Conf, propLog n e, n.Commit, n.Clock, n.Limit, n.Votes, ps⟩
def newPeer (n : Node) (x : Int) : Peer := ⟨x, logEnd n.Log + 1, 0, 0⟩
def peerOf (n : Node) (x : Int) : Peer := (n.Peers.find? (fun p => p.Id == x)).getD (newPeer n x)
def prop0 (n : Node) (e : Entry) : Node := prop1 n e ((others (confOf (prop1 n e [])) n.Id).map (peerOf n))
def propA (n : Node) (e : Entry) : Node := commitN (prop0 n e)
theorem fold_find (y : Int) : ∀ (ps : List Peer) (a : Peer), (ps.map (·.Id)).Nodup → ps.foldl (fun a p => if p.Id = y then p else a) a = (ps.find? (fun p => p.Id == y)).getD a
 | [], a, _ => rfl
 | p :: ps, a, h => by
  rw [List.map_cons, List.nodup_cons] at h
  rw [List.foldl_cons, fold_find y ps _ h.2]
  by_cases hp : p.Id = y
  ·rw [if_pos hp, List.find?_cons_of_pos (by simpa using hp)]
   have : ps.find? (fun p => p.Id == y) = none := by
    rw [List.find?_eq_none]
    intro q hq hqy
    exact h.1 (List.mem_map.2 ⟨q, hq, by rw [hp]; simpa using hqy⟩)
   rw [this]
   rfl
  ·rw [if_neg hp, List.find?_cons_of_neg (by simpa using hp)]
theorem prop_sl2 (N : Nat) (n : Node) (v : List Int) (k : Nat) (hk : k < v.length) : ∀ (ps : List Peer) (j : Nat) (a : Peer), j + ps.length ≤ 100000 →
  spec_Propose_l2_r N n v (k : Int) ps (j : Int) a.Id a.Next a.Match a.Sent = some ((ps.foldl (fun a p => if p.Id = v[k] then p else a) a).Id, (ps.foldl (fun a p => if p.Id = v[k] then p else a) a).Next, (ps.foldl (fun a p => if p.Id = v[k] then p else a) a).Match, (ps.foldl (fun a p => if p.Id = v[k] then p else a) a).Sent)
 | [], j, a, _ => rfl
 | p :: ps, j, a, h => by
  simp only [List.length_cons] at h
  rw [spec_Propose_l2_r]
  simp only [joinP, Option.bind_some, at_lt hk, w64_succ (k := j) (by omega), List.foldl_cons]
  by_cases hp : p.Id = v[k]
  ·rw [if_pos (by simpa using hp), if_pos hp]
   exact prop_sl2 N n v k hk ps (j + 1) p (by omega)
  ·rw [if_neg (by simpa using hp), if_neg hp]
   exact prop_sl2 N n v k hk ps (j + 1) a (by omega)
theorem prop_sl1 (N : Nat) (hN : Big N) (n : Node) (he : 0 ≤ logEnd n.Log ∧ logEnd n.Log ≤ 200000) (hq : n.Peers.length ≤ 1000) (hd : (n.Peers.map (·.Id)).Nodup) (c : List Int) (hc : c.length ≤ 1000) : ∀ (d m i : Nat) (acc : List Peer), c.length = i + d → d < m → acc.length + d ≤ 100000 →
  spec_Propose_l1 N n (logEnd n.Log) c m (i : Int) acc = some (acc ++ (c.drop i).map (peerOf n)) := by
 intro d
 induction d with
 | zero =>
  intro m i acc hd hm ha
  obtain ⟨m, rfl⟩ : ∃ q, m = q + 1 := ⟨m - 1, by omega⟩
  rw [spec_Propose_l1, if_neg (by simp; omega), List.drop_eq_nil_of_le (by omega)]
  simp
 | succ d ih =>
  intro m i acc hdd hm ha
  obtain ⟨m, rfl⟩ : ∃ q, m = q + 1 := ⟨m - 1, by omega⟩
  have hi : i < c.length := by omega
  have h2 := prop_sl2 N n c i hi n.Peers 0 (newPeer n c[i]) (by omega)
  rw [fold_find c[i] n.Peers _ hd] at h2
  have h3 : spec_Propose_l2 N n c (i : Int) N (0 : Int) c[i] (logEnd n.Log + 1) (0 : Int) (0 : Int) = _ := (spec_Propose_l2_eq n c (i : Int) (by omega) (by have := hN; unfold Big at this; omega) c[i] (logEnd n.Log + 1) 0 0).trans h2
  rw [spec_Propose_l1, if_pos (by simp; omega)]
  unfold joinP
  simp only
  rw [at_lt hi, Option.bind_some, w64_id (n := logEnd n.Log + 1) (by omega) (by omega), h3, Option.bind_some]
  simp only
  rw [cat_ok (by simp; omega), Option.bind_some, w64_succ (by omega), ih m (i + 1) _ (by omega) (by omega) (by simp; omega), List.drop_eq_getElem_cons hi]
  simp only [List.map_cons, List.append_assoc, List.cons_append, List.nil_append]
  rfl
theorem peers_map (n : Node) (hd : (n.Peers.map (·.Id)).Nodup) : (n.Peers.map (·.Id)).map (peerOf n) = n.Peers := by
 unfold peerOf
 generalize newPeer n = f
 have : ∀ (all : List Peer), (∀ p ∈ n.Peers, all.find? (fun q => q.Id == p.Id) = some p) → (n.Peers.map (·.Id)).map (fun x => (all.find? (fun q => q.Id == x)).getD (f x)) = n.Peers := by
  intro all h
  rw [List.map_map]
  conv => rhs; rw [← List.map_id n.Peers]
  apply List.map_congr_left
  intro p hp
  simp only [Function.comp, h p hp, Option.getD_some, id]
 refine this n.Peers ?_
 have h2 : ∀ (ps : List Peer), (ps.map (·.Id)).Nodup → ∀ p ∈ ps, ps.find? (fun q => q.Id == p.Id) = some p := by
  intro ps
  induction ps with
  | nil => intro _ p hp; cases hp
  | cons q ps ih =>
   intro h p hp
   rw [List.map_cons, List.nodup_cons] at h
   rcases List.mem_cons.1 hp with rfl | hp
   ·rw [List.find?_cons_of_pos (by simp)]
   ·have : ¬ q.Id = p.Id := fun e => h.1 (List.mem_map.2 ⟨p, hp, e.symm⟩)
    rw [List.find?_cons_of_neg (by simpa using this)]
    exact ih h.2 p hp
 exact h2 n.Peers hd
theorem confsUp_ok (i : Int) : ∀ (es : List Entry) (p : Int) (out : List Int), confOk out = true → confOk (confsUp i es p out) = true
 | [], p, out, h => h
 | e :: es, p, out, h => by
  rw [confsUp]
  split
  ·apply confsUp_ok
   split
   ·rename_i ht
    unfold tells at ht
    simp only [Bool.and_eq_true] at ht
    exact ht.1
   ·exact h
  ·exact h
theorem confOf_ok {n : Node} (h : confOk n.Conf = true) : confOk (confOf n) = true := confsUp_ok _ _ _ _ h
theorem others_nodup {c : List Int} {i : Int} (h : confOk c = true) : (others c i).Nodup := by
 have : ∀ c ∈ allConfs, c.Nodup := by decide
 exact (this c (conf_all h)).filter _
theorem near_r (N : Nat) (hN : Big N) (a b : List Int) (ha : a.length ≤ 1000) (hb : b.length ≤ 1000) (m k : Nat) (i : Int) (h1 : 1 ≤ i) (h2 : i ≤ 4) (hk : k ≤ 4) : spec_l16Near_l1 N a b (m + 1) (k : Int) i = spec_l16Near_l1 N a b m ((k + (if (decide (i ∈ a) != decide (i ∈ b)) = true then 1 else 0) : Nat) : Int) (i + 1) := by
 rw [spec_l16Near_l1, if_pos (by simpa using h2)]
 unfold joinP
 simp only [in_spec N hN a i (by omega), in_spec N hN b i (by omega), Option.bind_some, w64_succ (k := k) (by omega)]
 rw [w64_id (n := i + 1) (by omega) (by omega)]
 cases decide (i ∈ a) <;> cases decide (i ∈ b) <;> rfl
theorem near_spec (N : Nat) (hN : Big N) (a b : List Int) (ha : a.length ≤ 1000) (hb : b.length ≤ 1000) : spec_l16Near N a b = some (near a b) := by
 obtain ⟨m, hm⟩ : ∃ m, N = m + 5 := ⟨N - 5, by have := hN; unfold Big at this; omega⟩
 unfold spec_l16Near joinP near dif
 have h0 : spec_l16Near_l1 N a b N (0 : Int) (1 : Int) = spec_l16Near_l1 N a b (m + 4 + 1) ((0 : Nat) : Int) (1 : Int) := by
  rw [show m + 4 + 1 = N by omega]
  rfl
 rw [h0]
 rw [near_r _ hN a b ha hb (m + 4) 0 1 (by omega) (by omega) (by omega)]
 rw [near_r _ hN a b ha hb (m + 3) _ (1 + 1) (by omega) (by omega) (by split <;> omega)]
 rw [near_r _ hN a b ha hb (m + 2) _ (1 + 1 + 1) (by omega) (by omega) (by split <;> split <;> omega)]
 rw [near_r _ hN a b ha hb (m + 1) _ (1 + 1 + 1 + 1) (by omega) (by omega) (by split <;> split <;> split <;> omega)]
 rw [spec_l16Near_l1, if_neg (by simp)]
 simp only [Option.bind_some]
 simp only [List.filter_cons, List.filter_nil, show (1 : Int) + 1 = 2 from rfl, show (2 : Int) + 1 = 3 from rfl, show (3 : Int) + 1 = 4 from rfl]
 generalize (decide ((1 : Int) ∈ a) != decide ((1 : Int) ∈ b)) = q1
 generalize (decide ((2 : Int) ∈ a) != decide ((2 : Int) ∈ b)) = q2
 generalize (decide ((3 : Int) ∈ a) != decide ((3 : Int) ∈ b)) = q3
 generalize (decide ((4 : Int) ∈ a) != decide ((4 : Int) ∈ b)) = q4
 cases q1 <;> cases q2 <;> cases q3 <;> cases q4 <;> rfl
def mayConf (n : Node) (t : ByteArray) : Bool := (termAt n.Log n.Commit == n.Term) && (fol n n.Commit && near (confOf n) (ints t))
def propN (n : Node) (k : Int) (t : ByteArray) : Node × List Message × Int × Bool :=
 if nodeOk n = false then (zNode, [], 0, false) else
 if n.Role ≠ 2 then (zNode, [], 0, false) else
 if entOk ⟨n.Term, k, t⟩ = false then (zNode, [], 0, false) else
 if ¬ (n.Log.Entries.length < 120 ∧ logEnd n.Log < 100000) then (zNode, [], 0, false) else
 if k = 2 ∧ mayConf n t = false then (zNode, [], 0, false) else
 (propA n ⟨n.Term, k, t⟩, (propA n ⟨n.Term, k, t⟩).Peers.map (sendMsg (propA n ⟨n.Term, k, t⟩)), logEnd n.Log + 1, true)
theorem propLog_ok {n : Node} {e : Entry} (hl : logOk n.Log = true) (hr : n.Log.Entries.length < 120 ∧ logEnd n.Log < 100000) (he : entOk e = true) (ht : logTerm n.Log ≤ e.Term) : logOk (propLog n e) = true := by
 obtain ⟨a1, a2, a3, a4, a5, a6, a7⟩ := logOk_at hl
 have h1 := termsOk_snoc n.Log.Entries n.Log.StartTerm e a7 he (by unfold logTerm at ht; exact ht)
 simp only [logEnd] at hr
 unfold propLog logOk
 simp only [h1, List.length_append, List.length_cons, List.length_nil, Bool.and_true, Bool.and_eq_true, decide_eq_true_eq]
 refine ⟨⟨a1, a2⟩, ⟨a3, a4⟩, by omega, by omega⟩
theorem peers_at {n : Node} (hk : nodeOk n = true) (hr : n.Role = 2) : n.Peers.map (·.Id) = others (confOf n) n.Id ∧ (∀ p ∈ n.Peers, peerOk (logEnd n.Log) p = true) ∧ n.Peers.length ≤ 4 ∧ (n.Peers.map (·.Id)).Nodup := by
 obtain ⟨k1, k2, k3, k4, k5, k6, k7, k8, k9⟩ := nodeOk_at hk
 rw [if_pos hr] at k9
 unfold peersOk at k9
 simp only [Bool.and_eq_true, decide_eq_true_eq, List.all_eq_true] at k9
 have h1 := congrArg List.length k9.1
 have h2 := others_len (confOf n) n.Id
 have h3 := confOk_len (confOf_ok (n := n) k2)
 rw [List.length_map] at h1
 exact ⟨k9.1, k9.2, by omega, by rw [k9.1]; exact others_nodup (confOf_ok k2)⟩
theorem prop0_len {n : Node} {e : Entry} (hc : n.Conf.length ≤ 4) : (prop0 n e).Peers.length ≤ 4 ∧ (confOf (prop1 n e [])).length ≤ 4 := by
 have h1 := others_len (confOf (prop1 n e [])) n.Id
 have h2 := confAt_len (n := prop1 n e []) (i := 100120)
 have h3 : (prop1 n e []).Conf = n.Conf := rfl
 rw [h3] at h2
 have h4 : (confOf (prop1 n e [])).length ≤ max 4 n.Conf.length := h2
 refine ⟨?_, by omega⟩
 show ((others (confOf (prop1 n e [])) n.Id).map _).length ≤ 4
 rw [List.length_map]
 omega
theorem peer_up {a : Int} {p : Peer} (h : peerOk a p = true) : peerOk (a + 1) p = true := by
 unfold peerOk at h ⊢
 simp only [Bool.and_eq_true, decide_eq_true_eq] at h ⊢
 exact ⟨⟨h.1.1, by omega⟩, h.2⟩
theorem prop_peers {n : Node} {e : Entry} (hk : nodeOk n = true) (hr : n.Role = 2) : ∀ p ∈ (propA n e).Peers, peerOk (logEnd (propA n e).Log) p = true := by
 obtain ⟨k1, k2, k3, k4, k5, k6, k7, k8, k9⟩ := nodeOk_at hk
 obtain ⟨a1, a2, a3, a4, a5, a6, a7⟩ := logOk_at k3
 obtain ⟨p1, p2, p3, p4⟩ := peers_at hk hr
 have hlog : (propA n e).Log = propLog n e := by unfold propA; rw [commitN_log]; rfl
 have hend : logEnd (propLog n e) = logEnd n.Log + 1 := by
  simp only [logEnd, propLog, List.length_append, List.length_cons, List.length_nil]
  omega
 intro p hp
 rw [hlog, hend]
 rcases commitN_peers (prop0 n e) with h | h
 ·unfold propA at hp
  rw [h] at hp
  cases hp
 ·unfold propA at hp
  rw [h] at hp
  obtain ⟨x, _, rfl⟩ := List.mem_map.1 hp
  unfold peerOf
  cases hf : n.Peers.find? (fun p => p.Id == x) with
  | some q => exact peer_up (p2 q (List.mem_of_find?_eq_some hf))
  | none =>
   simp only [Option.getD_none, newPeer]
   have hq : 0 ≤ logEnd n.Log ∧ logEnd n.Log ≤ 200000 := by simp only [logEnd]; omega
   unfold peerOk
   simp only [Bool.and_eq_true, decide_eq_true_eq]
   rw [w64_id (by omega) (by omega)]
   refine ⟨⟨by omega, by omega⟩, ⟨by omega, by omega⟩, by omega, by omega⟩
theorem prop1_tot {n : Node} {e : Entry} {ps : List Peer} (hp : ps.length ≤ 1000) : totNode (prop1 n e ps) ≤ totNode n + e.Data.size + 4000 := by
 have hps : ∀ qs : List Peer, (qs.map totPeer).sum = 0 := fun qs => by
  have : totPeer = fun _ => 0 := rfl
  rw [this]
  induction qs <;> simp_all
 have he : totEntry e = e.Data.size := by simp [totEntry]
 simp only [prop1, propLog, totNode, totLog, totL, hps, sum_snoc, List.length_append, List.length_cons, List.length_nil, he]
 omega
theorem propA_small {n : Node} {e : Entry} (hc : n.Conf.length ≤ 4) : totNode (propA n e) ≤ totNode n + e.Data.size + 4000 ∧ (propA n e).Conf = n.Conf ∧ (propA n e).Peers.length ≤ 4 := by
 have h0 := (prop0_len (n := n) (e := e) hc).1
 have h1 := prop1_tot (n := n) (e := e) (ps := (prop0 n e).Peers) (by omega)
 have e1 : prop1 n e (prop0 n e).Peers = prop0 n e := rfl
 rw [e1] at h1
 refine ⟨?_, by unfold propA; rw [commitN_conf]; rfl, ?_⟩
 ·have : totNode (commitN (prop0 n e)) ≤ totNode (prop0 n e) := by
   unfold commitN
   split
   ·simp only [totNode, totL, List.length_nil, List.map_nil, List.sum_nil]
    omega
   ·simp only [totNode, totL]
    omega
  unfold propA
  omega
 ·unfold propA
  rcases commitN_peers (prop0 n e) with h | h
  ·rw [h]; exact Nat.zero_le _
  ·rw [h]; exact h0
theorem prop_s (N : Nat) (hN : Big N) (n : Node) (e : Entry) (hk : nodeOk n = true) (hr : n.Role = 2) (hq : n.Log.Entries.length < 120 ∧ logEnd n.Log < 100000) (he : entOk e = true) (het : e.Term = n.Term) (h : totNode n ≤ 1048576) (ht : e.Data.size ≤ 1048576) :
  (spec_l16Copy N n).bind (fun y_1832 => (spec_l12Last N n.Log).bind fun y_1836 => (cat? y_1832.Log.Entries ([e] : List Entry)).bind fun x_1840 =>
   (spec_ConfOf N (Node.mk y_1832.Id y_1832.Term y_1832.Vote y_1832.Role y_1832.Lead y_1832.Conf (Log.mk y_1832.Log.Start y_1832.Log.StartTerm x_1840) y_1832.Commit y_1832.Clock y_1832.Limit y_1832.Votes y_1832.Peers)).bind fun y_1847 =>
   (spec_l16Others N y_1847 n.Id).bind fun y_1848 =>
   (spec_Propose_l1 N n y_1836 y_1848 N (0 : Int) ([] : List Peer)).bind fun v_2636 =>
   (spec_l16Commit N (Tl16Run.mk (Node.mk y_1832.Id y_1832.Term y_1832.Vote y_1832.Role y_1832.Lead y_1832.Conf (Log.mk y_1832.Log.Start y_1832.Log.StartTerm x_1840) y_1832.Commit y_1832.Clock y_1832.Limit y_1832.Votes v_2636) ([] : (List Message)))).bind fun y_3427 =>
   (spec_l16SendAll_i1 N y_3427).bind fun y_3431 => some (y_3431.n, y_3431.told, (w64 (y_1836 + (1 : Int))), true)) = some (propA n e, (propA n e).Peers.map (sendMsg (propA n e)), logEnd n.Log + 1, true) := by
 obtain ⟨k1, k2, k3, k4, k5, k6, k7, k8, k9⟩ := nodeOk_at hk
 obtain ⟨a1, a2, a3, a4, a5, a6, a7⟩ := logOk_at k3
 obtain ⟨p1, p2, p3, p4⟩ := peers_at hk hr
 have hcl := confOk_len k2
 have hl1 := propLog_ok k3 hq he (by omega)
 have h0 := prop0_len (n := n) (e := e) hcl.2
 have hol := others_len (confOf (prop1 n e [])) n.Id
 have hend : 0 ≤ logEnd n.Log ∧ logEnd n.Log ≤ 200000 := by simp only [logEnd]; omega
 have hc1 := confOf_spec N hN (prop1 n e n.Peers) hl1 (by have := prop1_tot (n := n) (e := e) (ps := n.Peers) (by omega); omega)
 have hl0 := prop_sl1 N hN n hend (by omega) p4 (others (confOf (prop1 n e [])) n.Id) (by omega) (others (confOf (prop1 n e [])) n.Id).length N 0 [] (by omega) (by have := hN; unfold Big at this; omega) (by simp; omega)
 have hm : n.Log.Start ≤ n.Commit ∧ n.Commit ≤ logEnd (propLog n e) := by
  have := k5
  simp only [logEnd, propLog, List.length_append, List.length_cons, List.length_nil] at this ⊢
  omega
 have hcm := commit_spec N hN (prop0 n e) [] hl1 (by have := prop1_tot (n := n) (e := e) (ps := (prop0 n e).Peers) (by omega); have e1 : prop1 n e (prop0 n e).Peers = prop0 n e := rfl; rw [e1] at this; omega) (by omega) (by show n.Conf.length ≤ 1000; omega) hm
 have hs := propA_small (n := n) (e := e) hcl.2
 have hsa := sendAll_s1 N hN (propA n e) [] (by unfold propA; rw [commitN_log]; exact hl1) (prop_peers hk hr) (by rw [hs.2.1]; omega) (by omega) (by simp)
 rw [copy_spec N n (by omega), Option.bind_some]
 unfold spec_l12Last
 rw [Option.bind_some, w64_id (n := n.Log.Start + n.Log.Entries.length) (by omega) (by omega), cat_ok (by simp; omega), Option.bind_some]
 rw [show (Node.mk n.Id n.Term n.Vote n.Role n.Lead n.Conf (Log.mk n.Log.Start n.Log.StartTerm (n.Log.Entries ++ [e])) n.Commit n.Clock n.Limit n.Votes n.Peers) = prop1 n e n.Peers from rfl, hc1, Option.bind_some, show confOf (prop1 n e n.Peers) = confOf (prop1 n e []) from rfl, others_spec N hN _ _ (by omega), Option.bind_some, show n.Log.Start + (n.Log.Entries.length : Int) = logEnd n.Log from rfl, show (0 : Int) = ((0 : Nat) : Int) from rfl, hl0, Option.bind_some]
 rw [show (Node.mk n.Id n.Term n.Vote n.Role n.Lead n.Conf (Log.mk n.Log.Start n.Log.StartTerm (n.Log.Entries ++ [e])) n.Commit n.Clock n.Limit n.Votes ([] ++ ((others (confOf (prop1 n e [])) n.Id).drop 0).map (peerOf n))) = prop0 n e from rfl, hcm, Option.bind_some, show commitN (prop0 n e) = propA n e from rfl, hsa, Option.bind_some, w64_id (n := logEnd n.Log + 1) (by omega) (by omega)]
 rfl
theorem ent_conf {T : Int} {t : ByteArray} (h : entOk ⟨T, 2, t⟩ = true) : confOk (ints t) = true := by
 unfold entOk at h
 simp only [Bool.and_eq_true] at h
 simpa using h.2
theorem propose_spec (N : Nat) (hN : Big N) (n : Node) (k : Int) (t : ByteArray) (h : totNode n ≤ 1048576) (ht : t.size ≤ 1048576) : spec_Propose N n k t = some (propN n k t) := by
 unfold spec_Propose propN
 rw [nodeOk_spec N hN n (by omega), Option.bind_some]
 cases hk : nodeOk n with
 | false => rfl
 | true =>
  obtain ⟨k1, k2, k3, k4, k5, k6, k7, k8, k9⟩ := nodeOk_at hk
  obtain ⟨a1, a2, a3, a4, a5, a6, a7⟩ := logOk_at k3
  have k5' := k5
  simp only [logEnd] at k5'
  rw [if_neg (show ¬ ((!true) = true) by decide), if_neg (show ¬ (true = false) by decide)]
  by_cases hr : n.Role = 2
  ·rw [if_neg (show ¬ ((n.Role != 2) = true) by simp [hr]), if_neg (show ¬ (n.Role ≠ 2) by simp [hr]), entOk_spec N hN _ (by show t.size ≤ 1099511627; omega), Option.bind_some]
   cases he : entOk ⟨n.Term, k, t⟩ with
   | false => rfl
   | true =>
    rw [if_neg (show ¬ ((!true) = true) by decide), if_neg (show ¬ (true = false) by decide), room_spec N n k3, Option.bind_some]
    by_cases hq : n.Log.Entries.length < 120 ∧ logEnd n.Log < 100000
    ·rw [if_neg (show ¬ ((!decide (n.Log.Entries.length < 120 ∧ logEnd n.Log < 100000)) = true) by simpa using hq), if_neg (not_not_intro hq)]
     have hfin := prop_s N hN n ⟨n.Term, k, t⟩ hk hr hq he rfl h ht
     simp only [joinP]
     by_cases h2 : k = 2
     ·subst h2
      have hc := ent_conf he
      rw [if_pos (by simp), readConf_spec N hN t (by omega), Option.bind_some, termAt_spec N k3 (i := n.Commit) (wi_of (by omega) (by omega)), Option.bind_some]
      by_cases g1 : termAt n.Log n.Commit = n.Term
      ·rw [if_neg (by simpa using g1), cix_spec N hN n k3, Option.bind_some]
       have hfol : (decide ((match confIx n.Log.Entries with | some q => n.Log.Start + 1 + (q : Int) | none => n.Log.Start) > n.Commit)) = !fol n n.Commit := by
        unfold fol
        cases hx : confIx n.Log.Entries with
        | none => simp; omega
        | some q =>
         rw [Bool.eq_iff_iff]
         simp only [decide_eq_true_eq, Bool.not_eq_true', decide_eq_false_iff_not]
         omega
       rw [hfol, confOf_spec N hN n k3 (by omega), Option.bind_some, readConf_1 hc, near_spec N hN _ _ (by have := confOk_len (confOf_ok (n := n) k2); omega) (by have := confOk_len hc; omega), Option.bind_some]
       cases hf : fol n n.Commit with
       | false =>
        rw [if_pos (by simp), if_pos (by simp [mayConf, hf])]
        rfl
       | true =>
        rw [if_neg (by simp)]
        cases hnr : near (confOf n) (ints t) with
        | false =>
         rw [if_pos (by simp), if_pos (by simp [mayConf, hnr])]
         rfl
        | true =>
         rw [if_neg (by simp), if_neg (by simp [mayConf, hf, hnr, g1])]
         exact hfin
      ·rw [if_pos (by simpa using g1), if_pos (by simp [mayConf, g1])]
       rfl
     ·rw [if_neg (by simpa using h2), if_neg (fun e => h2 e.1)]
      exact hfin
    ·rw [if_pos (show (!decide (n.Log.Entries.length < 120 ∧ logEnd n.Log < 100000)) = true by rw [decide_eq_false hq]; rfl), if_pos hq]
     rfl
  ·rw [if_pos (show (n.Role != 2) = true by simpa using hr), if_pos (show n.Role ≠ 2 from hr)]
   rfl
theorem prop_small (n : Node) (k : Int) (t : ByteArray) (h : totNode n ≤ 1048576) (ht : t.size ≤ 1048576) : totNode (propN n k t).1 ≤ 2200000 ∧ (propN n k t).2.1.length ≤ 4 ∧ ∀ m ∈ (propN n k t).2.1, m.Entries.length ≤ 4 ∧ m.Conf.length ≤ 4 ∧ totMessage m ≤ 2200004 := by
 have hz : totNode zNode ≤ 2200000 ∧ ([] : List Message).length ≤ 4 ∧ ∀ m ∈ ([] : List Message), m.Entries.length ≤ 4 ∧ m.Conf.length ≤ 4 ∧ totMessage m ≤ 2200004 := ⟨by simp [zNode, totNode, totLog, totL], Nat.zero_le _, fun m hm => by cases hm⟩
 unfold propN
 by_cases hk : nodeOk n = false
 ·rw [if_pos hk]
  exact hz
 rw [if_neg hk]
 obtain ⟨k1, k2, k3, k4, k5, k6, k7, k8, k9⟩ := nodeOk_at (by simpa using hk)
 have hcl := confOk_len k2
 split
 ·exact hz
 split
 ·exact hz
 split
 ·exact hz
 split
 ·exact hz
 have hs := propA_small (n := n) (e := ⟨n.Term, k, t⟩) hcl.2
 have hs1 : totNode (propA n ⟨n.Term, k, t⟩) ≤ totNode n + t.size + 4000 := hs.1
 refine ⟨by simp only; omega, by simp only [List.length_map]; omega, fun m hm => ?_⟩
 obtain ⟨p, _, rfl⟩ := List.mem_map.1 hm
 have := send_small (propA n ⟨n.Term, k, t⟩) p (by rw [hs.2.1]; exact hcl.2)
 exact ⟨this.1, this.2.1, by omega⟩
def behind (l : Log) (b t : Int) : Log := ⟨b, t, if (logOk l && (decide (l.Start ≤ b ∧ b ≤ l.Start + l.Entries.length) && (termAt l b == t))) = true then l.Entries.drop (b - l.Start).toNat else []⟩
theorem behind_spec (N : Nat) (hN : Big N) (l : Log) (b t : Int) (h : totLog l ≤ 1099511627) (hb : WI .i64 b) : spec_LogBehind N l b t = some (behind l b t) := by
 unfold spec_LogBehind behind
 simp only [joinP, logOk_spec N hN l h, Option.bind_some, in_eq]
 cases hl : logOk l with
 | false => simp
 | true =>
  obtain ⟨a1, a2, a3, a4, a5, a6, a7⟩ := logOk_at hl
  rw [if_pos rfl]
  unfold spec_l12Last
  rw [Option.bind_some, w64_id (n := l.Start + l.Entries.length) (by omega) (by omega)]
  by_cases h1 : l.Start ≤ b ∧ b ≤ l.Start + l.Entries.length
  ·rw [if_pos (by simpa using h1), termAt_spec N hl hb, Option.bind_some]
   by_cases h2 : termAt l b = t
   ·rw [if_pos (by simpa using h2), w64_id (by omega) (by omega), show b - l.Start = (((b - l.Start).toNat : Nat) : Int) by omega, drop_ok (by omega), Option.bind_some, cat_ok (by simp only [List.length_nil, List.length_drop]; omega)]
    have h9 : max (b - l.Start) 0 = b - l.Start := by omega
    simp [h1, h2, h9]
   ·rw [if_neg (by simpa using h2)]
    simp [h2]
  ·rw [if_neg (by simpa using h1)]
   simp [h1]
theorem behind_impl (N : Nat) (hN : Big N) (l : Log) (b t : Int) (h : totLog l ≤ 1099511627) (hb : WI .i64 b) : impl_LogBehind N l b t = some (behind l b t) := by
 unfold impl_LogBehind behind
 simp only [joinP, logOk_impl N hN l h, Option.bind_some, within_eq]
 cases hl : logOk l with
 | false => simp
 | true =>
  obtain ⟨a1, a2, a3, a4, a5, a6, a7⟩ := logOk_at hl
  rw [if_pos rfl, termAt_impl N hl hb, Option.bind_some]
  unfold impl_last
  rw [Option.bind_some, w64_id (n := l.Start + l.Entries.length) (by omega) (by omega)]
  by_cases h2 : termAt l b = t
  ·rw [if_pos (by simpa using h2)]
   by_cases h1 : l.Start ≤ b ∧ b ≤ l.Start + l.Entries.length
   ·rw [if_pos (by simpa using h1), w64_id (by omega) (by omega), show b - l.Start = (((b - l.Start).toNat : Nat) : Int) by omega, drop_ok (by omega), Option.bind_some, cat_ok (by simp only [List.length_nil, List.length_drop]; omega)]
    have h9 : max (b - l.Start) 0 = b - l.Start := by omega
    simp [h1, h2, h9]
   ·rw [if_neg (by simpa using h1)]
    simp [h1]
  ·rw [if_neg (by simpa using h2)]
   simp [h2]
def settle (n : Node) (i : Int) : Node × Bool := if (nodeOk n && decide (n.Log.Start ≤ i ∧ i ≤ n.Commit)) = true then ({ n with Conf := confAt n i, Log := behind n.Log i (termAt n.Log i) }, true) else (zNode, false)
theorem nodeOk_log {n : Node} (h : nodeOk n = true) : logOk n.Log = true := by
 unfold nodeOk at h
 simp only [Bool.and_eq_true] at h
 exact h.2.2.1
theorem settle_spec (N : Nat) (hN : Big N) (n : Node) (i : Int) (h : totNode n ≤ 1099511627) (hi : WI .i64 i) : spec_Settle N n i = some (settle n i) := by
 have hd : totLog n.Log ≤ 1099511627 := by simp only [totNode] at h; omega
 unfold spec_Settle settle
 simp only [nodeOk_spec N hN n h, in_eq, Option.bind_some]
 cases hk : nodeOk n with
 | false => rfl
 | true =>
  have hl := nodeOk_log hk
  by_cases h1 : n.Log.Start ≤ i ∧ i ≤ n.Commit
  ·simp only [h1, and_self, decide_true, Bool.not_true, Bool.false_eq_true, if_false, Bool.and_self, if_true, copy_spec N n h, confAt_spec N hN n i hl h, termAt_spec N hl hi, Option.bind_some, behind_spec N hN n.Log i _ hd hi]
  ·simp only [h1, decide_false, Bool.not_true, Bool.not_false, Bool.false_eq_true, if_false, if_true, Bool.and_false]
   rfl
theorem settle_impl (N : Nat) (hN : Big N) (n : Node) (i : Int) (h : totNode n ≤ 1099511627) (hi : WI .i64 i) : impl_Settle N n i = some (settle n i) := by
 have hd : totLog n.Log ≤ 1099511627 := by simp only [totNode] at h; omega
 unfold impl_Settle settle
 simp only [nodeOk_impl N hN n h, within_eq, Option.bind_some]
 cases hk : nodeOk n with
 | false => rfl
 | true =>
  have hl := nodeOk_log hk
  by_cases h1 : n.Log.Start ≤ i ∧ i ≤ n.Commit
  ·simp only [h1, and_self, decide_true, Bool.not_true, Bool.false_eq_true, if_false, Bool.and_self, if_true, copy_impl N n h, confAt_impl N hN n i hl h, termAt_impl N hl hi, Option.bind_some, behind_impl N hN n.Log i _ hd hi]
  ·simp only [h1, decide_false, Bool.not_true, Bool.not_false, Bool.false_eq_true, if_false, if_true, Bool.and_false]
   rfl
def newNode (i : Int) (c : List Int) : Node := ⟨i, 0, 0, 0, 0, c, ⟨0, 0, []⟩, 0, 0, 20, [], []⟩
def nodeNew (i : Int) (c : List Int) : Node × Bool := if nodeOk (newNode i c) = true then (newNode i c, true) else (zNode, false)
theorem sum_zero {α : Type} : ∀ (xs : List α), (xs.map (fun _ => 0)).sum = 0
 | [] => rfl
 | _ :: xs => by simp [sum_zero xs]
theorem newTot (i : Int) (c : List Int) : totNode (newNode i c) ≤ 2 * c.length + 8 := by
 simp only [newNode, totNode, totLog, totL, sum_zero, List.length_nil, List.map_nil, List.sum_nil]
 omega
theorem new_spec (N : Nat) (hN : Big N) (i : Int) (c : List Int) (h : c.length ≤ 1048576) : spec_NodeNew N i c = some (nodeNew i c) := by
 have ht := newTot i c
 unfold spec_NodeNew nodeNew
 rw [cat_ok (by simp only [List.length_nil]; omega)]
 simp only [Option.bind_some, List.nil_append]
 rw [show (Node.mk i 0 0 0 0 c (Log.mk 0 0 []) 0 0 20 [] []) = newNode i c from rfl, nodeOk_spec N hN (newNode i c) (by omega)]
 cases hk : nodeOk (newNode i c) <;> rfl
theorem and_lo (a b : Int) (hb : 0 ≤ b) (hb' : b ≤ 9223372036854775807) : ∃ r, intD .and .i64 a b = some r ∧ 0 ≤ r ∧ r ≤ b := by
 have h1 : ((BitVec.ofInt 64 a &&& BitVec.ofInt 64 b).toNat : Int) ≤ b := by
  rw [BitVec.toNat_and]
  have h2 : (BitVec.ofInt 64 a).toNat &&& (BitVec.ofInt 64 b).toNat ≤ (BitVec.ofInt 64 b).toNat := Nat.and_le_right
  have h3 : ((BitVec.ofInt 64 b).toNat : Int) = b := by
   rw [BitVec.toNat_ofInt]
   omega
  omega
 have h2 : intD .and .i64 a b = some (w64 ((BitVec.ofInt 64 a &&& BitVec.ofInt 64 b).toNat : Int)) := rfl
 rw [w64_id (by omega) (by omega)] at h2
 exact ⟨_, h2, by omega, h1⟩
theorem rem_lo (a : Int) (ha : 0 ≤ a) (b : Int) (hb : 0 < b) : ∃ r, intD .rem .i64 a b = some r ∧ 0 ≤ r ∧ r < b := by
 refine ⟨a.tmod b, ?_, Int.tmod_nonneg _ ha, Int.tmod_lt_of_pos _ hb⟩
 unfold intD
 simp only
 rw [if_neg (by omega)]
theorem shr_some (a b : Int) (hb : 0 ≤ b) : ∃ r, intSh .shr .i64 a b = some r := by
 unfold intSh
 simp only
 rw [if_neg (by omega)]
 exact ⟨_, rfl⟩
theorem byte_ok (N : Nat) (c : Tl01Cur) (h0 : 0 ≤ c.i) (hl : c.b.length ≤ 1099511627776) : ∃ r c', spec_l01Byte N c = some (r, c') ∧ 0 ≤ r ∧ r ≤ 255 ∧ c'.b = c.b ∧ 0 ≤ c'.i := by
 unfold spec_l01Byte joinP
 obtain ⟨r1, e1⟩ := shr_some (w64 ((w64 (c.h * (6364136223846793005 : Int))) + (1442695040888963407 : Int))) 33 (by decide)
 obtain ⟨r2, e2⟩ := shr_some (w64 ((w64 (c.h * (6364136223846793005 : Int))) + (1442695040888963407 : Int))) 45 (by decide)
 rw [e1, Option.bind_some, e2, Option.bind_some]
 obtain ⟨r3, e3⟩ : ∃ r, intD .xor .i64 r1 r2 = some r := ⟨_, rfl⟩
 rw [e3, Option.bind_some]
 obtain ⟨r4, e4, l4, u4⟩ := and_lo r3 255 (by decide) (by decide)
 rw [e4, Option.bind_some]
 simp only
 by_cases hi : c.i < c.b.length
 ·have hk : c.i.toNat < c.b.length := by omega
  have e5 : at? c.b c.i = some c.b[c.i.toNat] := by
   have := at_lt (xs := c.b) hk
   rwa [Int.toNat_of_nonneg h0] at this
  rw [if_pos (by simpa using hi), e5, Option.bind_some]
  obtain ⟨r6, e6, l6, u6⟩ := and_lo (w64 (r4 + w64 c.b[c.i.toNat])) 255 (by decide) (by decide)
  rw [e6, Option.bind_some]
  exact ⟨_, _, rfl, l6, u6, rfl, by simp only; rw [w64_id (by omega) (by omega)]; omega⟩
 ·rw [if_neg (by simpa using hi)]
  exact ⟨_, _, rfl, l4, u4, rfl, h0⟩
theorem below_ok (N : Nat) (c : Tl01Cur) (k : Int) (h0 : 0 ≤ c.i) (hl : c.b.length ≤ 1099511627776) : ∃ r c', spec_l01Below N c k = some (r, c') ∧ 0 ≤ r ∧ (0 < k → r < k) ∧ (k ≤ 0 → r = 0) ∧ c'.b = c.b ∧ 0 ≤ c'.i := by
 unfold spec_l01Below
 by_cases h1 : k ≤ 0
 ·rw [if_pos (by simpa using h1)]
  exact ⟨_, _, rfl, Int.le_refl _, fun h => by omega, fun _ => rfl, rfl, h0⟩
 rw [if_neg (by simpa using h1)]
 by_cases h2 : k ≤ 256
 ·rw [if_pos (by simpa using h2)]
  obtain ⟨r, c', e, l, u, hb, hi⟩ := byte_ok N c h0 hl
  obtain ⟨q, eq, lq, uq⟩ := rem_lo r l k (by omega)
  rw [e, Option.bind_some, eq, Option.bind_some]
  exact ⟨_, _, rfl, lq, fun _ => uq, fun h => by omega, hb, hi⟩
 ·rw [if_neg (by simpa using h2)]
  obtain ⟨r1, c1, e1, l1, u1, b1, i1⟩ := byte_ok N c h0 hl
  obtain ⟨r2, c2, e2, l2, u2, b2, i2⟩ := byte_ok N c1 i1 (by rw [b1]; exact hl)
  obtain ⟨r3, c3, e3, l3, u3, b3, i3⟩ := byte_ok N c2 i2 (by rw [b2, b1]; exact hl)
  obtain ⟨r4, c4, e4, l4, u4, b4, i4⟩ := byte_ok N c3 i3 (by rw [b3, b2, b1]; exact hl)
  simp only [e1, e2, e3, e4, Option.bind_some]
  rw [w64_id (n := r1 * 16777216) (by omega) (by omega), w64_id (n := r2 * 65536) (by omega) (by omega), w64_id (n := r3 * 256) (by omega) (by omega), w64_id (n := r1 * 16777216 + r2 * 65536) (by omega) (by omega), w64_id (n := r1 * 16777216 + r2 * 65536 + r3 * 256) (by omega) (by omega), w64_id (n := r1 * 16777216 + r2 * 65536 + r3 * 256 + r4) (by omega) (by omega)]
  obtain ⟨q, eq, lq, uq⟩ := rem_lo (r1 * 16777216 + r2 * 65536 + r3 * 256 + r4) (by omega) k (by omega)
  rw [eq, Option.bind_some]
  exact ⟨_, _, rfl, lq, fun _ => uq, fun h => by omega, by rw [b4, b3, b2, b1], i4⟩
theorem new_l1 (N : Nat) (c : List Int) : ∀ (tl : List Int) (x k : Int), ∃ h, spec_l01New_l1_r N c tl x k = some h := by
 intro tl
 induction tl with
 | nil => exact fun x k => ⟨_, rfl⟩
 | cons a tl ih =>
  intro x k
  rw [spec_l01New_l1_r]
  split
  ·obtain ⟨r, e, _, _⟩ := and_lo (w64 ((w64 ((w64 (x * (131 : Int))) + (w64 a))) + (7 : Int))) 1073741823 (by decide) (by decide)
   rw [Option.bind_some, e, Option.bind_some]
   exact ih _ _
  ·exact ⟨_, rfl⟩
theorem new_ok (N : Nat) (hN : Big N) (c : List Int) (hl : c.length ≤ 1099511627) : ∃ h, spec_l01New N c = some ⟨c, 0, h⟩ := by
 unfold spec_l01New joinP
 rw [spec_l01New_l1_eq c (by omega) (by have := hN; unfold Big at this; omega)]
 obtain ⟨h, e⟩ := new_l1 N c c (w64 ((10301 : Int) + (c.length : Int))) 0
 rw [e]
 exact ⟨_, rfl⟩
theorem places_l1 (N : Nat) : ∀ (d m : Nat) (i : Nat) (c : Tl01Cur) (acc : List Int), i + d = 12 → d < m → acc.length = i → (∀ y ∈ acc, 0 ≤ y ∧ y < 10000) → 0 ≤ c.i → c.b.length ≤ 1099511627776 →
  ∃ out, spec_DrawPlaces_l1 N m (i : Int) c.b c.i c.h acc = some out ∧ out.length = 12 ∧ ∀ y ∈ out, 0 ≤ y ∧ y < 10000 := by
 intro d
 induction d with
 | zero =>
  intro m i c acc hd hm ha hy h0 hl
  obtain ⟨m, rfl⟩ : ∃ q, m = q + 1 := ⟨m - 1, by omega⟩
  rw [spec_DrawPlaces_l1, if_neg (by simp; omega)]
  exact ⟨_, rfl, by omega, hy⟩
 | succ d ih =>
  intro m i c acc hd hm ha hy h0 hl
  obtain ⟨m, rfl⟩ : ∃ q, m = q + 1 := ⟨m - 1, by omega⟩
  rw [spec_DrawPlaces_l1, if_pos (by simp; omega)]
  obtain ⟨r, c', e, lr, ur, _, hb, hi⟩ := below_ok N c 10000 h0 hl
  rw [show (Tl01Cur.mk c.b c.i c.h) = c from rfl, e, Option.bind_some, cat_ok (by simp; omega), Option.bind_some, w64_succ (by omega)]
  refine ih m (i + 1) c' (acc ++ [r]) (by omega) (by omega) (by simp; omega) (fun y hq => ?_) hi (by rw [hb]; exact hl)
  rcases List.mem_append.1 hq with hq | hq
  ·exact hy y hq
  ·obtain rfl := List.mem_singleton.1 hq
   exact ⟨lr, ur (by decide)⟩
theorem places_ok (N : Nat) (hN : Big N) (c : List Int) (hl : c.length ≤ 1099511627) : ∃ out, spec_DrawPlaces N c = some out ∧ out.length = 12 ∧ ∀ y ∈ out, 0 ≤ y ∧ y < 10000 := by
 obtain ⟨h, e⟩ := new_ok N hN c hl
 obtain ⟨r, c', e', _, _, hb, hi⟩ := byte_ok N ⟨c, 0, h⟩ (Int.le_refl _) (by simp only; omega)
 unfold spec_DrawPlaces joinP
 rw [e, Option.bind_some, e', Option.bind_some]
 obtain ⟨out, eo, hlo, hy⟩ := places_l1 N 12 N 0 c' [] rfl (by have := hN; unfold Big at this; omega) rfl (fun _ h => by cases h) hi (by rw [hb]; simp only; omega)
 rw [show (0 : Int) = ((0 : Nat) : Int) from rfl]
 simp only at eo ⊢
 rw [eo, Option.bind_some]
 exact ⟨out, rfl, hlo, hy⟩
structure Right (n : Node) : Prop where
 id : 1 ≤ n.Id ∧ n.Id ≤ 4
 conf : confOk n.Conf = true
 log : logOk n.Log = true
 term : logTerm n.Log ≤ n.Term ∧ n.Term ≤ 100000
 vote : 0 ≤ n.Vote ∧ n.Vote ≤ 4
 lead : 0 ≤ n.Lead ∧ n.Lead ≤ 4
 role : 0 ≤ n.Role ∧ n.Role ≤ 2
 com : n.Log.Start ≤ n.Commit ∧ n.Commit ≤ logEnd n.Log
 limit : 1 ≤ n.Limit ∧ n.Limit ≤ 20
 clock : 0 ≤ n.Clock ∧ n.Clock ≤ 20
 votes : rise 1 4 none n.Votes = true
 voted : n.Role ≠ 1 → n.Votes = []
 peers : n.Role = 2 → n.Peers.map (·.Id) = others (confOf n) n.Id ∧ ∀ p ∈ n.Peers, peerOk (logEnd n.Log) p = true
 alone : n.Role ≠ 2 → n.Peers = []
theorem right_of {n : Node} (h : nodeOk n = true) : Right n := by
 unfold nodeOk at h
 simp only [Bool.and_eq_true, decide_eq_true_eq] at h
 obtain ⟨h1, h2, h3, h4, h5, h6, h7, h8, h9, h10, h11, h12, h13⟩ := h
 refine ⟨h1, h2, h3, h4, h5, h6, h7, h8, h9, h10, h11, fun hr => List.eq_nil_of_length_eq_zero (h12 hr), fun hr => ?_, fun hr => ?_⟩
 ·rw [if_pos hr] at h13
  unfold peersOk at h13
  simp only [Bool.and_eq_true, decide_eq_true_eq, List.all_eq_true] at h13
  exact h13
 ·rw [if_neg hr] at h13
  exact List.eq_nil_of_length_eq_zero (by simpa using h13)
theorem Right.ok {n : Node} (h : Right n) : nodeOk n = true := by
 unfold nodeOk
 simp only [Bool.and_eq_true, decide_eq_true_eq]
 refine ⟨h.id, h.conf, h.log, h.term, h.vote, h.lead, h.role, h.com, h.limit, h.clock, h.votes, fun hr => by rw [h.voted hr]; rfl, ?_⟩
 by_cases hr : n.Role = 2
 ·rw [if_pos hr]
  unfold peersOk
  simp only [Bool.and_eq_true, decide_eq_true_eq, List.all_eq_true]
  exact h.peers hr
 ·rw [if_neg hr, h.alone hr]
  rfl
theorem ent_small {e : Entry} (h : entOk e = true) : e.Data.size ≤ 120 := by
 unfold entOk at h
 simp only [Bool.and_eq_true, decide_eq_true_eq] at h
 have h2 := h.2
 by_cases k1 : e.Kind = 1
 ·rw [if_pos k1] at h2
  simp only [decide_eq_true_eq] at h2
  rw [h2]
  exact Nat.zero_le _
 rw [if_neg k1] at h2
 by_cases k2 : e.Kind = 2
 ·rw [if_pos k2] at h2
  have := confOk_len h2
  rw [ints_len] at this
  omega
 rw [if_neg k2] at h2
 by_cases k3 : e.Kind = 3
 ·rw [if_pos k3] at h2
  simpa using h2
 ·rw [if_neg k3] at h2
  cases h2
theorem sum_le {α : Type} {f : α → Nat} {B : Nat} : ∀ {xs : List α}, (∀ x ∈ xs, f x ≤ B) → (xs.map f).sum ≤ B * xs.length
 | [], _ => by simp
 | x :: xs, h => by
  have h1 := h x List.mem_cons_self
  have h2 := sum_le (f := f) (xs := xs) (fun m hm => h m (List.mem_cons_of_mem _ hm))
  rw [List.map_cons, List.sum_cons, List.length_cons, Nat.mul_succ]
  omega
theorem rise_len : ∀ {xs : List Int} {lo hi : Int} {p : Int}, rise lo hi (some p) xs = true → p ≤ hi → (xs.length : Int) ≤ hi - p
 | [], lo, hi, p, _, hp => by simp only [List.length_nil]; omega
 | x :: xs, lo, hi, p, h, hp => by
  rw [rise_cons] at h
  simp only [Bool.and_eq_true, decide_eq_true_eq] at h
  have := rise_len h.2.2 h.1.2
  simp only [List.length_cons]
  omega
theorem votes_len {xs : List Int} (h : rise 1 4 none xs = true) : xs.length ≤ 4 := by
 cases xs with
 | nil => exact Nat.zero_le _
 | cons x xs =>
  rw [rise_cons] at h
  simp only [Bool.and_eq_true, decide_eq_true_eq] at h
  have := rise_len h.2.2 h.1.2
  simp only [List.length_cons]
  omega
theorem Right.clen {n : Node} (h : Right n) : n.Conf.length ≤ 4 := (confOk_len h.conf).2
theorem Right.cof {n : Node} (h : Right n) : confOk (confOf n) = true := confOf_ok h.conf
theorem Right.plen {n : Node} (h : Right n) : n.Peers.length ≤ 4 := by
 by_cases hr : n.Role = 2
 ·have h1 := congrArg List.length (h.peers hr).1
  have h2 := others_len (confOf n) n.Id
  have h3 := confOk_len h.cof
  rw [List.length_map] at h1
  omega
 ·rw [h.alone hr]
  exact Nat.zero_le _
theorem Right.tot {n : Node} (h : Right n) : totNode n ≤ 15000 := by
 obtain ⟨a1, a2, a3, a4, a5, a6, a7⟩ := logOk_at h.log
 have h1 := h.clen
 have h2 := h.plen
 have h3 := votes_len h.votes
 have h4 := sum_le (f := totEntry) (B := 120) (xs := n.Log.Entries) (fun e he => ent_small (termsOk_mem a7 e he))
 have h5 := sum0 (f := fun _ : Int => 0) (fun _ => rfl) n.Conf
 have h6 := sum0 (f := fun _ : Int => 0) (fun _ => rfl) n.Votes
 have h7 := sum0 (f := totPeer) (fun _ => rfl) n.Peers
 simp only [totNode, totLog, totL]
 omega
theorem conf_in {c : List Int} (h : confOk c = true) {x : Int} (hx : x ∈ c) : 1 ≤ x ∧ x ≤ 4 := by
 have : ∀ c ∈ allConfs, ∀ x ∈ c, 1 ≤ x ∧ x ≤ 4 := by decide
 exact this c (conf_all h) x hx
theorem others_in {c : List Int} {i x : Int} (hx : x ∈ others c i) : x ∈ c ∧ x ≠ i := by
 unfold others at hx
 have := List.mem_filter.1 hx
 exact ⟨this.1, by simpa using this.2⟩
def Told (n : Node) (m : Message) : Prop := (1 ≤ m.To ∧ m.To ≤ 4) ∧ totMessage m ≤ 20000
theorem send_told {n : Node} (h : Right n) (hr : n.Role = 2) {p : Peer} (hp : p.Id ∈ n.Peers.map (·.Id)) : Told n (sendMsg n p) := by
 rw [(h.peers hr).1] at hp
 have h1 := conf_in h.cof (others_in hp).1
 have h2 := send_small n p h.clen
 have h3 := h.tot
 refine ⟨?_, by omega⟩
 unfold sendMsg
 split <;> exact h1
theorem sends_told {n : Node} (h : Right n) : ∀ m ∈ n.Peers.map (sendMsg n), Told n m := by
 intro m hm
 obtain ⟨p, hp, rfl⟩ := List.mem_map.1 hm
 by_cases hr : n.Role = 2
 ·exact send_told h hr (List.mem_map.2 ⟨p, hp, rfl⟩)
 ·rw [h.alone hr] at hp
  cases hp
theorem commitN_id (n : Node) : (commitN n).Id = n.Id := by unfold commitN; split <;> rfl
theorem commitN_term (n : Node) : (commitN n).Term = n.Term := by unfold commitN; split <;> rfl
theorem commitN_le {n : Node} (h : n.Commit ≤ logEnd n.Log) : n.Commit ≤ (commitN n).Commit ∧ (commitN n).Commit ≤ logEnd n.Log := by
 have hc := comTo_le n (confOf n) (logEnd n.Log - n.Commit).toNat
 unfold commitN
 split <;> (simp only; omega)
theorem z4 : (0 : Int) ≤ 0 ∧ (0 : Int) ≤ 4 := by omega
theorem z2 : (0 : Int) ≤ 0 ∧ (0 : Int) ≤ 2 := by omega
theorem z20 : (0 : Int) ≤ 0 ∧ (0 : Int) ≤ 20 := by omega
theorem Right.commit {n : Node} (h : Right n) : Right (commitN n) := by
 have hc := commitN_le h.com.2
 have hl := commitN_log n
 have hco : n.Log.Start ≤ comTo n (confOf n) (logEnd n.Log - n.Commit).toNat ∧ comTo n (confOf n) (logEnd n.Log - n.Commit).toNat ≤ logEnd n.Log := by
  have h1 := comTo_le n (confOf n) (logEnd n.Log - n.Commit).toNat
  have h2 := h.com
  omega
 unfold commitN
 split
 ·exact ⟨h.id, h.conf, h.log, h.term, h.vote, z4, z2, hco, h.limit, h.clock, rfl, (fun _ => rfl), (fun e => absurd (show (0 : Int) = 2 from e) (by decide)), (fun _ => rfl)⟩
 ·exact ⟨h.id, h.conf, h.log, h.term, h.vote, h.lead, h.role, hco, h.limit, h.clock, h.votes, h.voted, h.peers, h.alone⟩
theorem logTerm_snoc (a b : Int) (es : List Entry) (e : Entry) : logTerm ⟨a, b, es ++ [e]⟩ = e.Term := by
 unfold logTerm
 simp
theorem Right.lead0 {n : Node} (h : Right n) : Right (Pe.FnSettles.lead0 n) := by
 obtain ⟨a1, a2, a3, a4, a5, a6, a7⟩ := logOk_at h.log
 have hg := grown_len (n := n) a5
 have hk := h.com
 have ht := h.term
 have hid := h.id
 have hl := newLog_ok h.log h.term
 refine ⟨h.id, h.conf, hl, ?_, h.vote, by show 0 ≤ n.Id ∧ n.Id ≤ 4; omega, (show (0 : Int) ≤ 2 ∧ (2 : Int) ≤ 2 by omega), ?_, h.limit, h.clock, rfl, fun _ => rfl, fun _ => ⟨?_, ?_⟩, fun e => absurd rfl e⟩
 ·show logTerm (newLog n) ≤ n.Term ∧ n.Term ≤ 100000
  unfold newLog grown
  split
  ·rw [logTerm_snoc]
   exact ⟨Int.le_refl _, ht.2⟩
  ·exact ht
 ·show n.Log.Start ≤ n.Commit ∧ n.Commit ≤ logEnd (newLog n)
  simp only [logEnd, newLog] at hk ⊢
  omega
 ·show ((others (confOf (lead1 n [])) n.Id).map (fun x => (⟨x, logEnd n.Log + 1, 0, 0⟩ : Peer))).map (·.Id) = _
  rw [List.map_map]
  exact List.map_id _
 ·intro p hp
  obtain ⟨x, _, rfl⟩ := List.mem_map.1 hp
  show peerOk (logEnd (newLog n)) _ = true
  unfold peerOk
  simp only [Bool.and_eq_true, decide_eq_true_eq]
  simp only [logEnd, newLog]
  rw [w64_id (by omega) (by omega)]
  refine ⟨⟨by omega, by omega⟩, ⟨by omega, by omega⟩, by omega, by omega⟩
theorem Right.leadN {n : Node} (h : Right n) : Right (Pe.FnSettles.leadN n) := h.lead0.commit
theorem leadN_id (n : Node) : (leadN n).Id = n.Id := by unfold leadN; rw [commitN_id]; rfl
theorem leadN_term (n : Node) : (leadN n).Term = n.Term := by unfold leadN; rw [commitN_term]; rfl
theorem Right.cand {n : Node} (h : Right n) {l : Int} (hl : 1 ≤ l ∧ l ≤ 20) (hr : n.Role ≠ 2) (ht : n.Term ≠ 100000) : Right (Pe.FnSettles.cand n l) := by
 have hid := h.id
 have htm := h.term
 refine ⟨h.id, h.conf, h.log, by show logTerm n.Log ≤ n.Term + 1 ∧ n.Term + 1 ≤ 100000; omega, by show 0 ≤ n.Id ∧ n.Id ≤ 4; omega, z4, (show (0 : Int) ≤ 1 ∧ (1 : Int) ≤ 2 by omega), h.com, hl, z20, ?_, (fun e => absurd rfl e), (fun e => absurd (show (1 : Int) = 2 from e) (by decide)), (fun _ => h.alone hr)⟩
 show rise 1 4 none [n.Id] = true
 rw [rise_cons]
 simp only [Bool.and_eq_true, decide_eq_true_eq]
 exact ⟨hid, trivial, rfl⟩
theorem tick_right {n : Node} {l : Int} (h : Right n) (hok : (tickN n l).2.2 = true) : Right (tickN n l).1 ∧ (tickN n l).1.Id = n.Id ∧ ∀ m ∈ (tickN n l).2.1, Told (tickN n l).1 m := by
 have hb : decide (1 ≤ l ∧ l ≤ 20) = true := by
  cases hd : decide (1 ≤ l ∧ l ≤ 20) with
  | true => rfl
  | false =>
   unfold tickN at hok
   rw [if_neg (by rw [h.ok]; simp), if_pos hd] at hok
   cases hok
 have hl : 1 ≤ l ∧ l ≤ 20 := by simpa using hb
 have hcl := h.clock
 have hlm := h.limit
 unfold tickN
 rw [if_neg (by rw [h.ok]; simp), if_neg (by rw [hb]; simp)]
 by_cases hr : n.Role = 2
 ·rw [if_pos hr]
  exact ⟨h, rfl, sends_told h⟩
 rw [if_neg hr]
 by_cases hk : n.Clock + 1 < n.Limit
 ·rw [if_pos hk]
  exact ⟨⟨h.id, h.conf, h.log, h.term, h.vote, h.lead, h.role, h.com, h.limit, by show 0 ≤ n.Clock + 1 ∧ n.Clock + 1 ≤ 20; omega, h.votes, h.voted, h.peers, h.alone⟩, rfl, fun m hm => by cases hm⟩
 rw [if_neg hk]
 have hrest : Right (rest n l) := ⟨h.id, h.conf, h.log, h.term, h.vote, h.lead, h.role, h.com, hl, z20, h.votes, h.voted, h.peers, h.alone⟩
 by_cases hi : n.Id ∉ confOf n
 ·rw [if_pos hi]
  exact ⟨hrest, rfl, fun m hm => by cases hm⟩
 rw [if_neg hi]
 by_cases ht : n.Term = 100000
 ·rw [if_pos ht]
  exact ⟨hrest, rfl, fun m hm => by cases hm⟩
 rw [if_neg ht]
 have hc := h.cand hl hr ht
 by_cases hw : most (confOf n) [n.Id] = true
 ·rw [if_pos hw]
  exact ⟨hc.leadN, leadN_id _, sends_told hc.leadN⟩
 rw [if_neg hw]
 refine ⟨hc, rfl, fun m hm => ?_⟩
 obtain ⟨x, hx, rfl⟩ := List.mem_map.1 hm
 exact ⟨conf_in h.cof (others_in hx).1, Nat.zero_le _⟩
theorem peerOf_id (n : Node) (x : Int) : (peerOf n x).Id = x := by
 unfold peerOf
 cases hf : n.Peers.find? (fun p => p.Id == x) with
 | none => rfl
 | some q =>
  have := List.find?_some hf
  simpa using this
theorem propA_id (n : Node) (e : Entry) : (propA n e).Id = n.Id := by unfold propA; rw [commitN_id]; rfl
theorem propose_right {n : Node} {k : Int} {t : ByteArray} (h : Right n) (hok : (propN n k t).2.2.2 = true) : Right (propN n k t).1 ∧ (propN n k t).1.Id = n.Id ∧ ∀ m ∈ (propN n k t).2.1, Told (propN n k t).1 m := by
 unfold propN at hok ⊢
 rw [if_neg (by rw [h.ok]; simp)] at hok ⊢
 by_cases hr : n.Role = 2
 ·rw [if_neg (not_not_intro hr)] at hok ⊢
  by_cases he : entOk ⟨n.Term, k, t⟩ = false
  ·rw [if_pos he] at hok
   cases hok
  rw [if_neg he] at hok ⊢
  by_cases hq : n.Log.Entries.length < 120 ∧ logEnd n.Log < 100000
  ·rw [if_neg (not_not_intro hq)] at hok ⊢
   by_cases hm : k = 2 ∧ mayConf n t = false
   ·rw [if_pos hm] at hok
    cases hok
   rw [if_neg hm] at hok ⊢
   have he' : entOk ⟨n.Term, k, t⟩ = true := by simpa using he
   have hl := propLog_ok h.log hq he' h.term.1
   have hp := h.peers hr
   have hk := h.com
   have ht := h.term
   obtain ⟨a1, a2, a3, a4, a5, a6, a7⟩ := logOk_at h.log
   have hend : logEnd (propLog n ⟨n.Term, k, t⟩) = logEnd n.Log + 1 := by
    simp only [logEnd, propLog, List.length_append, List.length_cons, List.length_nil]
    omega
   have h0 : Right (prop0 n ⟨n.Term, k, t⟩) := by
    refine ⟨h.id, h.conf, hl, ?_, h.vote, h.lead, h.role, ?_, h.limit, h.clock, h.votes, h.voted, fun _ => ⟨?_, ?_⟩, fun e => absurd hr e⟩
    ·show logTerm (propLog n ⟨n.Term, k, t⟩) ≤ n.Term ∧ n.Term ≤ 100000
     unfold propLog
     rw [logTerm_snoc]
     exact ⟨Int.le_refl _, ht.2⟩
    ·show n.Log.Start ≤ n.Commit ∧ n.Commit ≤ logEnd (propLog n ⟨n.Term, k, t⟩)
     rw [hend]
     omega
    ·show ((others (confOf (prop1 n ⟨n.Term, k, t⟩ [])) n.Id).map (peerOf n)).map (·.Id) = _
     rw [List.map_map]
     have : ((fun p : Peer => p.Id) ∘ peerOf n) = id := by
      funext x
      exact peerOf_id n x
     rw [this]
     exact List.map_id _
    ·intro p hp'
     obtain ⟨x, _, rfl⟩ := List.mem_map.1 hp'
     show peerOk (logEnd (propLog n ⟨n.Term, k, t⟩)) _ = true
     rw [hend]
     unfold peerOf
     cases hf : n.Peers.find? (fun p => p.Id == x) with
     | some q => exact peer_up (hp.2 q (List.mem_of_find?_eq_some hf))
     | none =>
      simp only [Option.getD_none, newPeer]
      have hq2 : 0 ≤ logEnd n.Log ∧ logEnd n.Log ≤ 200000 := by simp only [logEnd]; omega
      unfold peerOk
      simp only [Bool.and_eq_true, decide_eq_true_eq]
      rw [w64_id (by omega) (by omega)]
      refine ⟨⟨by omega, by omega⟩, ⟨by omega, by omega⟩, by omega, by omega⟩
   exact ⟨h0.commit, propA_id _ _, sends_told h0.commit⟩
  ·rw [if_pos hq] at hok
   cases hok
 ·rw [if_pos hr] at hok
  cases hok
def termOf : Int → List Entry → Nat → Int
 | t, [], _ => t
 | t, _ :: _, 0 => t
 | _, e :: es, d + 1 => termOf e.Term es d
theorem terms_drop : ∀ (es : List Entry) (t : Int) (d : Nat), termsOk t es = true → termsOk (termOf t es d) (es.drop d) = true
 | [], t, d, _ => by cases d <;> rfl
 | e :: es, t, 0, h => by simpa only [termOf, List.drop_zero] using h
 | e :: es, t, d + 1, h => by
  rw [termsOk_cons] at h
  simp only [Bool.and_eq_true] at h
  exact terms_drop es e.Term d h.2.2
theorem termOf_in : ∀ (es : List Entry) (t : Int) (d : Nat), (0 ≤ t ∧ t ≤ 100000) → termsOk t es = true → 0 ≤ termOf t es d ∧ termOf t es d ≤ 100000
 | [], t, d, ht, _ => by cases d <;> exact ht
 | e :: es, t, 0, ht, _ => ht
 | e :: es, t, d + 1, ht, h => by
  rw [termsOk_cons] at h
  simp only [Bool.and_eq_true] at h
  exact termOf_in es e.Term d (entOk_term h.1) h.2.2
theorem termOf_get : ∀ (es : List Entry) (t : Int) (d : Nat) (hd : d < es.length), termOf t es (d + 1) = es[d].Term
 | e :: es, t, 0, _ => by cases es <;> rfl
 | e :: es, t, d + 1, hd => by
  show termOf e.Term es (d + 1) = _
  rw [termOf_get es e.Term d (by simpa using hd)]
  rfl
theorem termAt_of {l : Log} {d : Nat} (hd : d ≤ l.Entries.length) : termAt l (l.Start + d) = termOf l.StartTerm l.Entries d := by
 unfold termAt
 cases d with
 | zero =>
  rw [if_pos (by simp)]
  cases l.Entries <;> rfl
 | succ d =>
  rw [if_neg (by omega), termOf_get l.Entries l.StartTerm d (by omega), decide_eq_true (by omega), show (l.Start + ((d + 1 : Nat) : Int) - l.Start - 1).toNat = d by omega, List.getElem?_eq_getElem (by omega)]
def lastT (t : Int) (es : List Entry) : Int := match es.getLast? with | some e => e.Term | none => t
theorem lastT_cons (t : Int) (e : Entry) (es : List Entry) : lastT t (e :: es) = lastT e.Term es := by
 unfold lastT
 cases es with
 | nil => rfl
 | cons x xs =>
  rw [List.getLast?_cons_cons]
  cases hq : (x :: xs).getLast? with
  | none => simp at hq
  | some z => rfl
theorem lastT_drop : ∀ (es : List Entry) (t : Int) (d : Nat), lastT (termOf t es d) (es.drop d) = lastT t es
 | [], t, d => by cases d <;> rfl
 | e :: es, t, 0 => by simp only [termOf, List.drop_zero]
 | e :: es, t, d + 1 => by
  rw [lastT_cons]
  exact lastT_drop es e.Term d
theorem confsUp_stop (i : Int) : ∀ (es : List Entry) (p : Int) (out : List Int), i < p → confsUp i es p out = out
 | [], p, out, _ => rfl
 | e :: es, p, out, h => by rw [confsUp, if_neg (by omega)]
theorem confsUp_split (i j : Int) : ∀ (d : Nat) (es : List Entry) (p : Int) (out : List Int), d ≤ es.length → p + d = i + 1 → i ≤ j → confsUp j (es.drop d) (p + d) (confsUp i es p out) = confsUp j es p out
 | 0, es, p, out, _, hp, _ => by
  rw [confsUp_stop i es p out (by omega), List.drop_zero, show p + ((0 : Nat) : Int) = p by omega]
 | d + 1, [], p, out, hd, _, _ => by simp at hd
 | d + 1, e :: es, p, out, hd, hp, hj => by
  simp only [List.length_cons] at hd
  rw [List.drop_succ_cons, confsUp, if_pos (show p ≤ i by omega)]
  conv => rhs; rw [confsUp, if_pos (show p ≤ j by omega)]
  rw [← confsUp_split i j d es (p + 1) _ (by omega) (by omega) hj, show p + 1 + (d : Int) = p + ((d + 1 : Nat) : Int) by omega]
theorem settle_right {n : Node} {i : Int} (h : Right n) (hi : n.Log.Start ≤ i ∧ i ≤ n.Commit) : (settle n i).2 = true ∧ Right (settle n i).1 ∧ (settle n i).1.Id = n.Id ∧ (settle n i).1.Commit = n.Commit ∧ (settle n i).1.Log.Start = i ∧ (settle n i).1.Conf = confAt n i ∧ confOf (settle n i).1 = confOf n ∧ logEnd (settle n i).1.Log = logEnd n.Log ∧ logTerm (settle n i).1.Log = logTerm n.Log := by
 obtain ⟨a1, a2, a3, a4, a5, a6, a7⟩ := logOk_at h.log
 have hk := h.com
 have hk2 := h.com
 simp only [logEnd] at hk
 obtain ⟨d, hd⟩ : ∃ d : Nat, i = n.Log.Start + d := ⟨(i - n.Log.Start).toNat, by omega⟩
 have hdl : d ≤ n.Log.Entries.length := by omega
 have hb : behind n.Log i (termAt n.Log i) = ⟨i, termOf n.Log.StartTerm n.Log.Entries d, n.Log.Entries.drop d⟩ := by
  unfold behind
  rw [if_pos (by rw [h.log]; simp; omega), hd, termAt_of hdl, show (n.Log.Start + (d : Int) - n.Log.Start).toNat = d by omega]
 have hs : settle n i = (⟨n.Id, n.Term, n.Vote, n.Role, n.Lead, confAt n i, ⟨i, termOf n.Log.StartTerm n.Log.Entries d, n.Log.Entries.drop d⟩, n.Commit, n.Clock, n.Limit, n.Votes, n.Peers⟩, true) := by
  unfold settle
  rw [if_pos (by rw [h.ok]; simpa using hi), hb]
 have hco : confOf (⟨n.Id, n.Term, n.Vote, n.Role, n.Lead, confAt n i, ⟨i, termOf n.Log.StartTerm n.Log.Entries d, n.Log.Entries.drop d⟩, n.Commit, n.Clock, n.Limit, n.Votes, n.Peers⟩ : Node) = confOf n := by
  show confsUp 100120 (n.Log.Entries.drop d) (i + 1) (confsUp i n.Log.Entries (n.Log.Start + 1) n.Conf) = confsUp 100120 n.Log.Entries (n.Log.Start + 1) n.Conf
  have := confsUp_split i 100120 d n.Log.Entries (n.Log.Start + 1) n.Conf hdl (by omega) (by omega)
  rw [← this, show n.Log.Start + 1 + (d : Int) = i + 1 by omega]
 have he : logEnd (⟨i, termOf n.Log.StartTerm n.Log.Entries d, n.Log.Entries.drop d⟩ : Log) = logEnd n.Log := by
  simp only [logEnd, List.length_drop]
  omega
 have ht : logTerm (⟨i, termOf n.Log.StartTerm n.Log.Entries d, n.Log.Entries.drop d⟩ : Log) = logTerm n.Log := lastT_drop _ _ _
 have hto := termOf_in n.Log.Entries n.Log.StartTerm d ⟨a3, a4⟩ a7
 have hlog : logOk (⟨i, termOf n.Log.StartTerm n.Log.Entries d, n.Log.Entries.drop d⟩ : Log) = true := by
  unfold logOk
  simp only [Bool.and_eq_true, decide_eq_true_eq, List.length_drop]
  exact ⟨⟨by omega, by omega⟩, hto, by omega, by omega, terms_drop _ _ _ a7⟩
 rw [hs]
 refine ⟨rfl, ⟨h.id, confsUp_ok _ _ _ _ h.conf, hlog, by rw [ht]; exact h.term, h.vote, h.lead, h.role, ?_, h.limit, h.clock, h.votes, h.voted, fun hr => ?_, h.alone⟩, rfl, rfl, rfl, rfl, hco, he, ht⟩
 ·show i ≤ n.Commit ∧ n.Commit ≤ logEnd (⟨i, termOf n.Log.StartTerm n.Log.Entries d, n.Log.Entries.drop d⟩ : Log)
  rw [he]
  exact ⟨hi.2, hk2.2⟩
 ·rw [hco, he]
  exact h.peers hr
def msgTerms (T : Int) : Int → List Entry → Bool
 | _, [] => true
 | t, e :: es => entOk e && (decide (t ≤ e.Term) && (decide (e.Term ≤ T) && msgTerms T e.Term es))
theorem msgTerms_cons (T t : Int) (e : Entry) (es : List Entry) : msgTerms T t (e :: es) = (entOk e && (decide (t ≤ e.Term) && (decide (e.Term ≤ T) && msgTerms T e.Term es))) := rfl
def messageOk (m : Message) : Bool := decide (1 ≤ m.Kind ∧ m.Kind ≤ 6) && (decide (1 ≤ m.From ∧ m.From ≤ 4) && (decide (1 ≤ m.To ∧ m.To ≤ 4) && (!(m.From == m.To) && (decide (0 ≤ m.Term ∧ m.Term ≤ 100000) && (decide (0 ≤ m.LogTerm ∧ m.LogTerm ≤ 100000) && (decide (0 ≤ m.Index ∧ m.Index ≤ 100000) && (decide (0 ≤ m.Commit ∧ m.Commit ≤ 100000) && (decide (m.Entries.length ≤ 4) && ((decide (m.Entries.length = 0) || decide (m.Kind = 3)) && (msgTerms m.Term m.LogTerm m.Entries &&
 (if m.Kind = 5 then confOk m.Conf && decide (m.Data.size ≤ 60) else decide (m.Conf.length = 0) && (decide (m.Data = (⟨#[]⟩ : ByteArray)) && !m.Last))))))))))))
theorem mok_sr (N : Nat) (hN : Big N) (x : Message) : ∀ (es : List Entry) (t : Int) (k : Nat), k + es.length ≤ 1099511627 → (∀ e ∈ es, e.Data.size ≤ 1099511627) → spec_MessageOk_l1_r N x es t (k : Int) = some (if msgTerms x.Term t es = true then .inr () else .inl false)
 | [], t, k, hk, h => rfl
 | e :: es, t, k, hk, h => by
  simp only [List.length_cons] at hk
  rw [spec_MessageOk_l1_r, msgTerms_cons]
  simp only [Option.bind_some, entOk_spec N hN e (h e (by simp)), w64_succ (k := k) (by omega), mok_sr N hN x es e.Term (k + 1) (by omega) (fun z hz => h z (by simp [hz]))]
  cases entOk e with
  | false => simp
  | true =>
   by_cases h1 : e.Term < t
   ·have : ¬ t ≤ e.Term := by omega
    simp [h1, this]
   ·have h1' : t ≤ e.Term := by omega
    by_cases h2 : e.Term > x.Term
    ·have : ¬ e.Term ≤ x.Term := by omega
     simp [h1, h2, this]
    ·have : e.Term ≤ x.Term := by omega
     simp [h1, h1', h2, this]
theorem messageOk_spec (N : Nat) (hN : Big N) (m : Message) (h : totMessage m ≤ 1099511627) : spec_MessageOk N m = some (messageOk m) := by
 have hd : m.Entries.length ≤ 1099511627 ∧ m.Conf.length ≤ 1099511627 ∧ ∀ e ∈ m.Entries, e.Data.size ≤ 1099511627 := by
  simp only [totMessage, totL] at h
  refine ⟨by omega, by omega, fun e he => ?_⟩
  have := le_sum (f := totEntry) he
  simp only [totEntry] at this
  omega
 unfold spec_MessageOk messageOk
 simp only [in_eq, Option.bind_some]
 refine iteF' fun _ => iteF' fun _ => iteF' fun _ => ?_
 cases hft : (m.From == m.To) with
 | true => rfl
 | false =>
  rw [if_neg (by simp), Bool.not_false, Bool.true_and]
  refine iteF' fun _ => iteF' fun _ => iteF' fun _ => iteF' fun _ => ?_
  simp only [joinP]
  rw [spec_MessageOk_l1_eq m (by omega) (by have := hN; unfold Big at this; omega), show (0 : Int) = ((0 : Nat) : Int) from rfl, mok_sr N hN m m.Entries m.LogTerm 0 (by omega) hd.2.2]
  by_cases h4 : m.Entries.length ≤ 4
  ·rw [if_neg (by simp; omega), decide_eq_true h4, Bool.true_and]
   have hrest : (some (if msgTerms m.Term m.LogTerm m.Entries = true then (Sum.inr () : Bool ⊕ Unit) else .inl false)).bind (Sum.elim (fun v => some v) (fun (_ : Unit) => if (m.Kind == (5 : Int)) = true then (spec_ConfOk N m.Conf).bind fun y => if y = true then some (decide ((m.Data.size : Int) ≤ (60 : Int))) else some false
     else if (((m.Conf.length : Nat) : Int) == (0 : Int)) = true then (if decide (m.Data = (⟨#[]⟩ : ByteArray)) = true then some (!m.Last) else some false) else some false)) =
     some (msgTerms m.Term m.LogTerm m.Entries && (if m.Kind = 5 then confOk m.Conf && decide (m.Data.size ≤ 60) else decide (m.Conf.length = 0) && (decide (m.Data = (⟨#[]⟩ : ByteArray)) && !m.Last))) := by
    cases msgTerms m.Term m.LogTerm m.Entries with
    | false => rfl
    | true =>
     simp only [if_true, Option.bind_some, Sum.elim_inr, Bool.true_and, confOk_spec N hN m.Conf (by omega)]
     by_cases h5 : m.Kind = 5
     ·rw [if_pos (by simpa using h5), if_pos h5]
      cases confOk m.Conf with
      | false => rfl
      | true =>
       rw [if_pos rfl, Bool.true_and]
       congr 1
       exact decide_eq_decide.2 ⟨fun h => by omega, fun h => by omega⟩
     ·rw [if_neg (by simpa using h5), if_neg h5]
      by_cases hc : m.Conf.length = 0
      ·rw [if_pos (by simp [hc]), decide_eq_true hc, Bool.true_and]
       cases decide (m.Data = (⟨#[]⟩ : ByteArray)) <;> rfl
      ·rw [if_neg (by simp; intro h; rw [h] at hc; simp at hc), decide_eq_false hc, Bool.false_and]
   by_cases h0 : m.Entries.length = 0
   ·rw [if_neg (by simp; exact List.eq_nil_of_length_eq_zero h0), decide_eq_true h0, Bool.true_or, Bool.true_and]
    exact hrest
   ·rw [if_pos (by simp; omega), decide_eq_false h0, Bool.false_or]
    by_cases h3 : m.Kind = 3
    ·rw [if_neg (by simpa using h3), decide_eq_true h3, Bool.true_and]
     exact hrest
    ·rw [if_pos (by simpa using h3), decide_eq_false h3, Bool.false_and]
  ·rw [if_pos (by simp; omega), decide_eq_false h4, Bool.false_and]
structure MsgRight (m : Message) : Prop where
 kind : 1 ≤ m.Kind ∧ m.Kind ≤ 6
 frm : 1 ≤ m.From ∧ m.From ≤ 4
 to : 1 ≤ m.To ∧ m.To ≤ 4
 ne : m.From ≠ m.To
 term : 0 ≤ m.Term ∧ m.Term ≤ 100000
 logTerm : 0 ≤ m.LogTerm ∧ m.LogTerm ≤ 100000
 index : 0 ≤ m.Index ∧ m.Index ≤ 100000
 commit : 0 ≤ m.Commit ∧ m.Commit ≤ 100000
 few : m.Entries.length ≤ 4
 terms : msgTerms m.Term m.LogTerm m.Entries = true
theorem msg_of {m : Message} (h : messageOk m = true) : MsgRight m := by
 unfold messageOk at h
 simp only [Bool.and_eq_true, decide_eq_true_eq, Bool.not_eq_true', beq_eq_false_iff_ne] at h
 obtain ⟨h1, h2, h3, h4, h5, h6, h7, h8, h9, _, h11, _⟩ := h
 exact ⟨h1, h2, h3, h4, h5, h6, h7, h8, h9, h11⟩
theorem msgTerms_mem : ∀ {es : List Entry} {T t : Int}, msgTerms T t es = true → ∀ e ∈ es, entOk e = true ∧ e.Term ≤ T
 | x :: es, T, t, h, e, he => by
  rw [msgTerms_cons] at h
  simp only [Bool.and_eq_true, decide_eq_true_eq] at h
  rcases List.mem_cons.1 he with rfl | he
  ·exact ⟨h.1, h.2.2.1⟩
  ·exact msgTerms_mem h.2.2.2 e he
def stepUp (n : Node) (m : Message) : Node := if m.Term > n.Term then ⟨n.Id, m.Term, 0, 0, 0, n.Conf, n.Log, n.Commit, n.Clock, n.Limit, [], []⟩ else n
def follow (n : Node) (i : Int) : Node := ⟨n.Id, n.Term, n.Vote, 0, i, n.Conf, n.Log, n.Commit, 0, n.Limit, [], []⟩
def voteOk (n : Node) (m : Message) : Bool := decide (m.Term = n.Term ∧ (n.Vote = 0 ∨ n.Vote = m.From) ∧ (m.LogTerm > logTerm n.Log ∨ (m.LogTerm = logTerm n.Log ∧ m.Index ≥ logEnd n.Log)))
def voted (n : Node) (m : Message) : Node := if voteOk n m = true then ⟨n.Id, n.Term, m.From, n.Role, n.Lead, n.Conf, n.Log, n.Commit, 0, n.Limit, n.Votes, n.Peers⟩ else n
def askVoteN (n : Node) (m : Message) : Node × List Message := (voted n m, [⟨2, n.Id, m.From, n.Term, 0, 0, 0, voteOk n m, [], [], ⟨#[]⟩, false⟩])
theorem askVote_spec (N : Nat) (n : Node) (m : Message) (hl : logOk n.Log = true) : spec_l16AskVote N ⟨n, []⟩ m = some ⟨(askVoteN n m).1, (askVoteN n m).2⟩ := by
 unfold spec_l16AskVote spec_l16Tell
 simp only [joinP]
 rw [logLast_spec N hl]
 simp only [Option.bind_some]
 have hfin : ∀ b : Bool, b = voteOk n m →
   (if b = true then (cat? ([] : List Message) ([Message.mk (2 : Int) n.Id m.From n.Term (0 : Int) (0 : Int) (0 : Int) b [] [] (⟨#[]⟩ : ByteArray) false] : List Message)).bind fun x => some (Tl16Run.mk (Node.mk n.Id n.Term m.From n.Role n.Lead n.Conf (Log.mk n.Log.Start n.Log.StartTerm n.Log.Entries) n.Commit (0 : Int) n.Limit n.Votes n.Peers) x)
   else (cat? ([] : List Message) ([Message.mk (2 : Int) n.Id m.From n.Term (0 : Int) (0 : Int) (0 : Int) b [] [] (⟨#[]⟩ : ByteArray) false] : List Message)).bind fun x => some (Tl16Run.mk (Node.mk n.Id n.Term n.Vote n.Role n.Lead n.Conf (Log.mk n.Log.Start n.Log.StartTerm n.Log.Entries) n.Commit n.Clock n.Limit n.Votes n.Peers) x)) = some ⟨(askVoteN n m).1, (askVoteN n m).2⟩ := by
  intro b hb
  rw [cat_ok (by simp), Option.bind_some, Option.bind_some]
  unfold askVoteN voted
  rw [← hb]
  cases b <;> rfl
 have hf : ∀ f : Bool, f = decide (m.LogTerm > logTerm n.Log ∨ (m.LogTerm = logTerm n.Log ∧ m.Index ≥ logEnd n.Log)) → ∀ X : Bool → Option Tl16Run, (∀ b, b = voteOk n m → X b = some ⟨(askVoteN n m).1, (askVoteN n m).2⟩) →
   (if (m.Term == n.Term) = true then (if (n.Vote == (0 : Int)) = true then X f else if (n.Vote == m.From) = true then X f else X false) else X false) = some ⟨(askVoteN n m).1, (askVoteN n m).2⟩ := by
  intro f hf X hX
  by_cases h1 : m.Term = n.Term
  ·rw [if_pos (by simpa using h1)]
   by_cases h2 : n.Vote = 0
   ·rw [if_pos (by simpa using h2)]
    refine hX f ?_
    rw [hf]
    unfold voteOk
    exact decide_eq_decide.2 ⟨fun h => ⟨h1, .inl h2, h⟩, fun h => h.2.2⟩
   ·rw [if_neg (by simpa using h2)]
    by_cases h3 : n.Vote = m.From
    ·rw [if_pos (by simpa using h3)]
     refine hX f ?_
     rw [hf]
     unfold voteOk
     exact decide_eq_decide.2 ⟨fun h => ⟨h1, .inr h3, h⟩, fun h => h.2.2⟩
    ·rw [if_neg (by simpa using h3)]
     refine hX false ?_
     unfold voteOk
     rw [decide_eq_false]
     rintro ⟨_, h4 | h4, _⟩
     ·exact h2 h4
     ·exact h3 h4
  ·rw [if_neg (by simpa using h1)]
   refine hX false ?_
   unfold voteOk
   rw [decide_eq_false (fun h => h1 h.1)]
 by_cases h1 : m.LogTerm > logTerm n.Log
 ·rw [if_pos (by simpa using h1)]
  exact hf true (by rw [decide_eq_true (.inl h1)]) _ hfin
 ·rw [if_neg (by simpa using h1)]
  by_cases h2 : m.LogTerm = logTerm n.Log
  ·rw [if_pos (by simpa using h2)]
   refine hf _ ?_ _ hfin
   exact decide_eq_decide.2 ⟨fun h => .inr ⟨h2, h⟩, fun h => h.elim (fun h => absurd h h1) (fun h => h.2)⟩
  ·rw [if_neg (by simpa using h2)]
   refine hf false ?_ _ hfin
   rw [decide_eq_false]
   rintro (h | h)
   ·exact h1 h
   ·exact h2 h.1
def newVotes (n : Node) (m : Message) : List Int := [1, 2, 3, 4].filter (fun i : Int => decide (i = m.From ∨ i ∈ n.Votes))
def withVotes (n : Node) (v : List Int) : Node := ⟨n.Id, n.Term, n.Vote, n.Role, n.Lead, n.Conf, n.Log, n.Commit, n.Clock, n.Limit, v, n.Peers⟩
def tellVoteN (n : Node) (m : Message) : Node × List Message :=
 if m.Ok = false then (n, []) else if m.Term ≠ n.Term then (n, []) else if n.Role ≠ 1 then (n, []) else
 if most (confOf n) (newVotes n m) = true then (leadN (withVotes n (newVotes n m)), (leadN (withVotes n (newVotes n m))).Peers.map (sendMsg (leadN (withVotes n (newVotes n m))))) else (withVotes n (newVotes n m), [])
theorem tv_r (N : Nat) (hN : Big N) (x : Tl16Run) (m : Message) (hv : x.n.Votes.length ≤ 1000) (k : Nat) (i : Int) (acc : List Int) (h1 : 1 ≤ i) (h2 : i ≤ 4) (ha : acc.length ≤ 100) :
  spec_l16TellVote_l1 N x m (k + 1) i acc = spec_l16TellVote_l1 N x m k (i + 1) (acc ++ if decide (i = m.From ∨ i ∈ x.n.Votes) = true then [i] else []) := by
 rw [spec_l16TellVote_l1, if_pos (by simpa using h2)]
 simp only [joinP]
 rw [w64_id (n := i + 1) (by omega) (by omega), cat_ok (by simp; omega)]
 simp only [Option.bind_some, in_spec N hN x.n.Votes i (by omega)]
 by_cases hf : i = m.From
 ·rw [if_pos (by simpa using hf), if_pos (by simp [hf])]
 ·rw [if_neg (by simpa using hf)]
  by_cases hi : i ∈ x.n.Votes
  ·rw [if_pos (by simpa using hi), if_pos (by simp [hi])]
  ·rw [if_neg (by simpa using hi), if_neg (by simp [hf, hi]), List.append_nil]
theorem tv_ok (N : Nat) (hN : Big N) (x : Tl16Run) (m : Message) (hv : x.n.Votes.length ≤ 1000) : spec_l16TellVote_l1 N x m N (1 : Int) [] = some (newVotes x.n m) := by
 obtain ⟨k, hk⟩ : ∃ k, N = k + 5 := ⟨N - 5, by have := hN; unfold Big at this; omega⟩
 have h0 : spec_l16TellVote_l1 N x m N (1 : Int) [] = spec_l16TellVote_l1 N x m (k + 4 + 1) (1 : Int) [] := by rw [show k + 4 + 1 = N by omega]
 rw [h0, tv_r N hN x m hv (k + 4) 1 [] (by omega) (by omega) (by simp)]
 rw [tv_r N hN x m hv (k + 3) (1 + 1) _ (by omega) (by omega) (by split <;> simp)]
 rw [tv_r N hN x m hv (k + 2) (1 + 1 + 1) _ (by omega) (by omega) (by split <;> split <;> simp)]
 rw [tv_r N hN x m hv (k + 1) (1 + 1 + 1 + 1) _ (by omega) (by omega) (by split <;> split <;> split <;> simp)]
 rw [spec_l16TellVote_l1, if_neg (by simp)]
 unfold newVotes
 simp only [List.filter_cons, List.filter_nil, show (1 : Int) + 1 = 2 from rfl, show (2 : Int) + 1 = 3 from rfl, show (3 : Int) + 1 = 4 from rfl]
 generalize decide ((1 : Int) = m.From ∨ (1 : Int) ∈ x.n.Votes) = q1
 generalize decide ((2 : Int) = m.From ∨ (2 : Int) ∈ x.n.Votes) = q2
 generalize decide ((3 : Int) = m.From ∨ (3 : Int) ∈ x.n.Votes) = q3
 generalize decide ((4 : Int) = m.From ∨ (4 : Int) ∈ x.n.Votes) = q4
 cases q1 <;> cases q2 <;> cases q3 <;> cases q4 <;> rfl
theorem newVotes_rise (n : Node) (m : Message) : rise 1 4 none (newVotes n m) = true := by
 unfold newVotes
 have : ∀ p : Int → Bool, rise 1 4 none (([1, 2, 3, 4] : List Int).filter p) = true := by
  intro p
  simp only [List.filter_cons, List.filter_nil]
  cases p 1 <;> cases p 2 <;> cases p 3 <;> cases p 4 <;> rfl
 exact this _
theorem tellVote_spec (N : Nat) (hN : Big N) (n : Node) (m : Message) (h : Right n) : spec_l16TellVote N ⟨n, []⟩ m = some ⟨(tellVoteN n m).1, (tellVoteN n m).2⟩ := by
 have hvl := votes_len h.votes
 have hnv := votes_len (newVotes_rise n m)
 have ht := h.tot
 have hcl := h.clen
 have hcf := confOk_len h.cof
 unfold spec_l16TellVote tellVoteN
 cases hok : m.Ok with
 | false => rfl
 | true =>
  rw [if_neg (show ¬ ((!true) = true) by decide), if_neg (show ¬ (true = false) by decide)]
  by_cases h1 : m.Term = n.Term
  ·rw [if_neg (show ¬ ((m.Term != n.Term) = true) by simpa using h1), if_neg (not_not_intro h1)]
   by_cases h2 : n.Role = 1
   ·rw [if_neg (show ¬ ((n.Role != (1 : Int)) = true) by simpa using h2), if_neg (not_not_intro h2)]
    simp only [joinP]
    rw [tv_ok N hN ⟨n, []⟩ m (by simp only; omega), Option.bind_some]
    unfold spec_l16Elected_i1
    have htv : totNode (withVotes n (newVotes n m)) ≤ 30000 := by
     have h6 := sum0 (f := fun _ : Int => 0) (fun _ => rfl) (newVotes n m)
     simp only [totNode, totL, withVotes] at ht ⊢
     omega
    have hc := confOf_spec N hN (withVotes n (newVotes n m)) h.log (by omega)
    have hc' : confOf (withVotes n (newVotes n m)) = confOf n := rfl
    rw [hc'] at hc
    have hld := lead_spec N hN (withVotes n (newVotes n m)) h.log (by omega) hcl (by have := h.plen; show n.Peers.length ≤ 1000; omega) h.com h.term
    simp only
    rw [show (Node.mk n.Id n.Term n.Vote n.Role n.Lead n.Conf n.Log n.Commit n.Clock n.Limit (newVotes n m) n.Peers) = withVotes n (newVotes n m) from rfl, hc, Option.bind_some, most_spec N hN (confOf n) (newVotes n m) (by omega) (by omega), Option.bind_some, Option.bind_some]
    by_cases hw : most (confOf n) (newVotes n m) = true
    ·rw [if_pos hw, if_pos hw, hld]
     rfl
    ·rw [if_neg hw, if_neg hw]
   ·rw [if_pos (show (n.Role != (1 : Int)) = true by simpa using h2), if_pos h2]
  ·rw [if_pos (show (m.Term != n.Term) = true by simpa using h1), if_pos h1]
def appFrom (n : Node) (m : Message) : Int × Int × List Entry := if m.Index < n.Log.Start then (n.Log.Start, n.Log.StartTerm, m.Entries.drop (if n.Log.Start - m.Index > m.Entries.length then m.Entries.length else (n.Log.Start - m.Index).toNat)) else (m.Index, m.LogTerm, m.Entries)
def agree (l : Log) (i : Int) : List Entry → Nat → Nat
 | [], k => k
 | e :: es, k => if termAt l (i + 1 + k) = e.Term then agree l i es (k + 1) else k
def refuseMsg (n : Node) (m : Message) (i : Int) : Message := ⟨4, n.Id, m.From, n.Term, i, 0, 0, false, [], [], ⟨#[]⟩, false⟩
def joined (n : Node) (i : Int) (k : Nat) (es : List Entry) : List Entry := n.Log.Entries.take (i + k - n.Log.Start).toNat ++ es.drop k
def backTo (i last : Int) : Int := if (if i - 1 < 0 then 0 else i - 1) > last then last else (if i - 1 < 0 then 0 else i - 1)
def comWith (n : Node) (m : Message) (k : Int) : Int := if (if m.Commit > k then k else m.Commit) > n.Commit then (if m.Commit > k then k else m.Commit) else n.Commit
def appN (n : Node) (m : Message) (k : Int) (l : List Entry) : Node × List Message := (⟨n.Id, n.Term, n.Vote, 0, m.From, n.Conf, ⟨n.Log.Start, n.Log.StartTerm, l⟩, comWith n m k, 0, n.Limit, [], []⟩, [⟨4, n.Id, m.From, n.Term, k, 0, 0, true, [], [], ⟨#[]⟩, false⟩])
def askAppendN (n : Node) (m : Message) : Node × List Message :=
 if m.Term < n.Term then (n, [refuseMsg n m 0]) else
 if termAt n.Log (appFrom n m).1 ≠ (appFrom n m).2.1 then (follow n m.From, [refuseMsg n m (backTo (appFrom n m).1 (logEnd n.Log))]) else
 if agree n.Log (appFrom n m).1 (appFrom n m).2.2 0 < (appFrom n m).2.2.length then
  (if (appFrom n m).1 + agree n.Log (appFrom n m).1 (appFrom n m).2.2 0 < n.Commit then (follow n m.From, [refuseMsg n m (logEnd n.Log)]) else
   if logOk ⟨n.Log.Start, n.Log.StartTerm, joined n (appFrom n m).1 (agree n.Log (appFrom n m).1 (appFrom n m).2.2 0) (appFrom n m).2.2⟩ = false then (follow n m.From, [refuseMsg n m (logEnd n.Log)]) else
   appN n m ((appFrom n m).1 + (appFrom n m).2.2.length) (joined n (appFrom n m).1 (agree n.Log (appFrom n m).1 (appFrom n m).2.2 0) (appFrom n m).2.2))
 else appN n m ((appFrom n m).1 + (appFrom n m).2.2.length) n.Log.Entries
theorem termAt_out {l : Log} {i : Int} (h : ¬ (l.Start ≤ i ∧ i ≤ l.Start + l.Entries.length)) : termAt l i = -1 := by
 unfold termAt
 rw [if_neg (by omega), decide_eq_false (by omega)]
theorem agree_in {l : Log} {i : Int} : ∀ {es : List Entry} {k : Nat}, (∀ e ∈ es, 0 ≤ e.Term) → (agree l i es k = k ∨ (l.Start ≤ i + agree l i es k ∧ i + agree l i es k ≤ l.Start + l.Entries.length)) ∧ k ≤ agree l i es k ∧ agree l i es k ≤ k + es.length
 | [], k, _ => ⟨.inl rfl, Nat.le_refl _, Nat.le_refl _⟩
 | e :: es, k, h => by
  rw [agree]
  split
  ·rename_i ht
   obtain ⟨h1, h2, h3⟩ := agree_in (l := l) (i := i) (es := es) (k := k + 1) (fun z hz => h z (List.mem_cons_of_mem _ hz))
   have h0 := h e List.mem_cons_self
   refine ⟨.inr ?_, by omega, by simp only [List.length_cons]; omega⟩
   rcases h1 with h1 | h1
   ·rw [h1]
    have : l.Start ≤ i + 1 + k ∧ i + 1 + k ≤ l.Start + l.Entries.length := by
     by_cases hx : l.Start ≤ i + 1 + k ∧ i + 1 + k ≤ l.Start + l.Entries.length
     ·exact hx
     ·rw [termAt_out hx] at ht
      omega
    omega
   ·exact h1
  ·exact ⟨.inl rfl, Nat.le_refl _, by simp only [List.length_cons]; omega⟩
theorem app_r (N : Nat) (x y : Tl16Run) (v : Int × Int × List Entry) (hl : logOk (Log.mk y.n.Log.Start y.n.Log.StartTerm x.n.Log.Entries) = true) (hv : 0 ≤ v.1 ∧ v.1 ≤ 200000) : ∀ (es : List Entry) (k : Nat), k + es.length ≤ 1000 →
  spec_l16AskAppend_l1_r N x y v es (k : Int) = some ((agree (Log.mk y.n.Log.Start y.n.Log.StartTerm x.n.Log.Entries) v.1 es k : Nat) : Int)
 | [], k, _ => rfl
 | e :: es, k, h => by
  simp only [List.length_cons] at h
  rw [spec_l16AskAppend_l1_r, w64_id (n := v.1 + 1) (by omega) (by omega), w64_id (n := v.1 + 1 + k) (by omega) (by omega), termAt_spec N hl (wi_of (by omega) (by omega)), Option.bind_some, Option.bind_some, w64_succ (by omega), app_r N x y v hl hv es (k + 1) (by omega), agree]
  by_cases ht : termAt (Log.mk y.n.Log.Start y.n.Log.StartTerm x.n.Log.Entries) (v.1 + 1 + k) = e.Term
  ·rw [if_pos (by simpa using ht), if_pos ht]
  ·rw [if_neg (by simpa using ht), if_neg ht]
theorem appFrom_ok {n : Node} {m : Message} (h : Right n) (hm : MsgRight m) : (0 ≤ (appFrom n m).1 ∧ (appFrom n m).1 ≤ 100000) ∧ (0 ≤ (appFrom n m).2.1) ∧ (appFrom n m).2.2.length ≤ 4 ∧ ∀ e ∈ (appFrom n m).2.2, e ∈ m.Entries := by
 obtain ⟨a1, a2, a3, a4, a5, a6, a7⟩ := logOk_at h.log
 have h1 := hm.index
 have h2 := hm.logTerm
 have h3 := hm.few
 unfold appFrom
 split
 ·refine ⟨⟨a1, a2⟩, a3, ?_, fun e he => List.mem_of_mem_drop he⟩
  simp only [List.length_drop]
  omega
 ·exact ⟨h1, h2.1, h3, fun e he => he⟩
theorem refuse_spec (N : Nat) (n : Node) (m : Message) (i : Int) : spec_l16Refuse N ⟨n, []⟩ m i = some ⟨n, [refuseMsg n m i]⟩ := by
 unfold spec_l16Refuse spec_l16Tell
 rw [cat_ok (by simp), Option.bind_some]
 rfl
theorem askAppend_spec (N : Nat) (hN : Big N) (n : Node) (m : Message) (h : Right n) (hm : MsgRight m) : spec_l16AskAppend N ⟨n, []⟩ m = some ⟨(askAppendN n m).1, (askAppendN n m).2⟩ := by
 obtain ⟨a1, a2, a3, a4, a5, a6, a7⟩ := logOk_at h.log
 obtain ⟨f1, f2, f3, f4⟩ := appFrom_ok h hm
 have hix := hm.index
 have hfw := hm.few
 have hcm := hm.commit
 have hkc := h.com
 simp only [logEnd] at hkc
 unfold spec_l16AskAppend askAppendN spec_l12Last
 simp only [Option.bind_some]
 rw [w64_id (n := n.Log.Start + n.Log.Entries.length) (by omega) (by omega), show n.Log.Start + (n.Log.Entries.length : Int) = logEnd n.Log from rfl]
 by_cases ht : m.Term < n.Term
 ·rw [if_pos (by simpa using ht), if_pos ht, refuse_spec, Option.bind_some]
 rw [if_neg (by simpa using ht), if_neg ht]
 unfold spec_l16Follow
 simp only [Option.bind_some, joinP]
 have hrf : ∀ (m' : Message) (i : Int), m'.From = m.From → spec_l16Refuse N (Tl16Run.mk (Node.mk n.Id n.Term n.Vote (0 : Int) m.From n.Conf (Log.mk n.Log.Start n.Log.StartTerm n.Log.Entries) n.Commit (0 : Int) n.Limit [] []) []) m' i = some ⟨follow n m.From, [refuseMsg n m i]⟩ := by
  intro m' i hf
  rw [refuse_spec]
  unfold refuseMsg
  rw [hf]
  rfl
 by_cases hi : m.Index < n.Log.Start
 ·rw [if_pos (show decide (m.Index < n.Log.Start) = true from decide_eq_true hi), w64_id (n := n.Log.Start - m.Index) (by omega) (by omega)]
  by_cases hd : n.Log.Start - m.Index > m.Entries.length
  ·have hv : appFrom n m = (n.Log.Start, n.Log.StartTerm, m.Entries.drop m.Entries.length) := by
    unfold appFrom
    rw [if_pos hi, if_pos hd]
   rw [if_pos (show decide (n.Log.Start - m.Index > ((m.Entries.length : Nat) : Int)) = true from decide_eq_true hd), drop_ok (Nat.le_refl _), Option.bind_some]
   rw [hv] at f1 f2 f3 f4
   rw [hv]
   simp only at f1 f2 f3 f4 ⊢
   have hterm : ∀ e ∈ (m.Entries.drop m.Entries.length), 0 ≤ e.Term := fun e he => (entOk_term (msgTerms_mem hm.terms e (f4 e he)).1).1
   rw [termAt_spec N h.log (i := n.Log.Start) (wi_of (by omega) (by omega)), Option.bind_some]
   by_cases he : termAt n.Log n.Log.Start = n.Log.StartTerm
   ·rw [if_neg (show ¬ ((termAt n.Log n.Log.Start != n.Log.StartTerm) = true) by simpa using he), if_neg (not_not_intro he)]
    have hlp : spec_l16AskAppend_l1 N ⟨n, []⟩ (Tl16Run.mk (Node.mk n.Id n.Term n.Vote (0 : Int) m.From n.Conf n.Log n.Commit n.Clock n.Limit [] []) []) (n.Log.Start, n.Log.StartTerm, (m.Entries.drop m.Entries.length)) N (0 : Int) = some ((agree n.Log n.Log.Start ((m.Entries.drop m.Entries.length)) 0 : Nat) : Int) := by
     rw [spec_l16AskAppend_l1_eq _ _ _ (by simp only; omega) (by simp only; have := hN; unfold Big at this; omega), show (0 : Int) = ((0 : Nat) : Int) from rfl]
     exact app_r N ⟨n, []⟩ (Tl16Run.mk (Node.mk n.Id n.Term n.Vote (0 : Int) m.From n.Conf n.Log n.Commit n.Clock n.Limit [] []) []) (n.Log.Start, n.Log.StartTerm, (m.Entries.drop m.Entries.length)) h.log (by simp only; omega) ((m.Entries.drop m.Entries.length)) 0 (by omega)
    rw [hlp, Option.bind_some]
    obtain ⟨g1, g2, g3⟩ := agree_in (l := n.Log) (i := n.Log.Start) (es := (m.Entries.drop m.Entries.length)) (k := 0) hterm
    have hin : n.Log.Start ≤ n.Log.Start ∧ n.Log.Start ≤ n.Log.Start + n.Log.Entries.length := by
     by_cases hx : n.Log.Start ≤ n.Log.Start ∧ n.Log.Start ≤ n.Log.Start + n.Log.Entries.length
     ·exact hx
     ·have := termAt_out hx
      omega
    generalize agree n.Log n.Log.Start ((m.Entries.drop m.Entries.length)) 0 = k at g1 g2 g3 ⊢
    have hin2 : n.Log.Start ≤ n.Log.Start + k ∧ n.Log.Start + k ≤ n.Log.Start + n.Log.Entries.length := by
     rcases g1 with g1 | g1
     ·rw [g1]
      omega
     ·exact g1
    by_cases hlt : k < ((m.Entries.drop m.Entries.length)).length
    ·rw [if_pos (show decide ((k : Int) < ((((m.Entries.drop m.Entries.length)).length : Nat) : Int)) = true from decide_eq_true (by omega)), if_pos hlt]
     rw [w64_id (n := n.Log.Start + (k : Int)) (by omega) (by omega), w64_id (n := n.Log.Start + (k : Int) - n.Log.Start) (by omega) (by omega)]
     have hq : n.Log.Start + (k : Int) - n.Log.Start = (((n.Log.Start + (k : Int) - n.Log.Start).toNat : Nat) : Int) := by omega
     have htk : take? n.Log.Entries (n.Log.Start + (k : Int) - n.Log.Start) = some (n.Log.Entries.take (n.Log.Start + (k : Int) - n.Log.Start).toNat) := by
      rw [hq, take_ok (by omega), Int.toNat_natCast]
     have hjl : (joined n n.Log.Start k ((m.Entries.drop m.Entries.length))).length ≤ 200 := by
      unfold joined
      simp only [List.length_append, List.length_take, List.length_drop]
      omega
     rw [htk, Option.bind_some, cat_ok (by simp only [List.length_nil, List.length_take]; omega), Option.bind_some, drop_ok (by omega), Option.bind_some, cat_ok (by simp only [List.nil_append, List.length_take, List.length_drop]; omega), Option.bind_some, List.nil_append, show n.Log.Entries.take (n.Log.Start + (k : Int) - n.Log.Start).toNat ++ ((m.Entries.drop m.Entries.length)).drop k = joined n n.Log.Start k ((m.Entries.drop m.Entries.length)) from rfl]
     by_cases hc : n.Log.Start + (k : Int) < n.Commit
     ·rw [if_pos (show decide (n.Log.Start + (k : Int) < n.Commit) = true from decide_eq_true hc), if_pos hc, hrf (Message.mk m.Kind m.From m.To m.Term n.Log.Start n.Log.StartTerm m.Commit m.Ok (m.Entries.drop m.Entries.length) m.Conf m.Data m.Last) _ rfl]
      rfl
     ·rw [if_neg (show ¬ (decide (n.Log.Start + (k : Int) < n.Commit) = true) by simpa using hc), if_neg hc]
      have htl : totLog ⟨n.Log.Start, n.Log.StartTerm, joined n n.Log.Start k ((m.Entries.drop m.Entries.length))⟩ ≤ 1099511627 := by
       have h4 := sum_le (f := totEntry) (B := 120) (xs := joined n n.Log.Start k ((m.Entries.drop m.Entries.length))) (fun e he => by
        unfold joined at he
        rcases List.mem_append.1 he with he | he
        ·exact ent_small (termsOk_mem a7 e (List.mem_of_mem_take he))
        ·exact ent_small (msgTerms_mem hm.terms e (f4 e (List.mem_of_mem_drop he))).1)
       simp only [totLog, totL]
       omega
      rw [logOk_spec N hN _ htl, Option.bind_some]
      cases hj : logOk ⟨n.Log.Start, n.Log.StartTerm, joined n n.Log.Start k ((m.Entries.drop m.Entries.length))⟩ with
      | false =>
       rw [if_pos (show (!false) = true from rfl), if_pos rfl, hrf (Message.mk m.Kind m.From m.To m.Term n.Log.Start n.Log.StartTerm m.Commit m.Ok (m.Entries.drop m.Entries.length) m.Conf m.Data m.Last) _ rfl]
       rfl
      | true =>
       rw [if_neg (show ¬ ((!true) = true) by decide), if_neg (show ¬ (true = false) by decide)]
       unfold appN comWith spec_l16Tell
       rw [w64_id (n := n.Log.Start + (((m.Entries.drop m.Entries.length)).length : Int)) (by omega) (by omega)]
       by_cases c1 : m.Commit > n.Log.Start + (((m.Entries.drop m.Entries.length)).length : Int)
       ·rw [if_pos (show decide (m.Commit > n.Log.Start + (((m.Entries.drop m.Entries.length)).length : Int)) = true from decide_eq_true c1)]
        simp only [if_pos c1]
        by_cases c2 : n.Log.Start + (((m.Entries.drop m.Entries.length)).length : Int) > n.Commit
        ·rw [if_pos (show decide (n.Log.Start + (((m.Entries.drop m.Entries.length)).length : Int) > n.Commit) = true from decide_eq_true c2), if_pos c2, cat_ok (by simp), Option.bind_some, Option.bind_some]
         rfl
        ·rw [if_neg (show ¬ (decide (n.Log.Start + (((m.Entries.drop m.Entries.length)).length : Int) > n.Commit) = true) by simpa using c2), if_neg c2, cat_ok (by simp), Option.bind_some, Option.bind_some]
         rfl
       ·rw [if_neg (show ¬ (decide (m.Commit > n.Log.Start + (((m.Entries.drop m.Entries.length)).length : Int)) = true) by simpa using c1)]
        simp only [if_neg c1]
        by_cases c2 : m.Commit > n.Commit
        ·rw [if_pos (show decide (m.Commit > n.Commit) = true from decide_eq_true c2), if_pos c2, cat_ok (by simp), Option.bind_some, Option.bind_some]
         rfl
        ·rw [if_neg (show ¬ (decide (m.Commit > n.Commit) = true) by simpa using c2), if_neg c2, cat_ok (by simp), Option.bind_some, Option.bind_some]
         rfl
    ·rw [if_neg (show ¬ (decide ((k : Int) < ((((m.Entries.drop m.Entries.length)).length : Nat) : Int)) = true) by rw [decide_eq_true_eq]; omega), if_neg hlt]
     unfold appN comWith spec_l16Tell
     rw [w64_id (n := n.Log.Start + (((m.Entries.drop m.Entries.length)).length : Int)) (by omega) (by omega)]
     by_cases c1 : m.Commit > n.Log.Start + (((m.Entries.drop m.Entries.length)).length : Int)
     ·rw [if_pos (show decide (m.Commit > n.Log.Start + (((m.Entries.drop m.Entries.length)).length : Int)) = true from decide_eq_true c1)]
      simp only [if_pos c1]
      by_cases c2 : n.Log.Start + (((m.Entries.drop m.Entries.length)).length : Int) > n.Commit
      ·rw [if_pos (show decide (n.Log.Start + (((m.Entries.drop m.Entries.length)).length : Int) > n.Commit) = true from decide_eq_true c2), if_pos c2, cat_ok (by simp), Option.bind_some, Option.bind_some]
       rfl
      ·rw [if_neg (show ¬ (decide (n.Log.Start + (((m.Entries.drop m.Entries.length)).length : Int) > n.Commit) = true) by simpa using c2), if_neg c2, cat_ok (by simp), Option.bind_some, Option.bind_some]
       rfl
     ·rw [if_neg (show ¬ (decide (m.Commit > n.Log.Start + (((m.Entries.drop m.Entries.length)).length : Int)) = true) by simpa using c1)]
      simp only [if_neg c1]
      by_cases c2 : m.Commit > n.Commit
      ·rw [if_pos (show decide (m.Commit > n.Commit) = true from decide_eq_true c2), if_pos c2, cat_ok (by simp), Option.bind_some, Option.bind_some]
       rfl
      ·rw [if_neg (show ¬ (decide (m.Commit > n.Commit) = true) by simpa using c2), if_neg c2, cat_ok (by simp), Option.bind_some, Option.bind_some]
       rfl
   ·rw [if_pos (show (termAt n.Log n.Log.Start != n.Log.StartTerm) = true by simpa using he), if_pos he, w64_id (n := n.Log.Start - 1) (by omega) (by omega)]
    unfold backTo
    by_cases hb : n.Log.Start - 1 < 0
    ·rw [if_pos (show decide (n.Log.Start - 1 < 0) = true from decide_eq_true hb)]
     simp only [if_pos hb]
     by_cases hg : (0 : Int) > logEnd n.Log
     ·rw [if_pos (show decide ((0 : Int) > logEnd n.Log) = true from decide_eq_true hg), if_pos hg, hrf (Message.mk m.Kind m.From m.To m.Term n.Log.Start n.Log.StartTerm m.Commit m.Ok (m.Entries.drop m.Entries.length) m.Conf m.Data m.Last) _ rfl]
      rfl
     ·rw [if_neg (show ¬ (decide ((0 : Int) > logEnd n.Log) = true) by simpa using hg), if_neg hg, hrf (Message.mk m.Kind m.From m.To m.Term n.Log.Start n.Log.StartTerm m.Commit m.Ok (m.Entries.drop m.Entries.length) m.Conf m.Data m.Last) _ rfl]
      rfl
    ·rw [if_neg (show ¬ (decide (n.Log.Start - 1 < 0) = true) by simpa using hb)]
     simp only [if_neg hb]
     by_cases hg : n.Log.Start - 1 > logEnd n.Log
     ·rw [if_pos (show decide (n.Log.Start - 1 > logEnd n.Log) = true from decide_eq_true hg), if_pos hg, hrf (Message.mk m.Kind m.From m.To m.Term n.Log.Start n.Log.StartTerm m.Commit m.Ok (m.Entries.drop m.Entries.length) m.Conf m.Data m.Last) _ rfl]
      rfl
     ·rw [if_neg (show ¬ (decide (n.Log.Start - 1 > logEnd n.Log) = true) by simpa using hg), if_neg hg, hrf (Message.mk m.Kind m.From m.To m.Term n.Log.Start n.Log.StartTerm m.Commit m.Ok (m.Entries.drop m.Entries.length) m.Conf m.Data m.Last) _ rfl]
      rfl
  ·have hv : appFrom n m = (n.Log.Start, n.Log.StartTerm, m.Entries.drop (n.Log.Start - m.Index).toNat) := by
    unfold appFrom
    rw [if_pos hi, if_neg hd]
   have hdr : drop? m.Entries (n.Log.Start - m.Index) = some (m.Entries.drop (n.Log.Start - m.Index).toNat) := by
    rw [show n.Log.Start - m.Index = (((n.Log.Start - m.Index).toNat : Nat) : Int) by omega, drop_ok (by omega), Int.toNat_natCast]
   rw [if_neg (show ¬ (decide (n.Log.Start - m.Index > ((m.Entries.length : Nat) : Int)) = true) by simpa using hd), hdr, Option.bind_some]
   rw [hv] at f1 f2 f3 f4
   rw [hv]
   simp only at f1 f2 f3 f4 ⊢
   have hterm : ∀ e ∈ (m.Entries.drop (n.Log.Start - m.Index).toNat), 0 ≤ e.Term := fun e he => (entOk_term (msgTerms_mem hm.terms e (f4 e he)).1).1
   rw [termAt_spec N h.log (i := n.Log.Start) (wi_of (by omega) (by omega)), Option.bind_some]
   by_cases he : termAt n.Log n.Log.Start = n.Log.StartTerm
   ·rw [if_neg (show ¬ ((termAt n.Log n.Log.Start != n.Log.StartTerm) = true) by simpa using he), if_neg (not_not_intro he)]
    have hlp : spec_l16AskAppend_l1 N ⟨n, []⟩ (Tl16Run.mk (Node.mk n.Id n.Term n.Vote (0 : Int) m.From n.Conf n.Log n.Commit n.Clock n.Limit [] []) []) (n.Log.Start, n.Log.StartTerm, (m.Entries.drop (n.Log.Start - m.Index).toNat)) N (0 : Int) = some ((agree n.Log n.Log.Start ((m.Entries.drop (n.Log.Start - m.Index).toNat)) 0 : Nat) : Int) := by
     rw [spec_l16AskAppend_l1_eq _ _ _ (by simp only; omega) (by simp only; have := hN; unfold Big at this; omega), show (0 : Int) = ((0 : Nat) : Int) from rfl]
     exact app_r N ⟨n, []⟩ (Tl16Run.mk (Node.mk n.Id n.Term n.Vote (0 : Int) m.From n.Conf n.Log n.Commit n.Clock n.Limit [] []) []) (n.Log.Start, n.Log.StartTerm, (m.Entries.drop (n.Log.Start - m.Index).toNat)) h.log (by simp only; omega) ((m.Entries.drop (n.Log.Start - m.Index).toNat)) 0 (by omega)
    rw [hlp, Option.bind_some]
    obtain ⟨g1, g2, g3⟩ := agree_in (l := n.Log) (i := n.Log.Start) (es := (m.Entries.drop (n.Log.Start - m.Index).toNat)) (k := 0) hterm
    have hin : n.Log.Start ≤ n.Log.Start ∧ n.Log.Start ≤ n.Log.Start + n.Log.Entries.length := by
     by_cases hx : n.Log.Start ≤ n.Log.Start ∧ n.Log.Start ≤ n.Log.Start + n.Log.Entries.length
     ·exact hx
     ·have := termAt_out hx
      omega
    generalize agree n.Log n.Log.Start ((m.Entries.drop (n.Log.Start - m.Index).toNat)) 0 = k at g1 g2 g3 ⊢
    have hin2 : n.Log.Start ≤ n.Log.Start + k ∧ n.Log.Start + k ≤ n.Log.Start + n.Log.Entries.length := by
     rcases g1 with g1 | g1
     ·rw [g1]
      omega
     ·exact g1
    by_cases hlt : k < ((m.Entries.drop (n.Log.Start - m.Index).toNat)).length
    ·rw [if_pos (show decide ((k : Int) < ((((m.Entries.drop (n.Log.Start - m.Index).toNat)).length : Nat) : Int)) = true from decide_eq_true (by omega)), if_pos hlt]
     rw [w64_id (n := n.Log.Start + (k : Int)) (by omega) (by omega), w64_id (n := n.Log.Start + (k : Int) - n.Log.Start) (by omega) (by omega)]
     have hq : n.Log.Start + (k : Int) - n.Log.Start = (((n.Log.Start + (k : Int) - n.Log.Start).toNat : Nat) : Int) := by omega
     have htk : take? n.Log.Entries (n.Log.Start + (k : Int) - n.Log.Start) = some (n.Log.Entries.take (n.Log.Start + (k : Int) - n.Log.Start).toNat) := by
      rw [hq, take_ok (by omega), Int.toNat_natCast]
     have hjl : (joined n n.Log.Start k ((m.Entries.drop (n.Log.Start - m.Index).toNat))).length ≤ 200 := by
      unfold joined
      simp only [List.length_append, List.length_take, List.length_drop]
      omega
     rw [htk, Option.bind_some, cat_ok (by simp only [List.length_nil, List.length_take]; omega), Option.bind_some, drop_ok (by omega), Option.bind_some, cat_ok (by simp only [List.nil_append, List.length_take, List.length_drop]; omega), Option.bind_some, List.nil_append, show n.Log.Entries.take (n.Log.Start + (k : Int) - n.Log.Start).toNat ++ ((m.Entries.drop (n.Log.Start - m.Index).toNat)).drop k = joined n n.Log.Start k ((m.Entries.drop (n.Log.Start - m.Index).toNat)) from rfl]
     by_cases hc : n.Log.Start + (k : Int) < n.Commit
     ·rw [if_pos (show decide (n.Log.Start + (k : Int) < n.Commit) = true from decide_eq_true hc), if_pos hc, hrf (Message.mk m.Kind m.From m.To m.Term n.Log.Start n.Log.StartTerm m.Commit m.Ok (m.Entries.drop (n.Log.Start - m.Index).toNat) m.Conf m.Data m.Last) _ rfl]
      rfl
     ·rw [if_neg (show ¬ (decide (n.Log.Start + (k : Int) < n.Commit) = true) by simpa using hc), if_neg hc]
      have htl : totLog ⟨n.Log.Start, n.Log.StartTerm, joined n n.Log.Start k ((m.Entries.drop (n.Log.Start - m.Index).toNat))⟩ ≤ 1099511627 := by
       have h4 := sum_le (f := totEntry) (B := 120) (xs := joined n n.Log.Start k ((m.Entries.drop (n.Log.Start - m.Index).toNat))) (fun e he => by
        unfold joined at he
        rcases List.mem_append.1 he with he | he
        ·exact ent_small (termsOk_mem a7 e (List.mem_of_mem_take he))
        ·exact ent_small (msgTerms_mem hm.terms e (f4 e (List.mem_of_mem_drop he))).1)
       simp only [totLog, totL]
       omega
      rw [logOk_spec N hN _ htl, Option.bind_some]
      cases hj : logOk ⟨n.Log.Start, n.Log.StartTerm, joined n n.Log.Start k ((m.Entries.drop (n.Log.Start - m.Index).toNat))⟩ with
      | false =>
       rw [if_pos (show (!false) = true from rfl), if_pos rfl, hrf (Message.mk m.Kind m.From m.To m.Term n.Log.Start n.Log.StartTerm m.Commit m.Ok (m.Entries.drop (n.Log.Start - m.Index).toNat) m.Conf m.Data m.Last) _ rfl]
       rfl
      | true =>
       rw [if_neg (show ¬ ((!true) = true) by decide), if_neg (show ¬ (true = false) by decide)]
       unfold appN comWith spec_l16Tell
       rw [w64_id (n := n.Log.Start + (((m.Entries.drop (n.Log.Start - m.Index).toNat)).length : Int)) (by omega) (by omega)]
       by_cases c1 : m.Commit > n.Log.Start + (((m.Entries.drop (n.Log.Start - m.Index).toNat)).length : Int)
       ·rw [if_pos (show decide (m.Commit > n.Log.Start + (((m.Entries.drop (n.Log.Start - m.Index).toNat)).length : Int)) = true from decide_eq_true c1)]
        simp only [if_pos c1]
        by_cases c2 : n.Log.Start + (((m.Entries.drop (n.Log.Start - m.Index).toNat)).length : Int) > n.Commit
        ·rw [if_pos (show decide (n.Log.Start + (((m.Entries.drop (n.Log.Start - m.Index).toNat)).length : Int) > n.Commit) = true from decide_eq_true c2), if_pos c2, cat_ok (by simp), Option.bind_some, Option.bind_some]
         rfl
        ·rw [if_neg (show ¬ (decide (n.Log.Start + (((m.Entries.drop (n.Log.Start - m.Index).toNat)).length : Int) > n.Commit) = true) by simpa using c2), if_neg c2, cat_ok (by simp), Option.bind_some, Option.bind_some]
         rfl
       ·rw [if_neg (show ¬ (decide (m.Commit > n.Log.Start + (((m.Entries.drop (n.Log.Start - m.Index).toNat)).length : Int)) = true) by simpa using c1)]
        simp only [if_neg c1]
        by_cases c2 : m.Commit > n.Commit
        ·rw [if_pos (show decide (m.Commit > n.Commit) = true from decide_eq_true c2), if_pos c2, cat_ok (by simp), Option.bind_some, Option.bind_some]
         rfl
        ·rw [if_neg (show ¬ (decide (m.Commit > n.Commit) = true) by simpa using c2), if_neg c2, cat_ok (by simp), Option.bind_some, Option.bind_some]
         rfl
    ·rw [if_neg (show ¬ (decide ((k : Int) < ((((m.Entries.drop (n.Log.Start - m.Index).toNat)).length : Nat) : Int)) = true) by rw [decide_eq_true_eq]; omega), if_neg hlt]
     unfold appN comWith spec_l16Tell
     rw [w64_id (n := n.Log.Start + (((m.Entries.drop (n.Log.Start - m.Index).toNat)).length : Int)) (by omega) (by omega)]
     by_cases c1 : m.Commit > n.Log.Start + (((m.Entries.drop (n.Log.Start - m.Index).toNat)).length : Int)
     ·rw [if_pos (show decide (m.Commit > n.Log.Start + (((m.Entries.drop (n.Log.Start - m.Index).toNat)).length : Int)) = true from decide_eq_true c1)]
      simp only [if_pos c1]
      by_cases c2 : n.Log.Start + (((m.Entries.drop (n.Log.Start - m.Index).toNat)).length : Int) > n.Commit
      ·rw [if_pos (show decide (n.Log.Start + (((m.Entries.drop (n.Log.Start - m.Index).toNat)).length : Int) > n.Commit) = true from decide_eq_true c2), if_pos c2, cat_ok (by simp), Option.bind_some, Option.bind_some]
       rfl
      ·rw [if_neg (show ¬ (decide (n.Log.Start + (((m.Entries.drop (n.Log.Start - m.Index).toNat)).length : Int) > n.Commit) = true) by simpa using c2), if_neg c2, cat_ok (by simp), Option.bind_some, Option.bind_some]
       rfl
     ·rw [if_neg (show ¬ (decide (m.Commit > n.Log.Start + (((m.Entries.drop (n.Log.Start - m.Index).toNat)).length : Int)) = true) by simpa using c1)]
      simp only [if_neg c1]
      by_cases c2 : m.Commit > n.Commit
      ·rw [if_pos (show decide (m.Commit > n.Commit) = true from decide_eq_true c2), if_pos c2, cat_ok (by simp), Option.bind_some, Option.bind_some]
       rfl
      ·rw [if_neg (show ¬ (decide (m.Commit > n.Commit) = true) by simpa using c2), if_neg c2, cat_ok (by simp), Option.bind_some, Option.bind_some]
       rfl
   ·rw [if_pos (show (termAt n.Log n.Log.Start != n.Log.StartTerm) = true by simpa using he), if_pos he, w64_id (n := n.Log.Start - 1) (by omega) (by omega)]
    unfold backTo
    by_cases hb : n.Log.Start - 1 < 0
    ·rw [if_pos (show decide (n.Log.Start - 1 < 0) = true from decide_eq_true hb)]
     simp only [if_pos hb]
     by_cases hg : (0 : Int) > logEnd n.Log
     ·rw [if_pos (show decide ((0 : Int) > logEnd n.Log) = true from decide_eq_true hg), if_pos hg, hrf (Message.mk m.Kind m.From m.To m.Term n.Log.Start n.Log.StartTerm m.Commit m.Ok (m.Entries.drop (n.Log.Start - m.Index).toNat) m.Conf m.Data m.Last) _ rfl]
      rfl
     ·rw [if_neg (show ¬ (decide ((0 : Int) > logEnd n.Log) = true) by simpa using hg), if_neg hg, hrf (Message.mk m.Kind m.From m.To m.Term n.Log.Start n.Log.StartTerm m.Commit m.Ok (m.Entries.drop (n.Log.Start - m.Index).toNat) m.Conf m.Data m.Last) _ rfl]
      rfl
    ·rw [if_neg (show ¬ (decide (n.Log.Start - 1 < 0) = true) by simpa using hb)]
     simp only [if_neg hb]
     by_cases hg : n.Log.Start - 1 > logEnd n.Log
     ·rw [if_pos (show decide (n.Log.Start - 1 > logEnd n.Log) = true from decide_eq_true hg), if_pos hg, hrf (Message.mk m.Kind m.From m.To m.Term n.Log.Start n.Log.StartTerm m.Commit m.Ok (m.Entries.drop (n.Log.Start - m.Index).toNat) m.Conf m.Data m.Last) _ rfl]
      rfl
     ·rw [if_neg (show ¬ (decide (n.Log.Start - 1 > logEnd n.Log) = true) by simpa using hg), if_neg hg, hrf (Message.mk m.Kind m.From m.To m.Term n.Log.Start n.Log.StartTerm m.Commit m.Ok (m.Entries.drop (n.Log.Start - m.Index).toNat) m.Conf m.Data m.Last) _ rfl]
      rfl
 ·have hv : appFrom n m = (m.Index, m.LogTerm, m.Entries) := by
   unfold appFrom
   rw [if_neg hi]
  rw [if_neg (show ¬ (decide (m.Index < n.Log.Start) = true) by simpa using hi)]
  rw [hv] at f1 f2 f3 f4
  rw [hv]
  simp only at f1 f2 f3 f4 ⊢
  have hterm : ∀ e ∈ m.Entries, 0 ≤ e.Term := fun e he => (entOk_term (msgTerms_mem hm.terms e (f4 e he)).1).1
  rw [termAt_spec N h.log (i := m.Index) (wi_of (by omega) (by omega)), Option.bind_some]
  by_cases he : termAt n.Log m.Index = m.LogTerm
  ·rw [if_neg (show ¬ ((termAt n.Log m.Index != m.LogTerm) = true) by simpa using he), if_neg (not_not_intro he)]
   have hlp : spec_l16AskAppend_l1 N ⟨n, []⟩ (Tl16Run.mk (Node.mk n.Id n.Term n.Vote (0 : Int) m.From n.Conf n.Log n.Commit n.Clock n.Limit [] []) []) (m.Index, m.LogTerm, m.Entries) N (0 : Int) = some ((agree n.Log m.Index (m.Entries) 0 : Nat) : Int) := by
    rw [spec_l16AskAppend_l1_eq _ _ _ (by simp only; omega) (by simp only; have := hN; unfold Big at this; omega), show (0 : Int) = ((0 : Nat) : Int) from rfl]
    exact app_r N ⟨n, []⟩ (Tl16Run.mk (Node.mk n.Id n.Term n.Vote (0 : Int) m.From n.Conf n.Log n.Commit n.Clock n.Limit [] []) []) (m.Index, m.LogTerm, m.Entries) h.log (by simp only; omega) (m.Entries) 0 (by omega)
   rw [hlp, Option.bind_some]
   obtain ⟨g1, g2, g3⟩ := agree_in (l := n.Log) (i := m.Index) (es := m.Entries) (k := 0) hterm
   have hin : n.Log.Start ≤ m.Index ∧ m.Index ≤ n.Log.Start + n.Log.Entries.length := by
    by_cases hx : n.Log.Start ≤ m.Index ∧ m.Index ≤ n.Log.Start + n.Log.Entries.length
    ·exact hx
    ·have := termAt_out hx
     omega
   generalize agree n.Log m.Index (m.Entries) 0 = k at g1 g2 g3 ⊢
   have hin2 : n.Log.Start ≤ m.Index + k ∧ m.Index + k ≤ n.Log.Start + n.Log.Entries.length := by
    rcases g1 with g1 | g1
    ·rw [g1]
     omega
    ·exact g1
   by_cases hlt : k < (m.Entries).length
   ·rw [if_pos (show decide ((k : Int) < (((m.Entries).length : Nat) : Int)) = true from decide_eq_true (by omega)), if_pos hlt]
    rw [w64_id (n := m.Index + (k : Int)) (by omega) (by omega), w64_id (n := m.Index + (k : Int) - n.Log.Start) (by omega) (by omega)]
    have hq : m.Index + (k : Int) - n.Log.Start = (((m.Index + (k : Int) - n.Log.Start).toNat : Nat) : Int) := by omega
    have htk : take? n.Log.Entries (m.Index + (k : Int) - n.Log.Start) = some (n.Log.Entries.take (m.Index + (k : Int) - n.Log.Start).toNat) := by
     rw [hq, take_ok (by omega), Int.toNat_natCast]
    have hjl : (joined n m.Index k (m.Entries)).length ≤ 200 := by
     unfold joined
     simp only [List.length_append, List.length_take, List.length_drop]
     omega
    rw [htk, Option.bind_some, cat_ok (by simp only [List.length_nil, List.length_take]; omega), Option.bind_some, drop_ok (by omega), Option.bind_some, cat_ok (by simp only [List.nil_append, List.length_take, List.length_drop]; omega), Option.bind_some, List.nil_append, show n.Log.Entries.take (m.Index + (k : Int) - n.Log.Start).toNat ++ (m.Entries).drop k = joined n m.Index k (m.Entries) from rfl]
    by_cases hc : m.Index + (k : Int) < n.Commit
    ·rw [if_pos (show decide (m.Index + (k : Int) < n.Commit) = true from decide_eq_true hc), if_pos hc, hrf (Message.mk m.Kind m.From m.To m.Term m.Index m.LogTerm m.Commit m.Ok m.Entries m.Conf m.Data m.Last) _ rfl]
     rfl
    ·rw [if_neg (show ¬ (decide (m.Index + (k : Int) < n.Commit) = true) by simpa using hc), if_neg hc]
     have htl : totLog ⟨n.Log.Start, n.Log.StartTerm, joined n m.Index k (m.Entries)⟩ ≤ 1099511627 := by
      have h4 := sum_le (f := totEntry) (B := 120) (xs := joined n m.Index k (m.Entries)) (fun e he => by
       unfold joined at he
       rcases List.mem_append.1 he with he | he
       ·exact ent_small (termsOk_mem a7 e (List.mem_of_mem_take he))
       ·exact ent_small (msgTerms_mem hm.terms e (f4 e (List.mem_of_mem_drop he))).1)
      simp only [totLog, totL]
      omega
     rw [logOk_spec N hN _ htl, Option.bind_some]
     cases hj : logOk ⟨n.Log.Start, n.Log.StartTerm, joined n m.Index k (m.Entries)⟩ with
     | false =>
      rw [if_pos (show (!false) = true from rfl), if_pos rfl, hrf (Message.mk m.Kind m.From m.To m.Term m.Index m.LogTerm m.Commit m.Ok m.Entries m.Conf m.Data m.Last) _ rfl]
      rfl
     | true =>
      rw [if_neg (show ¬ ((!true) = true) by decide), if_neg (show ¬ (true = false) by decide)]
      unfold appN comWith spec_l16Tell
      rw [w64_id (n := m.Index + ((m.Entries).length : Int)) (by omega) (by omega)]
      by_cases c1 : m.Commit > m.Index + ((m.Entries).length : Int)
      ·rw [if_pos (show decide (m.Commit > m.Index + ((m.Entries).length : Int)) = true from decide_eq_true c1)]
       simp only [if_pos c1]
       by_cases c2 : m.Index + ((m.Entries).length : Int) > n.Commit
       ·rw [if_pos (show decide (m.Index + ((m.Entries).length : Int) > n.Commit) = true from decide_eq_true c2), if_pos c2, cat_ok (by simp), Option.bind_some, Option.bind_some]
        rfl
       ·rw [if_neg (show ¬ (decide (m.Index + ((m.Entries).length : Int) > n.Commit) = true) by simpa using c2), if_neg c2, cat_ok (by simp), Option.bind_some, Option.bind_some]
        rfl
      ·rw [if_neg (show ¬ (decide (m.Commit > m.Index + ((m.Entries).length : Int)) = true) by simpa using c1)]
       simp only [if_neg c1]
       by_cases c2 : m.Commit > n.Commit
       ·rw [if_pos (show decide (m.Commit > n.Commit) = true from decide_eq_true c2), if_pos c2, cat_ok (by simp), Option.bind_some, Option.bind_some]
        rfl
       ·rw [if_neg (show ¬ (decide (m.Commit > n.Commit) = true) by simpa using c2), if_neg c2, cat_ok (by simp), Option.bind_some, Option.bind_some]
        rfl
   ·rw [if_neg (show ¬ (decide ((k : Int) < (((m.Entries).length : Nat) : Int)) = true) by rw [decide_eq_true_eq]; omega), if_neg hlt]
    unfold appN comWith spec_l16Tell
    rw [w64_id (n := m.Index + ((m.Entries).length : Int)) (by omega) (by omega)]
    by_cases c1 : m.Commit > m.Index + ((m.Entries).length : Int)
    ·rw [if_pos (show decide (m.Commit > m.Index + ((m.Entries).length : Int)) = true from decide_eq_true c1)]
     simp only [if_pos c1]
     by_cases c2 : m.Index + ((m.Entries).length : Int) > n.Commit
     ·rw [if_pos (show decide (m.Index + ((m.Entries).length : Int) > n.Commit) = true from decide_eq_true c2), if_pos c2, cat_ok (by simp), Option.bind_some, Option.bind_some]
      rfl
     ·rw [if_neg (show ¬ (decide (m.Index + ((m.Entries).length : Int) > n.Commit) = true) by simpa using c2), if_neg c2, cat_ok (by simp), Option.bind_some, Option.bind_some]
      rfl
    ·rw [if_neg (show ¬ (decide (m.Commit > m.Index + ((m.Entries).length : Int)) = true) by simpa using c1)]
     simp only [if_neg c1]
     by_cases c2 : m.Commit > n.Commit
     ·rw [if_pos (show decide (m.Commit > n.Commit) = true from decide_eq_true c2), if_pos c2, cat_ok (by simp), Option.bind_some, Option.bind_some]
      rfl
     ·rw [if_neg (show ¬ (decide (m.Commit > n.Commit) = true) by simpa using c2), if_neg c2, cat_ok (by simp), Option.bind_some, Option.bind_some]
      rfl
  ·rw [if_pos (show (termAt n.Log m.Index != m.LogTerm) = true by simpa using he), if_pos he, w64_id (n := m.Index - 1) (by omega) (by omega)]
   unfold backTo
   by_cases hb : m.Index - 1 < 0
   ·rw [if_pos (show decide (m.Index - 1 < 0) = true from decide_eq_true hb)]
    simp only [if_pos hb]
    by_cases hg : (0 : Int) > logEnd n.Log
    ·rw [if_pos (show decide ((0 : Int) > logEnd n.Log) = true from decide_eq_true hg), if_pos hg, hrf (Message.mk m.Kind m.From m.To m.Term m.Index m.LogTerm m.Commit m.Ok m.Entries m.Conf m.Data m.Last) _ rfl]
     rfl
    ·rw [if_neg (show ¬ (decide ((0 : Int) > logEnd n.Log) = true) by simpa using hg), if_neg hg, hrf (Message.mk m.Kind m.From m.To m.Term m.Index m.LogTerm m.Commit m.Ok m.Entries m.Conf m.Data m.Last) _ rfl]
     rfl
   ·rw [if_neg (show ¬ (decide (m.Index - 1 < 0) = true) by simpa using hb)]
    simp only [if_neg hb]
    by_cases hg : m.Index - 1 > logEnd n.Log
    ·rw [if_pos (show decide (m.Index - 1 > logEnd n.Log) = true from decide_eq_true hg), if_pos hg, hrf (Message.mk m.Kind m.From m.To m.Term m.Index m.LogTerm m.Commit m.Ok m.Entries m.Conf m.Data m.Last) _ rfl]
     rfl
    ·rw [if_neg (show ¬ (decide (m.Index - 1 > logEnd n.Log) = true) by simpa using hg), if_neg hg, hrf (Message.mk m.Kind m.From m.To m.Term m.Index m.LogTerm m.Commit m.Ok m.Entries m.Conf m.Data m.Last) _ rfl]
     rfl
def withPeers (n : Node) (ps : List Peer) : Node := ⟨n.Id, n.Term, n.Vote, n.Role, n.Lead, n.Conf, n.Log, n.Commit, n.Clock, n.Limit, n.Votes, ps⟩
def lastIx (f : Int) : List Peer → Nat → Int → Int
 | [], _, acc => acc
 | p :: ps, k, acc => lastIx f ps (k + 1) (if p.Id = f then (k : Int) else acc)
theorem lastIx_in (f : Int) : ∀ (ps : List Peer) (k : Nat) (acc : Int), lastIx f ps k acc = acc ∨ ∃ j : Nat, j < ps.length ∧ lastIx f ps k acc = ((k + j : Nat) : Int)
 | [], k, acc => .inl rfl
 | p :: ps, k, acc => by
  rw [lastIx]
  rcases lastIx_in f ps (k + 1) (if p.Id = f then (k : Int) else acc) with h | ⟨j, hj, h⟩
  ·rw [h]
   split
   ·exact .inr ⟨0, by simp, by simp⟩
   ·exact .inl rfl
  ·exact .inr ⟨j + 1, by simp only [List.length_cons]; omega, by rw [h]; congr 1; omega⟩
theorem reply_l1 (N : Nat) (x : Tl16Run) (m : Message) (hq : x.n.Peers.length ≤ 1000) : ∀ (d f k : Nat) (acc : Int), x.n.Peers.length = k + d → d < f → spec_l16Reply_l1 N x m f acc (k : Int) = some (lastIx m.From (x.n.Peers.drop k) k acc) := by
 intro d
 induction d with
 | zero =>
  intro f k acc hd hf
  obtain ⟨f, rfl⟩ : ∃ q, f = q + 1 := ⟨f - 1, by omega⟩
  rw [spec_l16Reply_l1, if_neg (by simp; omega), List.drop_eq_nil_of_le (by omega)]
  rfl
 | succ d ih =>
  intro f k acc hd hf
  obtain ⟨f, rfl⟩ : ∃ q, f = q + 1 := ⟨f - 1, by omega⟩
  have hk : k < x.n.Peers.length := by omega
  rw [spec_l16Reply_l1, if_pos (by simp; omega)]
  simp only [joinP]
  rw [at_lt hk, Option.bind_some, w64_succ (by omega), List.drop_eq_getElem_cons hk, lastIx]
  by_cases h : x.n.Peers[k].Id = m.From
  ·rw [if_pos (by simpa using h), if_pos h, ih f (k + 1) _ (by omega) (by omega)]
  ·rw [if_neg (by simpa using h), if_neg h, ih f (k + 1) _ (by omega) (by omega)]
def mtOf (n : Node) (m : Message) (p : Peer) : Int := if (if m.Index > logEnd n.Log then logEnd n.Log else m.Index) > p.Match then (if m.Index > logEnd n.Log then logEnd n.Log else m.Index) else p.Match
def okPeer (n : Node) (m : Message) (p : Peer) : Peer := ⟨p.Id, mtOf n m p + 1, mtOf n m p, if m.Kind = 6 then 0 else p.Sent⟩
def nextOf (m : Message) (p : Peer) : Int := if (if m.Index + 1 < p.Match + 1 then p.Match + 1 else m.Index + 1) < p.Next then (if m.Index + 1 < p.Match + 1 then p.Match + 1 else m.Index + 1) else p.Next
def noPeer (n : Node) (m : Message) (p : Peer) : Peer := if m.Kind = 6 then ⟨p.Id, p.Next, p.Match, if m.Index = n.Log.Start ∧ m.Commit ≤ 20000 then m.Commit else 0⟩ else ⟨p.Id, nextOf m p, p.Match, p.Sent⟩
def replyTo (n : Node) (m : Message) (k : Nat) (p : Peer) : Node × List Message :=
 if m.Ok = true then (commitN (withPeers n (n.Peers.set k (okPeer n m p))), if (commitN (withPeers n (n.Peers.set k (okPeer n m p)))).Role = 2 ∧ mtOf n m p + 1 ≤ logEnd n.Log then [sendMsg (commitN (withPeers n (n.Peers.set k (okPeer n m p)))) (okPeer n m p)] else [])
 else (withPeers n (n.Peers.set k (noPeer n m p)), [sendMsg (withPeers n (n.Peers.set k (noPeer n m p))) (noPeer n m p)])
def replyN (n : Node) (m : Message) : Node × List Message :=
 if m.Term ≠ n.Term then (n, []) else if n.Role ≠ 2 then (n, []) else
 if lastIx m.From n.Peers 0 (-1) < 0 then (n, []) else
 match n.Peers[(lastIx m.From n.Peers 0 (-1)).toNat]? with
 | some p => replyTo n m (lastIx m.From n.Peers 0 (-1)).toNat p
 | none => (n, [])
theorem peer_at {l : Int} {p : Peer} (h : peerOk l p = true) (hb : 0 ≤ l ∧ l ≤ 200000) : (1 ≤ p.Next ∧ p.Next ≤ l + 1) ∧ (0 ≤ p.Match ∧ p.Match ≤ p.Next - 1) ∧ (0 ≤ p.Sent ∧ p.Sent ≤ 20000) := by
 unfold peerOk at h
 simp only [Bool.and_eq_true, decide_eq_true_eq] at h
 obtain ⟨h1, h2, h3⟩ := h
 rw [w64_id (by omega) (by omega)] at h2
 exact ⟨h1, h2, h3⟩
theorem peer_mk {l : Int} {p : Peer} (hb : 0 ≤ l ∧ l ≤ 200000) (h1 : 1 ≤ p.Next ∧ p.Next ≤ l + 1) (h2 : 0 ≤ p.Match ∧ p.Match ≤ p.Next - 1) (h3 : 0 ≤ p.Sent ∧ p.Sent ≤ 20000) : peerOk l p = true := by
 unfold peerOk
 simp only [Bool.and_eq_true, decide_eq_true_eq]
 rw [w64_id (by omega) (by omega)]
 exact ⟨h1, h2, h3⟩
theorem Right.end_in {n : Node} (h : Right n) : 0 ≤ logEnd n.Log ∧ logEnd n.Log ≤ 200000 := by
 obtain ⟨a1, a2, a3, a4, a5, a6, a7⟩ := logOk_at h.log
 simp only [logEnd]
 omega
theorem mtOf_in {n : Node} {m : Message} {p : Peer} (hb : 0 ≤ logEnd n.Log ∧ logEnd n.Log ≤ 200000) (hp : peerOk (logEnd n.Log) p = true) (hm : 0 ≤ m.Index) : 0 ≤ mtOf n m p ∧ mtOf n m p ≤ logEnd n.Log := by
 obtain ⟨h1, h2, h3⟩ := peer_at hp hb
 unfold mtOf
 split <;> split <;> omega
theorem okPeer_ok {n : Node} {m : Message} {p : Peer} (hb : 0 ≤ logEnd n.Log ∧ logEnd n.Log ≤ 200000) (hp : peerOk (logEnd n.Log) p = true) (hm : 0 ≤ m.Index) : peerOk (logEnd n.Log) (okPeer n m p) = true := by
 have h0 := mtOf_in hb hp hm
 obtain ⟨h1, h2, h3⟩ := peer_at hp hb
 refine peer_mk hb (by show 1 ≤ mtOf n m p + 1 ∧ mtOf n m p + 1 ≤ logEnd n.Log + 1; omega) (by show 0 ≤ mtOf n m p ∧ mtOf n m p ≤ mtOf n m p + 1 - 1; omega) ?_
 show 0 ≤ (if m.Kind = 6 then 0 else p.Sent) ∧ (if m.Kind = 6 then 0 else p.Sent) ≤ 20000
 split <;> omega
theorem nextOf_in {m : Message} {p : Peer} (h2 : 0 ≤ p.Match ∧ p.Match ≤ p.Next - 1) : p.Match + 1 ≤ nextOf m p ∧ nextOf m p ≤ p.Next := by
 unfold nextOf
 split <;> split <;> omega
theorem noPeer_ok {n : Node} {m : Message} {p : Peer} (hb : 0 ≤ logEnd n.Log ∧ logEnd n.Log ≤ 200000) (hp : peerOk (logEnd n.Log) p = true) (hm : 0 ≤ m.Commit) : peerOk (logEnd n.Log) (noPeer n m p) = true := by
 obtain ⟨h1, h2, h3⟩ := peer_at hp hb
 have h4 := nextOf_in (m := m) h2
 unfold noPeer
 split
 ·refine peer_mk hb h1 h2 ?_
  show 0 ≤ (if m.Index = n.Log.Start ∧ m.Commit ≤ 20000 then m.Commit else 0) ∧ (if m.Index = n.Log.Start ∧ m.Commit ≤ 20000 then m.Commit else 0) ≤ 20000
  split <;> omega
 ·exact peer_mk hb (by show 1 ≤ nextOf m p ∧ nextOf m p ≤ logEnd n.Log + 1; omega) (by show 0 ≤ p.Match ∧ p.Match ≤ nextOf m p - 1; omega) h3
theorem okPeer_id (n : Node) (m : Message) (p : Peer) : (okPeer n m p).Id = p.Id := rfl
theorem noPeer_id (n : Node) (m : Message) (p : Peer) : (noPeer n m p).Id = p.Id := by unfold noPeer; split <;> rfl
theorem set_ids {ps : List Peer} {k : Nat} {p q : Peer} (hp : ps[k]? = some p) (hq : q.Id = p.Id) : (ps.set k q).map (·.Id) = ps.map (·.Id) := by
 rw [List.map_set, hq]
 apply List.ext_getElem?
 intro i
 rw [List.getElem?_set]
 split
 ·rename_i h
  subst h
  have hk := (List.getElem?_eq_some_iff.1 hp).1
  rw [if_pos (by simpa using hk), List.getElem?_map, hp]
  rfl
 ·rfl
theorem Right.setPeer {n : Node} (h : Right n) (hr : n.Role = 2) {k : Nat} {p q : Peer} (hp : n.Peers[k]? = some p) (hq : q.Id = p.Id) (hok : peerOk (logEnd n.Log) q = true) : Right (withPeers n (n.Peers.set k q)) := by
 refine ⟨h.id, h.conf, h.log, h.term, h.vote, h.lead, h.role, h.com, h.limit, h.clock, h.votes, h.voted, fun _ => ⟨?_, ?_⟩, fun e => absurd hr e⟩
 ·show (n.Peers.set k q).map (·.Id) = _
  rw [set_ids hp hq]
  exact (h.peers hr).1
 ·intro z hz
  rcases List.mem_or_eq_of_mem_set hz with hz | rfl
  ·exact (h.peers hr).2 z hz
  ·exact hok
theorem reply_spec (N : Nat) (hN : Big N) (n : Node) (m : Message) (h : Right n) (hm : MsgRight m) : spec_l16Reply N ⟨n, []⟩ m = some ⟨(replyN n m).1, (replyN n m).2⟩ := by
 obtain ⟨a1, a2, a3, a4, a5, a6, a7⟩ := logOk_at h.log
 have hpl := h.plen
 have hcl := h.clen
 have hb := h.end_in
 have hix := hm.index
 have hcm := hm.commit
 unfold spec_l16Reply replyN spec_l12Last
 by_cases h1 : m.Term = n.Term
 ·rw [if_neg (show ¬ ((m.Term != n.Term) = true) by simpa using h1), if_neg (not_not_intro h1)]
  by_cases h2 : n.Role = 2
  ·rw [if_neg (show ¬ ((n.Role != (2 : Int)) = true) by simpa using h2), if_neg (not_not_intro h2)]
   simp only [joinP]
   have hl : spec_l16Reply_l1 N ⟨n, []⟩ m N (-1) (0 : Int) = some (lastIx m.From n.Peers 0 (-1)) := reply_l1 N ⟨n, []⟩ m (by simp only; omega) n.Peers.length N 0 (-1) (by simp) (by have := hN; unfold Big at this; omega)
   rw [hl, Option.bind_some]
   rcases lastIx_in m.From n.Peers 0 (-1) with hv | ⟨j, hj, hv⟩
   ·rw [hv, if_pos (show decide ((-1 : Int) < (0 : Int)) = true from rfl), if_pos (show (-1 : Int) < 0 by decide)]
   ·rw [hv, if_neg (show ¬ (decide (((0 + j : Nat) : Int) < (0 : Int)) = true) by rw [decide_eq_true_eq]; omega), if_neg (show ¬ (((0 + j : Nat) : Int) < 0) by omega)]
    simp only [Nat.zero_add]
    rw [w64_id (n := n.Log.Start + n.Log.Entries.length) (by omega) (by omega), show n.Log.Start + (n.Log.Entries.length : Int) = logEnd n.Log from rfl, Option.bind_some, at_lt hj, Option.bind_some, Int.toNat_natCast, List.getElem?_eq_getElem hj]
    simp only [Option.bind_some]
    have hp := (h.peers h2).2 n.Peers[j] (List.getElem_mem hj)
    have hpj : n.Peers[j]? = some n.Peers[j] := List.getElem?_eq_getElem hj
    generalize n.Peers[j] = p at hp hpj
    obtain ⟨g1, g2, g3⟩ := peer_at hp hb
    unfold replyTo
    cases hok : m.Ok with
    | true =>
     rw [if_pos rfl, if_pos rfl]
     have hmt := mtOf_in (m := m) hb hp hix.1
     have hpo := okPeer_ok (m := m) hb hp hix.1
     have hR := h.setPeer h2 hpj (okPeer_id n m p) hpo
     have hcs := commit_spec N hN (withPeers n (n.Peers.set j (okPeer n m p))) [] hR.log (by have := hR.tot; omega) (by have := hR.plen; omega) (by have := hR.clen; omega) hR.com
     have hsd := send_spec N hN (commitN (withPeers n (n.Peers.set j (okPeer n m p)))) [] (okPeer n m p) hR.commit.log (by rw [commitN_log]; exact hpo) (by simp) (by have := hR.commit.clen; omega)
     have hfin : ∀ X : Peer, X = okPeer n m p →
       ((spec_l16Commit N (Tl16Run.mk (Node.mk n.Id n.Term n.Vote n.Role n.Lead n.Conf n.Log n.Commit n.Clock n.Limit n.Votes (n.Peers.set j X)) [])).bind fun y_439 =>
        (if (y_439.n.Role == (2 : Int)) = true then
         (if (decide (X.Next ≤ logEnd n.Log)) = true then
          (spec_l16Send N y_439 X).bind fun y_444 => some (Tl16Run.mk (Node.mk y_444.n.Id y_444.n.Term y_444.n.Vote y_444.n.Role y_444.n.Lead y_439.n.Conf (Log.mk y_444.n.Log.Start y_444.n.Log.StartTerm y_439.n.Log.Entries) y_444.n.Commit y_444.n.Clock y_444.n.Limit y_439.n.Votes y_439.n.Peers) y_444.told)
         else some y_439)
        else some y_439)) = some ⟨commitN (withPeers n (n.Peers.set j (okPeer n m p))), if (commitN (withPeers n (n.Peers.set j (okPeer n m p)))).Role = 2 ∧ mtOf n m p + 1 ≤ logEnd n.Log then [sendMsg (commitN (withPeers n (n.Peers.set j (okPeer n m p)))) (okPeer n m p)] else []⟩ := by
      intro X hX
      subst hX
      rw [show (Node.mk n.Id n.Term n.Vote n.Role n.Lead n.Conf n.Log n.Commit n.Clock n.Limit n.Votes (n.Peers.set j (okPeer n m p))) = withPeers n (n.Peers.set j (okPeer n m p)) from rfl, hcs, Option.bind_some]
      simp only
      by_cases r2 : (commitN (withPeers n (n.Peers.set j (okPeer n m p)))).Role = 2
      ·rw [if_pos (by simpa using r2)]
       by_cases q : mtOf n m p + 1 ≤ logEnd n.Log
       ·rw [if_pos (show decide ((okPeer n m p).Next ≤ logEnd n.Log) = true from decide_eq_true q), hsd, Option.bind_some, if_pos ⟨r2, q⟩]
        rfl
       ·rw [if_neg (show ¬ (decide ((okPeer n m p).Next ≤ logEnd n.Log) = true) from fun e => q (of_decide_eq_true e)), if_neg (fun e => q e.2)]
      ·rw [if_neg (by simpa using r2), if_neg (fun e => r2 e.1)]
     by_cases c1 : m.Index > logEnd n.Log
     ·rw [if_pos (show decide (m.Index > logEnd n.Log) = true from decide_eq_true c1)]
      by_cases c2 : logEnd n.Log > p.Match
      ·rw [if_pos (show decide (logEnd n.Log > p.Match) = true from decide_eq_true c2), w64_id (n := logEnd n.Log + 1) (by omega) (by omega)]
       by_cases k6 : m.Kind = 6
       ·rw [if_pos (show (m.Kind == (6 : Int)) = true by simpa using k6)]
        exact hfin _ (by simp only [okPeer, mtOf, if_pos c1, if_pos c2, if_pos k6])
       ·rw [if_neg (show ¬ ((m.Kind == (6 : Int)) = true) by simpa using k6)]
        exact hfin _ (by simp only [okPeer, mtOf, if_pos c1, if_pos c2, if_neg k6])
      ·rw [if_neg (show ¬ (decide (logEnd n.Log > p.Match) = true) by simpa using c2), w64_id (n := p.Match + 1) (by omega) (by omega)]
       by_cases k6 : m.Kind = 6
       ·rw [if_pos (show (m.Kind == (6 : Int)) = true by simpa using k6)]
        exact hfin _ (by simp only [okPeer, mtOf, if_pos c1, if_neg c2, if_pos k6])
       ·rw [if_neg (show ¬ ((m.Kind == (6 : Int)) = true) by simpa using k6)]
        exact hfin _ (by simp only [okPeer, mtOf, if_pos c1, if_neg c2, if_neg k6])
     ·rw [if_neg (show ¬ (decide (m.Index > logEnd n.Log) = true) by simpa using c1)]
      by_cases c2 : m.Index > p.Match
      ·rw [if_pos (show decide (m.Index > p.Match) = true from decide_eq_true c2), w64_id (n := m.Index + 1) (by omega) (by omega)]
       by_cases k6 : m.Kind = 6
       ·rw [if_pos (show (m.Kind == (6 : Int)) = true by simpa using k6)]
        exact hfin _ (by simp only [okPeer, mtOf, if_neg c1, if_pos c2, if_pos k6])
       ·rw [if_neg (show ¬ ((m.Kind == (6 : Int)) = true) by simpa using k6)]
        exact hfin _ (by simp only [okPeer, mtOf, if_neg c1, if_pos c2, if_neg k6])
      ·rw [if_neg (show ¬ (decide (m.Index > p.Match) = true) by simpa using c2), w64_id (n := p.Match + 1) (by omega) (by omega)]
       by_cases k6 : m.Kind = 6
       ·rw [if_pos (show (m.Kind == (6 : Int)) = true by simpa using k6)]
        exact hfin _ (by simp only [okPeer, mtOf, if_neg c1, if_neg c2, if_pos k6])
       ·rw [if_neg (show ¬ ((m.Kind == (6 : Int)) = true) by simpa using k6)]
        exact hfin _ (by simp only [okPeer, mtOf, if_neg c1, if_neg c2, if_neg k6])
    | false =>
     rw [if_neg (show ¬ (false = true) by decide), if_neg (show ¬ (false = true) by decide)]
     have hpo := noPeer_ok (n := n) (m := m) hb hp hcm.1
     have hR := h.setPeer h2 hpj (noPeer_id n m p) hpo
     have hsd := send_spec N hN (withPeers n (n.Peers.set j (noPeer n m p))) [] (noPeer n m p) hR.log hpo (by simp) (by have := hR.clen; omega)
     have hfin : ∀ X : Peer, X = noPeer n m p →
       ((spec_l16Send N (Tl16Run.mk (Node.mk n.Id n.Term n.Vote n.Role n.Lead n.Conf n.Log n.Commit n.Clock n.Limit n.Votes (n.Peers.set j X)) []) X).bind fun y_467 =>
        some (Tl16Run.mk (Node.mk y_467.n.Id y_467.n.Term y_467.n.Vote y_467.n.Role y_467.n.Lead n.Conf (Log.mk y_467.n.Log.Start y_467.n.Log.StartTerm n.Log.Entries) y_467.n.Commit y_467.n.Clock y_467.n.Limit n.Votes (n.Peers.set j X)) y_467.told)) = some ⟨withPeers n (n.Peers.set j (noPeer n m p)), [sendMsg (withPeers n (n.Peers.set j (noPeer n m p))) (noPeer n m p)]⟩ := by
      intro X hX
      subst hX
      rw [show (Node.mk n.Id n.Term n.Vote n.Role n.Lead n.Conf n.Log n.Commit n.Clock n.Limit n.Votes (n.Peers.set j (noPeer n m p))) = withPeers n (n.Peers.set j (noPeer n m p)) from rfl, hsd, Option.bind_some]
      rfl
     by_cases k6 : m.Kind = 6
     ·rw [if_pos (show (m.Kind == (6 : Int)) = true by simpa using k6)]
      by_cases c1 : m.Index = n.Log.Start
      ·rw [if_pos (show (m.Index == n.Log.Start) = true by simpa using c1)]
       by_cases c2 : m.Commit ≤ 20000
       ·rw [if_pos (show decide (m.Commit ≤ (20000 : Int)) = true from decide_eq_true c2)]
        exact hfin _ (by simp only [noPeer, if_pos k6, if_pos (And.intro c1 c2)])
       ·rw [if_neg (show ¬ (decide (m.Commit ≤ (20000 : Int)) = true) by simpa using c2)]
        exact hfin _ (by simp only [noPeer, if_pos k6, if_neg (fun e : m.Index = n.Log.Start ∧ m.Commit ≤ 20000 => c2 e.2)])
      ·rw [if_neg (show ¬ ((m.Index == n.Log.Start) = true) by simpa using c1)]
       exact hfin _ (by simp only [noPeer, if_pos k6, if_neg (fun e : m.Index = n.Log.Start ∧ m.Commit ≤ 20000 => c1 e.1)])
     ·rw [if_neg (show ¬ ((m.Kind == (6 : Int)) = true) by simpa using k6), w64_id (n := m.Index + 1) (by omega) (by omega), w64_id (n := p.Match + 1) (by omega) (by omega)]
      by_cases c1 : m.Index + 1 < p.Match + 1
      ·rw [if_pos (show decide (m.Index + 1 < p.Match + 1) = true from decide_eq_true c1)]
       by_cases c2 : p.Match + 1 < p.Next
       ·rw [if_pos (show decide (p.Match + 1 < p.Next) = true from decide_eq_true c2)]
        exact hfin _ (by simp only [noPeer, nextOf, if_neg k6, if_pos c1, if_pos c2])
       ·rw [if_neg (show ¬ (decide (p.Match + 1 < p.Next) = true) by simpa using c2)]
        exact hfin _ (by simp only [noPeer, nextOf, if_neg k6, if_pos c1, if_neg c2])
      ·rw [if_neg (show ¬ (decide (m.Index + 1 < p.Match + 1) = true) by simpa using c1)]
       by_cases c2 : m.Index + 1 < p.Next
       ·rw [if_pos (show decide (m.Index + 1 < p.Next) = true from decide_eq_true c2)]
        exact hfin _ (by simp only [noPeer, nextOf, if_neg k6, if_neg c1, if_pos c2])
       ·rw [if_neg (show ¬ (decide (m.Index + 1 < p.Next) = true) by simpa using c2)]
        exact hfin _ (by simp only [noPeer, nextOf, if_neg k6, if_neg c1, if_neg c2])
  ·rw [if_pos (show (n.Role != (2 : Int)) = true by simpa using h2), if_pos h2]
 ·rw [if_pos (show (m.Term != n.Term) = true by simpa using h1), if_pos h1]
def installN (n : Node) (m : Message) : Node × List Message := if m.Term ≥ n.Term then (follow n m.From, []) else (n, [])
def recvBody (n : Node) (m : Message) : Node × List Message :=
 if m.Kind = 1 then askVoteN n m else if m.Kind = 2 then tellVoteN n m else if m.Kind = 3 then askAppendN n m else if m.Kind = 4 ∨ m.Kind = 6 then replyN n m else installN n m
def recvN (n : Node) (m : Message) : Node × List Message × Bool :=
 if nodeOk n = false then (zNode, [], false) else if messageOk m = false then (zNode, [], false) else if m.To ≠ n.Id then (zNode, [], false) else
 ((recvBody (stepUp n m) m).1, (recvBody (stepUp n m) m).2, true)
theorem bind_of {α β : Type} {o : Option α} {a : α} {f : α → Option β} {r : Option β} (h : o = some a) (hf : f a = r) : o.bind f = r := by
 subst h
 exact hf
theorem Right.stepUp {n : Node} (h : Right n) {m : Message} (hm : MsgRight m) : Right (Pe.FnSettles.stepUp n m) := by
 have ht := h.term
 have hmt := hm.term
 unfold Pe.FnSettles.stepUp
 split
 ·exact ⟨h.id, h.conf, h.log, by show logTerm n.Log ≤ m.Term ∧ m.Term ≤ 100000; omega, z4, z4, z2, h.com, h.limit, h.clock, rfl, (fun _ => rfl), (fun e => absurd (show (0 : Int) = 2 from e) (by decide)), (fun _ => rfl)⟩
 ·exact h
theorem receive_spec (N : Nat) (hN : Big N) (n : Node) (m : Message) (h : totNode n ≤ 1099511627) (htm : totMessage m ≤ 1099511627) : spec_Receive N n m = some (recvN n m) := by
 unfold spec_Receive recvN
 rw [nodeOk_spec N hN n h, Option.bind_some]
 cases hk : nodeOk n with
 | false => rfl
 | true =>
  have hr := right_of hk
  rw [if_neg (show ¬ ((!true) = true) by decide), if_neg (show ¬ (true = false) by decide), messageOk_spec N hN m htm, Option.bind_some]
  cases hmk : messageOk m with
  | false => rfl
  | true =>
   have hm := msg_of hmk
   rw [if_neg (show ¬ ((!true) = true) by decide), if_neg (show ¬ (true = false) by decide)]
   by_cases hto : m.To = n.Id
   ·rw [if_neg (show ¬ ((m.To != n.Id) = true) by simpa using hto), if_neg (not_not_intro hto), copy_spec N n h, Option.bind_some]
    simp only [joinP]
    have hR := hr.stepUp hm
    by_cases ht : m.Term > n.Term
    ·have hs : stepUp n m = ⟨n.Id, m.Term, 0, 0, 0, n.Conf, n.Log, n.Commit, n.Clock, n.Limit, [], []⟩ := if_pos ht
     rw [hs] at hR ⊢
     unfold spec_l16Follow_i1
     rw [if_pos (show decide (m.Term > n.Term) = true from decide_eq_true ht), Option.bind_some]
     simp only
     by_cases k1 : m.Kind = 1
     ·rw [if_pos (show (m.Kind == (1 : Int)) = true by simpa using k1)]
      unfold recvBody
      rw [if_pos k1]
      refine bind_of (askVote_spec N ⟨n.Id, m.Term, 0, 0, 0, n.Conf, n.Log, n.Commit, n.Clock, n.Limit, [], []⟩ m hR.log) ?_
      unfold askVoteN voted
      split <;> rfl
     rw [if_neg (show ¬ ((m.Kind == (1 : Int)) = true) by simpa using k1)]
     by_cases k2 : m.Kind = 2
     ·rw [if_pos (show (m.Kind == (2 : Int)) = true by simpa using k2)]
      unfold recvBody
      rw [if_neg k1, if_pos k2]
      exact bind_of (tellVote_spec N hN ⟨n.Id, m.Term, 0, 0, 0, n.Conf, n.Log, n.Commit, n.Clock, n.Limit, [], []⟩ m hR) rfl
     rw [if_neg (show ¬ ((m.Kind == (2 : Int)) = true) by simpa using k2)]
     by_cases k3 : m.Kind = 3
     ·rw [if_pos (show (m.Kind == (3 : Int)) = true by simpa using k3)]
      unfold recvBody
      rw [if_neg k1, if_neg k2, if_pos k3]
      exact bind_of (askAppend_spec N hN ⟨n.Id, m.Term, 0, 0, 0, n.Conf, n.Log, n.Commit, n.Clock, n.Limit, [], []⟩ m hR hm) rfl
     rw [if_neg (show ¬ ((m.Kind == (3 : Int)) = true) by simpa using k3)]
     by_cases k4 : m.Kind = 4
     ·rw [if_pos (show (m.Kind == (4 : Int)) = true by simpa using k4)]
      unfold recvBody
      rw [if_neg k1, if_neg k2, if_neg k3, if_pos (Or.inl k4)]
      exact bind_of (reply_spec N hN ⟨n.Id, m.Term, 0, 0, 0, n.Conf, n.Log, n.Commit, n.Clock, n.Limit, [], []⟩ m hR hm) rfl
     rw [if_neg (show ¬ ((m.Kind == (4 : Int)) = true) by simpa using k4)]
     by_cases k6 : m.Kind = 6
     ·rw [if_pos (show (m.Kind == (6 : Int)) = true by simpa using k6)]
      unfold recvBody
      rw [if_neg k1, if_neg k2, if_neg k3, if_pos (Or.inr k6)]
      exact bind_of (reply_spec N hN ⟨n.Id, m.Term, 0, 0, 0, n.Conf, n.Log, n.Commit, n.Clock, n.Limit, [], []⟩ m hR hm) rfl
     rw [if_neg (show ¬ ((m.Kind == (6 : Int)) = true) by simpa using k6)]
     have k5 : m.Kind = 5 := by have := hm.kind; omega
     rw [if_pos (show (m.Kind == (5 : Int)) = true by simpa using k5)]
     unfold recvBody installN
     rw [if_neg k1, if_neg k2, if_neg k3, if_neg (show ¬ (m.Kind = 4 ∨ m.Kind = 6) from fun e => e.elim k4 k6)]
     by_cases c : m.Term ≥ m.Term
     ·rw [if_pos (show decide (m.Term ≥ m.Term) = true from decide_eq_true c)]
      simp only [if_pos c]
      rfl
     ·rw [if_neg (show ¬ (decide (m.Term ≥ m.Term) = true) from fun e => c (of_decide_eq_true e))]
      simp only [if_neg c]
    ·have hs : stepUp n m = n := if_neg ht
     rw [hs] at hR ⊢
     rw [if_neg (show ¬ (decide (m.Term > n.Term) = true) by simpa using ht)]
     by_cases k1 : m.Kind = 1
     ·rw [if_pos (show (m.Kind == (1 : Int)) = true by simpa using k1)]
      unfold recvBody
      rw [if_pos k1]
      refine bind_of (askVote_spec N n m hR.log) ?_
      unfold askVoteN voted
      split <;> rfl
     rw [if_neg (show ¬ ((m.Kind == (1 : Int)) = true) by simpa using k1)]
     by_cases k2 : m.Kind = 2
     ·rw [if_pos (show (m.Kind == (2 : Int)) = true by simpa using k2)]
      unfold recvBody
      rw [if_neg k1, if_pos k2]
      exact bind_of (tellVote_spec N hN n m hR) rfl
     rw [if_neg (show ¬ ((m.Kind == (2 : Int)) = true) by simpa using k2)]
     by_cases k3 : m.Kind = 3
     ·rw [if_pos (show (m.Kind == (3 : Int)) = true by simpa using k3)]
      unfold recvBody
      rw [if_neg k1, if_neg k2, if_pos k3]
      exact bind_of (askAppend_spec N hN n m hR hm) rfl
     rw [if_neg (show ¬ ((m.Kind == (3 : Int)) = true) by simpa using k3)]
     by_cases k4 : m.Kind = 4
     ·rw [if_pos (show (m.Kind == (4 : Int)) = true by simpa using k4)]
      unfold recvBody
      rw [if_neg k1, if_neg k2, if_neg k3, if_pos (Or.inl k4)]
      exact bind_of (reply_spec N hN n m hR hm) rfl
     rw [if_neg (show ¬ ((m.Kind == (4 : Int)) = true) by simpa using k4)]
     by_cases k6 : m.Kind = 6
     ·rw [if_pos (show (m.Kind == (6 : Int)) = true by simpa using k6)]
      unfold recvBody
      rw [if_neg k1, if_neg k2, if_neg k3, if_pos (Or.inr k6)]
      exact bind_of (reply_spec N hN n m hR hm) rfl
     rw [if_neg (show ¬ ((m.Kind == (6 : Int)) = true) by simpa using k6)]
     have k5 : m.Kind = 5 := by have := hm.kind; omega
     rw [if_pos (show (m.Kind == (5 : Int)) = true by simpa using k5)]
     unfold recvBody installN
     rw [if_neg k1, if_neg k2, if_neg k3, if_neg (show ¬ (m.Kind = 4 ∨ m.Kind = 6) from fun e => e.elim k4 k6)]
     by_cases c : m.Term ≥ n.Term
     ·rw [if_pos (show decide (m.Term ≥ n.Term) = true from decide_eq_true c)]
      simp only [if_pos c]
      rfl
     ·rw [if_neg (show ¬ (decide (m.Term ≥ n.Term) = true) from fun e => c (of_decide_eq_true e))]
      simp only [if_neg c]
   ·rw [if_pos (show (m.To != n.Id) = true by simpa using hto), if_pos hto]
    rfl
theorem Right.follow {n : Node} (h : Right n) {i : Int} (hi : 0 ≤ i ∧ i ≤ 4) : Right (Pe.FnSettles.follow n i) :=
 ⟨h.id, h.conf, h.log, h.term, h.vote, hi, z2, h.com, h.limit, z20, rfl, (fun _ => rfl), (fun e => absurd (show (0 : Int) = 2 from e) (by decide)), (fun _ => rfl)⟩
theorem comWith_in (n : Node) (m : Message) (k : Int) : n.Commit ≤ comWith n m k ∧ (comWith n m k ≤ n.Commit ∨ comWith n m k ≤ k) := by
 unfold comWith
 split <;> split <;> omega
theorem logTerm_app {a b : Int} {es fs : List Entry} (h : fs ≠ []) : ∃ e ∈ fs, logTerm ⟨a, b, es ++ fs⟩ = e.Term := by
 refine ⟨fs.getLast h, List.getLast_mem h, ?_⟩
 unfold logTerm
 simp only
 rw [List.getLast?_append, List.getLast?_eq_some_getLast h]
 rfl
theorem appN_right {n : Node} (h : Right n) {m : Message} (hm : MsgRight m) {k : Int} {l : List Entry} (hl : logOk ⟨n.Log.Start, n.Log.StartTerm, l⟩ = true) (ht : logTerm ⟨n.Log.Start, n.Log.StartTerm, l⟩ ≤ n.Term) (hk : k ≤ n.Log.Start + l.length) (hc : n.Commit ≤ n.Log.Start + l.length) : Right (appN n m k l).1 := by
 have hf := hm.frm
 have hcw := comWith_in n m k
 have hco := h.com
 refine ⟨h.id, h.conf, hl, ⟨ht, h.term.2⟩, h.vote, by show 0 ≤ m.From ∧ m.From ≤ 4; omega, z2, ?_, h.limit, z20, rfl, (fun _ => rfl), (fun e => absurd (show (0 : Int) = 2 from e) (by decide)), (fun _ => rfl)⟩
 show n.Log.Start ≤ comWith n m k ∧ comWith n m k ≤ n.Log.Start + l.length
 omega
theorem told_of {n : Node} {m : Message} (hm : MsgRight m) {x : Message} (ht : x.To = m.From) (he : x.Entries = []) (hc : x.Conf = []) (hd : x.Data = (⟨#[]⟩ : ByteArray)) : Told n x := by
 refine ⟨by rw [ht]; exact hm.frm, ?_⟩
 simp only [totMessage, totL, he, hc, hd, List.length_nil, List.map_nil, List.sum_nil]
 exact Nat.zero_le _
theorem askVote_right {n : Node} (h : Right n) {m : Message} (hm : MsgRight m) : Right (askVoteN n m).1 ∧ (askVoteN n m).1.Id = n.Id ∧ ∀ x ∈ (askVoteN n m).2, Told (askVoteN n m).1 x := by
 have hf := hm.frm
 refine ⟨?_, ?_, fun x hx => ?_⟩
 ·unfold askVoteN voted
  simp only
  split
  ·exact ⟨h.id, h.conf, h.log, h.term, by show 0 ≤ m.From ∧ m.From ≤ 4; omega, h.lead, h.role, h.com, h.limit, z20, h.votes, h.voted, h.peers, h.alone⟩
  ·exact h
 ·unfold askVoteN voted
  simp only
  split <;> rfl
 ·unfold askVoteN at hx
  simp only [List.mem_singleton] at hx
  subst hx
  exact told_of hm rfl rfl rfl rfl
theorem tellVote_right {n : Node} (h : Right n) {m : Message} (hm : MsgRight m) : Right (tellVoteN n m).1 ∧ (tellVoteN n m).1.Id = n.Id ∧ ∀ x ∈ (tellVoteN n m).2, Told (tellVoteN n m).1 x := by
 unfold tellVoteN
 split
 ·exact ⟨h, rfl, fun x hx => by cases hx⟩
 split
 ·exact ⟨h, rfl, fun x hx => by cases hx⟩
 split
 ·exact ⟨h, rfl, fun x hx => by cases hx⟩
 rename_i hr
 have hr1 : n.Role = 1 := Decidable.not_not.1 hr
 have hw : Right (withVotes n (newVotes n m)) := ⟨h.id, h.conf, h.log, h.term, h.vote, h.lead, h.role, h.com, h.limit, h.clock, newVotes_rise n m, (fun e => absurd hr1 e), (fun e => by have e2 : n.Role = 2 := e; omega), h.alone⟩
 split
 ·exact ⟨hw.leadN, leadN_id _, sends_told hw.leadN⟩
 ·exact ⟨hw, rfl, fun x hx => by cases hx⟩
theorem askAppend_right {n : Node} (h : Right n) {m : Message} (hm : MsgRight m) (hle : m.Term ≤ n.Term) : Right (askAppendN n m).1 ∧ (askAppendN n m).1.Id = n.Id ∧ ∀ x ∈ (askAppendN n m).2, Told (askAppendN n m).1 x := by
 obtain ⟨f1, f2, f3, f4⟩ := appFrom_ok h hm
 have hf := hm.frm
 have hfo := h.follow (i := m.From) (by omega)
 have hterm : ∀ e ∈ (appFrom n m).2.2, 0 ≤ e.Term := fun e he => (entOk_term (msgTerms_mem hm.terms e (f4 e he)).1).1
 have htold : ∀ (y : Node) (i : Int), ∀ x ∈ [refuseMsg n m i], Told y x := fun y i x hx => by
  simp only [List.mem_singleton] at hx
  subst hx
  exact told_of hm rfl rfl rfl rfl
 have htold2 : ∀ (y : Node) (k : Int) (l : List Entry), ∀ x ∈ (appN n m k l).2, Told y x := fun y k l x hx => by
  unfold appN at hx
  simp only [List.mem_singleton] at hx
  subst hx
  exact told_of hm rfl rfl rfl rfl
 obtain ⟨g1, g2, g3⟩ := agree_in (l := n.Log) (i := (appFrom n m).1) (es := (appFrom n m).2.2) (k := 0) hterm
 have hco := h.com
 simp only [logEnd] at hco
 unfold askAppendN
 split
 ·exact ⟨h, rfl, htold _ _⟩
 split
 ·exact ⟨hfo, rfl, htold _ _⟩
 rename_i he
 have he' : termAt n.Log (appFrom n m).1 = (appFrom n m).2.1 := Decidable.not_not.1 he
 have hin : n.Log.Start ≤ (appFrom n m).1 ∧ (appFrom n m).1 ≤ n.Log.Start + n.Log.Entries.length := by
  by_cases hx : n.Log.Start ≤ (appFrom n m).1 ∧ (appFrom n m).1 ≤ n.Log.Start + n.Log.Entries.length
  ·exact hx
  ·have := termAt_out hx
   omega
 split
 ·rename_i hlt
  split
  ·exact ⟨hfo, rfl, htold _ _⟩
  rename_i hcm
  split
  ·exact ⟨hfo, rfl, htold _ _⟩
  rename_i hj
  have hj' : logOk ⟨n.Log.Start, n.Log.StartTerm, joined n (appFrom n m).1 (agree n.Log (appFrom n m).1 (appFrom n m).2.2 0) (appFrom n m).2.2⟩ = true := by simpa using hj
  generalize agree n.Log (appFrom n m).1 (appFrom n m).2.2 0 = k at g1 g2 g3 hlt hcm hj' ⊢
  have hin2 : n.Log.Start ≤ (appFrom n m).1 + k ∧ (appFrom n m).1 + k ≤ n.Log.Start + n.Log.Entries.length := by
   rcases g1 with g1 | g1
   ·rw [g1]
    omega
   ·exact g1
  have hlen : ((joined n (appFrom n m).1 k (appFrom n m).2.2).length : Int) = (appFrom n m).1 + (appFrom n m).2.2.length - n.Log.Start := by
   unfold joined
   simp only [List.length_append, List.length_take, List.length_drop]
   omega
  refine ⟨appN_right h hm hj' ?_ (by omega) (by omega), rfl, htold2 _ _ _⟩
  unfold joined
  obtain ⟨e, he, hq⟩ := logTerm_app (a := n.Log.Start) (b := n.Log.StartTerm) (es := n.Log.Entries.take ((appFrom n m).1 + k - n.Log.Start).toNat) (fs := (appFrom n m).2.2.drop k) (by
   intro hnil
   have := congrArg List.length hnil
   simp only [List.length_drop, List.length_nil] at this
   omega)
  rw [hq]
  have := (msgTerms_mem hm.terms e (f4 e (List.mem_of_mem_drop he))).2
  omega
 ·rename_i hlt
  refine ⟨appN_right h hm h.log h.term.1 ?_ hco.2, rfl, htold2 _ _ _⟩
  rcases g1 with g1 | g1 <;> omega
theorem reply_right {n : Node} (h : Right n) {m : Message} (hm : MsgRight m) : Right (replyN n m).1 ∧ (replyN n m).1.Id = n.Id ∧ ∀ x ∈ (replyN n m).2, Told (replyN n m).1 x := by
 have hb := h.end_in
 unfold replyN
 split
 ·exact ⟨h, rfl, fun x hx => by cases hx⟩
 split
 ·exact ⟨h, rfl, fun x hx => by cases hx⟩
 rename_i hr
 have hr2 : n.Role = 2 := Decidable.not_not.1 hr
 split
 ·exact ⟨h, rfl, fun x hx => by cases hx⟩
 split
 ·rename_i p hpj
  generalize (lastIx m.From n.Peers 0 (-1)).toNat = j at hpj
  have hp := (h.peers hr2).2 p (List.mem_of_getElem? hpj)
  unfold replyTo
  split
  ·have hR := h.setPeer hr2 hpj (okPeer_id n m p) (okPeer_ok (m := m) hb hp hm.index.1)
   refine ⟨hR.commit, commitN_id _, fun x hx => ?_⟩
   simp only at hx ⊢
   split at hx
   ·rename_i hq
    simp only [List.mem_singleton] at hx
    subst hx
    refine send_told hR.commit hq.1 ?_
    rcases commitN_peers (withPeers n (n.Peers.set j (okPeer n m p))) with e | e
    ·exfalso
     have h9 := (hR.commit.peers hq.1).1
     have hco : confOf (commitN (withPeers n (n.Peers.set j (okPeer n m p)))) = confOf n := by
      unfold confOf confAt
      rw [commitN_log, commitN_conf]
      rfl
     rw [hco, e, commitN_id] at h9
     have h10 := (h.peers hr2).1
     rw [show (withPeers n (n.Peers.set j (okPeer n m p))).Id = n.Id from rfl, ← h10] at h9
     have h11 := congrArg List.length h9
     have h12 := (List.getElem?_eq_some_iff.1 hpj).1
     simp only [List.map_nil, List.length_nil, List.length_map] at h11
     omega
    ·rw [e]
     show (okPeer n m p).Id ∈ (n.Peers.set j (okPeer n m p)).map (·.Id)
     rw [set_ids hpj (okPeer_id n m p), okPeer_id]
     exact List.mem_map.2 ⟨p, List.mem_of_getElem? hpj, rfl⟩
   ·cases hx
  ·have hR := h.setPeer hr2 hpj (noPeer_id n m p) (noPeer_ok (n := n) (m := m) hb hp hm.commit.1)
   refine ⟨hR, rfl, fun x hx => ?_⟩
   simp only [List.mem_singleton] at hx
   subst hx
   refine send_told hR hr2 ?_
   show (noPeer n m p).Id ∈ (n.Peers.set j (noPeer n m p)).map (·.Id)
   rw [set_ids hpj (noPeer_id n m p), noPeer_id]
   exact List.mem_map.2 ⟨p, List.mem_of_getElem? hpj, rfl⟩
 ·exact ⟨h, rfl, fun x hx => by cases hx⟩
theorem body_right {n : Node} (h : Right n) {m : Message} (hm : MsgRight m) (hle : m.Term ≤ n.Term) : Right (recvBody n m).1 ∧ (recvBody n m).1.Id = n.Id ∧ ∀ x ∈ (recvBody n m).2, Told (recvBody n m).1 x := by
 have hf := hm.frm
 unfold recvBody
 split
 ·exact askVote_right h hm
 split
 ·exact tellVote_right h hm
 split
 ·exact askAppend_right h hm hle
 split
 ·exact reply_right h hm
 ·unfold installN
  split
  ·exact ⟨h.follow (by omega), rfl, fun x hx => by cases hx⟩
  ·exact ⟨h, rfl, fun x hx => by cases hx⟩
theorem stepUp_id (n : Node) (m : Message) : (stepUp n m).Id = n.Id := by unfold stepUp; split <;> rfl
theorem stepUp_le (n : Node) (m : Message) : m.Term ≤ (stepUp n m).Term ∧ n.Term ≤ (stepUp n m).Term := by
 unfold stepUp
 split
 ·exact ⟨Int.le_refl _, by show n.Term ≤ m.Term; omega⟩
 ·exact ⟨by omega, Int.le_refl _⟩
theorem recv_right {n : Node} {m : Message} (hok : (recvN n m).2.2 = true) : Right n ∧ MsgRight m ∧ m.To = n.Id ∧ Right (recvN n m).1 ∧ (recvN n m).1.Id = n.Id ∧ ∀ x ∈ (recvN n m).2.1, Told (recvN n m).1 x := by
 unfold recvN at hok ⊢
 by_cases h1 : nodeOk n = false
 ·rw [if_pos h1] at hok
  cases hok
 rw [if_neg h1] at hok ⊢
 by_cases h2 : messageOk m = false
 ·rw [if_pos h2] at hok
  cases hok
 rw [if_neg h2] at hok ⊢
 by_cases h3 : m.To ≠ n.Id
 ·rw [if_pos h3] at hok
  cases hok
 rw [if_neg h3]
 have hn := right_of (by simpa using h1)
 have hm := msg_of (by simpa using h2)
 obtain ⟨b1, b2, b3⟩ := body_right (hn.stepUp hm) hm (stepUp_le n m).1
 exact ⟨hn, hm, Decidable.not_not.1 h3, b1, b2.trans (stepUp_id n m), b3⟩
theorem strOf_size (ns : List Int) : (strOf ns).size = ns.length := by
 have : ∀ (ns : List Int) (r : ByteArray), (ns.foldl (fun r n => r.push (UInt8.ofNat n.toNat)) r).size = r.size + ns.length := by
  intro ns
  induction ns with
  | nil => intro r; rfl
  | cons n ns ih =>
   intro r
   rw [List.foldl_cons, ih, ByteArray.size_push, List.length_cons]
   omega
 have h := this ns ByteArray.empty
 unfold strOf bytesOfRows
 rw [h]
 show 0 + ns.length = ns.length
 omega
def CurOk (b : List Int) (c : Tl01Cur) : Prop := c.b = b ∧ 0 ≤ c.i
theorem below_cur (N : Nat) {b : List Int} (hl : b.length ≤ 1099511627776) {c : Tl01Cur} (h : CurOk b c) (k : Int) : ∃ r c', spec_l01Below N c k = some (r, c') ∧ 0 ≤ r ∧ (0 < k → r < k) ∧ CurOk b c' := by
 obtain ⟨r, c', e, l, u, _, hb, hi⟩ := below_ok N c k h.2 (by rw [h.1]; exact hl)
 exact ⟨r, c', e, l, u, hb.trans h.1, hi⟩
theorem once_cur (N : Nat) {b : List Int} (hl : b.length ≤ 1099511627776) {c : Tl01Cur} (h : CurOk b c) (k : Int) : ∃ q c', spec_l01Once N c k = some (q, c') ∧ CurOk b c' := by
 obtain ⟨r, c', e, _, _, hc⟩ := below_cur N hl h k
 unfold spec_l01Once
 rw [e, Option.bind_some]
 exact ⟨_, _, rfl, hc⟩
theorem rise_snoc {lo hi y : Int} : ∀ {xs : List Int} {p : Option Int}, rise lo hi p xs = true → (∀ x ∈ xs, x < y) → (∀ q, p = some q → q < y) → lo ≤ y ∧ y ≤ hi → rise lo hi p (xs ++ [y]) = true
 | [], p, _, _, hp, hy => by
  rw [List.nil_append, rise_cons]
  simp only [Bool.and_eq_true, decide_eq_true_eq]
  refine ⟨hy, ?_, rfl⟩
  cases p with
  | none => rfl
  | some q => exact decide_eq_true (hp q rfl)
 | x :: xs, p, h, hx, hp, hy => by
  rw [List.cons_append, rise_cons]
  rw [rise_cons] at h
  simp only [Bool.and_eq_true, decide_eq_true_eq] at h ⊢
  exact ⟨h.1, h.2.1, rise_snoc h.2.2 (fun z hz => hx z (List.mem_cons_of_mem _ hz)) (fun q hq => by cases hq; exact hx x List.mem_cons_self) hy⟩
theorem conf_l1 (N : Nat) {b : List Int} (hl : b.length ≤ 1099511627776) : ∀ (d f : Nat) (i : Int) (c : Tl01Cur) (acc : List Int), i + d = 5 → 1 ≤ i → d < f → CurOk b c → rise 1 4 none acc = true → (∀ x ∈ acc, x < i) →
  ∃ c' out, spec_l07Conf_l1 N f i c.b c.i c.h acc = some (c'.b, c'.i, c'.h, out) ∧ CurOk b c' ∧ rise 1 4 none out = true := by
 intro d
 induction d with
 | zero =>
  intro f i c acc hd h1 hf hc ha hx
  obtain ⟨f, rfl⟩ : ∃ q, f = q + 1 := ⟨f - 1, by omega⟩
  rw [spec_l07Conf_l1, if_neg (by simp; omega)]
  exact ⟨c, acc, rfl, hc, ha⟩
 | succ d ih =>
  intro f i c acc hd h1 hf hc ha hx
  obtain ⟨f, rfl⟩ : ∃ q, f = q + 1 := ⟨f - 1, by omega⟩
  have hal := votes_len ha
  rw [spec_l07Conf_l1, if_pos (by simp; omega)]
  simp only [joinP]
  obtain ⟨q, c', e, hc'⟩ := once_cur N hl hc 2
  rw [show (Tl01Cur.mk c.b c.i c.h) = c from rfl, e, Option.bind_some, w64_id (n := i + 1) (by omega) (by omega)]
  cases q with
  | true =>
   rw [if_pos rfl, cat_ok (by simp; omega), Option.bind_some]
   exact ih f (i + 1) c' (acc ++ [i]) (by omega) (by omega) (by omega) hc' (rise_snoc ha hx (fun q hq => by cases hq) (by omega)) (fun x hx' => by
    rcases List.mem_append.1 hx' with h | h
    ·have := hx x h
     omega
    ·simp only [List.mem_singleton] at h
     omega)
  | false =>
   rw [if_neg (by simp)]
   exact ih f (i + 1) c' acc (by omega) (by omega) (by omega) hc' ha (fun x h => by have := hx x h; omega)
theorem conf_cur (N : Nat) (hN : Big N) {b : List Int} (hl : b.length ≤ 1099511627776) {c : Tl01Cur} (h : CurOk b c) : ∃ cf c', spec_l07Conf N c = some (cf, c') ∧ confOk cf = true ∧ CurOk b c' := by
 obtain ⟨c', out, e, hc, hr⟩ := conf_l1 N hl 4 N 1 c [] (by decide) (by decide) (by have := hN; unfold Big at this; omega) h rfl (fun x hx => by cases hx)
 have ho := votes_len hr
 unfold spec_l07Conf
 simp only [joinP]
 rw [e, Option.bind_some]
 simp only
 by_cases h0 : out.length = 0
 ·have : out = [] := List.eq_nil_of_length_eq_zero h0
  subst this
  rw [if_pos (show ((((([] : List Int)).length : Nat) : Int) == (0 : Int)) = true from rfl), cat_ok (by simp), Option.bind_some]
  exact ⟨[1], c', rfl, by decide, hc⟩
 ·rw [if_neg (show ¬ ((((out.length : Nat) : Int) == (0 : Int)) = true) by rw [beq_iff_eq]; omega)]
  refine ⟨out, c', rfl, ?_, hc⟩
  unfold confOk
  rw [hr, decide_eq_true ho, decide_eq_true (by omega)]
  rfl
theorem pick_cur (N : Nat) {b : List Int} (hl : b.length ≤ 1099511627776) {c : Tl01Cur} (h : CurOk b c) {xs : List ByteArray} (hx : 0 < xs.length) : ∃ t c', spec_l01Pick_i1 N c xs = some (t, c') ∧ t ∈ xs ∧ CurOk b c' := by
 obtain ⟨r, c', e, l, u, hc⟩ := below_cur N hl h (xs.length : Int)
 have hr := u (by omega)
 unfold spec_l01Pick_i1
 rw [e, Option.bind_some]
 have hk : r.toNat < xs.length := by omega
 have := at_lt (xs := xs) hk
 rw [Int.toNat_of_nonneg l] at this
 simp only
 rw [this, Option.bind_some]
 exact ⟨_, _, rfl, List.getElem_mem hk, hc⟩
theorem pickInt_cur (N : Nat) {b : List Int} (hl : b.length ≤ 1099511627776) {c : Tl01Cur} (h : CurOk b c) {xs : List Int} (hx : 0 < xs.length) : ∃ t c', spec_l01PickInt_i1 N c xs = some (t, c') ∧ t ∈ xs ∧ CurOk b c' := by
 obtain ⟨r, c', e, l, u, hc⟩ := below_cur N hl h (xs.length : Int)
 have hr := u (by omega)
 unfold spec_l01PickInt_i1
 rw [e, Option.bind_some]
 have hk : r.toNat < xs.length := by omega
 have := at_lt (xs := xs) hk
 rw [Int.toNat_of_nonneg l] at this
 simp only
 rw [this, Option.bind_some]
 exact ⟨_, _, rfl, List.getElem_mem hk, hc⟩
theorem ct_r (N : Nat) (c : List Int) : ∀ (xs : List Int) (k : Nat) (acc : List Int), k + xs.length ≤ 1000 → acc.length + xs.length ≤ 1000 → ∃ out, spec_ConfText_l1_r N c xs (k : Int) acc = some out ∧ out.length = acc.length + xs.length
 | [], k, acc, _, _ => ⟨acc, rfl, rfl⟩
 | x :: xs, k, acc, h1, h2 => by
  simp only [List.length_cons] at h1 h2
  rw [spec_ConfText_l1_r, Option.bind_some, cat_ok (by simp; omega), Option.bind_some, w64_succ (by omega)]
  obtain ⟨out, e, ho⟩ := ct_r N c xs (k + 1) (acc ++ [IntKind.wrap .u8 x]) (by omega) (by simp; omega)
  refine ⟨out, e, ?_⟩
  rw [ho]
  simp only [List.length_append, List.length_cons, List.length_nil]
  omega
theorem confText_ok (N : Nat) (hN : Big N) (c : List Int) (hc : c.length ≤ 500) : ∃ t q, spec_ConfText N c = some (t, q) ∧ t.size ≤ 500 := by
 unfold spec_ConfText
 rw [confOk_spec N hN c (by omega), Option.bind_some]
 cases confOk c with
 | false => exact ⟨_, _, rfl, Nat.zero_le _⟩
 | true =>
  rw [if_neg (by simp)]
  simp only [joinP]
  obtain ⟨out, e, ho⟩ := ct_r N c c 0 [] (by omega) (by simp; omega)
  rw [spec_ConfText_l1_eq c (by omega) (by have := hN; unfold Big at this; omega), show (0 : Int) = ((0 : Nat) : Int) from rfl, e, Option.bind_some]
  refine ⟨_, _, rfl, ?_⟩
  rw [strOf_size, ho]
  simp only [List.length_nil]
  omega
theorem quo_lo (a : Int) (ha : 0 ≤ a) (ha2 : a ≤ 1000000000000) : intD .quo .i64 a 128 = some (a / 128) := by
 unfold intD
 simp only
 rw [if_neg (by decide)]
 have : Int.tdiv a 128 = a / 128 := Int.tdiv_eq_ediv_of_nonneg ha
 rw [this]
 congr 1
 exact w64_id (by omega) (by omega)
theorem var_l1 (N : Nat) : ∀ (k f : Nat) (x : Int) (acc : List Int), 0 ≤ x → x < 128 ^ (k + 1) → k ≤ 4 → k < f → acc.length + k ≤ 1000 → ∃ y ys, spec_l01Var_l1 N f x acc = some (y, ys) ∧ ys.length ≤ acc.length + k := by
 intro k
 induction k with
 | zero =>
  intro f x acc h0 h1 hk hf ha
  obtain ⟨f, rfl⟩ : ∃ q, f = q + 1 := ⟨f - 1, by omega⟩
  rw [spec_l01Var_l1, if_neg (by simp at h1 ⊢; omega)]
  exact ⟨_, _, rfl, by omega⟩
 | succ k ih =>
  intro f x acc h0 h1 hk hf ha
  obtain ⟨f, rfl⟩ : ∃ q, f = q + 1 := ⟨f - 1, by omega⟩
  have hb : (128 : Int) ^ (k + 1 + 1) ≤ 1000000000000 := by
   have : k = 0 ∨ k = 1 ∨ k = 2 ∨ k = 3 := by omega
   rcases this with rfl | rfl | rfl | rfl <;> decide
  rw [spec_l01Var_l1]
  by_cases hx : x > 127
  ·rw [if_pos (by simpa using hx)]
   obtain ⟨r, e, _, _⟩ := rem_lo x h0 128 (by decide)
   rw [e, Option.bind_some, cat_ok (by simp; omega), Option.bind_some, quo_lo x h0 (by omega), Option.bind_some]
   have hlt : x / 128 < 128 ^ (k + 1) := by
    rw [Int.pow_succ] at h1
    exact Int.ediv_lt_of_lt_mul (by decide) h1
   obtain ⟨y, ys, e2, h2⟩ := ih f (x / 128) (acc ++ [IntKind.wrap .u8 (w64 (r + 128))]) (by omega) hlt (by omega) (by omega) (by simp; omega)
   refine ⟨y, ys, e2, ?_⟩
   simp only [List.length_append, List.length_cons, List.length_nil] at h2
   omega
  ·rw [if_neg (by simpa using hx)]
   exact ⟨_, _, rfl, by omega⟩
theorem var_ok (N : Nat) (hN : Big N) (x : Int) (h0 : 0 ≤ x) (h1 : x ≤ 200000) : ∃ t, spec_l01Var N x = some t ∧ t.size ≤ 10 := by
 have h3 : (128 : Int) ^ (2 + 1) = 2097152 := by decide
 obtain ⟨y, ys, e, h⟩ := var_l1 N 2 N x [] h0 (by rw [h3]; omega) (by decide) (by have := hN; unfold Big at this; omega) (by simp)
 simp only [List.length_nil] at h
 unfold spec_l01Var
 simp only [joinP]
 rw [e, Option.bind_some, cat_ok (by simp; omega), Option.bind_some]
 refine ⟨_, rfl, ?_⟩
 rw [strOf_size]
 simp only [List.length_append, List.length_cons, List.length_nil]
 omega
theorem short_ok (N : Nat) (hN : Big N) (s : ByteArray) (h : s.size ≤ 100) : ∃ t, spec_l05Short N s = some t ∧ t.size ≤ 110 := by
 obtain ⟨t, e, ht⟩ := var_ok N hN (s.size : Int) (by omega) (by omega)
 unfold spec_l05Short
 rw [e, Option.bind_some, scat_ok (by omega), Option.bind_some]
 exact ⟨_, rfl, by rw [ByteArray.size_append]; omega⟩
theorem cmdOk_total (N : Nat) (x : Command) : ∃ q, spec_CommandOk N x = some q := by
 have h : (spec_CommandOk N x).isSome = true := by
  unfold spec_CommandOk
  simp only [in_eq, Option.bind_some]
  repeat' split
  all_goals rfl
 exact Option.isSome_iff_exists.1 h
structure CmdSmall (x : Command) : Prop where
 session : 0 ≤ x.Session ∧ x.Session ≤ 1000
 seq : 0 ≤ x.Seq ∧ x.Seq ≤ 1000
 key : x.Key.size ≤ 10
 value : x.Value.size ≤ 10
 old : x.Old.size ≤ 10
theorem cmdText_ok (N : Nat) (hN : Big N) (x : Command) (h : CmdSmall x) : ∃ t q, spec_CommandText N x = some (t, q) ∧ t.size ≤ 1000 := by
 obtain ⟨q, e⟩ := cmdOk_total N x
 unfold spec_CommandText
 rw [e, Option.bind_some]
 cases q with
 | false => exact ⟨_, _, rfl, Nat.zero_le _⟩
 | true =>
  rw [if_neg (by simp)]
  obtain ⟨t1, e1, h1⟩ := var_ok N hN x.Session h.session.1 (by have := h.session; omega)
  obtain ⟨t2, e2, h2⟩ := var_ok N hN x.Seq h.seq.1 (by have := h.seq; omega)
  obtain ⟨t3, e3, h3⟩ := short_ok N hN x.Key (by have := h.key; omega)
  obtain ⟨t4, e4, h4⟩ := short_ok N hN x.Value (by have := h.value; omega)
  obtain ⟨t5, e5, h5⟩ := short_ok N hN x.Old (by have := h.old; omega)
  have h0 : (strOf [IntKind.wrap .u8 x.Op]).size = 1 := by rw [strOf_size]; rfl
  simp only [e1, e2, e3, e4, e5, Option.bind_some]
  rw [scat_ok (by omega)]
  simp only [Option.bind_some]
  rw [scat_ok (by rw [ByteArray.size_append]; omega)]
  simp only [Option.bind_some]
  rw [scat_ok (by rw [ByteArray.size_append, ByteArray.size_append]; omega)]
  simp only [Option.bind_some]
  rw [scat_ok (by rw [ByteArray.size_append, ByteArray.size_append, ByteArray.size_append]; omega)]
  simp only [Option.bind_some]
  rw [scat_ok (by rw [ByteArray.size_append, ByteArray.size_append, ByteArray.size_append, ByteArray.size_append]; omega)]
  refine ⟨_, _, rfl, ?_⟩
  rw [ByteArray.size_append, ByteArray.size_append, ByteArray.size_append, ByteArray.size_append, ByteArray.size_append]
  omega
theorem small_text {xs : List ByteArray} (h : xs.all (fun t => decide (t.size ≤ 10)) = true) {t : ByteArray} (ht : t ∈ xs) : t.size ≤ 10 := by
 simpa using List.all_eq_true.1 h t ht
theorem z1000 : (0 : Int) ≤ 0 ∧ (0 : Int) ≤ 1000 := by omega
theorem l15Right_cur (N : Nat) {b : List Int} (hl : b.length ≤ 1099511627776) {c : Tl01Cur} (h : CurOk b c) : ∃ x c', spec_l15Right N c = some (x, c') ∧ CmdSmall x ∧ CurOk b c' := by
 have hz : (⟨#[]⟩ : ByteArray).size ≤ 10 := by decide
 obtain ⟨r1, c1, e1, l1, u1, h1⟩ := below_cur N hl h 5
 have u1' := u1 (by decide)
 unfold spec_l15Right
 rw [e1, Option.bind_some]
 simp only [joinP]
 rw [w64_id (n := 1 + r1) (by omega) (by omega)]
 by_cases k1 : 1 + r1 = 1
 ·rw [if_pos (by simpa using k1)]
  exact ⟨_, _, rfl, ⟨z1000, z1000, hz, hz, hz⟩, h1⟩
 rw [if_neg (by simpa using k1)]
 obtain ⟨r2, c2, e2, l2, u2, h2⟩ := below_cur N hl h1 4
 obtain ⟨r3, c3, e3, l3, u3, h3⟩ := below_cur N hl h2 3
 have u2' := u2 (by decide)
 have u3' := u3 (by decide)
 obtain ⟨t4, c4, e4, m4, h4⟩ := pick_cur N hl h3 (xs := [(⟨#[97]⟩ : ByteArray), (⟨#[98]⟩ : ByteArray), (⟨#[99]⟩ : ByteArray)]) (by decide)
 have s4 := small_text (by decide) m4
 simp only [e2, e3, e4, Option.bind_some]
 rw [w64_id (n := 1 + r2) (by omega) (by omega), w64_id (n := 1 + r3) (by omega) (by omega)]
 obtain ⟨t5, c5, e5, m5, h5⟩ := pick_cur N hl h4 (xs := [(⟨#[]⟩ : ByteArray), (⟨#[49]⟩ : ByteArray), (⟨#[50]⟩ : ByteArray), (⟨#[116, 104, 114, 101, 101]⟩ : ByteArray)]) (by decide)
 obtain ⟨t6, c6, e6, m6, h6⟩ := pick_cur N hl h5 (xs := [(⟨#[]⟩ : ByteArray), (⟨#[49]⟩ : ByteArray), (⟨#[50]⟩ : ByteArray), (⟨#[116, 104, 114, 101, 101]⟩ : ByteArray)]) (by decide)
 have s5 := small_text (by decide) m5
 have s6 := small_text (by decide) m6
 by_cases k3 : 1 + r1 = 3
 ·rw [if_pos (by simpa using k3), e5, Option.bind_some]
  exact ⟨_, _, rfl, ⟨by simp only; omega, by simp only; omega, s4, s5, hz⟩, h5⟩
 rw [if_neg (by simpa using k3)]
 by_cases k5 : 1 + r1 = 5
 ·rw [if_pos (by simpa using k5), e5, Option.bind_some, e6, Option.bind_some]
  exact ⟨_, _, rfl, ⟨by simp only; omega, by simp only; omega, s4, s5, s6⟩, h6⟩
 ·rw [if_neg (by simpa using k5)]
  exact ⟨_, _, rfl, ⟨by simp only; omega, by simp only; omega, s4, hz, hz⟩, h4⟩
theorem l11Right_cur (N : Nat) (hN : Big N) {b : List Int} (hl : b.length ≤ 1099511627776) {c : Tl01Cur} (h : CurOk b c) (T : Int) : ∃ e c', spec_l11Right N c T = some (e, c') ∧ e.Data.size ≤ 1000 ∧ CurOk b c' := by
 obtain ⟨k, c1, e1, m1, h1⟩ := pickInt_cur N hl h (xs := [1, 2, 3, 3, 3]) (by decide)
 unfold spec_l11Right
 rw [e1, Option.bind_some]
 simp only [joinP]
 by_cases k2 : k = 2
 ·rw [if_pos (by simpa using k2)]
  obtain ⟨cf, c2, e2, hc, h2⟩ := conf_cur N hN hl h1
  have hcl := confOk_len hc
  obtain ⟨t, q, e3, h3⟩ := confText_ok N hN cf (by omega)
  rw [e2, Option.bind_some, e3, Option.bind_some]
  exact ⟨_, _, rfl, by simp only; omega, h2⟩
 rw [if_neg (by simpa using k2)]
 by_cases k3 : k = 3
 ·rw [if_pos (by simpa using k3)]
  obtain ⟨x, c2, e2, hx, h2⟩ := l15Right_cur N hl h1
  obtain ⟨t, q, e3, h3⟩ := cmdText_ok N hN x hx
  rw [e2, Option.bind_some, e3, Option.bind_some]
  exact ⟨_, _, rfl, h3, h2⟩
 ·rw [if_neg (by simpa using k3)]
  exact ⟨_, _, rfl, Nat.zero_le _, h1⟩
def InNet (m : Message) : Prop := (1 ≤ m.To ∧ m.To ≤ 4) ∧ totMessage m ≤ 20000
theorem take_l1 (N : Nat) (hN : Big N) (told : List Message) (ht : ∀ m ∈ told, InNet m) (htl : told.length ≤ 1000) : ∀ (d f k : Nat) (net : List Message), told.length = k + d → d < f → net.length ≤ 24 → (∀ m ∈ net, InNet m) →
  ∃ out, spec_l16Take_i1_l1 N told f (k : Int) net = some out ∧ out.length ≤ 24 ∧ ∀ m ∈ out, InNet m := by
 intro d
 induction d with
 | zero =>
  intro f k net hd hf hl hn
  obtain ⟨f, rfl⟩ : ∃ q, f = q + 1 := ⟨f - 1, by omega⟩
  rw [spec_l16Take_i1_l1, if_neg (by simp; omega)]
  exact ⟨net, rfl, hl, hn⟩
 | succ d ih =>
  intro f k net hd hf hl hn
  obtain ⟨f, rfl⟩ : ∃ q, f = q + 1 := ⟨f - 1, by omega⟩
  have hk : k < told.length := by omega
  rw [spec_l16Take_i1_l1, if_pos (by simp; omega)]
  simp only [joinP]
  rw [w64_succ (by omega)]
  by_cases h24 : net.length < 24
  ·rw [if_pos (by simp; omega), at_lt hk, Option.bind_some]
   by_cases hk5 : told[k].Kind = 5
   ·rw [if_neg (by simpa using hk5)]
    exact ih f (k + 1) net (by omega) (by omega) hl hn
   ·rw [if_pos (by simpa using hk5), Option.bind_some, cat_ok (by simp; omega), Option.bind_some]
    refine ih f (k + 1) (net ++ [told[k]]) (by omega) (by omega) (by simp; omega) (fun m hm => ?_)
    rcases List.mem_append.1 hm with h | h
    ·exact hn m h
    ·simp only [List.mem_singleton] at h
     subst h
     exact ht _ (List.getElem_mem hk)
  ·rw [if_neg (by simp; omega)]
   exact ih f (k + 1) net (by omega) (by omega) hl hn
def AllRight (ns : List Node) : Prop := ns.length = 4 ∧ ∀ (k : Nat) (n : Node), ns[k]? = some n → Right n ∧ n.Id = (k : Int) + 1
theorem AllRight.at {ns : List Node} (h : AllRight ns) {i : Int} (h0 : 0 ≤ i) (h1 : i < 4) : ∃ n, at? ns i = some n ∧ ns[i.toNat]? = some n ∧ Right n ∧ n.Id = i + 1 := by
 have hk : i.toNat < ns.length := by rw [h.1]; omega
 have e := at_lt (xs := ns) hk
 rw [Int.toNat_of_nonneg h0] at e
 have e2 : ns[i.toNat]? = some ns[i.toNat] := List.getElem?_eq_getElem hk
 obtain ⟨hr, hi⟩ := h.2 _ _ e2
 exact ⟨_, e, e2, hr, by rw [hi]; omega⟩
theorem AllRight.set {ns : List Node} (h : AllRight ns) {i : Int} (h0 : 0 ≤ i) (h1 : i < 4) {n : Node} (hr : Right n) (hi : n.Id = i + 1) : AllRight (ns.set i.toNat n) := by
 refine ⟨by rw [List.length_set]; exact h.1, fun k x hx => ?_⟩
 rw [List.getElem?_set] at hx
 split at hx
 ·rename_i e
  split at hx
  ·simp only [Option.some.injEq] at hx
   subst hx
   subst e
   exact ⟨hr, by rw [hi]; omega⟩
  ·cases hx
 ·exact h.2 k x hx
theorem take_ok2 (N : Nat) (hN : Big N) {ns : List Node} {net : List Message} (h : AllRight ns) (hl : net.length ≤ 24) (hn : ∀ m ∈ net, InNet m) {i : Int} (h0 : 0 ≤ i) (h1 : i < 4) {n : Node} (hr : Right n) (hi : n.Id = i + 1) {told : List Message} (ht : ∀ m ∈ told, InNet m) (htl : told.length ≤ 1000) :
  ∃ ns' net', spec_l16Take_i1 N ⟨ns, net⟩ i n told = some ⟨ns', net'⟩ ∧ AllRight ns' ∧ net'.length ≤ 24 ∧ ∀ m ∈ net', InNet m := by
 obtain ⟨x, e, _, _, _⟩ := h.at h0 h1
 obtain ⟨out, e2, hol, ho⟩ := take_l1 N hN told ht htl told.length N 0 net (by omega) (by have := hN; unfold Big at this; omega) hl hn
 unfold spec_l16Take_i1
 simp only
 rw [e, Option.bind_some, show (0 : Int) = ((0 : Nat) : Int) from rfl, e2, Option.bind_some]
 exact ⟨_, _, rfl, h.set h0 h1 hr hi, hol, ho⟩
theorem told_len_tick (n : Node) (l : Int) (h : Right n) : (tickN n l).2.1.length ≤ 1000 := by
 unfold tickN
 repeat' split
 all_goals try exact Nat.zero_le _
 ·simp only [List.length_map]
  have := h.plen
  omega
 ·rename_i h1 h2 h3 h4 h5 h6 h7
  have hl : 1 ≤ l ∧ l ≤ 20 := by simpa using h2
  have := (h.cand hl h3 h6).leadN.plen
  simp only [List.length_map]
  omega
 ·have h1 := others_len (confOf n) n.Id
  have h2 := confOk_len h.cof
  simp only [List.length_map]
  omega
theorem told_len_prop (n : Node) (k : Int) (t : ByteArray) (h : Right n) : (propN n k t).2.1.length ≤ 1000 := by
 unfold propN
 repeat' split
 all_goals try exact Nat.zero_le _
 simp only [List.length_map]
 have := (propA_small (n := n) (e := ⟨n.Term, k, t⟩) h.clen).2.2
 omega
theorem told_len_body (n : Node) (m : Message) (h : Right n) (hm : MsgRight m) : (recvBody n m).2.length ≤ 1000 := by
 unfold recvBody
 split
 ·exact Nat.le_of_ble_eq_true rfl
 split
 ·unfold tellVoteN
  repeat' split
  all_goals try exact Nat.zero_le _
  rename_i hr _
  have hr1 : n.Role = 1 := Decidable.not_not.1 hr
  have hw : Right (withVotes n (newVotes n m)) := ⟨h.id, h.conf, h.log, h.term, h.vote, h.lead, h.role, h.com, h.limit, h.clock, newVotes_rise n m, (fun e => absurd hr1 e), (fun e => by have e2 : n.Role = 2 := e; omega), h.alone⟩
  have := hw.leadN.plen
  simp only [List.length_map]
  omega
 split
 ·unfold askAppendN appN
  repeat' split
  all_goals exact Nat.le_of_ble_eq_true rfl
 split
 ·unfold replyN replyTo
  repeat' split
  all_goals first | exact Nat.zero_le _ | exact Nat.le_of_ble_eq_true rfl | (simp only; split <;> exact Nat.le_of_ble_eq_true rfl)
 ·unfold installN
  split <;> exact Nat.zero_le _
theorem told_len_recv (n : Node) (m : Message) : (recvN n m).2.1.length ≤ 1000 := by
 unfold recvN
 split
 ·exact Nat.zero_le _
 rename_i h1
 split
 ·exact Nat.zero_le _
 rename_i h2
 split
 ·exact Nat.zero_le _
 have hn := right_of (n := n) (by simpa using h1)
 have hm := msg_of (m := m) (by simpa using h2)
 exact told_len_body _ m (hn.stepUp hm) hm
theorem new_right {i : Int} {c : List Int} (hi : 1 ≤ i ∧ i ≤ 4) (hc : confOk c = true) {l : Int} (hl : 1 ≤ l ∧ l ≤ 20) : Right ⟨i, 0, 0, 0, 0, c, ⟨0, 0, []⟩, 0, 0, l, [], []⟩ :=
 ⟨hi, hc, rfl, (show (0 : Int) ≤ 0 ∧ (0 : Int) ≤ 100000 by omega), z4, z4, z2, (show (0 : Int) ≤ 0 ∧ (0 : Int) ≤ 0 by omega), hl, z20, rfl, (fun _ => rfl), (fun e => absurd (show (0 : Int) = 2 from e) (by decide)), (fun _ => rfl)⟩
theorem play_l1 (N : Nat) (hN : Big N) {b : List Int} (hl : b.length ≤ 1099511627776) (v : List Int × Int × Int × List Int) (hv : confOk v.2.2.2 = true) : ∀ (d f : Nat) (k : Nat) (c : Tl01Cur) (ns : List Node), k + d = 4 → d < f → CurOk b c → ns.length = k → (∀ (j : Nat) (n : Node), ns[j]? = some n → Right n ∧ n.Id = (j : Int) + 1) →
  ∃ c' out, spec_l16Play_l1 N v f ((k : Int) + 1) c.b c.i c.h ns = some (c'.b, c'.i, c'.h, out) ∧ CurOk b c' ∧ AllRight out := by
 intro d
 induction d with
 | zero =>
  intro f k c ns hd hf hc hn hr
  obtain ⟨f, rfl⟩ : ∃ q, f = q + 1 := ⟨f - 1, by omega⟩
  rw [spec_l16Play_l1, if_neg (by simp; omega)]
  exact ⟨c, ns, rfl, hc, by omega, hr⟩
 | succ d ih =>
  intro f k c ns hd hf hc hn hr
  obtain ⟨f, rfl⟩ : ∃ q, f = q + 1 := ⟨f - 1, by omega⟩
  have hcl := confOk_len hv
  have h20 := new_right (i := (k : Int) + 1) (c := v.2.2.2) (by omega) hv (l := 20) (by omega)
  have hnew : nodeNew ((k : Int) + 1) v.2.2.2 = (newNode ((k : Int) + 1) v.2.2.2, true) := if_pos h20.ok
  obtain ⟨r, c', e, l, u, hc'⟩ := below_cur N hl hc 4
  have u' := u (by decide)
  rw [spec_l16Play_l1, if_pos (by simp; omega), new_spec N hN _ _ (by omega), Option.bind_some, hnew, show (Tl01Cur.mk c.b c.i c.h) = c from rfl, e, Option.bind_some, cat_ok (by simp; omega), Option.bind_some, w64_id (n := 1 + r) (by omega) (by omega), w64_id (n := (k : Int) + 1 + 1) (by omega) (by omega), show (k : Int) + 1 + 1 = ((k + 1 : Nat) : Int) + 1 by omega]
  refine ih f (k + 1) c' _ (by omega) (by omega) hc' (by simp; omega) (fun j n hj => ?_)
  by_cases hjk : j < ns.length
  ·rw [List.getElem?_append_left hjk] at hj
   exact hr j n hj
  ·rw [List.getElem?_append_right (by omega)] at hj
   have hj0 : j - ns.length = 0 := by
    have := (List.getElem?_eq_some_iff.1 hj).1
    simp only [List.length_cons, List.length_nil] at this
    omega
   rw [hj0] at hj
   simp only [List.getElem?_cons_zero, Option.some.injEq] at hj
   subst hj
   exact ⟨new_right (i := (k : Int) + 1) (l := 1 + r) (by omega) hv (by omega), by show (k : Int) + 1 = (j : Int) + 1; omega⟩
theorem play_l3 (N : Nat) {ns : List Node} (h : AllRight ns) : ∀ (d f : Nat) (k : Nat) (acc : Int), k + d = 4 → d < f → 0 ≤ acc → acc < 4 → ∃ v, spec_l16Play_l3 N ns f acc (k : Int) = some v ∧ 0 ≤ v ∧ v < 4 := by
 intro d
 induction d with
 | zero =>
  intro f k acc hd hf h0 h1
  obtain ⟨f, rfl⟩ : ∃ q, f = q + 1 := ⟨f - 1, by omega⟩
  rw [spec_l16Play_l3, if_neg (by simp; omega)]
  exact ⟨acc, rfl, h0, h1⟩
 | succ d ih =>
  intro f k acc hd hf h0 h1
  obtain ⟨f, rfl⟩ : ∃ q, f = q + 1 := ⟨f - 1, by omega⟩
  obtain ⟨n, e, _, _, _⟩ := h.at (i := (k : Int)) (by omega) (by omega)
  rw [spec_l16Play_l3, if_pos (by simp; omega)]
  simp only [joinP]
  rw [e, Option.bind_some, w64_succ (by omega)]
  by_cases hr : n.Role = 2
  ·rw [if_pos (by simpa using hr)]
   exact ih f (k + 1) (k : Int) (by omega) (by omega) (by omega) (by omega)
  ·rw [if_neg (by simpa using hr)]
   exact ih f (k + 1) acc (by omega) (by omega) h0 h1
theorem inNet {n : Node} {ms : List Message} (h : ∀ m ∈ ms, Told n m) : ∀ m ∈ ms, InNet m := fun m hm => h m hm
def PlayR (b : List Int) (r : Option (List Int × Int × Int × List Node × List Message)) : Prop := ∃ c' ns' net', r = some (c'.b, c'.i, c'.h, ns', net') ∧ CurOk b c' ∧ AllRight ns' ∧ net'.length ≤ 24 ∧ ∀ m ∈ net', InNet m
theorem play_l2 (N : Nat) (hN : Big N) {b : List Int} (hl : b.length ≤ 1099511627776) (x : Int) (hx : x ≤ 1000) : ∀ (d f : Nat) (i : Int) (c : Tl01Cur) (ns : List Node) (net : List Message), x ≤ i + d → 0 ≤ i → i ≤ 1000 → d < f → CurOk b c → AllRight ns → net.length ≤ 24 → (∀ m ∈ net, InNet m) →
  PlayR b (spec_l16Play_l2 N x f i c.b c.i c.h ns net) := by
 intro d
 induction d with
 | zero =>
  intro f i c ns net hd h0 h1 hf hc hr hnl hn
  obtain ⟨f, rfl⟩ : ∃ q, f = q + 1 := ⟨f - 1, by omega⟩
  rw [spec_l16Play_l2, if_neg (by simp; omega)]
  exact ⟨c, ns, net, rfl, hc, hr, hnl, hn⟩
 | succ d ih =>
  intro f i c ns net hd h0 h1 hf hc hr hnl hn
  obtain ⟨f, rfl⟩ : ∃ q, f = q + 1 := ⟨f - 1, by omega⟩
  rw [spec_l16Play_l2]
  by_cases hle : x ≤ i
  ·rw [if_neg (by simp; omega)]
   exact ⟨c, ns, net, rfl, hc, hr, hnl, hn⟩
  rw [if_pos (by simp; omega)]
  simp only [joinP]
  rw [w64_id (n := i + 1) (by omega) (by omega)]
  have next : ∀ (c' : Tl01Cur) (ns' : List Node) (net' : List Message), CurOk b c' → AllRight ns' → net'.length ≤ 24 → (∀ m ∈ net', InNet m) → PlayR b (spec_l16Play_l2 N x f (i + 1) c'.b c'.i c'.h ns' net') := fun c' ns' net' a1 a2 a3 a4 => ih f (i + 1) c' ns' net' (by omega) (by omega) (by omega) (by omega) a1 a2 a3 a4
  obtain ⟨r1, c1, e1, l1, u1, hc1⟩ := below_cur N hl hc 4
  have u1' := u1 (by decide)
  obtain ⟨r2, c2, e2, l2, u2, hc2⟩ := below_cur N hl hc1 9
  rw [show (Tl01Cur.mk c.b c.i c.h) = c from rfl, e1, Option.bind_some, e2, Option.bind_some]
  simp only
  obtain ⟨n, en, en2, hrn, hid⟩ := hr.at l1 u1'
  have htn := hrn.tot
  have tick : PlayR b ((spec_l01Below N c2 (6 : Int)).bind fun y => (spec_Tick N n (w64 ((1 : Int) + y.1))).bind fun z =>
    if z.2.2 = true then (spec_l16Take_i1 N (Tl16Cluster.mk ns net) r1 z.1 z.2.1).bind fun w => spec_l16Play_l2 N x f (i + 1) y.2.b y.2.i y.2.h w.nodes w.net
    else spec_l16Play_l2 N x f (i + 1) y.2.b y.2.i y.2.h ns net) := by
   obtain ⟨r3, c3, e3, l3, u3, hc3⟩ := below_cur N hl hc2 6
   have u3' := u3 (by decide)
   rw [e3, Option.bind_some]
   simp only
   rw [w64_id (n := 1 + r3) (by omega) (by omega), tick_spec N hN n (1 + r3) (by omega), Option.bind_some]
   by_cases hok : (tickN n (1 + r3)).2.2 = true
   ·obtain ⟨q1, q2, q3⟩ := tick_right hrn hok
    obtain ⟨ns', net', et, t1, t2, t3⟩ := take_ok2 N hN hr hnl hn l1 u1' q1 (q2.trans hid) (inNet q3) (told_len_tick n _ hrn)
    rw [if_pos hok, et, Option.bind_some]
    exact next c3 ns' net' hc3 t1 t2 t3
   ·rw [if_neg hok]
    exact next c3 ns net hc3 hr hnl hn
  by_cases k0 : r2 = 0
  ·rw [if_pos (by simpa using k0), en, Option.bind_some]
   exact tick
  rw [if_neg (by simpa using k0)]
  by_cases k1 : r2 = 1
  ·rw [if_pos (by simpa using k1), en, Option.bind_some]
   exact tick
  rw [if_neg (by simpa using k1)]
  by_cases k2 : r2 = 2
  ·rw [if_pos (by simpa using k2)]
   obtain ⟨v, ev, v0, v1⟩ := play_l3 N hr 4 N 0 r1 (by decide) (by have := hN; unfold Big at this; omega) l1 u1'
   obtain ⟨n2, en2', _, hrn2, hid2⟩ := hr.at v0 v1
   have htn2 := hrn2.tot
   obtain ⟨e, c3, e3, hd3, hc3⟩ := l11Right_cur N hN hl hc2 n2.Term
   have ev' : spec_l16Play_l3 N ns N r1 (0 : Int) = some v := ev
   rw [ev', Option.bind_some, en2', Option.bind_some, e3, Option.bind_some, Option.bind_some]
   simp only
   rw [propose_spec N hN n2 e.Kind e.Data (by omega) (by omega), Option.bind_some]
   by_cases hok : (propN n2 e.Kind e.Data).2.2.2 = true
   ·obtain ⟨q1, q2, q3⟩ := propose_right hrn2 hok
    obtain ⟨ns', net', et, t1, t2, t3⟩ := take_ok2 N hN hr hnl hn v0 v1 q1 (q2.trans hid2) (inNet q3) (told_len_prop n2 _ _ hrn2)
    rw [if_pos hok, et, Option.bind_some]
    exact next c3 ns' net' hc3 t1 t2 t3
   ·rw [if_neg hok]
    exact next c3 ns net hc3 hr hnl hn
  rw [if_neg (by simpa using k2)]
  by_cases k3 : r2 = 3
  ·rw [if_pos (by simpa using k3)]
   obtain ⟨q, c3, e3, hc3⟩ := once_cur N hl hc2 3
   rw [e3, Option.bind_some]
   cases q with
   | true =>
    rw [if_pos rfl, en, Option.bind_some, Option.bind_some]
    obtain ⟨r4, c4, e4, l4, u4, hc4⟩ := below_cur N hl hc3 2
    have u4' := u4 (by decide)
    simp only
    rw [e4, Option.bind_some]
    simp only
    have hco := hrn.com
    have hen := hrn.end_in
    have hst := (logOk_at hrn.log).1
    rw [w64_id (n := n.Commit - r4) (by omega) (by omega), settle_spec N hN n _ (by omega) (wi_of (by omega) (by omega)), Option.bind_some]
    by_cases hok : (settle n (n.Commit - r4)).2 = true
    ·rw [if_pos hok, Option.bind_some]
     have hin : n.Log.Start ≤ n.Commit - r4 ∧ n.Commit - r4 ≤ n.Commit := by
      by_cases hx2 : n.Log.Start ≤ n.Commit - r4 ∧ n.Commit - r4 ≤ n.Commit
      ·exact hx2
      ·unfold settle at hok
       rw [if_neg (by simp [hx2])] at hok
       cases hok
     obtain ⟨_, q1, q2, _⟩ := settle_right hrn hin
     exact next c4 _ net hc4 (hr.set l1 u1' q1 (q2.trans hid)) hnl hn
    ·rw [if_neg hok]
     exact next c4 ns net hc4 hr hnl hn
   | false =>
    rw [if_neg (by simp)]
    exact next c3 ns net hc3 hr hnl hn
  rw [if_neg (by simpa using k3)]
  by_cases kn : net.length > 0
  ·rw [if_pos (by simp; omega)]
   obtain ⟨r3, c3, e3, l3, u3, hc3⟩ := below_cur N hl hc2 (net.length : Int)
   have u3' := u3 (by omega)
   have hk : r3.toNat < net.length := by omega
   have em : at? net r3 = some net[r3.toNat] := by
    have := at_lt (xs := net) hk
    rwa [Int.toNat_of_nonneg l3] at this
   rw [e3, Option.bind_some]
   simp only
   rw [em, Option.bind_some]
   obtain ⟨hto, htm⟩ := hn _ (List.getElem_mem hk)
   generalize net[r3.toNat] = m at hto htm
   obtain ⟨n2, en2', _, hrn2, hid2⟩ := hr.at (i := m.To - 1) (by omega) (by omega)
   have htn2 := hrn2.tot
   have rcv : ∀ (c' : Tl01Cur) (net2 : List Message), CurOk b c' → net2.length ≤ 24 → (∀ m ∈ net2, InNet m) → PlayR b ((at? ns (w64 (m.To - (1 : Int)))).bind fun y => (spec_Receive N y m).bind fun z =>
     if z.2.2 = true then (spec_l16Take_i1 N (Tl16Cluster.mk ns net2) (w64 (m.To - (1 : Int))) z.1 z.2.1).bind fun w => spec_l16Play_l2 N x f (i + 1) c'.b c'.i c'.h w.nodes w.net
     else spec_l16Play_l2 N x f (i + 1) c'.b c'.i c'.h ns net2) := by
    intro c' net2 hc' hnl2 hn2
    rw [w64_id (n := m.To - 1) (by omega) (by omega), en2', Option.bind_some, receive_spec N hN n2 m (by omega) (by omega), Option.bind_some]
    by_cases hok : (recvN n2 m).2.2 = true
    ·obtain ⟨_, _, _, q1, q2, q3⟩ := recv_right hok
     obtain ⟨ns', net', et, t1, t2, t3⟩ := take_ok2 N hN hr hnl2 hn2 (i := m.To - 1) (by omega) (by omega) q1 (q2.trans hid2) (inNet q3) (told_len_recv n2 m)
     rw [if_pos hok, et, Option.bind_some]
     exact next c' ns' net' hc' t1 t2 t3
    ·rw [if_neg hok]
     exact next c' ns net2 hc' hr hnl2 hn2
   obtain ⟨q, c4, e4, hc4⟩ := once_cur N hl hc3 8
   rw [e4, Option.bind_some]
   cases q with
   | true =>
    rw [if_neg (by simp)]
    exact rcv c4 net hc4 hnl hn
   | false =>
    have htk : take? net r3 = some (net.take r3.toNat) := by
     unfold take?
     rw [if_pos (by omega)]
    have hdr : drop? net (r3 + 1) = some (net.drop (r3 + 1).toNat) := by
     unfold drop?
     rw [if_pos (by omega)]
    rw [if_pos (by simp), htk, Option.bind_some, cat_ok (by simp; omega), Option.bind_some, w64_id (n := r3 + 1) (by omega) (by omega), hdr, Option.bind_some, cat_ok (by simp only [List.nil_append, List.length_take, List.length_drop]; omega), Option.bind_some]
    refine rcv c4 _ hc4 ?_ (fun z hz => ?_)
    ·simp only [List.nil_append, List.length_append, List.length_take, List.length_drop]
     omega
    ·rcases List.mem_append.1 hz with hz | hz
     ·exact hn z (List.mem_of_mem_take (by simpa using hz))
     ·exact hn z (List.mem_of_mem_drop (List.mem_of_mem_take hz))
  ·rw [if_neg (show ¬ (decide (((net.length : Nat) : Int) > (0 : Int)) = true) by rw [decide_eq_true_eq]; omega)]
   exact next c2 ns net hc2 hr hnl hn
theorem play_ok (N : Nat) (hN : Big N) {b : List Int} (hl : b.length ≤ 1099511627776) {c : Tl01Cur} (h : CurOk b c) (x : Int) (hx : x ≤ 1000) : ∃ ns net c', spec_l16Play N c x = some (⟨ns, net⟩, c') ∧ CurOk b c' ∧ AllRight ns ∧ net.length ≤ 24 ∧ ∀ m ∈ net, InNet m := by
 have key : ∀ (c1 : Tl01Cur) (cf : List Int), CurOk b c1 → confOk cf = true → ∃ ns net c', ((spec_l16Play_l1 N (c1.b, c1.i, c1.h, cf) N (1 : Int) c1.b c1.i c1.h ([] : (List Node))).bind fun v_1827 =>
   (spec_l16Play_l2 N x N (0 : Int) v_1827.1 v_1827.2.1 v_1827.2.2.1 v_1827.2.2.2 ([] : (List Message))).bind fun v_2987 =>
   some ((Tl16Cluster.mk v_2987.2.2.2.1 v_2987.2.2.2.2), (Tl01Cur.mk v_2987.1 v_2987.2.1 v_2987.2.2.1))) = some (⟨ns, net⟩, c') ∧ CurOk b c' ∧ AllRight ns ∧ net.length ≤ 24 ∧ ∀ m ∈ net, InNet m := by
  intro c1 cf hc hcf
  obtain ⟨c2, ns, e1, hc2, hr⟩ := play_l1 N hN hl (c1.b, c1.i, c1.h, cf) hcf 4 N 0 c1 [] (by decide) (by have := hN; unfold Big at this; omega) hc rfl (fun j n hj => by simp at hj)
  obtain ⟨c3, ns', net', e2, hc3, hr3, hl3, hn3⟩ := play_l2 N hN hl x hx x.toNat N 0 c2 ns [] (by omega) (by omega) (by omega) (by have := hN; unfold Big at this; omega) hc2 hr (Nat.zero_le _) (fun m hm => by cases hm)
  have e1' : spec_l16Play_l1 N (c1.b, c1.i, c1.h, cf) N (1 : Int) c1.b c1.i c1.h ([] : (List Node)) = some (c2.b, c2.i, c2.h, ns) := e1
  rw [e1', Option.bind_some]
  simp only
  rw [e2, Option.bind_some]
  exact ⟨ns', net', c3, rfl, hc3, hr3, hl3, hn3⟩
 obtain ⟨q, c1, e, hc1⟩ := once_cur N hl h 3
 unfold spec_l16Play
 simp only [joinP]
 rw [e, Option.bind_some]
 cases q with
 | true =>
  obtain ⟨cf, c2, e2, hcf, hc2⟩ := conf_cur N hN hl hc1
  rw [if_pos rfl]
  simp only
  rw [e2, Option.bind_some]
  exact key c2 cf hc2 hcf
 | false =>
  rw [if_neg (by simp)]
  exact key c1 [1, 2, 3] hc1 (by decide)
theorem text_l1 (N : Nat) {b : List Int} (hl : b.length ≤ 1099511627776) (v : Int) (hv : v ≤ 100000) : ∀ (d f : Nat) (i : Int) (c : Tl01Cur) (acc : List Int), v ≤ i + d → 0 ≤ i → i ≤ 100000 → d < f → acc.length + d ≤ 200000 → CurOk b c → ∃ c' out, spec_l01Text_l1 N v f i c.b c.i c.h acc = some (c'.b, c'.i, c'.h, out) ∧ CurOk b c' ∧ out.length ≤ acc.length + d := by
 intro d
 induction d with
 | zero =>
  intro f i c acc hd h0 h1 hf ha hc
  obtain ⟨f, rfl⟩ : ∃ q, f = q + 1 := ⟨f - 1, by omega⟩
  rw [spec_l01Text_l1, if_neg (by simp; omega)]
  exact ⟨c, acc, rfl, hc, by omega⟩
 | succ d ih =>
  intro f i c acc hd h0 h1 hf ha hc
  obtain ⟨f, rfl⟩ : ∃ q, f = q + 1 := ⟨f - 1, by omega⟩
  rw [spec_l01Text_l1]
  by_cases hle : v ≤ i
  ·rw [if_neg (by simp; omega)]
   exact ⟨c, acc, rfl, hc, by omega⟩
  obtain ⟨r, c', e, _, _, hb, hi⟩ := byte_ok N c hc.2 (by rw [hc.1]; exact hl)
  rw [if_pos (by simp; omega), show (Tl01Cur.mk c.b c.i c.h) = c from rfl, e, Option.bind_some, cat_ok (by simp; omega), Option.bind_some, w64_id (n := i + 1) (by omega) (by omega)]
  obtain ⟨c2, out, e2, hc2, ho⟩ := ih f (i + 1) c' (acc ++ [IntKind.wrap .u8 r]) (by omega) (by omega) (by omega) (by omega) (by simp; omega) ⟨hb.trans hc.1, hi⟩
  refine ⟨c2, out, e2, hc2, ?_⟩
  simp only [List.length_append, List.length_cons, List.length_nil] at ho
  omega
theorem text_cur (N : Nat) (hN : Big N) {b : List Int} (hl : b.length ≤ 1099511627776) {c : Tl01Cur} (h : CurOk b c) (k : Int) (h0 : 0 ≤ k) : ∃ t c', spec_l01Text N c k = some (t, c') ∧ t.size ≤ 5000 ∧ CurOk b c' := by
 have key : ∀ v : Int, 0 ≤ v → v ≤ 5000 → ∃ t c', ((spec_l01Text_l1 N v N (0 : Int) c.b c.i c.h ([] : List Int)).bind fun w => some (strOf w.2.2.2, (Tl01Cur.mk w.1 w.2.1 w.2.2.1))) = some (t, c') ∧ t.size ≤ 5000 ∧ CurOk b c' := by
  intro v hv0 hv1
  obtain ⟨c', out, e, hc, ho⟩ := text_l1 N hl v (by omega) v.toNat N 0 c [] (by omega) (by omega) (by omega) (by have := hN; unfold Big at this; omega) (by simp; omega) h
  rw [e, Option.bind_some]
  refine ⟨_, _, rfl, ?_, hc⟩
  rw [strOf_size]
  simp only [List.length_nil] at ho
  simp only
  omega
 unfold spec_l01Text
 simp only [joinP]
 by_cases hk : k > 5000
 ·rw [if_pos (by simpa using hk)]
  exact key 5000 (by omega) (by omega)
 ·rw [if_neg (by simpa using hk)]
  exact key k h0 (by omega)
theorem right_l1 (N : Nat) (hN : Big N) {b : List Int} (hl : b.length ≤ 1099511627776) (y : Int × Tl01Cur) : ∀ (d f : Nat) (t i : Int) (c : Tl01Cur) (es : List Entry), i + d = 5 → 0 ≤ i → d + 1 < f → CurOk b c → es.length ≤ i → (∀ e ∈ es, e.Data.size ≤ 1000) →
  ∃ c' out, spec_l14Right_l1 N y f t i c.b c.i c.h es = some (c'.b, c'.i, c'.h, out) ∧ CurOk b c' ∧ out.length ≤ 5 ∧ ∀ e ∈ out, e.Data.size ≤ 1000 := by
 intro d
 induction d with
 | zero =>
  intro f t i c es hd h0 hf hc he hs
  obtain ⟨f, rfl⟩ : ∃ q, f = q + 1 := ⟨f - 1, by omega⟩
  obtain ⟨r, c1, e1, l1, u1, hc1⟩ := below_cur N hl hc 5
  have u1' := u1 (by decide)
  rw [spec_l14Right_l1, show (Tl01Cur.mk c.b c.i c.h) = c from rfl, e1, Option.bind_some, if_neg (by simp; omega)]
  exact ⟨c1, es, rfl, hc1, by omega, hs⟩
 | succ d ih =>
  intro f t i c es hd h0 hf hc he hs
  obtain ⟨f, rfl⟩ : ∃ q, f = q + 1 := ⟨f - 1, by omega⟩
  obtain ⟨r, c1, e1, l1, u1, hc1⟩ := below_cur N hl hc 5
  have u1' := u1 (by decide)
  rw [spec_l14Right_l1, show (Tl01Cur.mk c.b c.i c.h) = c from rfl, e1, Option.bind_some]
  by_cases hi : i < r
  ·rw [if_pos (by simpa using hi)]
   obtain ⟨r2, c2, e2, _, _, hc2⟩ := below_cur N hl hc1 (w64 (w64 (y.1 - t) + 1))
   obtain ⟨e, c3, e3, hd3, hc3⟩ := l11Right_cur N hN hl hc2 (w64 (t + r2))
   simp only [e2, e3, Option.bind_some]
   rw [cat_ok (by simp; omega), Option.bind_some, w64_id (n := i + 1) (by omega) (by omega)]
   refine ih f _ (i + 1) c3 (es ++ [e]) (by omega) (by omega) (by omega) hc3 (by simp; omega) (fun z hz => ?_)
   rcases List.mem_append.1 hz with hz | hz
   ·exact hs z hz
   ·simp only [List.mem_singleton] at hz
    subst hz
    exact hd3
  ·rw [if_neg (by simpa using hi)]
   exact ⟨c1, es, rfl, hc1, by omega, hs⟩
def MsgSmall (m : Message) : Prop := m.Entries.length ≤ 5 ∧ (∀ e ∈ m.Entries, e.Data.size ≤ 1000) ∧ m.Conf.length ≤ 4 ∧ m.Data.size ≤ 5000
theorem small_tot {m : Message} (h : MsgSmall m) : totMessage m ≤ 20000 := by
 obtain ⟨h1, h2, h3, h4⟩ := h
 have h5 := sum_le (f := totEntry) (B := 1000) (xs := m.Entries) h2
 have h6 := sum0 (f := fun _ : Int => 0) (fun _ => rfl) m.Conf
 simp only [totMessage, totL]
 omega
theorem l14Right_cur (N : Nat) (hN : Big N) {b : List Int} (hl : b.length ≤ 1099511627776) {c : Tl01Cur} (h : CurOk b c) : ∃ m c', spec_l14Right N c = some (m, c') ∧ MsgSmall m ∧ CurOk b c' := by
 obtain ⟨r1, c1, e1, l1, u1, h1⟩ := below_cur N hl h 6
 obtain ⟨r2, c2, e2, l2, u2, h2⟩ := below_cur N hl h1 4
 obtain ⟨r3, c3, e3, l3, u3, h3⟩ := below_cur N hl h2 8
 obtain ⟨r4, c4, e4, l4, u4, h4⟩ := below_cur N hl h3 12
 obtain ⟨r5, c5, e5, l5, u5, h5⟩ := below_cur N hl h4 5
 obtain ⟨r6, c6, e6, l6, u6, h6⟩ := below_cur N hl h5 9
 obtain ⟨q7, c7, e7, h7⟩ := once_cur N hl h6 2
 have u1' := u1 (by decide)
 have u2' := u2 (by decide)
 have u3' := u3 (by decide)
 unfold spec_l14Right
 simp only [e1, e2, e3, e4, e5, e6, e7, Option.bind_some, joinP]
 rw [w64_id (n := 1 + r2) (by omega) (by omega)]
 obtain ⟨r8, e8, l8, u8⟩ := rem_lo (1 + r2) (by omega) 4 (by decide)
 rw [e8, Option.bind_some, w64_id (n := 1 + r1) (by omega) (by omega)]
 by_cases k3 : 1 + r1 = 3
 ·rw [if_pos (by simpa using k3), w64_id (n := r3 + 1) (by omega) (by omega)]
  obtain ⟨r9, c9, e9, l9, u9, h9⟩ := below_cur N hl h7 (r3 + 1)
  rw [e9, Option.bind_some]
  obtain ⟨c10, out, e10, h10, ho, hs⟩ := right_l1 N hN hl (r3, c3) 5 N r9 0 c9 [] (by decide) (by decide) (by have := hN; unfold Big at this; omega) h9 (by simp) (fun e he => by cases he)
  simp only
  rw [e10, Option.bind_some]
  exact ⟨_, _, rfl, ⟨ho, hs, Nat.zero_le _, Nat.zero_le _⟩, h10⟩
 rw [if_neg (by simpa using k3)]
 by_cases k5 : 1 + r1 = 5
 ·rw [if_pos (by simpa using k5)]
  obtain ⟨cf, c8, e9, hcf, h8⟩ := conf_cur N hN hl h7
  obtain ⟨r9, c9, e10, l9, u9, h9⟩ := below_cur N hl h8 9
  obtain ⟨t, c10, e11, ht, h10⟩ := text_cur N hN hl h9 r9 l9
  obtain ⟨q, c11, e12, h11⟩ := once_cur N hl h10 2
  simp only [e9, e10, e11, e12, Option.bind_some]
  exact ⟨_, _, rfl, ⟨Nat.zero_le _, (fun e he => by cases he), (confOk_len hcf).2, ht⟩, h11⟩
 ·rw [if_neg (by simpa using k5)]
  exact ⟨_, _, rfl, ⟨Nat.zero_le _, (fun e he => by cases he), Nat.zero_le _, Nat.zero_le _⟩, h7⟩
theorem steps_ok (N : Nat) (b : List Int) (hl : b.length ≤ 1099511627) : ∃ x, spec_l16Steps N b = some x ∧ x ≤ 70 := by
 have hq : ∃ q, intD .quo .i64 (b.length : Int) (4 : Int) = some q := by
  unfold intD
  simp only
  rw [if_neg (by decide)]
  exact ⟨_, rfl⟩
 obtain ⟨q, e⟩ := hq
 unfold spec_l16Steps
 rw [e, Option.bind_some]
 by_cases h : w64 (10 + q) > 70
 ·rw [if_pos (by simpa using h)]
  exact ⟨70, rfl, Int.le_refl _⟩
 ·rw [if_neg (by simpa using h)]
  exact ⟨_, rfl, by omega⟩
theorem drawNode_ok (N : Nat) (hN : Big N) (b : List Int) (hl : b.length ≤ 1099511627) : ∃ n m, spec_DrawRightNode N b = some (n, m) ∧ Right n ∧ m.To = n.Id ∧ totMessage m ≤ 20000 := by
 obtain ⟨hh, e1⟩ := new_ok N hN b hl
 obtain ⟨x, e2, hx⟩ := steps_ok N b hl
 have h1 : CurOk b ⟨b, 0, hh⟩ := ⟨rfl, Int.le_refl _⟩
 have hl2 : b.length ≤ 1099511627776 := by omega
 obtain ⟨ns, net, c2, e3, h2, hr, hnl, hn⟩ := play_ok N hN hl2 h1 x (by omega)
 obtain ⟨r3, c3, e4, l3, u3, h3⟩ := below_cur N hl2 h2 4
 have u3' := u3 (by decide)
 obtain ⟨m4, c4, e5, hm4, h4⟩ := l14Right_cur N hN hl2 h3
 unfold spec_DrawRightNode
 simp only [e1, e2, e3, e4, e5, Option.bind_some, joinP]
 have key : ∀ (at_ : Int) (k f T i lt cm : Int) (ok : Bool) (es : List Entry) (cf : List Int) (dt : ByteArray) (ls : Bool), 0 ≤ at_ → at_ < 4 → (∀ fr to, totMessage ⟨k, fr, to, T, i, lt, cm, ok, es, cf, dt, ls⟩ ≤ 20000) →
   ∃ n m, (if (f == (w64 (at_ + (1 : Int)))) = true then (intD .rem .i64 (w64 (at_ + (1 : Int))) (4 : Int)).bind fun x_209 => (at? ns at_).bind fun x_211 => some (x_211, (Message.mk k (w64 (x_209 + (1 : Int))) (w64 (at_ + (1 : Int))) T i lt cm ok es cf dt ls))
    else (at? ns at_).bind fun x_211 => some (x_211, (Message.mk k f (w64 (at_ + (1 : Int))) T i lt cm ok es cf dt ls))) = some (n, m) ∧ Right n ∧ m.To = n.Id ∧ totMessage m ≤ 20000 := by
  intro at_ k f T i lt cm ok es cf dt ls h0 h9 ht
  obtain ⟨n, en, _, hrn, hid⟩ := hr.at h0 h9
  rw [w64_id (n := at_ + 1) (by omega) (by omega), en]
  by_cases hf : f = at_ + 1
  ·obtain ⟨r, er, _, _⟩ := rem_lo (at_ + 1) (by omega) 4 (by decide)
   rw [if_pos (by simpa using hf), er, Option.bind_some, Option.bind_some]
   exact ⟨_, _, rfl, hrn, hid.symm, ht _ _⟩
  ·rw [if_neg (by simpa using hf), Option.bind_some]
   exact ⟨_, _, rfl, hrn, hid.symm, ht _ _⟩
 have hm4' : ∀ fr to, totMessage ⟨m4.Kind, fr, to, m4.Term, m4.Index, m4.LogTerm, m4.Commit, m4.Ok, m4.Entries, m4.Conf, m4.Data, m4.Last⟩ ≤ 20000 := fun fr to => small_tot hm4
 by_cases kn : net.length > 0
 ·rw [if_pos (by simp; omega)]
  obtain ⟨q, c5, e6, h5⟩ := once_cur N hl2 h4 3
  rw [e6, Option.bind_some]
  cases q with
  | true =>
   rw [if_neg (by simp)]
   exact key r3 m4.Kind m4.From m4.Term m4.Index m4.LogTerm m4.Commit m4.Ok m4.Entries m4.Conf m4.Data m4.Last l3 u3' hm4'
  | false =>
   obtain ⟨r7, c7, e7, l7, u7, h7⟩ := below_cur N hl2 h5 (net.length : Int)
   have u7' := u7 (by omega)
   have hk : r7.toNat < net.length := by omega
   have em : at? net r7 = some net[r7.toNat] := by
    have := at_lt (xs := net) hk
    rwa [Int.toNat_of_nonneg l7] at this
   rw [if_pos (by simp), e7, Option.bind_some]
   simp only
   rw [em, Option.bind_some]
   obtain ⟨hto, htm⟩ := hn _ (List.getElem_mem hk)
   generalize net[r7.toNat] = m at hto htm
   rw [w64_id (n := m.To - 1) (by omega) (by omega)]
   exact key (m.To - 1) m.Kind m.From m.Term m.Index m.LogTerm m.Commit m.Ok m.Entries m.Conf m.Data m.Last (by omega) (by omega) (fun fr to => htm)
 ·rw [if_neg (show ¬ (decide (((net.length : Nat) : Int) > (0 : Int)) = true) by rw [decide_eq_true_eq]; omega)]
  exact key r3 m4.Kind m4.From m4.Term m4.Index m4.LogTerm m4.Commit m4.Ok m4.Entries m4.Conf m4.Data m4.Last l3 u3' hm4'
theorem same_r (N : Nat) (c : List Int) (hc : c.length ≤ 1099511627776) : ∀ (d k : Nat), c.length = k + d → laws_sameInts_l1_r N c c (c.drop k) (k : Int) = some (.inr ())
 | 0, k, h => by rw [List.drop_eq_nil_of_le (by omega), laws_sameInts_l1_r]
 | d + 1, k, h => by
  have hk : k < c.length := by omega
  rw [List.drop_eq_getElem_cons hk, laws_sameInts_l1_r, Option.bind_some, at_lt hk, Option.bind_some, if_neg (by simp), w64_succ (by omega)]
  exact same_r N c hc d (k + 1) (by omega)
theorem same_ok (N : Nat) (hN : Big N) (c : List Int) (hc : c.length ≤ 1099511627) : laws_sameInts N c c = some true := by
 have h := same_r N c (by omega) c.length 0 (by omega)
 unfold laws_sameInts
 simp only [joinP]
 rw [if_neg (by simp), laws_sameInts_l1_eq c c (by omega) (by have := hN; unfold Big at this; omega)]
 rw [List.drop_zero] at h
 have h' : laws_sameInts_l1_r N c c c (0 : Int) = some (.inr ()) := h
 rw [h']
 rfl
theorem holds (x0 : (List Int)) (w0 : x0.length ≤ maxLen ∧ ∀ y ∈ x0, WI .u8 y) : ∃ N, laws_FnSettles N x0 = some true := by
 obtain ⟨N, hN⟩ : ∃ N, Big N := ⟨1099511627777, by decide⟩
 refine ⟨N, ?_⟩
 unfold laws_FnSettles laws_big
 rw [Option.bind_some]
 by_cases hb : (x0.length : Int) > 1048576
 ·rw [if_pos (by simpa using hb)]
 rw [if_neg (by simpa using hb)]
 obtain ⟨n, m, e1, hr, _, _⟩ := drawNode_ok N hN x0 (by omega)
 obtain ⟨out, e2, ho, hy⟩ := places_ok N hN x0 (by omega)
 have hk : 1 < out.length := by omega
 have h1 := hy out[1] (List.getElem_mem hk)
 have e3 : at? out (1 : Int) = some out[1] := at_lt (xs := out) hk
 have hco := hr.com
 have hst := (logOk_at hr.log).1
 have hend := hr.end_in
 have htn := hr.tot
 obtain ⟨r, e4, lr, ur⟩ := rem_lo out[1] h1.1 (n.Commit - n.Log.Start + 1) (by omega)
 rw [e1, Option.bind_some, e2, Option.bind_some, e3, Option.bind_some]
 simp only
 rw [w64_id (n := n.Commit - n.Log.Start) (by omega) (by omega), w64_id (n := n.Commit - n.Log.Start + 1) (by omega) (by omega), e4, Option.bind_some, w64_id (n := n.Log.Start + r) (by omega) (by omega), w64_id (n := n.Commit + 1) (by omega) (by omega)]
 obtain ⟨q1, q2, q3, q4, q5, q6, q7, q8, q9⟩ := settle_right hr (i := n.Log.Start + r) (by omega)
 have hw : (settle n (n.Commit + 1)).2 = false := by
  unfold settle
  rw [if_neg (by simp; intro _ _; omega)]
 have hts := q2.tot
 have hc1 := confAt_len (n := n) (i := n.Log.Start + r)
 have hc2 := confOk_len hr.cof
 have hcl := hr.clen
 rw [settle_impl N hN n (n.Log.Start + r) (by omega) (wi_of (by omega) (by omega)), Option.bind_some, logLast_spec N hr.log, Option.bind_some, logLast_spec N q2.log, Option.bind_some, settle_impl N hN n (n.Commit + 1) (by omega) (wi_of (by omega) (by omega)), Option.bind_some, hw, if_pos q1, if_pos (show (!false) = true from rfl), nodeOk_impl N hN _ (by omega), q2.ok, Option.bind_some, if_pos rfl]
 rw [if_pos (show ((settle n (n.Log.Start + r)).1.Commit == n.Commit) = true by rw [q4]; simp)]
 rw [if_pos (show (logEnd n.Log == logEnd (settle n (n.Log.Start + r)).1.Log) = true by rw [q8]; simp)]
 rw [if_pos (show (logTerm n.Log == logTerm (settle n (n.Log.Start + r)).1.Log) = true by rw [q9]; simp)]
 rw [if_pos (show ((settle n (n.Log.Start + r)).1.Log.Start == n.Log.Start + r) = true by rw [q5]; simp)]
 rw [confOf_impl N hN _ q2.log (by omega), Option.bind_some, confOf_impl N hN n hr.log (by omega), Option.bind_some, q7, same_ok N hN _ (by omega), Option.bind_some, if_pos rfl, confAt_impl N hN n _ hr.log (by omega), Option.bind_some, q6, same_ok N hN _ (by omega)]
 rfl
end Go.Proofs.Ytehknbpmpbghhaa.Pe.FnSettles
