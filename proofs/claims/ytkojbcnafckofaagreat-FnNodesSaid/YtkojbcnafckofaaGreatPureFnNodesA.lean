import Derived.Test.YtkojbcnafckofaaGreatPeHFnNodes
import Derived.KernelRfl
namespace Go.Proofs.YtkojbcnafckofaaGreat.Pe.FnNodes
open Go Go.RowKit
set_option linter.unusedVariables false
set_option linter.unusedSimpArgs false
set_option maxHeartbeats 4000000
theorem bO {α β : Type} (a : α) (f : α → Option β) : (some a).bind f = f a := rfl
def totEntry (x : Entry) : Nat := ByteArray.size x.Data
def totLog (x : Log) : Nat := (totL totEntry) x.Entries
def totPeer (x : Peer) : Nat := 0
def totNode (x : Node) : Nat := (totL (fun _ => 0)) x.Conf + totLog x.Log + (totL (fun _ => 0)) x.Votes + (totL totPeer) x.Peers
def totMessage (x : Message) : Nat := (totL totEntry) x.Entries + (totL (fun _ => 0)) x.Conf + ByteArray.size x.Data
theorem wi {n : Int} (h : WI .i64 n) : -9223372036854775808 ≤ n ∧ n ≤ 9223372036854775807 := by
 have := h
 simp only [WI,Lit.wf,beq_iff_eq,decide_eq_true_eq,Bool.and_eq_true] at this
 exact this
theorem in_eq (N : Nat) (x a b : Int) : s_l01In N x a b = some (decide (a ≤ x ∧ x ≤ b)) := by
 unfold s_l01In
 by_cases h : a ≤ x <;> simp [h]
theorem within_eq (N : Nat) (x a b : Int) : i_within N x a b = some (decide (a ≤ x ∧ x ≤ b)) := by
 unfold i_within
 by_cases h : a ≤ x <;> simp [h]
def rise (lo hi : Int) : Option Int → List Int → Bool
 | _,[] => true
 | p,x :: xs => decide (lo ≤ x ∧ x ≤ hi) && ((match p with | some q => decide (q < x) | none => true) && rise lo hi (some x) xs)
theorem rise_cons (lo hi : Int) (p : Option Int) (x : Int) (xs : List Int) : rise lo hi p (x :: xs) = (decide (lo ≤ x ∧ x ≤ hi) && ((match p with | some q => decide (q < x) | none => true) && rise lo hi (some x) xs)) := by
 cases p <;> rfl
def confOk (c : List Int) : Bool := decide (c.length ≤ 4) && (decide (1 ≤ c.length) && rise 1 4 none c)
def prev (c : List Int) (k : Nat) : Option Int := if k = 0 then none else c[k - 1]?
theorem prev_succ {c : List Int} {k : Nat} (h : k < c.length) : prev c (k + 1) = some c[k] := by
 simp [prev,h]
theorem rise_drop {c : List Int} {k : Nat} {lo hi : Int} (h : k < c.length) : rise lo hi (prev c k) (c.drop k) = (decide (lo ≤ c[k] ∧ c[k] ≤ hi) && ((if k = 0 then true else decide (c[k - 1]'(by omega) < c[k])) && rise lo hi (prev c (k + 1)) (c.drop (k + 1)))) := by
 rw [List.drop_eq_getElem_cons h,rise_cons,prev_succ h]
 by_cases h0 : k = 0
 ·simp [prev,h0]
 ·simp only [prev,h0,if_false]
  rw [List.getElem?_eq_getElem (by omega)]
theorem at_pred {c : List Int} {k : Nat} (h : k < c.length) (h0 : k ≠ 0) (hc : c.length ≤ 1099511627776) : at? c (w64 ((k : Int) - 1)) = some (c[k - 1]'(by omega)) := by
 rw [w64_id (by omega) (by omega),show (k : Int) - 1 = ((k - 1 : Nat) : Int) by omega,at_lt]
theorem rise_r (N : Nat) (c : List Int) (lo hi : Int) (hc : c.length ≤ 1099511627776) : ∀ (d k : Nat),c.length = k + d → s_l07Rise_l1_r N c lo hi (c.drop k) (k : Int) = some (if rise lo hi (prev c k) (c.drop k) then .inr () else .inl false)
 | 0,k,h => by rw [List.drop_eq_nil_of_le (by omega),s_l07Rise_l1_r]; rfl
 | d + 1,k,h => by
  have hk : k < c.length := by omega
  rw [rise_drop hk,List.drop_eq_getElem_cons hk,s_l07Rise_l1_r]
  simp only [joinP,bO,in_eq,w64_succ (k := k) (by omega),rise_r N c lo hi hc d (k + 1) (by omega)]
  by_cases h1 : lo ≤ c[k] ∧ c[k] ≤ hi
  ·by_cases h0 : k = 0
   ·subst h0
    simp [h1]
   ·rw [at_pred hk h0 hc]
    have : (0 : Int) < k := by omega
    by_cases h2 : c[k - 1] < c[k]
    ·have h3 : ¬ c[k] ≤ c[k - 1] := by omega
     simp [h1,h0,h2,h3]
    ·have h3 : c[k] ≤ c[k - 1] := by omega
     simp [h1,h0,h2,h3]
  ·simp [h1]
theorem rise_eq (N : Nat) (hN : Big N) (c : List Int) (lo hi : Int) (hc : c.length ≤ 1099511627776) : s_l07Rise N c lo hi = some (rise lo hi none c) := by
 unfold s_l07Rise
 simp only [joinP]
 rw [s_l07Rise_l1_eq c lo hi (by omega) (by omega),show (0 : Int) = ((0 : Nat) : Int) from rfl]
 have := rise_r N c lo hi hc c.length 0 (by omega)
 rw [List.drop_zero] at this
 rw [this]
 simp only [prev,if_true]
 cases rise lo hi none c <;> rfl
theorem confOk_spec (N : Nat) (hN : Big N) (c : List Int) (hc : c.length ≤ 1099511627776) : s_ConfOk N c = some (confOk c) := by
 unfold s_ConfOk confOk
 simp only [in_eq,bO,rise_eq N hN c 1 4 hc]
 by_cases h1 : c.length ≤ 4
 ·by_cases h2 : 1 ≤ c.length
  ·have h3 : (1 : Int) ≤ c.length ∧ (c.length : Int) ≤ 4 := by omega
   simp [h1,h2,h3]
  ·have h3 : ¬ ((1 : Int) ≤ c.length ∧ (c.length : Int) ≤ 4) := by omega
   simp only [h3,if_false,h2,decide_false,Bool.false_and,Bool.and_false,Bool.false_eq_true]
 ·have h3 : ¬ ((1 : Int) ≤ c.length ∧ (c.length : Int) ≤ 4) := by omega
  simp only [h3,if_false,h1,decide_false,Bool.false_and,Bool.and_false,Bool.false_eq_true]
theorem conf_r (N : Nat) (c : List Int) (hc : c.length ≤ 1099511627776) : ∀ (d k : Nat),c.length = k + d → i_ConfOk_l1_r N c (c.drop k) (k : Int) = some (if rise 1 4 (prev c k) (c.drop k) then .inr () else .inl false)
 | 0,k,h => by rw [List.drop_eq_nil_of_le (by omega),i_ConfOk_l1_r]; rfl
 | d + 1,k,h => by
  have hk : k < c.length := by omega
  rw [rise_drop hk,List.drop_eq_getElem_cons hk,i_ConfOk_l1_r]
  simp only [joinP,bO,within_eq,w64_succ (k := k) (by omega),conf_r N c hc d (k + 1) (by omega)]
  by_cases h1 : (1 : Int) ≤ c[k] ∧ c[k] ≤ 4
  ·by_cases h0 : k = 0
   ·subst h0
    simp [h1]
   ·rw [at_pred hk h0 hc]
    have : (0 : Int) < k := by omega
    by_cases h2 : c[k - 1] < c[k]
    ·have h3 : ¬ c[k] ≤ c[k - 1] := by omega
     simp [h1,h0,h2,h3]
    ·have h3 : c[k] ≤ c[k - 1] := by omega
     simp [h1,h0,h2,h3]
  ·simp [h1]
theorem confOk_impl (N : Nat) (hN : Big N) (c : List Int) (hc : c.length ≤ 1099511627776) : i_ConfOk N c = some (confOk c) := by
 unfold i_ConfOk confOk
 simp only [joinP]
 rw [i_ConfOk_l1_eq c (by omega) (by omega),show (0 : Int) = ((0 : Nat) : Int) from rfl]
 have := conf_r N c hc c.length 0 (by omega)
 rw [List.drop_zero] at this
 rw [this]
 simp only [prev,if_true,within_eq]
 cases rise 1 4 none c with
 | false => simp
 | true =>
  simp only [if_true,bO,Sum.elim_inr,Bool.and_true,Option.some.injEq]
  rw [← Bool.decide_and]
  simp only [decide_eq_decide]
  omega
theorem confOk_len {c : List Int} (h : confOk c = true) : 1 ≤ c.length ∧ c.length ≤ 4 := by
 unfold confOk at h
 simp only [Bool.and_eq_true,decide_eq_true_eq] at h
 exact ⟨h.2.1,h.1⟩
def ints (t : ByteArray) : List Int := t.data.toList.map fun b => (b.toNat : Int)
theorem ints_len (t : ByteArray) : (ints t).length = t.size := by
 unfold ints
 rw [List.length_map,Array.length_toList]
 rfl
theorem sat_lt {t : ByteArray} {k : Nat} (h : k < t.size) : sat? t (k : Int) = some ((ints t)[k]'(by rw [ints_len]; exact h)) := by
 unfold sat?
 rw [if_pos (by omega),Int.toNat_natCast,getElem?_pos t k h]
 simp only [ints,List.getElem_map,Option.map_some]
 rfl
theorem ints_w {t : ByteArray} {k : Nat} (h : k < (ints t).length) : w64 ((ints t)[k]) = (ints t)[k] := by
 have : (ints t)[k] = ((t.data.toList[k]'(by rw [ints_len] at h; rw [Array.length_toList]; exact h)).toNat : Int) := by simp only [ints,List.getElem_map]
 rw [this]
 have h2 := UInt8.toNat_lt (t.data.toList[k]'(by rw [ints_len] at h; rw [Array.length_toList]; exact h))
 exact w64_id (by omega) (by omega)
theorem take_one {α : Type} {xs : List α} {k : Nat} (h : k < xs.length) : xs.take k ++ [xs[k]] = xs.take (k + 1) := by
 rw [List.take_add_one,List.getElem?_eq_getElem h]
 rfl
def readConf (t : ByteArray) : List Int × Bool := if confOk (ints t) = true then (ints t,true) else ([],false)
theorem readConf_r (N : Nat) (t : ByteArray) (ht : t.size ≤ 1099511627) : ∀ (d k m : Nat),t.size = k + d → d < m → i_ReadConf_l1 N t m (k : Int) ((ints t).take k) = some (ints t)
 | 0,k,m,h,hm => by
  obtain ⟨m,rfl⟩ : ∃ q,m = q + 1 := ⟨m - 1,by omega⟩
  rw [i_ReadConf_l1,if_neg (by simp; omega),List.take_of_length_le (by rw [ints_len]; omega)]
 | d + 1,k,m,h,hm => by
  obtain ⟨m,rfl⟩ : ∃ q,m = q + 1 := ⟨m - 1,by omega⟩
  have hk : k < (ints t).length := by rw [ints_len]; omega
  rw [i_ReadConf_l1,if_pos (by simp; omega),sat_lt (by omega)]
  simp only [bO,ints_w hk,w64_succ (k := k) (by omega)]
  rw [cat_ok (by rw [List.length_take]; simp only [List.length_cons,List.length_nil]; omega),bO,take_one hk]
  exact readConf_r N t ht d (k + 1) m (by omega) (by omega)
theorem readConf_impl (N : Nat) (hN : Big N) (t : ByteArray) (ht : t.size ≤ 1099511627) : i_ReadConf N t = some (readConf t) := by
 unfold i_ReadConf readConf
 simp only [joinP]
 have := readConf_r N t ht t.size 0 N (by omega) (by omega)
 rw [show (0 : Int) = ((0 : Nat) : Int) from rfl,show ([] : List Int) = (ints t).take 0 from rfl,this]
 simp only [bO,confOk_impl N hN (ints t) (by rw [ints_len]; omega)]
 cases confOk (ints t) <;> rfl
theorem readConf_s (N : Nat) (t : ByteArray) (ht : t.size ≤ 1099511627) : ∀ (d k m : Nat),t.size = k + d → d < m → k ≤ 5 → s_ReadConf_l1 N t m (k : Int) ((ints t).take k) = some ((ints t).take 5)
 | 0,k,m,h,hm,h5 => by
  obtain ⟨m,rfl⟩ : ∃ q,m = q + 1 := ⟨m - 1,by omega⟩
  rw [s_ReadConf_l1,if_neg (by simp; omega),List.take_of_length_le (by rw [ints_len]; omega),List.take_of_length_le (by rw [ints_len]; omega)]
 | d + 1,k,m,h,hm,h5 => by
  obtain ⟨m,rfl⟩ : ∃ q,m = q + 1 := ⟨m - 1,by omega⟩
  have hk : k < (ints t).length := by rw [ints_len]; omega
  by_cases h4 : k = 5
  ·subst h4
   rw [s_ReadConf_l1,if_pos (by simp; omega),if_neg (by simp)]
  rw [s_ReadConf_l1,if_pos (by simp; omega),if_pos (by simp; omega),sat_lt (by omega)]
  simp only [bO,ints_w hk,w64_succ (k := k) (by omega)]
  rw [cat_ok (by rw [List.length_take]; simp only [List.length_cons,List.length_nil]; omega),bO,take_one hk]
  exact readConf_s N t ht d (k + 1) m (by omega) (by omega) (by omega)
theorem readConf_spec (N : Nat) (hN : Big N) (t : ByteArray) (ht : t.size ≤ 1099511627) : s_ReadConf N t = some (readConf t) := by
 unfold s_ReadConf readConf
 simp only [joinP]
 have := readConf_s N t ht t.size 0 N (by omega) (by omega) (by omega)
 rw [show (0 : Int) = ((0 : Nat) : Int) from rfl,show ([] : List Int) = (ints t).take 0 from rfl,this]
 simp only [bO,confOk_spec N hN ((ints t).take 5) (by rw [List.length_take]; omega)]
 by_cases h5 : t.size ≤ 5
 ·rw [List.take_of_length_le (by rw [ints_len]; exact h5),if_neg (by simp [ints_len])]
  cases confOk (ints t) <;> rfl
 ·have hf : confOk (ints t) = false := by
   cases hc : confOk (ints t) with
   | false => rfl
   | true => have := confOk_len hc; rw [ints_len] at this; omega
  rw [if_pos (by rw [List.length_take,ints_len]; simp; omega),hf]
  rfl
def entOk (e : Entry) : Bool := decide (0 ≤ e.Term ∧ e.Term ≤ 100000) && (if e.Kind = 1 then decide (e.Data = (⟨#[]⟩ : ByteArray)) else if e.Kind = 2 then confOk (ints e.Data) else if e.Kind = 3 then decide (e.Data.size ≤ 120) else false)
theorem readConf_ok (t : ByteArray) : (readConf t).2 = confOk (ints t) := by
 unfold readConf
 cases confOk (ints t) <;> rfl
theorem entOk_spec (N : Nat) (hN : Big N) (e : Entry) (h : e.Data.size ≤ 1099511627) : s_EntryOk N e = some (entOk e) := by
 unfold s_EntryOk entOk
 simp only [in_eq,bO,readConf_spec N hN e.Data h,readConf_ok]
 by_cases h0 : 0 ≤ e.Term ∧ e.Term ≤ 100000
 ·by_cases h1 : e.Kind = 1
  ·simp [h0,h1]
  ·by_cases h2 : e.Kind = 2
   ·simp [h0,h2]
   ·by_cases h3 : e.Kind = 3
    ·simp [h0,h3]
     omega
    ·simp [h1,h2,h3]
 ·simp [h0]
theorem entOk_impl (N : Nat) (hN : Big N) (e : Entry) (h : e.Data.size ≤ 1099511627) : i_EntryOk N e = some (entOk e) := by
 rw [← entOk_spec N hN e h]
 unfold s_EntryOk i_EntryOk
 simp only [in_eq,within_eq,readConf_spec N hN e.Data h,readConf_impl N hN e.Data h]
def termsOk : Int → List Entry → Bool
 | _,[] => true
 | t,e :: es => entOk e && (decide (t ≤ e.Term) && termsOk e.Term es)
theorem termsOk_cons (t : Int) (e : Entry) (es : List Entry) : termsOk t (e :: es) = (entOk e && (decide (t ≤ e.Term) && termsOk e.Term es)) := rfl
def logOk (l : Log) : Bool := decide (0 ≤ l.Start ∧ l.Start ≤ 100000) && (decide (0 ≤ l.StartTerm ∧ l.StartTerm ≤ 100000) && (decide (l.Entries.length ≤ 120) && (decide (l.Start + l.Entries.length ≤ 100000) && termsOk l.StartTerm l.Entries)))
theorem logOk_s (N : Nat) (hN : Big N) (c : Log) : ∀ (es : List Entry) (t : Int) (k : Nat),k + es.length ≤ 1099511627 → (∀ e ∈ es,e.Data.size ≤ 1099511627) → s_LogOk_l1_r N c es t (k : Int) = some (if termsOk t es then .inr () else .inl false)
 | [],t,k,hk,h => rfl
 | e :: es,t,k,hk,h => by
  simp only [List.length_cons] at hk
  rw [s_LogOk_l1_r,termsOk_cons]
  simp only [bO,entOk_spec N hN e (h e (by simp)),w64_succ (k := k) (by omega),logOk_s N hN c es e.Term (k + 1) (by omega) (fun z hz => h z (by simp [hz]))]
  cases entOk e with
  | false => simp
  | true =>
   by_cases ht : e.Term < t
   ·have : ¬ t ≤ e.Term := by omega
    simp [ht,this]
   ·have : t ≤ e.Term := by omega
    simp [ht,this]
theorem logOk_i (N : Nat) (hN : Big N) (c : Log) : ∀ (es : List Entry) (t : Int) (k : Nat),k + es.length ≤ 1099511627 → (∀ e ∈ es,e.Data.size ≤ 1099511627) → i_LogOk_l1_r N c es t (k : Int) = some (if termsOk t es then .inr () else .inl false)
 | [],t,k,hk,h => rfl
 | e :: es,t,k,hk,h => by
  simp only [List.length_cons] at hk
  rw [i_LogOk_l1_r,termsOk_cons]
  simp only [bO,entOk_impl N hN e (h e (by simp)),w64_succ (k := k) (by omega),logOk_i N hN c es e.Term (k + 1) (by omega) (fun z hz => h z (by simp [hz]))]
  cases entOk e with
  | false => simp
  | true =>
   by_cases ht : e.Term < t
   ·have : ¬ t ≤ e.Term := by omega
    simp [ht,this]
   ·have : t ≤ e.Term := by omega
    simp [ht,this]
theorem data_le {l : Log} (h : totLog l ≤ 1099511627) : l.Entries.length ≤ 1099511627 ∧ ∀ e ∈ l.Entries,e.Data.size ≤ 1099511627 := by
 simp only [totLog,totL] at h
 refine ⟨by omega,fun e he => ?_⟩
 have := le_sum (f := totEntry) he
 simp only [totEntry] at this
 omega
theorem logOk_spec (N : Nat) (hN : Big N) (l : Log) (h : totLog l ≤ 1099511627) : s_LogOk N l = some (logOk l) := by
 obtain ⟨hl,hd⟩ := data_le h
 unfold s_LogOk logOk
 simp only [in_eq,bO,joinP]
 rw [s_LogOk_l1_eq l (by omega) (by omega),show (0 : Int) = ((0 : Nat) : Int) from rfl,logOk_s N hN l l.Entries l.StartTerm 0 (by omega) hd]
 by_cases h1 : 0 ≤ l.Start ∧ l.Start ≤ 100000
 ·by_cases h2 : 0 ≤ l.StartTerm ∧ l.StartTerm ≤ 100000
  ·by_cases h3 : l.Entries.length ≤ 120
   ·rw [w64_id (by omega) (by omega)]
    have h3' : ¬ (l.Entries.length : Int) > 120 := by omega
    by_cases h4 : l.Start + l.Entries.length ≤ 100000
    ·have h4' : ¬ l.Start + l.Entries.length > 100000 := by omega
     simp only [Int.natCast_zero,h1,h2,h3,h3',h4,h4',decide_true,Bool.not_true,Bool.false_eq_true,if_false,decide_false,Bool.true_and,and_self]
     cases termsOk l.StartTerm l.Entries <;> rfl
    ·have h4' : l.Start + l.Entries.length > 100000 := by omega
     simp [h1,h2,h3',h4,h4']
   ·have h3' : (l.Entries.length : Int) > 120 := by omega
    simp [h1,h2,h3,h3']
  ·simp [h1,h2]
 ·simp [h1]
theorem logOk_impl (N : Nat) (hN : Big N) (l : Log) (h : totLog l ≤ 1099511627) : i_LogOk N l = some (logOk l) := by
 rw [← logOk_spec N hN l h]
 obtain ⟨hl,hd⟩ := data_le h
 unfold s_LogOk i_LogOk
 simp only [in_eq,within_eq,joinP]
 rw [s_LogOk_l1_eq l (by omega) (by omega),i_LogOk_l1_eq l (by omega) (by omega),show (0 : Int) = ((0 : Nat) : Int) from rfl,logOk_s N hN l l.Entries l.StartTerm 0 (by omega) hd,logOk_i N hN l l.Entries l.StartTerm 0 (by omega) hd]
theorem logOk_at {l : Log} (h : logOk l = true) : 0 ≤ l.Start ∧ l.Start ≤ 100000 ∧ 0 ≤ l.StartTerm ∧ l.StartTerm ≤ 100000 ∧ l.Entries.length ≤ 120 ∧ l.Start + l.Entries.length ≤ 100000 ∧ termsOk l.StartTerm l.Entries = true := by
 unfold logOk at h
 simp only [Bool.and_eq_true,decide_eq_true_eq] at h
 obtain ⟨⟨h1,h2⟩,⟨h3,h4⟩,h5,h6,h7⟩ := h
 exact ⟨h1,h2,h3,h4,h5,h6,h7⟩
def tells (e : Entry) : Bool := confOk (ints e.Data) && (e.Kind == 2)
def confsUp (index : Int) : List Entry → Int → List Int → List Int
 | [],_,out => out
 | e :: es,p,out => if p ≤ index then confsUp index es (p + 1) (if tells e = true then ints e.Data else out) else out
def confAt (n : Node) (index : Int) : List Int := confsUp index n.Log.Entries (n.Log.Start + 1) n.Conf
theorem confsUp_snoc (index : Int) (e : Entry) : ∀ (es : List Entry) (p : Int) (out : List Int),confsUp index (es ++ [e]) p out = if (decide (p + es.length ≤ index) && tells e) = true then ints e.Data else confsUp index es p out
 | [],p,out => by
  simp only [List.nil_append,confsUp,List.length_nil]
  by_cases h : p ≤ index
  ·have : p + ((0 : Nat) : Int) ≤ index := by omega
   simp only [h,if_true,this,decide_true,Bool.true_and]
  ·have : ¬ p + ((0 : Nat) : Int) ≤ index := by omega
   simp [h]
 | x :: es,p,out => by
  simp only [List.cons_append,confsUp,List.length_cons]
  by_cases h : p ≤ index
  ·rw [if_pos h,if_pos h,confsUp_snoc index e es (p + 1)]
   rw [show p + 1 + (es.length : Int) = p + ((es.length + 1 : Nat) : Int) by omega]
  ·rw [if_neg h,if_neg h,if_neg]
   simp only [Bool.and_eq_true,decide_eq_true_eq]
   rintro ⟨h1,_⟩
   omega
theorem readConf_1 {t : ByteArray} (h : confOk (ints t) = true) : (readConf t).1 = ints t := by
 unfold readConf
 rw [if_pos h]
theorem confAt_sr (N : Nat) (hN : Big N) (n : Node) (index : Int) (hs : 0 ≤ n.Log.Start ∧ n.Log.Start ≤ 100000) : ∀ (es : List Entry) (k : Nat) (out : List Int),k + es.length ≤ 1000 → (∀ e ∈ es,e.Data.size ≤ 1099511627) → s_ConfAt_l1_r N n index es (k : Int) out = some (confsUp index es (n.Log.Start + 1 + k) out)
 | [],k,out,hk,h => rfl
 | e :: es,k,out,hk,h => by
  simp only [List.length_cons] at hk
  rw [s_ConfAt_l1_r,confsUp]
  rw [w64_id (n := n.Log.Start + 1) (by omega) (by omega),w64_id (by omega) (by omega)]
  by_cases hp : n.Log.Start + 1 + k ≤ index
  ·simp only [hp,decide_true,if_true,joinP,bO,readConf_spec N hN e.Data (h e (by simp)),readConf_ok,w64_succ (k := k) (by omega)]
   have ih := fun o => confAt_sr N hN n index hs es (k + 1) o (by omega) (fun z hz => h z (by simp [hz]))
   simp only [ih]
   rw [show n.Log.Start + 1 + ((k + 1 : Nat) : Int) = n.Log.Start + 1 + k + 1 by omega]
   unfold tells
   by_cases h2 : e.Kind = 2
   ·cases hc : confOk (ints e.Data) with
    | true => simp [h2,readConf_1 hc]
    | false => simp [h2]
   ·simp [h2]
  ·simp [hp]
theorem confAt_spec (N : Nat) (hN : Big N) (n : Node) (index : Int) (hl : logOk n.Log = true) (h : totNode n ≤ 1099511627) : s_ConfAt N n index = some (confAt n index) := by
 obtain ⟨a1,a2,a3,a4,a5,a6,a7⟩ := logOk_at hl
 have hd : totLog n.Log ≤ 1099511627 := by simp only [totNode] at h; omega
 have hc : n.Conf.length ≤ 1099511627 := by simp only [totNode,totL] at h; omega
 unfold s_ConfAt confAt
 rw [cat_ok (by simp only [List.length_nil]; omega)]
 simp only [bO,joinP,List.nil_append]
 rw [s_ConfAt_l1_eq n index (by omega) (by omega),show (0 : Int) = ((0 : Nat) : Int) from rfl,confAt_sr N hN n index ⟨a1,a2⟩ n.Log.Entries 0 n.Conf (by omega) (data_le hd).2]
 simp
theorem confAt_ir (N : Nat) (hN : Big N) (n : Node) (index : Int) (hs : 0 ≤ n.Log.Start ∧ n.Log.Start ≤ 100000) (hl : n.Log.Entries.length ≤ 120) (hd : ∀ e ∈ n.Log.Entries,e.Data.size ≤ 1099511627) : ∀ (k m : Nat),k ≤ n.Log.Entries.length → k < m → ∃ o : Option (List Int),i_ConfAt_l1 N n index m ((k : Int) - 1) = some (match o with | some c => .inl c | none => .inr ()) ∧ ∀ out,confsUp index (n.Log.Entries.take k) (n.Log.Start + 1) out = o.getD out
 | 0,m,hk,hm => by
  obtain ⟨m,rfl⟩ : ∃ q,m = q + 1 := ⟨m - 1,by omega⟩
  refine ⟨none,?_,fun out => rfl⟩
  rw [i_ConfAt_l1,if_neg (by simp)]
 | k + 1,m,hk,hm => by
  obtain ⟨m,rfl⟩ : ∃ q,m = q + 1 := ⟨m - 1,by omega⟩
  have hlt : k < n.Log.Entries.length := by omega
  obtain ⟨o,ho,hu⟩ := confAt_ir N hN n index hs hl hd k m (by omega) (by omega)
  rw [i_ConfAt_l1,show ((k + 1 : Nat) : Int) - 1 = (k : Int) by omega,if_pos (by simp),at_lt hlt]
  simp only [joinP,bO,readConf_impl N hN _ (hd _ (List.getElem_mem hlt)),readConf_ok]
  rw [w64_id (n := (k : Int) - 1) (by omega) (by omega),w64_id (n := n.Log.Start + k) (by omega) (by omega),w64_id (by omega) (by omega),ho]
  have htk : n.Log.Entries.take (k + 1) = n.Log.Entries.take k ++ [n.Log.Entries[k]] := by rw [take_one hlt]
  have hlen : (n.Log.Entries.take k).length = k := by rw [List.length_take]; omega
  have hpos : n.Log.Start + 1 + ((n.Log.Entries.take k).length : Int) = n.Log.Start + k + 1 := by rw [hlen]; omega
  by_cases hv : (decide (n.Log.Start + k + 1 ≤ index) && tells n.Log.Entries[k]) = true
  ·refine ⟨some (ints n.Log.Entries[k].Data),?_,fun out => ?_⟩
   ·simp only [tells,Bool.and_eq_true,decide_eq_true_eq] at hv
    simp [hv.1,hv.2.1,hv.2.2,readConf_1 hv.2.1]
   ·rw [htk,confsUp_snoc,hpos,if_pos hv]
    rfl
  ·refine ⟨o,?_,fun out => ?_⟩
   ·unfold tells at hv
    cases hc : confOk (ints n.Log.Entries[k].Data) with
    | false => simp
    | true =>
     rw [hc] at hv
     by_cases h2 : n.Log.Entries[k].Kind = 2
     ·have h3 : ¬ n.Log.Start + k + 1 ≤ index := by
       intro h3
       simp [h2,h3] at hv
      simp [h2,h3]
     ·simp [h2]
   ·rw [htk,confsUp_snoc,hpos,if_neg hv]
    exact hu out
theorem confAt_impl (N : Nat) (hN : Big N) (n : Node) (index : Int) (hl : logOk n.Log = true) (h : totNode n ≤ 1099511627) : i_ConfAt N n index = some (confAt n index) := by
 obtain ⟨a1,a2,a3,a4,a5,a6,a7⟩ := logOk_at hl
 have hd : totLog n.Log ≤ 1099511627 := by simp only [totNode] at h; omega
 have hc : n.Conf.length ≤ 1099511627 := by simp only [totNode,totL] at h; omega
 unfold i_ConfAt confAt
 rw [w64_id (by omega) (by omega)]
 obtain ⟨o,ho,hu⟩ := confAt_ir N hN n index ⟨a1,a2⟩ a5 (data_le hd).2 n.Log.Entries.length N (Nat.le_refl _) (by omega)
 have := hu n.Conf
 rw [List.take_length] at this
 simp only [joinP]
 rw [ho,this,cat_ok (by simp only [List.length_nil]; omega)]
 cases o <;> simp
def confOf (n : Node) : List Int := confAt n 100120
theorem confsUp_all {i j : Int} : ∀ (es : List Entry) (p : Int) (out : List Int),p + es.length ≤ i + 1 → p + es.length ≤ j + 1 → confsUp i es p out = confsUp j es p out
 | [],p,out,h1,h2 => rfl
 | e :: es,p,out,h1,h2 => by
  simp only [List.length_cons] at h1 h2
  simp only [confsUp]
  rw [if_pos (show p ≤ i by omega),if_pos (show p ≤ j by omega)]
  exact confsUp_all es (p + 1) _ (by omega) (by omega)
theorem confOf_spec (N : Nat) (hN : Big N) (n : Node) (hl : logOk n.Log = true) (h : totNode n ≤ 1099511627) : s_ConfOf N n = some (confOf n) := by
 unfold s_ConfOf
 rw [confAt_spec N hN n _ hl h]
 rfl
theorem confOf_impl (N : Nat) (hN : Big N) (n : Node) (hl : logOk n.Log = true) (h : totNode n ≤ 1099511627) : i_ConfOf N n = some (confOf n) := by
 obtain ⟨a1,a2,a3,a4,a5,a6,a7⟩ := logOk_at hl
 unfold i_ConfOf
 rw [confAt_impl N hN n _ hl h,bO]
 unfold confOf confAt
 rw [confsUp_all (i := 9223372036854775807) (j := 100120) _ _ _ (by omega) (by omega)]
theorem confAt_len {n : Node} {i : Int} : (confAt n i).length ≤ max 4 n.Conf.length := by
 unfold confAt
 have : ∀ (es : List Entry) (p : Int) (out : List Int),(confsUp i es p out).length ≤ max 4 out.length := by
  intro es
  induction es with
  | nil => intro p out; simp only [confsUp]; omega
  | cons e es ih =>
   intro p out
   rw [confsUp]
   split
   ·by_cases ht : tells e = true
    ·have h4 := ih (p + 1) (ints e.Data)
     rw [if_pos ht]
     have : confOk (ints e.Data) = true := by
      unfold tells at ht
      simp only [Bool.and_eq_true] at ht
      exact ht.1
     have := confOk_len this
     omega
    ·rw [if_neg ht]; exact ih (p + 1) out
   ·omega
 exact this _ _ _
def others (c : List Int) (id : Int) : List Int := c.filter (· != id)
theorem others_sr (N : Nat) (c : List Int) (id : Int) : ∀ (xs : List Int) (k : Nat) (out : List Int),out.length + xs.length ≤ 1099511627 → k + xs.length ≤ 1099511627 → s_l16Others_l1_r N c id xs (k : Int) out = some (out ++ others xs id)
 | [],k,out,h,h2 => by simp [s_l16Others_l1_r,others]
 | x :: xs,k,out,h,h2 => by
  simp only [List.length_cons] at h h2
  rw [s_l16Others_l1_r]
  simp only [joinP,bO,w64_succ (k := k) (by omega)]
  by_cases hx : (x != id) = true
  ·rw [if_pos hx,cat_ok (by simp only [List.length_cons,List.length_nil]; omega),bO,others_sr N c id xs (k + 1) _ (by simp only [List.length_append,List.length_cons,List.length_nil]; omega) (by omega)]
   simp [others,hx]
  ·rw [if_neg hx,others_sr N c id xs (k + 1) _ (by omega) (by omega)]
   simp only [others,List.filter_cons,hx,Bool.false_eq_true,if_false]
theorem others_spec (N : Nat) (hN : Big N) (c : List Int) (id : Int) (h : c.length ≤ 1099511627) : s_l16Others N c id = some (others c id) := by
 unfold s_l16Others
 simp only [joinP]
 rw [s_l16Others_l1_eq c id (by omega) (by omega),show (0 : Int) = ((0 : Nat) : Int) from rfl,others_sr N c id c 0 [] (by simp; omega) (by omega)]
 simp
theorem ixDel (N : Nat) (c : List Int) (n : Node) (h : c.length ≤ 1099511627) : ∀ (d k m : Nat),c.length = k + d → d < m → (∀ x ∈ c.take k,(x == n.Id) = false) → (L_IndexFunc_int_i1_l1 N c n m (k : Int) = some (.inr ()) ∧ ∀ x ∈ c,(x == n.Id) = false) ∨ ∃ q : Nat,q < c.length ∧ L_IndexFunc_int_i1_l1 N c n m (k : Int) = some (.inl (q : Int)) ∧ (∀ x ∈ c.take q,(x == n.Id) = false) ∧ (c[q]? = some n.Id)
 | 0,k,m,hd,hm,hp => by
  obtain ⟨m,rfl⟩ : ∃ q,m = q + 1 := ⟨m - 1,by omega⟩
  left
  rw [L_IndexFunc_int_i1_l1,if_neg (by simp; omega)]
  refine ⟨rfl,?_⟩
  rwa [List.take_of_length_le (by omega)] at hp
 | d + 1,k,m,hd,hm,hp => by
  obtain ⟨m,rfl⟩ : ∃ q,m = q + 1 := ⟨m - 1,by omega⟩
  have hk : k < c.length := by omega
  rw [L_IndexFunc_int_i1_l1,if_pos (by simp; omega),at_lt hk]
  simp only [bO,i_othersOf_1,w64_succ (k := k) (by omega)]
  by_cases hx : (c[k] == n.Id) = true
  ·right
   refine ⟨k,hk,by rw [if_pos hx],hp,?_⟩
   rw [List.getElem?_eq_getElem hk]
   simpa using hx
  ·rw [if_neg hx]
   refine ixDel N c n h d (k + 1) m (by omega) (by omega) ?_
   rw [← take_one hk]
   intro x hx'
   rcases List.mem_append.1 hx' with h1 | h1
   ·exact hp x h1
   ·simp only [List.mem_singleton] at h1
    subst h1
    simpa using hx
theorem others_take {xs : List Int} {id : Int} {k : Nat} (h : k < xs.length) : others (xs.take (k + 1)) id = others (xs.take k) id ++ (if (xs[k] != id) = true then [xs[k]] else []) := by
 rw [← take_one h]
 unfold others
 rw [List.filter_append]
 congr 1
 cases hx : (xs[k] != id) <;> simp [hx]
theorem others_take_le {xs : List Int} {id : Int} {k : Nat} : (others (xs.take k) id).length ≤ k := by
 unfold others
 have := List.length_filter_le (· != id) (xs.take k)
 have h2 := List.length_take_le k xs
 omega
theorem del_r (N : Nat) (n : Node) (xs : List Int) (hx : xs.length ≤ 1099511627) : ∀ (d j m i : Nat) (cur : List Int),xs.length = j + d → d < m → i = (others (xs.take j) n.Id).length → cur.length = xs.length → cur.take i = others (xs.take j) n.Id → cur.drop j = xs.drop j →
  ∃ cur',L_DeleteFunc_int_l1 N n m (i : Int) (j : Int) cur = some (((others xs n.Id).length : Int),cur') ∧ cur'.length = xs.length ∧ cur'.take (others xs n.Id).length = others xs n.Id
 | 0,j,m,i,cur,hd,hm,hi,hl,ht,hdr => by
  obtain ⟨m,rfl⟩ : ∃ q,m = q + 1 := ⟨m - 1,by omega⟩
  rw [L_DeleteFunc_int_l1,if_neg (by simp; omega)]
  rw [List.take_of_length_le (l := xs) (by omega)] at hi ht
  subst hi
  exact ⟨cur,rfl,hl,ht⟩
 | d + 1,j,m,i,cur,hd,hm,hi,hl,ht,hdr => by
  obtain ⟨m,rfl⟩ : ∃ q,m = q + 1 := ⟨m - 1,by omega⟩
  have hj : j < xs.length := by omega
  have hjc : j < cur.length := by omega
  have hij : i ≤ j := by rw [hi]; exact others_take_le
  have hcj : cur[j] = xs[j] := by
   rw [List.drop_eq_getElem_cons hjc,List.drop_eq_getElem_cons hj] at hdr
   exact (List.cons.inj hdr).1
  have hdr' : cur.drop (j + 1) = xs.drop (j + 1) := by
   rw [List.drop_eq_getElem_cons hjc,List.drop_eq_getElem_cons hj] at hdr
   exact (List.cons.inj hdr).2
  rw [L_DeleteFunc_int_l1,if_pos (by simp; omega),at_lt hjc]
  simp only [joinP,bO,i_othersOf_1,w64_succ (k := j) (by omega),hcj]
  have ho := others_take (id := n.Id) hj
  by_cases hx1 : xs[j] = n.Id
  ·rw [if_neg (by simp [hx1])]
   rw [if_neg (by simp [hx1]),List.append_nil] at ho
   exact del_r N n xs hx d (j + 1) m i cur (by omega) (by omega) (by rw [ho]; exact hi) hl (by rw [ho]; exact ht) hdr'
  ·rw [if_pos (by simpa using hx1),at_lt (xs := cur) (k := i) (by omega)]
   rw [if_pos (by simpa using hx1)] at ho
   simp only [bO,w64_succ (k := i) (by omega),Int.toNat_natCast]
   refine del_r N n xs hx d (j + 1) m (i + 1) _ (by omega) (by omega) (by rw [ho]; simp [hi]) (by simp [hl]) ?_ ?_
   ·rw [take_set_succ (by omega),ht,ho]
   ·rw [List.drop_set,if_pos (by omega)]
    exact hdr'
theorem del_eq (N : Nat) (hN : Big N) (n : Node) (xs : List Int) (hx : xs.length ≤ 1099511627) : ∃ k ys,L_DeleteFunc_int N xs n = some (k,ys) ∧ ys.take k = others xs n.Id ∧ k = (others xs n.Id).length ∧ xs.length = ys.length := by
 unfold L_DeleteFunc_int L_IndexFunc_int_i1
 simp only [joinP]
 rcases ixDel N xs n hx xs.length 0 N (by omega) (by omega) (by simp) with ⟨h1,h2⟩ | ⟨q,hq,h1,h2,h3⟩
 ·rw [show (0 : Int) = ((0 : Nat) : Int) from rfl,h1]
  have he : others xs n.Id = xs := by
   unfold others
   rw [List.filter_eq_self]
   intro a ha
   simp [bne,h2 a ha]
  exact ⟨xs.length,xs,by simp,by rw [he,List.take_length],by rw [he],rfl⟩
 ·rw [show (0 : Int) = ((0 : Nat) : Int) from rfl,h1]
  have ho : others (xs.take (q + 1)) n.Id = xs.take q := by
   rw [others_take hq]
   have hqe : xs[q] = n.Id := by rw [List.getElem?_eq_getElem hq] at h3; exact Option.some.inj h3
   rw [if_neg (by simp [hqe]),List.append_nil]
   unfold others
   rw [List.filter_eq_self]
   intro a ha
   simp [bne,h2 a ha]
  obtain ⟨cur,c1,c2,c3⟩ := del_r N n xs hx (xs.length - (q + 1)) (q + 1) N q xs (by omega) (by omega) (by rw [ho,List.length_take]; omega) rfl (by rw [ho]) rfl
  simp only [bO,Sum.elim_inl,w64_succ (k := q) (by omega)]
  rw [if_neg (by simp),c1]
  have hle : (others xs n.Id).length ≤ cur.length := by rw [c2]; exact List.length_filter_le _ _
  simp only [bO]
  rw [drop_ok hle]
  simp only [bO,Int.toNat_natCast]
  have hclr : clr? ((0 : Nat) : Int) cur (others xs n.Id).length (cur.length - (others xs n.Id).length) = some (cur.take (others xs n.Id).length ++ (List.replicate (cur.length - (others xs n.Id).length) 0 ++ cur.drop ((others xs n.Id).length + (cur.length - (others xs n.Id).length)))) := by
   unfold clr?
   rw [if_pos (by omega)]
   rfl
  rw [hclr]
  simp only [bO]
  rw [take_ok (by simp only [List.length_append,List.length_take]; omega)]
  refine ⟨_,_,rfl,?_,rfl,by simp only [List.length_append,List.length_take,List.length_replicate,List.length_drop]; omega⟩
  rw [List.take_append_of_le_length (by rw [List.length_take]; omega),List.take_take,Nat.min_self]
  exact c3
theorem othersOf_impl (N : Nat) (hN : Big N) (n : Node) (hl : logOk n.Log = true) (h : totNode n ≤ 1099511627) : ∃ k ys,i_othersOf N n = some (k,ys) ∧ ys.take k = others (confOf n) n.Id := by
 unfold i_othersOf
 rw [confOf_impl N hN n hl h,bO]
 have hc : n.Conf.length ≤ 1099511627 := by simp only [totNode,totL] at h; omega
 have hlen := confAt_len (n := n) (i := 100120)
 obtain ⟨k,ys,h1,h2,_,h4⟩ := del_eq N hN n (confOf n) (by unfold confOf; omega)
 refine ⟨k,ys,?_,h2⟩
 rw [h1,bO]
 simp only [len?]
 rw [if_pos h4]
 rfl
theorem equal_r (N : Nat) (a b : List Int) (ha : a.length ≤ 1099511627) (hl : a.length = b.length) : ∀ (d k : Nat),a.length = k + d → L_Equal_int_l1_r N a b (a.drop k) (k : Int) = some (if a.drop k = b.drop k then .inr () else .inl false)
 | 0,k,h => by rw [List.drop_eq_nil_of_le (by omega),List.drop_eq_nil_of_le (by omega),L_Equal_int_l1_r]; rfl
 | d + 1,k,h => by
  have hk : k < a.length := by omega
  have hkb : k < b.length := by omega
  rw [List.drop_eq_getElem_cons hk,List.drop_eq_getElem_cons hkb,L_Equal_int_l1_r]
  simp only [bO,at_lt hkb,w64_succ (k := k) (by omega),equal_r N a b ha hl d (k + 1) (by omega),List.cons.injEq]
  by_cases hx : a[k] = b[k] <;> simp [hx]
theorem equal_eq (N : Nat) (hN : Big N) (a b : List Int) (ha : a.length ≤ 1099511627) : L_Equal_int N a b = some (decide (a = b)) := by
 unfold L_Equal_int
 by_cases hl : a.length = b.length
 ·simp only [joinP]
  rw [if_neg (by simp [hl]),L_Equal_int_l1_eq a b (by omega) (by omega),show (0 : Int) = ((0 : Nat) : Int) from rfl]
  have := equal_r N a b ha hl a.length 0 (by omega)
  rw [List.drop_zero,List.drop_zero] at this
  rw [this]
  by_cases he : a = b <;> simp [he]
 ·have : a ≠ b := fun h => hl (by rw [h])
  rw [if_pos (by simp; omega)]
  simp [this]
def logEnd (l : Log) : Int := l.Start + l.Entries.length
def logTerm (l : Log) : Int := match l.Entries.getLast? with | some e => e.Term | none => l.StartTerm
theorem logLast_gen {l : Log} (hl : logOk l = true) : (if ((l.Entries.length : Int) == (0 : Int)) = true then some (l.Start,l.StartTerm) else (at? l.Entries (w64 ((l.Entries.length : Int) - (1 : Int)))).bind fun x => some (w64 (l.Start + (l.Entries.length : Int)),x.Term)) = some (logEnd l,logTerm l) := by
 obtain ⟨a1,a2,a3,a4,a5,a6,a7⟩ := logOk_at hl
 unfold logEnd logTerm
 by_cases h : l.Entries.length = 0
 ·have he : l.Entries = [] := List.eq_nil_of_length_eq_zero h
  rw [he]
  simp
 ·rw [if_neg (by simp; intro hh; rw [hh] at h; simp at h),w64_id (by omega) (by omega),w64_id (by omega) (by omega),show (l.Entries.length : Int) - 1 = ((l.Entries.length - 1 : Nat) : Int) by omega,at_lt (by omega),List.getLast?_eq_getElem?,List.getElem?_eq_getElem (by omega)]
  rfl
theorem logLast_spec (N : Nat) {l : Log} (hl : logOk l = true) : s_LogLast N l = some (logEnd l,logTerm l) := logLast_gen hl
theorem logLast_impl (N : Nat) {l : Log} (hl : logOk l = true) : i_LogLast N l = some (logEnd l,logTerm l) := logLast_gen hl
theorem entOk_term {e : Entry} (h : entOk e = true) : 0 ≤ e.Term ∧ e.Term ≤ 100000 := by
 unfold entOk at h
 simp only [Bool.and_eq_true,decide_eq_true_eq] at h
 exact h.1
theorem termsOk_mem : ∀ {es : List Entry} {t : Int},termsOk t es = true → ∀ e ∈ es,entOk e = true
 | x :: es,t,h,e,he => by
  rw [termsOk_cons] at h
  simp only [Bool.and_eq_true] at h
  rcases List.mem_cons.1 he with rfl | he
  ·exact h.1
  ·exact termsOk_mem h.2.2 e he
theorem logTerm_nn {l : Log} (hl : logOk l = true) : 0 ≤ logTerm l ∧ logTerm l ≤ 100000 := by
 obtain ⟨a1,a2,a3,a4,a5,a6,a7⟩ := logOk_at hl
 unfold logTerm
 cases h : l.Entries.getLast? with
 | none => exact ⟨a3,a4⟩
 | some e => exact entOk_term (termsOk_mem a7 e (List.mem_of_getLast? h))
def peerOk (last : Int) (p : Peer) : Bool := decide (1 ≤ p.Next ∧ p.Next ≤ last + 1) && (decide (0 ≤ p.Match ∧ p.Match ≤ w64 (p.Next - 1)) && decide (0 ≤ p.Sent ∧ p.Sent ≤ 20000))
def peersOk (n : Node) (ids : List Int) : Bool := decide (n.Peers.map (·.Id) = ids) && n.Peers.all (peerOk (logEnd n.Log))
theorem peers_ir (N : Nat) (n : Node) (hl : logOk n.Log = true) : ∀ (ps : List Peer) (k : Nat) (out : List Int),out.length + ps.length ≤ 1099511627 → k + ps.length ≤ 1099511627 → i_peersOk_l1_r N n ps (k : Int) out = some (if ps.all (peerOk (logEnd n.Log)) then .inr (out ++ ps.map (·.Id)) else .inl false)
 | [],k,out,h,h2 => by simp [i_peersOk_l1_r]
 | p :: ps,k,out,h,h2 => by
  simp only [List.length_cons] at h h2
  obtain ⟨a1,a2,a3,a4,a5,a6,a7⟩ := logOk_at hl
  rw [i_peersOk_l1_r]
  simp only [bO,i_last,within_eq,w64_succ (k := k) (by omega)]
  rw [cat_ok (by simp only [List.length_cons,List.length_nil]; omega),w64_id (n := n.Log.Start + n.Log.Entries.length) (by omega) (by omega),w64_id (n := n.Log.Start + n.Log.Entries.length + 1) (by omega) (by omega)]
  simp only [bO,peers_ir N n hl ps (k + 1) (out ++ [p.Id]) (by simp only [List.length_append,List.length_cons,List.length_nil]; omega) (by omega)]
  have e : peerOk (logEnd n.Log) p = (decide (1 ≤ p.Next ∧ p.Next ≤ n.Log.Start + n.Log.Entries.length + 1) && (decide (0 ≤ p.Match ∧ p.Match ≤ w64 (p.Next - 1)) && decide (0 ≤ p.Sent ∧ p.Sent ≤ 20000))) := rfl
  rw [List.all_cons,e]
  by_cases h1 : 1 ≤ p.Next ∧ p.Next ≤ n.Log.Start + n.Log.Entries.length + 1
  ·by_cases h2 : 0 ≤ p.Match ∧ p.Match ≤ w64 (p.Next - 1)
   ·by_cases h3 : 0 ≤ p.Sent ∧ p.Sent ≤ 20000
    ·simp only [h1,h2,h3,and_self,decide_true,Bool.not_true,Bool.false_eq_true,if_false,Bool.true_and,List.map_cons,List.append_assoc,List.cons_append,List.nil_append]
    ·simp [h3]
   ·simp [h2]
  ·simp [h1]
theorem peersOk_impl (N : Nat) (hN : Big N) (n : Node) (hl : logOk n.Log = true) (h : totNode n ≤ 1099511627) : i_peersOk N n = some (peersOk n (others (confOf n) n.Id)) := by
 have hp : n.Peers.length ≤ 1099511627 := by simp only [totNode,totL] at h; omega
 unfold i_peersOk peersOk
 simp only [joinP]
 obtain ⟨k,ys,h1,h2⟩ := othersOf_impl N hN n hl h
 rw [i_peersOk_l1_eq n (by omega) (by omega),show (0 : Int) = ((0 : Nat) : Int) from rfl,peers_ir N n hl n.Peers 0 [] (by simp; omega) (by omega),h1]
 cases hall : n.Peers.all (peerOk (logEnd n.Log)) with
 | false => simp
 | true =>
  simp only [if_true,bO,Sum.elim_inr,List.nil_append,h2,Bool.and_true]
  rw [equal_eq N hN _ _ (by simpa using hp)]
  rfl
theorem peers_sr (N : Nat) (n : Node) (y : Int × Int) (v : List Int) (hv : v.length ≤ 1099511627) (hl : n.Peers.length = v.length) (hy : 0 ≤ y.1 ∧ y.1 ≤ 200000) : ∀ (d k m : Nat),v.length = k + d → d < m → s_NodeOk_l1 N n y v m (k : Int) = some (if (decide ((n.Peers.drop k).map (·.Id) = v.drop k) && (n.Peers.drop k).all (peerOk y.1)) = true then .inr () else .inl false)
 | 0,k,m,h,hm => by
  obtain ⟨m,rfl⟩ : ∃ q,m = q + 1 := ⟨m - 1,by omega⟩
  rw [s_NodeOk_l1,if_neg (by simp; omega),List.drop_eq_nil_of_le (by omega),List.drop_eq_nil_of_le (by omega)]
  rfl
 | d + 1,k,m,h,hm => by
  obtain ⟨m,rfl⟩ : ∃ q,m = q + 1 := ⟨m - 1,by omega⟩
  have hk : k < v.length := by omega
  have hkp : k < n.Peers.length := by omega
  rw [s_NodeOk_l1,if_pos (by simp; omega),at_lt hkp,at_lt hk]
  simp only [bO,in_eq,w64_succ (k := k) (by omega),peers_sr N n y v hv hl hy d (k + 1) m (by omega) (by omega)]
  rw [w64_id (n := y.1 + 1) (by omega) (by omega),List.drop_eq_getElem_cons hk,List.drop_eq_getElem_cons hkp]
  have e : peerOk y.1 n.Peers[k] = (decide (1 ≤ n.Peers[k].Next ∧ n.Peers[k].Next ≤ y.1 + 1) && (decide (0 ≤ n.Peers[k].Match ∧ n.Peers[k].Match ≤ w64 (n.Peers[k].Next - 1)) && decide (0 ≤ n.Peers[k].Sent ∧ n.Peers[k].Sent ≤ 20000))) := rfl
  have hb : (decide ((n.Peers[k] :: n.Peers.drop (k + 1)).map (·.Id) = v[k] :: v.drop (k + 1)) && (n.Peers[k] :: n.Peers.drop (k + 1)).all (peerOk y.1)) = (decide (n.Peers[k].Id = v[k]) && (peerOk y.1 n.Peers[k] && (decide ((n.Peers.drop (k + 1)).map (·.Id) = v.drop (k + 1)) && (n.Peers.drop (k + 1)).all (peerOk y.1)))) := by
   rw [List.map_cons,List.all_cons]
   by_cases h0 : n.Peers[k].Id = v[k]
   ·simp only [h0,List.cons.injEq,true_and,decide_true,Bool.true_and]
    cases peerOk y.1 n.Peers[k] <;> simp
   ·simp only [List.cons.injEq,h0,false_and,decide_false,Bool.false_and]
  rw [hb,e]
  generalize (decide ((n.Peers.drop (k + 1)).map (·.Id) = v.drop (k + 1)) && (n.Peers.drop (k + 1)).all (peerOk y.1)) = z
  by_cases h0 : n.Peers[k].Id = v[k]
  ·by_cases h1 : 1 ≤ n.Peers[k].Next ∧ n.Peers[k].Next ≤ y.1 + 1
   ·by_cases h2 : 0 ≤ n.Peers[k].Match ∧ n.Peers[k].Match ≤ w64 (n.Peers[k].Next - 1)
    ·by_cases h3 : 0 ≤ n.Peers[k].Sent ∧ n.Peers[k].Sent ≤ 20000
     ·simp only [h0,h1,h2,h3,and_self,decide_true,Bool.not_true,Bool.false_eq_true,if_false,Bool.true_and,bne_self_eq_false]
     ·simp [h0,h3]
    ·simp [h0,h2]
   ·simp [h0,h1]
  ·simp [h0]
def nodeOk (n : Node) : Bool := decide (1 ≤ n.Id ∧ n.Id ≤ 4) && (confOk n.Conf && (logOk n.Log && (decide (logTerm n.Log ≤ n.Term ∧ n.Term ≤ 100000) && (decide (0 ≤ n.Vote ∧ n.Vote ≤ 4) && (decide (0 ≤ n.Lead ∧ n.Lead ≤ 4) && (decide (0 ≤ n.Role ∧ n.Role ≤ 2) && (decide (n.Log.Start ≤ n.Commit ∧ n.Commit ≤ logEnd n.Log) && (decide (1 ≤ n.Limit ∧ n.Limit ≤ 20) && (decide (0 ≤ n.Clock ∧ n.Clock ≤ 20) && (rise 1 4 none n.Votes && (decide (n.Role ≠ 1 → n.Votes.length = 0) && (if n.Role = 2 then peersOk n (others (confOf n) n.Id) else decide (n.Peers.length = 0)))))))))))))
theorem votes_r (N : Nat) (n : Node) (hc : n.Votes.length ≤ 1099511627776) : ∀ (d k : Nat),n.Votes.length = k + d → i_NodeOk_l1_r N n (n.Votes.drop k) (k : Int) = some (if rise 1 4 (prev n.Votes k) (n.Votes.drop k) then .inr () else .inl false)
 | 0,k,h => by rw [List.drop_eq_nil_of_le (by omega),i_NodeOk_l1_r]; rfl
 | d + 1,k,h => by
  have hk : k < n.Votes.length := by omega
  rw [rise_drop hk,List.drop_eq_getElem_cons hk,i_NodeOk_l1_r]
  simp only [joinP,bO,within_eq,w64_succ (k := k) (by omega),votes_r N n hc d (k + 1) (by omega)]
  by_cases h1 : (1 : Int) ≤ n.Votes[k] ∧ n.Votes[k] ≤ 4
  ·by_cases h0 : k = 0
   ·subst h0
    simp [h1]
   ·rw [at_pred hk h0 hc]
    have : (0 : Int) < k := by omega
    by_cases h2 : n.Votes[k - 1] < n.Votes[k]
    ·have h3 : ¬ n.Votes[k] ≤ n.Votes[k - 1] := by omega
     simp [h1,h0,h2,h3]
    ·have h3 : n.Votes[k] ≤ n.Votes[k - 1] := by omega
     simp [h1,h0,h2,h3]
  ·simp [h1]
theorem iteF' {b : Bool} {y : Option Bool} {x : Bool} (h : b = true → y = some x) : (if (!b) = true then some false else y) = some (b && x) := by
 cases b with
 | false => rfl
 | true => simpa using h rfl
theorem nodeOk_impl (N : Nat) (hN : Big N) (n : Node) (h : totNode n ≤ 1099511627) : i_NodeOk N n = some (nodeOk n) := by
 have hv : n.Votes.length ≤ 1099511627 := by simp only [totNode,totL] at h; omega
 have hcl : n.Conf.length ≤ 1099511627 := by simp only [totNode,totL] at h; omega
 have hd : totLog n.Log ≤ 1099511627 := by simp only [totNode] at h; omega
 unfold i_NodeOk nodeOk
 simp only [within_eq,bO,confOk_impl N hN n.Conf (by omega),logOk_impl N hN n.Log hd]
 refine iteF' fun _ => iteF' fun _ => iteF' fun hl => ?_
 rw [logLast_impl N hl]
 simp only [bO]
 refine iteF' fun _ => iteF' fun _ => iteF' fun _ => iteF' fun _ => iteF' fun _ => iteF' fun _ => iteF' fun _ => ?_
 simp only [joinP]
 have hr := votes_r N n (by omega) n.Votes.length 0 (by omega)
 rw [List.drop_zero] at hr
 rw [i_NodeOk_l1_eq n (by omega) (by omega),show (0 : Int) = ((0 : Nat) : Int) from rfl,hr,peersOk_impl N hN n hl h]
 simp only [prev,if_true,bO]
 cases rise 1 4 none n.Votes with
 | false => rfl
 | true =>
  have hpe : ((n.Peers.length : Int) == (0 : Int)) = decide (n.Peers.length = 0) := by
   rw [Bool.eq_iff_iff]
   simp only [beq_iff_eq,decide_eq_true_eq]
   omega
  rw [show (((0 : Nat) : Int)) = (0 : Int) from rfl,hpe]
  simp only [if_true,bO,Sum.elim_inr,Bool.true_and]
  generalize decide (n.Peers.length = 0) = q
  by_cases h2 : n.Role = 2
  ·by_cases hvl : n.Votes.length = 0
   ·simp [h2,hvl]
   ·have : 0 < n.Votes.length := by omega
    simp [h2,hvl,this]
  ·by_cases h1 : n.Role = 1
   ·simp [h1]
   ·by_cases hvl : n.Votes.length = 0
    ·simp [h2,h1,hvl]
    ·have : 0 < n.Votes.length := by omega
     simp [h1,hvl,this]
theorem peersOk_len {n : Node} {ids : List Int} (h : n.Peers.length ≠ ids.length) : peersOk n ids = false := by
 unfold peersOk
 have : n.Peers.map (·.Id) ≠ ids := fun he => h (by rw [← he]; simp)
 simp [this]
theorem nodeOk_spec (N : Nat) (hN : Big N) (n : Node) (h : totNode n ≤ 1099511627) : s_NodeOk N n = some (nodeOk n) := by
 have hv : n.Votes.length ≤ 1099511627 := by simp only [totNode,totL] at h; omega
 have hcl : n.Conf.length ≤ 1099511627 := by simp only [totNode,totL] at h; omega
 have hpl : n.Peers.length ≤ 1099511627 := by simp only [totNode,totL] at h; omega
 have hd : totLog n.Log ≤ 1099511627 := by simp only [totNode] at h; omega
 unfold s_NodeOk nodeOk
 simp only [in_eq,bO,confOk_spec N hN n.Conf (by omega),logOk_spec N hN n.Log hd,rise_eq N hN n.Votes 1 4 (by omega)]
 refine iteF' fun _ => iteF' fun _ => iteF' fun hl => ?_
 obtain ⟨a1,a2,a3,a4,a5,a6,a7⟩ := logOk_at hl
 have ht := logTerm_nn hl
 rw [logLast_spec N hl]
 simp only [bO,joinP]
 have hloop : ∀ v : List Int,v.length ≤ 1099511627 → (if ((n.Peers.length : Int) != ((v.length : Nat) : Int)) = true then some false else (s_NodeOk_l1 N n (logEnd n.Log,logTerm n.Log) v N (0 : Int)).bind (Sum.elim (fun v => some v) (fun _ => some true))) = some (peersOk n v) := by
  intro v hvl
  by_cases hlen : n.Peers.length = v.length
  ·rw [if_neg (by simp [hlen]),show (0 : Int) = ((0 : Nat) : Int) from rfl,peers_sr N n _ v hvl hlen (by unfold logEnd; simp only; omega) v.length 0 N (by omega) (by omega)]
   simp only [List.drop_zero]
   unfold peersOk
   cases hq : (decide (n.Peers.map (·.Id) = v) && n.Peers.all (peerOk (logEnd n.Log))) <;> simp
  ·rw [if_pos (by simp; omega),peersOk_len hlen]
 have hco : (confOf n).length ≤ 1099511627 := by
  have := confAt_len (n := n) (i := 100120)
  unfold confOf
  omega
 have hoth : (others (confOf n) n.Id).length ≤ 1099511627 := by
  unfold others
  have := List.length_filter_le (· != n.Id) (confOf n)
  omega
 have hrest : (if (n.Role == (2 : Int)) = true then (s_ConfOf N n).bind fun y_349 => (s_l16Others N y_349 n.Id).bind fun v => (if ((n.Peers.length : Int) != ((v.length : Nat) : Int)) = true then some false else (s_NodeOk_l1 N n (logEnd n.Log,logTerm n.Log) v N (0 : Int)).bind (Sum.elim (fun v => some v) (fun _ => some true))) else (if ((n.Peers.length : Int) != ((([] : List Int).length : Nat) : Int)) = true then some false else (s_NodeOk_l1 N n (logEnd n.Log,logTerm n.Log) [] N (0 : Int)).bind (Sum.elim (fun v => some v) (fun _ => some true)))) = some (if n.Role = 2 then peersOk n (others (confOf n) n.Id) else decide (n.Peers.length = 0)) := by
  by_cases h2 : n.Role = 2
  ·rw [if_pos (by simp [h2]),if_pos h2,confOf_spec N hN n hl h,bO,others_spec N hN (confOf n) n.Id hco,bO,hloop _ hoth]
  ·rw [if_neg (by simp [h2]),if_neg h2,hloop [] (by simp)]
   congr 1
   by_cases hp : n.Peers.length = 0
   ·have : n.Peers = [] := List.eq_nil_of_length_eq_zero hp
    simp [peersOk,this]
   ·rw [peersOk_len (by simpa using hp)]
    simp [hp]
 rw [hrest]
 generalize (if n.Role = 2 then peersOk n (others (confOf n) n.Id) else decide (n.Peers.length = 0)) = z
 by_cases c1 : 0 ≤ n.Term ∧ n.Term ≤ 100000
 ·by_cases c2 : logTerm n.Log ≤ n.Term
  ·have c3 : ¬ n.Term < logTerm n.Log := by omega
   simp only [c1,c2,c3,and_self,decide_true,Bool.not_true,Bool.false_eq_true,if_false,decide_false,Bool.true_and]
   by_cases d1 : 0 ≤ n.Vote ∧ n.Vote ≤ 4 <;> by_cases d2 : 0 ≤ n.Lead ∧ n.Lead ≤ 4 <;> by_cases d3 : 0 ≤ n.Role ∧ n.Role ≤ 2 <;> simp only [d1,d2,d3,and_self,decide_true,decide_false,Bool.not_true,Bool.not_false,Bool.false_eq_true,if_false,if_true,Bool.true_and,Bool.false_and]
   by_cases d4 : n.Log.Start ≤ n.Commit ∧ n.Commit ≤ logEnd n.Log <;> by_cases d5 : 0 ≤ n.Clock ∧ n.Clock ≤ 20 <;> by_cases d6 : 1 ≤ n.Limit ∧ n.Limit ≤ 20 <;> simp only [d4,d5,d6,and_self,decide_true,decide_false,Bool.not_true,Bool.not_false,Bool.false_eq_true,if_false,if_true,Bool.true_and,Bool.false_and]
   cases rise 1 4 none n.Votes with
   | false => rfl
   | true =>
    by_cases h1 : n.Role = 1
    ·simp [h1]
    ·by_cases hvl : n.Votes.length = 0
     ·simp [h1,hvl]
     ·have : 0 < n.Votes.length := by omega
      simp [h1,hvl,this]
  ·have c3 : n.Term < logTerm n.Log := by omega
   have c4 : ¬ (logTerm n.Log ≤ n.Term ∧ n.Term ≤ 100000) := by omega
   simp only [c1,c3,c4,and_self,decide_true,decide_false,Bool.not_true,Bool.false_eq_true,if_false,if_true,Bool.false_and]
   by_cases d1 : 0 ≤ n.Vote ∧ n.Vote ≤ 4 <;> by_cases d2 : 0 ≤ n.Lead ∧ n.Lead ≤ 4 <;> by_cases d3 : 0 ≤ n.Role ∧ n.Role ≤ 2 <;> simp [d1,d2,d3,c2]
 ·have c4 : ¬ (logTerm n.Log ≤ n.Term ∧ n.Term ≤ 100000) := by omega
  simp [c1,c4]
def termAt (l : Log) (i : Int) : Int := if i = l.Start then l.StartTerm else match decide (l.Start < i ∧ i ≤ l.Start + l.Entries.length),l.Entries[(i - l.Start - 1).toNat]? with
 | true,some e => e.Term
 | _,_ => -1
theorem termAt_spec (N : Nat) {l : Log} (hl : logOk l = true) {i : Int} (hi : WI .i64 i) : s_LogTerm N l i = some (termAt l i) := by
 obtain ⟨a1,a2,a3,a4,a5,a6,a7⟩ := logOk_at hl
 have hw := wi hi
 unfold s_LogTerm s_l12Last termAt
 by_cases h0 : i = l.Start
 ·rw [if_pos (by simpa using h0),if_pos h0]
 rw [if_neg (by simpa using h0),if_neg h0]
 simp only [bO]
 rw [w64_id (n := l.Start + l.Entries.length) (by omega) (by omega)]
 by_cases h1 : i < l.Start
 ·have h2 : ¬ (l.Start < i ∧ i ≤ l.Start + l.Entries.length) := by omega
  rw [if_pos (by simpa using h1),decide_eq_false h2]
 ·rw [if_neg (by simpa using h1)]
  by_cases h3 : i > l.Start + l.Entries.length
  ·have h2 : ¬ (l.Start < i ∧ i ≤ l.Start + l.Entries.length) := by omega
   rw [if_pos (by simpa using h3),decide_eq_false h2]
  ·have h2 : l.Start < i ∧ i ≤ l.Start + l.Entries.length := by omega
   have h4 : (i - l.Start - 1).toNat < l.Entries.length := by omega
   rw [if_neg (by simpa using h3),w64_id (n := i - l.Start) (by omega) (by omega),w64_id (by omega) (by omega),decide_eq_true h2,show i - l.Start - 1 = (((i - l.Start - 1).toNat : Nat) : Int) by omega,at_lt h4]
   simp only [bO,Int.toNat_natCast,List.getElem?_eq_getElem h4]
theorem termAt_impl (N : Nat) {l : Log} (hl : logOk l = true) {i : Int} (hi : WI .i64 i) : i_LogTerm N l i = some (termAt l i) := by
 obtain ⟨a1,a2,a3,a4,a5,a6,a7⟩ := logOk_at hl
 have hw := wi hi
 unfold i_LogTerm i_hasEntry termAt
 by_cases h0 : i = l.Start
 ·rw [if_pos (by simpa using h0),if_pos h0]
 rw [if_neg (by simpa using h0),if_neg h0]
 simp only [within_eq,bO]
 by_cases h1 : i > l.Start
 ·rw [if_pos (by simpa using h1),bO,w64_id (n := i - l.Start) (by omega) (by omega)]
  by_cases h3 : i > l.Start + l.Entries.length
  ·have h2 : ¬ (l.Start < i ∧ i ≤ l.Start + l.Entries.length) := by omega
   rw [if_neg (by simp; omega),decide_eq_false h2]
  ·have h2 : l.Start < i ∧ i ≤ l.Start + l.Entries.length := by omega
   have h4 : (i - l.Start - 1).toNat < l.Entries.length := by omega
   rw [if_pos (by simp; omega),w64_id (by omega) (by omega),decide_eq_true h2,show i - l.Start - 1 = (((i - l.Start - 1).toNat : Nat) : Int) by omega,at_lt h4]
   simp only [bO,Int.toNat_natCast,List.getElem?_eq_getElem h4]
 ·have h2 : ¬ (l.Start < i ∧ i ≤ l.Start + l.Entries.length) := by omega
  rw [if_neg (by simpa using h1),bO,if_neg (by simp),decide_eq_false h2]
theorem copy_spec (N : Nat) (n : Node) (h : totNode n ≤ 1099511627) : s_l16Copy N n = some n := by
 simp only [totNode,totLog,totL] at h
 unfold s_l16Copy
 rw [cat_ok (by simp only [List.length_nil]; omega),cat_ok (by simp only [List.length_nil]; omega),cat_ok (by simp only [List.length_nil]; omega),cat_ok (by simp only [List.length_nil]; omega)]
 rfl
theorem copy_impl (N : Nat) (n : Node) (h : totNode n ≤ 1099511627) : i_copyNode N n = some n := by
 simp only [totNode,totLog,totL] at h
 unfold i_copyNode i_copyLog
 rw [cat_ok (by simp only [List.length_nil]; omega),cat_ok (by simp only [List.length_nil]; omega),cat_ok (by simp only [List.length_nil]; omega),cat_ok (by simp only [List.length_nil]; omega)]
 rfl
theorem in_sr (N : Nat) (c : List Int) (y : Int) : ∀ (xs : List Int) (k : Nat),k + xs.length ≤ 1099511627776 → s_l09In_l1_r N c y xs (k : Int) = some (if y ∈ xs then .inl true else .inr ()) := by
 intro xs
 induction xs with
 | nil => intro k _; rfl
 | cons x xs ih =>
  intro k hk
  simp only [List.length_cons] at hk
  rw [s_l09In_l1_r,bO]
  by_cases h : x = y
  ·subst h
   simp
  ·rw [if_neg (by simpa using h),w64_succ (by omega),ih (k + 1) (by omega)]
   have h' : ¬ y = x := fun e => h e.symm
   simp [h']
theorem in_spec (N : Nat) (hN : Big N) (c : List Int) (y : Int) (h : c.length ≤ 1099511627) : s_l09In N c y = some (decide (y ∈ c)) := by
 unfold s_l09In joinP
 rw [s_l09In_l1_eq c y (by omega) (by have := hN; unfold Big at this; omega)]
 have := in_sr N c y c 0 (by omega)
 rw [show (0 : Int) = ((0 : Nat) : Int) from rfl,this]
 simp only [bO]
 by_cases hy : y ∈ c <;> simp [hy]
theorem ix_sr (N : Nat) (c : List Int) (y : Int) : ∀ (xs : List Int) (k : Nat),k + xs.length ≤ 1099511627776 → ∃ q : Nat,L_Index_int_l1_r N c y xs (k : Int) = some (if y ∈ xs then .inl (q : Int) else .inr ()) := by
 intro xs
 induction xs with
 | nil => intro k _; exact ⟨0,rfl⟩
 | cons x xs ih =>
  intro k hk
  simp only [List.length_cons] at hk
  rw [L_Index_int_l1_r,bO]
  by_cases h : y = x
  ·subst h
   exact ⟨k,by simp⟩
  ·obtain ⟨q,hq⟩ := ih (k + 1) (by omega)
   refine ⟨q,?_⟩
   rw [if_neg (by simpa using h),w64_succ (by omega),hq]
   simp [h]
theorem in_impl (N : Nat) (hN : Big N) (c : List Int) (y : Int) (h : c.length ≤ 1099511627) : L_Contains_int N c y = some (decide (y ∈ c)) := by
 unfold L_Contains_int L_Index_int joinP
 rw [L_Index_int_l1_eq c y (by omega) (by have := hN; unfold Big at this; omega)]
 obtain ⟨q,hq⟩ := ix_sr N c y c 0 (by omega)
 rw [show (0 : Int) = ((0 : Nat) : Int) from rfl,hq]
 simp only [bO]
 by_cases hy : y ∈ c
 ·simp [hy]
 ·simp [hy]
def cnt (v : List Int) : List Int → Nat
 | [] => 0
 | x :: xs => (if x ∈ v then 1 else 0) + cnt v xs
theorem cnt_le_len (v : List Int) : ∀ xs : List Int,cnt v xs ≤ xs.length
 | [] => Nat.le_refl _
 | x :: xs => by
  have := cnt_le_len v xs
  simp only [cnt,List.length_cons]
  split <;> omega
def most (c v : List Int) : Bool := confOk c && decide ((2 * cnt v c : Int) > c.length)
theorem most_sr (N : Nat) (hN : Big N) (c v : List Int) (hv : v.length ≤ 1099511627) : ∀ (xs : List Int) (k a : Nat),k + xs.length ≤ 1099511627 → a ≤ k → s_Most_l1_r N c v xs (a : Int) (k : Int) = some ((a + cnt v xs : Nat) : Int) := by
 intro xs
 induction xs with
 | nil => intro k a _ _; rfl
 | cons x xs ih =>
  intro k a hk ha
  simp only [List.length_cons] at hk
  rw [s_Most_l1_r]
  unfold joinP
  simp only [bO,in_spec N hN v x hv,w64_succ (k := k) (by omega),w64_succ (k := a) (by omega)]
  by_cases hx : x ∈ v
  ·rw [if_pos (by simpa using hx),ih (k + 1) (a + 1) (by omega) (by omega)]
   simp only [cnt,if_pos hx]
   congr 2
   omega
  ·rw [if_neg (by simpa using hx),ih (k + 1) a (by omega) (by omega)]
   simp only [cnt,if_neg hx,Nat.zero_add]
theorem most_ir (N : Nat) (hN : Big N) (c v : List Int) (hv : v.length ≤ 1099511627) : ∀ (xs : List Int) (k a : Nat),k + xs.length ≤ 1099511627 → a ≤ k → i_Most_l1_r N c v xs (a : Int) (k : Int) = some ((a + cnt v xs : Nat) : Int) := by
 intro xs
 induction xs with
 | nil => intro k a _ _; rfl
 | cons x xs ih =>
  intro k a hk ha
  simp only [List.length_cons] at hk
  rw [i_Most_l1_r]
  simp only [bO,in_impl N hN v x hv,w64_succ (k := k) (by omega),w64_succ (k := a) (by omega)]
  by_cases hx : x ∈ v
  ·rw [if_pos (by simpa using hx),ih (k + 1) (a + 1) (by omega) (by omega)]
   simp only [cnt,if_pos hx]
   congr 2
   omega
  ·rw [if_neg (by simpa using hx),ih (k + 1) a (by omega) (by omega)]
   simp only [cnt,if_neg hx,Nat.zero_add]
theorem most_spec (N : Nat) (hN : Big N) (c v : List Int) (hc : c.length ≤ 1099511627) (hv : v.length ≤ 1099511627) : s_Most N c v = some (most c v) := by
 have hb := cnt_le_len v c
 have h0 := most_sr N hN c v hv c 0 0 (by omega) (Nat.le_refl _)
 unfold s_Most joinP most
 rw [s_Most_l1_eq c v (by omega) (by have := hN; unfold Big at this; omega)]
 rw [show (0 : Int) = ((0 : Nat) : Int) from rfl,h0]
 simp only [bO,confOk_spec N hN c (by omega),Nat.zero_add]
 rw [w64_id (by omega) (by omega)]
 cases confOk c <;> simp
theorem most_impl (N : Nat) (hN : Big N) (c v : List Int) (hc : c.length ≤ 1099511627) (hv : v.length ≤ 1099511627) : i_Most N c v = some (most c v) := by
 have hb := cnt_le_len v c
 have h0 := most_ir N hN c v hv c 0 0 (by omega) (Nat.le_refl _)
 unfold i_Most joinP most
 rw [i_Most_l1_eq c v (by omega) (by have := hN; unfold Big at this; omega)]
 rw [show (0 : Int) = ((0 : Nat) : Int) from rfl,h0]
 simp only [bO,confOk_impl N hN c (by omega),Nat.zero_add]
 rw [w64_id (by omega) (by omega)]
 cases confOk c <;> simp
theorem wi_of {n : Int} (h0 : -9223372036854775808 ≤ n) (h1 : n ≤ 9223372036854775807) : WI .i64 n := by
 simp only [WI,Lit.wf,beq_iff_eq,decide_eq_true_eq,Bool.and_eq_true]
 exact ⟨h0,h1⟩
theorem peer_next {l : Log} {p : Peer} (h : peerOk (logEnd l) p = true) : 1 ≤ p.Next ∧ p.Next ≤ l.Start + l.Entries.length + 1 := by
 unfold peerOk at h
 simp only [Bool.and_eq_true,decide_eq_true_eq] at h
 have h1 := h.1
 simp only [logEnd] at h1
 exact h1
def sendMsg (n : Node) (p : Peer) : Message :=
 if p.Next ≤ n.Log.Start then ⟨5,n.Id,p.Id,n.Term,n.Log.Start,n.Log.StartTerm,p.Sent,false,[],n.Conf,⟨#[]⟩,false⟩
 else ⟨3,n.Id,p.Id,n.Term,p.Next - 1,termAt n.Log (p.Next - 1),n.Commit,false,(n.Log.Entries.drop (p.Next - n.Log.Start - 1).toNat).take 4,[],⟨#[]⟩,false⟩
theorem send_l1 (N : Nat) (x : TR) (hl : x.n.Log.Entries.length ≤ 120) : ∀ (d m i : Nat) (acc : List Entry),x.n.Log.Entries.length = i + d → d < m → acc.length ≤ 4 →
  s_l16Send_l1 N x m (i : Int) acc = some (acc ++ (x.n.Log.Entries.drop i).take (4 - acc.length)) := by
 intro d
 induction d with
 | zero =>
  intro m i acc hd hm ha
  obtain ⟨m,rfl⟩ : ∃ q,m = q + 1 := ⟨m - 1,by omega⟩
  rw [s_l16Send_l1,if_neg (by simp; omega),List.drop_eq_nil_of_le (by omega)]
  simp
 | succ d ih =>
  intro m i acc hd hm ha
  obtain ⟨m,rfl⟩ : ∃ q,m = q + 1 := ⟨m - 1,by omega⟩
  have hi : i < x.n.Log.Entries.length := by omega
  rw [s_l16Send_l1,if_pos (by simp; omega)]
  by_cases h4 : acc.length < 4
  ·rw [if_pos (by simp; omega),at_lt hi,bO,cat_ok (by simp; omega),bO,w64_succ (by omega),ih m (i + 1) _ (by omega) (by omega) (by simp; omega),List.drop_eq_getElem_cons hi]
   obtain ⟨q,hq⟩ : ∃ q,4 - acc.length = q + 1 := ⟨4 - acc.length - 1,by omega⟩
   rw [hq,List.take_succ_cons]
   simp only [List.length_append,List.length_cons,List.length_nil,List.append_assoc,List.cons_append,List.nil_append]
   rw [show 4 - (acc.length + (0 + 1)) = q by omega]
  ·rw [if_neg (by simp; omega),show 4 - acc.length = 0 by omega]
   simp
theorem send_spec (N : Nat) (hN : Big N) (n : Node) (told : List Message) (p : Peer) (hl : logOk n.Log = true) (hp : peerOk (logEnd n.Log) p = true) (ht : told.length ≤ 1099511627) (hc : n.Conf.length ≤ 1099511627) :
  s_l16Send N ⟨n,told⟩ p = some ⟨n,told ++ [sendMsg n p]⟩ := by
 obtain ⟨a1,a2,a3,a4,a5,a6,a7⟩ := logOk_at hl
 have hp2 := peer_next hp
 unfold s_l16Send s_l16Tell s_l16Tell_i1 joinP sendMsg
 by_cases h1 : p.Next ≤ n.Log.Start
 ·rw [if_pos (by simpa using h1),if_pos h1]
  simp only
  rw [cat_ok (by simp only [List.length_nil]; omega),bO,cat_ok (by simp; omega)]
  rfl
 ·rw [if_neg (by simpa using h1),if_neg h1]
  simp only
  have hw : WI .i64 (p.Next - 1) := wi_of (by omega) (by omega)
  rw [w64_id (n := p.Next - 1) (by omega) (by omega),w64_id (n := p.Next - n.Log.Start) (by omega) (by omega),w64_id (n := p.Next - n.Log.Start - 1) (by omega) (by omega),termAt_spec N hl hw,bO]
  have := send_l1 N ⟨n,told⟩ a5 (n.Log.Entries.length - (p.Next - n.Log.Start - 1).toNat) N (p.Next - n.Log.Start - 1).toNat [] (by simp only; omega) (by have := hN; unfold Big at this; omega) (by simp)
  rw [Int.toNat_of_nonneg (by omega)] at this
  simp only at this
  rw [this,bO]
  rw [cat_ok (by simp; omega)]
  rfl
theorem send_impl (N : Nat) (hN : Big N) (n : Node) (out : List Message) (k : Nat) (p : Peer) (hk : n.Peers[k]? = some p) (hl : logOk n.Log = true) (hp : peerOk (logEnd n.Log) p = true) (ht : out.length ≤ 1099511627) (hc : n.Conf.length ≤ 1099511627) :
  c_send N ⟨n,out⟩ (k : Int) = some ⟨n,out ++ [sendMsg n p]⟩ := by
 obtain ⟨a1,a2,a3,a4,a5,a6,a7⟩ := logOk_at hl
 have hp2 := peer_next hp
 obtain ⟨hkl,hke⟩ := List.getElem?_eq_some_iff.1 hk
 unfold c_send c_tell_i1 c_tell_i2 sendMsg
 simp only [at_lt hkl,hke,bO]
 by_cases h1 : p.Next ≤ n.Log.Start
 ·rw [if_neg (by simp; omega),if_pos h1]
  rw [cat_ok (by simp only [List.length_nil]; omega),bO,cat_ok (by simp; omega)]
  rfl
 ·rw [if_pos (by simp; omega),if_neg h1]
  have hw : WI .i64 (p.Next - 1) := wi_of (by omega) (by omega)
  obtain ⟨d,hd⟩ : ∃ d : Nat,p.Next - n.Log.Start - 1 = d := ⟨(p.Next - n.Log.Start - 1).toNat,by omega⟩
  have hdl : d ≤ n.Log.Entries.length := by omega
  rw [w64_id (n := p.Next - 1) (by omega) (by omega),w64_id (n := p.Next - n.Log.Start) (by omega) (by omega),w64_id (n := p.Next - n.Log.Start - 1) (by omega) (by omega),hd,w64_id (n := (d : Int) + 4) (by omega) (by omega)]
  have hm : (imin ((n.Log.Entries.length : Nat) : Int) ((d : Int) + 4)).toNat - ((d : Int)).toNat = min (n.Log.Entries.length - d) 4 := by
   unfold imin
   split <;> omega
  have hcut : ∃ q,cut? n.Log.Entries (d : Int) (imin ((n.Log.Entries.length : Nat) : Int) ((d : Int) + 4)) = some q := by
   unfold cut? imin
   split
   ·exact ⟨_,if_pos (by omega)⟩
   ·exact ⟨_,if_pos (by omega)⟩
  obtain ⟨q,hq⟩ := hcut
  rw [hq,bO,hm,Int.toNat_natCast]
  have ht4 : (n.Log.Entries.drop d).take (min (n.Log.Entries.length - d) 4) = (n.Log.Entries.drop d).take 4 := by
   rw [← List.length_drop,Nat.min_comm,← List.take_take,List.take_length]
  rw [ht4,cat_ok (by simp; omega),bO,termAt_impl N hl hw,bO,cat_ok (by simp; omega)]
  rfl
theorem sendAll_s_l1 (N : Nat) (hN : Big N) (n : Node) (t0 : List Message) (hl : logOk n.Log = true) (hp : ∀ p ∈ n.Peers,peerOk (logEnd n.Log) p = true) (hc : n.Conf.length ≤ 1099511627) (hq : n.Peers.length ≤ 1000) : ∀ (d m i : Nat) (t : List Message),n.Peers.length = i + d → d < m → t.length + d ≤ 1099511627 →
  s_l16SendAll_l1 N ⟨n,t0⟩ m (i : Int) n.Id n.Term n.Vote n.Role n.Lead n.Log.Start n.Log.StartTerm n.Commit n.Clock n.Limit t = some (n.Id,n.Term,n.Vote,n.Role,n.Lead,n.Log.Start,n.Log.StartTerm,n.Commit,n.Clock,n.Limit,t ++ (n.Peers.drop i).map (sendMsg n)) := by
 intro d
 induction d with
 | zero =>
  intro m i t hd hm ht
  obtain ⟨m,rfl⟩ : ∃ q,m = q + 1 := ⟨m - 1,by omega⟩
  rw [s_l16SendAll_l1,if_neg (by simp; omega),List.drop_eq_nil_of_le (by omega)]
  simp
 | succ d ih =>
  intro m i t hd hm ht
  obtain ⟨m,rfl⟩ : ∃ q,m = q + 1 := ⟨m - 1,by omega⟩
  have hi : i < n.Peers.length := by omega
  have hs := send_spec N hN n t n.Peers[i] hl (hp _ (List.getElem_mem hi)) (by omega) hc
  rw [s_l16SendAll_l1,if_pos (by simp; omega)]
  simp only
  rw [at_lt hi,bO,show (TR.mk (Node.mk n.Id n.Term n.Vote n.Role n.Lead n.Conf (Log.mk n.Log.Start n.Log.StartTerm n.Log.Entries) n.Commit n.Clock n.Limit n.Votes n.Peers) t) = ⟨n,t⟩ from rfl,hs,bO,w64_succ (by omega)]
  simp only
  rw [ih m (i + 1) _ (by omega) (by omega) (by simp; omega),List.drop_eq_getElem_cons hi]
  simp only [List.map_cons,List.append_assoc,List.cons_append,List.nil_append]
theorem sendAll_s (N : Nat) (hN : Big N) (n : Node) (t : List Message) (hl : logOk n.Log = true) (hp : ∀ p ∈ n.Peers,peerOk (logEnd n.Log) p = true) (hc : n.Conf.length ≤ 1099511627) (hq : n.Peers.length ≤ 1000) (ht : t.length ≤ 1099510000) :
  s_l16SendAll N ⟨n,t⟩ = some ⟨n,[] ++ n.Peers.map (sendMsg n)⟩ := by
 have h := sendAll_s_l1 N hN n t hl hp hc hq n.Peers.length N 0 [] (by omega) (by have := hN; unfold Big at this; omega) (by simp only [List.length_nil]; omega)
 unfold s_l16SendAll
 rw [show (0 : Int) = ((0 : Nat) : Int) from rfl]
 simp only
 rw [h,bO]
 rfl
theorem sendAll_s1_l1 (N : Nat) (hN : Big N) (n : Node) (t0 : List Message) (hl : logOk n.Log = true) (hp : ∀ p ∈ n.Peers,peerOk (logEnd n.Log) p = true) (hc : n.Conf.length ≤ 1099511627) (hq : n.Peers.length ≤ 1000) : ∀ (d m i : Nat) (t : List Message),n.Peers.length = i + d → d < m → t.length + d ≤ 1099511627 →
  s_l16SendAll_i1_l1 N ⟨n,t0⟩ m (i : Int) n.Id n.Term n.Vote n.Role n.Lead n.Log.Start n.Log.StartTerm n.Commit n.Clock n.Limit t = some (n.Id,n.Term,n.Vote,n.Role,n.Lead,n.Log.Start,n.Log.StartTerm,n.Commit,n.Clock,n.Limit,t ++ (n.Peers.drop i).map (sendMsg n)) := by
 intro d
 induction d with
 | zero =>
  intro m i t hd hm ht
  obtain ⟨m,rfl⟩ : ∃ q,m = q + 1 := ⟨m - 1,by omega⟩
  rw [s_l16SendAll_i1_l1,if_neg (by simp; omega),List.drop_eq_nil_of_le (by omega)]
  simp
 | succ d ih =>
  intro m i t hd hm ht
  obtain ⟨m,rfl⟩ : ∃ q,m = q + 1 := ⟨m - 1,by omega⟩
  have hi : i < n.Peers.length := by omega
  have hs := send_spec N hN n t n.Peers[i] hl (hp _ (List.getElem_mem hi)) (by omega) hc
  rw [s_l16SendAll_i1_l1,if_pos (by simp; omega)]
  simp only
  rw [at_lt hi,bO,show (TR.mk (Node.mk n.Id n.Term n.Vote n.Role n.Lead n.Conf (Log.mk n.Log.Start n.Log.StartTerm n.Log.Entries) n.Commit n.Clock n.Limit n.Votes n.Peers) t) = ⟨n,t⟩ from rfl,hs,bO,w64_succ (by omega)]
  simp only
  rw [ih m (i + 1) _ (by omega) (by omega) (by simp; omega),List.drop_eq_getElem_cons hi]
  simp only [List.map_cons,List.append_assoc,List.cons_append,List.nil_append]
theorem sendAll_s1 (N : Nat) (hN : Big N) (n : Node) (t : List Message) (hl : logOk n.Log = true) (hp : ∀ p ∈ n.Peers,peerOk (logEnd n.Log) p = true) (hc : n.Conf.length ≤ 1099511627) (hq : n.Peers.length ≤ 1000) (ht : t.length ≤ 1099510000) :
  s_l16SendAll_i1 N ⟨n,t⟩ = some ⟨n,t ++ n.Peers.map (sendMsg n)⟩ := by
 have h := sendAll_s1_l1 N hN n t hl hp hc hq n.Peers.length N 0 t (by omega) (by have := hN; unfold Big at this; omega) (by omega)
 unfold s_l16SendAll_i1
 rw [show (0 : Int) = ((0 : Nat) : Int) from rfl]
 simp only
 rw [h,bO]
 rfl
theorem sendAll_i_l1 (N : Nat) (hN : Big N) (n : Node) (t0 : List Message) (hl : logOk n.Log = true) (hp : ∀ p ∈ n.Peers,peerOk (logEnd n.Log) p = true) (hc : n.Conf.length ≤ 1099511627) (hq : n.Peers.length ≤ 1000) : ∀ (d m i : Nat) (t : List Message),n.Peers.length = i + d → d < m → t.length + d ≤ 1099511627 →
  c_sendAll_l1 N ⟨n,t0⟩ m (i : Int) n.Id n.Term n.Vote n.Role n.Lead n.Log.Start n.Log.StartTerm n.Commit n.Clock n.Limit t = some (n.Id,n.Term,n.Vote,n.Role,n.Lead,n.Log.Start,n.Log.StartTerm,n.Commit,n.Clock,n.Limit,t ++ (n.Peers.drop i).map (sendMsg n)) := by
 intro d
 induction d with
 | zero =>
  intro m i t hd hm ht
  obtain ⟨m,rfl⟩ : ∃ q,m = q + 1 := ⟨m - 1,by omega⟩
  rw [c_sendAll_l1,if_neg (by simp; omega),List.drop_eq_nil_of_le (by omega)]
  simp
 | succ d ih =>
  intro m i t hd hm ht
  obtain ⟨m,rfl⟩ : ∃ q,m = q + 1 := ⟨m - 1,by omega⟩
  have hi : i < n.Peers.length := by omega
  have hs := send_impl N hN n t i n.Peers[i] (List.getElem?_eq_getElem hi) hl (hp _ (List.getElem_mem hi)) (by omega) hc
  rw [c_sendAll_l1,if_pos (by simp; omega)]
  simp only
  rw [show (TK.mk (Node.mk n.Id n.Term n.Vote n.Role n.Lead n.Conf (Log.mk n.Log.Start n.Log.StartTerm n.Log.Entries) n.Commit n.Clock n.Limit n.Votes n.Peers) t) = ⟨n,t⟩ from rfl,hs,bO,w64_succ (by omega)]
  simp only
  rw [ih m (i + 1) _ (by omega) (by omega) (by simp; omega),List.drop_eq_getElem_cons hi]
  simp only [List.map_cons,List.append_assoc,List.cons_append,List.nil_append]
theorem sendAll_i (N : Nat) (hN : Big N) (n : Node) (t : List Message) (hl : logOk n.Log = true) (hp : ∀ p ∈ n.Peers,peerOk (logEnd n.Log) p = true) (hc : n.Conf.length ≤ 1099511627) (hq : n.Peers.length ≤ 1000) (ht : t.length ≤ 1099510000) :
  c_sendAll N ⟨n,t⟩ = some ⟨n,t ++ n.Peers.map (sendMsg n)⟩ := by
 have h := sendAll_i_l1 N hN n t hl hp hc hq n.Peers.length N 0 t (by omega) (by have := hN; unfold Big at this; omega) (by omega)
 unfold c_sendAll
 rw [show (0 : Int) = ((0 : Nat) : Int) from rfl]
 simp only
 rw [h,bO]
 rfl
def ids (n : Node) (i : Int) : List Int := n.Id :: (n.Peers.filter (fun p => decide (p.Match ≥ i))).map (·.Id)
theorem ids_len (n : Node) (i : Int) : (ids n i).length ≤ n.Peers.length + 1 := by
 have := List.length_filter_le (fun p : Peer => decide (p.Match ≥ i)) n.Peers
 simp only [ids,List.length_cons,List.length_map]
 omega
theorem com_sl2 (N : Nat) (x : TR) (i : Int) (hq : x.n.Peers.length ≤ 1000) : ∀ (d m k : Nat) (acc : List Int),x.n.Peers.length = k + d → d < m → acc.length + d ≤ 100000 →
  s_l16Commit_l2 N x i m (k : Int) acc = some (acc ++ ((x.n.Peers.drop k).filter (fun p => decide (p.Match ≥ i))).map (·.Id)) := by
 intro d
 induction d with
 | zero =>
  intro m k acc hd hm ha
  obtain ⟨m,rfl⟩ : ∃ q,m = q + 1 := ⟨m - 1,by omega⟩
  rw [s_l16Commit_l2,if_neg (by simp; omega),List.drop_eq_nil_of_le (by omega)]
  simp
 | succ d ih =>
  intro m k acc hd hm ha
  obtain ⟨m,rfl⟩ : ∃ q,m = q + 1 := ⟨m - 1,by omega⟩
  have hi : k < x.n.Peers.length := by omega
  rw [s_l16Commit_l2,if_pos (by simp; omega)]
  unfold joinP
  simp only [at_lt hi,bO,w64_succ (k := k) (by omega)]
  rw [List.drop_eq_getElem_cons hi]
  by_cases h : x.n.Peers[k].Match ≥ i
  ·rw [if_pos (by simpa using h),cat_ok (by simp; omega),bO,ih m (k + 1) _ (by omega) (by omega) (by simp; omega),List.filter_cons_of_pos (by simpa using h)]
   simp only [List.map_cons,List.append_assoc,List.cons_append,List.nil_append]
  ·rw [if_neg (by simpa using h),ih m (k + 1) _ (by omega) (by omega) (by omega),List.filter_cons_of_neg (by simpa using h)]
theorem com_il2 (N : Nat) (x : TK) (i : Int) (hq : x.n.Peers.length ≤ 1000) : ∀ (d m k : Nat) (acc : List Int),x.n.Peers.length = k + d → d < m → acc.length + d ≤ 100000 →
  c_commit_l2 N x i m (k : Int) acc = some (acc ++ ((x.n.Peers.drop k).filter (fun p => decide (p.Match ≥ i))).map (·.Id)) := by
 intro d
 induction d with
 | zero =>
  intro m k acc hd hm ha
  obtain ⟨m,rfl⟩ : ∃ q,m = q + 1 := ⟨m - 1,by omega⟩
  rw [c_commit_l2,if_neg (by simp; omega),List.drop_eq_nil_of_le (by omega)]
  simp
 | succ d ih =>
  intro m k acc hd hm ha
  obtain ⟨m,rfl⟩ : ∃ q,m = q + 1 := ⟨m - 1,by omega⟩
  have hi : k < x.n.Peers.length := by omega
  rw [c_commit_l2,if_pos (by simp; omega)]
  simp only [at_lt hi,bO,w64_succ (k := k) (by omega)]
  rw [List.drop_eq_getElem_cons hi]
  by_cases h : x.n.Peers[k].Match ≥ i
  ·rw [if_pos (by simpa using h),cat_ok (by simp; omega),bO,ih m (k + 1) _ (by omega) (by omega) (by simp; omega),List.filter_cons_of_pos (by simpa using h)]
   simp only [List.map_cons,List.append_assoc,List.cons_append,List.nil_append]
  ·rw [if_neg (by simpa using h),ih m (k + 1) _ (by omega) (by omega) (by omega),List.filter_cons_of_neg (by simpa using h)]
def good (n : Node) (c : List Int) (i : Int) : Bool := (termAt n.Log i == n.Term) && most c (ids n i)
def comTo (n : Node) (c : List Int) : Nat → Int
 | 0 => n.Commit
 | d + 1 => if good n c (n.Commit + (d + 1 : Nat)) = true then n.Commit + (d + 1 : Nat) else comTo n c d
theorem comTo_le (n : Node) (c : List Int) : ∀ d : Nat,n.Commit ≤ comTo n c d ∧ comTo n c d ≤ n.Commit + d
 | 0 => by simp [comTo]
 | d + 1 => by
  have := comTo_le n c d
  unfold comTo
  split <;> omega
theorem com_sl1 (N : Nat) (hN : Big N) (n : Node) (t : List Message) (c : List Int) (hl : logOk n.Log = true) (hq : n.Peers.length ≤ 1000) (hc : c.length ≤ 1000) (h0 : 0 ≤ n.Commit) : ∀ (d m : Nat),n.Commit + d ≤ 200000 → d + 1 < m →
  s_l16Commit_l1 N ⟨n,t⟩ c m (n.Commit + d) n.Commit = some (comTo n c d) := by
 intro d
 induction d with
 | zero =>
  intro m hb hm
  obtain ⟨m,rfl⟩ : ∃ q,m = q + 1 := ⟨m - 1,by omega⟩
  rw [s_l16Commit_l1,if_neg (by simp)]
  rfl
 | succ d ih =>
  intro m hb hm
  obtain ⟨m,rfl⟩ : ∃ q,m = q + 1 := ⟨m - 1,by omega⟩
  have h2 := com_sl2 N ⟨n,t⟩ (n.Commit + (d + 1 : Nat)) hq n.Peers.length N 0 [n.Id] (by simp only; omega) (by have := hN; unfold Big at this; omega) (by simp; omega)
  have hi : n.Id :: ((n.Peers.drop 0).filter (fun p => decide (p.Match ≥ n.Commit + (d + 1 : Nat)))).map (·.Id) = ids n (n.Commit + (d + 1 : Nat)) := rfl
  simp only [List.cons_append,List.nil_append] at h2
  rw [hi] at h2
  have hll := ids_len n (n.Commit + (d + 1 : Nat))
  have hw : w64 (n.Commit + (d + 1 : Nat) - 1) = n.Commit + d := by rw [w64_id (by omega) (by omega)]; omega
  rw [s_l16Commit_l1,if_pos (by simp; omega)]
  unfold joinP
  rw [show (0 : Int) = ((0 : Nat) : Int) from rfl]
  simp only [h2,bO,termAt_spec N hl (i := n.Commit + (d + 1 : Nat)) (wi_of (by omega) (by omega)),hw,most_spec N hN c (ids n (n.Commit + (d + 1 : Nat))) (by omega) (by omega),ih m (by omega) (by omega)]
  obtain ⟨m,rfl⟩ : ∃ q,m = q + 1 := ⟨m - 1,by omega⟩
  have hdone : s_l16Commit_l1 N ⟨n,t⟩ c (m + 1) (n.Commit + d) (n.Commit + (d + 1 : Nat)) = some (n.Commit + (d + 1 : Nat)) := by
   rw [s_l16Commit_l1,if_neg (by simp; omega)]
  rw [hdone]
  rw [comTo]
  unfold good
  by_cases g1 : termAt n.Log (n.Commit + (d + 1 : Nat)) = n.Term
  ·rw [if_pos (by simpa using g1)]
   by_cases g2 : most c (ids n (n.Commit + (d + 1 : Nat))) = true
   ·rw [if_pos g2,if_pos (by rw [g1,g2,beq_self_eq_true]; rfl)]
   ·rw [if_neg g2,if_neg (by rw [Bool.eq_false_iff.2 g2]; simp)]
  ·rw [if_neg (by simpa using g1),if_neg (by rw [beq_false_of_ne g1]; simp)]
theorem com_il1 (N : Nat) (hN : Big N) (n : Node) (t : List Message) (hl : logOk n.Log = true) (ht : totNode n ≤ 1099511627) (hq : n.Peers.length ≤ 1000) (hc : (confOf n).length ≤ 1000) (h0 : 0 ≤ n.Commit) : ∀ (d m : Nat),n.Commit + d ≤ 200000 → d + 1 < m →
  c_commit_l1 N ⟨n,t⟩ m (n.Commit + d) = some (comTo n (confOf n) d) := by
 intro d
 induction d with
 | zero =>
  intro m hb hm
  obtain ⟨m,rfl⟩ : ∃ q,m = q + 1 := ⟨m - 1,by omega⟩
  rw [c_commit_l1,if_neg (by simp)]
  rfl
 | succ d ih =>
  intro m hb hm
  obtain ⟨m,rfl⟩ : ∃ q,m = q + 1 := ⟨m - 1,by omega⟩
  have h2 := com_il2 N ⟨n,t⟩ (n.Commit + (d + 1 : Nat)) hq n.Peers.length N 0 [n.Id] (by simp only; omega) (by have := hN; unfold Big at this; omega) (by simp; omega)
  have hi : n.Id :: ((n.Peers.drop 0).filter (fun p => decide (p.Match ≥ n.Commit + (d + 1 : Nat)))).map (·.Id) = ids n (n.Commit + (d + 1 : Nat)) := rfl
  simp only [List.cons_append,List.nil_append] at h2
  rw [hi] at h2
  have hll := ids_len n (n.Commit + (d + 1 : Nat))
  have hw : w64 (n.Commit + (d + 1 : Nat) - 1) = n.Commit + d := by rw [w64_id (by omega) (by omega)]; omega
  rw [c_commit_l1,if_pos (by simp; omega)]
  unfold joinP
  rw [show (0 : Int) = ((0 : Nat) : Int) from rfl]
  simp only [h2,bO,termAt_impl N hl (i := n.Commit + (d + 1 : Nat)) (wi_of (by omega) (by omega)),hw,confOf_impl N hN n hl ht,most_impl N hN (confOf n) (ids n (n.Commit + (d + 1 : Nat))) (by omega) (by omega),ih m (by omega) (by omega)]
  rw [comTo]
  unfold good
  by_cases g1 : termAt n.Log (n.Commit + (d + 1 : Nat)) = n.Term
  ·rw [if_pos (by simpa using g1)]
   by_cases g2 : most (confOf n) (ids n (n.Commit + (d + 1 : Nat))) = true
   ·rw [if_pos g2,if_pos (by rw [g1,g2,beq_self_eq_true]; rfl)]
   ·rw [if_neg g2,if_neg (by rw [Bool.eq_false_iff.2 g2]; simp)]
  ·rw [if_neg (by simpa using g1),if_neg (by rw [beq_false_of_ne g1]; simp)]
def confIx : List Entry → Option Nat
 | [] => none
 | e :: es => match confIx es with
  | some q => some (q + 1)
  | none => if (e.Kind == 2) = true then some 0 else none
theorem confIx_snoc (e : Entry) : ∀ es : List Entry,confIx (es ++ [e]) = if (e.Kind == 2) = true then some es.length else confIx es
 | [] => by
  simp only [List.nil_append,confIx]
  split <;> rfl
 | x :: es => by
  simp only [List.cons_append,confIx,confIx_snoc e es,List.length_cons]
  cases (e.Kind == 2) with
  | true => simp
  | false => simp
theorem cix_sr (N : Nat) (x : Node) (hs : 0 ≤ x.Log.Start ∧ x.Log.Start ≤ 100000) : ∀ (es : List Entry) (k : Nat) (acc : Int),k + es.length ≤ 1000 → s_l16ConfIndex_l1_r N x es acc (k : Int) = some (match confIx es with | some q => x.Log.Start + 1 + k + q | none => acc) := by
 intro es
 induction es with
 | nil => intro k acc _; rfl
 | cons e es ih =>
  intro k acc hk
  simp only [List.length_cons] at hk
  rw [s_l16ConfIndex_l1_r]
  unfold joinP
  simp only [bO,w64_succ (k := k) (by omega),ih (k + 1) _ (by omega)]
  rw [w64_id (n := x.Log.Start + 1) (by omega) (by omega),w64_id (n := x.Log.Start + 1 + k) (by omega) (by omega)]
  simp only [confIx]
  cases confIx es with
  | some q =>
   simp only
   split <;> (congr 1; omega)
  | none =>
   simp only
   split <;> simp
theorem cix_ir (N : Nat) (l : Log) (hs : 0 ≤ l.Start ∧ l.Start ≤ 100000) (hl : l.Entries.length ≤ 120) : ∀ (k m : Nat),k ≤ l.Entries.length → k < m → i_lastConf_l1 N l m ((k : Int) - 1) = some (match confIx (l.Entries.take k) with | some q => .inl (l.Start + q + 1) | none => .inr ()) := by
 intro k
 induction k with
 | zero =>
  intro m hk hm
  obtain ⟨m,rfl⟩ : ∃ q,m = q + 1 := ⟨m - 1,by omega⟩
  rw [i_lastConf_l1,if_neg (by simp)]
  rfl
 | succ k ih =>
  intro m hk hm
  obtain ⟨m,rfl⟩ : ∃ q,m = q + 1 := ⟨m - 1,by omega⟩
  have hi : k < l.Entries.length := by omega
  rw [i_lastConf_l1,if_pos (by simp),show ((k + 1 : Nat) : Int) - 1 = (k : Int) by omega,at_lt hi,bO,w64_id (n := l.Start + k) (by omega) (by omega),w64_id (n := l.Start + k + 1) (by omega) (by omega),w64_id (n := (k : Int) - 1) (by omega) (by omega),ih m (by omega) (by omega)]
  rw [List.take_succ_eq_append_getElem hi,confIx_snoc]
  split
  ·simp only [List.length_take,Nat.min_eq_left (show k ≤ l.Entries.length by omega)]
  ·rfl
theorem cix_spec (N : Nat) (hN : Big N) (x : Node) (hl : logOk x.Log = true) : s_l16ConfIndex N x = some (match confIx x.Log.Entries with | some q => x.Log.Start + 1 + q | none => x.Log.Start) := by
 obtain ⟨a1,a2,a3,a4,a5,a6,a7⟩ := logOk_at hl
 have h := cix_sr N x ⟨a1,a2⟩ x.Log.Entries 0 x.Log.Start (by omega)
 unfold s_l16ConfIndex joinP
 rw [s_l16ConfIndex_l1_eq x (by omega) (by have := hN; unfold Big at this; omega)]
 rw [show (0 : Int) = ((0 : Nat) : Int) from rfl,h]
 cases confIx x.Log.Entries with
 | none => rfl
 | some q => simp
theorem cix_impl (N : Nat) (hN : Big N) (l : Log) (hl : logOk l = true) : i_lastConf N l = some (match confIx l.Entries with | some q => l.Start + q + 1 | none => 0) := by
 obtain ⟨a1,a2,a3,a4,a5,a6,a7⟩ := logOk_at hl
 have h := cix_ir N l ⟨a1,a2⟩ a5 l.Entries.length N (Nat.le_refl _) (by have := hN; unfold Big at this; omega)
 unfold i_lastConf joinP
 rw [w64_id (n := (l.Entries.length : Int) - 1) (by omega) (by omega),h,List.take_length]
 cases confIx l.Entries with
 | none => rfl
 | some q => rfl
def fol (n : Node) (v : Int) : Bool := match confIx n.Log.Entries with | some q => decide (n.Log.Start + 1 + q ≤ v) | none => true
def commitN (n : Node) : Node :=
 if n.Role = 2 ∧ n.Id ∉ confOf n ∧ fol n (comTo n (confOf n) (logEnd n.Log - n.Commit).toNat) = true then ⟨n.Id,n.Term,n.Vote,0,0,n.Conf,n.Log,comTo n (confOf n) (logEnd n.Log - n.Commit).toNat,n.Clock,n.Limit,[],[]⟩
 else ⟨n.Id,n.Term,n.Vote,n.Role,n.Lead,n.Conf,n.Log,comTo n (confOf n) (logEnd n.Log - n.Commit).toNat,n.Clock,n.Limit,n.Votes,n.Peers⟩
theorem confOf_len {n : Node} (h : n.Conf.length ≤ 1000) : (confOf n).length ≤ 1000 := by
 have := confAt_len (n := n) (i := 100120)
 unfold confOf
 omega
theorem commit_spec (N : Nat) (hN : Big N) (n : Node) (t : List Message) (hl : logOk n.Log = true) (ht : totNode n ≤ 1099511627) (hq : n.Peers.length ≤ 1000) (hc : n.Conf.length ≤ 1000) (hm : n.Log.Start ≤ n.Commit ∧ n.Commit ≤ logEnd n.Log) : s_l16Commit N ⟨n,t⟩ = some ⟨commitN n,t⟩ := by
 obtain ⟨a1,a2,a3,a4,a5,a6,a7⟩ := logOk_at hl
 have hcl := confOf_len hc
 simp only [logEnd] at hm
 obtain ⟨d,hd⟩ : ∃ d : Nat,n.Log.Start + n.Log.Entries.length = n.Commit + d := ⟨(n.Log.Start + n.Log.Entries.length - n.Commit).toNat,by omega⟩
 have h1 := com_sl1 N hN n t (confOf n) hl hq hcl (by omega) d N (by omega) (by have := hN; unfold Big at this; omega)
 have hb := comTo_le n (confOf n) d
 have hk : (logEnd n.Log - n.Commit).toNat = d := by simp only [logEnd]; omega
 unfold s_l16Commit s_l12Last s_l16Follow joinP commitN
 rw [hk]
 simp only [confOf_spec N hN n hl ht,bO]
 rw [w64_id (n := n.Log.Start + n.Log.Entries.length) (by omega) (by omega),hd,h1]
 simp only [bO,in_spec N hN (confOf n) n.Id (by omega)]
 generalize comTo n (confOf n) d = v at hb
 by_cases hr : n.Role = 2
 ·rw [if_pos (by simpa using hr)]
  by_cases hi : n.Id ∈ confOf n
  ·rw [if_neg (by simpa using hi),if_neg (fun h => h.2.1 hi)]
  ·have hcx := cix_spec N hN (Node.mk n.Id n.Term n.Vote n.Role n.Lead n.Conf n.Log v n.Clock n.Limit n.Votes n.Peers) hl
   rw [if_pos (by simpa using hi)]
   simp only [hcx,bO]
   have hiff : decide ((match confIx n.Log.Entries with | some q => n.Log.Start + 1 + (q : Int) | none => n.Log.Start) ≤ v) = fol n v := by
    unfold fol
    cases hx : confIx n.Log.Entries with
    | none => simp; omega
    | some q => rfl
   rw [hiff]
   by_cases hf : fol n v = true
   ·rw [if_pos hf,if_pos ⟨hr,hi,hf⟩]
   ·rw [if_neg hf,if_neg (fun h => hf h.2.2)]
 ·rw [if_neg (by simpa using hr),if_neg (fun h => hr h.1)]
theorem commit_impl (N : Nat) (hN : Big N) (n : Node) (t : List Message) (hl : logOk n.Log = true) (ht : totNode n ≤ 1099511627) (hq : n.Peers.length ≤ 1000) (hc : n.Conf.length ≤ 1000) (hm : n.Log.Start ≤ n.Commit ∧ n.Commit ≤ logEnd n.Log) (hv : n.Votes = []) : c_commit N ⟨n,t⟩ = some ⟨commitN n,t⟩ := by
 obtain ⟨a1,a2,a3,a4,a5,a6,a7⟩ := logOk_at hl
 have hcl := confOf_len hc
 simp only [logEnd] at hm
 obtain ⟨d,hd⟩ : ∃ d : Nat,n.Log.Start + n.Log.Entries.length = n.Commit + d := ⟨(n.Log.Start + n.Log.Entries.length - n.Commit).toNat,by omega⟩
 have h1 := com_il1 N hN n t hl ht hq hcl (by omega) d N (by omega) (by have := hN; unfold Big at this; omega)
 have hb := comTo_le n (confOf n) d
 have hk : (logEnd n.Log - n.Commit).toNat = d := by simp only [logEnd]; omega
 unfold c_commit i_last joinP commitN
 rw [hk]
 simp only [bO]
 rw [w64_id (n := n.Log.Start + n.Log.Entries.length) (by omega) (by omega),hd,h1]
 simp only [bO]
 generalize comTo n (confOf n) d = v at hb
 have hc2 := confOf_impl N hN (Node.mk n.Id n.Term n.Vote n.Role n.Lead n.Conf n.Log v n.Clock n.Limit n.Votes n.Peers) hl (by simpa only [totNode] using ht)
 have hc3 : confOf (Node.mk n.Id n.Term n.Vote n.Role n.Lead n.Conf n.Log v n.Clock n.Limit n.Votes n.Peers) = confOf n := rfl
 rw [hc3] at hc2
 simp only [hc2,bO,in_impl N hN (confOf n) n.Id (by omega)]
 by_cases hr : n.Role = 2
 ·rw [if_pos (by simpa using hr)]
  by_cases hi : n.Id ∈ confOf n
  ·rw [if_neg (by simpa using hi),if_neg (fun h => h.2.1 hi)]
  ·rw [if_pos (by simpa using hi)]
   simp only [cix_impl N hN n.Log hl,bO]
   have hiff : decide ((match confIx n.Log.Entries with | some q => n.Log.Start + (q : Int) + 1 | none => 0) ≤ v) = fol n v := by
    unfold fol
    cases hx : confIx n.Log.Entries with
    | none => simp; omega
    | some q => exact decide_eq_decide.2 ⟨fun h => by simp only at h; omega,fun h => by simp only; omega⟩
   rw [hiff]
   by_cases hf : fol n v = true
   ·rw [if_pos hf,if_pos ⟨hr,hi,hf⟩,hv]
   ·rw [if_neg hf,if_neg (fun h => hf h.2.2)]
 ·rw [if_neg (by simpa using hr),if_neg (fun h => hr h.1)]
theorem othersOf_len (N : Nat) (hN : Big N) (n : Node) (hl : logOk n.Log = true) (h : totNode n ≤ 1099511627) : ∃ k ys,i_othersOf N n = some (k,ys) ∧ ys.take k = others (confOf n) n.Id ∧ k = (others (confOf n) n.Id).length := by
 unfold i_othersOf
 rw [confOf_impl N hN n hl h,bO]
 have hc : n.Conf.length ≤ 1099511627 := by simp only [totNode,totL] at h; omega
 have hlen := confAt_len (n := n) (i := 100120)
 obtain ⟨k,ys,h1,h2,h3,h4⟩ := del_eq N hN n (confOf n) (by unfold confOf; omega)
 refine ⟨k,ys,?_,h2,h3⟩
 rw [h1,bO]
 simp only [len?]
 rw [if_pos h4]
 rfl
def grown (n : Node) : List Entry := if n.Log.Entries.length < 120 ∧ logEnd n.Log < 100000 then n.Log.Entries ++ [⟨n.Term,1,⟨#[]⟩⟩] else n.Log.Entries
def newLog (n : Node) : Log := ⟨n.Log.Start,n.Log.StartTerm,grown n⟩
def lead1 (n : Node) (ps : List Peer) : Node := ⟨n.Id,n.Term,n.Vote,2,n.Id,n.Conf,newLog n,n.Commit,n.Clock,n.Limit,[],ps⟩
def lead0 (n : Node) : Node := lead1 n ((others (confOf (lead1 n [])) n.Id).map (fun x => ⟨x,logEnd n.Log + 1,0,0⟩))
def leadN (n : Node) : Node := commitN (lead0 n)
theorem termsOk_snoc : ∀ (es : List Entry) (t : Int) (e : Entry),termsOk t es = true → entOk e = true → (match es.getLast? with | some x => x.Term | none => t) ≤ e.Term → termsOk t (es ++ [e]) = true
 | [],t,e,_,he,hl => by
  simp only [List.nil_append,termsOk_cons,he,Bool.true_and,Bool.and_eq_true,decide_eq_true_eq]
  exact ⟨hl,rfl⟩
 | x :: es,t,e,h,he,hl => by
  simp only [List.cons_append,termsOk_cons,Bool.and_eq_true,decide_eq_true_eq] at h ⊢
  refine ⟨h.1,h.2.1,termsOk_snoc es x.Term e h.2.2 he ?_⟩
  cases es with
  | nil => exact hl
  | cons y es =>
   rw [List.getLast?_cons_cons] at hl
   cases hq : (y :: es).getLast? with
   | none => simp at hq
   | some z => rw [hq] at hl; exact hl
theorem newLog_ok {n : Node} (hl : logOk n.Log = true) (ht : logTerm n.Log ≤ n.Term ∧ n.Term ≤ 100000) : logOk (newLog n) = true := by
 obtain ⟨a1,a2,a3,a4,a5,a6,a7⟩ := logOk_at hl
 have h0 := logTerm_nn hl
 unfold newLog grown
 split
 ·rename_i hg
  simp only [logEnd] at hg
  have he : entOk ⟨n.Term,1,⟨#[]⟩⟩ = true := by
   unfold entOk
   simp only [Bool.and_eq_true,decide_eq_true_eq]
   exact ⟨⟨by omega,by omega⟩,by simp⟩
  have h1 := termsOk_snoc n.Log.Entries n.Log.StartTerm ⟨n.Term,1,⟨#[]⟩⟩ a7 he (by have := ht.1; unfold logTerm at this; exact this)
  unfold logOk
  simp only [h1,List.length_append,List.length_cons,List.length_nil,Bool.and_true,Bool.and_eq_true,decide_eq_true_eq]
  refine ⟨⟨a1,a2⟩,⟨a3,a4⟩,by omega,by omega⟩
 ·exact hl
theorem grown_len {n : Node} (h : n.Log.Entries.length ≤ 120) : (grown n).length ≤ 120 ∧ n.Log.Entries.length ≤ (grown n).length := by
 unfold grown
 split
 ·rename_i hg
  simp only [List.length_append,List.length_cons,List.length_nil]
  omega
 ·omega
theorem others_len (c : List Int) (i : Int) : (others c i).length ≤ c.length := List.length_filter_le _ _
theorem sum_snoc {α : Type} {f : α → Nat} {xs : List α} {y : α} : ((xs ++ [y]).map f).sum = (xs.map f).sum + f y := by simp
theorem lead1_tot (n : Node) (ps : List Peer) (hp : ps.length ≤ 1000) : totNode (lead1 n ps) ≤ totNode n + 4000 := by
 have hz : ∀ {α : Type} (xs : List α),(xs.map (fun _ => 0)).sum = 0 := fun xs => by induction xs <;> simp_all
 simp only [lead1,newLog,totNode,totLog,totL,hz,List.length_nil,List.map_nil,List.sum_nil]
 have hps : (ps.map totPeer).sum = 0 := by
  have : totPeer = fun _ => 0 := rfl
  rw [this,hz]
 have hps2 : (n.Peers.map totPeer).sum = 0 := by
  have : totPeer = fun _ => 0 := rfl
  rw [this,hz]
 try simp only [hps,hps2]
 unfold grown
 split
 ·simp only [sum_snoc,List.length_append,List.length_cons,List.length_nil]
  have : totEntry ⟨n.Term,1,⟨#[]⟩⟩ = 0 := rfl
  omega
 ·omega
theorem commitN_log (n : Node) : (commitN n).Log = n.Log := by unfold commitN; split <;> rfl
theorem commitN_conf (n : Node) : (commitN n).Conf = n.Conf := by unfold commitN; split <;> rfl
theorem commitN_peers (n : Node) : (commitN n).Peers = [] ∨ (commitN n).Peers = n.Peers := by
 unfold commitN
 split
 ·exact .inl rfl
 ·exact .inr rfl
theorem room_spec (N : Nat) (x : Node) (hl : logOk x.Log = true) : s_l16Room N x = some (decide (x.Log.Entries.length < 120 ∧ logEnd x.Log < 100000)) := by
 obtain ⟨a1,a2,a3,a4,a5,a6,a7⟩ := logOk_at hl
 unfold s_l16Room s_l12Last logEnd
 by_cases h : x.Log.Entries.length < 120
 ·rw [if_pos (by simp; omega),bO,w64_id (by omega) (by omega)]
  simp [h]
 ·rw [if_neg (by simp; omega)]
  simp [h]
theorem nodeOk_at {n : Node} (h : nodeOk n = true) : (1 ≤ n.Id ∧ n.Id ≤ 4) ∧ confOk n.Conf = true ∧ logOk n.Log = true ∧ (logTerm n.Log ≤ n.Term ∧ n.Term ≤ 100000) ∧ (n.Log.Start ≤ n.Commit ∧ n.Commit ≤ logEnd n.Log) ∧ (1 ≤ n.Limit ∧ n.Limit ≤ 20) ∧ (0 ≤ n.Clock ∧ n.Clock ≤ 20) ∧ (n.Role ≠ 1 → n.Votes.length = 0) ∧ (if n.Role = 2 then peersOk n (others (confOf n) n.Id) else decide (n.Peers.length = 0)) = true := by
 unfold nodeOk at h
 simp only [Bool.and_eq_true,decide_eq_true_eq] at h
 exact ⟨h.1,h.2.1,h.2.2.1,h.2.2.2.1,h.2.2.2.2.2.2.2.1,h.2.2.2.2.2.2.2.2.1,h.2.2.2.2.2.2.2.2.2.1,h.2.2.2.2.2.2.2.2.2.2.2.1,h.2.2.2.2.2.2.2.2.2.2.2.2⟩
def zNode : Node := ⟨0,0,0,0,0,[],⟨0,0,[]⟩,0,0,0,[],[]⟩
theorem lead_sl1 (N : Nat) (e : Int) (he : 0 ≤ e ∧ e ≤ 200000) (c : List Int) (hc : c.length ≤ 1000) : ∀ (d m i : Nat) (acc : List Peer),c.length = i + d → d < m → acc.length + d ≤ 100000 →
  s_l16Lead_l1 N e c m (i : Int) acc = some (acc ++ (c.drop i).map (fun x => ⟨x,e + 1,0,0⟩)) := by
 intro d
 induction d with
 | zero =>
  intro m i acc hd hm ha
  obtain ⟨m,rfl⟩ : ∃ q,m = q + 1 := ⟨m - 1,by omega⟩
  rw [s_l16Lead_l1,if_neg (by simp; omega),List.drop_eq_nil_of_le (by omega)]
  simp
 | succ d ih =>
  intro m i acc hd hm ha
  obtain ⟨m,rfl⟩ : ∃ q,m = q + 1 := ⟨m - 1,by omega⟩
  have hi : i < c.length := by omega
  rw [s_l16Lead_l1,if_pos (by simp; omega),at_lt hi,bO,cat_ok (by simp; omega),bO,w64_succ (by omega),ih m (i + 1) _ (by omega) (by omega) (by simp; omega),w64_id (n := e + 1) (by omega) (by omega),List.drop_eq_getElem_cons hi]
  simp only [List.map_cons,List.append_assoc,List.cons_append,List.nil_append]
theorem lead_il1 (N : Nat) (e : Int) (he : 0 ≤ e ∧ e ≤ 200000) (k : Nat) (ys : List Int) (c : List Int) (hy : ys.take k = c) (hk : k = c.length) (hc : c.length ≤ 1000) : ∀ (d m i : Nat) (acc : List Peer),c.length = i + d → d < m → acc.length + d ≤ 100000 →
  c_lead_l1 N e (k,ys) m (i : Int) acc = some (acc ++ (c.drop i).map (fun x => ⟨x,e + 1,0,0⟩)) := by
 intro d
 induction d with
 | zero =>
  intro m i acc hd hm ha
  obtain ⟨m,rfl⟩ : ∃ q,m = q + 1 := ⟨m - 1,by omega⟩
  rw [c_lead_l1,if_neg (by simp; omega),List.drop_eq_nil_of_le (by omega)]
  simp
 | succ d ih =>
  intro m i acc hd hm ha
  obtain ⟨m,rfl⟩ : ∃ q,m = q + 1 := ⟨m - 1,by omega⟩
  have hi : i < c.length := by omega
  rw [c_lead_l1,if_pos (by simp; omega)]
  simp only [hy]
  rw [at_lt hi,bO,cat_ok (by simp; omega),bO,w64_succ (by omega),ih m (i + 1) _ (by omega) (by omega) (by simp; omega),w64_id (n := e + 1) (by omega) (by omega),List.drop_eq_getElem_cons hi]
  simp only [List.map_cons,List.append_assoc,List.cons_append,List.nil_append]
def tailS (N : Nat) (n : Node) (e : Int) (v : List Entry) : Option TR :=
 (s_ConfOf N (Node.mk n.Id n.Term n.Vote (2 : Int) n.Id n.Conf (Log.mk n.Log.Start n.Log.StartTerm v) n.Commit n.Clock n.Limit ([] : List Int) n.Peers)).bind fun y_229 =>
 (s_l16Others N y_229 n.Id).bind fun y_230 =>
 (s_l16Lead_l1 N e y_230 N (0 : Int) ([] : List Peer)).bind fun v_271 =>
 (s_l16Commit N (TR.mk (Node.mk n.Id n.Term n.Vote (2 : Int) n.Id n.Conf (Log.mk n.Log.Start n.Log.StartTerm v) n.Commit n.Clock n.Limit ([] : List Int) v_271) [])).bind fun y_313 =>
 (s_l16SendAll_i1 N y_313).bind fun y_315 => some y_315
theorem lead_sdef (N : Nat) (n : Node) : s_l16Lead N ⟨n,[]⟩ = (s_l12Last N n.Log).bind fun e => (s_l16Room N (Node.mk n.Id n.Term n.Vote (2 : Int) n.Id n.Conf n.Log n.Commit n.Clock n.Limit ([] : List Int) n.Peers)).bind fun y =>
  if y = true then (cat? n.Log.Entries ([(Entry.mk n.Term (1 : Int) (⟨#[]⟩ : ByteArray))] : List Entry)).bind fun x => tailS N n e x else tailS N n e n.Log.Entries := by
 unfold s_l16Lead joinP tailS
 rfl
def tailI (N : Nat) (n : Node) (e : Int) (v : List Entry) : Option TK :=
 (i_othersOf N (Node.mk n.Id n.Term n.Vote (2 : Int) n.Id n.Conf (Log.mk n.Log.Start n.Log.StartTerm v) n.Commit n.Clock n.Limit ([]) ([]))).bind fun y_349 =>
 (c_lead_l1 N e y_349 N (0 : Int) ([] : (List Peer))).bind fun v_345 =>
 (c_commit N (TK.mk (Node.mk n.Id n.Term n.Vote (2 : Int) n.Id n.Conf (Log.mk n.Log.Start n.Log.StartTerm v) n.Commit n.Clock n.Limit ([] : (List Int)) v_345) ([] : (List Message)))).bind fun y_417 =>
 (c_sendAll N y_417).bind fun y_419 => some y_419
theorem lead_idef (N : Nat) (n : Node) : c_lead N ⟨n,[]⟩ = (i_last N n.Log).bind fun e =>
  if (decide (((n.Log.Entries.length : Nat) : Int) < (120 : Int))) = true then
   (if (decide ((w64 (e + (1 : Int))) ≤ (100000 : Int))) = true then (cat? n.Log.Entries ([(Entry.mk n.Term (1 : Int) (⟨#[]⟩ : ByteArray))] : List Entry)).bind fun x => tailI N n e x else tailI N n e n.Log.Entries)
  else tailI N n e n.Log.Entries := by
 unfold c_lead joinP tailI
 rfl
theorem lead_peers (n : Node) (hl : logOk n.Log = true) : ∀ p ∈ (leadN n).Peers,peerOk (logEnd (leadN n).Log) p = true := by
 obtain ⟨a1,a2,a3,a4,a5,a6,a7⟩ := logOk_at hl
 have hg := grown_len (n := n) a5
 intro p hp
 have hlog : (leadN n).Log = newLog n := by unfold leadN; rw [commitN_log]; rfl
 rcases commitN_peers (lead0 n) with h | h
 ·unfold leadN at hp
  rw [h] at hp
  cases hp
 ·unfold leadN at hp
  rw [h] at hp
  obtain ⟨x,_,rfl⟩ := List.mem_map.1 hp
  rw [hlog]
  unfold peerOk newLog logEnd
  simp only [Bool.and_eq_true,decide_eq_true_eq]
  rw [w64_id (by omega) (by omega)]
  refine ⟨⟨by omega,by omega⟩,⟨by omega,by omega⟩,by omega,by omega⟩
theorem lead0_len (n : Node) (hc : n.Conf.length ≤ 4) : (lead0 n).Peers.length ≤ 4 := by
 have h1 := others_len (confOf (lead1 n [])) n.Id
 have h2 := confAt_len (n := lead1 n []) (i := 100120)
 have h3 : (lead1 n []).Conf = n.Conf := rfl
 show ((others (confOf (lead1 n [])) n.Id).map _).length ≤ 4
 rw [List.length_map]
 rw [h3] at h2
 have h4 : (confOf (lead1 n [])).length ≤ max 4 n.Conf.length := h2
 omega
theorem tail_spec (N : Nat) (hN : Big N) (n : Node) (hl : logOk n.Log = true) (ht : totNode n ≤ 1099500000) (hc : n.Conf.length ≤ 4) (hq : n.Peers.length ≤ 1000) (hm : n.Log.Start ≤ n.Commit ∧ n.Commit ≤ logEnd n.Log) (htm : logTerm n.Log ≤ n.Term ∧ n.Term ≤ 100000) :
  tailS N n (logEnd n.Log) (grown n) = some ⟨leadN n,(leadN n).Peers.map (sendMsg (leadN n))⟩ := by
 obtain ⟨a1,a2,a3,a4,a5,a6,a7⟩ := logOk_at hl
 have hg := grown_len (n := n) a5
 have hl1 := newLog_ok hl htm
 have h0 := lead0_len n hc
 have hcl : (confOf (lead1 n [])).length ≤ 4 := by
  have := confAt_len (n := lead1 n []) (i := 100120)
  have h3 : (lead1 n []).Conf = n.Conf := rfl
  unfold confOf
  rw [h3] at this
  omega
 have hol := others_len (confOf (lead1 n [])) n.Id
 have hc1 := confOf_spec N hN (lead1 n n.Peers) hl1 (by have := lead1_tot n n.Peers hq; omega)
 have hl0 := lead_sl1 N (logEnd n.Log) (by simp only [logEnd]; omega) (others (confOf (lead1 n [])) n.Id) (by omega) (others (confOf (lead1 n [])) n.Id).length N 0 [] (by omega) (by have := hN; unfold Big at this; omega) (by simp; omega)
 have hcm := commit_spec N hN (lead0 n) [] hl1 (by have := lead1_tot n (lead0 n).Peers (by omega); have e : lead1 n (lead0 n).Peers = lead0 n := rfl; rw [e] at this; omega) (by omega) (by show n.Conf.length ≤ 1000; omega) (by show n.Log.Start ≤ n.Commit ∧ n.Commit ≤ logEnd (newLog n); simp only [logEnd,newLog] at hm ⊢; omega)
 have hsa := sendAll_s1 N hN (leadN n) [] (by unfold leadN; rw [commitN_log]; exact hl1) (lead_peers n hl) (by unfold leadN; rw [commitN_conf]; show n.Conf.length ≤ _; omega) (by
  unfold leadN
  rcases commitN_peers (lead0 n) with h | h
  ·rw [h]; exact Nat.zero_le _
  ·rw [h]; omega) (by simp)
 unfold tailS
 rw [show (Node.mk n.Id n.Term n.Vote (2 : Int) n.Id n.Conf (Log.mk n.Log.Start n.Log.StartTerm (grown n)) n.Commit n.Clock n.Limit ([] : List Int) n.Peers) = lead1 n n.Peers from rfl,hc1,bO,show confOf (lead1 n n.Peers) = confOf (lead1 n []) from rfl,others_spec N hN _ _ (by omega),bO,show (0 : Int) = ((0 : Nat) : Int) from rfl,hl0,bO]
 rw [show (Node.mk n.Id n.Term n.Vote (2 : Int) n.Id n.Conf (Log.mk n.Log.Start n.Log.StartTerm (grown n)) n.Commit n.Clock n.Limit ([] : List Int) ([] ++ ((others (confOf (lead1 n [])) n.Id).drop 0).map (fun x => ⟨x,logEnd n.Log + 1,0,0⟩))) = lead0 n from rfl,hcm,bO,show commitN (lead0 n) = leadN n from rfl,hsa]
 rfl
theorem tail_impl (N : Nat) (hN : Big N) (n : Node) (hl : logOk n.Log = true) (ht : totNode n ≤ 1099500000) (hc : n.Conf.length ≤ 4) (hm : n.Log.Start ≤ n.Commit ∧ n.Commit ≤ logEnd n.Log) (htm : logTerm n.Log ≤ n.Term ∧ n.Term ≤ 100000) :
  tailI N n (logEnd n.Log) (grown n) = some ⟨leadN n,(leadN n).Peers.map (sendMsg (leadN n))⟩ := by
 obtain ⟨a1,a2,a3,a4,a5,a6,a7⟩ := logOk_at hl
 have hg := grown_len (n := n) a5
 have hl1 := newLog_ok hl htm
 have h0 := lead0_len n hc
 have hcl : (confOf (lead1 n [])).length ≤ 4 := by
  have := confAt_len (n := lead1 n []) (i := 100120)
  have h3 : (lead1 n []).Conf = n.Conf := rfl
  unfold confOf
  rw [h3] at this
  omega
 have hol := others_len (confOf (lead1 n [])) n.Id
 obtain ⟨k,ys,ho,hy,hk⟩ := othersOf_len N hN (lead1 n []) hl1 (by have := lead1_tot n [] (by simp); omega)
 have hl0 := lead_il1 N (logEnd n.Log) (by simp only [logEnd]; omega) k ys (others (confOf (lead1 n [])) n.Id) hy hk (by omega) (others (confOf (lead1 n [])) n.Id).length N 0 [] (by omega) (by have := hN; unfold Big at this; omega) (by simp; omega)
 have hcm := commit_impl N hN (lead0 n) [] hl1 (by have := lead1_tot n (lead0 n).Peers (by omega); have e : lead1 n (lead0 n).Peers = lead0 n := rfl; rw [e] at this; omega) (by omega) (by show n.Conf.length ≤ 1000; omega) (by show n.Log.Start ≤ n.Commit ∧ n.Commit ≤ logEnd (newLog n); simp only [logEnd,newLog] at hm ⊢; omega) rfl
 have hsa := sendAll_i N hN (leadN n) [] (by unfold leadN; rw [commitN_log]; exact hl1) (lead_peers n hl) (by unfold leadN; rw [commitN_conf]; show n.Conf.length ≤ _; omega) (by
  unfold leadN
  rcases commitN_peers (lead0 n) with h | h
  ·rw [h]; exact Nat.zero_le _
  ·rw [h]; omega) (by simp)
 unfold tailI
 rw [show (Node.mk n.Id n.Term n.Vote (2 : Int) n.Id n.Conf (Log.mk n.Log.Start n.Log.StartTerm (grown n)) n.Commit n.Clock n.Limit ([] : List Int) ([] : List Peer)) = lead1 n [] from rfl,ho,bO,show (0 : Int) = ((0 : Nat) : Int) from rfl,hl0,bO]
 rw [show (Node.mk n.Id n.Term n.Vote (2 : Int) n.Id n.Conf (Log.mk n.Log.Start n.Log.StartTerm (grown n)) n.Commit n.Clock n.Limit ([] : List Int) ([] ++ ((others (confOf (lead1 n [])) n.Id).drop 0).map (fun x => ⟨x,logEnd n.Log + 1,0,0⟩))) = lead0 n from rfl,hcm,bO,show commitN (lead0 n) = leadN n from rfl,hsa]
 rfl
theorem lead_spec (N : Nat) (hN : Big N) (n : Node) (hl : logOk n.Log = true) (ht : totNode n ≤ 1099500000) (hc : n.Conf.length ≤ 4) (hq : n.Peers.length ≤ 1000) (hm : n.Log.Start ≤ n.Commit ∧ n.Commit ≤ logEnd n.Log) (htm : logTerm n.Log ≤ n.Term ∧ n.Term ≤ 100000) :
  s_l16Lead N ⟨n,[]⟩ = some ⟨leadN n,(leadN n).Peers.map (sendMsg (leadN n))⟩ := by
 obtain ⟨a1,a2,a3,a4,a5,a6,a7⟩ := logOk_at hl
 have h := tail_spec N hN n hl ht hc hq hm htm
 have hr := room_spec N (Node.mk n.Id n.Term n.Vote (2 : Int) n.Id n.Conf n.Log n.Commit n.Clock n.Limit ([] : List Int) n.Peers) hl
 rw [lead_sdef]
 unfold s_l12Last
 rw [bO,w64_id (n := n.Log.Start + n.Log.Entries.length) (by omega) (by omega),hr,bO]
 unfold grown at h
 by_cases hg : n.Log.Entries.length < 120 ∧ logEnd n.Log < 100000
 ·rw [if_pos hg] at h
  rw [if_pos (by simpa using hg),cat_ok (by simp; omega),bO]
  exact h
 ·rw [if_neg hg] at h
  rw [if_neg (fun e => hg (by simpa using e))]
  exact h
theorem lead_impl (N : Nat) (hN : Big N) (n : Node) (hl : logOk n.Log = true) (ht : totNode n ≤ 1099500000) (hc : n.Conf.length ≤ 4) (hm : n.Log.Start ≤ n.Commit ∧ n.Commit ≤ logEnd n.Log) (htm : logTerm n.Log ≤ n.Term ∧ n.Term ≤ 100000) :
  c_lead N ⟨n,[]⟩ = some ⟨leadN n,(leadN n).Peers.map (sendMsg (leadN n))⟩ := by
 obtain ⟨a1,a2,a3,a4,a5,a6,a7⟩ := logOk_at hl
 have h := tail_impl N hN n hl ht hc hm htm
 rw [lead_idef]
 unfold i_last
 rw [bO,w64_id (n := n.Log.Start + n.Log.Entries.length) (by omega) (by omega),w64_id (n := n.Log.Start + n.Log.Entries.length + 1) (by omega) (by omega)]
 unfold grown at h
 by_cases h1 : n.Log.Entries.length < 120
 ·rw [if_pos (by simp; omega)]
  by_cases h2 : logEnd n.Log < 100000
  ·rw [if_pos ⟨h1,h2⟩] at h
   simp only [logEnd] at h2 h
   rw [if_pos (by simp; omega),cat_ok (by simp; omega),bO]
   exact h
  ·rw [if_neg (fun e => h2 e.2)] at h
   simp only [logEnd] at h2 h
   rw [if_neg (by simp; omega)]
   exact h
 ·rw [if_neg (fun e => h1 e.1)] at h
  simp only [logEnd] at h
  rw [if_neg (by simp; omega)]
  exact h
def cand (n : Node) (l : Int) : Node := ⟨n.Id,n.Term + 1,n.Id,1,0,n.Conf,n.Log,n.Commit,0,l,[n.Id],n.Peers⟩
def askMsg (c : Node) (x : Int) : Message := ⟨1,c.Id,x,c.Term,logEnd c.Log,logTerm c.Log,0,false,[],[],⟨#[]⟩,false⟩
def rest (n : Node) (l : Int) : Node := ⟨n.Id,n.Term,n.Vote,n.Role,n.Lead,n.Conf,n.Log,n.Commit,0,l,n.Votes,n.Peers⟩
def tickN (n : Node) (l : Int) : Node × List Message × Bool :=
 if nodeOk n = false then (zNode,[],false) else
 if decide (1 ≤ l ∧ l ≤ 20) = false then (zNode,[],false) else
 if n.Role = 2 then (n,n.Peers.map (sendMsg n),true) else
 if n.Clock + 1 < n.Limit then (⟨n.Id,n.Term,n.Vote,n.Role,n.Lead,n.Conf,n.Log,n.Commit,n.Clock + 1,n.Limit,n.Votes,n.Peers⟩,[],true) else
 if n.Id ∉ confOf n then (rest n l,[],true) else
 if n.Term = 100000 then (rest n l,[],true) else
 if most (confOf n) [n.Id] = true then (leadN (cand n l),(leadN (cand n l)).Peers.map (sendMsg (leadN (cand n l))),true) else
 (cand n l,(others (confOf n) n.Id).map (askMsg (cand n l)),true)
theorem tick_sl1 (N : Nat) (n : Node) (l : Int) (c : List Int) (hc : c.length ≤ 1000) : ∀ (d m i : Nat) (t : List Message),c.length = i + d → d < m → t.length + d ≤ 100000 →
  s_Tick_l1 N n n (logEnd n.Log,logTerm n.Log) c m (i : Int) n.Id (n.Term + 1) n.Id 1 0 n.Log.Start n.Log.StartTerm n.Commit 0 l t = some (n.Id,n.Term + 1,n.Id,1,0,n.Log.Start,n.Log.StartTerm,n.Commit,0,l,t ++ (c.drop i).map (askMsg (cand n l))) := by
 intro d
 induction d with
 | zero =>
  intro m i t hd hm ha
  obtain ⟨m,rfl⟩ : ∃ q,m = q + 1 := ⟨m - 1,by omega⟩
  rw [s_Tick_l1,if_neg (by simp; omega),List.drop_eq_nil_of_le (by omega)]
  simp
 | succ d ih =>
  intro m i t hd hm ha
  obtain ⟨m,rfl⟩ : ∃ q,m = q + 1 := ⟨m - 1,by omega⟩
  have hi : i < c.length := by omega
  rw [s_Tick_l1,if_pos (by simp; omega),at_lt hi,bO]
  unfold s_l16Tell
  simp only
  rw [cat_ok (by simp; omega)]
  simp only [bO]
  rw [w64_succ (by omega),ih m (i + 1) _ (by omega) (by omega) (by simp; omega),List.drop_eq_getElem_cons hi]
  simp only [List.map_cons,List.append_assoc,List.cons_append,List.nil_append]
  rfl
theorem tick_il1 (N : Nat) (n : Node) (l : Int) (k : Nat) (ys c : List Int) (hy : ys.take k = c) (hk : k = c.length) (hc : c.length ≤ 1000) : ∀ (d m i : Nat) (t : List Message),c.length = i + d → d < m → t.length + d ≤ 100000 →
  i_Tick_l1 N n n (logEnd n.Log,logTerm n.Log) (k,ys) m (i : Int) n.Id (n.Term + 1) n.Id 1 0 n.Log.Start n.Log.StartTerm n.Commit 0 l t = some (n.Id,n.Term + 1,n.Id,1,0,n.Log.Start,n.Log.StartTerm,n.Commit,0,l,t ++ (c.drop i).map (askMsg (cand n l))) := by
 intro d
 induction d with
 | zero =>
  intro m i t hd hm ha
  obtain ⟨m,rfl⟩ : ∃ q,m = q + 1 := ⟨m - 1,by omega⟩
  rw [i_Tick_l1,if_neg (by simp; omega),List.drop_eq_nil_of_le (by omega)]
  simp
 | succ d ih =>
  intro m i t hd hm ha
  obtain ⟨m,rfl⟩ : ∃ q,m = q + 1 := ⟨m - 1,by omega⟩
  have hi : i < c.length := by omega
  rw [i_Tick_l1,if_pos (by simp; omega)]
  simp only [hy]
  rw [at_lt hi,bO]
  unfold c_tell
  simp only
  rw [cat_ok (by simp; omega)]
  simp only [bO]
  rw [w64_succ (by omega),ih m (i + 1) _ (by omega) (by omega) (by simp; omega),List.drop_eq_getElem_cons hi]
  simp only [List.map_cons,List.append_assoc,List.cons_append,List.nil_append]
  rfl
theorem peers_ok {n : Node} (h : (if n.Role = 2 then peersOk n (others (confOf n) n.Id) else decide (n.Peers.length = 0)) = true) (hr : n.Role = 2) : ∀ p ∈ n.Peers,peerOk (logEnd n.Log) p = true := by
 rw [if_pos hr] at h
 unfold peersOk at h
 simp only [Bool.and_eq_true,List.all_eq_true] at h
 exact h.2
theorem tick_spec (N : Nat) (hN : Big N) (n : Node) (l : Int) (h : totNode n ≤ 1048576) : s_Tick N n l = some (tickN n l) := by
 have hd : n.Conf.length ≤ 1048576 ∧ n.Peers.length ≤ 1048576 := by simp only [totNode,totL] at h; omega
 unfold s_Tick tickN
 rw [nodeOk_spec N hN n (by omega),bO]
 cases hk : nodeOk n with
 | false => rfl
 | true =>
  obtain ⟨k1,k2,k3,k4,k5,k6,k7,k8,k9⟩ := nodeOk_at hk
  have hcl := confOk_len k2
  have hlt := logTerm_nn k3
  obtain ⟨a1,a2,a3,a4,a5,a6,a7⟩ := logOk_at k3
  have hcf : (confOf n).length ≤ 4 := by
   have := confAt_len (n := n) (i := 100120)
   unfold confOf
   omega
  rw [if_neg (by simp),if_neg (by simp),in_eq,bO]
  by_cases hl : 1 ≤ l ∧ l ≤ 20
  ·rw [if_neg (by simp [hl]),if_neg (by simp [hl]),copy_spec N n (by omega),bO]
   by_cases hr : n.Role = 2
   ·have hpl : n.Peers.length ≤ 1000 := by
     rw [if_pos hr] at k9
     unfold peersOk at k9
     simp only [Bool.and_eq_true,decide_eq_true_eq] at k9
     have h1 := congrArg List.length k9.1
     have h2 := others_len (confOf n) n.Id
     rw [List.length_map] at h1
     omega
    rw [if_pos (by simpa using hr),if_pos hr,sendAll_s N hN n [] k3 (peers_ok k9 hr) (by omega) hpl (by simp),bO]
    rfl
   ·have hpl : n.Peers.length = 0 := by
     rw [if_neg hr] at k9
     simpa using k9
    rw [if_neg (by simpa using hr),if_neg hr,w64_id (n := n.Clock + 1) (by omega) (by omega)]
    by_cases hck : n.Clock + 1 < n.Limit
    ·rw [if_pos (by simpa using hck),if_pos hck]
    ·rw [if_neg (by simpa using hck),if_neg hck]
     have hcs := confOf_spec N hN (Node.mk n.Id n.Term n.Vote n.Role n.Lead n.Conf n.Log n.Commit (0 : Int) l n.Votes n.Peers) k3 (by have : totNode (Node.mk n.Id n.Term n.Vote n.Role n.Lead n.Conf n.Log n.Commit (0 : Int) l n.Votes n.Peers) = totNode n := rfl; omega)
     rw [show confOf (Node.mk n.Id n.Term n.Vote n.Role n.Lead n.Conf n.Log n.Commit (0 : Int) l n.Votes n.Peers) = confOf n from rfl] at hcs
     rw [hcs,bO,in_spec N hN (confOf n) n.Id (by omega),bO]
     by_cases hi : n.Id ∈ confOf n
     ·rw [if_neg (by simp [hi]),if_neg (show ¬ (n.Id ∉ confOf n) from fun e => e hi)]
      by_cases ht : n.Term = 100000
      ·rw [if_pos (by simpa using ht),if_pos ht]
       rfl
      ·rw [if_neg (by simpa using ht),if_neg ht,w64_id (n := n.Term + 1) (by omega) (by omega)]
       have hcs2 := confOf_spec N hN (cand n l) k3 (by have : totNode (cand n l) ≤ totNode n + 1 := by { simp only [cand,totNode,totL]; simp; omega }; omega)
       rw [show confOf (cand n l) = confOf n from rfl] at hcs2
       have hel : s_l16Elected N ⟨cand n l,[]⟩ = some (most (confOf n) [n.Id],⟨cand n l,[]⟩) := by
        unfold s_l16Elected
        simp only
        rw [hcs2,bO,most_spec N hN (confOf n) (cand n l).Votes (by omega) (by show ([n.Id] : List Int).length ≤ _; simp),bO]
        rfl
       rw [show (Node.mk n.Id (n.Term + 1) n.Id (1 : Int) (0 : Int) n.Conf n.Log n.Commit (0 : Int) l ([n.Id] : List Int) n.Peers) = cand n l from rfl,hel,bO]
       simp only
       have hm2 : (cand n l).Log.Start ≤ (cand n l).Commit ∧ (cand n l).Commit ≤ logEnd (cand n l).Log := k5
       by_cases hw : most (confOf n) [n.Id] = true
       ·rw [if_pos hw,if_pos hw]
        have hld := lead_spec N hN (cand n l) k3 (by have : totNode (cand n l) ≤ totNode n + 1 := by { simp only [cand,totNode,totL]; simp; omega }; omega) hcl.2 (by show n.Peers.length ≤ 1000; omega) hm2 (by show logTerm n.Log ≤ n.Term + 1 ∧ n.Term + 1 ≤ 100000; omega)
        rw [show (Node.mk (cand n l).Id (cand n l).Term (cand n l).Vote (cand n l).Role (cand n l).Lead n.Conf (Log.mk (cand n l).Log.Start (cand n l).Log.StartTerm n.Log.Entries) (cand n l).Commit (cand n l).Clock (cand n l).Limit ([n.Id] : List Int) n.Peers) = cand n l from rfl,hld,bO]
       ·rw [if_neg hw,if_neg hw]
        rw [show (Log.mk (cand n l).Log.Start (cand n l).Log.StartTerm n.Log.Entries) = n.Log from rfl,logLast_spec N k3,bO,others_spec N hN _ _ (by omega),bO]
        unfold joinP
        have hol := others_len (confOf n) n.Id
        have htk := tick_sl1 N n l (others (confOf n) n.Id) (by omega) (others (confOf n) n.Id).length N 0 [] (by omega) (by have := hN; unfold Big at this; omega) (by simp; omega)
        rw [show (0 : Int) = ((0 : Nat) : Int) from rfl]
        have htk2 : s_Tick_l1 N n n (logEnd n.Log,logTerm n.Log) (others (confOf n) n.Id) N ((0 : Nat) : Int) (cand n l).Id (cand n l).Term (cand n l).Vote (cand n l).Role (cand n l).Lead (cand n l).Log.Start (cand n l).Log.StartTerm (cand n l).Commit (cand n l).Clock (cand n l).Limit [] = _ := htk
        rw [htk2]
        rfl
     ·rw [if_pos (by simp [hi]),if_pos hi]
      rfl
  ·rw [if_pos (by simp [hl]),if_pos (by simp [hl])]
   rfl
theorem sendAll_l1_same (N : Nat) (n : Node) (t : List Message) : ∀ (m : Nat) (i a1 a2 a3 a4 a5 a6 a7 a8 a9 a10 : Int) (ms : List Message),c_sendAll_i1_l1 N ⟨n,t⟩ m i a1 a2 a3 a4 a5 a6 a7 a8 a9 a10 ms = c_sendAll_l1 N ⟨n,[]⟩ m i a1 a2 a3 a4 a5 a6 a7 a8 a9 a10 ms
 | 0,_,_,_,_,_,_,_,_,_,_,_,_ => rfl
 | m + 1,i,a1,a2,a3,a4,a5,a6,a7,a8,a9,a10,ms => by
  rw [c_sendAll_i1_l1,c_sendAll_l1]
  simp only [sendAll_l1_same N n t m]
theorem sendAll_same (N : Nat) (n : Node) (t : List Message) : c_sendAll_i1 N ⟨n,t⟩ = c_sendAll N ⟨n,[]⟩ := by
 unfold c_sendAll_i1 c_sendAll
 simp only [sendAll_l1_same]
theorem lead_l1_same (N : Nat) (e : Int) (y : Nat × List Int) : ∀ (m : Nat) (i : Int) (acc : List Peer),c_lead_i1_l1 N e y m i acc = c_lead_l1 N e y m i acc
 | 0,_,_ => rfl
 | m + 1,i,acc => by
  rw [c_lead_i1_l1,c_lead_l1]
  simp only [lead_l1_same N e y m]
theorem lead_same (N : Nat) (n : Node) (t : List Message) : c_lead_i1 N ⟨n,t⟩ = c_lead N ⟨n,[]⟩ := by
 unfold c_lead_i1 c_lead
 simp only [lead_l1_same]
theorem tick_impl (N : Nat) (hN : Big N) (n : Node) (l : Int) (h : totNode n ≤ 1048576) : i_Tick N n l = some (tickN n l) := by
 have hd : n.Conf.length ≤ 1048576 ∧ n.Peers.length ≤ 1048576 := by simp only [totNode,totL] at h; omega
 unfold i_Tick tickN
 rw [nodeOk_impl N hN n (by omega),bO]
 cases hk : nodeOk n with
 | false => rfl
 | true =>
  obtain ⟨k1,k2,k3,k4,k5,k6,k7,k8,k9⟩ := nodeOk_at hk
  have hcl := confOk_len k2
  have hlt := logTerm_nn k3
  obtain ⟨a1,a2,a3,a4,a5,a6,a7⟩ := logOk_at k3
  have hcf : (confOf n).length ≤ 4 := by
   have := confAt_len (n := n) (i := 100120)
   unfold confOf
   omega
  rw [if_neg (by simp),if_neg (by simp),within_eq,bO]
  by_cases hl : 1 ≤ l ∧ l ≤ 20
  ·rw [if_neg (by simp [hl]),if_neg (by simp [hl]),copy_impl N n (by omega),bO]
   by_cases hr : n.Role = 2
   ·have hpl : n.Peers.length ≤ 1000 := by
     rw [if_pos hr] at k9
     unfold peersOk at k9
     simp only [Bool.and_eq_true,decide_eq_true_eq] at k9
     have h1 := congrArg List.length k9.1
     have h2 := others_len (confOf n) n.Id
     rw [List.length_map] at h1
     omega
    rw [if_pos (by simpa using hr),if_pos hr,sendAll_same,sendAll_i N hN n [] k3 (peers_ok k9 hr) (by omega) hpl (by simp),bO]
    rfl
   ·have hpl : n.Peers.length = 0 := by
     rw [if_neg hr] at k9
     simpa using k9
    rw [if_neg (by simpa using hr),if_neg hr,w64_id (n := n.Clock + 1) (by omega) (by omega)]
    by_cases hck : n.Clock + 1 < n.Limit
    ·rw [if_pos (by simpa using hck),if_pos hck]
    ·rw [if_neg (by simpa using hck),if_neg hck]
     rw [confOf_impl N hN n k3 (by omega),bO,in_impl N hN (confOf n) n.Id (by omega),bO]
     by_cases hi : n.Id ∈ confOf n
     ·rw [if_neg (by simp [hi]),if_neg (show ¬ (n.Id ∉ confOf n) from fun e => e hi)]
      by_cases ht : n.Term = 100000
      ·rw [if_pos (by simp; omega),if_pos ht]
       rfl
      ·rw [if_neg (by simp; omega),if_neg ht,w64_id (n := n.Term + 1) (by omega) (by omega),most_impl N hN (confOf n) [n.Id] (by omega) (by simp),bO]
       have hcd : totNode (cand n l) ≤ totNode n + 1 := by
        simp only [cand,totNode,totL]
        simp
        omega
       have hm2 : (cand n l).Log.Start ≤ (cand n l).Commit ∧ (cand n l).Commit ≤ logEnd (cand n l).Log := k5
       by_cases hw : most (confOf n) [n.Id] = true
       ·rw [if_pos hw,if_pos hw]
        have hld := lead_impl N hN (cand n l) k3 (by omega) hcl.2 hm2 (by show logTerm n.Log ≤ n.Term + 1 ∧ n.Term + 1 ≤ 100000; omega)
        rw [show (Node.mk n.Id (n.Term + 1) n.Id (1 : Int) (0 : Int) n.Conf n.Log n.Commit (0 : Int) l ([n.Id] : List Int) n.Peers) = cand n l from rfl,lead_same,hld,bO]
       ·rw [if_neg hw,if_neg hw]
        obtain ⟨k,ys,ho,hy,hkl⟩ := othersOf_len N hN (cand n l) k3 (by omega)
        rw [show confOf (cand n l) = confOf n from rfl,show (cand n l).Id = n.Id from rfl] at hy hkl
        have hol := others_len (confOf n) n.Id
        have htk := tick_il1 N n l k ys (others (confOf n) n.Id) hy hkl (by omega) (others (confOf n) n.Id).length N 0 [] (by omega) (by have := hN; unfold Big at this; omega) (by simp; omega)
        rw [logLast_impl N k3,bO]
        unfold joinP
        rw [show (Node.mk n.Id (n.Term + 1) n.Id (1 : Int) (0 : Int) n.Conf n.Log n.Commit (0 : Int) l ([n.Id] : List Int) n.Peers) = cand n l from rfl,ho]
        have htk3 : i_Tick_l1 N n n (logEnd n.Log,logTerm n.Log) (k,ys) N (0 : Int) n.Id (n.Term + 1) n.Id 1 0 n.Log.Start n.Log.StartTerm n.Commit 0 l [] = _ := htk
        simp only [bO,htk3]
        rfl
     ·rw [if_pos (by simp [hi]),if_pos hi]
      rfl
  ·rw [if_pos (by simp [hl]),if_pos (by simp [hl])]
   rfl
theorem sum0 {α : Type} {f : α → Nat} (hf : ∀ x,f x = 0) : ∀ xs : List α,(xs.map f).sum = 0
 | [] => rfl
 | x :: xs => by simp [hf x,sum0 hf xs]
theorem sum_sub {f : Entry → Nat} (xs : List Entry) (d k : Nat) : (((xs.drop d).take k).map f).sum ≤ (xs.map f).sum := by
 have h1 : (xs.map f).sum = ((xs.take d).map f).sum + ((xs.drop d).map f).sum := by
  conv => lhs; rw [← List.take_append_drop d xs,List.map_append,List.sum_append]
 have h2 : ((xs.drop d).map f).sum = (((xs.drop d).take k).map f).sum + (((xs.drop d).drop k).map f).sum := by
  conv => lhs; rw [← List.take_append_drop k (xs.drop d),List.map_append,List.sum_append]
 omega
theorem send_small (n : Node) (p : Peer) (hc : n.Conf.length ≤ 4) : (sendMsg n p).Entries.length ≤ 4 ∧ (sendMsg n p).Conf.length ≤ 4 ∧ totMessage (sendMsg n p) ≤ totNode n + 4 := by
 have hz : (⟨#[]⟩ : ByteArray).size = 0 := rfl
 unfold sendMsg
 split
 ·refine ⟨Nat.zero_le _,hc,?_⟩
  simp only [totMessage,totNode,totLog,totL,List.length_nil,List.map_nil,List.sum_nil,hz]
  omega
 ·have hs := sum_sub (f := totEntry) n.Log.Entries (p.Next - n.Log.Start - 1).toNat 4
  have hl : ((n.Log.Entries.drop (p.Next - n.Log.Start - 1).toNat).take 4).length ≤ 4 := by
   rw [List.length_take]
   omega
  refine ⟨hl,Nat.zero_le _,?_⟩
  simp only [totMessage,totNode,totLog,totL,List.length_nil,List.map_nil,List.sum_nil,hz]
  omega
def allConfs : List (List Int) := [[1],[2],[3],[4],[1,2],[1,3],[1,4],[2,3],[2,4],[3,4],[1,2,3],[1,2,4],[1,3,4],[2,3,4],[1,2,3,4]]
theorem conf_all {c : List Int} (h : confOk c = true) : c ∈ allConfs := by
 have hl := confOk_len h
 unfold confOk at h
 simp only [Bool.and_eq_true,decide_eq_true_eq] at h
 obtain ⟨_,_,hr⟩ := h
 have four : ∀ x : Int,1 ≤ x ∧ x ≤ 4 → x = 1 ∨ x = 2 ∨ x = 3 ∨ x = 4 := fun x hx => by omega
 match c,hl,hr with
 | [a],_,hr =>
  simp only [rise_cons,Bool.and_eq_true,decide_eq_true_eq] at hr
  rcases four a hr.1 with rfl | rfl | rfl | rfl <;> decide
 | [a,b],_,hr =>
  simp only [rise_cons,Bool.and_eq_true,decide_eq_true_eq] at hr
  obtain ⟨ha,_,hb,hab,_⟩ := hr
  rcases four a ha with rfl | rfl | rfl | rfl <;> rcases four b hb with rfl | rfl | rfl | rfl <;> first | decide | (exfalso; omega)
 | [a,b,c],_,hr =>
  simp only [rise_cons,Bool.and_eq_true,decide_eq_true_eq] at hr
  obtain ⟨ha,_,hb,hab,hc,hbc,_⟩ := hr
  rcases four a ha with rfl | rfl | rfl | rfl <;> rcases four b hb with rfl | rfl | rfl | rfl <;> first | (exfalso; omega) | (rcases four c hc with rfl | rfl | rfl | rfl <;> first | decide | (exfalso; omega))
 | [a,b,c,d],_,hr =>
  simp only [rise_cons,Bool.and_eq_true,decide_eq_true_eq] at hr
  obtain ⟨ha,_,hb,hab,hc,hbc,hd,hcd,_⟩ := hr
  have : a = 1 ∧ b = 2 ∧ c = 3 ∧ d = 4 := by omega
  obtain ⟨rfl,rfl,rfl,rfl⟩ := this
  decide
def dif (a b : List Int) : Nat := ([1,2,3,4].filter (fun i : Int => decide (i ∈ a) != decide (i ∈ b))).length
def near (a b : List Int) : Bool := decide (dif a b = 1)
def may (a b : List Int) : Bool := if b.length > a.length then decide (b.length = a.length + 1) && !(a.any fun x => !decide (x ∈ b)) else decide (a.length = b.length + 1) && !(b.any fun x => !decide (x ∈ a))
def propLog (n : Node) (e : Entry) : Log := ⟨n.Log.Start,n.Log.StartTerm,n.Log.Entries ++ [e]⟩
def prop1 (n : Node) (e : Entry) (ps : List Peer) : Node := ⟨n.Id,n.Term,n.Vote,n.Role,n.Lead,n.Conf,propLog n e,n.Commit,n.Clock,n.Limit,n.Votes,ps⟩
def newPeer (n : Node) (x : Int) : Peer := ⟨x,logEnd n.Log + 1,0,0⟩
def peerOf (n : Node) (x : Int) : Peer := (n.Peers.find? (fun p => p.Id == x)).getD (newPeer n x)
def prop0 (n : Node) (e : Entry) : Node := prop1 n e ((others (confOf (prop1 n e [])) n.Id).map (peerOf n))
def propA (n : Node) (e : Entry) : Node := commitN (prop0 n e)
theorem fold_find (y : Int) : ∀ (ps : List Peer) (a : Peer),(ps.map (·.Id)).Nodup → ps.foldl (fun a p => if p.Id = y then p else a) a = (ps.find? (fun p => p.Id == y)).getD a
 | [],a,_ => rfl
 | p :: ps,a,h => by
  rw [List.map_cons,List.nodup_cons] at h
  rw [List.foldl_cons,fold_find y ps _ h.2]
  by_cases hp : p.Id = y
  ·rw [if_pos hp,List.find?_cons_of_pos (by simpa using hp)]
   have : ps.find? (fun p => p.Id == y) = none := by
    rw [List.find?_eq_none]
    intro q hq hqy
    exact h.1 (List.mem_map.2 ⟨q,hq,by rw [hp]; simpa using hqy⟩)
   rw [this]
   rfl
  ·rw [if_neg hp,List.find?_cons_of_neg (by simpa using hp)]
theorem prop_sl2 (N : Nat) (n : Node) (v : List Int) (k : Nat) (hk : k < v.length) : ∀ (ps : List Peer) (j : Nat) (a : Peer),j + ps.length ≤ 100000 →
  s_Propose_l2_r N n v (k : Int) ps (j : Int) a.Id a.Next a.Match a.Sent = some ((ps.foldl (fun a p => if p.Id = v[k] then p else a) a).Id,(ps.foldl (fun a p => if p.Id = v[k] then p else a) a).Next,(ps.foldl (fun a p => if p.Id = v[k] then p else a) a).Match,(ps.foldl (fun a p => if p.Id = v[k] then p else a) a).Sent)
 | [],j,a,_ => rfl
 | p :: ps,j,a,h => by
  simp only [List.length_cons] at h
  rw [s_Propose_l2_r]
  simp only [joinP,bO,at_lt hk,w64_succ (k := j) (by omega),List.foldl_cons]
  by_cases hp : p.Id = v[k]
  ·rw [if_pos (by simpa using hp),if_pos hp]
   exact prop_sl2 N n v k hk ps (j + 1) p (by omega)
  ·rw [if_neg (by simpa using hp),if_neg hp]
   exact prop_sl2 N n v k hk ps (j + 1) a (by omega)
theorem prop_sl1 (N : Nat) (hN : Big N) (n : Node) (he : 0 ≤ logEnd n.Log ∧ logEnd n.Log ≤ 200000) (hq : n.Peers.length ≤ 1000) (hd : (n.Peers.map (·.Id)).Nodup) (c : List Int) (hc : c.length ≤ 1000) : ∀ (d m i : Nat) (acc : List Peer),c.length = i + d → d < m → acc.length + d ≤ 100000 →
  s_Propose_l1 N n (logEnd n.Log) c m (i : Int) acc = some (acc ++ (c.drop i).map (peerOf n)) := by
 intro d
 induction d with
 | zero =>
  intro m i acc hd hm ha
  obtain ⟨m,rfl⟩ : ∃ q,m = q + 1 := ⟨m - 1,by omega⟩
  rw [s_Propose_l1,if_neg (by simp; omega),List.drop_eq_nil_of_le (by omega)]
  simp
 | succ d ih =>
  intro m i acc hdd hm ha
  obtain ⟨m,rfl⟩ : ∃ q,m = q + 1 := ⟨m - 1,by omega⟩
  have hi : i < c.length := by omega
  have h2 := prop_sl2 N n c i hi n.Peers 0 (newPeer n c[i]) (by omega)
  rw [fold_find c[i] n.Peers _ hd] at h2
  have h3 : s_Propose_l2 N n c (i : Int) N (0 : Int) c[i] (logEnd n.Log + 1) (0 : Int) (0 : Int) = _ := (s_Propose_l2_eq n c (i : Int) (by omega) (by have := hN; unfold Big at this; omega) c[i] (logEnd n.Log + 1) 0 0).trans h2
  rw [s_Propose_l1,if_pos (by simp; omega)]
  unfold joinP
  simp only
  rw [at_lt hi,bO,w64_id (n := logEnd n.Log + 1) (by omega) (by omega),h3,bO]
  simp only
  rw [cat_ok (by simp; omega),bO,w64_succ (by omega),ih m (i + 1) _ (by omega) (by omega) (by simp; omega),List.drop_eq_getElem_cons hi]
  simp only [List.map_cons,List.append_assoc,List.cons_append,List.nil_append]
  rfl
theorem confsUp_ok (i : Int) : ∀ (es : List Entry) (p : Int) (out : List Int),confOk out = true → confOk (confsUp i es p out) = true
 | [],p,out,h => h
 | e :: es,p,out,h => by
  rw [confsUp]
  split
  ·apply confsUp_ok
   split
   ·rename_i ht
    unfold tells at ht
    simp only [Bool.and_eq_true] at ht
    exact ht.1
   ·exact h
  ·exact h
theorem confOf_ok {n : Node} (h : confOk n.Conf = true) : confOk (confOf n) = true := confsUp_ok _ _ _ _ h
theorem others_nodup {c : List Int} {i : Int} (h : confOk c = true) : (others c i).Nodup := by
 have : ∀ c ∈ allConfs,c.Nodup := by decide
 exact (this c (conf_all h)).filter _
theorem near_r (N : Nat) (hN : Big N) (a b : List Int) (ha : a.length ≤ 1000) (hb : b.length ≤ 1000) (m k : Nat) (i : Int) (h1 : 1 ≤ i) (h2 : i ≤ 4) (hk : k ≤ 4) : s_l16Near_l1 N a b (m + 1) (k : Int) i = s_l16Near_l1 N a b m ((k + (if (decide (i ∈ a) != decide (i ∈ b)) = true then 1 else 0) : Nat) : Int) (i + 1) := by
 rw [s_l16Near_l1,if_pos (by simpa using h2)]
 unfold joinP
 simp only [in_spec N hN a i (by omega),in_spec N hN b i (by omega),bO,w64_succ (k := k) (by omega)]
 rw [w64_id (n := i + 1) (by omega) (by omega)]
 cases decide (i ∈ a) <;> cases decide (i ∈ b) <;> rfl
theorem near_spec (N : Nat) (hN : Big N) (a b : List Int) (ha : a.length ≤ 1000) (hb : b.length ≤ 1000) : s_l16Near N a b = some (near a b) := by
 obtain ⟨m,hm⟩ : ∃ m,N = m + 5 := ⟨N - 5,by have := hN; unfold Big at this; omega⟩
 unfold s_l16Near joinP near dif
 have h0 : s_l16Near_l1 N a b N (0 : Int) (1 : Int) = s_l16Near_l1 N a b (m + 4 + 1) ((0 : Nat) : Int) (1 : Int) := by
  rw [show m + 4 + 1 = N by omega]
  rfl
 rw [h0]
 rw [near_r _ hN a b ha hb (m + 4) 0 1 (by omega) (by omega) (by omega)]
 rw [near_r _ hN a b ha hb (m + 3) _ (1 + 1) (by omega) (by omega) (by split <;> omega)]
 rw [near_r _ hN a b ha hb (m + 2) _ (1 + 1 + 1) (by omega) (by omega) (by split <;> split <;> omega)]
 rw [near_r _ hN a b ha hb (m + 1) _ (1 + 1 + 1 + 1) (by omega) (by omega) (by split <;> split <;> split <;> omega)]
 rw [s_l16Near_l1,if_neg (by simp)]
 simp only [bO]
 simp only [List.filter_cons,List.filter_nil,show (1 : Int) + 1 = 2 from rfl,show (2 : Int) + 1 = 3 from rfl,show (3 : Int) + 1 = 4 from rfl]
 generalize (decide ((1 : Int) ∈ a) != decide ((1 : Int) ∈ b)) = q1
 generalize (decide ((2 : Int) ∈ a) != decide ((2 : Int) ∈ b)) = q2
 generalize (decide ((3 : Int) ∈ a) != decide ((3 : Int) ∈ b)) = q3
 generalize (decide ((4 : Int) ∈ a) != decide ((4 : Int) ∈ b)) = q4
 cases q1 <;> cases q2 <;> cases q3 <;> cases q4 <;> rfl
def mayConf (n : Node) (t : ByteArray) : Bool := (termAt n.Log n.Commit == n.Term) && (fol n n.Commit && near (confOf n) (ints t))
def propN (n : Node) (k : Int) (t : ByteArray) : Node × List Message × Int × Bool :=
 if nodeOk n = false then (zNode,[],0,false) else
 if n.Role ≠ 2 then (zNode,[],0,false) else
 if entOk ⟨n.Term,k,t⟩ = false then (zNode,[],0,false) else
 if ¬ (n.Log.Entries.length < 120 ∧ logEnd n.Log < 100000) then (zNode,[],0,false) else
 if k = 2 ∧ mayConf n t = false then (zNode,[],0,false) else
 (propA n ⟨n.Term,k,t⟩,(propA n ⟨n.Term,k,t⟩).Peers.map (sendMsg (propA n ⟨n.Term,k,t⟩)),logEnd n.Log + 1,true)
theorem propLog_ok {n : Node} {e : Entry} (hl : logOk n.Log = true) (hr : n.Log.Entries.length < 120 ∧ logEnd n.Log < 100000) (he : entOk e = true) (ht : logTerm n.Log ≤ e.Term) : logOk (propLog n e) = true := by
 obtain ⟨a1,a2,a3,a4,a5,a6,a7⟩ := logOk_at hl
 have h1 := termsOk_snoc n.Log.Entries n.Log.StartTerm e a7 he (by unfold logTerm at ht; exact ht)
 simp only [logEnd] at hr
 unfold propLog logOk
 simp only [h1,List.length_append,List.length_cons,List.length_nil,Bool.and_true,Bool.and_eq_true,decide_eq_true_eq]
 refine ⟨⟨a1,a2⟩,⟨a3,a4⟩,by omega,by omega⟩
theorem peers_at {n : Node} (hk : nodeOk n = true) (hr : n.Role = 2) : n.Peers.map (·.Id) = others (confOf n) n.Id ∧ (∀ p ∈ n.Peers,peerOk (logEnd n.Log) p = true) ∧ n.Peers.length ≤ 4 ∧ (n.Peers.map (·.Id)).Nodup := by
 obtain ⟨k1,k2,k3,k4,k5,k6,k7,k8,k9⟩ := nodeOk_at hk
 rw [if_pos hr] at k9
 unfold peersOk at k9
 simp only [Bool.and_eq_true,decide_eq_true_eq,List.all_eq_true] at k9
 have h1 := congrArg List.length k9.1
 have h2 := others_len (confOf n) n.Id
 have h3 := confOk_len (confOf_ok (n := n) k2)
 rw [List.length_map] at h1
 exact ⟨k9.1,k9.2,by omega,by rw [k9.1]; exact others_nodup (confOf_ok k2)⟩
theorem prop0_len {n : Node} {e : Entry} (hc : n.Conf.length ≤ 4) : (prop0 n e).Peers.length ≤ 4 ∧ (confOf (prop1 n e [])).length ≤ 4 := by
 have h1 := others_len (confOf (prop1 n e [])) n.Id
 have h2 := confAt_len (n := prop1 n e []) (i := 100120)
 have h3 : (prop1 n e []).Conf = n.Conf := rfl
 rw [h3] at h2
 have h4 : (confOf (prop1 n e [])).length ≤ max 4 n.Conf.length := h2
 refine ⟨?_,by omega⟩
 show ((others (confOf (prop1 n e [])) n.Id).map _).length ≤ 4
 rw [List.length_map]
 omega
theorem peer_up {a : Int} {p : Peer} (h : peerOk a p = true) : peerOk (a + 1) p = true := by
 unfold peerOk at h ⊢
 simp only [Bool.and_eq_true,decide_eq_true_eq] at h ⊢
 exact ⟨⟨h.1.1,by omega⟩,h.2⟩
theorem prop_peers {n : Node} {e : Entry} (hk : nodeOk n = true) (hr : n.Role = 2) : ∀ p ∈ (propA n e).Peers,peerOk (logEnd (propA n e).Log) p = true := by
 obtain ⟨k1,k2,k3,k4,k5,k6,k7,k8,k9⟩ := nodeOk_at hk
 obtain ⟨a1,a2,a3,a4,a5,a6,a7⟩ := logOk_at k3
 obtain ⟨p1,p2,p3,p4⟩ := peers_at hk hr
 have hlog : (propA n e).Log = propLog n e := by unfold propA; rw [commitN_log]; rfl
 have hend : logEnd (propLog n e) = logEnd n.Log + 1 := by
  simp only [logEnd,propLog,List.length_append,List.length_cons,List.length_nil]
  omega
 intro p hp
 rw [hlog,hend]
 rcases commitN_peers (prop0 n e) with h | h
 ·unfold propA at hp
  rw [h] at hp
  cases hp
 ·unfold propA at hp
  rw [h] at hp
  obtain ⟨x,_,rfl⟩ := List.mem_map.1 hp
  unfold peerOf
  cases hf : n.Peers.find? (fun p => p.Id == x) with
  | some q => exact peer_up (p2 q (List.mem_of_find?_eq_some hf))
  | none =>
   simp only [Option.getD_none,newPeer]
   have hq : 0 ≤ logEnd n.Log ∧ logEnd n.Log ≤ 200000 := by simp only [logEnd]; omega
   unfold peerOk
   simp only [Bool.and_eq_true,decide_eq_true_eq]
   rw [w64_id (by omega) (by omega)]
   refine ⟨⟨by omega,by omega⟩,⟨by omega,by omega⟩,by omega,by omega⟩
theorem prop1_tot {n : Node} {e : Entry} {ps : List Peer} (hp : ps.length ≤ 1000) : totNode (prop1 n e ps) ≤ totNode n + e.Data.size + 4000 := by
 have hps : ∀ qs : List Peer,(qs.map totPeer).sum = 0 := fun qs => by
  have : totPeer = fun _ => 0 := rfl
  rw [this]
  induction qs <;> simp_all
 have he : totEntry e = e.Data.size := by simp [totEntry]
 simp only [prop1,propLog,totNode,totLog,totL,hps,sum_snoc,List.length_append,List.length_cons,List.length_nil,he]
 omega
theorem propA_small {n : Node} {e : Entry} (hc : n.Conf.length ≤ 4) : totNode (propA n e) ≤ totNode n + e.Data.size + 4000 ∧ (propA n e).Conf = n.Conf ∧ (propA n e).Peers.length ≤ 4 := by
 have h0 := (prop0_len (n := n) (e := e) hc).1
 have h1 := prop1_tot (n := n) (e := e) (ps := (prop0 n e).Peers) (by omega)
 have e1 : prop1 n e (prop0 n e).Peers = prop0 n e := rfl
 rw [e1] at h1
 refine ⟨?_,by unfold propA; rw [commitN_conf]; rfl,?_⟩
 ·have : totNode (commitN (prop0 n e)) ≤ totNode (prop0 n e) := by
   unfold commitN
   split
   ·simp only [totNode,totL,List.length_nil,List.map_nil,List.sum_nil]
    omega
   ·simp only [totNode,totL]
    omega
  unfold propA
  omega
 ·unfold propA
  rcases commitN_peers (prop0 n e) with h | h
  ·rw [h]; exact Nat.zero_le _
  ·rw [h]; exact h0
theorem prop_s (N : Nat) (hN : Big N) (n : Node) (e : Entry) (hk : nodeOk n = true) (hr : n.Role = 2) (hq : n.Log.Entries.length < 120 ∧ logEnd n.Log < 100000) (he : entOk e = true) (het : e.Term = n.Term) (h : totNode n ≤ 1048576) (ht : e.Data.size ≤ 1048576) :
  (s_l16Copy N n).bind (fun y_1832 => (s_l12Last N n.Log).bind fun y_1836 => (cat? y_1832.Log.Entries ([e] : List Entry)).bind fun x_1840 =>
   (s_ConfOf N (Node.mk y_1832.Id y_1832.Term y_1832.Vote y_1832.Role y_1832.Lead y_1832.Conf (Log.mk y_1832.Log.Start y_1832.Log.StartTerm x_1840) y_1832.Commit y_1832.Clock y_1832.Limit y_1832.Votes y_1832.Peers)).bind fun y_1847 =>
   (s_l16Others N y_1847 n.Id).bind fun y_1848 =>
   (s_Propose_l1 N n y_1836 y_1848 N (0 : Int) ([] : List Peer)).bind fun v_2636 =>
   (s_l16Commit N (TR.mk (Node.mk y_1832.Id y_1832.Term y_1832.Vote y_1832.Role y_1832.Lead y_1832.Conf (Log.mk y_1832.Log.Start y_1832.Log.StartTerm x_1840) y_1832.Commit y_1832.Clock y_1832.Limit y_1832.Votes v_2636) ([] : (List Message)))).bind fun y_3427 =>
   (s_l16SendAll_i1 N y_3427).bind fun y_3431 => some (y_3431.n,y_3431.told,(w64 (y_1836 + (1 : Int))),true)) = some (propA n e,(propA n e).Peers.map (sendMsg (propA n e)),logEnd n.Log + 1,true) := by
 obtain ⟨k1,k2,k3,k4,k5,k6,k7,k8,k9⟩ := nodeOk_at hk
 obtain ⟨a1,a2,a3,a4,a5,a6,a7⟩ := logOk_at k3
 obtain ⟨p1,p2,p3,p4⟩ := peers_at hk hr
 have hcl := confOk_len k2
 have hl1 := propLog_ok k3 hq he (by omega)
 have h0 := prop0_len (n := n) (e := e) hcl.2
 have hol := others_len (confOf (prop1 n e [])) n.Id
 have hend : 0 ≤ logEnd n.Log ∧ logEnd n.Log ≤ 200000 := by simp only [logEnd]; omega
 have hc1 := confOf_spec N hN (prop1 n e n.Peers) hl1 (by have := prop1_tot (n := n) (e := e) (ps := n.Peers) (by omega); omega)
 have hl0 := prop_sl1 N hN n hend (by omega) p4 (others (confOf (prop1 n e [])) n.Id) (by omega) (others (confOf (prop1 n e [])) n.Id).length N 0 [] (by omega) (by have := hN; unfold Big at this; omega) (by simp; omega)
 have hm : n.Log.Start ≤ n.Commit ∧ n.Commit ≤ logEnd (propLog n e) := by
  have := k5
  simp only [logEnd,propLog,List.length_append,List.length_cons,List.length_nil] at this ⊢
  omega
 have hcm := commit_spec N hN (prop0 n e) [] hl1 (by have := prop1_tot (n := n) (e := e) (ps := (prop0 n e).Peers) (by omega); have e1 : prop1 n e (prop0 n e).Peers = prop0 n e := rfl; rw [e1] at this; omega) (by omega) (by show n.Conf.length ≤ 1000; omega) hm
 have hs := propA_small (n := n) (e := e) hcl.2
 have hsa := sendAll_s1 N hN (propA n e) [] (by unfold propA; rw [commitN_log]; exact hl1) (prop_peers hk hr) (by rw [hs.2.1]; omega) (by omega) (by simp)
 rw [copy_spec N n (by omega),bO]
 unfold s_l12Last
 rw [bO,w64_id (n := n.Log.Start + n.Log.Entries.length) (by omega) (by omega),cat_ok (by simp; omega),bO]
 rw [show (Node.mk n.Id n.Term n.Vote n.Role n.Lead n.Conf (Log.mk n.Log.Start n.Log.StartTerm (n.Log.Entries ++ [e])) n.Commit n.Clock n.Limit n.Votes n.Peers) = prop1 n e n.Peers from rfl,hc1,bO,show confOf (prop1 n e n.Peers) = confOf (prop1 n e []) from rfl,others_spec N hN _ _ (by omega),bO,show n.Log.Start + (n.Log.Entries.length : Int) = logEnd n.Log from rfl,show (0 : Int) = ((0 : Nat) : Int) from rfl,hl0,bO]
 rw [show (Node.mk n.Id n.Term n.Vote n.Role n.Lead n.Conf (Log.mk n.Log.Start n.Log.StartTerm (n.Log.Entries ++ [e])) n.Commit n.Clock n.Limit n.Votes ([] ++ ((others (confOf (prop1 n e [])) n.Id).drop 0).map (peerOf n))) = prop0 n e from rfl,hcm,bO,show commitN (prop0 n e) = propA n e from rfl,hsa,bO,w64_id (n := logEnd n.Log + 1) (by omega) (by omega)]
 rfl
theorem ent_conf {T : Int} {t : ByteArray} (h : entOk ⟨T,2,t⟩ = true) : confOk (ints t) = true := by
 unfold entOk at h
 simp only [Bool.and_eq_true] at h
 simpa using h.2
theorem propose_spec (N : Nat) (hN : Big N) (n : Node) (k : Int) (t : ByteArray) (h : totNode n ≤ 1048576) (ht : t.size ≤ 1048576) : s_Propose N n k t = some (propN n k t) := by
 unfold s_Propose propN
 rw [nodeOk_spec N hN n (by omega),bO]
 cases hk : nodeOk n with
 | false => rfl
 | true =>
  obtain ⟨k1,k2,k3,k4,k5,k6,k7,k8,k9⟩ := nodeOk_at hk
  obtain ⟨a1,a2,a3,a4,a5,a6,a7⟩ := logOk_at k3
  have k5' := k5
  simp only [logEnd] at k5'
  rw [if_neg (show ¬ ((!true) = true) by decide),if_neg (show ¬ (true = false) by decide)]
  by_cases hr : n.Role = 2
  ·rw [if_neg (show ¬ ((n.Role != 2) = true) by simp [hr]),if_neg (show ¬ (n.Role ≠ 2) by simp [hr]),entOk_spec N hN _ (by show t.size ≤ 1099511627; omega),bO]
   cases he : entOk ⟨n.Term,k,t⟩ with
   | false => rfl
   | true =>
    rw [if_neg (show ¬ ((!true) = true) by decide),if_neg (show ¬ (true = false) by decide),room_spec N n k3,bO]
    by_cases hq : n.Log.Entries.length < 120 ∧ logEnd n.Log < 100000
    ·rw [if_neg (show ¬ ((!decide (n.Log.Entries.length < 120 ∧ logEnd n.Log < 100000)) = true) by simpa using hq),if_neg (not_not_intro hq)]
     have hfin := prop_s N hN n ⟨n.Term,k,t⟩ hk hr hq he rfl h ht
     simp only [joinP]
     by_cases h2 : k = 2
     ·subst h2
      have hc := ent_conf he
      rw [if_pos (by simp),readConf_spec N hN t (by omega),bO,termAt_spec N k3 (i := n.Commit) (wi_of (by omega) (by omega)),bO]
      by_cases g1 : termAt n.Log n.Commit = n.Term
      ·rw [if_neg (by simpa using g1),cix_spec N hN n k3,bO]
       have hfol : (decide ((match confIx n.Log.Entries with | some q => n.Log.Start + 1 + (q : Int) | none => n.Log.Start) > n.Commit)) = !fol n n.Commit := by
        unfold fol
        cases hx : confIx n.Log.Entries with
        | none => simp; omega
        | some q =>
         rw [Bool.eq_iff_iff]
         simp only [decide_eq_true_eq,Bool.not_eq_true',decide_eq_false_iff_not]
         omega
       rw [hfol,confOf_spec N hN n k3 (by omega),bO,readConf_1 hc,near_spec N hN _ _ (by have := confOk_len (confOf_ok (n := n) k2); omega) (by have := confOk_len hc; omega),bO]
       cases hf : fol n n.Commit with
       | false =>
        rw [if_pos (by simp),if_pos (by simp [mayConf,hf])]
        rfl
       | true =>
        rw [if_neg (by simp)]
        cases hnr : near (confOf n) (ints t) with
        | false =>
         rw [if_pos (by simp),if_pos (by simp [mayConf,hnr])]
         rfl
        | true =>
         rw [if_neg (by simp),if_neg (by simp [mayConf,hf,hnr,g1])]
         exact hfin
      ·rw [if_pos (by simpa using g1),if_pos (by simp [mayConf,g1])]
       rfl
     ·rw [if_neg (by simpa using h2),if_neg (fun e => h2 e.1)]
      exact hfin
    ·rw [if_pos (show (!decide (n.Log.Entries.length < 120 ∧ logEnd n.Log < 100000)) = true by rw [decide_eq_false hq]; rfl),if_pos hq]
     rfl
  ·rw [if_pos (show (n.Role != 2) = true by simpa using hr),if_pos (show n.Role ≠ 2 from hr)]
   rfl
def behind (l : Log) (b t : Int) : Log := ⟨b,t,if (logOk l && (decide (l.Start ≤ b ∧ b ≤ l.Start + l.Entries.length) && (termAt l b == t))) = true then l.Entries.drop (b - l.Start).toNat else []⟩
theorem behind_spec (N : Nat) (hN : Big N) (l : Log) (b t : Int) (h : totLog l ≤ 1099511627) (hb : WI .i64 b) : s_LogBehind N l b t = some (behind l b t) := by
 unfold s_LogBehind behind
 simp only [joinP,logOk_spec N hN l h,bO,in_eq]
 cases hl : logOk l with
 | false => simp
 | true =>
  obtain ⟨a1,a2,a3,a4,a5,a6,a7⟩ := logOk_at hl
  rw [if_pos rfl]
  unfold s_l12Last
  rw [bO,w64_id (n := l.Start + l.Entries.length) (by omega) (by omega)]
  by_cases h1 : l.Start ≤ b ∧ b ≤ l.Start + l.Entries.length
  ·rw [if_pos (by simpa using h1),termAt_spec N hl hb,bO]
   by_cases h2 : termAt l b = t
   ·rw [if_pos (by simpa using h2),w64_id (by omega) (by omega),show b - l.Start = (((b - l.Start).toNat : Nat) : Int) by omega,drop_ok (by omega),bO,cat_ok (by simp only [List.length_nil,List.length_drop]; omega)]
    have h9 : max (b - l.Start) 0 = b - l.Start := by omega
    simp [h1,h2,h9]
   ·rw [if_neg (by simpa using h2)]
    simp [h2]
  ·rw [if_neg (by simpa using h1)]
   simp [h1]
def settle (n : Node) (i : Int) : Node × Bool := if (nodeOk n && decide (n.Log.Start ≤ i ∧ i ≤ n.Commit)) = true then ({ n with Conf := confAt n i,Log := behind n.Log i (termAt n.Log i) },true) else (zNode,false)
theorem nodeOk_log {n : Node} (h : nodeOk n = true) : logOk n.Log = true := by
 unfold nodeOk at h
 simp only [Bool.and_eq_true] at h
 exact h.2.2.1
theorem settle_spec (N : Nat) (hN : Big N) (n : Node) (i : Int) (h : totNode n ≤ 1099511627) (hi : WI .i64 i) : s_Settle N n i = some (settle n i) := by
 have hd : totLog n.Log ≤ 1099511627 := by simp only [totNode] at h; omega
 unfold s_Settle settle
 simp only [nodeOk_spec N hN n h,in_eq,bO]
 cases hk : nodeOk n with
 | false => rfl
 | true =>
  have hl := nodeOk_log hk
  by_cases h1 : n.Log.Start ≤ i ∧ i ≤ n.Commit
  ·simp only [h1,and_self,decide_true,Bool.not_true,Bool.false_eq_true,if_false,Bool.and_self,if_true,copy_spec N n h,confAt_spec N hN n i hl h,termAt_spec N hl hi,bO,behind_spec N hN n.Log i _ hd hi]
  ·simp only [h1,decide_false,Bool.not_true,Bool.not_false,Bool.false_eq_true,if_false,if_true,Bool.and_false]
   rfl
def newNode (i : Int) (c : List Int) : Node := ⟨i,0,0,0,0,c,⟨0,0,[]⟩,0,0,20,[],[]⟩
def nodeNew (i : Int) (c : List Int) : Node × Bool := if nodeOk (newNode i c) = true then (newNode i c,true) else (zNode,false)
theorem sum_zero {α : Type} : ∀ (xs : List α),(xs.map (fun _ => 0)).sum = 0
 | [] => rfl
 | _ :: xs => by simp [sum_zero xs]
theorem newTot (i : Int) (c : List Int) : totNode (newNode i c) ≤ 2 * c.length + 8 := by
 simp only [newNode,totNode,totLog,totL,sum_zero,List.length_nil,List.map_nil,List.sum_nil]
 omega
theorem new_spec (N : Nat) (hN : Big N) (i : Int) (c : List Int) (h : c.length ≤ 1048576) : s_NodeNew N i c = some (nodeNew i c) := by
 have ht := newTot i c
 unfold s_NodeNew nodeNew
 rw [cat_ok (by simp only [List.length_nil]; omega)]
 simp only [bO,List.nil_append]
 rw [show (Node.mk i 0 0 0 0 c (Log.mk 0 0 []) 0 0 20 [] []) = newNode i c from rfl,nodeOk_spec N hN (newNode i c) (by omega)]
 cases hk : nodeOk (newNode i c) <;> rfl
theorem and_lo (a b : Int) (hb : 0 ≤ b) (hb' : b ≤ 9223372036854775807) : ∃ r,intD .and .i64 a b = some r ∧ 0 ≤ r ∧ r ≤ b := by
 have h1 : ((BitVec.ofInt 64 a &&& BitVec.ofInt 64 b).toNat : Int) ≤ b := by
  rw [BitVec.toNat_and]
  have h2 : (BitVec.ofInt 64 a).toNat &&& (BitVec.ofInt 64 b).toNat ≤ (BitVec.ofInt 64 b).toNat := Nat.and_le_right
  have h3 : ((BitVec.ofInt 64 b).toNat : Int) = b := by
   rw [BitVec.toNat_ofInt]
   omega
  omega
 have h2 : intD .and .i64 a b = some (w64 ((BitVec.ofInt 64 a &&& BitVec.ofInt 64 b).toNat : Int)) := rfl
 rw [w64_id (by omega) (by omega)] at h2
 exact ⟨_,h2,by omega,h1⟩
theorem rem_lo (a : Int) (ha : 0 ≤ a) (b : Int) (hb : 0 < b) : ∃ r,intD .rem .i64 a b = some r ∧ 0 ≤ r ∧ r < b := by
 refine ⟨a.tmod b,?_,Int.tmod_nonneg _ ha,Int.tmod_lt_of_pos _ hb⟩
 unfold intD
 simp only
 rw [if_neg (by omega)]
theorem shr_some (a b : Int) (hb : 0 ≤ b) : ∃ r,intSh .shr .i64 a b = some r := by
 unfold intSh
 simp only
 rw [if_neg (by omega)]
 exact ⟨_,rfl⟩
theorem byte_ok (N : Nat) (c : TU) (h0 : 0 ≤ c.i) (hl : c.b.length ≤ 1099511627776) : ∃ r c',s_l01Byte N c = some (r,c') ∧ 0 ≤ r ∧ r ≤ 255 ∧ c'.b = c.b ∧ 0 ≤ c'.i := by
 unfold s_l01Byte joinP
 obtain ⟨r1,e1⟩ := shr_some (w64 ((w64 (c.h * (6364136223846793005 : Int))) + (1442695040888963407 : Int))) 33 (by decide)
 obtain ⟨r2,e2⟩ := shr_some (w64 ((w64 (c.h * (6364136223846793005 : Int))) + (1442695040888963407 : Int))) 45 (by decide)
 rw [e1,bO,e2,bO]
 obtain ⟨r3,e3⟩ : ∃ r,intD .xor .i64 r1 r2 = some r := ⟨_,rfl⟩
 rw [e3,bO]
 obtain ⟨r4,e4,l4,u4⟩ := and_lo r3 255 (by decide) (by decide)
 rw [e4,bO]
 simp only
 by_cases hi : c.i < c.b.length
 ·have hk : c.i.toNat < c.b.length := by omega
  have e5 : at? c.b c.i = some c.b[c.i.toNat] := by
   have := at_lt (xs := c.b) hk
   rwa [Int.toNat_of_nonneg h0] at this
  rw [if_pos (by simpa using hi),e5,bO]
  obtain ⟨r6,e6,l6,u6⟩ := and_lo (w64 (r4 + w64 c.b[c.i.toNat])) 255 (by decide) (by decide)
  rw [e6,bO]
  exact ⟨_,_,rfl,l6,u6,rfl,by simp only; rw [w64_id (by omega) (by omega)]; omega⟩
 ·rw [if_neg (by simpa using hi)]
  exact ⟨_,_,rfl,l4,u4,rfl,h0⟩
theorem below_ok (N : Nat) (c : TU) (k : Int) (h0 : 0 ≤ c.i) (hl : c.b.length ≤ 1099511627776) : ∃ r c',s_l01Below N c k = some (r,c') ∧ 0 ≤ r ∧ (0 < k → r < k) ∧ (k ≤ 0 → r = 0) ∧ c'.b = c.b ∧ 0 ≤ c'.i := by
 unfold s_l01Below
 by_cases h1 : k ≤ 0
 ·rw [if_pos (by simpa using h1)]
  exact ⟨_,_,rfl,Int.le_refl _,fun h => by omega,fun _ => rfl,rfl,h0⟩
 rw [if_neg (by simpa using h1)]
 by_cases h2 : k ≤ 256
 ·rw [if_pos (by simpa using h2)]
  obtain ⟨r,c',e,l,u,hb,hi⟩ := byte_ok N c h0 hl
  obtain ⟨q,eq,lq,uq⟩ := rem_lo r l k (by omega)
  rw [e,bO,eq,bO]
  exact ⟨_,_,rfl,lq,fun _ => uq,fun h => by omega,hb,hi⟩
 ·rw [if_neg (by simpa using h2)]
  obtain ⟨r1,c1,e1,l1,u1,b1,i1⟩ := byte_ok N c h0 hl
  obtain ⟨r2,c2,e2,l2,u2,b2,i2⟩ := byte_ok N c1 i1 (by rw [b1]; exact hl)
  obtain ⟨r3,c3,e3,l3,u3,b3,i3⟩ := byte_ok N c2 i2 (by rw [b2,b1]; exact hl)
  obtain ⟨r4,c4,e4,l4,u4,b4,i4⟩ := byte_ok N c3 i3 (by rw [b3,b2,b1]; exact hl)
  simp only [e1,e2,e3,e4,bO]
  rw [w64_id (n := r1 * 16777216) (by omega) (by omega),w64_id (n := r2 * 65536) (by omega) (by omega),w64_id (n := r3 * 256) (by omega) (by omega),w64_id (n := r1 * 16777216 + r2 * 65536) (by omega) (by omega),w64_id (n := r1 * 16777216 + r2 * 65536 + r3 * 256) (by omega) (by omega),w64_id (n := r1 * 16777216 + r2 * 65536 + r3 * 256 + r4) (by omega) (by omega)]
  obtain ⟨q,eq,lq,uq⟩ := rem_lo (r1 * 16777216 + r2 * 65536 + r3 * 256 + r4) (by omega) k (by omega)
  rw [eq,bO]
  exact ⟨_,_,rfl,lq,fun _ => uq,fun h => by omega,by rw [b4,b3,b2,b1],i4⟩
theorem new_l1 (N : Nat) (c : List Int) : ∀ (tl : List Int) (x k : Int),∃ h,s_l01New_l1_r N c tl x k = some h := by
 intro tl
 induction tl with
 | nil => exact fun x k => ⟨_,rfl⟩
 | cons a tl ih =>
  intro x k
  rw [s_l01New_l1_r]
  split
  ·obtain ⟨r,e,_,_⟩ := and_lo (w64 ((w64 ((w64 (x * (131 : Int))) + (w64 a))) + (7 : Int))) 1073741823 (by decide) (by decide)
   rw [bO,e,bO]
   exact ih _ _
  ·exact ⟨_,rfl⟩
theorem new_ok (N : Nat) (hN : Big N) (c : List Int) (hl : c.length ≤ 1099511627) : ∃ h,s_l01New N c = some ⟨c,0,h⟩ := by
 unfold s_l01New joinP
 rw [s_l01New_l1_eq c (by omega) (by have := hN; unfold Big at this; omega)]
 obtain ⟨h,e⟩ := new_l1 N c c (w64 ((10301 : Int) + (c.length : Int))) 0
 rw [e]
 exact ⟨_,rfl⟩
theorem places_l1 (N : Nat) : ∀ (d m : Nat) (i : Nat) (c : TU) (acc : List Int),i + d = 12 → d < m → acc.length = i → (∀ y ∈ acc,0 ≤ y ∧ y < 10000) → 0 ≤ c.i → c.b.length ≤ 1099511627776 →
  ∃ out,s_DrawPlaces_l1 N m (i : Int) c.b c.i c.h acc = some out ∧ out.length = 12 ∧ ∀ y ∈ out,0 ≤ y ∧ y < 10000 := by
 intro d
 induction d with
 | zero =>
  intro m i c acc hd hm ha hy h0 hl
  obtain ⟨m,rfl⟩ : ∃ q,m = q + 1 := ⟨m - 1,by omega⟩
  rw [s_DrawPlaces_l1,if_neg (by simp; omega)]
  exact ⟨_,rfl,by omega,hy⟩
 | succ d ih =>
  intro m i c acc hd hm ha hy h0 hl
  obtain ⟨m,rfl⟩ : ∃ q,m = q + 1 := ⟨m - 1,by omega⟩
  rw [s_DrawPlaces_l1,if_pos (by simp; omega)]
  obtain ⟨r,c',e,lr,ur,_,hb,hi⟩ := below_ok N c 10000 h0 hl
  rw [show (TU.mk c.b c.i c.h) = c from rfl,e,bO,cat_ok (by simp; omega),bO,w64_succ (by omega)]
  refine ih m (i + 1) c' (acc ++ [r]) (by omega) (by omega) (by simp; omega) (fun y hq => ?_) hi (by rw [hb]; exact hl)
  rcases List.mem_append.1 hq with hq | hq
  ·exact hy y hq
  ·obtain rfl := List.mem_singleton.1 hq
   exact ⟨lr,ur (by decide)⟩
theorem places_ok (N : Nat) (hN : Big N) (c : List Int) (hl : c.length ≤ 1099511627) : ∃ out,s_DrawPlaces N c = some out ∧ out.length = 12 ∧ ∀ y ∈ out,0 ≤ y ∧ y < 10000 := by
 obtain ⟨h,e⟩ := new_ok N hN c hl
 obtain ⟨r,c',e',_,_,hb,hi⟩ := byte_ok N ⟨c,0,h⟩ (Int.le_refl _) (by simp only; omega)
 unfold s_DrawPlaces joinP
 rw [e,bO,e',bO]
 obtain ⟨out,eo,hlo,hy⟩ := places_l1 N 12 N 0 c' [] rfl (by have := hN; unfold Big at this; omega) rfl (fun _ h => by cases h) hi (by rw [hb]; simp only; omega)
 rw [show (0 : Int) = ((0 : Nat) : Int) from rfl]
 simp only at eo ⊢
 rw [eo,bO]
 exact ⟨out,rfl,hlo,hy⟩
structure Right (n : Node) : Prop where
 id : 1 ≤ n.Id ∧ n.Id ≤ 4
 conf : confOk n.Conf = true
 log : logOk n.Log = true
 term : logTerm n.Log ≤ n.Term ∧ n.Term ≤ 100000
 vote : 0 ≤ n.Vote ∧ n.Vote ≤ 4
 lead : 0 ≤ n.Lead ∧ n.Lead ≤ 4
 role : 0 ≤ n.Role ∧ n.Role ≤ 2
 com : n.Log.Start ≤ n.Commit ∧ n.Commit ≤ logEnd n.Log
 limit : 1 ≤ n.Limit ∧ n.Limit ≤ 20
 clock : 0 ≤ n.Clock ∧ n.Clock ≤ 20
 votes : rise 1 4 none n.Votes = true
 voted : n.Role ≠ 1 → n.Votes = []
 peers : n.Role = 2 → n.Peers.map (·.Id) = others (confOf n) n.Id ∧ ∀ p ∈ n.Peers,peerOk (logEnd n.Log) p = true
 alone : n.Role ≠ 2 → n.Peers = []
theorem right_of {n : Node} (h : nodeOk n = true) : Right n := by
 unfold nodeOk at h
 simp only [Bool.and_eq_true,decide_eq_true_eq] at h
 obtain ⟨h1,h2,h3,h4,h5,h6,h7,h8,h9,h10,h11,h12,h13⟩ := h
 refine ⟨h1,h2,h3,h4,h5,h6,h7,h8,h9,h10,h11,fun hr => List.eq_nil_of_length_eq_zero (h12 hr),fun hr => ?_,fun hr => ?_⟩
 ·rw [if_pos hr] at h13
  unfold peersOk at h13
  simp only [Bool.and_eq_true,decide_eq_true_eq,List.all_eq_true] at h13
  exact h13
 ·rw [if_neg hr] at h13
  exact List.eq_nil_of_length_eq_zero (by simpa using h13)
theorem Right.ok {n : Node} (h : Right n) : nodeOk n = true := by
 unfold nodeOk
 simp only [Bool.and_eq_true,decide_eq_true_eq]
 refine ⟨h.id,h.conf,h.log,h.term,h.vote,h.lead,h.role,h.com,h.limit,h.clock,h.votes,fun hr => by rw [h.voted hr]; rfl,?_⟩
 by_cases hr : n.Role = 2
 ·rw [if_pos hr]
  unfold peersOk
  simp only [Bool.and_eq_true,decide_eq_true_eq,List.all_eq_true]
  exact h.peers hr
 ·rw [if_neg hr,h.alone hr]
  rfl
theorem ent_small {e : Entry} (h : entOk e = true) : e.Data.size ≤ 120 := by
 unfold entOk at h
 simp only [Bool.and_eq_true,decide_eq_true_eq] at h
 have h2 := h.2
 by_cases k1 : e.Kind = 1
 ·rw [if_pos k1] at h2
  simp only [decide_eq_true_eq] at h2
  rw [h2]
  exact Nat.zero_le _
 rw [if_neg k1] at h2
 by_cases k2 : e.Kind = 2
 ·rw [if_pos k2] at h2
  have := confOk_len h2
  rw [ints_len] at this
  omega
 rw [if_neg k2] at h2
 by_cases k3 : e.Kind = 3
 ·rw [if_pos k3] at h2
  simpa using h2
 ·rw [if_neg k3] at h2
  cases h2
theorem sum_le {α : Type} {f : α → Nat} {B : Nat} : ∀ {xs : List α},(∀ x ∈ xs,f x ≤ B) → (xs.map f).sum ≤ B * xs.length
 | [],_ => by simp
 | x :: xs,h => by
  have h1 := h x List.mem_cons_self
  have h2 := sum_le (f := f) (xs := xs) (fun m hm => h m (List.mem_cons_of_mem _ hm))
  rw [List.map_cons,List.sum_cons,List.length_cons,Nat.mul_succ]
  omega
theorem rise_len : ∀ {xs : List Int} {lo hi : Int} {p : Int},rise lo hi (some p) xs = true → p ≤ hi → (xs.length : Int) ≤ hi - p
 | [],lo,hi,p,_,hp => by simp only [List.length_nil]; omega
 | x :: xs,lo,hi,p,h,hp => by
  rw [rise_cons] at h
  simp only [Bool.and_eq_true,decide_eq_true_eq] at h
  have := rise_len h.2.2 h.1.2
  simp only [List.length_cons]
  omega
theorem votes_len {xs : List Int} (h : rise 1 4 none xs = true) : xs.length ≤ 4 := by
 cases xs with
 | nil => exact Nat.zero_le _
 | cons x xs =>
  rw [rise_cons] at h
  simp only [Bool.and_eq_true,decide_eq_true_eq] at h
  have := rise_len h.2.2 h.1.2
  simp only [List.length_cons]
  omega
theorem Right.clen {n : Node} (h : Right n) : n.Conf.length ≤ 4 := (confOk_len h.conf).2
theorem Right.cof {n : Node} (h : Right n) : confOk (confOf n) = true := confOf_ok h.conf
theorem Right.plen {n : Node} (h : Right n) : n.Peers.length ≤ 4 := by
 by_cases hr : n.Role = 2
 ·have h1 := congrArg List.length (h.peers hr).1
  have h2 := others_len (confOf n) n.Id
  have h3 := confOk_len h.cof
  rw [List.length_map] at h1
  omega
 ·rw [h.alone hr]
  exact Nat.zero_le _
theorem Right.tot {n : Node} (h : Right n) : totNode n ≤ 15000 := by
 obtain ⟨a1,a2,a3,a4,a5,a6,a7⟩ := logOk_at h.log
 have h1 := h.clen
 have h2 := h.plen
 have h3 := votes_len h.votes
 have h4 := sum_le (f := totEntry) (B := 120) (xs := n.Log.Entries) (fun e he => ent_small (termsOk_mem a7 e he))
 have h5 := sum0 (f := fun _ : Int => 0) (fun _ => rfl) n.Conf
 have h6 := sum0 (f := fun _ : Int => 0) (fun _ => rfl) n.Votes
 have h7 := sum0 (f := totPeer) (fun _ => rfl) n.Peers
 simp only [totNode,totLog,totL]
 omega
theorem conf_in {c : List Int} (h : confOk c = true) {x : Int} (hx : x ∈ c) : 1 ≤ x ∧ x ≤ 4 := by
 have : ∀ c ∈ allConfs,∀ x ∈ c,1 ≤ x ∧ x ≤ 4 := by decide
 exact this c (conf_all h) x hx
theorem others_in {c : List Int} {i x : Int} (hx : x ∈ others c i) : x ∈ c ∧ x ≠ i := by
 unfold others at hx
 have := List.mem_filter.1 hx
 exact ⟨this.1,by simpa using this.2⟩
def Told (n : Node) (m : Message) : Prop := (1 ≤ m.To ∧ m.To ≤ 4) ∧ totMessage m ≤ 20000 ∧ m.Kind ≠ 6
theorem send_told {n : Node} (h : Right n) (hr : n.Role = 2) {p : Peer} (hp : p.Id ∈ n.Peers.map (·.Id)) : Told n (sendMsg n p) := by
 rw [(h.peers hr).1] at hp
 have h1 := conf_in h.cof (others_in hp).1
 have h2 := send_small n p h.clen
 have h3 := h.tot
 refine ⟨?_,by omega,?_⟩
 ·unfold sendMsg
  split <;> exact h1
 ·unfold sendMsg
  split
  ·exact show ¬ ((5 : Int) = 6) by decide
  ·exact show ¬ ((3 : Int) = 6) by decide
theorem sends_told {n : Node} (h : Right n) : ∀ m ∈ n.Peers.map (sendMsg n),Told n m := by
 intro m hm
 obtain ⟨p,hp,rfl⟩ := List.mem_map.1 hm
 by_cases hr : n.Role = 2
 ·exact send_told h hr (List.mem_map.2 ⟨p,hp,rfl⟩)
 ·rw [h.alone hr] at hp
  cases hp
theorem commitN_id (n : Node) : (commitN n).Id = n.Id := by unfold commitN; split <;> rfl
theorem commitN_term (n : Node) : (commitN n).Term = n.Term := by unfold commitN; split <;> rfl
theorem commitN_le {n : Node} (h : n.Commit ≤ logEnd n.Log) : n.Commit ≤ (commitN n).Commit ∧ (commitN n).Commit ≤ logEnd n.Log := by
 have hc := comTo_le n (confOf n) (logEnd n.Log - n.Commit).toNat
 unfold commitN
 split <;> (simp only; omega)
theorem z4 : (0 : Int) ≤ 0 ∧ (0 : Int) ≤ 4 := by omega
theorem z2 : (0 : Int) ≤ 0 ∧ (0 : Int) ≤ 2 := by omega
theorem z20 : (0 : Int) ≤ 0 ∧ (0 : Int) ≤ 20 := by omega
theorem Right.commit {n : Node} (h : Right n) : Right (commitN n) := by
 have hc := commitN_le h.com.2
 have hl := commitN_log n
 have hco : n.Log.Start ≤ comTo n (confOf n) (logEnd n.Log - n.Commit).toNat ∧ comTo n (confOf n) (logEnd n.Log - n.Commit).toNat ≤ logEnd n.Log := by
  have h1 := comTo_le n (confOf n) (logEnd n.Log - n.Commit).toNat
  have h2 := h.com
  omega
 unfold commitN
 split
 ·exact ⟨h.id,h.conf,h.log,h.term,h.vote,z4,z2,hco,h.limit,h.clock,rfl,(fun _ => rfl),(fun e => absurd (show (0 : Int) = 2 from e) (by decide)),(fun _ => rfl)⟩
 ·exact ⟨h.id,h.conf,h.log,h.term,h.vote,h.lead,h.role,hco,h.limit,h.clock,h.votes,h.voted,h.peers,h.alone⟩
theorem logTerm_snoc (a b : Int) (es : List Entry) (e : Entry) : logTerm ⟨a,b,es ++ [e]⟩ = e.Term := by
 unfold logTerm
 simp
theorem Right.lead0 {n : Node} (h : Right n) : Right (Pe.FnNodes.lead0 n) := by
 obtain ⟨a1,a2,a3,a4,a5,a6,a7⟩ := logOk_at h.log
 have hg := grown_len (n := n) a5
 have hk := h.com
 have ht := h.term
 have hid := h.id
 have hl := newLog_ok h.log h.term
 refine ⟨h.id,h.conf,hl,?_,h.vote,by show 0 ≤ n.Id ∧ n.Id ≤ 4; omega,(show (0 : Int) ≤ 2 ∧ (2 : Int) ≤ 2 by omega),?_,h.limit,h.clock,rfl,fun _ => rfl,fun _ => ⟨?_,?_⟩,fun e => absurd rfl e⟩
 ·show logTerm (newLog n) ≤ n.Term ∧ n.Term ≤ 100000
  unfold newLog grown
  split
  ·rw [logTerm_snoc]
   exact ⟨Int.le_refl _,ht.2⟩
  ·exact ht
 ·show n.Log.Start ≤ n.Commit ∧ n.Commit ≤ logEnd (newLog n)
  simp only [logEnd,newLog] at hk ⊢
  omega
 ·show ((others (confOf (lead1 n [])) n.Id).map (fun x => (⟨x,logEnd n.Log + 1,0,0⟩ : Peer))).map (·.Id) = _
  rw [List.map_map]
  exact List.map_id _
 ·intro p hp
  obtain ⟨x,_,rfl⟩ := List.mem_map.1 hp
  show peerOk (logEnd (newLog n)) _ = true
  unfold peerOk
  simp only [Bool.and_eq_true,decide_eq_true_eq]
  simp only [logEnd,newLog]
  rw [w64_id (by omega) (by omega)]
  refine ⟨⟨by omega,by omega⟩,⟨by omega,by omega⟩,by omega,by omega⟩
theorem Right.leadN {n : Node} (h : Right n) : Right (Pe.FnNodes.leadN n) := h.lead0.commit
theorem leadN_id (n : Node) : (leadN n).Id = n.Id := by unfold leadN; rw [commitN_id]; rfl
theorem Right.cand {n : Node} (h : Right n) {l : Int} (hl : 1 ≤ l ∧ l ≤ 20) (hr : n.Role ≠ 2) (ht : n.Term ≠ 100000) : Right (Pe.FnNodes.cand n l) := by
 have hid := h.id
 have htm := h.term
 refine ⟨h.id,h.conf,h.log,by show logTerm n.Log ≤ n.Term + 1 ∧ n.Term + 1 ≤ 100000; omega,by show 0 ≤ n.Id ∧ n.Id ≤ 4; omega,z4,(show (0 : Int) ≤ 1 ∧ (1 : Int) ≤ 2 by omega),h.com,hl,z20,?_,(fun e => absurd rfl e),(fun e => absurd (show (1 : Int) = 2 from e) (by decide)),(fun _ => h.alone hr)⟩
 show rise 1 4 none [n.Id] = true
 rw [rise_cons]
 simp only [Bool.and_eq_true,decide_eq_true_eq]
 exact ⟨hid,trivial,rfl⟩
theorem tick_right {n : Node} {l : Int} (h : Right n) (hok : (tickN n l).2.2 = true) : Right (tickN n l).1 ∧ (tickN n l).1.Id = n.Id ∧ ∀ m ∈ (tickN n l).2.1,Told (tickN n l).1 m := by
 have hb : decide (1 ≤ l ∧ l ≤ 20) = true := by
  cases hd : decide (1 ≤ l ∧ l ≤ 20) with
  | true => rfl
  | false =>
   unfold tickN at hok
   rw [if_neg (by rw [h.ok]; simp),if_pos hd] at hok
   cases hok
 have hl : 1 ≤ l ∧ l ≤ 20 := by simpa using hb
 have hcl := h.clock
 have hlm := h.limit
 unfold tickN
 rw [if_neg (by rw [h.ok]; simp),if_neg (by rw [hb]; simp)]
 by_cases hr : n.Role = 2
 ·rw [if_pos hr]
  exact ⟨h,rfl,sends_told h⟩
 rw [if_neg hr]
 by_cases hk : n.Clock + 1 < n.Limit
 ·rw [if_pos hk]
  exact ⟨⟨h.id,h.conf,h.log,h.term,h.vote,h.lead,h.role,h.com,h.limit,by show 0 ≤ n.Clock + 1 ∧ n.Clock + 1 ≤ 20; omega,h.votes,h.voted,h.peers,h.alone⟩,rfl,fun m hm => by cases hm⟩
 rw [if_neg hk]
 have hrest : Right (rest n l) := ⟨h.id,h.conf,h.log,h.term,h.vote,h.lead,h.role,h.com,hl,z20,h.votes,h.voted,h.peers,h.alone⟩
 by_cases hi : n.Id ∉ confOf n
 ·rw [if_pos hi]
  exact ⟨hrest,rfl,fun m hm => by cases hm⟩
 rw [if_neg hi]
 by_cases ht : n.Term = 100000
 ·rw [if_pos ht]
  exact ⟨hrest,rfl,fun m hm => by cases hm⟩
 rw [if_neg ht]
 have hc := h.cand hl hr ht
 by_cases hw : most (confOf n) [n.Id] = true
 ·rw [if_pos hw]
  exact ⟨hc.leadN,leadN_id _,sends_told hc.leadN⟩
 rw [if_neg hw]
 refine ⟨hc,rfl,fun m hm => ?_⟩
 obtain ⟨x,hx,rfl⟩ := List.mem_map.1 hm
 exact ⟨conf_in h.cof (others_in hx).1,Nat.zero_le _,show ¬ ((1 : Int) = 6) by decide⟩
theorem peerOf_id (n : Node) (x : Int) : (peerOf n x).Id = x := by
 unfold peerOf
 cases hf : n.Peers.find? (fun p => p.Id == x) with
 | none => rfl
 | some q =>
  have := List.find?_some hf
  simpa using this
theorem propA_id (n : Node) (e : Entry) : (propA n e).Id = n.Id := by unfold propA; rw [commitN_id]; rfl
theorem propose_right {n : Node} {k : Int} {t : ByteArray} (h : Right n) (hok : (propN n k t).2.2.2 = true) : Right (propN n k t).1 ∧ (propN n k t).1.Id = n.Id ∧ ∀ m ∈ (propN n k t).2.1,Told (propN n k t).1 m := by
 unfold propN at hok ⊢
 rw [if_neg (by rw [h.ok]; simp)] at hok ⊢
 by_cases hr : n.Role = 2
 ·rw [if_neg (not_not_intro hr)] at hok ⊢
  by_cases he : entOk ⟨n.Term,k,t⟩ = false
  ·rw [if_pos he] at hok
   cases hok
  rw [if_neg he] at hok ⊢
  by_cases hq : n.Log.Entries.length < 120 ∧ logEnd n.Log < 100000
  ·rw [if_neg (not_not_intro hq)] at hok ⊢
   by_cases hm : k = 2 ∧ mayConf n t = false
   ·rw [if_pos hm] at hok
    cases hok
   rw [if_neg hm] at hok ⊢
   have he' : entOk ⟨n.Term,k,t⟩ = true := by simpa using he
   have hl := propLog_ok h.log hq he' h.term.1
   have hp := h.peers hr
   have hk := h.com
   have ht := h.term
   obtain ⟨a1,a2,a3,a4,a5,a6,a7⟩ := logOk_at h.log
   have hend : logEnd (propLog n ⟨n.Term,k,t⟩) = logEnd n.Log + 1 := by
    simp only [logEnd,propLog,List.length_append,List.length_cons,List.length_nil]
    omega
   have h0 : Right (prop0 n ⟨n.Term,k,t⟩) := by
    refine ⟨h.id,h.conf,hl,?_,h.vote,h.lead,h.role,?_,h.limit,h.clock,h.votes,h.voted,fun _ => ⟨?_,?_⟩,fun e => absurd hr e⟩
    ·show logTerm (propLog n ⟨n.Term,k,t⟩) ≤ n.Term ∧ n.Term ≤ 100000
     unfold propLog
     rw [logTerm_snoc]
     exact ⟨Int.le_refl _,ht.2⟩
    ·show n.Log.Start ≤ n.Commit ∧ n.Commit ≤ logEnd (propLog n ⟨n.Term,k,t⟩)
     rw [hend]
     omega
    ·show ((others (confOf (prop1 n ⟨n.Term,k,t⟩ [])) n.Id).map (peerOf n)).map (·.Id) = _
     rw [List.map_map]
     have : ((fun p : Peer => p.Id) ∘ peerOf n) = id := by
      funext x
      exact peerOf_id n x
     rw [this]
     exact List.map_id _
    ·intro p hp'
     obtain ⟨x,_,rfl⟩ := List.mem_map.1 hp'
     show peerOk (logEnd (propLog n ⟨n.Term,k,t⟩)) _ = true
     rw [hend]
     unfold peerOf
     cases hf : n.Peers.find? (fun p => p.Id == x) with
     | some q => exact peer_up (hp.2 q (List.mem_of_find?_eq_some hf))
     | none =>
      simp only [Option.getD_none,newPeer]
      have hq2 : 0 ≤ logEnd n.Log ∧ logEnd n.Log ≤ 200000 := by simp only [logEnd]; omega
      unfold peerOk
      simp only [Bool.and_eq_true,decide_eq_true_eq]
      rw [w64_id (by omega) (by omega)]
      refine ⟨⟨by omega,by omega⟩,⟨by omega,by omega⟩,by omega,by omega⟩
   exact ⟨h0.commit,propA_id _ _,sends_told h0.commit⟩
  ·rw [if_pos hq] at hok
   cases hok
 ·rw [if_pos hr] at hok
  cases hok
def termOf : Int → List Entry → Nat → Int
 | t,[],_ => t
 | t,_ :: _,0 => t
 | _,e :: es,d + 1 => termOf e.Term es d
theorem terms_drop : ∀ (es : List Entry) (t : Int) (d : Nat),termsOk t es = true → termsOk (termOf t es d) (es.drop d) = true
 | [],t,d,_ => by cases d <;> rfl
 | e :: es,t,0,h => by simpa only [termOf,List.drop_zero] using h
 | e :: es,t,d + 1,h => by
  rw [termsOk_cons] at h
  simp only [Bool.and_eq_true] at h
  exact terms_drop es e.Term d h.2.2
theorem termOf_in : ∀ (es : List Entry) (t : Int) (d : Nat),(0 ≤ t ∧ t ≤ 100000) → termsOk t es = true → 0 ≤ termOf t es d ∧ termOf t es d ≤ 100000
 | [],t,d,ht,_ => by cases d <;> exact ht
 | e :: es,t,0,ht,_ => ht
 | e :: es,t,d + 1,ht,h => by
  rw [termsOk_cons] at h
  simp only [Bool.and_eq_true] at h
  exact termOf_in es e.Term d (entOk_term h.1) h.2.2
theorem termOf_get : ∀ (es : List Entry) (t : Int) (d : Nat) (hd : d < es.length),termOf t es (d + 1) = es[d].Term
 | e :: es,t,0,_ => by cases es <;> rfl
 | e :: es,t,d + 1,hd => by
  show termOf e.Term es (d + 1) = _
  rw [termOf_get es e.Term d (by simpa using hd)]
  rfl
theorem termAt_of {l : Log} {d : Nat} (hd : d ≤ l.Entries.length) : termAt l (l.Start + d) = termOf l.StartTerm l.Entries d := by
 unfold termAt
 cases d with
 | zero =>
  rw [if_pos (by simp)]
  cases l.Entries <;> rfl
 | succ d =>
  rw [if_neg (by omega),termOf_get l.Entries l.StartTerm d (by omega),decide_eq_true (by omega),show (l.Start + ((d + 1 : Nat) : Int) - l.Start - 1).toNat = d by omega,List.getElem?_eq_getElem (by omega)]
def lastT (t : Int) (es : List Entry) : Int := match es.getLast? with | some e => e.Term | none => t
theorem lastT_cons (t : Int) (e : Entry) (es : List Entry) : lastT t (e :: es) = lastT e.Term es := by
 unfold lastT
 cases es with
 | nil => rfl
 | cons x xs =>
  rw [List.getLast?_cons_cons]
  cases hq : (x :: xs).getLast? with
  | none => simp at hq
  | some z => rfl
theorem lastT_drop : ∀ (es : List Entry) (t : Int) (d : Nat),lastT (termOf t es d) (es.drop d) = lastT t es
 | [],t,d => by cases d <;> rfl
 | e :: es,t,0 => by simp only [termOf,List.drop_zero]
 | e :: es,t,d + 1 => by
  rw [lastT_cons]
  exact lastT_drop es e.Term d
theorem confsUp_stop (i : Int) : ∀ (es : List Entry) (p : Int) (out : List Int),i < p → confsUp i es p out = out
 | [],p,out,_ => rfl
 | e :: es,p,out,h => by rw [confsUp,if_neg (by omega)]
theorem confsUp_split (i j : Int) : ∀ (d : Nat) (es : List Entry) (p : Int) (out : List Int),d ≤ es.length → p + d = i + 1 → i ≤ j → confsUp j (es.drop d) (p + d) (confsUp i es p out) = confsUp j es p out
 | 0,es,p,out,_,hp,_ => by
  rw [confsUp_stop i es p out (by omega),List.drop_zero,show p + ((0 : Nat) : Int) = p by omega]
 | d + 1,[],p,out,hd,_,_ => by simp at hd
 | d + 1,e :: es,p,out,hd,hp,hj => by
  simp only [List.length_cons] at hd
  rw [List.drop_succ_cons,confsUp,if_pos (show p ≤ i by omega)]
  conv => rhs; rw [confsUp,if_pos (show p ≤ j by omega)]
  rw [← confsUp_split i j d es (p + 1) _ (by omega) (by omega) hj,show p + 1 + (d : Int) = p + ((d + 1 : Nat) : Int) by omega]
theorem settle_right {n : Node} {i : Int} (h : Right n) (hi : n.Log.Start ≤ i ∧ i ≤ n.Commit) : (settle n i).2 = true ∧ Right (settle n i).1 ∧ (settle n i).1.Id = n.Id ∧ (settle n i).1.Commit = n.Commit ∧ (settle n i).1.Log.Start = i ∧ (settle n i).1.Conf = confAt n i ∧ confOf (settle n i).1 = confOf n ∧ logEnd (settle n i).1.Log = logEnd n.Log ∧ logTerm (settle n i).1.Log = logTerm n.Log := by
 obtain ⟨a1,a2,a3,a4,a5,a6,a7⟩ := logOk_at h.log
 have hk := h.com
 have hk2 := h.com
 simp only [logEnd] at hk
 obtain ⟨d,hd⟩ : ∃ d : Nat,i = n.Log.Start + d := ⟨(i - n.Log.Start).toNat,by omega⟩
 have hdl : d ≤ n.Log.Entries.length := by omega
 have hb : behind n.Log i (termAt n.Log i) = ⟨i,termOf n.Log.StartTerm n.Log.Entries d,n.Log.Entries.drop d⟩ := by
  unfold behind
  rw [if_pos (by rw [h.log]; simp; omega),hd,termAt_of hdl,show (n.Log.Start + (d : Int) - n.Log.Start).toNat = d by omega]
 have hs : settle n i = (⟨n.Id,n.Term,n.Vote,n.Role,n.Lead,confAt n i,⟨i,termOf n.Log.StartTerm n.Log.Entries d,n.Log.Entries.drop d⟩,n.Commit,n.Clock,n.Limit,n.Votes,n.Peers⟩,true) := by
  unfold settle
  rw [if_pos (by rw [h.ok]; simpa using hi),hb]
 have hco : confOf (⟨n.Id,n.Term,n.Vote,n.Role,n.Lead,confAt n i,⟨i,termOf n.Log.StartTerm n.Log.Entries d,n.Log.Entries.drop d⟩,n.Commit,n.Clock,n.Limit,n.Votes,n.Peers⟩ : Node) = confOf n := by
  show confsUp 100120 (n.Log.Entries.drop d) (i + 1) (confsUp i n.Log.Entries (n.Log.Start + 1) n.Conf) = confsUp 100120 n.Log.Entries (n.Log.Start + 1) n.Conf
  have := confsUp_split i 100120 d n.Log.Entries (n.Log.Start + 1) n.Conf hdl (by omega) (by omega)
  rw [← this,show n.Log.Start + 1 + (d : Int) = i + 1 by omega]
 have he : logEnd (⟨i,termOf n.Log.StartTerm n.Log.Entries d,n.Log.Entries.drop d⟩ : Log) = logEnd n.Log := by
  simp only [logEnd,List.length_drop]
  omega
 have ht : logTerm (⟨i,termOf n.Log.StartTerm n.Log.Entries d,n.Log.Entries.drop d⟩ : Log) = logTerm n.Log := lastT_drop _ _ _
 have hto := termOf_in n.Log.Entries n.Log.StartTerm d ⟨a3,a4⟩ a7
 have hlog : logOk (⟨i,termOf n.Log.StartTerm n.Log.Entries d,n.Log.Entries.drop d⟩ : Log) = true := by
  unfold logOk
  simp only [Bool.and_eq_true,decide_eq_true_eq,List.length_drop]
  exact ⟨⟨by omega,by omega⟩,hto,by omega,by omega,terms_drop _ _ _ a7⟩
 rw [hs]
 refine ⟨rfl,⟨h.id,confsUp_ok _ _ _ _ h.conf,hlog,by rw [ht]; exact h.term,h.vote,h.lead,h.role,?_,h.limit,h.clock,h.votes,h.voted,fun hr => ?_,h.alone⟩,rfl,rfl,rfl,rfl,hco,he,ht⟩
 ·show i ≤ n.Commit ∧ n.Commit ≤ logEnd (⟨i,termOf n.Log.StartTerm n.Log.Entries d,n.Log.Entries.drop d⟩ : Log)
  rw [he]
  exact ⟨hi.2,hk2.2⟩
 ·rw [hco,he]
  exact h.peers hr
def msgTerms (T : Int) : Int → List Entry → Bool
 | _,[] => true
 | t,e :: es => entOk e && (decide (t ≤ e.Term) && (decide (e.Term ≤ T) && msgTerms T e.Term es))
theorem msgTerms_cons (T t : Int) (e : Entry) (es : List Entry) : msgTerms T t (e :: es) = (entOk e && (decide (t ≤ e.Term) && (decide (e.Term ≤ T) && msgTerms T e.Term es))) := rfl
def messageOk (m : Message) : Bool := decide (1 ≤ m.Kind ∧ m.Kind ≤ 6) && (decide (1 ≤ m.From ∧ m.From ≤ 4) && (decide (1 ≤ m.To ∧ m.To ≤ 4) && (!(m.From == m.To) && (decide (0 ≤ m.Term ∧ m.Term ≤ 100000) && (decide (0 ≤ m.LogTerm ∧ m.LogTerm ≤ 100000) && (decide (0 ≤ m.Index ∧ m.Index ≤ 100000) && (decide (0 ≤ m.Commit ∧ m.Commit ≤ 100000) && (decide (m.Entries.length ≤ 4) && ((decide (m.Entries.length = 0) || decide (m.Kind = 3)) && (msgTerms m.Term m.LogTerm m.Entries &&
 (if m.Kind = 5 then confOk m.Conf && decide (m.Data.size ≤ 60) else decide (m.Conf.length = 0) && (decide (m.Data = (⟨#[]⟩ : ByteArray)) && !m.Last))))))))))))
theorem mok_sr (N : Nat) (hN : Big N) (x : Message) : ∀ (es : List Entry) (t : Int) (k : Nat),k + es.length ≤ 1099511627 → (∀ e ∈ es,e.Data.size ≤ 1099511627) → s_MessageOk_l1_r N x es t (k : Int) = some (if msgTerms x.Term t es = true then .inr () else .inl false)
 | [],t,k,hk,h => rfl
 | e :: es,t,k,hk,h => by
  simp only [List.length_cons] at hk
  rw [s_MessageOk_l1_r,msgTerms_cons]
  simp only [bO,entOk_spec N hN e (h e (by simp)),w64_succ (k := k) (by omega),mok_sr N hN x es e.Term (k + 1) (by omega) (fun z hz => h z (by simp [hz]))]
  cases entOk e with
  | false => simp
  | true =>
   by_cases h1 : e.Term < t
   ·have : ¬ t ≤ e.Term := by omega
    simp [h1,this]
   ·have h1' : t ≤ e.Term := by omega
    by_cases h2 : e.Term > x.Term
    ·have : ¬ e.Term ≤ x.Term := by omega
     simp [h1,h2,this]
    ·have : e.Term ≤ x.Term := by omega
     simp [h1,h1',h2,this]
theorem messageOk_spec (N : Nat) (hN : Big N) (m : Message) (h : totMessage m ≤ 1099511627) : s_MessageOk N m = some (messageOk m) := by
 have hd : m.Entries.length ≤ 1099511627 ∧ m.Conf.length ≤ 1099511627 ∧ ∀ e ∈ m.Entries,e.Data.size ≤ 1099511627 := by
  simp only [totMessage,totL] at h
  refine ⟨by omega,by omega,fun e he => ?_⟩
  have := le_sum (f := totEntry) he
  simp only [totEntry] at this
  omega
 unfold s_MessageOk messageOk
 simp only [in_eq,bO]
 refine iteF' fun _ => iteF' fun _ => iteF' fun _ => ?_
 cases hft : (m.From == m.To) with
 | true => rfl
 | false =>
  rw [if_neg (by simp),Bool.not_false,Bool.true_and]
  refine iteF' fun _ => iteF' fun _ => iteF' fun _ => iteF' fun _ => ?_
  simp only [joinP]
  rw [s_MessageOk_l1_eq m (by omega) (by have := hN; unfold Big at this; omega),show (0 : Int) = ((0 : Nat) : Int) from rfl,mok_sr N hN m m.Entries m.LogTerm 0 (by omega) hd.2.2]
  by_cases h4 : m.Entries.length ≤ 4
  ·rw [if_neg (by simp; omega),decide_eq_true h4,Bool.true_and]
   have hrest : (some (if msgTerms m.Term m.LogTerm m.Entries = true then (Sum.inr () : Bool ⊕ Unit) else .inl false)).bind (Sum.elim (fun v => some v) (fun (_ : Unit) => if (m.Kind == (5 : Int)) = true then (s_ConfOk N m.Conf).bind fun y => if y = true then some (decide ((m.Data.size : Int) ≤ (60 : Int))) else some false
     else if (((m.Conf.length : Nat) : Int) == (0 : Int)) = true then (if decide (m.Data = (⟨#[]⟩ : ByteArray)) = true then some (!m.Last) else some false) else some false)) =
     some (msgTerms m.Term m.LogTerm m.Entries && (if m.Kind = 5 then confOk m.Conf && decide (m.Data.size ≤ 60) else decide (m.Conf.length = 0) && (decide (m.Data = (⟨#[]⟩ : ByteArray)) && !m.Last))) := by
    cases msgTerms m.Term m.LogTerm m.Entries with
    | false => rfl
    | true =>
     simp only [if_true,bO,Sum.elim_inr,Bool.true_and,confOk_spec N hN m.Conf (by omega)]
     by_cases h5 : m.Kind = 5
     ·rw [if_pos (by simpa using h5),if_pos h5]
      cases confOk m.Conf with
      | false => rfl
      | true =>
       rw [if_pos rfl,Bool.true_and]
       congr 1
       exact decide_eq_decide.2 ⟨fun h => by omega,fun h => by omega⟩
     ·rw [if_neg (by simpa using h5),if_neg h5]
      by_cases hc : m.Conf.length = 0
      ·rw [if_pos (by simp [hc]),decide_eq_true hc,Bool.true_and]
       cases decide (m.Data = (⟨#[]⟩ : ByteArray)) <;> rfl
      ·rw [if_neg (by simp; intro h; rw [h] at hc; simp at hc),decide_eq_false hc,Bool.false_and]
   by_cases h0 : m.Entries.length = 0
   ·rw [if_neg (by simp; exact List.eq_nil_of_length_eq_zero h0),decide_eq_true h0,Bool.true_or,Bool.true_and]
    exact hrest
   ·rw [if_pos (by simp; omega),decide_eq_false h0,Bool.false_or]
    by_cases h3 : m.Kind = 3
    ·rw [if_neg (by simpa using h3),decide_eq_true h3,Bool.true_and]
     exact hrest
    ·rw [if_pos (by simpa using h3),decide_eq_false h3,Bool.false_and]
  ·rw [if_pos (by simp; omega),decide_eq_false h4,Bool.false_and]
structure MsgRight (m : Message) : Prop where
 kind : 1 ≤ m.Kind ∧ m.Kind ≤ 6
 frm : 1 ≤ m.From ∧ m.From ≤ 4
 to : 1 ≤ m.To ∧ m.To ≤ 4
 ne : m.From ≠ m.To
 term : 0 ≤ m.Term ∧ m.Term ≤ 100000
 logTerm : 0 ≤ m.LogTerm ∧ m.LogTerm ≤ 100000
 index : 0 ≤ m.Index ∧ m.Index ≤ 100000
 commit : 0 ≤ m.Commit ∧ m.Commit ≤ 100000
 few : m.Entries.length ≤ 4
 terms : msgTerms m.Term m.LogTerm m.Entries = true
theorem msg_of {m : Message} (h : messageOk m = true) : MsgRight m := by
 unfold messageOk at h
 simp only [Bool.and_eq_true,decide_eq_true_eq,Bool.not_eq_true',beq_eq_false_iff_ne] at h
 obtain ⟨h1,h2,h3,h4,h5,h6,h7,h8,h9,_,h11,_⟩ := h
 exact ⟨h1,h2,h3,h4,h5,h6,h7,h8,h9,h11⟩
theorem msgTerms_mem : ∀ {es : List Entry} {T t : Int},msgTerms T t es = true → ∀ e ∈ es,entOk e = true ∧ e.Term ≤ T
 | x :: es,T,t,h,e,he => by
  rw [msgTerms_cons] at h
  simp only [Bool.and_eq_true,decide_eq_true_eq] at h
  rcases List.mem_cons.1 he with rfl | he
  ·exact ⟨h.1,h.2.2.1⟩
  ·exact msgTerms_mem h.2.2.2 e he
def stepUp (n : Node) (m : Message) : Node := if m.Term > n.Term then ⟨n.Id,m.Term,0,0,0,n.Conf,n.Log,n.Commit,n.Clock,n.Limit,[],[]⟩ else n
def follow (n : Node) (i : Int) : Node := ⟨n.Id,n.Term,n.Vote,0,i,n.Conf,n.Log,n.Commit,0,n.Limit,[],[]⟩
def voteOk (n : Node) (m : Message) : Bool := decide (m.Term = n.Term ∧ (n.Vote = 0 ∨ n.Vote = m.From) ∧ (m.LogTerm > logTerm n.Log ∨ (m.LogTerm = logTerm n.Log ∧ m.Index ≥ logEnd n.Log)))
def voted (n : Node) (m : Message) : Node := if voteOk n m = true then ⟨n.Id,n.Term,m.From,n.Role,n.Lead,n.Conf,n.Log,n.Commit,0,n.Limit,n.Votes,n.Peers⟩ else n
def askVoteN (n : Node) (m : Message) : Node × List Message := (voted n m,[⟨2,n.Id,m.From,n.Term,0,0,0,voteOk n m,[],[],⟨#[]⟩,false⟩])
theorem askVote_spec (N : Nat) (n : Node) (m : Message) (hl : logOk n.Log = true) : s_l16AskVote N ⟨n,[]⟩ m = some ⟨(askVoteN n m).1,(askVoteN n m).2⟩ := by
 unfold s_l16AskVote s_l16Tell
 simp only [joinP]
 rw [logLast_spec N hl]
 simp only [bO]
 have hfin : ∀ b : Bool,b = voteOk n m →
   (if b = true then (cat? ([] : List Message) ([Message.mk (2 : Int) n.Id m.From n.Term (0 : Int) (0 : Int) (0 : Int) b [] [] (⟨#[]⟩ : ByteArray) false] : List Message)).bind fun x => some (TR.mk (Node.mk n.Id n.Term m.From n.Role n.Lead n.Conf (Log.mk n.Log.Start n.Log.StartTerm n.Log.Entries) n.Commit (0 : Int) n.Limit n.Votes n.Peers) x)
   else (cat? ([] : List Message) ([Message.mk (2 : Int) n.Id m.From n.Term (0 : Int) (0 : Int) (0 : Int) b [] [] (⟨#[]⟩ : ByteArray) false] : List Message)).bind fun x => some (TR.mk (Node.mk n.Id n.Term n.Vote n.Role n.Lead n.Conf (Log.mk n.Log.Start n.Log.StartTerm n.Log.Entries) n.Commit n.Clock n.Limit n.Votes n.Peers) x)) = some ⟨(askVoteN n m).1,(askVoteN n m).2⟩ := by
  intro b hb
  rw [cat_ok (by simp),bO,bO]
  unfold askVoteN voted
  rw [← hb]
  cases b <;> rfl
 have hf : ∀ f : Bool,f = decide (m.LogTerm > logTerm n.Log ∨ (m.LogTerm = logTerm n.Log ∧ m.Index ≥ logEnd n.Log)) → ∀ X : Bool → Option TR,(∀ b,b = voteOk n m → X b = some ⟨(askVoteN n m).1,(askVoteN n m).2⟩) →
   (if (m.Term == n.Term) = true then (if (n.Vote == (0 : Int)) = true then X f else if (n.Vote == m.From) = true then X f else X false) else X false) = some ⟨(askVoteN n m).1,(askVoteN n m).2⟩ := by
  intro f hf X hX
  by_cases h1 : m.Term = n.Term
  ·rw [if_pos (by simpa using h1)]
   by_cases h2 : n.Vote = 0
   ·rw [if_pos (by simpa using h2)]
    refine hX f ?_
    rw [hf]
    unfold voteOk
    exact decide_eq_decide.2 ⟨fun h => ⟨h1,.inl h2,h⟩,fun h => h.2.2⟩
   ·rw [if_neg (by simpa using h2)]
    by_cases h3 : n.Vote = m.From
    ·rw [if_pos (by simpa using h3)]
     refine hX f ?_
     rw [hf]
     unfold voteOk
     exact decide_eq_decide.2 ⟨fun h => ⟨h1,.inr h3,h⟩,fun h => h.2.2⟩
    ·rw [if_neg (by simpa using h3)]
     refine hX false ?_
     unfold voteOk
     rw [decide_eq_false]
     rintro ⟨_,h4 | h4,_⟩
     ·exact h2 h4
     ·exact h3 h4
  ·rw [if_neg (by simpa using h1)]
   refine hX false ?_
   unfold voteOk
   rw [decide_eq_false (fun h => h1 h.1)]
 by_cases h1 : m.LogTerm > logTerm n.Log
 ·rw [if_pos (by simpa using h1)]
  exact hf true (by rw [decide_eq_true (.inl h1)]) _ hfin
 ·rw [if_neg (by simpa using h1)]
  by_cases h2 : m.LogTerm = logTerm n.Log
  ·rw [if_pos (by simpa using h2)]
   refine hf _ ?_ _ hfin
   exact decide_eq_decide.2 ⟨fun h => .inr ⟨h2,h⟩,fun h => h.elim (fun h => absurd h h1) (fun h => h.2)⟩
  ·rw [if_neg (by simpa using h2)]
   refine hf false ?_ _ hfin
   rw [decide_eq_false]
   rintro (h | h)
   ·exact h1 h
   ·exact h2 h.1
def newVotes (n : Node) (m : Message) : List Int := [1,2,3,4].filter (fun i : Int => decide (i = m.From ∨ i ∈ n.Votes))
def withVotes (n : Node) (v : List Int) : Node := ⟨n.Id,n.Term,n.Vote,n.Role,n.Lead,n.Conf,n.Log,n.Commit,n.Clock,n.Limit,v,n.Peers⟩
def tellVoteN (n : Node) (m : Message) : Node × List Message :=
 if m.Ok = false then (n,[]) else if m.Term ≠ n.Term then (n,[]) else if n.Role ≠ 1 then (n,[]) else
 if most (confOf n) (newVotes n m) = true then (leadN (withVotes n (newVotes n m)),(leadN (withVotes n (newVotes n m))).Peers.map (sendMsg (leadN (withVotes n (newVotes n m))))) else (withVotes n (newVotes n m),[])
theorem tv_r (N : Nat) (hN : Big N) (x : TR) (m : Message) (hv : x.n.Votes.length ≤ 1000) (k : Nat) (i : Int) (acc : List Int) (h1 : 1 ≤ i) (h2 : i ≤ 4) (ha : acc.length ≤ 100) :
  s_l16TellVote_l1 N x m (k + 1) i acc = s_l16TellVote_l1 N x m k (i + 1) (acc ++ if decide (i = m.From ∨ i ∈ x.n.Votes) = true then [i] else []) := by
 rw [s_l16TellVote_l1,if_pos (by simpa using h2)]
 simp only [joinP]
 rw [w64_id (n := i + 1) (by omega) (by omega),cat_ok (by simp; omega)]
 simp only [bO,in_spec N hN x.n.Votes i (by omega)]
 by_cases hf : i = m.From
 ·rw [if_pos (by simpa using hf),if_pos (by simp [hf])]
 ·rw [if_neg (by simpa using hf)]
  by_cases hi : i ∈ x.n.Votes
  ·rw [if_pos (by simpa using hi),if_pos (by simp [hi])]
  ·rw [if_neg (by simpa using hi),if_neg (by simp [hf,hi]),List.append_nil]
theorem tv_ok (N : Nat) (hN : Big N) (x : TR) (m : Message) (hv : x.n.Votes.length ≤ 1000) : s_l16TellVote_l1 N x m N (1 : Int) [] = some (newVotes x.n m) := by
 obtain ⟨k,hk⟩ : ∃ k,N = k + 5 := ⟨N - 5,by have := hN; unfold Big at this; omega⟩
 have h0 : s_l16TellVote_l1 N x m N (1 : Int) [] = s_l16TellVote_l1 N x m (k + 4 + 1) (1 : Int) [] := by rw [show k + 4 + 1 = N by omega]
 rw [h0,tv_r N hN x m hv (k + 4) 1 [] (by omega) (by omega) (by simp)]
 rw [tv_r N hN x m hv (k + 3) (1 + 1) _ (by omega) (by omega) (by split <;> simp)]
 rw [tv_r N hN x m hv (k + 2) (1 + 1 + 1) _ (by omega) (by omega) (by split <;> split <;> simp)]
 rw [tv_r N hN x m hv (k + 1) (1 + 1 + 1 + 1) _ (by omega) (by omega) (by split <;> split <;> split <;> simp)]
 rw [s_l16TellVote_l1,if_neg (by simp)]
 unfold newVotes
 simp only [List.filter_cons,List.filter_nil,show (1 : Int) + 1 = 2 from rfl,show (2 : Int) + 1 = 3 from rfl,show (3 : Int) + 1 = 4 from rfl]
 generalize decide ((1 : Int) = m.From ∨ (1 : Int) ∈ x.n.Votes) = q1
 generalize decide ((2 : Int) = m.From ∨ (2 : Int) ∈ x.n.Votes) = q2
 generalize decide ((3 : Int) = m.From ∨ (3 : Int) ∈ x.n.Votes) = q3
 generalize decide ((4 : Int) = m.From ∨ (4 : Int) ∈ x.n.Votes) = q4
 cases q1 <;> cases q2 <;> cases q3 <;> cases q4 <;> rfl
theorem newVotes_rise (n : Node) (m : Message) : rise 1 4 none (newVotes n m) = true := by
 unfold newVotes
 have : ∀ p : Int → Bool,rise 1 4 none (([1,2,3,4] : List Int).filter p) = true := by
  intro p
  simp only [List.filter_cons,List.filter_nil]
  cases p 1 <;> cases p 2 <;> cases p 3 <;> cases p 4 <;> rfl
 exact this _
end Go.Proofs.YtkojbcnafckofaaGreat.Pe.FnNodes
