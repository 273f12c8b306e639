import Derived.Test.YtmnoonjkiflonaaGreatDoorPeHFnExactReadScript
import Derived.KernelRfl
import Derived.Lib.ItoaNum
import Derived.Lib.ItoaLen
import Derived.Lib.AtoiAll
import Derived.Lib.AtoiTie
namespace Go.Proofs.YtmnoonjkiflonaaGreatDoor.Pe.FnExactReadScript
open Go Go.RowKit
set_option linter.unusedVariables false
set_option linter.unusedSimpArgs false
set_option maxHeartbeats 4000000
theorem bO {α β : Type} (a : α) (f : α → Option β) : (some a).bind f = f a := rfl
theorem in_eq (N : Nat) (x a b : Int) : spec_l01In N x a b = some (decide (a ≤ x ∧ x ≤ b)) := by
 unfold spec_l01In
 by_cases h : a ≤ x <;> simp [h]
theorem within_eq (N : Nat) (x a b : Int) : impl_within N x a b = some (decide (a ≤ x ∧ x ≤ b)) := by
 unfold impl_within
 by_cases h : a ≤ x <;> simp [h]
def rise (lo hi : Int) : Option Int → List Int → Bool
 | _,[] => true
 | p,x :: xs => decide (lo ≤ x ∧ x ≤ hi) && ((match p with | some q => decide (q < x) | none => true) && rise lo hi (some x) xs)
theorem rise_cons (lo hi : Int) (p : Option Int) (x : Int) (xs : List Int) : rise lo hi p (x :: xs) = (decide (lo ≤ x ∧ x ≤ hi) && ((match p with | some q => decide (q < x) | none => true) && rise lo hi (some x) xs)) := by
 cases p <;> rfl
def confOk (c : List Int) : Bool := decide (c.length ≤ 4) && (decide (1 ≤ c.length) && rise 1 4 none c)
def prev (c : List Int) (k : Nat) : Option Int := if k = 0 then none else c[k - 1]?
theorem prev_succ {c : List Int} {k : Nat} (h : k < c.length) : prev c (k + 1) = some c[k] := by
 simp [prev,h]
theorem rise_drop {c : List Int} {k : Nat} {lo hi : Int} (h : k < c.length) : rise lo hi (prev c k) (c.drop k) = (decide (lo ≤ c[k] ∧ c[k] ≤ hi) && ((if k = 0 then true else decide (c[k - 1]'(by omega) < c[k])) && rise lo hi (prev c (k + 1)) (c.drop (k + 1)))) := by
 rw [List.drop_eq_getElem_cons h,rise_cons,prev_succ h]
 by_cases h0 : k = 0
 ·simp [prev,h0]
 ·simp only [prev,h0,if_false]
  rw [List.getElem?_eq_getElem (by omega)]
theorem at_pred {c : List Int} {k : Nat} (h : k < c.length) (h0 : k ≠ 0) (hc : c.length ≤ 1099511627776) : at? c (w64 ((k : Int) - 1)) = some (c[k - 1]'(by omega)) := by
 rw [w64_id (by omega) (by omega),show (k : Int) - 1 = ((k - 1 : Nat) : Int) by omega,at_lt]
theorem rise_r (N : Nat) (c : List Int) (lo hi : Int) (hc : c.length ≤ 1099511627776) : ∀ (d k : Nat),c.length = k + d → spec_l07Rise_l1_r N c lo hi (c.drop k) (k : Int) = some (if rise lo hi (prev c k) (c.drop k) then .inr () else .inl false)
 | 0,k,h => by rw [List.drop_eq_nil_of_le (by omega),spec_l07Rise_l1_r]; rfl
 | d + 1,k,h => by
  have hk : k < c.length := by omega
  rw [rise_drop hk,List.drop_eq_getElem_cons hk,spec_l07Rise_l1_r]
  simp only [joinP,bO,in_eq,w64_succ (k := k) (by omega),rise_r N c lo hi hc d (k + 1) (by omega)]
  by_cases h1 : lo ≤ c[k] ∧ c[k] ≤ hi
  ·by_cases h0 : k = 0
   ·subst h0
    simp [h1]
   ·rw [at_pred hk h0 hc]
    have : (0 : Int) < k := by omega
    by_cases h2 : c[k - 1] < c[k]
    ·have h3 : ¬ c[k] ≤ c[k - 1] := by omega
     simp [h1,h0,h2,h3]
    ·have h3 : c[k] ≤ c[k - 1] := by omega
     simp [h1,h0,h2,h3]
  ·simp [h1]
theorem rise_eq (N : Nat) (hN : Big N) (c : List Int) (lo hi : Int) (hc : c.length ≤ 1099511627776) : spec_l07Rise N c lo hi = some (rise lo hi none c) := by
 unfold spec_l07Rise
 simp only [joinP]
 rw [spec_l07Rise_l1_eq c lo hi (by omega) (by omega),show (0 : Int) = ((0 : Nat) : Int) from rfl]
 have := rise_r N c lo hi hc c.length 0 (by omega)
 rw [List.drop_zero] at this
 rw [this]
 simp only [prev,if_true]
 cases rise lo hi none c <;> rfl
theorem confOk_spec (N : Nat) (hN : Big N) (c : List Int) (hc : c.length ≤ 1099511627776) : spec_ConfOk N c = some (confOk c) := by
 unfold spec_ConfOk confOk
 simp only [in_eq,bO,rise_eq N hN c 1 4 hc]
 by_cases h1 : c.length ≤ 4
 ·by_cases h2 : 1 ≤ c.length
  ·have h3 : (1 : Int) ≤ c.length ∧ (c.length : Int) ≤ 4 := by omega
   simp [h1,h2,h3]
  ·have h3 : ¬ ((1 : Int) ≤ c.length ∧ (c.length : Int) ≤ 4) := by omega
   simp only [h3,if_false,h2,decide_false,Bool.false_and,Bool.and_false,Bool.false_eq_true]
 ·have h3 : ¬ ((1 : Int) ≤ c.length ∧ (c.length : Int) ≤ 4) := by omega
  simp only [h3,if_false,h1,decide_false,Bool.false_and,Bool.and_false,Bool.false_eq_true]
theorem conf_r (N : Nat) (c : List Int) (hc : c.length ≤ 1099511627776) : ∀ (d k : Nat),c.length = k + d → impl_ConfOk_l1_r N c (c.drop k) (k : Int) = some (if rise 1 4 (prev c k) (c.drop k) then .inr () else .inl false)
 | 0,k,h => by rw [List.drop_eq_nil_of_le (by omega),impl_ConfOk_l1_r]; rfl
 | d + 1,k,h => by
  have hk : k < c.length := by omega
  rw [rise_drop hk,List.drop_eq_getElem_cons hk,impl_ConfOk_l1_r]
  simp only [joinP,bO,within_eq,w64_succ (k := k) (by omega),conf_r N c hc d (k + 1) (by omega)]
  by_cases h1 : (1 : Int) ≤ c[k] ∧ c[k] ≤ 4
  ·by_cases h0 : k = 0
   ·subst h0
    simp [h1]
   ·rw [at_pred hk h0 hc]
    have : (0 : Int) < k := by omega
    by_cases h2 : c[k - 1] < c[k]
    ·have h3 : ¬ c[k] ≤ c[k - 1] := by omega
     simp [h1,h0,h2,h3]
    ·have h3 : c[k] ≤ c[k - 1] := by omega
     simp [h1,h0,h2,h3]
  ·simp [h1]
theorem confOk_impl (N : Nat) (hN : Big N) (c : List Int) (hc : c.length ≤ 1099511627776) : impl_ConfOk N c = some (confOk c) := by
 unfold impl_ConfOk confOk
 simp only [joinP]
 rw [impl_ConfOk_l1_eq c (by omega) (by omega),show (0 : Int) = ((0 : Nat) : Int) from rfl]
 have := conf_r N c hc c.length 0 (by omega)
 rw [List.drop_zero] at this
 rw [this]
 simp only [prev,if_true,within_eq]
 cases rise 1 4 none c with
 | false => simp
 | true =>
  simp only [if_true,bO,Sum.elim_inr,Bool.and_true,Option.some.injEq]
  rw [← Bool.decide_and]
  simp only [decide_eq_decide]
  omega
theorem confOk_len {c : List Int} (h : confOk c = true) : 1 ≤ c.length ∧ c.length ≤ 4 := by
 unfold confOk at h
 simp only [Bool.and_eq_true,decide_eq_true_eq] at h
 exact ⟨h.2.1,h.1⟩
theorem emp_size {t : ByteArray} (h : t = (⟨#[]⟩ : ByteArray)) : t.size = 0 := by subst h; rfl
def cmdOk (x : Command) : Bool := decide ((1 ≤ x.Op ∧ x.Op ≤ 5) ∧ (0 ≤ x.Session ∧ x.Session ≤ 100000) ∧ (0 ≤ x.Seq ∧ x.Seq ≤ 100000) ∧ (x.Value.size ≤ 12 ∧ x.Old.size ≤ 12) ∧
  (if x.Op = 1 then x.Session = 0 ∧ x.Seq = 0 ∧ x.Key = (⟨#[]⟩ : ByteArray) ∧ x.Value = (⟨#[]⟩ : ByteArray) ∧ x.Old = (⟨#[]⟩ : ByteArray)
   else (1 ≤ x.Key.size ∧ x.Key.size ≤ 9) ∧ (x.Op = 2 ∨ x.Op = 4 → x.Value = (⟨#[]⟩ : ByteArray)) ∧ (x.Op = 2 ∨ x.Op = 3 ∨ x.Op = 4 → x.Old = (⟨#[]⟩ : ByteArray))))
theorem iff_b {b : Bool} {p : Prop} [Decidable p] (h : b = true ↔ p) : b = decide p := by
 cases b with
 | true => exact (decide_eq_true (h.1 rfl)).symm
 | false => exact (decide_eq_false (fun hp => by cases h.2 hp)).symm
theorem cmdOk_spec (N : Nat) (x : Command) : spec_CommandOk N x = some (cmdOk x) := by
 unfold spec_CommandOk cmdOk
 simp only [in_eq,bO]
 repeat' split
 all_goals (refine congrArg some (iff_b ?_))
 all_goals simp only [Bool.not_eq_true',decide_eq_false_iff_not,decide_eq_true_eq,beq_iff_eq,Bool.and_eq_true,Bool.bne_false,Bool.xor_false,Bool.false_eq_true,false_iff,true_iff,Bool.and_true] at *
 all_goals grind
theorem cmdOk_impl (N : Nat) (x : Command) : impl_CommandOk N x = some (cmdOk x) := by
 unfold impl_CommandOk cmdOk
 simp only [within_eq,bO,joinP]
 have e0 := @emp_size
 repeat' split
 all_goals (refine congrArg some (iff_b ?_))
 all_goals simp only [Bool.not_eq_true',decide_eq_false_iff_not,decide_eq_true_eq,beq_iff_eq,Bool.and_eq_true,Bool.bne_false,Bool.xor_false,Bool.false_eq_true,false_iff,true_iff,Bool.and_true] at *
 all_goals grind
theorem dec_head (n : Nat) : ∃ c r,Lib.decDigits n = c :: r ∧ 48 ≤ c.toNat ∧ c.toNat ≤ 57 := by
 induction n using Nat.strongRecOn with
 | _ n ih =>
  rw [Lib.decDigits]
  by_cases h : n < 10
  ·rw [dif_pos h]
   refine ⟨_,_,rfl,?_,?_⟩ <;> (rw [UInt8.toNat_ofNat']; omega)
  ·rw [dif_neg h]
   obtain ⟨c,r,e,h1,h2⟩ := ih (n / 10) (by omega)
   exact ⟨c,r ++ [_],by rw [e]; rfl,h1,h2⟩
theorem pu_snoc : ∀ (l : List UInt8) (acc u : Nat) (c : UInt8),Lib.parseUint10 acc l = .ok u → 48 ≤ c.toNat → c.toNat ≤ 57 → u ≤ 1000000000 → Lib.parseUint10 acc (l ++ [c]) = .ok (u * 10 + (c.toNat - 48))
 | [],acc,u,c,h,h1,h2,h3 => by
  simp only [Lib.parseUint10] at h
  injection h with h
  subst h
  simp only [List.nil_append,Lib.parseUint10]
  rw [if_pos ⟨h1,h2⟩,if_neg (by omega),if_neg (by omega)]
 | d :: l,acc,u,c,h,h1,h2,h3 => by
  simp only [List.cons_append,Lib.parseUint10] at h ⊢
  split at h
  ·rename_i hd
   rw [if_pos hd]
   split at h
   ·cases h
   ·rename_i h4
    rw [if_neg h4]
    split at h
    ·cases h
    ·rename_i h5
     rw [if_neg h5]
     exact pu_snoc l _ u c h h1 h2 h3
  ·cases h
theorem pu_dec (n : Nat) (hn : n ≤ 1000000000) : Lib.parseUint10 0 (Lib.decDigits n) = .ok n := by
 induction n using Nat.strongRecOn with
 | _ n ih =>
  rw [Lib.decDigits]
  by_cases h : n < 10
  ·rw [dif_pos h]
   simp only [Lib.parseUint10]
   have : (UInt8.ofNat (48 + n)).toNat = 48 + n := by rw [UInt8.toNat_ofNat']; omega
   rw [this,if_pos (by omega),if_neg (by omega),if_neg (by omega)]
   congr 1
   omega
  ·rw [dif_neg h]
   have : (UInt8.ofNat (48 + n % 10)).toNat = 48 + n % 10 := by rw [UInt8.toNat_ofNat']; omega
   rw [pu_snoc _ 0 (n / 10) _ (ih (n / 10) (by omega) (by omega)) (by omega) (by omega) (by omega),this]
   congr 1
   omega
theorem atoi_dec (n : Nat) (hn : n ≤ 1000000000) : Lib.atoiAll (Lib.decDigits n) = .ok (n : Int) := by
 obtain ⟨c,r,e,h1,h2⟩ := dec_head n
 have hp := pu_dec n hn
 rw [e] at hp ⊢
 rw [Lib.atoiAll_plain c r (by omega) (by omega)]
 unfold Lib.parseMag
 rw [if_neg (by simp),hp]
 unfold Lib.signless
 simp only
 rw [if_neg (by omega)]
def rdN (t : ByteArray) : Option Nat := match Lib.atoiAll t.data.toList with
 | .ok v => if 0 ≤ v ∧ v ≤ 1000000000 ∧ Lib.decDigits v.toNat = t.data.toList then some v.toNat else none
 | _ => none
theorem rdN_some {t : ByteArray} {n : Nat} : rdN t = some n ↔ n ≤ 1000000000 ∧ t = ⟨(Lib.decDigits n).toArray⟩ := by
 unfold rdN
 constructor
 ·intro h
  split at h
  ·split at h
   ·rename_i v _ hv
    cases h
    refine ⟨by omega,?_⟩
    apply ByteArray.ext
    rw [hv.2.2]
   ·cases h
  ·cases h
 ·rintro ⟨h1,rfl⟩
  show (match Lib.atoiAll (Lib.decDigits n).toArray.toList with | .ok v => _ | _ => _) = _
  rw [List.toList_toArray,atoi_dec n h1]
  simp only
  rw [if_pos ⟨by omega,by omega,by simp⟩]
  simp
def rdec (t : ByteArray) : Int × Bool := match rdN t with
 | some n => ((n : Int),true)
 | none => (0,false)
def dd (u : Nat) : List UInt8 := if u = 0 then [] else Lib.decDigits u
theorem dd_step {u : Nat} (h : u ≠ 0) : dd u = dd (u / 10) ++ [UInt8.ofNat (48 + u % 10)] := by
 unfold dd
 rw [if_neg h,Lib.decDigits]
 by_cases h1 : u < 10
 ·rw [dif_pos h1,if_pos (by omega),Nat.mod_eq_of_lt h1,List.nil_append]
 ·rw [dif_neg h1,if_neg (by omega)]
theorem bytesRows_one (n : Int) : strOf [n] = ⟨#[UInt8.ofNat n.toNat]⟩ := rfl
theorem ba_cat (a b : List UInt8) : (⟨a.toArray⟩ : ByteArray) ++ ⟨b.toArray⟩ = ⟨(a ++ b).toArray⟩ := by
 apply ByteArray.ext
 simp
theorem fig_ok (N d : Nat) (h : d < 10) : spec_l01Figure N (d : Int) = some ((48 + d : Nat) : Int) := by
 unfold spec_l01Figure
 rw [if_pos (by simp; omega),w64_id (by omega) (by omega),IntKind.wrap_u8]
 congr 1
 omega
theorem dec_loop (N : Nat) : ∀ (k m : Nat) (n : Int) (acc : List UInt8),n.natAbs < 10 ^ k → k ≤ m → -9223372036854775808 ≤ n → n ≤ 9223372036854775807 → acc.length + k ≤ 1000 → spec_Decimal_l1 N (m + 1) n ⟨acc.toArray⟩ = some ⟨(dd n.natAbs ++ acc).toArray⟩
 | k,m,n,acc,hm,hk,h0,h1,ha => by
  rw [spec_Decimal_l1]
  by_cases hz : n = 0
  ·subst hz
   rw [if_neg (by simp)]
   rfl
  rw [if_pos (by simpa using hz)]
  obtain ⟨k,rfl⟩ : ∃ q,k = q + 1 := by
   cases k with
   | zero => exact absurd hm (by simp; omega)
   | succ q => exact ⟨q,rfl⟩
  obtain ⟨m,rfl⟩ : ∃ q,m = q + 1 := ⟨m - 1,by omega⟩
  obtain ⟨d,hd⟩ : ∃ d,d = n.natAbs % 10 := ⟨_,rfl⟩
  have hd10 : d < 10 := by omega
  have ht : n.tmod 10 = if n < 0 then -(d : Int) else d := by
   rcases Int.natAbs_eq n with e | e
   ·rw [if_neg (by omega),e,Int.tmod_eq_emod_of_nonneg (by omega)]
    omega
   ·rw [e,Int.neg_tmod,Int.tmod_eq_emod_of_nonneg (by omega)]
    by_cases hn : -(n.natAbs : Int) < 0
    ·rw [if_pos hn]; omega
    ·omega
  have hq : (n.tdiv 10).natAbs = n.natAbs / 10 ∧ -9223372036854775808 ≤ n.tdiv 10 ∧ n.tdiv 10 ≤ 9223372036854775807 := by
   rcases Int.natAbs_eq n with e | e
   ·rw [e,Int.tdiv_eq_ediv_of_nonneg (by omega)]
    omega
   ·rw [e,Int.neg_tdiv,Int.tdiv_eq_ediv_of_nonneg (by omega)]
    omega
  simp only [intD]
  rw [if_neg (by decide),if_neg (by decide)]
  simp only [bO,joinP]
  have hw : IntKind.i64.wrap (n.tdiv 10) = n.tdiv 10 := w64_id (by omega) (by omega)
  have hwt : (if (decide (n.tmod 10 < 0)) = true then w64 (-(n.tmod 10)) else n.tmod 10) = (d : Int) := by
   rw [ht]
   by_cases hn : n < 0
   ·rw [if_pos hn]
    by_cases h0' : -(d : Int) < 0
    ·rw [if_pos (by simpa using h0'),w64_id (by omega) (by omega)]
     omega
    ·rw [if_neg (by simpa using h0')]
     omega
   ·rw [if_neg hn,if_neg (by simp)]
  have ih := dec_loop N k m (n.tdiv 10) (UInt8.ofNat (48 + d) :: acc) (by rw [hq.1]; rw [Nat.pow_succ] at hm; omega) (by omega) hq.2.1 hq.2.2 (by simp only [List.length_cons]; omega)
  rw [hq.1] at ih
  have key : ∀ v : Int,v = (d : Int) → (spec_l01Figure N v).bind (fun y => (scat? (strOf ([y] : List Int)) ⟨acc.toArray⟩).bind fun x => some (IntKind.i64.wrap (n.tdiv 10)) |>.bind fun z => spec_Decimal_l1 N (m + 1) z x) = some ⟨(dd n.natAbs ++ acc).toArray⟩ := by
   intro v hv
   subst hv
   rw [fig_ok N d hd10,bO,bytesRows_one,Int.toNat_natCast,scat_ok (by simp only [ByteArray.size,List.size_toArray]; show 1 + acc.length ≤ _; omega),bO,bO,hw]
   have e1 : (⟨#[UInt8.ofNat (48 + d)]⟩ : ByteArray) ++ ⟨acc.toArray⟩ = ⟨(UInt8.ofNat (48 + d) :: acc).toArray⟩ := ba_cat [_] acc
   rw [e1,ih,dd_step (u := n.natAbs) (by omega),← hd]
   simp
  by_cases hn : n.tmod 10 < 0
  ·rw [if_pos (by simpa using hn)] at hwt ⊢
   exact key _ hwt
  ·rw [if_neg (by simpa using hn)] at hwt ⊢
   exact key _ hwt
theorem dec_spec (N : Nat) (hN : Big N) (n : Int) (h0 : -9223372036854775808 ≤ n) (h1 : n ≤ 9223372036854775807) : spec_Decimal N n = some ⟨(Lib.itoa n).toArray⟩ := by
 unfold spec_Decimal
 by_cases hz : n = 0
 ·subst hz
  rw [if_pos (by simp)]
  simp [Lib.itoa,Lib.decDigits]
 rw [if_neg (by simpa using hz)]
 simp only [joinP]
 obtain ⟨q,hq⟩ : ∃ q,N = q + 1 := ⟨N - 1,by unfold Big at hN; omega⟩
 have hl := dec_loop N 20 q n [] (by omega) (by unfold Big at hN; omega) h0 h1 (by simp)
 rw [← hq] at hl
 have e0 : (⟨([] : List UInt8).toArray⟩ : ByteArray) = ⟨#[]⟩ := rfl
 rw [e0] at hl
 have hd : dd n.natAbs = Lib.decDigits n.natAbs := by unfold dd; rw [if_neg (by omega)]
 rw [hl,bO,hd,List.append_nil]
 unfold Lib.itoa
 by_cases hn : n < 0
 ·rw [if_pos (by simpa using hn),if_pos hn]
  have hlen := Lib.decDigits_length n.natAbs
  have hlen2 := Lib.itoa_length_le n h0 h1
  unfold Lib.itoa at hlen2
  rw [if_pos hn,List.length_cons] at hlen2
  rw [scat_ok (by simp only [ByteArray.size,List.size_toArray]; show 1 + _ ≤ _; omega),bO]
  exact congrArg some (ba_cat [45] _)
 ·rw [if_neg (by simpa using hn),if_neg hn]
  rw [show n.toNat = n.natAbs by omega]
def dgt : List UInt8 → Nat → Option Nat
 | [],n => some n
 | c :: r,n => if 48 ≤ c.toNat ∧ c.toNat ≤ 57 then dgt r (10 * n + (c.toNat - 48)) else none
theorem dgt_snoc : ∀ (l : List UInt8) (c : UInt8) (a u : Nat),dgt l a = some u → 48 ≤ c.toNat → c.toNat ≤ 57 → dgt (l ++ [c]) a = some (10 * u + (c.toNat - 48))
 | [],c,a,u,h,h1,h2 => by
  cases h
  simp [dgt,h1,h2]
 | d :: l,c,a,u,h,h1,h2 => by
  rw [dgt] at h
  rw [List.cons_append,dgt]
  split at h
  ·rename_i hd
   rw [if_pos hd]
   exact dgt_snoc l c _ u h h1 h2
  ·cases h
theorem dgt_dec (n : Nat) : dgt (Lib.decDigits n) 0 = some n := by
 induction n using Nat.strongRecOn with
 | _ n ih =>
  rw [Lib.decDigits]
  by_cases h : n < 10
  ·rw [dif_pos h]
   have : (UInt8.ofNat (48 + n)).toNat = 48 + n := by rw [UInt8.toNat_ofNat']; omega
   simp only [dgt,this]
   rw [if_pos (by omega)]
   congr 1
   omega
  ·rw [dif_neg h]
   have : (UInt8.ofNat (48 + n % 10)).toNat = 48 + n % 10 := by rw [UInt8.toNat_ofNat']; omega
   rw [dgt_snoc _ _ _ _ (ih (n / 10) (by omega)) (by omega) (by omega),this]
   congr 1
   omega
theorem dec_len : ∀ (k n : Nat),n < 10 ^ (k + 1) → (Lib.decDigits n).length ≤ k + 1
 | 0,n,h => by
  rw [Lib.decDigits,dif_pos (by omega)]
  simp
 | k + 1,n,h => by
  rw [Lib.decDigits]
  split
  ·simp
  ·have := dec_len k (n / 10) (by rw [Nat.pow_succ] at h; omega)
   simp only [List.length_append,List.length_singleton]
   omega
theorem dec_len10 {n : Nat} (h : n ≤ 1000000000) : (Lib.decDigits n).length ≤ 10 := dec_len 9 n (by omega)
theorem itoa_nat (n : Nat) : Lib.itoa (n : Int) = Lib.decDigits n := by
 unfold Lib.itoa
 rw [if_neg (by omega),Int.toNat_natCast]
theorem dgt_lt : ∀ (l : List UInt8) (k n v : Nat),dgt l n = some v → n < 10 ^ k → v < 10 ^ (k + l.length)
 | [],k,n,v,h,hn => by
  cases h
  simpa using hn
 | c :: l,k,n,v,h,hn => by
  rw [dgt] at h
  split at h
  ·rename_i hd
   have := dgt_lt l (k + 1) _ v h (by rw [Nat.pow_succ]; omega)
   rw [List.length_cons,show k + (l.length + 1) = k + 1 + l.length by omega]
   exact this
  ·cases h
theorem sat_at {t : ByteArray} {k : Nat} {c : UInt8} {r : List UInt8} (h : t.data.toList.drop k = c :: r) : sat? t (k : Int) = some (c.toNat : Int) := by
 unfold sat?
 rw [if_pos (by omega),Int.toNat_natCast]
 have hk : k < t.data.toList.length := by
  rcases Nat.lt_or_ge k t.data.toList.length with h1 | h1
  ·exact h1
  ·rw [List.drop_eq_nil_of_le h1] at h
   cases h
 have h1 : t.data.toList[k]? = some c := by
  have : (t.data.toList.drop k)[0]? = some c := by rw [h]; rfl
  rw [List.getElem?_drop,Nat.add_zero] at this
  exact this
 have hs : k < t.size := by
  rw [Array.length_toList] at hk
  exact hk
 rw [getElem?_pos t k hs]
 have h2 : t.data[k]'hs = c := by
  rw [Array.getElem?_toList] at h1
  have := Array.getElem?_eq_some_iff.1 h1
  exact this.2
 have h3 : t[k] = c := h2
 rw [h3]
 rfl
theorem rd_loop (N : Nat) (t : ByteArray) (ht : t.size ≤ 10) : ∀ (d k n m : Nat),t.size = k + d → d < m → n < 10 ^ k → spec_ReadDecimal_l1 N t m (n : Int) (k : Int) = some (match dgt (t.data.toList.drop k) n with | none => .inl (0,false) | some v => .inr (v : Int))
 | 0,k,n,m,hk,hm,hn => by
  obtain ⟨m,rfl⟩ : ∃ q,m = q + 1 := ⟨m - 1,by omega⟩
  rw [spec_ReadDecimal_l1,if_neg (by simp; omega),List.drop_eq_nil_of_le (by rw [Array.length_toList]; show t.size ≤ k; omega)]
  rfl
 | d + 1,k,n,m,hk,hm,hn => by
  obtain ⟨m,rfl⟩ : ∃ q,m = q + 1 := ⟨m - 1,by omega⟩
  have hlt : k < t.data.toList.length := by rw [Array.length_toList]; show k < t.size; omega
  obtain ⟨c,r,hc⟩ : ∃ c r,t.data.toList.drop k = c :: r := ⟨_,_,List.drop_eq_getElem_cons hlt⟩
  have hr : r = t.data.toList.drop (k + 1) := by
   rw [List.drop_eq_getElem_cons hlt] at hc
   exact ((List.cons.injEq _ _ _ _).mp hc).2.symm
  have hp : (10 : Nat) ^ k ≤ 10 ^ 9 := Nat.pow_le_pow_right (by decide) (by omega)
  have hc8 : c.toNat < 256 := c.toNat_lt
  rw [spec_ReadDecimal_l1,if_pos (by simp; omega)]
  simp only [sat_at hc,bO]
  rw [hc,dgt]
  by_cases h1 : 48 ≤ c.toNat
  ·by_cases h2 : c.toNat ≤ 57
   ·rw [if_neg (by simp; omega),if_neg (by simp; omega),if_pos ⟨h1,h2⟩]
    have e : w64 (w64 (w64 (10 * (n : Int)) + w64 (c.toNat : Int)) - 48) = ((10 * n + (c.toNat - 48) : Nat) : Int) := by
     rw [w64_id (n := 10 * (n : Int)) (by omega) (by omega),w64_id (n := (c.toNat : Int)) (by omega) (by omega),w64_id (n := 10 * (n : Int) + c.toNat) (by omega) (by omega),w64_id (by omega) (by omega)]
     omega
    rw [e,w64_succ (by omega),rd_loop N t ht d (k + 1) _ m (by omega) (by omega) (by rw [Nat.pow_succ]; omega),hr]
   ·rw [if_neg (by simp; omega),if_pos (by simp; omega),if_neg (by omega)]
  ·rw [if_pos (by simp; omega),if_neg (by omega)]
theorem rdec_spec (N : Nat) (hN : Big N) (t : ByteArray) : spec_ReadDecimal N t = some (rdec t) := by
 unfold spec_ReadDecimal rdec
 by_cases hs : t.size ≤ 10
 ·rw [if_neg (by simp; omega)]
  simp only [joinP]
  have e := rd_loop N t hs t.size 0 0 N (by omega) (by unfold Big at hN; omega) (by decide)
  rw [List.drop_zero] at e
  rw [show (0 : Int) = ((0 : Nat) : Int) from rfl,e]
  cases hr : rdN t with
  | some n =>
   obtain ⟨h1,rfl⟩ := rdN_some.1 hr
   have : dgt (ByteArray.mk (Lib.decDigits n).toArray).data.toList 0 = some n := by
    show dgt (Lib.decDigits n).toArray.toList 0 = _
    rw [List.toList_toArray,dgt_dec]
   simp only [this,bO,Sum.elim_inr]
   rw [if_neg (by simp; omega),dec_spec N hN n (by omega) (by omega),bO,itoa_nat,if_neg (by simp)]
  | none =>
   cases hd : dgt t.data.toList 0 with
   | none => rfl
   | some v =>
    have hv := dgt_lt _ 0 0 v hd (by decide)
    have : (10 : Nat) ^ (0 + t.data.toList.length) ≤ 10 ^ 10 := Nat.pow_le_pow_right (by decide) (by rw [Array.length_toList]; show 0 + t.size ≤ 10; omega)
    simp only [bO,Sum.elim_inr]
    by_cases h1 : v ≤ 1000000000
    ·rw [if_neg (by simp; omega),dec_spec N hN v (by omega) (by omega),bO,itoa_nat]
     by_cases h2 : (⟨(Lib.decDigits v).toArray⟩ : ByteArray) = t
     ·have := rdN_some.2 ⟨h1,h2.symm⟩
      rw [hr] at this
      cases this
     ·rw [if_pos (by simpa using h2)]
    ·rw [if_pos (by simp; omega)]
 ·rw [if_pos (by simp; omega)]
  cases hr : rdN t with
  | none => rfl
  | some n =>
   obtain ⟨h1,rfl⟩ := rdN_some.1 hr
   have := dec_len10 h1
   have hz : (ByteArray.mk (Lib.decDigits n).toArray).size = (Lib.decDigits n).length := List.size_toArray
   omega
theorem rdec_impl (N : Nat) (t : ByteArray) (ht : t.size ≤ 1099511627) : impl_ReadDecimal N t = some (rdec t) := by
 unfold impl_ReadDecimal rdec?
 rw [if_pos (by omega)]
 congr 1
 unfold rdecN rdec rdN
 simp only [itoaL_eq]
 cases h : Lib.atoiAll t.data.toList with
 | ok v =>
  simp only
  by_cases h0 : 0 ≤ v
  ·obtain ⟨n,rfl⟩ : ∃ n : Nat,v = n := ⟨v.toNat,by omega⟩
   rw [itoa_nat,Int.toNat_natCast]
   by_cases h1 : (n : Int) ≤ 1000000000
   ·by_cases h2 : Lib.decDigits n = t.data.toList
    ·have h3 : (⟨(Lib.decDigits n).toArray⟩ : ByteArray) = t := by
      rw [h2]
     rw [if_pos ⟨h0,h1,h3⟩,if_pos ⟨h0,h1,h2⟩]
    ·have h3 : ¬ (⟨(Lib.decDigits n).toArray⟩ : ByteArray) = t := by
      rintro rfl
      exact h2 (by simp)
     rw [if_neg (fun h => h3 h.2.2),if_neg (fun h => h2 h.2.2)]
   ·rw [if_neg (fun h => h1 h.2.1),if_neg (fun h => h1 h.2.1)]
  ·rw [if_neg (fun h => h0 h.1),if_neg (fun h => h0 h.1)]
 | «syntax» => rfl
 | range => rfl
theorem ext_toList (t : ByteArray) (i j : Nat) (hij : i ≤ j) (hj : j ≤ t.size) : (t.extract i j).data.toList = (t.data.toList.drop i).take (j - i) := by
 have : (t.extract i j).data = t.data.extract i j := by
  rw [ByteArray.data_extract]
 rw [this,Array.toList_extract]
theorem ba_ext' {a b : ByteArray} (h : a.data.toList = b.data.toList) : a = b := ByteArray.ext (Array.toList_inj.1 h)
theorem stake_ok {t : ByteArray} {k : Nat} (h : k ≤ t.size) : stake? t (k : Int) = some (t.extract 0 k) := by
 unfold stake?
 rw [if_pos (by omega),Int.toNat_natCast]
theorem sdrop_ok {t : ByteArray} {k : Nat} (h : k ≤ t.size) : sdrop? t (k : Int) = some (t.extract k t.size) := by
 unfold sdrop?
 rw [if_pos (by omega),Int.toNat_natCast]
theorem scut_ok {t : ByteArray} {i j : Nat} (h : i ≤ j) (h2 : j ≤ t.size) : scut? t (i : Int) (j : Int) = some (t.extract i j) := by
 unfold scut?
 rw [if_pos (by omega),Int.toNat_natCast,Int.toNat_natCast]
abbrev man (x : List Int) : Manifest := Manifest.mk [0] 1 0 0 x
theorem man_spec (N : Nat) (hN : Big N) (x : List Int) (hx : x.length ≤ 1048576) : spec_ManifestOk N (man x) = some (confOk x) := by
 unfold spec_ManifestOk
 have h1 : spec_l01In N ((([0] : List Int).length : Nat) : Int) 1 8 = some true := rfl
 have h2 : spec_l01In N 1 0 1000 = some true := rfl
 have h3 : spec_l01In N 0 0 100000 = some true := rfl
 have h4 : spec_l07Rise N [0] 0 (w64 ((1 : Int) - 1)) = some true := rise_eq N hN [0] 0 _ (by decide)
 simp only [man,h1,h2,h3,h4,bO,if_true,confOk_spec N hN x (by omega)]
theorem man_impl (N : Nat) (hN : Big N) (x : List Int) (hx : x.length ≤ 1048576) : impl_ManifestOk N (man x) = some (confOk x) := by
 unfold impl_ManifestOk
 simp only [joinP]
 rw [impl_ManifestOk_l1_eq (man x) (by show (1 : Nat) ≤ _; decide) (by unfold Big at hN; show (1 : Nat) < N; omega)]
 have h1 : impl_within N ((([0] : List Int).length : Nat) : Int) 1 8 = some true := rfl
 have h3 : impl_within N 0 0 100000 = some true := rfl
 have h4 : impl_ManifestOk_l1_r N (man x) (man x).Segs 0 = some (.inr ()) := rfl
 simp only [h4,bO,Sum.elim_inr,man,h1,h3,if_true,confOk_impl N hN x (by omega)]
 rfl
theorem tot0 (x : List Int) : totL (fun _ => 0) x = x.length := by
 have h : ∀ l : List Int,(l.map fun _ => 0).sum = 0 := by
  intro l
  induction l with
  | nil => rfl
  | cons y l ih => rw [List.map_cons,List.sum_cons,ih]
 simp only [totL,h]
 omega
abbrev dsk (s t : ByteArray) : Disk := ⟨[⟨⟨#[103,48]⟩,⟨#[]⟩⟩,⟨⟨#[108,111,103]⟩,s⟩,⟨⟨#[109]⟩,t⟩]⟩
theorem seg_impl (N : Nat) : impl_SegName (N + 100) 0 = some ⟨#[103,48]⟩ := by
 have h : impl_Decimal (N + 100) 0 = some ⟨#[48]⟩ := by
  unfold impl_Decimal strconv_Itoa itoa?
  rw [if_pos ⟨by decide,by decide⟩]
  rfl
 unfold impl_SegName
 have h2 : impl_within (N + 100) 0 0 999 = some true := rfl
 simp only [h2,bO,h]
 rfl
theorem seg_spec (N : Nat) : spec_SegName (N + 100) 0 = some ⟨#[103,48]⟩ := by
 show @Eq (Option ByteArray) _ _
 kernel_rfl
theorem log_both (N : Nat) : ∃ s,s.size ≤ 100 ∧ spec_LogFile (N + 100) (Log.mk 0 0 []) = some (s,true) ∧ impl_LogFile (N + 100) (Log.mk 0 0 []) = some (s,true) := by
 have h : (spec_LogFile (N + 100) (Log.mk 0 0 [])).map (fun p => (decide (p.1.size ≤ 100),p.2)) = some (true,true) := by
  show @Eq (Option (Bool × Bool)) _ _
  kernel_rfl
 have h2 : spec_LogFile (N + 100) (Log.mk 0 0 []) = impl_LogFile (N + 100) (Log.mk 0 0 []) := by
  show @Eq (Option (ByteArray × Bool)) _ _
  kernel_rfl
 obtain ⟨p,hp,hq⟩ := Option.map_eq_some_iff.1 h
 obtain ⟨s,b⟩ := p
 simp only [Prod.mk.injEq,decide_eq_true_eq] at hq
 obtain ⟨hs,rfl⟩ := hq
 exact ⟨s,hs,hp,h2 ▸ hp⟩
def Both (N : Nat) (x : List Int) : Prop := ∃ t,t.size ≤ 100 ∧ spec_ManifestText (N + 100) (man x) = some (t,true) ∧ impl_ManifestText (N + 100) (man x) = some (t,true)
theorem both_of (N : Nat) (x : List Int) (h : (spec_ManifestText (N + 100) (man x)).map (fun p => (decide (p.1.size ≤ 100),p.2)) = some (true,true)) (h2 : spec_ManifestText (N + 100) (man x) = impl_ManifestText (N + 100) (man x)) : Both N x := by
 obtain ⟨p,hp,hq⟩ := Option.map_eq_some_iff.1 h
 obtain ⟨s,b⟩ := p
 simp only [Prod.mk.injEq,decide_eq_true_eq] at hq
 obtain ⟨hs,rfl⟩ := hq
 exact ⟨s,hs,hp,h2 ▸ hp⟩
theorem t0 (N : Nat) : Both N [1] := by
 refine both_of N _ ?_ ?_
 ·show @Eq (Option (Bool × Bool)) _ _
  kernel_rfl
 ·show @Eq (Option (ByteArray × Bool)) _ _
  kernel_rfl
theorem t1 (N : Nat) : Both N [2] := by
 refine both_of N _ ?_ ?_
 ·show @Eq (Option (Bool × Bool)) _ _
  kernel_rfl
 ·show @Eq (Option (ByteArray × Bool)) _ _
  kernel_rfl
theorem t2 (N : Nat) : Both N [3] := by
 refine both_of N _ ?_ ?_
 ·show @Eq (Option (Bool × Bool)) _ _
  kernel_rfl
 ·show @Eq (Option (ByteArray × Bool)) _ _
  kernel_rfl
theorem t3 (N : Nat) : Both N [4] := by
 refine both_of N _ ?_ ?_
 ·show @Eq (Option (Bool × Bool)) _ _
  kernel_rfl
 ·show @Eq (Option (ByteArray × Bool)) _ _
  kernel_rfl
theorem t4 (N : Nat) : Both N [1,2] := by
 refine both_of N _ ?_ ?_
 ·show @Eq (Option (Bool × Bool)) _ _
  kernel_rfl
 ·show @Eq (Option (ByteArray × Bool)) _ _
  kernel_rfl
theorem t5 (N : Nat) : Both N [1,3] := by
 refine both_of N _ ?_ ?_
 ·show @Eq (Option (Bool × Bool)) _ _
  kernel_rfl
 ·show @Eq (Option (ByteArray × Bool)) _ _
  kernel_rfl
theorem t6 (N : Nat) : Both N [1,4] := by
 refine both_of N _ ?_ ?_
 ·show @Eq (Option (Bool × Bool)) _ _
  kernel_rfl
 ·show @Eq (Option (ByteArray × Bool)) _ _
  kernel_rfl
theorem t7 (N : Nat) : Both N [2,3] := by
 refine both_of N _ ?_ ?_
 ·show @Eq (Option (Bool × Bool)) _ _
  kernel_rfl
 ·show @Eq (Option (ByteArray × Bool)) _ _
  kernel_rfl
theorem t8 (N : Nat) : Both N [2,4] := by
 refine both_of N _ ?_ ?_
 ·show @Eq (Option (Bool × Bool)) _ _
  kernel_rfl
 ·show @Eq (Option (ByteArray × Bool)) _ _
  kernel_rfl
theorem t9 (N : Nat) : Both N [3,4] := by
 refine both_of N _ ?_ ?_
 ·show @Eq (Option (Bool × Bool)) _ _
  kernel_rfl
 ·show @Eq (Option (ByteArray × Bool)) _ _
  kernel_rfl
theorem t10 (N : Nat) : Both N [1,2,3] := by
 refine both_of N _ ?_ ?_
 ·show @Eq (Option (Bool × Bool)) _ _
  kernel_rfl
 ·show @Eq (Option (ByteArray × Bool)) _ _
  kernel_rfl
theorem t11 (N : Nat) : Both N [1,2,4] := by
 refine both_of N _ ?_ ?_
 ·show @Eq (Option (Bool × Bool)) _ _
  kernel_rfl
 ·show @Eq (Option (ByteArray × Bool)) _ _
  kernel_rfl
theorem t12 (N : Nat) : Both N [1,3,4] := by
 refine both_of N _ ?_ ?_
 ·show @Eq (Option (Bool × Bool)) _ _
  kernel_rfl
 ·show @Eq (Option (ByteArray × Bool)) _ _
  kernel_rfl
theorem t13 (N : Nat) : Both N [2,3,4] := by
 refine both_of N _ ?_ ?_
 ·show @Eq (Option (Bool × Bool)) _ _
  kernel_rfl
 ·show @Eq (Option (ByteArray × Bool)) _ _
  kernel_rfl
theorem t14 (N : Nat) : Both N [1,2,3,4] := by
 refine both_of N _ ?_ ?_
 ·show @Eq (Option (Bool × Bool)) _ _
  kernel_rfl
 ·show @Eq (Option (ByteArray × Bool)) _ _
  kernel_rfl
theorem conf_cases {x : List Int} (h : confOk x = true) : x = [1] ∨ x = [2] ∨ x = [3] ∨ x = [4] ∨ x = [1,2] ∨ x = [1,3] ∨ x = [1,4] ∨ x = [2,3] ∨ x = [2,4] ∨ x = [3,4] ∨ x = [1,2,3] ∨ x = [1,2,4] ∨ x = [1,3,4] ∨ x = [2,3,4] ∨ x = [1,2,3,4] := by
 have hl := confOk_len h
 simp only [confOk,Bool.and_eq_true,decide_eq_true_eq] at h
 obtain ⟨_,_,h⟩ := h
 rcases x with _ | ⟨a,_ | ⟨b,_ | ⟨c,_ | ⟨d,_ | ⟨e,x⟩⟩⟩⟩⟩
 ·simp at hl
 ·simp only [rise,Bool.and_eq_true,decide_eq_true_eq,and_true] at h
  have : a = 1 ∨ a = 2 ∨ a = 3 ∨ a = 4 := by omega
  rcases this with rfl | rfl | rfl | rfl <;> simp
 ·simp only [rise,Bool.and_eq_true,decide_eq_true_eq,and_true] at h
  have : (a = 1 ∧ b = 2) ∨ (a = 1 ∧ b = 3) ∨ (a = 1 ∧ b = 4) ∨ (a = 2 ∧ b = 3) ∨ (a = 2 ∧ b = 4) ∨ (a = 3 ∧ b = 4) := by omega
  rcases this with ⟨rfl,rfl⟩ | ⟨rfl,rfl⟩ | ⟨rfl,rfl⟩ | ⟨rfl,rfl⟩ | ⟨rfl,rfl⟩ | ⟨rfl,rfl⟩ <;> simp
 ·simp only [rise,Bool.and_eq_true,decide_eq_true_eq,and_true] at h
  have : (a = 1 ∧ b = 2 ∧ c = 3) ∨ (a = 1 ∧ b = 2 ∧ c = 4) ∨ (a = 1 ∧ b = 3 ∧ c = 4) ∨ (a = 2 ∧ b = 3 ∧ c = 4) := by omega
  rcases this with ⟨rfl,rfl,rfl⟩ | ⟨rfl,rfl,rfl⟩ | ⟨rfl,rfl,rfl⟩ | ⟨rfl,rfl,rfl⟩ <;> simp
 ·simp only [rise,Bool.and_eq_true,decide_eq_true_eq,and_true] at h
  have : a = 1 ∧ b = 2 ∧ c = 3 ∧ d = 4 := by omega
  obtain ⟨rfl,rfl,rfl,rfl⟩ := this
  simp
 ·simp at hl
theorem both {x : List Int} (h : confOk x = true) (N : Nat) : Both N x := by
 rcases conf_cases h with rfl | rfl | rfl | rfl | rfl | rfl | rfl | rfl | rfl | rfl | rfl | rfl | rfl | rfl | rfl
 ·exact t0 N
 ·exact t1 N
 ·exact t2 N
 ·exact t3 N
 ·exact t4 N
 ·exact t5 N
 ·exact t6 N
 ·exact t7 N
 ·exact t8 N
 ·exact t9 N
 ·exact t10 N
 ·exact t11 N
 ·exact t12 N
 ·exact t13 N
 ·exact t14 N
theorem put_spec (N : Nat) (s t : ByteArray) : spec_l03Put (N + 100) ⟨[⟨⟨#[103,48]⟩,⟨#[]⟩⟩,⟨⟨#[109]⟩,t⟩]⟩ ⟨⟨#[108,111,103]⟩,s⟩ = some (dsk s t) := by
 show @Eq (Option Disk) _ _
 kernel_rfl
theorem put_impl (N : Nat) (s t : ByteArray) : impl_withFile (N + 100) ⟨[⟨⟨#[103,48]⟩,⟨#[]⟩⟩,⟨⟨#[109]⟩,t⟩]⟩ ⟨#[108,111,103]⟩ s = some (dsk s t) := by
 show @Eq (Option Disk) _ _
 kernel_rfl
theorem fmt_good (N : Nat) {x : List Int} (h : confOk x = true) : ∃ s t,s.size ≤ 100 ∧ t.size ≤ 100 ∧ spec_FormatDisk (N + 100) x = some (dsk s t,true) ∧ impl_FormatDisk (N + 100) x = some (dsk s t,true) := by
 obtain ⟨s,hs,s1,s2⟩ := log_both N
 obtain ⟨t,ht,t1,t2⟩ := both h N
 refine ⟨s,t,hs,ht,?_,?_⟩
 ·unfold spec_FormatDisk spec_FormatShelf
  simp only [t1,bO,seg_spec,s1,put_spec,Bool.not_true,Bool.false_eq_true,if_false]
 ·unfold impl_FormatDisk impl_FormatShelf
  simp only [t2,bO,seg_impl,s2,put_impl,Bool.not_true,Bool.false_eq_true,if_false]
theorem fmt_bad (N : Nat) (hN : Big N) {x : List Int} (hx : x.length ≤ 1048576) (h : confOk x = false) : spec_FormatDisk N x = some (⟨[]⟩,false) ∧ impl_FormatDisk N x = some (⟨[]⟩,false) := by
 constructor
 ·unfold spec_FormatDisk spec_FormatShelf spec_ManifestText
  simp [man_spec N hN x hx,h]
 ·unfold impl_FormatDisk impl_FormatShelf impl_ManifestText
  simp [man_impl N hN x hx,h]
theorem strOf_size (n : Int) : (strOf ([n] : List Int)).size = 1 := rfl
theorem mark_text_r (N : Nat) : ∀ (m : Nat) (k : Int) (out : ByteArray),0 ≤ k → k < m → out.size + k ≤ 1099511627776 → ∃ t,laws_markText_l1 N m k out = some t ∧ (t.size : Int) ≤ out.size + k
 | 0,k,out,h0,hm,hs => by omega
 | m + 1,k,out,h0,hm,hs => by
  rw [laws_markText_l1]
  by_cases hk : k > 0
  ·rw [if_pos (by simpa using hk)]
   simp only [intD]
   rw [if_neg (by decide),if_neg (by decide)]
   simp only [bO]
   have hq : IntKind.i64.wrap (k.tdiv 10) = k / 10 := by
    rw [Int.tdiv_eq_ediv_of_nonneg h0]
    exact w64_id (by omega) (by omega)
   rw [hq,scat_ok (by rw [strOf_size]; omega),bO]
   obtain ⟨t,e1,e2⟩ := mark_text_r N m (k / 10) (strOf ([IntKind.wrap .u8 (w64 ((48 : Int) + k.tmod 10))] : List Int) ++ out) (by omega) (by omega) (by rw [ByteArray.size_append,strOf_size]; omega)
   refine ⟨t,e1,?_⟩
   rw [ByteArray.size_append,strOf_size] at e2
   omega
  ·rw [if_neg (by simpa using hk)]
   exact ⟨out,rfl,by omega⟩
theorem mark_text (N : Nat) (hN : Big N) (k : Int) (h0 : 0 ≤ k) (hk : k ≤ 1099511627) : ∃ t,laws_markText N k = some t := by
 unfold laws_markText
 by_cases h : k ≤ 0
 ·exact ⟨_,by rw [if_pos (by simpa using h)]⟩
 ·rw [if_neg (by simpa using h)]
  simp only [joinP]
  obtain ⟨t,e1,e2⟩ := mark_text_r N N k ⟨#[]⟩ h0 (by omega) (by
   have : (⟨#[]⟩ : ByteArray).size = 0 := rfl
   omega)
  have hz : (⟨#[]⟩ : ByteArray).size = 0 := rfl
  have ho : (⟨#[109]⟩ : ByteArray).size = 1 := rfl
  rw [e1,bO,scat_ok (by omega)]
  exact ⟨_,rfl⟩
abbrev mkB (l : List UInt8) : ByteArray := ⟨l.toArray⟩
theorem mkB_bs (t : ByteArray) : mkB t.data.toList = t := by
 apply ba_ext'
 simp
theorem dl_len (t : ByteArray) : t.data.toList.length = t.size := Array.length_toList
def okLine (l : List UInt8) : Bool := l.all fun b => decide (32 ≤ b.toNat ∧ b.toNat ≤ 126)
theorem okLine_cons (b : UInt8) (l : List UInt8) : okLine (b :: l) = (decide (32 ≤ b.toNat ∧ b.toNat ≤ 126) && okLine l) := rfl
def partsOf (t : ByteArray) : List ByteArray × Bool := if 600 < t.size then ([],false) else if okLine t.data.toList = true then (if 10 < (Lib.fields t.data.toList).length then ([],false) else ((Lib.fields t.data.toList).map mkB,true)) else ([],false)
set_option maxRecDepth 100000 in
theorem sp32 {b : UInt8} (h : 32 ≤ b.toNat ∧ b.toNat ≤ 126) : Lib.isSp b = decide (b.toNat = 32) := by
 have e : ∀ k,k < 256 → 32 ≤ k → Lib.isSp (UInt8.ofNat k) = decide (k = 32) := by decide
 have := e b.toNat (by omega) h.1
 rwa [UInt8.ofNat_toNat] at this
theorem parts_i (N : Nat) (t : ByteArray) (ht : t.size ≤ 1000) : ∀ (d k m : Nat),t.size = k + d → d < m → impl_PartsOf_l1 N t m (k : Int) = some (if okLine (t.data.toList.drop k) = true then .inr () else .inl ([],false))
 | 0,k,m,h,hm => by
  obtain ⟨m,rfl⟩ : ∃ q,m = q + 1 := ⟨m - 1,by omega⟩
  rw [impl_PartsOf_l1,if_neg (by simp; omega),List.drop_eq_nil_of_le (by rw [dl_len]; omega)]
  rfl
 | d + 1,k,m,h,hm => by
  obtain ⟨m,rfl⟩ : ∃ q,m = q + 1 := ⟨m - 1,by omega⟩
  have hk : k < t.data.toList.length := by rw [dl_len]; omega
  have hd := List.drop_eq_getElem_cons hk
  rw [impl_PartsOf_l1,if_pos (by simp; omega),sat_at hd,bO]
  have hb : t.data.toList[k].toNat < 256 := t.data.toList[k].toNat_lt
  rw [w64_id (by omega) (by omega),within_eq,bO,hd,okLine_cons]
  by_cases hq : 32 ≤ t.data.toList[k].toNat ∧ t.data.toList[k].toNat ≤ 126
  ·have hq2 : (32 : Int) ≤ (t.data.toList[k].toNat : Int) ∧ (t.data.toList[k].toNat : Int) ≤ 126 := by omega
   rw [decide_eq_true hq2,decide_eq_true hq,if_neg (by decide),w64_succ (by omega),parts_i N t ht d (k + 1) m (by omega) (by omega),Bool.true_and]
  ·have hq2 : ¬ ((32 : Int) ≤ (t.data.toList[k].toNat : Int) ∧ (t.data.toList[k].toNat : Int) ≤ 126) := by omega
   rw [decide_eq_false hq2,decide_eq_false hq,if_pos (by decide),Bool.false_and,if_neg (by decide)]
theorem parts_impl (N : Nat) (hN : Big N) (t : ByteArray) (ht : t.size ≤ 1000000) : impl_PartsOf N t = some (partsOf t) := by
 unfold impl_PartsOf partsOf
 by_cases h1 : 600 < t.size
 ·rw [if_pos (by simp; omega),if_pos h1]
 rw [if_neg (by simp; omega),if_neg h1]
 simp only [joinP]
 have := parts_i N t (by omega) t.size 0 N (by omega) (by unfold Big at hN; omega)
 rw [show ((0 : Nat) : Int) = 0 from rfl,List.drop_zero] at this
 rw [this,bO]
 by_cases h2 : okLine t.data.toList = true
 ·rw [if_pos h2,if_pos h2]
  simp only [Sum.elim_inr]
  have hf : fields? t = some ((Lib.fields t.data.toList).map mkB) := by
   have hall : (t.data.toList.all fun b => decide (b.toNat < 128)) = true := by
    rw [List.all_eq_true]
    intro b hb
    have := List.all_eq_true.1 h2 b hb
    simp only [decide_eq_true_eq] at this ⊢
    omega
   unfold fields?
   rw [if_pos ⟨by omega,hall⟩]
  unfold strings_Fields
  rw [hf,bO,List.length_map]
  by_cases h3 : 10 < (Lib.fields t.data.toList).length
  ·rw [if_pos (by simp; omega),if_pos h3]
  ·rw [if_neg (by simp; omega),if_neg h3]
 ·rw [if_neg h2,if_neg h2]
  rfl
theorem parts_s (N : Nat) (t : ByteArray) (ht : t.size ≤ 1000) : ∀ (d i b m : Nat) (cur : List UInt8) (out : List ByteArray),t.size = i + d → d + 1 < m → b ≤ i → cur = (t.data.toList.drop b).take (i - b) → out.length ≤ i →
  spec_PartsOf_l1 N t m (b : Int) (i : Int) out = some (if okLine (t.data.toList.drop i) = true then .inr (out ++ (Lib.fieldsGo cur (t.data.toList.drop i)).map mkB) else .inl ([],false)) := by
 have hcut : ∀ b i,b ≤ i → i ≤ t.size → t.extract b i = mkB ((t.data.toList.drop b).take (i - b)) := fun b i h1 h2 => by
  apply ba_ext'
  rw [ext_toList t b i h1 h2]
 have hemp : ∀ b i,b ≤ i → i ≤ t.size → (((t.data.toList.drop b).take (i - b)).isEmpty = true ↔ b = i) := fun b i h1 h2 => by
  rw [List.isEmpty_iff,← List.length_eq_zero_iff,List.length_take,List.length_drop,dl_len]
  omega
 intro d
 induction d with
 | zero =>
  intro i b m cur out h hm hb hc ho
  obtain ⟨m,rfl⟩ : ∃ q,m = q + 1 + 1 := ⟨m - 2,by omega⟩
  have hnil : t.data.toList.drop i = [] := List.drop_eq_nil_of_le (by rw [dl_len]; omega)
  have hend : ∀ (b' : Int) (o : List ByteArray),spec_PartsOf_l1 N t (m + 1) b' ((i + 1 : Nat) : Int) o = some (.inr o) := fun b' o => by
   rw [spec_PartsOf_l1,if_neg (by simp; omega)]
  rw [spec_PartsOf_l1,if_pos (by simp; omega)]
  simp only [joinP]
  rw [if_neg (by simp; omega),if_neg (by simp; omega),w64_succ (by omega),hnil]
  have hok : okLine [] = true := rfl
  rw [if_pos hok,Lib.fieldsGo]
  by_cases hbi : b = i
  ·rw [if_neg (by simp; omega),hend,if_pos (by rw [hc]; exact (hemp b i hb (by omega)).2 hbi)]
   simp
  ·rw [if_pos (by simp; omega),scut_ok hb (by omega),bO,cat_ok (by simp; omega),bO,hend,if_neg (by rw [hc]; exact fun hq => hbi ((hemp b i hb (by omega)).1 hq)),hcut b i hb (by omega),← hc]
   rfl
 | succ d ih =>
  intro i b m cur out h hm hb hc ho
  obtain ⟨m,rfl⟩ : ∃ q,m = q + 1 := ⟨m - 1,by omega⟩
  have hk : i < t.data.toList.length := by rw [dl_len]; omega
  have hd := List.drop_eq_getElem_cons hk
  have hlt : t.data.toList[i].toNat < 256 := t.data.toList[i].toNat_lt
  rw [spec_PartsOf_l1,if_pos (by simp; omega)]
  simp only [joinP]
  rw [if_pos (by simp; omega),if_pos (by simp; omega),sat_at hd]
  simp only [bO]
  rw [hd,okLine_cons]
  by_cases h1 : t.data.toList[i].toNat < 32
  ·rw [if_pos (by simp only [decide_eq_true_eq]; omega),decide_eq_false (show ¬ (32 ≤ t.data.toList[i].toNat ∧ t.data.toList[i].toNat ≤ 126) by omega),Bool.false_and,if_neg (by decide)]
  rw [if_neg (by simp only [decide_eq_true_eq]; omega)]
  by_cases h2 : 126 < t.data.toList[i].toNat
  ·rw [if_pos (by simp only [decide_eq_true_eq]; omega),decide_eq_false (show ¬ (32 ≤ t.data.toList[i].toNat ∧ t.data.toList[i].toNat ≤ 126) by omega),Bool.false_and,if_neg (by decide)]
  rw [if_neg (by simp only [decide_eq_true_eq]; omega),decide_eq_true (show 32 ≤ t.data.toList[i].toNat ∧ t.data.toList[i].toNat ≤ 126 by omega),Bool.true_and,w64_succ (by omega),Lib.fieldsGo,sp32 (by omega)]
  by_cases h3 : t.data.toList[i].toNat = 32
  ·rw [if_neg (by simp only [bne_iff_ne]; omega),decide_eq_true h3,if_pos rfl]
   by_cases hbi : b = i
   ·have hce : cur.isEmpty = true := by rw [hc]; exact (hemp b i hb (by omega)).2 hbi
    rw [if_neg (by simp; omega),if_pos hce]
    exact ih (i + 1) (i + 1) m [] out (by omega) (by omega) (Nat.le_refl _) (by simp) (by omega)
   ·have hce : ¬ cur.isEmpty = true := by rw [hc]; exact fun hq => hbi ((hemp b i hb (by omega)).1 hq)
    rw [if_pos (by simp; omega),scut_ok hb (by omega),bO,cat_ok (by simp; omega),bO,if_neg hce]
    rw [ih (i + 1) (i + 1) m [] (out ++ [t.extract b i]) (by omega) (by omega) (Nat.le_refl _) (by simp) (by simp; omega),hcut b i hb (by omega),← hc]
    simp only [List.map_cons,List.append_assoc,List.singleton_append]
  ·rw [if_pos (by simp only [bne_iff_ne]; omega),decide_eq_false h3,if_neg Bool.false_ne_true]
   refine ih (i + 1) b m (cur ++ [t.data.toList[i]]) out (by omega) (by omega) (by omega) ?_ (by omega)
   rw [hc,show i + 1 - b = (i - b) + 1 by omega,List.take_succ_eq_append_getElem (by rw [List.length_drop]; omega),List.getElem_drop]
   congr 3
   omega
theorem parts_spec (N : Nat) (hN : Big N) (t : ByteArray) (ht : t.size ≤ 1000000) : spec_PartsOf N t = some (partsOf t) := by
 unfold spec_PartsOf partsOf
 by_cases h1 : 600 < t.size
 ·rw [if_pos (by simp; omega),if_pos h1]
 rw [if_neg (by simp; omega),if_neg h1]
 simp only [joinP]
 have := parts_s N t (by omega) t.size 0 0 N [] [] (by omega) (by unfold Big at hN; omega) (Nat.le_refl _) rfl (Nat.le_refl _)
 rw [show ((0 : Nat) : Int) = 0 from rfl,List.drop_zero] at this
 rw [this,bO]
 by_cases h2 : okLine t.data.toList = true
 ·rw [if_pos h2,if_pos h2]
  simp only [Sum.elim_inr,List.nil_append,List.length_map]
  rw [show Lib.fieldsGo [] t.data.toList = Lib.fields t.data.toList from rfl]
  by_cases h3 : 10 < (Lib.fields t.data.toList).length
  ·rw [if_pos (by simp; omega),if_pos h3]
  ·rw [if_neg (by simp; omega),if_neg h3]
 ·rw [if_neg h2,if_neg h2]
  rfl
theorem fieldsGo_in : ∀ (l cur : List UInt8),∀ p ∈ Lib.fieldsGo cur l,p ≠ [] ∧ p.length ≤ cur.length + l.length
 | [],cur,p,hp => by
  rw [Lib.fieldsGo] at hp
  split at hp
  ·cases hp
  ·rename_i h
   obtain rfl := List.mem_singleton.1 hp
   exact ⟨fun e => h (by rw [e]; rfl),by simp⟩
 | b :: l,cur,p,hp => by
  rw [Lib.fieldsGo] at hp
  split at hp
  ·split at hp
   ·obtain ⟨h1,h2⟩ := fieldsGo_in l [] p hp
    exact ⟨h1,by simp at h2 ⊢; omega⟩
   ·rename_i h
    rcases List.mem_cons.1 hp with rfl | hp
    ·exact ⟨fun e => h (by rw [e]; rfl),by simp⟩
    ·obtain ⟨h1,h2⟩ := fieldsGo_in l [] p hp
     exact ⟨h1,by simp at h2 ⊢; omega⟩
  ·obtain ⟨h1,h2⟩ := fieldsGo_in l (cur ++ [b]) p hp
   exact ⟨h1,by simp at h2 ⊢; omega⟩
theorem partsOf_in {t : ByteArray} (h : (partsOf t).2 = true) : (partsOf t).1.length ≤ 10 ∧ ∀ p ∈ (partsOf t).1,1 ≤ p.size ∧ p.size ≤ 600 := by
 unfold partsOf at h ⊢
 split at h
 ·cases h
 ·rename_i h1
  rw [if_neg h1]
  split at h
  ·rename_i h2
   rw [if_pos h2]
   split at h
   ·cases h
   ·rename_i h3
    rw [if_neg h3]
    refine ⟨by simp; omega,fun p hp => ?_⟩
    obtain ⟨q,hq,rfl⟩ := List.mem_map.1 hp
    obtain ⟨g1,g2⟩ := fieldsGo_in t.data.toList [] q hq
    have hs : (mkB q).size = q.length := List.size_toArray
    have := List.length_pos_iff.2 g1
    rw [dl_len] at g2
    simp only [List.length_nil] at g2
    omega
  ·cases h
def splG : List UInt8 → List UInt8 → List (List UInt8)
 | cur,[] => [cur]
 | cur,b :: l => if b.toNat = 10 then cur :: splG [] l else splG (cur ++ [b]) l
def lnsG : List UInt8 → List UInt8 → List (List UInt8)
 | cur,[] => if cur.isEmpty = true then [] else [cur]
 | cur,b :: l => if b.toNat = 10 then cur :: lnsG [] l else lnsG (cur ++ [b]) l
theorem spl_lns : ∀ (l cur : List UInt8),∃ A q,splG cur l = A ++ [q] ∧ lnsG cur l = A ++ (if q.isEmpty = true then [] else [q])
 | [],cur => ⟨[],cur,rfl,rfl⟩
 | b :: l,cur => by
  by_cases h : b.toNat = 10
  ·obtain ⟨A,q,h1,h2⟩ := spl_lns l []
   exact ⟨cur :: A,q,by rw [splG,if_pos h,h1]; rfl,by rw [lnsG,if_pos h,h2]; rfl⟩
  ·obtain ⟨A,q,h1,h2⟩ := spl_lns l (cur ++ [b])
   exact ⟨A,q,by rw [splG,if_neg h,h1],by rw [lnsG,if_neg h,h2]⟩
theorem lns_in : ∀ (l cur : List UInt8),∀ p ∈ lnsG cur l,p.length ≤ cur.length + l.length
 | [],cur,p,hp => by
  rw [lnsG] at hp
  split at hp
  ·cases hp
  ·obtain rfl := List.mem_singleton.1 hp
   simp
 | b :: l,cur,p,hp => by
  rw [lnsG] at hp
  split at hp
  ·rcases List.mem_cons.1 hp with rfl | hp
   ·simp
   ·have := lns_in l [] p hp
    simp at this ⊢
    omega
  ·have := lns_in l (cur ++ [b]) p hp
   simp at this ⊢
   omega
theorem lines_s (N : Nat) (t : ByteArray) (ht : t.size ≤ 1048576) : ∀ (d i b m : Nat) (cur : List UInt8) (out : List ByteArray),t.size = i + d → d < m → b ≤ i → cur = (t.data.toList.drop b).take (i - b) → out.length ≤ i →
  ∃ (b' : Nat) (out' : List ByteArray) (cur' : List UInt8),spec_l20Lines_l1 N t m (b : Int) (i : Int) out = some ((b' : Int),out') ∧ b' ≤ t.size ∧ cur' = t.data.toList.drop b' ∧ out'.length ≤ t.size ∧ out' ++ (if cur'.isEmpty = true then [] else [mkB cur']) = out ++ (lnsG cur (t.data.toList.drop i)).map mkB := by
 intro d
 induction d with
 | zero =>
  intro i b m cur out h hm hb hc ho
  obtain ⟨m,rfl⟩ : ∃ q,m = q + 1 := ⟨m - 1,by omega⟩
  have hnil : t.data.toList.drop i = [] := List.drop_eq_nil_of_le (by rw [dl_len]; omega)
  have hc2 : cur = t.data.toList.drop b := by rw [hc]; exact List.take_of_length_le (by rw [List.length_drop,dl_len]; omega)
  refine ⟨b,out,cur,?_,by omega,hc2,by omega,?_⟩
  ·rw [spec_l20Lines_l1,if_neg (by simp; omega)]
  ·rw [hnil,lnsG]
   split <;> rfl
 | succ d ih =>
  intro i b m cur out h hm hb hc ho
  obtain ⟨m,rfl⟩ : ∃ q,m = q + 1 := ⟨m - 1,by omega⟩
  have hk : i < t.data.toList.length := by rw [dl_len]; omega
  have hd := List.drop_eq_getElem_cons hk
  have hlt : t.data.toList[i].toNat < 256 := t.data.toList[i].toNat_lt
  rw [spec_l20Lines_l1,if_pos (by simp; omega)]
  simp only [joinP]
  rw [sat_at hd,bO,hd,lnsG,w64_succ (by omega)]
  by_cases h1 : t.data.toList[i].toNat = 10
  ·have h2 : ((t.data.toList[i].toNat : Int) == 10) = true := by rw [beq_iff_eq]; omega
   rw [if_pos h2,if_pos h1,scut_ok hb (by omega),bO,cat_ok (by simp; omega),bO]
   obtain ⟨b',out',cur',e1,e2,e3,e4,e5⟩ := ih (i + 1) (i + 1) m [] (out ++ [t.extract b i]) (by omega) (by omega) (Nat.le_refl _) (by simp) (by simp; omega)
   refine ⟨b',out',cur',e1,e2,e3,e4,?_⟩
   have hx : t.extract b i = mkB cur := by
    apply ba_ext'
    rw [ext_toList t b i hb (by omega),hc]
   rw [e5,hx,List.map_cons,List.append_assoc]
   rfl
  ·have h2 : ¬ ((t.data.toList[i].toNat : Int) == 10) = true := by rw [beq_iff_eq]; omega
   rw [if_neg h2,if_neg h1]
   refine ih (i + 1) b m (cur ++ [t.data.toList[i]]) out (by omega) (by omega) (by omega) ?_ (by omega)
   rw [hc,show i + 1 - b = (i - b) + 1 by omega,List.take_succ_eq_append_getElem (by rw [List.length_drop]; omega),List.getElem_drop]
   congr 3
   omega
def linesOf (t : ByteArray) : List ByteArray := (lnsG [] t.data.toList).map mkB
theorem lines_spec (N : Nat) (hN : Big N) (t : ByteArray) (ht : t.size ≤ 1048576) : spec_l20Lines N t = some (linesOf t) := by
 obtain ⟨b',out',cur',e1,e2,e3,e4,e5⟩ := lines_s N t ht t.size 0 0 N [] [] (by omega) (by unfold Big at hN; omega) (Nat.le_refl _) rfl (Nat.zero_le _)
 rw [show ((0 : Nat) : Int) = 0 from rfl] at e1
 unfold spec_l20Lines
 simp only [joinP]
 rw [e1,bO]
 simp only
 rw [List.drop_zero,List.nil_append] at e5
 have hce : cur'.isEmpty = true ↔ ¬ b' < t.size := by
  rw [List.isEmpty_iff,← List.length_eq_zero_iff,e3,List.length_drop,dl_len]
  omega
 by_cases h : b' < t.size
 ·have hc : ¬ cur'.isEmpty = true := fun hq => hce.1 hq h
  rw [if_neg hc] at e5
  have hx : t.extract b' t.size = mkB cur' := by
   apply ba_ext'
   rw [ext_toList t b' t.size e2 (Nat.le_refl _),e3]
   exact List.take_of_length_le (by rw [List.length_drop,dl_len]; omega)
  rw [if_pos (by simp; omega),sdrop_ok e2,bO,cat_ok (by simp; omega),hx,e5]
  rfl
 ·rw [if_pos (hce.2 h),List.append_nil] at e5
  rw [if_neg (by simp; omega),e5]
  rfl
def nlI (l : List UInt8) : Nat := (l.takeWhile fun c => c.toNat != 10).length
theorem index_nl : ∀ l : List UInt8,Lib.indexByte l 10 = if nlI l < l.length then (nlI l : Int) else -1
 | [] => rfl
 | c :: l => by
  have ih := index_nl l
  rw [Lib.indexByte,ih]
  by_cases h : c = 10
  ·subst h
   simp [nlI]
  ·have h2 : c.toNat ≠ 10 := fun e => h (UInt8.toNat_inj.1 e)
   have h3 : nlI (c :: l) = nlI l + 1 := by simp [nlI,h2]
   rw [if_neg (by simpa using h),h3,List.length_cons]
   by_cases h4 : nlI l < l.length
   ·simp [h4]
   ·simp [h4]
theorem spl_nl : ∀ (l cur : List UInt8),splG cur l = if nlI l < l.length then (cur ++ l.take (nlI l)) :: splG [] (l.drop (nlI l + 1)) else [cur ++ l]
 | [],cur => by simp [splG,nlI]
 | c :: l,cur => by
  rw [splG]
  by_cases h : c.toNat = 10
  ·have h3 : nlI (c :: l) = 0 := by simp [nlI,h]
   rw [if_pos h,h3,if_pos (by simp)]
   simp
  ·have h3 : nlI (c :: l) = nlI l + 1 := by simp [nlI,h]
   rw [if_neg h,spl_nl l (cur ++ [c]),h3,List.length_cons]
   by_cases h4 : nlI l < l.length
   ·rw [if_pos h4,if_pos (by omega)]
    simp
   ·rw [if_neg h4,if_neg (by omega)]
    simp
theorem spl_len : ∀ (l cur : List UInt8),(splG cur l).length = l.count 10 + 1
 | [],cur => rfl
 | c :: l,cur => by
  rw [splG]
  by_cases h : c.toNat = 10
  ·have h2 : c = 10 := UInt8.toNat_inj.1 h
   rw [if_pos h,List.length_cons,spl_len l [],h2,List.count_cons_self]
  ·have h2 : c ≠ 10 := fun e => h (by rw [e]; rfl)
   rw [if_neg h,spl_len l (cur ++ [c]),List.count_cons_of_ne (by simpa using h2)]
theorem gen_l (N : Nat) (v : ByteArray) (n : Nat) (hn : n ≤ v.size + 1) (hv : v.size ≤ 1048576) : ∀ (S : List ByteArray) (m i : Nat) (s : ByteArray) (l : List ByteArray),S = (splG [] s.data.toList).map mkB → S.length < m + 1 → i + S.length = n → l.length = n → s.size ≤ 1048576 →
  ∃ l',strings_genSplit_l1 N v ⟨#[10]⟩ 0 (n : Int) m s (i : Int) l = some ((S.getLast?).getD ⟨#[]⟩,((n - 1 : Nat) : Int),l') ∧ l'.length = n ∧ l'.take (n - 1) = l.take i ++ S.dropLast := by
 have hm' : w64 (imin (n : Int) (w64 ((v.size : Int) + 1)) - 1) = (n : Int) - 1 := by
  rw [w64_succ (by omega)]
  unfold imin
  split <;> rw [w64_id (by omega) (by omega)] <;> omega
 intro S
 induction S with
 | nil =>
  intro m i s l hS
  rw [spl_nl] at hS
  split at hS <;> cases hS
 | cons p S ih =>
  intro m i s l hS hm hi hl hs
  obtain ⟨m,rfl⟩ : ∃ q,m = q + 1 := ⟨m - 1,by simp at hm; omega⟩
  rw [spl_nl] at hS
  have hix : strings_Index N s ⟨#[10]⟩ = some (if nlI s.data.toList < s.data.toList.length then (nlI s.data.toList : Int) else -1) := by
   unfold strings_Index
   show some (Lib.indexByte s.data.toList 10) = _
   rw [index_nl]
  rw [strings_genSplit_l1,hm']
  by_cases h : nlI s.data.toList < s.data.toList.length
  ·rw [if_pos h,List.map_cons,List.nil_append] at hS
   injection hS with h1 h2
   have hne : S ≠ [] := by
    intro e
    rw [e,spl_nl] at h2
    split at h2 <;> cases h2
   have hp := List.length_pos_iff.2 hne
   simp only [List.length_cons] at hi hm
   have hls := dl_len s
   rw [if_pos (by simp only [decide_eq_true_eq]; omega),hix,if_pos h,bO,if_neg (by simp only [decide_eq_true_eq]; omega),Int.add_zero,w64_id (n := (nlI s.data.toList : Int)) (by omega) (by omega),stake_ok (by omega),bO,at_lt (by omega),bO]
   have e2 : w64 ((nlI s.data.toList : Int) + ((ByteArray.mk #[10]).size : Int)) = ((nlI s.data.toList + 1 : Nat) : Int) := w64_succ (by omega)
   rw [e2,sdrop_ok (by omega),bO,w64_succ (by omega),Int.toNat_natCast]
   have hx : (s.extract (nlI s.data.toList + 1) s.size).data.toList = s.data.toList.drop (nlI s.data.toList + 1) := by
    rw [ext_toList s _ _ (by omega) (Nat.le_refl _)]
    exact List.take_of_length_le (by rw [List.length_drop]; omega)
   have hz : s.extract 0 (nlI s.data.toList) = p := by
    apply ba_ext'
    rw [ext_toList s _ _ (Nat.zero_le _) (by omega),h1]
    rfl
   obtain ⟨l',q1,q2,q3⟩ := ih m (i + 1) (s.extract (nlI s.data.toList + 1) s.size) (l.set i (s.extract 0 (nlI s.data.toList))) (by rw [hx]; exact h2) (by omega) (by omega) (by rw [List.length_set]; exact hl) (by rw [ByteArray.size_extract]; omega)
   refine ⟨l',?_,q2,?_⟩
   ·rw [q1]
    congr 2
    rw [List.getLast?_cons_of_ne_nil hne]
   ·rw [q3,hz,List.dropLast_cons_of_ne_nil hne]
    have ht : (l.set i p).take (i + 1) = l.take i ++ [p] := by
     rw [List.take_succ_eq_append_getElem (by rw [List.length_set]; omega),List.getElem_set_self,List.take_set_of_le (Nat.le_refl _)]
    rw [ht,List.append_assoc]
    rfl
  ·rw [if_neg h,List.nil_append] at hS
   have hS2 : p = mkB s.data.toList ∧ S = [] := by
    simp only [List.map_cons,List.map_nil] at hS
    injection hS with a b
    exact ⟨a,b⟩
   obtain ⟨rfl,rfl⟩ := hS2
   simp only [List.length_cons,List.length_nil] at hi
   refine ⟨l,?_,hl,?_⟩
   ·rw [if_neg (by simp only [decide_eq_true_eq]; omega),mkB_bs]
    simp only [List.getLast?_singleton,Option.getD_some]
    congr 3
    omega
   ·have : n - 1 = i := by omega
    rw [this]
    simp
theorem split_nl (N : Nat) (hN : Big N) (v : ByteArray) (hv : v.size ≤ 1048576) :
  ∃ arr,strings_Split N v ⟨#[10]⟩ = some ((splG [] v.data.toList).length,arr) ∧ arr = (splG [] v.data.toList).map mkB := by
 have hlen := spl_len v.data.toList []
 have hcl := List.count_le_length (a := (10 : UInt8)) (l := v.data.toList)
 have hdl := dl_len v
 obtain ⟨l',q1,q2,q3⟩ := gen_l N v (splG [] v.data.toList).length (by omega) hv ((splG [] v.data.toList).map mkB) N 0 v (List.replicate (splG [] v.data.toList).length ⟨#[]⟩) rfl (by rw [List.length_map]; unfold Big at hN; omega) (by simp) List.length_replicate hv
 rw [show ((0 : Nat) : Int) = 0 from rfl] at q1
 have hne : (splG [] v.data.toList).map mkB ≠ [] := by
  intro e
  have := congrArg List.length e
  rw [List.length_map,hlen] at this
  cases this
 have hlast : (((splG [] v.data.toList).map mkB).getLast?).getD ⟨#[]⟩ = ((splG [] v.data.toList).map mkB).getLast hne := by rw [List.getLast?_eq_some_getLast hne]; rfl
 refine ⟨l'.set ((splG [] v.data.toList).length - 1) (((splG [] v.data.toList).map mkB).getLast hne),?_,?_⟩
 ·unfold strings_Split strings_genSplit
  have hc : strings_Count N v ⟨#[10]⟩ = some ((v.data.toList.count 10 : Nat) : Int) := rfl
  rw [if_neg (by decide),if_neg (by decide)]
  simp only [joinP]
  rw [if_pos (by decide),hc,bO,w64_succ (by omega),← hlen]
  have hmin : imin ((splG [] v.data.toList).length : Int) (w64 ((v.size : Int) + 1)) = ((splG [] v.data.toList).length : Int) := by
   rw [w64_succ (by omega)]
   unfold imin
   split <;> omega
  have hmk : mk? (⟨#[]⟩ : ByteArray) ((splG [] v.data.toList).length : Int) = some (List.replicate (splG [] v.data.toList).length ⟨#[]⟩) := by
   unfold mk?
   rw [if_pos (by omega),Int.toNat_natCast]
  rw [hmin,hmk,bO,q1,bO]
  simp only
  rw [at_lt (by omega),bO,w64_succ (by omega),show (splG [] v.data.toList).length - 1 + 1 = (splG [] v.data.toList).length by omega,Int.toNat_natCast,Int.toNat_natCast,Pe.take_ok (by rw [List.length_set]; omega),bO,hlast]
  rfl
 ·have h1 : (l'.set ((splG [] v.data.toList).length - 1) (((splG [] v.data.toList).map mkB).getLast hne)) = l'.take ((splG [] v.data.toList).length - 1) ++ [((splG [] v.data.toList).map mkB).getLast hne] := by
   have h2 : l'.length = (splG [] v.data.toList).length - 1 + 1 := by omega
   conv => lhs; rw [← List.take_append_drop ((splG [] v.data.toList).length - 1) l']
   rw [List.set_append_right _ _ (by rw [List.length_take]; omega),List.length_take]
   congr 1
   have h3 : (l'.drop ((splG [] v.data.toList).length - 1)).length = 1 := by rw [List.length_drop]; omega
   match hq : l'.drop ((splG [] v.data.toList).length - 1),h3 with
   | [x],_ =>
    rw [show (splG [] v.data.toList).length - 1 - min ((splG [] v.data.toList).length - 1) l'.length = 0 by omega]
    rfl
  rw [h1,q3,List.take_zero,List.nil_append,List.dropLast_concat_getLast]
abbrev digs (t : ByteArray) : List Int := t.data.toList.map fun b => (b.toNat : Int) - 48
theorem digs_len (t : ByteArray) : (digs t).length = t.size := by rw [List.length_map,dl_len]
theorem digs_i (N : Nat) (t : ByteArray) (ht : t.size ≤ 1000) : ∀ (d k m : Nat) (acc : List Int),t.size = k + d → d < m → acc.length ≤ k → impl_confOf_l1 N t m (k : Int) acc = some (acc ++ (digs t).drop k) ∧ spec_l20Conf_l1 N t m (k : Int) acc = some (acc ++ (digs t).drop k)
 | 0,k,m,acc,h,hm,ha => by
  obtain ⟨m,rfl⟩ : ∃ q,m = q + 1 := ⟨m - 1,by omega⟩
  have hd : (digs t).drop k = [] := List.drop_eq_nil_of_le (by rw [digs_len]; omega)
  rw [impl_confOf_l1,spec_l20Conf_l1,if_neg (by simp; omega),if_neg (by simp; omega),hd,List.append_nil]
  exact ⟨rfl,rfl⟩
 | d + 1,k,m,acc,h,hm,ha => by
  obtain ⟨m,rfl⟩ : ∃ q,m = q + 1 := ⟨m - 1,by omega⟩
  have hk : k < t.data.toList.length := by rw [dl_len]; omega
  have hd := List.drop_eq_getElem_cons hk
  have hlt : t.data.toList[k].toNat < 256 := t.data.toList[k].toNat_lt
  have hk2 : k < (digs t).length := by rw [digs_len]; omega
  have he : (digs t)[k] = (t.data.toList[k].toNat : Int) - 48 := by
   rw [List.getElem_map]
  rw [impl_confOf_l1,spec_l20Conf_l1,if_pos (by simp; omega),if_pos (by simp; omega),sat_at hd]
  simp only [bO]
  rw [w64_id (n := (t.data.toList[k].toNat : Int)) (by omega) (by omega),w64_id (n := (t.data.toList[k].toNat : Int) - 48) (by omega) (by omega),cat_ok (by simp; omega),bO,bO,w64_succ (by omega),List.drop_eq_getElem_cons hk2,he]
  have ih := digs_i N t ht d (k + 1) m (acc ++ [(t.data.toList[k].toNat : Int) - 48]) (by omega) (by omega) (by simp; omega)
  rw [List.append_assoc] at ih
  exact ih
theorem conf_both (N : Nat) (hN : Big N) (t : ByteArray) (ht : t.size ≤ 1000) : impl_confOf N t = some (digs t,confOk (digs t)) ∧ spec_l20Conf N t = some (digs t,confOk (digs t)) := by
 have h := digs_i N t ht t.size 0 N [] (by omega) (by unfold Big at hN; omega) (Nat.le_refl _)
 rw [show ((0 : Nat) : Int) = 0 from rfl,List.nil_append,List.drop_zero] at h
 have hl := digs_len t
 unfold impl_confOf spec_l20Conf
 simp only [joinP]
 rw [h.1,h.2,bO,bO,confOk_impl N hN _ (by omega),confOk_spec N hN _ (by omega),bO]
 refine ⟨rfl,?_⟩
 by_cases h4 : t.size ≤ 4
 ·rw [if_pos (by simp; omega)]
 ·rw [if_neg (by simp; omega)]
  cases hc : confOk (digs t) with
  | false => rfl
  | true =>
   have := confOk_len hc
   omega
def numsOf : List ByteArray → Option (List Int)
 | [] => some []
 | p :: ps => if (rdec p).2 = true then (numsOf ps).map ((rdec p).1 :: ·) else none
theorem nums_r (N : Nat) (hN : Big N) (x : List ByteArray) : ∀ (ps : List ByteArray) (k : Nat) (acc : List Int),(∀ p ∈ ps,p.size ≤ 1000) → k + ps.length ≤ 1000 → acc.length ≤ k →
  impl_numbersOf_l1_r N x ps (k : Int) acc = some (match numsOf ps with | some l => .inr (acc ++ l) | none => .inl ([],false)) ∧ spec_l20Nums_l1_r N x ps (k : Int) acc = some (match numsOf ps with | some l => .inr (acc ++ l) | none => .inl ([],false))
 | [],k,acc,_,_,_ => by
  rw [impl_numbersOf_l1_r,spec_l20Nums_l1_r]
  simp [numsOf]
 | p :: ps,k,acc,hp,hl,ha => by
  simp only [List.length_cons] at hl
  rw [impl_numbersOf_l1_r,spec_l20Nums_l1_r]
  simp only [bO]
  have hps := hp p (by simp)
  rw [rdec_impl N p (by omega),rdec_spec N hN p,bO,bO,numsOf]
  by_cases h : (rdec p).2 = true
  ·have ih := nums_r N hN x ps (k + 1) (acc ++ [(rdec p).1]) (fun q hq => hp q (by simp [hq])) (by omega) (by simp; omega)
   simp only [h,Bool.not_true,Bool.false_eq_true,if_false,if_true]
   rw [cat_ok (by simp; omega),bO,bO,w64_succ (by omega),ih.1,ih.2]
   cases numsOf ps with
   | none => exact ⟨rfl,rfl⟩
   | some l => simp
  ·have h2 : (rdec p).2 = false := by simpa using h
   simp only [h2,Bool.not_false,Bool.false_eq_true,if_false,if_true]
   exact ⟨trivial,trivial⟩
def numsP (ps : List ByteArray) : List Int × Bool := match numsOf ps with | some l => (l,true) | none => ([],false)
theorem nums_both (N : Nat) (hN : Big N) (ps : List ByteArray) (hp : ∀ p ∈ ps,p.size ≤ 1000) (hl : ps.length ≤ 100) : impl_numbersOf N ps = some (numsP ps) ∧ spec_l20Nums N ps = some (numsP ps) := by
 have h := nums_r N hN ps ps 0 [] hp (by omega) (Nat.le_refl _)
 unfold impl_numbersOf spec_l20Nums numsP
 simp only [joinP]
 rw [impl_numbersOf_l1_eq ps (by omega) (by unfold Big at hN; omega),spec_l20Nums_l1_eq ps (by omega) (by unfold Big at hN; omega),show (0 : Int) = ((0 : Nat) : Int) from rfl,h.1,h.2,bO]
 cases numsOf ps <;> exact ⟨rfl,rfl⟩
theorem numsOf_len : ∀ {ps : List ByteArray} {l : List Int},numsOf ps = some l → l.length = ps.length
 | [],l,h => by simp [numsOf] at h; subst h; rfl
 | p :: ps,l,h => by
  rw [numsOf] at h
  split at h
  ·rw [Option.map_eq_some_iff] at h
   obtain ⟨q,hq,rfl⟩ := h
   simp [numsOf_len hq]
  ·cases h
theorem world_bad (N : Nat) (hN : Big N) (n : Int) {x : List Int} (hx : x.length ≤ 1048576) (h : confOk x = false) : ∃ w,spec_WorldNew N n x = some (w,false) ∧ impl_WorldNew N n x = some (w,false) := by
 obtain ⟨h1,h2⟩ := fmt_bad N hN hx h
 refine ⟨World.mk [] [] [] [] [] [] [],?_,?_⟩
 ·unfold spec_WorldNew
  rw [h1]
  rfl
 ·unfold impl_WorldNew
  rw [h2]
  rfl
theorem world_no (N : Nat) {n : Int} (hn : ¬ (1 ≤ n ∧ n ≤ 4)) {x : List Int} (h : confOk x = true) : ∃ w,spec_WorldNew (N + 100) n x = some (w,false) ∧ impl_WorldNew (N + 100) n x = some (w,false) := by
 obtain ⟨s,t,_,_,h1,h2⟩ := fmt_good N h
 refine ⟨World.mk [] [] [] [] [] [] [],?_,?_⟩
 ·unfold spec_WorldNew
  rw [h1,bO,if_neg (by simp),in_eq,bO,decide_eq_false hn]
  rfl
 ·unfold impl_WorldNew
  rw [h2,bO,if_neg (by simp),within_eq,bO,decide_eq_false hn]
  rfl
def WB (N : Nat) (n : Int) (x : List Int) (b : Bool) : Prop := (spec_WorldNew (N + 100) n x).map (·.2) = some b ∧ (impl_WorldNew (N + 100) n x).map (·.2) = some b
theorem wb0_1 (N : Nat) : WB N 1 [1] true := by
 constructor
 ·show @Eq (Option Bool) _ _
  kernel_rfl
 ·show @Eq (Option Bool) _ _
  kernel_rfl
theorem wb0_2 (N : Nat) : WB N 2 [1] true := by
 constructor
 ·show @Eq (Option Bool) _ _
  kernel_rfl
 ·show @Eq (Option Bool) _ _
  kernel_rfl
theorem wb0_3 (N : Nat) : WB N 3 [1] true := by
 constructor
 ·show @Eq (Option Bool) _ _
  kernel_rfl
 ·show @Eq (Option Bool) _ _
  kernel_rfl
theorem wb0_4 (N : Nat) : WB N 4 [1] true := by
 constructor
 ·show @Eq (Option Bool) _ _
  kernel_rfl
 ·show @Eq (Option Bool) _ _
  kernel_rfl
theorem wb1_1 (N : Nat) : WB N 1 [2] false := by
 constructor
 ·show @Eq (Option Bool) _ _
  kernel_rfl
 ·show @Eq (Option Bool) _ _
  kernel_rfl
theorem wb1_2 (N : Nat) : WB N 2 [2] true := by
 constructor
 ·show @Eq (Option Bool) _ _
  kernel_rfl
 ·show @Eq (Option Bool) _ _
  kernel_rfl
theorem wb1_3 (N : Nat) : WB N 3 [2] true := by
 constructor
 ·show @Eq (Option Bool) _ _
  kernel_rfl
 ·show @Eq (Option Bool) _ _
  kernel_rfl
theorem wb1_4 (N : Nat) : WB N 4 [2] true := by
 constructor
 ·show @Eq (Option Bool) _ _
  kernel_rfl
 ·show @Eq (Option Bool) _ _
  kernel_rfl
theorem wb2_1 (N : Nat) : WB N 1 [3] false := by
 constructor
 ·show @Eq (Option Bool) _ _
  kernel_rfl
 ·show @Eq (Option Bool) _ _
  kernel_rfl
theorem wb2_2 (N : Nat) : WB N 2 [3] false := by
 constructor
 ·show @Eq (Option Bool) _ _
  kernel_rfl
 ·show @Eq (Option Bool) _ _
  kernel_rfl
theorem wb2_3 (N : Nat) : WB N 3 [3] true := by
 constructor
 ·show @Eq (Option Bool) _ _
  kernel_rfl
 ·show @Eq (Option Bool) _ _
  kernel_rfl
theorem wb2_4 (N : Nat) : WB N 4 [3] true := by
 constructor
 ·show @Eq (Option Bool) _ _
  kernel_rfl
 ·show @Eq (Option Bool) _ _
  kernel_rfl
theorem wb3_1 (N : Nat) : WB N 1 [4] false := by
 constructor
 ·show @Eq (Option Bool) _ _
  kernel_rfl
 ·show @Eq (Option Bool) _ _
  kernel_rfl
theorem wb3_2 (N : Nat) : WB N 2 [4] false := by
 constructor
 ·show @Eq (Option Bool) _ _
  kernel_rfl
 ·show @Eq (Option Bool) _ _
  kernel_rfl
theorem wb3_3 (N : Nat) : WB N 3 [4] false := by
 constructor
 ·show @Eq (Option Bool) _ _
  kernel_rfl
 ·show @Eq (Option Bool) _ _
  kernel_rfl
theorem wb3_4 (N : Nat) : WB N 4 [4] true := by
 constructor
 ·show @Eq (Option Bool) _ _
  kernel_rfl
 ·show @Eq (Option Bool) _ _
  kernel_rfl
theorem wb4_1 (N : Nat) : WB N 1 [1,2] false := by
 constructor
 ·show @Eq (Option Bool) _ _
  kernel_rfl
 ·show @Eq (Option Bool) _ _
  kernel_rfl
theorem wb4_2 (N : Nat) : WB N 2 [1,2] true := by
 constructor
 ·show @Eq (Option Bool) _ _
  kernel_rfl
 ·show @Eq (Option Bool) _ _
  kernel_rfl
theorem wb4_3 (N : Nat) : WB N 3 [1,2] true := by
 constructor
 ·show @Eq (Option Bool) _ _
  kernel_rfl
 ·show @Eq (Option Bool) _ _
  kernel_rfl
theorem wb4_4 (N : Nat) : WB N 4 [1,2] true := by
 constructor
 ·show @Eq (Option Bool) _ _
  kernel_rfl
 ·show @Eq (Option Bool) _ _
  kernel_rfl
theorem wb5_1 (N : Nat) : WB N 1 [1,3] false := by
 constructor
 ·show @Eq (Option Bool) _ _
  kernel_rfl
 ·show @Eq (Option Bool) _ _
  kernel_rfl
theorem wb5_2 (N : Nat) : WB N 2 [1,3] false := by
 constructor
 ·show @Eq (Option Bool) _ _
  kernel_rfl
 ·show @Eq (Option Bool) _ _
  kernel_rfl
theorem wb5_3 (N : Nat) : WB N 3 [1,3] true := by
 constructor
 ·show @Eq (Option Bool) _ _
  kernel_rfl
 ·show @Eq (Option Bool) _ _
  kernel_rfl
theorem wb5_4 (N : Nat) : WB N 4 [1,3] true := by
 constructor
 ·show @Eq (Option Bool) _ _
  kernel_rfl
 ·show @Eq (Option Bool) _ _
  kernel_rfl
theorem wb6_1 (N : Nat) : WB N 1 [1,4] false := by
 constructor
 ·show @Eq (Option Bool) _ _
  kernel_rfl
 ·show @Eq (Option Bool) _ _
  kernel_rfl
theorem wb6_2 (N : Nat) : WB N 2 [1,4] false := by
 constructor
 ·show @Eq (Option Bool) _ _
  kernel_rfl
 ·show @Eq (Option Bool) _ _
  kernel_rfl
theorem wb6_3 (N : Nat) : WB N 3 [1,4] false := by
 constructor
 ·show @Eq (Option Bool) _ _
  kernel_rfl
 ·show @Eq (Option Bool) _ _
  kernel_rfl
theorem wb6_4 (N : Nat) : WB N 4 [1,4] true := by
 constructor
 ·show @Eq (Option Bool) _ _
  kernel_rfl
 ·show @Eq (Option Bool) _ _
  kernel_rfl
theorem wb7_1 (N : Nat) : WB N 1 [2,3] false := by
 constructor
 ·show @Eq (Option Bool) _ _
  kernel_rfl
 ·show @Eq (Option Bool) _ _
  kernel_rfl
theorem wb7_2 (N : Nat) : WB N 2 [2,3] false := by
 constructor
 ·show @Eq (Option Bool) _ _
  kernel_rfl
 ·show @Eq (Option Bool) _ _
  kernel_rfl
theorem wb7_3 (N : Nat) : WB N 3 [2,3] true := by
 constructor
 ·show @Eq (Option Bool) _ _
  kernel_rfl
 ·show @Eq (Option Bool) _ _
  kernel_rfl
theorem wb7_4 (N : Nat) : WB N 4 [2,3] true := by
 constructor
 ·show @Eq (Option Bool) _ _
  kernel_rfl
 ·show @Eq (Option Bool) _ _
  kernel_rfl
theorem wb8_1 (N : Nat) : WB N 1 [2,4] false := by
 constructor
 ·show @Eq (Option Bool) _ _
  kernel_rfl
 ·show @Eq (Option Bool) _ _
  kernel_rfl
theorem wb8_2 (N : Nat) : WB N 2 [2,4] false := by
 constructor
 ·show @Eq (Option Bool) _ _
  kernel_rfl
 ·show @Eq (Option Bool) _ _
  kernel_rfl
theorem wb8_3 (N : Nat) : WB N 3 [2,4] false := by
 constructor
 ·show @Eq (Option Bool) _ _
  kernel_rfl
 ·show @Eq (Option Bool) _ _
  kernel_rfl
theorem wb8_4 (N : Nat) : WB N 4 [2,4] true := by
 constructor
 ·show @Eq (Option Bool) _ _
  kernel_rfl
 ·show @Eq (Option Bool) _ _
  kernel_rfl
theorem wb9_1 (N : Nat) : WB N 1 [3,4] false := by
 constructor
 ·show @Eq (Option Bool) _ _
  kernel_rfl
 ·show @Eq (Option Bool) _ _
  kernel_rfl
theorem wb9_2 (N : Nat) : WB N 2 [3,4] false := by
 constructor
 ·show @Eq (Option Bool) _ _
  kernel_rfl
 ·show @Eq (Option Bool) _ _
  kernel_rfl
theorem wb9_3 (N : Nat) : WB N 3 [3,4] false := by
 constructor
 ·show @Eq (Option Bool) _ _
  kernel_rfl
 ·show @Eq (Option Bool) _ _
  kernel_rfl
theorem wb9_4 (N : Nat) : WB N 4 [3,4] true := by
 constructor
 ·show @Eq (Option Bool) _ _
  kernel_rfl
 ·show @Eq (Option Bool) _ _
  kernel_rfl
theorem wb10_1 (N : Nat) : WB N 1 [1,2,3] false := by
 constructor
 ·show @Eq (Option Bool) _ _
  kernel_rfl
 ·show @Eq (Option Bool) _ _
  kernel_rfl
theorem wb10_2 (N : Nat) : WB N 2 [1,2,3] false := by
 constructor
 ·show @Eq (Option Bool) _ _
  kernel_rfl
 ·show @Eq (Option Bool) _ _
  kernel_rfl
theorem wb10_3 (N : Nat) : WB N 3 [1,2,3] true := by
 constructor
 ·show @Eq (Option Bool) _ _
  kernel_rfl
 ·show @Eq (Option Bool) _ _
  kernel_rfl
theorem wb10_4 (N : Nat) : WB N 4 [1,2,3] true := by
 constructor
 ·show @Eq (Option Bool) _ _
  kernel_rfl
 ·show @Eq (Option Bool) _ _
  kernel_rfl
theorem wb11_1 (N : Nat) : WB N 1 [1,2,4] false := by
 constructor
 ·show @Eq (Option Bool) _ _
  kernel_rfl
 ·show @Eq (Option Bool) _ _
  kernel_rfl
theorem wb11_2 (N : Nat) : WB N 2 [1,2,4] false := by
 constructor
 ·show @Eq (Option Bool) _ _
  kernel_rfl
 ·show @Eq (Option Bool) _ _
  kernel_rfl
theorem wb11_3 (N : Nat) : WB N 3 [1,2,4] false := by
 constructor
 ·show @Eq (Option Bool) _ _
  kernel_rfl
 ·show @Eq (Option Bool) _ _
  kernel_rfl
theorem wb11_4 (N : Nat) : WB N 4 [1,2,4] true := by
 constructor
 ·show @Eq (Option Bool) _ _
  kernel_rfl
 ·show @Eq (Option Bool) _ _
  kernel_rfl
theorem wb12_1 (N : Nat) : WB N 1 [1,3,4] false := by
 constructor
 ·show @Eq (Option Bool) _ _
  kernel_rfl
 ·show @Eq (Option Bool) _ _
  kernel_rfl
theorem wb12_2 (N : Nat) : WB N 2 [1,3,4] false := by
 constructor
 ·show @Eq (Option Bool) _ _
  kernel_rfl
 ·show @Eq (Option Bool) _ _
  kernel_rfl
theorem wb12_3 (N : Nat) : WB N 3 [1,3,4] false := by
 constructor
 ·show @Eq (Option Bool) _ _
  kernel_rfl
 ·show @Eq (Option Bool) _ _
  kernel_rfl
theorem wb12_4 (N : Nat) : WB N 4 [1,3,4] true := by
 constructor
 ·show @Eq (Option Bool) _ _
  kernel_rfl
 ·show @Eq (Option Bool) _ _
  kernel_rfl
theorem wb13_1 (N : Nat) : WB N 1 [2,3,4] false := by
 constructor
 ·show @Eq (Option Bool) _ _
  kernel_rfl
 ·show @Eq (Option Bool) _ _
  kernel_rfl
theorem wb13_2 (N : Nat) : WB N 2 [2,3,4] false := by
 constructor
 ·show @Eq (Option Bool) _ _
  kernel_rfl
 ·show @Eq (Option Bool) _ _
  kernel_rfl
theorem wb13_3 (N : Nat) : WB N 3 [2,3,4] false := by
 constructor
 ·show @Eq (Option Bool) _ _
  kernel_rfl
 ·show @Eq (Option Bool) _ _
  kernel_rfl
theorem wb13_4 (N : Nat) : WB N 4 [2,3,4] true := by
 constructor
 ·show @Eq (Option Bool) _ _
  kernel_rfl
 ·show @Eq (Option Bool) _ _
  kernel_rfl
theorem wb14_1 (N : Nat) : WB N 1 [1,2,3,4] false := by
 constructor
 ·show @Eq (Option Bool) _ _
  kernel_rfl
 ·show @Eq (Option Bool) _ _
  kernel_rfl
theorem wb14_2 (N : Nat) : WB N 2 [1,2,3,4] false := by
 constructor
 ·show @Eq (Option Bool) _ _
  kernel_rfl
 ·show @Eq (Option Bool) _ _
  kernel_rfl
theorem wb14_3 (N : Nat) : WB N 3 [1,2,3,4] false := by
 constructor
 ·show @Eq (Option Bool) _ _
  kernel_rfl
 ·show @Eq (Option Bool) _ _
  kernel_rfl
theorem wb14_4 (N : Nat) : WB N 4 [1,2,3,4] true := by
 constructor
 ·show @Eq (Option Bool) _ _
  kernel_rfl
 ·show @Eq (Option Bool) _ _
  kernel_rfl
theorem world_both (N : Nat) (hN : Big (N + 100)) (n : Int) (x : List Int) (hx : x.length ≤ 1048576) : ∃ w w' b,spec_WorldNew (N + 100) n x = some (w,b) ∧ impl_WorldNew (N + 100) n x = some (w',b) ∧ (b = true → 1 ≤ n ∧ n ≤ 4 ∧ confOk x = true) := by
 have fin : ∀ b,WB N n x b → (b = true → 1 ≤ n ∧ n ≤ 4 ∧ confOk x = true) → ∃ w w' b,spec_WorldNew (N + 100) n x = some (w,b) ∧ impl_WorldNew (N + 100) n x = some (w',b) ∧ (b = true → 1 ≤ n ∧ n ≤ 4 ∧ confOk x = true) := by
  rintro b ⟨h1,h2⟩ h3
  obtain ⟨⟨w,b1⟩,e1,rfl⟩ := Option.map_eq_some_iff.1 h1
  obtain ⟨⟨w',b2⟩,e2,e3⟩ := Option.map_eq_some_iff.1 h2
  simp only at e3
  subst e3
  exact ⟨w,w',_,e1,e2,h3⟩
 cases h : confOk x with
 | false =>
  obtain ⟨w,h1,h2⟩ := world_bad (N + 100) hN n hx h
  exact ⟨w,w,false,h1,h2,fun e => by cases e⟩
 | true =>
  by_cases hn : 1 ≤ n ∧ n ≤ 4
  ·rw [h] at fin
   have h4 : n = 1 ∨ n = 2 ∨ n = 3 ∨ n = 4 := by omega
   rcases conf_cases h with rfl | rfl | rfl | rfl | rfl | rfl | rfl | rfl | rfl | rfl | rfl | rfl | rfl | rfl | rfl <;> rcases h4 with rfl | rfl | rfl | rfl
   ·exact fin _ (wb0_1 N) (fun _ => ⟨by decide,by decide,rfl⟩)
   ·exact fin _ (wb0_2 N) (fun _ => ⟨by decide,by decide,rfl⟩)
   ·exact fin _ (wb0_3 N) (fun _ => ⟨by decide,by decide,rfl⟩)
   ·exact fin _ (wb0_4 N) (fun _ => ⟨by decide,by decide,rfl⟩)
   ·exact fin _ (wb1_1 N) (fun _ => ⟨by decide,by decide,rfl⟩)
   ·exact fin _ (wb1_2 N) (fun _ => ⟨by decide,by decide,rfl⟩)
   ·exact fin _ (wb1_3 N) (fun _ => ⟨by decide,by decide,rfl⟩)
   ·exact fin _ (wb1_4 N) (fun _ => ⟨by decide,by decide,rfl⟩)
   ·exact fin _ (wb2_1 N) (fun _ => ⟨by decide,by decide,rfl⟩)
   ·exact fin _ (wb2_2 N) (fun _ => ⟨by decide,by decide,rfl⟩)
   ·exact fin _ (wb2_3 N) (fun _ => ⟨by decide,by decide,rfl⟩)
   ·exact fin _ (wb2_4 N) (fun _ => ⟨by decide,by decide,rfl⟩)
   ·exact fin _ (wb3_1 N) (fun _ => ⟨by decide,by decide,rfl⟩)
   ·exact fin _ (wb3_2 N) (fun _ => ⟨by decide,by decide,rfl⟩)
   ·exact fin _ (wb3_3 N) (fun _ => ⟨by decide,by decide,rfl⟩)
   ·exact fin _ (wb3_4 N) (fun _ => ⟨by decide,by decide,rfl⟩)
   ·exact fin _ (wb4_1 N) (fun _ => ⟨by decide,by decide,rfl⟩)
   ·exact fin _ (wb4_2 N) (fun _ => ⟨by decide,by decide,rfl⟩)
   ·exact fin _ (wb4_3 N) (fun _ => ⟨by decide,by decide,rfl⟩)
   ·exact fin _ (wb4_4 N) (fun _ => ⟨by decide,by decide,rfl⟩)
   ·exact fin _ (wb5_1 N) (fun _ => ⟨by decide,by decide,rfl⟩)
   ·exact fin _ (wb5_2 N) (fun _ => ⟨by decide,by decide,rfl⟩)
   ·exact fin _ (wb5_3 N) (fun _ => ⟨by decide,by decide,rfl⟩)
   ·exact fin _ (wb5_4 N) (fun _ => ⟨by decide,by decide,rfl⟩)
   ·exact fin _ (wb6_1 N) (fun _ => ⟨by decide,by decide,rfl⟩)
   ·exact fin _ (wb6_2 N) (fun _ => ⟨by decide,by decide,rfl⟩)
   ·exact fin _ (wb6_3 N) (fun _ => ⟨by decide,by decide,rfl⟩)
   ·exact fin _ (wb6_4 N) (fun _ => ⟨by decide,by decide,rfl⟩)
   ·exact fin _ (wb7_1 N) (fun _ => ⟨by decide,by decide,rfl⟩)
   ·exact fin _ (wb7_2 N) (fun _ => ⟨by decide,by decide,rfl⟩)
   ·exact fin _ (wb7_3 N) (fun _ => ⟨by decide,by decide,rfl⟩)
   ·exact fin _ (wb7_4 N) (fun _ => ⟨by decide,by decide,rfl⟩)
   ·exact fin _ (wb8_1 N) (fun _ => ⟨by decide,by decide,rfl⟩)
   ·exact fin _ (wb8_2 N) (fun _ => ⟨by decide,by decide,rfl⟩)
   ·exact fin _ (wb8_3 N) (fun _ => ⟨by decide,by decide,rfl⟩)
   ·exact fin _ (wb8_4 N) (fun _ => ⟨by decide,by decide,rfl⟩)
   ·exact fin _ (wb9_1 N) (fun _ => ⟨by decide,by decide,rfl⟩)
   ·exact fin _ (wb9_2 N) (fun _ => ⟨by decide,by decide,rfl⟩)
   ·exact fin _ (wb9_3 N) (fun _ => ⟨by decide,by decide,rfl⟩)
   ·exact fin _ (wb9_4 N) (fun _ => ⟨by decide,by decide,rfl⟩)
   ·exact fin _ (wb10_1 N) (fun _ => ⟨by decide,by decide,rfl⟩)
   ·exact fin _ (wb10_2 N) (fun _ => ⟨by decide,by decide,rfl⟩)
   ·exact fin _ (wb10_3 N) (fun _ => ⟨by decide,by decide,rfl⟩)
   ·exact fin _ (wb10_4 N) (fun _ => ⟨by decide,by decide,rfl⟩)
   ·exact fin _ (wb11_1 N) (fun _ => ⟨by decide,by decide,rfl⟩)
   ·exact fin _ (wb11_2 N) (fun _ => ⟨by decide,by decide,rfl⟩)
   ·exact fin _ (wb11_3 N) (fun _ => ⟨by decide,by decide,rfl⟩)
   ·exact fin _ (wb11_4 N) (fun _ => ⟨by decide,by decide,rfl⟩)
   ·exact fin _ (wb12_1 N) (fun _ => ⟨by decide,by decide,rfl⟩)
   ·exact fin _ (wb12_2 N) (fun _ => ⟨by decide,by decide,rfl⟩)
   ·exact fin _ (wb12_3 N) (fun _ => ⟨by decide,by decide,rfl⟩)
   ·exact fin _ (wb12_4 N) (fun _ => ⟨by decide,by decide,rfl⟩)
   ·exact fin _ (wb13_1 N) (fun _ => ⟨by decide,by decide,rfl⟩)
   ·exact fin _ (wb13_2 N) (fun _ => ⟨by decide,by decide,rfl⟩)
   ·exact fin _ (wb13_3 N) (fun _ => ⟨by decide,by decide,rfl⟩)
   ·exact fin _ (wb13_4 N) (fun _ => ⟨by decide,by decide,rfl⟩)
   ·exact fin _ (wb14_1 N) (fun _ => ⟨by decide,by decide,rfl⟩)
   ·exact fin _ (wb14_2 N) (fun _ => ⟨by decide,by decide,rfl⟩)
   ·exact fin _ (wb14_3 N) (fun _ => ⟨by decide,by decide,rfl⟩)
   ·exact fin _ (wb14_4 N) (fun _ => ⟨by decide,by decide,rfl⟩)
  ·obtain ⟨w,h1,h2⟩ := world_no N hn h
   exact ⟨w,w,false,h1,h2,fun e => by cases e⟩
abbrev w_tick : ByteArray := ⟨#[116,105,99,107]⟩
abbrev w_up : ByteArray := ⟨#[117,112]⟩
abbrev w_deliver : ByteArray := ⟨#[100,101,108,105,118,101,114]⟩
abbrev w_drop : ByteArray := ⟨#[100,114,111,112]⟩
abbrev w_copy : ByteArray := ⟨#[99,111,112,121]⟩
abbrev w_merge : ByteArray := ⟨#[109,101,114,103,101]⟩
abbrev w_down : ByteArray := ⟨#[100,111,119,110]⟩
abbrev w_conf : ByteArray := ⟨#[99,111,110,102]⟩
abbrev w_open : ByteArray := ⟨#[111,112,101,110]⟩
abbrev w_get : ByteArray := ⟨#[103,101,116]⟩
abbrev w_cut : ByteArray := ⟨#[99,117,116]⟩
abbrev w_put : ByteArray := ⟨#[112,117,116]⟩
abbrev w_swap : ByteArray := ⟨#[115,119,97,112]⟩
abbrev w_power : ByteArray := ⟨#[112,111,119,101,114]⟩
abbrev w_cluster : ByteArray := ⟨#[99,108,117,115,116,101,114]⟩
abbrev zC : Command := Command.mk 0 0 0 (⟨#[]⟩ : ByteArray) (⟨#[]⟩ : ByteArray) (⟨#[]⟩ : ByteArray)
abbrev zE : Event := Event.mk 0 0 0 0 zC [] false 0 0
theorem z0 : (⟨#[]⟩ : ByteArray).size = 0 := rfl
def Sm (e : Event) : Prop := e.Conf.length ≤ 1000 ∧ e.Command.Key.size ≤ 1000 ∧ e.Command.Value.size ≤ 1000 ∧ e.Command.Old.size ≤ 1000
def EvR (s i : Event × Bool) : Prop := (s.2 = true ∧ i = s ∧ i.1.Cut = false ∧ i.1.Whole = 0 ∧ i.1.Part = 0 ∧ Sm i.1) ∨ (s.2 = false ∧ i.2 = false) ∨ (s.2 = false ∧ i.2 = true ∧ i.1.Kind = 5 ∧ 2 ≤ i.1.Command.Op ∧ i.1.Command.Key = (⟨#[]⟩ : ByteArray) ∧ i.1.Conf.length ≤ 1000)
theorem EvR.no {s i : Event × Bool} (h1 : s.2 = false) (h2 : i.2 = false) : EvR s i := .inr (.inl ⟨h1,h2⟩)
theorem drop1 {α : Type} (x : α) (r : List α) : drop? (x :: r) 1 = some r := by
 unfold drop?
 rw [if_pos (by simp only [List.length_cons]; omega)]
 rfl
theorem at0 {α : Type} (x : α) (r : List α) : at? (x :: r) 0 = some x := rfl
theorem at1 {α : Type} (x y : α) (r : List α) : at? (x :: y :: r) 1 = some y := rfl
theorem at2 {α : Type} (x y z : α) (r : List α) : at? (x :: y :: z :: r) 2 = some z := rfl
structure Ln (r : List ByteArray) : Prop where
 len : r.length ≤ 10
 sz : ∀ p ∈ r,p.size ≤ 600
theorem Ln.tail {x : ByteArray} {r : List ByteArray} (h : Ln (x :: r)) : Ln r := ⟨by have := h.len; simp at this; omega,fun p hp => h.sz p (by simp [hp])⟩
theorem Ln.nums (N : Nat) (hN : Big N) {r : List ByteArray} (h : Ln r) : impl_numbersOf N r = some (numsP r) ∧ spec_l20Nums N r = some (numsP r) := nums_both N hN r (fun p hp => by have := h.sz p hp; omega) (by have := h.len; omega)
def plainE (x : ByteArray) (k : Int) (l : List Int) : Event × Bool :=
 match l with
 | [n] => if k = 2 ∨ k = 3 ∨ k = 4 then (Event.mk k 1 n 0 zC [] false 0 0,true) else if k = 5 then (Event.mk k n 0 0 (Command.mk 1 0 0 (⟨#[]⟩ : ByteArray) (⟨#[]⟩ : ByteArray) (⟨#[]⟩ : ByteArray)) [] false 0 0,true) else if k = 7 ∨ k = 8 then (Event.mk k n 0 0 zC [] false 0 0,true) else (zE,false)
 | [n,m] => if k = 1 ∨ k = 9 then (Event.mk k n 0 m zC [] false 0 0,true) else (zE,false)
 | _ => (zE,false)
theorem idx_tick (N : Nat) (hN : Big N) : slices_Index_string N ([w_tick,w_deliver,w_drop,w_copy,w_open,(⟨#[]⟩ : ByteArray),w_merge,w_down,w_up] : List ByteArray) w_tick = some 0 := by
 unfold slices_Index_string
 simp only [joinP]
 rw [slices_Index_string_l1_eq _ _ (by decide) (by have := hN; unfold Big at this; simp; omega)]
 rfl
theorem plain_tick (N : Nat) (hN : Big N) (l : List Int) : impl_plainEvent N w_tick l = some (plainE w_tick 1 l) := by
 unfold impl_plainEvent
 rw [idx_tick N hN,bO]
 simp only [joinP]
 have hk : w64 ((0 : Int) + 1) = 1 := rfl
 rw [hk,if_pos (by decide),if_neg (by decide)]
 rcases l with _ | ⟨n,_ | ⟨m,_ | ⟨q,l⟩⟩⟩ <;> simp [plainE,at?]
 omega
theorem idx_deliver (N : Nat) (hN : Big N) : slices_Index_string N ([w_tick,w_deliver,w_drop,w_copy,w_open,(⟨#[]⟩ : ByteArray),w_merge,w_down,w_up] : List ByteArray) w_deliver = some 1 := by
 unfold slices_Index_string
 simp only [joinP]
 rw [slices_Index_string_l1_eq _ _ (by decide) (by have := hN; unfold Big at this; simp; omega)]
 rfl
theorem plain_deliver (N : Nat) (hN : Big N) (l : List Int) : impl_plainEvent N w_deliver l = some (plainE w_deliver 2 l) := by
 unfold impl_plainEvent
 rw [idx_deliver N hN,bO]
 simp only [joinP]
 have hk : w64 ((1 : Int) + 1) = 2 := rfl
 rw [hk,if_neg (by decide),if_neg (by decide),if_neg (by decide),if_neg (by decide)]
 rcases l with _ | ⟨n,_ | ⟨m,_ | ⟨q,l⟩⟩⟩ <;> simp [plainE,at?]
 omega
theorem idx_drop (N : Nat) (hN : Big N) : slices_Index_string N ([w_tick,w_deliver,w_drop,w_copy,w_open,(⟨#[]⟩ : ByteArray),w_merge,w_down,w_up] : List ByteArray) w_drop = some 2 := by
 unfold slices_Index_string
 simp only [joinP]
 rw [slices_Index_string_l1_eq _ _ (by decide) (by have := hN; unfold Big at this; simp; omega)]
 rfl
theorem plain_drop (N : Nat) (hN : Big N) (l : List Int) : impl_plainEvent N w_drop l = some (plainE w_drop 3 l) := by
 unfold impl_plainEvent
 rw [idx_drop N hN,bO]
 simp only [joinP]
 have hk : w64 ((2 : Int) + 1) = 3 := rfl
 rw [hk,if_neg (by decide),if_neg (by decide),if_neg (by decide),if_neg (by decide)]
 rcases l with _ | ⟨n,_ | ⟨m,_ | ⟨q,l⟩⟩⟩ <;> simp [plainE,at?]
 omega
theorem idx_copy (N : Nat) (hN : Big N) : slices_Index_string N ([w_tick,w_deliver,w_drop,w_copy,w_open,(⟨#[]⟩ : ByteArray),w_merge,w_down,w_up] : List ByteArray) w_copy = some 3 := by
 unfold slices_Index_string
 simp only [joinP]
 rw [slices_Index_string_l1_eq _ _ (by decide) (by have := hN; unfold Big at this; simp; omega)]
 rfl
theorem plain_copy (N : Nat) (hN : Big N) (l : List Int) : impl_plainEvent N w_copy l = some (plainE w_copy 4 l) := by
 unfold impl_plainEvent
 rw [idx_copy N hN,bO]
 simp only [joinP]
 have hk : w64 ((3 : Int) + 1) = 4 := rfl
 rw [hk,if_neg (by decide),if_neg (by decide),if_neg (by decide),if_neg (by decide)]
 rcases l with _ | ⟨n,_ | ⟨m,_ | ⟨q,l⟩⟩⟩ <;> simp [plainE,at?]
 omega
theorem idx_open (N : Nat) (hN : Big N) : slices_Index_string N ([w_tick,w_deliver,w_drop,w_copy,w_open,(⟨#[]⟩ : ByteArray),w_merge,w_down,w_up] : List ByteArray) w_open = some 4 := by
 unfold slices_Index_string
 simp only [joinP]
 rw [slices_Index_string_l1_eq _ _ (by decide) (by have := hN; unfold Big at this; simp; omega)]
 rfl
theorem plain_open (N : Nat) (hN : Big N) (l : List Int) : impl_plainEvent N w_open l = some (plainE w_open 5 l) := by
 unfold impl_plainEvent
 rw [idx_open N hN,bO]
 simp only [joinP]
 have hk : w64 ((4 : Int) + 1) = 5 := rfl
 rw [hk,if_neg (by decide),if_neg (by decide),if_neg (by decide),if_neg (by decide)]
 rcases l with _ | ⟨n,_ | ⟨m,_ | ⟨q,l⟩⟩⟩ <;> simp [plainE,at?]
 omega
theorem idx_merge (N : Nat) (hN : Big N) : slices_Index_string N ([w_tick,w_deliver,w_drop,w_copy,w_open,(⟨#[]⟩ : ByteArray),w_merge,w_down,w_up] : List ByteArray) w_merge = some 6 := by
 unfold slices_Index_string
 simp only [joinP]
 rw [slices_Index_string_l1_eq _ _ (by decide) (by have := hN; unfold Big at this; simp; omega)]
 rfl
theorem plain_merge (N : Nat) (hN : Big N) (l : List Int) : impl_plainEvent N w_merge l = some (plainE w_merge 7 l) := by
 unfold impl_plainEvent
 rw [idx_merge N hN,bO]
 simp only [joinP]
 have hk : w64 ((6 : Int) + 1) = 7 := rfl
 rw [hk,if_neg (by decide),if_neg (by decide),if_neg (by decide),if_neg (by decide)]
 rcases l with _ | ⟨n,_ | ⟨m,_ | ⟨q,l⟩⟩⟩ <;> simp [plainE,at?]
 omega
theorem idx_down (N : Nat) (hN : Big N) : slices_Index_string N ([w_tick,w_deliver,w_drop,w_copy,w_open,(⟨#[]⟩ : ByteArray),w_merge,w_down,w_up] : List ByteArray) w_down = some 7 := by
 unfold slices_Index_string
 simp only [joinP]
 rw [slices_Index_string_l1_eq _ _ (by decide) (by have := hN; unfold Big at this; simp; omega)]
 rfl
theorem plain_down (N : Nat) (hN : Big N) (l : List Int) : impl_plainEvent N w_down l = some (plainE w_down 8 l) := by
 unfold impl_plainEvent
 rw [idx_down N hN,bO]
 simp only [joinP]
 have hk : w64 ((7 : Int) + 1) = 8 := rfl
 rw [hk,if_neg (by decide),if_neg (by decide),if_neg (by decide),if_neg (by decide)]
 rcases l with _ | ⟨n,_ | ⟨m,_ | ⟨q,l⟩⟩⟩ <;> simp [plainE,at?]
 omega
theorem idx_up (N : Nat) (hN : Big N) : slices_Index_string N ([w_tick,w_deliver,w_drop,w_copy,w_open,(⟨#[]⟩ : ByteArray),w_merge,w_down,w_up] : List ByteArray) w_up = some 8 := by
 unfold slices_Index_string
 simp only [joinP]
 rw [slices_Index_string_l1_eq _ _ (by decide) (by have := hN; unfold Big at this; simp; omega)]
 rfl
theorem plain_up (N : Nat) (hN : Big N) (l : List Int) : impl_plainEvent N w_up l = some (plainE w_up 9 l) := by
 unfold impl_plainEvent
 rw [idx_up N hN,bO]
 simp only [joinP]
 have hk : w64 ((8 : Int) + 1) = 9 := rfl
 rw [hk,if_neg (by decide),if_pos (by decide),if_neg (by decide)]
 rcases l with _ | ⟨n,_ | ⟨m,_ | ⟨q,l⟩⟩⟩ <;> simp [plainE,at?]
 omega
theorem ie_tick (N : Nat) (hN : Big N) {r : List ByteArray} (h : Ln r) : impl_eventOf N (w_tick :: r) = some (match numsOf r with | some l => plainE w_tick 1 l | none => (zE,false)) := by
 unfold impl_eventOf
 rw [at0,bO,if_neg (by decide),if_neg (by decide),if_neg (by decide),if_neg (by decide),if_neg (by decide),drop1,bO,(h.nums N hN).1,bO]
 unfold numsP
 cases numsOf r with
 | none => rfl
 | some l =>
  simp only [Bool.not_true,Bool.false_eq_true,if_false,bO,plain_tick N hN]
theorem ie_up (N : Nat) (hN : Big N) {r : List ByteArray} (h : Ln r) : impl_eventOf N (w_up :: r) = some (match numsOf r with | some l => plainE w_up 9 l | none => (zE,false)) := by
 unfold impl_eventOf
 rw [at0,bO,if_neg (by decide),if_neg (by decide),if_neg (by decide),if_neg (by decide),if_neg (by decide),drop1,bO,(h.nums N hN).1,bO]
 unfold numsP
 cases numsOf r with
 | none => rfl
 | some l =>
  simp only [Bool.not_true,Bool.false_eq_true,if_false,bO,plain_up N hN]
theorem ie_deliver (N : Nat) (hN : Big N) {r : List ByteArray} (h : Ln r) : impl_eventOf N (w_deliver :: r) = some (match numsOf r with | some l => plainE w_deliver 2 l | none => (zE,false)) := by
 unfold impl_eventOf
 rw [at0,bO,if_neg (by decide),if_neg (by decide),if_neg (by decide),if_neg (by decide),if_neg (by decide),drop1,bO,(h.nums N hN).1,bO]
 unfold numsP
 cases numsOf r with
 | none => rfl
 | some l =>
  simp only [Bool.not_true,Bool.false_eq_true,if_false,bO,plain_deliver N hN]
theorem ie_drop (N : Nat) (hN : Big N) {r : List ByteArray} (h : Ln r) : impl_eventOf N (w_drop :: r) = some (match numsOf r with | some l => plainE w_drop 3 l | none => (zE,false)) := by
 unfold impl_eventOf
 rw [at0,bO,if_neg (by decide),if_neg (by decide),if_neg (by decide),if_neg (by decide),if_neg (by decide),drop1,bO,(h.nums N hN).1,bO]
 unfold numsP
 cases numsOf r with
 | none => rfl
 | some l =>
  simp only [Bool.not_true,Bool.false_eq_true,if_false,bO,plain_drop N hN]
theorem ie_copy (N : Nat) (hN : Big N) {r : List ByteArray} (h : Ln r) : impl_eventOf N (w_copy :: r) = some (match numsOf r with | some l => plainE w_copy 4 l | none => (zE,false)) := by
 unfold impl_eventOf
 rw [at0,bO,if_neg (by decide),if_neg (by decide),if_neg (by decide),if_neg (by decide),if_neg (by decide),drop1,bO,(h.nums N hN).1,bO]
 unfold numsP
 cases numsOf r with
 | none => rfl
 | some l =>
  simp only [Bool.not_true,Bool.false_eq_true,if_false,bO,plain_copy N hN]
theorem ie_merge (N : Nat) (hN : Big N) {r : List ByteArray} (h : Ln r) : impl_eventOf N (w_merge :: r) = some (match numsOf r with | some l => plainE w_merge 7 l | none => (zE,false)) := by
 unfold impl_eventOf
 rw [at0,bO,if_neg (by decide),if_neg (by decide),if_neg (by decide),if_neg (by decide),if_neg (by decide),drop1,bO,(h.nums N hN).1,bO]
 unfold numsP
 cases numsOf r with
 | none => rfl
 | some l =>
  simp only [Bool.not_true,Bool.false_eq_true,if_false,bO,plain_merge N hN]
theorem ie_down (N : Nat) (hN : Big N) {r : List ByteArray} (h : Ln r) : impl_eventOf N (w_down :: r) = some (match numsOf r with | some l => plainE w_down 8 l | none => (zE,false)) := by
 unfold impl_eventOf
 rw [at0,bO,if_neg (by decide),if_neg (by decide),if_neg (by decide),if_neg (by decide),if_neg (by decide),drop1,bO,(h.nums N hN).1,bO]
 unfold numsP
 cases numsOf r with
 | none => rfl
 | some l =>
  simp only [Bool.not_true,Bool.false_eq_true,if_false,bO,plain_down N hN]
theorem ie_open (N : Nat) (hN : Big N) {r : List ByteArray} (h : Ln r) : impl_eventOf N (w_open :: r) = some (match numsOf r with | some l => plainE w_open 5 l | none => (zE,false)) := by
 unfold impl_eventOf
 rw [at0,bO,if_neg (by decide),if_neg (by decide),if_neg (by decide),if_neg (by decide),if_neg (by decide),drop1,bO,(h.nums N hN).1,bO]
 unfold numsP
 cases numsOf r with
 | none => rfl
 | some l =>
  simp only [Bool.not_true,Bool.false_eq_true,if_false,bO,plain_open N hN]
theorem se_tick (N : Nat) (hN : Big N) {r : List ByteArray} (h : Ln r) : ∃ s,spec_l20Event N (w_tick :: r) = some s ∧ EvR s (match numsOf r with | some l => plainE w_tick 1 l | none => (zE,false)) := by
 unfold spec_l20Event
 rcases r with _ | ⟨a,r⟩
 ·exact ⟨_,rfl,.no rfl rfl⟩
 rw [if_neg (by simp only [List.length_cons,decide_eq_true_eq]; omega),at1,bO,rdec_spec N hN a,bO]
 cases ha : (rdec a).2 with
 | false =>
  rw [if_pos (by decide)]
  refine ⟨_,rfl,.no rfl ?_⟩
  simp only [numsOf,ha,Bool.false_eq_true,if_false]
 | true =>
  rw [if_neg (by decide),at0,bO,if_pos (by decide)]
  simp only [joinP]
  rw [bO,if_neg (by decide)]
  rcases r with _ | ⟨c,_ | ⟨d,r⟩⟩
  ·exact ⟨_,rfl,.no rfl (by simp [numsOf,ha,plainE])⟩
  ·rw [if_neg (by simp),at2,bO,rdec_spec N hN c,bO]
   refine ⟨_,rfl,?_⟩
   cases hc : (rdec c).2 with
   | false => exact .no rfl (by simp [numsOf,ha,hc])
   | true => exact .inl ⟨rfl,by simp [numsOf,ha,hc,plainE],by simp [numsOf,ha,hc,plainE],by simp [numsOf,ha,hc,plainE],by simp [numsOf,ha,hc,plainE],by simp [numsOf,ha,hc,plainE,Sm,z0]⟩
  ·rw [if_pos (by simp only [List.length_cons,bne_iff_ne]; omega)]
   refine ⟨_,rfl,.no rfl ?_⟩
   cases hq : numsOf (a :: c :: d :: r) with
   | none => rfl
   | some l =>
    have := numsOf_len hq
    rcases l with _ | ⟨n,_ | ⟨m,_ | ⟨q,l⟩⟩⟩ <;> simp [plainE] at this ⊢
theorem se_up (N : Nat) (hN : Big N) {r : List ByteArray} (h : Ln r) : ∃ s,spec_l20Event N (w_up :: r) = some s ∧ EvR s (match numsOf r with | some l => plainE w_up 9 l | none => (zE,false)) := by
 unfold spec_l20Event
 rcases r with _ | ⟨a,r⟩
 ·exact ⟨_,rfl,.no rfl rfl⟩
 rw [if_neg (by simp only [List.length_cons,decide_eq_true_eq]; omega),at1,bO,rdec_spec N hN a,bO]
 cases ha : (rdec a).2 with
 | false =>
  rw [if_pos (by decide)]
  refine ⟨_,rfl,.no rfl ?_⟩
  simp only [numsOf,ha,Bool.false_eq_true,if_false]
 | true =>
  rw [if_neg (by decide),at0,bO,if_neg (by decide),if_pos (by decide)]
  simp only [joinP]
  rw [bO,if_pos (by decide)]
  rcases r with _ | ⟨c,_ | ⟨d,r⟩⟩
  ·exact ⟨_,rfl,.no rfl (by simp [numsOf,ha,plainE])⟩
  ·rw [if_neg (by simp),at2,bO,rdec_spec N hN c,bO]
   refine ⟨_,rfl,?_⟩
   cases hc : (rdec c).2 with
   | false => exact .no rfl (by simp [numsOf,ha,hc])
   | true => exact .inl ⟨rfl,by simp [numsOf,ha,hc,plainE],by simp [numsOf,ha,hc,plainE],by simp [numsOf,ha,hc,plainE],by simp [numsOf,ha,hc,plainE],by simp [numsOf,ha,hc,plainE,Sm,z0]⟩
  ·rw [if_pos (by simp only [List.length_cons,bne_iff_ne]; omega)]
   refine ⟨_,rfl,.no rfl ?_⟩
   cases hq : numsOf (a :: c :: d :: r) with
   | none => rfl
   | some l =>
    have := numsOf_len hq
    rcases l with _ | ⟨n,_ | ⟨m,_ | ⟨q,l⟩⟩⟩ <;> simp [plainE] at this ⊢
theorem se_deliver (N : Nat) (hN : Big N) {r : List ByteArray} (h : Ln r) : ∃ s,spec_l20Event N (w_deliver :: r) = some s ∧ EvR s (match numsOf r with | some l => plainE w_deliver 2 l | none => (zE,false)) := by
 unfold spec_l20Event
 rcases r with _ | ⟨a,r⟩
 ·exact ⟨_,rfl,.no rfl rfl⟩
 rw [if_neg (by simp only [List.length_cons,decide_eq_true_eq]; omega),at1,bO,rdec_spec N hN a,bO]
 cases ha : (rdec a).2 with
 | false =>
  rw [if_pos (by decide)]
  refine ⟨_,rfl,.no rfl ?_⟩
  simp only [numsOf,ha,Bool.false_eq_true,if_false]
 | true =>
  rw [if_neg (by decide),at0,bO,if_neg (by decide),if_neg (by decide),if_pos (by decide)]
  simp only [joinP]
  rw [bO,if_neg (by decide),bO,if_neg (by decide)]
  rcases r with _ | ⟨c,r⟩
  ·exact ⟨_,rfl,.inl ⟨rfl,by simp [numsOf,ha,plainE],by simp [numsOf,ha,plainE],by simp [numsOf,ha,plainE],by simp [numsOf,ha,plainE],by simp [numsOf,ha,plainE,Sm,z0]⟩⟩
  ·refine ⟨_,rfl,.no (by simp only [List.length_cons,beq_eq_false_iff_ne]; omega) ?_⟩
   cases hq : numsOf (a :: c :: r) with
   | none => rfl
   | some l =>
    have := numsOf_len hq
    rcases l with _ | ⟨n,_ | ⟨m,_ | ⟨q,l⟩⟩⟩ <;> simp [plainE] at this ⊢
theorem se_drop (N : Nat) (hN : Big N) {r : List ByteArray} (h : Ln r) : ∃ s,spec_l20Event N (w_drop :: r) = some s ∧ EvR s (match numsOf r with | some l => plainE w_drop 3 l | none => (zE,false)) := by
 unfold spec_l20Event
 rcases r with _ | ⟨a,r⟩
 ·exact ⟨_,rfl,.no rfl rfl⟩
 rw [if_neg (by simp only [List.length_cons,decide_eq_true_eq]; omega),at1,bO,rdec_spec N hN a,bO]
 cases ha : (rdec a).2 with
 | false =>
  rw [if_pos (by decide)]
  refine ⟨_,rfl,.no rfl ?_⟩
  simp only [numsOf,ha,Bool.false_eq_true,if_false]
 | true =>
  rw [if_neg (by decide),at0,bO,if_neg (by decide),if_neg (by decide),if_neg (by decide),if_pos (by decide)]
  simp only [joinP]
  rw [bO,if_pos (by decide),bO,if_neg (by decide)]
  rcases r with _ | ⟨c,r⟩
  ·exact ⟨_,rfl,.inl ⟨rfl,by simp [numsOf,ha,plainE],by simp [numsOf,ha,plainE],by simp [numsOf,ha,plainE],by simp [numsOf,ha,plainE],by simp [numsOf,ha,plainE,Sm,z0]⟩⟩
  ·refine ⟨_,rfl,.no (by simp only [List.length_cons,beq_eq_false_iff_ne]; omega) ?_⟩
   cases hq : numsOf (a :: c :: r) with
   | none => rfl
   | some l =>
    have := numsOf_len hq
    rcases l with _ | ⟨n,_ | ⟨m,_ | ⟨q,l⟩⟩⟩ <;> simp [plainE] at this ⊢
theorem se_copy (N : Nat) (hN : Big N) {r : List ByteArray} (h : Ln r) : ∃ s,spec_l20Event N (w_copy :: r) = some s ∧ EvR s (match numsOf r with | some l => plainE w_copy 4 l | none => (zE,false)) := by
 unfold spec_l20Event
 rcases r with _ | ⟨a,r⟩
 ·exact ⟨_,rfl,.no rfl rfl⟩
 rw [if_neg (by simp only [List.length_cons,decide_eq_true_eq]; omega),at1,bO,rdec_spec N hN a,bO]
 cases ha : (rdec a).2 with
 | false =>
  rw [if_pos (by decide)]
  refine ⟨_,rfl,.no rfl ?_⟩
  simp only [numsOf,ha,Bool.false_eq_true,if_false]
 | true =>
  rw [if_neg (by decide),at0,bO,if_neg (by decide),if_neg (by decide),if_neg (by decide),if_neg (by decide),if_pos (by decide)]
  simp only [joinP]
  rw [bO,if_neg (by decide),bO,if_pos (by decide)]
  rcases r with _ | ⟨c,r⟩
  ·exact ⟨_,rfl,.inl ⟨rfl,by simp [numsOf,ha,plainE],by simp [numsOf,ha,plainE],by simp [numsOf,ha,plainE],by simp [numsOf,ha,plainE],by simp [numsOf,ha,plainE,Sm,z0]⟩⟩
  ·refine ⟨_,rfl,.no (by simp only [List.length_cons,beq_eq_false_iff_ne]; omega) ?_⟩
   cases hq : numsOf (a :: c :: r) with
   | none => rfl
   | some l =>
    have := numsOf_len hq
    rcases l with _ | ⟨n,_ | ⟨m,_ | ⟨q,l⟩⟩⟩ <;> simp [plainE] at this ⊢
theorem se_merge (N : Nat) (hN : Big N) {r : List ByteArray} (h : Ln r) : ∃ s,spec_l20Event N (w_merge :: r) = some s ∧ EvR s (match numsOf r with | some l => plainE w_merge 7 l | none => (zE,false)) := by
 unfold spec_l20Event
 rcases r with _ | ⟨a,r⟩
 ·exact ⟨_,rfl,.no rfl rfl⟩
 rw [if_neg (by simp only [List.length_cons,decide_eq_true_eq]; omega),at1,bO,rdec_spec N hN a,bO]
 cases ha : (rdec a).2 with
 | false =>
  rw [if_pos (by decide)]
  refine ⟨_,rfl,.no rfl ?_⟩
  simp only [numsOf,ha,Bool.false_eq_true,if_false]
 | true =>
  rw [if_neg (by decide),at0,bO,if_neg (by decide),if_neg (by decide),if_neg (by decide),if_neg (by decide),if_neg (by decide),if_pos (by decide)]
  simp only [joinP]
  rw [bO,if_neg (by decide)]
  rcases r with _ | ⟨c,r⟩
  ·exact ⟨_,rfl,.inl ⟨rfl,by simp [numsOf,ha,plainE],by simp [numsOf,ha,plainE],by simp [numsOf,ha,plainE],by simp [numsOf,ha,plainE],by simp [numsOf,ha,plainE,Sm,z0]⟩⟩
  ·refine ⟨_,rfl,.no (by simp only [List.length_cons,beq_eq_false_iff_ne]; omega) ?_⟩
   cases hq : numsOf (a :: c :: r) with
   | none => rfl
   | some l =>
    have := numsOf_len hq
    rcases l with _ | ⟨n,_ | ⟨m,_ | ⟨q,l⟩⟩⟩ <;> simp [plainE] at this ⊢
theorem se_down (N : Nat) (hN : Big N) {r : List ByteArray} (h : Ln r) : ∃ s,spec_l20Event N (w_down :: r) = some s ∧ EvR s (match numsOf r with | some l => plainE w_down 8 l | none => (zE,false)) := by
 unfold spec_l20Event
 rcases r with _ | ⟨a,r⟩
 ·exact ⟨_,rfl,.no rfl rfl⟩
 rw [if_neg (by simp only [List.length_cons,decide_eq_true_eq]; omega),at1,bO,rdec_spec N hN a,bO]
 cases ha : (rdec a).2 with
 | false =>
  rw [if_pos (by decide)]
  refine ⟨_,rfl,.no rfl ?_⟩
  simp only [numsOf,ha,Bool.false_eq_true,if_false]
 | true =>
  rw [if_neg (by decide),at0,bO,if_neg (by decide),if_neg (by decide),if_neg (by decide),if_neg (by decide),if_neg (by decide),if_neg (by decide),if_pos (by decide)]
  simp only [joinP]
  rw [bO,if_pos (by decide)]
  rcases r with _ | ⟨c,r⟩
  ·exact ⟨_,rfl,.inl ⟨rfl,by simp [numsOf,ha,plainE],by simp [numsOf,ha,plainE],by simp [numsOf,ha,plainE],by simp [numsOf,ha,plainE],by simp [numsOf,ha,plainE,Sm,z0]⟩⟩
  ·refine ⟨_,rfl,.no (by simp only [List.length_cons,beq_eq_false_iff_ne]; omega) ?_⟩
   cases hq : numsOf (a :: c :: r) with
   | none => rfl
   | some l =>
    have := numsOf_len hq
    rcases l with _ | ⟨n,_ | ⟨m,_ | ⟨q,l⟩⟩⟩ <;> simp [plainE] at this ⊢
theorem drop2 {α : Type} (x y : α) (r : List α) : drop? (x :: y :: r) 2 = some r := by
 unfold drop?
 rw [if_pos (by simp only [List.length_cons]; omega)]
 rfl
theorem se_open (N : Nat) (hN : Big N) {r : List ByteArray} (h : Ln r) : ∃ s,spec_l20Event N (w_open :: r) = some s ∧ EvR s (match numsOf r with | some l => plainE w_open 5 l | none => (zE,false)) := by
 unfold spec_l20Event
 rcases r with _ | ⟨a,r⟩
 ·exact ⟨_,rfl,.no rfl rfl⟩
 rw [if_neg (by simp only [List.length_cons,decide_eq_true_eq]; omega),at1,bO,rdec_spec N hN a,bO]
 cases ha : (rdec a).2 with
 | false =>
  rw [if_pos (by decide)]
  refine ⟨_,rfl,.no rfl ?_⟩
  simp only [numsOf,ha,Bool.false_eq_true,if_false]
 | true =>
  rw [if_neg (by decide),at0,bO,if_neg (by decide),if_neg (by decide),if_neg (by decide),if_neg (by decide),if_neg (by decide),if_neg (by decide),if_neg (by decide),if_neg (by decide),bO,drop2,bO]
  unfold spec_l20Call
  simp only [joinP]
  rw [if_pos (by decide),bO]
  rcases r with _ | ⟨c,r⟩
  ·exact ⟨_,rfl,.inl ⟨rfl,by simp [numsOf,ha,plainE],by simp [numsOf,ha,plainE],by simp [numsOf,ha,plainE],by simp [numsOf,ha,plainE],by simp [numsOf,ha,plainE,Sm,z0]⟩⟩
  ·refine ⟨_,rfl,.no (by simp only [List.length_cons,beq_eq_false_iff_ne]; omega) ?_⟩
   cases hq : numsOf (a :: c :: r) with
   | none => rfl
   | some l =>
    have := numsOf_len hq
    rcases l with _ | ⟨n,_ | ⟨m,_ | ⟨q,l⟩⟩⟩ <;> simp [plainE] at this ⊢
theorem conf_ev (N : Nat) (hN : Big N) {r : List ByteArray} (h : Ln r) : ∃ s i,spec_l20Event N (w_conf :: r) = some s ∧ impl_eventOf N (w_conf :: r) = some i ∧ EvR s i := by
 have three : ∀ {x : List ByteArray},x.length ≠ 3 → (((x.length : Nat) : Int) != 3) = true := fun hx => by rw [bne_iff_ne]; omega
 have imp : r.length ≠ 2 → impl_eventOf N (w_conf :: r) = some (zE,false) := fun hr => by
  unfold impl_eventOf
  rw [at0,bO,if_neg (by decide),if_neg (by decide),if_neg (by decide),if_neg (by decide),if_pos (by decide),if_pos (three (by simp only [List.length_cons]; omega))]
 have spc : r.length ≠ 2 → ∃ s,spec_l20Event N (w_conf :: r) = some s ∧ s.2 = false := fun hr => by
  unfold spec_l20Event
  rcases r with _ | ⟨a,r⟩
  ·exact ⟨_,rfl,rfl⟩
  rw [if_neg (by simp only [List.length_cons,decide_eq_true_eq]; omega),at1,bO,rdec_spec N hN a,bO]
  cases ha : (rdec a).2 with
  | false => exact ⟨_,rfl,rfl⟩
  | true =>
   rw [if_neg (by decide),at0,bO,if_neg (by decide),if_neg (by decide),if_neg (by decide),if_neg (by decide),if_neg (by decide),if_neg (by decide),if_neg (by decide),if_pos (by decide),if_pos (three (by simp only [List.length_cons] at hr ⊢; omega))]
   exact ⟨_,rfl,rfl⟩
 by_cases hr : r.length = 2
 ·rcases r with _ | ⟨a,_ | ⟨c,_ | ⟨d,r⟩⟩⟩
  ·cases hr
  ·cases hr
  ·have hsa := h.sz a (by simp)
   have hsc := h.sz c (by simp)
   obtain ⟨c1,c2⟩ := conf_both N hN c (by omega)
   have n3 : ¬ (((([w_conf,a,c] : List ByteArray).length : Nat) : Int) != 3) = true := by simp
   have hi : impl_eventOf N [w_conf,a,c] = some (if (rdec a).2 = true then (Event.mk 6 (rdec a).1 0 0 zC (digs c) false 0 0,confOk (digs c)) else (Event.mk 6 (rdec a).1 0 0 zC (digs c) false 0 0,false)) := by
    unfold impl_eventOf
    rw [at0,bO,if_neg (by decide),if_neg (by decide),if_neg (by decide),if_neg (by decide),if_pos (by decide),if_neg n3,at1,bO,rdec_impl N a (by omega),bO,at2,bO,c1,bO]
    split <;> rfl
   have hs : ∃ s,spec_l20Event N [w_conf,a,c] = some s ∧ (((rdec a).2 = false ∧ s.2 = false) ∨ ((rdec a).2 = true ∧ s = (Event.mk 6 (rdec a).1 0 0 zC (digs c) false 0 0,confOk (digs c)))) := by
    unfold spec_l20Event
    rw [if_neg (by simp only [List.length_cons,decide_eq_true_eq]; omega),at1,bO,rdec_spec N hN a,bO]
    cases ha : (rdec a).2 with
    | false => exact ⟨_,rfl,.inl ⟨rfl,rfl⟩⟩
    | true =>
     rw [if_neg (by decide),at0,bO,if_neg (by decide),if_neg (by decide),if_neg (by decide),if_neg (by decide),if_neg (by decide),if_neg (by decide),if_neg (by decide),if_pos (by decide),if_neg n3,at2,bO,c2,bO]
     exact ⟨_,rfl,.inr ⟨rfl,rfl⟩⟩
   obtain ⟨s,hs,hq⟩ := hs
   refine ⟨s,_,hs,hi,?_⟩
   rcases hq with ⟨h1,h2⟩ | ⟨h1,rfl⟩
   ·rw [if_neg (by rw [h1]; decide)]
    exact .no h2 rfl
   ·rw [if_pos h1]
    cases hc : confOk (digs c) with
    | true => exact .inl ⟨rfl,rfl,rfl,rfl,rfl,by simp only; rw [digs_len]; omega,by simp [z0],by simp [z0],by simp [z0]⟩
    | false => exact .no rfl rfl
  ·simp only [List.length_cons] at hr
   omega
 ·obtain ⟨s,h1,h2⟩ := spc hr
  exact ⟨s,_,h1,imp hr,.no h2 rfl⟩
theorem nums3 (a b c : ByteArray) : numsP [a,b,c] = if (rdec a).2 = true ∧ (rdec b).2 = true ∧ (rdec c).2 = true then ([(rdec a).1,(rdec b).1,(rdec c).1],true) else ([],false) := by
 unfold numsP
 simp only [numsOf]
 cases ha : (rdec a).2 <;> cases hb : (rdec b).2 <;> cases hc : (rdec c).2 <;> simp
theorem nums2 (b c : ByteArray) : numsP [b,c] = if (rdec b).2 = true ∧ (rdec c).2 = true then ([(rdec b).1,(rdec c).1],true) else ([],false) := by
 unfold numsP
 simp only [numsOf]
 cases hb : (rdec b).2 <;> cases hc : (rdec c).2 <;> simp
def worded (d : ByteArray) : ByteArray := if d = (⟨#[45]⟩ : ByteArray) then (⟨#[]⟩ : ByteArray) else d
theorem worded_le (d : ByteArray) (h : d.size ≤ 600) : (worded d).size ≤ 1000 := by
 unfold worded
 split
 ·rw [z0]; omega
 ·omega
theorem worded_i (N : Nat) (d : ByteArray) : impl_worded N d = some (worded d) := by
 unfold impl_worded worded
 by_cases h : d = (⟨#[45]⟩ : ByteArray)
 ·rw [if_pos (by simpa using h),if_pos h]
 ·rw [if_neg (by simpa using h),if_neg h]
theorem worded_s (N : Nat) (d : ByteArray) : spec_l20Text N d = some (worded d) := worded_i N d
theorem len_ne {x : List ByteArray} {k : Nat} {q : Int} (hq : q = (k : Int)) (h : x.length ≠ k) : (((x.length : Nat) : Int) != q) = true := by
 subst hq
 rw [bne_iff_ne]
 omega
abbrev manyM : List (ByteArray × Int) := [((⟨#[103,101,116]⟩ : ByteArray),5),((⟨#[99,117,116]⟩ : ByteArray),5),((⟨#[112,117,116]⟩ : ByteArray),6),((⟨#[115,119,97,112]⟩ : ByteArray),7)]
abbrev opsM : List (ByteArray × Int) := [((⟨#[103,101,116]⟩ : ByteArray),2),((⟨#[99,117,116]⟩ : ByteArray),4),((⟨#[112,117,116]⟩ : ByteArray),3),((⟨#[115,119,97,112]⟩ : ByteArray),5)]
theorem ic_get (N : Nat) (hN : Big N) {r : List ByteArray} (h : r.length ≠ 4) : impl_eventOf N (w_get :: r) = some (zE,false) := by
 unfold impl_eventOf
 rw [at0,bO,if_pos (by decide)]
 unfold impl_callEvent
 rw [at0,bO,if_pos (len_ne (k := 5) (by decide) (by simp only [List.length_cons]; omega))]
 rfl
theorem jc_get (N : Nat) (hN : Big N) (a : ByteArray) (b : ByteArray) (c : ByteArray) (d : ByteArray) (h : Ln [a,b,c,d]) : impl_eventOf N [w_get,a,b,c,d] = some (if (rdec a).2 = true ∧ (rdec b).2 = true ∧ (rdec c).2 = true then (Event.mk 5 (rdec a).1 0 0 (Command.mk 2 (rdec b).1 (rdec c).1 (worded d) (⟨#[]⟩ : ByteArray) (⟨#[]⟩ : ByteArray)) [] false 0 0,true) else (zE,false)) := by
 have hn := (nums_both N hN [a,b,c] (fun p hp => by have := h.sz p (by simp at hp ⊢; rcases hp with rfl | rfl | rfl <;> simp); omega) (by simp)).1
 unfold impl_eventOf
 rw [at0,bO,if_pos (by decide)]
 unfold impl_callEvent
 rw [at0,bO,if_neg (show ¬ ((([w_get,a,b,c,d].length : Nat) : Int) != mget manyM w_get) = true from by rw [show mget manyM w_get = 5 from by decide]; simp),show cut? [w_get,a,b,c,d] 1 4 = some [a,b,c] from rfl,bO,hn,bO,nums3]
 by_cases hg : (rdec a).2 = true ∧ (rdec b).2 = true ∧ (rdec c).2 = true
 ·rw [if_pos hg,if_pos hg]
  simp only [Bool.not_true,Bool.false_eq_true,if_false,joinP]
  rw [at0,bO,at1,bO,at2,bO,show at? [w_get,a,b,c,d] 4 = some d from rfl,bO,worded_i,bO,show mget opsM w_get = 2 from by decide,if_neg (by decide),if_neg (by decide)]
  rfl
 ·rw [if_neg hg,if_neg hg]
  rfl
theorem sc_get (N : Nat) (hN : Big N) {r : List ByteArray} (h : r.length ≠ 4) : ∃ s,spec_l20Event N (w_get :: r) = some s ∧ s.2 = false := by
 unfold spec_l20Event
 rcases r with _ | ⟨a,r⟩
 ·exact ⟨_,rfl,rfl⟩
 rw [if_neg (by simp only [List.length_cons,decide_eq_true_eq]; omega),at1,bO,rdec_spec N hN a,bO]
 cases ha : (rdec a).2 with
 | false => exact ⟨_,rfl,rfl⟩
 | true =>
  rw [if_neg (by decide),at0,bO,if_neg (by decide),if_neg (by decide),if_neg (by decide),if_neg (by decide),if_neg (by decide),if_neg (by decide),if_neg (by decide),if_neg (by decide),bO,drop2,bO]
  unfold spec_l20Call
  simp only [joinP]
  rw [if_neg (by decide),if_pos (by decide),if_pos (len_ne (k := 3) (by decide) (by simp only [List.length_cons] at h; omega))]
  exact ⟨_,rfl,rfl⟩
theorem tc_get (N : Nat) (hN : Big N) (a : ByteArray) (b : ByteArray) (c : ByteArray) (d : ByteArray) (h : Ln [a,b,c,d]) : ∃ s,spec_l20Event N [w_get,a,b,c,d] = some s ∧ ((¬ ((rdec a).2 = true ∧ (rdec b).2 = true ∧ (rdec c).2 = true) ∧ s.2 = false) ∨ (d = (⟨#[45]⟩ : ByteArray) ∧ s.2 = false) ∨ (((rdec a).2 = true ∧ (rdec b).2 = true ∧ (rdec c).2 = true) ∧ d ≠ (⟨#[45]⟩ : ByteArray) ∧ s = (Event.mk 5 (rdec a).1 0 0 (Command.mk 2 (rdec b).1 (rdec c).1 d (⟨#[]⟩ : ByteArray) (⟨#[]⟩ : ByteArray)) [] false 0 0,true))) := by
 have hn := (nums_both N hN [b,c] (fun p hp => by have := h.sz p (by simp at hp ⊢; rcases hp with rfl | rfl <;> simp); omega) (by simp)).2
 unfold spec_l20Event
 rw [if_neg (by simp only [List.length_cons,decide_eq_true_eq]; omega),at1,bO,rdec_spec N hN a,bO]
 cases ha : (rdec a).2 with
 | false => exact ⟨_,rfl,.inl ⟨by simp,rfl⟩⟩
 | true =>
  rw [if_neg (by decide),at0,bO,if_neg (by decide),if_neg (by decide),if_neg (by decide),if_neg (by decide),if_neg (by decide),if_neg (by decide),if_neg (by decide),if_neg (by decide),bO,drop2,bO]
  unfold spec_l20Call
  simp only [joinP]
  rw [if_neg (by decide),if_pos (by decide),if_neg (show ¬ ((([b,c,d].length : Nat) : Int) != 3) = true from by simp),show take? [b,c,d] 2 = some [b,c] from rfl,bO,hn,bO,nums2]
  by_cases hg : (rdec b).2 = true ∧ (rdec c).2 = true
  ·rw [if_pos hg]
   simp only [Bool.not_true,Bool.false_eq_true,if_false]
   rw [at2,bO]
   by_cases hd : d = (⟨#[45]⟩ : ByteArray)
   ·rw [if_pos (by simpa using hd)]
    exact ⟨_,rfl,.inr (.inl ⟨hd,rfl⟩)⟩
   ·rw [if_neg (by simpa using hd),at0,bO,at1,bO,bO,if_neg (by decide),if_neg (by decide)]
    exact ⟨_,rfl,.inr (.inr ⟨by simp [hg.1,hg.2],hd,rfl⟩)⟩
  ·rw [if_neg hg]
   exact ⟨_,rfl,.inl ⟨fun q => hg q.2,rfl⟩⟩
theorem call_get (N : Nat) (hN : Big N) {r : List ByteArray} (h : Ln r) : ∃ s i,spec_l20Event N (w_get :: r) = some s ∧ impl_eventOf N (w_get :: r) = some i ∧ EvR s i := by
 by_cases hr : r.length = 4
 ·obtain ⟨a,b,c,d,rfl⟩ : ∃ a b c d,r = [a,b,c,d] := by
   match r,hr with
   | [a,b,c,d],_ => exact ⟨a,b,c,d,rfl⟩
  obtain ⟨s,e1,e2⟩ := tc_get N hN a b c d h
  refine ⟨s,_,e1,jc_get N hN a b c d h,?_⟩
  rcases e2 with ⟨h1,h2⟩ | ⟨h1,h2⟩ | ⟨h1,h2,rfl⟩
  ·rw [if_neg h1]
   exact .no h2 rfl
  ·by_cases hg : (rdec a).2 = true ∧ (rdec b).2 = true ∧ (rdec c).2 = true
   ·rw [if_pos hg]
    refine .inr (.inr ⟨h2,rfl,rfl,by simp only; omega,?_,Nat.zero_le _⟩)
    show worded d = _
    unfold worded
    rw [if_pos h1]
   ·rw [if_neg hg]
    exact .no h2 rfl
  ·rw [if_pos h1]
   have : worded d = d := by unfold worded; rw [if_neg h2]
   rw [this]
   exact .inl ⟨rfl,rfl,rfl,rfl,rfl,Nat.zero_le _,by have := h.sz d (by simp); simp only; omega,by simp [z0],by simp [z0]⟩
 ·obtain ⟨s,e1,e2⟩ := sc_get N hN (r := r) hr
  exact ⟨s,_,e1,ic_get N hN hr,.no e2 rfl⟩
theorem ic_cut (N : Nat) (hN : Big N) {r : List ByteArray} (h : r.length ≠ 4) : impl_eventOf N (w_cut :: r) = some (zE,false) := by
 unfold impl_eventOf
 rw [at0,bO,if_neg (by decide),if_pos (by decide)]
 unfold impl_callEvent
 rw [at0,bO,if_pos (len_ne (k := 5) (by decide) (by simp only [List.length_cons]; omega))]
 rfl
theorem jc_cut (N : Nat) (hN : Big N) (a : ByteArray) (b : ByteArray) (c : ByteArray) (d : ByteArray) (h : Ln [a,b,c,d]) : impl_eventOf N [w_cut,a,b,c,d] = some (if (rdec a).2 = true ∧ (rdec b).2 = true ∧ (rdec c).2 = true then (Event.mk 5 (rdec a).1 0 0 (Command.mk 4 (rdec b).1 (rdec c).1 (worded d) (⟨#[]⟩ : ByteArray) (⟨#[]⟩ : ByteArray)) [] false 0 0,true) else (zE,false)) := by
 have hn := (nums_both N hN [a,b,c] (fun p hp => by have := h.sz p (by simp at hp ⊢; rcases hp with rfl | rfl | rfl <;> simp); omega) (by simp)).1
 unfold impl_eventOf
 rw [at0,bO,if_neg (by decide),if_pos (by decide)]
 unfold impl_callEvent
 rw [at0,bO,if_neg (show ¬ ((([w_cut,a,b,c,d].length : Nat) : Int) != mget manyM w_cut) = true from by rw [show mget manyM w_cut = 5 from by decide]; simp),show cut? [w_cut,a,b,c,d] 1 4 = some [a,b,c] from rfl,bO,hn,bO,nums3]
 by_cases hg : (rdec a).2 = true ∧ (rdec b).2 = true ∧ (rdec c).2 = true
 ·rw [if_pos hg,if_pos hg]
  simp only [Bool.not_true,Bool.false_eq_true,if_false,joinP]
  rw [at0,bO,at1,bO,at2,bO,show at? [w_cut,a,b,c,d] 4 = some d from rfl,bO,worded_i,bO,show mget opsM w_cut = 4 from by decide,if_neg (by decide),if_neg (by decide)]
  rfl
 ·rw [if_neg hg,if_neg hg]
  rfl
theorem sc_cut (N : Nat) (hN : Big N) {r : List ByteArray} (h : r.length ≠ 4) : ∃ s,spec_l20Event N (w_cut :: r) = some s ∧ s.2 = false := by
 unfold spec_l20Event
 rcases r with _ | ⟨a,r⟩
 ·exact ⟨_,rfl,rfl⟩
 rw [if_neg (by simp only [List.length_cons,decide_eq_true_eq]; omega),at1,bO,rdec_spec N hN a,bO]
 cases ha : (rdec a).2 with
 | false => exact ⟨_,rfl,rfl⟩
 | true =>
  rw [if_neg (by decide),at0,bO,if_neg (by decide),if_neg (by decide),if_neg (by decide),if_neg (by decide),if_neg (by decide),if_neg (by decide),if_neg (by decide),if_neg (by decide),bO,drop2,bO]
  unfold spec_l20Call
  simp only [joinP]
  rw [if_neg (by decide),if_neg (by decide),if_pos (by decide),if_pos (len_ne (k := 3) (by decide) (by simp only [List.length_cons] at h; omega))]
  exact ⟨_,rfl,rfl⟩
theorem tc_cut (N : Nat) (hN : Big N) (a : ByteArray) (b : ByteArray) (c : ByteArray) (d : ByteArray) (h : Ln [a,b,c,d]) : ∃ s,spec_l20Event N [w_cut,a,b,c,d] = some s ∧ ((¬ ((rdec a).2 = true ∧ (rdec b).2 = true ∧ (rdec c).2 = true) ∧ s.2 = false) ∨ (d = (⟨#[45]⟩ : ByteArray) ∧ s.2 = false) ∨ (((rdec a).2 = true ∧ (rdec b).2 = true ∧ (rdec c).2 = true) ∧ d ≠ (⟨#[45]⟩ : ByteArray) ∧ s = (Event.mk 5 (rdec a).1 0 0 (Command.mk 4 (rdec b).1 (rdec c).1 d (⟨#[]⟩ : ByteArray) (⟨#[]⟩ : ByteArray)) [] false 0 0,true))) := by
 have hn := (nums_both N hN [b,c] (fun p hp => by have := h.sz p (by simp at hp ⊢; rcases hp with rfl | rfl <;> simp); omega) (by simp)).2
 unfold spec_l20Event
 rw [if_neg (by simp only [List.length_cons,decide_eq_true_eq]; omega),at1,bO,rdec_spec N hN a,bO]
 cases ha : (rdec a).2 with
 | false => exact ⟨_,rfl,.inl ⟨by simp,rfl⟩⟩
 | true =>
  rw [if_neg (by decide),at0,bO,if_neg (by decide),if_neg (by decide),if_neg (by decide),if_neg (by decide),if_neg (by decide),if_neg (by decide),if_neg (by decide),if_neg (by decide),bO,drop2,bO]
  unfold spec_l20Call
  simp only [joinP]
  rw [if_neg (by decide),if_neg (by decide),if_pos (by decide),if_neg (show ¬ ((([b,c,d].length : Nat) : Int) != 3) = true from by simp),show take? [b,c,d] 2 = some [b,c] from rfl,bO,hn,bO,nums2]
  by_cases hg : (rdec b).2 = true ∧ (rdec c).2 = true
  ·rw [if_pos hg]
   simp only [Bool.not_true,Bool.false_eq_true,if_false]
   rw [at2,bO]
   by_cases hd : d = (⟨#[45]⟩ : ByteArray)
   ·rw [if_pos (by simpa using hd)]
    exact ⟨_,rfl,.inr (.inl ⟨hd,rfl⟩)⟩
   ·rw [if_neg (by simpa using hd),at0,bO,at1,bO,bO,if_neg (by decide),if_neg (by decide)]
    exact ⟨_,rfl,.inr (.inr ⟨by simp [hg.1,hg.2],hd,rfl⟩)⟩
  ·rw [if_neg hg]
   exact ⟨_,rfl,.inl ⟨fun q => hg q.2,rfl⟩⟩
theorem call_cut (N : Nat) (hN : Big N) {r : List ByteArray} (h : Ln r) : ∃ s i,spec_l20Event N (w_cut :: r) = some s ∧ impl_eventOf N (w_cut :: r) = some i ∧ EvR s i := by
 by_cases hr : r.length = 4
 ·obtain ⟨a,b,c,d,rfl⟩ : ∃ a b c d,r = [a,b,c,d] := by
   match r,hr with
   | [a,b,c,d],_ => exact ⟨a,b,c,d,rfl⟩
  obtain ⟨s,e1,e2⟩ := tc_cut N hN a b c d h
  refine ⟨s,_,e1,jc_cut N hN a b c d h,?_⟩
  rcases e2 with ⟨h1,h2⟩ | ⟨h1,h2⟩ | ⟨h1,h2,rfl⟩
  ·rw [if_neg h1]
   exact .no h2 rfl
  ·by_cases hg : (rdec a).2 = true ∧ (rdec b).2 = true ∧ (rdec c).2 = true
   ·rw [if_pos hg]
    refine .inr (.inr ⟨h2,rfl,rfl,by simp only; omega,?_,Nat.zero_le _⟩)
    show worded d = _
    unfold worded
    rw [if_pos h1]
   ·rw [if_neg hg]
    exact .no h2 rfl
  ·rw [if_pos h1]
   have : worded d = d := by unfold worded; rw [if_neg h2]
   rw [this]
   exact .inl ⟨rfl,rfl,rfl,rfl,rfl,Nat.zero_le _,by have := h.sz d (by simp); simp only; omega,by simp [z0],by simp [z0]⟩
 ·obtain ⟨s,e1,e2⟩ := sc_cut N hN (r := r) hr
  exact ⟨s,_,e1,ic_cut N hN hr,.no e2 rfl⟩
theorem ic_put (N : Nat) (hN : Big N) {r : List ByteArray} (h : r.length ≠ 5) : impl_eventOf N (w_put :: r) = some (zE,false) := by
 unfold impl_eventOf
 rw [at0,bO,if_neg (by decide),if_neg (by decide),if_pos (by decide)]
 unfold impl_callEvent
 rw [at0,bO,if_pos (len_ne (k := 6) (by decide) (by simp only [List.length_cons]; omega))]
 rfl
theorem jc_put (N : Nat) (hN : Big N) (a : ByteArray) (b : ByteArray) (c : ByteArray) (d : ByteArray) (e : ByteArray) (h : Ln [a,b,c,d,e]) : impl_eventOf N [w_put,a,b,c,d,e] = some (if (rdec a).2 = true ∧ (rdec b).2 = true ∧ (rdec c).2 = true then (Event.mk 5 (rdec a).1 0 0 (Command.mk 3 (rdec b).1 (rdec c).1 (worded d) (worded e) (⟨#[]⟩ : ByteArray)) [] false 0 0,true) else (zE,false)) := by
 have hn := (nums_both N hN [a,b,c] (fun p hp => by have := h.sz p (by simp at hp ⊢; rcases hp with rfl | rfl | rfl <;> simp); omega) (by simp)).1
 unfold impl_eventOf
 rw [at0,bO,if_neg (by decide),if_neg (by decide),if_pos (by decide)]
 unfold impl_callEvent
 rw [at0,bO,if_neg (show ¬ ((([w_put,a,b,c,d,e].length : Nat) : Int) != mget manyM w_put) = true from by rw [show mget manyM w_put = 6 from by decide]; simp),show cut? [w_put,a,b,c,d,e] 1 4 = some [a,b,c] from rfl,bO,hn,bO,nums3]
 by_cases hg : (rdec a).2 = true ∧ (rdec b).2 = true ∧ (rdec c).2 = true
 ·rw [if_pos hg,if_pos hg]
  simp only [Bool.not_true,Bool.false_eq_true,if_false,joinP]
  rw [at0,bO,at1,bO,at2,bO,show at? [w_put,a,b,c,d,e] 4 = some d from rfl,bO,worded_i,bO,show mget opsM w_put = 3 from by decide,if_pos (by decide),show at? [w_put,a,b,c,d,e] 5 = some e from rfl,bO,worded_i,bO]
  rfl
 ·rw [if_neg hg,if_neg hg]
  rfl
theorem sc_put (N : Nat) (hN : Big N) {r : List ByteArray} (h : r.length ≠ 5) : ∃ s,spec_l20Event N (w_put :: r) = some s ∧ s.2 = false := by
 unfold spec_l20Event
 rcases r with _ | ⟨a,r⟩
 ·exact ⟨_,rfl,rfl⟩
 rw [if_neg (by simp only [List.length_cons,decide_eq_true_eq]; omega),at1,bO,rdec_spec N hN a,bO]
 cases ha : (rdec a).2 with
 | false => exact ⟨_,rfl,rfl⟩
 | true =>
  rw [if_neg (by decide),at0,bO,if_neg (by decide),if_neg (by decide),if_neg (by decide),if_neg (by decide),if_neg (by decide),if_neg (by decide),if_neg (by decide),if_neg (by decide),bO,drop2,bO]
  unfold spec_l20Call
  simp only [joinP]
  rw [if_neg (by decide),if_neg (by decide),if_neg (by decide),if_pos (by decide),if_pos (len_ne (k := 4) (by decide) (by simp only [List.length_cons] at h; omega))]
  exact ⟨_,rfl,rfl⟩
theorem tc_put (N : Nat) (hN : Big N) (a : ByteArray) (b : ByteArray) (c : ByteArray) (d : ByteArray) (e : ByteArray) (h : Ln [a,b,c,d,e]) : ∃ s,spec_l20Event N [w_put,a,b,c,d,e] = some s ∧ ((¬ ((rdec a).2 = true ∧ (rdec b).2 = true ∧ (rdec c).2 = true) ∧ s.2 = false) ∨ (d = (⟨#[45]⟩ : ByteArray) ∧ s.2 = false) ∨ (((rdec a).2 = true ∧ (rdec b).2 = true ∧ (rdec c).2 = true) ∧ d ≠ (⟨#[45]⟩ : ByteArray) ∧ s = (Event.mk 5 (rdec a).1 0 0 (Command.mk 3 (rdec b).1 (rdec c).1 d (worded e) (⟨#[]⟩ : ByteArray)) [] false 0 0,true))) := by
 have hn := (nums_both N hN [b,c] (fun p hp => by have := h.sz p (by simp at hp ⊢; rcases hp with rfl | rfl <;> simp); omega) (by simp)).2
 unfold spec_l20Event
 rw [if_neg (by simp only [List.length_cons,decide_eq_true_eq]; omega),at1,bO,rdec_spec N hN a,bO]
 cases ha : (rdec a).2 with
 | false => exact ⟨_,rfl,.inl ⟨by simp,rfl⟩⟩
 | true =>
  rw [if_neg (by decide),at0,bO,if_neg (by decide),if_neg (by decide),if_neg (by decide),if_neg (by decide),if_neg (by decide),if_neg (by decide),if_neg (by decide),if_neg (by decide),bO,drop2,bO]
  unfold spec_l20Call
  simp only [joinP]
  rw [if_neg (by decide),if_neg (by decide),if_neg (by decide),if_pos (by decide),if_neg (show ¬ ((([b,c,d,e].length : Nat) : Int) != 4) = true from by simp),show take? [b,c,d,e] 2 = some [b,c] from rfl,bO,hn,bO,nums2]
  by_cases hg : (rdec b).2 = true ∧ (rdec c).2 = true
  ·rw [if_pos hg]
   simp only [Bool.not_true,Bool.false_eq_true,if_false]
   rw [at2,bO]
   by_cases hd : d = (⟨#[45]⟩ : ByteArray)
   ·rw [if_pos (by simpa using hd)]
    exact ⟨_,rfl,.inr (.inl ⟨hd,rfl⟩)⟩
   ·rw [if_neg (by simpa using hd),at0,bO,at1,bO,bO,if_pos (by decide),show at? [b,c,d,e] 3 = some e from rfl,bO,worded_s,bO,if_neg (by decide)]
    exact ⟨_,rfl,.inr (.inr ⟨by simp [hg.1,hg.2],hd,rfl⟩)⟩
  ·rw [if_neg hg]
   exact ⟨_,rfl,.inl ⟨fun q => hg q.2,rfl⟩⟩
theorem call_put (N : Nat) (hN : Big N) {r : List ByteArray} (h : Ln r) : ∃ s i,spec_l20Event N (w_put :: r) = some s ∧ impl_eventOf N (w_put :: r) = some i ∧ EvR s i := by
 by_cases hr : r.length = 5
 ·obtain ⟨a,b,c,d,e,rfl⟩ : ∃ a b c d e,r = [a,b,c,d,e] := by
   match r,hr with
   | [a,b,c,d,e],_ => exact ⟨a,b,c,d,e,rfl⟩
  obtain ⟨s,e1,e2⟩ := tc_put N hN a b c d e h
  refine ⟨s,_,e1,jc_put N hN a b c d e h,?_⟩
  rcases e2 with ⟨h1,h2⟩ | ⟨h1,h2⟩ | ⟨h1,h2,rfl⟩
  ·rw [if_neg h1]
   exact .no h2 rfl
  ·by_cases hg : (rdec a).2 = true ∧ (rdec b).2 = true ∧ (rdec c).2 = true
   ·rw [if_pos hg]
    refine .inr (.inr ⟨h2,rfl,rfl,by simp only; omega,?_,Nat.zero_le _⟩)
    show worded d = _
    unfold worded
    rw [if_pos h1]
   ·rw [if_neg hg]
    exact .no h2 rfl
  ·rw [if_pos h1]
   have : worded d = d := by unfold worded; rw [if_neg h2]
   rw [this]
   exact .inl ⟨rfl,rfl,rfl,rfl,rfl,Nat.zero_le _,by have := h.sz d (by simp); simp only; omega,worded_le e (h.sz e (by simp)),by simp [z0]⟩
 ·obtain ⟨s,e1,e2⟩ := sc_put N hN (r := r) hr
  exact ⟨s,_,e1,ic_put N hN hr,.no e2 rfl⟩
theorem ic_swap (N : Nat) (hN : Big N) {r : List ByteArray} (h : r.length ≠ 6) : impl_eventOf N (w_swap :: r) = some (zE,false) := by
 unfold impl_eventOf
 rw [at0,bO,if_neg (by decide),if_neg (by decide),if_neg (by decide),if_pos (by decide)]
 unfold impl_callEvent
 rw [at0,bO,if_pos (len_ne (k := 7) (by decide) (by simp only [List.length_cons]; omega))]
 rfl
theorem jc_swap (N : Nat) (hN : Big N) (a : ByteArray) (b : ByteArray) (c : ByteArray) (d : ByteArray) (e : ByteArray) (f : ByteArray) (h : Ln [a,b,c,d,e,f]) : impl_eventOf N [w_swap,a,b,c,d,e,f] = some (if (rdec a).2 = true ∧ (rdec b).2 = true ∧ (rdec c).2 = true then (Event.mk 5 (rdec a).1 0 0 (Command.mk 5 (rdec b).1 (rdec c).1 (worded d) (worded f) (worded e)) [] false 0 0,true) else (zE,false)) := by
 have hn := (nums_both N hN [a,b,c] (fun p hp => by have := h.sz p (by simp at hp ⊢; rcases hp with rfl | rfl | rfl <;> simp); omega) (by simp)).1
 unfold impl_eventOf
 rw [at0,bO,if_neg (by decide),if_neg (by decide),if_neg (by decide),if_pos (by decide)]
 unfold impl_callEvent
 rw [at0,bO,if_neg (show ¬ ((([w_swap,a,b,c,d,e,f].length : Nat) : Int) != mget manyM w_swap) = true from by rw [show mget manyM w_swap = 7 from by decide]; simp),show cut? [w_swap,a,b,c,d,e,f] 1 4 = some [a,b,c] from rfl,bO,hn,bO,nums3]
 by_cases hg : (rdec a).2 = true ∧ (rdec b).2 = true ∧ (rdec c).2 = true
 ·rw [if_pos hg,if_pos hg]
  simp only [Bool.not_true,Bool.false_eq_true,if_false,joinP]
  rw [at0,bO,at1,bO,at2,bO,show at? [w_swap,a,b,c,d,e,f] 4 = some d from rfl,bO,worded_i,bO,show mget opsM w_swap = 5 from by decide,if_neg (by decide),if_pos (by decide),show at? [w_swap,a,b,c,d,e,f] 5 = some e from rfl,bO,worded_i,bO,show at? [w_swap,a,b,c,d,e,f] 6 = some f from rfl,bO,worded_i,bO]
  rfl
 ·rw [if_neg hg,if_neg hg]
  rfl
theorem sc_swap (N : Nat) (hN : Big N) {r : List ByteArray} (h : r.length ≠ 6) : ∃ s,spec_l20Event N (w_swap :: r) = some s ∧ s.2 = false := by
 unfold spec_l20Event
 rcases r with _ | ⟨a,r⟩
 ·exact ⟨_,rfl,rfl⟩
 rw [if_neg (by simp only [List.length_cons,decide_eq_true_eq]; omega),at1,bO,rdec_spec N hN a,bO]
 cases ha : (rdec a).2 with
 | false => exact ⟨_,rfl,rfl⟩
 | true =>
  rw [if_neg (by decide),at0,bO,if_neg (by decide),if_neg (by decide),if_neg (by decide),if_neg (by decide),if_neg (by decide),if_neg (by decide),if_neg (by decide),if_neg (by decide),bO,drop2,bO]
  unfold spec_l20Call
  simp only [joinP]
  rw [if_neg (by decide),if_neg (by decide),if_neg (by decide),if_neg (by decide),if_pos (by decide),if_pos (len_ne (k := 5) (by decide) (by simp only [List.length_cons] at h; omega))]
  exact ⟨_,rfl,rfl⟩
theorem tc_swap (N : Nat) (hN : Big N) (a : ByteArray) (b : ByteArray) (c : ByteArray) (d : ByteArray) (e : ByteArray) (f : ByteArray) (h : Ln [a,b,c,d,e,f]) : ∃ s,spec_l20Event N [w_swap,a,b,c,d,e,f] = some s ∧ ((¬ ((rdec a).2 = true ∧ (rdec b).2 = true ∧ (rdec c).2 = true) ∧ s.2 = false) ∨ (d = (⟨#[45]⟩ : ByteArray) ∧ s.2 = false) ∨ (((rdec a).2 = true ∧ (rdec b).2 = true ∧ (rdec c).2 = true) ∧ d ≠ (⟨#[45]⟩ : ByteArray) ∧ s = (Event.mk 5 (rdec a).1 0 0 (Command.mk 5 (rdec b).1 (rdec c).1 d (worded f) (worded e)) [] false 0 0,true))) := by
 have hn := (nums_both N hN [b,c] (fun p hp => by have := h.sz p (by simp at hp ⊢; rcases hp with rfl | rfl <;> simp); omega) (by simp)).2
 unfold spec_l20Event
 rw [if_neg (by simp only [List.length_cons,decide_eq_true_eq]; omega),at1,bO,rdec_spec N hN a,bO]
 cases ha : (rdec a).2 with
 | false => exact ⟨_,rfl,.inl ⟨by simp,rfl⟩⟩
 | true =>
  rw [if_neg (by decide),at0,bO,if_neg (by decide),if_neg (by decide),if_neg (by decide),if_neg (by decide),if_neg (by decide),if_neg (by decide),if_neg (by decide),if_neg (by decide),bO,drop2,bO]
  unfold spec_l20Call
  simp only [joinP]
  rw [if_neg (by decide),if_neg (by decide),if_neg (by decide),if_neg (by decide),if_pos (by decide),if_neg (show ¬ ((([b,c,d,e,f].length : Nat) : Int) != 5) = true from by simp),show take? [b,c,d,e,f] 2 = some [b,c] from rfl,bO,hn,bO,nums2]
  by_cases hg : (rdec b).2 = true ∧ (rdec c).2 = true
  ·rw [if_pos hg]
   simp only [Bool.not_true,Bool.false_eq_true,if_false]
   rw [at2,bO]
   by_cases hd : d = (⟨#[45]⟩ : ByteArray)
   ·rw [if_pos (by simpa using hd)]
    exact ⟨_,rfl,.inr (.inl ⟨hd,rfl⟩)⟩
   ·rw [if_neg (by simpa using hd),at0,bO,at1,bO,bO,if_neg (by decide),if_pos (by decide),show at? [b,c,d,e,f] 3 = some e from rfl,bO,worded_s,bO,show at? [b,c,d,e,f] 4 = some f from rfl,bO,worded_s,bO]
    exact ⟨_,rfl,.inr (.inr ⟨by simp [hg.1,hg.2],hd,rfl⟩)⟩
  ·rw [if_neg hg]
   exact ⟨_,rfl,.inl ⟨fun q => hg q.2,rfl⟩⟩
theorem call_swap (N : Nat) (hN : Big N) {r : List ByteArray} (h : Ln r) : ∃ s i,spec_l20Event N (w_swap :: r) = some s ∧ impl_eventOf N (w_swap :: r) = some i ∧ EvR s i := by
 by_cases hr : r.length = 6
 ·obtain ⟨a,b,c,d,e,f,rfl⟩ : ∃ a b c d e f,r = [a,b,c,d,e,f] := by
   match r,hr with
   | [a,b,c,d,e,f],_ => exact ⟨a,b,c,d,e,f,rfl⟩
  obtain ⟨s,e1,e2⟩ := tc_swap N hN a b c d e f h
  refine ⟨s,_,e1,jc_swap N hN a b c d e f h,?_⟩
  rcases e2 with ⟨h1,h2⟩ | ⟨h1,h2⟩ | ⟨h1,h2,rfl⟩
  ·rw [if_neg h1]
   exact .no h2 rfl
  ·by_cases hg : (rdec a).2 = true ∧ (rdec b).2 = true ∧ (rdec c).2 = true
   ·rw [if_pos hg]
    refine .inr (.inr ⟨h2,rfl,rfl,by simp only; omega,?_,Nat.zero_le _⟩)
    show worded d = _
    unfold worded
    rw [if_pos h1]
   ·rw [if_neg hg]
    exact .no h2 rfl
  ·rw [if_pos h1]
   have : worded d = d := by unfold worded; rw [if_neg h2]
   rw [this]
   exact .inl ⟨rfl,rfl,rfl,rfl,rfl,Nat.zero_le _,by have := h.sz d (by simp); simp only; omega,worded_le f (h.sz f (by simp)),worded_le e (h.sz e (by simp))⟩
 ·obtain ⟨s,e1,e2⟩ := sc_swap N hN (r := r) hr
  exact ⟨s,_,e1,ic_swap N hN hr,.no e2 rfl⟩
theorem oth_idx (N : Nat) (hN : Big N) (x : ByteArray) (hx : x ≠ (⟨#[]⟩ : ByteArray)) (h_tick : x ≠ w_tick) (h_up : x ≠ w_up) (h_deliver : x ≠ w_deliver) (h_drop : x ≠ w_drop) (h_copy : x ≠ w_copy) (h_merge : x ≠ w_merge) (h_down : x ≠ w_down) (h_conf : x ≠ w_conf) (h_open : x ≠ w_open) (h_get : x ≠ w_get) (h_cut : x ≠ w_cut) (h_put : x ≠ w_put) (h_swap : x ≠ w_swap) : slices_Index_string N ([w_tick,w_deliver,w_drop,w_copy,w_open,(⟨#[]⟩ : ByteArray),w_merge,w_down,w_up] : List ByteArray) x = some (-1) := by
 unfold slices_Index_string
 simp only [joinP]
 rw [slices_Index_string_l1_eq _ _ (by decide) (by have := hN; unfold Big at this; simp; omega)]
 simp only [slices_Index_string_l1_r,bO]
 rw [if_neg (by simpa using h_tick),if_neg (by simpa using h_deliver),if_neg (by simpa using h_drop),if_neg (by simpa using h_copy),if_neg (by simpa using h_open),if_neg (by simpa using hx),if_neg (by simpa using h_merge),if_neg (by simpa using h_down),if_neg (by simpa using h_up)]
 rfl
theorem oth_ev (N : Nat) (hN : Big N) (x : ByteArray) (hx : x ≠ (⟨#[]⟩ : ByteArray)) (h_tick : x ≠ w_tick) (h_up : x ≠ w_up) (h_deliver : x ≠ w_deliver) (h_drop : x ≠ w_drop) (h_copy : x ≠ w_copy) (h_merge : x ≠ w_merge) (h_down : x ≠ w_down) (h_conf : x ≠ w_conf) (h_open : x ≠ w_open) (h_get : x ≠ w_get) (h_cut : x ≠ w_cut) (h_put : x ≠ w_put) (h_swap : x ≠ w_swap) {r : List ByteArray} (h : Ln r) : ∃ s i,spec_l20Event N (x :: r) = some s ∧ impl_eventOf N (x :: r) = some i ∧ EvR s i := by
 have hi : ∃ i,impl_eventOf N (x :: r) = some i ∧ i.2 = false := by
  unfold impl_eventOf
  rw [at0,bO,if_neg (by simpa using h_get),if_neg (by simpa using h_cut),if_neg (by simpa using h_put),if_neg (by simpa using h_swap),if_neg (by simpa using h_conf),drop1,bO,(h.nums N hN).1,bO]
  unfold numsP
  cases numsOf r with
  | none => exact ⟨_,rfl,rfl⟩
  | some l =>
   simp only [Bool.not_true,Bool.false_eq_true,if_false,bO]
   unfold impl_plainEvent
   rw [oth_idx N hN x hx h_tick h_up h_deliver h_drop h_copy h_merge h_down h_conf h_open h_get h_cut h_put h_swap,bO]
   exact ⟨_,rfl,rfl⟩
 have hs : ∃ s,spec_l20Event N (x :: r) = some s ∧ s.2 = false := by
  unfold spec_l20Event
  rcases r with _ | ⟨a,r⟩
  ·exact ⟨_,rfl,rfl⟩
  rw [if_neg (by simp only [List.length_cons,decide_eq_true_eq]; omega),at1,bO,rdec_spec N hN a,bO]
  cases ha : (rdec a).2 with
  | false => exact ⟨_,rfl,rfl⟩
  | true =>
   rw [if_neg (by decide),at0,bO,if_neg (by simpa using h_tick),if_neg (by simpa using h_up),if_neg (by simpa using h_deliver),if_neg (by simpa using h_drop),if_neg (by simpa using h_copy),if_neg (by simpa using h_merge),if_neg (by simpa using h_down),if_neg (by simpa using h_conf),bO,drop2,bO]
   unfold spec_l20Call
   simp only [joinP]
   rw [if_neg (by simpa using h_open),if_neg (by simpa using h_get),if_neg (by simpa using h_cut),if_neg (by simpa using h_put),if_neg (by simpa using h_swap)]
   exact ⟨_,rfl,rfl⟩
 obtain ⟨i,i1,i2⟩ := hi
 obtain ⟨s,s1,s2⟩ := hs
 exact ⟨s,i,s1,i1,.no s2 i2⟩
theorem ev_both (N : Nat) (hN : Big N) (x : ByteArray) (hx : x ≠ (⟨#[]⟩ : ByteArray)) {r : List ByteArray} (h : Ln r) : ∃ s i,spec_l20Event N (x :: r) = some s ∧ impl_eventOf N (x :: r) = some i ∧ EvR s i := by
 by_cases h_tick : x = w_tick
 ·subst h_tick
  obtain ⟨s,e1,e2⟩ := se_tick N hN h
  exact ⟨s,_,e1,ie_tick N hN h,e2⟩
 by_cases h_up : x = w_up
 ·subst h_up
  obtain ⟨s,e1,e2⟩ := se_up N hN h
  exact ⟨s,_,e1,ie_up N hN h,e2⟩
 by_cases h_deliver : x = w_deliver
 ·subst h_deliver
  obtain ⟨s,e1,e2⟩ := se_deliver N hN h
  exact ⟨s,_,e1,ie_deliver N hN h,e2⟩
 by_cases h_drop : x = w_drop
 ·subst h_drop
  obtain ⟨s,e1,e2⟩ := se_drop N hN h
  exact ⟨s,_,e1,ie_drop N hN h,e2⟩
 by_cases h_copy : x = w_copy
 ·subst h_copy
  obtain ⟨s,e1,e2⟩ := se_copy N hN h
  exact ⟨s,_,e1,ie_copy N hN h,e2⟩
 by_cases h_merge : x = w_merge
 ·subst h_merge
  obtain ⟨s,e1,e2⟩ := se_merge N hN h
  exact ⟨s,_,e1,ie_merge N hN h,e2⟩
 by_cases h_down : x = w_down
 ·subst h_down
  obtain ⟨s,e1,e2⟩ := se_down N hN h
  exact ⟨s,_,e1,ie_down N hN h,e2⟩
 by_cases h_conf : x = w_conf
 ·subst h_conf
  exact conf_ev N hN h
 by_cases h_open : x = w_open
 ·subst h_open
  obtain ⟨s,e1,e2⟩ := se_open N hN h
  exact ⟨s,_,e1,ie_open N hN h,e2⟩
 by_cases h_get : x = w_get
 ·subst h_get
  exact call_get N hN h
 by_cases h_cut : x = w_cut
 ·subst h_cut
  exact call_cut N hN h
 by_cases h_put : x = w_put
 ·subst h_put
  exact call_put N hN h
 by_cases h_swap : x = w_swap
 ·subst h_swap
  exact call_swap N hN h
 exact oth_ev N hN x hx h_tick h_up h_deliver h_drop h_copy h_merge h_down h_conf h_open h_get h_cut h_put h_swap h
theorem evok (N : Nat) (hN : Big N) (n : Int) (e : Event) (hc : e.Conf.length ≤ 1000) : ∃ b,spec_EventOk N n e = some b ∧ impl_EventOk N n e = some b ∧ (e.Kind = 5 → 2 ≤ e.Command.Op → e.Command.Key = (⟨#[]⟩ : ByteArray) → b = false) := by
  have heq : impl_EventOk N n e = spec_EventOk N n e := by
    unfold spec_EventOk impl_EventOk
    simp only [in_eq,within_eq,bO,cmdOk_spec,cmdOk_impl,confOk_spec N hN e.Conf (by omega),confOk_impl N hN e.Conf (by omega)]
  have htot : ∃ b,spec_EventOk N n e = some b := by
    have h : (spec_EventOk N n e).isSome = true := by
      unfold spec_EventOk
      simp only [in_eq,bO,cmdOk_spec,confOk_spec N hN e.Conf (by omega)]
      repeat' split
      all_goals first
        | rfl
        | (rename_i hq
           have hl := confOk_len hq
           have e1 : w64 ((e.Conf.length : Int) - 1) = ((e.Conf.length - 1 : Nat) : Int) := by rw [w64_id (by omega) (by omega)]; omega
           rw [e1,at_lt (by omega)]
           rfl)
    exact Option.isSome_iff_exists.1 h
  obtain ⟨b,hb⟩ := htot
  refine ⟨b,hb,heq.trans hb,fun h1 h2 h3 => ?_⟩
  have hcm : cmdOk e.Command = false := by
    have hz : e.Command.Key.size = 0 := by rw [h3]; rfl
    have := cmdOk_spec N e.Command
    unfold spec_CommandOk at this
    simp only [in_eq,bO] at this
    cases hq : cmdOk e.Command with
    | false => rfl
    | true =>
      rw [hq] at this
      exfalso
      have h1' : ¬ (e.Command.Op == 1) = true := by rw [beq_iff_eq]; omega
      have h2' : decide ((1 : Int) ≤ (e.Command.Key.size : Int) ∧ (e.Command.Key.size : Int) ≤ 9) = false := decide_eq_false (by omega)
      rw [h2',if_neg h1'] at this
      revert this
      repeat' split
      all_goals simp_all
  unfold spec_EventOk at hb
  simp only [in_eq,bO,cmdOk_spec,hcm,h1] at hb
  revert hb
  repeat' split
  all_goals simp_all
theorem evok_cut (N : Nat) (n : Int) (e : Event) (c : Bool) (w p : Int) : impl_EventOk N n (Event.mk e.Kind e.Node e.At e.Limit e.Command e.Conf c w p) = impl_EventOk N n e := rfl
def LnR (N : Nat) (n : Int) (s i : Event × Bool) : Prop := (s.2 = true ∧ i = s ∧ impl_EventOk N n i.1 = some true ∧ Sm i.1) ∨ (s.2 = false ∧ i.2 = false) ∨ (s.2 = false ∧ i.2 = true ∧ impl_EventOk N n i.1 = some false)
theorem line_both (N : Nat) (hN : Big N) (n : Int) (x : ByteArray) (hx : x ≠ (⟨#[]⟩ : ByteArray)) {r : List ByteArray} (h : Ln r) (hne : ∀ p ∈ r,p ≠ (⟨#[]⟩ : ByteArray)) : ∃ s i,spec_l20Line N n (x :: r) = some s ∧ impl_poweredOf N (x :: r) = some i ∧ LnR N n s i := by
 by_cases hp : x = w_power
 ·subst hp
  by_cases hl : r.length < 3
  ·refine ⟨(zE,false),(zE,false),?_,?_,.inr (.inl ⟨rfl,rfl⟩)⟩
   ·unfold spec_l20Line
    simp only [joinP]
    rw [at0,bO,if_pos (by decide),if_pos (by simp only [List.length_cons,decide_eq_true_eq]; omega)]
   ·unfold impl_poweredOf
    rw [at0,bO,if_neg (by decide),if_pos (by simp only [List.length_cons,decide_eq_true_eq]; omega)]
  ·obtain ⟨a,b,y,q,rfl⟩ : ∃ a b y q,r = a :: b :: y :: q := by
    rcases r with _ | ⟨a,_ | ⟨b,_ | ⟨y,q⟩⟩⟩
    ·simp at hl
    ·simp at hl
    ·simp at hl
    ·exact ⟨a,b,y,q,rfl⟩
   have hq : Ln q := h.tail.tail.tail
   obtain ⟨n1,n2⟩ := nums_both N hN [a,b] (fun p hp => by have := h.sz p (by simp at hp ⊢; rcases hp with rfl | rfl <;> simp); omega) (by simp)
   obtain ⟨s0,i0,e1,e2,hr⟩ := ev_both N hN y (hne y (by simp)) hq
   have hcut : cut? (w_power :: a :: b :: y :: q) 1 3 = some [a,b] := by
    unfold cut?
    rw [if_pos (by simp only [List.length_cons]; omega)]
    rfl
   have hdrop : drop? (w_power :: a :: b :: y :: q) 3 = some (y :: q) := by
    unfold drop?
    rw [if_pos (by simp only [List.length_cons]; omega)]
    rfl
   unfold spec_l20Line impl_poweredOf
   simp only [joinP]
   rw [at0,bO,bO,if_pos (by decide),if_neg (by simp only [List.length_cons,decide_eq_true_eq]; omega),if_neg (by decide),if_neg (by simp only [List.length_cons,decide_eq_true_eq]; omega),hcut,bO,bO,n1,n2,bO,bO,hdrop,bO,bO,nums2]
   rw [e1,e2,bO,bO]
   by_cases hg : (rdec a).2 = true ∧ (rdec b).2 = true
   ·rw [if_pos hg]
    simp only [Bool.not_true,Bool.false_eq_true,if_false]
    rcases hr with ⟨h1,rfl,h3,h4,h5,h6⟩ | ⟨h1,h2⟩ | ⟨h1,h2,h3,h4,h5,h6⟩
    ·obtain ⟨v,v1,v2,_⟩ := evok N hN n i0.1 h6.1
     rw [h1]
     simp only [Bool.not_true,Bool.false_eq_true,if_false]
     rw [v1,bO,at0,bO,at1,bO]
     cases v with
     | false => exact ⟨_,_,rfl,rfl,.inr (.inr ⟨rfl,rfl,(evok_cut N n i0.1 _ _ _).trans v2⟩)⟩
     | true => exact ⟨_,_,rfl,rfl,.inl ⟨rfl,rfl,(evok_cut N n i0.1 _ _ _).trans v2,h6⟩⟩
    ·rw [h1,h2]
     exact ⟨_,_,rfl,rfl,.inr (.inl ⟨rfl,rfl⟩)⟩
    ·obtain ⟨v,v1,v2,v3⟩ := evok N hN n i0.1 h6
     rw [h1,h2]
     simp only [Bool.not_true,Bool.not_false,Bool.false_eq_true,if_false,if_true]
     rw [at0,bO,at1,bO]
     exact ⟨_,_,rfl,rfl,.inr (.inr ⟨rfl,rfl,(evok_cut N n i0.1 _ _ _).trans (v3 h3 h4 h5 ▸ v2)⟩)⟩
   ·rw [if_neg hg]
    exact ⟨_,_,rfl,rfl,.inr (.inl ⟨rfl,rfl⟩)⟩
 ·obtain ⟨s0,i0,e1,e2,hr⟩ := ev_both N hN x hx h
  unfold spec_l20Line impl_poweredOf
  simp only [joinP]
  rw [at0,bO,bO,if_neg (by simpa using hp),if_pos (by simpa using hp)]
  rw [e1,e2,bO,bO]
  simp only [Bool.not_true,Bool.false_eq_true,if_false]
  rcases hr with ⟨h1,rfl,h3,h4,h5,h6⟩ | ⟨h1,h2⟩ | ⟨h1,h2,h3,h4,h5,h6⟩
  ·obtain ⟨v,v1,v2,_⟩ := evok N hN n i0.1 h6.1
   rw [h1]
   simp only [Bool.not_true,Bool.false_eq_true,if_false]
   rw [v1,bO]
   cases v with
   | false => exact ⟨_,_,rfl,rfl,.inr (.inr ⟨rfl,rfl,v2⟩)⟩
   | true => exact ⟨_,_,rfl,rfl,.inl ⟨rfl,rfl,v2,h6⟩⟩
  ·rw [h1,h2]
   exact ⟨_,_,rfl,rfl,.inr (.inl ⟨rfl,rfl⟩)⟩
  ·obtain ⟨v,v1,v2,v3⟩ := evok N hN n i0.1 h6
   rw [h1,h2]
   exact ⟨_,_,rfl,rfl,.inr (.inr ⟨rfl,rfl,v3 h3 h4 h5 ▸ v2⟩)⟩
theorem cluster_both (N : Nat) (hN : Big (N + 100)) (x : ByteArray) {r : List ByteArray} (h : Ln r) :
  (∃ c,impl_clusterOf (N + 100) (x :: r) = some c ∧ c.2.2 = false ∧ (r.length ≠ 2 ∨ x ≠ w_cluster ∨ ∃ a b,r = [a,b] ∧ ∃ w q,spec_WorldNew (N + 100) (rdec a).1 (digs b) = some (w,q) ∧ (((rdec a).2 && (confOk (digs b) && q)) = false))) ∨
  (∃ a b w,r = [a,b] ∧ x = w_cluster ∧ spec_WorldNew (N + 100) (rdec a).1 (digs b) = some (w,true) ∧ (rdec a).2 = true ∧ confOk (digs b) = true ∧ (rdec a).1 ≠ 0 ∧ impl_clusterOf (N + 100) (x :: r) = some ((rdec a).1,digs b,true)) := by
 by_cases hl : r.length = 2
 ·by_cases hx : x = w_cluster
  ·subst hx
   obtain ⟨a,b,rfl⟩ : ∃ a b,r = [a,b] := by
    match r,hl with
    | [a,b],_ => exact ⟨a,b,rfl⟩
   have hsa := h.sz a (by simp)
   have hsb := h.sz b (by simp)
   obtain ⟨c1,c2⟩ := conf_both (N + 100) hN b (by omega)
   obtain ⟨w,w',q,g1,g2,g3⟩ := world_both N hN (rdec a).1 (digs b) (by rw [digs_len]; omega)
   have n3 : ¬ (((([w_cluster,a,b] : List ByteArray).length : Nat) : Int) != 3) = true := by simp
   have hi : impl_clusterOf (N + 100) [w_cluster,a,b] = some (if (rdec a).2 = true then (if confOk (digs b) = true then ((rdec a).1,digs b,q) else (0,[],false)) else (0,[],false)) := by
    unfold impl_clusterOf
    rw [if_neg n3,at0,bO,if_neg (by decide),at1,bO,rdec_impl (N + 100) a (by omega),bO,at2,bO,c1,bO]
    cases (rdec a).2 with
    | false => rfl
    | true =>
     cases confOk (digs b) with
     | false => rfl
     | true =>
      simp only [Bool.not_true,Bool.false_eq_true,if_false,if_true]
      rw [g2]
      rfl
   rw [hi]
   cases ha : (rdec a).2 with
   | false => exact .inl ⟨_,rfl,rfl,.inr (.inr ⟨a,b,rfl,w,q,g1,by simp [ha]⟩)⟩
   | true =>
    cases hb : confOk (digs b) with
    | false => exact .inl ⟨_,rfl,rfl,.inr (.inr ⟨a,b,rfl,w,q,g1,by simp [hb]⟩)⟩
    | true =>
     cases q with
     | false => exact .inl ⟨_,rfl,rfl,.inr (.inr ⟨a,b,rfl,w,false,g1,by simp⟩)⟩
     | true =>
      have := g3 rfl
      exact .inr ⟨a,b,w,rfl,rfl,g1,ha,hb,by omega,by simp [hb]⟩
  ·refine .inl ⟨(0,[],false),?_,rfl,.inr (.inl hx)⟩
   unfold impl_clusterOf
   rw [if_neg (by simp only [List.length_cons,bne_iff_ne]; omega),at0,bO,if_pos (by simpa using hx)]
 ·refine .inl ⟨(0,[],false),?_,rfl,.inl hl⟩
  unfold impl_clusterOf
  rw [if_pos (by simp only [List.length_cons,bne_iff_ne]; omega)]
theorem pref_ok (N : Nat) (x : ByteArray) (hx : 1 ≤ x.size) : ∃ c,sat? x 0 = some c ∧ strings_HasPrefix N x ⟨#[35]⟩ = some (c == 35) := by
 have hk : 0 < x.data.toList.length := by rw [dl_len]; omega
 have hd := List.drop_eq_getElem_cons hk
 refine ⟨_,sat_at hd,?_⟩
 unfold strings_HasPrefix internal_stringslite_HasPrefix
 have hs1 : ((ByteArray.mk #[35]).size : Int) = ((1 : Nat) : Int) := rfl
 rw [if_pos (by rw [hs1]; simp only [decide_eq_true_eq]; omega),hs1,stake_ok hx,bO,bO]
 congr 1
 have he : (x.extract 0 1).data.toList = [x.data.toList[0]] := by
  rw [ext_toList x 0 1 (by omega) hx,hd]
  rfl
 by_cases h : x.data.toList[0].toNat = 35
 ·have h1 : x.extract 0 1 = ⟨#[35]⟩ := by
   apply ba_ext'
   rw [he]
   have : x.data.toList[0] = 35 := UInt8.toNat_inj.1 h
   rw [this]
  rw [decide_eq_true h1]
  symm
  rw [beq_iff_eq]
  omega
 ·have h1 : x.extract 0 1 ≠ ⟨#[35]⟩ := by
   intro e
   rw [e] at he
   have h2 : x.data.toList[0] = 35 := by
    have := List.cons.inj he
    exact this.1.symm
   exact h (by rw [h2]; rfl)
  rw [decide_eq_false h1]
  symm
  rw [beq_eq_false_iff_ne]
  omega
def Told (conf : List Int) (evs : List Event) : Prop := conf.length ≤ 4 ∧ evs.length ≤ 60 ∧ ∀ e ∈ evs,Sm e
def ResOk (r : (Int × (List Int) × (List Event) × Int) ⊕ (Int × (List Int) × (List Event))) : Prop := match r with
 | .inl q => Told q.2.1 q.2.2.1
 | .inr q => Told q.2.1 q.2.2
theorem told0 : Told [] [] := ⟨by simp,by simp,fun e he => by cases he⟩
theorem script_l (K : Nat) (hN : Big (K + 100)) (ls arr : List ByteArray) (c v : Nat) (hls : ls = arr.take v) (hv : ls.length = v) (hl : ls.length ≤ 1000) (hs : ∀ x ∈ ls,x.size ≤ 100000) : ∀ (d k m : Nat) (n : Int) (conf : List Int) (evs : List Event),ls.length = k + d → d < m → Told conf evs →
  ∃ res,spec_ReadScript_l1 (K + 100) ls m n (k : Int) conf evs = some res ∧ impl_ReadScript_l1 (K + 100) (c,arr) v m n (k : Int) conf evs = some res ∧ ResOk res := by
 intro d
 induction d with
 | zero =>
  intro k m n conf evs h hm ht
  obtain ⟨m,rfl⟩ : ∃ q,m = q + 1 := ⟨m - 1,by omega⟩
  refine ⟨.inr (n,conf,evs),?_,?_,ht⟩
  ·rw [spec_ReadScript_l1,if_neg (by simp only [decide_eq_true_eq]; omega)]
  ·rw [impl_ReadScript_l1,if_neg (by simp only [decide_eq_true_eq]; omega)]
 | succ d ih =>
  intro k m n conf evs h hm ht
  obtain ⟨m,rfl⟩ : ∃ q,m = q + 1 := ⟨m - 1,by omega⟩
  have hk : k < ls.length := by omega
  have hx := hs ls[k] (List.getElem_mem hk)
  rw [spec_ReadScript_l1,impl_ReadScript_l1,if_pos (by simp only [decide_eq_true_eq]; omega),if_pos (by simp only [decide_eq_true_eq]; omega)]
  simp only [joinP]
  rw [← hls,at_lt hk,bO,bO,parts_spec (K + 100) hN _ (by omega),parts_impl (K + 100) hN _ (by omega),bO,bO]
  have no : ∃ res,some (Sum.inl ((0 : Int),([] : List Int),([] : List Event),w64 ((k : Int) + 1)) : (Int × (List Int) × (List Event) × Int) ⊕ (Int × (List Int) × (List Event))) = some res ∧ some (Sum.inl ((0 : Int),([] : List Int),([] : List Event),w64 ((k : Int) + 1)) : (Int × (List Int) × (List Event) × Int) ⊕ (Int × (List Int) × (List Event))) = some res ∧ ResOk res := ⟨_,rfl,rfl,told0⟩
  have go : ∀ (n' : Int) (conf' : List Int) (evs' : List Event),Told conf' evs' → ∃ res,spec_ReadScript_l1 (K + 100) ls m n' (w64 ((k : Int) + 1)) conf' evs' = some res ∧ impl_ReadScript_l1 (K + 100) (c,arr) v m n' (w64 ((k : Int) + 1)) conf' evs' = some res ∧ ResOk res := fun n' conf' evs' ht' => by
   rw [w64_succ (by omega)]
   exact ih (k + 1) m n' conf' evs' (by omega) (by omega) ht'
  cases hP : (partsOf ls[k]).2 with
  | false =>
   rw [if_neg (by decide),if_pos (by decide),if_pos (by decide)]
   exact no
  | true =>
   obtain ⟨p1,p2⟩ := partsOf_in hP
   rw [if_pos rfl]
   simp only [Bool.not_true,Bool.false_eq_true,if_false]
   generalize (partsOf ls[k]).1 = P at p1 p2
   rcases P with _ | ⟨y,r⟩
   ·rw [if_pos (by simp),if_pos (by simp)]
    exact go n conf evs ht
   ·have hy := p2 y (by simp)
    have hye : y ≠ (⟨#[]⟩ : ByteArray) := fun e => by rw [e,z0] at hy; omega
    have hne : ∀ p ∈ r,p ≠ (⟨#[]⟩ : ByteArray) := fun p hp e => by have := p2 p (by simp [hp]); rw [e,z0] at this; omega
    have hln : Ln r := ⟨by simp at p1; omega,fun p hp => (p2 p (by simp [hp])).2⟩
    obtain ⟨b,b1,b2⟩ := pref_ok (K + 100) y hy.1
    have hz : ((((y :: r).length : Nat) : Int) == 0) = false := by
     rw [beq_eq_false_iff_ne]
     simp only [List.length_cons]
     omega
    simp only [hz,Bool.false_eq_true,if_false,at0,bO,b1,b2]
    cases hb : b == 35 with
    | true =>
     simp only [if_true]
     exact go n conf evs ht
    | false =>
     simp only [Bool.false_eq_true,if_false]
     by_cases hn : n = 0
     ·subst hn
      have h00 : ((0 : Int) == 0) = true := rfl
      simp only [h00,if_true]
      rcases cluster_both K hN y hln with ⟨cl,c1,c2,c3⟩ | ⟨a,e,w,rfl,rfl,g1,g2,g3,g4,g5⟩
      ·simp only [c1,c2,bO,Bool.not_false,if_true]
       by_cases h3 : r.length = 2
       ·have n3 : ((((y :: r).length : Nat) : Int) != 3) = false := by
         rw [bne_eq_false_iff_eq]
         simp only [List.length_cons]
         omega
        simp only [n3,Bool.false_eq_true,if_false]
        by_cases hcl : y = w_cluster
        ·have c4 : ∃ a b,r = [a,b] ∧ ∃ w q,spec_WorldNew (K + 100) (rdec a).1 (digs b) = some (w,q) ∧ (((rdec a).2 && (confOk (digs b) && q)) = false) := by
          rcases c3 with c3 | c3 | c3
          ·exact absurd h3 c3
          ·exact absurd hcl c3
          ·exact c3
         obtain ⟨a,e,rfl,w,q,g1,g2⟩ := c4
         have hse := (p2 e (by simp)).2
         rw [if_neg (by simp [hcl]),at1,bO,rdec_spec (K + 100) hN a,bO,at2,bO,(conf_both (K + 100) hN e (by omega)).2,bO,g1,bO]
         cases ha : (rdec a).2 with
         | false => exact no
         | true =>
          cases hc : confOk (digs e) with
          | false => exact no
          | true =>
           rw [ha,hc] at g2
           simp only [Bool.true_and] at g2
           rw [g2]
           exact no
        ·rw [if_pos (by simpa using hcl)]
         exact no
       ·have n3 : ((((y :: r).length : Nat) : Int) != 3) = true := by
         rw [bne_iff_ne]
         simp only [List.length_cons]
         omega
        simp only [n3,if_true]
        exact no
      ·have hse := (p2 e (by simp)).2
       have n3 : (((([w_cluster,a,e] : List ByteArray).length : Nat) : Int) != 3) = false := by simp
       simp only [g5,bO,n3,Bool.false_eq_true,if_false,Bool.not_true]
       rw [if_neg (by decide),at1,bO,rdec_spec (K + 100) hN a,bO,at2,bO,(conf_both (K + 100) hN e (by omega)).2,bO,g1,bO]
       simp only [g2,g3,Bool.not_true,Bool.false_eq_true,if_false]
       exact go _ _ _ ⟨(confOk_len g3).2,ht.2⟩
     ·have hn0 : (n == 0) = false := by rw [beq_eq_false_iff_ne]; exact hn
      simp only [hn0,Bool.false_eq_true,if_false]
      obtain ⟨s,i,e1,e2,hr⟩ := line_both (K + 100) hN n y hye hln hne
      rw [e1,e2,bO,bO]
      rcases hr with ⟨h1,rfl,h3,h4⟩ | ⟨h1,h2⟩ | ⟨h1,h2,h3⟩
      ·simp only [h1,h3,bO,Bool.not_true,Bool.false_eq_true,if_false]
       by_cases h60 : evs.length = 60
       ·have h61 : (((evs.length : Nat) : Int) == 60) = true := by rw [beq_iff_eq]; omega
        simp only [h61,if_true]
        exact no
       ·have hlen := ht.2.1
        have h61 : (((evs.length : Nat) : Int) == 60) = false := by rw [beq_eq_false_iff_ne]; omega
        simp only [h61,Bool.false_eq_true,if_false]
        rw [cat_ok (by simp; omega),bO,bO]
        refine go n conf (evs ++ [i.1]) ⟨ht.1,by simp; omega,fun e he => ?_⟩
        rcases List.mem_append.1 he with he | he
        ·exact ht.2.2 e he
        ·obtain rfl := List.mem_singleton.1 he
         exact h4
      ·simp only [h1,h2,Bool.not_false,if_true]
       exact no
      ·simp only [h1,h2,h3,bO,Bool.not_false,Bool.not_true,Bool.false_eq_true,if_true,if_false]
       exact no
theorem script_both (K : Nat) (hN : Big (K + 100)) (t : ByteArray) (ht : t.size ≤ 1048576) : ∃ res,spec_ReadScript (K + 100) t = some res ∧ impl_ReadScript (K + 100) t = some res ∧ Told res.2.1 res.2.2.1 := by
 obtain ⟨arr,a1,a2⟩ := split_nl (K + 100) hN t ht
 obtain ⟨A,q,q1,q2⟩ := spl_lns t.data.toList []
 have hsl := spl_len t.data.toList []
 have hcl := List.count_le_length (a := (10 : UInt8)) (l := t.data.toList)
 have hdl := dl_len t
 have hAl : (splG [] t.data.toList).length = A.length + 1 := by rw [q1]; simp
 have harr : arr = A.map mkB ++ [mkB q] := by rw [a2,q1]; simp
 have hlast : at? (arr.take (splG [] t.data.toList).length) (w64 (((splG [] t.data.toList).length : Int) - 1)) = some (mkB q) := by
  rw [hAl,show w64 (((A.length + 1 : Nat) : Int) - 1) = (A.length : Int) by rw [w64_id (by omega) (by omega)]; omega,List.take_of_length_le (by rw [harr]; simp),harr]
  rw [at_lt (by simp)]
  simp
 have hq : mkB q = (⟨#[]⟩ : ByteArray) ↔ q.isEmpty = true := by
  constructor
  ·intro e
   have := congrArg (fun b : ByteArray => b.data.toList) e
   simp only at this
   rw [List.isEmpty_iff]
   simpa using this
  ·intro e
   rw [List.isEmpty_iff] at e
   rw [e]
 have hlines : linesOf t = arr.take (if q.isEmpty = true then A.length else A.length + 1) := by
  unfold linesOf
  rw [q2,harr]
  by_cases h : q.isEmpty = true
  ·rw [if_pos h,if_pos h,List.append_nil,List.take_left' (by simp)]
  ·rw [if_neg h,if_neg h,List.take_of_length_le (by simp)]
   simp
 have hll : (linesOf t).length = (if q.isEmpty = true then A.length else A.length + 1) := by
  rw [hlines,List.length_take,harr]
  split <;> simp
 have hsz : ∀ x ∈ linesOf t,x.size ≤ t.size := by
  intro x hx
  obtain ⟨p,hp,rfl⟩ := List.mem_map.1 hx
  have := lns_in _ _ p hp
  have hs : (mkB p).size = p.length := List.size_toArray
  simp only [List.length_nil] at this
  omega
 have himp : impl_ReadScript (K + 100) t = (if (decide ((t.size : Int) > 8000)) = true then some (0,[],[],(-1 : Int)) else if (decide ((((if q.isEmpty = true then A.length else A.length + 1 : Nat)) : Int) > 90)) = true then some (0,[],[],(-1 : Int)) else
   (impl_ReadScript_l1 (K + 100) ((splG [] t.data.toList).length,arr) (if q.isEmpty = true then A.length else A.length + 1) (K + 100) 0 0 [] []).bind (Sum.elim (fun v589 => some v589) (fun v590 => (if (v590.1 == 0) = true then some (0,[],[],1) else some (v590.1,v590.2.1,v590.2.2,0))))) := by
  unfold impl_ReadScript
  rw [a1,bO]
  simp only [joinP]
  rw [hlast,bO]
  by_cases h : q.isEmpty = true
  ·rw [if_pos (by simpa using hq.2 h),hAl,show w64 (((A.length + 1 : Nat) : Int) - 1) = (A.length : Int) by rw [w64_id (by omega) (by omega)]; omega,Pe.take_ok (by rw [harr]; simp),bO,Int.toNat_natCast]
   simp only [h,if_true]
  ·rw [if_neg (by simpa using fun e => h (hq.1 e)),hAl]
   simp only [h,if_false]
   rfl
 rw [himp]
 unfold spec_ReadScript
 by_cases h8 : t.size ≤ 8000
 ·rw [if_neg (by simp; omega),if_neg (by simp; omega),lines_spec (K + 100) hN t ht,bO,bO,hll]
  by_cases h90 : (if q.isEmpty = true then A.length else A.length + 1) ≤ 90
  ·rw [if_neg (by simp only [decide_eq_true_eq]; omega),if_neg (by simp only [decide_eq_true_eq]; omega)]
   simp only [joinP]
   obtain ⟨res,e1,e2,e3⟩ := script_l K hN (linesOf t) arr (splG [] t.data.toList).length _ hlines hll (by omega) (fun x hx => by have := hsz x hx; omega) (linesOf t).length 0 (K + 100) 0 [] [] (by omega) (by unfold Big at hN; omega) told0
   rw [show ((0 : Nat) : Int) = 0 from rfl] at e1 e2
   rw [e1,e2,bO]
   rcases res with x | x
   ·exact ⟨_,rfl,rfl,e3⟩
   ·simp only [Sum.elim_inr]
    split
    ·exact ⟨_,rfl,rfl,told0⟩
    ·exact ⟨_,rfl,rfl,e3⟩
  ·rw [if_pos (by simp only [decide_eq_true_eq]; omega),if_pos (by simp only [decide_eq_true_eq]; omega)]
   exact ⟨_,rfl,rfl,told0⟩
 ·rw [if_pos (by simp; omega),if_pos (by simp; omega)]
  exact ⟨_,rfl,rfl,told0⟩
theorem len_ok {α β : Type} {a : List α} {b : List β} (h : a.length = b.length) : len? a b = some () := by unfold len?; rw [if_pos h]
theorem rem3 (x : Int) : intD .rem .i64 x 3 = some (x.tmod 3) := rfl
def cst (m : Event) : Nat := 13 + m.Conf.length
def cs (xs : List Event) : Nat := (xs.map cst).sum
theorem cs_split (xs : List Event) (i : Nat) (h : i < xs.length) : cs xs = cs (xs.take i) + cst xs[i] + cs (xs.drop (i + 1)) := by
 have : xs = xs.take i ++ (xs[i] :: xs.drop (i + 1)) := by rw [← List.drop_eq_getElem_cons h,List.take_append_drop]
 conv => lhs; rw [this]
 simp only [cs,List.map_append,List.map_cons,List.sum_append,List.sum_cons]
 omega
theorem cs_set (xs : List Event) (i : Nat) (h : i < xs.length) (z : Event) (hz : cst z = cst xs[i]) : cs (xs.set i z) = cs xs := by
 unfold cs
 rw [List.map_set,hz]
 congr 1
 have : cst xs[i] = (xs.map cst)[i]'(by rw [List.length_map]; exact h) := by rw [List.getElem_map]
 rw [this,List.set_getElem_self]
theorem cs_snoc (xs : List Event) (z : Event) : cs (xs ++ [z]) = cs xs + cst z := by simp [cs]
def HP_M (N : Nat) (y : Event) (k : Int) : Prop := y.Kind = k ∧ y.Node = k + 1 ∧ y.At = k + 1 + 1 ∧ y.Limit = k + 1 + 1 + 1 ∧ y.Command.Op = k + 1 + 1 + 1 + 1 ∧ y.Command.Session = k + 1 + 1 + 1 + 1 + 1 ∧ y.Command.Seq = k + 1 + 1 + 1 + 1 + 1 + 1 ∧
 laws_markText N (k + 1 + 1 + 1 + 1 + 1 + 1 + 1) = some y.Command.Key ∧ laws_markText N (k + 1 + 1 + 1 + 1 + 1 + 1 + 1 + 1) = some y.Command.Value ∧ laws_markText N (k + 1 + 1 + 1 + 1 + 1 + 1 + 1 + 1 + 1) = some y.Command.Old ∧
 laws_heldIntS N y.Conf (k + 1 + 1 + 1 + 1 + 1 + 1 + 1 + 1 + 1 + 1) = some (k + 1 + 1 + 1 + 1 + 1 + 1 + 1 + 1 + 1 + 1 + 1 * y.Conf.length) ∧ y.Cut = ((k + 1 + 1 + 1 + 1 + 1 + 1 + 1 + 1 + 1 + 1 + 1 * y.Conf.length).tmod 3 == 0) ∧ y.Whole = k + 1 + 1 + 1 + 1 + 1 + 1 + 1 + 1 + 1 + 1 + 1 * y.Conf.length + 1 ∧ y.Part = k + 1 + 1 + 1 + 1 + 1 + 1 + 1 + 1 + 1 + 1 + 1 * y.Conf.length + 1 + 1
def HL_M (N : Nat) : Int → List Event → Prop
 | _,[] => True
 | k,y :: ys => HP_M N y k ∧ HL_M N (k + cst y) ys
theorem HL_M_snoc {N : Nat} {y : Event} : ∀ {xs : List Event} {k : Int},HL_M N k xs → HP_M N y (k + cs xs) → HL_M N k (xs ++ [y])
 | [],k,_,h => by
  refine ⟨?_,trivial⟩
  simpa [cs] using h
 | x :: xs,k,h,h2 => by
  refine ⟨h.1,HL_M_snoc h.2 ?_⟩
  rw [show k + (cst x : Int) + (cs xs : Int) = k + (cs (x :: xs) : Int) by simp only [cs,List.map_cons,List.sum_cons]; omega]
  exact h2
theorem mark_M_r (N : Nat) (hN : Big N) (k0 : Int) (h1 : 1 ≤ k0) : ∀ (d i m : Nat) (k : Int) (acc : List Event),acc.length = i + d → d < m → acc.length ≤ 10000000 → HL_M N k0 (acc.take i) → k = k0 + cs (acc.take i) → k0 + cs acc ≤ 1099511627 → ∃ acc',laws_markEventS_l1 N m k (i : Int) acc = some (k0 + cs acc,acc') ∧ acc.length = acc'.length ∧ HL_M N k0 acc' ∧ cs acc' = cs acc
 | 0,i,m,k,acc,hl,hm,hq,hh,hk,hb => by
  obtain ⟨m,rfl⟩ : ∃ q,m = q + 1 := ⟨m - 1,by omega⟩
  rw [List.take_of_length_le (by omega)] at hh hk
  refine ⟨acc,?_,rfl,hh,rfl⟩
  rw [laws_markEventS_l1,if_neg (by simp; omega),hk]
 | d + 1,i,m,k,acc,hl,hm,hq,hh,hk,hb => by
  obtain ⟨m,rfl⟩ : ∃ q,m = q + 1 := ⟨m - 1,by omega⟩
  have hlt : i < acc.length := by omega
  have hsp := cs_split acc i hlt
  have hc : cst acc[i] = 13 + acc[i].Conf.length := rfl
  have w1 : w64 (k + 1) = k + 1 := w64_id (by omega) (by omega)
  have w2 : w64 (k + 1 + 1) = k + 1 + 1 := w64_id (by omega) (by omega)
  have w3 : w64 (k + 1 + 1 + 1) = k + 1 + 1 + 1 := w64_id (by omega) (by omega)
  have w4 : w64 (k + 1 + 1 + 1 + 1) = k + 1 + 1 + 1 + 1 := w64_id (by omega) (by omega)
  have w5 : w64 (k + 1 + 1 + 1 + 1 + 1) = k + 1 + 1 + 1 + 1 + 1 := w64_id (by omega) (by omega)
  have w6 : w64 (k + 1 + 1 + 1 + 1 + 1 + 1) = k + 1 + 1 + 1 + 1 + 1 + 1 := w64_id (by omega) (by omega)
  have w7 : w64 (k + 1 + 1 + 1 + 1 + 1 + 1 + 1) = k + 1 + 1 + 1 + 1 + 1 + 1 + 1 := w64_id (by omega) (by omega)
  have w8 : w64 (k + 1 + 1 + 1 + 1 + 1 + 1 + 1 + 1) = k + 1 + 1 + 1 + 1 + 1 + 1 + 1 + 1 := w64_id (by omega) (by omega)
  have w9 : w64 (k + 1 + 1 + 1 + 1 + 1 + 1 + 1 + 1 + 1) = k + 1 + 1 + 1 + 1 + 1 + 1 + 1 + 1 + 1 := w64_id (by omega) (by omega)
  have w10 : w64 (k + 1 + 1 + 1 + 1 + 1 + 1 + 1 + 1 + 1 + 1) = k + 1 + 1 + 1 + 1 + 1 + 1 + 1 + 1 + 1 + 1 := w64_id (by omega) (by omega)
  obtain ⟨c,c1,c2,c3⟩ := mark_IntS N hN acc[i].Conf (k + 1 + 1 + 1 + 1 + 1 + 1 + 1 + 1 + 1 + 1) (by omega) (by omega)
  obtain ⟨t1,ht1⟩ := mark_text N hN (k + 1 + 1 + 1 + 1 + 1 + 1 + 1) (by omega) (by omega)
  obtain ⟨t2,ht2⟩ := mark_text N hN (k + 1 + 1 + 1 + 1 + 1 + 1 + 1 + 1) (by omega) (by omega)
  obtain ⟨t3,ht3⟩ := mark_text N hN (k + 1 + 1 + 1 + 1 + 1 + 1 + 1 + 1 + 1) (by omega) (by omega)
  have w11 : w64 (k + 1 + 1 + 1 + 1 + 1 + 1 + 1 + 1 + 1 + 1 + 1 * acc[i].Conf.length + 1) = k + 1 + 1 + 1 + 1 + 1 + 1 + 1 + 1 + 1 + 1 + 1 * acc[i].Conf.length + 1 := w64_id (by omega) (by omega)
  have w12 : w64 (k + 1 + 1 + 1 + 1 + 1 + 1 + 1 + 1 + 1 + 1 + 1 * acc[i].Conf.length + 1 + 1) = k + 1 + 1 + 1 + 1 + 1 + 1 + 1 + 1 + 1 + 1 + 1 * acc[i].Conf.length + 1 + 1 := w64_id (by omega) (by omega)
  have w13 : w64 (k + 1 + 1 + 1 + 1 + 1 + 1 + 1 + 1 + 1 + 1 + 1 * acc[i].Conf.length + 1 + 1 + 1) = k + 1 + 1 + 1 + 1 + 1 + 1 + 1 + 1 + 1 + 1 + 1 * acc[i].Conf.length + 1 + 1 + 1 := w64_id (by omega) (by omega)
  have hgt : ∀ z : Event,(acc.set i z)[i]? = some z := fun z => by simp [hlt]
  rw [laws_markEventS_l1,if_pos (by simp; omega)]
  simp only [at_lt hlt,at_set hlt,hgt,bO,List.set_set,Int.toNat_natCast,w64_succ (k := i) (by omega),w1,w2,w3,w4,w5,w6,w7,w8,w9,w10,rem3,c1,ht1,ht2,ht3,w11,w12,w13,len_ok c2]
  generalize hz : Event.mk k (k + 1) (k + 1 + 1) (k + 1 + 1 + 1) (Command.mk (k + 1 + 1 + 1 + 1) (k + 1 + 1 + 1 + 1 + 1) (k + 1 + 1 + 1 + 1 + 1 + 1) t1 t2 t3) c ((k + 1 + 1 + 1 + 1 + 1 + 1 + 1 + 1 + 1 + 1 + 1 * (acc[i].Conf.length : Int)).tmod 3 == 0) (k + 1 + 1 + 1 + 1 + 1 + 1 + 1 + 1 + 1 + 1 + 1 * (acc[i].Conf.length : Int) + 1) (k + 1 + 1 + 1 + 1 + 1 + 1 + 1 + 1 + 1 + 1 + 1 * (acc[i].Conf.length : Int) + 1 + 1) = z
  have hcz : cst z = cst acc[i] := by rw [← hz]; simp only [cst,← c2]
  have hlen : (acc.set i z).length = acc.length := List.length_set
  have hcs := cs_set acc i hlt z hcz
  have htk : (acc.set i z).take (i + 1) = acc.take i ++ [z] := take_set_succ hlt
  obtain ⟨acc',q1,q2,q3,q4⟩ := mark_M_r N hN k0 h1 d (i + 1) m (k + 1 + 1 + 1 + 1 + 1 + 1 + 1 + 1 + 1 + 1 + 1 * acc[i].Conf.length + 1 + 1 + 1) (acc.set i z) (by rw [hlen]; omega) (by omega) (by rw [hlen]; exact hq) (by
   rw [htk]
   refine HL_M_snoc hh ?_
   rw [← hk,← hz]
   refine ⟨rfl,rfl,rfl,rfl,rfl,rfl,rfl,ht1,ht2,ht3,?_,?_,?_,?_⟩
   ·simp only [← c2]; exact c3
   ·simp only [← c2]
   ·simp only [← c2]
   ·simp only [← c2]) (by rw [htk,cs_snoc,hcz,hc]; omega) (by rw [hcs]; exact hb)
  rw [hlen] at q2
  rw [hcs] at q1 q4
  exact ⟨acc',q1,q2,q3,q4⟩
set_option maxHeartbeats 8000000 in
theorem held_M_r (N : Nat) (c : List Event) : ∀ (ys : List Event) (k : Int) (i : Nat),HL_M N k ys → 1 ≤ k → k + cs ys ≤ 1099511627 → i + ys.length ≤ 1099511627 → laws_heldEventS_l1_r N c ys k (i : Int) = some (.inr (k + cs ys)) := by
 intro ys
 induction ys with
 | nil =>
  intro k i h h1 h2 h3
  rw [laws_heldEventS_l1_r]
  simp [cs]
 | cons y ys ihh =>
  intro k i h h1 h2 h3
  simp only [List.length_cons] at h3
  have hcc : cs (y :: ys) = cst y + cs ys := by simp [cs]
  have hc : cst y = 13 + y.Conf.length := rfl
  rw [hcc] at h2
  obtain ⟨hy,hs⟩ := h
  have ih := ihh (k + cst y) (i + 1) hs (by omega) (by omega) (by omega)
  have w1 : w64 (k + 1) = k + 1 := w64_id (by omega) (by omega)
  have w2 : w64 (k + 1 + 1) = k + 1 + 1 := w64_id (by omega) (by omega)
  have w3 : w64 (k + 1 + 1 + 1) = k + 1 + 1 + 1 := w64_id (by omega) (by omega)
  have w4 : w64 (k + 1 + 1 + 1 + 1) = k + 1 + 1 + 1 + 1 := w64_id (by omega) (by omega)
  have w5 : w64 (k + 1 + 1 + 1 + 1 + 1) = k + 1 + 1 + 1 + 1 + 1 := w64_id (by omega) (by omega)
  have w6 : w64 (k + 1 + 1 + 1 + 1 + 1 + 1) = k + 1 + 1 + 1 + 1 + 1 + 1 := w64_id (by omega) (by omega)
  have w7 : w64 (k + 1 + 1 + 1 + 1 + 1 + 1 + 1) = k + 1 + 1 + 1 + 1 + 1 + 1 + 1 := w64_id (by omega) (by omega)
  have w8 : w64 (k + 1 + 1 + 1 + 1 + 1 + 1 + 1 + 1) = k + 1 + 1 + 1 + 1 + 1 + 1 + 1 + 1 := w64_id (by omega) (by omega)
  have w9 : w64 (k + 1 + 1 + 1 + 1 + 1 + 1 + 1 + 1 + 1) = k + 1 + 1 + 1 + 1 + 1 + 1 + 1 + 1 + 1 := w64_id (by omega) (by omega)
  have w10 : w64 (k + 1 + 1 + 1 + 1 + 1 + 1 + 1 + 1 + 1 + 1) = k + 1 + 1 + 1 + 1 + 1 + 1 + 1 + 1 + 1 + 1 := w64_id (by omega) (by omega)
  have w11 : w64 (k + 1 + 1 + 1 + 1 + 1 + 1 + 1 + 1 + 1 + 1 + 1 * y.Conf.length + 1) = k + 1 + 1 + 1 + 1 + 1 + 1 + 1 + 1 + 1 + 1 + 1 * y.Conf.length + 1 := w64_id (by omega) (by omega)
  have w12 : w64 (k + 1 + 1 + 1 + 1 + 1 + 1 + 1 + 1 + 1 + 1 + 1 * y.Conf.length + 1 + 1) = k + 1 + 1 + 1 + 1 + 1 + 1 + 1 + 1 + 1 + 1 + 1 * y.Conf.length + 1 + 1 := w64_id (by omega) (by omega)
  have w13 : w64 (k + 1 + 1 + 1 + 1 + 1 + 1 + 1 + 1 + 1 + 1 + 1 * y.Conf.length + 1 + 1 + 1) = k + cst y := by rw [w64_id (by omega) (by omega)]; omega
  have n2 : ¬ (k + 1 + 1 + 1 + 1 + 1 + 1 + 1 + 1 + 1 + 1 + 1 * (y.Conf.length : Int) < 0) := by omega
  have n3 : k + (cst y : Int) + (cs ys : Int) = k + ((cst y + cs ys : Nat) : Int) := by omega
  have n4 : w64 ((i : Int) + 1) = ((i + 1 : Nat) : Int) := w64_succ (by omega)
  obtain ⟨a0,a1,a2,a3,a4,a5,a6,a7,a8,a9,a10,a11,a12,a13⟩ := hy
  rw [laws_heldEventS_l1_r]
  simp only [bO,w1,w2,w3,w4,w5,w6,w7,w8,w9,w10,rem3,a0,a1,a2,a3,a4,a5,a6,a7,a8,a9,a10,bne_self_eq_false,Bool.false_eq_true,if_false,decide_true,Bool.not_true]
  rw [if_neg (by simpa using n2)]
  rw [if_neg (by rw [a11]; simp)]
  simp only [w11,w12,w13,a12,a13,bne_self_eq_false,Bool.false_eq_true,if_false]
  rw [n4,ih,hcc,n3]
theorem mark_M (N : Nat) (hN : Big N) (x : List Event) (k : Int) (h1 : 1 ≤ k) (hq : x.length ≤ 10000000) (hb : k + cs x ≤ 1099511627) : ∃ y,laws_markEventS N x k = some (k + cs x,y) ∧ x.length = y.length ∧ laws_heldEventS N y k = some (k + cs x) := by
 obtain ⟨y,e1,e2,e3,e4⟩ := mark_M_r N hN k h1 x.length 0 N k x (by omega) (by have := hN; unfold Big at this; omega) hq trivial (by simp [cs]) hb
 refine ⟨y,?_,e2,?_⟩
 ·unfold laws_markEventS
  simp only [joinP]
  rw [show (0 : Int) = ((0 : Nat) : Int) from rfl,e1]
  rfl
 ·unfold laws_heldEventS
  simp only [joinP]
  rw [laws_heldEventS_l1_eq y (by omega) (by have := hN; unfold Big at this; omega),show (0 : Int) = ((0 : Nat) : Int) from rfl,held_M_r N y y k 0 e3 h1 (by omega) (by omega),e4]
  rfl
theorem cs_le : ∀ (xs : List Event),(∀ e ∈ xs,Sm e) → cs xs ≤ 2000 * xs.length ∧ totL totEvent xs ≤ 6000 * xs.length + xs.length
 | [],_ => by simp [cs,totL]
 | x :: xs,h => by
  obtain ⟨h1,h2⟩ := cs_le xs (fun e he => h e (by simp [he]))
  obtain ⟨s1,s2,s3,s4⟩ := h x (by simp)
  have c1 : cs (x :: xs) = cst x + cs xs := by simp [cs]
  have c2 : cst x = 13 + x.Conf.length := rfl
  have c3 : totL totEvent (x :: xs) = 1 + totEvent x + totL totEvent xs := by simp [totL]; omega
  have c4 : totEvent x ≤ 4000 := by
   simp only [totEvent,totCommand,totL]
   have hz : ∀ l : List Int,(l.map fun _ => 0).sum = 0 := by
    intro l
    induction l with
    | nil => rfl
    | cons y l ih => rw [List.map_cons,List.sum_cons,ih]
   simp only [hz]
   omega
  rw [c1,c3,List.length_cons]
  omega
theorem holds (x0 : ByteArray) (w0 : x0.size ≤ maxLen) : ∃ N,laws_FnExactReadScript N x0 = some true := by
 obtain ⟨K,hK⟩ : ∃ K,Big K := ⟨1099511627777,by decide⟩
 refine ⟨K + 100,?_⟩
 have hN : Big (K + 100) := by have := hK; unfold Big at this ⊢; omega
 unfold laws_FnExactReadScript
 by_cases hb : x0.size ≤ 1048576
 ·rw [if_neg (by simp; omega)]
  obtain ⟨⟨n,conf,evs,f⟩,e1,e2,h1,h2,h3⟩ := script_both K hN x0 hb
  simp only at h1 h2 h3
  obtain ⟨b1,b2⟩ := cs_le evs h3
  obtain ⟨c,m1,m2,m3⟩ := mark_IntS (K + 100) hN conf 1 (by decide) (by omega)
  obtain ⟨es,q1,q2,q3⟩ := mark_M (K + 100) hN evs (1 + 1 * conf.length) (by omega) (by omega) (by omega)
  have g1 := eq_IntS (K + 100) conf (by rw [tot0]; omega) hN
  have g2 := eq_EventS (K + 100) evs (by omega) hN
  have n1 : ¬ ((1 : Int) + 1 * (conf.length : Int) < 0) := by omega
  have n2 : ¬ ((1 : Int) + 1 * (conf.length : Int) + (cs evs : Int) < 0) := by omega
  simp only [e1,e2,bO,g1,g2,m1,len_ok m2,q1,len_ok q2,m3,q3,bne_self_eq_false,Bool.false_eq_true,if_false,Bool.not_true,n1,n2,decide_false]
 ·rw [if_pos (by simp; omega)]
end Go.Proofs.YtmnoonjkiflonaaGreatDoor.Pe.FnExactReadScript
