import Derived.Test.YtlkdjdfcihjplaaGreatDoorPeLib
import Derived.Test.YtlkdjdfcihjplaaGreatDoorPeFFnExactFold4
namespace Go.Proofs.YtlkdjdfcihjplaaGreatDoor.Pe.FnExactFold
open Go Go.RowKit
set_option linter.unusedVariables false
set_option linter.unusedSimpArgs false
set_option maxHeartbeats 40000000
theorem at_set {α : Type} {xs : List α} {k : Nat} (h : k < xs.length) (y : α) : at? (xs.set k y) (k : Int) = some y := by
 unfold at?
 rw [if_pos (by omega),Int.toNat_natCast,List.getElem?_set_self h]
theorem le_sum {α : Type} {f : α → Nat} {y : α} : ∀ {xs : List α},y ∈ xs → f y ≤ (xs.map f).sum
 | x :: xs,h => by
  rcases List.mem_cons.1 h with rfl | h
  ·simp
  ·have := le_sum (f := f) h
   simp only [List.map_cons,List.sum_cons]
   omega
def wfEntry (x : Entry) : Prop := (WI .i64 x.Term) ∧ (WI .i64 x.Kind) ∧ (x.Data.size ≤ maxLen)
def wfApplied (x : Applied) : Prop := (WI .i64 x.Node) ∧ (WI .i64 x.Term) ∧ (WI .i64 x.Index) ∧ (wfEntry x.Entry)
def totEntry (x : Entry) : Nat := ByteArray.size x.Data
theorem sz_Entry (N : Nat) (x : Entry) (l : Int) (h0 : 0 ≤ l) (h1 : l ≤ 1099511627776) (w : wfEntry x) (hN : Big N) : laws_szEntry N x l = some (if (totEntry x : Int) ≤ l then l - totEntry x else -1) := by
 have hM := maxLen_le
 unfold laws_szEntry
 unfold wfEntry at w
 have e1 : w64 (l - (x.Data.size : Int)) = l - x.Data.size := w64_id (by have := w.2.2; omega) (by omega)
 rw [e1]
 by_cases c1 : l - (x.Data.size : Int) < 0
 ·rw [if_pos (by simpa using c1),if_neg (by simp only [totEntry]; omega)]
 rw [if_neg (by simpa using c1)]
 rw [if_pos (by simp only [totEntry]; omega)]
 first
  | (simp only [totEntry]; done)
  | (simp only [totEntry]; congr 1; done)
  | (simp only [totEntry]; congr 1; omega)
def totApplied (x : Applied) : Nat := totEntry x.Entry
theorem sz_Applied (N : Nat) (x : Applied) (l : Int) (h0 : 0 ≤ l) (h1 : l ≤ 1099511627776) (w : wfApplied x) (hN : Big N) : laws_szApplied N x l = some (if (totApplied x : Int) ≤ l then l - totApplied x else -1) := by
 have hM := maxLen_le
 unfold laws_szApplied
 unfold wfApplied at w
 rw [sz_Entry N x.Entry l (by omega) (by omega) w.2.2.2 hN]
 simp only [Option.bind_some]
 by_cases c1 : ¬ ((totEntry x.Entry : Int) ≤ l)
 ·rw [if_neg c1,if_pos (by decide),if_neg (by simp only [totApplied]; omega)]
 replace c1 := Classical.not_not.1 c1
 rw [if_pos c1,if_neg (by simp; omega)]
 rw [if_pos (by simp only [totApplied]; omega)]
 first
  | (simp only [totApplied]; done)
  | (simp only [totApplied]; congr 1; done)
  | (simp only [totApplied]; congr 1; omega)
theorem sz_AppliedS_r (N : Nat) (hN : Big N) (c : (List Applied)) : ∀ (tl : (List Applied)) (l i : Int),0 ≤ l → l ≤ 1099511627776 → (∀ y ∈ tl,wfApplied y) → laws_szAppliedS_l1_r N c tl l i = some (if ((tl.map totApplied).sum : Int) ≤ l then .inr (l - (tl.map totApplied).sum) else .inl (-1))
 | [],l,i,h0,h1,w => by simp [laws_szAppliedS_l1_r,h0]
 | y :: tl,l,i,h0,h1,w => by
  rw [laws_szAppliedS_l1_r]
  simp only [Option.bind_some,List.map_cons,List.sum_cons]
  rw [sz_Applied N y l h0 h1 (w y (by simp)) hN]
  simp only [Option.bind_some]
  by_cases c1 : ¬ ((totApplied y : Int) ≤ l)
  ·rw [if_neg c1,if_pos (by decide),if_neg (by omega)]
  replace c1 := Classical.not_not.1 c1
  rw [if_pos c1,if_neg (by simp; omega),sz_AppliedS_r N hN c tl _ _ (by omega) (by omega) (fun z hz => w z (by simp [hz]))]
  by_cases c2 : ((tl.map totApplied).sum : Int) ≤ l - totApplied y
  ·rw [if_pos c2,if_pos (by omega)]
   congr 2 <;> omega
  ·rw [if_neg c2,if_neg (by omega)]
theorem sz_AppliedS (N : Nat) (x : (List Applied)) (l : Int) (h0 : 0 ≤ l) (h1 : l ≤ 1099511627776) (w : x.length ≤ maxLen ∧ ∀ y ∈ x,wfApplied y) (hN : Big N) : laws_szAppliedS N x l = some (if ((totL totApplied) x : Int) ≤ l then l - (totL totApplied) x else -1) := by
 have hM := maxLen_le
 unfold laws_szAppliedS
 have e1 : w64 (l - (x.length : Int)) = l - x.length := w64_id (by have := w.1; omega) (by omega)
 rw [e1]
 by_cases c : l - (x.length : Int) < 0
 ·rw [if_pos (by simpa using c),if_neg (by simp only [totL]; omega)]
 rw [if_neg (by simpa using c)]
 simp only [joinP]
 rw [laws_szAppliedS_l1_eq x (by omega) (by omega),sz_AppliedS_r N hN x x _ _ (by omega) (by omega) w.2]
 simp only [Option.bind_some]
 by_cases c2 : ((x.map totApplied).sum : Int) ≤ l - x.length
 ·rw [if_pos c2,if_pos (by simp only [totL]; omega)]
  simp only [Sum.elim_inr,totL]
  congr 1 <;> omega
 ·rw [if_neg c2,if_neg (by simp only [totL]; omega)]
  rfl
theorem to_Entry (N : Nat) (x : Entry) (h : totEntry x ≤ 1099511627) (hN : Big N) : laws_toEntry N x = some x := by
 unfold laws_toEntry
 simp only [totEntry] at h
 try rfl
theorem to_Applied (N : Nat) (x : Applied) (h : totApplied x ≤ 1099511627) (hN : Big N) : laws_toApplied N x = some x := by
 unfold laws_toApplied
 simp only [totApplied] at h
 rw [to_Entry N x.Entry (by omega) hN]
 simp only [Option.bind_some]
 try rfl
theorem to_AppliedS_r (N : Nat) (hN : Big N) (c : (List Applied)) : ∀ (tl : (List Applied)) (k : Nat) (acc : (List Applied)),acc.length = k + tl.length → k + tl.length ≤ 1099511627776 → (∀ y ∈ tl,totApplied y ≤ 1099511627) → laws_toAppliedS_l1_r N c tl (k : Int) acc = some (acc.take k ++ tl)
 | [],k,acc,h,hk,w => by
  rw [laws_toAppliedS_l1_r,List.append_nil,List.take_of_length_le (by simp at h; omega)]
 | y :: tl,k,acc,h,hk,w => by
  simp only [List.length_cons] at h hk
  rw [laws_toAppliedS_l1_r]
  have hlt : k < acc.length := by omega
  simp only [Option.bind_some,to_Applied N y (w y (by simp)) hN,at_lt hlt,w64_succ (k := k) (by omega),Int.toNat_natCast]
  rw [to_AppliedS_r N hN c tl (k + 1) _ (by simp; omega) (by omega) (fun z hz => w z (by simp [hz])),take_set_succ hlt,List.append_assoc]
  rfl
theorem to_AppliedS (N : Nat) (x : (List Applied)) (h : (totL totApplied) x ≤ 1099511627) (hN : Big N) : laws_toAppliedS N x = some x := by
 unfold laws_toAppliedS
 have hl : x.length ≤ 1099511627 := by simp only [totL] at h; omega
 rw [mk_some (by omega)]
 simp only [Option.bind_some,joinP]
 rw [laws_toAppliedS_l1_eq x (by omega) (by omega),show (0 : Int) = ((0 : Nat) : Int) from rfl,to_AppliedS_r N hN x x 0 _ (by simp) (by omega) (fun y hy => Nat.le_trans (le_sum hy) (by simp only [totL] at h; omega))]
 simp
def totPair (x : Pair) : Nat := ByteArray.size x.Key + ByteArray.size x.Value
theorem eq_Pair (N : Nat) (x : Pair) (h : totPair x ≤ 1099511627) (hN : Big N) : laws_eqPair N x x = some true := by
 unfold laws_eqPair
 simp only [totPair] at h
 simp
theorem eq_PairS_r (N : Nat) (hN : Big N) (c : (List Pair)) (hc : c.length ≤ 1099511627776) (w : ∀ y ∈ c,totPair y ≤ 1099511627) : ∀ (d k : Nat),c.length = k + d → laws_eqPairS_l1_r N c c (c.drop k) (k : Int) = some (.inr ())
 | 0,k,h => by rw [List.drop_eq_nil_of_le (by omega),laws_eqPairS_l1_r]
 | d + 1,k,h => by
  have hk : k < c.length := by omega
  rw [List.drop_eq_getElem_cons hk,laws_eqPairS_l1_r]
  simp only [Option.bind_some,at_lt hk,w64_succ (k := k) (by omega)]
  have := eq_PairS_r N hN c hc w d (k + 1) (by omega)
  simpa [eq_Pair N _ (w _ (List.getElem_mem hk)) hN] using this
theorem eq_PairS (N : Nat) (x : (List Pair)) (h : (totL totPair) x ≤ 1099511627) (hN : Big N) : laws_eqPairS N x x = some true := by
 unfold laws_eqPairS
 have hl : x.length ≤ 1099511627 := by simp only [totL] at h; omega
 have := eq_PairS_r N hN x (by omega) (fun y hy => Nat.le_trans (le_sum hy) (by simp only [totL] at h; omega)) x.length 0 (by omega)
 simp only [List.drop_zero] at this
 simp only [joinP]
 rw [if_neg (by simp),laws_eqPairS_l1_eq x x (by omega) (by omega),show (0 : Int) = ((0 : Nat) : Int) from rfl,this]
 rfl
theorem eq_Entry (N : Nat) (x : Entry) (h : totEntry x ≤ 1099511627) (hN : Big N) : laws_eqEntry N x x = some true := by
 unfold laws_eqEntry
 simp only [totEntry] at h
 simp
theorem eq_Applied (N : Nat) (x : Applied) (h : totApplied x ≤ 1099511627) (hN : Big N) : laws_eqApplied N x x = some true := by
 unfold laws_eqApplied
 simp only [totApplied] at h
 simp [eq_Entry N x.Entry (by omega) hN]
theorem eq_AppliedS_r (N : Nat) (hN : Big N) (c : (List Applied)) (hc : c.length ≤ 1099511627776) (w : ∀ y ∈ c,totApplied y ≤ 1099511627) : ∀ (d k : Nat),c.length = k + d → laws_eqAppliedS_l1_r N c c (c.drop k) (k : Int) = some (.inr ())
 | 0,k,h => by rw [List.drop_eq_nil_of_le (by omega),laws_eqAppliedS_l1_r]
 | d + 1,k,h => by
  have hk : k < c.length := by omega
  rw [List.drop_eq_getElem_cons hk,laws_eqAppliedS_l1_r]
  simp only [Option.bind_some,at_lt hk,w64_succ (k := k) (by omega)]
  have := eq_AppliedS_r N hN c hc w d (k + 1) (by omega)
  simpa [eq_Applied N _ (w _ (List.getElem_mem hk)) hN] using this
theorem eq_AppliedS (N : Nat) (x : (List Applied)) (h : (totL totApplied) x ≤ 1099511627) (hN : Big N) : laws_eqAppliedS N x x = some true := by
 unfold laws_eqAppliedS
 have hl : x.length ≤ 1099511627 := by simp only [totL] at h; omega
 have := eq_AppliedS_r N hN x (by omega) (fun y hy => Nat.le_trans (le_sum hy) (by simp only [totL] at h; omega)) x.length 0 (by omega)
 simp only [List.drop_zero] at this
 simp only [joinP]
 rw [if_neg (by simp),laws_eqAppliedS_l1_eq x x (by omega) (by omega),show (0 : Int) = ((0 : Nat) : Int) from rfl,this]
 rfl
theorem strOf_size (n : Int) : (strOf ([n] : List Int)).size = 1 := rfl
theorem mark_text_r (N : Nat) : ∀ (m : Nat) (k : Int) (out : ByteArray),0 ≤ k → k < m → out.size + k ≤ 1099511627776 → ∃ t,laws_markText_l1 N m k out = some t ∧ (t.size : Int) ≤ out.size + k
 | 0,k,out,h0,hm,hs => by omega
 | m + 1,k,out,h0,hm,hs => by
  rw [laws_markText_l1]
  by_cases hk : k > 0
  ·rw [if_pos (by simpa using hk)]
   simp only [intD]
   rw [if_neg (by decide),if_neg (by decide)]
   simp only [Option.bind_some]
   have hq : IntKind.i64.wrap (k.tdiv 10) = k / 10 := by
    rw [Int.tdiv_eq_ediv_of_nonneg h0]
    exact w64_id (by omega) (by omega)
   rw [hq,scat_ok (by rw [strOf_size]; omega),Option.bind_some]
   obtain ⟨t,e1,e2⟩ := mark_text_r N m (k / 10) (strOf ([IntKind.wrap .u8 (w64 ((48 : Int) + k.tmod 10))] : List Int) ++ out) (by omega) (by omega) (by rw [ByteArray.size_append,strOf_size]; omega)
   refine ⟨t,e1,?_⟩
   rw [ByteArray.size_append,strOf_size] at e2
   omega
  ·rw [if_neg (by simpa using hk)]
   exact ⟨out,rfl,by omega⟩
theorem mark_text (N : Nat) (hN : Big N) (k : Int) (h0 : 0 ≤ k) (hk : k ≤ 1099511627) : ∃ t,laws_markText N k = some t := by
 unfold laws_markText
 by_cases h : k ≤ 0
 ·exact ⟨_,by rw [if_pos (by simpa using h)]⟩
 ·rw [if_neg (by simpa using h)]
  simp only [joinP]
  obtain ⟨t,e1,e2⟩ := mark_text_r N N k ⟨#[]⟩ h0 (by omega) (by
   have : (⟨#[]⟩ : ByteArray).size = 0 := rfl
   omega)
  have hz : (⟨#[]⟩ : ByteArray).size = 0 := rfl
  have ho : (⟨#[109]⟩ : ByteArray).size = 1 := rfl
  rw [e1,Option.bind_some,scat_ok (by omega)]
  exact ⟨_,rfl⟩
def HP_PairS (N : Nat) (y : Pair) (k : Int) : Prop := laws_markText N (k) = some y.Key ∧ laws_markText N (k + 1) = some y.Value
def HL_PairS (N : Nat) : Int → List Pair → Prop
 | _,[] => True
 | k,y :: ys => HP_PairS N y k ∧ HL_PairS N (k + 1 + 1) ys
theorem HL_PairS_snoc {N : Nat} {y : Pair} : ∀ {xs : List Pair} {k : Int},HL_PairS N k xs → HP_PairS N y (k + 2 * xs.length) → HL_PairS N k (xs ++ [y])
 | [],k,_,h => by
  refine ⟨?_,trivial⟩
  simpa using h
 | x :: xs,k,h,h2 => by
  refine ⟨h.1,HL_PairS_snoc h.2 ?_⟩
  rw [show k + 1 + 1 + 2 * (xs.length : Int) = k + 2 * ((x :: xs).length : Int) by simp only [List.length_cons]; omega]
  exact h2
theorem mark_PairS_r (N : Nat) (hN : Big N) (k0 : Int) (h1 : 1 ≤ k0) : ∀ (d i m : Nat) (k : Int) (acc : (List Pair)),acc.length = i + d → d < m → HL_PairS N k0 (acc.take i) → k = k0 + 2 * i → k0 + 2 * acc.length ≤ 1099511627 → ∃ acc',laws_markPairS_l1 N m k (i : Int) acc = some (k0 + 2 * acc.length,acc') ∧ acc.length = acc'.length ∧ HL_PairS N k0 acc'
 | 0,i,m,k,acc,hl,hm,hh,hk,hb => by
  obtain ⟨m,rfl⟩ : ∃ q,m = q + 1 := ⟨m - 1,by omega⟩
  rw [List.take_of_length_le (by omega)] at hh
  refine ⟨acc,?_,rfl,hh⟩
  rw [laws_markPairS_l1,if_neg (by simp; omega),hk,hl]
  rfl
 | d + 1,i,m,k,acc,hl,hm,hh,hk,hb => by
  obtain ⟨m,rfl⟩ : ∃ q,m = q + 1 := ⟨m - 1,by omega⟩
  have hlt : i < acc.length := by omega
  obtain ⟨t0,ht0⟩ := mark_text N hN (k) (by omega) (by omega)
  obtain ⟨t1,ht1⟩ := mark_text N hN (k + 1) (by omega) (by omega)
  have w1 : w64 (k + 1) = k + 1 := w64_id (by omega) (by omega)
  have w2 : w64 (k + 1 + 1) = k + 1 + 1 := w64_id (by omega) (by omega)
  rw [laws_markPairS_l1,if_pos (by simp; omega)]
  simp only [at_lt hlt,at_set hlt,Option.bind_some,List.set_set,Int.toNat_natCast,w64_succ (k := i) (by omega),w1,w2,ht0,ht1]
  have hlen : (acc.set i ((Pair.mk t0 t1))).length = acc.length := List.length_set
  obtain ⟨acc',e1,e2,e3⟩ := mark_PairS_r N hN k0 h1 d (i + 1) m (k + 1 + 1) (acc.set i ((Pair.mk t0 t1))) (by rw [hlen]; omega) (by omega) (by
   rw [take_set_succ hlt]
   refine HL_PairS_snoc hh ?_
   rw [List.length_take,Nat.min_eq_left (by omega),← hk]
   exact ⟨ht0,ht1⟩) (by omega) (by rw [hlen]; exact hb)
  rw [hlen] at e1 e2
  exact ⟨acc',e1,e2,e3⟩
theorem held_PairS_r (N : Nat) (c : (List Pair)) : ∀ (ys : List Pair) (k : Int) (i : Nat),HL_PairS N k ys → 1 ≤ k → k + 2 * ys.length ≤ 1099511627 → i + ys.length ≤ 1099511627 → laws_heldPairS_l1_r N c ys k (i : Int) = some (.inr (k + 2 * ys.length))
 | [],k,i,h,h1,h2,h3 => by
  rw [laws_heldPairS_l1_r]
  simp
 | y :: ys,k,i,h,h1,h2,h3 => by
  simp only [List.length_cons] at h2 h3
  obtain ⟨hy,hs⟩ := h
  have ih := held_PairS_r N c ys (k + 1 + 1) (i + 1) hs (by omega) (by omega) (by omega)
  obtain ⟨a0,a1⟩ := hy
  have w1 : w64 (k + 1) = k + 1 := w64_id (by omega) (by omega)
  have w2 : w64 (k + 1 + 1) = k + 1 + 1 := w64_id (by omega) (by omega)
  rw [laws_heldPairS_l1_r]
  simp only [Option.bind_some,w64_succ (k := i) (by omega),a0,a1,w1,w2,bne_self_eq_false,decide_true,Bool.not_true,Bool.false_eq_true,if_false,ih,List.length_cons]
  congr 2
  omega
theorem mark_PairS (N : Nat) (hN : Big N) (x : (List Pair)) (k : Int) (h1 : 1 ≤ k) (hb : k + 2 * x.length ≤ 1099511627) : ∃ y,laws_markPairS N x k = some (k + 2 * x.length,y) ∧ x.length = y.length ∧ laws_heldPairS N y k = some (k + 2 * x.length) := by
 obtain ⟨y,e1,e2,e3⟩ := mark_PairS_r N hN k h1 x.length 0 N k x (by omega) (by omega) trivial (by simp) hb
 refine ⟨y,?_,e2,?_⟩
 ·unfold laws_markPairS
  simp only [joinP]
  rw [show (0 : Int) = ((0 : Nat) : Int) from rfl,e1]
  rfl
 ·unfold laws_heldPairS
  simp only [joinP]
  rw [laws_heldPairS_l1_eq y (by omega) (by omega),show (0 : Int) = ((0 : Nat) : Int) from rfl,held_PairS_r N y y k 0 e3 h1 (by omega) (by omega),e2]
  rfl
end Go.Proofs.YtlkdjdfcihjplaaGreatDoor.Pe.FnExactFold
