import Derived.Test.YtmnoonjkiflonaaGreatDoorPeLib
import Derived.Test.YtmnoonjkiflonaaGreatDoorPeFFnExactReadScript7
namespace Go.Proofs.YtmnoonjkiflonaaGreatDoor.Pe.FnExactReadScript
open Go Go.RowKit
set_option linter.unusedVariables false
set_option linter.unusedSimpArgs false
set_option maxHeartbeats 40000000
theorem at_set {α : Type} {xs : List α} {k : Nat} (h : k < xs.length) (y : α) : at? (xs.set k y) (k : Int) = some y := by
 unfold at?
 rw [if_pos (by omega),Int.toNat_natCast,List.getElem?_set_self h]
theorem le_sum {α : Type} {f : α → Nat} {y : α} : ∀ {xs : List α},y ∈ xs → f y ≤ (xs.map f).sum
 | x :: xs,h => by
  rcases List.mem_cons.1 h with rfl | h
  ·simp
  ·have := le_sum (f := f) h
   simp only [List.map_cons,List.sum_cons]
   omega
theorem eq_IntS_r (N : Nat) (hN : Big N) (c : (List Int)) (hc : c.length ≤ 1099511627776) : ∀ (d k : Nat),c.length = k + d → laws_eqIntS_l1_r N c c (c.drop k) (k : Int) = some (.inr ())
 | 0,k,h => by rw [List.drop_eq_nil_of_le (by omega),laws_eqIntS_l1_r]
 | d + 1,k,h => by
  have hk : k < c.length := by omega
  rw [List.drop_eq_getElem_cons hk,laws_eqIntS_l1_r]
  simp only [Option.bind_some,at_lt hk,w64_succ (k := k) (by omega)]
  have := eq_IntS_r N hN c hc  d (k + 1) (by omega)
  simpa using this
theorem eq_IntS (N : Nat) (x : (List Int)) (h : (totL (fun _ => 0)) x ≤ 1099511627) (hN : Big N) : laws_eqIntS N x x = some true := by
 unfold laws_eqIntS
 have hl : x.length ≤ 1099511627 := by simp only [totL] at h; omega
 have := eq_IntS_r N hN x (by omega)  x.length 0 (by omega)
 simp only [List.drop_zero] at this
 simp only [joinP]
 rw [if_neg (by simp),laws_eqIntS_l1_eq x x (by omega) (by omega),show (0 : Int) = ((0 : Nat) : Int) from rfl,this]
 rfl
def totCommand (x : Command) : Nat := ByteArray.size x.Key + ByteArray.size x.Value + ByteArray.size x.Old
theorem eq_Command (N : Nat) (x : Command) (h : totCommand x ≤ 1099511627) (hN : Big N) : laws_eqCommand N x x = some true := by
 unfold laws_eqCommand
 simp only [totCommand] at h
 simp
def totEvent (x : Event) : Nat := totCommand x.Command + (totL (fun _ => 0)) x.Conf
theorem eq_Event (N : Nat) (x : Event) (h : totEvent x ≤ 1099511627) (hN : Big N) : laws_eqEvent N x x = some true := by
 unfold laws_eqEvent
 simp only [totEvent] at h
 simp [eq_Command N x.Command (by omega) hN,eq_IntS N x.Conf (by omega) hN]
theorem eq_EventS_r (N : Nat) (hN : Big N) (c : (List Event)) (hc : c.length ≤ 1099511627776) (w : ∀ y ∈ c,totEvent y ≤ 1099511627) : ∀ (d k : Nat),c.length = k + d → laws_eqEventS_l1_r N c c (c.drop k) (k : Int) = some (.inr ())
 | 0,k,h => by rw [List.drop_eq_nil_of_le (by omega),laws_eqEventS_l1_r]
 | d + 1,k,h => by
  have hk : k < c.length := by omega
  rw [List.drop_eq_getElem_cons hk,laws_eqEventS_l1_r]
  simp only [Option.bind_some,at_lt hk,w64_succ (k := k) (by omega)]
  have := eq_EventS_r N hN c hc w d (k + 1) (by omega)
  simpa [eq_Event N _ (w _ (List.getElem_mem hk)) hN] using this
theorem eq_EventS (N : Nat) (x : (List Event)) (h : (totL totEvent) x ≤ 1099511627) (hN : Big N) : laws_eqEventS N x x = some true := by
 unfold laws_eqEventS
 have hl : x.length ≤ 1099511627 := by simp only [totL] at h; omega
 have := eq_EventS_r N hN x (by omega) (fun y hy => Nat.le_trans (le_sum hy) (by simp only [totL] at h; omega)) x.length 0 (by omega)
 simp only [List.drop_zero] at this
 simp only [joinP]
 rw [if_neg (by simp),laws_eqEventS_l1_eq x x (by omega) (by omega),show (0 : Int) = ((0 : Nat) : Int) from rfl,this]
 rfl
def HP_IntS (N : Nat) (y : Int) (k : Int) : Prop := y = k
def HL_IntS (N : Nat) : Int → List Int → Prop
 | _,[] => True
 | k,y :: ys => HP_IntS N y k ∧ HL_IntS N (k + 1) ys
theorem HL_IntS_snoc {N : Nat} {y : Int} : ∀ {xs : List Int} {k : Int},HL_IntS N k xs → HP_IntS N y (k + 1 * xs.length) → HL_IntS N k (xs ++ [y])
 | [],k,_,h => by
  refine ⟨?_,trivial⟩
  simpa using h
 | x :: xs,k,h,h2 => by
  refine ⟨h.1,HL_IntS_snoc h.2 ?_⟩
  rw [show k + 1 + 1 * (xs.length : Int) = k + 1 * ((x :: xs).length : Int) by simp only [List.length_cons]; omega]
  exact h2
theorem mark_IntS_r (N : Nat) (hN : Big N) (k0 : Int) (h1 : 1 ≤ k0) : ∀ (d i m : Nat) (k : Int) (acc : (List Int)),acc.length = i + d → d < m → HL_IntS N k0 (acc.take i) → k = k0 + 1 * i → k0 + 1 * acc.length ≤ 1099511627 → ∃ acc',laws_markIntS_l1 N m k (i : Int) acc = some (k0 + 1 * acc.length,acc') ∧ acc.length = acc'.length ∧ HL_IntS N k0 acc'
 | 0,i,m,k,acc,hl,hm,hh,hk,hb => by
  obtain ⟨m,rfl⟩ : ∃ q,m = q + 1 := ⟨m - 1,by omega⟩
  rw [List.take_of_length_le (by omega)] at hh
  refine ⟨acc,?_,rfl,hh⟩
  rw [laws_markIntS_l1,if_neg (by simp; omega),hk,hl]
  rfl
 | d + 1,i,m,k,acc,hl,hm,hh,hk,hb => by
  obtain ⟨m,rfl⟩ : ∃ q,m = q + 1 := ⟨m - 1,by omega⟩
  have hlt : i < acc.length := by omega
  have w1 : w64 (k + 1) = k + 1 := w64_id (by omega) (by omega)
  rw [laws_markIntS_l1,if_pos (by simp; omega)]
  simp only [at_lt hlt,at_set hlt,Option.bind_some,List.set_set,Int.toNat_natCast,w64_succ (k := i) (by omega),w1]
  have hlen : (acc.set i (k)).length = acc.length := List.length_set
  obtain ⟨acc',e1,e2,e3⟩ := mark_IntS_r N hN k0 h1 d (i + 1) m (k + 1) (acc.set i (k)) (by rw [hlen]; omega) (by omega) (by
   rw [take_set_succ hlt]
   refine HL_IntS_snoc hh ?_
   rw [List.length_take,Nat.min_eq_left (by omega),← hk]
   exact rfl) (by omega) (by rw [hlen]; exact hb)
  rw [hlen] at e1 e2
  exact ⟨acc',e1,e2,e3⟩
theorem held_IntS_r (N : Nat) (c : (List Int)) : ∀ (ys : List Int) (k : Int) (i : Nat),HL_IntS N k ys → 1 ≤ k → k + 1 * ys.length ≤ 1099511627 → i + ys.length ≤ 1099511627 → laws_heldIntS_l1_r N c ys k (i : Int) = some (.inr (k + 1 * ys.length))
 | [],k,i,h,h1,h2,h3 => by
  rw [laws_heldIntS_l1_r]
  simp
 | y :: ys,k,i,h,h1,h2,h3 => by
  simp only [List.length_cons] at h2 h3
  obtain ⟨hy,hs⟩ := h
  have ih := held_IntS_r N c ys (k + 1) (i + 1) hs (by omega) (by omega) (by omega)
  have a0 : y = k := hy
  have w1 : w64 (k + 1) = k + 1 := w64_id (by omega) (by omega)
  rw [laws_heldIntS_l1_r]
  simp only [Option.bind_some,w64_succ (k := i) (by omega),a0,w1,bne_self_eq_false,decide_true,Bool.not_true,Bool.false_eq_true,if_false,ih,List.length_cons]
  congr 2
  omega
theorem mark_IntS (N : Nat) (hN : Big N) (x : (List Int)) (k : Int) (h1 : 1 ≤ k) (hb : k + 1 * x.length ≤ 1099511627) : ∃ y,laws_markIntS N x k = some (k + 1 * x.length,y) ∧ x.length = y.length ∧ laws_heldIntS N y k = some (k + 1 * x.length) := by
 obtain ⟨y,e1,e2,e3⟩ := mark_IntS_r N hN k h1 x.length 0 N k x (by omega) (by omega) trivial (by simp) hb
 refine ⟨y,?_,e2,?_⟩
 ·unfold laws_markIntS
  simp only [joinP]
  rw [show (0 : Int) = ((0 : Nat) : Int) from rfl,e1]
  rfl
 ·unfold laws_heldIntS
  simp only [joinP]
  rw [laws_heldIntS_l1_eq y (by omega) (by omega),show (0 : Int) = ((0 : Nat) : Int) from rfl,held_IntS_r N y y k 0 e3 h1 (by omega) (by omega),e2]
  rfl
end Go.Proofs.YtmnoonjkiflonaaGreatDoor.Pe.FnExactReadScript
