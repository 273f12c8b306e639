import Derived.Test.YteoobblblpljfaaDoorPeLib
import Derived.Test.YteoobblblpljfaaDoorPeFFnExactFormatDisk2
namespace Go.Proofs.YteoobblblpljfaaDoor.Pe.FnExactFormatDisk
open Go Go.RowKit
set_option linter.unusedVariables false
set_option linter.unusedSimpArgs false
set_option maxHeartbeats 40000000
theorem at_set {α : Type} {xs : List α} {k : Nat} (h : k < xs.length) (y : α) : at? (xs.set k y) (k : Int) = some y := by
 unfold at?
 rw [if_pos (by omega),Int.toNat_natCast,List.getElem?_set_self h]
theorem le_sum {α : Type} {f : α → Nat} {y : α} : ∀ {xs : List α},y ∈ xs → f y ≤ (xs.map f).sum
 | x :: xs,h => by
  rcases List.mem_cons.1 h with rfl | h
  ·simp
  ·have := le_sum (f := f) h
   simp only [List.map_cons,List.sum_cons]
   omega
theorem to_IntS_r (N : Nat) (c : (List Int)) : ∀ (tl : (List Int)) (k : Nat) (acc : (List Int)),acc.length = k + tl.length → k + tl.length ≤ 1099511627776 → laws_toIntS_l1_r N c tl (k : Int) acc = some (acc.take k ++ tl)
 | [],k,acc,h,hk => by
  rw [laws_toIntS_l1_r,List.append_nil,List.take_of_length_le (by simp at h; omega)]
 | y :: tl,k,acc,h,hk => by
  simp only [List.length_cons] at h hk
  rw [laws_toIntS_l1_r]
  have hlt : k < acc.length := by omega
  simp only [Option.bind_some,at_lt hlt,w64_succ (k := k) (by omega),Int.toNat_natCast]
  rw [to_IntS_r N c tl (k + 1) _ (by simp; omega) (by omega),take_set_succ hlt,List.append_assoc]
  rfl
theorem to_IntS (N : Nat) (x : (List Int)) (h : (totL (fun _ => 0)) x ≤ 1099511627) (hN : Big N) : laws_toIntS N x = some x := by
 unfold laws_toIntS
 have hl : x.length ≤ 1099511627 := by simp only [totL] at h; omega
 rw [mk_some (by omega)]
 simp only [Option.bind_some,joinP]
 rw [laws_toIntS_l1_eq x (by omega) (by omega),show (0 : Int) = ((0 : Nat) : Int) from rfl,to_IntS_r N x x 0 _ (by simp) (by omega) ]
 simp
def totFile (x : File) : Nat := ByteArray.size x.Name + ByteArray.size x.Text
theorem eq_File (N : Nat) (x : File) (h : totFile x ≤ 1099511627) (hN : Big N) : laws_eqFile N x x = some true := by
 unfold laws_eqFile
 simp only [totFile] at h
 simp
theorem eq_FileS_r (N : Nat) (hN : Big N) (c : (List File)) (hc : c.length ≤ 1099511627776) (w : ∀ y ∈ c,totFile y ≤ 1099511627) : ∀ (d k : Nat),c.length = k + d → laws_eqFileS_l1_r N c c (c.drop k) (k : Int) = some (.inr ())
 | 0,k,h => by rw [List.drop_eq_nil_of_le (by omega),laws_eqFileS_l1_r]
 | d + 1,k,h => by
  have hk : k < c.length := by omega
  rw [List.drop_eq_getElem_cons hk,laws_eqFileS_l1_r]
  simp only [Option.bind_some,at_lt hk,w64_succ (k := k) (by omega)]
  have := eq_FileS_r N hN c hc w d (k + 1) (by omega)
  simpa [eq_File N _ (w _ (List.getElem_mem hk)) hN] using this
theorem eq_FileS (N : Nat) (x : (List File)) (h : (totL totFile) x ≤ 1099511627) (hN : Big N) : laws_eqFileS N x x = some true := by
 unfold laws_eqFileS
 have hl : x.length ≤ 1099511627 := by simp only [totL] at h; omega
 have := eq_FileS_r N hN x (by omega) (fun y hy => Nat.le_trans (le_sum hy) (by simp only [totL] at h; omega)) x.length 0 (by omega)
 simp only [List.drop_zero] at this
 simp only [joinP]
 rw [if_neg (by simp),laws_eqFileS_l1_eq x x (by omega) (by omega),show (0 : Int) = ((0 : Nat) : Int) from rfl,this]
 rfl
def totDisk (x : Disk) : Nat := (totL totFile) x.Files
theorem eq_Disk (N : Nat) (x : Disk) (h : totDisk x ≤ 1099511627) (hN : Big N) : laws_eqDisk N x x = some true := by
 unfold laws_eqDisk
 simp only [totDisk] at h
 simp [eq_FileS N x.Files (by omega) hN]
theorem eq_IntS_r (N : Nat) (hN : Big N) (c : (List Int)) (hc : c.length ≤ 1099511627776) : ∀ (d k : Nat),c.length = k + d → laws_eqIntS_l1_r N c c (c.drop k) (k : Int) = some (.inr ())
 | 0,k,h => by rw [List.drop_eq_nil_of_le (by omega),laws_eqIntS_l1_r]
 | d + 1,k,h => by
  have hk : k < c.length := by omega
  rw [List.drop_eq_getElem_cons hk,laws_eqIntS_l1_r]
  simp only [Option.bind_some,at_lt hk,w64_succ (k := k) (by omega)]
  have := eq_IntS_r N hN c hc  d (k + 1) (by omega)
  simpa using this
theorem eq_IntS (N : Nat) (x : (List Int)) (h : (totL (fun _ => 0)) x ≤ 1099511627) (hN : Big N) : laws_eqIntS N x x = some true := by
 unfold laws_eqIntS
 have hl : x.length ≤ 1099511627 := by simp only [totL] at h; omega
 have := eq_IntS_r N hN x (by omega)  x.length 0 (by omega)
 simp only [List.drop_zero] at this
 simp only [joinP]
 rw [if_neg (by simp),laws_eqIntS_l1_eq x x (by omega) (by omega),show (0 : Int) = ((0 : Nat) : Int) from rfl,this]
 rfl
theorem strOf_size (n : Int) : (strOf ([n] : List Int)).size = 1 := rfl
theorem mark_text_r (N : Nat) : ∀ (m : Nat) (k : Int) (out : ByteArray),0 ≤ k → k < m → out.size + k ≤ 1099511627776 → ∃ t,laws_markText_l1 N m k out = some t ∧ (t.size : Int) ≤ out.size + k
 | 0,k,out,h0,hm,hs => by omega
 | m + 1,k,out,h0,hm,hs => by
  rw [laws_markText_l1]
  by_cases hk : k > 0
  ·rw [if_pos (by simpa using hk)]
   simp only [intD]
   rw [if_neg (by decide),if_neg (by decide)]
   simp only [Option.bind_some]
   have hq : IntKind.i64.wrap (k.tdiv 10) = k / 10 := by
    rw [Int.tdiv_eq_ediv_of_nonneg h0]
    exact w64_id (by omega) (by omega)
   rw [hq,scat_ok (by rw [strOf_size]; omega),Option.bind_some]
   obtain ⟨t,e1,e2⟩ := mark_text_r N m (k / 10) (strOf ([IntKind.wrap .u8 (w64 ((48 : Int) + k.tmod 10))] : List Int) ++ out) (by omega) (by omega) (by rw [ByteArray.size_append,strOf_size]; omega)
   refine ⟨t,e1,?_⟩
   rw [ByteArray.size_append,strOf_size] at e2
   omega
  ·rw [if_neg (by simpa using hk)]
   exact ⟨out,rfl,by omega⟩
theorem mark_text (N : Nat) (hN : Big N) (k : Int) (h0 : 0 ≤ k) (hk : k ≤ 1099511627) : ∃ t,laws_markText N k = some t := by
 unfold laws_markText
 by_cases h : k ≤ 0
 ·exact ⟨_,by rw [if_pos (by simpa using h)]⟩
 ·rw [if_neg (by simpa using h)]
  simp only [joinP]
  obtain ⟨t,e1,e2⟩ := mark_text_r N N k ⟨#[]⟩ h0 (by omega) (by
   have : (⟨#[]⟩ : ByteArray).size = 0 := rfl
   omega)
  have hz : (⟨#[]⟩ : ByteArray).size = 0 := rfl
  have ho : (⟨#[109]⟩ : ByteArray).size = 1 := rfl
  rw [e1,Option.bind_some,scat_ok (by omega)]
  exact ⟨_,rfl⟩
def HP_FileS (N : Nat) (y : File) (k : Int) : Prop := laws_markText N (k) = some y.Name ∧ laws_markText N (k + 1) = some y.Text
def HL_FileS (N : Nat) : Int → List File → Prop
 | _,[] => True
 | k,y :: ys => HP_FileS N y k ∧ HL_FileS N (k + 1 + 1) ys
theorem HL_FileS_snoc {N : Nat} {y : File} : ∀ {xs : List File} {k : Int},HL_FileS N k xs → HP_FileS N y (k + 2 * xs.length) → HL_FileS N k (xs ++ [y])
 | [],k,_,h => by
  refine ⟨?_,trivial⟩
  simpa using h
 | x :: xs,k,h,h2 => by
  refine ⟨h.1,HL_FileS_snoc h.2 ?_⟩
  rw [show k + 1 + 1 + 2 * (xs.length : Int) = k + 2 * ((x :: xs).length : Int) by simp only [List.length_cons]; omega]
  exact h2
theorem mark_FileS_r (N : Nat) (hN : Big N) (k0 : Int) (h1 : 1 ≤ k0) : ∀ (d i m : Nat) (k : Int) (acc : (List File)),acc.length = i + d → d < m → HL_FileS N k0 (acc.take i) → k = k0 + 2 * i → k0 + 2 * acc.length ≤ 1099511627 → ∃ acc',laws_markFileS_l1 N m k (i : Int) acc = some (k0 + 2 * acc.length,acc') ∧ acc.length = acc'.length ∧ HL_FileS N k0 acc'
 | 0,i,m,k,acc,hl,hm,hh,hk,hb => by
  obtain ⟨m,rfl⟩ : ∃ q,m = q + 1 := ⟨m - 1,by omega⟩
  rw [List.take_of_length_le (by omega)] at hh
  refine ⟨acc,?_,rfl,hh⟩
  rw [laws_markFileS_l1,if_neg (by simp; omega),hk,hl]
  rfl
 | d + 1,i,m,k,acc,hl,hm,hh,hk,hb => by
  obtain ⟨m,rfl⟩ : ∃ q,m = q + 1 := ⟨m - 1,by omega⟩
  have hlt : i < acc.length := by omega
  obtain ⟨t0,ht0⟩ := mark_text N hN (k) (by omega) (by omega)
  obtain ⟨t1,ht1⟩ := mark_text N hN (k + 1) (by omega) (by omega)
  have w1 : w64 (k + 1) = k + 1 := w64_id (by omega) (by omega)
  have w2 : w64 (k + 1 + 1) = k + 1 + 1 := w64_id (by omega) (by omega)
  rw [laws_markFileS_l1,if_pos (by simp; omega)]
  simp only [at_lt hlt,at_set hlt,Option.bind_some,List.set_set,Int.toNat_natCast,w64_succ (k := i) (by omega),w1,w2,ht0,ht1]
  have hlen : (acc.set i ((File.mk t0 t1))).length = acc.length := List.length_set
  obtain ⟨acc',e1,e2,e3⟩ := mark_FileS_r N hN k0 h1 d (i + 1) m (k + 1 + 1) (acc.set i ((File.mk t0 t1))) (by rw [hlen]; omega) (by omega) (by
   rw [take_set_succ hlt]
   refine HL_FileS_snoc hh ?_
   rw [List.length_take,Nat.min_eq_left (by omega),← hk]
   exact ⟨ht0,ht1⟩) (by omega) (by rw [hlen]; exact hb)
  rw [hlen] at e1 e2
  exact ⟨acc',e1,e2,e3⟩
theorem held_FileS_r (N : Nat) (c : (List File)) : ∀ (ys : List File) (k : Int) (i : Nat),HL_FileS N k ys → 1 ≤ k → k + 2 * ys.length ≤ 1099511627 → i + ys.length ≤ 1099511627 → laws_heldFileS_l1_r N c ys k (i : Int) = some (.inr (k + 2 * ys.length))
 | [],k,i,h,h1,h2,h3 => by
  rw [laws_heldFileS_l1_r]
  simp
 | y :: ys,k,i,h,h1,h2,h3 => by
  simp only [List.length_cons] at h2 h3
  obtain ⟨hy,hs⟩ := h
  have ih := held_FileS_r N c ys (k + 1 + 1) (i + 1) hs (by omega) (by omega) (by omega)
  obtain ⟨a0,a1⟩ := hy
  have w1 : w64 (k + 1) = k + 1 := w64_id (by omega) (by omega)
  have w2 : w64 (k + 1 + 1) = k + 1 + 1 := w64_id (by omega) (by omega)
  rw [laws_heldFileS_l1_r]
  simp only [Option.bind_some,w64_succ (k := i) (by omega),a0,a1,w1,w2,bne_self_eq_false,decide_true,Bool.not_true,Bool.false_eq_true,if_false,ih,List.length_cons]
  congr 2
  omega
theorem mark_FileS (N : Nat) (hN : Big N) (x : (List File)) (k : Int) (h1 : 1 ≤ k) (hb : k + 2 * x.length ≤ 1099511627) : ∃ y,laws_markFileS N x k = some (k + 2 * x.length,y) ∧ x.length = y.length ∧ laws_heldFileS N y k = some (k + 2 * x.length) := by
 obtain ⟨y,e1,e2,e3⟩ := mark_FileS_r N hN k h1 x.length 0 N k x (by omega) (by omega) trivial (by simp) hb
 refine ⟨y,?_,e2,?_⟩
 ·unfold laws_markFileS
  simp only [joinP]
  rw [show (0 : Int) = ((0 : Nat) : Int) from rfl,e1]
  rfl
 ·unfold laws_heldFileS
  simp only [joinP]
  rw [laws_heldFileS_l1_eq y (by omega) (by omega),show (0 : Int) = ((0 : Nat) : Int) from rfl,held_FileS_r N y y k 0 e3 h1 (by omega) (by omega),e2]
  rfl
end Go.Proofs.YteoobblblpljfaaDoor.Pe.FnExactFormatDisk
