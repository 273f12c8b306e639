import Derived.Test.YthfjkhlgkjgkjaaGreatDoorPureFnExactFoldedA
import Derived.KernelRfl
import Derived.Lib.ItoaNum
import Derived.Lib.ItoaLen
import Derived.Lib.AtoiAll
import Derived.Lib.AtoiTie
namespace Go.Proofs.YthfjkhlgkjgkjaaGreatDoor.Pe.FnExactFolded
open Go Go.RowKit
set_option linter.unusedVariables false
set_option linter.unusedSimpArgs false
set_option maxHeartbeats 4000000
def frm (N : Nat) (t : ByteArray) : ByteArray := encT t.size ++ fourN N t ++ t
theorem four_size (N : Nat) (hN : Big N) (t : ByteArray) (ht : t.size ≤ 1099511627) : (fourN N t).size = 4 := by
 obtain ⟨_,_,_,_,_,_,_,h,_⟩ := four_ok N hN t ht
 exact h
theorem frm_size (N : Nat) (hN : Big N) (t : ByteArray) (ht : t.size ≤ 1099511627) : (frm N t).size = (enc t.size).length + 4 + t.size := by
 unfold frm
 rw [ByteArray.size_append,ByteArray.size_append,encT_size,four_size N hN t ht]
theorem frame_spec (N : Nat) (hN : Big N) (t : ByteArray) (ht : t.size ≤ 1099511627) : spec_Frame N t = some (if 1 ≤ t.size ∧ t.size ≤ 9000 then (frm N t,true) else (⟨#[]⟩,false)) := by
 unfold spec_Frame
 rw [in_eq,bO]
 by_cases h : 1 ≤ t.size ∧ t.size ≤ 9000
 ·have e : decide ((1 : Int) ≤ (t.size : Int) ∧ (t.size : Int) ≤ 9000) = true := by simp only [decide_eq_true_eq]; omega
  obtain ⟨s,a,b,c,e1,_,e3,e4,_⟩ := four_ok N hN t ht
  have z := encT_size t.size
  have y := enc_len5 (n := t.size) (by omega)
  rw [e,if_pos h]
  simp only [Bool.not_true,Bool.false_eq_true,↓reduceIte]
  rw [var_spec N hN t.size (by omega),bO,e1,bO,e3,bO,scat_le (by omega),bO,scat_le (by rw [ByteArray.size_append]; omega),bO]
  rfl
 ·have e : decide ((1 : Int) ≤ (t.size : Int) ∧ (t.size : Int) ≤ 9000) = false := by simp only [decide_eq_false_iff_not]; omega
  rw [e,if_neg h]
  rfl
theorem frame_impl (N : Nat) (hN : Big N) (t : ByteArray) (ht : t.size ≤ 1099511627) : impl_Frame N t = some (if 1 ≤ t.size ∧ t.size ≤ 9000 then (frm N t,true) else (⟨#[]⟩,false)) := by
 unfold impl_Frame
 rw [within_eq,bO]
 by_cases h : 1 ≤ t.size ∧ t.size ≤ 9000
 ·have e : decide ((1 : Int) ≤ (t.size : Int) ∧ (t.size : Int) ≤ 9000) = true := by simp only [decide_eq_true_eq]; omega
  obtain ⟨s,a,b,c,_,e1,_,e4,ea,eb,ec,e5⟩ := four_ok N hN t ht
  have z := encT_size t.size
  have y := enc_len5 (n := t.size) (by omega)
  rw [e,if_pos h]
  simp only [Bool.not_true,Bool.false_eq_true,↓reduceIte]
  rw [var_impl N hN t.size (by omega),if_pos (by omega)]
  simp only [e1,ea,eb,ec,bO,e5]
  rw [scat_le (by omega),bO,scat_le (by rw [ByteArray.size_append]; omega),bO]
  rfl
 ·have e : decide ((1 : Int) ≤ (t.size : Int) ∧ (t.size : Int) ≤ 9000) = false := by simp only [decide_eq_false_iff_not]; omega
  rw [e,if_neg h]
  rfl
def chain {α : Type} (ok : Option α → α → Bool) : Option α → List α → Bool
 | _,[] => true
 | o,x :: xs => ok o x && chain ok (some x) xs
def oks (b : Bool) : Bool ⊕ Unit := match b with | true => .inr () | false => .inl false
theorem take_last {α : Type} {xs : List α} {k : Nat} (hk : k < xs.length) : (xs.take (k + 1)).getLast? = some xs[k] := by
 rw [List.take_succ_eq_append_getElem hk,List.getLast?_append]
 simp
theorem at_prev {α : Type} {xs : List α} {k : Nat} (h0 : 0 < k) (hk : k ≤ xs.length) (hl : xs.length ≤ 1099511627776) : at? xs (w64 ((k : Int) - 1)) = (xs.take k).getLast? := by
 obtain ⟨k,rfl⟩ : ∃ q,k = q + 1 := ⟨k - 1,by omega⟩
 rw [take_last (by omega),w64_id (by omega) (by omega),show ((k + 1 : Nat) : Int) - 1 = (k : Int) by omega,at_lt (by omega)]
theorem chain_loop {α : Type} (ok : Option α → α → Bool) (f : Nat → Int → Option (Bool ⊕ Unit)) (xs : List α)
  (hstep : ∀ (m k : Nat) (hk : k < xs.length),f (m + 1) (k : Int) = if ok (xs.take k).getLast? xs[k] = true then f m ((k + 1 : Nat) : Int) else some (.inl false))
  (hend : ∀ m,f (m + 1) (xs.length : Int) = some (.inr ())) : ∀ (d k m : Nat),xs.length = k + d → d < m → f m (k : Int) = some (oks (chain ok (xs.take k).getLast? (xs.drop k)))
 | 0,k,m,hd,hm => by
  obtain ⟨m,rfl⟩ : ∃ q,m = q + 1 := ⟨m - 1,by omega⟩
  rw [show k = xs.length by omega,hend,List.drop_length]
  rfl
 | d + 1,k,m,hd,hm => by
  obtain ⟨m,rfl⟩ : ∃ q,m = q + 1 := ⟨m - 1,by omega⟩
  have hk : k < xs.length := by omega
  have ih := chain_loop ok f xs hstep hend d (k + 1) m (by omega) (by omega)
  rw [hstep m k hk,List.drop_eq_getElem_cons hk]
  by_cases h : ok (xs.take k).getLast? xs[k] = true
  ·rw [if_pos h,ih,take_last hk]
   simp only [chain,h,Bool.true_and]
  ·rw [if_neg h]
   simp only [chain,Bool.not_eq_true] at h ⊢
   rw [h]
   rfl
theorem chain_start {α : Type} (ok : Option α → α → Bool) (f : Nat → Int → Option (Bool ⊕ Unit)) (xs : List α) {N : Nat} (hN : xs.length < N)
  (hstep : ∀ (m k : Nat) (hk : k < xs.length),f (m + 1) (k : Int) = if ok (xs.take k).getLast? xs[k] = true then f m ((k + 1 : Nat) : Int) else some (.inl false))
  (hend : ∀ m,f (m + 1) (xs.length : Int) = some (.inr ())) : f N 0 = some (oks (chain ok none xs)) := by
 have := chain_loop ok f xs hstep hend xs.length 0 N (by omega) hN
 simpa using this
def okFile (o : Option File) (x : File) : Bool := decide (1 ≤ (x.Name.size : Int) ∧ (x.Name.size : Int) ≤ 12) && decide (x.Text.size ≤ 20000) && (match o with | none => true | some q => blt q.Name x.Name)
def diskOk (d : Disk) : Bool := decide (d.Files.length ≤ 30) && chain okFile none d.Files
theorem take_none {α : Type} {xs : List α} {k : Nat} (h0 : 0 < k) (hk : k < xs.length) (h : (xs.take k).getLast? = none) : False := by
 rw [List.getLast?_eq_none_iff,List.take_eq_nil_iff] at h
 rcases h with h | h
 ·omega
 ·rw [h] at hk; exact absurd hk (by simp)
theorem diskOk_impl_step (N : Nat) (d : Disk) (hl : d.Files.length ≤ 1099511627) (m k : Nat) (hk : k < d.Files.length) : impl_DiskOk_l1 N d (m + 1) (k : Int) = if okFile (d.Files.take k).getLast? d.Files[k] = true then impl_DiskOk_l1 N d m ((k + 1 : Nat) : Int) else some (.inl false) := by
 rw [impl_DiskOk_l1,if_pos (by simp; omega),at_lt hk]
 simp only [bO,within_eq]
 rw [w64_succ (by omega)]
 simp only [okFile]
 by_cases h1 : 1 ≤ (d.Files[k].Name.size : Int) ∧ (d.Files[k].Name.size : Int) ≤ 12
 case neg => simp only [decide_eq_false h1]; rfl
 simp only [decide_eq_true h1,Bool.not_true,Bool.false_eq_true,if_false,Bool.true_and]
 by_cases h2 : d.Files[k].Text.size ≤ 20000
 case neg => rw [if_pos (by simp; omega),decide_eq_false h2]; rfl
 rw [if_neg (by simp; omega),decide_eq_true h2]
 by_cases h0 : 0 < k
 ·rw [if_pos (by simpa using h0),at_prev h0 (by omega) (by omega)]
  cases hq : (d.Files.take k).getLast? with
  | none => exact (take_none h0 hk hq).elim
  | some q =>
   simp only [bO,Bool.true_and]
   rw [show Op.bytesLess q.Name.toList d.Files[k].Name.toList = blt q.Name d.Files[k].Name from rfl]
   cases blt q.Name d.Files[k].Name <;> rfl
 ·have : k = 0 := by omega
  subst this
  rw [if_neg (by decide)]
  rfl
theorem diskOk_impl (N : Nat) (hN : Big N) (d : Disk) (hl : d.Files.length ≤ 1099511627) : impl_DiskOk N d = some (diskOk d) := by
 unfold impl_DiskOk diskOk
 rw [chain_start okFile (impl_DiskOk_l1 N d) d.Files (by unfold Big at hN; omega) (diskOk_impl_step N d hl) (fun m => by rw [impl_DiskOk_l1,if_neg (by simp)])]
 cases chain okFile none d.Files
 ·simp [oks,joinP]
 ·simp only [joinP,oks,bO,Sum.elim_inr,Bool.and_true]
  congr 1
  exact decide_eq_decide.2 (by omega)
theorem diskOk_spec_step (N : Nat) (d : Disk) (hl : d.Files.length ≤ 1099511627) (m k : Nat) (hk : k < d.Files.length) : spec_DiskOk_l1 N d (m + 1) (k : Int) = if okFile (d.Files.take k).getLast? d.Files[k] = true then spec_DiskOk_l1 N d m ((k + 1 : Nat) : Int) else some (.inl false) := by
 rw [spec_DiskOk_l1,if_pos (by simp; omega),at_lt hk]
 simp only [bO,in_eq,joinP]
 rw [w64_succ (by omega)]
 simp only [okFile]
 by_cases h1 : 1 ≤ (d.Files[k].Name.size : Int) ∧ (d.Files[k].Name.size : Int) ≤ 12
 case neg => simp only [decide_eq_false h1]; rfl
 simp only [decide_eq_true h1,Bool.not_true,Bool.false_eq_true,if_false,Bool.true_and]
 by_cases h2 : d.Files[k].Text.size ≤ 20000
 case neg => rw [if_pos (by simp; omega),decide_eq_false h2]; rfl
 rw [if_neg (by simp; omega),decide_eq_true h2]
 by_cases h0 : 0 < k
 ·rw [if_pos (by simpa using h0),at_prev h0 (by omega) (by omega)]
  cases hq : (d.Files.take k).getLast? with
  | none => exact (take_none h0 hk hq).elim
  | some q =>
   simp only [bO,Bool.true_and]
   rw [show Op.bytesLess q.Name.toList d.Files[k].Name.toList = blt q.Name d.Files[k].Name from rfl]
   cases blt q.Name d.Files[k].Name <;> rfl
 ·have : k = 0 := by omega
  subst this
  rw [if_neg (by decide)]
  rfl
theorem diskOk_spec (N : Nat) (hN : Big N) (d : Disk) (hl : d.Files.length ≤ 1099511627) : spec_DiskOk N d = some (diskOk d) := by
 unfold spec_DiskOk diskOk
 by_cases h : d.Files.length ≤ 30
 ·rw [if_neg (by simp; omega),chain_start okFile (spec_DiskOk_l1 N d) d.Files (by unfold Big at hN; omega) (diskOk_spec_step N d hl) (fun m => by rw [spec_DiskOk_l1,if_neg (by simp)])]
  rw [decide_eq_true h]
  cases chain okFile none d.Files <;> rfl
 ·rw [if_pos (by simp; omega),decide_eq_false h]
  rfl
theorem mid_eq {i j : Nat} (h : i + j ≤ 9223372036854775807) : intSh .shr .u64 (IntKind.wrap .u64 (w64 ((i : Int) + (j : Int)))) 1 = some (((i + j) / 2 : Nat) : Int) := by
 have e1 : w64 ((i : Int) + (j : Int)) = ((i + j : Nat) : Int) := w64_id (by omega) (by omega)
 have e2 : IntKind.wrap .u64 ((i + j : Nat) : Int) = ((i + j : Nat) : Int) := by rw [IntKind.wrap_u64]; omega
 rw [e1,e2]
 have e5 : min 1 IntKind.u64.bits = 1 := rfl
 simp only [intSh,e5]
 rw [if_neg (by decide)]
 congr 1
 show Int.fdiv _ 2 = _
 rw [Int.fdiv_eq_ediv_of_nonneg _ (by decide)]
 omega
theorem bs_gen {α : Type} (key : α → ByteArray) (m : List α) (k : ByteArray) (F : Nat → Int → Int → Option Int) (c : Nat)
  (hc : ∀ q (hq : q < m.length),(blt (key (m[q]'hq)) k = true ↔ q < c))
  (h0 : ∀ f (i j : Nat),¬ i < j → F (f + 1) (i : Int) (j : Int) = some (i : Int))
  (h1 : ∀ f (i j : Nat) (hlt : (i + j) / 2 < m.length),i < j → F (f + 1) (i : Int) (j : Int) = if blt (key (m[(i + j) / 2]'hlt)) k = true then F f (((i + j) / 2 + 1 : Nat) : Int) (j : Int) else F f (i : Int) (((i + j) / 2 : Nat) : Int)) :
  ∀ (f i j : Nat),i ≤ c → c ≤ j → j ≤ m.length → j - i < f → F f (i : Int) (j : Int) = some (c : Int)
 | 0,i,j,_,_,_,h4 => by omega
 | f + 1,i,j,g1,g2,g3,h4 => by
  by_cases hij : i < j
  ·have hlt : (i + j) / 2 < m.length := by omega
   have hq := hc _ hlt
   rw [h1 f i j hlt hij]
   by_cases hb : blt (key (m[(i + j) / 2]'hlt)) k = true
   ·rw [if_pos hb]
    exact bs_gen key m k F c hc h0 h1 f _ j (by have := hq.1 hb; omega) g2 g3 (by omega)
   ·have : ¬ (i + j) / 2 < c := fun h => hb (hq.2 h)
    rw [if_neg hb]
    exact bs_gen key m k F c hc h0 h1 f i _ g1 (by omega) (by omega) (by omega)
  ·rw [h0 f i j hij]
   congr 1
   omega
theorem place_of {α : Type} (key : α → ByteArray) (k : ByteArray) : ∀ (m : List α),m.Pairwise (fun a b => blt (key a) (key b) = true) → ∃ c,c ≤ m.length ∧ (∀ q (hq : q < m.length),(blt (key (m[q]'hq)) k = true ↔ q < c)) ∧ (∀ q (hq : q < m.length),key (m[q]'hq) = k → q = c)
 | [],_ => ⟨0,Nat.le_refl _,fun q hq => absurd hq (by simp),fun q hq => absurd hq (by simp)⟩
 | x :: m,h => by
  obtain ⟨hx,hm⟩ := List.pairwise_cons.1 h
  obtain ⟨c,c1,c2,c3⟩ := place_of key k m hm
  cases hb : blt (key x) k with
  | true =>
   refine ⟨c + 1,by simp; omega,fun q hq => ?_,fun q hq => ?_⟩
   ·cases q with
    | zero => simp [hb]
    | succ q => simp only [List.getElem_cons_succ]; rw [c2 q (by simpa using hq)]; omega
   ·cases q with
    | zero => intro e; simp only [List.getElem_cons_zero] at e; rw [e,blt_irrefl] at hb; cases hb
    | succ q => intro e; simp only [List.getElem_cons_succ] at e; have := c3 q (by simpa using hq) e; omega
  | false =>
   have hall : ∀ y ∈ m,blt k (key y) = true := by
    intro y hy
    have h1 := hx y hy
    rcases blt_tri (key x) k with h2 | h2 | h2
    ·rw [hb] at h2; cases h2
    ·rw [← h2]; exact h1
    ·exact blt_trans h2 h1
   refine ⟨0,Nat.zero_le _,fun q hq => ?_,fun q hq => ?_⟩
   ·cases q with
    | zero => simp [hb]
    | succ q =>
     simp only [List.getElem_cons_succ]
     have := blt_asymm (hall (m[q]'(by simpa using hq)) (List.getElem_mem _))
     simp [this]
   ·cases q with
    | zero => intro _; rfl
    | succ q =>
     intro e
     simp only [List.getElem_cons_succ] at e
     have := hall (m[q]'(by simpa using hq)) (List.getElem_mem _)
     rw [e,blt_irrefl] at this
     cases this
theorem chain_sorted {α : Type} {key : α → ByteArray} {ok : Option α → α → Bool} (h : ∀ q x,ok (some q) x = true → blt (key q) (key x) = true) : ∀ {xs : List α} {o : Option α},chain ok o xs = true → xs.Pairwise (fun a b => blt (key a) (key b) = true) ∧ ∀ q,o = some q → ∀ x ∈ xs,blt (key q) (key x) = true
 | [],o,_ => ⟨.nil,fun _ _ x hx => by simp at hx⟩
 | x :: xs,o,hc => by
  simp only [chain,Bool.and_eq_true] at hc
  obtain ⟨h1,h2⟩ := chain_sorted h hc.2
  refine ⟨.cons (h2 x rfl) h1,fun q hq y hy => ?_⟩
  subst hq
  have h3 := h q x hc.1
  rcases List.mem_cons.1 hy with rfl | hy
  ·exact h3
  ·exact blt_trans h3 (h2 x rfl y hy)
theorem chain_all {α : Type} {ok : Option α → α → Bool} {p : α → Prop} (h : ∀ o x,ok o x = true → p x) : ∀ {xs : List α} {o : Option α},chain ok o xs = true → ∀ x ∈ xs,p x
 | [],o,_ => fun x hx => by simp at hx
 | x :: xs,o,hc => by
  simp only [chain,Bool.and_eq_true] at hc
  intro y hy
  rcases List.mem_cons.1 hy with rfl | hy
  ·exact h o _ hc.1
  ·exact chain_all h hc.2 y hy
def nameIs (n : ByteArray) (f : File) : Bool := decide (f.Name = n)
def fileAt (d : Disk) (n : ByteArray) : Option ByteArray := (d.Files.find? (nameIs n)).map File.Text
theorem l03At_r (N : Nat) (d : Disk) (n : ByteArray) : ∀ (l : List File) (i : Nat),i + l.length ≤ 1099511627776 → spec_l03At_l1_r N d n l (i : Int) = some (match l.findIdx? (nameIs n) with | some k => .inl ((i + k : Nat) : Int) | none => .inr ())
 | [],i,_ => rfl
 | f :: l,i,hi => by
  simp only [List.length_cons] at hi
  rw [spec_l03At_l1_r,bO,List.findIdx?_cons]
  by_cases h : f.Name = n
  ·have : nameIs n f = true := by simp [nameIs,h]
   rw [if_pos (by simpa using h),this]
   rfl
  ·have : nameIs n f = false := by simp [nameIs,h]
   rw [if_neg (by simpa using h),this,w64_succ (by omega),l03At_r N d n l (i + 1) (by omega)]
   cases l.findIdx? (nameIs n) with
   | none => rfl
   | some k => simp only [Bool.false_eq_true,if_false,Option.map_some]; congr 3; omega
theorem findIdx_find {α : Type} (p : α → Bool) : ∀ l : List α,match l.findIdx? p with | some k => ∃ x,l[k]? = some x ∧ p x = true ∧ l.find? p = some x | none => l.find? p = none
 | [] => rfl
 | x :: l => by
  have ih := findIdx_find p l
  rw [List.findIdx?_cons,List.find?_cons]
  cases h : p x with
  | true => exact ⟨x,rfl,h,rfl⟩
  | false =>
   simp only [Bool.false_eq_true,if_false]
   cases hk : l.findIdx? p with
   | none => rw [hk] at ih; exact ih
   | some k => rw [hk] at ih; simpa using ih
theorem l03At_ok (N : Nat) (hN : Big N) (d : Disk) (hl : d.Files.length ≤ 1099511627) (n : ByteArray) : ∃ a,spec_l03At N d n = some a ∧ ((a = -1 ∧ fileAt d n = none) ∨ ∃ (k : Nat) (f : File),a = (k : Int) ∧ k < d.Files.length ∧ at? d.Files (k : Int) = some f ∧ f.Name = n ∧ fileAt d n = some f.Text) := by
 unfold spec_l03At
 simp only [joinP]
 rw [spec_l03At_l1_eq d n (by omega) (by unfold Big at hN; omega),show (0 : Int) = ((0 : Nat) : Int) from rfl,l03At_r N d n d.Files 0 (by omega)]
 have h := findIdx_find (nameIs n) d.Files
 unfold fileAt
 cases hk : d.Files.findIdx? (nameIs n) with
 | none =>
  rw [hk] at h
  simp only at h
  exact ⟨_,rfl,.inl ⟨rfl,by rw [h]; rfl⟩⟩
 | some k =>
  rw [hk] at h
  obtain ⟨x,h1,h2,h3⟩ := h
  refine ⟨_,rfl,.inr ⟨k,x,by rw [Nat.zero_add],(List.getElem?_eq_some_iff.1 h1).1,?_,by simpa [nameIs] using h2,by rw [h3]; rfl⟩⟩
  unfold at?
  rw [if_pos (by omega),Int.toNat_natCast,h1]
theorem l03Text_ok (N : Nat) (hN : Big N) (d : Disk) (hl : d.Files.length ≤ 1099511627) (n : ByteArray) : spec_l03Text N d n = some ((fileAt d n).getD ⟨#[]⟩) := by
 unfold spec_l03Text
 obtain ⟨a,h1,h2⟩ := l03At_ok N hN d hl n
 rw [h1,bO]
 rcases h2 with ⟨rfl,h2⟩ | ⟨k,f,rfl,_,h3,_,h5⟩
 ·rw [h2]; rfl
 ·rw [if_neg (by simp),h3,h5]; rfl
def fileR (d : Disk) (n : ByteArray) : ByteArray × Bool := match fileAt d n with
 | some t => (t,true)
 | none => (⟨#[]⟩,false)
theorem fileAt_spec (N : Nat) (hN : Big N) (d : Disk) (hl : d.Files.length ≤ 1099511627) (hd : diskOk d = true) (n : ByteArray) : spec_FileAt N d n = some (fileR d n) := by
 unfold spec_FileAt fileR
 obtain ⟨a,h1,h2⟩ := l03At_ok N hN d hl n
 rw [h1,bO,diskOk_spec N hN d hl,hd,bO,if_neg (by decide)]
 rcases h2 with ⟨rfl,h2⟩ | ⟨k,f,rfl,_,h3,_,h5⟩
 ·rw [h2]; rfl
 ·rw [if_neg (by simp),h3,h5]; rfl
theorem okFile_lt (q x : File) (h : okFile (some q) x = true) : blt q.Name x.Name = true := by
 simp only [okFile,Bool.and_eq_true] at h
 exact h.2
theorem disk_sorted {d : Disk} (hd : diskOk d = true) : d.Files.Pairwise (fun a b => blt a.Name b.Name = true) := by
 simp only [diskOk,Bool.and_eq_true] at hd
 exact (chain_sorted (key := File.Name) okFile_lt hd.2).1
theorem disk_len {d : Disk} (hd : diskOk d = true) : d.Files.length ≤ 30 := by
 simp only [diskOk,Bool.and_eq_true,decide_eq_true_eq] at hd
 exact hd.1
theorem disk_file {d : Disk} (hd : diskOk d = true) : ∀ f ∈ d.Files,1 ≤ f.Name.size ∧ f.Name.size ≤ 12 ∧ f.Text.size ≤ 20000 := by
 simp only [diskOk,Bool.and_eq_true] at hd
 refine chain_all (fun o x h => ?_) hd.2
 simp only [okFile,Bool.and_eq_true,decide_eq_true_eq] at h
 omega
theorem fileAt_size {d : Disk} (hd : diskOk d = true) {n t : ByteArray} (h : fileAt d n = some t) : t.size ≤ 20000 := by
 unfold fileAt at h
 obtain ⟨f,h1,rfl⟩ := Option.map_eq_some_iff.1 h
 exact (disk_file hd f (List.mem_of_find?_eq_some h1)).2.2
theorem bsF (N : Nat) (hN : Big N) (xs : List File) (hl : xs.length ≤ 1099511627) (k : ByteArray) (c : Nat) (hc : c ≤ xs.length) (hq : ∀ q (hq : q < xs.length),(blt (xs[q]'hq).Name k = true ↔ q < c)) : slices_BinarySearchFunc_string_l1 N xs k N 0 (xs.length : Int) = some (c : Int) := by
 have := bs_gen File.Name xs k (slices_BinarySearchFunc_string_l1 N xs k) c hq (fun f i j h => ?_) (fun f i j hlt hij => ?_) N 0 xs.length (by omega) hc (Nat.le_refl _) (by unfold Big at hN; omega)
 ·exact this
 ·rw [slices_BinarySearchFunc_string_l1,if_neg (by simp; omega)]
 ·rw [slices_BinarySearchFunc_string_l1,if_pos (by simp; omega),mid_eq (by omega),bO,w64_id (by omega) (by omega),at_lt hlt,bO]
  unfold impl_fileNo_1 strings_Compare
  simp only [bO,cmp_blt]
  rw [w64_succ (by omega)]
  cases blt (xs[(i + j) / 2]'hlt).Name k
  ·simp only [Bool.false_eq_true,if_false]
   split <;> rfl
  ·rfl
theorem fileNo_ok (N : Nat) (hN : Big N) (d : Disk) (hd : diskOk d = true) (n : ByteArray) : ∃ c b,impl_fileNo N d n = some (c,b) ∧ ((b = false ∧ fileAt d n = none) ∨ (b = true ∧ ∃ f,at? d.Files c = some f ∧ fileAt d n = some f.Text)) := by
 have hl := disk_len hd
 obtain ⟨c,c1,c2,c3⟩ := place_of File.Name n d.Files (disk_sorted hd)
 unfold impl_fileNo slices_BinarySearchFunc_string
 simp only [joinP]
 rw [bsF N hN d.Files (by omega) n c c1 c2,bO]
 have hnone : (∀ f ∈ d.Files,f.Name ≠ n) → fileAt d n = none := by
  intro h
  unfold fileAt
  rw [List.find?_eq_none.2 (fun f hf => by simpa [nameIs] using h f hf)]
  rfl
 by_cases h : c < d.Files.length
 ·rw [if_pos (by simp; omega),at_lt h,bO]
  unfold impl_fileNo_1 strings_Compare
  simp only [bO,cmp_blt]
  have hb : blt (d.Files[c]'h).Name n = false := by
   cases hq : blt (d.Files[c]'h).Name n with
   | false => rfl
   | true => exact absurd ((c2 c h).1 hq) (by omega)
  rw [hb,if_neg (by decide)]
  by_cases he : (d.Files[c]'h).Name = n
  ·refine ⟨_,_,rfl,.inr ⟨by rw [if_pos he]; rfl,d.Files[c]'h,at_lt h,?_⟩⟩
   unfold fileAt
   cases hf : d.Files.find? (nameIs n) with
   | none =>
    have := List.find?_eq_none.1 hf _ (List.getElem_mem h)
    simp [nameIs,he] at this
   | some f =>
    have h1 := List.find?_some hf
    obtain ⟨q,hq,h2⟩ := List.getElem_of_mem (List.mem_of_find?_eq_some hf)
    have h3 := c3 q hq (by rw [h2]; simpa [nameIs] using h1)
    subst h3
    rw [← h2]
    rfl
  ·refine ⟨_,_,rfl,.inl ⟨by rw [if_neg he]; rfl,hnone fun f hf hn => ?_⟩⟩
   obtain ⟨q,hq,h2⟩ := List.getElem_of_mem hf
   have h3 := c3 q hq (by rw [h2]; exact hn)
   subst h3
   exact he (by rw [h2]; exact hn)
 ·rw [if_neg (by simp; omega)]
  refine ⟨_,_,rfl,.inl ⟨rfl,hnone fun f hf hn => ?_⟩⟩
  obtain ⟨q,hq,h2⟩ := List.getElem_of_mem hf
  have h3 := c3 q hq (by rw [h2]; exact hn)
  omega
theorem fileAt_impl (N : Nat) (hN : Big N) (d : Disk) (hd : diskOk d = true) (n : ByteArray) : impl_FileAt N d n = some (fileR d n) := by
 unfold impl_FileAt fileR
 have hl := disk_len hd
 obtain ⟨c,b,h1,h2⟩ := fileNo_ok N hN d hd n
 rw [diskOk_impl N hN d (by omega),hd,bO,if_neg (by decide),h1,bO]
 rcases h2 with ⟨rfl,h2⟩ | ⟨rfl,f,h2,h3⟩
 ·rw [h2]; rfl
 ·rw [if_neg (by simp),h2,h3]; rfl
abbrev rok (r : ByteArray) : Prop := 1 ≤ r.size ∧ r.size ≤ 9000
def nextF (N : Nat) (t : ByteArray) (a : Nat) : Option (ByteArray × Nat) := match rdvT t a with
 | some (n,k) => if a + k + 4 + n ≤ t.size then
   if rok (t.extract (a + k + 4) (a + k + 4 + n)) ∧ frm N (t.extract (a + k + 4) (a + k + 4 + n)) = t.extract a (a + k + 4 + n) then some (t.extract (a + k + 4) (a + k + 4 + n),a + k + 4 + n) else none
  else none
 | none => none
def unfr (N : Nat) (t : ByteArray) : Nat → Nat → List ByteArray × Nat
 | 0,a => ([],a)
 | f + 1,a => match nextF N t a with
  | some (x,b) => (x :: (unfr N t f b).1,(unfr N t f b).2)
  | none => ([],a)
theorem rdvT_some {t : ByteArray} {a n k : Nat} (ha : a ≤ t.size) (h : rdvT t a = some (n,k)) : n ≤ 1000000000 ∧ 1 ≤ k ∧ a + k ≤ t.size := by
 unfold rdvT at h
 obtain ⟨h1,h2,h3,h4⟩ := rdv_some.1 h
 have hlen : t.data.toList.length = t.size := Array.length_toList
 rw [List.length_drop,hlen] at h4
 have := enc_pos n
 omega
theorem rdvT_end {t : ByteArray} {a : Nat} (ha : t.size ≤ a) : rdvT t a = none := by
 unfold rdvT rdv
 rw [rv_end ha]
theorem nextF_some {N : Nat} {t x : ByteArray} {a b : Nat} (ha : a ≤ t.size) (h : nextF N t a = some (x,b)) : a + 6 ≤ b ∧ b ≤ t.size ∧ rok x ∧ frm N x = t.extract a b := by
 unfold nextF at h
 cases hr : rdvT t a with
 | none => rw [hr] at h; cases h
 | some q =>
  obtain ⟨n,k⟩ := q
  rw [hr] at h
  obtain ⟨h1,h2,h3⟩ := rdvT_some ha hr
  simp only at h
  split at h <;> try cases h
  rename_i h4
  split at h <;> try cases h
  rename_i h5
  have hz := ext_size t (a + k + 4) (a + k + 4 + n) (by omega) (by omega)
  have := h5.1.1
  exact ⟨by omega,h4,h5.1,h5.2⟩
theorem unfr_ok (N : Nat) (t : ByteArray) : ∀ (f a : Nat),a ≤ t.size → (unfr N t f a).2 ≤ t.size ∧ a + 6 * (unfr N t f a).1.length ≤ (unfr N t f a).2 ∧ ∀ r ∈ (unfr N t f a).1,rok r
 | 0,a,ha => ⟨ha,by simp [unfr],by simp [unfr]⟩
 | f + 1,a,ha => by
  rw [unfr]
  cases h : nextF N t a with
  | none => exact ⟨ha,by simp,by simp⟩
  | some q =>
   obtain ⟨x,b⟩ := q
   obtain ⟨h1,h2,h3,_⟩ := nextF_some ha h
   obtain ⟨h5,h6,h7⟩ := unfr_ok N t f b h2
   refine ⟨h5,by simp only [List.length_cons]; omega,fun r hr => ?_⟩
   rcases List.mem_cons.1 hr with rfl | hr
   ·exact h3
   ·exact h7 r hr
theorem unf_impl_l (N : Nat) (hN : Big N) (t : ByteArray) (ht : t.size ≤ 20000) : ∀ (f a m : Nat) (acc : List ByteArray),a ≤ t.size → t.size < a + f → f < m → acc.length + f ≤ 1000000 → impl_Unframe_l1 N t m (a : Int) acc = some (acc ++ (unfr N t f a).1,((unfr N t f a).2 : Int))
 | 0,a,m,acc,ha,hf,hm,hb => by omega
 | f + 1,a,m,acc,ha,hf,hm,hb => by
  obtain ⟨m,rfl⟩ : ∃ q,m = q + 1 := ⟨m - 1,by omega⟩
  rw [impl_Unframe_l1,rvar_impl N hN t a (by omega) ha,bO,unfr]
  unfold rdR
  cases hr : rdvT t a with
  | none => simp [nextF,hr]
  | some q =>
   obtain ⟨n,k⟩ := q
   obtain ⟨h1,h2,h3⟩ := rdvT_some ha hr
   simp only [Bool.not_true,Bool.false_eq_true,↓reduceIte]
   have e1 : w64 ((t.size : Int) - ((a + k : Nat) : Int)) = (t.size : Int) - ((a + k : Nat) : Int) := w64_id (by omega) (by omega)
   have e2 : w64 (((a + k : Nat) : Int) + 4) = ((a + k + 4 : Nat) : Int) := by rw [w64_id (by omega) (by omega)]; omega
   have e3 : w64 (((a + k + 4 : Nat) : Int) + (n : Int)) = ((a + k + 4 + n : Nat) : Int) := by rw [w64_id (by omega) (by omega)]; omega
   rw [e1,w64_id (n := (t.size : Int) - ((a + k : Nat) : Int) - 4) (by omega) (by omega),e2,e3]
   by_cases h4 : a + k + 4 + n ≤ t.size
   ·rw [if_neg (by simp only [decide_eq_true_eq]; omega),scut_ok (by omega) h4,bO,scut_ok (by omega) h4]
    have hz := ext_size t (a + k + 4) (a + k + 4 + n) (by omega) (by omega)
    have hnx : nextF N t a = if rok (t.extract (a + k + 4) (a + k + 4 + n)) ∧ frm N (t.extract (a + k + 4) (a + k + 4 + n)) = t.extract a (a + k + 4 + n) then some (t.extract (a + k + 4) (a + k + 4 + n),a + k + 4 + n) else none := by
     unfold nextF
     rw [hr]
     simp only
     rw [if_pos h4]
    generalize t.extract (a + k + 4) (a + k + 4 + n) = x at hz hnx ⊢
    rw [frame_impl N hN x (by omega),bO]
    by_cases h5 : rok x
    ·rw [if_pos h5]
     simp only [Bool.not_true,Bool.false_eq_true,↓reduceIte,bO]
     by_cases h6 : frm N x = t.extract a (a + k + 4 + n)
     ·rw [if_neg (by simpa using h6),show cat? acc [x] = some (acc ++ [x]) from if_pos (by simp; omega),bO,hnx,if_pos ⟨h5,h6⟩,unf_impl_l N hN t ht f _ m _ h4 (by omega) (by omega) (by simp; omega),List.append_assoc,List.singleton_append]
     ·rw [if_pos (by simpa using h6),hnx,if_neg (fun h => h6 h.2)]
      simp
    ·rw [if_neg h5,if_pos (show (!((⟨#[]⟩ : ByteArray),false).2) = true from rfl),hnx,if_neg (fun h => h5 h.1)]
     simp
   ·rw [if_pos (by simp only [decide_eq_true_eq]; omega)]
    have hnx : nextF N t a = none := by
     unfold nextF
     rw [hr]
     simp only
     rw [if_neg h4]
    rw [hnx]
    simp
theorem unf_spec_l (N : Nat) (hN : Big N) (t : ByteArray) (ht : t.size ≤ 20000) : ∀ (f a m : Nat) (acc : List ByteArray),a ≤ t.size → t.size < a + f → f < m → acc.length + f ≤ 1000000 → spec_Unframe_l1 N t m (a : Int) acc = some (.inl (acc ++ (unfr N t f a).1,((unfr N t f a).2 : Int))) ∨ spec_Unframe_l1 N t m (a : Int) acc = some (.inr (((unfr N t f a).2 : Int),acc ++ (unfr N t f a).1))
 | 0,a,m,acc,ha,hf,hm,hb => by omega
 | f + 1,a,m,acc,ha,hf,hm,hb => by
  obtain ⟨m,rfl⟩ : ∃ q,m = q + 1 := ⟨m - 1,by omega⟩
  rw [spec_Unframe_l1,unfr]
  by_cases hlt : a < t.size
  ·rw [if_pos (by simp only [decide_eq_true_eq]; omega),rvar_spec N hN t a (by omega) ha,bO]
   unfold rdR
   cases hr : rdvT t a with
   | none => left; simp [nextF,hr]
   | some q =>
    obtain ⟨n,k⟩ := q
    obtain ⟨h1,h2,h3⟩ := rdvT_some ha hr
    simp only [Bool.not_true,Bool.false_eq_true,↓reduceIte]
    have e1 : w64 ((t.size : Int) - ((a + k : Nat) : Int)) = (t.size : Int) - ((a + k : Nat) : Int) := w64_id (by omega) (by omega)
    have e2 : w64 (((a + k : Nat) : Int) + 4) = ((a + k + 4 : Nat) : Int) := by rw [w64_id (by omega) (by omega)]; omega
    have e3 : w64 (((a + k + 4 : Nat) : Int) + (n : Int)) = ((a + k + 4 + n : Nat) : Int) := by rw [w64_id (by omega) (by omega)]; omega
    rw [e1,w64_id (n := (t.size : Int) - ((a + k : Nat) : Int) - 4) (by omega) (by omega),e2,e3]
    by_cases h4 : a + k + 4 + n ≤ t.size
    ·rw [if_neg (by simp only [decide_eq_true_eq]; omega),scut_ok (by omega) h4,bO,scut_ok (by omega) h4]
     have hz := ext_size t (a + k + 4) (a + k + 4 + n) (by omega) (by omega)
     have hnx : nextF N t a = if rok (t.extract (a + k + 4) (a + k + 4 + n)) ∧ frm N (t.extract (a + k + 4) (a + k + 4 + n)) = t.extract a (a + k + 4 + n) then some (t.extract (a + k + 4) (a + k + 4 + n),a + k + 4 + n) else none := by
      unfold nextF
      rw [hr]
      simp only
      rw [if_pos h4]
     generalize t.extract (a + k + 4) (a + k + 4 + n) = x at hz hnx ⊢
     rw [frame_spec N hN x (by omega),bO]
     by_cases h5 : rok x
     ·rw [if_pos h5]
      simp only [Bool.not_true,Bool.false_eq_true,↓reduceIte,bO]
      by_cases h6 : frm N x = t.extract a (a + k + 4 + n)
      ·rw [if_neg (by simpa using h6),show cat? acc [x] = some (acc ++ [x]) from if_pos (by simp; omega),bO,hnx,if_pos ⟨h5,h6⟩]
       have := unf_spec_l N hN t ht f _ m (acc ++ [x]) h4 (by omega) (by omega) (by simp; omega)
       rw [List.append_assoc,List.singleton_append] at this
       exact this
      ·rw [if_pos (by simpa using h6),hnx,if_neg (fun h => h6 h.2)]
       left; simp
     ·rw [if_neg h5,if_pos (show (!((⟨#[]⟩ : ByteArray),false).2) = true from rfl),hnx,if_neg (fun h => h5 h.1)]
      left; simp
    ·rw [if_pos (by simp only [decide_eq_true_eq]; omega)]
     have hnx : nextF N t a = none := by
      unfold nextF
      rw [hr]
      simp only
      rw [if_neg h4]
     rw [hnx]
     left; simp
  ·rw [if_neg (by simp only [decide_eq_true_eq]; omega)]
   have hnx : nextF N t a = none := by
    unfold nextF
    rw [rdvT_end (by omega)]
   rw [hnx]
   right; simp
def recs (N : Nat) (t : ByteArray) : List ByteArray × Nat := unfr N t (t.size + 1) 0
theorem unf_impl (N : Nat) (hN : Big N) (t : ByteArray) (ht : t.size ≤ 20000) : impl_Unframe N t = some ((recs N t).1,((recs N t).2 : Int)) := by
 unfold impl_Unframe
 rw [if_neg (by simp only [decide_eq_true_eq]; omega)]
 have := unf_impl_l N hN t ht (t.size + 1) 0 N [] (by omega) (by omega) (by unfold Big at hN; omega) (by simp; omega)
 rw [show ((0 : Nat) : Int) = 0 from rfl] at this
 rw [this]
 rfl
theorem unf_spec (N : Nat) (hN : Big N) (t : ByteArray) (ht : t.size ≤ 20000) : spec_Unframe N t = some ((recs N t).1,((recs N t).2 : Int)) := by
 unfold spec_Unframe
 rw [if_neg (by simp only [decide_eq_true_eq]; omega)]
 simp only [joinP]
 have := unf_spec_l N hN t ht (t.size + 1) 0 N [] (by omega) (by omega) (by unfold Big at hN; omega) (by simp; omega)
 rw [show ((0 : Nat) : Int) = 0 from rfl] at this
 rcases this with e | e <;> rw [e] <;> rfl
theorem recs_ok (N : Nat) (t : ByteArray) : 6 * (recs N t).1.length ≤ t.size ∧ ∀ r ∈ (recs N t).1,rok r := by
 obtain ⟨h1,h2,h3⟩ := unfr_ok N t (t.size + 1) 0 (by omega)
 exact ⟨by unfold recs; omega,h3⟩
def okCh (o : Option Change) (x : Change) : Bool := decide (1 ≤ x.Key.size ∧ x.Key.size ≤ 10) && (decide (x.Value.size ≤ 40) && ((!x.Gone || decide (x.Value = ⟨#[]⟩)) && (match o with | none => true | some q => blt q.Key x.Key)))
def batOk (b : Batch) : Bool := decide (0 ≤ b.Stamp ∧ b.Stamp ≤ 100000) && (decide (b.Changes.length ≤ 60) && chain okCh none b.Changes)
theorem batOk_impl_step (N : Nat) (b : Batch) (hl : b.Changes.length ≤ 1099511627) (m k : Nat) (hk : k < b.Changes.length) : impl_BatchOk_l1 N b (m + 1) (k : Int) = if okCh (b.Changes.take k).getLast? b.Changes[k] = true then impl_BatchOk_l1 N b m ((k + 1 : Nat) : Int) else some (.inl false) := by
 rw [impl_BatchOk_l1,if_pos (by simp; omega),at_lt hk]
 simp only [bO,key_impl]
 rw [w64_succ (by omega)]
 simp only [okCh]
 by_cases h1 : 1 ≤ b.Changes[k].Key.size ∧ b.Changes[k].Key.size ≤ 10
 case neg => simp only [decide_eq_false h1]; rfl
 simp only [decide_eq_true h1,Bool.not_true,Bool.false_eq_true,if_false,Bool.true_and]
 by_cases h2 : b.Changes[k].Value.size ≤ 40
 case neg => rw [if_pos (by simp; omega),decide_eq_false h2]; rfl
 rw [if_neg (by simp; omega),decide_eq_true h2]
 have prv : (if decide ((k : Int) > 0) = true then (at? b.Changes (w64 ((k : Int) - 1))).bind fun x => if (!Op.bytesLess x.Key.toList b.Changes[k].Key.toList) = true then some (Sum.inl false) else impl_BatchOk_l1 N b m ((k + 1 : Nat) : Int) else impl_BatchOk_l1 N b m ((k + 1 : Nat) : Int)) = if (match (b.Changes.take k).getLast? with | none => true | some q => blt q.Key b.Changes[k].Key) = true then impl_BatchOk_l1 N b m ((k + 1 : Nat) : Int) else some (.inl false) := by
  by_cases h0 : 0 < k
  ·rw [if_pos (by simpa using h0),at_prev h0 (by omega) (by omega)]
   cases hq : (b.Changes.take k).getLast? with
   | none => exact (take_none h0 hk hq).elim
   | some q =>
    simp only [bO]
    rw [show Op.bytesLess q.Key.toList b.Changes[k].Key.toList = blt q.Key b.Changes[k].Key from rfl]
    by_cases hz : blt q.Key b.Changes[k].Key = true <;> simp [hz]
  ·have : k = 0 := by omega
   subst this
   rw [if_neg (by decide)]
   rfl
 rw [prv]
 cases b.Changes[k].Gone
 ·simp
 ·by_cases h3 : b.Changes[k].Value = ⟨#[]⟩ <;> simp [h3]
theorem batOk_impl (N : Nat) (hN : Big N) (b : Batch) (hl : b.Changes.length ≤ 1099511627) : impl_BatchOk N b = some (batOk b) := by
 unfold impl_BatchOk batOk
 rw [chain_start okCh (impl_BatchOk_l1 N b) b.Changes (by unfold Big at hN; omega) (batOk_impl_step N b hl) (fun m => by rw [impl_BatchOk_l1,if_neg (by simp)])]
 cases chain okCh none b.Changes
 ·simp [oks,joinP]
 ·simp only [joinP,oks,bO,Sum.elim_inr,Bool.and_true,within_eq]
  by_cases h : 0 ≤ b.Stamp ∧ b.Stamp ≤ 100000
  ·rw [decide_eq_true h,if_pos rfl,Bool.true_and]
   congr 1
   exact decide_eq_decide.2 (by omega)
  ·rw [decide_eq_false h]; rfl
theorem batOk_spec_step (N : Nat) (b : Batch) (hl : b.Changes.length ≤ 1099511627) (m k : Nat) (hk : k < b.Changes.length) : spec_BatchOk_l1 N b (m + 1) (k : Int) = if okCh (b.Changes.take k).getLast? b.Changes[k] = true then spec_BatchOk_l1 N b m ((k + 1 : Nat) : Int) else some (.inl false) := by
 rw [spec_BatchOk_l1,if_pos (by simp; omega),at_lt hk]
 simp only [bO,key_spec,joinP]
 rw [w64_succ (by omega)]
 simp only [okCh]
 by_cases h1 : 1 ≤ b.Changes[k].Key.size ∧ b.Changes[k].Key.size ≤ 10
 case neg => simp only [decide_eq_false h1]; rfl
 simp only [decide_eq_true h1,Bool.not_true,Bool.false_eq_true,if_false,Bool.true_and]
 have rest : ∀ z : Option (Bool ⊕ Unit),(if decide ((b.Changes[k].Value.size : Int) > 40) = true then some (.inl false) else if b.Changes[k].Gone = true then (if (!decide (b.Changes[k].Value = (⟨#[]⟩ : ByteArray))) = true then some (.inl false) else z) else z) = if (decide (b.Changes[k].Value.size ≤ 40) && (!b.Changes[k].Gone || decide (b.Changes[k].Value = ⟨#[]⟩))) = true then z else some (.inl false) := by
  intro z
  by_cases h2 : b.Changes[k].Value.size ≤ 40
  ·rw [if_neg (by simp; omega),decide_eq_true h2]
   cases b.Changes[k].Gone
   ·simp
   ·by_cases h3 : b.Changes[k].Value = ⟨#[]⟩ <;> simp [h3]
  ·rw [if_pos (by simp; omega),decide_eq_false h2]
   rfl
 rw [rest]
 by_cases h0 : 0 < k
 ·rw [if_pos (by simpa using h0),at_prev h0 (by omega) (by omega)]
  cases hq : (b.Changes.take k).getLast? with
  | none => exact (take_none h0 hk hq).elim
  | some q =>
   simp only [bO]
   rw [show Op.bytesLess q.Key.toList b.Changes[k].Key.toList = blt q.Key b.Changes[k].Key from rfl]
   by_cases hz : blt q.Key b.Changes[k].Key = true <;> simp [hz]
 ·have : k = 0 := by omega
  subst this
  rw [if_neg (by decide)]
  simp
theorem batOk_spec (N : Nat) (hN : Big N) (b : Batch) (hl : b.Changes.length ≤ 1099511627) : spec_BatchOk N b = some (batOk b) := by
 unfold spec_BatchOk batOk
 rw [in_eq,bO]
 by_cases h : 0 ≤ b.Stamp ∧ b.Stamp ≤ 100000
 case neg => rw [decide_eq_false h]; rfl
 rw [decide_eq_true h,if_neg (by decide),Bool.true_and]
 by_cases h2 : b.Changes.length ≤ 60
 ·rw [if_neg (by simp; omega),chain_start okCh (spec_BatchOk_l1 N b) b.Changes (by unfold Big at hN; omega) (batOk_spec_step N b hl) (fun m => by rw [spec_BatchOk_l1,if_neg (by simp)])]
  rw [decide_eq_true h2]
  cases chain okCh none b.Changes <;> rfl
 ·rw [if_pos (by simp; omega),decide_eq_false h2]
  rfl
theorem batOk_ok {b : Batch} (h : batOk b = true) : 0 ≤ b.Stamp ∧ b.Stamp ≤ 100000 ∧ b.Changes.length ≤ 60 ∧ ∀ c ∈ b.Changes,1 ≤ c.Key.size ∧ c.Key.size ≤ 10 ∧ c.Value.size ≤ 40 := by
 simp only [batOk,Bool.and_eq_true,decide_eq_true_eq] at h
 refine ⟨h.1.1,h.1.2,h.2.1,chain_all (fun o x hx => ?_) h.2.2⟩
 simp only [okCh,Bool.and_eq_true,decide_eq_true_eq] at hx
 exact ⟨hx.1.1,hx.1.2,hx.2.1⟩
def sht (s : ByteArray) : ByteArray := encT s.size ++ s
def flg (g : Bool) : ByteArray := if g then ⟨#[1]⟩ else ⟨#[0]⟩
def chx (c : Change) : ByteArray := sht c.Key ++ flg c.Gone ++ sht c.Value
def chs : List Change → ByteArray
 | [] => ByteArray.empty
 | c :: cs => chx c ++ chs cs
def btx (b : Batch) : ByteArray := encT b.Stamp.toNat ++ encT b.Changes.length ++ chs b.Changes
theorem sht_size {s : ByteArray} (h : s.size ≤ 1000000000) : (sht s).size = (enc s.size).length + s.size ∧ (enc s.size).length ≤ 5 := by
 refine ⟨by unfold sht; rw [ByteArray.size_append,encT_size],enc_len5 h⟩
theorem flg_size (g : Bool) : (flg g).size = 1 := by cases g <;> rfl
theorem chx_size {c : Change} (h : c.Key.size ≤ 10 ∧ c.Value.size ≤ 40) : (chx c).size ≤ 61 := by
 unfold chx
 have h1 := sht_size (s := c.Key) (by omega)
 have h2 := sht_size (s := c.Value) (by omega)
 rw [ByteArray.size_append,ByteArray.size_append,flg_size]
 omega
theorem short_spec (N : Nat) (hN : Big N) (s : ByteArray) (h : s.size ≤ 1000) : spec_l05Short N s = some (sht s) := short_ok N hN s h
theorem short_impl (N : Nat) (hN : Big N) (s : ByteArray) (h : s.size ≤ 1000) : impl_short N s = some (sht s) := by
 unfold impl_short impl_ShortText
 rw [if_neg (by simp; omega),var_impl N hN s.size (by omega),if_pos (by omega)]
 simp only [bO]
 have := sht_size (s := s) (by omega)
 rw [scat_le (by rw [encT_size]; omega)]
 rfl
theorem vars_two (N : Nat) (hN : Big N) (a b : Nat) (ha : a ≤ 1000000000) (hb : b ≤ 1000000000) : impl_vars N [(a : Int),(b : Int)] = some (encT a ++ encT b,true) := by
 have hl := enc_len5 ha
 have hl2 := enc_len5 hb
 unfold impl_vars
 simp only [joinP]
 obtain ⟨K,rfl⟩ : ∃ K,N = K + 3 := ⟨N - 3,by unfold Big at hN; omega⟩
 have e1 := var_impl (K + 3) hN a (by omega)
 have e2 := var_impl (K + 3) hN b (by omega)
 rw [if_pos ha] at e1
 rw [if_pos hb] at e2
 have c1 : cat? ([] : List Int) (intsOf (encT a)) = some ([] ++ intsOf (encT a)) := if_pos (by rw [show (intsOf (encT a)).length = (encT a).size by unfold intsOf; rw [List.length_map,Array.length_toList]; rfl,encT_size]; simp; omega)
 have c2 : cat? ([] ++ intsOf (encT a)) (intsOf (encT b)) = some ([] ++ intsOf (encT a) ++ intsOf (encT b)) := if_pos (by
  rw [List.nil_append,show (intsOf (encT b)).length = (encT b).size by unfold intsOf; rw [List.length_map,Array.length_toList]; rfl,show (intsOf (encT a)).length = (encT a).size by unfold intsOf; rw [List.length_map,Array.length_toList]; rfl,encT_size,encT_size]; omega)
 rw [show impl_vars_l1 (K + 3) [(a : Int),(b : Int)] (K + 3) 0 [] = some (.inr ([] ++ intsOf (encT a) ++ intsOf (encT b))) from ?_]
 ·simp only [bO,Sum.elim_inr,List.nil_append]
  rw [strOf_cat,strOf_ints,strOf_ints]
 ·rw [impl_vars_l1,if_pos (by simp),show at? [(a : Int),(b : Int)] 0 = some (a : Int) from rfl,bO,e1,bO]
  simp only [Bool.not_true,Bool.false_eq_true,↓reduceIte]
  rw [c1,bO,show w64 (0 + 1) = 1 from by decide,impl_vars_l1,if_pos (by simp),show at? [(a : Int),(b : Int)] 1 = some (b : Int) from rfl,bO,e2,bO]
  simp only [Bool.not_true,Bool.false_eq_true,↓reduceIte]
  rw [c2,bO,show w64 (1 + 1) = 2 from by decide,impl_vars_l1,if_neg (by simp)]
theorem btext_impl (N : Nat) (hN : Big N) (b : Batch) (hl : b.Changes.length ≤ 1099511627) : impl_BatchText N b = some (if batOk b then (btx b,true) else (⟨#[]⟩,false)) := by
 unfold impl_BatchText
 rw [batOk_impl N hN b hl,bO]
 cases hb : batOk b with
 | false => rfl
 | true =>
  obtain ⟨h1,h2,h3,h4⟩ := batOk_ok hb
  obtain ⟨s,hs⟩ : ∃ s : Nat,b.Stamp = s := ⟨b.Stamp.toNat,by omega⟩
  simp only [Bool.not_true,Bool.false_eq_true,↓reduceIte]
  rw [hs,vars_two N hN s _ (by omega) (by omega),bO]
  simp only [joinP]
  have key : ∀ (d k m : Nat) (acc : ByteArray),b.Changes.length = k + d → d < m → acc.size ≤ 10 + 61 * k → impl_BatchText_l1 N b m acc (k : Int) = some (acc ++ chs (b.Changes.drop k)) := by
   intro d
   induction d with
   | zero =>
    intro k m acc hd hm ha
    obtain ⟨m,rfl⟩ : ∃ q,m = q + 1 := ⟨m - 1,by omega⟩
    rw [impl_BatchText_l1,if_neg (by simp; omega),List.drop_eq_nil_of_le (by omega),chs,ByteArray.append_empty]
   | succ d ih =>
    intro k m acc hd hm ha
    obtain ⟨m,rfl⟩ : ∃ q,m = q + 1 := ⟨m - 1,by omega⟩
    have hk : k < b.Changes.length := by omega
    obtain ⟨g1,g2,g3⟩ := h4 _ (List.getElem_mem hk)
    have hz := chx_size (c := b.Changes[k]) ⟨g2,g3⟩
    have z1 := sht_size (s := b.Changes[k].Key) (by omega)
    have z2 := sht_size (s := b.Changes[k].Value) (by omega)
    have hf : impl_flag N b.Changes[k].Gone = some (flg b.Changes[k].Gone) := by unfold impl_flag flg; split <;> rfl
    rw [impl_BatchText_l1,if_pos (by simp; omega),at_lt hk]
    simp only [bO]
    rw [short_impl N hN _ (by omega),hf]
    simp only [bO]
    rw [scat_le (by rw [flg_size]; omega),bO,short_impl N hN _ (by omega),bO,scat_le (by rw [ByteArray.size_append,flg_size]; omega),bO]
    have hx : sht b.Changes[k].Key ++ flg b.Changes[k].Gone ++ sht b.Changes[k].Value = chx b.Changes[k] := rfl
    rw [hx,scat_le (by omega),bO,w64_succ (by omega),ih (k + 1) m _ (by omega) (by omega) (by rw [ByteArray.size_append]; omega),List.drop_eq_getElem_cons hk,chs,ByteArray.append_assoc]
  have z1 := enc_len5 (n := s) (by omega)
  have z2 := enc_len5 (n := b.Changes.length) (by omega)
  have := key b.Changes.length 0 N (encT s ++ encT b.Changes.length) (by omega) (by unfold Big at hN; omega) (by rw [ByteArray.size_append,encT_size,encT_size]; omega)
  rw [show ((0 : Nat) : Int) = 0 from rfl] at this
  rw [this,bO,List.drop_zero]
  unfold btx
  rw [hs]
  rfl
theorem btext_spec (N : Nat) (hN : Big N) (b : Batch) (hl : b.Changes.length ≤ 1099511627) : spec_BatchText N b = some (if batOk b then (btx b,true) else (⟨#[]⟩,false)) := by
 unfold spec_BatchText
 rw [batOk_spec N hN b hl,bO]
 cases hb : batOk b with
 | false => rfl
 | true =>
  obtain ⟨h1,h2,h3,h4⟩ := batOk_ok hb
  obtain ⟨s,hs⟩ : ∃ s : Nat,b.Stamp = s := ⟨b.Stamp.toNat,by omega⟩
  simp only [Bool.not_true,Bool.false_eq_true,↓reduceIte]
  have z1 := enc_len5 (n := s) (by omega)
  have z2 := enc_len5 (n := b.Changes.length) (by omega)
  rw [hs,var_spec N hN s (by omega),bO,var_spec N hN _ (by omega),bO,scat_le (by rw [encT_size,encT_size]; omega),bO]
  simp only [joinP]
  have key : ∀ (d k m : Nat) (acc : ByteArray),b.Changes.length = k + d → d < m → acc.size ≤ 10 + 61 * k → spec_BatchText_l1 N b m acc (k : Int) = some (acc ++ chs (b.Changes.drop k)) := by
   intro d
   induction d with
   | zero =>
    intro k m acc hd hm ha
    obtain ⟨m,rfl⟩ : ∃ q,m = q + 1 := ⟨m - 1,by omega⟩
    rw [spec_BatchText_l1,if_neg (by simp; omega),List.drop_eq_nil_of_le (by omega),chs,ByteArray.append_empty]
   | succ d ih =>
    intro k m acc hd hm ha
    obtain ⟨m,rfl⟩ : ∃ q,m = q + 1 := ⟨m - 1,by omega⟩
    have hk : k < b.Changes.length := by omega
    obtain ⟨g1,g2,g3⟩ := h4 _ (List.getElem_mem hk)
    have hz := chx_size (c := b.Changes[k]) ⟨g2,g3⟩
    have z1 := sht_size (s := b.Changes[k].Key) (by omega)
    have z2 := sht_size (s := b.Changes[k].Value) (by omega)
    rw [spec_BatchText_l1,if_pos (by simp; omega)]
    simp only [joinP,at_lt hk,bO]
    rw [short_spec N hN _ (by omega),short_spec N hN _ (by omega)]
    simp only [bO]
    have step : ∀ g : ByteArray,g.size = 1 → ((scat? acc (sht b.Changes[k].Key)).bind fun x => (scat? x g).bind fun x => (scat? x (sht b.Changes[k].Value)).bind fun x => spec_BatchText_l1 N b m x (w64 ((k : Int) + 1))) = spec_BatchText_l1 N b m (acc ++ (sht b.Changes[k].Key ++ g ++ sht b.Changes[k].Value)) ((k + 1 : Nat) : Int) := by
     intro g hg
     rw [scat_le (by omega),bO,scat_le (by rw [ByteArray.size_append]; omega),bO,scat_le (by rw [ByteArray.size_append,ByteArray.size_append]; omega),bO,w64_succ (by omega)]
     simp only [ByteArray.append_assoc]
    rw [step _ rfl,step _ rfl]
    have hfl : ∀ z : ByteArray → Option ByteArray,(if b.Changes[k].Gone = true then z ⟨#[1]⟩ else z ⟨#[0]⟩) = z (flg b.Changes[k].Gone) := by
     intro z; cases b.Changes[k].Gone <;> rfl
    rw [hfl fun g => spec_BatchText_l1 N b m (acc ++ (sht b.Changes[k].Key ++ g ++ sht b.Changes[k].Value)) ((k + 1 : Nat) : Int)]
    have hx : sht b.Changes[k].Key ++ flg b.Changes[k].Gone ++ sht b.Changes[k].Value = chx b.Changes[k] := rfl
    rw [hx,ih (k + 1) m _ (by omega) (by omega) (by rw [ByteArray.size_append]; omega),List.drop_eq_getElem_cons hk,chs,ByteArray.append_assoc]
  have := key b.Changes.length 0 N (encT s ++ encT b.Changes.length) (by omega) (by unfold Big at hN; omega) (by rw [ByteArray.size_append,encT_size,encT_size]; omega)
  rw [show ((0 : Nat) : Int) = 0 from rfl] at this
  rw [this,bO,List.drop_zero]
  unfold btx
  rw [hs]
  rfl
def pch (t : ByteArray) (a : Nat) : Option (Change × Nat) := match ps t a with
 | some (k,b) => if b < t.size then
   match ps t (b + 1) with
   | some (v,c) => some (⟨k,v,decide (t.extract b (b + 1) = ⟨#[1]⟩)⟩,c)
   | none => none
  else none
 | none => none
def pchs (t : ByteArray) : Nat → Nat → Nat → Option (List Change × Nat)
 | _,0,a => some ([],a)
 | 0,_ + 1,_ => none
 | f + 1,n + 1,a => match pch t a with
  | some (c,b) => match pchs t f n b with
   | some (cs,e) => some (c :: cs,e)
   | none => none
  | none => none
theorem ps_pos {t s : ByteArray} {a b : Nat} (ha : a ≤ t.size) (h : ps t a = some (s,b)) : a < b ∧ b ≤ t.size := by
 obtain ⟨h1,h2,h3,h4⟩ := ps_some ha h
 refine ⟨?_,h2⟩
 have := congrArg ByteArray.size h3
 rw [ByteArray.size_append,encT_size,ext_size t a b h1 h2] at this
 have := enc_pos s.size
 omega
theorem pch_pos {t : ByteArray} {c : Change} {a b : Nat} (ha : a ≤ t.size) (h : pch t a = some (c,b)) : a < b ∧ b ≤ t.size := by
 unfold pch at h
 split at h <;> try cases h
 rename_i k e h1
 obtain ⟨h2,h3⟩ := ps_pos ha h1
 split at h <;> try cases h
 rename_i h4
 split at h <;> try cases h
 rename_i v e2 h5
 have := ps_pos (by omega) h5
 omega
theorem pchs_pos {t : ByteArray} : ∀ {f n a e : Nat} {cs : List Change},a ≤ t.size → pchs t f n a = some (cs,e) → a + cs.length ≤ e ∧ e ≤ t.size
 | f,0,a,e,cs,ha,h => by
  cases f <;> (simp only [pchs,Option.some.injEq,Prod.mk.injEq] at h; obtain ⟨rfl,rfl⟩ := h; exact ⟨by simp,ha⟩)
 | 0,n + 1,a,e,cs,ha,h => by simp [pchs] at h
 | f + 1,n + 1,a,e,cs,ha,h => by
  simp only [pchs] at h
  split at h <;> try cases h
  rename_i c b h1
  obtain ⟨h2,h3⟩ := pch_pos ha h1
  split at h <;> try cases h
  rename_i cs' e' h4
  obtain ⟨h5,h6⟩ := pchs_pos h3 h4
  simp only [List.length_cons]
  omega
theorem tx_any (N : Nat) (hN : Big N) (t : ByteArray) (a : Nat) (ht : t.size ≤ 20000) (ha : a ≤ t.size) : ∃ x,reader_text N ⟨t,a,false⟩ = some x ∧ match ps t a with | some (s,b) => x = (s,⟨t,b,false⟩) | none => x = (⟨#[]⟩,⟨t,a,true⟩) := by
 obtain ⟨x,h1,h2⟩ := tx_ok N hN t a (by omega) ha
 refine ⟨x,h1,?_⟩
 cases h : ps t a with
 | none => rw [h] at h2; exact h2
 | some q =>
  obtain ⟨s,b⟩ := q
  rw [h] at h2
  have := (ps_some ha h).2.2.2
  simp only at h2 ⊢
  rw [if_pos (by omega)] at h2
  exact h2
theorem byte_ok (N : Nat) (t : ByteArray) (a : Nat) (ht : t.size ≤ 1099511627) (ha : a ≤ t.size) : ∃ x : Int × Treader,reader_byte N ⟨t,a,false⟩ = some x ∧ if a < t.size then x.2 = ⟨t,((a + 1 : Nat) : Int),false⟩ ∧ (x.1 == 1) = decide (t.extract a (a + 1) = ⟨#[1]⟩) else x = (0,⟨t,a,true⟩) := by
 unfold reader_byte
 simp only [Bool.false_eq_true,↓reduceIte]
 by_cases h : a < t.size
 ·rw [if_neg (by simp; omega),w64_succ (by omega),w64_id (by omega) (by omega),show ((a + 1 : Nat) : Int) - 1 = (a : Int) by omega]
  have hlt : a < t.data.toList.length := by rw [Array.length_toList]; exact h
  have hc := List.drop_eq_getElem_cons hlt
  generalize t.data.toList[a] = c at hc
  have hx : (t.extract a (a + 1)).data.toList = [c] := by
   rw [ext_toList t a (a + 1) (by omega) (by omega),hc]
   simp
  rw [sat_at hc,bO]
  refine ⟨_,rfl,?_⟩
  rw [if_pos h]
  refine ⟨rfl,?_⟩
  have hc8 := c.toNat_lt
  rw [w64_id (by omega) (by omega)]
  have e : (t.extract a (a + 1) = ⟨#[1]⟩) ↔ c.toNat = 1 := by
   constructor
   ·intro h
    rw [h] at hx
    have : (1 : UInt8) = c := by simpa using hx
    rw [← this]
    rfl
   ·intro h
    apply ba_ext'
    rw [hx]
    have : c = 1 := UInt8.toNat_inj.1 (by rw [h]; rfl)
    rw [this]
  by_cases h1 : c.toNat = 1
  ·rw [decide_eq_true (e.2 h1),h1]; rfl
  ·rw [decide_eq_false (fun h => h1 (e.1 h))]
   simp only [beq_eq_false_iff_ne,ne_eq]
   omega
 ·rw [if_pos (by simp; omega)]
  exact ⟨_,rfl,by rw [if_neg h]⟩
theorem sch_ok (N : Nat) (hN : Big N) (t : ByteArray) (a : Nat) (ht : t.size ≤ 20000) (ha : a ≤ t.size) : ∃ y1 y2 y3,spec_l05ReadShort N ⟨t,a,false⟩ = some y1 ∧ spec_l05Take N y1.2 1 = some y2 ∧ spec_l05ReadShort N y2.2 = some y3 ∧
  match pch t a with
  | some (c,b) => y3.2 = ⟨t,(b : Int),false⟩ ∧ Change.mk y1.1 y3.1 (decide (y2.1 = (⟨#[1]⟩ : ByteArray))) = c
  | none => ∃ b : Nat,b ≤ t.size ∧ y3.2 = ⟨t,(b : Int),true⟩ := by
 obtain ⟨y1,h1,g1⟩ := ss_ok N hN t a (by omega) ha
 unfold pch
 cases hp : ps t a with
 | none =>
  rw [hp] at g1
  obtain ⟨b,hb,rfl⟩ := g1
  exact ⟨_,_,_,h1,take_bad N t b 1,ss_bad N hN t b (by omega) hb,b,hb,rfl⟩
 | some q =>
  obtain ⟨k,b⟩ := q
  rw [hp] at g1
  simp only at g1
  subst g1
  obtain ⟨h2,h3⟩ := ps_pos ha hp
  have h4 := take_ok N t b 1 (by omega) h3 (by omega)
  simp only
  by_cases hb : b < t.size
  ·rw [if_pos (by omega)] at h4
   rw [if_pos hb]
   obtain ⟨y3,h5,g3⟩ := ss_ok N hN t (b + 1) (by omega) (by omega)
   cases hp2 : ps t (b + 1) with
   | none =>
    rw [hp2] at g3
    obtain ⟨e,he,rfl⟩ := g3
    exact ⟨_,_,_,h1,h4,h5,e,he,rfl⟩
   | some q2 =>
    obtain ⟨v,e⟩ := q2
    rw [hp2] at g3
    simp only at g3
    subst g3
    exact ⟨_,_,_,h1,h4,h5,rfl,rfl⟩
  ·rw [if_neg (by omega)] at h4
   rw [if_neg hb]
   exact ⟨_,_,_,h1,h4,ss_bad N hN t b (by omega) h3,b,h3,rfl⟩
theorem byte_bad (N : Nat) (t : ByteArray) (a : Int) : reader_byte N ⟨t,a,true⟩ = some (0,⟨t,a,true⟩) := rfl
theorem ich_ok (N : Nat) (hN : Big N) (t : ByteArray) (a : Nat) (ht : t.size ≤ 20000) (ha : a ≤ t.size) (s : Int) (acc : List Change) (hl : acc.length ≤ 1000000) : ∃ y,impl_ReadBatch_1 N ⟨t,a,false⟩ ⟨s,acc⟩ = some y ∧
  match pch t a with
  | some (c,b) => y = (⟨s,acc ++ [c]⟩,⟨t,(b : Int),false⟩)
  | none => ∃ (b : Nat) (c : Change),b ≤ t.size ∧ y = (⟨s,acc ++ [c]⟩,⟨t,(b : Int),true⟩) := by
 obtain ⟨y1,h1,g1⟩ := tx_any N hN t a ht ha
 have hcat : ∀ c : Change,cat? acc [c] = some (acc ++ [c]) := fun c => if_pos (by simp; omega)
 unfold impl_ReadBatch_1 pch
 rw [h1,bO]
 cases hp : ps t a with
 | none =>
  rw [hp] at g1
  simp only at g1
  subst g1
  simp only [byte_bad,bO,tx_bad N hN t a (by omega) ha,hcat]
  exact ⟨_,rfl,a,_,ha,rfl⟩
 | some q =>
  obtain ⟨k,b⟩ := q
  rw [hp] at g1
  simp only at g1
  subst g1
  obtain ⟨h2,h3⟩ := ps_pos ha hp
  obtain ⟨y2,h4,g2⟩ := byte_ok N t b (by omega) h3
  simp only
  rw [h4,bO]
  by_cases hb : b < t.size
  ·rw [if_pos hb] at g2 ⊢
   obtain ⟨y3,h5,g3⟩ := tx_any N hN t (b + 1) ht (by omega)
   rw [g2.1,h5,bO,g2.2]
   cases hp2 : ps t (b + 1) with
   | none =>
    rw [hp2] at g3
    simp only at g3
    subst g3
    simp only [hcat,bO]
    exact ⟨_,rfl,b + 1,_,by omega,rfl⟩
   | some q2 =>
    obtain ⟨v,e⟩ := q2
    rw [hp2] at g3
    simp only at g3
    subst g3
    simp only [hcat,bO]
    exact ⟨_,rfl,rfl⟩
  ·rw [if_neg hb] at g2 ⊢
   subst g2
   simp only [tx_bad N hN t b (by omega) h3,bO,hcat]
   exact ⟨_,rfl,b,_,h3,rfl⟩
def chRes (t : ByteArray) (acc : List Change) (r : Option (List Change × Nat)) (at' : Int) (bad : Bool) (l : List Change) : Prop := match r with
 | some (cs,e) => at' = (e : Int) ∧ bad = false ∧ l = acc ++ cs
 | none => bad = true ∧ l.length ≤ 1000000
theorem sch_loop (N : Nat) (hN : Big N) (t : ByteArray) (ht : t.size ≤ 20000) (y : Int × Tl05Cur) (n : Nat) (hy : y.1 = (n : Int)) (hn : n ≤ 1000000000) : ∀ (d a i m : Nat) (acc : List Change),a ≤ t.size → t.size ≤ a + d → i ≤ n → d + 1 < m → acc.length + d ≤ 100000 → ∃ at' bad l,spec_ReadBatch_l1 N y m (i : Int) t (a : Int) false acc = some (t,at',bad,l) ∧ chRes t acc (pchs t (d + 1) (n - i) a) at' bad l := by
 intro d
 induction d with
 | zero =>
  intro a i m acc ha had hi hm hacc
  obtain ⟨m,rfl⟩ : ∃ q,m = q + 1 := ⟨m - 1,by omega⟩
  rw [spec_ReadBatch_l1,hy]
  by_cases hlt : i < n
  ·rw [if_pos (by simp; omega),if_pos (show (!false) = true from rfl)]
   obtain ⟨y1,y2,y3,e1,e2,e3,g⟩ := sch_ok N hN t a ht ha
   obtain ⟨k,hk⟩ : ∃ k,n - i = k + 1 := ⟨n - i - 1,by omega⟩
   have hcat : ∀ c : Change,cat? acc [c] = some (acc ++ [c]) := fun c => if_pos (by simp; omega)
   simp only [e1,e2,e3,bO,hcat]
   rw [hk,pchs]
   cases hp : pch t a with
   | some q => have := pch_pos ha (c := q.1) (b := q.2) hp; omega
   | none =>
    rw [hp] at g
    obtain ⟨b,hb,g⟩ := g
    rw [g]
    obtain ⟨m,rfl⟩ : ∃ q,m = q + 1 := ⟨m - 1,by omega⟩
    simp only
    generalize (Change.mk y1.1 y3.1 (decide (y2.1 = (⟨#[1]⟩ : ByteArray)))) = ch
    rw [spec_ReadBatch_l1]
    have hl : ∀ c : Change,(acc ++ [c]).length ≤ 1000000 := fun c => by rw [List.length_append,List.length_singleton]; omega
    refine ⟨(b : Int),true,acc ++ [ch],?_,rfl,hl ch⟩
    split <;> rfl
  ·rw [if_neg (by simp; omega),show n - i = 0 by omega]
   exact ⟨_,_,_,rfl,rfl,rfl,by simp⟩
 | succ d ih =>
  intro a i m acc ha had hi hm hacc
  obtain ⟨m,rfl⟩ : ∃ q,m = q + 1 := ⟨m - 1,by omega⟩
  rw [spec_ReadBatch_l1,hy]
  by_cases hlt : i < n
  ·rw [if_pos (by simp; omega),if_pos (show (!false) = true from rfl)]
   obtain ⟨y1,y2,y3,e1,e2,e3,g⟩ := sch_ok N hN t a ht ha
   obtain ⟨k,hk⟩ : ∃ k,n - i = k + 1 := ⟨n - i - 1,by omega⟩
   have hcat : ∀ c : Change,cat? acc [c] = some (acc ++ [c]) := fun c => if_pos (by simp; omega)
   simp only [e1,e2,e3,bO,hcat]
   rw [hk,pchs]
   cases hp : pch t a with
   | some q =>
    obtain ⟨c,b⟩ := q
    obtain ⟨p1,p2⟩ := pch_pos ha hp
    rw [hp] at g
    obtain ⟨g1,g2⟩ := g
    rw [g1,g2]
    simp only
    rw [w64_succ (by omega)]
    obtain ⟨at',bad,l,f1,f2⟩ := ih b (i + 1) m (acc ++ [c]) p2 (by omega) (by omega) (by omega) (by simp; omega)
    refine ⟨at',bad,l,f1,?_⟩
    rw [show n - (i + 1) = k by omega] at f2
    cases hq : pchs t (d + 1) k b with
    | none => rw [hq] at f2; exact f2
    | some q =>
     obtain ⟨cs,e⟩ := q
     rw [hq] at f2
     obtain ⟨f3,f4,f5⟩ := f2
     exact ⟨f3,f4,by rw [f5,List.append_assoc]; rfl⟩
   | none =>
    rw [hp] at g
    obtain ⟨b,hb,g⟩ := g
    rw [g]
    obtain ⟨m,rfl⟩ : ∃ q,m = q + 1 := ⟨m - 1,by omega⟩
    simp only
    generalize (Change.mk y1.1 y3.1 (decide (y2.1 = (⟨#[1]⟩ : ByteArray)))) = ch
    rw [spec_ReadBatch_l1]
    have hl : ∀ c : Change,(acc ++ [c]).length ≤ 1000000 := fun c => by rw [List.length_append,List.length_singleton]; omega
    refine ⟨(b : Int),true,acc ++ [ch],?_,rfl,hl ch⟩
    split <;> rfl
  ·rw [if_neg (by simp; omega),show n - i = 0 by omega]
   exact ⟨_,_,_,rfl,rfl,rfl,by simp⟩
theorem ich_loop (N : Nat) (hN : Big N) (t : ByteArray) (ht : t.size ≤ 20000) (y : Int × Treader) (n : Nat) (hy : y.1 = (n : Int)) (hn : n ≤ 1000000000) (s : Int) : ∀ (d a i m : Nat) (acc : List Change),a ≤ t.size → t.size ≤ a + d → i ≤ n → d + 1 < m → acc.length + d ≤ 100000 → ∃ at' bad l,reader_each_i2_l1 N y m (i : Int) t (a : Int) false s acc = some (t,at',bad,s,l) ∧ chRes t acc (pchs t (d + 1) (n - i) a) at' bad l := by
 intro d
 induction d with
 | zero =>
  intro a i m acc ha had hi hm hacc
  obtain ⟨m,rfl⟩ : ∃ q,m = q + 1 := ⟨m - 1,by omega⟩
  rw [reader_each_i2_l1,hy]
  by_cases hlt : i < n
  ·rw [if_pos (by simp; omega),if_pos (show (!false) = true from rfl)]
   obtain ⟨z,e1,g⟩ := ich_ok N hN t a ht ha s acc (by omega)
   obtain ⟨k,hk⟩ : ∃ k,n - i = k + 1 := ⟨n - i - 1,by omega⟩
   rw [e1,bO,hk,pchs]
   cases hp : pch t a with
   | some q => have := pch_pos ha (c := q.1) (b := q.2) hp; omega
   | none =>
    rw [hp] at g
    obtain ⟨b,c,hb,rfl⟩ := g
    obtain ⟨m,rfl⟩ : ∃ q,m = q + 1 := ⟨m - 1,by omega⟩
    simp only
    rw [reader_each_i2_l1]
    have hl : ∀ c : Change,(acc ++ [c]).length ≤ 1000000 := fun c => by rw [List.length_append,List.length_singleton]; omega
    refine ⟨(b : Int),true,acc ++ [c],?_,rfl,hl c⟩
    split <;> rfl
  ·rw [if_neg (by simp; omega),show n - i = 0 by omega]
   exact ⟨_,_,_,rfl,rfl,rfl,by simp⟩
 | succ d ih =>
  intro a i m acc ha had hi hm hacc
  obtain ⟨m,rfl⟩ : ∃ q,m = q + 1 := ⟨m - 1,by omega⟩
  rw [reader_each_i2_l1,hy]
  by_cases hlt : i < n
  ·rw [if_pos (by simp; omega),if_pos (show (!false) = true from rfl)]
   obtain ⟨z,e1,g⟩ := ich_ok N hN t a ht ha s acc (by omega)
   obtain ⟨k,hk⟩ : ∃ k,n - i = k + 1 := ⟨n - i - 1,by omega⟩
   rw [e1,bO,hk,pchs]
   cases hp : pch t a with
   | some q =>
    obtain ⟨c,b⟩ := q
    obtain ⟨p1,p2⟩ := pch_pos ha hp
    rw [hp] at g
    simp only at g
    subst g
    simp only
    rw [w64_succ (by omega)]
    obtain ⟨at',bad,l,f1,f2⟩ := ih b (i + 1) m (acc ++ [c]) p2 (by omega) (by omega) (by omega) (by simp; omega)
    refine ⟨at',bad,l,f1,?_⟩
    rw [show n - (i + 1) = k by omega] at f2
    cases hq : pchs t (d + 1) k b with
    | none => rw [hq] at f2; exact f2
    | some q =>
     obtain ⟨cs,e⟩ := q
     rw [hq] at f2
     obtain ⟨f3,f4,f5⟩ := f2
     exact ⟨f3,f4,by rw [f5,List.append_assoc]; rfl⟩
   | none =>
    rw [hp] at g
    obtain ⟨b,c,hb,rfl⟩ := g
    obtain ⟨m,rfl⟩ : ∃ q,m = q + 1 := ⟨m - 1,by omega⟩
    simp only
    rw [reader_each_i2_l1]
    have hl : ∀ c : Change,(acc ++ [c]).length ≤ 1000000 := fun c => by rw [List.length_append,List.length_singleton]; omega
    refine ⟨(b : Int),true,acc ++ [c],?_,rfl,hl c⟩
    split <;> rfl
  ·rw [if_neg (by simp; omega),show n - i = 0 by omega]
   exact ⟨_,_,_,rfl,rfl,rfl,by simp⟩
def rbat (t : ByteArray) : Batch × Bool := match pv t 0 with
 | some (s,a) => match pv t a with
  | some (n,b) => match pchs t (t.size + 1) n b with
   | some (cs,_) => if batOk ⟨s,cs⟩ = true ∧ btx ⟨s,cs⟩ = t then (⟨s,cs⟩,true) else (⟨0,[]⟩,false)
   | none => (⟨0,[]⟩,false)
  | none => (⟨0,[]⟩,false)
 | none => (⟨0,[]⟩,false)
theorem rbat_ok {t : ByteArray} (h : (rbat t).2 = true) : batOk (rbat t).1 = true := by
 unfold rbat at h ⊢
 split at h <;> try cases h
 split at h <;> try cases h
 split at h <;> try cases h
 split at h <;> try cases h
 rename_i h1
 rw [if_pos h1]
 exact h1.1
theorem bat_end (N : Nat) (t : ByteArray) (b : Batch) (f : Option (ByteArray × Bool)) (hf : f = some (if batOk b then (btx b,true) else (⟨#[]⟩,false))) : (f.bind fun y => if (!y.2) = true then some ((⟨0,[]⟩ : Batch),false) else if (!decide (y.1 = t)) = true then some (⟨0,[]⟩,false) else some (b,true)) = some (if batOk b = true ∧ btx b = t then (b,true) else (⟨0,[]⟩,false)) := by
 rw [hf,bO]
 cases hb : batOk b with
 | false => rfl
 | true =>
  by_cases h : btx b = t
  ·simp [h]
  ·simp [h]
theorem rbat_impl (N : Nat) (hN : Big N) (t : ByteArray) (ht : t.size ≤ 20000) : impl_ReadBatch N t = some (rbat t) := by
 unfold impl_ReadBatch rbat
 rw [show (0 : Int) = ((0 : Nat) : Int) from rfl,nv_ok N hN t 0 (by omega) (by omega),bO]
 have hbt : ∀ b : Batch,b.Changes.length ≤ 1000000 → ∃ r,impl_BatchText N b = some r := fun b hb => ⟨_,btext_impl N hN b (by omega)⟩
 obtain ⟨K,hK⟩ : ∃ K,N = K + 1 := ⟨N - 1,by unfold Big at hN; omega⟩
 cases h1 : pv t 0 with
 | none =>
  simp only
  unfold reader_each_i2
  rw [show ((0 : Nat) : Int) = 0 from rfl] at *
  rw [show (0 : Int) = ((0 : Nat) : Int) from rfl,nv_bad N hN t 0 (by omega) (by omega),bO]
  simp only
  rw [hK,reader_each_i2_l1,if_neg (by simp),← hK]
  obtain ⟨r,e⟩ := hbt ⟨((0 : Nat) : Int),[]⟩ (by simp)
  simp only [bO] at e ⊢
  rw [show ((0 : Nat) : Int) = 0 from rfl] at e ⊢
  rw [e]
  rfl
 | some q =>
  obtain ⟨s,a⟩ := q
  obtain ⟨p1,p2,p3,_⟩ := pv_some (Nat.zero_le _) h1
  simp only
  unfold reader_each_i2
  rw [nv_ok N hN t a (by omega) p3,bO]
  cases h2 : pv t a with
  | none =>
   simp only
   rw [hK,reader_each_i2_l1,if_neg (by simp),← hK]
   obtain ⟨r,e⟩ := hbt ⟨(s : Int),[]⟩ (by simp)
   simp only [bO]
   rw [e]
   rfl
  | some q2 =>
   obtain ⟨n,b⟩ := q2
   obtain ⟨p4,p5,p6,_⟩ := pv_some p3 h2
   simp only
   obtain ⟨at',bad,l,f1,f2⟩ := ich_loop N hN t ht ((n : Int),⟨t,(b : Int),false⟩) n rfl p4 (s : Int) t.size b 0 N [] p6 (by omega) (by omega) (by unfold Big at hN; omega) (by simp; omega)
   rw [show ((0 : Nat) : Int) = 0 from rfl] at f1
   rw [f1]
   simp only [bO]
   rw [Nat.sub_zero] at f2
   cases h3 : pchs t (t.size + 1) n b with
   | none =>
    rw [h3] at f2
    obtain ⟨rfl,f3⟩ := f2
    obtain ⟨r,e⟩ := hbt ⟨(s : Int),l⟩ f3
    rw [e]
    rfl
   | some q3 =>
    obtain ⟨cs,e⟩ := q3
    rw [h3] at f2
    obtain ⟨_,rfl,f4⟩ := f2
    rw [List.nil_append] at f4
    subst f4
    have hz := (pchs_pos p6 h3).1
    have := (pchs_pos p6 h3).2
    simp only [Bool.false_eq_true,↓reduceIte]
    exact bat_end N t ⟨s,l⟩ _ (btext_impl N hN ⟨s,l⟩ (by simp only; omega))
theorem rbat_spec (N : Nat) (hN : Big N) (t : ByteArray) (ht : t.size ≤ 20000) : spec_ReadBatch N t = some (rbat t) := by
 unfold spec_ReadBatch rbat
 rw [show (0 : Int) = ((0 : Nat) : Int) from rfl,sv_ok N hN t 0 (by omega) (by omega),bO]
 have hbt : ∀ b : Batch,b.Changes.length ≤ 1000000 → ∃ r,spec_BatchText N b = some r := fun b hb => ⟨_,btext_spec N hN b (by omega)⟩
 obtain ⟨K,hK⟩ : ∃ K,N = K + 1 := ⟨N - 1,by unfold Big at hN; omega⟩
 cases h1 : pv t 0 with
 | none =>
  simp only
  rw [sv_bad N hN t 0 (by omega) (by omega),bO]
  simp only [joinP]
  rw [hK,spec_ReadBatch_l1,if_neg (by simp),← hK]
  obtain ⟨r,e⟩ := hbt ⟨0,[]⟩ (by simp)
  simp only [bO]
  rw [e]
  rfl
 | some q =>
  obtain ⟨s,a⟩ := q
  obtain ⟨p1,p2,p3,_⟩ := pv_some (Nat.zero_le _) h1
  simp only
  rw [sv_ok N hN t a (by omega) p3,bO]
  simp only [joinP]
  cases h2 : pv t a with
  | none =>
   simp only
   rw [hK,spec_ReadBatch_l1,if_neg (by simp),← hK]
   obtain ⟨r,e⟩ := hbt ⟨(s : Int),[]⟩ (by simp)
   simp only [bO]
   rw [e]
   rfl
  | some q2 =>
   obtain ⟨n,b⟩ := q2
   obtain ⟨p4,p5,p6,_⟩ := pv_some p3 h2
   simp only
   obtain ⟨at',bad,l,f1,f2⟩ := sch_loop N hN t ht ((n : Int),⟨t,(b : Int),false⟩) n rfl p4 t.size b 0 N [] p6 (by omega) (by omega) (by unfold Big at hN; omega) (by simp; omega)
   rw [f1]
   simp only [bO]
   rw [Nat.sub_zero] at f2
   cases h3 : pchs t (t.size + 1) n b with
   | none =>
    rw [h3] at f2
    obtain ⟨rfl,f3⟩ := f2
    obtain ⟨r,e⟩ := hbt ⟨(s : Int),l⟩ f3
    rw [e]
    rfl
   | some q3 =>
    obtain ⟨cs,e⟩ := q3
    rw [h3] at f2
    obtain ⟨_,rfl,f4⟩ := f2
    rw [List.nil_append] at f4
    subst f4
    have hz := (pchs_pos p6 h3).1
    have := (pchs_pos p6 h3).2
    simp only [Bool.false_eq_true,↓reduceIte]
    exact bat_end N t ⟨s,l⟩ _ (btext_spec N hN ⟨s,l⟩ (by simp only; omega))
theorem w64_nat {a b : Nat} (h : a + b ≤ 4611686018427387904) : w64 ((a : Int) + (b : Int)) = ((a + b : Nat) : Int) := by
 rw [w64_id (by omega) (by omega)]
 omega
theorem cat_le {α : Type} {x y : List α} (h : x.length + y.length ≤ 68719476736) : cat? x y = some (x ++ y) := if_pos h
def chOkS (c : Change) : Prop := 1 ≤ c.Key.size ∧ c.Key.size ≤ 10 ∧ c.Value.size ≤ 40
def vpos (c : Change) (p : Nat) : Nat := p + (sht c.Key).size + 1 + (enc c.Value.size).length
def spt (seg : Int) (c : Change) (p : Nat) : Spot := if c.Gone = true then ⟨c.Key,seg,0,-1⟩ else ⟨c.Key,seg,(vpos c p : Int),(c.Value.size : Int)⟩
def spts (seg : Int) : List Change → Nat → List Spot
 | [],_ => []
 | c :: cs,p => spt seg c p :: spts seg cs (vpos c p + c.Value.size)
theorem vpos_le {c : Change} (h : chOkS c) (p : Nat) : vpos c p + c.Value.size ≤ p + 61 := by
 unfold vpos
 obtain ⟨h1,h2,h3⟩ := h
 have e1 := sht_size (s := c.Key) (by omega)
 have e2 : (enc c.Key.size).length ≤ 1 := enc_len 0 _ (by omega)
 have e3 : (enc c.Value.size).length ≤ 1 := enc_len 0 _ (by omega)
 omega
theorem spts_len (seg : Int) : ∀ (cs : List Change) (p : Nat),(spts seg cs p).length = cs.length
 | [],_ => rfl
 | c :: cs,p => by rw [spts,List.length_cons,List.length_cons,spts_len seg cs]
theorem spots_spec (N : Nat) (hN : Big N) (seg : Int) (y : Batch × Bool) (hy : ∀ c ∈ y.1.Changes,chOkS c) (hl : y.1.Changes.length ≤ 60) : ∀ (d k m p : Nat) (acc : List Spot),y.1.Changes.length = k + d → d < m → p ≤ 100000000 + 61 * k → acc.length ≤ 100000000 + k →
  spec_ScanSeg_l2 N seg y m (p : Int) (k : Int) acc = some (acc ++ spts seg (y.1.Changes.drop k) p) := by
 intro d
 induction d with
 | zero =>
  intro k m p acc hd hm hp ha
  obtain ⟨m,rfl⟩ : ∃ q,m = q + 1 := ⟨m - 1,by omega⟩
  rw [spec_ScanSeg_l2,if_neg (by simp; omega),List.drop_eq_nil_of_le (by omega),spts,List.append_nil]
 | succ d ih =>
  intro k m p acc hd hm hp ha
  obtain ⟨m,rfl⟩ : ∃ q,m = q + 1 := ⟨m - 1,by omega⟩
  have hk : k < y.1.Changes.length := by omega
  have hc := hy _ (List.getElem_mem hk)
  have hv := vpos_le hc p
  obtain ⟨g1,g2,g3⟩ := hc
  have z1 := sht_size (s := y.1.Changes[k].Key) (by omega)
  have z2 := enc_len5 (n := y.1.Changes[k].Value.size) (by omega)
  rw [spec_ScanSeg_l2,if_pos (by simp; omega),at_lt hk]
  simp only [joinP,bO]
  rw [short_spec N hN _ (by omega),bO,var_spec N hN _ (by omega),bO,encT_size,w64_nat (by omega),w64_succ (by omega),w64_nat (by omega)]
  have hvp : p + (sht y.1.Changes[k].Key).size + 1 + (enc y.1.Changes[k].Value.size).length = vpos y.1.Changes[k] p := rfl
  rw [hvp,w64_nat (by omega),w64_succ (by omega)]
  have hsp : ∀ f : Spot → Option (List Spot),(if y.1.Changes[k].Gone = true then f ⟨y.1.Changes[k].Key,seg,0,-1⟩ else f ⟨y.1.Changes[k].Key,seg,(vpos y.1.Changes[k] p : Int),(y.1.Changes[k].Value.size : Int)⟩) = f (spt seg y.1.Changes[k] p) := by
   intro f
   unfold spt
   split <;> rfl
  have := hsp fun s => (cat? acc [s]).bind fun x => spec_ScanSeg_l2 N seg y m ((vpos y.1.Changes[k] p + y.1.Changes[k].Value.size : Nat) : Int) ((k + 1 : Nat) : Int) x
  rw [this,cat_le (by simp; omega),bO,ih (k + 1) m _ _ (by omega) (by omega) (by omega) (by simp; omega),List.drop_eq_getElem_cons hk,spts,List.append_assoc]
  rfl
theorem spots_impl (N : Nat) (hN : Big N) (seg : Int) (y : Tplaced) (hy : ∀ c ∈ y.b.Changes,chOkS c) (hl : y.b.Changes.length ≤ 60) : ∀ (d k m p : Nat) (acc : List Spot),y.b.Changes.length = k + d → d < m → p ≤ 100000000 + 61 * k → acc.length ≤ 100000000 + k →
  impl_spotsOf_l1 N y seg m (p : Int) (k : Int) acc = some (acc ++ spts seg (y.b.Changes.drop k) p) := by
 intro d
 induction d with
 | zero =>
  intro k m p acc hd hm hp ha
  obtain ⟨m,rfl⟩ : ∃ q,m = q + 1 := ⟨m - 1,by omega⟩
  rw [impl_spotsOf_l1,if_neg (by simp; omega),List.drop_eq_nil_of_le (by omega),spts,List.append_nil]
 | succ d ih =>
  intro k m p acc hd hm hp ha
  obtain ⟨m,rfl⟩ : ∃ q,m = q + 1 := ⟨m - 1,by omega⟩
  have hk : k < y.b.Changes.length := by omega
  have hc := hy _ (List.getElem_mem hk)
  have hv := vpos_le hc p
  obtain ⟨g1,g2,g3⟩ := hc
  have z1 := sht_size (s := y.b.Changes[k].Key) (by omega)
  have z2 := sht_size (s := y.b.Changes[k].Value) (by omega)
  rw [impl_spotsOf_l1,if_pos (by simp; omega),at_lt hk]
  simp only [bO]
  rw [short_impl N hN _ (by omega),bO,short_impl N hN _ (by omega),bO,w64_succ (by omega),w64_nat (by omega),w64_nat (by omega),w64_succ (by omega)]
  have hvp : p + ((sht y.b.Changes[k].Key).size + 1 + (sht y.b.Changes[k].Value).size) = vpos y.b.Changes[k] p + y.b.Changes[k].Value.size := by unfold vpos; omega
  rw [hvp,w64_id (n := ((vpos y.b.Changes[k] p + y.b.Changes[k].Value.size : Nat) : Int) - _) (by omega) (by omega),show ((vpos y.b.Changes[k] p + y.b.Changes[k].Value.size : Nat) : Int) - (y.b.Changes[k].Value.size : Int) = (vpos y.b.Changes[k] p : Int) by omega]
  have hsp : ∀ f : Spot → Option (List Spot),(if y.b.Changes[k].Gone = true then f ⟨y.b.Changes[k].Key,seg,0,-1⟩ else f ⟨y.b.Changes[k].Key,seg,(vpos y.b.Changes[k] p : Int),(y.b.Changes[k].Value.size : Int)⟩) = f (spt seg y.b.Changes[k] p) := by
   intro f
   unfold spt
   split <;> rfl
  have := hsp fun s => (cat? acc [s]).bind fun x => impl_spotsOf_l1 N y seg m ((vpos y.b.Changes[k] p + y.b.Changes[k].Value.size : Nat) : Int) ((k + 1 : Nat) : Int) x
  rw [this,cat_le (by simp; omega),bO,ih (k + 1) m _ _ (by omega) (by omega) (by omega) (by simp; omega),List.drop_eq_getElem_cons hk,spts,List.append_assoc]
  rfl
def bhd (b : Batch) (a : Nat) : Nat := a + (enc b.Stamp.toNat).length + (enc b.Changes.length).length
def psp (seg : Int) (p : Tplaced) : List Spot := spts seg p.b.Changes (bhd p.b p.at'.toNat)
def plOk (p : Tplaced) : Prop := batOk p.b = true ∧ 0 ≤ p.at' ∧ p.at' ≤ 90000000
theorem bat_ch {b : Batch} (h : batOk b = true) : ∀ c ∈ b.Changes,chOkS c := (batOk_ok h).2.2.2
theorem bhd_le {b : Batch} (h : batOk b = true) (a : Nat) : bhd b a ≤ a + 10 := by
 obtain ⟨h1,h2,h3,_⟩ := batOk_ok h
 unfold bhd
 have e1 := enc_len5 (n := b.Stamp.toNat) (by omega)
 have e2 := enc_len5 (n := b.Changes.length) (by omega)
 omega
theorem spotsOf_ok (N : Nat) (hN : Big N) (seg : Int) (p : Tplaced) (hp : plOk p) : impl_spotsOf N p seg = some (psp seg p) ∧ (psp seg p).length ≤ 60 := by
 obtain ⟨h1,h2,h3⟩ := hp
 obtain ⟨g1,g2,g3,_⟩ := batOk_ok h1
 have hb := bhd_le h1 p.at'.toNat
 refine ⟨?_,by unfold psp; rw [spts_len]; omega⟩
 unfold impl_spotsOf psp
 rw [show p.b.Stamp = ((p.b.Stamp.toNat : Nat) : Int) by omega,vars_two N hN _ _ (by omega) (by omega),bO]
 simp only [joinP]
 rw [ByteArray.size_append,encT_size,encT_size,show p.at' = ((p.at'.toNat : Nat) : Int) by omega]
 unfold bhd at hb ⊢
 rw [w64_nat (by omega),← Nat.add_assoc]
 have := spots_impl N hN seg p (bat_ch h1) g3 p.b.Changes.length 0 N (p.at'.toNat + (enc p.b.Stamp.toNat).length + (enc p.b.Changes.length).length) [] (by omega) (by unfold Big at hN; omega) (by omega) (by simp)
 rw [show ((0 : Nat) : Int) = 0 from rfl] at this
 rw [this]
 rfl
def bats (N : Nat) : List ByteArray → Nat → List Tplaced × Nat
 | [],a => ([],a)
 | t :: ts,a => if (rbat t).2 = true then (⟨(rbat t).1,t,((a + (frm N t).size - t.size : Nat) : Int)⟩ :: (bats N ts (a + (frm N t).size)).1,(bats N ts (a + (frm N t).size)).2) else ([],a)
theorem frm_le (N : Nat) (hN : Big N) {t : ByteArray} (h : rok t) : t.size ≤ (frm N t).size ∧ (frm N t).size ≤ 9009 := by
 obtain ⟨h1,h2⟩ := h
 have := frm_size N hN t (by omega)
 have := enc_len5 (n := t.size) (by omega)
 omega
theorem bats_ok (N : Nat) (hN : Big N) : ∀ (ts : List ByteArray) (a : Nat),(∀ r ∈ ts,rok r) → a + 9009 * ts.length ≤ 90000000 → (∀ p ∈ (bats N ts a).1,plOk p) ∧ (bats N ts a).2 ≤ a + 9009 * ts.length ∧ (bats N ts a).1.length ≤ ts.length
 | [],a,_,_ => ⟨by simp [bats],by simp [bats],by simp [bats]⟩
 | t :: ts,a,h,ha => by
  have hf := frm_le N hN (h t (by simp))
  rw [List.length_cons] at ha
  obtain ⟨h1,h2,h3⟩ := bats_ok N hN ts (a + (frm N t).size) (fun r hr => h r (by simp [hr])) (by omega)
  rw [bats]
  split
  ·rename_i hb
   refine ⟨fun p hp => ?_,by simp only [List.length_cons]; omega,by simp only [List.length_cons]; omega⟩
   rcases List.mem_cons.1 hp with rfl | hp
   ·exact ⟨rbat_ok hb,by simp,by simp only; omega⟩
   ·exact h1 p hp
  ·exact ⟨by simp,by simp,by simp⟩
theorem bats_impl_l (N : Nat) (hN : Big N) (y : List ByteArray × Int) (hy : ∀ r ∈ y.1,rok r) (hl : y.1.length ≤ 4000) : ∀ (d k m a : Nat) (acc : List Tplaced),y.1.length = k + d → d < m → a ≤ 9009 * k → acc.length ≤ k →
  impl_batchesOf_l1 N y m (a : Int) (k : Int) acc = some (((bats N (y.1.drop k) a).2 : Int),acc ++ (bats N (y.1.drop k) a).1) := by
 intro d
 induction d with
 | zero =>
  intro k m a acc hd hm ha hc
  obtain ⟨m,rfl⟩ : ∃ q,m = q + 1 := ⟨m - 1,by omega⟩
  rw [impl_batchesOf_l1,if_neg (by simp; omega),List.drop_eq_nil_of_le (by omega),bats,List.append_nil]
 | succ d ih =>
  intro k m a acc hd hm ha hc
  obtain ⟨m,rfl⟩ : ∃ q,m = q + 1 := ⟨m - 1,by omega⟩
  have hk : k < y.1.length := by omega
  have hr := hy _ (List.getElem_mem hk)
  have hf := frm_le N hN hr
  rw [impl_batchesOf_l1,if_pos (by simp; omega),at_lt hk]
  simp only [bO]
  rw [rbat_impl N hN _ (by unfold rok at hr; omega),bO,List.drop_eq_getElem_cons hk,bats]
  by_cases hb : (rbat y.1[k]).2 = true
  ·rw [if_neg (by simp [hb]),frame_impl N hN _ (by unfold rok at hr; omega),if_pos hr,bO,if_pos hb]
   simp only []
   rw [w64_nat (by omega),w64_id (n := ((a + (frm N y.1[k]).size : Nat) : Int) - _) (by omega) (by omega),show ((a + (frm N y.1[k]).size : Nat) : Int) - (y.1[k].size : Int) = ((a + (frm N y.1[k]).size - y.1[k].size : Nat) : Int) by omega,cat_le (by simp; omega),bO,w64_succ (by omega),ih (k + 1) m _ _ (by omega) (by omega) (by omega) (by simp; omega),List.append_assoc]
   rfl
  ·rw [if_pos (by simp [hb]),if_neg hb,List.append_nil]
def scan (N : Nat) (t : ByteArray) : List Tplaced × Nat := bats N (recs N t).1 0
theorem scan_ok (N : Nat) (hN : Big N) (t : ByteArray) (ht : t.size ≤ 20000) : (∀ p ∈ (scan N t).1,plOk p) ∧ (scan N t).1.length ≤ 4000 := by
 obtain ⟨h1,h2⟩ := recs_ok N t
 obtain ⟨g1,g2,g3⟩ := bats_ok N hN (recs N t).1 0 h2 (by omega)
 exact ⟨g1,by unfold scan; omega⟩
theorem batches_impl (N : Nat) (hN : Big N) (t : ByteArray) (ht : t.size ≤ 20000) : impl_batchesOf N t = some ((scan N t).1,((scan N t).2 : Int)) := by
 unfold impl_batchesOf
 obtain ⟨h1,h2⟩ := recs_ok N t
 rw [unf_impl N hN t ht,bO]
 simp only [joinP]
 have := bats_impl_l N hN ((recs N t).1,((recs N t).2 : Int)) h2 (by simp only; omega) (recs N t).1.length 0 N 0 [] (by simp) (by unfold Big at hN; omega) (by omega) (by simp)
 rw [show ((0 : Nat) : Int) = 0 from rfl] at this
 rw [this]
 rfl
def scS (seg : Int) : List Tplaced → List Spot
 | [] => []
 | p :: ps => psp seg p ++ scS seg ps
def scM : List Tplaced → Int → Int
 | [],s => s
 | p :: ps,s => scM ps (imax s p.b.Stamp)
def scR (N : Nat) (t : ByteArray) (seg : Int) : List Spot × List ByteArray × Int := (scS seg (scan N t).1,(scan N t).1.map Tplaced.text,scM (scan N t).1 (-1))
theorem scan_impl_l (N : Nat) (hN : Big N) (seg : Int) (y : List Tplaced × Int) (hy : ∀ p ∈ y.1,plOk p) (hl : y.1.length ≤ 4000) : ∀ (d k m : Nat) (s : Int) (a1 : List Spot) (a2 : List ByteArray),y.1.length = k + d → d < m → a1.length ≤ 60 * k → a2.length ≤ k →
  impl_ScanSeg_l1 N seg y m s (k : Int) a1 a2 = some (scM (y.1.drop k) s,a1 ++ scS seg (y.1.drop k),a2 ++ (y.1.drop k).map Tplaced.text) := by
 intro d
 induction d with
 | zero =>
  intro k m s a1 a2 hd hm h1 h2
  obtain ⟨m,rfl⟩ : ∃ q,m = q + 1 := ⟨m - 1,by omega⟩
  rw [impl_ScanSeg_l1,if_neg (by simp; omega),List.drop_eq_nil_of_le (by omega),scM,scS,List.map_nil,List.append_nil,List.append_nil]
 | succ d ih =>
  intro k m s a1 a2 hd hm h1 h2
  obtain ⟨m,rfl⟩ : ∃ q,m = q + 1 := ⟨m - 1,by omega⟩
  have hk : k < y.1.length := by omega
  obtain ⟨e1,e2⟩ := spotsOf_ok N hN seg _ (hy _ (List.getElem_mem hk))
  rw [impl_ScanSeg_l1,if_pos (by simp; omega),at_lt hk]
  simp only [bO]
  rw [e1,bO,cat_le (by omega),bO,cat_le (by simp; omega),bO,w64_succ (by omega),ih (k + 1) m _ _ _ (by omega) (by omega) (by simp; omega) (by simp; omega),List.drop_eq_getElem_cons hk,scM,scS,List.map_cons,List.append_assoc,List.append_assoc]
  rfl
theorem scan_impl (N : Nat) (hN : Big N) (t : ByteArray) (ht : t.size ≤ 20000) (seg : Int) : impl_ScanSeg N t seg = some (scR N t seg) := by
 unfold impl_ScanSeg
 obtain ⟨h1,h2⟩ := scan_ok N hN t ht
 rw [batches_impl N hN t ht,bO]
 simp only [joinP]
 have := scan_impl_l N hN seg ((scan N t).1,((scan N t).2 : Int)) h1 h2 (scan N t).1.length 0 N (-1) [] [] (by simp) (by unfold Big at hN; omega) (by simp) (by simp)
 rw [show ((0 : Nat) : Int) = 0 from rfl] at this
 rw [this]
 rfl
theorem scan_spec_l (N : Nat) (hN : Big N) (seg : Int) (y : List ByteArray × Int) (hy : ∀ r ∈ y.1,rok r) (hl : y.1.length ≤ 4000) : ∀ (d k m a : Nat) (s : Int) (a1 : List Spot) (a2 : List ByteArray),y.1.length = k + d → d < m → a ≤ 9009 * k → a1.length ≤ 60 * k → a2.length ≤ k →
  ∃ o,spec_ScanSeg_l1 N seg y m s (a : Int) (k : Int) a1 a2 = some o ∧ Sum.elim (fun v => some v) (fun v : Int × List Spot × List ByteArray => some (v.2.1,v.2.2,v.1)) o = some (a1 ++ scS seg (bats N (y.1.drop k) a).1,a2 ++ (bats N (y.1.drop k) a).1.map Tplaced.text,scM (bats N (y.1.drop k) a).1 s) := by
 intro d
 induction d with
 | zero =>
  intro k m a s a1 a2 hd hm ha h1 h2
  obtain ⟨m,rfl⟩ : ∃ q,m = q + 1 := ⟨m - 1,by omega⟩
  rw [spec_ScanSeg_l1,if_neg (by simp; omega),List.drop_eq_nil_of_le (by omega),bats,scM,scS,List.map_nil,List.append_nil,List.append_nil]
  exact ⟨_,rfl,rfl⟩
 | succ d ih =>
  intro k m a s a1 a2 hd hm ha h1 h2
  obtain ⟨m,rfl⟩ : ∃ q,m = q + 1 := ⟨m - 1,by omega⟩
  have hk : k < y.1.length := by omega
  have hr := hy _ (List.getElem_mem hk)
  have hf := frm_le N hN hr
  rw [spec_ScanSeg_l1,if_pos (by simp; omega)]
  simp only [joinP,at_lt hk,bO]
  rw [rbat_spec N hN _ (by unfold rok at hr; omega),bO,List.drop_eq_getElem_cons hk,bats]
  by_cases hb : (rbat y.1[k]).2 = true
  ·have hbo := rbat_ok hb
   obtain ⟨g1,g2,g3,_⟩ := batOk_ok hbo
   have hbh := bhd_le hbo (a + (frm N y.1[k]).size - y.1[k].size)
   rw [if_neg (by simp [hb]),frame_spec N hN _ (by unfold rok at hr; omega),if_pos hr,bO,if_pos hb]
   rw [show (rbat y.1[k]).1.Stamp = (((rbat y.1[k]).1.Stamp.toNat : Nat) : Int) by omega,var_spec N hN _ (by omega),bO,var_spec N hN _ (by omega),bO,encT_size,encT_size]
   simp only []
   have e1 : w64 ((w64 ((w64 ((w64 ((a : Int) + ((frm N y.1[k]).size : Int))) - (y.1[k].size : Int))) + ((enc (rbat y.1[k]).1.Stamp.toNat).length : Int))) + ((enc (rbat y.1[k]).1.Changes.length).length : Int)) = ((bhd (rbat y.1[k]).1 (a + (frm N y.1[k]).size - y.1[k].size) : Nat) : Int) := by
    unfold bhd at hbh ⊢
    rw [w64_nat (by omega),w64_id (n := ((a + (frm N y.1[k]).size : Nat) : Int) - _) (by omega) (by omega),show ((a + (frm N y.1[k]).size : Nat) : Int) - (y.1[k].size : Int) = ((a + (frm N y.1[k]).size - y.1[k].size : Nat) : Int) by omega,w64_nat (by omega),w64_nat (by omega)]
   rw [e1]
   have e2 := spots_spec N hN seg (rbat y.1[k]) (bat_ch hbo) g3 (rbat y.1[k]).1.Changes.length 0 N (bhd (rbat y.1[k]).1 (a + (frm N y.1[k]).size - y.1[k].size)) a1 (by omega) (by unfold Big at hN; omega) (by omega) (by omega)
   rw [show ((0 : Nat) : Int) = 0 from rfl] at e2
   rw [e2,bO,List.drop_zero,w64_nat (by omega),w64_succ (by omega),cat_le (by simp; omega)]
   simp only [bO]
   have e3 : ∀ z : Int → Option ((List Spot × List ByteArray × Int) ⊕ (Int × List Spot × List ByteArray)),(if decide ((((rbat y.1[k]).1.Stamp.toNat : Nat) : Int) > s) = true then z (((rbat y.1[k]).1.Stamp.toNat : Nat) : Int) else z s) = z (imax s (rbat y.1[k]).1.Stamp) := by
    intro z
    rw [show (((rbat y.1[k]).1.Stamp.toNat : Nat) : Int) = (rbat y.1[k]).1.Stamp by omega]
    unfold imax
    by_cases hs : (rbat y.1[k]).1.Stamp > s
    ·rw [if_pos (by simp; omega)]; congr 1; omega
    ·rw [if_neg (by simp; omega)]; congr 1; omega
   have e4 := e3 fun v => spec_ScanSeg_l1 N seg y m v ((a + (frm N y.1[k]).size : Nat) : Int) ((k + 1 : Nat) : Int) (a1 ++ spts seg (rbat y.1[k]).1.Changes (bhd (rbat y.1[k]).1 (a + (frm N y.1[k]).size - y.1[k].size))) (a2 ++ [y.1[k]])
   rw [e4]
   obtain ⟨o,f1,f2⟩ := ih (k + 1) m (a + (frm N y.1[k]).size) (imax s (rbat y.1[k]).1.Stamp) (a1 ++ spts seg (rbat y.1[k]).1.Changes (bhd (rbat y.1[k]).1 (a + (frm N y.1[k]).size - y.1[k].size))) (a2 ++ [y.1[k]]) (by omega) (by omega) (by omega) (by rw [List.length_append,spts_len]; omega) (by simp; omega)
   refine ⟨o,f1,?_⟩
   rw [f2,scM,scS,List.map_cons,List.append_assoc,List.append_assoc]
   rfl
  ·rw [if_pos (by simp [hb]),if_neg hb,scM,scS,List.map_nil,List.append_nil,List.append_nil]
   exact ⟨_,rfl,rfl⟩
theorem scan_spec (N : Nat) (hN : Big N) (t : ByteArray) (ht : t.size ≤ 20000) (seg : Int) : spec_ScanSeg N t seg = some (scR N t seg) := by
 unfold spec_ScanSeg
 obtain ⟨h1,h2⟩ := recs_ok N t
 rw [unf_spec N hN t ht,bO]
 simp only [joinP]
 obtain ⟨o,e1,e2⟩ := scan_spec_l N hN seg ((recs N t).1,((recs N t).2 : Int)) h2 (by simp only; omega) (recs N t).1.length 0 N 0 (-1) [] [] (by simp) (by unfold Big at hN; omega) (by omega) (by simp) (by simp)
 rw [show ((0 : Nat) : Int) = 0 from rfl] at e1
 rw [e1,bO]
 exact e2
def fsum (N : Nat) : List ByteArray → Nat → Nat
 | [],a => a
 | t :: ts,a => fsum N ts (a + (frm N t).size)
theorem bats_end (N : Nat) : ∀ (ts : List ByteArray) (a : Nat),fsum N ((bats N ts a).1.map Tplaced.text) a = (bats N ts a).2
 | [],a => rfl
 | t :: ts,a => by
  rw [bats]
  split
  ·simp only [List.map_cons,fsum]
   exact bats_end N ts _
  ·rfl
theorem ifs1 {α : Type} (x : Bool) (z e : α) : (if (!x) = true then e else z) = if x = true then z else e := by cases x <;> rfl
theorem ifs3 {α : Type} (a b c : Bool) (z e : α) : (if (a && (b && c)) = true then z else e) = if (a && (b && (c && true))) = true then z else e := by cases a <;> cases b <;> cases c <;> rfl
theorem ifs4 {α : Type} (a b c x : Bool) (z e : α) : (if (!x) = true then e else if (a && (b && c)) = true then z else e) = if (a && (b && (c && x))) = true then z else e := by cases a <;> cases b <;> cases c <;> cases x <;> rfl
def okSpot (o : Option Spot) (x : Spot) : Bool := decide (1 ≤ x.Key.size ∧ x.Key.size ≤ 10) && (decide (0 ≤ x.Seg ∧ x.Seg ≤ 999) && (decide (0 ≤ x.At ∧ x.At ≤ 20000) && (decide (0 ≤ x.Size ∧ x.Size ≤ 40) && (match o with | none => true | some q => blt q.Key x.Key))))
def dirOk (l : List Spot) : Bool := decide (l.length ≤ 60) && chain okSpot none l
theorem dirOk_impl_step (N : Nat) (l : List Spot) (hl : l.length ≤ 1099511627) (m k : Nat) (hk : k < l.length) : impl_DirOk_l1 N l (m + 1) (k : Int) = if okSpot (l.take k).getLast? l[k] = true then impl_DirOk_l1 N l m ((k + 1 : Nat) : Int) else some (.inl false) := by
 rw [impl_DirOk_l1,if_pos (by simp; omega),at_lt hk]
 simp only [bO,key_impl,within_eq]
 rw [w64_succ (by omega)]
 simp only [okSpot]
 by_cases h1 : 1 ≤ l[k].Key.size ∧ l[k].Key.size ≤ 10
 case neg => simp only [decide_eq_false h1]; rfl
 by_cases h2 : 0 ≤ l[k].Seg ∧ l[k].Seg ≤ 999
 case neg => simp only [decide_eq_true h1,decide_eq_false h2]; rfl
 by_cases h3 : 0 ≤ l[k].At ∧ l[k].At ≤ 20000
 case neg => simp only [decide_eq_true h1,decide_eq_true h2,decide_eq_false h3]; rfl
 by_cases h4 : 0 ≤ l[k].Size ∧ l[k].Size ≤ 40
 case neg => simp only [decide_eq_true h1,decide_eq_true h2,decide_eq_true h3,decide_eq_false h4]; rfl
 simp only [decide_eq_true h1,decide_eq_true h2,decide_eq_true h3,decide_eq_true h4,Bool.not_true,Bool.false_eq_true,if_false,Bool.true_and]
 by_cases h0 : 0 < k
 ·rw [if_pos (by simpa using h0),at_prev h0 (by omega) (by omega)]
  cases hq : (l.take k).getLast? with
  | none => exact (take_none h0 hk hq).elim
  | some q =>
   simp only [bO]
   rw [show Op.bytesLess q.Key.toList l[k].Key.toList = blt q.Key l[k].Key from rfl]
   exact ifs1 _ _ _
 ·have : k = 0 := by omega
  subst this
  rw [if_neg (by decide)]
  rfl
theorem dirOk_impl (N : Nat) (hN : Big N) (l : List Spot) (hl : l.length ≤ 1099511627) : impl_DirOk N l = some (dirOk l) := by
 unfold impl_DirOk dirOk
 rw [chain_start okSpot (impl_DirOk_l1 N l) l (by unfold Big at hN; omega) (dirOk_impl_step N l hl) (fun m => by rw [impl_DirOk_l1,if_neg (by simp)])]
 cases chain okSpot none l
 ·simp [oks,joinP]
 ·simp only [joinP,oks,bO,Sum.elim_inr,Bool.and_true]
  congr 1
  exact decide_eq_decide.2 (by omega)
theorem dirOk_spec_step (N : Nat) (l : List Spot) (hl : l.length ≤ 1099511627) (m k : Nat) (hk : k < l.length) : spec_DirOk_l1 N l (m + 1) (k : Int) = if okSpot (l.take k).getLast? l[k] = true then spec_DirOk_l1 N l m ((k + 1 : Nat) : Int) else some (.inl false) := by
 rw [spec_DirOk_l1,if_pos (by simp; omega),at_lt hk]
 simp only [bO,key_spec,in_eq,joinP]
 rw [w64_succ (by omega)]
 simp only [okSpot]
 by_cases h1 : 1 ≤ l[k].Key.size ∧ l[k].Key.size ≤ 10
 case neg => simp only [decide_eq_false h1]; rfl
 have key : ∀ z : Option (Bool ⊕ Unit),(if (!decide (0 ≤ l[k].Seg ∧ l[k].Seg ≤ 999)) = true then some (Sum.inl false) else if (!decide (0 ≤ l[k].At ∧ l[k].At ≤ 20000)) = true then some (Sum.inl false) else if (!decide (0 ≤ l[k].Size ∧ l[k].Size ≤ 40)) = true then some (Sum.inl false) else z) = if (decide (0 ≤ l[k].Seg ∧ l[k].Seg ≤ 999) && (decide (0 ≤ l[k].At ∧ l[k].At ≤ 20000) && decide (0 ≤ l[k].Size ∧ l[k].Size ≤ 40))) = true then z else some (Sum.inl false) := by
  intro z
  cases decide (0 ≤ l[k].Seg ∧ l[k].Seg ≤ 999) <;> cases decide (0 ≤ l[k].At ∧ l[k].At ≤ 20000) <;> cases decide (0 ≤ l[k].Size ∧ l[k].Size ≤ 40) <;> rfl
 simp only [decide_eq_true h1,Bool.not_true,Bool.false_eq_true,if_false,Bool.true_and,key]
 by_cases h0 : 0 < k
 ·rw [if_pos (by simpa using h0),at_prev h0 (by omega) (by omega)]
  cases hq : (l.take k).getLast? with
  | none => exact (take_none h0 hk hq).elim
  | some q =>
   simp only [bO]
   rw [show Op.bytesLess q.Key.toList l[k].Key.toList = blt q.Key l[k].Key from rfl]
   exact ifs4 _ _ _ _ _ _
 ·have : k = 0 := by omega
  subst this
  rw [if_neg (by decide)]
  exact ifs3 _ _ _ _ _
theorem dirOk_spec (N : Nat) (hN : Big N) (l : List Spot) (hl : l.length ≤ 1099511627) : spec_DirOk N l = some (dirOk l) := by
 unfold spec_DirOk dirOk
 by_cases h : l.length ≤ 60
 case neg => rw [if_pos (by simp; omega),decide_eq_false h]; rfl
 rw [if_neg (by simp; omega),decide_eq_true h,chain_start okSpot (spec_DirOk_l1 N l) l (by unfold Big at hN; omega) (dirOk_spec_step N l hl) (fun m => by rw [spec_DirOk_l1,if_neg (by simp)])]
 cases chain okSpot none l <;> simp [oks,joinP]
def put1 (o : List Spot) (x : Spot) : List Spot := (o.filter fun y => blt y.Key x.Key) ++ (if x.Size = -1 then [] else [x]) ++ o.filter fun y => !(blt y.Key x.Key || decide (y.Key = x.Key))
def puts (o l : List Spot) : List Spot := l.foldl put1 o
theorem two_filter {α : Type} {p q : α → Bool} (h : ∀ x,p x = true → q x = false) : ∀ l : List α,(l.filter p).length + (l.filter q).length ≤ l.length
 | [] => Nat.le_refl _
 | x :: l => by
  have ih := two_filter h l
  have hx := h x
  rw [List.filter_cons,List.filter_cons,List.length_cons]
  cases hp : p x
  ·cases hq : q x <;> simp <;> omega
  ·rw [hx hp]; simp; omega
theorem put1_len (o : List Spot) (x : Spot) : (put1 o x).length ≤ o.length + 1 := by
 have := two_filter (p := fun y : Spot => blt y.Key x.Key) (q := fun y => !(blt y.Key x.Key || decide (y.Key = x.Key))) (fun y hy => by simp [hy]) o
 unfold put1
 rw [List.length_append,List.length_append]
 split <;> simp only [List.length_nil,List.length_singleton] <;> omega
theorem l08a (N : Nat) (o : List Spot) (x : Spot) (ho : o.length ≤ 1000000000) : ∀ (d k m : Nat) (acc : List Spot),o.length = k + d → d < m → acc.length ≤ k → spec_l08More_l2 N o x m (k : Int) acc = some (acc ++ (o.drop k).filter fun y => blt y.Key x.Key) := by
 intro d
 induction d with
 | zero =>
  intro k m acc hd hm ha
  obtain ⟨m,rfl⟩ : ∃ q,m = q + 1 := ⟨m - 1,by omega⟩
  rw [spec_l08More_l2,if_neg (by simp; omega),List.drop_eq_nil_of_le (by omega),List.filter_nil,List.append_nil]
 | succ d ih =>
  intro k m acc hd hm ha
  obtain ⟨m,rfl⟩ : ∃ q,m = q + 1 := ⟨m - 1,by omega⟩
  have hk : k < o.length := by omega
  rw [spec_l08More_l2,if_pos (by simp; omega)]
  simp only [joinP,at_lt hk,bO]
  rw [show Op.bytesLess o[k].Key.toList x.Key.toList = blt o[k].Key x.Key from rfl,cat_le (by simp; omega),w64_succ (by omega),List.drop_eq_getElem_cons hk,List.filter_cons]
  cases hb : blt o[k].Key x.Key
  ·rw [if_neg (by decide),if_neg (by decide),ih (k + 1) m _ (by omega) (by omega) (by omega)]
  ·rw [if_pos rfl,if_pos rfl,bO,ih (k + 1) m _ (by omega) (by omega) (by simp; omega),List.append_assoc]
   rfl
theorem l08b (N : Nat) (o : List Spot) (x : Spot) (ho : o.length ≤ 1000000000) (b : Nat) (hb : b ≤ 1000000001) : ∀ (d k m : Nat) (acc : List Spot),o.length = k + d → d < m → acc.length ≤ b + k → spec_l08More_l3 N o x m (k : Int) acc = some (acc ++ (o.drop k).filter fun y => !(blt y.Key x.Key || decide (y.Key = x.Key))) := by
 intro d
 induction d with
 | zero =>
  intro k m acc hd hm ha
  obtain ⟨m,rfl⟩ : ∃ q,m = q + 1 := ⟨m - 1,by omega⟩
  rw [spec_l08More_l3,if_neg (by simp; omega),List.drop_eq_nil_of_le (by omega),List.filter_nil,List.append_nil]
 | succ d ih =>
  intro k m acc hd hm ha
  obtain ⟨m,rfl⟩ : ∃ q,m = q + 1 := ⟨m - 1,by omega⟩
  have hk : k < o.length := by omega
  rw [spec_l08More_l3,if_pos (by simp; omega)]
  simp only [joinP,at_lt hk,bO]
  rw [show Op.bytesLess o[k].Key.toList x.Key.toList = blt o[k].Key x.Key from rfl,cat_le (by simp; omega),w64_succ (by omega),List.drop_eq_getElem_cons hk,List.filter_cons]
  cases hb : (!(blt o[k].Key x.Key || decide (o[k].Key = x.Key)))
  ·rw [if_neg (by decide),if_neg (by decide),ih (k + 1) m _ (by omega) (by omega) (by omega)]
  ·rw [if_pos rfl,if_pos rfl,bO,ih (k + 1) m _ (by omega) (by omega) (by simp; omega),List.append_assoc]
   rfl
theorem l08_loop (N : Nat) (hN : Big N) (l : List Spot) (hl : l.length ≤ 100000000) : ∀ (d k m : Nat) (o : List Spot),l.length = k + d → d < m → o.length ≤ 100000000 + k → spec_l08More_l1 N l m (k : Int) o = some (puts o (l.drop k)) := by
 intro d
 induction d with
 | zero =>
  intro k m acc hd hm ha
  obtain ⟨m,rfl⟩ : ∃ q,m = q + 1 := ⟨m - 1,by omega⟩
  rw [spec_l08More_l1,if_neg (by simp; omega),List.drop_eq_nil_of_le (by omega)]
  rfl
 | succ d ih =>
  intro k m o hd hm ha
  obtain ⟨m,rfl⟩ : ∃ q,m = q + 1 := ⟨m - 1,by omega⟩
  have hk : k < l.length := by omega
  have h1 := l08a N o l[k] (by omega) o.length 0 N [] (by omega) (by unfold Big at hN; omega) (by simp)
  have h2 := fun acc (ha : acc.length ≤ o.length + 1) => l08b N o l[k] (by omega) (o.length + 1) (by omega) o.length 0 N acc (by omega) (by unfold Big at hN; omega) (by omega)
  have hf := List.length_filter_le (fun y : Spot => blt y.Key l[k].Key) o
  rw [show ((0 : Nat) : Int) = 0 from rfl,List.drop_zero] at h1 h2
  rw [spec_l08More_l1,if_pos (by simp; omega)]
  simp only [joinP,at_lt hk,bO]
  rw [h1,bO,List.nil_append,cat_le (by simp; omega),w64_succ (by omega),List.drop_eq_getElem_cons hk]
  have hp := put1_len o l[k]
  have e : ∀ z : List Spot → Option (List Spot),(if (l[k].Size != -1) = true then (some ((o.filter fun y => blt y.Key l[k].Key) ++ [l[k]])).bind z else z (o.filter fun y => blt y.Key l[k].Key)) = z ((o.filter fun y => blt y.Key l[k].Key) ++ if l[k].Size = -1 then [] else [l[k]]) := by
   intro z
   by_cases hs : l[k].Size = -1
   ·rw [if_neg (by simp [hs]),if_pos hs,List.append_nil]
   ·rw [if_pos (by simp [hs]),if_neg hs]; rfl
  rw [e fun v => (spec_l08More_l3 N o l[k] N 0 v).bind fun v => spec_l08More_l1 N l m ((k + 1 : Nat) : Int) v,h2 _ (by rw [List.length_append]; split <;> simp <;> omega),bO,show (_ : List Spot) ++ _ ++ _ = put1 o l[k] from rfl,ih (k + 1) m _ (by omega) (by omega) (by omega)]
  rfl
theorem l08_ok (N : Nat) (hN : Big N) (o l : List Spot) (ho : o.length ≤ 100000000) (hl : l.length ≤ 100000000) : spec_l08More N o l = some (puts o l) := by
 unfold spec_l08More
 rw [cat_le (by simp; omega),bO]
 simp only [joinP]
 have := l08_loop N hN l hl l.length 0 N o (by omega) (by unfold Big at hN; omega) (by omega)
 rw [show ((0 : Nat) : Int) = 0 from rfl,List.drop_zero] at this
 rw [List.nil_append,this]
 rfl
theorem puts_len : ∀ (l o : List Spot),(puts o l).length ≤ o.length + l.length
 | [],o => Nat.le_refl _
 | x :: l,o => by
  have h1 := put1_len o x
  have h2 := puts_len l (put1 o x)
  rw [List.length_cons]
  exact Nat.le_trans h2 (by omega)
abbrev srt (o : List Spot) : Prop := o.Pairwise fun a b => blt a.Key b.Key = true
theorem not_lt {a b : ByteArray} (h : (!(blt a b || decide (a = b))) = true) : blt b a = true := by
 rcases blt_tri a b with h1 | h1 | h1
 ·simp [h1] at h
 ·simp [h1] at h
 ·exact h1
theorem put1_srt {o : List Spot} (h : srt o) (x : Spot) : srt (put1 o x) := by
 unfold put1
 have hA : ∀ a ∈ o.filter fun y => blt y.Key x.Key,blt a.Key x.Key = true := fun a ha => (List.mem_filter.1 ha).2
 have hB : ∀ b ∈ o.filter fun y => !(blt y.Key x.Key || decide (y.Key = x.Key)),blt x.Key b.Key = true := fun b hb => not_lt (List.mem_filter.1 hb).2
 refine List.pairwise_append.2 ⟨List.pairwise_append.2 ⟨h.filter _,?_,?_⟩,h.filter _,?_⟩
 ·split
  ·exact .nil
  ·exact List.pairwise_singleton _ _
 ·intro a ha b hb
  split at hb
  ·simp at hb
  ·rw [List.mem_singleton.1 hb]; exact hA a ha
 ·intro a ha b hb
  rcases List.mem_append.1 ha with ha | ha
  ·exact blt_trans (hA a ha) (hB b hb)
  ·split at ha
   ·simp at ha
   ·rw [List.mem_singleton.1 ha]; exact hB b hb
theorem cut_at (k : ByteArray) : ∀ {m : List Spot},srt m → ∃ A B,m = A ++ B ∧ (∀ a ∈ A,blt a.Key k = true) ∧ ((∀ b ∈ B,blt k b.Key = true) ∨ ∃ y R,B = y :: R ∧ y.Key = k ∧ ∀ b ∈ R,blt k b.Key = true)
 | [],_ => ⟨[],[],rfl,by simp,.inl (by simp)⟩
 | x :: m,h => by
  obtain ⟨hx,hm⟩ := List.pairwise_cons.1 h
  rcases blt_tri x.Key k with h1 | h1 | h1
  ·obtain ⟨A,B,e,h2,h3⟩ := cut_at k hm
   refine ⟨x :: A,B,by rw [e]; rfl,fun a ha => ?_,h3⟩
   rcases List.mem_cons.1 ha with rfl | ha
   ·exact h1
   ·exact h2 a ha
  ·exact ⟨[],x :: m,rfl,by simp,.inr ⟨x,m,rfl,h1,fun b hb => h1 ▸ hx b hb⟩⟩
  ·refine ⟨[],x :: m,rfl,by simp,.inl fun b hb => ?_⟩
   rcases List.mem_cons.1 hb with rfl | hb
   ·exact h1
   ·exact blt_trans h1 (hx b hb)
theorem bsS (N : Nat) (hN : Big N) (xs : List Spot) (hl : xs.length ≤ 1099511627) (k : ByteArray) (c : Nat) (hc : c ≤ xs.length) (hq : ∀ q (hq : q < xs.length),(blt (xs[q]'hq).Key k = true ↔ q < c)) : slices_BinarySearchFunc_string_i1_l1 N xs k N 0 (xs.length : Int) = some (c : Int) := by
 have := bs_gen Spot.Key xs k (slices_BinarySearchFunc_string_i1_l1 N xs k) c hq (fun f i j h => ?_) (fun f i j hlt hij => ?_) N 0 xs.length (by omega) hc (Nat.le_refl _) (by unfold Big at hN; omega)
 ·exact this
 ·rw [slices_BinarySearchFunc_string_i1_l1,if_neg (by simp; omega)]
 ·rw [slices_BinarySearchFunc_string_i1_l1,if_pos (by simp; omega),mid_eq (by omega),bO,w64_id (by omega) (by omega),at_lt hlt,bO]
  unfold impl_DirMore_1 strings_Compare
  simp only [bO,cmp_blt]
  rw [w64_succ (by omega)]
  cases blt (xs[(i + j) / 2]'hlt).Key k
  ·simp only [Bool.false_eq_true,if_false]
   split <;> rfl
  ·rfl
theorem gt_ne {a k : ByteArray} (h : blt k a = true) : blt a k = false ∧ a ≠ k := ⟨blt_asymm h,fun e => blt_ne h e.symm⟩
def hdK (k : ByteArray) : List Spot → Bool
 | [] => false
 | y :: _ => decide (y.Key = k)
theorem bsS_ok (N : Nat) (hN : Big N) {A B : List Spot} {k : ByteArray} (hl : (A ++ B).length ≤ 1099511627) (h1 : ∀ a ∈ A,blt a.Key k = true) (h2 : ∀ b ∈ B,blt b.Key k = false) : slices_BinarySearchFunc_string_i1 N (A ++ B) k = some ((A.length : Int),hdK k B) := by
 unfold slices_BinarySearchFunc_string_i1
 simp only [joinP]
 rw [bsS N hN (A ++ B) hl k A.length (by simp) (fun q hq => ?_),bO]
 ·cases B with
  | nil => rw [if_neg (by simp)]; rfl
  | cons y R =>
   rw [if_pos (by simp; omega),at_lt (by simp),bO]
   unfold impl_DirMore_1 strings_Compare
   simp only [bO,cmp_blt]
   rw [List.getElem_append_right (Nat.le_refl _)]
   simp only [Nat.sub_self,List.getElem_cons_zero]
   rw [h2 y (by simp),if_neg (by decide)]
   by_cases he : y.Key = k
   ·rw [if_pos he,hdK,decide_eq_true he]; rfl
   ·rw [if_neg he,hdK,decide_eq_false he]; rfl
 ·by_cases h : q < A.length
  ·rw [List.getElem_append_left h]
   simp [h,h1 _ (List.getElem_mem h)]
  ·rw [List.getElem_append_right (by omega),h2 _ (List.getElem_mem _)]
   simp [h]
theorem dm_step (N : Nat) (hN : Big N) (l : List Spot) (m k : Nat) (hk : k < l.length) (hl : l.length ≤ 100000000) (o : List Spot) (ho : o.length ≤ 200000000) (hs : srt o) : impl_DirMore_l1 N l (m + 1) (k : Int) o = impl_DirMore_l1 N l m ((k + 1 : Nat) : Int) (put1 o l[k]) := by
 obtain ⟨A,B,rfl,h1,h2⟩ := cut_at l[k].Key hs
 have hAf : A.filter (fun y => blt y.Key l[k].Key) = A := filt_all h1
 have hAg : A.filter (fun y => !(blt y.Key l[k].Key || decide (y.Key = l[k].Key))) = [] := filt_none fun a ha => by simp [h1 a ha]
 rw [List.length_append] at ho
 rw [impl_DirMore_l1,if_pos (by simp; omega),at_lt hk,bO]
 rcases h2 with h2 | ⟨y,R,rfl,hy,h2⟩
 ·rw [bsS_ok N hN (by rw [List.length_append]; omega) h1 (fun b hb => (gt_ne (h2 b hb)).1),bO]
  have hf : hdK l[k].Key B = false := by
   cases B with
   | nil => rfl
   | cons y R => exact decide_eq_false (gt_ne (h2 y (by simp))).2
  have hBf : B.filter (fun y => blt y.Key l[k].Key) = [] := filt_none fun b hb => (gt_ne (h2 b hb)).1
  have hBg : B.filter (fun y => !(blt y.Key l[k].Key || decide (y.Key = l[k].Key))) = B := filt_all fun b hb => by simp [(gt_ne (h2 b hb)).1,(gt_ne (h2 b hb)).2]
  rw [hf]
  dsimp only
  rw [w64_succ (k := k) (by omega)]
  unfold put1
  rw [List.filter_append,List.filter_append,hAf,hAg,hBf,hBg,List.append_nil,List.nil_append]
  by_cases hz : l[k].Size = -1
  ·rw [if_pos (by simp [hz]),if_neg (by decide),if_pos hz,List.append_nil]
  ·rw [if_neg (by simp [hz]),if_neg (by decide),if_neg hz]
   unfold slices_Insert_Spot ins?
   dsimp only
   rw [if_pos (by simp; omega),bO]
   simp
 ·rw [bsS_ok N hN (by rw [List.length_append]; omega) h1 (fun b hb => by
   rcases List.mem_cons.1 hb with rfl | hb
   ·rw [hy]; exact blt_irrefl _
   ·exact (gt_ne (h2 b hb)).1),bO]
  have hBf : (y :: R).filter (fun y => blt y.Key l[k].Key) = [] := filt_none fun b hb => by
   rcases List.mem_cons.1 hb with rfl | hb
   ·rw [hy]; exact blt_irrefl _
   ·exact (gt_ne (h2 b hb)).1
  have hBg : (y :: R).filter (fun y => !(blt y.Key l[k].Key || decide (y.Key = l[k].Key))) = R := by
   rw [List.filter_cons,if_neg (by simp [hy])]
   exact filt_all fun b hb => by simp [(gt_ne (h2 b hb)).1,(gt_ne (h2 b hb)).2]
  simp only [hdK,decide_eq_true hy]
  rw [w64_succ (k := k) (by omega),w64_succ (k := A.length) (by rw [List.length_cons] at ho; omega)]
  unfold put1
  rw [List.filter_append,List.filter_append,hAf,hAg,hBf,hBg,List.append_nil,List.nil_append]
  by_cases hz : l[k].Size = -1
  ·rw [if_pos (by simp [hz]),if_pos trivial,if_pos hz,List.append_nil]
   unfold slices_Delete_Spot del?
   rw [if_pos (by simp; omega),bO]
   congr 1
   simp
  ·rw [if_neg (by simp [hz]),if_pos trivial,if_neg hz,at_lt (by simp),bO]
   congr 1
   simp
theorem dm_loop (N : Nat) (hN : Big N) (l : List Spot) (hl : l.length ≤ 100000000) : ∀ (d k m : Nat) (o : List Spot),l.length = k + d → d < m → o.length ≤ 100000000 + k → srt o → impl_DirMore_l1 N l m (k : Int) o = some (puts o (l.drop k)) := by
 intro d
 induction d with
 | zero =>
  intro k m acc hd hm ha hs
  obtain ⟨m,rfl⟩ : ∃ q,m = q + 1 := ⟨m - 1,by omega⟩
  rw [impl_DirMore_l1,if_neg (by simp; omega),List.drop_eq_nil_of_le (by omega)]
  rfl
 | succ d ih =>
  intro k m o hd hm ha hs
  obtain ⟨m,rfl⟩ : ∃ q,m = q + 1 := ⟨m - 1,by omega⟩
  have hk : k < l.length := by omega
  have hp := put1_len o l[k]
  rw [dm_step N hN l m k hk hl o (by omega) hs,ih (k + 1) m _ (by omega) (by omega) (by omega) (put1_srt hs _),List.drop_eq_getElem_cons hk]
  rfl
theorem dirMore_nil (N : Nat) (hN : Big N) (l : List Spot) (hl : l.length ≤ 100000000) : impl_DirMore N [] l = some (if dirOk (puts [] l) = true then (puts [] l,true) else ([],false)) := by
 unfold impl_DirMore
 rw [dirOk_impl N hN [] (by simp),bO,show dirOk [] = true from rfl,if_neg (by decide),cat_le (by simp),bO]
 simp only [joinP]
 have := dm_loop N hN l hl l.length 0 N [] (by omega) (by unfold Big at hN; omega) (by simp) .nil
 have hp := puts_len l []
 rw [show ((0 : Nat) : Int) = 0 from rfl,List.drop_zero] at this
 rw [List.append_nil,this,bO,dirOk_impl N hN _ (by simp at hp; omega),bO]
 cases dirOk (puts [] l) <;> rfl
def seald (N : Nat) (t : ByteArray) : ByteArray := t ++ fourN N t
theorem seal_spec (N : Nat) (hN : Big N) (t : ByteArray) (ht : t.size ≤ 20000) : spec_Sealed N t = some (seald N t,true) := by
 obtain ⟨s,a,b,c,e1,e2,e3,e4,_⟩ := four_ok N hN t (by omega)
 unfold spec_Sealed
 rw [if_neg (by simp; omega),e1,bO,e3,bO,scat_le (by omega)]
 rfl
theorem seal_impl (N : Nat) (hN : Big N) (t : ByteArray) (ht : t.size ≤ 20000) : impl_Sealed N t = some (seald N t,true) := by
 obtain ⟨s,a,b,c,e1,e2,e3,e4,e5,e6,e7,e8⟩ := four_ok N hN t (by omega)
 unfold impl_Sealed
 rw [if_neg (by simp; omega),e2,bO,e5,bO,e6,bO,e7,bO,e8,scat_le (by omega)]
 rfl
def unsR (N : Nat) (t : ByteArray) : ByteArray × Bool := if 4 ≤ t.size ∧ seald N (t.extract 0 (t.size - 4)) = t then (t.extract 0 (t.size - 4),true) else (⟨#[]⟩,false)
theorem ext_two {t : ByteArray} {k : Nat} (h : k ≤ t.size) : t = t.extract 0 k ++ t.extract k t.size := by
 rw [ext_app t 0 k t.size (by omega) h (Nat.le_refl _),ext_full]
theorem unseal_impl (N : Nat) (hN : Big N) (t : ByteArray) (ht : t.size ≤ 20000) : impl_Unsealed N t = some (unsR N t) := by
 unfold impl_Unsealed unsR
 by_cases h : 4 ≤ t.size
 case neg => rw [if_pos (by simp; omega),if_neg (fun q => h q.1)]
 rw [if_neg (by simp; omega),w64_id (by omega) (by omega),show (t.size : Int) - 4 = ((t.size - 4 : Nat) : Int) by omega,stake_ok (by omega),bO,seal_impl N hN _ (by rw [ext_size t 0 (t.size - 4) (by omega) (by omega)]; omega),bO,if_neg (by simp)]
 by_cases h2 : seald N (t.extract 0 (t.size - 4)) = t
 ·rw [if_neg (by simp [h2]),if_pos ⟨h,h2⟩]
 ·rw [if_pos (by simp [h2]),if_neg (fun q => h2 q.2)]
theorem unseal_spec (N : Nat) (hN : Big N) (t : ByteArray) (ht : t.size ≤ 20000) : spec_Unsealed N t = some (unsR N t) := by
 unfold spec_Unsealed unsR
 rw [w64_id (by omega) (by omega)]
 by_cases h : 4 ≤ t.size
 case neg => rw [if_pos (by simp; omega),if_neg (fun q => h q.1)]
 have hs := ext_size t 0 (t.size - 4) (by omega) (by omega)
 obtain ⟨s,a,b,c,e1,e2,e3,e4,_⟩ := four_ok N hN (t.extract 0 (t.size - 4)) (by omega)
 rw [if_neg (by simp; omega),if_neg (by simp; omega),show (t.size : Int) - 4 = ((t.size - 4 : Nat) : Int) by omega,sdrop_ok (by omega),bO,stake_ok (by omega),bO,e1,bO,e3,bO]
 have key : seald N (t.extract 0 (t.size - 4)) = t ↔ t.extract (t.size - 4) t.size = fourN N (t.extract 0 (t.size - 4)) := by
  have h1 := ext_two (t := t) (k := t.size - 4) (by omega)
  unfold seald
  constructor
  ·intro h2
   rw [← h2] at h1
   have h3 : t.extract 0 (t.size - 4) ++ fourN N (t.extract 0 (t.size - 4)) = t.extract 0 (t.size - 4) ++ t.extract (t.size - 4) t.size := by rw [h2]; exact ext_two (by omega)
   exact ((ByteArray.append_right_inj _).1 h3).symm
  ·intro h2
   rw [← h2]
   exact h1.symm
 by_cases h2 : t.extract (t.size - 4) t.size = fourN N (t.extract 0 (t.size - 4))
 ·rw [if_neg (by simp [h2]),if_pos ⟨h,key.2 h2⟩]
  rfl
 ·rw [if_pos (by simp [h2]),if_neg (fun q => h2 (key.1 q.2))]
def manOk (m : Manifest) : Bool := decide (1 ≤ m.Segs.length ∧ m.Segs.length ≤ 8) && (decide (0 ≤ m.Next ∧ m.Next ≤ 1000) && (rise 0 (m.Next - 1) none m.Segs && (decide (0 ≤ m.Base ∧ m.Base ≤ 100000) && (decide (0 ≤ m.BaseTerm ∧ m.BaseTerm ≤ 100000) && confOk m.Conf))))
theorem manOk_spec (N : Nat) (hN : Big N) (m : Manifest) (h1 : m.Segs.length ≤ 1000000) (h2 : m.Conf.length ≤ 1000000) : spec_ManifestOk N m = some (manOk m) := by
 unfold spec_ManifestOk manOk
 rw [in_eq,bO]
 by_cases g1 : 1 ≤ m.Segs.length ∧ m.Segs.length ≤ 8
 case neg => rw [decide_eq_false g1,if_neg (by simp; omega)]; rfl
 rw [decide_eq_true g1,if_pos (by simp; omega),in_eq,bO]
 by_cases g2 : 0 ≤ m.Next ∧ m.Next ≤ 1000
 case neg => rw [decide_eq_false g2]; rfl
 rw [decide_eq_true g2,if_pos rfl,w64_id (by omega) (by omega),rise_eq N hN _ _ _ (by omega),bO]
 cases rise 0 (m.Next - 1) none m.Segs
 ·rfl
 rw [if_pos rfl,in_eq,bO]
 by_cases g3 : 0 ≤ m.Base ∧ m.Base ≤ 100000
 case neg => rw [decide_eq_false g3]; rfl
 rw [decide_eq_true g3,if_pos rfl,in_eq,bO]
 by_cases g4 : 0 ≤ m.BaseTerm ∧ m.BaseTerm ≤ 100000
 case neg => rw [decide_eq_false g4]; rfl
 rw [decide_eq_true g4,if_pos rfl,confOk_spec N hN _ (by omega)]
 rfl
def okSeg (n : Int) (o : Option Int) (x : Int) : Bool := decide (0 ≤ x ∧ x ≤ 999) && (decide (x < n) && (match o with | none => true | some q => decide (q < x)))
theorem seg_step (N : Nat) (m : Manifest) (hl : m.Segs.length ≤ 1099511627) (f k : Nat) (hk : k < m.Segs.length) : impl_ManifestOk_l1 N m (f + 1) (k : Int) = if okSeg m.Next (m.Segs.take k).getLast? m.Segs[k] = true then impl_ManifestOk_l1 N m f ((k + 1 : Nat) : Int) else some (.inl false) := by
 rw [impl_ManifestOk_l1,if_pos (by simp; omega),at_lt hk]
 simp only [bO,within_eq]
 rw [w64_succ (by omega)]
 simp only [okSeg]
 by_cases h1 : 0 ≤ m.Segs[k] ∧ m.Segs[k] ≤ 999
 case neg => simp only [decide_eq_false h1]; rfl
 simp only [decide_eq_true h1,Bool.not_true,Bool.false_eq_true,if_false,Bool.true_and]
 by_cases h2 : m.Segs[k] < m.Next
 case neg => simp only [decide_eq_false h2]; rw [if_pos (by simp; omega)]; rfl
 simp only [decide_eq_true h2,Bool.true_and]
 rw [if_neg (by simp; omega)]
 by_cases h0 : 0 < k
 ·rw [if_pos (by simpa using h0),at_prev h0 (by omega) (by omega)]
  cases hq : (m.Segs.take k).getLast? with
  | none => exact (take_none h0 hk hq).elim
  | some q =>
   simp only [bO,Bool.true_and,decide_eq_true_eq]
   by_cases h3 : q < m.Segs[k]
   ·rw [if_neg (by omega),if_pos h3]
   ·rw [if_pos (by omega),if_neg h3]
 ·have : k = 0 := by omega
  subst this
  rw [if_neg (by decide)]
  rfl
theorem seg_rise (n : Int) (hn : n ≤ 1000) : ∀ (xs : List Int) (o : Option Int),chain (okSeg n) o xs = rise 0 (n - 1) o xs
 | [],o => by cases o <;> rfl
 | x :: xs,o => by
  rw [chain,rise_cons,seg_rise n hn xs,show okSeg n o x = (decide (0 ≤ x ∧ x ≤ 999) && (decide (x < n) && (match o with | none => true | some q => decide (q < x)))) from rfl]
  have h : (decide (0 ≤ x ∧ x ≤ 999) && decide (x < n)) = decide (0 ≤ x ∧ x ≤ n - 1) := by
   rw [← Bool.decide_and]
   exact decide_eq_decide.2 (by omega)
  rw [← h,Bool.and_assoc,Bool.and_assoc,Bool.and_assoc]
  cases o <;> rfl
theorem manOk_impl (N : Nat) (hN : Big N) (m : Manifest) (h1 : m.Segs.length ≤ 1000000) (h2 : m.Conf.length ≤ 1000000) (h0 : 0 ≤ m.Next) : impl_ManifestOk N m = some (manOk m) := by
 unfold impl_ManifestOk manOk
 rw [chain_start (okSeg m.Next) (impl_ManifestOk_l1 N m) m.Segs (by unfold Big at hN; omega) (seg_step N m (by omega)) (fun f => by rw [impl_ManifestOk_l1,if_neg (by simp)])]
 simp only [joinP,bO]
 by_cases g2 : m.Next ≤ 1000
 ·rw [seg_rise _ g2,decide_eq_true (p := 0 ≤ m.Next ∧ m.Next ≤ 1000) ⟨h0,g2⟩]
  cases rise 0 (m.Next - 1) none m.Segs
  ·simp [oks]
  ·simp only [oks,Sum.elim_inr,within_eq,bO]
   by_cases g1 : 1 ≤ m.Segs.length ∧ m.Segs.length ≤ 8
   case neg => rw [decide_eq_false g1,if_neg (by simp; omega)]; rfl
   rw [decide_eq_true g1,if_pos (by simp; omega),if_pos (by simpa using g2)]
   by_cases g3 : 0 ≤ m.Base ∧ m.Base ≤ 100000
   case neg => rw [decide_eq_false g3]; rfl
   rw [decide_eq_true g3,if_pos rfl]
   by_cases g4 : 0 ≤ m.BaseTerm ∧ m.BaseTerm ≤ 100000
   case neg => rw [decide_eq_false g4]; rfl
   rw [decide_eq_true g4,if_pos rfl,confOk_impl N hN _ (by omega)]
   rfl
 ·rw [decide_eq_false (p := 0 ≤ m.Next ∧ m.Next ≤ 1000) (fun q => g2 q.2)]
  cases chain (okSeg m.Next) none m.Segs
  ·simp [oks]
  ·simp only [oks,Sum.elim_inr,within_eq,bO]
   by_cases g1 : 1 ≤ m.Segs.length ∧ m.Segs.length ≤ 8
   case neg => rw [decide_eq_false g1,if_neg (by simp; omega)]; rfl
   rw [decide_eq_true g1,if_pos (by simp; omega),if_neg (by simpa using g2)]
   rfl
def ncat : List Int → ByteArray
 | [] => ByteArray.empty
 | x :: xs => encT x.toNat ++ ncat xs
theorem ncat_size : ∀ {xs : List Int},(∀ x ∈ xs,0 ≤ x ∧ x ≤ 1000000000) → (ncat xs).size ≤ 5 * xs.length
 | [],_ => by simp [ncat]
 | x :: xs,h => by
  have h1 := ncat_size (xs := xs) (fun y hy => h y (by simp [hy]))
  have h2 := enc_len5 (n := x.toNat) (by have := h x (by simp); omega)
  rw [ncat,ByteArray.size_append,encT_size,List.length_cons]
  omega
theorem rise_all {lo hi : Int} : ∀ {xs : List Int} {o : Option Int},rise lo hi o xs = true → ∀ x ∈ xs,lo ≤ x ∧ x ≤ hi
 | [],_,_ => by simp
 | x :: xs,o,h => by
  rw [rise_cons] at h
  simp only [Bool.and_eq_true,decide_eq_true_eq] at h
  intro y hy
  rcases List.mem_cons.1 hy with rfl | hy
  ·exact h.1
  ·exact rise_all h.2.2 y hy
def mtx (m : Manifest) : ByteArray := encT m.Segs.length ++ ncat m.Segs ++ encT m.Next.toNat ++ encT m.Base.toNat ++ encT m.BaseTerm.toNat ++ encT m.Conf.length ++ ncat m.Conf
theorem manOk_ok {m : Manifest} (h : manOk m = true) : (1 ≤ m.Segs.length ∧ m.Segs.length ≤ 8) ∧ (0 ≤ m.Next ∧ m.Next ≤ 1000) ∧ (∀ x ∈ m.Segs,0 ≤ x ∧ x ≤ 999) ∧ (0 ≤ m.Base ∧ m.Base ≤ 100000) ∧ (0 ≤ m.BaseTerm ∧ m.BaseTerm ≤ 100000) ∧ m.Conf.length ≤ 4 ∧ ∀ x ∈ m.Conf,0 ≤ x ∧ x ≤ 999 := by
 simp only [manOk,confOk,Bool.and_eq_true,decide_eq_true_eq] at h
 obtain ⟨h1,h2,h3,h4,h5,h6,h7,h8⟩ := h
 exact ⟨h1,h2,fun x hx => by have := rise_all h3 x hx; omega,h4,h5,h6,fun x hx => by have := rise_all h8 x hx; omega⟩
theorem numloop (N : Nat) (hN : Big N) (xs : List Int) (hx : ∀ x ∈ xs,0 ≤ x ∧ x ≤ 999) (hl : xs.length ≤ 8) (f : Nat → ByteArray → Int → Option ByteArray) (hf : ∀ m t i,f (m + 1) t i = if (decide (i < (xs.length : Int))) = true then (at? xs i).bind fun x => (spec_l01Var N x).bind fun y => (scat? t y).bind fun z => f m z (w64 (i + 1)) else some t) : ∀ (d k m : Nat) (t : ByteArray),xs.length = k + d → d < m → t.size ≤ 100 + 5 * k → f m t (k : Int) = some (t ++ ncat (xs.drop k)) := by
 intro d
 induction d with
 | zero =>
  intro k m t hd hm ht
  obtain ⟨m,rfl⟩ : ∃ q,m = q + 1 := ⟨m - 1,by omega⟩
  rw [hf,if_neg (by simp; omega),List.drop_eq_nil_of_le (by omega),ncat,ByteArray.append_empty]
 | succ d ih =>
  intro k m t hd hm ht
  obtain ⟨m,rfl⟩ : ∃ q,m = q + 1 := ⟨m - 1,by omega⟩
  have hk : k < xs.length := by omega
  obtain ⟨g1,g2⟩ := hx _ (List.getElem_mem hk)
  obtain ⟨n,hn⟩ : ∃ n : Nat,xs[k] = (n : Int) := ⟨xs[k].toNat,by omega⟩
  have he := enc_len5 (n := n) (by omega)
  rw [hf,if_pos (by simp; omega),at_lt hk,bO,hn,var_spec N hN n (by omega),bO,scat_le (by rw [encT_size]; omega),bO,w64_succ (by omega),ih (k + 1) m _ (by omega) (by omega) (by rw [ByteArray.size_append,encT_size]; omega),List.drop_eq_getElem_cons hk,ncat,hn,ByteArray.append_assoc]
  rfl
theorem mtext_spec (N : Nat) (hN : Big N) (m : Manifest) (h1 : m.Segs.length ≤ 1000000) (h2 : m.Conf.length ≤ 1000000) : spec_ManifestText N m = some (if manOk m = true then (seald N (mtx m),true) else (⟨#[]⟩,false)) := by
 unfold spec_ManifestText
 rw [manOk_spec N hN m h1 h2,bO]
 cases hm : manOk m with
 | false => rfl
 | true =>
  obtain ⟨g1,g2,g3,g4,g5,g6,g7⟩ := manOk_ok hm
  rw [if_neg (by decide),if_pos rfl]
  simp only [joinP]
  have e1 := enc_len5 (n := m.Segs.length) (by omega)
  have e2 := enc_len5 (n := m.Next.toNat) (by omega)
  have e3 := enc_len5 (n := m.Base.toNat) (by omega)
  have e4 := enc_len5 (n := m.BaseTerm.toNat) (by omega)
  have e5 := enc_len5 (n := m.Conf.length) (by omega)
  have s1 := ncat_size (xs := m.Segs) (fun x hx => by have := g3 x hx; omega)
  have s2 := ncat_size (xs := m.Conf) (fun x hx => by have := g7 x hx; omega)
  have l1 := numloop N hN m.Segs g3 (by omega) (spec_ManifestText_l1 N m) (fun f t i => by rw [spec_ManifestText_l1]) m.Segs.length 0 N (encT m.Segs.length) (by omega) (by unfold Big at hN; omega) (by rw [encT_size]; omega)
  have l2 := fun t ht => numloop N hN m.Conf g7 (by omega) (spec_ManifestText_l2 N m) (fun f t i => by rw [spec_ManifestText_l2]) m.Conf.length 0 N t (by omega) (by unfold Big at hN; omega) ht
  rw [show ((0 : Nat) : Int) = 0 from rfl,List.drop_zero] at l1 l2
  rw [var_spec N hN _ (by omega),bO,l1,bO]
  obtain ⟨a,ha⟩ : ∃ n : Nat,m.Next = n := ⟨m.Next.toNat,by omega⟩
  obtain ⟨b,hb⟩ : ∃ n : Nat,m.Base = n := ⟨m.Base.toNat,by omega⟩
  obtain ⟨c,hc⟩ : ∃ n : Nat,m.BaseTerm = n := ⟨m.BaseTerm.toNat,by omega⟩
  rw [ha,Int.toNat_natCast] at e2
  rw [hb,Int.toNat_natCast] at e3
  rw [hc,Int.toNat_natCast] at e4
  have z := encT_size
  rw [ha,hb,hc,var_spec N hN _ (by omega),bO,scat_le (by simp only [ByteArray.size_append,encT_size]; omega),bO,var_spec N hN _ (by omega),bO,scat_le (by simp only [ByteArray.size_append,encT_size]; omega),bO,var_spec N hN _ (by omega),bO,scat_le (by simp only [ByteArray.size_append,encT_size]; omega),bO,var_spec N hN _ (by omega),bO,scat_le (by simp only [ByteArray.size_append,encT_size]; omega),bO,l2 _ (by simp only [ByteArray.size_append,encT_size]; omega),bO]
  have hmt : encT m.Segs.length ++ ncat m.Segs ++ encT a ++ encT b ++ encT c ++ encT m.Conf.length ++ ncat m.Conf = mtx m := by
   unfold mtx
   rw [ha,hb,hc]
   rfl
  rw [hmt,seal_spec N hN _ (by unfold mtx; rw [ha,hb,hc]; simp only [ByteArray.size_append,encT_size,Int.toNat_natCast]; omega)]
  rfl
def gv (t : ByteArray) : Option Nat → Nat × Option Nat
 | none => (0,none)
 | some a => match pv t a with
  | some (n,b) => (n,some b)
  | none => (0,none)
def gns (t : ByteArray) : Nat → Option Nat → List Int × Option Nat
 | 0,o => ([],o)
 | _ + 1,none => ([],none)
 | n + 1,some a => match pv t a with
  | some (x,b) => ((x : Int) :: (gns t n (some b)).1,(gns t n (some b)).2)
  | none => ([0],none)
theorem gns_none (t : ByteArray) (n : Nat) : gns t n none = ([],none) := by cases n <;> rfl
def StS (t : ByteArray) (o : Option Nat) (c : Tl05Cur) : Prop := match o with
 | some a => a ≤ t.size ∧ c = ⟨t,(a : Int),false⟩
 | none => ∃ b : Nat,b ≤ t.size ∧ c = ⟨t,(b : Int),true⟩
def StI (t : ByteArray) (o : Option Nat) (c : Treader) : Prop := match o with
 | some a => a ≤ t.size ∧ c = ⟨t,(a : Int),false⟩
 | none => ∃ b : Nat,b ≤ t.size ∧ c = ⟨t,(b : Int),true⟩
theorem stS (N : Nat) (hN : Big N) {t : ByteArray} (ht : t.size ≤ 20000) {o : Option Nat} {c : Tl05Cur} (h : StS t o c) : ∃ x,spec_l05Var N c = some x ∧ x.1 = ((gv t o).1 : Int) ∧ StS t (gv t o).2 x.2 := by
 cases o with
 | none =>
  obtain ⟨b,hb,rfl⟩ := h
  exact ⟨_,sv_bad N hN t b (by omega) hb,rfl,b,hb,rfl⟩
 | some a =>
  obtain ⟨ha,rfl⟩ := h
  refine ⟨_,sv_ok N hN t a (by omega) ha,?_⟩
  cases hp : pv t a with
  | none => simp only [gv,hp]; exact ⟨rfl,a,ha,rfl⟩
  | some q =>
   obtain ⟨n,b⟩ := q
   simp only [gv,hp]
   exact ⟨trivial,(pv_some ha hp).2.2.1,rfl⟩
theorem stI (N : Nat) (hN : Big N) {t : ByteArray} (ht : t.size ≤ 20000) {o : Option Nat} {c : Treader} (h : StI t o c) : ∃ x,reader_num N c = some x ∧ x.1 = ((gv t o).1 : Int) ∧ StI t (gv t o).2 x.2 := by
 cases o with
 | none =>
  obtain ⟨b,hb,rfl⟩ := h
  exact ⟨_,nv_bad N hN t b (by omega) hb,rfl,b,hb,rfl⟩
 | some a =>
  obtain ⟨ha,rfl⟩ := h
  refine ⟨_,nv_ok N hN t a (by omega) ha,?_⟩
  cases hp : pv t a with
  | none => simp only [gv,hp]; exact ⟨rfl,a,ha,rfl⟩
  | some q =>
   obtain ⟨n,b⟩ := q
   simp only [gv,hp]
   exact ⟨trivial,(pv_some ha hp).2.2.1,rfl⟩
def gap (t : ByteArray) : Option Nat → Nat
 | some a => t.size + 1 - a
 | none => 0
theorem pv_pos {t : ByteArray} {a n b : Nat} (ha : a ≤ t.size) (h : pv t a = some (n,b)) : a < b ∧ b ≤ t.size := by
 unfold pv at h
 cases hr : rdvT t a with
 | none => rw [hr] at h; cases h
 | some q =>
  obtain ⟨x,k⟩ := q
  rw [hr] at h
  simp only [Option.some.injEq,Prod.mk.injEq] at h
  have := rdvT_some ha hr
  omega
theorem gns_gap (t : ByteArray) : ∀ (n : Nat) (o : Option Nat),(∀ a,o = some a → a ≤ t.size) → (gns t n o).1.length ≤ gap t o
 | 0,o,_ => Nat.zero_le _
 | n + 1,none,_ => Nat.le_refl _
 | n + 1,some a,h => by
  have ha := h a rfl
  rw [gns]
  cases hp : pv t a with
  | none => simp only [gap,List.length_singleton]; omega
  | some q =>
   obtain ⟨x,b⟩ := q
   obtain ⟨h1,h2⟩ := pv_pos ha hp
   have := gns_gap t n (some b) (fun a h => by cases h; exact h2)
   simp only [gap,List.length_cons] at this ⊢
   omega
theorem gnsS (N : Nat) (hN : Big N) {t : ByteArray} (ht : t.size ≤ 20000) (n B : Nat) (hB : B ≤ 8) (f : Nat → Int → ByteArray → Int → Bool → List Int → Option (ByteArray × Int × Bool × List Int))
  (hf : ∀ m i x a b acc,f (m + 1) i x a b acc = if (decide (i < (n : Int))) = true then (if (!b) = true then (if (decide (i ≤ (B : Int))) = true then (spec_l05Var N ⟨x,a,b⟩).bind fun y => (cat? acc [y.1]).bind fun z => f m (w64 (i + 1)) y.2.text y.2.at' y.2.bad z else some (x,a,b,acc)) else some (x,a,b,acc)) else some (x,a,b,acc)) :
  ∀ (d k m : Nat) (o : Option Nat) (c : Tl05Cur) (acc : List Int),min n (B + 1) = k + d → d < m → acc.length ≤ k → StS t o c → ∃ c',f m (k : Int) c.text c.at' c.bad acc = some (c'.text,c'.at',c'.bad,acc ++ (gns t d o).1) ∧ StS t (gns t d o).2 c' := by
 intro d
 induction d with
 | zero =>
  intro k m o c acc hd hm ha hc
  obtain ⟨m,rfl⟩ : ∃ q,m = q + 1 := ⟨m - 1,by omega⟩
  refine ⟨c,?_,hc⟩
  rw [hf,gns,List.append_nil]
  by_cases h1 : k < n
  ·rw [if_pos (by simp; omega)]
   cases c.bad
   ·rw [if_pos (by rfl),if_neg (by simp; omega)]
   ·rfl
  ·rw [if_neg (by simp; omega)]
 | succ d ih =>
  intro k m o c acc hd hm ha hc
  obtain ⟨m,rfl⟩ : ∃ q,m = q + 1 := ⟨m - 1,by omega⟩
  rw [hf,if_pos (by simp; omega)]
  cases o with
  | none =>
   refine ⟨c,?_,hc⟩
   obtain ⟨b,hb,rfl⟩ := hc
   rw [gns,List.append_nil]
   rfl
  | some a =>
   obtain ⟨x,h1,h2,h3⟩ := stS N hN ht hc
   obtain ⟨ha',rfl⟩ := hc
   rw [if_pos (by rfl),if_pos (by simp; omega),h1,bO,cat_le (by simp; omega),bO,w64_succ (by omega)]
   obtain ⟨c',e1,e2⟩ := ih (k + 1) m _ x.2 (acc ++ [x.1]) (by omega) (by omega) (by simp; omega) h3
   refine ⟨c',?_,?_⟩
   ·rw [e1,gns,h2]
    cases hp : pv t a with
    | none => simp only [gv,hp,gns_none,List.append_assoc]; rfl
    | some q => simp only [gv,hp,List.append_assoc]; rfl
   ·rw [gns]
    cases hp : pv t a with
    | none => simpa only [gv,hp,gns_none] using e2
    | some q => simpa only [gv,hp] using e2
theorem gnsI {ρ : Type} (N : Nat) (hN : Big N) {t : ByteArray} (ht : t.size ≤ 20000) (n : Nat) (g : ByteArray → Int → Bool → List Int → ρ) (f : Nat → Int → ByteArray → Int → Bool → List Int → Option ρ)
  (hf : ∀ m i x a b acc,f (m + 1) i x a b acc = if (decide (i < (n : Int))) = true then (if (!b) = true then (reader_num N ⟨x,a,b⟩).bind fun y => (cat? acc [y.1]).bind fun z => f m (w64 (i + 1)) y.2.s y.2.at' y.2.bad z else some (g x a b acc)) else some (g x a b acc)) (hn : n ≤ 1000000000) :
  ∀ (d k m : Nat) (o : Option Nat) (c : Treader) (acc : List Int),n = k + d → gap t o < m → acc.length + gap t o ≤ 1000000 → StI t o c → ∃ c',f m (k : Int) c.s c.at' c.bad acc = some (g c'.s c'.at' c'.bad (acc ++ (gns t d o).1)) ∧ StI t (gns t d o).2 c' := by
 intro d
 induction d with
 | zero =>
  intro k m o c acc hd hm ha hc
  obtain ⟨m,rfl⟩ : ∃ q,m = q + 1 := ⟨m - 1,by omega⟩
  refine ⟨c,?_,hc⟩
  rw [hf,gns,List.append_nil,if_neg (by simp; omega)]
 | succ d ih =>
  intro k m o c acc hd hm ha hc
  obtain ⟨m,rfl⟩ : ∃ q,m = q + 1 := ⟨m - 1,by omega⟩
  rw [hf,if_pos (by simp; omega)]
  cases o with
  | none =>
   refine ⟨c,?_,hc⟩
   obtain ⟨b,hb,rfl⟩ := hc
   rw [gns,List.append_nil]
   rfl
  | some a =>
   obtain ⟨x,h1,h2,h3⟩ := stI N hN ht hc
   obtain ⟨ha',rfl⟩ := hc
   simp only [gap] at hm ha
   have hg : gap t (gv t (some a)).2 + 1 ≤ t.size + 1 - a := by
    cases hp : pv t a with
    | none => simp only [gv,hp,gap]; omega
    | some q =>
     obtain ⟨y,b⟩ := q
     obtain ⟨g1,g2⟩ := pv_pos ha' hp
     simp only [gv,hp,gap]
     omega
   rw [if_pos (by rfl),h1,bO,cat_le (by simp; omega),bO,w64_succ (by omega)]
   obtain ⟨c',e1,e2⟩ := ih (k + 1) m _ x.2 (acc ++ [x.1]) (by omega) (by omega) (by simp; omega) h3
   refine ⟨c',?_,?_⟩
   ·rw [e1,gns,h2]
    cases hp : pv t a with
    | none => simp only [gv,hp,gns_none,List.append_assoc]; rfl
    | some q => simp only [gv,hp,List.append_assoc]; rfl
   ·rw [gns]
    cases hp : pv t a with
    | none => simpa only [gv,hp,gns_none] using e2
    | some q => simpa only [gv,hp] using e2
theorem gv_some {t : ByteArray} {o : Option Nat} {b : Nat} (h : (gv t o).2 = some b) : ∃ a,o = some a ∧ pv t a = some ((gv t o).1,b) := by
 cases o with
 | none => cases h
 | some a =>
  refine ⟨a,rfl,?_⟩
  cases hp : pv t a with
  | none => simp [gv,hp] at h
  | some q =>
   obtain ⟨x,c⟩ := q
   simp only [gv,hp,Option.some.injEq] at h ⊢
   rw [h]
theorem gns_some {t : ByteArray} : ∀ {n : Nat} {o : Option Nat} {e : Nat},(∀ a,o = some a → a ≤ t.size) → (gns t n o).2 = some e → ∃ a,o = some a ∧ a ≤ e ∧ e ≤ t.size ∧ (gns t n o).1.length = n ∧ ncat (gns t n o).1 = t.extract a e
 | 0,o,e,ha,h => by
  rw [gns] at h
  simp only at h
  have := ha e h
  refine ⟨e,h,Nat.le_refl _,this,rfl,?_⟩
  rw [gns]
  simp [ncat]
 | n + 1,none,e,ha,h => by cases h
 | n + 1,some a,e,ha,h => by
  have ha' := ha a rfl
  rw [gns] at h ⊢
  cases hp : pv t a with
  | none => rw [hp] at h; cases h
  | some q =>
   obtain ⟨x,b⟩ := q
   rw [hp] at h
   simp only at h ⊢
   obtain ⟨g1,g2,g3,g4⟩ := pv_some ha' hp
   obtain ⟨a2,e1,e2,e3,e4,e5⟩ := gns_some (fun a h => by cases h; exact g3) h
   cases e1
   refine ⟨a,rfl,by omega,e3,by rw [List.length_cons,e4],?_⟩
   rw [ncat,e5,Int.toNat_natCast,g4,ext_app t a b e g2 e2 e3]
def mread (t : ByteArray) (o : Option Nat) (p q : Nat → Nat) : Manifest × Option Nat :=
 let r0 := gv t o
 let r1 := gns t (p r0.1) r0.2
 let r2 := gv t r1.2
 let r3 := gv t r2.2
 let r4 := gv t r3.2
 let r5 := gv t r4.2
 let r6 := gns t (q r5.1) r5.2
 (⟨r1.1,(r2.1 : Int),(r3.1 : Int),(r4.1 : Int),r6.1⟩,r6.2)
theorem gv_le {t : ByteArray} {o : Option Nat} (h : ∀ a,o = some a → a ≤ t.size) : ∀ b,(gv t o).2 = some b → b ≤ t.size := by
 intro b hb
 obtain ⟨a,rfl,hp⟩ := gv_some hb
 exact (pv_pos (h a rfl) hp).2
theorem gns_le {t : ByteArray} {n : Nat} {o : Option Nat} (h : ∀ a,o = some a → a ≤ t.size) : ∀ b,(gns t n o).2 = some b → b ≤ t.size := by
 intro b hb
 exact (gns_some h hb).choose_spec.2.2.1
theorem gv_le9 {t : ByteArray} {o : Option Nat} (h : ∀ a,o = some a → a ≤ t.size) : (gv t o).1 ≤ 1000000000 := by
 cases o with
 | none => exact Nat.zero_le _
 | some a =>
  cases hp : pv t a with
  | none => simp [gv,hp]
  | some q =>
   obtain ⟨x,b⟩ := q
   simp only [gv,hp]
   exact (pv_some (h a rfl) hp).1
theorem mread_some {t : ByteArray} {o : Option Nat} (ho : ∀ a,o = some a → a ≤ t.size) {p q : Nat → Nat} {e : Nat} (h : (mread t o p q).2 = some e) : (mread t o p q).1.Segs.length = p (gv t o).1 ∧ (mread t o p q).1.Conf.length = q (gv t (gv t (gv t (gv t (gns t (p (gv t o).1) (gv t o).2).2).2).2).2).1 ∧ e ≤ t.size ∧
  (p (gv t o).1 = (gv t o).1 → q (gv t (gv t (gv t (gv t (gns t (p (gv t o).1) (gv t o).2).2).2).2).2).1 = (gv t (gv t (gv t (gv t (gns t (p (gv t o).1) (gv t o).2).2).2).2).2).1 → ∃ a,o = some a ∧ mtx (mread t o p q).1 = t.extract a e) := by
 unfold mread at h ⊢
 simp only at h ⊢
 have h0 := gv_le ho
 have h1 := gns_le (n := p (gv t o).1) h0
 have h2 := gv_le h1
 have h3 := gv_le h2
 have h4 := gv_le h3
 have h5 := gv_le h4
 obtain ⟨a5,e5,l5,u5,n5,t5⟩ := gns_some h5 h
 obtain ⟨a4,e4,p4⟩ := gv_some e5
 obtain ⟨a3,e3,p3⟩ := gv_some e4
 obtain ⟨a2,e2,p2⟩ := gv_some e3
 obtain ⟨a1,e1,p1⟩ := gv_some e2
 obtain ⟨a0,e0,l0,u0,n0,t0⟩ := gns_some h0 e1
 obtain ⟨a,ea,pa⟩ := gv_some e0
 refine ⟨n0,n5,u5,fun hp hq => ⟨a,ea,?_⟩⟩
 unfold mtx
 simp only [Int.toNat_natCast]
 rw [n0,n5,t0,t5,congrArg encT hq,congrArg encT hp]
 have q0 := pv_some (ho a ea) pa
 have q1 := pv_some (h1 a1 e1) p1
 have q2 := pv_some (h2 a2 e2) p2
 have q3 := pv_some (h3 a3 e3) p3
 have q4 := pv_some (h4 a4 e4) p4
 rw [q0.2.2.2,q1.2.2.2,q2.2.2.2,q3.2.2.2,q4.2.2.2]
 rw [ext_app t a a0 a1 (by omega) (by omega) (by omega),ext_app t a a1 a2 (by omega) (by omega) (by omega),ext_app t a a2 a3 (by omega) (by omega) (by omega),ext_app t a a3 a4 (by omega) (by omega) (by omega),ext_app t a a4 a5 (by omega) (by omega) (by omega),ext_app t a a5 e (by omega) (by omega) (by omega)]
theorem manOk_segs {m : Manifest} (h : 8 < m.Segs.length) : manOk m = false := by
 simp only [manOk]
 rw [decide_eq_false (by omega)]
 rfl
theorem manOk_conf {m : Manifest} (h : 4 < m.Conf.length) : manOk m = false := by
 cases hm : manOk m with
 | false => rfl
 | true => have := (manOk_ok hm).2.2.2.2.2.1; omega
theorem mread_two {t : ByteArray} {o : Option Nat} (ho : ∀ a,o = some a → a ≤ t.size) : (mread t o (fun n => min n 9) (fun n => min n 5) = mread t o (fun n => n) (fun n => n) ∧ ∀ e,(mread t o (fun n => n) (fun n => n)).2 = some e → ∃ a,o = some a ∧ mtx (mread t o (fun n => n) (fun n => n)).1 = t.extract a e) ∨
  ((∀ e,(mread t o (fun n => min n 9) (fun n => min n 5)).2 = some e → manOk (mread t o (fun n => min n 9) (fun n => min n 5)).1 = false) ∧ ∀ e,(mread t o (fun n => n) (fun n => n)).2 = some e → manOk (mread t o (fun n => n) (fun n => n)).1 = false) := by
 by_cases h1 : (gv t o).1 ≤ 9
 ·have e1 : min (gv t o).1 9 = (gv t o).1 := by omega
  by_cases h2 : (gv t (gv t (gv t (gv t (gns t (gv t o).1 (gv t o).2).2).2).2).2).1 ≤ 5
  ·have e2 : min (gv t (gv t (gv t (gv t (gns t (gv t o).1 (gv t o).2).2).2).2).2).1 5 = (gv t (gv t (gv t (gv t (gns t (gv t o).1 (gv t o).2).2).2).2).2).1 := by omega
   refine .inl ⟨?_,fun e he => (mread_some ho he).2.2.2 rfl rfl⟩
   unfold mread
   simp only [e1,e2]
  ·refine .inr ⟨fun e he => manOk_conf ?_,fun e he => manOk_conf ?_⟩
   ·have := (mread_some ho he).2.1
    simp only [e1] at this
    omega
   ·have := (mread_some ho he).2.1
    omega
 ·refine .inr ⟨fun e he => manOk_segs ?_,fun e he => manOk_segs ?_⟩
  ·have := (mread_some ho he).1
   omega
  ·have := (mread_some ho he).1
   omega
def man0 : Manifest := ⟨[],0,0,0,[]⟩
def manF (m : Manifest) (b : Bool) : Manifest × Bool := if b = true then (m,true) else (man0,false)
def manR (N : Nat) (t : ByteArray) : Manifest × Bool := if (unsR N t).2 = true then
  manF (mread (unsR N t).1 (some 0) (fun n => n) (fun n => n)).1 (decide ((mread (unsR N t).1 (some 0) (fun n => n) (fun n => n)).2 = some (unsR N t).1.size) && manOk (mread (unsR N t).1 (some 0) (fun n => n) (fun n => n)).1)
 else (man0,false)
theorem uns_size {N : Nat} {t : ByteArray} (ht : t.size ≤ 20000) : (unsR N t).1.size ≤ 20000 := by
 unfold unsR
 split
 ·rename_i h
  rw [ext_size t 0 (t.size - 4) (by omega) (by omega)]
  omega
 ·exact Nat.zero_le _
theorem mread_len {t : ByteArray} (ht : t.size ≤ 20000) {o : Option Nat} (ho : ∀ a,o = some a → a ≤ t.size) (p q : Nat → Nat) : (mread t o p q).1.Segs.length ≤ 20001 ∧ (mread t o p q).1.Conf.length ≤ 20001 ∧ 0 ≤ (mread t o p q).1.Next := by
 have hg : ∀ o : Option Nat,gap t o ≤ 20001 := by intro o; cases o <;> simp only [gap] <;> omega
 unfold mread
 simp only
 refine ⟨Nat.le_trans (gns_gap t _ _ (gv_le ho)) (hg _),Nat.le_trans (gns_gap t _ _ (gv_le (gv_le (gv_le (gv_le (gns_le (gv_le ho))))))) (hg _),by omega⟩
theorem mani_impl (N : Nat) (hN : Big N) (t : ByteArray) (ht : t.size ≤ 20000) : impl_ReadManifest N t = some (manR N t) := by
 unfold impl_ReadManifest manR
 rw [unseal_impl N hN t ht,bO]
 have hs := uns_size (N := N) ht
 generalize unsR N t = u at hs
 obtain ⟨s,b⟩ := u
 cases b with
 | false => rfl
 | true =>
  simp only [Bool.not_true,Bool.false_eq_true,if_false,if_true] at hs ⊢
  have ho : ∀ a,some 0 = some a → a ≤ s.size := fun a h => by cases h; exact Nat.zero_le _
  obtain ⟨hl1,hl2,hl3⟩ := mread_len hs ho (fun n => n) (fun n => n)
  have hg : ∀ o : Option Nat,gap s o ≤ 20001 := by intro o; cases o <;> simp only [gap] <;> omega
  unfold reader_each
  have hi : StI s (some 0) ⟨s,0,false⟩ := ⟨Nat.zero_le _,rfl⟩
  obtain ⟨x0,a0,b0,c0⟩ := stI N hN hs hi
  rw [a0,bO]
  obtain ⟨c1,d1,f1⟩ := gnsI N hN hs (gv s (some 0)).1 (fun x a b l => (x,a,b,(0 : Int),(0 : Int),(0 : Int),l)) (fun m i x a b l => reader_each_l1 N x0 m i x a b 0 0 0 l) (fun m i x a b acc => by
   rw [reader_each_l1,b0]
   unfold impl_ReadManifest_1
   simp only [Option.bind_assoc,bO]) (gv_le9 ho) (gv s (some 0)).1 0 N _ x0.2 [] (by omega) (by have := hg (gv s (some 0)).2; unfold Big at hN; omega) (by have := hg (gv s (some 0)).2; simp; omega) c0
  simp only [show ((0 : Nat) : Int) = 0 from rfl,List.nil_append] at d1
  rw [d1]
  simp only [bO]
  obtain ⟨x2,a2,b2,c2⟩ := stI N hN hs f1
  rw [show (⟨c1.s,c1.at',c1.bad⟩ : Treader) = c1 from rfl,a2,bO]
  obtain ⟨x3,a3,b3,c3⟩ := stI N hN hs c2
  rw [a3,bO]
  obtain ⟨x4,a4,b4,c4⟩ := stI N hN hs c3
  rw [a4,bO]
  unfold reader_each_i1
  obtain ⟨x5,a5,b5,c5⟩ := stI N hN hs c4
  rw [a5]
  simp only [bO]
  obtain ⟨c6,d6,f6⟩ := gnsI N hN hs (gv s (gv s (gv s (gv s (gns s (gv s (some 0)).1 (gv s (some 0)).2).2).2).2).2).1 (fun x a b l => (x,a,b,x2.1,x3.1,x4.1,l)) (fun m i x a b l => reader_each_i1_l1 N ⟨(gns s (gv s (some 0)).1 (gv s (some 0)).2).1,x2.1,x3.1,x4.1,[]⟩ x5 m i x a b x2.1 x3.1 x4.1 l) (fun m i x a b acc => by
   rw [reader_each_i1_l1,b5]
   unfold impl_ReadManifest_2
   simp only [Option.bind_assoc,bO]) (gv_le9 (gv_le (gv_le (gv_le (gns_le (gv_le ho)))))) (gv s (gv s (gv s (gv s (gns s (gv s (some 0)).1 (gv s (some 0)).2).2).2).2).2).1 0 N _ x5.2 [] (by omega) (by have := hg (gv s (gv s (gv s (gv s (gns s (gv s (some 0)).1 (gv s (some 0)).2).2).2).2).2).2; unfold Big at hN; omega) (by have := hg (gv s (gv s (gv s (gv s (gns s (gv s (some 0)).1 (gv s (some 0)).2).2).2).2).2).2; simp; omega) c5
  simp only [show ((0 : Nat) : Int) = 0 from rfl,List.nil_append] at d6
  rw [d6]
  simp only [bO]
  have hm : (⟨(gns s (gv s (some 0)).1 (gv s (some 0)).2).1,x2.1,x3.1,x4.1,(gns s (gv s (gv s (gv s (gv s (gns s (gv s (some 0)).1 (gv s (some 0)).2).2).2).2).2).1 (gv s (gv s (gv s (gv s (gns s (gv s (some 0)).1 (gv s (some 0)).2).2).2).2).2).2).1⟩ : Manifest) = (mread s (some 0) (fun n => n) (fun n => n)).1 := by
   unfold mread
   simp only [b2,b3,b4]
  have hr : (gns s (gv s (gv s (gv s (gv s (gns s (gv s (some 0)).1 (gv s (some 0)).2).2).2).2).2).1 (gv s (gv s (gv s (gv s (gns s (gv s (some 0)).1 (gv s (some 0)).2).2).2).2).2).2).2 = (mread s (some 0) (fun n => n) (fun n => n)).2 := by
   unfold mread
   rfl
  rw [hm]
  rw [hr] at f6
  generalize mread s (some 0) (fun n => n) (fun n => n) = r at hl1 hl2 hl3 f6
  obtain ⟨m,o⟩ := r
  simp only at hl1 hl2 hl3 f6 ⊢
  rw [manOk_impl N hN m (by omega) (by omega) hl3]
  simp only [bO]
  unfold reader_done manF
  cases o with
  | none =>
   obtain ⟨b,hb,rfl⟩ := f6
   rfl
  | some a =>
   obtain ⟨ha,rfl⟩ := f6
   by_cases he : a = s.size
   ·subst he
    cases manOk m <;> simp [man0]
   ·have : ¬ (a : Int) = (s.size : Int) := by omega
    simp [he,this,man0]
theorem mread_none (t : ByteArray) (p q : Nat → Nat) : (mread t none p q).2 = none := by
 unfold mread
 simp only [gv,gns_none]
theorem mread_len9 {t : ByteArray} (o : Option Nat) : (mread t o (fun n => min n 9) (fun n => min n 5)).1.Segs.length ≤ 9 ∧ (mread t o (fun n => min n 9) (fun n => min n 5)).1.Conf.length ≤ 5 := by
 have h : ∀ (n : Nat) (o : Option Nat),(gns t n o).1.length ≤ n := by
  intro n
  induction n with
  | zero => intro o; exact Nat.le_refl _
  | succ n ih =>
   intro o
   cases o with
   | none => exact Nat.zero_le _
   | some a =>
    rw [gns]
    cases pv t a with
    | none => simp
    | some q => simp only [List.length_cons]; exact Nat.succ_le_succ (ih _)
 unfold mread
 simp only
 exact ⟨Nat.le_trans (h _ _) (Nat.min_le_right _ _),Nat.le_trans (h _ _) (Nat.min_le_right _ _)⟩
theorem seal_inj {N : Nat} (hN : Big N) {s : ByteArray} (hs : s.size ≤ 20000) {e : Nat} (he : e ≤ s.size) : seald N (s.extract 0 e) = seald N s ↔ e = s.size := by
 constructor
 ·intro h
  have := congrArg ByteArray.size h
  unfold seald at this
  rw [ByteArray.size_append,ByteArray.size_append,four_size N hN _ (by rw [ext_size s 0 e (by omega) he]; omega),four_size N hN _ (by omega),ext_size s 0 e (by omega) he] at this
  omega
 ·rintro rfl
  rw [ext_full]
theorem mani_spec (N : Nat) (hN : Big N) (t : ByteArray) (ht : t.size ≤ 20000) : spec_ReadManifest N t = some (manR N t) := by
 unfold spec_ReadManifest manR
 rw [unseal_spec N hN t ht,bO]
 have hs := uns_size (N := N) ht
 have hu : (unsR N t).2 = true → seald N (unsR N t).1 = t := by
  unfold unsR
  split
  ·rename_i h; exact fun _ => h.2
  ·intro h; cases h
 generalize unsR N t = u at hs hu
 obtain ⟨s,b⟩ := u
 obtain ⟨o,hb,ho,hi⟩ : ∃ o : Option Nat,o = (if b = true then some 0 else none) ∧ (∀ a,o = some a → a ≤ s.size) ∧ StS s o ⟨s,0,!b⟩ := by
  cases b
  ·exact ⟨none,rfl,(fun a h => by cases h),0,Nat.zero_le _,rfl⟩
  ·exact ⟨some 0,rfl,(fun a h => by cases h; exact Nat.zero_le _),Nat.zero_le _,rfl⟩
 obtain ⟨hl1,hl2⟩ := mread_len9 (t := s) o
 simp only at hs hu ⊢
 obtain ⟨x0,a0,b0,c0⟩ := stS N hN hs hi
 rw [a0]
 simp only [bO,joinP]
 obtain ⟨c1,d1,f1⟩ := gnsS N hN hs (gv s o).1 8 (by omega) (spec_ReadManifest_l1 N x0) (fun m i x a b acc => by rw [spec_ReadManifest_l1,b0]; rfl) (min (gv s o).1 9) 0 N _ x0.2 [] (by omega) (by unfold Big at hN; omega) (by simp) c0
 simp only [show ((0 : Nat) : Int) = 0 from rfl,List.nil_append] at d1
 rw [d1]
 simp only [bO]
 obtain ⟨x2,a2,b2,c2⟩ := stS N hN hs f1
 rw [show (⟨c1.text,c1.at',c1.bad⟩ : Tl05Cur) = c1 from rfl,a2,bO]
 obtain ⟨x3,a3,b3,c3⟩ := stS N hN hs c2
 rw [a3,bO]
 obtain ⟨x4,a4,b4,c4⟩ := stS N hN hs c3
 rw [a4,bO]
 obtain ⟨x5,a5,b5,c5⟩ := stS N hN hs c4
 rw [a5]
 simp only [bO]
 obtain ⟨c6,d6,f6⟩ := gnsS N hN hs (gv s (gv s (gv s (gv s (gns s (min (gv s o).1 9) (gv s o).2).2).2).2).2).1 4 (by omega) (spec_ReadManifest_l2 N x5) (fun m i x a b acc => by rw [spec_ReadManifest_l2,b5]; rfl) (min (gv s (gv s (gv s (gv s (gns s (min (gv s o).1 9) (gv s o).2).2).2).2).2).1 5) 0 N _ x5.2 [] (by omega) (by unfold Big at hN; omega) (by simp) c5
 simp only [show ((0 : Nat) : Int) = 0 from rfl,List.nil_append] at d6
 rw [d6]
 simp only [bO]
 have hm : (⟨(gns s (min (gv s o).1 9) (gv s o).2).1,x2.1,x3.1,x4.1,(gns s (min (gv s (gv s (gv s (gv s (gns s (min (gv s o).1 9) (gv s o).2).2).2).2).2).1 5) (gv s (gv s (gv s (gv s (gns s (min (gv s o).1 9) (gv s o).2).2).2).2).2).2).1⟩ : Manifest) = (mread s o (fun n => min n 9) (fun n => min n 5)).1 := by
  unfold mread
  simp only [b2,b3,b4]
 have hr : (gns s (min (gv s (gv s (gv s (gv s (gns s (min (gv s o).1 9) (gv s o).2).2).2).2).2).1 5) (gv s (gv s (gv s (gv s (gns s (min (gv s o).1 9) (gv s o).2).2).2).2).2).2).2 = (mread s o (fun n => min n 9) (fun n => min n 5)).2 := by
  unfold mread
  rfl
 rw [hm]
 rw [hr] at f6
 rw [mtext_spec N hN _ (by omega) (by omega),bO]
 cases b with
 | false =>
  subst hb
  rw [if_neg (by decide),mread_none] at f6
  obtain ⟨b,hb,rfl⟩ := f6
  rfl
 | true =>
  rw [if_pos rfl] at hb
  subst hb
  rw [if_pos rfl]
  have hst := hu rfl
  rcases mread_two ho with ⟨h1,h2⟩ | ⟨h1,h2⟩
  ·rw [h1] at f6 ⊢
   cases ho2 : (mread s (some 0) (fun n => n) (fun n => n)).2 with
   | none =>
    rw [ho2] at f6
    obtain ⟨b,hb,rfl⟩ := f6
    rfl
   | some e =>
    rw [ho2] at f6
    obtain ⟨he,rfl⟩ := f6
    obtain ⟨a,ea,hmt⟩ := h2 e ho2
    cases ea
    have hinj := seal_inj (N := N) hN hs he
    cases hmo : manOk (mread s (some 0) (fun n => n) (fun n => n)).1 with
    | false => simp [manF,man0]
    | true =>
     rw [hmt]
     by_cases hes : e = s.size
     ·have := hinj.2 hes
      rw [hst] at this
      rw [this,hes]
      simp [manF]
     ·have h3 : ¬ seald N (s.extract 0 e) = t := by rw [← hst]; exact fun h => hes (hinj.1 h)
      simp [manF,man0,h3,hes]
  ·have g1 : (if c6.bad = true then (some (man0,false) : Option (Manifest × Bool)) else if (!(if manOk (mread s (some 0) (fun n => min n 9) (fun n => min n 5)).1 = true then (seald N (mtx (mread s (some 0) (fun n => min n 9) (fun n => min n 5)).1),true) else ((⟨#[]⟩ : ByteArray),false)).2) = true then some (man0,false) else if (!decide ((if manOk (mread s (some 0) (fun n => min n 9) (fun n => min n 5)).1 = true then (seald N (mtx (mread s (some 0) (fun n => min n 9) (fun n => min n 5)).1),true) else ((⟨#[]⟩ : ByteArray),false)).1 = t)) = true then some (man0,false) else some ((mread s (some 0) (fun n => min n 9) (fun n => min n 5)).1,true)) = some (man0,false) := by
    cases ho2 : (mread s (some 0) (fun n => min n 9) (fun n => min n 5)).2 with
    | none =>
     rw [ho2] at f6
     obtain ⟨b,hb,rfl⟩ := f6
     rfl
    | some e =>
     rw [h1 e ho2]
     split <;> rfl
   refine g1.trans ?_
   cases ho2 : (mread s (some 0) (fun n => n) (fun n => n)).2 with
   | none => simp [manF]
   | some e => rw [h2 e ho2]; simp [manF]
def sname (x : Int) : ByteArray := if 0 ≤ x ∧ x ≤ 999 then (⟨#[103]⟩ : ByteArray) ++ ⟨(Lib.itoa x).toArray⟩ else ⟨#[]⟩
theorem itoa_len {x : Int} (h : 0 ≤ x ∧ x ≤ 999) : (Lib.itoa x).length ≤ 10 := by
 obtain ⟨n,rfl⟩ : ∃ n : Nat,x = n := ⟨x.toNat,by omega⟩
 rw [itoa_nat]
 exact dec_len10 (by omega)
theorem sname_spec (N : Nat) (hN : Big N) (x : Int) : spec_SegName N x = some (sname x) := by
 unfold spec_SegName sname
 rw [in_eq,bO]
 by_cases h : 0 ≤ x ∧ x ≤ 999
 ·have hl := itoa_len h
  rw [decide_eq_true h,if_neg (by decide),dec_spec N hN x (by omega) (by omega),bO,scat_le (by rw [show (⟨(Lib.itoa x).toArray⟩ : ByteArray).size = (Lib.itoa x).length from List.size_toArray]; show 1 + _ ≤ _; omega),if_pos h]
  rfl
 ·rw [decide_eq_false h,if_neg h]; rfl
theorem sname_impl (N : Nat) (hN : Big N) (x : Int) : impl_SegName N x = some (sname x) := by
 unfold impl_SegName sname impl_Decimal strconv_Itoa
 rw [within_eq,bO]
 by_cases h : 0 ≤ x ∧ x ≤ 999
 ·have hl := itoa_len h
  rw [decide_eq_true h,if_neg (by decide)]
  unfold itoa?
  rw [if_pos (by omega),itoaL_eq,bO,bO,scat_le (by rw [show (⟨(Lib.itoa x).toArray⟩ : ByteArray).size = (Lib.itoa x).length from List.size_toArray]; show 1 + _ ≤ _; omega),if_pos h]
  rfl
 ·rw [decide_eq_false h,if_neg h]; rfl
theorem isSeg_tot (N : Nat) (hN : Big N) (t : ByteArray) (ht : t.size ≤ 20000) : ∃ b,impl_isSegName N t = some b := by
 unfold impl_isSegName
 have hc : ∃ u : ByteArray × Bool,strings_CutPrefix N t ⟨#[103]⟩ = some u ∧ u.1.size ≤ 20000 := by
  unfold strings_CutPrefix internal_stringslite_CutPrefix internal_stringslite_HasPrefix
  by_cases h : 1 ≤ t.size
  ·rw [if_pos (by simp only [decide_eq_true_eq]; show (t.size : Int) ≥ ((1 : Nat) : Int); omega),show (((⟨#[103]⟩ : ByteArray).size : Nat) : Int) = ((1 : Nat) : Int) from rfl,stake_ok h,bO,bO,sdrop_ok h]
   split
   ·exact ⟨_,rfl,ht⟩
   ·refine ⟨_,rfl,?_⟩
    show (t.extract 1 t.size).size ≤ 20000
    rw [ext_size t 1 t.size h (Nat.le_refl _)]
    omega
  ·rw [if_neg (by simp only [decide_eq_true_eq]; show ¬ (t.size : Int) ≥ ((1 : Nat) : Int); omega)]
   exact ⟨_,rfl,ht⟩
 obtain ⟨u,e1,e2⟩ := hc
 rw [e1,bO,rdec_impl N _ (by omega),bO,sname_impl N hN]
 split
 ·split
  ·exact ⟨_,rfl⟩
  ·exact ⟨_,rfl⟩
 ·exact ⟨_,rfl⟩
theorem l09Seg_tot (N : Nat) (hN : Big N) (t : ByteArray) (ht : t.size ≤ 20000) : ∃ b,spec_l09Seg N t = some b := by
 unfold spec_l09Seg
 by_cases h : 2 ≤ t.size
 ·rw [if_neg (by simp; omega),show (1 : Int) = ((1 : Nat) : Int) from rfl,sdrop_ok (by omega),bO,rdec_spec N hN,bO,sname_spec N hN]
  split
  ·exact ⟨_,rfl⟩
  ·rw [bO]; split <;> exact ⟨_,rfl⟩
 ·rw [if_pos (by simp; omega)]; exact ⟨_,rfl⟩
theorem l09In_tot (N : Nat) (xs : List Int) (x : Int) (hl : xs.length ≤ 1000000) (hN : Big N) : ∃ b,spec_l09In N xs x = some b := by
 have key : ∀ (d k m : Nat),xs.length = k + d → d < m → ∃ o,spec_l09In_l1 N xs x m (k : Int) = some o := by
  intro d
  induction d with
  | zero =>
   intro k m hd hm
   obtain ⟨m,rfl⟩ : ∃ q,m = q + 1 := ⟨m - 1,by omega⟩
   rw [spec_l09In_l1,if_neg (by simp; omega)]
   exact ⟨_,rfl⟩
  | succ d ih =>
   intro k m hd hm
   obtain ⟨m,rfl⟩ : ∃ q,m = q + 1 := ⟨m - 1,by omega⟩
   rw [spec_l09In_l1,if_pos (by simp; omega),at_lt (by omega),bO]
   split
   ·exact ⟨_,rfl⟩
   ·rw [w64_succ (by omega)]; exact ih (k + 1) m (by omega) (by omega)
 obtain ⟨o,ho⟩ := key xs.length 0 N (by omega) (by unfold Big at hN; omega)
 rw [show ((0 : Nat) : Int) = 0 from rfl] at ho
 unfold spec_l09In
 simp only [joinP]
 rw [ho]
 cases o <;> exact ⟨_,rfl⟩
theorem contains_tot (N : Nat) (hN : Big N) (xs : List Int) (f : File) (hl : xs.length ≤ 1000000) : ∃ b,slices_ContainsFunc_int N xs f = some b := by
 have key : ∀ (d k m : Nat),xs.length = k + d → d < m → ∃ o,slices_IndexFunc_int_l1 N xs f m (k : Int) = some o := by
  intro d
  induction d with
  | zero =>
   intro k m hd hm
   obtain ⟨m,rfl⟩ : ∃ q,m = q + 1 := ⟨m - 1,by omega⟩
   rw [slices_IndexFunc_int_l1,if_neg (by simp; omega)]
   exact ⟨_,rfl⟩
  | succ d ih =>
   intro k m hd hm
   obtain ⟨m,rfl⟩ : ∃ q,m = q + 1 := ⟨m - 1,by omega⟩
   rw [slices_IndexFunc_int_l1,if_pos (by simp; omega),at_lt (by omega),bO]
   unfold impl_cleaning_1
   rw [sname_impl N hN,bO,bO]
   split
   ·exact ⟨_,rfl⟩
   ·rw [w64_succ (by omega)]; exact ih (k + 1) m (by omega) (by omega)
 obtain ⟨o,ho⟩ := key xs.length 0 N (by omega) (by unfold Big at hN; omega)
 rw [show ((0 : Nat) : Int) = 0 from rfl] at ho
 unfold slices_ContainsFunc_int slices_IndexFunc_int
 simp only [joinP]
 rw [ho]
 cases o <;> exact ⟨_,rfl⟩
theorem cleaning_tot (N : Nat) (hN : Big N) (d : Disk) (hd : diskOk d = true) (m : Manifest) (hm : m.Segs.length ≤ 1000000) : ∃ r,impl_cleaning N d m = some r ∧ r.length ≤ 31 := by
 have hl := disk_len hd
 have hf := disk_file hd
 have key : ∀ (e k q : Nat) (acc : List Raw),d.Files.length = k + e → e < q → acc.length ≤ 1 + k → ∃ r,impl_cleaning_l1 N d m q (k : Int) acc = some r ∧ r.length ≤ 31 := by
  intro e
  induction e with
  | zero =>
   intro k q acc hd hm ha
   obtain ⟨q,rfl⟩ : ∃ z,q = z + 1 := ⟨q - 1,by omega⟩
   rw [impl_cleaning_l1,if_neg (by simp; omega)]
   exact ⟨_,rfl,by omega⟩
  | succ e ih =>
   intro k q acc hd hq ha
   obtain ⟨q,rfl⟩ : ∃ z,q = z + 1 := ⟨q - 1,by omega⟩
   have hk : k < d.Files.length := by omega
   obtain ⟨b,e1⟩ := isSeg_tot N hN d.Files[k].Name (by have := hf _ (List.getElem_mem hk); omega)
   obtain ⟨c,e2⟩ := contains_tot N hN m.Segs d.Files[k] hm
   rw [impl_cleaning_l1,if_pos (by simp; omega),at_lt hk,bO,e1,bO,e2,bO,cat_le (by simp; omega),bO,w64_succ (by omega)]
   split
   ·split
    ·exact ih (k + 1) q _ (by omega) (by omega) (by simp; omega)
    ·exact ih (k + 1) q _ (by omega) (by omega) (by omega)
   ·exact ih (k + 1) q _ (by omega) (by omega) (by omega)
 unfold impl_cleaning
 simp only [joinP]
 rw [fileAt_impl N hN d hd,bO]
 have k2 : ∀ acc : List Raw,acc.length ≤ 1 → ∃ r,((impl_cleaning_l1 N d m N 0 acc).bind fun v => some v) = some r ∧ r.length ≤ 31 := by
  intro acc ha
  obtain ⟨r,e1,e2⟩ := key d.Files.length 0 N acc (by omega) (by unfold Big at hN; omega) (by omega)
  rw [show ((0 : Nat) : Int) = 0 from rfl] at e1
  exact ⟨r,by rw [e1]; rfl,e2⟩
 split
 ·rw [cat_le (by simp),bO]
  exact k2 _ (by simp)
 ·exact k2 _ (by simp)
theorem l1_tot (N : Nat) (hN : Big N) (d : Disk) (hd : diskOk d = true) (y : Shelf × Int × Int) (hm : y.1.Man.Segs.length ≤ 1000000) : ∀ (e k q : Nat) (acc : List Raw),d.Files.length = k + e → e < q → acc.length ≤ 1 + k → ∃ r,spec_OpenShelf_l1 N d y q (k : Int) acc = some r ∧ r.length ≤ 31 := by
 have hl := disk_len hd
 have hf := disk_file hd
 intro e
 induction e with
 | zero =>
  intro k q acc hd hm ha
  obtain ⟨q,rfl⟩ : ∃ z,q = z + 1 := ⟨q - 1,by omega⟩
  rw [spec_OpenShelf_l1,if_neg (by simp; omega)]
  exact ⟨_,rfl,by omega⟩
 | succ e ih =>
  intro k q acc hd hq ha
  obtain ⟨q,rfl⟩ : ∃ z,q = z + 1 := ⟨q - 1,by omega⟩
  have hk : k < d.Files.length := by omega
  obtain ⟨b,e1⟩ := l09Seg_tot N hN d.Files[k].Name (by have := hf _ (List.getElem_mem hk); omega)
  obtain ⟨c,e2⟩ := l09In_tot N y.1.Man.Segs b hm hN
  rw [spec_OpenShelf_l1,if_pos (by simp; omega)]
  simp only [joinP,at_lt hk,bO]
  rw [e1,bO,e2,bO,cat_le (by simp; omega),bO,w64_succ (by omega)]
  split
  ·split
   ·exact ih (k + 1) q _ (by omega) (by omega) (by simp; omega)
   ·exact ih (k + 1) q _ (by omega) (by omega) (by omega)
  ·exact ih (k + 1) q _ (by omega) (by omega) (by omega)
def there (d : Disk) (l : List Int) : Bool := l.all fun n => (fileAt d (sname n)).isSome
theorem there_spec (N : Nat) (hN : Big N) (d : Disk) (hd : diskOk d = true) (y : Manifest × Bool) (hy : y.1.Segs.length ≤ 8) : ∀ (e k q : Nat),y.1.Segs.length = k + e → e < q → spec_l09Load_l1 N d y q (k : Int) = some (if there d (y.1.Segs.drop k) = true then .inr () else .inl (⟨man0,[],0⟩,0,3)) := by
 have hl := disk_len hd
 intro e
 induction e with
 | zero =>
  intro k q hd hm
  obtain ⟨q,rfl⟩ : ∃ z,q = z + 1 := ⟨q - 1,by omega⟩
  rw [spec_l09Load_l1,if_neg (by simp; omega),List.drop_eq_nil_of_le (by omega)]
  rfl
 | succ e ih =>
  intro k q hd hq
  obtain ⟨q,rfl⟩ : ∃ z,q = z + 1 := ⟨q - 1,by omega⟩
  have hk : k < y.1.Segs.length := by omega
  obtain ⟨a,h1,h2⟩ := l03At_ok N hN d (by omega) (sname y.1.Segs[k])
  rw [spec_l09Load_l1,if_pos (by simp; omega),at_lt hk,bO,sname_spec N hN,bO,h1,bO,w64_succ (by omega),List.drop_eq_getElem_cons hk,there,List.all_cons]
  rcases h2 with ⟨rfl,h2⟩ | ⟨z,f,rfl,h3,h4,h5,h6⟩
  ·rw [h2]; rfl
  ·rw [if_neg (by simp),ih (k + 1) q (by omega) (by omega)]
   have : (fileAt d (sname y.1.Segs[k])).isSome = true := by first | (rw [h6]; rfl) | (rw [h5]; rfl) | simp_all
   rw [this,Bool.true_and]
   rfl
theorem there_impl (N : Nat) (hN : Big N) (d : Disk) (hd : diskOk d = true) (y : Manifest × Bool) (hy : y.1.Segs.length ≤ 8) : ∀ (e k q : Nat),y.1.Segs.length = k + e → e < q → impl_OpenShelf_l1 N d y q (k : Int) = some (if there d (y.1.Segs.drop k) = true then .inr () else .inl (⟨man0,[],0⟩,[],3)) := by
 have hl := disk_len hd
 intro e
 induction e with
 | zero =>
  intro k q hd hm
  obtain ⟨q,rfl⟩ : ∃ z,q = z + 1 := ⟨q - 1,by omega⟩
  rw [impl_OpenShelf_l1,if_neg (by simp; omega),List.drop_eq_nil_of_le (by omega)]
  rfl
 | succ e ih =>
  intro k q hd2 hq
  obtain ⟨q,rfl⟩ : ∃ z,q = z + 1 := ⟨q - 1,by omega⟩
  have hk : k < y.1.Segs.length := by omega
  rw [impl_OpenShelf_l1,if_pos (by simp; omega),at_lt hk,bO,sname_impl N hN,bO,fileAt_impl N hN d hd,bO,w64_succ (by omega),List.drop_eq_getElem_cons hk,there,List.all_cons]
  unfold fileR
  cases hf : fileAt d (sname y.1.Segs[k]) with
  | none => rfl
  | some t =>
   rw [if_neg (by simp),ih (k + 1) q (by omega) (by omega)]
   rfl
def ftext (d : Disk) (n : ByteArray) : ByteArray := (fileAt d n).getD ⟨#[]⟩
theorem ftext_size {d : Disk} (hd : diskOk d = true) (n : ByteArray) : (ftext d n).size ≤ 20000 := by
 unfold ftext
 cases h : fileAt d n with
 | none => exact Nat.zero_le _
 | some t => exact fileAt_size hd h
theorem fileR_text (d : Disk) (n : ByteArray) : (fileR d n).1 = ftext d n := by
 unfold fileR ftext
 cases fileAt d n <;> rfl
def loadL (N : Nat) (d : Disk) : List Int → Int → List Spot → Option (Int × List Spot)
 | [],s,sp => some (s,sp)
 | n :: ns,s,sp => if (scan N (ftext d (sname n))).2 < (ftext d (sname n)).size ∧ ns ≠ [] then none else loadL N d ns (imax s (scR N (ftext d (sname n)) n).2.2) (sp ++ (scR N (ftext d (sname n)) n).1)
theorem bats_rok (N : Nat) : ∀ (ts : List ByteArray) (a : Nat),(∀ r ∈ ts,rok r) → ∀ p ∈ (bats N ts a).1,rok p.text
 | [],a,_ => by simp [bats]
 | t :: ts,a,h => by
  rw [bats]
  split
  ·intro p hp
   rcases List.mem_cons.1 hp with rfl | hp
   ·exact h t (by simp)
   ·exact bats_rok N ts _ (fun r hr => h r (by simp [hr])) p hp
  ·simp
theorem scS_len (N : Nat) (hN : Big N) (seg : Int) : ∀ (l : List Tplaced),(∀ p ∈ l,plOk p) → (scS seg l).length ≤ 60 * l.length
 | [],_ => Nat.le_refl _
 | p :: l,h => by
  have h1 := (spotsOf_ok N hN seg p (h p (by simp))).2
  have h2 := scS_len N hN seg l (fun q hq => h q (by simp [hq]))
  rw [scS,List.length_append,List.length_cons]
  omega
theorem scR_len (N : Nat) (hN : Big N) (t : ByteArray) (ht : t.size ≤ 20000) (seg : Int) : (scR N t seg).1.length ≤ 240000 := by
 obtain ⟨h1,h2⟩ := scan_ok N hN t ht
 have := scS_len N hN seg _ h1
 unfold scR
 simp only
 omega
theorem fsum_loop (N : Nat) (hN : Big N) (y : List Spot × List ByteArray × Int) (hy : ∀ r ∈ y.2.1,rok r) (hl : y.2.1.length ≤ 4000) : ∀ (d k m a : Nat),y.2.1.length = k + d → d < m → a ≤ 9009 * k → spec_l09Load_l3 N y m (a : Int) (k : Int) = some ((fsum N (y.2.1.drop k) a : Nat) : Int) := by
 intro d
 induction d with
 | zero =>
  intro k m a hd hm ha
  obtain ⟨m,rfl⟩ : ∃ q,m = q + 1 := ⟨m - 1,by omega⟩
  rw [spec_l09Load_l3,if_neg (by simp; omega),List.drop_eq_nil_of_le (by omega),fsum]
 | succ d ih =>
  intro k m a hd hm ha
  obtain ⟨m,rfl⟩ : ∃ q,m = q + 1 := ⟨m - 1,by omega⟩
  have hk : k < y.2.1.length := by omega
  have hr := hy _ (List.getElem_mem hk)
  have hf := frm_le N hN hr
  rw [spec_l09Load_l3,if_pos (by simp; omega),at_lt hk,bO,frame_spec N hN _ (by unfold rok at hr; omega),if_pos hr,bO]
  dsimp only
  rw [w64_nat (by omega),w64_succ (by omega),ih (k + 1) m _ (by omega) (by omega) (by omega),List.drop_eq_getElem_cons hk,fsum]
theorem scan_end (N : Nat) (hN : Big N) (t : ByteArray) (ht : t.size ≤ 20000) (seg : Int) : spec_l09Load_l3 N (scR N t seg) N 0 0 = some ((scan N t).2 : Int) := by
 obtain ⟨h1,h2⟩ := scan_ok N hN t ht
 have h3 := bats_rok N (recs N t).1 0 (recs_ok N t).2
 have := fsum_loop N hN (scR N t seg) (fun r hr => by
  obtain ⟨p,hp,rfl⟩ := List.mem_map.1 (show r ∈ (scan N t).1.map Tplaced.text from hr)
  exact h3 p hp) (by unfold scR; simpa using h2) (scR N t seg).2.1.length 0 N 0 (by omega) (by have : (scR N t seg).2.1.length ≤ 4000 := (by unfold scR; simpa using h2); unfold Big at hN; omega) (by omega)
 rw [show ((0 : Nat) : Int) = 0 from rfl,List.drop_zero] at this
 rw [this]
 congr 2
 exact bats_end N _ 0
theorem puts_append (o a b : List Spot) : puts (puts o a) b = puts o (a ++ b) := by
 unfold puts
 rw [List.foldl_append]
theorem load_spec (N : Nat) (hN : Big N) (d : Disk) (hd : diskOk d = true) (y : Manifest × Bool) (hy : y.1.Segs.length ≤ 8) : ∀ (e k q end' : Nat) (s : Int) (sp : List Spot),y.1.Segs.length = k + e → e < q → sp.length ≤ 240000 * k →
  ∃ o,spec_l09Load_l2 N d y q (end' : Int) (k : Int) s (puts [] sp) = some o ∧ match loadL N d (y.1.Segs.drop k) s sp with
   | none => o = .inl (⟨man0,[],0⟩,0,4)
   | some (s',sp') => ∃ e' : Nat,o = .inr ((e' : Int),s',puts [] sp') ∧ sp'.length ≤ 2000000 := by
 have hl := disk_len hd
 intro e
 induction e with
 | zero =>
  intro k q end' s sp hd hm hsp
  obtain ⟨q,rfl⟩ : ∃ z,q = z + 1 := ⟨q - 1,by omega⟩
  rw [spec_l09Load_l2,if_neg (by simp; omega),List.drop_eq_nil_of_le (by omega)]
  exact ⟨_,rfl,end',rfl,by omega⟩
 | succ e ih =>
  intro k q end' s sp hd2 hq hsp
  obtain ⟨q,rfl⟩ : ∃ z,q = z + 1 := ⟨q - 1,by omega⟩
  have hk : k < y.1.Segs.length := by omega
  have hz := ftext_size hd (sname y.1.Segs[k])
  have hsl := scR_len N hN _ hz y.1.Segs[k]
  have hpl := puts_len sp []
  simp only [List.length_nil,Nat.zero_add] at hpl
  rw [spec_l09Load_l2,if_pos (by simp; omega)]
  simp only [joinP,at_lt hk,bO]
  rw [sname_spec N hN,bO,l03Text_ok N hN d (by omega),bO,show (fileAt d (sname y.1.Segs[k])).getD ⟨#[]⟩ = ftext d (sname y.1.Segs[k]) from rfl,scan_spec N hN _ hz,bO,scan_end N hN _ hz,bO,l08_ok N hN _ _ (by omega) (by omega),puts_append]
  simp only [bO]
  rw [w64_succ (by omega),List.drop_eq_getElem_cons hk,loadL]
  have hne : (y.1.Segs.drop (k + 1) ≠ []) ↔ k + 1 < y.1.Segs.length := by
   rw [ne_eq,List.drop_eq_nil_iff]; omega
  have hmx : ∀ z : Int → Option ((Shelf × Int × Int) ⊕ (Int × Int × List Spot)),(if decide ((scR N (ftext d (sname y.1.Segs[k])) y.1.Segs[k]).2.2 > s) = true then z (scR N (ftext d (sname y.1.Segs[k])) y.1.Segs[k]).2.2 else z s) = z (imax s (scR N (ftext d (sname y.1.Segs[k])) y.1.Segs[k]).2.2) := by
   intro z
   unfold imax
   by_cases hs : (scR N (ftext d (sname y.1.Segs[k])) y.1.Segs[k]).2.2 > s
   ·rw [if_pos (by simpa using hs),if_pos hs]
   ·rw [if_neg (by simpa using hs),if_neg hs]
  have e4 := hmx fun v => spec_l09Load_l2 N d y q ((scan N (ftext d (sname y.1.Segs[k]))).2 : Int) ((k + 1 : Nat) : Int) v (puts [] (sp ++ (scR N (ftext d (sname y.1.Segs[k])) y.1.Segs[k]).1))
  rw [e4]
  by_cases h1 : (scan N (ftext d (sname y.1.Segs[k]))).2 < (ftext d (sname y.1.Segs[k])).size
  ·by_cases h2 : k + 1 < y.1.Segs.length
   ·rw [if_pos (by simp; omega),if_pos (by simp; omega),if_pos ⟨h1,hne.2 h2⟩]
    exact ⟨_,rfl,rfl⟩
   ·rw [if_pos (by simp; omega),if_neg (by simp; omega),if_neg (fun h => h2 (hne.1 h.2))]
    exact ih (k + 1) q _ _ _ (by omega) (by omega) (by rw [List.length_append]; omega)
  ·rw [if_neg (by simp; omega),if_neg (fun h => h1 h.1)]
   exact ih (k + 1) q _ _ _ (by omega) (by omega) (by rw [List.length_append]; omega)
theorem load_impl (N : Nat) (hN : Big N) (d : Disk) (hd : diskOk d = true) (y : Manifest × Bool) (hy : y.1.Segs.length ≤ 8) : ∀ (e k q : Nat) (s : Int) (raws : List Raw) (sp : List Spot),y.1.Segs.length = k + e → e < q → sp.length ≤ 240000 * k → raws.length ≤ 31 + k →
  ∃ o,impl_OpenShelf_l2 N d y q (k : Int) s raws sp = some o ∧ match loadL N d (y.1.Segs.drop k) s sp with
   | none => o = .inl (⟨man0,[],0⟩,[],4)
   | some (s',sp') => ∃ r,o = .inr (s',r,sp') ∧ sp'.length ≤ 2000000 := by
 have hl := disk_len hd
 intro e
 induction e with
 | zero =>
  intro k q s raws sp hd hm hsp hr
  obtain ⟨q,rfl⟩ : ∃ z,q = z + 1 := ⟨q - 1,by omega⟩
  rw [impl_OpenShelf_l2,if_neg (by simp; omega),List.drop_eq_nil_of_le (by omega)]
  exact ⟨_,rfl,_,rfl,by omega⟩
 | succ e ih =>
  intro k q s raws sp hd2 hq hsp hr
  obtain ⟨q,rfl⟩ : ∃ z,q = z + 1 := ⟨q - 1,by omega⟩
  have hk : k < y.1.Segs.length := by omega
  have hz := ftext_size hd (sname y.1.Segs[k])
  have hsl := scR_len N hN _ hz y.1.Segs[k]
  rw [impl_OpenShelf_l2,if_pos (by simp; omega)]
  simp only [joinP,at_lt hk,bO]
  rw [sname_impl N hN,bO,fileAt_impl N hN d hd,bO,fileR_text,scan_impl N hN _ hz,bO,batches_impl N hN _ hz]
  simp only [bO]
  rw [w64_succ (by omega),w64_id (n := (y.1.Segs.length : Int) - 1) (by omega) (by omega),List.drop_eq_getElem_cons hk,loadL,cat_le (by omega)]
  simp only [bO]
  have hne : (y.1.Segs.drop (k + 1) ≠ []) ↔ k + 1 < y.1.Segs.length := by
   rw [ne_eq,List.drop_eq_nil_iff]; omega
  by_cases h1 : (scan N (ftext d (sname y.1.Segs[k]))).2 < (ftext d (sname y.1.Segs[k])).size
  ·by_cases h2 : k + 1 < y.1.Segs.length
   ·rw [if_pos (by simp; omega),if_pos (by simp; omega),if_pos ⟨h1,hne.2 h2⟩]
    exact ⟨_,rfl,rfl⟩
   ·rw [if_pos (by simp; omega),if_neg (by simp; omega),if_pos (by simp; omega),stake_ok (by omega),bO,cat_le (by simp; omega),bO,if_neg (fun h => h2 (hne.1 h.2))]
    exact ih (k + 1) q _ _ _ (by omega) (by omega) (by rw [List.length_append]; omega) (by simp; omega)
  ·rw [if_neg (by simp; omega),if_neg (by simp; omega),if_neg (fun h => h1 h.1)]
   exact ih (k + 1) q _ _ _ (by omega) (by omega) (by rw [List.length_append]; omega) (by omega)
def sh0 : Shelf := ⟨man0,[],0⟩
def mantx : ByteArray := ⟨#[109]⟩
def shelfOf (N : Nat) (d : Disk) : Shelf × Int := if diskOk d = true then
  if (fileAt d mantx).isSome = true ∧ (manR N (ftext d mantx)).2 = true then
   if there d (manR N (ftext d mantx)).1.Segs = true then
    match loadL N d (manR N (ftext d mantx)).1.Segs (manR N (ftext d mantx)).1.Base [] with
    | none => (sh0,4)
    | some (s,sp) => if dirOk (puts [] sp) = true then (⟨(manR N (ftext d mantx)).1,puts [] sp,s⟩,0) else (sh0,4)
   else (sh0,3)
  else (sh0,2)
 else (sh0,1)
theorem manR_ok {N : Nat} {t : ByteArray} (h : (manR N t).2 = true) : manOk (manR N t).1 = true := by
 unfold manR at h ⊢
 split at h
 ·rename_i h0
  rw [if_pos h0]
  unfold manF at h ⊢
  split at h
  ·rename_i h1
   rw [if_pos h1]
   simp only [Bool.and_eq_true] at h1
   exact h1.2
  ·cases h
 ·cases h
theorem open_impl (N : Nat) (hN : Big N) (d : Disk) (hl : d.Files.length ≤ 1099511627) : ∃ raws,impl_OpenShelf N d = some ((shelfOf N d).1,raws,(shelfOf N d).2) := by
 unfold impl_OpenShelf shelfOf
 rw [diskOk_impl N hN d hl,bO]
 cases hd : diskOk d with
 | false => exact ⟨_,rfl⟩
 | true =>
  rw [if_neg (by decide),if_pos rfl,fileAt_impl N hN d hd,bO,fileR_text,mani_impl N hN _ (ftext_size hd _),bO]
  have hfr : (fileR d ⟨#[109]⟩).2 = (fileAt d mantx).isSome := by unfold fileR mantx; cases fileAt d ⟨#[109]⟩ <;> rfl
  rw [hfr,show ftext d ⟨#[109]⟩ = ftext d mantx from rfl]
  cases hs : (fileAt d mantx).isSome with
  | false => exact ⟨[],by simp [sh0,man0]⟩
  | true =>
   cases hm : (manR N (ftext d mantx)).2 with
   | false => exact ⟨[],by simp [sh0,man0]⟩
   | true =>
    have hmo := manR_ok hm
    obtain ⟨⟨g1,g2⟩,_⟩ := manOk_ok hmo
    rw [if_neg (by decide),if_neg (by decide),if_pos ⟨rfl,rfl⟩]
    simp only [joinP]
    have ht := there_impl N hN d hd (manR N (ftext d mantx)) g2 (manR N (ftext d mantx)).1.Segs.length 0 N (by omega) (by unfold Big at hN; omega)
    rw [show ((0 : Nat) : Int) = 0 from rfl,List.drop_zero] at ht
    rw [ht]
    cases hth : there d (manR N (ftext d mantx)).1.Segs with
    | false => exact ⟨_,rfl⟩
    | true =>
     obtain ⟨r,e1,e2⟩ := cleaning_tot N hN d hd (manR N (ftext d mantx)).1 (by omega)
     rw [if_pos rfl,if_pos rfl,bO,Sum.elim_inr,e1,bO]
     obtain ⟨o,f1,f2⟩ := load_impl N hN d hd (manR N (ftext d mantx)) g2 (manR N (ftext d mantx)).1.Segs.length 0 N (manR N (ftext d mantx)).1.Base r [] (by omega) (by unfold Big at hN; omega) (by simp) (by omega)
     rw [show ((0 : Nat) : Int) = 0 from rfl] at f1
     rw [List.drop_zero] at f2
     rw [f1,bO]
     cases hld : loadL N d (manR N (ftext d mantx)).1.Segs (manR N (ftext d mantx)).1.Base [] with
     | none => rw [hld] at f2; subst f2; exact ⟨_,rfl⟩
     | some v =>
      obtain ⟨s,sp⟩ := v
      rw [hld] at f2
      obtain ⟨r',rfl,f3⟩ := f2
      simp only [Sum.elim_inr]
      rw [dirMore_nil N hN sp (by omega),bO]
      cases dirOk (puts [] sp) <;> exact ⟨_,rfl⟩
theorem open_spec (N : Nat) (hN : Big N) (d : Disk) (hl : d.Files.length ≤ 1099511627) : ∃ raws,spec_OpenShelf N d = some ((shelfOf N d).1,raws,(shelfOf N d).2) := by
 have key : ∃ e : Nat,spec_l09Load N d = some ((shelfOf N d).1,(e : Int),(shelfOf N d).2) := by
  unfold spec_l09Load shelfOf
  rw [diskOk_spec N hN d hl,bO]
  cases hd : diskOk d with
  | false => exact ⟨0,rfl⟩
  | true =>
   rw [if_neg (by decide),if_pos rfl,fileAt_spec N hN d hl hd,bO,fileR_text,mani_spec N hN _ (ftext_size hd _),bO]
   have hfr : (fileR d ⟨#[109]⟩).2 = (fileAt d mantx).isSome := by unfold fileR mantx; cases fileAt d ⟨#[109]⟩ <;> rfl
   rw [hfr,show ftext d ⟨#[109]⟩ = ftext d mantx from rfl]
   cases hs : (fileAt d mantx).isSome with
   | false => exact ⟨0,by simp [sh0,man0]⟩
   | true =>
    cases hm : (manR N (ftext d mantx)).2 with
    | false => exact ⟨0,by simp [sh0,man0]⟩
    | true =>
     have hmo := manR_ok hm
     obtain ⟨⟨g1,g2⟩,_⟩ := manOk_ok hmo
     rw [if_neg (by decide),if_neg (by decide),if_pos ⟨rfl,rfl⟩]
     simp only [joinP]
     have ht := there_spec N hN d hd (manR N (ftext d mantx)) g2 (manR N (ftext d mantx)).1.Segs.length 0 N (by omega) (by unfold Big at hN; omega)
     rw [show ((0 : Nat) : Int) = 0 from rfl,List.drop_zero] at ht
     rw [ht]
     cases hth : there d (manR N (ftext d mantx)).1.Segs with
     | false => exact ⟨0,rfl⟩
     | true =>
      rw [if_pos rfl,if_pos rfl,bO,Sum.elim_inr]
      obtain ⟨o,f1,f2⟩ := load_spec N hN d hd (manR N (ftext d mantx)) g2 (manR N (ftext d mantx)).1.Segs.length 0 N 0 (manR N (ftext d mantx)).1.Base [] (by omega) (by unfold Big at hN; omega) (by simp)
      rw [show ((0 : Nat) : Int) = 0 from rfl,show puts [] [] = ([] : List Spot) from rfl] at f1
      rw [List.drop_zero] at f2
      rw [f1,bO]
      cases hld : loadL N d (manR N (ftext d mantx)).1.Segs (manR N (ftext d mantx)).1.Base [] with
      | none => rw [hld] at f2; subst f2; exact ⟨0,rfl⟩
      | some v =>
       obtain ⟨s,sp⟩ := v
       rw [hld] at f2
       obtain ⟨e',rfl,f3⟩ := f2
       have hpl := puts_len sp []
       simp only [List.length_nil,Nat.zero_add] at hpl
       simp only [Sum.elim_inr]
       rw [dirOk_spec N hN _ (by omega),bO]
       cases dirOk (puts [] sp)
       ·exact ⟨0,rfl⟩
       ·exact ⟨e',rfl⟩
 obtain ⟨e,he⟩ := key
 unfold spec_OpenShelf
 rw [he,bO]
 by_cases hc : (shelfOf N d).2 = 0
 ·rw [if_neg (by simp [hc])]
  have hgood : diskOk d = true ∧ manOk (shelfOf N d).1.Man = true := by
   unfold shelfOf at hc ⊢
   split at hc
   ·rename_i h0
    rw [if_pos h0]
    split at hc
    ·rename_i h1
     rw [if_pos h1]
     split at hc
     ·rename_i h2
      rw [if_pos h2]
      split at hc
      ·cases hc
      ·split at hc
       ·rename_i s sp h3 h4
        rw [if_pos h4]
        exact ⟨h0,manR_ok h1.2⟩
       ·cases hc
     ·cases hc
    ·cases hc
   ·cases hc
  obtain ⟨hd,hmo⟩ := hgood
  obtain ⟨⟨g1,g2⟩,_⟩ := manOk_ok hmo
  have hdl := disk_len hd
  simp only [joinP]
  obtain ⟨a,h1,h2⟩ := l03At_ok N hN d (by omega) ⟨#[109,43]⟩
  rw [h1,bO]
  have step : ∀ acc : List Raw,acc.length ≤ 1 → ∃ raws,((spec_OpenShelf_l1 N d ((shelfOf N d).1,(e : Int),(shelfOf N d).2) N 0 acc).bind fun v => (at? (shelfOf N d).1.Man.Segs (w64 (((shelfOf N d).1.Man.Segs.length : Int) - 1))).bind fun x541 => (spec_SegName N x541).bind fun y542 => (spec_l03Text N d y542).bind fun y546 => if decide ((e : Int) < (y546.size : Int)) = true then (stake? y546 (e : Int)).bind fun x556 => (cat? v [Raw.mk 1 y542 ⟨#[]⟩ x556]).bind fun x557 => some ((shelfOf N d).1,x557,(0 : Int)) else some ((shelfOf N d).1,v,(0 : Int))) = some ((shelfOf N d).1,raws,(0 : Int)) := by
   intro acc ha
   obtain ⟨r,e1,e2⟩ := l1_tot N hN d hd ((shelfOf N d).1,(e : Int),(shelfOf N d).2) (by simp only; omega) d.Files.length 0 N acc (by omega) (by unfold Big at hN; omega) (by omega)
   rw [show ((0 : Nat) : Int) = 0 from rfl] at e1
   rw [e1,bO,w64_id (by omega) (by omega),show ((shelfOf N d).1.Man.Segs.length : Int) - 1 = (((shelfOf N d).1.Man.Segs.length - 1 : Nat) : Int) by omega,at_lt (by omega),bO,sname_spec N hN,bO,l03Text_ok N hN d (by omega),bO]
   split
   ·rename_i hlt
    simp only [decide_eq_true_eq] at hlt
    rw [stake_ok (by omega),bO,cat_le (by simp; omega)]
    exact ⟨_,rfl⟩
   ·exact ⟨_,rfl⟩
  rw [hc] at step ⊢
  split
  ·rw [cat_le (by simp),bO]
   exact step _ (by simp)
  ·exact step _ (by simp)
 ·rw [if_pos (by simpa using hc)]
  refine ⟨[],?_⟩
  have : (shelfOf N d).1 = sh0 := by
   unfold shelfOf at hc ⊢
   split
   ·rename_i h0
    rw [if_pos h0] at hc
    split
    ·rename_i h1
     rw [if_pos h1] at hc
     split
     ·rename_i h2
      rw [if_pos h2] at hc
      split
      ·rfl
      ·rename_i s sp h3
       rw [h3] at hc
       simp only at hc
       split
       ·rename_i h4
        rw [if_pos h4] at hc
        exact absurd rfl hc
       ·rfl
     ·rfl
    ·rfl
   ·rfl
  rw [this]
  rfl
theorem okSpot_all {l : List Spot} (h : dirOk l = true) : l.length ≤ 60 ∧ ∀ x ∈ l,0 ≤ x.At ∧ x.At ≤ 20000 ∧ 0 ≤ x.Size ∧ x.Size ≤ 40 := by
 simp only [dirOk,Bool.and_eq_true,decide_eq_true_eq] at h
 refine ⟨h.1,chain_all (fun o x hx => ?_) h.2⟩
 simp only [okSpot,Bool.and_eq_true,decide_eq_true_eq] at hx
 obtain ⟨h1,h2,h3,h4,h5⟩ := hx
 omega
theorem smap_loop (N : Nat) (hN : Big N) (d : Disk) (hd : diskOk d = true) (s : Shelf) (hs : dirOk s.Dir = true) : ∀ (e k q : Nat) (acc : List Pair),s.Dir.length = k + e → e < q → acc.length ≤ k →
  ∃ o,spec_ShelfMap_l1 N d s q (k : Int) acc = some o ∧ impl_ShelfMap_l1 N d s q (k : Int) acc = some o ∧ (o = .inl ([],false) ∨ ∃ r,o = .inr r ∧ r.length ≤ 60) := by
 obtain ⟨hl,ha⟩ := okSpot_all hs
 have hdl := disk_len hd
 intro e
 induction e with
 | zero =>
  intro k q acc he hq hc
  obtain ⟨q,rfl⟩ : ∃ z,q = z + 1 := ⟨q - 1,by omega⟩
  rw [spec_ShelfMap_l1,impl_ShelfMap_l1,if_neg (by simp; omega),if_neg (by simp; omega)]
  exact ⟨_,rfl,rfl,.inr ⟨_,rfl,by omega⟩⟩
 | succ e ih =>
  intro k q acc he hq hc
  obtain ⟨q,rfl⟩ : ∃ z,q = z + 1 := ⟨q - 1,by omega⟩
  have hk : k < s.Dir.length := by omega
  obtain ⟨g1,g2,g3,g4⟩ := ha _ (List.getElem_mem hk)
  have hz := ftext_size hd (sname s.Dir[k].Seg)
  obtain ⟨a,ea⟩ : ∃ a : Nat,s.Dir[k].At = a := ⟨s.Dir[k].At.toNat,by omega⟩
  obtain ⟨b,eb⟩ : ∃ b : Nat,s.Dir[k].Size = b := ⟨s.Dir[k].Size.toNat,by omega⟩
  rw [spec_ShelfMap_l1,impl_ShelfMap_l1,if_pos (by simp; omega),if_pos (by simp; omega),at_lt hk,bO,bO,sname_spec N hN,sname_impl N hN,bO,bO,l03Text_ok N hN d (by omega),fileAt_impl N hN d hd,bO,bO,fileR_text,show (fileAt d (sname s.Dir[k].Seg)).getD ⟨#[]⟩ = ftext d (sname s.Dir[k].Seg) from rfl,ea,eb,w64_nat (by omega),w64_succ (by omega)]
  by_cases h : a + b ≤ (ftext d (sname s.Dir[k].Seg)).size
  ·rw [if_neg (by simp; omega),if_neg (by simp; omega),scut_ok (by omega) h,bO,bO,cat_le (by simp; omega),bO,bO]
   exact ih (k + 1) q _ (by omega) (by omega) (by simp; omega)
  ·rw [if_pos (by simp; omega),if_pos (by simp; omega)]
   exact ⟨_,rfl,rfl,.inl rfl⟩
theorem smap_same (N : Nat) (hN : Big N) (d : Disk) (hl : d.Files.length ≤ 1099511627) (s : Shelf) (hs : s.Dir.length ≤ 1099511627) : ∃ r,spec_ShelfMap N d s = some r ∧ impl_ShelfMap N d s = some r ∧ r.1.length ≤ 60 := by
 unfold spec_ShelfMap impl_ShelfMap
 rw [diskOk_spec N hN d hl,diskOk_impl N hN d hl,bO,bO,dirOk_spec N hN _ hs,dirOk_impl N hN _ hs,bO,bO]
 cases hd : diskOk d with
 | false => exact ⟨_,rfl,rfl,by decide⟩
 | true =>
  cases hr : dirOk s.Dir with
  | false => exact ⟨_,rfl,rfl,by decide⟩
  | true =>
   have hll := (okSpot_all hr).1
   obtain ⟨o,e1,e2,e3⟩ := smap_loop N hN d hd s hr s.Dir.length 0 N [] (by omega) (by unfold Big at hN; omega) (by simp)
   rw [show ((0 : Nat) : Int) = 0 from rfl] at e1 e2
   rw [if_neg (by decide),if_neg (by decide),if_neg (by decide),if_neg (by decide)]
   simp only [joinP]
   rw [e1,e2]
   rcases e3 with rfl | ⟨r,rfl,e4⟩
   ·exact ⟨_,rfl,rfl,by decide⟩
   ·exact ⟨_,rfl,rfl,e4⟩
theorem eqp_same (N : Nat) (a b : List Pair × Bool) : ∀ (m : Nat) (i : Int),spec_Folded_l1 N a b m i = slices_Equal_Pair_l1 N a.1 b.1 m i
 | 0,i => rfl
 | m + 1,i => by
  rw [spec_Folded_l1,slices_Equal_Pair_l1]
  simp only [eqp_same N a b m]
theorem eqp_tot (N : Nat) (a b : List Pair) (h : a.length = b.length) (hl : a.length ≤ 1000000) : ∀ (e k q : Nat),a.length = k + e → e < q → ∃ o,slices_Equal_Pair_l1 N a b q (k : Int) = some o := by
 intro e
 induction e with
 | zero =>
  intro k q he hq
  obtain ⟨q,rfl⟩ : ∃ z,q = z + 1 := ⟨q - 1,by omega⟩
  rw [slices_Equal_Pair_l1,if_neg (by simp; omega)]
  exact ⟨_,rfl⟩
 | succ e ih =>
  intro k q he hq
  obtain ⟨q,rfl⟩ : ∃ z,q = z + 1 := ⟨q - 1,by omega⟩
  rw [slices_Equal_Pair_l1,if_pos (by simp; omega),at_lt (by omega),at_lt (by omega),bO,bO]
  split
  ·exact ⟨_,rfl⟩
  ·rw [w64_succ (by omega)]; exact ih (k + 1) q (by omega) (by omega)
theorem dirOf_len (N : Nat) (hN : Big N) (d : Disk) : (shelfOf N d).1.Dir.length ≤ 60 := by
 unfold shelfOf
 split
 ·split
  ·split
   ·split
    ·exact Nat.zero_le _
    ·split
     ·rename_i h; exact (okSpot_all h).1
     ·exact Nat.zero_le _
   ·exact Nat.zero_le _
  ·exact Nat.zero_le _
 ·exact Nat.zero_le _
theorem folded_same (N : Nat) (hN : Big N) (w : World) (n : Int) (h1 : w.Servers.length ≤ 1048576) (h2 : ∀ s ∈ w.Servers,s.Disk.Files.length ≤ 1048576) (h3 : w.Applied.length ≤ 1048576) (h4 : ∀ y ∈ w.Applied,y.Entry.Data.size ≤ 1099511627) : ∃ b,spec_Folded N w n = some b ∧ impl_Folded N w n = some b := by
 unfold spec_Folded impl_Folded
 rw [in_eq,within_eq,bO,bO]
 by_cases hn : 1 ≤ n ∧ n ≤ (w.Servers.length : Int)
 case neg => rw [decide_eq_false hn]; exact ⟨_,rfl,rfl⟩
 rw [decide_eq_true hn,if_neg (by decide),if_neg (by decide),w64_id (by omega) (by omega),show n - 1 = (((n - 1).toNat : Nat) : Int) by omega,at_lt (by omega),bO,bO]
 have hd := h2 _ (List.getElem_mem (l := w.Servers) (n := (n - 1).toNat) (by omega))
 generalize w.Servers[(n - 1).toNat] = sv at hd
 obtain ⟨ra,ea⟩ := open_spec N hN sv.Disk (by omega)
 obtain ⟨rb,eb⟩ := open_impl N hN sv.Disk (by omega)
 rw [ea,eb,bO,bO]
 by_cases hc : (shelfOf N sv.Disk).2 = 0
 case neg => rw [if_pos (by simpa using hc),if_pos (by simpa using hc)]; exact ⟨_,rfl,rfl⟩
 rw [if_neg (by simp [hc]),if_neg (by simp [hc])]
 have hdl := dirOf_len N hN sv.Disk
 obtain ⟨⟨m,mk⟩,e1,e2,e3⟩ := smap_same N hN sv.Disk (by omega) (shelfOf N sv.Disk).1 (by omega)
 obtain ⟨⟨f,fk⟩,f1,f2,f3⟩ := fold_same N hN w.Applied (by omega) h4 (shelfOf N sv.Disk).1.Stamp
 simp only at e3 f3
 rw [e1,e2,bO,bO,f1,f2,bO,bO]
 cases mk with
 | false => exact ⟨_,rfl,rfl⟩
 | true =>
  cases fk with
  | false => exact ⟨_,rfl,rfl⟩
  | true =>
   unfold slices_Equal_Pair
   simp only [joinP,eqp_same]
   by_cases hl : m.length = f.length
   ·obtain ⟨o,eo⟩ := eqp_tot N m f hl (by omega) m.length 0 N (by omega) (by unfold Big at hN; omega)
    rw [show ((0 : Nat) : Int) = 0 from rfl] at eo
    have hne : ((m.length : Int) != (f.length : Int)) = false := by simp [hl]
    simp only [hne,eo,bO]
    cases o <;> exact ⟨_,rfl,rfl⟩
   ·have hne : ((m.length : Int) != (f.length : Int)) = true := by simp; omega
    simp only [hne]
    exact ⟨_,rfl,rfl⟩
theorem holds (x0 : World) (x1 : Int) (w0 : wfWorld x0) (w1 : WI .i64 x1) : ∃ N,laws_FnExactFolded N x0 x1 = some true := by
 refine ⟨1099511627777,?_⟩
 generalize hM : 1099511627777 = M
 have hN : Big M := by unfold Big; omega
 clear hM
 unfold laws_FnExactFolded
 rw [sz_World M x0 1048576 (by decide) (by decide) w0 hN,bO]
 by_cases h : (totWorld x0 : Int) ≤ 1048576
 ·rw [if_pos h,if_neg (by simp; omega)]
  have ht : totWorld x0 ≤ 1048576 := by omega
  have b1 := to_World M x0 (by omega) hN
  have b3 := eq_World M x0 (by omega) hN
  simp only [totWorld] at ht
  have t1 : totL totServer x0.Servers ≤ 1048576 := by omega
  have t2 : totL totApplied x0.Applied ≤ 1048576 := by omega
  simp only [totL] at t1 t2
  obtain ⟨b,e1,e2⟩ := folded_same M hN x0 x1 (by omega) (fun s hs => by
   have h1 := le_sum (f := totServer) hs
   have h2 : totDisk s.Disk ≤ totServer s := by simp only [totServer]; omega
   simp only [totDisk,totL] at h2
   omega) (by omega) (fun y hy => by
   have h1 := le_sum (f := totApplied) hy
   have h2 : totApplied y = y.Entry.Data.size := rfl
   omega)
  simp only [b1,e1,e2,b3,bO]
  cases b <;> rfl
 ·rw [if_neg h,if_pos (by decide)]
end Go.Proofs.YthfjkhlgkjgkjaaGreatDoor.Pe.FnExactFolded
