/- The law FnAlone, as a statement over lists and numbers alone. -/
import Derived.Test.YtebbgdjmplceiaaPeHFnAlone
namespace Go.Proofs.Ytebbgdjmplceiaa.Pe.FnAlone
open Go Go.RowKit
set_option linter.unusedVariables false
set_option linter.unusedSimpArgs false
set_option maxHeartbeats 4000000
theorem wi {n : Int} (h : WI .i64 n) : -9223372036854775808 ≤ n ∧ n ≤ 9223372036854775807 := by
  have := h
  simp only [WI, Lit.wf, beq_iff_eq, decide_eq_true_eq, Bool.and_eq_true] at this
  exact this
theorem and_lo (a b : Int) (hb : 0 ≤ b) (hb' : b ≤ 9223372036854775807) : ∃ r, intD .and .i64 a b = some r ∧ 0 ≤ r ∧ r ≤ b := by
  have h1 : ((BitVec.ofInt 64 a &&& BitVec.ofInt 64 b).toNat : Int) ≤ b := by
    rw [BitVec.toNat_and]
    have h2 : (BitVec.ofInt 64 a).toNat &&& (BitVec.ofInt 64 b).toNat ≤ (BitVec.ofInt 64 b).toNat := Nat.and_le_right
    have h3 : ((BitVec.ofInt 64 b).toNat : Int) = b := by
      rw [BitVec.toNat_ofInt]
      omega
    omega
  have h2 : intD .and .i64 a b = some (w64 ((BitVec.ofInt 64 a &&& BitVec.ofInt 64 b).toNat : Int)) := rfl
  rw [w64_id (by omega) (by omega)] at h2
  exact ⟨_, h2, by omega, h1⟩
theorem rem_lo (a : Int) (ha : 0 ≤ a) (b : Int) (hb : 0 < b) : ∃ r, intD .rem .i64 a b = some r ∧ 0 ≤ r ∧ r < b := by
  refine ⟨a.tmod b, ?_, Int.tmod_nonneg _ ha, Int.tmod_lt_of_pos _ hb⟩
  unfold intD
  simp only
  rw [if_neg (by omega)]
theorem shr_some (a b : Int) (hb : 0 ≤ b) : ∃ r, intSh .shr .i64 a b = some r := by
  unfold intSh
  simp only
  rw [if_neg (by omega)]
  exact ⟨_, rfl⟩
theorem byte_ok (N : Nat) (c : Tl01Cur) (h0 : 0 ≤ c.i) (hl : c.b.length ≤ 1099511627776) : ∃ r c', spec_l01Byte N c = some (r, c') ∧ 0 ≤ r ∧ r ≤ 255 ∧ c'.b = c.b ∧ 0 ≤ c'.i := by
  unfold spec_l01Byte joinP
  obtain ⟨r1, e1⟩ := shr_some (w64 ((w64 (c.h * (6364136223846793005 : Int))) + (1442695040888963407 : Int))) 33 (by decide)
  obtain ⟨r2, e2⟩ := shr_some (w64 ((w64 (c.h * (6364136223846793005 : Int))) + (1442695040888963407 : Int))) 45 (by decide)
  rw [e1, Option.bind_some, e2, Option.bind_some]
  obtain ⟨r3, e3⟩ : ∃ r, intD .xor .i64 r1 r2 = some r := ⟨_, rfl⟩
  rw [e3, Option.bind_some]
  obtain ⟨r4, e4, l4, u4⟩ := and_lo r3 255 (by decide) (by decide)
  rw [e4, Option.bind_some]
  simp only
  by_cases hi : c.i < c.b.length
  · have hk : c.i.toNat < c.b.length := by omega
    have e5 : at? c.b c.i = some c.b[c.i.toNat] := by
      have := at_lt (xs := c.b) hk
      rwa [Int.toNat_of_nonneg h0] at this
    rw [if_pos (by simpa using hi), e5, Option.bind_some]
    obtain ⟨r6, e6, l6, u6⟩ := and_lo (w64 (r4 + w64 c.b[c.i.toNat])) 255 (by decide) (by decide)
    rw [e6, Option.bind_some]
    exact ⟨_, _, rfl, l6, u6, rfl, by simp only; rw [w64_id (by omega) (by omega)]; omega⟩
  · rw [if_neg (by simpa using hi)]
    exact ⟨_, _, rfl, l4, u4, rfl, h0⟩
theorem below_ok (N : Nat) (c : Tl01Cur) (k : Int) (h0 : 0 ≤ c.i) (hl : c.b.length ≤ 1099511627776) : ∃ r c', spec_l01Below N c k = some (r, c') ∧ 0 ≤ r ∧ (0 < k → r < k) ∧ (k ≤ 0 → r = 0) ∧ c'.b = c.b ∧ 0 ≤ c'.i := by
  unfold spec_l01Below
  by_cases h1 : k ≤ 0
  · rw [if_pos (by simpa using h1)]
    exact ⟨_, _, rfl, Int.le_refl _, fun h => by omega, fun _ => rfl, rfl, h0⟩
  rw [if_neg (by simpa using h1)]
  by_cases h2 : k ≤ 256
  · rw [if_pos (by simpa using h2)]
    obtain ⟨r, c', e, l, u, hb, hi⟩ := byte_ok N c h0 hl
    obtain ⟨q, eq, lq, uq⟩ := rem_lo r l k (by omega)
    rw [e, Option.bind_some, eq, Option.bind_some]
    exact ⟨_, _, rfl, lq, fun _ => uq, fun h => by omega, hb, hi⟩
  · rw [if_neg (by simpa using h2)]
    obtain ⟨r1, c1, e1, l1, u1, b1, i1⟩ := byte_ok N c h0 hl
    obtain ⟨r2, c2, e2, l2, u2, b2, i2⟩ := byte_ok N c1 i1 (by rw [b1]; exact hl)
    obtain ⟨r3, c3, e3, l3, u3, b3, i3⟩ := byte_ok N c2 i2 (by rw [b2, b1]; exact hl)
    obtain ⟨r4, c4, e4, l4, u4, b4, i4⟩ := byte_ok N c3 i3 (by rw [b3, b2, b1]; exact hl)
    simp only [e1, e2, e3, e4, Option.bind_some]
    rw [w64_id (n := r1 * 16777216) (by omega) (by omega), w64_id (n := r2 * 65536) (by omega) (by omega), w64_id (n := r3 * 256) (by omega) (by omega), w64_id (n := r1 * 16777216 + r2 * 65536) (by omega) (by omega), w64_id (n := r1 * 16777216 + r2 * 65536 + r3 * 256) (by omega) (by omega), w64_id (n := r1 * 16777216 + r2 * 65536 + r3 * 256 + r4) (by omega) (by omega)]
    obtain ⟨q, eq, lq, uq⟩ := rem_lo (r1 * 16777216 + r2 * 65536 + r3 * 256 + r4) (by omega) k (by omega)
    rw [eq, Option.bind_some]
    exact ⟨_, _, rfl, lq, fun _ => uq, fun h => by omega, by rw [b4, b3, b2, b1], i4⟩
theorem new_l1 (N : Nat) (c : List Int) : ∀ (tl : List Int) (x k : Int), ∃ h, spec_l01New_l1_r N c tl x k = some h := by
  intro tl
  induction tl with
  | nil => exact fun x k => ⟨_, rfl⟩
  | cons a tl ih =>
    intro x k
    rw [spec_l01New_l1_r]
    split
    · obtain ⟨r, e, _, _⟩ := and_lo (w64 ((w64 ((w64 (x * (131 : Int))) + (w64 a))) + (7 : Int))) 1073741823 (by decide) (by decide)
      rw [Option.bind_some, e, Option.bind_some]
      exact ih _ _
    · exact ⟨_, rfl⟩
theorem new_ok (N : Nat) (hN : Big N) (c : List Int) (hl : c.length ≤ 1099511627) : ∃ h, spec_l01New N c = some ⟨c, 0, h⟩ := by
  unfold spec_l01New joinP
  rw [spec_l01New_l1_eq c (by omega) (by have := hN; unfold Big at this; omega)]
  obtain ⟨h, e⟩ := new_l1 N c c (w64 ((10301 : Int) + (c.length : Int))) 0
  rw [e]
  exact ⟨_, rfl⟩
theorem places_l1 (N : Nat) : ∀ (d m : Nat) (i : Nat) (c : Tl01Cur) (acc : List Int), i + d = 12 → d < m → acc.length = i → (∀ y ∈ acc, 0 ≤ y ∧ y < 10000) → 0 ≤ c.i → c.b.length ≤ 1099511627776 →
    ∃ out, spec_DrawPlaces_l1 N m (i : Int) c.b c.i c.h acc = some out ∧ out.length = 12 ∧ ∀ y ∈ out, 0 ≤ y ∧ y < 10000 := by
  intro d
  induction d with
  | zero =>
    intro m i c acc hd hm ha hy h0 hl
    obtain ⟨m, rfl⟩ : ∃ q, m = q + 1 := ⟨m - 1, by omega⟩
    rw [spec_DrawPlaces_l1, if_neg (by simp; omega)]
    exact ⟨_, rfl, by omega, hy⟩
  | succ d ih =>
    intro m i c acc hd hm ha hy h0 hl
    obtain ⟨m, rfl⟩ : ∃ q, m = q + 1 := ⟨m - 1, by omega⟩
    rw [spec_DrawPlaces_l1, if_pos (by simp; omega)]
    obtain ⟨r, c', e, lr, ur, _, hb, hi⟩ := below_ok N c 10000 h0 hl
    rw [show (Tl01Cur.mk c.b c.i c.h) = c from rfl, e, Option.bind_some, cat_ok (by simp; omega), Option.bind_some, w64_succ (by omega)]
    refine ih m (i + 1) c' (acc ++ [r]) (by omega) (by omega) (by simp; omega) (fun y hq => ?_) hi (by rw [hb]; exact hl)
    rcases List.mem_append.1 hq with hq | hq
    · exact hy y hq
    · obtain rfl := List.mem_singleton.1 hq
      exact ⟨lr, ur (by decide)⟩
theorem places_ok (N : Nat) (hN : Big N) (c : List Int) (hl : c.length ≤ 1099511627) : ∃ out, spec_DrawPlaces N c = some out ∧ out.length = 12 ∧ ∀ y ∈ out, 0 ≤ y ∧ y < 10000 := by
  obtain ⟨h, e⟩ := new_ok N hN c hl
  obtain ⟨r, c', e', _, _, hb, hi⟩ := byte_ok N ⟨c, 0, h⟩ (Int.le_refl _) (by simp only; omega)
  unfold spec_DrawPlaces joinP
  rw [e, Option.bind_some, e', Option.bind_some]
  obtain ⟨out, eo, hlo, hy⟩ := places_l1 N 12 N 0 c' [] rfl (by have := hN; unfold Big at this; omega) rfl (fun _ h => by cases h) hi (by rw [hb]; simp only; omega)
  rw [show (0 : Int) = ((0 : Nat) : Int) from rfl]
  simp only at eo ⊢
  rw [eo, Option.bind_some]
  exact ⟨out, rfl, hlo, hy⟩
theorem holds (x0 : List Int) (w0 : x0.length ≤ maxLen ∧ ∀ y ∈ x0, WI .u8 y) : ∃ N, laws_FnAlone N x0 = some true := by
  obtain ⟨K, hK⟩ : ∃ K, Big K := ⟨1099511627777, by decide⟩
  refine ⟨K + 100, ?_⟩
  have hN : Big (K + 100) := by have := hK; unfold Big at this ⊢; omega
  unfold laws_FnAlone laws_big
  rw [Option.bind_some]
  by_cases h : (x0.length : Int) > 1048576
  · rw [if_pos (by simpa using h)]
  rw [if_neg (by simpa using h)]
  obtain ⟨out, e, ho, hy⟩ := places_ok (K + 100) hN x0 (by omega)
  have hk : 0 < out.length := by omega
  have h1 := hy out[0] (List.getElem_mem hk)
  have e1 := at_lt hk
  obtain ⟨r, e2, lr, ur⟩ := rem_lo out[0] h1.1 4 (by decide)
  rw [e, Option.bind_some]
  rw [show (0 : Int) = ((0 : Nat) : Int) from rfl, e1, Option.bind_some, e2, Option.bind_some]
  have : r = 0 ∨ r = 1 ∨ r = 2 ∨ r = 3 := by omega
  rcases this with rfl | rfl | rfl | rfl
  · show @Eq (Option Bool) _ _
    kernel_rfl
  · show @Eq (Option Bool) _ _
    kernel_rfl
  · show @Eq (Option Bool) _ _
    kernel_rfl
  · show @Eq (Option Bool) _ _
    kernel_rfl
end Go.Proofs.Ytebbgdjmplceiaa.Pe.FnAlone
