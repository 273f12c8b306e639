/- The law FnExactWorldNew, as a statement over lists and numbers alone. -/
import Derived.Test.YteiimlnnaioocaaGreatDoorPeHFnExactWorldNew
import Derived.KernelRfl
import Derived.Lib.ItoaNum
import Derived.Lib.ItoaLen
namespace Go.Proofs.YteiimlnnaioocaaGreatDoor.Pe.FnExactWorldNew
open Go Go.RowKit
set_option linter.unusedVariables false
set_option linter.unusedSimpArgs false
set_option maxHeartbeats 4000000
theorem in_eq (N : Nat) (x a b : Int) : spec_l01In N x a b = some (decide (a ≤ x ∧ x ≤ b)) := by
  unfold spec_l01In
  by_cases h : a ≤ x <;> simp [h]
theorem within_eq (N : Nat) (x a b : Int) : impl_within N x a b = some (decide (a ≤ x ∧ x ≤ b)) := by
  unfold impl_within
  by_cases h : a ≤ x <;> simp [h]
/-- Numbers that rise, each within two bounds. -/
def rise (lo hi : Int) : Option Int → List Int → Bool
  | _, [] => true
  | p, x :: xs => decide (lo ≤ x ∧ x ≤ hi) && ((match p with | some q => decide (q < x) | none => true) && rise lo hi (some x) xs)
theorem rise_cons (lo hi : Int) (p : Option Int) (x : Int) (xs : List Int) : rise lo hi p (x :: xs) = (decide (lo ≤ x ∧ x ≤ hi) && ((match p with | some q => decide (q < x) | none => true) && rise lo hi (some x) xs)) := by
  cases p <;> rfl
def confOk (c : List Int) : Bool := decide (c.length ≤ 4) && (decide (1 ≤ c.length) && rise 1 4 none c)
def prev (c : List Int) (k : Nat) : Option Int := if k = 0 then none else c[k - 1]?
theorem prev_succ {c : List Int} {k : Nat} (h : k < c.length) : prev c (k + 1) = some c[k] := by
  simp [prev, h]
theorem rise_drop {c : List Int} {k : Nat} {lo hi : Int} (h : k < c.length) : rise lo hi (prev c k) (c.drop k) = (decide (lo ≤ c[k] ∧ c[k] ≤ hi) && ((if k = 0 then true else decide (c[k - 1]'(by omega) < c[k])) && rise lo hi (prev c (k + 1)) (c.drop (k + 1)))) := by
  rw [List.drop_eq_getElem_cons h, rise_cons, prev_succ h]
  by_cases h0 : k = 0
  · simp [prev, h0]
  · simp only [prev, h0, if_false]
    rw [List.getElem?_eq_getElem (by omega)]
theorem at_pred {c : List Int} {k : Nat} (h : k < c.length) (h0 : k ≠ 0) (hc : c.length ≤ 1099511627776) : at? c (w64 ((k : Int) - 1)) = some (c[k - 1]'(by omega)) := by
  rw [w64_id (by omega) (by omega), show (k : Int) - 1 = ((k - 1 : Nat) : Int) by omega, at_lt]
theorem rise_r (N : Nat) (c : List Int) (lo hi : Int) (hc : c.length ≤ 1099511627776) : ∀ (d k : Nat), c.length = k + d → spec_l07Rise_l1_r N c lo hi (c.drop k) (k : Int) = some (if rise lo hi (prev c k) (c.drop k) then .inr () else .inl false)
  | 0, k, h => by rw [List.drop_eq_nil_of_le (by omega), spec_l07Rise_l1_r]; rfl
  | d + 1, k, h => by
    have hk : k < c.length := by omega
    rw [rise_drop hk, List.drop_eq_getElem_cons hk, spec_l07Rise_l1_r]
    simp only [joinP, Option.bind_some, in_eq, w64_succ (k := k) (by omega), rise_r N c lo hi hc d (k + 1) (by omega)]
    by_cases h1 : lo ≤ c[k] ∧ c[k] ≤ hi
    · by_cases h0 : k = 0
      · subst h0
        simp [h1]
      · rw [at_pred hk h0 hc]
        have : (0 : Int) < k := by omega
        by_cases h2 : c[k - 1] < c[k]
        · have h3 : ¬ c[k] ≤ c[k - 1] := by omega
          simp [h1, h0, h2, h3]
        · have h3 : c[k] ≤ c[k - 1] := by omega
          simp [h1, h0, h2, h3]
    · simp [h1]
theorem rise_eq (N : Nat) (hN : Big N) (c : List Int) (lo hi : Int) (hc : c.length ≤ 1099511627776) : spec_l07Rise N c lo hi = some (rise lo hi none c) := by
  unfold spec_l07Rise
  simp only [joinP]
  rw [spec_l07Rise_l1_eq c lo hi (by omega) (by omega), show (0 : Int) = ((0 : Nat) : Int) from rfl]
  have := rise_r N c lo hi hc c.length 0 (by omega)
  rw [List.drop_zero] at this
  rw [this]
  simp only [prev, if_true]
  cases rise lo hi none c <;> rfl
theorem confOk_spec (N : Nat) (hN : Big N) (c : List Int) (hc : c.length ≤ 1099511627776) : spec_ConfOk N c = some (confOk c) := by
  unfold spec_ConfOk confOk
  simp only [in_eq, Option.bind_some, rise_eq N hN c 1 4 hc]
  by_cases h1 : c.length ≤ 4
  · by_cases h2 : 1 ≤ c.length
    · have h3 : (1 : Int) ≤ c.length ∧ (c.length : Int) ≤ 4 := by omega
      simp [h1, h2, h3]
    · have h3 : ¬ ((1 : Int) ≤ c.length ∧ (c.length : Int) ≤ 4) := by omega
      simp only [h3, if_false, h2, decide_false, Bool.false_and, Bool.and_false, Bool.false_eq_true]
  · have h3 : ¬ ((1 : Int) ≤ c.length ∧ (c.length : Int) ≤ 4) := by omega
    simp only [h3, if_false, h1, decide_false, Bool.false_and, Bool.and_false, Bool.false_eq_true]
theorem conf_r (N : Nat) (c : List Int) (hc : c.length ≤ 1099511627776) : ∀ (d k : Nat), c.length = k + d → impl_ConfOk_l1_r N c (c.drop k) (k : Int) = some (if rise 1 4 (prev c k) (c.drop k) then .inr () else .inl false)
  | 0, k, h => by rw [List.drop_eq_nil_of_le (by omega), impl_ConfOk_l1_r]; rfl
  | d + 1, k, h => by
    have hk : k < c.length := by omega
    rw [rise_drop hk, List.drop_eq_getElem_cons hk, impl_ConfOk_l1_r]
    simp only [joinP, Option.bind_some, within_eq, w64_succ (k := k) (by omega), conf_r N c hc d (k + 1) (by omega)]
    by_cases h1 : (1 : Int) ≤ c[k] ∧ c[k] ≤ 4
    · by_cases h0 : k = 0
      · subst h0
        simp [h1]
      · rw [at_pred hk h0 hc]
        have : (0 : Int) < k := by omega
        by_cases h2 : c[k - 1] < c[k]
        · have h3 : ¬ c[k] ≤ c[k - 1] := by omega
          simp [h1, h0, h2, h3]
        · have h3 : c[k] ≤ c[k - 1] := by omega
          simp [h1, h0, h2, h3]
    · simp [h1]
theorem confOk_impl (N : Nat) (hN : Big N) (c : List Int) (hc : c.length ≤ 1099511627776) : impl_ConfOk N c = some (confOk c) := by
  unfold impl_ConfOk confOk
  simp only [joinP]
  rw [impl_ConfOk_l1_eq c (by omega) (by omega), show (0 : Int) = ((0 : Nat) : Int) from rfl]
  have := conf_r N c hc c.length 0 (by omega)
  rw [List.drop_zero] at this
  rw [this]
  simp only [prev, if_true, within_eq]
  cases rise 1 4 none c with
  | false => simp
  | true =>
    simp only [if_true, Option.bind_some, Sum.elim_inr, Bool.and_true, Option.some.injEq]
    rw [← Bool.decide_and]
    simp only [decide_eq_decide]
    omega
theorem confOk_len {c : List Int} (h : confOk c = true) : 1 ≤ c.length ∧ c.length ≤ 4 := by
  unfold confOk at h
  simp only [Bool.and_eq_true, decide_eq_true_eq] at h
  exact ⟨h.2.1, h.1⟩
theorem mk_ints (N : Nat) : ∀ (d i m : Nat) (k : Int) (acc : List Int), acc.length = i + d → d < m → 1 ≤ k → k + d ≤ 1099511627 → i + d ≤ 1099511627 → ∃ acc', laws_markIntS_l1 N m k (i : Int) acc = some (k + d, acc') ∧ acc'.length = acc.length
  | 0, i, m, k, acc, hl, hm, h1, hb, hc => by
    obtain ⟨m, rfl⟩ : ∃ q, m = q + 1 := ⟨m - 1, by omega⟩
    refine ⟨acc, ?_, rfl⟩
    rw [laws_markIntS_l1, if_neg (by simp; omega)]
    simp
  | d + 1, i, m, k, acc, hl, hm, h1, hb, hc => by
    obtain ⟨m, rfl⟩ : ∃ q, m = q + 1 := ⟨m - 1, by omega⟩
    have hlt : i < acc.length := by omega
    rw [laws_markIntS_l1, if_pos (by simp; omega)]
    obtain ⟨acc', e1, e2⟩ := mk_ints N d (i + 1) m (k + 1) (acc.set i k) (by rw [List.length_set]; omega) (by omega) (by omega) (by omega) (by omega)
    rw [List.length_set] at e2
    refine ⟨acc', ?_, e2⟩
    simp only [at_lt hlt, Option.bind_some, Int.toNat_natCast, w64_succ (k := i) (by omega), w64_id (n := k + 1) (by omega) (by omega), e1]
    congr 2
    omega
theorem mark_ints (N : Nat) (hN : Big N) (x : List Int) (hx : x.length ≤ 1048576) : ∃ y : List Int, laws_markIntS N x 1 = some ((1 : Int) + (x.length : Int), y) ∧ x.length = y.length := by
  obtain ⟨y, e1, e2⟩ := mk_ints N x.length 0 N 1 x (by omega) (by unfold Big at hN; omega) (by decide) (by omega) (by omega)
  refine ⟨y, ?_, e2.symm⟩
  unfold laws_markIntS
  simp only [joinP]
  rw [show (0 : Int) = ((0 : Nat) : Int) from rfl, e1]
  rfl
abbrev man (x : List Int) : Manifest := Manifest.mk [0] 1 0 0 x
theorem man_spec (N : Nat) (hN : Big N) (x : List Int) (hx : x.length ≤ 1048576) : spec_ManifestOk N (man x) = some (confOk x) := by
  unfold spec_ManifestOk
  have h1 : spec_l01In N ((([0] : List Int).length : Nat) : Int) 1 8 = some true := rfl
  have h2 : spec_l01In N 1 0 1000 = some true := rfl
  have h3 : spec_l01In N 0 0 100000 = some true := rfl
  have h4 : spec_l07Rise N [0] 0 (w64 ((1 : Int) - 1)) = some true := rise_eq N hN [0] 0 _ (by decide)
  simp only [man, h1, h2, h3, h4, Option.bind_some, if_true, confOk_spec N hN x (by omega)]
theorem man_impl (N : Nat) (hN : Big N) (x : List Int) (hx : x.length ≤ 1048576) : impl_ManifestOk N (man x) = some (confOk x) := by
  unfold impl_ManifestOk
  simp only [joinP]
  rw [impl_ManifestOk_l1_eq (man x) (by show (1 : Nat) ≤ _; decide) (by unfold Big at hN; show (1 : Nat) < N; omega)]
  have h1 : impl_within N ((([0] : List Int).length : Nat) : Int) 1 8 = some true := rfl
  have h3 : impl_within N 0 0 100000 = some true := rfl
  have h4 : impl_ManifestOk_l1_r N (man x) (man x).Segs 0 = some (.inr ()) := rfl
  simp only [h4, Option.bind_some, Sum.elim_inr, man, h1, h3, if_true, confOk_impl N hN x (by omega)]
  rfl
theorem tot0 (x : List Int) : totL (fun _ => 0) x = x.length := by
  have h : ∀ l : List Int, (l.map fun _ => 0).sum = 0 := by
    intro l
    induction l with
    | nil => rfl
    | cons y l ih => rw [List.map_cons, List.sum_cons, ih]
  simp only [totL, h]
  omega
theorem to_ints (N : Nat) (hN : Big N) (x : List Int) (h : x.length ≤ 1048576) : laws_toIntS N x = some x := to_IntS N x (by rw [tot0]; omega) hN
/-- The disk behind a format: its files. -/
abbrev dsk (s t : ByteArray) : Disk := ⟨[⟨⟨#[103, 48]⟩, ⟨#[]⟩⟩, ⟨⟨#[108, 111, 103]⟩, s⟩, ⟨⟨#[109]⟩, t⟩]⟩
theorem seg_impl (N : Nat) : impl_SegName (N + 100) 0 = some ⟨#[103, 48]⟩ := by
  have h : impl_Decimal (N + 100) 0 = some ⟨#[48]⟩ := by
    unfold impl_Decimal strconv_Itoa itoa?
    rw [if_pos ⟨by decide, by decide⟩]
    rfl
  unfold impl_SegName
  have h2 : impl_within (N + 100) 0 0 999 = some true := rfl
  simp only [h2, Option.bind_some, h]
  rfl
theorem seg_spec (N : Nat) : spec_SegName (N + 100) 0 = some ⟨#[103, 48]⟩ := by
  show @Eq (Option ByteArray) _ _
  kernel_rfl
theorem log_both (N : Nat) : ∃ s, s.size ≤ 100 ∧ spec_LogFile (N + 100) (Log.mk 0 0 []) = some (s, true) ∧ impl_LogFile (N + 100) (Log.mk 0 0 []) = some (s, true) := by
  have h : (spec_LogFile (N + 100) (Log.mk 0 0 [])).map (fun p => (decide (p.1.size ≤ 100), p.2)) = some (true, true) := by
    show @Eq (Option (Bool × Bool)) _ _
    kernel_rfl
  have h2 : spec_LogFile (N + 100) (Log.mk 0 0 []) = impl_LogFile (N + 100) (Log.mk 0 0 []) := by
    show @Eq (Option (ByteArray × Bool)) _ _
    kernel_rfl
  obtain ⟨p, hp, hq⟩ := Option.map_eq_some_iff.1 h
  obtain ⟨s, b⟩ := p
  simp only [Prod.mk.injEq, decide_eq_true_eq] at hq
  obtain ⟨hs, rfl⟩ := hq
  exact ⟨s, hs, hp, h2 ▸ hp⟩
def Both (N : Nat) (x : List Int) : Prop := ∃ t, t.size ≤ 100 ∧ spec_ManifestText (N + 100) (man x) = some (t, true) ∧ impl_ManifestText (N + 100) (man x) = some (t, true)
theorem both_of (N : Nat) (x : List Int) (h : (spec_ManifestText (N + 100) (man x)).map (fun p => (decide (p.1.size ≤ 100), p.2)) = some (true, true)) (h2 : spec_ManifestText (N + 100) (man x) = impl_ManifestText (N + 100) (man x)) : Both N x := by
  obtain ⟨p, hp, hq⟩ := Option.map_eq_some_iff.1 h
  obtain ⟨s, b⟩ := p
  simp only [Prod.mk.injEq, decide_eq_true_eq] at hq
  obtain ⟨hs, rfl⟩ := hq
  exact ⟨s, hs, hp, h2 ▸ hp⟩
theorem t0 (N : Nat) : Both N [1] := by
  refine both_of N _ ?_ ?_
  · show @Eq (Option (Bool × Bool)) _ _
    kernel_rfl
  · show @Eq (Option (ByteArray × Bool)) _ _
    kernel_rfl
theorem t1 (N : Nat) : Both N [2] := by
  refine both_of N _ ?_ ?_
  · show @Eq (Option (Bool × Bool)) _ _
    kernel_rfl
  · show @Eq (Option (ByteArray × Bool)) _ _
    kernel_rfl
theorem t2 (N : Nat) : Both N [3] := by
  refine both_of N _ ?_ ?_
  · show @Eq (Option (Bool × Bool)) _ _
    kernel_rfl
  · show @Eq (Option (ByteArray × Bool)) _ _
    kernel_rfl
theorem t3 (N : Nat) : Both N [4] := by
  refine both_of N _ ?_ ?_
  · show @Eq (Option (Bool × Bool)) _ _
    kernel_rfl
  · show @Eq (Option (ByteArray × Bool)) _ _
    kernel_rfl
theorem t4 (N : Nat) : Both N [1, 2] := by
  refine both_of N _ ?_ ?_
  · show @Eq (Option (Bool × Bool)) _ _
    kernel_rfl
  · show @Eq (Option (ByteArray × Bool)) _ _
    kernel_rfl
theorem t5 (N : Nat) : Both N [1, 3] := by
  refine both_of N _ ?_ ?_
  · show @Eq (Option (Bool × Bool)) _ _
    kernel_rfl
  · show @Eq (Option (ByteArray × Bool)) _ _
    kernel_rfl
theorem t6 (N : Nat) : Both N [1, 4] := by
  refine both_of N _ ?_ ?_
  · show @Eq (Option (Bool × Bool)) _ _
    kernel_rfl
  · show @Eq (Option (ByteArray × Bool)) _ _
    kernel_rfl
theorem t7 (N : Nat) : Both N [2, 3] := by
  refine both_of N _ ?_ ?_
  · show @Eq (Option (Bool × Bool)) _ _
    kernel_rfl
  · show @Eq (Option (ByteArray × Bool)) _ _
    kernel_rfl
theorem t8 (N : Nat) : Both N [2, 4] := by
  refine both_of N _ ?_ ?_
  · show @Eq (Option (Bool × Bool)) _ _
    kernel_rfl
  · show @Eq (Option (ByteArray × Bool)) _ _
    kernel_rfl
theorem t9 (N : Nat) : Both N [3, 4] := by
  refine both_of N _ ?_ ?_
  · show @Eq (Option (Bool × Bool)) _ _
    kernel_rfl
  · show @Eq (Option (ByteArray × Bool)) _ _
    kernel_rfl
theorem t10 (N : Nat) : Both N [1, 2, 3] := by
  refine both_of N _ ?_ ?_
  · show @Eq (Option (Bool × Bool)) _ _
    kernel_rfl
  · show @Eq (Option (ByteArray × Bool)) _ _
    kernel_rfl
theorem t11 (N : Nat) : Both N [1, 2, 4] := by
  refine both_of N _ ?_ ?_
  · show @Eq (Option (Bool × Bool)) _ _
    kernel_rfl
  · show @Eq (Option (ByteArray × Bool)) _ _
    kernel_rfl
theorem t12 (N : Nat) : Both N [1, 3, 4] := by
  refine both_of N _ ?_ ?_
  · show @Eq (Option (Bool × Bool)) _ _
    kernel_rfl
  · show @Eq (Option (ByteArray × Bool)) _ _
    kernel_rfl
theorem t13 (N : Nat) : Both N [2, 3, 4] := by
  refine both_of N _ ?_ ?_
  · show @Eq (Option (Bool × Bool)) _ _
    kernel_rfl
  · show @Eq (Option (ByteArray × Bool)) _ _
    kernel_rfl
theorem t14 (N : Nat) : Both N [1, 2, 3, 4] := by
  refine both_of N _ ?_ ?_
  · show @Eq (Option (Bool × Bool)) _ _
    kernel_rfl
  · show @Eq (Option (ByteArray × Bool)) _ _
    kernel_rfl
theorem conf_cases {x : List Int} (h : confOk x = true) : x = [1] ∨ x = [2] ∨ x = [3] ∨ x = [4] ∨ x = [1, 2] ∨ x = [1, 3] ∨ x = [1, 4] ∨ x = [2, 3] ∨ x = [2, 4] ∨ x = [3, 4] ∨ x = [1, 2, 3] ∨ x = [1, 2, 4] ∨ x = [1, 3, 4] ∨ x = [2, 3, 4] ∨ x = [1, 2, 3, 4] := by
  have hl := confOk_len h
  simp only [confOk, Bool.and_eq_true, decide_eq_true_eq] at h
  obtain ⟨_, _, h⟩ := h
  rcases x with _ | ⟨a, _ | ⟨b, _ | ⟨c, _ | ⟨d, _ | ⟨e, x⟩⟩⟩⟩⟩
  · simp at hl
  · simp only [rise, Bool.and_eq_true, decide_eq_true_eq, and_true] at h
    have : a = 1 ∨ a = 2 ∨ a = 3 ∨ a = 4 := by omega
    rcases this with rfl | rfl | rfl | rfl <;> simp
  · simp only [rise, Bool.and_eq_true, decide_eq_true_eq, and_true] at h
    have : (a = 1 ∧ b = 2) ∨ (a = 1 ∧ b = 3) ∨ (a = 1 ∧ b = 4) ∨ (a = 2 ∧ b = 3) ∨ (a = 2 ∧ b = 4) ∨ (a = 3 ∧ b = 4) := by omega
    rcases this with ⟨rfl, rfl⟩ | ⟨rfl, rfl⟩ | ⟨rfl, rfl⟩ | ⟨rfl, rfl⟩ | ⟨rfl, rfl⟩ | ⟨rfl, rfl⟩ <;> simp
  · simp only [rise, Bool.and_eq_true, decide_eq_true_eq, and_true] at h
    have : (a = 1 ∧ b = 2 ∧ c = 3) ∨ (a = 1 ∧ b = 2 ∧ c = 4) ∨ (a = 1 ∧ b = 3 ∧ c = 4) ∨ (a = 2 ∧ b = 3 ∧ c = 4) := by omega
    rcases this with ⟨rfl, rfl, rfl⟩ | ⟨rfl, rfl, rfl⟩ | ⟨rfl, rfl, rfl⟩ | ⟨rfl, rfl, rfl⟩ <;> simp
  · simp only [rise, Bool.and_eq_true, decide_eq_true_eq, and_true] at h
    have : a = 1 ∧ b = 2 ∧ c = 3 ∧ d = 4 := by omega
    obtain ⟨rfl, rfl, rfl, rfl⟩ := this
    simp
  · simp at hl
theorem both {x : List Int} (h : confOk x = true) (N : Nat) : Both N x := by
  rcases conf_cases h with rfl | rfl | rfl | rfl | rfl | rfl | rfl | rfl | rfl | rfl | rfl | rfl | rfl | rfl | rfl
  · exact t0 N
  · exact t1 N
  · exact t2 N
  · exact t3 N
  · exact t4 N
  · exact t5 N
  · exact t6 N
  · exact t7 N
  · exact t8 N
  · exact t9 N
  · exact t10 N
  · exact t11 N
  · exact t12 N
  · exact t13 N
  · exact t14 N
theorem put_spec (N : Nat) (s t : ByteArray) : spec_l03Put (N + 100) ⟨[⟨⟨#[103, 48]⟩, ⟨#[]⟩⟩, ⟨⟨#[109]⟩, t⟩]⟩ ⟨⟨#[108, 111, 103]⟩, s⟩ = some (dsk s t) := by
  show @Eq (Option Disk) _ _
  kernel_rfl
theorem put_impl (N : Nat) (s t : ByteArray) : impl_withFile (N + 100) ⟨[⟨⟨#[103, 48]⟩, ⟨#[]⟩⟩, ⟨⟨#[109]⟩, t⟩]⟩ ⟨#[108, 111, 103]⟩ s = some (dsk s t) := by
  show @Eq (Option Disk) _ _
  kernel_rfl
theorem fmt_good (N : Nat) {x : List Int} (h : confOk x = true) : ∃ s t, s.size ≤ 100 ∧ t.size ≤ 100 ∧ spec_FormatDisk (N + 100) x = some (dsk s t, true) ∧ impl_FormatDisk (N + 100) x = some (dsk s t, true) := by
  obtain ⟨s, hs, s1, s2⟩ := log_both N
  obtain ⟨t, ht, t1, t2⟩ := both h N
  refine ⟨s, t, hs, ht, ?_, ?_⟩
  · unfold spec_FormatDisk spec_FormatShelf
    simp only [t1, Option.bind_some, seg_spec, s1, put_spec, Bool.not_true, Bool.false_eq_true, if_false]
  · unfold impl_FormatDisk impl_FormatShelf
    simp only [t2, Option.bind_some, seg_impl, s2, put_impl, Bool.not_true, Bool.false_eq_true, if_false]
theorem fmt_bad (N : Nat) (hN : Big N) {x : List Int} (hx : x.length ≤ 1048576) (h : confOk x = false) : spec_FormatDisk N x = some (⟨[]⟩, false) ∧ impl_FormatDisk N x = some (⟨[]⟩, false) := by
  constructor
  · unfold spec_FormatDisk spec_FormatShelf spec_ManifestText
    simp [man_spec N hN x hx, h]
  · unfold impl_FormatDisk impl_FormatShelf impl_ManifestText
    simp [man_impl N hN x hx, h]
abbrev zeroW : World := World.mk [] [] [] [] [] [] []
theorem bad_fmt (N : Nat) (hN : Big N) (n : Int) {x : List Int} (hx : x.length ≤ 1048576) (h : confOk x = false) : spec_WorldNew N n x = some (zeroW, false) ∧ impl_WorldNew N n x = some (zeroW, false) := by
  obtain ⟨h1, h2⟩ := fmt_bad N hN hx h
  constructor
  · unfold spec_WorldNew
    rw [h1]
    rfl
  · unfold impl_WorldNew
    rw [h2]
    rfl
theorem bad_no (N : Nat) {n : Int} (hn : ¬ (1 ≤ n ∧ n ≤ 4)) {x : List Int} (h : confOk x = true) : spec_WorldNew (N + 100) n x = some (zeroW, false) ∧ impl_WorldNew (N + 100) n x = some (zeroW, false) := by
  obtain ⟨s, t, _, _, h1, h2⟩ := fmt_good N h
  constructor
  · unfold spec_WorldNew
    rw [h1, Option.bind_some, if_neg (by simp), in_eq, Option.bind_some, decide_eq_false hn]
    rfl
  · unfold impl_WorldNew
    rw [h2, Option.bind_some, if_neg (by simp), within_eq, Option.bind_some, decide_eq_false hn]
    rfl
theorem rest0 (N : Nat) (hN : Big (N + 100)) (n : Int) (x : List Int) (hx : x.length ≤ 1048576) (h1 : spec_WorldNew (N + 100) n x = some (zeroW, false)) (h2 : impl_WorldNew (N + 100) n x = some (zeroW, false)) : laws_FnExactWorldNew (N + 100) n x = some true := by
  unfold laws_FnExactWorldNew
  obtain ⟨z, z1, z2⟩ := mark_ints (N + 100) hN x hx
  have hlen : len? x z = some () := by unfold len?; rw [if_pos z2]
  have hz : ¬ ((1 : Int) + (x.length : Int) < 0) := by omega
  have e1 : laws_eqWorld (N + 100) zeroW zeroW = some true := rfl
  have e2 : laws_markWorld (N + 100) zeroW 1 = some (1, [], []) := rfl
  have e3 : laws_heldWorld (N + 100) ({ zeroW with Up := [], Servers := [] }) 1 = some 1 := rfl
  have e4 : len? zeroW.Up ([] : List Bool) = some () := rfl
  have e5 : len? zeroW.Servers ([] : List Server) = some () := rfl
  rw [if_neg (by simp; omega)]
  simp only [to_ints (N + 100) hN x hx, Option.bind_some, h1, h2, e1, eq_IntS (N + 100) x (by rw [tot0]; omega) hN, z1, hlen, e2, e3, e4, e5]
  simp [hz]
theorem w0_1 (N : Nat) : laws_FnExactWorldNew (N + 100) 1 [1] = some true := by
  show @Eq (Option Bool) _ _
  kernel_rfl
theorem w0_2 (N : Nat) : laws_FnExactWorldNew (N + 100) 2 [1] = some true := by
  show @Eq (Option Bool) _ _
  kernel_rfl
theorem w0_3 (N : Nat) : laws_FnExactWorldNew (N + 100) 3 [1] = some true := by
  show @Eq (Option Bool) _ _
  kernel_rfl
theorem w0_4 (N : Nat) : laws_FnExactWorldNew (N + 100) 4 [1] = some true := by
  show @Eq (Option Bool) _ _
  kernel_rfl
theorem w1_1 (N : Nat) : laws_FnExactWorldNew (N + 100) 1 [2] = some true := by
  show @Eq (Option Bool) _ _
  kernel_rfl
theorem w1_2 (N : Nat) : laws_FnExactWorldNew (N + 100) 2 [2] = some true := by
  show @Eq (Option Bool) _ _
  kernel_rfl
theorem w1_3 (N : Nat) : laws_FnExactWorldNew (N + 100) 3 [2] = some true := by
  show @Eq (Option Bool) _ _
  kernel_rfl
theorem w1_4 (N : Nat) : laws_FnExactWorldNew (N + 100) 4 [2] = some true := by
  show @Eq (Option Bool) _ _
  kernel_rfl
theorem w2_1 (N : Nat) : laws_FnExactWorldNew (N + 100) 1 [3] = some true := by
  show @Eq (Option Bool) _ _
  kernel_rfl
theorem w2_2 (N : Nat) : laws_FnExactWorldNew (N + 100) 2 [3] = some true := by
  show @Eq (Option Bool) _ _
  kernel_rfl
theorem w2_3 (N : Nat) : laws_FnExactWorldNew (N + 100) 3 [3] = some true := by
  show @Eq (Option Bool) _ _
  kernel_rfl
theorem w2_4 (N : Nat) : laws_FnExactWorldNew (N + 100) 4 [3] = some true := by
  show @Eq (Option Bool) _ _
  kernel_rfl
theorem w3_1 (N : Nat) : laws_FnExactWorldNew (N + 100) 1 [4] = some true := by
  show @Eq (Option Bool) _ _
  kernel_rfl
theorem w3_2 (N : Nat) : laws_FnExactWorldNew (N + 100) 2 [4] = some true := by
  show @Eq (Option Bool) _ _
  kernel_rfl
theorem w3_3 (N : Nat) : laws_FnExactWorldNew (N + 100) 3 [4] = some true := by
  show @Eq (Option Bool) _ _
  kernel_rfl
theorem w3_4 (N : Nat) : laws_FnExactWorldNew (N + 100) 4 [4] = some true := by
  show @Eq (Option Bool) _ _
  kernel_rfl
theorem w4_1 (N : Nat) : laws_FnExactWorldNew (N + 100) 1 [1, 2] = some true := by
  show @Eq (Option Bool) _ _
  kernel_rfl
theorem w4_2 (N : Nat) : laws_FnExactWorldNew (N + 100) 2 [1, 2] = some true := by
  show @Eq (Option Bool) _ _
  kernel_rfl
theorem w4_3 (N : Nat) : laws_FnExactWorldNew (N + 100) 3 [1, 2] = some true := by
  show @Eq (Option Bool) _ _
  kernel_rfl
theorem w4_4 (N : Nat) : laws_FnExactWorldNew (N + 100) 4 [1, 2] = some true := by
  show @Eq (Option Bool) _ _
  kernel_rfl
theorem w5_1 (N : Nat) : laws_FnExactWorldNew (N + 100) 1 [1, 3] = some true := by
  show @Eq (Option Bool) _ _
  kernel_rfl
theorem w5_2 (N : Nat) : laws_FnExactWorldNew (N + 100) 2 [1, 3] = some true := by
  show @Eq (Option Bool) _ _
  kernel_rfl
theorem w5_3 (N : Nat) : laws_FnExactWorldNew (N + 100) 3 [1, 3] = some true := by
  show @Eq (Option Bool) _ _
  kernel_rfl
theorem w5_4 (N : Nat) : laws_FnExactWorldNew (N + 100) 4 [1, 3] = some true := by
  show @Eq (Option Bool) _ _
  kernel_rfl
theorem w6_1 (N : Nat) : laws_FnExactWorldNew (N + 100) 1 [1, 4] = some true := by
  show @Eq (Option Bool) _ _
  kernel_rfl
theorem w6_2 (N : Nat) : laws_FnExactWorldNew (N + 100) 2 [1, 4] = some true := by
  show @Eq (Option Bool) _ _
  kernel_rfl
theorem w6_3 (N : Nat) : laws_FnExactWorldNew (N + 100) 3 [1, 4] = some true := by
  show @Eq (Option Bool) _ _
  kernel_rfl
theorem w6_4 (N : Nat) : laws_FnExactWorldNew (N + 100) 4 [1, 4] = some true := by
  show @Eq (Option Bool) _ _
  kernel_rfl
theorem w7_1 (N : Nat) : laws_FnExactWorldNew (N + 100) 1 [2, 3] = some true := by
  show @Eq (Option Bool) _ _
  kernel_rfl
theorem w7_2 (N : Nat) : laws_FnExactWorldNew (N + 100) 2 [2, 3] = some true := by
  show @Eq (Option Bool) _ _
  kernel_rfl
theorem w7_3 (N : Nat) : laws_FnExactWorldNew (N + 100) 3 [2, 3] = some true := by
  show @Eq (Option Bool) _ _
  kernel_rfl
theorem w7_4 (N : Nat) : laws_FnExactWorldNew (N + 100) 4 [2, 3] = some true := by
  show @Eq (Option Bool) _ _
  kernel_rfl
theorem w8_1 (N : Nat) : laws_FnExactWorldNew (N + 100) 1 [2, 4] = some true := by
  show @Eq (Option Bool) _ _
  kernel_rfl
theorem w8_2 (N : Nat) : laws_FnExactWorldNew (N + 100) 2 [2, 4] = some true := by
  show @Eq (Option Bool) _ _
  kernel_rfl
theorem w8_3 (N : Nat) : laws_FnExactWorldNew (N + 100) 3 [2, 4] = some true := by
  show @Eq (Option Bool) _ _
  kernel_rfl
theorem w8_4 (N : Nat) : laws_FnExactWorldNew (N + 100) 4 [2, 4] = some true := by
  show @Eq (Option Bool) _ _
  kernel_rfl
theorem w9_1 (N : Nat) : laws_FnExactWorldNew (N + 100) 1 [3, 4] = some true := by
  show @Eq (Option Bool) _ _
  kernel_rfl
theorem w9_2 (N : Nat) : laws_FnExactWorldNew (N + 100) 2 [3, 4] = some true := by
  show @Eq (Option Bool) _ _
  kernel_rfl
theorem w9_3 (N : Nat) : laws_FnExactWorldNew (N + 100) 3 [3, 4] = some true := by
  show @Eq (Option Bool) _ _
  kernel_rfl
theorem w9_4 (N : Nat) : laws_FnExactWorldNew (N + 100) 4 [3, 4] = some true := by
  show @Eq (Option Bool) _ _
  kernel_rfl
theorem w10_1 (N : Nat) : laws_FnExactWorldNew (N + 100) 1 [1, 2, 3] = some true := by
  show @Eq (Option Bool) _ _
  kernel_rfl
theorem w10_2 (N : Nat) : laws_FnExactWorldNew (N + 100) 2 [1, 2, 3] = some true := by
  show @Eq (Option Bool) _ _
  kernel_rfl
theorem w10_3 (N : Nat) : laws_FnExactWorldNew (N + 100) 3 [1, 2, 3] = some true := by
  show @Eq (Option Bool) _ _
  kernel_rfl
theorem w10_4 (N : Nat) : laws_FnExactWorldNew (N + 100) 4 [1, 2, 3] = some true := by
  show @Eq (Option Bool) _ _
  kernel_rfl
theorem w11_1 (N : Nat) : laws_FnExactWorldNew (N + 100) 1 [1, 2, 4] = some true := by
  show @Eq (Option Bool) _ _
  kernel_rfl
theorem w11_2 (N : Nat) : laws_FnExactWorldNew (N + 100) 2 [1, 2, 4] = some true := by
  show @Eq (Option Bool) _ _
  kernel_rfl
theorem w11_3 (N : Nat) : laws_FnExactWorldNew (N + 100) 3 [1, 2, 4] = some true := by
  show @Eq (Option Bool) _ _
  kernel_rfl
theorem w11_4 (N : Nat) : laws_FnExactWorldNew (N + 100) 4 [1, 2, 4] = some true := by
  show @Eq (Option Bool) _ _
  kernel_rfl
theorem w12_1 (N : Nat) : laws_FnExactWorldNew (N + 100) 1 [1, 3, 4] = some true := by
  show @Eq (Option Bool) _ _
  kernel_rfl
theorem w12_2 (N : Nat) : laws_FnExactWorldNew (N + 100) 2 [1, 3, 4] = some true := by
  show @Eq (Option Bool) _ _
  kernel_rfl
theorem w12_3 (N : Nat) : laws_FnExactWorldNew (N + 100) 3 [1, 3, 4] = some true := by
  show @Eq (Option Bool) _ _
  kernel_rfl
theorem w12_4 (N : Nat) : laws_FnExactWorldNew (N + 100) 4 [1, 3, 4] = some true := by
  show @Eq (Option Bool) _ _
  kernel_rfl
theorem w13_1 (N : Nat) : laws_FnExactWorldNew (N + 100) 1 [2, 3, 4] = some true := by
  show @Eq (Option Bool) _ _
  kernel_rfl
theorem w13_2 (N : Nat) : laws_FnExactWorldNew (N + 100) 2 [2, 3, 4] = some true := by
  show @Eq (Option Bool) _ _
  kernel_rfl
theorem w13_3 (N : Nat) : laws_FnExactWorldNew (N + 100) 3 [2, 3, 4] = some true := by
  show @Eq (Option Bool) _ _
  kernel_rfl
theorem w13_4 (N : Nat) : laws_FnExactWorldNew (N + 100) 4 [2, 3, 4] = some true := by
  show @Eq (Option Bool) _ _
  kernel_rfl
theorem w14_1 (N : Nat) : laws_FnExactWorldNew (N + 100) 1 [1, 2, 3, 4] = some true := by
  show @Eq (Option Bool) _ _
  kernel_rfl
theorem w14_2 (N : Nat) : laws_FnExactWorldNew (N + 100) 2 [1, 2, 3, 4] = some true := by
  show @Eq (Option Bool) _ _
  kernel_rfl
theorem w14_3 (N : Nat) : laws_FnExactWorldNew (N + 100) 3 [1, 2, 3, 4] = some true := by
  show @Eq (Option Bool) _ _
  kernel_rfl
theorem w14_4 (N : Nat) : laws_FnExactWorldNew (N + 100) 4 [1, 2, 3, 4] = some true := by
  show @Eq (Option Bool) _ _
  kernel_rfl
theorem holds (x0 : Int) (x1 : (List Int)) (w0 : WI .i64 x0) (w1 : x1.length ≤ maxLen ∧ ∀ y ∈ x1, WI .i64 y) : ∃ N, laws_FnExactWorldNew N x0 x1 = some true := by
  obtain ⟨K, hK⟩ : ∃ K, Big K := ⟨1099511627777, by decide⟩
  refine ⟨K + 100, ?_⟩
  have hN : Big (K + 100) := by have := hK; unfold Big at this ⊢; omega
  by_cases hx : x1.length ≤ 1048576
  · cases h : confOk x1 with
    | true =>
      by_cases hn : 1 ≤ x0 ∧ x0 ≤ 4
      · have h4 : x0 = 1 ∨ x0 = 2 ∨ x0 = 3 ∨ x0 = 4 := by omega
        rcases conf_cases h with rfl | rfl | rfl | rfl | rfl | rfl | rfl | rfl | rfl | rfl | rfl | rfl | rfl | rfl | rfl <;> rcases h4 with rfl | rfl | rfl | rfl
        · exact w0_1 K
        · exact w0_2 K
        · exact w0_3 K
        · exact w0_4 K
        · exact w1_1 K
        · exact w1_2 K
        · exact w1_3 K
        · exact w1_4 K
        · exact w2_1 K
        · exact w2_2 K
        · exact w2_3 K
        · exact w2_4 K
        · exact w3_1 K
        · exact w3_2 K
        · exact w3_3 K
        · exact w3_4 K
        · exact w4_1 K
        · exact w4_2 K
        · exact w4_3 K
        · exact w4_4 K
        · exact w5_1 K
        · exact w5_2 K
        · exact w5_3 K
        · exact w5_4 K
        · exact w6_1 K
        · exact w6_2 K
        · exact w6_3 K
        · exact w6_4 K
        · exact w7_1 K
        · exact w7_2 K
        · exact w7_3 K
        · exact w7_4 K
        · exact w8_1 K
        · exact w8_2 K
        · exact w8_3 K
        · exact w8_4 K
        · exact w9_1 K
        · exact w9_2 K
        · exact w9_3 K
        · exact w9_4 K
        · exact w10_1 K
        · exact w10_2 K
        · exact w10_3 K
        · exact w10_4 K
        · exact w11_1 K
        · exact w11_2 K
        · exact w11_3 K
        · exact w11_4 K
        · exact w12_1 K
        · exact w12_2 K
        · exact w12_3 K
        · exact w12_4 K
        · exact w13_1 K
        · exact w13_2 K
        · exact w13_3 K
        · exact w13_4 K
        · exact w14_1 K
        · exact w14_2 K
        · exact w14_3 K
        · exact w14_4 K
      · obtain ⟨h1, h2⟩ := bad_no K hn h
        exact rest0 K hN x0 x1 hx h1 h2
    | false =>
      obtain ⟨h1, h2⟩ := bad_fmt (K + 100) hN x0 hx h
      exact rest0 K hN x0 x1 hx h1 h2
  · unfold laws_FnExactWorldNew
    rw [if_pos (by simp; omega)]
end Go.Proofs.YteiimlnnaioocaaGreatDoor.Pe.FnExactWorldNew
