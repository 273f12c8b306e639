/- The law FnExactShowWorld, as a statement over lists and numbers alone. -/
import Derived.Test.YtedoifjaobebeaaGreatDoorPeHFnExactShowWorld
import Derived.KernelRfl
import Derived.Lib.ItoaNum
import Derived.Lib.ItoaLen
namespace Go.Proofs.YtedoifjaobebeaaGreatDoor.Pe.FnExactShowWorld
open Go Go.RowKit
set_option linter.unusedVariables false
set_option linter.unusedSimpArgs false
set_option maxHeartbeats 4000000
/-- The decimal digits; none of 0. -/
def dd (u : Nat) : List UInt8 := if u = 0 then [] else Lib.decDigits u
theorem dd_step {u : Nat} (h : u ≠ 0) : dd u = dd (u / 10) ++ [UInt8.ofNat (48 + u % 10)] := by
  unfold dd
  rw [if_neg h, Lib.decDigits]
  by_cases h1 : u < 10
  · rw [dif_pos h1, if_pos (by omega), Nat.mod_eq_of_lt h1, List.nil_append]
  · rw [dif_neg h1, if_neg (by omega)]
theorem bytesRows_one (n : Int) : strOf [n] = ⟨#[UInt8.ofNat n.toNat]⟩ := rfl
theorem ba_cat (a b : List UInt8) : (⟨a.toArray⟩ : ByteArray) ++ ⟨b.toArray⟩ = ⟨(a ++ b).toArray⟩ := by
  apply ByteArray.ext
  simp
theorem fig_ok (N d : Nat) (h : d < 10) : spec_l01Figure N (d : Int) = some ((48 + d : Nat) : Int) := by
  unfold spec_l01Figure
  rw [if_pos (by simp; omega), w64_id (by omega) (by omega), IntKind.wrap_u8]
  congr 1
  omega
theorem dec_loop (N : Nat) : ∀ (k m : Nat) (n : Int) (acc : List UInt8), n.natAbs < 10 ^ k → k ≤ m → -9223372036854775808 ≤ n → n ≤ 9223372036854775807 → acc.length + k ≤ 1000 → spec_Decimal_l1 N (m + 1) n ⟨acc.toArray⟩ = some ⟨(dd n.natAbs ++ acc).toArray⟩
  | k, m, n, acc, hm, hk, h0, h1, ha => by
    rw [spec_Decimal_l1]
    by_cases hz : n = 0
    · subst hz
      rw [if_neg (by simp)]
      rfl
    rw [if_pos (by simpa using hz)]
    obtain ⟨k, rfl⟩ : ∃ q, k = q + 1 := by
      cases k with
      | zero => exact absurd hm (by simp; omega)
      | succ q => exact ⟨q, rfl⟩
    obtain ⟨m, rfl⟩ : ∃ q, m = q + 1 := ⟨m - 1, by omega⟩
    obtain ⟨d, hd⟩ : ∃ d, d = n.natAbs % 10 := ⟨_, rfl⟩
    have hd10 : d < 10 := by omega
    have ht : n.tmod 10 = if n < 0 then -(d : Int) else d := by
      rcases Int.natAbs_eq n with e | e
      · rw [if_neg (by omega), e, Int.tmod_eq_emod_of_nonneg (by omega)]
        omega
      · rw [e, Int.neg_tmod, Int.tmod_eq_emod_of_nonneg (by omega)]
        by_cases hn : -(n.natAbs : Int) < 0
        · rw [if_pos hn]; omega
        · omega
    have hq : (n.tdiv 10).natAbs = n.natAbs / 10 ∧ -9223372036854775808 ≤ n.tdiv 10 ∧ n.tdiv 10 ≤ 9223372036854775807 := by
      rcases Int.natAbs_eq n with e | e
      · rw [e, Int.tdiv_eq_ediv_of_nonneg (by omega)]
        omega
      · rw [e, Int.neg_tdiv, Int.tdiv_eq_ediv_of_nonneg (by omega)]
        omega
    simp only [intD]
    rw [if_neg (by decide), if_neg (by decide)]
    simp only [Option.bind_some, joinP]
    have hw : IntKind.i64.wrap (n.tdiv 10) = n.tdiv 10 := w64_id (by omega) (by omega)
    have hwt : (if (decide (n.tmod 10 < 0)) = true then w64 (-(n.tmod 10)) else n.tmod 10) = (d : Int) := by
      rw [ht]
      by_cases hn : n < 0
      · rw [if_pos hn]
        by_cases h0' : -(d : Int) < 0
        · rw [if_pos (by simpa using h0'), w64_id (by omega) (by omega)]
          omega
        · rw [if_neg (by simpa using h0')]
          omega
      · rw [if_neg hn, if_neg (by simp)]
    have ih := dec_loop N k m (n.tdiv 10) (UInt8.ofNat (48 + d) :: acc) (by rw [hq.1]; rw [Nat.pow_succ] at hm; omega) (by omega) hq.2.1 hq.2.2 (by simp only [List.length_cons]; omega)
    rw [hq.1] at ih
    have key : ∀ v : Int, v = (d : Int) → (spec_l01Figure N v).bind (fun y => (scat? (strOf ([y] : List Int)) ⟨acc.toArray⟩).bind fun x => some (IntKind.i64.wrap (n.tdiv 10)) |>.bind fun z => spec_Decimal_l1 N (m + 1) z x) = some ⟨(dd n.natAbs ++ acc).toArray⟩ := by
      intro v hv
      subst hv
      rw [fig_ok N d hd10, Option.bind_some, bytesRows_one, Int.toNat_natCast, scat_ok (by simp only [ByteArray.size, List.size_toArray]; show 1 + acc.length ≤ _; omega), Option.bind_some, Option.bind_some, hw]
      have e1 : (⟨#[UInt8.ofNat (48 + d)]⟩ : ByteArray) ++ ⟨acc.toArray⟩ = ⟨(UInt8.ofNat (48 + d) :: acc).toArray⟩ := ba_cat [_] acc
      rw [e1, ih, dd_step (u := n.natAbs) (by omega), ← hd]
      simp
    by_cases hn : n.tmod 10 < 0
    · rw [if_pos (by simpa using hn)] at hwt ⊢
      exact key _ hwt
    · rw [if_neg (by simpa using hn)] at hwt ⊢
      exact key _ hwt
theorem dec_spec (N : Nat) (hN : Big N) (n : Int) (h0 : -9223372036854775808 ≤ n) (h1 : n ≤ 9223372036854775807) : spec_Decimal N n = some ⟨(Lib.itoa n).toArray⟩ := by
  unfold spec_Decimal
  by_cases hz : n = 0
  · subst hz
    rw [if_pos (by simp)]
    simp [Lib.itoa, Lib.decDigits]
  rw [if_neg (by simpa using hz)]
  simp only [joinP]
  obtain ⟨q, hq⟩ : ∃ q, N = q + 1 := ⟨N - 1, by unfold Big at hN; omega⟩
  have hl := dec_loop N 20 q n [] (by omega) (by unfold Big at hN; omega) h0 h1 (by simp)
  rw [← hq] at hl
  have e0 : (⟨([] : List UInt8).toArray⟩ : ByteArray) = ⟨#[]⟩ := rfl
  rw [e0] at hl
  have hd : dd n.natAbs = Lib.decDigits n.natAbs := by unfold dd; rw [if_neg (by omega)]
  rw [hl, Option.bind_some, hd, List.append_nil]
  unfold Lib.itoa
  by_cases hn : n < 0
  · rw [if_pos (by simpa using hn), if_pos hn]
    have hlen := Lib.decDigits_length n.natAbs
    have hlen2 := Lib.itoa_length_le n h0 h1
    unfold Lib.itoa at hlen2
    rw [if_pos hn, List.length_cons] at hlen2
    rw [scat_ok (by simp only [ByteArray.size, List.size_toArray]; show 1 + _ ≤ _; omega), Option.bind_some]
    exact congrArg some (ba_cat [45] _)
  · rw [if_neg (by simpa using hn), if_neg hn]
    rw [show n.toNat = n.natAbs by omega]
theorem wi {n : Int} (h : WI .i64 n) : -9223372036854775808 ≤ n ∧ n ≤ 9223372036854775807 := by
  have := h
  simp only [WI, Lit.wf, beq_iff_eq, decide_eq_true_eq, Bool.and_eq_true] at this
  exact this
theorem dec_impl (N : Nat) (n : Int) (h0 : -9223372036854775808 ≤ n) (h1 : n ≤ 9223372036854775807) : impl_Decimal N n = some ⟨(Lib.itoa n).toArray⟩ := by
  unfold impl_Decimal strconv_Itoa itoa?
  rw [if_pos ⟨h0, h1⟩]
  rfl
theorem rows_push (ns : List Int) (acc : ByteArray) : ns.foldl (fun r n => r.push (UInt8.ofNat n.toNat)) acc = ⟨acc.data ++ (ns.map fun n => UInt8.ofNat n.toNat).toArray⟩ := by
  induction ns generalizing acc with
  | nil => simp
  | cons n ns ih =>
    rw [List.foldl_cons, ih]
    apply ByteArray.ext
    simp [ByteArray.push]
theorem strOf_data (ns : List Int) : strOf ns = ⟨(ns.map fun n => UInt8.ofNat n.toNat).toArray⟩ := by
  show ns.foldl _ _ = _
  rw [rows_push]
  apply ByteArray.ext
  simp
theorem strOf_cat (a b : List Int) : strOf (a ++ b) = strOf a ++ strOf b := by
  rw [strOf_data, strOf_data, strOf_data, ba_cat, List.map_append]
theorem strOf_ints (t : ByteArray) : strOf (intsOf t) = t := by
  rw [strOf_data]
  unfold intsOf
  apply ByteArray.ext
  rw [List.map_map]
  have : ∀ l : List UInt8, l.map ((fun n : Int => UInt8.ofNat n.toNat) ∘ fun b : UInt8 => (b.toNat : Int)) = l := by
    intro l
    induction l with
    | nil => rfl
    | cons x l ih =>
      rw [List.map_cons, ih]
      congr 1
      show UInt8.ofNat ((x.toNat : Int)).toNat = x
      rw [Int.toNat_natCast]
      exact UInt8.ofNat_toNat
  rw [this]
theorem ints_len (t : ByteArray) : (intsOf t).length = t.size := by
  unfold intsOf
  rw [List.length_map]
  rfl
/-- A reply's line. -/
def lineOf (r : Reply) : ByteArray := (⟨#[114, 101, 112, 108, 121, 32]⟩ : ByteArray) ++ ⟨(Lib.itoa r.Call).toArray⟩ ++ ⟨#[32]⟩ ++ r.Text ++ ⟨#[10]⟩
def linesOf (l : List Reply) : List Int := l.flatMap fun r => intsOf (lineOf r)
theorem itoa_size {n : Int} (h0 : -9223372036854775808 ≤ n) (h1 : n ≤ 9223372036854775807) : (⟨(Lib.itoa n).toArray⟩ : ByteArray).size ≤ 21 := by
  have := Lib.itoa_length_le n h0 h1
  simpa [ByteArray.size] using this
theorem line_size {r : Reply} (w : wfReply r) : (lineOf r).size ≤ r.Text.size + 29 := by
  have := itoa_size (wi w.1).1 (wi w.1).2
  unfold lineOf
  simp only [ByteArray.size_append]
  have h1 : (⟨#[114, 101, 112, 108, 121, 32]⟩ : ByteArray).size = 6 := rfl
  have h2 : (⟨#[32]⟩ : ByteArray).size = 1 := rfl
  have h3 : (⟨#[10]⟩ : ByteArray).size = 1 := rfl
  omega
theorem lines_len : ∀ {l : List Reply}, (∀ y ∈ l, wfReply y) → (linesOf l).length ≤ totL totReply l * 30
  | [], _ => by simp [linesOf]
  | r :: l, w => by
    have ih := lines_len (l := l) (fun y hy => w y (by simp [hy]))
    have h1 := line_size (w r (by simp))
    simp only [linesOf, List.flatMap_cons, List.length_append, ints_len] at ih ⊢
    simp only [totL, List.map_cons, List.sum_cons, List.length_cons] at ih ⊢
    have h2 : totReply r = totCommand r.Command + r.Text.size := rfl
    omega
theorem spec_lines (N : Nat) (hN : Big N) (c : World) : ∀ (tl : List Reply) (i : Int) (acc : List Int), (∀ y ∈ tl, wfReply y) → acc.length + totL totReply tl * 30 ≤ 68719476736 → totL totReply tl ≤ 1048576 → spec_ShowWorld_l1_r N c tl i acc = some (acc ++ linesOf tl)
  | [], i, acc, w, h, ht => by simp [spec_ShowWorld_l1_r, linesOf]
  | r :: tl, i, acc, w, h, ht => by
    have hr := w r (by simp)
    have hs := line_size hr
    have hi := itoa_size (wi hr.1).1 (wi hr.1).2
    have h1 : (⟨#[114, 101, 112, 108, 121, 32]⟩ : ByteArray).size = 6 := rfl
    have h2 : (⟨#[32]⟩ : ByteArray).size = 1 := rfl
    have h3 : (⟨#[10]⟩ : ByteArray).size = 1 := rfl
    have ht2 : totReply r = totCommand r.Command + r.Text.size := rfl
    simp only [totL, List.map_cons, List.sum_cons, List.length_cons] at h ht
    rw [spec_ShowWorld_l1_r]
    simp only [Option.bind_some]
    rw [dec_spec N hN r.Call (wi hr.1).1 (wi hr.1).2, Option.bind_some, scat_ok (by omega), Option.bind_some, scat_ok (by simp only [ByteArray.size_append]; omega), Option.bind_some, scat_ok (by simp only [ByteArray.size_append]; omega), Option.bind_some, scat_ok (by simp only [ByteArray.size_append]; omega), Option.bind_some]
    change (cat? acc (intsOf (lineOf r))).bind _ = _
    rw [cat_ok (by rw [ints_len]; omega), Option.bind_some, spec_lines N hN c tl _ _ (fun y hy => w y (by simp [hy])) (by rw [List.length_append, ints_len]; simp only [totL]; omega) (by simp only [totL]; omega)]
    simp [linesOf]
theorem impl_lines (N : Nat) (hN : Big N) (c : World) : ∀ (tl : List Reply) (i : Int) (acc : List Int), (∀ y ∈ tl, wfReply y) → acc.length + totL totReply tl * 30 ≤ 68719476736 → totL totReply tl ≤ 1048576 → impl_ShowWorld_l1_r N c tl i acc = some (acc ++ linesOf tl)
  | [], i, acc, w, h, ht => by simp [impl_ShowWorld_l1_r, linesOf]
  | r :: tl, i, acc, w, h, ht => by
    have hr := w r (by simp)
    have hs := line_size hr
    have hi := itoa_size (wi hr.1).1 (wi hr.1).2
    have h1 : (⟨#[114, 101, 112, 108, 121, 32]⟩ : ByteArray).size = 6 := rfl
    have h2 : (⟨#[32]⟩ : ByteArray).size = 1 := rfl
    have h3 : (⟨#[10]⟩ : ByteArray).size = 1 := rfl
    have ht2 : totReply r = totCommand r.Command + r.Text.size := rfl
    simp only [totL, List.map_cons, List.sum_cons, List.length_cons] at h ht
    rw [impl_ShowWorld_l1_r]
    simp only [Option.bind_some]
    rw [dec_impl N r.Call (wi hr.1).1 (wi hr.1).2, Option.bind_some, scat_ok (by omega), Option.bind_some, scat_ok (by simp only [ByteArray.size_append]; omega), Option.bind_some, scat_ok (by simp only [ByteArray.size_append]; omega), Option.bind_some, scat_ok (by simp only [ByteArray.size_append]; omega), Option.bind_some]
    change (cat? acc (intsOf (lineOf r))).bind _ = _
    rw [cat_ok (by rw [ints_len]; omega), Option.bind_some, impl_lines N hN c tl _ _ (fun y hy => w y (by simp [hy])) (by rw [List.length_append, ints_len]; simp only [totL]; omega) (by simp only [totL]; omega)]
    simp [linesOf]
/-- What is shown of a world. -/
def shown (x : World) : ByteArray := strOf (linesOf x.Replies) ++ ((⟨#[97, 112, 112, 108, 105, 101, 100, 32]⟩ : ByteArray) ++ ⟨(Lib.itoa x.Applied.length).toArray⟩ ++ ⟨#[32, 108, 101, 97, 100, 101, 114, 115, 32]⟩ ++ ⟨(Lib.itoa x.Leaders.length).toArray⟩ ++ ⟨#[32, 110, 101, 116, 32]⟩ ++ ⟨(Lib.itoa x.Net.length).toArray⟩ ++ ⟨#[10]⟩)
theorem strOf_size (ns : List Int) : (strOf ns).size = ns.length := by rw [strOf_data]; simp [ByteArray.size]
theorem parts_le (x : World) (ht : totWorld x ≤ 1048576) : totL totReply x.Replies ≤ 1048576 ∧ x.Applied.length ≤ 1048576 ∧ x.Leaders.length ≤ 1048576 ∧ x.Net.length ≤ 1048576 ∧ x.Replies.length ≤ 1048576 := by
  unfold totWorld at ht
  simp only [totL] at ht ⊢
  omega
theorem spec_show (N : Nat) (hN : Big N) (x : World) (w : wfWorld x) (ht : totWorld x ≤ 1048576) : spec_ShowWorld N x = some (shown x) := by
  obtain ⟨h1, h2, h3, h4, h5⟩ := parts_le x ht
  have hr : ∀ y ∈ x.Replies, wfReply y := w.2.2.2.2.2.2.2
  unfold spec_ShowWorld
  simp only [joinP]
  rw [spec_ShowWorld_l1_eq x (by omega) (by unfold Big at hN; omega), spec_lines N hN x x.Replies 0 [] hr (by simp only [List.length_nil]; omega) h1, Option.bind_some, List.nil_append]
  have hl := lines_len hr
  have i1 := itoa_size (n := (x.Applied.length : Int)) (by omega) (by omega)
  have i2 := itoa_size (n := (x.Leaders.length : Int)) (by omega) (by omega)
  have i3 := itoa_size (n := (x.Net.length : Int)) (by omega) (by omega)
  have z := strOf_size (linesOf x.Replies)
  have z1 : (⟨#[97, 112, 112, 108, 105, 101, 100, 32]⟩ : ByteArray).size = 8 := rfl
  have z2 : (⟨#[32, 108, 101, 97, 100, 101, 114, 115, 32]⟩ : ByteArray).size = 9 := rfl
  have z3 : (⟨#[32, 110, 101, 116, 32]⟩ : ByteArray).size = 5 := rfl
  have z4 : (⟨#[10]⟩ : ByteArray).size = 1 := rfl
  rw [scat_ok (by omega), Option.bind_some, dec_spec N hN _ (by omega) (by omega), Option.bind_some, scat_ok (by simp only [ByteArray.size_append]; omega), Option.bind_some, scat_ok (by simp only [ByteArray.size_append]; omega), Option.bind_some, dec_spec N hN _ (by omega) (by omega), Option.bind_some, scat_ok (by simp only [ByteArray.size_append]; omega), Option.bind_some, scat_ok (by simp only [ByteArray.size_append]; omega), Option.bind_some, dec_spec N hN _ (by omega) (by omega), Option.bind_some, scat_ok (by simp only [ByteArray.size_append]; omega), Option.bind_some, scat_ok (by simp only [ByteArray.size_append]; omega), Option.bind_some]
  unfold shown
  simp only [ByteArray.append_assoc]
theorem impl_show (N : Nat) (hN : Big N) (x : World) (w : wfWorld x) (ht : totWorld x ≤ 1048576) : impl_ShowWorld N x = some (shown x) := by
  obtain ⟨h1, h2, h3, h4, h5⟩ := parts_le x ht
  have hr : ∀ y ∈ x.Replies, wfReply y := w.2.2.2.2.2.2.2
  unfold impl_ShowWorld
  simp only [joinP]
  rw [impl_ShowWorld_l1_eq x (by omega) (by unfold Big at hN; omega), impl_lines N hN x x.Replies 0 [] hr (by simp only [List.length_nil]; omega) h1, Option.bind_some, List.nil_append]
  have hl := lines_len hr
  have i1 := itoa_size (n := (x.Applied.length : Int)) (by omega) (by omega)
  have i2 := itoa_size (n := (x.Leaders.length : Int)) (by omega) (by omega)
  have i3 := itoa_size (n := (x.Net.length : Int)) (by omega) (by omega)
  have z1 : (⟨#[97, 112, 112, 108, 105, 101, 100, 32]⟩ : ByteArray).size = 8 := rfl
  have z2 : (⟨#[32, 108, 101, 97, 100, 101, 114, 115, 32]⟩ : ByteArray).size = 9 := rfl
  have z3 : (⟨#[32, 110, 101, 116, 32]⟩ : ByteArray).size = 5 := rfl
  have z4 : (⟨#[10]⟩ : ByteArray).size = 1 := rfl
  rw [dec_impl N _ (by omega) (by omega), Option.bind_some, scat_ok (by omega), Option.bind_some, scat_ok (by simp only [ByteArray.size_append]; omega), Option.bind_some, dec_impl N _ (by omega) (by omega), Option.bind_some, scat_ok (by simp only [ByteArray.size_append]; omega), Option.bind_some, scat_ok (by simp only [ByteArray.size_append]; omega), Option.bind_some, dec_impl N _ (by omega) (by omega), Option.bind_some, scat_ok (by simp only [ByteArray.size_append]; omega), Option.bind_some, scat_ok (by simp only [ByteArray.size_append]; omega), Option.bind_some, cat_ok (by rw [ints_len]; simp only [ByteArray.size_append]; omega), Option.bind_some, strOf_cat, strOf_ints]
  rfl
theorem holds (x0 : World) (w0 : wfWorld x0) : ∃ N, laws_FnExactShowWorld N x0 = some true := by
  refine ⟨1099511627777, ?_⟩
  generalize hM : 1099511627777 = M
  have hN : Big M := by unfold Big; omega
  clear hM
  unfold laws_FnExactShowWorld
  rw [sz_World M x0 1048576 (by decide) (by decide) w0 hN, Option.bind_some]
  by_cases h : (totWorld x0 : Int) ≤ 1048576
  · rw [if_pos h, if_neg (by simp; omega)]
    have ht : totWorld x0 ≤ 1048576 := by omega
    simp only [to_World M x0 (by omega) hN, Option.bind_some, spec_show M hN x0 w0 ht, impl_show M hN x0 w0 ht, eq_World M x0 (by omega) hN]
    simp
  · rw [if_neg h, if_pos (by decide)]
end Go.Proofs.YtedoifjaobebeaaGreatDoor.Pe.FnExactShowWorld
