/- The program's EntryAt and the reference's tell the same, for every log and index: the plain law, over what the two compute. No condition. -/
import Derived.Test.YtebbgdjmplceiaaPFnExactEntryAtx
namespace Go.Proofs.Ytebbgdjmplceiaa.PureFnExactEntryAt
open Go Go.RowKit Go.Proofs.Ytebbgdjmplceiaa.PFnExactEntryAt Go.Proofs.YtebbgdjmplceiaaW.PrintWords

theorem w64 {x : Int} (h0 : -9223372036854775808 ≤ x) (h1 : x ≤ 9223372036854775807) : wrap64 x = x := by
  unfold wrap64
  omega

theorem in_spec (a b c : Int) : spec_l01In.f a b c = some (decide (b ≤ a ∧ a ≤ c)) := by
  unfold spec_l01In.f
  by_cases h : a ≥ b
  · rw [if_pos h]; simp [show b ≤ a from h]
  · rw [if_neg h]; simp [show ¬ b ≤ a from h]
theorem in_impl (a b c : Int) : impl_within.f a b c = some (decide (b ≤ a ∧ a ≤ c)) := by
  unfold impl_within.f
  by_cases h : a ≥ b
  · rw [if_pos h]; simp [show b ≤ a from h]
  · rw [if_neg h]; simp [show ¬ b ≤ a from h]

/-- A place of a conf that is right: in 1 .. 4, and above the one ahead. -/
def okAt (xs : List Int) (i : Nat) : Prop := (1 ≤ xs.getD i 0 ∧ xs.getD i 0 ≤ 4) ∧ (0 < i → xs.getD (i - 1) 0 < xs.getD i 0)
instance (xs : List Int) (i : Nat) : Decidable (okAt xs i) := by unfold okAt; infer_instance
/-- All places from i on are right. -/
def okFrom (xs : List Int) (i : Nat) : Prop := ∀ j, i ≤ j → j < xs.length → okAt xs j
noncomputable instance (xs : List Int) (i : Nat) : Decidable (okFrom xs i) := Classical.propDecidable _
theorem okFrom_step {xs : List Int} {i : Nat} (hi : i < xs.length) : okFrom xs i ↔ okAt xs i ∧ okFrom xs (i + 1) := by
  constructor
  · intro h
    exact ⟨h i (Nat.le_refl _) hi, fun j hj hl => h j (by omega) hl⟩
  · rintro ⟨h0, h⟩ j hj hl
    rcases Nat.eq_or_lt_of_le hj with rfl | hj
    · exact h0
    · exact h j hj hl
theorem okFrom_end {xs : List Int} : okFrom xs xs.length := fun j hj hl => by omega
noncomputable def confOk (xs : List Int) : Bool := decide ((1 ≤ xs.length ∧ xs.length ≤ 4) ∧ okFrom xs 0)

theorem rd_nat (xs : List Int) (i : Nat) : rd xs (i : Int) = xs.getD i 0 := by simp [rd]
theorem rd_pred (xs : List Int) (i : Nat) (h : 0 < i) : rd xs ((i : Int) - 1) = xs.getD (i - 1) 0 := by
  have : ((i : Int) - 1).toNat = i - 1 := by omega
  simp [rd, this]

theorem rise_spec (xs : List Int) (hl : xs.length ≤ 1048576) (d : Nat) : ∀ (i k : Nat), i + d = xs.length → d < k → spec_l07Rise.l0 k xs 1 4 (i : Int) = some (decide (okFrom xs i)) := by
  induction d with
  | zero =>
    intro i k hi hk
    obtain ⟨k, rfl⟩ : ∃ m, k = m + 1 := ⟨k - 1, by omega⟩
    obtain rfl : i = xs.length := by omega
    simp only [spec_l07Rise.l0]
    rw [if_neg (by omega)]
    simp [okFrom_end]
  | succ d ih =>
    intro i k hi hk
    obtain ⟨k, rfl⟩ : ∃ m, k = m + 1 := ⟨k - 1, by omega⟩
    have hlt : i < xs.length := by omega
    simp only [spec_l07Rise.l0]
    rw [if_pos (by omega), if_pos (by omega), in_spec]
    simp only [Option.bind_some, rd_nat]
    have hn : wrap64 ((i : Int) + 1) = ((i + 1 : Nat) : Int) := by rw [w64 (by omega) (by omega)]; omega
    by_cases h1 : 1 ≤ xs.getD i 0 ∧ xs.getD i 0 ≤ 4
    · rw [if_pos (by simpa using h1)]
      by_cases h2 : 0 < i
      · rw [if_pos (by omega), w64 (by omega) (by omega), if_pos (by omega), if_pos (by omega), rd_pred xs i h2]
        by_cases h3 : xs.getD (i - 1) 0 ≥ xs.getD i 0
        · rw [if_pos h3]
          have : ¬ okFrom xs i := fun h => by have := (h i (Nat.le_refl _) hlt).2 h2; omega
          simp [this]
        · rw [if_neg h3, hn, ih (i + 1) k (by omega) (by omega)]
          have : okFrom xs i ↔ okFrom xs (i + 1) := by
            rw [okFrom_step hlt]
            exact ⟨fun h => h.2, fun h => ⟨⟨h1, fun _ => by omega⟩, h⟩⟩
          simp [this]
      · rw [if_neg (by omega), hn, ih (i + 1) k (by omega) (by omega)]
        have : okFrom xs i ↔ okFrom xs (i + 1) := by
          rw [okFrom_step hlt]
          exact ⟨fun h => h.2, fun h => ⟨⟨h1, fun h' => absurd h' h2⟩, h⟩⟩
        simp [this]
    · rw [if_neg (by simpa using h1)]
      have : ¬ okFrom xs i := fun h => h1 (h i (Nat.le_refl _) hlt).1
      simp [this]

theorem conf_spec (xs : List Int) (hl : xs.length ≤ 1048576) (k : Nat) (hk : xs.length < k) : spec_ConfOk.f k xs = some (confOk xs) := by
  unfold spec_ConfOk.f
  rw [in_spec]
  simp only [Option.bind_some]
  by_cases h : 1 ≤ (xs.length : Int) ∧ (xs.length : Int) ≤ 4
  · rw [if_pos (by simpa using h)]
    have := rise_spec xs hl xs.length 0 k (by omega) hk
    unfold spec_l07Rise.f
    rw [show (0 : Int) = ((0 : Nat) : Int) from rfl, this]
    have h' : 1 ≤ xs.length ∧ xs.length ≤ 4 := by omega
    simp [confOk, h']
  · rw [if_neg (by simpa using h)]
    have h' : ¬ (1 ≤ xs.length ∧ xs.length ≤ 4) := by omega
    simp [confOk, h']

theorem conf_impl_loop (xs : List Int) (hl : xs.length ≤ 1048576) (d : Nat) : ∀ (i k : Nat), i + d = xs.length → d < k →
    impl_ConfOk.l0 k xs xs (xs.length : Int) (i : Int) = some (decide ((1 ≤ xs.length ∧ xs.length ≤ 4) ∧ okFrom xs i)) := by
  induction d with
  | zero =>
    intro i k hi hk
    obtain ⟨k, rfl⟩ : ∃ m, k = m + 1 := ⟨k - 1, by omega⟩
    obtain rfl : i = xs.length := by omega
    simp only [impl_ConfOk.l0]
    rw [if_neg (by omega), in_impl]
    have e : (1 ≤ (xs.length : Int) ∧ (xs.length : Int) ≤ 4) ↔ (1 ≤ xs.length ∧ xs.length ≤ 4) := by omega
    simp [okFrom_end, e]
  | succ d ih =>
    intro i k hi hk
    obtain ⟨k, rfl⟩ : ∃ m, k = m + 1 := ⟨k - 1, by omega⟩
    have hlt : i < xs.length := by omega
    simp only [impl_ConfOk.l0]
    rw [if_pos (by omega), if_pos (by omega), if_pos (by omega), in_impl]
    simp only [Option.bind_some, rd_nat]
    have hn : wrap64 ((i : Int) + 1) = ((i + 1 : Nat) : Int) := by rw [w64 (by omega) (by omega)]; omega
    by_cases h1 : 1 ≤ xs.getD i 0 ∧ xs.getD i 0 ≤ 4
    · rw [if_pos (by simpa using h1)]
      by_cases h2 : 0 < i
      · rw [if_pos (by omega), w64 (by omega) (by omega), if_pos (by omega), if_pos (by omega), rd_pred xs i h2]
        by_cases h3 : xs.getD (i - 1) 0 ≥ xs.getD i 0
        · rw [if_pos h3]
          have : ¬ okFrom xs i := fun h => by have := (h i (Nat.le_refl _) hlt).2 h2; omega
          simp [this]
        · rw [if_neg h3, hn, ih (i + 1) k (by omega) (by omega)]
          have : okFrom xs i ↔ okFrom xs (i + 1) := by
            rw [okFrom_step hlt]
            exact ⟨fun h => h.2, fun h => ⟨⟨h1, fun _ => by omega⟩, h⟩⟩
          simp [this]
      · rw [if_neg (by omega), hn, ih (i + 1) k (by omega) (by omega)]
        have : okFrom xs i ↔ okFrom xs (i + 1) := by
          rw [okFrom_step hlt]
          exact ⟨fun h => h.2, fun h => ⟨⟨h1, fun h' => absurd h' h2⟩, h⟩⟩
        simp [this]
    · rw [if_neg (by simpa using h1)]
      have : ¬ okFrom xs i := fun h => h1 (h i (Nat.le_refl _) hlt).1
      simp [this]
theorem conf_impl (xs : List Int) (hl : xs.length ≤ 1048576) (k : Nat) (hk : xs.length < k) : impl_ConfOk.f k xs = some (confOk xs) := by
  unfold impl_ConfOk.f
  rw [show (0 : Int) = ((0 : Nat) : Int) from rfl, conf_impl_loop xs hl xs.length 0 k (by omega) hk]
  rfl

/-- The bytes of a text. -/
def bytes (s : ByteArray) (n : Nat) : List Int := (List.range n).map fun i : Nat => bt s (i : Int)
theorem bytes_len (s : ByteArray) (n : Nat) : (bytes s n).length = n := by simp [bytes]
theorem bytes_succ (s : ByteArray) (n : Nat) : bytes s (n + 1) = bytes s n ++ [bt s (n : Int)] := by simp [bytes, List.range_succ]
theorem bt_w (s : ByteArray) (i : Int) : wrap64 (bt s i) = bt s i := by
  have := bt_range s i
  exact w64 (by omega) (by omega)
theorem confOk_long {xs : List Int} (h : 4 < xs.length) : confOk xs = false := by
  have : ¬ (xs.length ≤ 4) := by omega
  simp [confOk, this]
noncomputable def readConf (s : ByteArray) : List Int × Bool := if confOk (bytes s s.size) = true then (bytes s s.size, true) else ([], false)

theorem read_impl_loop (s : ByteArray) (hs : s.size ≤ 1048576) (d : Nat) : ∀ (i k : Nat), i + d = s.size → d + s.size + 1 < k → impl_ReadConf.l0 k s (bytes s i) (i : Int) = some (readConf s) := by
  induction d with
  | zero =>
    intro i k hi hk
    obtain ⟨k, rfl⟩ : ∃ m, k = m + 1 := ⟨k - 1, by omega⟩
    obtain rfl : i = s.size := by omega
    simp only [impl_ReadConf.l0]
    rw [if_neg (by omega), conf_impl _ (by rw [bytes_len]; omega) k (by rw [bytes_len]; omega)]
    simp only [Option.bind_some, readConf]
    split <;> rfl
  | succ d ih =>
    intro i k hi hk
    obtain ⟨k, rfl⟩ : ∃ m, k = m + 1 := ⟨k - 1, by omega⟩
    simp only [impl_ReadConf.l0]
    rw [if_pos (by omega), if_pos (by omega), if_pos (by rw [bytes_len]; omega), bt_w, ← bytes_succ, w64 (by omega) (by omega)]
    exact ih (i + 1) k (by omega) (by omega)
theorem read_impl (s : ByteArray) (hs : s.size ≤ 1048576) (k : Nat) (hk : 2 * s.size + 1 < k) : impl_ReadConf.f k s = some (readConf s) := by
  unfold impl_ReadConf.f
  exact read_impl_loop s hs s.size 0 k (by omega) (by omega)

theorem read_spec_loop (s : ByteArray) (hs : s.size ≤ 1048576) (d : Nat) : ∀ (i k : Nat), i + d = s.size → i ≤ 5 → d + s.size + 1 < k → spec_ReadConf.l0 k s (bytes s i) (i : Int) = some (readConf s) := by
  induction d with
  | zero =>
    intro i k hi h5 hk
    obtain ⟨k, rfl⟩ : ∃ m, k = m + 1 := ⟨k - 1, by omega⟩
    obtain rfl : i = s.size := by omega
    simp only [spec_ReadConf.l0]
    rw [if_neg (by omega), if_pos (by rw [bytes_len]), conf_spec _ (by rw [bytes_len]; omega) k (by rw [bytes_len]; omega)]
    simp only [Option.bind_some, readConf]
    split <;> rfl
  | succ d ih =>
    intro i k hi h5 hk
    obtain ⟨k, rfl⟩ : ∃ m, k = m + 1 := ⟨k - 1, by omega⟩
    simp only [spec_ReadConf.l0]
    rw [if_pos (by omega)]
    by_cases h4 : i ≤ 4
    · rw [if_pos (by omega), if_pos (by omega), if_pos (by rw [bytes_len]; omega), bt_w, ← bytes_succ, w64 (by omega) (by omega)]
      exact ih (i + 1) k (by omega) (by omega) (by omega)
    · rw [if_neg (by omega), if_neg (by rw [bytes_len]; omega)]
      have : confOk (bytes s s.size) = false := confOk_long (by rw [bytes_len]; omega)
      simp [readConf, this]
theorem read_spec (s : ByteArray) (hs : s.size ≤ 1048576) (k : Nat) (hk : 2 * s.size + 1 < k) : spec_ReadConf.f k s = some (readConf s) := by
  unfold spec_ReadConf.f
  exact read_spec_loop s hs s.size 0 k (by omega) (by omega) (by omega)

/-- What the two say of an entry. -/
noncomputable def entryOk (t kd : Int) (s : ByteArray) : Bool :=
  if decide (0 ≤ t ∧ t ≤ 100000) = true then (if kd = 1 then (s.toList == ([] : List UInt8)) else (if kd = 2 then (readConf s).2 else (if kd = 3 then decide ((s.size : Int) ≤ 120) else false))) else false
theorem entry_impl (t kd : Int) (s : ByteArray) (hs : s.size ≤ 1048576) (k : Nat) (hk : 2 * s.size + 1 < k) : impl_EntryOk.f k t kd s = some (entryOk t kd s) := by
  unfold impl_EntryOk.f entryOk
  rw [in_impl, read_impl s hs k hk]
  simp only [Option.bind_some]
  repeat' split
  all_goals rfl
theorem entry_spec (t kd : Int) (s : ByteArray) (hs : s.size ≤ 1048576) (k : Nat) (hk : 2 * s.size + 1 < k) : spec_EntryOk.f k t kd s = some (entryOk t kd s) := by
  unfold spec_EntryOk.f entryOk
  rw [in_spec, read_spec s hs k hk]
  simp only [Option.bind_some]
  repeat' split
  all_goals rfl

/-- The entries of a log from i on, behind a term: what both loops say. -/
noncomputable def restOk : List S48 → Int → Bool
  | [], _ => true
  | e :: es, t => if entryOk e.f0 e.f1 e.f2 = true then (if e.f0 < t then false else restOk es e.f0) else false

theorem rd_drop {xs : List S48} {i : Nat} {e : S48} {es : List S48} (h : xs.drop i = e :: es) : rd_T48 xs (i : Int) = e ∧ i < xs.length ∧ xs.drop (i + 1) = es := by
  have hl : i < xs.length := by
    rcases Nat.lt_or_ge i xs.length with h1 | h1
    · exact h1
    · rw [List.drop_eq_nil_of_le h1] at h; cases h
  rw [List.drop_eq_getElem_cons hl] at h
  injection h with h1 h2
  exact ⟨by simp [rd_T48, List.getD, List.getElem?_eq_getElem hl, h1], hl, h2⟩

theorem log_spec_loop (xs : List S48) (hl : xs.length ≤ 1048576) (hd : ∀ e ∈ xs, e.f2.size ≤ 1048576) (a b : Int) (es : List S48) : ∀ (i k : Nat) (t : Int), xs.drop i = es → es.length + 2097160 < k →
    spec_LogOk.l0 k t (i : Int) a b xs = some (restOk es t) := by
  induction es with
  | nil =>
    intro i k t h hk
    obtain ⟨k, rfl⟩ : ∃ m, k = m + 1 := ⟨k - 1, by omega⟩
    have : xs.length ≤ i := by simpa using h
    simp only [spec_LogOk.l0]
    rw [if_neg (by omega)]
    rfl
  | cons e es ih =>
    intro i k t h hk
    obtain ⟨k, rfl⟩ : ∃ m, k = m + 1 := ⟨k - 1, by omega⟩
    obtain ⟨h1, h2, h3⟩ := rd_drop h
    have he : e ∈ xs := by rw [← List.take_append_drop i xs, h]; simp
    have hs := hd e he
    simp only [List.length_cons] at hk
    simp only [spec_LogOk.l0, h1]
    rw [if_pos (by omega), if_pos (by omega), entry_spec _ _ _ hs k (by omega)]
    simp only [Option.bind_some, restOk]
    split
    · split
      · rfl
      · rw [w64 (by omega) (by omega)]
        exact ih (i + 1) k _ h3 (by omega)
    · rfl
theorem log_impl_loop (xs : List S48) (hl : xs.length ≤ 1048576) (hd : ∀ e ∈ xs, e.f2.size ≤ 1048576) (es : List S48) : ∀ (i k : Nat) (t : Int), xs.drop i = es → es.length + 2097160 < k →
    impl_LogOk.l0 k t xs (xs.length : Int) (i : Int) = some (restOk es t) := by
  induction es with
  | nil =>
    intro i k t h hk
    obtain ⟨k, rfl⟩ : ∃ m, k = m + 1 := ⟨k - 1, by omega⟩
    have : xs.length ≤ i := by simpa using h
    simp only [impl_LogOk.l0]
    rw [if_neg (by omega)]
    rfl
  | cons e es ih =>
    intro i k t h hk
    obtain ⟨k, rfl⟩ : ∃ m, k = m + 1 := ⟨k - 1, by omega⟩
    obtain ⟨h1, h2, h3⟩ := rd_drop h
    have he : e ∈ xs := by rw [← List.take_append_drop i xs, h]; simp
    have hs := hd e he
    simp only [List.length_cons] at hk
    simp only [impl_LogOk.l0, h1]
    rw [if_pos (by omega), if_pos (by omega), if_pos (by omega), entry_impl _ _ _ hs k (by omega)]
    simp only [Option.bind_some, restOk]
    split
    · split
      · rfl
      · rw [w64 (by omega) (by omega)]
        exact ih (i + 1) k _ h3 (by omega)
    · rfl
/-- What the two say of a log. -/
noncomputable def logOk (a b : Int) (xs : List S48) : Bool :=
  if decide (0 ≤ a ∧ a ≤ 100000) = true then (if decide (0 ≤ b ∧ b ≤ 100000) = true then (if (xs.length : Int) > 120 then false else (if a + (xs.length : Int) > 100000 then false else restOk xs b)) else false) else false
theorem log_spec (a b : Int) (xs : List S48) (hl : xs.length ≤ 1048576) (hd : ∀ e ∈ xs, e.f2.size ≤ 1048576) (k : Nat) (hk : xs.length + 2097170 < k) : spec_LogOk.f k a b xs = some (logOk a b xs) := by
  obtain ⟨k, rfl⟩ : ∃ m, k = m + 1 := ⟨k - 1, by omega⟩
  unfold spec_LogOk.f logOk
  rw [in_spec, in_spec]
  simp only [Option.bind_some, spec_LogOk.j0]
  by_cases h1 : decide (0 ≤ a ∧ a ≤ 100000) = true
  · rw [if_pos h1, if_pos h1]
    have h1' := of_decide_eq_true h1
    by_cases h2 : decide (0 ≤ b ∧ b ≤ 100000) = true
    · rw [if_pos h2, if_pos h2]
      split
      · rfl
      · rw [w64 (by omega) (by omega)]
        by_cases h3 : a + (xs.length : Int) > 100000
        · rw [if_pos (by simpa using h3), if_pos h3]
        · rw [if_neg (by simpa using h3), if_neg h3]
          exact log_spec_loop xs hl hd a b xs 0 k b rfl (by omega)
    · rw [if_neg h2, if_neg h2]; rfl
  · rw [if_neg h1, if_neg h1]; rfl
theorem log_impl (a b : Int) (xs : List S48) (hl : xs.length ≤ 1048576) (hd : ∀ e ∈ xs, e.f2.size ≤ 1048576) (k : Nat) (hk : xs.length + 2097170 < k) : impl_LogOk.f k a b xs = some (logOk a b xs) := by
  obtain ⟨k, rfl⟩ : ∃ m, k = m + 1 := ⟨k - 1, by omega⟩
  unfold impl_LogOk.f logOk
  rw [in_impl, in_impl]
  simp only [Option.bind_some, impl_LogOk.j0]
  by_cases h1 : decide (0 ≤ a ∧ a ≤ 100000) = true
  · rw [if_pos h1, if_pos h1]
    have h1' := of_decide_eq_true h1
    by_cases h2 : decide (0 ≤ b ∧ b ≤ 100000) = true
    · rw [if_pos h2, if_pos h2]
      split
      · rfl
      · rw [w64 (by omega) (by omega)]
        by_cases h3 : a + (xs.length : Int) > 100000
        · rw [if_pos (by simpa using h3), if_pos h3]
        · rw [if_neg (by simpa using h3), if_neg h3]
          exact log_impl_loop xs hl hd xs 0 k b rfl (by omega)
    · rw [if_neg h2, if_neg h2]; rfl
  · rw [if_neg h1, if_neg h1]; rfl

theorem logOk_true {a b : Int} {xs : List S48} (h : logOk a b xs = true) : 0 ≤ a ∧ a ≤ 100000 ∧ (xs.length : Int) ≤ 120 := by
  unfold logOk at h
  split at h
  · rename_i h1
    have := of_decide_eq_true h1
    split at h
    · split at h
      · cases h
      · omega
    · cases h
  · cases h

/-- What the two EntryAt answer. -/
noncomputable def entryAt (a b : Int) (xs : List S48) (x : Int) : Int × Int × ByteArray × Bool :=
  if logOk a b xs = true ∧ a < x ∧ x ≤ a + xs.length then ((rd_T48 xs (x - a - 1)).f0, (rd_T48 xs (x - a - 1)).f1, (rd_T48 xs (x - a - 1)).f2, true) else (0, 0, ⟨#[]⟩, false)
theorem at_spec (a b : Int) (xs : List S48) (x : Int) (_hx : -9223372036854775808 ≤ x ∧ x ≤ 9223372036854775807) (hl : xs.length ≤ 1048576) (hd : ∀ e ∈ xs, e.f2.size ≤ 1048576) (k : Nat) (hk : xs.length + 2097170 < k) :
    spec_EntryAt.f k a b xs x = some (entryAt a b xs x) := by
  unfold spec_EntryAt.f entryAt
  rw [log_spec a b xs hl hd k hk]
  simp only [Option.bind_some]
  by_cases h : logOk a b xs = true
  · rw [if_pos h]
    have h' := logOk_true h
    by_cases h1 : x ≤ a
    · rw [if_pos h1, if_neg (by omega)]
    · rw [if_neg h1]
      unfold spec_l12Last.f
      rw [w64 (x := a + (xs.length : Int)) (by omega) (by omega)]
      simp only [Option.bind_some]
      by_cases h2 : x > a + (xs.length : Int)
      · rw [if_pos h2, if_neg (by omega)]
      · rw [if_neg h2, w64 (x := x - a) (by omega) (by omega), w64 (x := x - a - 1) (by omega) (by omega), if_pos (by omega), if_pos (by omega), if_pos ⟨h, by omega, by omega⟩]
  · rw [if_neg h, if_neg (fun h' => h h'.1)]
theorem at_impl (a b : Int) (xs : List S48) (x : Int) (_hx : -9223372036854775808 ≤ x ∧ x ≤ 9223372036854775807) (hl : xs.length ≤ 1048576) (hd : ∀ e ∈ xs, e.f2.size ≤ 1048576) (k : Nat) (hk : xs.length + 2097170 < k) :
    impl_EntryAt.f k a b xs x = some (entryAt a b xs x) := by
  unfold impl_EntryAt.f entryAt
  rw [log_impl a b xs hl hd k hk]
  simp only [Option.bind_some]
  by_cases h : logOk a b xs = true
  · rw [if_pos h]
    have h' := logOk_true h
    unfold impl_hasEntry.f
    by_cases h1 : x > a
    · rw [if_pos h1, in_impl, w64 (x := x - a) (by omega) (by omega)]
      simp only [Option.bind_some]
      by_cases h2 : 1 ≤ x - a ∧ x - a ≤ (xs.length : Int)
      · rw [if_pos (by simpa using h2), w64 (x := x - a - 1) (by omega) (by omega), if_pos (by omega), if_pos (by omega), if_pos ⟨h, by omega, by omega⟩]
      · rw [if_neg (by simpa using h2), if_neg (fun h3 => h2 (by omega))]
    · rw [if_neg h1]
      simp only [Option.bind_some, Bool.false_eq_true, if_false]
      rw [if_neg (fun h3 => h1 (by omega))]
  · rw [if_neg h, if_neg (fun h' => h h'.1)]

/-! The law's own words -/
def conv (x : S71) : S48 := ⟨x.f0, x.f1, x.f2⟩
theorem rd_drop71 {xs : List S71} {i : Nat} {e : S71} {es : List S71} (h : xs.drop i = e :: es) : rd_T71 xs (i : Int) = e ∧ i < xs.length ∧ xs.drop (i + 1) = es := by
  have hl : i < xs.length := by
    rcases Nat.lt_or_ge i xs.length with h1 | h1
    · exact h1
    · rw [List.drop_eq_nil_of_le h1] at h; cases h
  rw [List.drop_eq_getElem_cons hl] at h
  injection h with h1 h2
  exact ⟨by simp [rd_T71, List.getD, List.getElem?_eq_getElem hl, h1], hl, h2⟩
/-- The sizes come to a number, and below 0 where they are too much. -/
theorem sz_loop (xs : List S71) (hl : xs.length ≤ 9223372036854775807) (hd : ∀ e ∈ xs, e.f2.size ≤ 9223372036854775807) (es : List S71) : ∀ (i k : Nat) (t : Int), xs.drop i = es → es.length < k → 0 ≤ t → t ≤ 1048576 →
    ∃ r, laws_szEntryS.l0 k xs t (i : Int) = some r ∧ r ≤ t ∧ (0 ≤ r → ∀ e ∈ es, e.f2.size ≤ 1048576) := by
  induction es with
  | nil =>
    intro i k t h hk h0 h1
    obtain ⟨k, rfl⟩ : ∃ m, k = m + 1 := ⟨k - 1, by omega⟩
    have : xs.length ≤ i := by simpa using h
    simp only [laws_szEntryS.l0]
    rw [if_neg (by omega)]
    exact ⟨t, rfl, by omega, by simp⟩
  | cons e es ih =>
    intro i k t h hk h0 h1
    obtain ⟨k, rfl⟩ : ∃ m, k = m + 1 := ⟨k - 1, by omega⟩
    obtain ⟨e1, e2, e3⟩ := rd_drop71 h
    have he : e ∈ xs := by rw [← List.take_append_drop i xs, h]; simp
    have hs := hd e he
    simp only [List.length_cons] at hk
    simp only [laws_szEntryS.l0, e1]
    rw [if_pos (by omega), if_pos (by omega)]
    unfold laws_szEntry.f
    rw [w64 (x := t - (e.f2.size : Int)) (by omega) (by omega)]
    by_cases hn : t - (e.f2.size : Int) < 0
    · rw [if_pos hn]
      simp only [Option.bind_some]
      exact ⟨-1, by rw [if_pos (by omega)], by omega, fun h => by omega⟩
    · rw [if_neg hn]
      simp only [Option.bind_some]
      rw [if_neg hn, w64 (by omega) (by omega)]
      obtain ⟨r, hr, hle, hall⟩ := ih (i + 1) k (t - (e.f2.size : Int)) e3 (by omega) (by omega) (by omega)
      refine ⟨r, hr, by omega, fun h => ?_⟩
      intro e' he'
      rcases List.mem_cons.1 he' with rfl | he'
      · omega
      · exact hall h e' he'
theorem sz (a b : Int) (xs : List S71) (hl : xs.length ≤ 9223372036854775807) (hd : ∀ e ∈ xs, e.f2.size ≤ 9223372036854775807) (k : Nat) (hk : xs.length < k) :
    ∃ r, laws_szLog.f k a b xs 1048576 = some r ∧ (0 ≤ r → xs.length ≤ 1048576 ∧ ∀ e ∈ xs, e.f2.size ≤ 1048576) := by
  unfold laws_szLog.f laws_szEntryS.f
  rw [w64 (x := 1048576 - (xs.length : Int)) (by omega) (by omega)]
  by_cases hn : 1048576 - (xs.length : Int) < 0
  · rw [if_pos hn]
    exact ⟨-1, by simp, fun h => by omega⟩
  · rw [if_neg hn]
    obtain ⟨r, hr, hle, hall⟩ := sz_loop xs hl hd xs 0 k (1048576 - (xs.length : Int)) rfl hk (by omega) (by omega)
    rw [show (0 : Int) = ((0 : Nat) : Int) from rfl, hr]
    simp only [Option.bind_some]
    by_cases h0 : r < 0
    · exact ⟨-1, by rw [if_pos (by omega)], fun h => by omega⟩
    · exact ⟨r, by rw [if_neg (by omega)], fun _ => ⟨by omega, hall (by omega)⟩⟩

theorem to_loop (xs : List S71) (hl : xs.length ≤ 1048576) (es : List S71) : ∀ (i k : Nat) (ys : List S48), xs.drop i = es → es.length < k → ys.length = xs.length → ys.take i = (xs.take i).map conv →
    laws_toEntryS.l0 k xs ys (i : Int) = some (xs.map conv) := by
  induction es with
  | nil =>
    intro i k ys h hk hy ht
    obtain ⟨k, rfl⟩ : ∃ m, k = m + 1 := ⟨k - 1, by omega⟩
    have hi : xs.length ≤ i := by simpa using h
    simp only [laws_toEntryS.l0]
    rw [if_neg (by omega)]
    rw [List.take_of_length_le (by omega), List.take_of_length_le hi] at ht
    rw [ht]
  | cons e es ih =>
    intro i k ys h hk hy ht
    obtain ⟨k, rfl⟩ : ∃ m, k = m + 1 := ⟨k - 1, by omega⟩
    obtain ⟨e1, e2, e3⟩ := rd_drop71 h
    simp only [List.length_cons] at hk
    simp only [laws_toEntryS.l0, e1]
    rw [if_pos (by omega), if_pos (by omega)]
    unfold laws_toEntry.f
    simp only [Option.bind_some]
    rw [if_pos (by omega), w64 (by omega) (by omega), Int.toNat_natCast]
    refine ih (i + 1) k _ e3 (by omega) (by simpa using hy) ?_
    have hg : xs[i] = e := by
      rw [List.drop_eq_getElem_cons e2] at h
      injection h
    rw [List.take_succ_eq_append_getElem (by simp; omega), List.take_succ_eq_append_getElem e2, List.map_append, List.map_cons, List.map_nil, hg, List.take_set_of_le (Nat.le_refl _), ht]
    congr 1
    simp [conv]
theorem to_ (xs : List S71) (a b : Int) (hl : xs.length ≤ 1048576) (k : Nat) (hk : xs.length < k) : laws_toLog.f k a b xs = some (a, b, xs.map conv) := by
  unfold laws_toLog.f laws_toEntryS.f
  rw [if_pos (by omega), if_pos (by omega)]
  rw [show (0 : Int) = ((0 : Nat) : Int) from rfl, to_loop xs hl xs 0 k _ rfl hk (by simp) (by simp)]
  rfl
theorem eqS_loop (xs : List S48) (hl : xs.length ≤ 1048576) (d : Nat) : ∀ (i k : Nat), i + d = xs.length → d < k → laws_eqEntryS.l0 k xs xs (i : Int) = some true := by
  induction d with
  | zero =>
    intro i k hi hk
    obtain ⟨k, rfl⟩ : ∃ m, k = m + 1 := ⟨k - 1, by omega⟩
    simp only [laws_eqEntryS.l0]
    rw [if_neg (by omega)]
  | succ d ih =>
    intro i k hi hk
    obtain ⟨k, rfl⟩ : ∃ m, k = m + 1 := ⟨k - 1, by omega⟩
    simp only [laws_eqEntryS.l0]
    rw [if_pos (by omega), if_pos (by omega), if_pos (by omega)]
    unfold laws_eqEntry.f
    simp only [if_true, Option.bind_some]
    rw [w64 (by omega) (by omega)]
    exact ih (i + 1) k (by omega) (by omega)
theorem eq_ (a b : Int) (xs : List S48) (hl : xs.length ≤ 1048576) (k : Nat) (hk : xs.length < k) : laws_eqLog.f k a b xs a b xs = some true := by
  unfold laws_eqLog.f laws_eqEntryS.f
  simp only [if_true]
  rw [show (0 : Int) = ((0 : Nat) : Int) from rfl, eqS_loop xs hl xs.length 0 k (by omega) hk]
  rfl

theorem holds_at (a b : Int) (xs : List S71) (x : Int) (hx : -9223372036854775808 ≤ x ∧ x ≤ 9223372036854775807) (hl : xs.length ≤ 9223372036854775807) (hd : ∀ e ∈ xs, e.f2.size ≤ 9223372036854775807) :
    ∃ k, laws_FnExactEntryAt.f k a b xs x = some true := by
  obtain ⟨K, hK⟩ : ∃ K : Nat, xs.length + 2097180 < K := ⟨xs.length + 2097181, by omega⟩
  refine ⟨K + 1, ?_⟩
  unfold laws_FnExactEntryAt.f
  obtain ⟨r, hr, h⟩ := sz a b xs hl hd (K + 1) (by omega)
  rw [hr]
  simp only [Option.bind_some]
  by_cases h0 : r < 0
  · rw [if_pos h0]
  · rw [if_neg h0]
    obtain ⟨h1, h2⟩ := h (by omega)
    have h3 : (xs.map conv).length = xs.length := List.length_map _
    have h4 : ∀ e ∈ xs.map conv, e.f2.size ≤ 1048576 := by
      intro e he
      obtain ⟨y, hy, rfl⟩ := List.mem_map.1 he
      exact h2 y hy
    rw [to_ xs a b h1 _ (by omega)]
    simp only [Option.bind_some]
    rw [at_spec a b _ x hx (by omega) h4 _ (by omega), at_impl a b _ x hx (by omega) h4 _ (by omega)]
    simp only [Option.bind_some, laws_eqEntry.f, if_true]
    simp only [bne_self_eq_false, laws_FnExactEntryAt.j0, Bool.false_eq_true, if_false]
    rw [to_ xs a b h1 _ (by omega)]
    simp only [Option.bind_some]
    rw [eq_ a b _ (by omega) _ (by omega)]
    rfl
theorem int_of {n : Int} (h : (Lit.int .i64 n).wf = true) : -9223372036854775808 ≤ n ∧ n ≤ 9223372036854775807 := by
  simp only [Lit.wf, IntKind.min, IntKind.max, IntKind.signed, IntKind.bits, Bool.and_eq_true, decide_eq_true_eq, if_true] at h
  omega
theorem holds (a b : Int) (xs : List S71) (x : Int)
    (h : (Lit.int .i64 a).wf = true ∧ (Lit.int .i64 b).wf = true ∧ (xs.length ≤ maxLen ∧ ∀ x ∈ xs, ((Lit.int .i64 x.f0).wf = true ∧ (Lit.int .i64 x.f1).wf = true ∧ x.f2.size ≤ maxLen))) (hx : (Lit.int .i64 x).wf = true) :
    ∃ k, laws_FnExactEntryAt.f k a b xs x = some true :=
  holds_at a b xs x (int_of hx) (by have := h.2.2.1; simp only [maxLen] at this; omega) (fun e he => by have := (h.2.2.2 e he).2.2; simp only [maxLen] at this; omega)
end Go.Proofs.Ytebbgdjmplceiaa.PureFnExactEntryAt
