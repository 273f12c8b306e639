/- Functions, as pure functions; and that Go does just that. -/
import Derived.Test.YtebbgdjmplceiaaPeTy
import Derived.Test.YtebbgdjmplceiaaPeSFnExactOneLeader
namespace Go.Proofs.Ytebbgdjmplceiaa.Pe.FnExactOneLeader
open Go Go.RowKit
set_option linter.unusedVariables false
set_option linter.unusedSimpArgs false
set_option maxHeartbeats 40000000
theorem hmix : Try.prog.follows .mixedOrders = true := by kernel_rfl
structure Entry where
  Term : Int
  Kind : Int
  Data : ByteArray
abbrev encEntry (x : Entry) : List C := [.i .i64 x.Term, .i .i64 x.Kind, .s x.Data]
structure Log where
  Start : Int
  StartTerm : Int
  Entries : (List Entry)
abbrev encLogL (o : Bool) (x : Log) : List C := [.i .i64 x.Start, .i .i64 x.StartTerm, .row o 71 (x.Entries.map encEntry)]
theorem ro_encLogL (x : Log) : roCs (encLogL true x) = encLogL false x := by simp only [encLogL, roCs, roC, roRows_mapf (fun _ => rfl)]
theorem own_encLogL (x : Log) : ownCs (encLogL true x) = true := by simp only [encLogL, ownCs, ownC, Bool.and_self, Bool.and_true, Bool.true_and, own_rows (f := encEntry) (fun _ => rfl)]
structure Leader where
  Node : Int
  Term : Int
  Log : Log
abbrev encLeaderL (o : Bool) (x : Leader) : List C := [.i .i64 x.Node, .i .i64 x.Term, .i .i64 x.Log.Start, .i .i64 x.Log.StartTerm, .row o 71 (x.Log.Entries.map encEntry)]
theorem ro_encLeaderL (x : Leader) : roCs (encLeaderL true x) = encLeaderL false x := by simp only [encLeaderL, roCs, roC, roRows_mapf (fun _ => rfl)]
theorem own_encLeaderL (x : Leader) : ownCs (encLeaderL true x) = true := by simp only [encLeaderL, ownCs, ownC, Bool.and_self, Bool.and_true, Bool.true_and, own_rows (f := encEntry) (fun _ => rfl)]
abbrev encLog (o : Bool) (x : Log) : List C := [.i .i64 x.Start, .i .i64 x.StartTerm, .row o 48 (x.Entries.map encEntry)]
theorem ro_encLog (x : Log) : roCs (encLog true x) = encLog false x := by simp only [encLog, roCs, roC, roRows_mapf (fun _ => rfl)]
theorem own_encLog (x : Log) : ownCs (encLog true x) = true := by simp only [encLog, ownCs, ownC, Bool.and_self, Bool.and_true, Bool.true_and, own_rows (f := encEntry) (fun _ => rfl)]
abbrev encLeader (o : Bool) (x : Leader) : List C := [.i .i64 x.Node, .i .i64 x.Term, .i .i64 x.Log.Start, .i .i64 x.Log.StartTerm, .row o 48 (x.Log.Entries.map encEntry)]
theorem ro_encLeader (x : Leader) : roCs (encLeader true x) = encLeader false x := by simp only [encLeader, roCs, roC, roRows_mapf (fun _ => rfl)]
theorem own_encLeader (x : Leader) : ownCs (encLeader true x) = true := by simp only [encLeader, ownCs, ownC, Bool.and_self, Bool.and_true, Bool.true_and, own_rows (f := encEntry) (fun _ => rfl)]
theorem bt48 : bytesOf Try.prog 48 ≤ 2048 := of_decide_eq_true (by kernel_rfl)
theorem bt129 : bytesOf Try.prog 129 ≤ 2048 := of_decide_eq_true (by kernel_rfl)
def laws_szEntry (N : Nat) (x_1 : Entry) (x_2 : Int) : Option (Int) :=
 (if (decide ((w64 (x_2 - (x_1.Data.size : Int))) < (0 : Int))) = true then
 some (-1 : Int)
 else
 some (w64 (x_2 - (x_1.Data.size : Int))))
theorem sem_laws_szEntry (N : Nat) (x_1 : Entry) (x_2 : Int) (r : Int) (h : laws_szEntry N x_1 x_2 = some r) : Says Try.prog 102 [.agg [VI x_1.Term, VI x_1.Kind, VS x_1.Data], VI x_2] 0 [] (VI r) [] := by
  unfold laws_szEntry at h
  refine Says.of_run s102 Try.call102 rfl fun B hB => ?_
  have hm : B.m ≤ 1000 := by omega
  refine Run.seq ?_
  refine Run.ops hm ?_
  refine Ops.st (s := 1000) (.bx rfl rfl) rfl rfl ?_
  refine Ops.p rfl ?_
  refine Ops.nil ?_
  refine Run.seq ?_
  refine Run.ops hm ?_
  refine Ops.p rfl ?_
  refine Ops.p rfl ?_
  refine Ops.p rfl ?_
  refine Ops.p rfl ?_
  refine Ops.p rfl ?_
  refine Ops.p rfl ?_
  refine Ops.nil ?_
  refine Run.seq ?_
  refine Run.seq ?_
  refine Run.ops hm ?_
  refine Ops.p rfl ?_
  refine Ops.p rfl ?_
  refine Ops.nil ?_
  refine Run.condO rfl h (fun g_103 h => ?_) (fun g_103 h => ?_)
  · skip
    refine Run.seq ?_
    refine Run.ops hm ?_
    refine Ops.p rfl ?_
    refine Ops.nil ?_
    refine Run.ret ?_
    obtain rfl := someO h
    exact Ends.mk (.inl rfl) hB rfl rfl rfl rfl
  · skip
    refine Run.skip ?_
    refine Run.seq ?_
    refine Run.ops hm ?_
    refine Ops.p rfl ?_
    refine Ops.p rfl ?_
    refine Ops.nil ?_
    refine Run.ret ?_
    obtain rfl := someO h
    exact Ends.mk (.inl rfl) hB rfl rfl rfl rfl
def laws_szEntryS_l1 (N : Nat) (x_1 : (List Entry)) : Nat → Int → Int → Option ((Int) ⊕ (Int))
 | 0, _, _ => none
 | m + 1, x_197, x_198 =>
 (if (decide (x_198 < (x_1.length : Int))) = true then
 (at? x_1 x_198).bind fun x_223 =>
 (laws_szEntry N x_223 x_197).bind fun y_224 =>
 (if (decide (y_224 < (0 : Int))) = true then
 some (Sum.inl (-1 : Int))
 else
 laws_szEntryS_l1 N x_1 m y_224 (w64 (x_198 + (1 : Int))))
 else
 some (Sum.inr x_197))
def laws_szEntryS_l1_r (N : Nat) (x_1 : (List Entry)) : (List Entry) → Int → Int → Option ((Int) ⊕ (Int))
 | [], x_197, x_198 =>
 some (Sum.inr x_197)
 | hd :: tl, x_197, x_198 =>
 (some hd).bind fun x_223 =>
 (laws_szEntry N x_223 x_197).bind fun y_224 =>
 (if (decide (y_224 < (0 : Int))) = true then
 some (Sum.inl (-1 : Int))
 else
 laws_szEntryS_l1_r N x_1 tl y_224 (w64 (x_198 + (1 : Int))))
theorem laws_szEntryS_l1_rng (N : Nat) (x_1 : (List Entry)) (hx : x_1.length ≤ 1099511627776) : ∀ (d k m : Nat) (x_197 : Int), x_1.length = k + d → d < m → laws_szEntryS_l1 N x_1 m x_197 (k : Int) = laws_szEntryS_l1_r N x_1 (x_1.drop k) x_197 (k : Int) := by
  intro d
  induction d with
  | zero =>
    intro k m x_197 hd hm
    obtain ⟨m, rfl⟩ : ∃ q, m = q + 1 := ⟨m - 1, by omega⟩
    rw [laws_szEntryS_l1, if_neg (by simp; omega), List.drop_eq_nil_of_le (by omega), laws_szEntryS_l1_r]
  | succ d ih =>
    intro k m x_197 hd hm
    obtain ⟨m, rfl⟩ : ∃ q, m = q + 1 := ⟨m - 1, by omega⟩
    have hk : k < x_1.length := by omega
    rw [laws_szEntryS_l1, if_pos (by simp; omega), List.drop_eq_getElem_cons hk, laws_szEntryS_l1_r]
    have h1 := at_lt hk
    have h2 := w64_succ (k := k) (by omega)
    have h3 := ih (k + 1) m
    simp only [h1, h2, h3 _ (by omega) (by omega)]
theorem laws_szEntryS_l1_eq {N : Nat} (x_1 : (List Entry)) (hx : x_1.length ≤ 1099511627776) (hN : x_1.length < N) (x_197 : Int) : laws_szEntryS_l1 N x_1 N x_197 0 = laws_szEntryS_l1_r N x_1 x_1 x_197 0 := laws_szEntryS_l1_rng N x_1 hx x_1.length 0 N x_197 (by omega) hN
def laws_szEntryS (N : Nat) (x_1 : (List Entry)) (x_2 : Int) : Option (Int) :=
 (if (decide ((w64 (x_2 - (x_1.length : Int))) < (0 : Int))) = true then
 some (-1 : Int)
 else
 joinP (fun (v_195 : Int) =>
 some v_195) fun j_195 =>
 (laws_szEntryS_l1 N x_1 N (w64 (x_2 - (x_1.length : Int))) (0 : Int)).bind (Sum.elim (fun v_211 => some v_211) (fun (v_212 : Int) => j_195 v_212)))
theorem sem_laws_szEntryS (N : Nat) (x_1 : (List Entry)) (x_2 : Int) (r : Int) (h : laws_szEntryS N x_1 x_2 = some r) : Says Try.prog 85 [RO 71 (x_1.map encEntry), VI x_2] 0 [] (VI r) [] := by
  unfold laws_szEntryS at h
  refine Says.of_run s85 Try.call85 rfl fun B hB => ?_
  have hm : B.m ≤ 1000 := by omega
  refine Run.seq ?_
  refine Run.ops hm ?_
  refine Ops.p rfl ?_
  refine Ops.nil ?_
  refine Run.seq ?_
  refine Run.ops hm ?_
  refine Ops.p rfl ?_
  refine Ops.p rfl ?_
  refine Ops.st (s := 5128) (Ev.lnF rfl) rfl rfl ?_
  refine Ops.p rfl ?_
  refine Ops.p rfl ?_
  refine Ops.nil ?_
  refine Run.seq ?_
  refine Run.seq ?_
  refine Run.ops hm ?_
  refine Ops.p rfl ?_
  refine Ops.p rfl ?_
  refine Ops.nil ?_
  refine Run.condO rfl h (fun g_164 h => ?_) (fun g_164 h => ?_)
  · skip
    refine Run.seq ?_
    refine Run.ops hm ?_
    refine Ops.p rfl ?_
    refine Ops.nil ?_
    refine Run.ret ?_
    obtain rfl := someO h
    exact Ends.mk (.inl rfl) hB rfl rfl rfl rfl
  · skip
    refine Run.skip ?_
    refine Run.seqO h (fun (v_195 : Int) => [(1, VI v_195)]) (fun (v_195 : Int) => []) (fun h => ?_) (fun v_195 h => ?_)
    · skip
      refine Run.seq ?_
      refine Run.ops hm ?_
      refine Ops.p rfl ?_
      refine Ops.nil ?_
      refine Run.block ?_
      obtain ⟨res_212, h, hk_212⟩ := bindO h
      refine Run.loop (n := N) (fun m_212 fr σ => ∃ (x_197 : Int), ∃ (x_198 : Int), laws_szEntryS_l1 N x_1 m_212 x_197 x_198 = some res_212 ∧ fr = [(0, RO 71 (x_1.map encEntry)), (1, VI x_197), (5, VI x_198)] ∧ σ = []) (gh_canonE (ts := [0, 1, 5]) hB rfl rfl rfl) ⟨_, _, h, rfl, rfl⟩ ?_
      rintro m_212 fr σ ⟨x_197, x_198, h, rfl, rfl⟩
      obtain _ | m_212 := m_212
      · rw [laws_szEntryS_l1] at h; cases h
      rw [laws_szEntryS_l1] at h
      refine Run.seq ?_
      refine Run.seq ?_
      refine Run.ops hm ?_
      refine Ops.p rfl ?_
      refine Ops.p rfl ?_
      refine Ops.st (s := 21512) (Ev.lnF rfl) rfl rfl ?_
      refine Ops.p rfl ?_
      refine Ops.nil ?_
      refine Run.condO rfl h (fun g_215 h => ?_) (fun g_215 h => ?_)
      · skip
        refine Run.skip ?_
        refine Run.seq ?_
        refine Run.block ?_
        refine Run.seq ?_
        refine Run.ops hm ?_
        refine Ops.p rfl ?_
        refine Ops.p rfl ?_
        obtain ⟨x_223, hx_223, h⟩ := bindO h
        refine Ops.st (s := 29704) (Ev.iaF rfl rfl hx_223) rfl rfl ?_
        refine Ops.p rfl ?_
        refine Ops.p rfl ?_
        obtain ⟨y_224, hy_224, h⟩ := bindO h
        refine Ops.st (s := 29752) (Ev.call [] [] 0 (sem_laws_szEntry N x_223 x_197 _ hy_224) rfl rfl (.cons (.agg (.cons (.c _) (.cons (.c _) (.cons (.c _) .nil)))) (.cons (.c _) .nil)) rfl (.inl rfl) rfl rfl) rfl rfl ?_
        refine Ops.p rfl ?_
        refine Ops.nil ?_
        refine Run.seq ?_
        refine Run.ops hm ?_
        refine Ops.p rfl ?_
        refine Ops.p rfl ?_
        refine Ops.nil ?_
        refine Run.condO rfl h (fun g_225 h => ?_) (fun g_225 h => ?_)
        · skip
          refine Run.seq ?_
          refine Run.ops hm ?_
          refine Ops.p rfl ?_
          refine Ops.nil ?_
          refine Run.ret ?_
          obtain rfl := someO h
          have h := hk_212
          replace h := inlO h
          obtain rfl := someO h
          exact Ends.mk (.inl rfl) hB rfl rfl rfl rfl
        · skip
          refine Run.skip ?_
          refine Run.ops hm ?_
          refine Ops.p rfl ?_
          refine Ops.p rfl ?_
          refine Ops.p rfl ?_
          refine Ops.nil ?_
          exact ⟨m_212, Nat.lt_succ_self m_212, _, _, gh_canonE (ts := [0, 1, 5]) hB rfl rfl rfl, _, _, h, rfl, rfl⟩
      · skip
        refine Run.exit ?_
        obtain rfl := someO h
        have h := hk_212
        replace h := inrO h
        exact ⟨_, _, gh_canonE (ts := [1]) hB rfl rfl rfl, x_197, h, rfl, rfl⟩
    · skip
      refine Run.seq ?_
      refine Run.ops hm ?_
      refine Ops.p rfl ?_
      refine Ops.p rfl ?_
      refine Ops.nil ?_
      refine Run.ret ?_
      obtain rfl := someO h
      exact Ends.mk (.inl rfl) hB rfl rfl rfl rfl
def laws_szLog (N : Nat) (x_1 : Log) (x_2 : Int) : Option (Int) :=
 (laws_szEntryS N x_1.Entries x_2).bind fun y_105 =>
 (if (decide (y_105 < (0 : Int))) = true then
 some (-1 : Int)
 else
 some y_105)
theorem sem_laws_szLog (N : Nat) (x_1 : Log) (x_2 : Int) (r : Int) (h : laws_szLog N x_1 x_2 = some r) : Says Try.prog 30 [.agg [VI x_1.Start, VI x_1.StartTerm, RO 71 (x_1.Entries.map encEntry)], VI x_2] 0 [] (VI r) [] := by
  unfold laws_szLog at h
  refine Says.of_run s30 Try.call30 rfl fun B hB => ?_
  have hm : B.m ≤ 1000 := by omega
  refine Run.seq ?_
  refine Run.ops hm ?_
  refine Ops.st (s := 1000) (.bx rfl rfl) rfl rfl ?_
  refine Ops.p rfl ?_
  refine Ops.nil ?_
  refine Run.seq ?_
  refine Run.ops hm ?_
  refine Ops.p rfl ?_
  refine Ops.p rfl ?_
  refine Ops.p rfl ?_
  obtain ⟨y_105, hy_105, h⟩ := bindO h
  refine Ops.st (s := 5144) (Ev.call [] [] 0 (sem_laws_szEntryS N x_1.Entries x_2 _ hy_105) rfl rfl (.cons (.c _) (.cons (.c _) .nil)) rfl (.inl rfl) rfl rfl) rfl rfl ?_
  refine Ops.p rfl ?_
  refine Ops.nil ?_
  refine Run.seq ?_
  refine Run.seq ?_
  refine Run.ops hm ?_
  refine Ops.p rfl ?_
  refine Ops.p rfl ?_
  refine Ops.nil ?_
  refine Run.condO rfl h (fun g_107 h => ?_) (fun g_107 h => ?_)
  · skip
    refine Run.seq ?_
    refine Run.ops hm ?_
    refine Ops.p rfl ?_
    refine Ops.nil ?_
    refine Run.ret ?_
    obtain rfl := someO h
    exact Ends.mk (.inl rfl) hB rfl rfl rfl rfl
  · skip
    refine Run.skip ?_
    refine Run.seq ?_
    refine Run.ops hm ?_
    refine Ops.p rfl ?_
    refine Ops.p rfl ?_
    refine Ops.nil ?_
    refine Run.ret ?_
    obtain rfl := someO h
    exact Ends.mk (.inl rfl) hB rfl rfl rfl rfl
def laws_szLeader (N : Nat) (x_1 : Leader) (x_2 : Int) : Option (Int) :=
 (laws_szLog N x_1.Log x_2).bind fun y_105 =>
 (if (decide (y_105 < (0 : Int))) = true then
 some (-1 : Int)
 else
 some y_105)
theorem sem_laws_szLeader (N : Nat) (x_1 : Leader) (x_2 : Int) (r : Int) (h : laws_szLeader N x_1 x_2 = some r) : Says Try.prog 80 [.agg [VI x_1.Node, VI x_1.Term, VI x_1.Log.Start, VI x_1.Log.StartTerm, RO 71 (x_1.Log.Entries.map encEntry)], VI x_2] 0 [] (VI r) [] := by
  unfold laws_szLeader at h
  refine Says.of_run s80 Try.call80 rfl fun B hB => ?_
  have hm : B.m ≤ 1000 := by omega
  refine Run.seq ?_
  refine Run.ops hm ?_
  refine Ops.st (s := 1000) (.bx rfl rfl) rfl rfl ?_
  refine Ops.p rfl ?_
  refine Ops.nil ?_
  refine Run.seq ?_
  refine Run.ops hm ?_
  refine Ops.p rfl ?_
  refine Ops.p rfl ?_
  refine Ops.p rfl ?_
  obtain ⟨y_105, hy_105, h⟩ := bindO h
  refine Ops.st (s := 5144) (Ev.call [] [] 0 (sem_laws_szLog N x_1.Log x_2 _ hy_105) rfl rfl (.cons (.agg (.cons (.c _) (.cons (.c _) (.cons (.c _) .nil)))) (.cons (.c _) .nil)) rfl (.inl rfl) rfl rfl) rfl rfl ?_
  refine Ops.p rfl ?_
  refine Ops.nil ?_
  refine Run.seq ?_
  refine Run.seq ?_
  refine Run.ops hm ?_
  refine Ops.p rfl ?_
  refine Ops.p rfl ?_
  refine Ops.nil ?_
  refine Run.condO rfl h (fun g_107 h => ?_) (fun g_107 h => ?_)
  · skip
    refine Run.seq ?_
    refine Run.ops hm ?_
    refine Ops.p rfl ?_
    refine Ops.nil ?_
    refine Run.ret ?_
    obtain rfl := someO h
    exact Ends.mk (.inl rfl) hB rfl rfl rfl rfl
  · skip
    refine Run.skip ?_
    refine Run.seq ?_
    refine Run.ops hm ?_
    refine Ops.p rfl ?_
    refine Ops.p rfl ?_
    refine Ops.nil ?_
    refine Run.ret ?_
    obtain rfl := someO h
    exact Ends.mk (.inl rfl) hB rfl rfl rfl rfl
def laws_szLeaderS_l1 (N : Nat) (x_1 : (List Leader)) : Nat → Int → Int → Option ((Int) ⊕ (Int))
 | 0, _, _ => none
 | m + 1, x_197, x_198 =>
 (if (decide (x_198 < (x_1.length : Int))) = true then
 (at? x_1 x_198).bind fun x_223 =>
 (laws_szLeader N x_223 x_197).bind fun y_224 =>
 (if (decide (y_224 < (0 : Int))) = true then
 some (Sum.inl (-1 : Int))
 else
 laws_szLeaderS_l1 N x_1 m y_224 (w64 (x_198 + (1 : Int))))
 else
 some (Sum.inr x_197))
def laws_szLeaderS_l1_r (N : Nat) (x_1 : (List Leader)) : (List Leader) → Int → Int → Option ((Int) ⊕ (Int))
 | [], x_197, x_198 =>
 some (Sum.inr x_197)
 | hd :: tl, x_197, x_198 =>
 (some hd).bind fun x_223 =>
 (laws_szLeader N x_223 x_197).bind fun y_224 =>
 (if (decide (y_224 < (0 : Int))) = true then
 some (Sum.inl (-1 : Int))
 else
 laws_szLeaderS_l1_r N x_1 tl y_224 (w64 (x_198 + (1 : Int))))
theorem laws_szLeaderS_l1_rng (N : Nat) (x_1 : (List Leader)) (hx : x_1.length ≤ 1099511627776) : ∀ (d k m : Nat) (x_197 : Int), x_1.length = k + d → d < m → laws_szLeaderS_l1 N x_1 m x_197 (k : Int) = laws_szLeaderS_l1_r N x_1 (x_1.drop k) x_197 (k : Int) := by
  intro d
  induction d with
  | zero =>
    intro k m x_197 hd hm
    obtain ⟨m, rfl⟩ : ∃ q, m = q + 1 := ⟨m - 1, by omega⟩
    rw [laws_szLeaderS_l1, if_neg (by simp; omega), List.drop_eq_nil_of_le (by omega), laws_szLeaderS_l1_r]
  | succ d ih =>
    intro k m x_197 hd hm
    obtain ⟨m, rfl⟩ : ∃ q, m = q + 1 := ⟨m - 1, by omega⟩
    have hk : k < x_1.length := by omega
    rw [laws_szLeaderS_l1, if_pos (by simp; omega), List.drop_eq_getElem_cons hk, laws_szLeaderS_l1_r]
    have h1 := at_lt hk
    have h2 := w64_succ (k := k) (by omega)
    have h3 := ih (k + 1) m
    simp only [h1, h2, h3 _ (by omega) (by omega)]
theorem laws_szLeaderS_l1_eq {N : Nat} (x_1 : (List Leader)) (hx : x_1.length ≤ 1099511627776) (hN : x_1.length < N) (x_197 : Int) : laws_szLeaderS_l1 N x_1 N x_197 0 = laws_szLeaderS_l1_r N x_1 x_1 x_197 0 := laws_szLeaderS_l1_rng N x_1 hx x_1.length 0 N x_197 (by omega) hN
def laws_szLeaderS (N : Nat) (x_1 : (List Leader)) (x_2 : Int) : Option (Int) :=
 (if (decide ((w64 (x_2 - (x_1.length : Int))) < (0 : Int))) = true then
 some (-1 : Int)
 else
 joinP (fun (v_195 : Int) =>
 some v_195) fun j_195 =>
 (laws_szLeaderS_l1 N x_1 N (w64 (x_2 - (x_1.length : Int))) (0 : Int)).bind (Sum.elim (fun v_211 => some v_211) (fun (v_212 : Int) => j_195 v_212)))
theorem sem_laws_szLeaderS (N : Nat) (x_1 : (List Leader)) (x_2 : Int) (r : Int) (h : laws_szLeaderS N x_1 x_2 = some r) : Says Try.prog 25 [RO 127 (x_1.map (encLeaderL false)), VI x_2] 0 [] (VI r) [] := by
  unfold laws_szLeaderS at h
  refine Says.of_run s25 Try.call25 rfl fun B hB => ?_
  have hm : B.m ≤ 1000 := by omega
  refine Run.seq ?_
  refine Run.ops hm ?_
  refine Ops.p rfl ?_
  refine Ops.nil ?_
  refine Run.seq ?_
  refine Run.ops hm ?_
  refine Ops.p rfl ?_
  refine Ops.p rfl ?_
  refine Ops.st (s := 5128) (Ev.lnF rfl) rfl rfl ?_
  refine Ops.p rfl ?_
  refine Ops.p rfl ?_
  refine Ops.nil ?_
  refine Run.seq ?_
  refine Run.seq ?_
  refine Run.ops hm ?_
  refine Ops.p rfl ?_
  refine Ops.p rfl ?_
  refine Ops.nil ?_
  refine Run.condO rfl h (fun g_164 h => ?_) (fun g_164 h => ?_)
  · skip
    refine Run.seq ?_
    refine Run.ops hm ?_
    refine Ops.p rfl ?_
    refine Ops.nil ?_
    refine Run.ret ?_
    obtain rfl := someO h
    exact Ends.mk (.inl rfl) hB rfl rfl rfl rfl
  · skip
    refine Run.skip ?_
    refine Run.seqO h (fun (v_195 : Int) => [(1, VI v_195)]) (fun (v_195 : Int) => []) (fun h => ?_) (fun v_195 h => ?_)
    · skip
      refine Run.seq ?_
      refine Run.ops hm ?_
      refine Ops.p rfl ?_
      refine Ops.nil ?_
      refine Run.block ?_
      obtain ⟨res_212, h, hk_212⟩ := bindO h
      refine Run.loop (n := N) (fun m_212 fr σ => ∃ (x_197 : Int), ∃ (x_198 : Int), laws_szLeaderS_l1 N x_1 m_212 x_197 x_198 = some res_212 ∧ fr = [(0, RO 127 (x_1.map (encLeaderL false))), (1, VI x_197), (5, VI x_198)] ∧ σ = []) (gh_canonE (ts := [0, 1, 5]) hB rfl rfl rfl) ⟨_, _, h, rfl, rfl⟩ ?_
      rintro m_212 fr σ ⟨x_197, x_198, h, rfl, rfl⟩
      obtain _ | m_212 := m_212
      · rw [laws_szLeaderS_l1] at h; cases h
      rw [laws_szLeaderS_l1] at h
      refine Run.seq ?_
      refine Run.seq ?_
      refine Run.ops hm ?_
      refine Ops.p rfl ?_
      refine Ops.p rfl ?_
      refine Ops.st (s := 21512) (Ev.lnF rfl) rfl rfl ?_
      refine Ops.p rfl ?_
      refine Ops.nil ?_
      refine Run.condO rfl h (fun g_215 h => ?_) (fun g_215 h => ?_)
      · skip
        refine Run.skip ?_
        refine Run.seq ?_
        refine Run.block ?_
        refine Run.seq ?_
        refine Run.ops hm ?_
        refine Ops.p rfl ?_
        refine Ops.p rfl ?_
        obtain ⟨x_223, hx_223, h⟩ := bindO h
        refine Ops.st (s := 29704) (Ev.iaF rfl rfl hx_223) rfl rfl ?_
        refine Ops.p rfl ?_
        refine Ops.p rfl ?_
        obtain ⟨y_224, hy_224, h⟩ := bindO h
        refine Ops.st (s := 29752) (Ev.call [] [] 0 (sem_laws_szLeader N x_223 x_197 _ hy_224) rfl rfl (.cons (.agg (.cons (.c _) (.cons (.c _) (.cons (.c _) (.cons (.c _) (.cons (.c _) .nil)))))) (.cons (.c _) .nil)) rfl (.inl rfl) rfl rfl) rfl rfl ?_
        refine Ops.p rfl ?_
        refine Ops.nil ?_
        refine Run.seq ?_
        refine Run.ops hm ?_
        refine Ops.p rfl ?_
        refine Ops.p rfl ?_
        refine Ops.nil ?_
        refine Run.condO rfl h (fun g_225 h => ?_) (fun g_225 h => ?_)
        · skip
          refine Run.seq ?_
          refine Run.ops hm ?_
          refine Ops.p rfl ?_
          refine Ops.nil ?_
          refine Run.ret ?_
          obtain rfl := someO h
          have h := hk_212
          replace h := inlO h
          obtain rfl := someO h
          exact Ends.mk (.inl rfl) hB rfl rfl rfl rfl
        · skip
          refine Run.skip ?_
          refine Run.ops hm ?_
          refine Ops.p rfl ?_
          refine Ops.p rfl ?_
          refine Ops.p rfl ?_
          refine Ops.nil ?_
          exact ⟨m_212, Nat.lt_succ_self m_212, _, _, gh_canonE (ts := [0, 1, 5]) hB rfl rfl rfl, _, _, h, rfl, rfl⟩
      · skip
        refine Run.exit ?_
        obtain rfl := someO h
        have h := hk_212
        replace h := inrO h
        exact ⟨_, _, gh_canonE (ts := [1]) hB rfl rfl rfl, x_197, h, rfl, rfl⟩
    · skip
      refine Run.seq ?_
      refine Run.ops hm ?_
      refine Ops.p rfl ?_
      refine Ops.p rfl ?_
      refine Ops.nil ?_
      refine Run.ret ?_
      obtain rfl := someO h
      exact Ends.mk (.inl rfl) hB rfl rfl rfl rfl
def laws_toEntry (N : Nat) (x_1 : Entry) : Option (Entry) :=
 some x_1
theorem sem_laws_toEntry (N : Nat) (x_1 : Entry) (r : Entry) (h : laws_toEntry N x_1 = some r) : Says Try.prog 103 [.agg [VI x_1.Term, VI x_1.Kind, VS x_1.Data]] 0 [] (.agg [VI r.Term, VI r.Kind, VS r.Data]) [] := by
  unfold laws_toEntry at h
  refine Says.of_run s103 Try.call103 rfl fun B hB => ?_
  have hm : B.m ≤ 1000 := by omega
  refine Run.seq ?_
  refine Run.ops hm ?_
  refine Ops.st (s := 1000) (.bx rfl rfl) rfl rfl ?_
  refine Ops.st (s := 1016) (.al rfl rfl) rfl rfl ?_
  refine Ops.nil ?_
  refine Run.seq ?_
  refine Run.ops hm ?_
  refine Ops.st (s := 5096) (.al rfl rfl) rfl rfl ?_
  refine Ops.nil ?_
  refine Run.seq ?_
  refine Run.ops hm ?_
  refine Ops.p rfl ?_
  refine Ops.p rfl ?_
  refine Ops.p rfl ?_
  refine Ops.s0 (s := 9240) (.sto rfl rfl rfl rfl rfl rfl) rfl rfl ?_
  refine Ops.nil ?_
  refine Run.seq ?_
  refine Run.ops hm ?_
  refine Ops.p rfl ?_
  refine Ops.p rfl ?_
  refine Ops.p rfl ?_
  refine Ops.s0 (s := 13336) (.sto rfl rfl rfl rfl rfl rfl) rfl rfl ?_
  refine Ops.nil ?_
  refine Run.seq ?_
  refine Run.ops hm ?_
  refine Ops.p rfl ?_
  refine Ops.p rfl ?_
  refine Ops.p rfl ?_
  refine Ops.s0 (s := 17432) (.sto rfl rfl rfl rfl rfl rfl) rfl rfl ?_
  refine Ops.nil ?_
  refine Run.seq ?_
  refine Run.ops hm ?_
  refine Ops.p rfl ?_
  refine Ops.s0 (s := 21496) (.sto rfl rfl rfl rfl rfl rfl) rfl rfl ?_
  refine Ops.nil ?_
  refine Run.ret ?_
  obtain rfl := someO h
  exact Ends.mk (.inl rfl) hB rfl rfl rfl rfl
def laws_toEntryS_l1 (N : Nat) (x_1 : (List Entry)) : Nat → Int → (List Entry) → Option ((List Entry))
 | 0, _, _ => none
 | m + 1, x_170, x_171 =>
 (if (decide (x_170 < (x_1.length : Int))) = true then
 (at? x_1 x_170).bind fun x_187 =>
 (laws_toEntry N x_187).bind fun y_188 =>
 (at? x_171 x_170).bind fun x_189 =>
 laws_toEntryS_l1 N x_1 m (w64 (x_170 + (1 : Int))) (x_171.set x_170.toNat y_188)
 else
 some x_171)
def laws_toEntryS_l1_r (N : Nat) (x_1 : (List Entry)) : (List Entry) → Int → (List Entry) → Option ((List Entry))
 | [], x_170, x_171 =>
 some x_171
 | hd :: tl, x_170, x_171 =>
 (some hd).bind fun x_187 =>
 (laws_toEntry N x_187).bind fun y_188 =>
 (at? x_171 x_170).bind fun x_189 =>
 laws_toEntryS_l1_r N x_1 tl (w64 (x_170 + (1 : Int))) (x_171.set x_170.toNat y_188)
theorem laws_toEntryS_l1_rng (N : Nat) (x_1 : (List Entry)) (hx : x_1.length ≤ 1099511627776) : ∀ (d k m : Nat) (x_171 : (List Entry)), x_1.length = k + d → d < m → laws_toEntryS_l1 N x_1 m (k : Int) x_171 = laws_toEntryS_l1_r N x_1 (x_1.drop k) (k : Int) x_171 := by
  intro d
  induction d with
  | zero =>
    intro k m x_171 hd hm
    obtain ⟨m, rfl⟩ : ∃ q, m = q + 1 := ⟨m - 1, by omega⟩
    rw [laws_toEntryS_l1, if_neg (by simp; omega), List.drop_eq_nil_of_le (by omega), laws_toEntryS_l1_r]
  | succ d ih =>
    intro k m x_171 hd hm
    obtain ⟨m, rfl⟩ : ∃ q, m = q + 1 := ⟨m - 1, by omega⟩
    have hk : k < x_1.length := by omega
    rw [laws_toEntryS_l1, if_pos (by simp; omega), List.drop_eq_getElem_cons hk, laws_toEntryS_l1_r]
    have h1 := at_lt hk
    have h2 := w64_succ (k := k) (by omega)
    have h3 := ih (k + 1) m
    simp only [h1, h2, h3 _ (by omega) (by omega)]
theorem laws_toEntryS_l1_eq {N : Nat} (x_1 : (List Entry)) (hx : x_1.length ≤ 1099511627776) (hN : x_1.length < N) (x_171 : (List Entry)) : laws_toEntryS_l1 N x_1 N 0 x_171 = laws_toEntryS_l1_r N x_1 x_1 0 x_171 := laws_toEntryS_l1_rng N x_1 hx x_1.length 0 N x_171 (by omega) hN
def laws_toEntryS (N : Nat) (x_1 : (List Entry)) : Option ((List Entry)) :=
 (mk? (Entry.mk (0 : Int) (0 : Int) (⟨#[]⟩ : ByteArray)) (x_1.length : Int)).bind fun x_146 =>
 joinP (fun (v_168 : (List Entry)) =>
 some v_168) fun j_168 =>
 (laws_toEntryS_l1 N x_1 N (0 : Int) x_146).bind (fun (v_180 : (List Entry)) => j_168 v_180)
theorem sem_laws_toEntryS (N : Nat) (x_1 : (List Entry)) (r : (List Entry)) (h : laws_toEntryS N x_1 = some r) : Says Try.prog 88 [RO 71 (x_1.map encEntry)] 0 [] (.sl 0 48 0 r.length) [(0, .vec 48 (r.map encEntry))] := by
  unfold laws_toEntryS at h
  refine Says.of_run s88 Try.call88 rfl fun B hB => ?_
  have hm : B.m ≤ 1000 := by omega
  refine Run.seq ?_
  refine Run.ops hm ?_
  refine Ops.p rfl ?_
  refine Ops.nil ?_
  refine Run.seq ?_
  refine Run.ops hm ?_
  refine Ops.p rfl ?_
  refine Ops.st (s := 5112) (Ev.lnF rfl) rfl rfl ?_
  obtain ⟨x_146, hx_146, h⟩ := bindO h
  refine Ops.st (s := 5128) (Ev.msW (f := encEntry) (zv := (Entry.mk (0 : Int) (0 : Int) (⟨#[]⟩ : ByteArray))) rfl rfl rfl bt48 rfl hx_146) rfl rfl ?_
  refine Ops.p rfl ?_
  refine Ops.nil ?_
  refine Run.seqO h (fun (v_168 : (List Entry)) => [(3, .sl 0 48 0 v_168.length)]) (fun (v_168 : (List Entry)) => [(0, .vec 48 (v_168.map encEntry))]) (fun h => ?_) (fun v_168 h => ?_)
  · skip
    refine Run.seq ?_
    refine Run.ops hm ?_
    refine Ops.p rfl ?_
    refine Ops.nil ?_
    refine Run.block ?_
    obtain ⟨res_180, h, hk_180⟩ := bindO h
    refine Run.loop (n := N) (fun m_180 fr σ => ∃ (x_170 : Int), ∃ (x_171 : (List Entry)), laws_toEntryS_l1 N x_1 m_180 x_170 x_171 = some res_180 ∧ fr = [(0, RO 71 (x_1.map encEntry)), (3, .sl 0 48 0 x_171.length), (4, VI x_170)] ∧ σ = [(0, .vec 48 (x_171.map encEntry))]) (gh_canonE (ts := [0, 3, 4]) hB rfl rfl rfl) ⟨_, _, h, rfl, rfl⟩ ?_
    rintro m_180 fr σ ⟨x_170, x_171, h, rfl, rfl⟩
    obtain _ | m_180 := m_180
    · rw [laws_toEntryS_l1] at h; cases h
    rw [laws_toEntryS_l1] at h
    refine Run.seq ?_
    refine Run.seq ?_
    refine Run.ops hm ?_
    refine Ops.p rfl ?_
    refine Ops.p rfl ?_
    refine Ops.st (s := 13320) (Ev.lnF rfl) rfl rfl ?_
    refine Ops.p rfl ?_
    refine Ops.nil ?_
    refine Run.condO rfl h (fun g_183 h => ?_) (fun g_183 h => ?_)
    · skip
      refine Run.skip ?_
      refine Run.seq ?_
      refine Run.block ?_
      refine Run.ops hm ?_
      refine Ops.p rfl ?_
      refine Ops.p rfl ?_
      refine Ops.p rfl ?_
      refine Ops.p rfl ?_
      obtain ⟨x_187, hx_187, h⟩ := bindO h
      refine Ops.st (s := 21544) (Ev.iaF rfl rfl hx_187) rfl rfl ?_
      refine Ops.p rfl ?_
      obtain ⟨y_188, hy_188, h⟩ := bindO h
      refine Ops.st (s := 21576) (Ev.call [] [] 0 (sem_laws_toEntry N x_187 _ hy_188) rfl rfl (.cons (.agg (.cons (.c _) (.cons (.c _) (.cons (.c _) .nil)))) .nil) rfl (.inl rfl) rfl rfl) rfl rfl ?_
      obtain ⟨x_189, hx_189, h⟩ := bindO h
      refine Ops.st (s := 21592) (Ev.iaW rfl rfl rfl hx_189) rfl rfl ?_
      refine Ops.s0 (s := 21608) (Ev.stE (f := encEntry) (v' := y_188) rfl rfl (at_some hx_189).2 rfl (.cons (.c _) (.cons (.c _) (.cons (.c _) .nil))) rfl rfl rfl rfl rfl) rfl rfl ?_
      refine Ops.nil ?_
      refine Run.ops hm ?_
      refine Ops.p rfl ?_
      refine Ops.p rfl ?_
      refine Ops.p rfl ?_
      refine Ops.nil ?_
      exact ⟨m_180, Nat.lt_succ_self m_180, _, _, gh_canonE (ts := [0, 3, 4]) hB rfl (by first | rfl | (simp only [List.length_set]; done) | (simp only [List.length_set]; rfl)) (by first | rfl | (simp only [List.length_set]; done) | (simp only [List.length_set]; rfl)), _, _, h, rfl, rfl⟩
    · skip
      refine Run.exit ?_
      obtain rfl := someO h
      have h := hk_180
      exact ⟨_, _, gh_canonE (ts := [3]) hB rfl rfl rfl, x_171, h, rfl, rfl⟩
  · skip
    refine Run.seq ?_
    refine Run.ops hm ?_
    refine Ops.p rfl ?_
    refine Ops.p rfl ?_
    refine Ops.nil ?_
    refine Run.ret ?_
    obtain rfl := someO h
    exact Ends.mk (.inl rfl) hB rfl rfl rfl rfl
def laws_toLog (N : Nat) (x_1 : Log) : Option (Log) :=
 (laws_toEntryS N x_1.Entries).bind fun y_103 =>
 some (Log.mk x_1.Start x_1.StartTerm y_103)
theorem sem_laws_toLog (N : Nat) (x_1 : Log) (r : Log) (h : laws_toLog N x_1 = some r) : Says Try.prog 32 [.agg [VI x_1.Start, VI x_1.StartTerm, RO 71 (x_1.Entries.map encEntry)]] 0 [] (.agg [VI r.Start, VI r.StartTerm, .sl 0 48 0 r.Entries.length]) [(0, .vec 48 (r.Entries.map encEntry))] := by
  unfold laws_toLog at h
  refine Says.of_run s32 Try.call32 rfl fun B hB => ?_
  have hm : B.m ≤ 1000 := by omega
  refine Run.seq ?_
  refine Run.ops hm ?_
  refine Ops.st (s := 1000) (.bx rfl rfl) rfl rfl ?_
  refine Ops.st (s := 1016) (.al rfl rfl) rfl rfl ?_
  refine Ops.nil ?_
  refine Run.seq ?_
  refine Run.ops hm ?_
  refine Ops.st (s := 5096) (.al rfl rfl) rfl rfl ?_
  refine Ops.nil ?_
  refine Run.seq ?_
  refine Run.ops hm ?_
  refine Ops.p rfl ?_
  refine Ops.p rfl ?_
  refine Ops.p rfl ?_
  refine Ops.s0 (s := 9240) (.sto rfl rfl rfl rfl rfl rfl) rfl rfl ?_
  refine Ops.nil ?_
  refine Run.seq ?_
  refine Run.ops hm ?_
  refine Ops.p rfl ?_
  refine Ops.p rfl ?_
  refine Ops.p rfl ?_
  refine Ops.s0 (s := 13336) (.sto rfl rfl rfl rfl rfl rfl) rfl rfl ?_
  refine Ops.nil ?_
  refine Run.seq ?_
  refine Run.ops hm ?_
  refine Ops.p rfl ?_
  refine Ops.p rfl ?_
  obtain ⟨y_103, hy_103, h⟩ := bindO h
  refine Ops.st (s := 17416) (Ev.call [] [] 1 (sem_laws_toEntryS N x_1.Entries _ hy_103) rfl rfl (.cons (.c _) .nil) rfl (.inl rfl) rfl rfl) rfl rfl ?_
  refine Ops.p rfl ?_
  refine Ops.s0 (s := 17448) (.sto rfl rfl rfl rfl rfl rfl) rfl rfl ?_
  refine Ops.nil ?_
  refine Run.seq ?_
  refine Run.ops hm ?_
  refine Ops.p rfl ?_
  refine Ops.s0 (s := 21496) (.sto rfl rfl rfl rfl rfl rfl) rfl rfl ?_
  refine Ops.nil ?_
  refine Run.ret ?_
  obtain rfl := someO h
  exact Ends.mk (.inl rfl) hB rfl rfl rfl rfl
def laws_toLeader (N : Nat) (x_1 : Leader) : Option (Leader) :=
 (laws_toLog N x_1.Log).bind fun y_103 =>
 some (Leader.mk x_1.Node x_1.Term y_103)
theorem sem_laws_toLeader (N : Nat) (x_1 : Leader) (r : Leader) (h : laws_toLeader N x_1 = some r) : Says Try.prog 81 [.agg [VI x_1.Node, VI x_1.Term, VI x_1.Log.Start, VI x_1.Log.StartTerm, RO 71 (x_1.Log.Entries.map encEntry)]] 0 [] (.agg [VI r.Node, VI r.Term, VI r.Log.Start, VI r.Log.StartTerm, .sl 0 48 0 r.Log.Entries.length]) [(0, .vec 48 (r.Log.Entries.map encEntry))] := by
  unfold laws_toLeader at h
  refine Says.of_run s81 Try.call81 rfl fun B hB => ?_
  have hm : B.m ≤ 1000 := by omega
  refine Run.seq ?_
  refine Run.ops hm ?_
  refine Ops.st (s := 1000) (.bx rfl rfl) rfl rfl ?_
  refine Ops.st (s := 1016) (.al rfl rfl) rfl rfl ?_
  refine Ops.nil ?_
  refine Run.seq ?_
  refine Run.ops hm ?_
  refine Ops.st (s := 5096) (.al rfl rfl) rfl rfl ?_
  refine Ops.nil ?_
  refine Run.seq ?_
  refine Run.ops hm ?_
  refine Ops.p rfl ?_
  refine Ops.p rfl ?_
  refine Ops.p rfl ?_
  refine Ops.s0 (s := 9240) (.sto rfl rfl rfl rfl rfl rfl) rfl rfl ?_
  refine Ops.nil ?_
  refine Run.seq ?_
  refine Run.ops hm ?_
  refine Ops.p rfl ?_
  refine Ops.p rfl ?_
  refine Ops.p rfl ?_
  refine Ops.s0 (s := 13336) (.sto rfl rfl rfl rfl rfl rfl) rfl rfl ?_
  refine Ops.nil ?_
  refine Run.seq ?_
  refine Run.ops hm ?_
  refine Ops.p rfl ?_
  refine Ops.p rfl ?_
  obtain ⟨y_103, hy_103, h⟩ := bindO h
  refine Ops.st (s := 17416) (Ev.call [] [] 1 (sem_laws_toLog N x_1.Log _ hy_103) rfl rfl (.cons (.agg (.cons (.c _) (.cons (.c _) (.cons (.c _) .nil)))) .nil) rfl (.inl rfl) rfl rfl) rfl rfl ?_
  refine Ops.p rfl ?_
  refine Ops.s0 (s := 17448) (.sto rfl rfl rfl rfl rfl rfl) rfl rfl ?_
  refine Ops.nil ?_
  refine Run.seq ?_
  refine Run.ops hm ?_
  refine Ops.p rfl ?_
  refine Ops.s0 (s := 21496) (.sto rfl rfl rfl rfl rfl rfl) rfl rfl ?_
  refine Ops.nil ?_
  refine Run.ret ?_
  obtain rfl := someO h
  exact Ends.mk (.inl rfl) hB rfl rfl rfl rfl
def laws_toLeaderS_l1 (N : Nat) (x_1 : (List Leader)) : Nat → Int → (List Leader) → Option ((List Leader))
 | 0, _, _ => none
 | m + 1, x_170, x_171 =>
 (if (decide (x_170 < (x_1.length : Int))) = true then
 (at? x_1 x_170).bind fun x_187 =>
 (laws_toLeader N x_187).bind fun y_188 =>
 (at? x_171 x_170).bind fun x_189 =>
 laws_toLeaderS_l1 N x_1 m (w64 (x_170 + (1 : Int))) (x_171.set x_170.toNat y_188)
 else
 some x_171)
def laws_toLeaderS_l1_r (N : Nat) (x_1 : (List Leader)) : (List Leader) → Int → (List Leader) → Option ((List Leader))
 | [], x_170, x_171 =>
 some x_171
 | hd :: tl, x_170, x_171 =>
 (some hd).bind fun x_187 =>
 (laws_toLeader N x_187).bind fun y_188 =>
 (at? x_171 x_170).bind fun x_189 =>
 laws_toLeaderS_l1_r N x_1 tl (w64 (x_170 + (1 : Int))) (x_171.set x_170.toNat y_188)
theorem laws_toLeaderS_l1_rng (N : Nat) (x_1 : (List Leader)) (hx : x_1.length ≤ 1099511627776) : ∀ (d k m : Nat) (x_171 : (List Leader)), x_1.length = k + d → d < m → laws_toLeaderS_l1 N x_1 m (k : Int) x_171 = laws_toLeaderS_l1_r N x_1 (x_1.drop k) (k : Int) x_171 := by
  intro d
  induction d with
  | zero =>
    intro k m x_171 hd hm
    obtain ⟨m, rfl⟩ : ∃ q, m = q + 1 := ⟨m - 1, by omega⟩
    rw [laws_toLeaderS_l1, if_neg (by simp; omega), List.drop_eq_nil_of_le (by omega), laws_toLeaderS_l1_r]
  | succ d ih =>
    intro k m x_171 hd hm
    obtain ⟨m, rfl⟩ : ∃ q, m = q + 1 := ⟨m - 1, by omega⟩
    have hk : k < x_1.length := by omega
    rw [laws_toLeaderS_l1, if_pos (by simp; omega), List.drop_eq_getElem_cons hk, laws_toLeaderS_l1_r]
    have h1 := at_lt hk
    have h2 := w64_succ (k := k) (by omega)
    have h3 := ih (k + 1) m
    simp only [h1, h2, h3 _ (by omega) (by omega)]
theorem laws_toLeaderS_l1_eq {N : Nat} (x_1 : (List Leader)) (hx : x_1.length ≤ 1099511627776) (hN : x_1.length < N) (x_171 : (List Leader)) : laws_toLeaderS_l1 N x_1 N 0 x_171 = laws_toLeaderS_l1_r N x_1 x_1 0 x_171 := laws_toLeaderS_l1_rng N x_1 hx x_1.length 0 N x_171 (by omega) hN
def laws_toLeaderS (N : Nat) (x_1 : (List Leader)) : Option ((List Leader)) :=
 (mk? (Leader.mk (0 : Int) (0 : Int) (Log.mk (0 : Int) (0 : Int) [])) (x_1.length : Int)).bind fun x_146 =>
 joinP (fun (v_168 : (List Leader)) =>
 some v_168) fun j_168 =>
 (laws_toLeaderS_l1 N x_1 N (0 : Int) x_146).bind (fun (v_180 : (List Leader)) => j_168 v_180)
theorem sem_laws_toLeaderS (N : Nat) (x_1 : (List Leader)) (r : (List Leader)) (h : laws_toLeaderS N x_1 = some r) : Says Try.prog 27 [RO 127 (x_1.map (encLeaderL false))] 0 [] (.sl 0 129 0 r.length) [(0, .vec 129 (r.map (encLeader true)))] := by
  unfold laws_toLeaderS at h
  refine Says.of_run s27 Try.call27 rfl fun B hB => ?_
  have hm : B.m ≤ 1000 := by omega
  refine Run.seq ?_
  refine Run.ops hm ?_
  refine Ops.p rfl ?_
  refine Ops.nil ?_
  refine Run.seq ?_
  refine Run.ops hm ?_
  refine Ops.p rfl ?_
  refine Ops.st (s := 5112) (Ev.lnF rfl) rfl rfl ?_
  obtain ⟨x_146, hx_146, h⟩ := bindO h
  refine Ops.st (s := 5128) (Ev.msW (f := (encLeader true)) (zv := (Leader.mk (0 : Int) (0 : Int) (Log.mk (0 : Int) (0 : Int) []))) rfl rfl rfl bt129 rfl hx_146) rfl rfl ?_
  refine Ops.p rfl ?_
  refine Ops.nil ?_
  refine Run.seqO h (fun (v_168 : (List Leader)) => [(3, .sl 0 129 0 v_168.length)]) (fun (v_168 : (List Leader)) => [(0, .vec 129 (v_168.map (encLeader true)))]) (fun h => ?_) (fun v_168 h => ?_)
  · skip
    refine Run.seq ?_
    refine Run.ops hm ?_
    refine Ops.p rfl ?_
    refine Ops.nil ?_
    refine Run.block ?_
    obtain ⟨res_180, h, hk_180⟩ := bindO h
    refine Run.loop (n := N) (fun m_180 fr σ => ∃ (x_170 : Int), ∃ (x_171 : (List Leader)), laws_toLeaderS_l1 N x_1 m_180 x_170 x_171 = some res_180 ∧ fr = [(0, RO 127 (x_1.map (encLeaderL false))), (3, .sl 0 129 0 x_171.length), (4, VI x_170)] ∧ σ = [(0, .vec 129 (x_171.map (encLeader true)))]) (gh_canonE (ts := [0, 3, 4]) hB rfl rfl rfl) ⟨_, _, h, rfl, rfl⟩ ?_
    rintro m_180 fr σ ⟨x_170, x_171, h, rfl, rfl⟩
    obtain _ | m_180 := m_180
    · rw [laws_toLeaderS_l1] at h; cases h
    rw [laws_toLeaderS_l1] at h
    refine Run.seq ?_
    refine Run.seq ?_
    refine Run.ops hm ?_
    refine Ops.p rfl ?_
    refine Ops.p rfl ?_
    refine Ops.st (s := 13320) (Ev.lnF rfl) rfl rfl ?_
    refine Ops.p rfl ?_
    refine Ops.nil ?_
    refine Run.condO rfl h (fun g_183 h => ?_) (fun g_183 h => ?_)
    · skip
      refine Run.skip ?_
      refine Run.seq ?_
      refine Run.block ?_
      refine Run.ops hm ?_
      refine Ops.p rfl ?_
      refine Ops.p rfl ?_
      refine Ops.p rfl ?_
      refine Ops.p rfl ?_
      obtain ⟨x_187, hx_187, h⟩ := bindO h
      refine Ops.st (s := 21544) (Ev.iaF rfl rfl hx_187) rfl rfl ?_
      refine Ops.p rfl ?_
      obtain ⟨y_188, hy_188, h⟩ := bindO h
      refine Ops.st (s := 21576) (Ev.call [] [] 1 (sem_laws_toLeader N x_187 _ hy_188) rfl rfl (.cons (.agg (.cons (.c _) (.cons (.c _) (.cons (.c _) (.cons (.c _) (.cons (.c _) .nil)))))) .nil) rfl (.inl rfl) rfl rfl) rfl rfl ?_
      obtain ⟨x_189, hx_189, h⟩ := bindO h
      refine Ops.st (s := 21592) (Ev.iaW rfl rfl rfl hx_189) rfl rfl ?_
      refine Ops.s0 (s := 21608) (Ev.stE (f := (encLeader true)) (v' := y_188) rfl rfl (at_some hx_189).2 rfl (.cons (.c _) (.cons (.c _) (.cons (.c _) (.cons (.c _) (.cons (.own rfl (lenmap rfl)) .nil))))) rfl rfl rfl rfl rfl) rfl rfl ?_
      refine Ops.nil ?_
      refine Run.ops hm ?_
      refine Ops.p rfl ?_
      refine Ops.p rfl ?_
      refine Ops.p rfl ?_
      refine Ops.nil ?_
      exact ⟨m_180, Nat.lt_succ_self m_180, _, _, gh_canonE (ts := [0, 3, 4]) hB rfl (by first | rfl | (simp only [List.length_set]; done) | (simp only [List.length_set]; rfl)) (by first | rfl | (simp only [List.length_set]; done) | (simp only [List.length_set]; rfl)), _, _, h, rfl, rfl⟩
    · skip
      refine Run.exit ?_
      obtain rfl := someO h
      have h := hk_180
      exact ⟨_, _, gh_canonE (ts := [3]) hB rfl rfl rfl, x_171, h, rfl, rfl⟩
  · skip
    refine Run.seq ?_
    refine Run.ops hm ?_
    refine Ops.p rfl ?_
    refine Ops.p rfl ?_
    refine Ops.nil ?_
    refine Run.ret ?_
    obtain rfl := someO h
    exact Ends.mk (.inl rfl) hB rfl rfl rfl rfl
def spec_OneLeader_l2 (N : Nat) (x_1 : (List Leader)) (x_568 : Int) : Nat → Int → Option ((Bool) ⊕ (Unit))
 | 0, _ => none
 | m + 1, x_688 =>
 (if (decide (x_688 < x_568)) = true then
 joinP (fun (v_715 : Unit) =>
 spec_OneLeader_l2 N x_1 x_568 m (w64 (x_688 + (1 : Int)))) fun j_715 =>
 (at? x_1 x_568).bind fun x_716 =>
 (at? x_1 x_688).bind fun x_717 =>
 (if (x_716.Term == x_717.Term) = true then
 (at? x_1 x_568).bind fun x_719 =>
 (at? x_1 x_688).bind fun x_720 =>
 (if (x_719.Node != x_720.Node) = true then
 some (Sum.inl false)
 else
 j_715 ())
 else
 j_715 ())
 else
 some (Sum.inr ()))
def spec_OneLeader_l1 (N : Nat) (x_1 : (List Leader)) : Nat → Int → Option ((Bool) ⊕ (Unit))
 | 0, _ => none
 | m + 1, x_568 =>
 (if (decide (x_568 < (x_1.length : Int))) = true then
 joinP (fun (v_685 : Unit) =>
 spec_OneLeader_l1 N x_1 m (w64 (x_568 + (1 : Int)))) fun j_685 =>
 (spec_OneLeader_l2 N x_1 x_568 N (0 : Int)).bind (Sum.elim (fun v_704 => some (Sum.inl v_704)) (fun (v_705 : Unit) => j_685 ()))
 else
 some (Sum.inr ()))
def spec_OneLeader_l1_r (N : Nat) (x_1 : (List Leader)) : (List Leader) → Int → Option ((Bool) ⊕ (Unit))
 | [], x_568 =>
 some (Sum.inr ())
 | hd :: tl, x_568 =>
 joinP (fun (v_685 : Unit) =>
 spec_OneLeader_l1_r N x_1 tl (w64 (x_568 + (1 : Int)))) fun j_685 =>
 (spec_OneLeader_l2 N x_1 x_568 N (0 : Int)).bind (Sum.elim (fun v_704 => some (Sum.inl v_704)) (fun (v_705 : Unit) => j_685 ()))
theorem spec_OneLeader_l1_rng (N : Nat) (x_1 : (List Leader)) (hx : x_1.length ≤ 1099511627776) : ∀ (d k m : Nat), x_1.length = k + d → d < m → spec_OneLeader_l1 N x_1 m (k : Int) = spec_OneLeader_l1_r N x_1 (x_1.drop k) (k : Int) := by
  intro d
  induction d with
  | zero =>
    intro k m hd hm
    obtain ⟨m, rfl⟩ : ∃ q, m = q + 1 := ⟨m - 1, by omega⟩
    rw [spec_OneLeader_l1, if_neg (by simp; omega), List.drop_eq_nil_of_le (by omega), spec_OneLeader_l1_r]
  | succ d ih =>
    intro k m hd hm
    obtain ⟨m, rfl⟩ : ∃ q, m = q + 1 := ⟨m - 1, by omega⟩
    have hk : k < x_1.length := by omega
    rw [spec_OneLeader_l1, if_pos (by simp; omega), List.drop_eq_getElem_cons hk, spec_OneLeader_l1_r]
    have h1 := at_lt hk
    have h2 := w64_succ (k := k) (by omega)
    have h3 := ih (k + 1) m
    simp only [h1, h2, h3 (by omega) (by omega)]
theorem spec_OneLeader_l1_eq {N : Nat} (x_1 : (List Leader)) (hx : x_1.length ≤ 1099511627776) (hN : x_1.length < N) : spec_OneLeader_l1 N x_1 N 0 = spec_OneLeader_l1_r N x_1 x_1 0 := spec_OneLeader_l1_rng N x_1 hx x_1.length 0 N (by omega) hN
def spec_OneLeader (N : Nat) (x_1 : (List Leader)) : Option (Bool) :=
 joinP (fun (v_566 : Unit) =>
 some true) fun j_566 =>
 (spec_OneLeader_l1 N x_1 N (0 : Int)).bind (Sum.elim (fun v_644 => some v_644) (fun (v_645 : Unit) => j_566 ()))
theorem sem_spec_OneLeader (N : Nat) (x_1 : (List Leader)) (r : Bool) (h : spec_OneLeader N x_1 = some r) : Says Try.prog 26 [RO 129 (x_1.map (encLeader false))] 0 [] (VB r) [] := by
  unfold spec_OneLeader at h
  refine Says.of_run s26 Try.call26 rfl fun B hB => ?_
  have hm : B.m ≤ 1000 := by omega
  refine Run.seq ?_
  refine Run.ops hm ?_
  refine Ops.p rfl ?_
  refine Ops.nil ?_
  refine Run.seqO h (fun (v_566 : Unit) => []) (fun (v_566 : Unit) => []) (fun h => ?_) (fun v_566 h => ?_)
  · skip
    refine Run.seq ?_
    refine Run.ops hm ?_
    refine Ops.p rfl ?_
    refine Ops.nil ?_
    refine Run.block ?_
    obtain ⟨res_645, h, hk_645⟩ := bindO h
    refine Run.loop (n := N) (fun m_645 fr σ => ∃ (x_568 : Int), spec_OneLeader_l1 N x_1 m_645 x_568 = some res_645 ∧ fr = [(0, RO 129 (x_1.map (encLeader false))), (3, VI x_568)] ∧ σ = []) (gh_canonE (ts := [0, 3]) hB rfl rfl rfl) ⟨_, h, rfl, rfl⟩ ?_
    rintro m_645 fr σ ⟨x_568, h, rfl, rfl⟩
    obtain _ | m_645 := m_645
    · rw [spec_OneLeader_l1] at h; cases h
    rw [spec_OneLeader_l1] at h
    refine Run.seq ?_
    refine Run.seq ?_
    refine Run.ops hm ?_
    refine Ops.p rfl ?_
    refine Ops.p rfl ?_
    refine Ops.st (s := 9224) (Ev.lnF rfl) rfl rfl ?_
    refine Ops.p rfl ?_
    refine Ops.nil ?_
    refine Run.condO rfl h (fun g_648 h => ?_) (fun g_648 h => ?_)
    · skip
      refine Run.skip ?_
      refine Run.seqO h (fun (v_685 : Unit) => [(0, RO 129 (x_1.map (encLeader false))), (3, VI x_568)]) (fun (v_685 : Unit) => []) (fun h => ?_) (fun v_685 h => ?_)
      · skip
        refine Run.block ?_
        refine Run.seq ?_
        refine Run.ops hm ?_
        refine Ops.p rfl ?_
        refine Ops.nil ?_
        refine Run.block ?_
        obtain ⟨res_705, h, hk_705⟩ := bindO h
        refine Run.loop (n := N) (fun m_705 fr σ => ∃ (x_688 : Int), spec_OneLeader_l2 N x_1 x_568 m_705 x_688 = some res_705 ∧ fr = [(0, RO 129 (x_1.map (encLeader false))), (3, VI x_568), (4, VI x_688)] ∧ σ = []) (gh_canonE (ts := [0, 3, 4]) hB rfl rfl rfl) ⟨_, h, rfl, rfl⟩ ?_
        rintro m_705 fr σ ⟨x_688, h, rfl, rfl⟩
        obtain _ | m_705 := m_705
        · rw [spec_OneLeader_l2] at h; cases h
        rw [spec_OneLeader_l2] at h
        refine Run.seq ?_
        refine Run.seq ?_
        refine Run.ops hm ?_
        refine Ops.p rfl ?_
        refine Ops.p rfl ?_
        refine Ops.p rfl ?_
        refine Ops.nil ?_
        refine Run.condO rfl h (fun g_708 h => ?_) (fun g_708 h => ?_)
        · skip
          refine Run.skip ?_
          refine Run.seqO h (fun (v_715 : Unit) => [(0, RO 129 (x_1.map (encLeader false))), (3, VI x_568), (4, VI x_688)]) (fun (v_715 : Unit) => []) (fun h => ?_) (fun v_715 h => ?_)
          · skip
            refine Run.block ?_
            refine Run.seq ?_
            refine Run.draw hm hmix ?_
            refine OpsD.p rfl ?_
            refine OpsD.p rfl ?_
            obtain ⟨x_716, hx_716, h⟩ := bindO h
            refine OpsD.st (s := 29704) (Ev.iaF rfl rfl hx_716) rfl rfl ?_
            refine OpsD.p rfl ?_
            refine OpsD.p rfl ?_
            refine OpsD.p rfl ?_
            refine OpsD.p rfl ?_
            obtain ⟨x_717, hx_717, h⟩ := bindO h
            refine OpsD.st (s := 29784) (Ev.iaF rfl rfl hx_717) rfl rfl ?_
            refine OpsD.p rfl ?_
            refine OpsD.p rfl ?_
            refine OpsD.p rfl ?_
            refine OpsD.p rfl ?_
            refine OpsD.askO (x := .t 27) rfl h (fun g_718 h => ?_) (fun g_718 h => ?_)
            · skip
              refine OpsD.gp rfl g_718 rfl ?_
              refine OpsD.gp rfl g_718 rfl ?_
              obtain ⟨x_719, hx_719, h⟩ := bindO h
              refine OpsD.gs (s := 29896) rfl g_718 (Ev.iaF rfl rfl hx_719) rfl rfl ?_
              refine OpsD.gp rfl g_718 rfl ?_
              refine OpsD.gp rfl g_718 rfl ?_
              refine OpsD.gp rfl g_718 rfl ?_
              refine OpsD.gp rfl g_718 rfl ?_
              obtain ⟨x_720, hx_720, h⟩ := bindO h
              refine OpsD.gs (s := 29976) rfl g_718 (Ev.iaF rfl rfl hx_720) rfl rfl ?_
              refine OpsD.gp rfl g_718 rfl ?_
              refine OpsD.gp rfl g_718 rfl ?_
              refine OpsD.gp rfl g_718 rfl ?_
              refine OpsD.st (s := 30040) (.pkT rfl g_718 rfl) rfl rfl ?_
              refine OpsD.nil ⟨by kernel_rfl, ?_⟩
              refine Run.condO rfl h (fun g_721 h => ?_) (fun g_721 h => ?_)
              · skip
                refine Run.seq ?_
                refine Run.ops hm ?_
                refine Ops.p rfl ?_
                refine Ops.nil ?_
                refine Run.ret ?_
                obtain rfl := someO h
                have h := hk_705
                replace h := inlO h
                obtain rfl := someO h
                have h := hk_645
                replace h := inlO h
                obtain rfl := someO h
                exact Ends.mk (.inl rfl) hB rfl rfl rfl rfl
              · skip
                refine Run.skip ?_
                exact ⟨_, _, gh_canonE (ts := [0, 3, 4]) hB rfl rfl rfl, (), h, rfl, rfl⟩
            · skip
              refine OpsD.gn rfl g_718 ?_
              refine OpsD.gn rfl g_718 ?_
              refine OpsD.gn rfl g_718 ?_
              refine OpsD.gn rfl g_718 ?_
              refine OpsD.gn rfl g_718 ?_
              refine OpsD.gn rfl g_718 ?_
              refine OpsD.gn rfl g_718 ?_
              refine OpsD.gn rfl g_718 ?_
              refine OpsD.gn rfl g_718 ?_
              refine OpsD.gn rfl g_718 ?_
              refine OpsD.gn rfl g_718 ?_
              refine OpsD.st (s := 30040) (.pkF rfl g_718 rfl) rfl rfl ?_
              refine OpsD.nil ⟨by kernel_rfl, ?_⟩
              refine Run.condF rfl rfl ?_
              refine Run.skip ?_
              exact ⟨_, _, gh_canonE (ts := [0, 3, 4]) hB rfl rfl rfl, (), h, rfl, rfl⟩
          · skip
            refine Run.ops hm ?_
            refine Ops.p rfl ?_
            refine Ops.p rfl ?_
            refine Ops.p rfl ?_
            refine Ops.nil ?_
            exact ⟨m_705, Nat.lt_succ_self m_705, _, _, gh_canonE (ts := [0, 3, 4]) hB rfl rfl rfl, _, h, rfl, rfl⟩
        · skip
          refine Run.exit ?_
          obtain rfl := someO h
          have h := hk_705
          replace h := inrO h
          exact ⟨_, _, gh_canonE (ts := [0, 3]) hB rfl rfl rfl, (), h, rfl, rfl⟩
      · skip
        refine Run.ops hm ?_
        refine Ops.p rfl ?_
        refine Ops.p rfl ?_
        refine Ops.p rfl ?_
        refine Ops.nil ?_
        exact ⟨m_645, Nat.lt_succ_self m_645, _, _, gh_canonE (ts := [0, 3]) hB rfl rfl rfl, _, h, rfl, rfl⟩
    · skip
      refine Run.exit ?_
      obtain rfl := someO h
      have h := hk_645
      replace h := inrO h
      exact ⟨_, _, gh_canonE (ts := []) hB rfl rfl rfl, (), h, rfl, rfl⟩
  · skip
    refine Run.seq ?_
    refine Run.ops hm ?_
    refine Ops.p rfl ?_
    refine Ops.nil ?_
    refine Run.ret ?_
    obtain rfl := someO h
    exact Ends.mk (.inl rfl) hB rfl rfl rfl rfl
def impl_OneLeader_1 (N : Nat) (x_1 : Leader) (x_2 : Leader) : Option (Bool) :=
 (if (x_2.Term == x_1.Term) = true then
 some (x_2.Node != x_1.Node)
 else
 some false)
theorem sem_impl_OneLeader_1 (N : Nat) (x_1 : Leader) (x_2 : Leader) (r : Bool) (h : impl_OneLeader_1 N x_1 x_2 = some r) : Says Try.prog 83 [.agg [VI x_1.Node, VI x_1.Term, VI x_1.Log.Start, VI x_1.Log.StartTerm, RO 48 (x_1.Log.Entries.map encEntry)], .ptr 0 0] 1 [(0, .box [VI x_2.Node, VI x_2.Term, VI x_2.Log.Start, VI x_2.Log.StartTerm, RO 48 (x_2.Log.Entries.map encEntry)])] (VB r) [(0, .box [VI x_2.Node, VI x_2.Term, VI x_2.Log.Start, VI x_2.Log.StartTerm, RO 48 (x_2.Log.Entries.map encEntry)])] := by
  unfold impl_OneLeader_1 at h
  refine Says.of_run s83 Try.call83 rfl fun B hB => ?_
  have hm : B.m ≤ 1000 := by omega
  refine Run.seq ?_
  refine Run.ops hm ?_
  refine Ops.st (s := 1000) (.bx rfl rfl) rfl rfl ?_
  refine Ops.p rfl ?_
  refine Ops.nil ?_
  refine Run.seq ?_
  refine Run.ops hm ?_
  refine Ops.p rfl ?_
  refine Ops.p rfl ?_
  refine Ops.p rfl ?_
  refine Ops.p rfl ?_
  refine Ops.p rfl ?_
  refine Ops.p rfl ?_
  refine Ops.askO (x := .t 9) rfl h (fun g_101 h => ?_) (fun g_101 h => ?_)
  · skip
    refine Ops.gp rfl g_101 rfl ?_
    refine Ops.gp rfl g_101 rfl ?_
    refine Ops.gp rfl g_101 rfl ?_
    refine Ops.gp rfl g_101 rfl ?_
    refine Ops.gp rfl g_101 rfl ?_
    refine Ops.st (s := 5272) (.pkT rfl g_101 rfl) rfl rfl ?_
    refine Ops.p rfl ?_
    refine Ops.nil ?_
    refine Run.ret ?_
    obtain rfl := someO h
    exact Ends.mk (.inl rfl) hB rfl rfl rfl rfl
  · skip
    refine Ops.gn rfl g_101 ?_
    refine Ops.gn rfl g_101 ?_
    refine Ops.gn rfl g_101 ?_
    refine Ops.gn rfl g_101 ?_
    refine Ops.gn rfl g_101 ?_
    refine Ops.st (s := 5272) (.pkF rfl g_101 rfl) rfl rfl ?_
    refine Ops.p rfl ?_
    refine Ops.nil ?_
    refine Run.ret ?_
    obtain rfl := someO h
    exact Ends.mk (.inl rfl) hB rfl rfl rfl rfl
def slices_IndexFunc_Leader_l1 (N : Nat) (x_1 : (List Leader)) (x_2 : Leader) : Nat → Int → Option ((Int) ⊕ (Unit))
 | 0, _ => none
 | m + 1, x_167 =>
 (if (decide (x_167 < (x_1.length : Int))) = true then
 (at? x_1 x_167).bind fun x_183 =>
 (impl_OneLeader_1 N x_183 x_2).bind fun y_184 =>
 (if y_184 = true then
 some (Sum.inl x_167)
 else
 slices_IndexFunc_Leader_l1 N x_1 x_2 m (w64 (x_167 + (1 : Int))))
 else
 some (Sum.inr ()))
def slices_IndexFunc_Leader_l1_r (N : Nat) (x_1 : (List Leader)) (x_2 : Leader) : (List Leader) → Int → Option ((Int) ⊕ (Unit))
 | [], x_167 =>
 some (Sum.inr ())
 | hd :: tl, x_167 =>
 (some hd).bind fun x_183 =>
 (impl_OneLeader_1 N x_183 x_2).bind fun y_184 =>
 (if y_184 = true then
 some (Sum.inl x_167)
 else
 slices_IndexFunc_Leader_l1_r N x_1 x_2 tl (w64 (x_167 + (1 : Int))))
theorem slices_IndexFunc_Leader_l1_rng (N : Nat) (x_1 : (List Leader)) (x_2 : Leader) (hx : x_1.length ≤ 1099511627776) : ∀ (d k m : Nat), x_1.length = k + d → d < m → slices_IndexFunc_Leader_l1 N x_1 x_2 m (k : Int) = slices_IndexFunc_Leader_l1_r N x_1 x_2 (x_1.drop k) (k : Int) := by
  intro d
  induction d with
  | zero =>
    intro k m hd hm
    obtain ⟨m, rfl⟩ : ∃ q, m = q + 1 := ⟨m - 1, by omega⟩
    rw [slices_IndexFunc_Leader_l1, if_neg (by simp; omega), List.drop_eq_nil_of_le (by omega), slices_IndexFunc_Leader_l1_r]
  | succ d ih =>
    intro k m hd hm
    obtain ⟨m, rfl⟩ : ∃ q, m = q + 1 := ⟨m - 1, by omega⟩
    have hk : k < x_1.length := by omega
    rw [slices_IndexFunc_Leader_l1, if_pos (by simp; omega), List.drop_eq_getElem_cons hk, slices_IndexFunc_Leader_l1_r]
    have h1 := at_lt hk
    have h2 := w64_succ (k := k) (by omega)
    have h3 := ih (k + 1) m
    simp only [h1, h2, h3 (by omega) (by omega)]
theorem slices_IndexFunc_Leader_l1_eq {N : Nat} (x_1 : (List Leader)) (x_2 : Leader) (hx : x_1.length ≤ 1099511627776) (hN : x_1.length < N) : slices_IndexFunc_Leader_l1 N x_1 x_2 N 0 = slices_IndexFunc_Leader_l1_r N x_1 x_2 x_1 0 := slices_IndexFunc_Leader_l1_rng N x_1 x_2 hx x_1.length 0 N (by omega) hN
def slices_IndexFunc_Leader (N : Nat) (x_1 : (List Leader)) (x_2 : Leader) : Option (Int) :=
 joinP (fun (v_164 : Unit) =>
 some (-1 : Int)) fun j_164 =>
 (slices_IndexFunc_Leader_l1 N x_1 x_2 N (0 : Int)).bind (Sum.elim (fun v_178 => some v_178) (fun (v_179 : Unit) => j_164 ()))
theorem sem_slices_IndexFunc_Leader (N : Nat) (x_1 : (List Leader)) (x_2 : Leader) (r : Int) (h : slices_IndexFunc_Leader N x_1 x_2 = some r) : Says Try.prog 142 [RO 129 (x_1.map (encLeader false)), .fn 83 [.ptr 0 0]] 1 [(0, .box [VI x_2.Node, VI x_2.Term, VI x_2.Log.Start, VI x_2.Log.StartTerm, RO 48 (x_2.Log.Entries.map encEntry)])] (VI r) [(0, .box [VI x_2.Node, VI x_2.Term, VI x_2.Log.Start, VI x_2.Log.StartTerm, RO 48 (x_2.Log.Entries.map encEntry)])] := by
  unfold slices_IndexFunc_Leader at h
  refine Says.of_run s142 Try.call142 rfl fun B hB => ?_
  have hm : B.m ≤ 1000 := by omega
  refine Run.seq ?_
  refine Run.ops hm ?_
  refine Ops.p rfl ?_
  refine Ops.nil ?_
  refine Run.seqO h (fun (v_164 : Unit) => []) (fun (v_164 : Unit) => [(0, .box [VI x_2.Node, VI x_2.Term, VI x_2.Log.Start, VI x_2.Log.StartTerm, RO 48 (x_2.Log.Entries.map encEntry)])]) (fun h => ?_) (fun v_164 h => ?_)
  · skip
    refine Run.seq ?_
    refine Run.ops hm ?_
    refine Ops.p rfl ?_
    refine Ops.st (s := 5112) (Ev.lnF rfl) rfl rfl ?_
    refine Ops.p rfl ?_
    refine Ops.nil ?_
    refine Run.block ?_
    obtain ⟨res_179, h, hk_179⟩ := bindO h
    refine Run.loop (n := N) (fun m_179 fr σ => ∃ (x_167 : Int), slices_IndexFunc_Leader_l1 N x_1 x_2 m_179 x_167 = some res_179 ∧ fr = [(0, RO 129 (x_1.map (encLeader false))), (1, .fn 83 [.ptr 0 0]), (7, VI (x_1.length : Int)), (8, VI x_167)] ∧ σ = [(0, .box [VI x_2.Node, VI x_2.Term, VI x_2.Log.Start, VI x_2.Log.StartTerm, RO 48 (x_2.Log.Entries.map encEntry)])]) (gh_canonE (ts := [0, 1, 7, 8]) hB rfl rfl rfl) ⟨_, h, rfl, rfl⟩ ?_
    rintro m_179 fr σ ⟨x_167, h, rfl, rfl⟩
    obtain _ | m_179 := m_179
    · rw [slices_IndexFunc_Leader_l1] at h; cases h
    rw [slices_IndexFunc_Leader_l1] at h
    refine Run.seq ?_
    refine Run.ops hm ?_
    refine Ops.p rfl ?_
    refine Ops.nil ?_
    refine Run.seq ?_
    refine Run.condO rfl h (fun g_182 h => ?_) (fun g_182 h => ?_)
    · skip
      refine Run.skip ?_
      refine Run.seq ?_
      refine Run.block ?_
      refine Run.seq ?_
      refine Run.ops hm ?_
      refine Ops.p rfl ?_
      refine Ops.p rfl ?_
      refine Ops.nil ?_
      refine Run.seq ?_
      refine Run.ops hm ?_
      refine Ops.p rfl ?_
      refine Ops.p rfl ?_
      refine Ops.p rfl ?_
      obtain ⟨x_183, hx_183, h⟩ := bindO h
      refine Ops.st (s := 17432) (Ev.iaF rfl rfl hx_183) rfl rfl ?_
      refine Ops.p rfl ?_
      obtain ⟨y_184, hy_184, h⟩ := bindO h
      refine Ops.st (s := 17464) (Ev.callx [0] [] 0 rfl (sem_impl_OneLeader_1 N x_183 x_2 _ hy_184) rfl rfl (.cons (.agg (.cons (.c _) (.cons (.c _) (.cons (.c _) (.cons (.c _) (.cons (.c _) .nil)))))) (.cons (.ptr rfl) .nil)) rfl (.inl rfl) rfl rfl) rfl rfl ?_
      refine Ops.nil ?_
      refine Run.condO rfl h (fun g_185 h => ?_) (fun g_185 h => ?_)
      · skip
        refine Run.seq ?_
        refine Run.ops hm ?_
        refine Ops.p rfl ?_
        refine Ops.p rfl ?_
        refine Ops.nil ?_
        refine Run.ret ?_
        obtain rfl := someO h
        have h := hk_179
        replace h := inlO h
        obtain rfl := someO h
        exact Ends.mk (.inl rfl) hB rfl rfl rfl rfl
      · skip
        refine Run.skip ?_
        refine Run.ops hm ?_
        refine Ops.p rfl ?_
        refine Ops.p rfl ?_
        refine Ops.nil ?_
        exact ⟨m_179, Nat.lt_succ_self m_179, _, _, gh_canonE (ts := [0, 1, 7, 8]) hB rfl rfl rfl, _, h, rfl, rfl⟩
    · skip
      refine Run.exit ?_
      obtain rfl := someO h
      have h := hk_179
      replace h := inrO h
      exact ⟨_, _, gh_canonE (ts := []) hB rfl rfl rfl, (), h, rfl, rfl⟩
  · skip
    refine Run.seq ?_
    refine Run.ops hm ?_
    refine Ops.p rfl ?_
    refine Ops.nil ?_
    refine Run.ret ?_
    obtain rfl := someO h
    exact Ends.mk (.inl rfl) hB rfl rfl rfl rfl
def slices_ContainsFunc_Leader (N : Nat) (x_1 : (List Leader)) (x_2 : Leader) : Option (Bool) :=
 (slices_IndexFunc_Leader N x_1 x_2).bind fun y_101 =>
 some (decide (y_101 ≥ (0 : Int)))
theorem sem_slices_ContainsFunc_Leader (N : Nat) (x_1 : (List Leader)) (x_2 : Leader) (r : Bool) (h : slices_ContainsFunc_Leader N x_1 x_2 = some r) : Says Try.prog 82 [RO 129 (x_1.map (encLeader false)), .fn 83 [.ptr 0 0]] 1 [(0, .box [VI x_2.Node, VI x_2.Term, VI x_2.Log.Start, VI x_2.Log.StartTerm, RO 48 (x_2.Log.Entries.map encEntry)])] (VB r) [(0, .box [VI x_2.Node, VI x_2.Term, VI x_2.Log.Start, VI x_2.Log.StartTerm, RO 48 (x_2.Log.Entries.map encEntry)])] := by
  unfold slices_ContainsFunc_Leader at h
  refine Says.of_run s82 Try.call82 rfl fun B hB => ?_
  have hm : B.m ≤ 1000 := by omega
  refine Run.seq ?_
  refine Run.ops hm ?_
  refine Ops.p rfl ?_
  refine Ops.nil ?_
  refine Run.seq ?_
  refine Run.ops hm ?_
  refine Ops.p rfl ?_
  refine Ops.p rfl ?_
  obtain ⟨y_101, hy_101, h⟩ := bindO h
  refine Ops.st (s := 5128) (Ev.call [0] [] 0 (sem_slices_IndexFunc_Leader N x_1 x_2 _ hy_101) rfl rfl (.cons (.c _) (.cons (.fn (.cons (.ptr rfl) .nil)) .nil)) rfl (.inl rfl) rfl rfl) rfl rfl ?_
  refine Ops.p rfl ?_
  refine Ops.p rfl ?_
  refine Ops.nil ?_
  refine Run.ret ?_
  obtain rfl := someO h
  exact Ends.mk (.inl rfl) hB rfl rfl rfl rfl
def impl_OneLeader_l1 (N : Nat) (x_1 : (List Leader)) : Nat → Int → Option ((Bool) ⊕ (Unit))
 | 0, _ => none
 | m + 1, x_168 =>
 (if (decide (x_168 < (x_1.length : Int))) = true then
 (at? x_1 x_168).bind fun x_182 =>
 (take? x_1 x_168).bind fun x_183 =>
 (slices_ContainsFunc_Leader N x_183 x_182).bind fun y_184 =>
 (if y_184 = true then
 some (Sum.inl false)
 else
 impl_OneLeader_l1 N x_1 m (w64 (x_168 + (1 : Int))))
 else
 some (Sum.inr ()))
def impl_OneLeader_l1_r (N : Nat) (x_1 : (List Leader)) : (List Leader) → Int → Option ((Bool) ⊕ (Unit))
 | [], x_168 =>
 some (Sum.inr ())
 | hd :: tl, x_168 =>
 (some hd).bind fun x_182 =>
 (take? x_1 x_168).bind fun x_183 =>
 (slices_ContainsFunc_Leader N x_183 x_182).bind fun y_184 =>
 (if y_184 = true then
 some (Sum.inl false)
 else
 impl_OneLeader_l1_r N x_1 tl (w64 (x_168 + (1 : Int))))
theorem impl_OneLeader_l1_rng (N : Nat) (x_1 : (List Leader)) (hx : x_1.length ≤ 1099511627776) : ∀ (d k m : Nat), x_1.length = k + d → d < m → impl_OneLeader_l1 N x_1 m (k : Int) = impl_OneLeader_l1_r N x_1 (x_1.drop k) (k : Int) := by
  intro d
  induction d with
  | zero =>
    intro k m hd hm
    obtain ⟨m, rfl⟩ : ∃ q, m = q + 1 := ⟨m - 1, by omega⟩
    rw [impl_OneLeader_l1, if_neg (by simp; omega), List.drop_eq_nil_of_le (by omega), impl_OneLeader_l1_r]
  | succ d ih =>
    intro k m hd hm
    obtain ⟨m, rfl⟩ : ∃ q, m = q + 1 := ⟨m - 1, by omega⟩
    have hk : k < x_1.length := by omega
    rw [impl_OneLeader_l1, if_pos (by simp; omega), List.drop_eq_getElem_cons hk, impl_OneLeader_l1_r]
    have h1 := at_lt hk
    have h2 := w64_succ (k := k) (by omega)
    have h3 := ih (k + 1) m
    simp only [h1, h2, h3 (by omega) (by omega)]
theorem impl_OneLeader_l1_eq {N : Nat} (x_1 : (List Leader)) (hx : x_1.length ≤ 1099511627776) (hN : x_1.length < N) : impl_OneLeader_l1 N x_1 N 0 = impl_OneLeader_l1_r N x_1 x_1 0 := impl_OneLeader_l1_rng N x_1 hx x_1.length 0 N (by omega) hN
def impl_OneLeader (N : Nat) (x_1 : (List Leader)) : Option (Bool) :=
 joinP (fun (v_164 : Unit) =>
 some true) fun j_164 =>
 (impl_OneLeader_l1 N x_1 N (0 : Int)).bind (Sum.elim (fun v_176 => some v_176) (fun (v_177 : Unit) => j_164 ()))
theorem sem_impl_OneLeader (N : Nat) (x_1 : (List Leader)) (r : Bool) (h : impl_OneLeader N x_1 = some r) : Says Try.prog 28 [RO 129 (x_1.map (encLeader false))] 0 [] (VB r) [] := by
  unfold impl_OneLeader at h
  refine Says.of_run s28 Try.call28 rfl fun B hB => ?_
  have hm : B.m ≤ 1000 := by omega
  refine Run.seq ?_
  refine Run.ops hm ?_
  refine Ops.p rfl ?_
  refine Ops.nil ?_
  refine Run.seqO h (fun (v_164 : Unit) => []) (fun (v_164 : Unit) => []) (fun h => ?_) (fun v_164 h => ?_)
  · skip
    refine Run.seq ?_
    refine Run.ops hm ?_
    refine Ops.p rfl ?_
    refine Ops.st (s := 5112) (Ev.lnF rfl) rfl rfl ?_
    refine Ops.p rfl ?_
    refine Ops.nil ?_
    refine Run.block ?_
    obtain ⟨res_177, h, hk_177⟩ := bindO h
    refine Run.loop (n := N) (fun m_177 fr σ => ∃ (x_168 : Int), impl_OneLeader_l1 N x_1 m_177 x_168 = some res_177 ∧ fr = [(0, RO 129 (x_1.map (encLeader false))), (5, RO 129 (x_1.map (encLeader false))), (6, VI (x_1.length : Int)), (7, VI x_168)] ∧ σ = []) (gh_canonE (ts := [0, 5, 6, 7]) hB rfl rfl rfl) ⟨_, h, rfl, rfl⟩ ?_
    rintro m_177 fr σ ⟨x_168, h, rfl, rfl⟩
    obtain _ | m_177 := m_177
    · rw [impl_OneLeader_l1] at h; cases h
    rw [impl_OneLeader_l1] at h
    refine Run.seq ?_
    refine Run.ops hm ?_
    refine Ops.p rfl ?_
    refine Ops.nil ?_
    refine Run.seq ?_
    refine Run.condO rfl h (fun g_180 h => ?_) (fun g_180 h => ?_)
    · skip
      refine Run.skip ?_
      refine Run.seq ?_
      refine Run.block ?_
      refine Run.seq ?_
      refine Run.ops hm ?_
      refine Ops.p rfl ?_
      obtain ⟨x_182, hx_182, h⟩ := bindO h
      refine Ops.st (s := 13304) (Ev.iaF rfl rfl hx_182) rfl rfl ?_
      refine Ops.p rfl ?_
      refine Ops.st (s := 13336) (.al rfl rfl) rfl rfl ?_
      refine Ops.p rfl ?_
      refine Ops.s0 (s := 13368) (.sto rfl rfl rfl rfl rfl rfl) rfl rfl ?_
      refine Ops.nil ?_
      refine Run.seq ?_
      refine Run.ops hm ?_
      refine Ops.p rfl ?_
      refine Ops.p rfl ?_
      obtain ⟨x_183, hx_183, h⟩ := bindO h
      refine Ops.st (s := 17416) (Ev.slFh rfl rfl hx_183) rfl rfl ?_
      refine Ops.p rfl ?_
      obtain ⟨y_184, hy_184, h⟩ := bindO h
      refine Ops.st (s := 17448) (Ev.call [13336] [] 0 (sem_slices_ContainsFunc_Leader N x_183 x_182 _ hy_184) rfl rfl (.cons (.c _) (.cons (.fn (.cons (.ptr rfl) .nil)) .nil)) rfl (.inl rfl) rfl rfl) rfl rfl ?_
      refine Ops.nil ?_
      refine Run.condO rfl h (fun g_185 h => ?_) (fun g_185 h => ?_)
      · skip
        refine Run.seq ?_
        refine Run.ops hm ?_
        refine Ops.p rfl ?_
        refine Ops.nil ?_
        refine Run.ret ?_
        obtain rfl := someO h
        have h := hk_177
        replace h := inlO h
        obtain rfl := someO h
        exact Ends.mk (.inl rfl) hB rfl rfl rfl rfl
      · skip
        refine Run.skip ?_
        refine Run.ops hm ?_
        refine Ops.p rfl ?_
        refine Ops.p rfl ?_
        refine Ops.nil ?_
        exact ⟨m_177, Nat.lt_succ_self m_177, _, _, gh_canonE (ts := [0, 5, 6, 7]) hB rfl rfl rfl, _, h, rfl, rfl⟩
    · skip
      refine Run.exit ?_
      obtain rfl := someO h
      have h := hk_177
      replace h := inrO h
      exact ⟨_, _, gh_canonE (ts := []) hB rfl rfl rfl, (), h, rfl, rfl⟩
  · skip
    refine Run.seq ?_
    refine Run.ops hm ?_
    refine Ops.p rfl ?_
    refine Ops.nil ?_
    refine Run.ret ?_
    obtain rfl := someO h
    exact Ends.mk (.inl rfl) hB rfl rfl rfl rfl
end Go.Proofs.Ytebbgdjmplceiaa.Pe.FnExactOneLeader
