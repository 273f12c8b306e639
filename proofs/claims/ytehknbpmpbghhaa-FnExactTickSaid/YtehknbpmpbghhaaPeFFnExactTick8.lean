/- Functions, as pure functions; and that Go does just that. -/
import Derived.Test.YtehknbpmpbghhaaPeFFnExactTick7
namespace Go.Proofs.Ytehknbpmpbghhaa.Pe.FnExactTick
open Go Go.RowKit
set_option linter.unusedVariables false
set_option linter.unusedSimpArgs false
set_option maxHeartbeats 40000000
def laws_heldIntS_l1 (N : Nat) (x_1 : (List Int)) : Nat → Int → Int → Option ((Int) ⊕ (Int))
 | 0, _, _ => none
 | m + 1, x_205, x_206 =>
 (if (decide (x_206 < (x_1.length : Int))) = true then
 (at? x_1 x_206).bind fun x_236 =>
 (if (x_236 != x_205) = true then
 some (Sum.inl (-1 : Int))
 else
 laws_heldIntS_l1 N x_1 m (w64 (x_205 + (1 : Int))) (w64 (x_206 + (1 : Int))))
 else
 some (Sum.inr x_205))
def laws_heldIntS_l1_r (N : Nat) (x_1 : (List Int)) : (List Int) → Int → Int → Option ((Int) ⊕ (Int))
 | [], x_205, x_206 =>
 some (Sum.inr x_205)
 | hd :: tl, x_205, x_206 =>
 (some hd).bind fun x_236 =>
 (if (x_236 != x_205) = true then
 some (Sum.inl (-1 : Int))
 else
 laws_heldIntS_l1_r N x_1 tl (w64 (x_205 + (1 : Int))) (w64 (x_206 + (1 : Int))))
theorem laws_heldIntS_l1_rng (N : Nat) (x_1 : (List Int)) (hx : x_1.length ≤ 1099511627776) : ∀ (d k m : Nat) (x_205 : Int), x_1.length = k + d → d < m → laws_heldIntS_l1 N x_1 m x_205 (k : Int) = laws_heldIntS_l1_r N x_1 (x_1.drop k) x_205 (k : Int) := by
  intro d
  induction d with
  | zero =>
    intro k m x_205 hd hm
    obtain ⟨m, rfl⟩ : ∃ q, m = q + 1 := ⟨m - 1, by omega⟩
    rw [laws_heldIntS_l1, if_neg (by simp; omega), List.drop_eq_nil_of_le (by omega), laws_heldIntS_l1_r]
  | succ d ih =>
    intro k m x_205 hd hm
    obtain ⟨m, rfl⟩ : ∃ q, m = q + 1 := ⟨m - 1, by omega⟩
    have hk : k < x_1.length := by omega
    rw [laws_heldIntS_l1, if_pos (by simp; omega), List.drop_eq_getElem_cons hk, laws_heldIntS_l1_r]
    have h1 := at_lt hk
    have h2 := w64_succ (k := k) (by omega)
    have h3 := ih (k + 1) m
    simp only [h1, h2, h3 _ (by omega) (by omega)]
theorem laws_heldIntS_l1_eq {N : Nat} (x_1 : (List Int)) (hx : x_1.length ≤ 1099511627776) (hN : x_1.length < N) (x_205 : Int) : laws_heldIntS_l1 N x_1 N x_205 0 = laws_heldIntS_l1_r N x_1 x_1 x_205 0 := laws_heldIntS_l1_rng N x_1 hx x_1.length 0 N x_205 (by omega) hN
def laws_heldIntS (N : Nat) (x_1 : (List Int)) (x_2 : Int) : Option (Int) :=
 joinP (fun (v_203 : Int) =>
 some v_203) fun j_203 =>
 (laws_heldIntS_l1 N x_1 N x_2 (0 : Int)).bind (Sum.elim (fun v_221 => some v_221) (fun (v_222 : Int) => j_203 v_222))
theorem sem_laws_heldIntS (N : Nat) (x_1 : (List Int)) (x_2 : Int) (r : Int) (h : laws_heldIntS N x_1 x_2 = some r) : Says Try.prog 109 [RO 3 (x_1.map encI), VI x_2] 0 [] (VI r) [] := by
  unfold laws_heldIntS at h
  refine Says.of_run s109 Try.call109 rfl fun B hB => ?_
  have hm : B.m ≤ 1000 := by omega
  refine Run.seq (Run.ops hm (Ops.p rfl (Ops.nil (Run.seqO h (fun (v_203 : Int) => [(1, VI v_203)]) (fun (v_203 : Int) => []) (fun h => ?_) (fun v_203 h => ?_)))))
  · refine Run.seq (Run.ops hm (Ops.p rfl (Ops.nil (Run.block ?_))))
    obtain ⟨res_222, h, hk_222⟩ := bindO h
    refine Run.loop (n := N) (fun m_222 fr σ => ∃ (x_205 : Int), ∃ (x_206 : Int), laws_heldIntS_l1 N x_1 m_222 x_205 x_206 = some res_222 ∧ fr = [(0, RO 3 (x_1.map encI)), (1, VI x_205), (5, VI x_206)] ∧ σ = []) (gh_pk [0, 1, 5] [] hB rfl rfl rfl rfl) ⟨_, _, h, rfl, rfl⟩ ?_
    rintro m_222 fr σ ⟨x_205, x_206, h, rfl, rfl⟩
    obtain _ | m_222 := m_222
    · rw [laws_heldIntS_l1] at h; cases h
    rw [laws_heldIntS_l1] at h
    refine Run.seq (Run.seq (Run.ops hm (Ops.p rfl (Ops.p rfl (Ops.st (s := 9224) (Ev.lnF rfl) rfl rfl (Ops.p rfl (Ops.nil (Run.condO rfl h (fun g_225 h => ?_) (fun g_225 h => ?_)))))))))
    · refine Run.skip (Run.seq (Run.block (Run.seq (Run.seq (Run.ops hm (Ops.p rfl (Ops.p rfl ?_)))))))
      obtain ⟨x_236, hx_236, h⟩ := bindO h
      refine Ops.st (s := 17416) (Ev.iaF rfl rfl hx_236) rfl rfl (Ops.p rfl (Ops.p rfl (Ops.p rfl (Ops.nil (Run.condO rfl h (fun g_237 h => ?_) (fun g_237 h => ?_))))))
      · refine Run.seq (Run.ops hm (Ops.p rfl (Ops.nil (Run.ret ?_))))
        obtain rfl := someO h
        have h := hk_222
        replace h := inlO h
        obtain rfl := someO h
        exact Ends.mkG (.inl rfl) rfl (gh_pk [0] [] hB rfl rfl rfl rfl) rfl rfl
      · exact Run.skip (Run.ops hm (Ops.p rfl (Ops.p rfl (Ops.p rfl (Ops.nil (Run.ops hm (Ops.p rfl (Ops.p rfl (Ops.p rfl (Ops.nil (⟨m_222, Nat.lt_succ_self m_222, _, _, (gh_pk [0, 1, 5] [] hB rfl rfl rfl rfl), _, _, h, rfl, rfl⟩)))))))))))
    · refine Run.exit ?_
      obtain rfl := someO h
      have h := hk_222
      replace h := inrO h
      exact ⟨_, _, (gh_pk [1] [] hB rfl rfl rfl rfl), x_205, h, rfl, rfl⟩
  · refine Run.seq (Run.ops hm (Ops.p rfl (Ops.p rfl (Ops.nil (Run.ret ?_)))))
    obtain rfl := someO h
    exact Ends.mkG (.inl rfl) rfl (gh_pk [0] [] hB rfl rfl rfl rfl) rfl rfl
def laws_heldEntryS_l1 (N : Nat) (x_1 : (List Entry)) : Nat → Int → Int → Option ((Int) ⊕ (Int))
 | 0, _, _ => none
 | m + 1, x_397, x_398 =>
 (if (decide (x_398 < (x_1.length : Int))) = true then
 (at? x_1 x_398).bind fun x_476 =>
 (if (x_476.Term != x_397) = true then
 some (Sum.inl (-1 : Int))
 else
 (at? x_1 x_398).bind fun x_482 =>
 (if (x_482.Kind != (w64 (x_397 + (1 : Int)))) = true then
 some (Sum.inl (-1 : Int))
 else
 (at? x_1 x_398).bind fun x_491 =>
 (laws_markText N (w64 ((w64 (x_397 + (1 : Int))) + (1 : Int)))).bind fun y_492 =>
 (if (!decide (x_491.Data = y_492)) = true then
 some (Sum.inl (-1 : Int))
 else
 laws_heldEntryS_l1 N x_1 m (w64 ((w64 ((w64 (x_397 + (1 : Int))) + (1 : Int))) + (1 : Int))) (w64 (x_398 + (1 : Int))))))
 else
 some (Sum.inr x_397))
def laws_heldEntryS_l1_r (N : Nat) (x_1 : (List Entry)) : (List Entry) → Int → Int → Option ((Int) ⊕ (Int))
 | [], x_397, x_398 =>
 some (Sum.inr x_397)
 | hd :: tl, x_397, x_398 =>
 (some hd).bind fun x_476 =>
 (if (x_476.Term != x_397) = true then
 some (Sum.inl (-1 : Int))
 else
 (some hd).bind fun x_482 =>
 (if (x_482.Kind != (w64 (x_397 + (1 : Int)))) = true then
 some (Sum.inl (-1 : Int))
 else
 (some hd).bind fun x_491 =>
 (laws_markText N (w64 ((w64 (x_397 + (1 : Int))) + (1 : Int)))).bind fun y_492 =>
 (if (!decide (x_491.Data = y_492)) = true then
 some (Sum.inl (-1 : Int))
 else
 laws_heldEntryS_l1_r N x_1 tl (w64 ((w64 ((w64 (x_397 + (1 : Int))) + (1 : Int))) + (1 : Int))) (w64 (x_398 + (1 : Int))))))
theorem laws_heldEntryS_l1_rng (N : Nat) (x_1 : (List Entry)) (hx : x_1.length ≤ 1099511627776) : ∀ (d k m : Nat) (x_397 : Int), x_1.length = k + d → d < m → laws_heldEntryS_l1 N x_1 m x_397 (k : Int) = laws_heldEntryS_l1_r N x_1 (x_1.drop k) x_397 (k : Int) := by
  intro d
  induction d with
  | zero =>
    intro k m x_397 hd hm
    obtain ⟨m, rfl⟩ : ∃ q, m = q + 1 := ⟨m - 1, by omega⟩
    rw [laws_heldEntryS_l1, if_neg (by simp; omega), List.drop_eq_nil_of_le (by omega), laws_heldEntryS_l1_r]
  | succ d ih =>
    intro k m x_397 hd hm
    obtain ⟨m, rfl⟩ : ∃ q, m = q + 1 := ⟨m - 1, by omega⟩
    have hk : k < x_1.length := by omega
    rw [laws_heldEntryS_l1, if_pos (by simp; omega), List.drop_eq_getElem_cons hk, laws_heldEntryS_l1_r]
    have h1 := at_lt hk
    have h2 := w64_succ (k := k) (by omega)
    have h3 := ih (k + 1) m
    simp only [h1, h2, h3 _ (by omega) (by omega)]
theorem laws_heldEntryS_l1_eq {N : Nat} (x_1 : (List Entry)) (hx : x_1.length ≤ 1099511627776) (hN : x_1.length < N) (x_397 : Int) : laws_heldEntryS_l1 N x_1 N x_397 0 = laws_heldEntryS_l1_r N x_1 x_1 x_397 0 := laws_heldEntryS_l1_rng N x_1 hx x_1.length 0 N x_397 (by omega) hN
def laws_heldEntryS (N : Nat) (x_1 : (List Entry)) (x_2 : Int) : Option (Int) :=
 joinP (fun (v_395 : Int) =>
 some v_395) fun j_395 =>
 (laws_heldEntryS_l1 N x_1 N x_2 (0 : Int)).bind (Sum.elim (fun v_445 => some v_445) (fun (v_446 : Int) => j_395 v_446))
theorem sem_laws_heldEntryS (N : Nat) (x_1 : (List Entry)) (x_2 : Int) (r : Int) (h : laws_heldEntryS N x_1 x_2 = some r) : Says Try.prog 112 [RO 51 (x_1.map encEntry), VI x_2] 0 [] (VI r) [] := by
  unfold laws_heldEntryS at h
  refine Says.of_run s112 Try.call112 rfl fun B hB => ?_
  have hm : B.m ≤ 1000 := by omega
  refine Run.seq (Run.ops hm (Ops.p rfl (Ops.nil (Run.seqO h (fun (v_395 : Int) => [(1, VI v_395)]) (fun (v_395 : Int) => []) (fun h => ?_) (fun v_395 h => ?_)))))
  · refine Run.seq (Run.ops hm (Ops.p rfl (Ops.nil (Run.block ?_))))
    obtain ⟨res_446, h, hk_446⟩ := bindO h
    refine Run.loop (n := N) (fun m_446 fr σ => ∃ (x_397 : Int), ∃ (x_398 : Int), laws_heldEntryS_l1 N x_1 m_446 x_397 x_398 = some res_446 ∧ fr = [(0, RO 51 (x_1.map encEntry)), (1, VI x_397), (5, VI x_398)] ∧ σ = []) (gh_pk [0, 1, 5] [] hB rfl rfl rfl rfl) ⟨_, _, h, rfl, rfl⟩ ?_
    rintro m_446 fr σ ⟨x_397, x_398, h, rfl, rfl⟩
    obtain _ | m_446 := m_446
    · rw [laws_heldEntryS_l1] at h; cases h
    rw [laws_heldEntryS_l1] at h
    refine Run.seq (Run.seq (Run.ops hm (Ops.p rfl (Ops.p rfl (Ops.st (s := 9224) (Ev.lnF rfl) rfl rfl (Ops.p rfl (Ops.nil (Run.condO rfl h (fun g_449 h => ?_) (fun g_449 h => ?_)))))))))
    · refine Run.skip (Run.seq (Run.block (Run.seq (Run.seq (Run.ops hm (Ops.p rfl (Ops.p rfl ?_)))))))
      obtain ⟨x_476, hx_476, h⟩ := bindO h
      refine Ops.st (s := 17416) (Ev.iaF rfl rfl hx_476) rfl rfl (Ops.p rfl (Ops.p rfl (Ops.p rfl (Ops.p rfl (Ops.nil (Run.condO rfl h (fun g_477 h => ?_) (fun g_477 h => ?_)))))))
      · refine Run.seq (Run.ops hm (Ops.p rfl (Ops.nil (Run.ret ?_))))
        obtain rfl := someO h
        have h := hk_446
        replace h := inlO h
        obtain rfl := someO h
        exact Ends.mkG (.inl rfl) rfl (gh_pk [0] [] hB rfl rfl rfl rfl) rfl rfl
      · refine Run.skip (Run.seq (Run.ops hm (Ops.p rfl (Ops.p rfl (Ops.p rfl (Ops.nil (Run.seq (Run.seq (Run.ops hm (Ops.p rfl (Ops.p rfl ?_)))))))))))
        obtain ⟨x_482, hx_482, h⟩ := bindO h
        refine Ops.st (s := 29704) (Ev.iaF rfl rfl hx_482) rfl rfl (Ops.p rfl (Ops.p rfl (Ops.p rfl (Ops.p rfl (Ops.nil (Run.condO rfl h (fun g_483 h => ?_) (fun g_483 h => ?_)))))))
        · refine Run.seq (Run.ops hm (Ops.p rfl (Ops.nil (Run.ret ?_))))
          obtain rfl := someO h
          have h := hk_446
          replace h := inlO h
          obtain rfl := someO h
          exact Ends.mkG (.inl rfl) rfl (gh_pk [0] [] hB rfl rfl rfl rfl) rfl rfl
        · refine Run.skip (Run.seq (Run.ops hm (Ops.p rfl (Ops.p rfl (Ops.p rfl (Ops.nil (Run.seq (Run.seq (Run.draw hm hmix (OpsD.p rfl (OpsD.p rfl ?_)))))))))))
          obtain ⟨x_491, hx_491, h⟩ := bindO h
          refine OpsD.st (s := 41992) (Ev.iaF rfl rfl hx_491) rfl rfl (OpsD.p rfl (OpsD.p rfl (OpsD.p rfl ?_)))
          obtain ⟨y_492, hy_492, h⟩ := bindO h
          refine OpsD.st (s := 42056) (Ev.call [] [] 0 (sem_laws_markText N (w64 ((w64 (x_397 + (1 : Int))) + (1 : Int))) _ hy_492) rfl rfl (.cons (.c _) .nil) rfl (.inl rfl) rfl rfl) rfl rfl (OpsD.p rfl (OpsD.nil ⟨by kernel_rfl, ?_⟩))
          refine Run.condO rfl h (fun g_493 h => ?_) (fun g_493 h => ?_)
          · refine Run.seq (Run.ops hm (Ops.p rfl (Ops.nil (Run.ret ?_))))
            obtain rfl := someO h
            have h := hk_446
            replace h := inlO h
            obtain rfl := someO h
            exact Ends.mkG (.inl rfl) rfl (gh_pk [0] [] hB rfl rfl rfl rfl) rfl rfl
          · exact Run.skip (Run.ops hm (Ops.p rfl (Ops.p rfl (Ops.p rfl (Ops.nil (Run.ops hm (Ops.p rfl (Ops.p rfl (Ops.p rfl (Ops.nil (⟨m_446, Nat.lt_succ_self m_446, _, _, (gh_pk [0, 1, 5] [] hB rfl rfl rfl rfl), _, _, h, rfl, rfl⟩)))))))))))
    · refine Run.exit ?_
      obtain rfl := someO h
      have h := hk_446
      replace h := inrO h
      exact ⟨_, _, (gh_pk [1] [] hB rfl rfl rfl rfl), x_397, h, rfl, rfl⟩
  · refine Run.seq (Run.ops hm (Ops.p rfl (Ops.p rfl (Ops.nil (Run.ret ?_)))))
    obtain rfl := someO h
    exact Ends.mkG (.inl rfl) rfl (gh_pk [0] [] hB rfl rfl rfl rfl) rfl rfl
def laws_heldLog (N : Nat) (x_1 : Log) (x_2 : Int) : Option (Int) :=
 (laws_heldEntryS N x_1.Entries x_2).bind fun y_109 =>
 (if (decide (y_109 < (0 : Int))) = true then
 some (-1 : Int)
 else
 some y_109)
theorem sem_laws_heldLog (N : Nat) (x_1 : Log) (x_2 : Int) (r : Int) (h : laws_heldLog N x_1 x_2 = some r) : Says Try.prog 110 [.agg [VI x_1.Start, VI x_1.StartTerm, RO 51 (x_1.Entries.map encEntry)], VI x_2] 0 [] (VI r) [] := by
  unfold laws_heldLog at h
  refine Says.of_run s110 Try.call110 rfl fun B hB => ?_
  have hm : B.m ≤ 1000 := by omega
  refine Run.seq (Run.ops hm (Ops.st (s := 1000) (.bx rfl rfl) rfl rfl (Ops.p rfl (Ops.nil (Run.seq (Run.ops hm (Ops.p rfl (Ops.p rfl (Ops.p rfl ?_)))))))))
  obtain ⟨y_109, hy_109, h⟩ := bindO h
  refine Ops.st (s := 5144) (Ev.call [] [] 0 (sem_laws_heldEntryS N x_1.Entries x_2 _ hy_109) rfl rfl (.cons (.c _) (.cons (.c _) .nil)) rfl (.inl rfl) rfl rfl) rfl rfl (Ops.p rfl (Ops.nil (Run.seq (Run.seq (Run.ops hm (Ops.p rfl (Ops.p rfl (Ops.nil (Run.condO rfl h (fun g_111 h => ?_) (fun g_111 h => ?_))))))))))
  · refine Run.seq (Run.ops hm (Ops.p rfl (Ops.nil (Run.ret ?_))))
    obtain rfl := someO h
    exact Ends.mkG (.inl rfl) rfl (gh_pk [0] [] hB rfl rfl rfl rfl) rfl rfl
  · refine Run.skip (Run.seq (Run.ops hm (Ops.p rfl (Ops.p rfl (Ops.nil (Run.ret ?_))))))
    obtain rfl := someO h
    exact Ends.mkG (.inl rfl) rfl (gh_pk [0] [] hB rfl rfl rfl rfl) rfl rfl
def laws_heldPeerS_l1 (N : Nat) (x_1 : (List Peer)) : Nat → Int → Int → Option ((Int) ⊕ (Int))
 | 0, _, _ => none
 | m + 1, x_421, x_422 =>
 (if (decide (x_422 < (x_1.length : Int))) = true then
 (at? x_1 x_422).bind fun x_506 =>
 (if (x_506.Id != x_421) = true then
 some (Sum.inl (-1 : Int))
 else
 (at? x_1 x_422).bind fun x_512 =>
 (if (x_512.Next != (w64 (x_421 + (1 : Int)))) = true then
 some (Sum.inl (-1 : Int))
 else
 (at? x_1 x_422).bind fun x_518 =>
 (if (x_518.Match != (w64 ((w64 (x_421 + (1 : Int))) + (1 : Int)))) = true then
 some (Sum.inl (-1 : Int))
 else
 (at? x_1 x_422).bind fun x_524 =>
 (if (x_524.Sent != (w64 ((w64 ((w64 (x_421 + (1 : Int))) + (1 : Int))) + (1 : Int)))) = true then
 some (Sum.inl (-1 : Int))
 else
 laws_heldPeerS_l1 N x_1 m (w64 ((w64 ((w64 ((w64 (x_421 + (1 : Int))) + (1 : Int))) + (1 : Int))) + (1 : Int))) (w64 (x_422 + (1 : Int)))))))
 else
 some (Sum.inr x_421))
def laws_heldPeerS_l1_r (N : Nat) (x_1 : (List Peer)) : (List Peer) → Int → Int → Option ((Int) ⊕ (Int))
 | [], x_421, x_422 =>
 some (Sum.inr x_421)
 | hd :: tl, x_421, x_422 =>
 (some hd).bind fun x_506 =>
 (if (x_506.Id != x_421) = true then
 some (Sum.inl (-1 : Int))
 else
 (some hd).bind fun x_512 =>
 (if (x_512.Next != (w64 (x_421 + (1 : Int)))) = true then
 some (Sum.inl (-1 : Int))
 else
 (some hd).bind fun x_518 =>
 (if (x_518.Match != (w64 ((w64 (x_421 + (1 : Int))) + (1 : Int)))) = true then
 some (Sum.inl (-1 : Int))
 else
 (some hd).bind fun x_524 =>
 (if (x_524.Sent != (w64 ((w64 ((w64 (x_421 + (1 : Int))) + (1 : Int))) + (1 : Int)))) = true then
 some (Sum.inl (-1 : Int))
 else
 laws_heldPeerS_l1_r N x_1 tl (w64 ((w64 ((w64 ((w64 (x_421 + (1 : Int))) + (1 : Int))) + (1 : Int))) + (1 : Int))) (w64 (x_422 + (1 : Int)))))))
theorem laws_heldPeerS_l1_rng (N : Nat) (x_1 : (List Peer)) (hx : x_1.length ≤ 1099511627776) : ∀ (d k m : Nat) (x_421 : Int), x_1.length = k + d → d < m → laws_heldPeerS_l1 N x_1 m x_421 (k : Int) = laws_heldPeerS_l1_r N x_1 (x_1.drop k) x_421 (k : Int) := by
  intro d
  induction d with
  | zero =>
    intro k m x_421 hd hm
    obtain ⟨m, rfl⟩ : ∃ q, m = q + 1 := ⟨m - 1, by omega⟩
    rw [laws_heldPeerS_l1, if_neg (by simp; omega), List.drop_eq_nil_of_le (by omega), laws_heldPeerS_l1_r]
  | succ d ih =>
    intro k m x_421 hd hm
    obtain ⟨m, rfl⟩ : ∃ q, m = q + 1 := ⟨m - 1, by omega⟩
    have hk : k < x_1.length := by omega
    rw [laws_heldPeerS_l1, if_pos (by simp; omega), List.drop_eq_getElem_cons hk, laws_heldPeerS_l1_r]
    have h1 := at_lt hk
    have h2 := w64_succ (k := k) (by omega)
    have h3 := ih (k + 1) m
    simp only [h1, h2, h3 _ (by omega) (by omega)]
theorem laws_heldPeerS_l1_eq {N : Nat} (x_1 : (List Peer)) (hx : x_1.length ≤ 1099511627776) (hN : x_1.length < N) (x_421 : Int) : laws_heldPeerS_l1 N x_1 N x_421 0 = laws_heldPeerS_l1_r N x_1 x_1 x_421 0 := laws_heldPeerS_l1_rng N x_1 hx x_1.length 0 N x_421 (by omega) hN
def laws_heldPeerS (N : Nat) (x_1 : (List Peer)) (x_2 : Int) : Option (Int) :=
 joinP (fun (v_419 : Int) =>
 some v_419) fun j_419 =>
 (laws_heldPeerS_l1 N x_1 N x_2 (0 : Int)).bind (Sum.elim (fun v_473 => some v_473) (fun (v_474 : Int) => j_419 v_474))
theorem sem_laws_heldPeerS (N : Nat) (x_1 : (List Peer)) (x_2 : Int) (r : Int) (h : laws_heldPeerS N x_1 x_2 = some r) : Says Try.prog 111 [RO 135 (x_1.map encPeer), VI x_2] 0 [] (VI r) [] := by
  unfold laws_heldPeerS at h
  refine Says.of_run s111 Try.call111 rfl fun B hB => ?_
  have hm : B.m ≤ 1000 := by omega
  refine Run.seq (Run.ops hm (Ops.p rfl (Ops.nil (Run.seqO h (fun (v_419 : Int) => [(1, VI v_419)]) (fun (v_419 : Int) => []) (fun h => ?_) (fun v_419 h => ?_)))))
  · refine Run.seq (Run.ops hm (Ops.p rfl (Ops.nil (Run.block ?_))))
    obtain ⟨res_474, h, hk_474⟩ := bindO h
    refine Run.loop (n := N) (fun m_474 fr σ => ∃ (x_421 : Int), ∃ (x_422 : Int), laws_heldPeerS_l1 N x_1 m_474 x_421 x_422 = some res_474 ∧ fr = [(0, RO 135 (x_1.map encPeer)), (1, VI x_421), (5, VI x_422)] ∧ σ = []) (gh_pk [0, 1, 5] [] hB rfl rfl rfl rfl) ⟨_, _, h, rfl, rfl⟩ ?_
    rintro m_474 fr σ ⟨x_421, x_422, h, rfl, rfl⟩
    obtain _ | m_474 := m_474
    · rw [laws_heldPeerS_l1] at h; cases h
    rw [laws_heldPeerS_l1] at h
    refine Run.seq (Run.seq (Run.ops hm (Ops.p rfl (Ops.p rfl (Ops.st (s := 9224) (Ev.lnF rfl) rfl rfl (Ops.p rfl (Ops.nil (Run.condO rfl h (fun g_477 h => ?_) (fun g_477 h => ?_)))))))))
    · refine Run.skip (Run.seq (Run.block (Run.seq (Run.seq (Run.ops hm (Ops.p rfl (Ops.p rfl ?_)))))))
      obtain ⟨x_506, hx_506, h⟩ := bindO h
      refine Ops.st (s := 17416) (Ev.iaF rfl rfl hx_506) rfl rfl (Ops.p rfl (Ops.p rfl (Ops.p rfl (Ops.p rfl (Ops.nil (Run.condO rfl h (fun g_507 h => ?_) (fun g_507 h => ?_)))))))
      · refine Run.seq (Run.ops hm (Ops.p rfl (Ops.nil (Run.ret ?_))))
        obtain rfl := someO h
        have h := hk_474
        replace h := inlO h
        obtain rfl := someO h
        exact Ends.mkG (.inl rfl) rfl (gh_pk [0] [] hB rfl rfl rfl rfl) rfl rfl
      · refine Run.skip (Run.seq (Run.ops hm (Ops.p rfl (Ops.p rfl (Ops.p rfl (Ops.nil (Run.seq (Run.seq (Run.ops hm (Ops.p rfl (Ops.p rfl ?_)))))))))))
        obtain ⟨x_512, hx_512, h⟩ := bindO h
        refine Ops.st (s := 29704) (Ev.iaF rfl rfl hx_512) rfl rfl (Ops.p rfl (Ops.p rfl (Ops.p rfl (Ops.p rfl (Ops.nil (Run.condO rfl h (fun g_513 h => ?_) (fun g_513 h => ?_)))))))
        · refine Run.seq (Run.ops hm (Ops.p rfl (Ops.nil (Run.ret ?_))))
          obtain rfl := someO h
          have h := hk_474
          replace h := inlO h
          obtain rfl := someO h
          exact Ends.mkG (.inl rfl) rfl (gh_pk [0] [] hB rfl rfl rfl rfl) rfl rfl
        · refine Run.skip (Run.seq (Run.ops hm (Ops.p rfl (Ops.p rfl (Ops.p rfl (Ops.nil (Run.seq (Run.seq (Run.ops hm (Ops.p rfl (Ops.p rfl ?_)))))))))))
          obtain ⟨x_518, hx_518, h⟩ := bindO h
          refine Ops.st (s := 41992) (Ev.iaF rfl rfl hx_518) rfl rfl (Ops.p rfl (Ops.p rfl (Ops.p rfl (Ops.p rfl (Ops.nil (Run.condO rfl h (fun g_519 h => ?_) (fun g_519 h => ?_)))))))
          · refine Run.seq (Run.ops hm (Ops.p rfl (Ops.nil (Run.ret ?_))))
            obtain rfl := someO h
            have h := hk_474
            replace h := inlO h
            obtain rfl := someO h
            exact Ends.mkG (.inl rfl) rfl (gh_pk [0] [] hB rfl rfl rfl rfl) rfl rfl
          · refine Run.skip (Run.seq (Run.ops hm (Ops.p rfl (Ops.p rfl (Ops.p rfl (Ops.nil (Run.seq (Run.seq (Run.ops hm (Ops.p rfl (Ops.p rfl ?_)))))))))))
            obtain ⟨x_524, hx_524, h⟩ := bindO h
            refine Ops.st (s := 54280) (Ev.iaF rfl rfl hx_524) rfl rfl (Ops.p rfl (Ops.p rfl (Ops.p rfl (Ops.p rfl (Ops.nil (Run.condO rfl h (fun g_525 h => ?_) (fun g_525 h => ?_)))))))
            · refine Run.seq (Run.ops hm (Ops.p rfl (Ops.nil (Run.ret ?_))))
              obtain rfl := someO h
              have h := hk_474
              replace h := inlO h
              obtain rfl := someO h
              exact Ends.mkG (.inl rfl) rfl (gh_pk [0] [] hB rfl rfl rfl rfl) rfl rfl
            · exact Run.skip (Run.ops hm (Ops.p rfl (Ops.p rfl (Ops.p rfl (Ops.nil (Run.ops hm (Ops.p rfl (Ops.p rfl (Ops.p rfl (Ops.nil (⟨m_474, Nat.lt_succ_self m_474, _, _, (gh_pk [0, 1, 5] [] hB rfl rfl rfl rfl), _, _, h, rfl, rfl⟩)))))))))))
    · refine Run.exit ?_
      obtain rfl := someO h
      have h := hk_474
      replace h := inrO h
      exact ⟨_, _, (gh_pk [1] [] hB rfl rfl rfl rfl), x_421, h, rfl, rfl⟩
  · refine Run.seq (Run.ops hm (Ops.p rfl (Ops.p rfl (Ops.nil (Run.ret ?_)))))
    obtain rfl := someO h
    exact Ends.mkG (.inl rfl) rfl (gh_pk [0] [] hB rfl rfl rfl rfl) rfl rfl
def laws_heldNode (N : Nat) (x_1 : Node) (x_2 : Int) : Option (Int) :=
 (laws_heldIntS N x_1.Conf x_2).bind fun y_127 =>
 (if (decide (y_127 < (0 : Int))) = true then
 some (-1 : Int)
 else
 (laws_heldLog N x_1.Log y_127).bind fun y_133 =>
 (if (decide (y_133 < (0 : Int))) = true then
 some (-1 : Int)
 else
 (laws_heldIntS N x_1.Votes y_133).bind fun y_139 =>
 (if (decide (y_139 < (0 : Int))) = true then
 some (-1 : Int)
 else
 (laws_heldPeerS N x_1.Peers y_139).bind fun y_145 =>
 (if (decide (y_145 < (0 : Int))) = true then
 some (-1 : Int)
 else
 some y_145))))
theorem sem_laws_heldNode (N : Nat) (x_1 : Node) (x_2 : Int) (r : Int) (h : laws_heldNode N x_1 x_2 = some r) : Says Try.prog 35 [.agg [VI x_1.Id, VI x_1.Term, VI x_1.Vote, VI x_1.Role, VI x_1.Lead, RO 3 (x_1.Conf.map encI), VI x_1.Log.Start, VI x_1.Log.StartTerm, RO 51 (x_1.Log.Entries.map encEntry), VI x_1.Commit, VI x_1.Clock, VI x_1.Limit, RO 3 (x_1.Votes.map encI), RO 135 (x_1.Peers.map encPeer)], VI x_2] 0 [] (VI r) [] := by
  unfold laws_heldNode at h
  refine Says.of_run s35 Try.call35 rfl fun B hB => ?_
  have hm : B.m ≤ 1000 := by omega
  refine Run.seq (Run.ops hm (Ops.st (s := 1000) (.bx rfl rfl) rfl rfl (Ops.p rfl (Ops.nil (Run.seq (Run.ops hm (Ops.p rfl (Ops.p rfl (Ops.p rfl ?_)))))))))
  obtain ⟨y_127, hy_127, h⟩ := bindO h
  refine Ops.st (s := 5144) (Ev.call [] [] 0 (sem_laws_heldIntS N x_1.Conf x_2 _ hy_127) rfl rfl (.cons (.c _) (.cons (.c _) .nil)) rfl (.inl rfl) rfl rfl) rfl rfl (Ops.p rfl (Ops.nil (Run.seq (Run.seq (Run.ops hm (Ops.p rfl (Ops.p rfl (Ops.nil (Run.condO rfl h (fun g_129 h => ?_) (fun g_129 h => ?_))))))))))
  · refine Run.seq (Run.ops hm (Ops.p rfl (Ops.nil (Run.ret ?_))))
    obtain rfl := someO h
    exact Ends.mkG (.inl rfl) rfl (gh_pk [0] [] hB rfl rfl rfl rfl) rfl rfl
  · refine Run.skip (Run.seq (Run.ops hm (Ops.p rfl (Ops.p rfl (Ops.p rfl ?_)))))
    obtain ⟨y_133, hy_133, h⟩ := bindO h
    refine Ops.st (s := 17432) (Ev.call [] [] 0 (sem_laws_heldLog N x_1.Log y_127 _ hy_133) rfl rfl (.cons (.agg (.cons (.c _) (.cons (.c _) (.cons (.c _) .nil)))) (.cons (.c _) .nil)) rfl (.inl rfl) rfl rfl) rfl rfl (Ops.p rfl (Ops.nil (Run.seq (Run.seq (Run.ops hm (Ops.p rfl (Ops.p rfl (Ops.nil (Run.condO rfl h (fun g_135 h => ?_) (fun g_135 h => ?_))))))))))
    · refine Run.seq (Run.ops hm (Ops.p rfl (Ops.nil (Run.ret ?_))))
      obtain rfl := someO h
      exact Ends.mkG (.inl rfl) rfl (gh_pk [0] [] hB rfl rfl rfl rfl) rfl rfl
    · refine Run.skip (Run.seq (Run.ops hm (Ops.p rfl (Ops.p rfl (Ops.p rfl ?_)))))
      obtain ⟨y_139, hy_139, h⟩ := bindO h
      refine Ops.st (s := 29720) (Ev.call [] [] 0 (sem_laws_heldIntS N x_1.Votes y_133 _ hy_139) rfl rfl (.cons (.c _) (.cons (.c _) .nil)) rfl (.inl rfl) rfl rfl) rfl rfl (Ops.p rfl (Ops.nil (Run.seq (Run.seq (Run.ops hm (Ops.p rfl (Ops.p rfl (Ops.nil (Run.condO rfl h (fun g_141 h => ?_) (fun g_141 h => ?_))))))))))
      · refine Run.seq (Run.ops hm (Ops.p rfl (Ops.nil (Run.ret ?_))))
        obtain rfl := someO h
        exact Ends.mkG (.inl rfl) rfl (gh_pk [0] [] hB rfl rfl rfl rfl) rfl rfl
      · refine Run.skip (Run.seq (Run.ops hm (Ops.p rfl (Ops.p rfl (Ops.p rfl ?_)))))
        obtain ⟨y_145, hy_145, h⟩ := bindO h
        refine Ops.st (s := 42008) (Ev.call [] [] 0 (sem_laws_heldPeerS N x_1.Peers y_139 _ hy_145) rfl rfl (.cons (.c _) (.cons (.c _) .nil)) rfl (.inl rfl) rfl rfl) rfl rfl (Ops.p rfl (Ops.nil (Run.seq (Run.seq (Run.ops hm (Ops.p rfl (Ops.p rfl (Ops.nil (Run.condO rfl h (fun g_147 h => ?_) (fun g_147 h => ?_))))))))))
        · refine Run.seq (Run.ops hm (Ops.p rfl (Ops.nil (Run.ret ?_))))
          obtain rfl := someO h
          exact Ends.mkG (.inl rfl) rfl (gh_pk [0] [] hB rfl rfl rfl rfl) rfl rfl
        · refine Run.skip (Run.seq (Run.ops hm (Ops.p rfl (Ops.p rfl (Ops.nil (Run.ret ?_))))))
          obtain rfl := someO h
          exact Ends.mkG (.inl rfl) rfl (gh_pk [0] [] hB rfl rfl rfl rfl) rfl rfl
def laws_heldMessageS_l1 (N : Nat) (x_1 : (List Message)) : Nat → Int → Int → Option ((Int) ⊕ (Int))
 | 0, _, _ => none
 | m + 1, x_1237, x_1238 =>
 (if (decide (x_1238 < (x_1.length : Int))) = true then
 (at? x_1 x_1238).bind fun x_1526 =>
 (if (x_1526.Kind != x_1237) = true then
 some (Sum.inl (-1 : Int))
 else
 (at? x_1 x_1238).bind fun x_1532 =>
 (if (x_1532.From != (w64 (x_1237 + (1 : Int)))) = true then
 some (Sum.inl (-1 : Int))
 else
 (at? x_1 x_1238).bind fun x_1538 =>
 (if (x_1538.To != (w64 ((w64 (x_1237 + (1 : Int))) + (1 : Int)))) = true then
 some (Sum.inl (-1 : Int))
 else
 (at? x_1 x_1238).bind fun x_1544 =>
 (if (x_1544.Term != (w64 ((w64 ((w64 (x_1237 + (1 : Int))) + (1 : Int))) + (1 : Int)))) = true then
 some (Sum.inl (-1 : Int))
 else
 (at? x_1 x_1238).bind fun x_1550 =>
 (if (x_1550.Index != (w64 ((w64 ((w64 ((w64 (x_1237 + (1 : Int))) + (1 : Int))) + (1 : Int))) + (1 : Int)))) = true then
 some (Sum.inl (-1 : Int))
 else
 (at? x_1 x_1238).bind fun x_1556 =>
 (if (x_1556.LogTerm != (w64 ((w64 ((w64 ((w64 ((w64 (x_1237 + (1 : Int))) + (1 : Int))) + (1 : Int))) + (1 : Int))) + (1 : Int)))) = true then
 some (Sum.inl (-1 : Int))
 else
 (at? x_1 x_1238).bind fun x_1562 =>
 (if (x_1562.Commit != (w64 ((w64 ((w64 ((w64 ((w64 ((w64 (x_1237 + (1 : Int))) + (1 : Int))) + (1 : Int))) + (1 : Int))) + (1 : Int))) + (1 : Int)))) = true then
 some (Sum.inl (-1 : Int))
 else
 (at? x_1 x_1238).bind fun x_1571 =>
 (intD .rem .i64 (w64 ((w64 ((w64 ((w64 ((w64 ((w64 ((w64 (x_1237 + (1 : Int))) + (1 : Int))) + (1 : Int))) + (1 : Int))) + (1 : Int))) + (1 : Int))) + (1 : Int))) (3 : Int)).bind fun x_1572 =>
 (if ((x_1571.Ok == (x_1572 == (0 : Int))) ^^ true) = true then
 some (Sum.inl (-1 : Int))
 else
 (at? x_1 x_1238).bind fun x_1580 =>
 (laws_heldEntryS N x_1580.Entries (w64 ((w64 ((w64 ((w64 ((w64 ((w64 ((w64 ((w64 (x_1237 + (1 : Int))) + (1 : Int))) + (1 : Int))) + (1 : Int))) + (1 : Int))) + (1 : Int))) + (1 : Int))) + (1 : Int)))).bind fun y_1581 =>
 (if (decide (y_1581 < (0 : Int))) = true then
 some (Sum.inl (-1 : Int))
 else
 (at? x_1 x_1238).bind fun x_1590 =>
 (laws_heldIntS N x_1590.Conf y_1581).bind fun y_1591 =>
 (if (decide (y_1591 < (0 : Int))) = true then
 some (Sum.inl (-1 : Int))
 else
 (at? x_1 x_1238).bind fun x_1601 =>
 (laws_markText N y_1591).bind fun y_1602 =>
 (if (!decide (x_1601.Data = y_1602)) = true then
 some (Sum.inl (-1 : Int))
 else
 (at? x_1 x_1238).bind fun x_1611 =>
 (intD .rem .i64 (w64 (y_1591 + (1 : Int))) (3 : Int)).bind fun x_1612 =>
 (if ((x_1611.Last == (x_1612 == (0 : Int))) ^^ true) = true then
 some (Sum.inl (-1 : Int))
 else
 laws_heldMessageS_l1 N x_1 m (w64 ((w64 (y_1591 + (1 : Int))) + (1 : Int))) (w64 (x_1238 + (1 : Int)))))))))))))))
 else
 some (Sum.inr x_1237))
def laws_heldMessageS_l1_r (N : Nat) (x_1 : (List Message)) : (List Message) → Int → Int → Option ((Int) ⊕ (Int))
 | [], x_1237, x_1238 =>
 some (Sum.inr x_1237)
 | hd :: tl, x_1237, x_1238 =>
 (some hd).bind fun x_1526 =>
 (if (x_1526.Kind != x_1237) = true then
 some (Sum.inl (-1 : Int))
 else
 (some hd).bind fun x_1532 =>
 (if (x_1532.From != (w64 (x_1237 + (1 : Int)))) = true then
 some (Sum.inl (-1 : Int))
 else
 (some hd).bind fun x_1538 =>
 (if (x_1538.To != (w64 ((w64 (x_1237 + (1 : Int))) + (1 : Int)))) = true then
 some (Sum.inl (-1 : Int))
 else
 (some hd).bind fun x_1544 =>
 (if (x_1544.Term != (w64 ((w64 ((w64 (x_1237 + (1 : Int))) + (1 : Int))) + (1 : Int)))) = true then
 some (Sum.inl (-1 : Int))
 else
 (some hd).bind fun x_1550 =>
 (if (x_1550.Index != (w64 ((w64 ((w64 ((w64 (x_1237 + (1 : Int))) + (1 : Int))) + (1 : Int))) + (1 : Int)))) = true then
 some (Sum.inl (-1 : Int))
 else
 (some hd).bind fun x_1556 =>
 (if (x_1556.LogTerm != (w64 ((w64 ((w64 ((w64 ((w64 (x_1237 + (1 : Int))) + (1 : Int))) + (1 : Int))) + (1 : Int))) + (1 : Int)))) = true then
 some (Sum.inl (-1 : Int))
 else
 (some hd).bind fun x_1562 =>
 (if (x_1562.Commit != (w64 ((w64 ((w64 ((w64 ((w64 ((w64 (x_1237 + (1 : Int))) + (1 : Int))) + (1 : Int))) + (1 : Int))) + (1 : Int))) + (1 : Int)))) = true then
 some (Sum.inl (-1 : Int))
 else
 (some hd).bind fun x_1571 =>
 (intD .rem .i64 (w64 ((w64 ((w64 ((w64 ((w64 ((w64 ((w64 (x_1237 + (1 : Int))) + (1 : Int))) + (1 : Int))) + (1 : Int))) + (1 : Int))) + (1 : Int))) + (1 : Int))) (3 : Int)).bind fun x_1572 =>
 (if ((x_1571.Ok == (x_1572 == (0 : Int))) ^^ true) = true then
 some (Sum.inl (-1 : Int))
 else
 (some hd).bind fun x_1580 =>
 (laws_heldEntryS N x_1580.Entries (w64 ((w64 ((w64 ((w64 ((w64 ((w64 ((w64 ((w64 (x_1237 + (1 : Int))) + (1 : Int))) + (1 : Int))) + (1 : Int))) + (1 : Int))) + (1 : Int))) + (1 : Int))) + (1 : Int)))).bind fun y_1581 =>
 (if (decide (y_1581 < (0 : Int))) = true then
 some (Sum.inl (-1 : Int))
 else
 (some hd).bind fun x_1590 =>
 (laws_heldIntS N x_1590.Conf y_1581).bind fun y_1591 =>
 (if (decide (y_1591 < (0 : Int))) = true then
 some (Sum.inl (-1 : Int))
 else
 (some hd).bind fun x_1601 =>
 (laws_markText N y_1591).bind fun y_1602 =>
 (if (!decide (x_1601.Data = y_1602)) = true then
 some (Sum.inl (-1 : Int))
 else
 (some hd).bind fun x_1611 =>
 (intD .rem .i64 (w64 (y_1591 + (1 : Int))) (3 : Int)).bind fun x_1612 =>
 (if ((x_1611.Last == (x_1612 == (0 : Int))) ^^ true) = true then
 some (Sum.inl (-1 : Int))
 else
 laws_heldMessageS_l1_r N x_1 tl (w64 ((w64 (y_1591 + (1 : Int))) + (1 : Int))) (w64 (x_1238 + (1 : Int)))))))))))))))
theorem laws_heldMessageS_l1_rng (N : Nat) (x_1 : (List Message)) (hx : x_1.length ≤ 1099511627776) : ∀ (d k m : Nat) (x_1237 : Int), x_1.length = k + d → d < m → laws_heldMessageS_l1 N x_1 m x_1237 (k : Int) = laws_heldMessageS_l1_r N x_1 (x_1.drop k) x_1237 (k : Int) := by
  intro d
  induction d with
  | zero =>
    intro k m x_1237 hd hm
    obtain ⟨m, rfl⟩ : ∃ q, m = q + 1 := ⟨m - 1, by omega⟩
    rw [laws_heldMessageS_l1, if_neg (by simp; omega), List.drop_eq_nil_of_le (by omega), laws_heldMessageS_l1_r]
  | succ d ih =>
    intro k m x_1237 hd hm
    obtain ⟨m, rfl⟩ : ∃ q, m = q + 1 := ⟨m - 1, by omega⟩
    have hk : k < x_1.length := by omega
    rw [laws_heldMessageS_l1, if_pos (by simp; omega), List.drop_eq_getElem_cons hk, laws_heldMessageS_l1_r]
    have h1 := at_lt hk
    have h2 := w64_succ (k := k) (by omega)
    have h3 := ih (k + 1) m
    simp only [h1, h2, h3 _ (by omega) (by omega)]
theorem laws_heldMessageS_l1_eq {N : Nat} (x_1 : (List Message)) (hx : x_1.length ≤ 1099511627776) (hN : x_1.length < N) (x_1237 : Int) : laws_heldMessageS_l1 N x_1 N x_1237 0 = laws_heldMessageS_l1_r N x_1 x_1 x_1237 0 := laws_heldMessageS_l1_rng N x_1 hx x_1.length 0 N x_1237 (by omega) hN
def laws_heldMessageS (N : Nat) (x_1 : (List Message)) (x_2 : Int) : Option (Int) :=
 joinP (fun (v_1235 : Int) =>
 some v_1235) fun j_1235 =>
 (laws_heldMessageS_l1 N x_1 N x_2 (0 : Int)).bind (Sum.elim (fun v_1425 => some v_1425) (fun (v_1426 : Int) => j_1235 v_1426))
theorem sem_laws_heldMessageS (N : Nat) (x_1 : (List Message)) (x_2 : Int) (r : Int) (h : laws_heldMessageS N x_1 x_2 = some r) : Says Try.prog 36 [RO 58 (x_1.map (encMessage false)), VI x_2] 0 [] (VI r) [] := by
  unfold laws_heldMessageS at h
  refine Says.of_run s36 Try.call36 rfl fun B hB => ?_
  have hm : B.m ≤ 1000 := by omega
  refine Run.seq (Run.ops hm (Ops.p rfl (Ops.nil (Run.seqO h (fun (v_1235 : Int) => [(1, VI v_1235)]) (fun (v_1235 : Int) => []) (fun h => ?_) (fun v_1235 h => ?_)))))
  · refine Run.seq (Run.ops hm (Ops.p rfl (Ops.nil (Run.block ?_))))
    obtain ⟨res_1426, h, hk_1426⟩ := bindO h
    refine Run.loop (n := N) (fun m_1426 fr σ => ∃ (x_1237 : Int), ∃ (x_1238 : Int), laws_heldMessageS_l1 N x_1 m_1426 x_1237 x_1238 = some res_1426 ∧ fr = [(0, RO 58 (x_1.map (encMessage false))), (1, VI x_1237), (5, VI x_1238)] ∧ σ = []) (gh_pk [0, 1, 5] [] hB rfl rfl rfl rfl) ⟨_, _, h, rfl, rfl⟩ ?_
    rintro m_1426 fr σ ⟨x_1237, x_1238, h, rfl, rfl⟩
    obtain _ | m_1426 := m_1426
    · rw [laws_heldMessageS_l1] at h; cases h
    rw [laws_heldMessageS_l1] at h
    refine Run.seq (Run.seq (Run.ops hm (Ops.p rfl (Ops.p rfl (Ops.st (s := 9224) (Ev.lnF rfl) rfl rfl (Ops.p rfl (Ops.nil (Run.condO rfl h (fun g_1429 h => ?_) (fun g_1429 h => ?_)))))))))
    · refine Run.skip (Run.seq (Run.block (Run.seq (Run.seq (Run.ops hm (Ops.p rfl (Ops.p rfl ?_)))))))
      obtain ⟨x_1526, hx_1526, h⟩ := bindO h
      refine Ops.st (s := 17416) (Ev.iaF rfl rfl hx_1526) rfl rfl (Ops.p rfl (Ops.p rfl (Ops.p rfl (Ops.p rfl (Ops.nil (Run.condO rfl h (fun g_1527 h => ?_) (fun g_1527 h => ?_)))))))
      · refine Run.seq (Run.ops hm (Ops.p rfl (Ops.nil (Run.ret ?_))))
        obtain rfl := someO h
        have h := hk_1426
        replace h := inlO h
        obtain rfl := someO h
        exact Ends.mkG (.inl rfl) rfl (gh_pk [0] [] hB rfl rfl rfl rfl) rfl rfl
      · refine Run.skip (Run.seq (Run.ops hm (Ops.p rfl (Ops.p rfl (Ops.p rfl (Ops.nil (Run.seq (Run.seq (Run.ops hm (Ops.p rfl (Ops.p rfl ?_)))))))))))
        obtain ⟨x_1532, hx_1532, h⟩ := bindO h
        refine Ops.st (s := 29704) (Ev.iaF rfl rfl hx_1532) rfl rfl (Ops.p rfl (Ops.p rfl (Ops.p rfl (Ops.p rfl (Ops.nil (Run.condO rfl h (fun g_1533 h => ?_) (fun g_1533 h => ?_)))))))
        · refine Run.seq (Run.ops hm (Ops.p rfl (Ops.nil (Run.ret ?_))))
          obtain rfl := someO h
          have h := hk_1426
          replace h := inlO h
          obtain rfl := someO h
          exact Ends.mkG (.inl rfl) rfl (gh_pk [0] [] hB rfl rfl rfl rfl) rfl rfl
        · refine Run.skip (Run.seq (Run.ops hm (Ops.p rfl (Ops.p rfl (Ops.p rfl (Ops.nil (Run.seq (Run.seq (Run.ops hm (Ops.p rfl (Ops.p rfl ?_)))))))))))
          obtain ⟨x_1538, hx_1538, h⟩ := bindO h
          refine Ops.st (s := 41992) (Ev.iaF rfl rfl hx_1538) rfl rfl (Ops.p rfl (Ops.p rfl (Ops.p rfl (Ops.p rfl (Ops.nil (Run.condO rfl h (fun g_1539 h => ?_) (fun g_1539 h => ?_)))))))
          · refine Run.seq (Run.ops hm (Ops.p rfl (Ops.nil (Run.ret ?_))))
            obtain rfl := someO h
            have h := hk_1426
            replace h := inlO h
            obtain rfl := someO h
            exact Ends.mkG (.inl rfl) rfl (gh_pk [0] [] hB rfl rfl rfl rfl) rfl rfl
          · refine Run.skip (Run.seq (Run.ops hm (Ops.p rfl (Ops.p rfl (Ops.p rfl (Ops.nil (Run.seq (Run.seq (Run.ops hm (Ops.p rfl (Ops.p rfl ?_)))))))))))
            obtain ⟨x_1544, hx_1544, h⟩ := bindO h
            refine Ops.st (s := 54280) (Ev.iaF rfl rfl hx_1544) rfl rfl (Ops.p rfl (Ops.p rfl (Ops.p rfl (Ops.p rfl (Ops.nil (Run.condO rfl h (fun g_1545 h => ?_) (fun g_1545 h => ?_)))))))
            · refine Run.seq (Run.ops hm (Ops.p rfl (Ops.nil (Run.ret ?_))))
              obtain rfl := someO h
              have h := hk_1426
              replace h := inlO h
              obtain rfl := someO h
              exact Ends.mkG (.inl rfl) rfl (gh_pk [0] [] hB rfl rfl rfl rfl) rfl rfl
            · refine Run.skip (Run.seq (Run.ops hm (Ops.p rfl (Ops.p rfl (Ops.p rfl (Ops.nil (Run.seq (Run.seq (Run.ops hm (Ops.p rfl (Ops.p rfl ?_)))))))))))
              obtain ⟨x_1550, hx_1550, h⟩ := bindO h
              refine Ops.st (s := 66568) (Ev.iaF rfl rfl hx_1550) rfl rfl (Ops.p rfl (Ops.p rfl (Ops.p rfl (Ops.p rfl (Ops.nil (Run.condO rfl h (fun g_1551 h => ?_) (fun g_1551 h => ?_)))))))
              · refine Run.seq (Run.ops hm (Ops.p rfl (Ops.nil (Run.ret ?_))))
                obtain rfl := someO h
                have h := hk_1426
                replace h := inlO h
                obtain rfl := someO h
                exact Ends.mkG (.inl rfl) rfl (gh_pk [0] [] hB rfl rfl rfl rfl) rfl rfl
              · refine Run.skip (Run.seq (Run.ops hm (Ops.p rfl (Ops.p rfl (Ops.p rfl (Ops.nil (Run.seq (Run.seq (Run.ops hm (Ops.p rfl (Ops.p rfl ?_)))))))))))
                obtain ⟨x_1556, hx_1556, h⟩ := bindO h
                refine Ops.st (s := 78856) (Ev.iaF rfl rfl hx_1556) rfl rfl (Ops.p rfl (Ops.p rfl (Ops.p rfl (Ops.p rfl (Ops.nil (Run.condO rfl h (fun g_1557 h => ?_) (fun g_1557 h => ?_)))))))
                · refine Run.seq (Run.ops hm (Ops.p rfl (Ops.nil (Run.ret ?_))))
                  obtain rfl := someO h
                  have h := hk_1426
                  replace h := inlO h
                  obtain rfl := someO h
                  exact Ends.mkG (.inl rfl) rfl (gh_pk [0] [] hB rfl rfl rfl rfl) rfl rfl
                · refine Run.skip (Run.seq (Run.ops hm (Ops.p rfl (Ops.p rfl (Ops.p rfl (Ops.nil (Run.seq (Run.seq (Run.ops hm (Ops.p rfl (Ops.p rfl ?_)))))))))))
                  obtain ⟨x_1562, hx_1562, h⟩ := bindO h
                  refine Ops.st (s := 91144) (Ev.iaF rfl rfl hx_1562) rfl rfl (Ops.p rfl (Ops.p rfl (Ops.p rfl (Ops.p rfl (Ops.nil (Run.condO rfl h (fun g_1563 h => ?_) (fun g_1563 h => ?_)))))))
                  · refine Run.seq (Run.ops hm (Ops.p rfl (Ops.nil (Run.ret ?_))))
                    obtain rfl := someO h
                    have h := hk_1426
                    replace h := inlO h
                    obtain rfl := someO h
                    exact Ends.mkG (.inl rfl) rfl (gh_pk [0] [] hB rfl rfl rfl rfl) rfl rfl
                  · refine Run.skip (Run.seq (Run.ops hm (Ops.p rfl (Ops.p rfl (Ops.p rfl (Ops.nil (Run.seq (Run.seq (Run.ops hm (Ops.p rfl (Ops.p rfl ?_)))))))))))
                    obtain ⟨x_1571, hx_1571, h⟩ := bindO h
                    refine Ops.st (s := 103432) (Ev.iaF rfl rfl hx_1571) rfl rfl (Ops.p rfl (Ops.p rfl (Ops.p rfl ?_)))
                    obtain ⟨x_1572, hx_1572, h⟩ := bindO h
                    refine Ops.st (s := 103496) (.bin rfl rfl hx_1572) rfl rfl (Ops.p rfl (Ops.p rfl (Ops.nil (Run.condO rfl h (fun g_1573 h => ?_) (fun g_1573 h => ?_)))))
                    · refine Run.seq (Run.ops hm (Ops.p rfl (Ops.nil (Run.ret ?_))))
                      obtain rfl := someO h
                      have h := hk_1426
                      replace h := inlO h
                      obtain rfl := someO h
                      exact Ends.mkG (.inl rfl) rfl (gh_pk [0] [] hB rfl rfl rfl rfl) rfl rfl
                    · refine Run.skip (Run.seq (Run.ops hm (Ops.p rfl (Ops.p rfl (Ops.p rfl (Ops.nil (Run.seq (Run.ops hm (Ops.p rfl (Ops.p rfl ?_))))))))))
                      obtain ⟨x_1580, hx_1580, h⟩ := bindO h
                      refine Ops.st (s := 115720) (Ev.iaF rfl rfl hx_1580) rfl rfl (Ops.p rfl (Ops.p rfl (Ops.p rfl ?_)))
                      obtain ⟨y_1581, hy_1581, h⟩ := bindO h
                      refine Ops.st (s := 115784) (Ev.call [] [] 0 (sem_laws_heldEntryS N x_1580.Entries (w64 ((w64 ((w64 ((w64 ((w64 ((w64 ((w64 ((w64 (x_1237 + (1 : Int))) + (1 : Int))) + (1 : Int))) + (1 : Int))) + (1 : Int))) + (1 : Int))) + (1 : Int))) + (1 : Int))) _ hy_1581) rfl rfl (.cons (.c _) (.cons (.c _) .nil)) rfl (.inl rfl) rfl rfl) rfl rfl (Ops.p rfl (Ops.nil (Run.seq (Run.seq (Run.ops hm (Ops.p rfl (Ops.p rfl (Ops.nil (Run.condO rfl h (fun g_1583 h => ?_) (fun g_1583 h => ?_))))))))))
                      · refine Run.seq (Run.ops hm (Ops.p rfl (Ops.nil (Run.ret ?_))))
                        obtain rfl := someO h
                        have h := hk_1426
                        replace h := inlO h
                        obtain rfl := someO h
                        exact Ends.mkG (.inl rfl) rfl (gh_pk [0] [] hB rfl rfl rfl rfl) rfl rfl
                      · refine Run.skip (Run.seq (Run.ops hm (Ops.p rfl (Ops.p rfl ?_))))
                        obtain ⟨x_1590, hx_1590, h⟩ := bindO h
                        refine Ops.st (s := 128008) (Ev.iaF rfl rfl hx_1590) rfl rfl (Ops.p rfl (Ops.p rfl (Ops.p rfl ?_)))
                        obtain ⟨y_1591, hy_1591, h⟩ := bindO h
                        refine Ops.st (s := 128072) (Ev.call [] [] 0 (sem_laws_heldIntS N x_1590.Conf y_1581 _ hy_1591) rfl rfl (.cons (.c _) (.cons (.c _) .nil)) rfl (.inl rfl) rfl rfl) rfl rfl (Ops.p rfl (Ops.nil (Run.seq (Run.seq (Run.ops hm (Ops.p rfl (Ops.p rfl (Ops.nil (Run.condO rfl h (fun g_1593 h => ?_) (fun g_1593 h => ?_))))))))))
                        · refine Run.seq (Run.ops hm (Ops.p rfl (Ops.nil (Run.ret ?_))))
                          obtain rfl := someO h
                          have h := hk_1426
                          replace h := inlO h
                          obtain rfl := someO h
                          exact Ends.mkG (.inl rfl) rfl (gh_pk [0] [] hB rfl rfl rfl rfl) rfl rfl
                        · refine Run.skip (Run.seq (Run.seq (Run.draw hm hmix (OpsD.p rfl (OpsD.p rfl ?_)))))
                          obtain ⟨x_1601, hx_1601, h⟩ := bindO h
                          refine OpsD.st (s := 140296) (Ev.iaF rfl rfl hx_1601) rfl rfl (OpsD.p rfl (OpsD.p rfl (OpsD.p rfl ?_)))
                          obtain ⟨y_1602, hy_1602, h⟩ := bindO h
                          refine OpsD.st (s := 140360) (Ev.call [] [] 0 (sem_laws_markText N y_1591 _ hy_1602) rfl rfl (.cons (.c _) .nil) rfl (.inl rfl) rfl rfl) rfl rfl (OpsD.p rfl (OpsD.nil ⟨by kernel_rfl, ?_⟩))
                          refine Run.condO rfl h (fun g_1603 h => ?_) (fun g_1603 h => ?_)
                          · refine Run.seq (Run.ops hm (Ops.p rfl (Ops.nil (Run.ret ?_))))
                            obtain rfl := someO h
                            have h := hk_1426
                            replace h := inlO h
                            obtain rfl := someO h
                            exact Ends.mkG (.inl rfl) rfl (gh_pk [0] [] hB rfl rfl rfl rfl) rfl rfl
                          · refine Run.skip (Run.seq (Run.ops hm (Ops.p rfl (Ops.p rfl (Ops.p rfl (Ops.nil (Run.seq (Run.seq (Run.ops hm (Ops.p rfl (Ops.p rfl ?_)))))))))))
                            obtain ⟨x_1611, hx_1611, h⟩ := bindO h
                            refine Ops.st (s := 152584) (Ev.iaF rfl rfl hx_1611) rfl rfl (Ops.p rfl (Ops.p rfl (Ops.p rfl ?_)))
                            obtain ⟨x_1612, hx_1612, h⟩ := bindO h
                            refine Ops.st (s := 152648) (.bin rfl rfl hx_1612) rfl rfl (Ops.p rfl (Ops.p rfl (Ops.nil (Run.condO rfl h (fun g_1613 h => ?_) (fun g_1613 h => ?_)))))
                            · refine Run.seq (Run.ops hm (Ops.p rfl (Ops.nil (Run.ret ?_))))
                              obtain rfl := someO h
                              have h := hk_1426
                              replace h := inlO h
                              obtain rfl := someO h
                              exact Ends.mkG (.inl rfl) rfl (gh_pk [0] [] hB rfl rfl rfl rfl) rfl rfl
                            · exact Run.skip (Run.ops hm (Ops.p rfl (Ops.p rfl (Ops.p rfl (Ops.nil (Run.ops hm (Ops.p rfl (Ops.p rfl (Ops.p rfl (Ops.nil (⟨m_1426, Nat.lt_succ_self m_1426, _, _, (gh_pk [0, 1, 5] [] hB rfl rfl rfl rfl), _, _, h, rfl, rfl⟩)))))))))))
    · refine Run.exit ?_
      obtain rfl := someO h
      have h := hk_1426
      replace h := inrO h
      exact ⟨_, _, (gh_pk [1] [] hB rfl rfl rfl rfl), x_1237, h, rfl, rfl⟩
  · refine Run.seq (Run.ops hm (Ops.p rfl (Ops.p rfl (Ops.nil (Run.ret ?_)))))
    obtain rfl := someO h
    exact Ends.mkG (.inl rfl) rfl (gh_pk [0] [] hB rfl rfl rfl rfl) rfl rfl
def laws_FnExactTick (N : Nat) (x_1 : Node) (x_2 : Int) : Option (Bool) :=
 (laws_szNode N x_1 (1048576 : Int)).bind fun y_274 =>
 (if (decide (y_274 < (0 : Int))) = true then
 some true
 else
 (laws_toNode N x_1).bind fun y_283 =>
 (spec_Tick N y_283 x_2).bind fun y_284 =>
 (laws_toNode N x_1).bind fun y_288 =>
 (impl_Tick N y_288 x_2).bind fun y_292 =>
 (laws_eqNode N y_292.1 y_284.1).bind fun y_306 =>
 (if (!y_306) = true then
 some false
 else
 (laws_eqMessageS N y_292.2.1 y_284.2.1).bind fun y_308 =>
 (if (!y_308) = true then
 some false
 else
 (if ((y_292.2.2 == y_284.2.2) ^^ true) = true then
 some false
 else
 (laws_toNode N x_1).bind fun y_318 =>
 (laws_eqNode N y_288 y_318).bind fun y_319 =>
 (if (!y_319) = true then
 some false
 else
 (laws_markNode N y_288 (1 : Int)).bind fun y_336 =>
 (len? y_288.Conf y_336.2.1).bind fun y_337 =>
 (len? y_288.Log.Entries y_336.2.2.1).bind fun y_338 =>
 (len? y_288.Votes y_336.2.2.2.1).bind fun y_339 =>
 (len? y_288.Peers y_336.2.2.2.2).bind fun y_340 =>
 (if (decide (y_336.1 < (0 : Int))) = true then
 some false
 else
 (laws_eqNode N y_292.1 y_284.1).bind fun y_357 =>
 (if (!y_357) = true then
 some false
 else
 (laws_eqMessageS N y_292.2.1 y_284.2.1).bind fun y_359 =>
 (if (!y_359) = true then
 some false
 else
 (laws_markNode N y_292.1 (1 : Int)).bind fun y_376 =>
 (len? y_292.1.Conf y_376.2.1).bind fun y_377 =>
 (len? y_292.1.Log.Entries y_376.2.2.1).bind fun y_378 =>
 (len? y_292.1.Votes y_376.2.2.2.1).bind fun y_379 =>
 (len? y_292.1.Peers y_376.2.2.2.2).bind fun y_380 =>
 (laws_markMessageS N y_292.2.1 y_376.1).bind fun y_387 =>
 (len? y_292.2.1 y_387.2).bind fun y_388 =>
 (laws_heldNode N (Node.mk y_292.1.Id y_292.1.Term y_292.1.Vote y_292.1.Role y_292.1.Lead y_376.2.1 (Log.mk y_292.1.Log.Start y_292.1.Log.StartTerm y_376.2.2.1) y_292.1.Commit y_292.1.Clock y_292.1.Limit y_376.2.2.2.1 y_376.2.2.2.2) (1 : Int)).bind fun y_392 =>
 (if (decide (y_392 < (0 : Int))) = true then
 some false
 else
 (laws_heldMessageS N y_387.2 y_392).bind fun y_398 =>
 (if (decide (y_398 < (0 : Int))) = true then
 some false
 else
 (if (y_398 != y_387.1) = true then
 some false
 else
 (laws_toNode N x_1).bind fun y_409 =>
 (impl_Tick N y_409 x_2).bind fun y_410 =>
 (laws_eqNode N y_410.1 y_284.1).bind fun y_424 =>
 (if (!y_424) = true then
 some false
 else
 (laws_eqMessageS N y_410.2.1 y_284.2.1).bind fun y_426 =>
 (if (!y_426) = true then
 some false
 else
 (if ((y_410.2.2 == y_284.2.2) ^^ true) = true then
 some false
 else
 (laws_heldNode N (Node.mk y_292.1.Id y_292.1.Term y_292.1.Vote y_292.1.Role y_292.1.Lead y_376.2.1 (Log.mk y_292.1.Log.Start y_292.1.Log.StartTerm y_376.2.2.1) y_292.1.Commit y_292.1.Clock y_292.1.Limit y_376.2.2.2.1 y_376.2.2.2.2) (1 : Int)).bind fun y_432 =>
 (if (decide (y_432 < (0 : Int))) = true then
 some false
 else
 (laws_heldMessageS N y_387.2 y_432).bind fun y_438 =>
 (if (decide (y_438 < (0 : Int))) = true then
 some false
 else
 (if (y_438 != y_387.1) = true then
 some false
 else
 some true)))))))))))))))))
theorem sem_laws_FnExactTick (N : Nat) (x_1 : Node) (x_2 : Int) (r : Bool) (h : laws_FnExactTick N x_1 x_2 = some r) : Says Try.prog 6 [.agg [VI x_1.Id, VI x_1.Term, VI x_1.Vote, VI x_1.Role, VI x_1.Lead, RO 3 (x_1.Conf.map encI), VI x_1.Log.Start, VI x_1.Log.StartTerm, RO 211 (x_1.Log.Entries.map encEntry), VI x_1.Commit, VI x_1.Clock, VI x_1.Limit, RO 3 (x_1.Votes.map encI), RO 188 (x_1.Peers.map encPeer)], VI x_2] 0 [] (VB r) [] := by
  unfold laws_FnExactTick at h
  refine Says.of_run s6 Try.call6 rfl fun B hB => ?_
  have hm : B.m ≤ 1000 := by omega
  refine Run.seq (Run.ops hm (Ops.st (s := 1000) (.bx rfl rfl) rfl rfl (Ops.p rfl (Ops.nil (Run.seq (Run.ops hm (Ops.p rfl (Ops.nil (Run.seq (Run.ops hm (Ops.p rfl (Ops.p rfl ?_))))))))))))
  obtain ⟨y_274, hy_274, h⟩ := bindO h
  refine Ops.st (s := 9224) (Ev.call [] [] 0 (sem_laws_szNode N x_1 (1048576 : Int) _ hy_274) rfl rfl (.cons (.agg (.cons (.c _) (.cons (.c _) (.cons (.c _) (.cons (.c _) (.cons (.c _) (.cons (.c _) (.cons (.c _) (.cons (.c _) (.cons (.c _) (.cons (.c _) (.cons (.c _) (.cons (.c _) (.cons (.c _) (.cons (.c _) .nil))))))))))))))) (.cons (.c _) .nil)) rfl (.inl rfl) rfl rfl) rfl rfl (Ops.p rfl (Ops.nil (Run.seq (Run.seq (Run.ops hm (Ops.p rfl (Ops.p rfl (Ops.nil (Run.condO rfl h (fun g_276 h => ?_) (fun g_276 h => ?_))))))))))
  · refine Run.seq (Run.ops hm (Ops.p rfl (Ops.nil (Run.ret ?_))))
    obtain rfl := someO h
    exact Ends.mkG (.inl rfl) rfl (gh_pk [0] [] hB rfl rfl rfl rfl) rfl rfl
  · refine Run.skip (Run.seq (Run.ops hm (Ops.p rfl ?_)))
    obtain ⟨y_283, hy_283, h⟩ := bindO h
    refine Ops.st (s := 21496) (Ev.call [] [] 4 (sem_laws_toNode N x_1 _ hy_283) rfl rfl (.cons (.agg (.cons (.c _) (.cons (.c _) (.cons (.c _) (.cons (.c _) (.cons (.c _) (.cons (.c _) (.cons (.c _) (.cons (.c _) (.cons (.c _) (.cons (.c _) (.cons (.c _) (.cons (.c _) (.cons (.c _) (.cons (.c _) .nil))))))))))))))) .nil) rfl (.inl rfl) rfl rfl) rfl rfl (Ops.p rfl ?_)
    obtain ⟨y_284, hy_284, h⟩ := bindO h
    refine Ops.st (s := 21528) (Ev.call [] [21496, 21497, 21498, 21499] 5 (sem_spec_Tick N y_283 x_2 _ hy_284) rfl rfl (.cons (.agg (.cons (.c _) (.cons (.c _) (.cons (.c _) (.cons (.c _) (.cons (.c _) (.cons (.borrow rfl (by decide) (lendW (fun _ => rfl) _ rfl)) (.cons (.c _) (.cons (.c _) (.cons (.borrow rfl (by decide) (lendW (fun _ => rfl) _ rfl)) (.cons (.c _) (.cons (.c _) (.cons (.c _) (.cons (.borrow rfl (by decide) (lendW (fun _ => rfl) _ rfl)) (.cons (.borrow rfl (by decide) (lendW (fun _ => rfl) _ rfl)) .nil))))))))))))))) (.cons (.c _) .nil)) rfl (.inr ⟨rfl, ownL_root ⟨own_rows (fun _ => rfl) _, own_rows (fun _ => rfl) _, own_rows (fun _ => rfl) _, own_rows (fun _ => rfl) _, own_rows own_encMessage _, trivial⟩⟩) rfl rfl) rfl rfl ?_
    refine Ops.p rfl (Ops.p rfl (Ops.p rfl (Ops.p rfl (Ops.st (s := 21608) (.al rfl rfl) rfl rfl (Ops.s0 (s := 21624) (.sto rfl rfl rfl rfl rfl rfl) rfl rfl (Ops.p rfl (Ops.p rfl (Ops.nil (Run.seq (Run.ops hm (Ops.p rfl ?_)))))))))))
    obtain ⟨y_288, hy_288, h⟩ := bindO h
    refine Ops.st (s := 25592) (Ev.call [] [] 4 (sem_laws_toNode N x_1 _ hy_288) rfl rfl (.cons (.agg (.cons (.c _) (.cons (.c _) (.cons (.c _) (.cons (.c _) (.cons (.c _) (.cons (.c _) (.cons (.c _) (.cons (.c _) (.cons (.c _) (.cons (.c _) (.cons (.c _) (.cons (.c _) (.cons (.c _) (.cons (.c _) .nil))))))))))))))) .nil) rfl (.inl rfl) rfl rfl) rfl rfl (Ops.st (s := 25608) (.al rfl rfl) rfl rfl (Ops.s0 (s := 25624) (.sto rfl rfl rfl rfl rfl rfl) rfl rfl (Ops.nil (Run.seq (Run.ops hm (Ops.p rfl (Ops.p rfl ?_)))))))
    obtain ⟨y_292, hy_292, h⟩ := bindO h
    refine Ops.st (s := 29704) (Ev.call [] [25592, 25593, 25594, 25595] 5 (sem_impl_Tick N y_288 x_2 _ hy_292) rfl rfl (.cons (.agg (.cons (.c _) (.cons (.c _) (.cons (.c _) (.cons (.c _) (.cons (.c _) (.cons (.borrow rfl (by decide) (lendW (fun _ => rfl) _ rfl)) (.cons (.c _) (.cons (.c _) (.cons (.borrow rfl (by decide) (lendW (fun _ => rfl) _ rfl)) (.cons (.c _) (.cons (.c _) (.cons (.c _) (.cons (.borrow rfl (by decide) (lendW (fun _ => rfl) _ rfl)) (.cons (.borrow rfl (by decide) (lendW (fun _ => rfl) _ rfl)) .nil))))))))))))))) (.cons (.c _) .nil)) rfl (.inr ⟨rfl, ownL_root ⟨own_rows (fun _ => rfl) _, own_rows (fun _ => rfl) _, own_rows (fun _ => rfl) _, own_rows (fun _ => rfl) _, own_rows own_encMessage _, trivial⟩⟩) rfl rfl) rfl rfl ?_
    refine Ops.p rfl (Ops.p rfl (Ops.p rfl (Ops.p rfl (Ops.st (s := 29784) (.al rfl rfl) rfl rfl (Ops.s0 (s := 29800) (.sto rfl rfl rfl rfl rfl rfl) rfl rfl (Ops.p rfl (Ops.p rfl (Ops.nil (Run.seq (Run.seq (Run.ops hm (Ops.p rfl (Ops.p rfl ?_)))))))))))))
    obtain ⟨y_306, hy_306, h⟩ := bindO h
    refine Ops.st (s := 33800) (Ev.call [] [29704, 29705, 29706, 29707, 21528, 21529, 21530, 21531] 0 (sem_laws_eqNode N y_292.1 y_284.1 _ hy_306) rfl rfl (.cons (.agg (.cons (.c _) (.cons (.c _) (.cons (.c _) (.cons (.c _) (.cons (.c _) (.cons (.borrow rfl (by decide) (lendW (fun _ => rfl) _ rfl)) (.cons (.c _) (.cons (.c _) (.cons (.borrow rfl (by decide) (lendW (fun _ => rfl) _ rfl)) (.cons (.c _) (.cons (.c _) (.cons (.c _) (.cons (.borrow rfl (by decide) (lendW (fun _ => rfl) _ rfl)) (.cons (.borrow rfl (by decide) (lendW (fun _ => rfl) _ rfl)) .nil))))))))))))))) (.cons (.agg (.cons (.c _) (.cons (.c _) (.cons (.c _) (.cons (.c _) (.cons (.c _) (.cons (.borrow rfl (by decide) (lendW (fun _ => rfl) _ rfl)) (.cons (.c _) (.cons (.c _) (.cons (.borrow rfl (by decide) (lendW (fun _ => rfl) _ rfl)) (.cons (.c _) (.cons (.c _) (.cons (.c _) (.cons (.borrow rfl (by decide) (lendW (fun _ => rfl) _ rfl)) (.cons (.borrow rfl (by decide) (lendW (fun _ => rfl) _ rfl)) .nil))))))))))))))) .nil)) rfl (.inr ⟨rfl, ownL_root trivial⟩) rfl rfl) rfl rfl ?_
    refine Ops.p rfl (Ops.p rfl (Ops.askO (x := .t 45) rfl h (fun g_307 h => ?_) (fun g_307 h => ?_)))
    · refine Ops.gn rfl g_307 (Ops.gn rfl g_307 (Ops.gn rfl g_307 (Ops.gn rfl g_307 (Ops.st (s := 33912) (.pkT rfl g_307 rfl) rfl rfl (Ops.p rfl (Ops.gn rfl rfl (Ops.gn rfl rfl (Ops.gn rfl rfl (Ops.st (s := 33992) (.pkT rfl rfl rfl) rfl rfl (Ops.nil (Run.condT rfl rfl (Run.seq (Run.ops hm (Ops.p rfl (Ops.nil (Run.ret ?_))))))))))))))))
      obtain rfl := someO h
      exact Ends.mkG (.inl rfl) rfl (gh_pk [0] [] hB rfl rfl rfl rfl) rfl rfl
    · refine Ops.gp rfl g_307 rfl (Ops.gp rfl g_307 rfl ?_)
      obtain ⟨y_308, hy_308, h⟩ := bindO h
      refine Ops.gs (s := 33880) rfl g_307 (Ev.call [] [29708, 21532] 0 (sem_laws_eqMessageS N y_292.2.1 y_284.2.1 _ hy_308) rfl rfl (.cons (.borrow rfl (by decide) (lendW ro_encMessage _ rfl)) (.cons (.borrow rfl (by decide) (lendW ro_encMessage _ rfl)) .nil)) rfl (.inr ⟨rfl, ownL_root trivial⟩) rfl rfl) rfl rfl ?_
      refine Ops.gp rfl g_307 rfl (Ops.st (s := 33912) (.pkF rfl g_307 rfl) rfl rfl (Ops.p rfl (Ops.askO (x := .t 51) rfl h (fun g_309 h => ?_) (fun g_309 h => ?_))))
      · refine Ops.gn rfl g_309 (Ops.gn rfl g_309 (Ops.gn rfl g_309 (Ops.st (s := 33992) (.pkT rfl g_309 rfl) rfl rfl (Ops.nil (Run.condT rfl rfl (Run.seq (Run.ops hm (Ops.p rfl (Ops.nil (Run.ret ?_))))))))))
        obtain rfl := someO h
        exact Ends.mkG (.inl rfl) rfl (gh_pk [0] [] hB rfl rfl rfl rfl) rfl rfl
      · refine Ops.gp rfl g_309 rfl (Ops.gp rfl g_309 rfl (Ops.gp rfl g_309 rfl (Ops.st (s := 33992) (.pkF rfl g_309 rfl) rfl rfl (Ops.nil (Run.condO rfl h (fun g_310 h => ?_) (fun g_310 h => ?_))))))
        · refine Run.seq (Run.ops hm (Ops.p rfl (Ops.nil (Run.ret ?_))))
          obtain rfl := someO h
          exact Ends.mkG (.inl rfl) rfl (gh_pk [0] [] hB rfl rfl rfl rfl) rfl rfl
        · refine Run.skip (Run.seq (Run.seq (Run.draw hm hmix (OpsD.p rfl (OpsD.p rfl ?_)))))
          obtain ⟨y_318, hy_318, h⟩ := bindO h
          refine OpsD.st (s := 41992) (Ev.call [] [] 4 (sem_laws_toNode N x_1 _ hy_318) rfl rfl (.cons (.agg (.cons (.c _) (.cons (.c _) (.cons (.c _) (.cons (.c _) (.cons (.c _) (.cons (.c _) (.cons (.c _) (.cons (.c _) (.cons (.c _) (.cons (.c _) (.cons (.c _) (.cons (.c _) (.cons (.c _) (.cons (.c _) .nil))))))))))))))) .nil) rfl (.inl rfl) rfl rfl) rfl rfl ?_
          obtain ⟨y_319, hy_319, h⟩ := bindO h
          refine OpsD.st (s := 42008) (Ev.call [] [25592, 25593, 25594, 25595, 41992, 41993, 41994, 41995] 0 (sem_laws_eqNode N y_288 y_318 _ hy_319) rfl rfl (.cons (.agg (.cons (.c _) (.cons (.c _) (.cons (.c _) (.cons (.c _) (.cons (.c _) (.cons (.borrow rfl (by decide) (lendW (fun _ => rfl) _ rfl)) (.cons (.c _) (.cons (.c _) (.cons (.borrow rfl (by decide) (lendW (fun _ => rfl) _ rfl)) (.cons (.c _) (.cons (.c _) (.cons (.c _) (.cons (.borrow rfl (by decide) (lendW (fun _ => rfl) _ rfl)) (.cons (.borrow rfl (by decide) (lendW (fun _ => rfl) _ rfl)) .nil))))))))))))))) (.cons (.agg (.cons (.c _) (.cons (.c _) (.cons (.c _) (.cons (.c _) (.cons (.c _) (.cons (.borrow rfl (by decide) (lendW (fun _ => rfl) _ rfl)) (.cons (.c _) (.cons (.c _) (.cons (.borrow rfl (by decide) (lendW (fun _ => rfl) _ rfl)) (.cons (.c _) (.cons (.c _) (.cons (.c _) (.cons (.borrow rfl (by decide) (lendW (fun _ => rfl) _ rfl)) (.cons (.borrow rfl (by decide) (lendW (fun _ => rfl) _ rfl)) .nil))))))))))))))) .nil)) rfl (.inr ⟨rfl, ownL_root trivial⟩) rfl rfl) rfl rfl ?_
          refine OpsD.p rfl (OpsD.nil ⟨by kernel_rfl, ?_⟩)
          refine Run.condO rfl h (fun g_320 h => ?_) (fun g_320 h => ?_)
          · refine Run.seq (Run.ops hm (Ops.p rfl (Ops.nil (Run.ret ?_))))
            obtain rfl := someO h
            exact Ends.mkG (.inl rfl) rfl (gh_pk [0] [] hB rfl rfl rfl rfl) rfl rfl
          · refine Run.skip (Run.seq (Run.ops hm (Ops.p rfl (Ops.nil (Run.seq (Run.ops hm (Ops.p rfl (Ops.p rfl ?_))))))))
            obtain ⟨y_336, hy_336, h⟩ := bindO h
            obtain ⟨y_337, hy_337, h⟩ := bindO h
            obtain ⟨y_338, hy_338, h⟩ := bindO h
            obtain ⟨y_339, hy_339, h⟩ := bindO h
            obtain ⟨y_340, hy_340, h⟩ := bindO h
            refine Ops.st (s := 54280) (Ev.call [25592, 25593, 25594, 25595] [] 0 (sem_laws_markNode N y_288 (1 : Int) _ hy_336) rfl rfl (.cons (.agg (.cons (.c _) (.cons (.c _) (.cons (.c _) (.cons (.c _) (.cons (.c _) (.cons (.sl rfl) (.cons (.c _) (.cons (.c _) (.cons (.sl rfl) (.cons (.c _) (.cons (.c _) (.cons (.c _) (.cons (.sl rfl) (.cons (.sl rfl) .nil))))))))))))))) (.cons (.c _) .nil)) rfl (.inl rfl) rfl rfl) rfl rfl (Ops.p rfl (Ops.nil (Run.seq (Run.seq (Run.ops hm (Ops.p rfl (Ops.p rfl (Ops.p rfl (Ops.askO (x := .t 66) rfl h (fun g_356 h => ?_) (fun g_356 h => ?_))))))))))
            · refine Ops.gn rfl g_356 (Ops.gn rfl g_356 (Ops.gn rfl g_356 (Ops.gn rfl g_356 (Ops.st (s := 58456) (.pkT rfl g_356 rfl) rfl rfl (Ops.p rfl (Ops.gn rfl rfl (Ops.gn rfl rfl (Ops.gn rfl rfl (Ops.gn rfl rfl (Ops.st (s := 58552) (.pkT rfl rfl rfl) rfl rfl (Ops.p rfl (Ops.gn rfl rfl (Ops.gn rfl rfl (Ops.gn rfl rfl (Ops.st (s := 58632) (.pkT rfl rfl rfl) rfl rfl (Ops.nil (Run.condT rfl rfl (Run.seq (Run.ops hm (Ops.p rfl (Ops.nil (Run.ret ?_))))))))))))))))))))))
              obtain rfl := someO h
              exact Ends.mkG (.inl rfl) rfl (gh_pk [0] [] hB rfl rfl rfl rfl) rfl rfl
            · refine Ops.gp rfl g_356 rfl (Ops.gp rfl g_356 rfl ?_)
              obtain ⟨y_357, hy_357, h⟩ := bindO h
              refine Ops.gs (s := 58424) rfl g_356 (Ev.call [] [29704, 29705, 29706, 29707, 21528, 21529, 21530, 21531] 0 (sem_laws_eqNode N y_292.1 y_284.1 _ hy_357) rfl rfl (.cons (.agg (.cons (.c _) (.cons (.c _) (.cons (.c _) (.cons (.c _) (.cons (.c _) (.cons (.borrow rfl (by decide) (lendW (fun _ => rfl) _ rfl)) (.cons (.c _) (.cons (.c _) (.cons (.borrow rfl (by decide) (lendW (fun _ => rfl) _ rfl)) (.cons (.c _) (.cons (.c _) (.cons (.c _) (.cons (.borrow rfl (by decide) (lendW (fun _ => rfl) _ rfl)) (.cons (.borrow rfl (by decide) (lendW (fun _ => rfl) _ rfl)) .nil))))))))))))))) (.cons (.agg (.cons (.c _) (.cons (.c _) (.cons (.c _) (.cons (.c _) (.cons (.c _) (.cons (.borrow rfl (by decide) (lendW (fun _ => rfl) _ rfl)) (.cons (.c _) (.cons (.c _) (.cons (.borrow rfl (by decide) (lendW (fun _ => rfl) _ rfl)) (.cons (.c _) (.cons (.c _) (.cons (.c _) (.cons (.borrow rfl (by decide) (lendW (fun _ => rfl) _ rfl)) (.cons (.borrow rfl (by decide) (lendW (fun _ => rfl) _ rfl)) .nil))))))))))))))) .nil)) rfl (.inr ⟨rfl, ownL_root trivial⟩) rfl rfl) rfl rfl ?_
              refine Ops.gp rfl g_356 rfl (Ops.st (s := 58456) (.pkF rfl g_356 rfl) rfl rfl (Ops.p rfl (Ops.askO (x := .t 72) rfl h (fun g_358 h => ?_) (fun g_358 h => ?_))))
              · refine Ops.gn rfl g_358 (Ops.gn rfl g_358 (Ops.gn rfl g_358 (Ops.gn rfl g_358 (Ops.st (s := 58552) (.pkT rfl g_358 rfl) rfl rfl (Ops.p rfl (Ops.gn rfl rfl (Ops.gn rfl rfl (Ops.gn rfl rfl (Ops.st (s := 58632) (.pkT rfl rfl rfl) rfl rfl (Ops.nil (Run.condT rfl rfl (Run.seq (Run.ops hm (Ops.p rfl (Ops.nil (Run.ret ?_))))))))))))))))
                obtain rfl := someO h
                exact Ends.mkG (.inl rfl) rfl (gh_pk [0] [] hB rfl rfl rfl rfl) rfl rfl
              · refine Ops.gp rfl g_358 rfl (Ops.gp rfl g_358 rfl ?_)
                obtain ⟨y_359, hy_359, h⟩ := bindO h
                refine Ops.gs (s := 58520) rfl g_358 (Ev.call [] [29708, 21532] 0 (sem_laws_eqMessageS N y_292.2.1 y_284.2.1 _ hy_359) rfl rfl (.cons (.borrow rfl (by decide) (lendW ro_encMessage _ rfl)) (.cons (.borrow rfl (by decide) (lendW ro_encMessage _ rfl)) .nil)) rfl (.inr ⟨rfl, ownL_root trivial⟩) rfl rfl) rfl rfl ?_
                refine Ops.gp rfl g_358 rfl (Ops.st (s := 58552) (.pkF rfl g_358 rfl) rfl rfl (Ops.p rfl (Ops.askO (x := .t 78) rfl h (fun g_360 h => ?_) (fun g_360 h => ?_))))
                · refine Ops.gn rfl g_360 (Ops.gn rfl g_360 (Ops.gn rfl g_360 (Ops.st (s := 58632) (.pkT rfl g_360 rfl) rfl rfl (Ops.nil (Run.condT rfl rfl (Run.seq (Run.ops hm (Ops.p rfl (Ops.nil (Run.ret ?_))))))))))
                  obtain rfl := someO h
                  exact Ends.mkG (.inl rfl) rfl (gh_pk [0] [] hB rfl rfl rfl rfl) rfl rfl
                · refine Ops.gp rfl g_360 rfl (Ops.gp rfl g_360 rfl (Ops.gp rfl g_360 rfl (Ops.st (s := 58632) (.pkF rfl g_360 rfl) rfl rfl (Ops.nil (Run.condF rfl g_310 (Run.skip (Run.seq (Run.ops hm (Ops.p rfl (Ops.nil (Run.seq (Run.ops hm (Ops.p rfl (Ops.p rfl ?_))))))))))))))
                  obtain ⟨y_376, hy_376, h⟩ := bindO h
                  obtain ⟨y_377, hy_377, h⟩ := bindO h
                  obtain ⟨y_378, hy_378, h⟩ := bindO h
                  obtain ⟨y_379, hy_379, h⟩ := bindO h
                  obtain ⟨y_380, hy_380, h⟩ := bindO h
                  refine Ops.st (s := 70664) (Ev.call [29704, 29705, 29706, 29707] [] 0 (sem_laws_markNode N y_292.1 (1 : Int) _ hy_376) rfl rfl (.cons (.agg (.cons (.c _) (.cons (.c _) (.cons (.c _) (.cons (.c _) (.cons (.c _) (.cons (.sl rfl) (.cons (.c _) (.cons (.c _) (.cons (.sl rfl) (.cons (.c _) (.cons (.c _) (.cons (.c _) (.cons (.sl rfl) (.cons (.sl rfl) .nil))))))))))))))) (.cons (.c _) .nil)) rfl (.inl rfl) rfl rfl) rfl rfl (Ops.p rfl (Ops.nil (Run.seq (Run.ops hm (Ops.p rfl (Ops.p rfl ?_))))))
                  obtain ⟨y_387, hy_387, h⟩ := bindO h
                  obtain ⟨y_388, hy_388, h⟩ := bindO h
                  refine Ops.st (s := 74760) (Ev.call [29708] [] 0 (sem_laws_markMessageS N y_292.2.1 y_376.1 _ hy_387) rfl rfl (.cons (.sl rfl) (.cons (.c _) .nil)) rfl (.inl rfl) rfl rfl) rfl rfl (Ops.p rfl (Ops.nil (Run.seq (Run.ops hm (Ops.p rfl (Ops.nil (Run.seq (Run.ops hm (Ops.p rfl (Ops.p rfl ?_))))))))))
                  obtain ⟨y_392, hy_392, h⟩ := bindO h
                  refine Ops.st (s := 82952) (Ev.call [] [29704, 29705, 29706, 29707] 0 (sem_laws_heldNode N (Node.mk y_292.1.Id y_292.1.Term y_292.1.Vote y_292.1.Role y_292.1.Lead y_376.2.1 (Log.mk y_292.1.Log.Start y_292.1.Log.StartTerm y_376.2.2.1) y_292.1.Commit y_292.1.Clock y_292.1.Limit y_376.2.2.2.1 y_376.2.2.2.2) (1 : Int) _ hy_392) rfl rfl (.cons (.agg (.cons (.c _) (.cons (.c _) (.cons (.c _) (.cons (.c _) (.cons (.c _) (.cons (.borrow rfl (by decide) (lendW (fun _ => rfl) _ (len_some hy_377))) (.cons (.c _) (.cons (.c _) (.cons (.borrow rfl (by decide) (lendW (fun _ => rfl) _ (len_some hy_378))) (.cons (.c _) (.cons (.c _) (.cons (.c _) (.cons (.borrow rfl (by decide) (lendW (fun _ => rfl) _ (len_some hy_379))) (.cons (.borrow rfl (by decide) (lendW (fun _ => rfl) _ (len_some hy_380))) .nil))))))))))))))) (.cons (.c _) .nil)) rfl (.inr ⟨rfl, ownL_root trivial⟩) rfl rfl) rfl rfl ?_
                  refine Ops.p rfl (Ops.nil (Run.seq (Run.seq (Run.ops hm (Ops.p rfl (Ops.p rfl (Ops.nil (Run.condO rfl h (fun g_394 h => ?_) (fun g_394 h => ?_)))))))))
                  · refine Run.seq (Run.ops hm (Ops.p rfl (Ops.nil (Run.ret ?_))))
                    obtain rfl := someO h
                    exact Ends.mkG (.inl rfl) rfl (gh_pk [0] [] hB rfl rfl rfl rfl) rfl rfl
                  · refine Run.skip (Run.seq (Run.ops hm (Ops.p rfl (Ops.p rfl ?_))))
                    obtain ⟨y_398, hy_398, h⟩ := bindO h
                    refine Ops.st (s := 95240) (Ev.call [] [29708] 0 (sem_laws_heldMessageS N y_387.2 y_392 _ hy_398) rfl rfl (.cons (.borrow rfl (by decide) (lendW ro_encMessage _ (len_some hy_388))) (.cons (.c _) .nil)) rfl (.inr ⟨rfl, ownL_root trivial⟩) rfl rfl) rfl rfl ?_
                    refine Ops.p rfl (Ops.nil (Run.seq (Run.seq (Run.ops hm (Ops.p rfl (Ops.p rfl (Ops.nil (Run.condO rfl h (fun g_400 h => ?_) (fun g_400 h => ?_)))))))))
                    · refine Run.seq (Run.ops hm (Ops.p rfl (Ops.nil (Run.ret ?_))))
                      obtain rfl := someO h
                      exact Ends.mkG (.inl rfl) rfl (gh_pk [0] [] hB rfl rfl rfl rfl) rfl rfl
                    · refine Run.skip (Run.seq (Run.seq (Run.ops hm (Ops.p rfl (Ops.p rfl (Ops.p rfl (Ops.nil (Run.condO rfl h (fun g_402 h => ?_) (fun g_402 h => ?_)))))))))
                      · refine Run.seq (Run.ops hm (Ops.p rfl (Ops.nil (Run.ret ?_))))
                        obtain rfl := someO h
                        exact Ends.mkG (.inl rfl) rfl (gh_pk [0] [] hB rfl rfl rfl rfl) rfl rfl
                      · refine Run.skip (Run.seq (Run.ops hm (Ops.p rfl ?_)))
                        obtain ⟨y_409, hy_409, h⟩ := bindO h
                        refine Ops.st (s := 115704) (Ev.call [] [] 4 (sem_laws_toNode N x_1 _ hy_409) rfl rfl (.cons (.agg (.cons (.c _) (.cons (.c _) (.cons (.c _) (.cons (.c _) (.cons (.c _) (.cons (.c _) (.cons (.c _) (.cons (.c _) (.cons (.c _) (.cons (.c _) (.cons (.c _) (.cons (.c _) (.cons (.c _) (.cons (.c _) .nil))))))))))))))) .nil) rfl (.inl rfl) rfl rfl) rfl rfl (Ops.p rfl ?_)
                        obtain ⟨y_410, hy_410, h⟩ := bindO h
                        refine Ops.st (s := 115736) (Ev.call [] [115704, 115705, 115706, 115707] 5 (sem_impl_Tick N y_409 x_2 _ hy_410) rfl rfl (.cons (.agg (.cons (.c _) (.cons (.c _) (.cons (.c _) (.cons (.c _) (.cons (.c _) (.cons (.borrow rfl (by decide) (lendW (fun _ => rfl) _ rfl)) (.cons (.c _) (.cons (.c _) (.cons (.borrow rfl (by decide) (lendW (fun _ => rfl) _ rfl)) (.cons (.c _) (.cons (.c _) (.cons (.c _) (.cons (.borrow rfl (by decide) (lendW (fun _ => rfl) _ rfl)) (.cons (.borrow rfl (by decide) (lendW (fun _ => rfl) _ rfl)) .nil))))))))))))))) (.cons (.c _) .nil)) rfl (.inr ⟨rfl, ownL_root ⟨own_rows (fun _ => rfl) _, own_rows (fun _ => rfl) _, own_rows (fun _ => rfl) _, own_rows (fun _ => rfl) _, own_rows own_encMessage _, trivial⟩⟩) rfl rfl) rfl rfl ?_
                        refine Ops.p rfl (Ops.p rfl (Ops.p rfl (Ops.p rfl (Ops.st (s := 115816) (.al rfl rfl) rfl rfl (Ops.s0 (s := 115832) (.sto rfl rfl rfl rfl rfl rfl) rfl rfl (Ops.p rfl (Ops.p rfl (Ops.nil (Run.seq (Run.seq (Run.ops hm (Ops.p rfl (Ops.p rfl ?_)))))))))))))
                        obtain ⟨y_424, hy_424, h⟩ := bindO h
                        refine Ops.st (s := 119816) (Ev.call [] [115736, 115737, 115738, 115739, 21528, 21529, 21530, 21531] 0 (sem_laws_eqNode N y_410.1 y_284.1 _ hy_424) rfl rfl (.cons (.agg (.cons (.c _) (.cons (.c _) (.cons (.c _) (.cons (.c _) (.cons (.c _) (.cons (.borrow rfl (by decide) (lendW (fun _ => rfl) _ rfl)) (.cons (.c _) (.cons (.c _) (.cons (.borrow rfl (by decide) (lendW (fun _ => rfl) _ rfl)) (.cons (.c _) (.cons (.c _) (.cons (.c _) (.cons (.borrow rfl (by decide) (lendW (fun _ => rfl) _ rfl)) (.cons (.borrow rfl (by decide) (lendW (fun _ => rfl) _ rfl)) .nil))))))))))))))) (.cons (.agg (.cons (.c _) (.cons (.c _) (.cons (.c _) (.cons (.c _) (.cons (.c _) (.cons (.borrow rfl (by decide) (lendW (fun _ => rfl) _ rfl)) (.cons (.c _) (.cons (.c _) (.cons (.borrow rfl (by decide) (lendW (fun _ => rfl) _ rfl)) (.cons (.c _) (.cons (.c _) (.cons (.c _) (.cons (.borrow rfl (by decide) (lendW (fun _ => rfl) _ rfl)) (.cons (.borrow rfl (by decide) (lendW (fun _ => rfl) _ rfl)) .nil))))))))))))))) .nil)) rfl (.inr ⟨rfl, ownL_root trivial⟩) rfl rfl) rfl rfl ?_
                        refine Ops.p rfl (Ops.p rfl (Ops.askO (x := .t 114) rfl h (fun g_425 h => ?_) (fun g_425 h => ?_)))
                        · refine Ops.gn rfl g_425 (Ops.gn rfl g_425 (Ops.gn rfl g_425 (Ops.gn rfl g_425 (Ops.st (s := 119928) (.pkT rfl g_425 rfl) rfl rfl (Ops.p rfl (Ops.gn rfl rfl (Ops.gn rfl rfl (Ops.gn rfl rfl (Ops.st (s := 120008) (.pkT rfl rfl rfl) rfl rfl (Ops.nil (Run.condT rfl rfl (Run.seq (Run.ops hm (Ops.p rfl (Ops.nil (Run.ret ?_))))))))))))))))
                          obtain rfl := someO h
                          exact Ends.mkG (.inl rfl) rfl (gh_pk [0] [] hB rfl rfl rfl rfl) rfl rfl
                        · refine Ops.gp rfl g_425 rfl (Ops.gp rfl g_425 rfl ?_)
                          obtain ⟨y_426, hy_426, h⟩ := bindO h
                          refine Ops.gs (s := 119896) rfl g_425 (Ev.call [] [115740, 21532] 0 (sem_laws_eqMessageS N y_410.2.1 y_284.2.1 _ hy_426) rfl rfl (.cons (.borrow rfl (by decide) (lendW ro_encMessage _ rfl)) (.cons (.borrow rfl (by decide) (lendW ro_encMessage _ rfl)) .nil)) rfl (.inr ⟨rfl, ownL_root trivial⟩) rfl rfl) rfl rfl ?_
                          refine Ops.gp rfl g_425 rfl (Ops.st (s := 119928) (.pkF rfl g_425 rfl) rfl rfl (Ops.p rfl (Ops.askO (x := .t 120) rfl h (fun g_427 h => ?_) (fun g_427 h => ?_))))
                          · refine Ops.gn rfl g_427 (Ops.gn rfl g_427 (Ops.gn rfl g_427 (Ops.st (s := 120008) (.pkT rfl g_427 rfl) rfl rfl (Ops.nil (Run.condT rfl rfl (Run.seq (Run.ops hm (Ops.p rfl (Ops.nil (Run.ret ?_))))))))))
                            obtain rfl := someO h
                            exact Ends.mkG (.inl rfl) rfl (gh_pk [0] [] hB rfl rfl rfl rfl) rfl rfl
                          · refine Ops.gp rfl g_427 rfl (Ops.gp rfl g_427 rfl (Ops.gp rfl g_427 rfl (Ops.st (s := 120008) (.pkF rfl g_427 rfl) rfl rfl (Ops.nil (Run.condO rfl h (fun g_428 h => ?_) (fun g_428 h => ?_))))))
                            · refine Run.seq (Run.ops hm (Ops.p rfl (Ops.nil (Run.ret ?_))))
                              obtain rfl := someO h
                              exact Ends.mkG (.inl rfl) rfl (gh_pk [0] [] hB rfl rfl rfl rfl) rfl rfl
                            · refine Run.skip (Run.seq (Run.ops hm (Ops.p rfl (Ops.nil (Run.seq (Run.ops hm (Ops.p rfl (Ops.p rfl ?_))))))))
                              obtain ⟨y_432, hy_432, h⟩ := bindO h
                              refine Ops.st (s := 132104) (Ev.call [] [29704, 29705, 29706, 29707] 0 (sem_laws_heldNode N (Node.mk y_292.1.Id y_292.1.Term y_292.1.Vote y_292.1.Role y_292.1.Lead y_376.2.1 (Log.mk y_292.1.Log.Start y_292.1.Log.StartTerm y_376.2.2.1) y_292.1.Commit y_292.1.Clock y_292.1.Limit y_376.2.2.2.1 y_376.2.2.2.2) (1 : Int) _ hy_432) rfl rfl (.cons (.agg (.cons (.c _) (.cons (.c _) (.cons (.c _) (.cons (.c _) (.cons (.c _) (.cons (.borrow rfl (by decide) (lendW (fun _ => rfl) _ (len_some hy_377))) (.cons (.c _) (.cons (.c _) (.cons (.borrow rfl (by decide) (lendW (fun _ => rfl) _ (len_some hy_378))) (.cons (.c _) (.cons (.c _) (.cons (.c _) (.cons (.borrow rfl (by decide) (lendW (fun _ => rfl) _ (len_some hy_379))) (.cons (.borrow rfl (by decide) (lendW (fun _ => rfl) _ (len_some hy_380))) .nil))))))))))))))) (.cons (.c _) .nil)) rfl (.inr ⟨rfl, ownL_root trivial⟩) rfl rfl) rfl rfl ?_
                              refine Ops.p rfl (Ops.nil (Run.seq (Run.seq (Run.ops hm (Ops.p rfl (Ops.p rfl (Ops.nil (Run.condO rfl h (fun g_434 h => ?_) (fun g_434 h => ?_)))))))))
                              · refine Run.seq (Run.ops hm (Ops.p rfl (Ops.nil (Run.ret ?_))))
                                obtain rfl := someO h
                                exact Ends.mkG (.inl rfl) rfl (gh_pk [0] [] hB rfl rfl rfl rfl) rfl rfl
                              · refine Run.skip (Run.seq (Run.ops hm (Ops.p rfl (Ops.p rfl ?_))))
                                obtain ⟨y_438, hy_438, h⟩ := bindO h
                                refine Ops.st (s := 144392) (Ev.call [] [29708] 0 (sem_laws_heldMessageS N y_387.2 y_432 _ hy_438) rfl rfl (.cons (.borrow rfl (by decide) (lendW ro_encMessage _ (len_some hy_388))) (.cons (.c _) .nil)) rfl (.inr ⟨rfl, ownL_root trivial⟩) rfl rfl) rfl rfl ?_
                                refine Ops.p rfl (Ops.nil (Run.seq (Run.seq (Run.ops hm (Ops.p rfl (Ops.p rfl (Ops.nil (Run.condO rfl h (fun g_440 h => ?_) (fun g_440 h => ?_)))))))))
                                · refine Run.seq (Run.ops hm (Ops.p rfl (Ops.nil (Run.ret ?_))))
                                  obtain rfl := someO h
                                  exact Ends.mkG (.inl rfl) rfl (gh_pk [0] [] hB rfl rfl rfl rfl) rfl rfl
                                · refine Run.skip (Run.seq (Run.seq (Run.ops hm (Ops.p rfl (Ops.p rfl (Ops.p rfl (Ops.nil (Run.condO rfl h (fun g_441 h => ?_) (fun g_441 h => ?_)))))))))
                                  · refine Run.seq (Run.ops hm (Ops.p rfl (Ops.nil (Run.ret ?_))))
                                    obtain rfl := someO h
                                    exact Ends.mkG (.inl rfl) rfl (gh_pk [0] [] hB rfl rfl rfl rfl) rfl rfl
                                  · refine Run.skip (Run.seq (Run.ops hm (Ops.p rfl (Ops.nil (Run.ret ?_)))))
                                    obtain rfl := someO h
                                    exact Ends.mkG (.inl rfl) rfl (gh_pk [0] [] hB rfl rfl rfl rfl) rfl rfl
end Go.Proofs.Ytehknbpmpbghhaa.Pe.FnExactTick
