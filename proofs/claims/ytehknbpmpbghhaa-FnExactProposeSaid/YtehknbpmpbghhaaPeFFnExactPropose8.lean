/- Functions, as pure functions; and that Go does just that. -/
import Derived.Test.YtehknbpmpbghhaaPeFFnExactPropose7
namespace Go.Proofs.Ytehknbpmpbghhaa.Pe.FnExactPropose
open Go Go.RowKit
set_option linter.unusedVariables false
set_option linter.unusedSimpArgs false
set_option maxHeartbeats 40000000
def laws_heldIntS_l1 (N : Nat) (x_1 : (List Int)) : Nat → Int → Int → Option ((Int) ⊕ (Int))
 | 0, _, _ => none
 | m + 1, x_205, x_206 =>
 (if (decide (x_206 < (x_1.length : Int))) = true then
 (at? x_1 x_206).bind fun x_236 =>
 (if (x_236 != x_205) = true then
 some (Sum.inl (-1 : Int))
 else
 laws_heldIntS_l1 N x_1 m (w64 (x_205 + (1 : Int))) (w64 (x_206 + (1 : Int))))
 else
 some (Sum.inr x_205))
def laws_heldIntS_l1_r (N : Nat) (x_1 : (List Int)) : (List Int) → Int → Int → Option ((Int) ⊕ (Int))
 | [], x_205, x_206 =>
 some (Sum.inr x_205)
 | hd :: tl, x_205, x_206 =>
 (some hd).bind fun x_236 =>
 (if (x_236 != x_205) = true then
 some (Sum.inl (-1 : Int))
 else
 laws_heldIntS_l1_r N x_1 tl (w64 (x_205 + (1 : Int))) (w64 (x_206 + (1 : Int))))
theorem laws_heldIntS_l1_rng (N : Nat) (x_1 : (List Int)) (hx : x_1.length ≤ 1099511627776) : ∀ (d k m : Nat) (x_205 : Int), x_1.length = k + d → d < m → laws_heldIntS_l1 N x_1 m x_205 (k : Int) = laws_heldIntS_l1_r N x_1 (x_1.drop k) x_205 (k : Int) := by
  intro d
  induction d with
  | zero =>
    intro k m x_205 hd hm
    obtain ⟨m, rfl⟩ : ∃ q, m = q + 1 := ⟨m - 1, by omega⟩
    rw [laws_heldIntS_l1, if_neg (by simp; omega), List.drop_eq_nil_of_le (by omega), laws_heldIntS_l1_r]
  | succ d ih =>
    intro k m x_205 hd hm
    obtain ⟨m, rfl⟩ : ∃ q, m = q + 1 := ⟨m - 1, by omega⟩
    have hk : k < x_1.length := by omega
    rw [laws_heldIntS_l1, if_pos (by simp; omega), List.drop_eq_getElem_cons hk, laws_heldIntS_l1_r]
    have h1 := at_lt hk
    have h2 := w64_succ (k := k) (by omega)
    have h3 := ih (k + 1) m
    simp only [h1, h2, h3 _ (by omega) (by omega)]
theorem laws_heldIntS_l1_eq {N : Nat} (x_1 : (List Int)) (hx : x_1.length ≤ 1099511627776) (hN : x_1.length < N) (x_205 : Int) : laws_heldIntS_l1 N x_1 N x_205 0 = laws_heldIntS_l1_r N x_1 x_1 x_205 0 := laws_heldIntS_l1_rng N x_1 hx x_1.length 0 N x_205 (by omega) hN
def laws_heldIntS (N : Nat) (x_1 : (List Int)) (x_2 : Int) : Option (Int) :=
 joinP (fun (v_203 : Int) =>
 some v_203) fun j_203 =>
 (laws_heldIntS_l1 N x_1 N x_2 (0 : Int)).bind (Sum.elim (fun v_221 => some v_221) (fun (v_222 : Int) => j_203 v_222))
theorem sem_laws_heldIntS (N : Nat) (x_1 : (List Int)) (x_2 : Int) (r : Int) (h : laws_heldIntS N x_1 x_2 = some r) : Says Try.prog 109 [RO 3 (x_1.map encI), VI x_2] 0 [] (VI r) [] := by
  unfold laws_heldIntS at h
  refine Says.of_run s109 Try.call109 rfl fun B hB => ?_
  have hm : B.m ≤ 1000 := by omega
  refine Run.seq (Run.ops hm (Ops.p rfl (Ops.nil (Run.seqO h (fun (v_203 : Int) => [(1, VI v_203)]) (fun (v_203 : Int) => []) (fun h => ?_) (fun v_203 h => ?_)))))
  · refine Run.seq (Run.ops hm (Ops.p rfl (Ops.nil (Run.block ?_))))
    obtain ⟨res_222, h, hk_222⟩ := bindO h
    refine Run.loop (n := N) (fun m_222 fr σ => ∃ (x_205 : Int), ∃ (x_206 : Int), laws_heldIntS_l1 N x_1 m_222 x_205 x_206 = some res_222 ∧ fr = [(0, RO 3 (x_1.map encI)), (1, VI x_205), (5, VI x_206)] ∧ σ = []) (gh_pk [0, 1, 5] [] hB rfl rfl rfl rfl) ⟨_, _, h, rfl, rfl⟩ ?_
    rintro m_222 fr σ ⟨x_205, x_206, h, rfl, rfl⟩
    obtain _ | m_222 := m_222
    · rw [laws_heldIntS_l1] at h; cases h
    rw [laws_heldIntS_l1] at h
    refine Run.seq (Run.seq (Run.ops hm (Ops.p rfl (Ops.p rfl (Ops.st (s := 9224) (Ev.lnF rfl) rfl rfl (Ops.p rfl (Ops.nil (Run.condO rfl h (fun g_225 h => ?_) (fun g_225 h => ?_)))))))))
    · refine Run.skip (Run.seq (Run.block (Run.seq (Run.seq (Run.ops hm (Ops.p rfl (Ops.p rfl ?_)))))))
      obtain ⟨x_236, hx_236, h⟩ := bindO h
      refine Ops.st (s := 17416) (Ev.iaF rfl rfl hx_236) rfl rfl (Ops.p rfl (Ops.p rfl (Ops.p rfl (Ops.nil (Run.condO rfl h (fun g_237 h => ?_) (fun g_237 h => ?_))))))
      · refine Run.seq (Run.ops hm (Ops.p rfl (Ops.nil (Run.ret ?_))))
        obtain rfl := someO h
        have h := hk_222
        replace h := inlO h
        obtain rfl := someO h
        exact Ends.mkG (.inl rfl) rfl (gh_pk [0] [] hB rfl rfl rfl rfl) rfl rfl
      · exact Run.skip (Run.ops hm (Ops.p rfl (Ops.p rfl (Ops.p rfl (Ops.nil (Run.ops hm (Ops.p rfl (Ops.p rfl (Ops.p rfl (Ops.nil (⟨m_222, Nat.lt_succ_self m_222, _, _, (gh_pk [0, 1, 5] [] hB rfl rfl rfl rfl), _, _, h, rfl, rfl⟩)))))))))))
    · refine Run.exit ?_
      obtain rfl := someO h
      have h := hk_222
      replace h := inrO h
      exact ⟨_, _, (gh_pk [1] [] hB rfl rfl rfl rfl), x_205, h, rfl, rfl⟩
  · refine Run.seq (Run.ops hm (Ops.p rfl (Ops.p rfl (Ops.nil (Run.ret ?_)))))
    obtain rfl := someO h
    exact Ends.mkG (.inl rfl) rfl (gh_pk [0] [] hB rfl rfl rfl rfl) rfl rfl
def laws_heldEntryS_l1 (N : Nat) (x_1 : (List Entry)) : Nat → Int → Int → Option ((Int) ⊕ (Int))
 | 0, _, _ => none
 | m + 1, x_397, x_398 =>
 (if (decide (x_398 < (x_1.length : Int))) = true then
 (at? x_1 x_398).bind fun x_476 =>
 (if (x_476.Term != x_397) = true then
 some (Sum.inl (-1 : Int))
 else
 (at? x_1 x_398).bind fun x_482 =>
 (if (x_482.Kind != (w64 (x_397 + (1 : Int)))) = true then
 some (Sum.inl (-1 : Int))
 else
 (at? x_1 x_398).bind fun x_491 =>
 (laws_markText N (w64 ((w64 (x_397 + (1 : Int))) + (1 : Int)))).bind fun y_492 =>
 (if (!decide (x_491.Data = y_492)) = true then
 some (Sum.inl (-1 : Int))
 else
 laws_heldEntryS_l1 N x_1 m (w64 ((w64 ((w64 (x_397 + (1 : Int))) + (1 : Int))) + (1 : Int))) (w64 (x_398 + (1 : Int))))))
 else
 some (Sum.inr x_397))
def laws_heldEntryS_l1_r (N : Nat) (x_1 : (List Entry)) : (List Entry) → Int → Int → Option ((Int) ⊕ (Int))
 | [], x_397, x_398 =>
 some (Sum.inr x_397)
 | hd :: tl, x_397, x_398 =>
 (some hd).bind fun x_476 =>
 (if (x_476.Term != x_397) = true then
 some (Sum.inl (-1 : Int))
 else
 (some hd).bind fun x_482 =>
 (if (x_482.Kind != (w64 (x_397 + (1 : Int)))) = true then
 some (Sum.inl (-1 : Int))
 else
 (some hd).bind fun x_491 =>
 (laws_markText N (w64 ((w64 (x_397 + (1 : Int))) + (1 : Int)))).bind fun y_492 =>
 (if (!decide (x_491.Data = y_492)) = true then
 some (Sum.inl (-1 : Int))
 else
 laws_heldEntryS_l1_r N x_1 tl (w64 ((w64 ((w64 (x_397 + (1 : Int))) + (1 : Int))) + (1 : Int))) (w64 (x_398 + (1 : Int))))))
theorem laws_heldEntryS_l1_rng (N : Nat) (x_1 : (List Entry)) (hx : x_1.length ≤ 1099511627776) : ∀ (d k m : Nat) (x_397 : Int), x_1.length = k + d → d < m → laws_heldEntryS_l1 N x_1 m x_397 (k : Int) = laws_heldEntryS_l1_r N x_1 (x_1.drop k) x_397 (k : Int) := by
  intro d
  induction d with
  | zero =>
    intro k m x_397 hd hm
    obtain ⟨m, rfl⟩ : ∃ q, m = q + 1 := ⟨m - 1, by omega⟩
    rw [laws_heldEntryS_l1, if_neg (by simp; omega), List.drop_eq_nil_of_le (by omega), laws_heldEntryS_l1_r]
  | succ d ih =>
    intro k m x_397 hd hm
    obtain ⟨m, rfl⟩ : ∃ q, m = q + 1 := ⟨m - 1, by omega⟩
    have hk : k < x_1.length := by omega
    rw [laws_heldEntryS_l1, if_pos (by simp; omega), List.drop_eq_getElem_cons hk, laws_heldEntryS_l1_r]
    have h1 := at_lt hk
    have h2 := w64_succ (k := k) (by omega)
    have h3 := ih (k + 1) m
    simp only [h1, h2, h3 _ (by omega) (by omega)]
theorem laws_heldEntryS_l1_eq {N : Nat} (x_1 : (List Entry)) (hx : x_1.length ≤ 1099511627776) (hN : x_1.length < N) (x_397 : Int) : laws_heldEntryS_l1 N x_1 N x_397 0 = laws_heldEntryS_l1_r N x_1 x_1 x_397 0 := laws_heldEntryS_l1_rng N x_1 hx x_1.length 0 N x_397 (by omega) hN
def laws_heldEntryS (N : Nat) (x_1 : (List Entry)) (x_2 : Int) : Option (Int) :=
 joinP (fun (v_395 : Int) =>
 some v_395) fun j_395 =>
 (laws_heldEntryS_l1 N x_1 N x_2 (0 : Int)).bind (Sum.elim (fun v_445 => some v_445) (fun (v_446 : Int) => j_395 v_446))
theorem sem_laws_heldEntryS (N : Nat) (x_1 : (List Entry)) (x_2 : Int) (r : Int) (h : laws_heldEntryS N x_1 x_2 = some r) : Says Try.prog 112 [RO 51 (x_1.map encEntry), VI x_2] 0 [] (VI r) [] := by
  unfold laws_heldEntryS at h
  refine Says.of_run s112 Try.call112 rfl fun B hB => ?_
  have hm : B.m ≤ 1000 := by omega
  refine Run.seq (Run.ops hm (Ops.p rfl (Ops.nil (Run.seqO h (fun (v_395 : Int) => [(1, VI v_395)]) (fun (v_395 : Int) => []) (fun h => ?_) (fun v_395 h => ?_)))))
  · refine Run.seq (Run.ops hm (Ops.p rfl (Ops.nil (Run.block ?_))))
    obtain ⟨res_446, h, hk_446⟩ := bindO h
    refine Run.loop (n := N) (fun m_446 fr σ => ∃ (x_397 : Int), ∃ (x_398 : Int), laws_heldEntryS_l1 N x_1 m_446 x_397 x_398 = some res_446 ∧ fr = [(0, RO 51 (x_1.map encEntry)), (1, VI x_397), (5, VI x_398)] ∧ σ = []) (gh_pk [0, 1, 5] [] hB rfl rfl rfl rfl) ⟨_, _, h, rfl, rfl⟩ ?_
    rintro m_446 fr σ ⟨x_397, x_398, h, rfl, rfl⟩
    obtain _ | m_446 := m_446
    · rw [laws_heldEntryS_l1] at h; cases h
    rw [laws_heldEntryS_l1] at h
    refine Run.seq (Run.seq (Run.ops hm (Ops.p rfl (Ops.p rfl (Ops.st (s := 9224) (Ev.lnF rfl) rfl rfl (Ops.p rfl (Ops.nil (Run.condO rfl h (fun g_449 h => ?_) (fun g_449 h => ?_)))))))))
    · refine Run.skip (Run.seq (Run.block (Run.seq (Run.seq (Run.ops hm (Ops.p rfl (Ops.p rfl ?_)))))))
      obtain ⟨x_476, hx_476, h⟩ := bindO h
      refine Ops.st (s := 17416) (Ev.iaF rfl rfl hx_476) rfl rfl (Ops.p rfl (Ops.p rfl (Ops.p rfl (Ops.p rfl (Ops.nil (Run.condO rfl h (fun g_477 h => ?_) (fun g_477 h => ?_)))))))
      · refine Run.seq (Run.ops hm (Ops.p rfl (Ops.nil (Run.ret ?_))))
        obtain rfl := someO h
        have h := hk_446
        replace h := inlO h
        obtain rfl := someO h
        exact Ends.mkG (.inl rfl) rfl (gh_pk [0] [] hB rfl rfl rfl rfl) rfl rfl
      · refine Run.skip (Run.seq (Run.ops hm (Ops.p rfl (Ops.p rfl (Ops.p rfl (Ops.nil (Run.seq (Run.seq (Run.ops hm (Ops.p rfl (Ops.p rfl ?_)))))))))))
        obtain ⟨x_482, hx_482, h⟩ := bindO h
        refine Ops.st (s := 29704) (Ev.iaF rfl rfl hx_482) rfl rfl (Ops.p rfl (Ops.p rfl (Ops.p rfl (Ops.p rfl (Ops.nil (Run.condO rfl h (fun g_483 h => ?_) (fun g_483 h => ?_)))))))
        · refine Run.seq (Run.ops hm (Ops.p rfl (Ops.nil (Run.ret ?_))))
          obtain rfl := someO h
          have h := hk_446
          replace h := inlO h
          obtain rfl := someO h
          exact Ends.mkG (.inl rfl) rfl (gh_pk [0] [] hB rfl rfl rfl rfl) rfl rfl
        · refine Run.skip (Run.seq (Run.ops hm (Ops.p rfl (Ops.p rfl (Ops.p rfl (Ops.nil (Run.seq (Run.seq (Run.draw hm hmix (OpsD.p rfl (OpsD.p rfl ?_)))))))))))
          obtain ⟨x_491, hx_491, h⟩ := bindO h
          refine OpsD.st (s := 41992) (Ev.iaF rfl rfl hx_491) rfl rfl (OpsD.p rfl (OpsD.p rfl (OpsD.p rfl ?_)))
          obtain ⟨y_492, hy_492, h⟩ := bindO h
          refine OpsD.st (s := 42056) (Ev.call [] [] 0 (sem_laws_markText N (w64 ((w64 (x_397 + (1 : Int))) + (1 : Int))) _ hy_492) rfl rfl (.cons (.c _) .nil) rfl (.inl rfl) rfl rfl) rfl rfl (OpsD.p rfl (OpsD.nil ⟨by kernel_rfl, ?_⟩))
          refine Run.condO rfl h (fun g_493 h => ?_) (fun g_493 h => ?_)
          · refine Run.seq (Run.ops hm (Ops.p rfl (Ops.nil (Run.ret ?_))))
            obtain rfl := someO h
            have h := hk_446
            replace h := inlO h
            obtain rfl := someO h
            exact Ends.mkG (.inl rfl) rfl (gh_pk [0] [] hB rfl rfl rfl rfl) rfl rfl
          · exact Run.skip (Run.ops hm (Ops.p rfl (Ops.p rfl (Ops.p rfl (Ops.nil (Run.ops hm (Ops.p rfl (Ops.p rfl (Ops.p rfl (Ops.nil (⟨m_446, Nat.lt_succ_self m_446, _, _, (gh_pk [0, 1, 5] [] hB rfl rfl rfl rfl), _, _, h, rfl, rfl⟩)))))))))))
    · refine Run.exit ?_
      obtain rfl := someO h
      have h := hk_446
      replace h := inrO h
      exact ⟨_, _, (gh_pk [1] [] hB rfl rfl rfl rfl), x_397, h, rfl, rfl⟩
  · refine Run.seq (Run.ops hm (Ops.p rfl (Ops.p rfl (Ops.nil (Run.ret ?_)))))
    obtain rfl := someO h
    exact Ends.mkG (.inl rfl) rfl (gh_pk [0] [] hB rfl rfl rfl rfl) rfl rfl
def laws_heldLog (N : Nat) (x_1 : Log) (x_2 : Int) : Option (Int) :=
 (laws_heldEntryS N x_1.Entries x_2).bind fun y_109 =>
 (if (decide (y_109 < (0 : Int))) = true then
 some (-1 : Int)
 else
 some y_109)
theorem sem_laws_heldLog (N : Nat) (x_1 : Log) (x_2 : Int) (r : Int) (h : laws_heldLog N x_1 x_2 = some r) : Says Try.prog 110 [.agg [VI x_1.Start, VI x_1.StartTerm, RO 51 (x_1.Entries.map encEntry)], VI x_2] 0 [] (VI r) [] := by
  unfold laws_heldLog at h
  refine Says.of_run s110 Try.call110 rfl fun B hB => ?_
  have hm : B.m ≤ 1000 := by omega
  refine Run.seq (Run.ops hm (Ops.st (s := 1000) (.bx rfl rfl) rfl rfl (Ops.p rfl (Ops.nil (Run.seq (Run.ops hm (Ops.p rfl (Ops.p rfl (Ops.p rfl ?_)))))))))
  obtain ⟨y_109, hy_109, h⟩ := bindO h
  refine Ops.st (s := 5144) (Ev.call [] [] 0 (sem_laws_heldEntryS N x_1.Entries x_2 _ hy_109) rfl rfl (.cons (.c _) (.cons (.c _) .nil)) rfl (.inl rfl) rfl rfl) rfl rfl (Ops.p rfl (Ops.nil (Run.seq (Run.seq (Run.ops hm (Ops.p rfl (Ops.p rfl (Ops.nil (Run.condO rfl h (fun g_111 h => ?_) (fun g_111 h => ?_))))))))))
  · refine Run.seq (Run.ops hm (Ops.p rfl (Ops.nil (Run.ret ?_))))
    obtain rfl := someO h
    exact Ends.mkG (.inl rfl) rfl (gh_pk [0] [] hB rfl rfl rfl rfl) rfl rfl
  · refine Run.skip (Run.seq (Run.ops hm (Ops.p rfl (Ops.p rfl (Ops.nil (Run.ret ?_))))))
    obtain rfl := someO h
    exact Ends.mkG (.inl rfl) rfl (gh_pk [0] [] hB rfl rfl rfl rfl) rfl rfl
def laws_heldPeerS_l1 (N : Nat) (x_1 : (List Peer)) : Nat → Int → Int → Option ((Int) ⊕ (Int))
 | 0, _, _ => none
 | m + 1, x_421, x_422 =>
 (if (decide (x_422 < (x_1.length : Int))) = true then
 (at? x_1 x_422).bind fun x_506 =>
 (if (x_506.Id != x_421) = true then
 some (Sum.inl (-1 : Int))
 else
 (at? x_1 x_422).bind fun x_512 =>
 (if (x_512.Next != (w64 (x_421 + (1 : Int)))) = true then
 some (Sum.inl (-1 : Int))
 else
 (at? x_1 x_422).bind fun x_518 =>
 (if (x_518.Match != (w64 ((w64 (x_421 + (1 : Int))) + (1 : Int)))) = true then
 some (Sum.inl (-1 : Int))
 else
 (at? x_1 x_422).bind fun x_524 =>
 (if (x_524.Sent != (w64 ((w64 ((w64 (x_421 + (1 : Int))) + (1 : Int))) + (1 : Int)))) = true then
 some (Sum.inl (-1 : Int))
 else
 laws_heldPeerS_l1 N x_1 m (w64 ((w64 ((w64 ((w64 (x_421 + (1 : Int))) + (1 : Int))) + (1 : Int))) + (1 : Int))) (w64 (x_422 + (1 : Int)))))))
 else
 some (Sum.inr x_421))
def laws_heldPeerS_l1_r (N : Nat) (x_1 : (List Peer)) : (List Peer) → Int → Int → Option ((Int) ⊕ (Int))
 | [], x_421, x_422 =>
 some (Sum.inr x_421)
 | hd :: tl, x_421, x_422 =>
 (some hd).bind fun x_506 =>
 (if (x_506.Id != x_421) = true then
 some (Sum.inl (-1 : Int))
 else
 (some hd).bind fun x_512 =>
 (if (x_512.Next != (w64 (x_421 + (1 : Int)))) = true then
 some (Sum.inl (-1 : Int))
 else
 (some hd).bind fun x_518 =>
 (if (x_518.Match != (w64 ((w64 (x_421 + (1 : Int))) + (1 : Int)))) = true then
 some (Sum.inl (-1 : Int))
 else
 (some hd).bind fun x_524 =>
 (if (x_524.Sent != (w64 ((w64 ((w64 (x_421 + (1 : Int))) + (1 : Int))) + (1 : Int)))) = true then
 some (Sum.inl (-1 : Int))
 else
 laws_heldPeerS_l1_r N x_1 tl (w64 ((w64 ((w64 ((w64 (x_421 + (1 : Int))) + (1 : Int))) + (1 : Int))) + (1 : Int))) (w64 (x_422 + (1 : Int)))))))
theorem laws_heldPeerS_l1_rng (N : Nat) (x_1 : (List Peer)) (hx : x_1.length ≤ 1099511627776) : ∀ (d k m : Nat) (x_421 : Int), x_1.length = k + d → d < m → laws_heldPeerS_l1 N x_1 m x_421 (k : Int) = laws_heldPeerS_l1_r N x_1 (x_1.drop k) x_421 (k : Int) := by
  intro d
  induction d with
  | zero =>
    intro k m x_421 hd hm
    obtain ⟨m, rfl⟩ : ∃ q, m = q + 1 := ⟨m - 1, by omega⟩
    rw [laws_heldPeerS_l1, if_neg (by simp; omega), List.drop_eq_nil_of_le (by omega), laws_heldPeerS_l1_r]
  | succ d ih =>
    intro k m x_421 hd hm
    obtain ⟨m, rfl⟩ : ∃ q, m = q + 1 := ⟨m - 1, by omega⟩
    have hk : k < x_1.length := by omega
    rw [laws_heldPeerS_l1, if_pos (by simp; omega), List.drop_eq_getElem_cons hk, laws_heldPeerS_l1_r]
    have h1 := at_lt hk
    have h2 := w64_succ (k := k) (by omega)
    have h3 := ih (k + 1) m
    simp only [h1, h2, h3 _ (by omega) (by omega)]
theorem laws_heldPeerS_l1_eq {N : Nat} (x_1 : (List Peer)) (hx : x_1.length ≤ 1099511627776) (hN : x_1.length < N) (x_421 : Int) : laws_heldPeerS_l1 N x_1 N x_421 0 = laws_heldPeerS_l1_r N x_1 x_1 x_421 0 := laws_heldPeerS_l1_rng N x_1 hx x_1.length 0 N x_421 (by omega) hN
def laws_heldPeerS (N : Nat) (x_1 : (List Peer)) (x_2 : Int) : Option (Int) :=
 joinP (fun (v_419 : Int) =>
 some v_419) fun j_419 =>
 (laws_heldPeerS_l1 N x_1 N x_2 (0 : Int)).bind (Sum.elim (fun v_473 => some v_473) (fun (v_474 : Int) => j_419 v_474))
theorem sem_laws_heldPeerS (N : Nat) (x_1 : (List Peer)) (x_2 : Int) (r : Int) (h : laws_heldPeerS N x_1 x_2 = some r) : Says Try.prog 111 [RO 135 (x_1.map encPeer), VI x_2] 0 [] (VI r) [] := by
  unfold laws_heldPeerS at h
  refine Says.of_run s111 Try.call111 rfl fun B hB => ?_
  have hm : B.m ≤ 1000 := by omega
  refine Run.seq (Run.ops hm (Ops.p rfl (Ops.nil (Run.seqO h (fun (v_419 : Int) => [(1, VI v_419)]) (fun (v_419 : Int) => []) (fun h => ?_) (fun v_419 h => ?_)))))
  · refine Run.seq (Run.ops hm (Ops.p rfl (Ops.nil (Run.block ?_))))
    obtain ⟨res_474, h, hk_474⟩ := bindO h
    refine Run.loop (n := N) (fun m_474 fr σ => ∃ (x_421 : Int), ∃ (x_422 : Int), laws_heldPeerS_l1 N x_1 m_474 x_421 x_422 = some res_474 ∧ fr = [(0, RO 135 (x_1.map encPeer)), (1, VI x_421), (5, VI x_422)] ∧ σ = []) (gh_pk [0, 1, 5] [] hB rfl rfl rfl rfl) ⟨_, _, h, rfl, rfl⟩ ?_
    rintro m_474 fr σ ⟨x_421, x_422, h, rfl, rfl⟩
    obtain _ | m_474 := m_474
    · rw [laws_heldPeerS_l1] at h; cases h
    rw [laws_heldPeerS_l1] at h
    refine Run.seq (Run.seq (Run.ops hm (Ops.p rfl (Ops.p rfl (Ops.st (s := 9224) (Ev.lnF rfl) rfl rfl (Ops.p rfl (Ops.nil (Run.condO rfl h (fun g_477 h => ?_) (fun g_477 h => ?_)))))))))
    · refine Run.skip (Run.seq (Run.block (Run.seq (Run.seq (Run.ops hm (Ops.p rfl (Ops.p rfl ?_)))))))
      obtain ⟨x_506, hx_506, h⟩ := bindO h
      refine Ops.st (s := 17416) (Ev.iaF rfl rfl hx_506) rfl rfl (Ops.p rfl (Ops.p rfl (Ops.p rfl (Ops.p rfl (Ops.nil (Run.condO rfl h (fun g_507 h => ?_) (fun g_507 h => ?_)))))))
      · refine Run.seq (Run.ops hm (Ops.p rfl (Ops.nil (Run.ret ?_))))
        obtain rfl := someO h
        have h := hk_474
        replace h := inlO h
        obtain rfl := someO h
        exact Ends.mkG (.inl rfl) rfl (gh_pk [0] [] hB rfl rfl rfl rfl) rfl rfl
      · refine Run.skip (Run.seq (Run.ops hm (Ops.p rfl (Ops.p rfl (Ops.p rfl (Ops.nil (Run.seq (Run.seq (Run.ops hm (Ops.p rfl (Ops.p rfl ?_)))))))))))
        obtain ⟨x_512, hx_512, h⟩ := bindO h
        refine Ops.st (s := 29704) (Ev.iaF rfl rfl hx_512) rfl rfl (Ops.p rfl (Ops.p rfl (Ops.p rfl (Ops.p rfl (Ops.nil (Run.condO rfl h (fun g_513 h => ?_) (fun g_513 h => ?_)))))))
        · refine Run.seq (Run.ops hm (Ops.p rfl (Ops.nil (Run.ret ?_))))
          obtain rfl := someO h
          have h := hk_474
          replace h := inlO h
          obtain rfl := someO h
          exact Ends.mkG (.inl rfl) rfl (gh_pk [0] [] hB rfl rfl rfl rfl) rfl rfl
        · refine Run.skip (Run.seq (Run.ops hm (Ops.p rfl (Ops.p rfl (Ops.p rfl (Ops.nil (Run.seq (Run.seq (Run.ops hm (Ops.p rfl (Ops.p rfl ?_)))))))))))
          obtain ⟨x_518, hx_518, h⟩ := bindO h
          refine Ops.st (s := 41992) (Ev.iaF rfl rfl hx_518) rfl rfl (Ops.p rfl (Ops.p rfl (Ops.p rfl (Ops.p rfl (Ops.nil (Run.condO rfl h (fun g_519 h => ?_) (fun g_519 h => ?_)))))))
          · refine Run.seq (Run.ops hm (Ops.p rfl (Ops.nil (Run.ret ?_))))
            obtain rfl := someO h
            have h := hk_474
            replace h := inlO h
            obtain rfl := someO h
            exact Ends.mkG (.inl rfl) rfl (gh_pk [0] [] hB rfl rfl rfl rfl) rfl rfl
          · refine Run.skip (Run.seq (Run.ops hm (Ops.p rfl (Ops.p rfl (Ops.p rfl (Ops.nil (Run.seq (Run.seq (Run.ops hm (Ops.p rfl (Ops.p rfl ?_)))))))))))
            obtain ⟨x_524, hx_524, h⟩ := bindO h
            refine Ops.st (s := 54280) (Ev.iaF rfl rfl hx_524) rfl rfl (Ops.p rfl (Ops.p rfl (Ops.p rfl (Ops.p rfl (Ops.nil (Run.condO rfl h (fun g_525 h => ?_) (fun g_525 h => ?_)))))))
            · refine Run.seq (Run.ops hm (Ops.p rfl (Ops.nil (Run.ret ?_))))
              obtain rfl := someO h
              have h := hk_474
              replace h := inlO h
              obtain rfl := someO h
              exact Ends.mkG (.inl rfl) rfl (gh_pk [0] [] hB rfl rfl rfl rfl) rfl rfl
            · exact Run.skip (Run.ops hm (Ops.p rfl (Ops.p rfl (Ops.p rfl (Ops.nil (Run.ops hm (Ops.p rfl (Ops.p rfl (Ops.p rfl (Ops.nil (⟨m_474, Nat.lt_succ_self m_474, _, _, (gh_pk [0, 1, 5] [] hB rfl rfl rfl rfl), _, _, h, rfl, rfl⟩)))))))))))
    · refine Run.exit ?_
      obtain rfl := someO h
      have h := hk_474
      replace h := inrO h
      exact ⟨_, _, (gh_pk [1] [] hB rfl rfl rfl rfl), x_421, h, rfl, rfl⟩
  · refine Run.seq (Run.ops hm (Ops.p rfl (Ops.p rfl (Ops.nil (Run.ret ?_)))))
    obtain rfl := someO h
    exact Ends.mkG (.inl rfl) rfl (gh_pk [0] [] hB rfl rfl rfl rfl) rfl rfl
def laws_heldNode (N : Nat) (x_1 : Node) (x_2 : Int) : Option (Int) :=
 (laws_heldIntS N x_1.Conf x_2).bind fun y_127 =>
 (if (decide (y_127 < (0 : Int))) = true then
 some (-1 : Int)
 else
 (laws_heldLog N x_1.Log y_127).bind fun y_133 =>
 (if (decide (y_133 < (0 : Int))) = true then
 some (-1 : Int)
 else
 (laws_heldIntS N x_1.Votes y_133).bind fun y_139 =>
 (if (decide (y_139 < (0 : Int))) = true then
 some (-1 : Int)
 else
 (laws_heldPeerS N x_1.Peers y_139).bind fun y_145 =>
 (if (decide (y_145 < (0 : Int))) = true then
 some (-1 : Int)
 else
 some y_145))))
theorem sem_laws_heldNode (N : Nat) (x_1 : Node) (x_2 : Int) (r : Int) (h : laws_heldNode N x_1 x_2 = some r) : Says Try.prog 35 [.agg [VI x_1.Id, VI x_1.Term, VI x_1.Vote, VI x_1.Role, VI x_1.Lead, RO 3 (x_1.Conf.map encI), VI x_1.Log.Start, VI x_1.Log.StartTerm, RO 51 (x_1.Log.Entries.map encEntry), VI x_1.Commit, VI x_1.Clock, VI x_1.Limit, RO 3 (x_1.Votes.map encI), RO 135 (x_1.Peers.map encPeer)], VI x_2] 0 [] (VI r) [] := by
  unfold laws_heldNode at h
  refine Says.of_run s35 Try.call35 rfl fun B hB => ?_
  have hm : B.m ≤ 1000 := by omega
  refine Run.seq (Run.ops hm (Ops.st (s := 1000) (.bx rfl rfl) rfl rfl (Ops.p rfl (Ops.nil (Run.seq (Run.ops hm (Ops.p rfl (Ops.p rfl (Ops.p rfl ?_)))))))))
  obtain ⟨y_127, hy_127, h⟩ := bindO h
  refine Ops.st (s := 5144) (Ev.call [] [] 0 (sem_laws_heldIntS N x_1.Conf x_2 _ hy_127) rfl rfl (.cons (.c _) (.cons (.c _) .nil)) rfl (.inl rfl) rfl rfl) rfl rfl (Ops.p rfl (Ops.nil (Run.seq (Run.seq (Run.ops hm (Ops.p rfl (Ops.p rfl (Ops.nil (Run.condO rfl h (fun g_129 h => ?_) (fun g_129 h => ?_))))))))))
  · refine Run.seq (Run.ops hm (Ops.p rfl (Ops.nil (Run.ret ?_))))
    obtain rfl := someO h
    exact Ends.mkG (.inl rfl) rfl (gh_pk [0] [] hB rfl rfl rfl rfl) rfl rfl
  · refine Run.skip (Run.seq (Run.ops hm (Ops.p rfl (Ops.p rfl (Ops.p rfl ?_)))))
    obtain ⟨y_133, hy_133, h⟩ := bindO h
    refine Ops.st (s := 17432) (Ev.call [] [] 0 (sem_laws_heldLog N x_1.Log y_127 _ hy_133) rfl rfl (.cons (.agg (.cons (.c _) (.cons (.c _) (.cons (.c _) .nil)))) (.cons (.c _) .nil)) rfl (.inl rfl) rfl rfl) rfl rfl (Ops.p rfl (Ops.nil (Run.seq (Run.seq (Run.ops hm (Ops.p rfl (Ops.p rfl (Ops.nil (Run.condO rfl h (fun g_135 h => ?_) (fun g_135 h => ?_))))))))))
    · refine Run.seq (Run.ops hm (Ops.p rfl (Ops.nil (Run.ret ?_))))
      obtain rfl := someO h
      exact Ends.mkG (.inl rfl) rfl (gh_pk [0] [] hB rfl rfl rfl rfl) rfl rfl
    · refine Run.skip (Run.seq (Run.ops hm (Ops.p rfl (Ops.p rfl (Ops.p rfl ?_)))))
      obtain ⟨y_139, hy_139, h⟩ := bindO h
      refine Ops.st (s := 29720) (Ev.call [] [] 0 (sem_laws_heldIntS N x_1.Votes y_133 _ hy_139) rfl rfl (.cons (.c _) (.cons (.c _) .nil)) rfl (.inl rfl) rfl rfl) rfl rfl (Ops.p rfl (Ops.nil (Run.seq (Run.seq (Run.ops hm (Ops.p rfl (Ops.p rfl (Ops.nil (Run.condO rfl h (fun g_141 h => ?_) (fun g_141 h => ?_))))))))))
      · refine Run.seq (Run.ops hm (Ops.p rfl (Ops.nil (Run.ret ?_))))
        obtain rfl := someO h
        exact Ends.mkG (.inl rfl) rfl (gh_pk [0] [] hB rfl rfl rfl rfl) rfl rfl
      · refine Run.skip (Run.seq (Run.ops hm (Ops.p rfl (Ops.p rfl (Ops.p rfl ?_)))))
        obtain ⟨y_145, hy_145, h⟩ := bindO h
        refine Ops.st (s := 42008) (Ev.call [] [] 0 (sem_laws_heldPeerS N x_1.Peers y_139 _ hy_145) rfl rfl (.cons (.c _) (.cons (.c _) .nil)) rfl (.inl rfl) rfl rfl) rfl rfl (Ops.p rfl (Ops.nil (Run.seq (Run.seq (Run.ops hm (Ops.p rfl (Ops.p rfl (Ops.nil (Run.condO rfl h (fun g_147 h => ?_) (fun g_147 h => ?_))))))))))
        · refine Run.seq (Run.ops hm (Ops.p rfl (Ops.nil (Run.ret ?_))))
          obtain rfl := someO h
          exact Ends.mkG (.inl rfl) rfl (gh_pk [0] [] hB rfl rfl rfl rfl) rfl rfl
        · refine Run.skip (Run.seq (Run.ops hm (Ops.p rfl (Ops.p rfl (Ops.nil (Run.ret ?_))))))
          obtain rfl := someO h
          exact Ends.mkG (.inl rfl) rfl (gh_pk [0] [] hB rfl rfl rfl rfl) rfl rfl
def laws_heldMessageS_l1 (N : Nat) (x_1 : (List Message)) : Nat → Int → Int → Option ((Int) ⊕ (Int))
 | 0, _, _ => none
 | m + 1, x_1237, x_1238 =>
 (if (decide (x_1238 < (x_1.length : Int))) = true then
 (at? x_1 x_1238).bind fun x_1526 =>
 (if (x_1526.Kind != x_1237) = true then
 some (Sum.inl (-1 : Int))
 else
 (at? x_1 x_1238).bind fun x_1532 =>
 (if (x_1532.From != (w64 (x_1237 + (1 : Int)))) = true then
 some (Sum.inl (-1 : Int))
 else
 (at? x_1 x_1238).bind fun x_1538 =>
 (if (x_1538.To != (w64 ((w64 (x_1237 + (1 : Int))) + (1 : Int)))) = true then
 some (Sum.inl (-1 : Int))
 else
 (at? x_1 x_1238).bind fun x_1544 =>
 (if (x_1544.Term != (w64 ((w64 ((w64 (x_1237 + (1 : Int))) + (1 : Int))) + (1 : Int)))) = true then
 some (Sum.inl (-1 : Int))
 else
 (at? x_1 x_1238).bind fun x_1550 =>
 (if (x_1550.Index != (w64 ((w64 ((w64 ((w64 (x_1237 + (1 : Int))) + (1 : Int))) + (1 : Int))) + (1 : Int)))) = true then
 some (Sum.inl (-1 : Int))
 else
 (at? x_1 x_1238).bind fun x_1556 =>
 (if (x_1556.LogTerm != (w64 ((w64 ((w64 ((w64 ((w64 (x_1237 + (1 : Int))) + (1 : Int))) + (1 : Int))) + (1 : Int))) + (1 : Int)))) = true then
 some (Sum.inl (-1 : Int))
 else
 (at? x_1 x_1238).bind fun x_1562 =>
 (if (x_1562.Commit != (w64 ((w64 ((w64 ((w64 ((w64 ((w64 (x_1237 + (1 : Int))) + (1 : Int))) + (1 : Int))) + (1 : Int))) + (1 : Int))) + (1 : Int)))) = true then
 some (Sum.inl (-1 : Int))
 else
 (at? x_1 x_1238).bind fun x_1571 =>
 (intD .rem .i64 (w64 ((w64 ((w64 ((w64 ((w64 ((w64 ((w64 (x_1237 + (1 : Int))) + (1 : Int))) + (1 : Int))) + (1 : Int))) + (1 : Int))) + (1 : Int))) + (1 : Int))) (3 : Int)).bind fun x_1572 =>
 (if ((x_1571.Ok == (x_1572 == (0 : Int))) ^^ true) = true then
 some (Sum.inl (-1 : Int))
 else
 (at? x_1 x_1238).bind fun x_1580 =>
 (laws_heldEntryS N x_1580.Entries (w64 ((w64 ((w64 ((w64 ((w64 ((w64 ((w64 ((w64 (x_1237 + (1 : Int))) + (1 : Int))) + (1 : Int))) + (1 : Int))) + (1 : Int))) + (1 : Int))) + (1 : Int))) + (1 : Int)))).bind fun y_1581 =>
 (if (decide (y_1581 < (0 : Int))) = true then
 some (Sum.inl (-1 : Int))
 else
 (at? x_1 x_1238).bind fun x_1590 =>
 (laws_heldIntS N x_1590.Conf y_1581).bind fun y_1591 =>
 (if (decide (y_1591 < (0 : Int))) = true then
 some (Sum.inl (-1 : Int))
 else
 (at? x_1 x_1238).bind fun x_1601 =>
 (laws_markText N y_1591).bind fun y_1602 =>
 (if (!decide (x_1601.Data = y_1602)) = true then
 some (Sum.inl (-1 : Int))
 else
 (at? x_1 x_1238).bind fun x_1611 =>
 (intD .rem .i64 (w64 (y_1591 + (1 : Int))) (3 : Int)).bind fun x_1612 =>
 (if ((x_1611.Last == (x_1612 == (0 : Int))) ^^ true) = true then
 some (Sum.inl (-1 : Int))
 else
 laws_heldMessageS_l1 N x_1 m (w64 ((w64 (y_1591 + (1 : Int))) + (1 : Int))) (w64 (x_1238 + (1 : Int)))))))))))))))
 else
 some (Sum.inr x_1237))
def laws_heldMessageS_l1_r (N : Nat) (x_1 : (List Message)) : (List Message) → Int → Int → Option ((Int) ⊕ (Int))
 | [], x_1237, x_1238 =>
 some (Sum.inr x_1237)
 | hd :: tl, x_1237, x_1238 =>
 (some hd).bind fun x_1526 =>
 (if (x_1526.Kind != x_1237) = true then
 some (Sum.inl (-1 : Int))
 else
 (some hd).bind fun x_1532 =>
 (if (x_1532.From != (w64 (x_1237 + (1 : Int)))) = true then
 some (Sum.inl (-1 : Int))
 else
 (some hd).bind fun x_1538 =>
 (if (x_1538.To != (w64 ((w64 (x_1237 + (1 : Int))) + (1 : Int)))) = true then
 some (Sum.inl (-1 : Int))
 else
 (some hd).bind fun x_1544 =>
 (if (x_1544.Term != (w64 ((w64 ((w64 (x_1237 + (1 : Int))) + (1 : Int))) + (1 : Int)))) = true then
 some (Sum.inl (-1 : Int))
 else
 (some hd).bind fun x_1550 =>
 (if (x_1550.Index != (w64 ((w64 ((w64 ((w64 (x_1237 + (1 : Int))) + (1 : Int))) + (1 : Int))) + (1 : Int)))) = true then
 some (Sum.inl (-1 : Int))
 else
 (some hd).bind fun x_1556 =>
 (if (x_1556.LogTerm != (w64 ((w64 ((w64 ((w64 ((w64 (x_1237 + (1 : Int))) + (1 : Int))) + (1 : Int))) + (1 : Int))) + (1 : Int)))) = true then
 some (Sum.inl (-1 : Int))
 else
 (some hd).bind fun x_1562 =>
 (if (x_1562.Commit != (w64 ((w64 ((w64 ((w64 ((w64 ((w64 (x_1237 + (1 : Int))) + (1 : Int))) + (1 : Int))) + (1 : Int))) + (1 : Int))) + (1 : Int)))) = true then
 some (Sum.inl (-1 : Int))
 else
 (some hd).bind fun x_1571 =>
 (intD .rem .i64 (w64 ((w64 ((w64 ((w64 ((w64 ((w64 ((w64 (x_1237 + (1 : Int))) + (1 : Int))) + (1 : Int))) + (1 : Int))) + (1 : Int))) + (1 : Int))) + (1 : Int))) (3 : Int)).bind fun x_1572 =>
 (if ((x_1571.Ok == (x_1572 == (0 : Int))) ^^ true) = true then
 some (Sum.inl (-1 : Int))
 else
 (some hd).bind fun x_1580 =>
 (laws_heldEntryS N x_1580.Entries (w64 ((w64 ((w64 ((w64 ((w64 ((w64 ((w64 ((w64 (x_1237 + (1 : Int))) + (1 : Int))) + (1 : Int))) + (1 : Int))) + (1 : Int))) + (1 : Int))) + (1 : Int))) + (1 : Int)))).bind fun y_1581 =>
 (if (decide (y_1581 < (0 : Int))) = true then
 some (Sum.inl (-1 : Int))
 else
 (some hd).bind fun x_1590 =>
 (laws_heldIntS N x_1590.Conf y_1581).bind fun y_1591 =>
 (if (decide (y_1591 < (0 : Int))) = true then
 some (Sum.inl (-1 : Int))
 else
 (some hd).bind fun x_1601 =>
 (laws_markText N y_1591).bind fun y_1602 =>
 (if (!decide (x_1601.Data = y_1602)) = true then
 some (Sum.inl (-1 : Int))
 else
 (some hd).bind fun x_1611 =>
 (intD .rem .i64 (w64 (y_1591 + (1 : Int))) (3 : Int)).bind fun x_1612 =>
 (if ((x_1611.Last == (x_1612 == (0 : Int))) ^^ true) = true then
 some (Sum.inl (-1 : Int))
 else
 laws_heldMessageS_l1_r N x_1 tl (w64 ((w64 (y_1591 + (1 : Int))) + (1 : Int))) (w64 (x_1238 + (1 : Int)))))))))))))))
theorem laws_heldMessageS_l1_rng (N : Nat) (x_1 : (List Message)) (hx : x_1.length ≤ 1099511627776) : ∀ (d k m : Nat) (x_1237 : Int), x_1.length = k + d → d < m → laws_heldMessageS_l1 N x_1 m x_1237 (k : Int) = laws_heldMessageS_l1_r N x_1 (x_1.drop k) x_1237 (k : Int) := by
  intro d
  induction d with
  | zero =>
    intro k m x_1237 hd hm
    obtain ⟨m, rfl⟩ : ∃ q, m = q + 1 := ⟨m - 1, by omega⟩
    rw [laws_heldMessageS_l1, if_neg (by simp; omega), List.drop_eq_nil_of_le (by omega), laws_heldMessageS_l1_r]
  | succ d ih =>
    intro k m x_1237 hd hm
    obtain ⟨m, rfl⟩ : ∃ q, m = q + 1 := ⟨m - 1, by omega⟩
    have hk : k < x_1.length := by omega
    rw [laws_heldMessageS_l1, if_pos (by simp; omega), List.drop_eq_getElem_cons hk, laws_heldMessageS_l1_r]
    have h1 := at_lt hk
    have h2 := w64_succ (k := k) (by omega)
    have h3 := ih (k + 1) m
    simp only [h1, h2, h3 _ (by omega) (by omega)]
theorem laws_heldMessageS_l1_eq {N : Nat} (x_1 : (List Message)) (hx : x_1.length ≤ 1099511627776) (hN : x_1.length < N) (x_1237 : Int) : laws_heldMessageS_l1 N x_1 N x_1237 0 = laws_heldMessageS_l1_r N x_1 x_1 x_1237 0 := laws_heldMessageS_l1_rng N x_1 hx x_1.length 0 N x_1237 (by omega) hN
def laws_heldMessageS (N : Nat) (x_1 : (List Message)) (x_2 : Int) : Option (Int) :=
 joinP (fun (v_1235 : Int) =>
 some v_1235) fun j_1235 =>
 (laws_heldMessageS_l1 N x_1 N x_2 (0 : Int)).bind (Sum.elim (fun v_1425 => some v_1425) (fun (v_1426 : Int) => j_1235 v_1426))
theorem sem_laws_heldMessageS (N : Nat) (x_1 : (List Message)) (x_2 : Int) (r : Int) (h : laws_heldMessageS N x_1 x_2 = some r) : Says Try.prog 36 [RO 58 (x_1.map (encMessage false)), VI x_2] 0 [] (VI r) [] := by
  unfold laws_heldMessageS at h
  refine Says.of_run s36 Try.call36 rfl fun B hB => ?_
  have hm : B.m ≤ 1000 := by omega
  refine Run.seq (Run.ops hm (Ops.p rfl (Ops.nil (Run.seqO h (fun (v_1235 : Int) => [(1, VI v_1235)]) (fun (v_1235 : Int) => []) (fun h => ?_) (fun v_1235 h => ?_)))))
  · refine Run.seq (Run.ops hm (Ops.p rfl (Ops.nil (Run.block ?_))))
    obtain ⟨res_1426, h, hk_1426⟩ := bindO h
    refine Run.loop (n := N) (fun m_1426 fr σ => ∃ (x_1237 : Int), ∃ (x_1238 : Int), laws_heldMessageS_l1 N x_1 m_1426 x_1237 x_1238 = some res_1426 ∧ fr = [(0, RO 58 (x_1.map (encMessage false))), (1, VI x_1237), (5, VI x_1238)] ∧ σ = []) (gh_pk [0, 1, 5] [] hB rfl rfl rfl rfl) ⟨_, _, h, rfl, rfl⟩ ?_
    rintro m_1426 fr σ ⟨x_1237, x_1238, h, rfl, rfl⟩
    obtain _ | m_1426 := m_1426
    · rw [laws_heldMessageS_l1] at h; cases h
    rw [laws_heldMessageS_l1] at h
    refine Run.seq (Run.seq (Run.ops hm (Ops.p rfl (Ops.p rfl (Ops.st (s := 9224) (Ev.lnF rfl) rfl rfl (Ops.p rfl (Ops.nil (Run.condO rfl h (fun g_1429 h => ?_) (fun g_1429 h => ?_)))))))))
    · refine Run.skip (Run.seq (Run.block (Run.seq (Run.seq (Run.ops hm (Ops.p rfl (Ops.p rfl ?_)))))))
      obtain ⟨x_1526, hx_1526, h⟩ := bindO h
      refine Ops.st (s := 17416) (Ev.iaF rfl rfl hx_1526) rfl rfl (Ops.p rfl (Ops.p rfl (Ops.p rfl (Ops.p rfl (Ops.nil (Run.condO rfl h (fun g_1527 h => ?_) (fun g_1527 h => ?_)))))))
      · refine Run.seq (Run.ops hm (Ops.p rfl (Ops.nil (Run.ret ?_))))
        obtain rfl := someO h
        have h := hk_1426
        replace h := inlO h
        obtain rfl := someO h
        exact Ends.mkG (.inl rfl) rfl (gh_pk [0] [] hB rfl rfl rfl rfl) rfl rfl
      · refine Run.skip (Run.seq (Run.ops hm (Ops.p rfl (Ops.p rfl (Ops.p rfl (Ops.nil (Run.seq (Run.seq (Run.ops hm (Ops.p rfl (Ops.p rfl ?_)))))))))))
        obtain ⟨x_1532, hx_1532, h⟩ := bindO h
        refine Ops.st (s := 29704) (Ev.iaF rfl rfl hx_1532) rfl rfl (Ops.p rfl (Ops.p rfl (Ops.p rfl (Ops.p rfl (Ops.nil (Run.condO rfl h (fun g_1533 h => ?_) (fun g_1533 h => ?_)))))))
        · refine Run.seq (Run.ops hm (Ops.p rfl (Ops.nil (Run.ret ?_))))
          obtain rfl := someO h
          have h := hk_1426
          replace h := inlO h
          obtain rfl := someO h
          exact Ends.mkG (.inl rfl) rfl (gh_pk [0] [] hB rfl rfl rfl rfl) rfl rfl
        · refine Run.skip (Run.seq (Run.ops hm (Ops.p rfl (Ops.p rfl (Ops.p rfl (Ops.nil (Run.seq (Run.seq (Run.ops hm (Ops.p rfl (Ops.p rfl ?_)))))))))))
          obtain ⟨x_1538, hx_1538, h⟩ := bindO h
          refine Ops.st (s := 41992) (Ev.iaF rfl rfl hx_1538) rfl rfl (Ops.p rfl (Ops.p rfl (Ops.p rfl (Ops.p rfl (Ops.nil (Run.condO rfl h (fun g_1539 h => ?_) (fun g_1539 h => ?_)))))))
          · refine Run.seq (Run.ops hm (Ops.p rfl (Ops.nil (Run.ret ?_))))
            obtain rfl := someO h
            have h := hk_1426
            replace h := inlO h
            obtain rfl := someO h
            exact Ends.mkG (.inl rfl) rfl (gh_pk [0] [] hB rfl rfl rfl rfl) rfl rfl
          · refine Run.skip (Run.seq (Run.ops hm (Ops.p rfl (Ops.p rfl (Ops.p rfl (Ops.nil (Run.seq (Run.seq (Run.ops hm (Ops.p rfl (Ops.p rfl ?_)))))))))))
            obtain ⟨x_1544, hx_1544, h⟩ := bindO h
            refine Ops.st (s := 54280) (Ev.iaF rfl rfl hx_1544) rfl rfl (Ops.p rfl (Ops.p rfl (Ops.p rfl (Ops.p rfl (Ops.nil (Run.condO rfl h (fun g_1545 h => ?_) (fun g_1545 h => ?_)))))))
            · refine Run.seq (Run.ops hm (Ops.p rfl (Ops.nil (Run.ret ?_))))
              obtain rfl := someO h
              have h := hk_1426
              replace h := inlO h
              obtain rfl := someO h
              exact Ends.mkG (.inl rfl) rfl (gh_pk [0] [] hB rfl rfl rfl rfl) rfl rfl
            · refine Run.skip (Run.seq (Run.ops hm (Ops.p rfl (Ops.p rfl (Ops.p rfl (Ops.nil (Run.seq (Run.seq (Run.ops hm (Ops.p rfl (Ops.p rfl ?_)))))))))))
              obtain ⟨x_1550, hx_1550, h⟩ := bindO h
              refine Ops.st (s := 66568) (Ev.iaF rfl rfl hx_1550) rfl rfl (Ops.p rfl (Ops.p rfl (Ops.p rfl (Ops.p rfl (Ops.nil (Run.condO rfl h (fun g_1551 h => ?_) (fun g_1551 h => ?_)))))))
              · refine Run.seq (Run.ops hm (Ops.p rfl (Ops.nil (Run.ret ?_))))
                obtain rfl := someO h
                have h := hk_1426
                replace h := inlO h
                obtain rfl := someO h
                exact Ends.mkG (.inl rfl) rfl (gh_pk [0] [] hB rfl rfl rfl rfl) rfl rfl
              · refine Run.skip (Run.seq (Run.ops hm (Ops.p rfl (Ops.p rfl (Ops.p rfl (Ops.nil (Run.seq (Run.seq (Run.ops hm (Ops.p rfl (Ops.p rfl ?_)))))))))))
                obtain ⟨x_1556, hx_1556, h⟩ := bindO h
                refine Ops.st (s := 78856) (Ev.iaF rfl rfl hx_1556) rfl rfl (Ops.p rfl (Ops.p rfl (Ops.p rfl (Ops.p rfl (Ops.nil (Run.condO rfl h (fun g_1557 h => ?_) (fun g_1557 h => ?_)))))))
                · refine Run.seq (Run.ops hm (Ops.p rfl (Ops.nil (Run.ret ?_))))
                  obtain rfl := someO h
                  have h := hk_1426
                  replace h := inlO h
                  obtain rfl := someO h
                  exact Ends.mkG (.inl rfl) rfl (gh_pk [0] [] hB rfl rfl rfl rfl) rfl rfl
                · refine Run.skip (Run.seq (Run.ops hm (Ops.p rfl (Ops.p rfl (Ops.p rfl (Ops.nil (Run.seq (Run.seq (Run.ops hm (Ops.p rfl (Ops.p rfl ?_)))))))))))
                  obtain ⟨x_1562, hx_1562, h⟩ := bindO h
                  refine Ops.st (s := 91144) (Ev.iaF rfl rfl hx_1562) rfl rfl (Ops.p rfl (Ops.p rfl (Ops.p rfl (Ops.p rfl (Ops.nil (Run.condO rfl h (fun g_1563 h => ?_) (fun g_1563 h => ?_)))))))
                  · refine Run.seq (Run.ops hm (Ops.p rfl (Ops.nil (Run.ret ?_))))
                    obtain rfl := someO h
                    have h := hk_1426
                    replace h := inlO h
                    obtain rfl := someO h
                    exact Ends.mkG (.inl rfl) rfl (gh_pk [0] [] hB rfl rfl rfl rfl) rfl rfl
                  · refine Run.skip (Run.seq (Run.ops hm (Ops.p rfl (Ops.p rfl (Ops.p rfl (Ops.nil (Run.seq (Run.seq (Run.ops hm (Ops.p rfl (Ops.p rfl ?_)))))))))))
                    obtain ⟨x_1571, hx_1571, h⟩ := bindO h
                    refine Ops.st (s := 103432) (Ev.iaF rfl rfl hx_1571) rfl rfl (Ops.p rfl (Ops.p rfl (Ops.p rfl ?_)))
                    obtain ⟨x_1572, hx_1572, h⟩ := bindO h
                    refine Ops.st (s := 103496) (.bin rfl rfl hx_1572) rfl rfl (Ops.p rfl (Ops.p rfl (Ops.nil (Run.condO rfl h (fun g_1573 h => ?_) (fun g_1573 h => ?_)))))
                    · refine Run.seq (Run.ops hm (Ops.p rfl (Ops.nil (Run.ret ?_))))
                      obtain rfl := someO h
                      have h := hk_1426
                      replace h := inlO h
                      obtain rfl := someO h
                      exact Ends.mkG (.inl rfl) rfl (gh_pk [0] [] hB rfl rfl rfl rfl) rfl rfl
                    · refine Run.skip (Run.seq (Run.ops hm (Ops.p rfl (Ops.p rfl (Ops.p rfl (Ops.nil (Run.seq (Run.ops hm (Ops.p rfl (Ops.p rfl ?_))))))))))
                      obtain ⟨x_1580, hx_1580, h⟩ := bindO h
                      refine Ops.st (s := 115720) (Ev.iaF rfl rfl hx_1580) rfl rfl (Ops.p rfl (Ops.p rfl (Ops.p rfl ?_)))
                      obtain ⟨y_1581, hy_1581, h⟩ := bindO h
                      refine Ops.st (s := 115784) (Ev.call [] [] 0 (sem_laws_heldEntryS N x_1580.Entries (w64 ((w64 ((w64 ((w64 ((w64 ((w64 ((w64 ((w64 (x_1237 + (1 : Int))) + (1 : Int))) + (1 : Int))) + (1 : Int))) + (1 : Int))) + (1 : Int))) + (1 : Int))) + (1 : Int))) _ hy_1581) rfl rfl (.cons (.c _) (.cons (.c _) .nil)) rfl (.inl rfl) rfl rfl) rfl rfl (Ops.p rfl (Ops.nil (Run.seq (Run.seq (Run.ops hm (Ops.p rfl (Ops.p rfl (Ops.nil (Run.condO rfl h (fun g_1583 h => ?_) (fun g_1583 h => ?_))))))))))
                      · refine Run.seq (Run.ops hm (Ops.p rfl (Ops.nil (Run.ret ?_))))
                        obtain rfl := someO h
                        have h := hk_1426
                        replace h := inlO h
                        obtain rfl := someO h
                        exact Ends.mkG (.inl rfl) rfl (gh_pk [0] [] hB rfl rfl rfl rfl) rfl rfl
                      · refine Run.skip (Run.seq (Run.ops hm (Ops.p rfl (Ops.p rfl ?_))))
                        obtain ⟨x_1590, hx_1590, h⟩ := bindO h
                        refine Ops.st (s := 128008) (Ev.iaF rfl rfl hx_1590) rfl rfl (Ops.p rfl (Ops.p rfl (Ops.p rfl ?_)))
                        obtain ⟨y_1591, hy_1591, h⟩ := bindO h
                        refine Ops.st (s := 128072) (Ev.call [] [] 0 (sem_laws_heldIntS N x_1590.Conf y_1581 _ hy_1591) rfl rfl (.cons (.c _) (.cons (.c _) .nil)) rfl (.inl rfl) rfl rfl) rfl rfl (Ops.p rfl (Ops.nil (Run.seq (Run.seq (Run.ops hm (Ops.p rfl (Ops.p rfl (Ops.nil (Run.condO rfl h (fun g_1593 h => ?_) (fun g_1593 h => ?_))))))))))
                        · refine Run.seq (Run.ops hm (Ops.p rfl (Ops.nil (Run.ret ?_))))
                          obtain rfl := someO h
                          have h := hk_1426
                          replace h := inlO h
                          obtain rfl := someO h
                          exact Ends.mkG (.inl rfl) rfl (gh_pk [0] [] hB rfl rfl rfl rfl) rfl rfl
                        · refine Run.skip (Run.seq (Run.seq (Run.draw hm hmix (OpsD.p rfl (OpsD.p rfl ?_)))))
                          obtain ⟨x_1601, hx_1601, h⟩ := bindO h
                          refine OpsD.st (s := 140296) (Ev.iaF rfl rfl hx_1601) rfl rfl (OpsD.p rfl (OpsD.p rfl (OpsD.p rfl ?_)))
                          obtain ⟨y_1602, hy_1602, h⟩ := bindO h
                          refine OpsD.st (s := 140360) (Ev.call [] [] 0 (sem_laws_markText N y_1591 _ hy_1602) rfl rfl (.cons (.c _) .nil) rfl (.inl rfl) rfl rfl) rfl rfl (OpsD.p rfl (OpsD.nil ⟨by kernel_rfl, ?_⟩))
                          refine Run.condO rfl h (fun g_1603 h => ?_) (fun g_1603 h => ?_)
                          · refine Run.seq (Run.ops hm (Ops.p rfl (Ops.nil (Run.ret ?_))))
                            obtain rfl := someO h
                            have h := hk_1426
                            replace h := inlO h
                            obtain rfl := someO h
                            exact Ends.mkG (.inl rfl) rfl (gh_pk [0] [] hB rfl rfl rfl rfl) rfl rfl
                          · refine Run.skip (Run.seq (Run.ops hm (Ops.p rfl (Ops.p rfl (Ops.p rfl (Ops.nil (Run.seq (Run.seq (Run.ops hm (Ops.p rfl (Ops.p rfl ?_)))))))))))
                            obtain ⟨x_1611, hx_1611, h⟩ := bindO h
                            refine Ops.st (s := 152584) (Ev.iaF rfl rfl hx_1611) rfl rfl (Ops.p rfl (Ops.p rfl (Ops.p rfl ?_)))
                            obtain ⟨x_1612, hx_1612, h⟩ := bindO h
                            refine Ops.st (s := 152648) (.bin rfl rfl hx_1612) rfl rfl (Ops.p rfl (Ops.p rfl (Ops.nil (Run.condO rfl h (fun g_1613 h => ?_) (fun g_1613 h => ?_)))))
                            · refine Run.seq (Run.ops hm (Ops.p rfl (Ops.nil (Run.ret ?_))))
                              obtain rfl := someO h
                              have h := hk_1426
                              replace h := inlO h
                              obtain rfl := someO h
                              exact Ends.mkG (.inl rfl) rfl (gh_pk [0] [] hB rfl rfl rfl rfl) rfl rfl
                            · exact Run.skip (Run.ops hm (Ops.p rfl (Ops.p rfl (Ops.p rfl (Ops.nil (Run.ops hm (Ops.p rfl (Ops.p rfl (Ops.p rfl (Ops.nil (⟨m_1426, Nat.lt_succ_self m_1426, _, _, (gh_pk [0, 1, 5] [] hB rfl rfl rfl rfl), _, _, h, rfl, rfl⟩)))))))))))
    · refine Run.exit ?_
      obtain rfl := someO h
      have h := hk_1426
      replace h := inrO h
      exact ⟨_, _, (gh_pk [1] [] hB rfl rfl rfl rfl), x_1237, h, rfl, rfl⟩
  · refine Run.seq (Run.ops hm (Ops.p rfl (Ops.p rfl (Ops.nil (Run.ret ?_)))))
    obtain rfl := someO h
    exact Ends.mkG (.inl rfl) rfl (gh_pk [0] [] hB rfl rfl rfl rfl) rfl rfl
def laws_FnExactPropose (N : Nat) (x_1 : Node) (x_2 : Int) (x_3 : ByteArray) : Option (Bool) :=
 (if (decide ((x_3.size : Int) > (1048576 : Int))) = true then
 some true
 else
 (laws_szNode N x_1 (1048576 : Int)).bind fun y_286 =>
 (if (decide (y_286 < (0 : Int))) = true then
 some true
 else
 (laws_toNode N x_1).bind fun y_295 =>
 (spec_Propose N y_295 x_2 x_3).bind fun y_296 =>
 (laws_toNode N x_1).bind fun y_300 =>
 (impl_Propose N y_300 x_2 x_3).bind fun y_304 =>
 (laws_eqNode N y_304.1 y_296.1).bind fun y_321 =>
 (if (!y_321) = true then
 some false
 else
 (laws_eqMessageS N y_304.2.1 y_296.2.1).bind fun y_323 =>
 (if (!y_323) = true then
 some false
 else
 (if (y_304.2.2.1 != y_296.2.2.1) = true then
 some false
 else
 (if ((y_304.2.2.2 == y_296.2.2.2) ^^ true) = true then
 some false
 else
 (laws_toNode N x_1).bind fun y_334 =>
 (laws_eqNode N y_300 y_334).bind fun y_335 =>
 (if (!y_335) = true then
 some false
 else
 (laws_markNode N y_300 (1 : Int)).bind fun y_352 =>
 (len? y_300.Conf y_352.2.1).bind fun y_353 =>
 (len? y_300.Log.Entries y_352.2.2.1).bind fun y_354 =>
 (len? y_300.Votes y_352.2.2.2.1).bind fun y_355 =>
 (len? y_300.Peers y_352.2.2.2.2).bind fun y_356 =>
 (if (decide (y_352.1 < (0 : Int))) = true then
 some false
 else
 (laws_eqNode N y_304.1 y_296.1).bind fun y_373 =>
 (if (!y_373) = true then
 some false
 else
 (laws_eqMessageS N y_304.2.1 y_296.2.1).bind fun y_375 =>
 (if (!y_375) = true then
 some false
 else
 (laws_markNode N y_304.1 (1 : Int)).bind fun y_392 =>
 (len? y_304.1.Conf y_392.2.1).bind fun y_393 =>
 (len? y_304.1.Log.Entries y_392.2.2.1).bind fun y_394 =>
 (len? y_304.1.Votes y_392.2.2.2.1).bind fun y_395 =>
 (len? y_304.1.Peers y_392.2.2.2.2).bind fun y_396 =>
 (laws_markMessageS N y_304.2.1 y_392.1).bind fun y_403 =>
 (len? y_304.2.1 y_403.2).bind fun y_404 =>
 (laws_heldNode N (Node.mk y_304.1.Id y_304.1.Term y_304.1.Vote y_304.1.Role y_304.1.Lead y_392.2.1 (Log.mk y_304.1.Log.Start y_304.1.Log.StartTerm y_392.2.2.1) y_304.1.Commit y_304.1.Clock y_304.1.Limit y_392.2.2.2.1 y_392.2.2.2.2) (1 : Int)).bind fun y_408 =>
 (if (decide (y_408 < (0 : Int))) = true then
 some false
 else
 (laws_heldMessageS N y_403.2 y_408).bind fun y_414 =>
 (if (decide (y_414 < (0 : Int))) = true then
 some false
 else
 (if (y_414 != y_403.1) = true then
 some false
 else
 (laws_toNode N x_1).bind fun y_425 =>
 (impl_Propose N y_425 x_2 x_3).bind fun y_426 =>
 (laws_eqNode N y_426.1 y_296.1).bind fun y_443 =>
 (if (!y_443) = true then
 some false
 else
 (laws_eqMessageS N y_426.2.1 y_296.2.1).bind fun y_445 =>
 (if (!y_445) = true then
 some false
 else
 (if (y_426.2.2.1 != y_296.2.2.1) = true then
 some false
 else
 (if ((y_426.2.2.2 == y_296.2.2.2) ^^ true) = true then
 some false
 else
 (laws_heldNode N (Node.mk y_304.1.Id y_304.1.Term y_304.1.Vote y_304.1.Role y_304.1.Lead y_392.2.1 (Log.mk y_304.1.Log.Start y_304.1.Log.StartTerm y_392.2.2.1) y_304.1.Commit y_304.1.Clock y_304.1.Limit y_392.2.2.2.1 y_392.2.2.2.2) (1 : Int)).bind fun y_452 =>
 (if (decide (y_452 < (0 : Int))) = true then
 some false
 else
 (laws_heldMessageS N y_403.2 y_452).bind fun y_458 =>
 (if (decide (y_458 < (0 : Int))) = true then
 some false
 else
 (if (y_458 != y_403.1) = true then
 some false
 else
 some true))))))))))))))))))))
theorem sem_laws_FnExactPropose (N : Nat) (x_1 : Node) (x_2 : Int) (x_3 : ByteArray) (r : Bool) (h : laws_FnExactPropose N x_1 x_2 x_3 = some r) : Says Try.prog 5 [.agg [VI x_1.Id, VI x_1.Term, VI x_1.Vote, VI x_1.Role, VI x_1.Lead, RO 3 (x_1.Conf.map encI), VI x_1.Log.Start, VI x_1.Log.StartTerm, RO 211 (x_1.Log.Entries.map encEntry), VI x_1.Commit, VI x_1.Clock, VI x_1.Limit, RO 3 (x_1.Votes.map encI), RO 188 (x_1.Peers.map encPeer)], VI x_2, VS x_3] 0 [] (VB r) [] := by
  unfold laws_FnExactPropose at h
  refine Says.of_run s5 Try.call5 rfl fun B hB => ?_
  have hm : B.m ≤ 1000 := by omega
  refine Run.seq (Run.ops hm (Ops.st (s := 1000) (.bx rfl rfl) rfl rfl (Ops.p rfl (Ops.nil (Run.seq (Run.seq (Run.ops hm (Ops.p rfl (Ops.p rfl (Ops.p rfl (Ops.nil (Run.condO rfl h (fun g_282 h => ?_) (fun g_282 h => ?_)))))))))))))
  · refine Run.seq (Run.ops hm (Ops.p rfl (Ops.nil (Run.ret ?_))))
    obtain rfl := someO h
    exact Ends.mkG (.inl rfl) rfl (gh_pk [0] [] hB rfl rfl rfl rfl) rfl rfl
  · refine Run.skip (Run.seq (Run.ops hm (Ops.p rfl (Ops.nil (Run.seq (Run.ops hm (Ops.p rfl (Ops.p rfl ?_))))))))
    obtain ⟨y_286, hy_286, h⟩ := bindO h
    refine Ops.st (s := 17416) (Ev.call [] [] 0 (sem_laws_szNode N x_1 (1048576 : Int) _ hy_286) rfl rfl (.cons (.agg (.cons (.c _) (.cons (.c _) (.cons (.c _) (.cons (.c _) (.cons (.c _) (.cons (.c _) (.cons (.c _) (.cons (.c _) (.cons (.c _) (.cons (.c _) (.cons (.c _) (.cons (.c _) (.cons (.c _) (.cons (.c _) .nil))))))))))))))) (.cons (.c _) .nil)) rfl (.inl rfl) rfl rfl) rfl rfl (Ops.p rfl (Ops.nil (Run.seq (Run.seq (Run.ops hm (Ops.p rfl (Ops.p rfl (Ops.nil (Run.condO rfl h (fun g_288 h => ?_) (fun g_288 h => ?_))))))))))
    · refine Run.seq (Run.ops hm (Ops.p rfl (Ops.nil (Run.ret ?_))))
      obtain rfl := someO h
      exact Ends.mkG (.inl rfl) rfl (gh_pk [0] [] hB rfl rfl rfl rfl) rfl rfl
    · refine Run.skip (Run.seq (Run.ops hm (Ops.p rfl ?_)))
      obtain ⟨y_295, hy_295, h⟩ := bindO h
      refine Ops.st (s := 29688) (Ev.call [] [] 4 (sem_laws_toNode N x_1 _ hy_295) rfl rfl (.cons (.agg (.cons (.c _) (.cons (.c _) (.cons (.c _) (.cons (.c _) (.cons (.c _) (.cons (.c _) (.cons (.c _) (.cons (.c _) (.cons (.c _) (.cons (.c _) (.cons (.c _) (.cons (.c _) (.cons (.c _) (.cons (.c _) .nil))))))))))))))) .nil) rfl (.inl rfl) rfl rfl) rfl rfl (Ops.p rfl (Ops.p rfl ?_))
      obtain ⟨y_296, hy_296, h⟩ := bindO h
      refine Ops.st (s := 29736) (Ev.call [] [29688, 29689, 29690, 29691] 5 (sem_spec_Propose N y_295 x_2 x_3 _ hy_296) rfl rfl (.cons (.agg (.cons (.c _) (.cons (.c _) (.cons (.c _) (.cons (.c _) (.cons (.c _) (.cons (.borrow rfl (by decide) (lendW (fun _ => rfl) _ rfl)) (.cons (.c _) (.cons (.c _) (.cons (.borrow rfl (by decide) (lendW (fun _ => rfl) _ rfl)) (.cons (.c _) (.cons (.c _) (.cons (.c _) (.cons (.borrow rfl (by decide) (lendW (fun _ => rfl) _ rfl)) (.cons (.borrow rfl (by decide) (lendW (fun _ => rfl) _ rfl)) .nil))))))))))))))) (.cons (.c _) (.cons (.c _) .nil))) rfl (.inr ⟨rfl, ownL_root ⟨own_rows (fun _ => rfl) _, own_rows (fun _ => rfl) _, own_rows (fun _ => rfl) _, own_rows (fun _ => rfl) _, own_rows own_encMessage _, trivial⟩⟩) rfl rfl) rfl rfl ?_
      refine Ops.p rfl (Ops.p rfl (Ops.p rfl (Ops.p rfl (Ops.p rfl (Ops.st (s := 29832) (.al rfl rfl) rfl rfl (Ops.s0 (s := 29848) (.sto rfl rfl rfl rfl rfl rfl) rfl rfl (Ops.p rfl (Ops.p rfl (Ops.p rfl (Ops.nil (Run.seq (Run.ops hm (Ops.p rfl ?_)))))))))))))
      obtain ⟨y_300, hy_300, h⟩ := bindO h
      refine Ops.st (s := 33784) (Ev.call [] [] 4 (sem_laws_toNode N x_1 _ hy_300) rfl rfl (.cons (.agg (.cons (.c _) (.cons (.c _) (.cons (.c _) (.cons (.c _) (.cons (.c _) (.cons (.c _) (.cons (.c _) (.cons (.c _) (.cons (.c _) (.cons (.c _) (.cons (.c _) (.cons (.c _) (.cons (.c _) (.cons (.c _) .nil))))))))))))))) .nil) rfl (.inl rfl) rfl rfl) rfl rfl (Ops.st (s := 33800) (.al rfl rfl) rfl rfl (Ops.s0 (s := 33816) (.sto rfl rfl rfl rfl rfl rfl) rfl rfl (Ops.nil (Run.seq (Run.ops hm (Ops.p rfl (Ops.p rfl (Ops.p rfl ?_))))))))
      obtain ⟨y_304, hy_304, h⟩ := bindO h
      refine Ops.st (s := 37912) (Ev.call [] [33784, 33785, 33786, 33787] 5 (sem_impl_Propose N y_300 x_2 x_3 _ hy_304) rfl rfl (.cons (.agg (.cons (.c _) (.cons (.c _) (.cons (.c _) (.cons (.c _) (.cons (.c _) (.cons (.borrow rfl (by decide) (lendW (fun _ => rfl) _ rfl)) (.cons (.c _) (.cons (.c _) (.cons (.borrow rfl (by decide) (lendW (fun _ => rfl) _ rfl)) (.cons (.c _) (.cons (.c _) (.cons (.c _) (.cons (.borrow rfl (by decide) (lendW (fun _ => rfl) _ rfl)) (.cons (.borrow rfl (by decide) (lendW (fun _ => rfl) _ rfl)) .nil))))))))))))))) (.cons (.c _) (.cons (.c _) .nil))) rfl (.inr ⟨rfl, ownL_root ⟨own_rows (fun _ => rfl) _, own_rows (fun _ => rfl) _, own_rows (fun _ => rfl) _, own_rows (fun _ => rfl) _, own_rows own_encMessage _, trivial⟩⟩) rfl rfl) rfl rfl ?_
      refine Ops.p rfl (Ops.p rfl (Ops.p rfl (Ops.p rfl (Ops.p rfl (Ops.st (s := 38008) (.al rfl rfl) rfl rfl (Ops.s0 (s := 38024) (.sto rfl rfl rfl rfl rfl rfl) rfl rfl (Ops.p rfl (Ops.p rfl (Ops.p rfl (Ops.nil (Run.seq (Run.seq (Run.ops hm (Ops.p rfl (Ops.p rfl ?_)))))))))))))))
      obtain ⟨y_321, hy_321, h⟩ := bindO h
      refine Ops.st (s := 41992) (Ev.call [] [37912, 37913, 37914, 37915, 29736, 29737, 29738, 29739] 0 (sem_laws_eqNode N y_304.1 y_296.1 _ hy_321) rfl rfl (.cons (.agg (.cons (.c _) (.cons (.c _) (.cons (.c _) (.cons (.c _) (.cons (.c _) (.cons (.borrow rfl (by decide) (lendW (fun _ => rfl) _ rfl)) (.cons (.c _) (.cons (.c _) (.cons (.borrow rfl (by decide) (lendW (fun _ => rfl) _ rfl)) (.cons (.c _) (.cons (.c _) (.cons (.c _) (.cons (.borrow rfl (by decide) (lendW (fun _ => rfl) _ rfl)) (.cons (.borrow rfl (by decide) (lendW (fun _ => rfl) _ rfl)) .nil))))))))))))))) (.cons (.agg (.cons (.c _) (.cons (.c _) (.cons (.c _) (.cons (.c _) (.cons (.c _) (.cons (.borrow rfl (by decide) (lendW (fun _ => rfl) _ rfl)) (.cons (.c _) (.cons (.c _) (.cons (.borrow rfl (by decide) (lendW (fun _ => rfl) _ rfl)) (.cons (.c _) (.cons (.c _) (.cons (.c _) (.cons (.borrow rfl (by decide) (lendW (fun _ => rfl) _ rfl)) (.cons (.borrow rfl (by decide) (lendW (fun _ => rfl) _ rfl)) .nil))))))))))))))) .nil)) rfl (.inr ⟨rfl, ownL_root trivial⟩) rfl rfl) rfl rfl ?_
      refine Ops.p rfl (Ops.p rfl (Ops.askO (x := .t 57) rfl h (fun g_322 h => ?_) (fun g_322 h => ?_)))
      · refine Ops.gn rfl g_322 (Ops.gn rfl g_322 (Ops.gn rfl g_322 (Ops.gn rfl g_322 (Ops.st (s := 42104) (.pkT rfl g_322 rfl) rfl rfl (Ops.p rfl (Ops.gn rfl rfl (Ops.gn rfl rfl (Ops.gn rfl rfl (Ops.st (s := 42184) (.pkT rfl rfl rfl) rfl rfl (Ops.p rfl (Ops.gn rfl rfl (Ops.gn rfl rfl (Ops.gn rfl rfl (Ops.st (s := 42264) (.pkT rfl rfl rfl) rfl rfl (Ops.nil (Run.condT rfl rfl (Run.seq (Run.ops hm (Ops.p rfl (Ops.nil (Run.ret ?_)))))))))))))))))))))
        obtain rfl := someO h
        exact Ends.mkG (.inl rfl) rfl (gh_pk [0] [] hB rfl rfl rfl rfl) rfl rfl
      · refine Ops.gp rfl g_322 rfl (Ops.gp rfl g_322 rfl ?_)
        obtain ⟨y_323, hy_323, h⟩ := bindO h
        refine Ops.gs (s := 42072) rfl g_322 (Ev.call [] [37916, 29740] 0 (sem_laws_eqMessageS N y_304.2.1 y_296.2.1 _ hy_323) rfl rfl (.cons (.borrow rfl (by decide) (lendW ro_encMessage _ rfl)) (.cons (.borrow rfl (by decide) (lendW ro_encMessage _ rfl)) .nil)) rfl (.inr ⟨rfl, ownL_root trivial⟩) rfl rfl) rfl rfl ?_
        refine Ops.gp rfl g_322 rfl (Ops.st (s := 42104) (.pkF rfl g_322 rfl) rfl rfl (Ops.p rfl (Ops.askO (x := .t 63) rfl h (fun g_324 h => ?_) (fun g_324 h => ?_))))
        · refine Ops.gn rfl g_324 (Ops.gn rfl g_324 (Ops.gn rfl g_324 (Ops.st (s := 42184) (.pkT rfl g_324 rfl) rfl rfl (Ops.p rfl (Ops.gn rfl rfl (Ops.gn rfl rfl (Ops.gn rfl rfl (Ops.st (s := 42264) (.pkT rfl rfl rfl) rfl rfl (Ops.nil (Run.condT rfl rfl (Run.seq (Run.ops hm (Ops.p rfl (Ops.nil (Run.ret ?_)))))))))))))))
          obtain rfl := someO h
          exact Ends.mkG (.inl rfl) rfl (gh_pk [0] [] hB rfl rfl rfl rfl) rfl rfl
        · refine Ops.gp rfl g_324 rfl (Ops.gp rfl g_324 rfl (Ops.gp rfl g_324 rfl (Ops.st (s := 42184) (.pkF rfl g_324 rfl) rfl rfl (Ops.p rfl (Ops.askO (x := .t 68) rfl h (fun g_325 h => ?_) (fun g_325 h => ?_))))))
          · refine Ops.gn rfl g_325 (Ops.gn rfl g_325 (Ops.gn rfl g_325 (Ops.st (s := 42264) (.pkT rfl g_325 rfl) rfl rfl (Ops.nil (Run.condT rfl rfl (Run.seq (Run.ops hm (Ops.p rfl (Ops.nil (Run.ret ?_))))))))))
            obtain rfl := someO h
            exact Ends.mkG (.inl rfl) rfl (gh_pk [0] [] hB rfl rfl rfl rfl) rfl rfl
          · refine Ops.gp rfl g_325 rfl (Ops.gp rfl g_325 rfl (Ops.gp rfl g_325 rfl (Ops.st (s := 42264) (.pkF rfl g_325 rfl) rfl rfl (Ops.nil (Run.condO rfl h (fun g_326 h => ?_) (fun g_326 h => ?_))))))
            · refine Run.seq (Run.ops hm (Ops.p rfl (Ops.nil (Run.ret ?_))))
              obtain rfl := someO h
              exact Ends.mkG (.inl rfl) rfl (gh_pk [0] [] hB rfl rfl rfl rfl) rfl rfl
            · refine Run.skip (Run.seq (Run.seq (Run.draw hm hmix (OpsD.p rfl (OpsD.p rfl ?_)))))
              obtain ⟨y_334, hy_334, h⟩ := bindO h
              refine OpsD.st (s := 50184) (Ev.call [] [] 4 (sem_laws_toNode N x_1 _ hy_334) rfl rfl (.cons (.agg (.cons (.c _) (.cons (.c _) (.cons (.c _) (.cons (.c _) (.cons (.c _) (.cons (.c _) (.cons (.c _) (.cons (.c _) (.cons (.c _) (.cons (.c _) (.cons (.c _) (.cons (.c _) (.cons (.c _) (.cons (.c _) .nil))))))))))))))) .nil) rfl (.inl rfl) rfl rfl) rfl rfl ?_
              obtain ⟨y_335, hy_335, h⟩ := bindO h
              refine OpsD.st (s := 50200) (Ev.call [] [33784, 33785, 33786, 33787, 50184, 50185, 50186, 50187] 0 (sem_laws_eqNode N y_300 y_334 _ hy_335) rfl rfl (.cons (.agg (.cons (.c _) (.cons (.c _) (.cons (.c _) (.cons (.c _) (.cons (.c _) (.cons (.borrow rfl (by decide) (lendW (fun _ => rfl) _ rfl)) (.cons (.c _) (.cons (.c _) (.cons (.borrow rfl (by decide) (lendW (fun _ => rfl) _ rfl)) (.cons (.c _) (.cons (.c _) (.cons (.c _) (.cons (.borrow rfl (by decide) (lendW (fun _ => rfl) _ rfl)) (.cons (.borrow rfl (by decide) (lendW (fun _ => rfl) _ rfl)) .nil))))))))))))))) (.cons (.agg (.cons (.c _) (.cons (.c _) (.cons (.c _) (.cons (.c _) (.cons (.c _) (.cons (.borrow rfl (by decide) (lendW (fun _ => rfl) _ rfl)) (.cons (.c _) (.cons (.c _) (.cons (.borrow rfl (by decide) (lendW (fun _ => rfl) _ rfl)) (.cons (.c _) (.cons (.c _) (.cons (.c _) (.cons (.borrow rfl (by decide) (lendW (fun _ => rfl) _ rfl)) (.cons (.borrow rfl (by decide) (lendW (fun _ => rfl) _ rfl)) .nil))))))))))))))) .nil)) rfl (.inr ⟨rfl, ownL_root trivial⟩) rfl rfl) rfl rfl ?_
              refine OpsD.p rfl (OpsD.nil ⟨by kernel_rfl, ?_⟩)
              refine Run.condO rfl h (fun g_336 h => ?_) (fun g_336 h => ?_)
              · refine Run.seq (Run.ops hm (Ops.p rfl (Ops.nil (Run.ret ?_))))
                obtain rfl := someO h
                exact Ends.mkG (.inl rfl) rfl (gh_pk [0] [] hB rfl rfl rfl rfl) rfl rfl
              · refine Run.skip (Run.seq (Run.ops hm (Ops.p rfl (Ops.nil (Run.seq (Run.ops hm (Ops.p rfl (Ops.p rfl ?_))))))))
                obtain ⟨y_352, hy_352, h⟩ := bindO h
                obtain ⟨y_353, hy_353, h⟩ := bindO h
                obtain ⟨y_354, hy_354, h⟩ := bindO h
                obtain ⟨y_355, hy_355, h⟩ := bindO h
                obtain ⟨y_356, hy_356, h⟩ := bindO h
                refine Ops.st (s := 62472) (Ev.call [33784, 33785, 33786, 33787] [] 0 (sem_laws_markNode N y_300 (1 : Int) _ hy_352) rfl rfl (.cons (.agg (.cons (.c _) (.cons (.c _) (.cons (.c _) (.cons (.c _) (.cons (.c _) (.cons (.sl rfl) (.cons (.c _) (.cons (.c _) (.cons (.sl rfl) (.cons (.c _) (.cons (.c _) (.cons (.c _) (.cons (.sl rfl) (.cons (.sl rfl) .nil))))))))))))))) (.cons (.c _) .nil)) rfl (.inl rfl) rfl rfl) rfl rfl (Ops.p rfl (Ops.nil (Run.seq (Run.seq (Run.ops hm (Ops.p rfl (Ops.p rfl (Ops.p rfl (Ops.askO (x := .t 83) rfl h (fun g_372 h => ?_) (fun g_372 h => ?_))))))))))
                · refine Ops.gn rfl g_372 (Ops.gn rfl g_372 (Ops.gn rfl g_372 (Ops.gn rfl g_372 (Ops.st (s := 66648) (.pkT rfl g_372 rfl) rfl rfl (Ops.p rfl (Ops.gn rfl rfl (Ops.gn rfl rfl (Ops.gn rfl rfl (Ops.gn rfl rfl (Ops.st (s := 66744) (.pkT rfl rfl rfl) rfl rfl (Ops.p rfl (Ops.gn rfl rfl (Ops.gn rfl rfl (Ops.gn rfl rfl (Ops.st (s := 66824) (.pkT rfl rfl rfl) rfl rfl (Ops.p rfl (Ops.gn rfl rfl (Ops.gn rfl rfl (Ops.gn rfl rfl (Ops.st (s := 66904) (.pkT rfl rfl rfl) rfl rfl (Ops.nil (Run.condT rfl rfl (Run.seq (Run.ops hm (Ops.p rfl (Ops.nil (Run.ret ?_)))))))))))))))))))))))))))
                  obtain rfl := someO h
                  exact Ends.mkG (.inl rfl) rfl (gh_pk [0] [] hB rfl rfl rfl rfl) rfl rfl
                · refine Ops.gp rfl g_372 rfl (Ops.gp rfl g_372 rfl ?_)
                  obtain ⟨y_373, hy_373, h⟩ := bindO h
                  refine Ops.gs (s := 66616) rfl g_372 (Ev.call [] [37912, 37913, 37914, 37915, 29736, 29737, 29738, 29739] 0 (sem_laws_eqNode N y_304.1 y_296.1 _ hy_373) rfl rfl (.cons (.agg (.cons (.c _) (.cons (.c _) (.cons (.c _) (.cons (.c _) (.cons (.c _) (.cons (.borrow rfl (by decide) (lendW (fun _ => rfl) _ rfl)) (.cons (.c _) (.cons (.c _) (.cons (.borrow rfl (by decide) (lendW (fun _ => rfl) _ rfl)) (.cons (.c _) (.cons (.c _) (.cons (.c _) (.cons (.borrow rfl (by decide) (lendW (fun _ => rfl) _ rfl)) (.cons (.borrow rfl (by decide) (lendW (fun _ => rfl) _ rfl)) .nil))))))))))))))) (.cons (.agg (.cons (.c _) (.cons (.c _) (.cons (.c _) (.cons (.c _) (.cons (.c _) (.cons (.borrow rfl (by decide) (lendW (fun _ => rfl) _ rfl)) (.cons (.c _) (.cons (.c _) (.cons (.borrow rfl (by decide) (lendW (fun _ => rfl) _ rfl)) (.cons (.c _) (.cons (.c _) (.cons (.c _) (.cons (.borrow rfl (by decide) (lendW (fun _ => rfl) _ rfl)) (.cons (.borrow rfl (by decide) (lendW (fun _ => rfl) _ rfl)) .nil))))))))))))))) .nil)) rfl (.inr ⟨rfl, ownL_root trivial⟩) rfl rfl) rfl rfl ?_
                  refine Ops.gp rfl g_372 rfl (Ops.st (s := 66648) (.pkF rfl g_372 rfl) rfl rfl (Ops.p rfl (Ops.askO (x := .t 89) rfl h (fun g_374 h => ?_) (fun g_374 h => ?_))))
                  · refine Ops.gn rfl g_374 (Ops.gn rfl g_374 (Ops.gn rfl g_374 (Ops.gn rfl g_374 (Ops.st (s := 66744) (.pkT rfl g_374 rfl) rfl rfl (Ops.p rfl (Ops.gn rfl rfl (Ops.gn rfl rfl (Ops.gn rfl rfl (Ops.st (s := 66824) (.pkT rfl rfl rfl) rfl rfl (Ops.p rfl (Ops.gn rfl rfl (Ops.gn rfl rfl (Ops.gn rfl rfl (Ops.st (s := 66904) (.pkT rfl rfl rfl) rfl rfl (Ops.nil (Run.condT rfl rfl (Run.seq (Run.ops hm (Ops.p rfl (Ops.nil (Run.ret ?_)))))))))))))))))))))
                    obtain rfl := someO h
                    exact Ends.mkG (.inl rfl) rfl (gh_pk [0] [] hB rfl rfl rfl rfl) rfl rfl
                  · refine Ops.gp rfl g_374 rfl (Ops.gp rfl g_374 rfl ?_)
                    obtain ⟨y_375, hy_375, h⟩ := bindO h
                    refine Ops.gs (s := 66712) rfl g_374 (Ev.call [] [37916, 29740] 0 (sem_laws_eqMessageS N y_304.2.1 y_296.2.1 _ hy_375) rfl rfl (.cons (.borrow rfl (by decide) (lendW ro_encMessage _ rfl)) (.cons (.borrow rfl (by decide) (lendW ro_encMessage _ rfl)) .nil)) rfl (.inr ⟨rfl, ownL_root trivial⟩) rfl rfl) rfl rfl ?_
                    refine Ops.gp rfl g_374 rfl (Ops.st (s := 66744) (.pkF rfl g_374 rfl) rfl rfl (Ops.p rfl (Ops.askO (x := .t 95) rfl h (fun g_376 h => ?_) (fun g_376 h => ?_))))
                    · refine Ops.gn rfl g_376 (Ops.gn rfl g_376 (Ops.gn rfl g_376 (Ops.st (s := 66824) (.pkT rfl g_376 rfl) rfl rfl (Ops.p rfl (Ops.gn rfl rfl (Ops.gn rfl rfl (Ops.gn rfl rfl (Ops.st (s := 66904) (.pkT rfl rfl rfl) rfl rfl (Ops.nil (Run.condT rfl rfl (Run.seq (Run.ops hm (Ops.p rfl (Ops.nil (Run.ret ?_)))))))))))))))
                      obtain rfl := someO h
                      exact Ends.mkG (.inl rfl) rfl (gh_pk [0] [] hB rfl rfl rfl rfl) rfl rfl
                    · refine Ops.gp rfl g_376 rfl (Ops.gp rfl g_376 rfl (Ops.gp rfl g_376 rfl (Ops.st (s := 66824) (.pkF rfl g_376 rfl) rfl rfl (Ops.p rfl (Ops.gp rfl g_325 rfl (Ops.gp rfl g_325 rfl (Ops.gp rfl g_325 rfl (Ops.st (s := 66904) (.pkF rfl g_325 rfl) rfl rfl (Ops.nil (Run.condF rfl g_326 (Run.skip (Run.seq (Run.ops hm (Ops.p rfl (Ops.nil (Run.seq (Run.ops hm (Ops.p rfl (Ops.p rfl ?_)))))))))))))))))))
                      obtain ⟨y_392, hy_392, h⟩ := bindO h
                      obtain ⟨y_393, hy_393, h⟩ := bindO h
                      obtain ⟨y_394, hy_394, h⟩ := bindO h
                      obtain ⟨y_395, hy_395, h⟩ := bindO h
                      obtain ⟨y_396, hy_396, h⟩ := bindO h
                      refine Ops.st (s := 78856) (Ev.call [37912, 37913, 37914, 37915] [] 0 (sem_laws_markNode N y_304.1 (1 : Int) _ hy_392) rfl rfl (.cons (.agg (.cons (.c _) (.cons (.c _) (.cons (.c _) (.cons (.c _) (.cons (.c _) (.cons (.sl rfl) (.cons (.c _) (.cons (.c _) (.cons (.sl rfl) (.cons (.c _) (.cons (.c _) (.cons (.c _) (.cons (.sl rfl) (.cons (.sl rfl) .nil))))))))))))))) (.cons (.c _) .nil)) rfl (.inl rfl) rfl rfl) rfl rfl (Ops.p rfl (Ops.nil (Run.seq (Run.ops hm (Ops.p rfl (Ops.p rfl ?_))))))
                      obtain ⟨y_403, hy_403, h⟩ := bindO h
                      obtain ⟨y_404, hy_404, h⟩ := bindO h
                      refine Ops.st (s := 82952) (Ev.call [37916] [] 0 (sem_laws_markMessageS N y_304.2.1 y_392.1 _ hy_403) rfl rfl (.cons (.sl rfl) (.cons (.c _) .nil)) rfl (.inl rfl) rfl rfl) rfl rfl (Ops.p rfl (Ops.nil (Run.seq (Run.ops hm (Ops.p rfl (Ops.nil (Run.seq (Run.ops hm (Ops.p rfl (Ops.p rfl ?_))))))))))
                      obtain ⟨y_408, hy_408, h⟩ := bindO h
                      refine Ops.st (s := 91144) (Ev.call [] [37912, 37913, 37914, 37915] 0 (sem_laws_heldNode N (Node.mk y_304.1.Id y_304.1.Term y_304.1.Vote y_304.1.Role y_304.1.Lead y_392.2.1 (Log.mk y_304.1.Log.Start y_304.1.Log.StartTerm y_392.2.2.1) y_304.1.Commit y_304.1.Clock y_304.1.Limit y_392.2.2.2.1 y_392.2.2.2.2) (1 : Int) _ hy_408) rfl rfl (.cons (.agg (.cons (.c _) (.cons (.c _) (.cons (.c _) (.cons (.c _) (.cons (.c _) (.cons (.borrow rfl (by decide) (lendW (fun _ => rfl) _ (len_some hy_393))) (.cons (.c _) (.cons (.c _) (.cons (.borrow rfl (by decide) (lendW (fun _ => rfl) _ (len_some hy_394))) (.cons (.c _) (.cons (.c _) (.cons (.c _) (.cons (.borrow rfl (by decide) (lendW (fun _ => rfl) _ (len_some hy_395))) (.cons (.borrow rfl (by decide) (lendW (fun _ => rfl) _ (len_some hy_396))) .nil))))))))))))))) (.cons (.c _) .nil)) rfl (.inr ⟨rfl, ownL_root trivial⟩) rfl rfl) rfl rfl ?_
                      refine Ops.p rfl (Ops.nil (Run.seq (Run.seq (Run.ops hm (Ops.p rfl (Ops.p rfl (Ops.nil (Run.condO rfl h (fun g_410 h => ?_) (fun g_410 h => ?_)))))))))
                      · refine Run.seq (Run.ops hm (Ops.p rfl (Ops.nil (Run.ret ?_))))
                        obtain rfl := someO h
                        exact Ends.mkG (.inl rfl) rfl (gh_pk [0] [] hB rfl rfl rfl rfl) rfl rfl
                      · refine Run.skip (Run.seq (Run.ops hm (Ops.p rfl (Ops.p rfl ?_))))
                        obtain ⟨y_414, hy_414, h⟩ := bindO h
                        refine Ops.st (s := 103432) (Ev.call [] [37916] 0 (sem_laws_heldMessageS N y_403.2 y_408 _ hy_414) rfl rfl (.cons (.borrow rfl (by decide) (lendW ro_encMessage _ (len_some hy_404))) (.cons (.c _) .nil)) rfl (.inr ⟨rfl, ownL_root trivial⟩) rfl rfl) rfl rfl ?_
                        refine Ops.p rfl (Ops.nil (Run.seq (Run.seq (Run.ops hm (Ops.p rfl (Ops.p rfl (Ops.nil (Run.condO rfl h (fun g_416 h => ?_) (fun g_416 h => ?_)))))))))
                        · refine Run.seq (Run.ops hm (Ops.p rfl (Ops.nil (Run.ret ?_))))
                          obtain rfl := someO h
                          exact Ends.mkG (.inl rfl) rfl (gh_pk [0] [] hB rfl rfl rfl rfl) rfl rfl
                        · refine Run.skip (Run.seq (Run.seq (Run.ops hm (Ops.p rfl (Ops.p rfl (Ops.p rfl (Ops.nil (Run.condO rfl h (fun g_418 h => ?_) (fun g_418 h => ?_)))))))))
                          · refine Run.seq (Run.ops hm (Ops.p rfl (Ops.nil (Run.ret ?_))))
                            obtain rfl := someO h
                            exact Ends.mkG (.inl rfl) rfl (gh_pk [0] [] hB rfl rfl rfl rfl) rfl rfl
                          · refine Run.skip (Run.seq (Run.ops hm (Ops.p rfl ?_)))
                            obtain ⟨y_425, hy_425, h⟩ := bindO h
                            refine Ops.st (s := 123896) (Ev.call [] [] 4 (sem_laws_toNode N x_1 _ hy_425) rfl rfl (.cons (.agg (.cons (.c _) (.cons (.c _) (.cons (.c _) (.cons (.c _) (.cons (.c _) (.cons (.c _) (.cons (.c _) (.cons (.c _) (.cons (.c _) (.cons (.c _) (.cons (.c _) (.cons (.c _) (.cons (.c _) (.cons (.c _) .nil))))))))))))))) .nil) rfl (.inl rfl) rfl rfl) rfl rfl (Ops.p rfl (Ops.p rfl ?_))
                            obtain ⟨y_426, hy_426, h⟩ := bindO h
                            refine Ops.st (s := 123944) (Ev.call [] [123896, 123897, 123898, 123899] 5 (sem_impl_Propose N y_425 x_2 x_3 _ hy_426) rfl rfl (.cons (.agg (.cons (.c _) (.cons (.c _) (.cons (.c _) (.cons (.c _) (.cons (.c _) (.cons (.borrow rfl (by decide) (lendW (fun _ => rfl) _ rfl)) (.cons (.c _) (.cons (.c _) (.cons (.borrow rfl (by decide) (lendW (fun _ => rfl) _ rfl)) (.cons (.c _) (.cons (.c _) (.cons (.c _) (.cons (.borrow rfl (by decide) (lendW (fun _ => rfl) _ rfl)) (.cons (.borrow rfl (by decide) (lendW (fun _ => rfl) _ rfl)) .nil))))))))))))))) (.cons (.c _) (.cons (.c _) .nil))) rfl (.inr ⟨rfl, ownL_root ⟨own_rows (fun _ => rfl) _, own_rows (fun _ => rfl) _, own_rows (fun _ => rfl) _, own_rows (fun _ => rfl) _, own_rows own_encMessage _, trivial⟩⟩) rfl rfl) rfl rfl ?_
                            refine Ops.p rfl (Ops.p rfl (Ops.p rfl (Ops.p rfl (Ops.p rfl (Ops.st (s := 124040) (.al rfl rfl) rfl rfl (Ops.s0 (s := 124056) (.sto rfl rfl rfl rfl rfl rfl) rfl rfl (Ops.p rfl (Ops.p rfl (Ops.p rfl (Ops.nil (Run.seq (Run.seq (Run.ops hm (Ops.p rfl (Ops.p rfl ?_)))))))))))))))
                            obtain ⟨y_443, hy_443, h⟩ := bindO h
                            refine Ops.st (s := 128008) (Ev.call [] [123944, 123945, 123946, 123947, 29736, 29737, 29738, 29739] 0 (sem_laws_eqNode N y_426.1 y_296.1 _ hy_443) rfl rfl (.cons (.agg (.cons (.c _) (.cons (.c _) (.cons (.c _) (.cons (.c _) (.cons (.c _) (.cons (.borrow rfl (by decide) (lendW (fun _ => rfl) _ rfl)) (.cons (.c _) (.cons (.c _) (.cons (.borrow rfl (by decide) (lendW (fun _ => rfl) _ rfl)) (.cons (.c _) (.cons (.c _) (.cons (.c _) (.cons (.borrow rfl (by decide) (lendW (fun _ => rfl) _ rfl)) (.cons (.borrow rfl (by decide) (lendW (fun _ => rfl) _ rfl)) .nil))))))))))))))) (.cons (.agg (.cons (.c _) (.cons (.c _) (.cons (.c _) (.cons (.c _) (.cons (.c _) (.cons (.borrow rfl (by decide) (lendW (fun _ => rfl) _ rfl)) (.cons (.c _) (.cons (.c _) (.cons (.borrow rfl (by decide) (lendW (fun _ => rfl) _ rfl)) (.cons (.c _) (.cons (.c _) (.cons (.c _) (.cons (.borrow rfl (by decide) (lendW (fun _ => rfl) _ rfl)) (.cons (.borrow rfl (by decide) (lendW (fun _ => rfl) _ rfl)) .nil))))))))))))))) .nil)) rfl (.inr ⟨rfl, ownL_root trivial⟩) rfl rfl) rfl rfl ?_
                            refine Ops.p rfl (Ops.p rfl (Ops.askO (x := .t 138) rfl h (fun g_444 h => ?_) (fun g_444 h => ?_)))
                            · refine Ops.gn rfl g_444 (Ops.gn rfl g_444 (Ops.gn rfl g_444 (Ops.gn rfl g_444 (Ops.st (s := 128120) (.pkT rfl g_444 rfl) rfl rfl (Ops.p rfl (Ops.gn rfl rfl (Ops.gn rfl rfl (Ops.gn rfl rfl (Ops.st (s := 128200) (.pkT rfl rfl rfl) rfl rfl (Ops.p rfl (Ops.gn rfl rfl (Ops.gn rfl rfl (Ops.gn rfl rfl (Ops.st (s := 128280) (.pkT rfl rfl rfl) rfl rfl (Ops.nil (Run.condT rfl rfl (Run.seq (Run.ops hm (Ops.p rfl (Ops.nil (Run.ret ?_)))))))))))))))))))))
                              obtain rfl := someO h
                              exact Ends.mkG (.inl rfl) rfl (gh_pk [0] [] hB rfl rfl rfl rfl) rfl rfl
                            · refine Ops.gp rfl g_444 rfl (Ops.gp rfl g_444 rfl ?_)
                              obtain ⟨y_445, hy_445, h⟩ := bindO h
                              refine Ops.gs (s := 128088) rfl g_444 (Ev.call [] [123948, 29740] 0 (sem_laws_eqMessageS N y_426.2.1 y_296.2.1 _ hy_445) rfl rfl (.cons (.borrow rfl (by decide) (lendW ro_encMessage _ rfl)) (.cons (.borrow rfl (by decide) (lendW ro_encMessage _ rfl)) .nil)) rfl (.inr ⟨rfl, ownL_root trivial⟩) rfl rfl) rfl rfl ?_
                              refine Ops.gp rfl g_444 rfl (Ops.st (s := 128120) (.pkF rfl g_444 rfl) rfl rfl (Ops.p rfl (Ops.askO (x := .t 144) rfl h (fun g_446 h => ?_) (fun g_446 h => ?_))))
                              · refine Ops.gn rfl g_446 (Ops.gn rfl g_446 (Ops.gn rfl g_446 (Ops.st (s := 128200) (.pkT rfl g_446 rfl) rfl rfl (Ops.p rfl (Ops.gn rfl rfl (Ops.gn rfl rfl (Ops.gn rfl rfl (Ops.st (s := 128280) (.pkT rfl rfl rfl) rfl rfl (Ops.nil (Run.condT rfl rfl (Run.seq (Run.ops hm (Ops.p rfl (Ops.nil (Run.ret ?_)))))))))))))))
                                obtain rfl := someO h
                                exact Ends.mkG (.inl rfl) rfl (gh_pk [0] [] hB rfl rfl rfl rfl) rfl rfl
                              · refine Ops.gp rfl g_446 rfl (Ops.gp rfl g_446 rfl (Ops.gp rfl g_446 rfl (Ops.st (s := 128200) (.pkF rfl g_446 rfl) rfl rfl (Ops.p rfl (Ops.askO (x := .t 149) rfl h (fun g_447 h => ?_) (fun g_447 h => ?_))))))
                                · refine Ops.gn rfl g_447 (Ops.gn rfl g_447 (Ops.gn rfl g_447 (Ops.st (s := 128280) (.pkT rfl g_447 rfl) rfl rfl (Ops.nil (Run.condT rfl rfl (Run.seq (Run.ops hm (Ops.p rfl (Ops.nil (Run.ret ?_))))))))))
                                  obtain rfl := someO h
                                  exact Ends.mkG (.inl rfl) rfl (gh_pk [0] [] hB rfl rfl rfl rfl) rfl rfl
                                · refine Ops.gp rfl g_447 rfl (Ops.gp rfl g_447 rfl (Ops.gp rfl g_447 rfl (Ops.st (s := 128280) (.pkF rfl g_447 rfl) rfl rfl (Ops.nil (Run.condO rfl h (fun g_448 h => ?_) (fun g_448 h => ?_))))))
                                  · refine Run.seq (Run.ops hm (Ops.p rfl (Ops.nil (Run.ret ?_))))
                                    obtain rfl := someO h
                                    exact Ends.mkG (.inl rfl) rfl (gh_pk [0] [] hB rfl rfl rfl rfl) rfl rfl
                                  · refine Run.skip (Run.seq (Run.ops hm (Ops.p rfl (Ops.nil (Run.seq (Run.ops hm (Ops.p rfl (Ops.p rfl ?_))))))))
                                    obtain ⟨y_452, hy_452, h⟩ := bindO h
                                    refine Ops.st (s := 140296) (Ev.call [] [37912, 37913, 37914, 37915] 0 (sem_laws_heldNode N (Node.mk y_304.1.Id y_304.1.Term y_304.1.Vote y_304.1.Role y_304.1.Lead y_392.2.1 (Log.mk y_304.1.Log.Start y_304.1.Log.StartTerm y_392.2.2.1) y_304.1.Commit y_304.1.Clock y_304.1.Limit y_392.2.2.2.1 y_392.2.2.2.2) (1 : Int) _ hy_452) rfl rfl (.cons (.agg (.cons (.c _) (.cons (.c _) (.cons (.c _) (.cons (.c _) (.cons (.c _) (.cons (.borrow rfl (by decide) (lendW (fun _ => rfl) _ (len_some hy_393))) (.cons (.c _) (.cons (.c _) (.cons (.borrow rfl (by decide) (lendW (fun _ => rfl) _ (len_some hy_394))) (.cons (.c _) (.cons (.c _) (.cons (.c _) (.cons (.borrow rfl (by decide) (lendW (fun _ => rfl) _ (len_some hy_395))) (.cons (.borrow rfl (by decide) (lendW (fun _ => rfl) _ (len_some hy_396))) .nil))))))))))))))) (.cons (.c _) .nil)) rfl (.inr ⟨rfl, ownL_root trivial⟩) rfl rfl) rfl rfl ?_
                                    refine Ops.p rfl (Ops.nil (Run.seq (Run.seq (Run.ops hm (Ops.p rfl (Ops.p rfl (Ops.nil (Run.condO rfl h (fun g_454 h => ?_) (fun g_454 h => ?_)))))))))
                                    · refine Run.seq (Run.ops hm (Ops.p rfl (Ops.nil (Run.ret ?_))))
                                      obtain rfl := someO h
                                      exact Ends.mkG (.inl rfl) rfl (gh_pk [0] [] hB rfl rfl rfl rfl) rfl rfl
                                    · refine Run.skip (Run.seq (Run.ops hm (Ops.p rfl (Ops.p rfl ?_))))
                                      obtain ⟨y_458, hy_458, h⟩ := bindO h
                                      refine Ops.st (s := 152584) (Ev.call [] [37916] 0 (sem_laws_heldMessageS N y_403.2 y_452 _ hy_458) rfl rfl (.cons (.borrow rfl (by decide) (lendW ro_encMessage _ (len_some hy_404))) (.cons (.c _) .nil)) rfl (.inr ⟨rfl, ownL_root trivial⟩) rfl rfl) rfl rfl ?_
                                      refine Ops.p rfl (Ops.nil (Run.seq (Run.seq (Run.ops hm (Ops.p rfl (Ops.p rfl (Ops.nil (Run.condO rfl h (fun g_460 h => ?_) (fun g_460 h => ?_)))))))))
                                      · refine Run.seq (Run.ops hm (Ops.p rfl (Ops.nil (Run.ret ?_))))
                                        obtain rfl := someO h
                                        exact Ends.mkG (.inl rfl) rfl (gh_pk [0] [] hB rfl rfl rfl rfl) rfl rfl
                                      · refine Run.skip (Run.seq (Run.seq (Run.ops hm (Ops.p rfl (Ops.p rfl (Ops.p rfl (Ops.nil (Run.condO rfl h (fun g_461 h => ?_) (fun g_461 h => ?_)))))))))
                                        · refine Run.seq (Run.ops hm (Ops.p rfl (Ops.nil (Run.ret ?_))))
                                          obtain rfl := someO h
                                          exact Ends.mkG (.inl rfl) rfl (gh_pk [0] [] hB rfl rfl rfl rfl) rfl rfl
                                        · refine Run.skip (Run.seq (Run.ops hm (Ops.p rfl (Ops.nil (Run.ret ?_)))))
                                          obtain rfl := someO h
                                          exact Ends.mkG (.inl rfl) rfl (gh_pk [0] [] hB rfl rfl rfl rfl) rfl rfl
end Go.Proofs.Ytehknbpmpbghhaa.Pe.FnExactPropose
