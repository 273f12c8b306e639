/- Functions, as pure functions; and that Go does just that. -/
import Derived.Test.YtebbgdjmplceiaaPeFFnExactWhole0
namespace Go.Proofs.Ytebbgdjmplceiaa.Pe.FnExactWhole
open Go Go.RowKit
set_option linter.unusedVariables false
set_option linter.unusedSimpArgs false
set_option maxHeartbeats 40000000
def spec_LogOk_l1 (N : Nat) (x_1 : Log) : Nat → Int → Int → Option ((Bool) ⊕ (Unit))
 | 0, _, _ => none
 | m + 1, x_294, x_295 =>
 (if (decide (x_295 < (x_1.Entries.length : Int))) = true then
 (at? x_1.Entries x_295).bind fun x_344 =>
 (spec_EntryOk N x_344).bind fun y_345 =>
 (if (!y_345) = true then
 some (Sum.inl false)
 else
 (at? x_1.Entries x_295).bind fun x_347 =>
 (if (decide (x_347.Term < x_294)) = true then
 some (Sum.inl false)
 else
 (at? x_1.Entries x_295).bind fun x_349 =>
 spec_LogOk_l1 N x_1 m x_349.Term (w64 (x_295 + (1 : Int)))))
 else
 some (Sum.inr ()))
def spec_LogOk_l1_r (N : Nat) (x_1 : Log) : (List Entry) → Int → Int → Option ((Bool) ⊕ (Unit))
 | [], x_294, x_295 =>
 some (Sum.inr ())
 | hd :: tl, x_294, x_295 =>
 (some hd).bind fun x_344 =>
 (spec_EntryOk N x_344).bind fun y_345 =>
 (if (!y_345) = true then
 some (Sum.inl false)
 else
 (some hd).bind fun x_347 =>
 (if (decide (x_347.Term < x_294)) = true then
 some (Sum.inl false)
 else
 (some hd).bind fun x_349 =>
 spec_LogOk_l1_r N x_1 tl x_349.Term (w64 (x_295 + (1 : Int)))))
theorem spec_LogOk_l1_rng (N : Nat) (x_1 : Log) (hx : x_1.Entries.length ≤ 1099511627776) : ∀ (d k m : Nat) (x_294 : Int), x_1.Entries.length = k + d → d < m → spec_LogOk_l1 N x_1 m x_294 (k : Int) = spec_LogOk_l1_r N x_1 (x_1.Entries.drop k) x_294 (k : Int) := by
  intro d
  induction d with
  | zero =>
    intro k m x_294 hd hm
    obtain ⟨m, rfl⟩ : ∃ q, m = q + 1 := ⟨m - 1, by omega⟩
    rw [spec_LogOk_l1, if_neg (by simp; omega), List.drop_eq_nil_of_le (by omega), spec_LogOk_l1_r]
  | succ d ih =>
    intro k m x_294 hd hm
    obtain ⟨m, rfl⟩ : ∃ q, m = q + 1 := ⟨m - 1, by omega⟩
    have hk : k < x_1.Entries.length := by omega
    rw [spec_LogOk_l1, if_pos (by simp; omega), List.drop_eq_getElem_cons hk, spec_LogOk_l1_r]
    have h1 := at_lt hk
    have h2 := w64_succ (k := k) (by omega)
    have h3 := ih (k + 1) m
    simp only [h1, h2, h3 _ (by omega) (by omega)]
theorem spec_LogOk_l1_eq {N : Nat} (x_1 : Log) (hx : x_1.Entries.length ≤ 1099511627776) (hN : x_1.Entries.length < N) (x_294 : Int) : spec_LogOk_l1 N x_1 N x_294 0 = spec_LogOk_l1_r N x_1 x_1.Entries x_294 0 := spec_LogOk_l1_rng N x_1 hx x_1.Entries.length 0 N x_294 (by omega) hN
def spec_LogOk (N : Nat) (x_1 : Log) : Option (Bool) :=
 (spec_l01In N x_1.Start (0 : Int) (100000 : Int)).bind fun y_231 =>
 (if (!y_231) = true then
 some false
 else
 (spec_l01In N x_1.StartTerm (0 : Int) (100000 : Int)).bind fun y_233 =>
 (if (!y_233) = true then
 some false
 else
 (if (decide ((x_1.Entries.length : Int) > (120 : Int))) = true then
 some false
 else
 (if (decide ((w64 (x_1.Start + (x_1.Entries.length : Int))) > (100000 : Int))) = true then
 some false
 else
 joinP (fun (v_293 : Unit) =>
 some true) fun j_293 =>
 (spec_LogOk_l1 N x_1 N x_1.StartTerm (0 : Int)).bind (Sum.elim (fun v_323 => some v_323) (fun (v_324 : Unit) => j_293 ()))))))
theorem sem_spec_LogOk (N : Nat) (x_1 : Log) (r : Bool) (h : spec_LogOk N x_1 = some r) : Says Try.prog 86 [.agg [VI x_1.Start, VI x_1.StartTerm, RO 48 (x_1.Entries.map encEntry)]] 0 [] (VB r) [] := by
  unfold spec_LogOk at h
  refine Says.of_run s86 Try.call86 rfl fun B hB => ?_
  have hm : B.m ≤ 1000 := by omega
  refine Run.seq ?_
  refine Run.ops hm ?_
  refine Ops.st (s := 1000) (.bx rfl rfl) rfl rfl ?_
  refine Ops.p rfl ?_
  refine Ops.nil ?_
  refine Run.seq ?_
  refine Run.seq ?_
  refine Run.ops hm ?_
  refine Ops.p rfl ?_
  refine Ops.p rfl ?_
  obtain ⟨y_231, hy_231, h⟩ := bindO h
  refine Ops.st (s := 5128) (Ev.call [] [] 0 (sem_spec_l01In N x_1.Start (0 : Int) (100000 : Int) _ hy_231) rfl rfl (.cons (.c _) (.cons (.c _) (.cons (.c _) .nil))) rfl (.inl rfl) rfl rfl) rfl rfl ?_
  refine Ops.p rfl ?_
  refine Ops.p rfl ?_
  refine Ops.askO (x := .t 9) rfl h (fun g_232 h => ?_) (fun g_232 h => ?_)
  · skip
    refine Ops.gn rfl g_232 ?_
    refine Ops.gn rfl g_232 ?_
    refine Ops.gn rfl g_232 ?_
    refine Ops.gn rfl g_232 ?_
    refine Ops.st (s := 5240) (.pkT rfl g_232 rfl) rfl rfl ?_
    refine Ops.p rfl ?_
    refine Ops.gn rfl rfl ?_
    refine Ops.gn rfl rfl ?_
    refine Ops.gn rfl rfl ?_
    refine Ops.gn rfl rfl ?_
    refine Ops.st (s := 5336) (.pkT rfl rfl rfl) rfl rfl ?_
    refine Ops.p rfl ?_
    refine Ops.gn rfl rfl ?_
    refine Ops.gn rfl rfl ?_
    refine Ops.gn rfl rfl ?_
    refine Ops.gn rfl rfl ?_
    refine Ops.gn rfl rfl ?_
    refine Ops.gn rfl rfl ?_
    refine Ops.gn rfl rfl ?_
    refine Ops.st (s := 5480) (.pkT rfl rfl rfl) rfl rfl ?_
    refine Ops.nil ?_
    refine Run.condT rfl rfl ?_
    refine Run.seq ?_
    refine Run.ops hm ?_
    refine Ops.p rfl ?_
    refine Ops.nil ?_
    refine Run.ret ?_
    obtain rfl := someO h
    exact Ends.mk (.inl rfl) hB rfl rfl rfl rfl
  · skip
    refine Ops.gp rfl g_232 rfl ?_
    refine Ops.gp rfl g_232 rfl ?_
    obtain ⟨y_233, hy_233, h⟩ := bindO h
    refine Ops.gs (s := 5208) rfl g_232 (Ev.call [] [] 0 (sem_spec_l01In N x_1.StartTerm (0 : Int) (100000 : Int) _ hy_233) rfl rfl (.cons (.c _) (.cons (.c _) (.cons (.c _) .nil))) rfl (.inl rfl) rfl rfl) rfl rfl ?_
    refine Ops.gp rfl g_232 rfl ?_
    refine Ops.st (s := 5240) (.pkF rfl g_232 rfl) rfl rfl ?_
    refine Ops.p rfl ?_
    refine Ops.askO (x := .t 15) rfl h (fun g_234 h => ?_) (fun g_234 h => ?_)
    · skip
      refine Ops.gn rfl g_234 ?_
      refine Ops.gn rfl g_234 ?_
      refine Ops.gn rfl g_234 ?_
      refine Ops.gn rfl g_234 ?_
      refine Ops.st (s := 5336) (.pkT rfl g_234 rfl) rfl rfl ?_
      refine Ops.p rfl ?_
      refine Ops.gn rfl rfl ?_
      refine Ops.gn rfl rfl ?_
      refine Ops.gn rfl rfl ?_
      refine Ops.gn rfl rfl ?_
      refine Ops.gn rfl rfl ?_
      refine Ops.gn rfl rfl ?_
      refine Ops.gn rfl rfl ?_
      refine Ops.st (s := 5480) (.pkT rfl rfl rfl) rfl rfl ?_
      refine Ops.nil ?_
      refine Run.condT rfl rfl ?_
      refine Run.seq ?_
      refine Run.ops hm ?_
      refine Ops.p rfl ?_
      refine Ops.nil ?_
      refine Run.ret ?_
      obtain rfl := someO h
      exact Ends.mk (.inl rfl) hB rfl rfl rfl rfl
    · skip
      refine Ops.gp rfl g_234 rfl ?_
      refine Ops.gp rfl g_234 rfl ?_
      refine Ops.gs (s := 5304) rfl g_234 (Ev.lnF rfl) rfl rfl ?_
      refine Ops.gp rfl g_234 rfl ?_
      refine Ops.st (s := 5336) (.pkF rfl g_234 rfl) rfl rfl ?_
      refine Ops.p rfl ?_
      refine Ops.askO (x := .t 21) rfl h (fun g_235 h => ?_) (fun g_235 h => ?_)
      · skip
        refine Ops.gn rfl g_235 ?_
        refine Ops.gn rfl g_235 ?_
        refine Ops.gn rfl g_235 ?_
        refine Ops.gn rfl g_235 ?_
        refine Ops.gn rfl g_235 ?_
        refine Ops.gn rfl g_235 ?_
        refine Ops.gn rfl g_235 ?_
        refine Ops.st (s := 5480) (.pkT rfl g_235 rfl) rfl rfl ?_
        refine Ops.nil ?_
        refine Run.condT rfl rfl ?_
        refine Run.seq ?_
        refine Run.ops hm ?_
        refine Ops.p rfl ?_
        refine Ops.nil ?_
        refine Run.ret ?_
        obtain rfl := someO h
        exact Ends.mk (.inl rfl) hB rfl rfl rfl rfl
      · skip
        refine Ops.gp rfl g_235 rfl ?_
        refine Ops.gp rfl g_235 rfl ?_
        refine Ops.gp rfl g_235 rfl ?_
        refine Ops.gp rfl g_235 rfl ?_
        refine Ops.gs (s := 5432) rfl g_235 (Ev.lnF rfl) rfl rfl ?_
        refine Ops.gp rfl g_235 rfl ?_
        refine Ops.gp rfl g_235 rfl ?_
        refine Ops.st (s := 5480) (.pkF rfl g_235 rfl) rfl rfl ?_
        refine Ops.nil ?_
        refine Run.condO rfl h (fun g_236 h => ?_) (fun g_236 h => ?_)
        · skip
          refine Run.seq ?_
          refine Run.ops hm ?_
          refine Ops.p rfl ?_
          refine Ops.nil ?_
          refine Run.ret ?_
          obtain rfl := someO h
          exact Ends.mk (.inl rfl) hB rfl rfl rfl rfl
        · skip
          refine Run.skip ?_
          refine Run.seq ?_
          refine Run.ops hm ?_
          refine Ops.p rfl ?_
          refine Ops.p rfl ?_
          refine Ops.p rfl ?_
          refine Ops.nil ?_
          refine Run.seqO h (fun (v_293 : Unit) => []) (fun (v_293 : Unit) => []) (fun h => ?_) (fun v_293 h => ?_)
          · skip
            refine Run.seq ?_
            refine Run.ops hm ?_
            refine Ops.p rfl ?_
            refine Ops.nil ?_
            refine Run.block ?_
            obtain ⟨res_324, h, hk_324⟩ := bindO h
            refine Run.loop (n := N) (fun m_324 fr σ => ∃ (x_294 : Int), ∃ (x_295 : Int), spec_LogOk_l1 N x_1 m_324 x_294 x_295 = some res_324 ∧ fr = [(1, .ptr 0 0), (3, VI x_294), (4, VI x_295)] ∧ σ = [(0, .box [VI x_1.Start, VI x_1.StartTerm, RO 48 (x_1.Entries.map encEntry)])]) (gh_canonE (ts := [1, 3, 4]) hB rfl rfl rfl) ⟨_, _, h, rfl, rfl⟩ ?_
            rintro m_324 fr σ ⟨x_294, x_295, h, rfl, rfl⟩
            obtain _ | m_324 := m_324
            · rw [spec_LogOk_l1] at h; cases h
            rw [spec_LogOk_l1] at h
            refine Run.seq ?_
            refine Run.seq ?_
            refine Run.ops hm ?_
            refine Ops.p rfl ?_
            refine Ops.p rfl ?_
            refine Ops.p rfl ?_
            refine Ops.st (s := 21528) (Ev.lnF rfl) rfl rfl ?_
            refine Ops.p rfl ?_
            refine Ops.nil ?_
            refine Run.condO rfl h (fun g_327 h => ?_) (fun g_327 h => ?_)
            · skip
              refine Run.skip ?_
              refine Run.seq ?_
              refine Run.block ?_
              refine Run.seq ?_
              refine Run.seq ?_
              refine Run.ops hm ?_
              refine Ops.p rfl ?_
              refine Ops.p rfl ?_
              refine Ops.p rfl ?_
              obtain ⟨x_344, hx_344, h⟩ := bindO h
              refine Ops.st (s := 29720) (Ev.iaF rfl rfl hx_344) rfl rfl ?_
              refine Ops.p rfl ?_
              obtain ⟨y_345, hy_345, h⟩ := bindO h
              refine Ops.st (s := 29752) (Ev.call [] [] 0 (sem_spec_EntryOk N x_344 _ hy_345) rfl rfl (.cons (.agg (.cons (.c _) (.cons (.c _) (.cons (.c _) .nil)))) .nil) rfl (.inl rfl) rfl rfl) rfl rfl ?_
              refine Ops.p rfl ?_
              refine Ops.p rfl ?_
              refine Ops.askO (x := .t 46) rfl h (fun g_346 h => ?_) (fun g_346 h => ?_)
              · skip
                refine Ops.gn rfl g_346 ?_
                refine Ops.gn rfl g_346 ?_
                refine Ops.gn rfl g_346 ?_
                refine Ops.gn rfl g_346 ?_
                refine Ops.gn rfl g_346 ?_
                refine Ops.gn rfl g_346 ?_
                refine Ops.gn rfl g_346 ?_
                refine Ops.gn rfl g_346 ?_
                refine Ops.st (s := 29928) (.pkT rfl g_346 rfl) rfl rfl ?_
                refine Ops.nil ?_
                refine Run.condT rfl rfl ?_
                refine Run.seq ?_
                refine Run.ops hm ?_
                refine Ops.p rfl ?_
                refine Ops.nil ?_
                refine Run.ret ?_
                obtain rfl := someO h
                have h := hk_324
                replace h := inlO h
                obtain rfl := someO h
                exact Ends.mk (.inl rfl) hB rfl rfl rfl rfl
              · skip
                refine Ops.gp rfl g_346 rfl ?_
                refine Ops.gp rfl g_346 rfl ?_
                refine Ops.gp rfl g_346 rfl ?_
                obtain ⟨x_347, hx_347, h⟩ := bindO h
                refine Ops.gs (s := 29848) rfl g_346 (Ev.iaF rfl rfl hx_347) rfl rfl ?_
                refine Ops.gp rfl g_346 rfl ?_
                refine Ops.gp rfl g_346 rfl ?_
                refine Ops.gp rfl g_346 rfl ?_
                refine Ops.gp rfl g_346 rfl ?_
                refine Ops.st (s := 29928) (.pkF rfl g_346 rfl) rfl rfl ?_
                refine Ops.nil ?_
                refine Run.condO rfl h (fun g_348 h => ?_) (fun g_348 h => ?_)
                · skip
                  refine Run.seq ?_
                  refine Run.ops hm ?_
                  refine Ops.p rfl ?_
                  refine Ops.nil ?_
                  refine Run.ret ?_
                  obtain rfl := someO h
                  have h := hk_324
                  replace h := inlO h
                  obtain rfl := someO h
                  exact Ends.mk (.inl rfl) hB rfl rfl rfl rfl
                · skip
                  refine Run.skip ?_
                  refine Run.ops hm ?_
                  refine Ops.p rfl ?_
                  refine Ops.p rfl ?_
                  refine Ops.p rfl ?_
                  obtain ⟨x_349, hx_349, h⟩ := bindO h
                  refine Ops.st (s := 37912) (Ev.iaF rfl rfl hx_349) rfl rfl ?_
                  refine Ops.p rfl ?_
                  refine Ops.p rfl ?_
                  refine Ops.p rfl ?_
                  refine Ops.nil ?_
                  refine Run.ops hm ?_
                  refine Ops.p rfl ?_
                  refine Ops.p rfl ?_
                  refine Ops.p rfl ?_
                  refine Ops.nil ?_
                  exact ⟨m_324, Nat.lt_succ_self m_324, _, _, gh_canonE (ts := [1, 3, 4]) hB rfl rfl rfl, _, _, h, rfl, rfl⟩
            · skip
              refine Run.exit ?_
              obtain rfl := someO h
              have h := hk_324
              replace h := inrO h
              exact ⟨_, _, gh_canonE (ts := []) hB rfl rfl rfl, (), h, rfl, rfl⟩
          · skip
            refine Run.seq ?_
            refine Run.ops hm ?_
            refine Ops.p rfl ?_
            refine Ops.nil ?_
            refine Run.ret ?_
            obtain rfl := someO h
            exact Ends.mk (.inl rfl) hB rfl rfl rfl rfl
def spec_l12Last (N : Nat) (x_1 : Log) : Option (Int) :=
 some (w64 (x_1.Start + (x_1.Entries.length : Int)))
theorem sem_spec_l12Last (N : Nat) (x_1 : Log) (r : Int) (h : spec_l12Last N x_1 = some r) : Says Try.prog 87 [.agg [VI x_1.Start, VI x_1.StartTerm, RO 48 (x_1.Entries.map encEntry)]] 0 [] (VI r) [] := by
  unfold spec_l12Last at h
  refine Says.of_run s87 Try.call87 rfl fun B hB => ?_
  have hm : B.m ≤ 1000 := by omega
  refine Run.seq ?_
  refine Run.ops hm ?_
  refine Ops.st (s := 1000) (.bx rfl rfl) rfl rfl ?_
  refine Ops.p rfl ?_
  refine Ops.nil ?_
  refine Run.seq ?_
  refine Run.ops hm ?_
  refine Ops.p rfl ?_
  refine Ops.p rfl ?_
  refine Ops.p rfl ?_
  refine Ops.p rfl ?_
  refine Ops.st (s := 5160) (Ev.lnF rfl) rfl rfl ?_
  refine Ops.p rfl ?_
  refine Ops.p rfl ?_
  refine Ops.nil ?_
  refine Run.ret ?_
  obtain rfl := someO h
  exact Ends.mk (.inl rfl) hB rfl rfl rfl rfl
def spec_EntryAt (N : Nat) (x_1 : Log) (x_2 : Int) : Option (Entry × Bool) :=
 (spec_LogOk N x_1).bind fun y_116 =>
 (if (!y_116) = true then
 some ((Entry.mk (0 : Int) (0 : Int) (⟨#[]⟩ : ByteArray)), false)
 else
 (if (decide (x_2 ≤ x_1.Start)) = true then
 some ((Entry.mk (0 : Int) (0 : Int) (⟨#[]⟩ : ByteArray)), false)
 else
 (spec_l12Last N x_1).bind fun y_119 =>
 (if (decide (x_2 > y_119)) = true then
 some ((Entry.mk (0 : Int) (0 : Int) (⟨#[]⟩ : ByteArray)), false)
 else
 (at? x_1.Entries (w64 ((w64 (x_2 - x_1.Start)) - (1 : Int)))).bind fun x_121 =>
 some (x_121, true))))
theorem sem_spec_EntryAt (N : Nat) (x_1 : Log) (x_2 : Int) (r : Entry × Bool) (h : spec_EntryAt N x_1 x_2 = some r) : Says Try.prog 31 [.agg [VI x_1.Start, VI x_1.StartTerm, RO 48 (x_1.Entries.map encEntry)], VI x_2] 0 [] (.tup [.agg [VI r.1.Term, VI r.1.Kind, VS r.1.Data], VB r.2]) [] := by
  unfold spec_EntryAt at h
  refine Says.of_run s31 Try.call31 rfl fun B hB => ?_
  have hm : B.m ≤ 1000 := by omega
  refine Run.seq ?_
  refine Run.ops hm ?_
  refine Ops.st (s := 1000) (.bx rfl rfl) rfl rfl ?_
  refine Ops.st (s := 1016) (.al rfl rfl) rfl rfl ?_
  refine Ops.p rfl ?_
  refine Ops.nil ?_
  refine Run.seq ?_
  refine Run.seq ?_
  refine Run.ops hm ?_
  refine Ops.p rfl ?_
  obtain ⟨y_116, hy_116, h⟩ := bindO h
  refine Ops.st (s := 5112) (Ev.call [] [] 0 (sem_spec_LogOk N x_1 _ hy_116) rfl rfl (.cons (.agg (.cons (.c _) (.cons (.c _) (.cons (.c _) .nil)))) .nil) rfl (.inl rfl) rfl rfl) rfl rfl ?_
  refine Ops.p rfl ?_
  refine Ops.p rfl ?_
  refine Ops.askO (x := .t 9) rfl h (fun g_117 h => ?_) (fun g_117 h => ?_)
  · skip
    refine Ops.gn rfl g_117 ?_
    refine Ops.gn rfl g_117 ?_
    refine Ops.gn rfl g_117 ?_
    refine Ops.gn rfl g_117 ?_
    refine Ops.st (s := 5224) (.pkT rfl g_117 rfl) rfl rfl ?_
    refine Ops.p rfl ?_
    refine Ops.gn rfl rfl ?_
    refine Ops.gn rfl rfl ?_
    refine Ops.gn rfl rfl ?_
    refine Ops.gn rfl rfl ?_
    refine Ops.st (s := 5320) (.pkT rfl rfl rfl) rfl rfl ?_
    refine Ops.nil ?_
    refine Run.condT rfl rfl ?_
    refine Run.seq ?_
    refine Run.ops hm ?_
    refine Ops.st (s := 9192) (.bd rfl rfl) rfl rfl ?_
    refine Ops.s0 (s := 9208) (.sto rfl rfl rfl rfl rfl rfl) rfl rfl ?_
    refine Ops.p rfl ?_
    refine Ops.nil ?_
    refine Run.ret ?_
    obtain rfl := someO h
    exact Ends.mk (.inl rfl) hB rfl rfl rfl rfl
  · skip
    refine Ops.gp rfl g_117 rfl ?_
    refine Ops.gp rfl g_117 rfl ?_
    refine Ops.gp rfl g_117 rfl ?_
    refine Ops.gp rfl g_117 rfl ?_
    refine Ops.st (s := 5224) (.pkF rfl g_117 rfl) rfl rfl ?_
    refine Ops.p rfl ?_
    refine Ops.askO (x := .t 15) rfl h (fun g_118 h => ?_) (fun g_118 h => ?_)
    · skip
      refine Ops.gn rfl g_118 ?_
      refine Ops.gn rfl g_118 ?_
      refine Ops.gn rfl g_118 ?_
      refine Ops.gn rfl g_118 ?_
      refine Ops.st (s := 5320) (.pkT rfl g_118 rfl) rfl rfl ?_
      refine Ops.nil ?_
      refine Run.condT rfl rfl ?_
      refine Run.seq ?_
      refine Run.ops hm ?_
      refine Ops.st (s := 9192) (.bd rfl rfl) rfl rfl ?_
      refine Ops.s0 (s := 9208) (.sto rfl rfl rfl rfl rfl rfl) rfl rfl ?_
      refine Ops.p rfl ?_
      refine Ops.nil ?_
      refine Run.ret ?_
      obtain rfl := someO h
      exact Ends.mk (.inl rfl) hB rfl rfl rfl rfl
    · skip
      refine Ops.gp rfl g_118 rfl ?_
      refine Ops.gp rfl g_118 rfl ?_
      obtain ⟨y_119, hy_119, h⟩ := bindO h
      refine Ops.gs (s := 5288) rfl g_118 (Ev.call [] [] 0 (sem_spec_l12Last N x_1 _ hy_119) rfl rfl (.cons (.agg (.cons (.c _) (.cons (.c _) (.cons (.c _) .nil)))) .nil) rfl (.inl rfl) rfl rfl) rfl rfl ?_
      refine Ops.gp rfl g_118 rfl ?_
      refine Ops.st (s := 5320) (.pkF rfl g_118 rfl) rfl rfl ?_
      refine Ops.nil ?_
      refine Run.condO rfl h (fun g_120 h => ?_) (fun g_120 h => ?_)
      · skip
        refine Run.seq ?_
        refine Run.ops hm ?_
        refine Ops.st (s := 9192) (.bd rfl rfl) rfl rfl ?_
        refine Ops.s0 (s := 9208) (.sto rfl rfl rfl rfl rfl rfl) rfl rfl ?_
        refine Ops.p rfl ?_
        refine Ops.nil ?_
        refine Run.ret ?_
        obtain rfl := someO h
        exact Ends.mk (.inl rfl) hB rfl rfl rfl rfl
      · skip
        refine Run.skip ?_
        refine Run.seq ?_
        refine Run.ops hm ?_
        refine Ops.p rfl ?_
        refine Ops.p rfl ?_
        refine Ops.p rfl ?_
        refine Ops.p rfl ?_
        refine Ops.p rfl ?_
        refine Ops.p rfl ?_
        refine Ops.p rfl ?_
        obtain ⟨x_121, hx_121, h⟩ := bindO h
        refine Ops.st (s := 13400) (Ev.iaF rfl rfl hx_121) rfl rfl ?_
        refine Ops.p rfl ?_
        refine Ops.s0 (s := 13432) (.sto rfl rfl rfl rfl rfl rfl) rfl rfl ?_
        refine Ops.p rfl ?_
        refine Ops.nil ?_
        refine Run.ret ?_
        obtain rfl := someO h
        exact Ends.mk (.inl rfl) hB rfl rfl rfl rfl
def spec_Whole_l1 (N : Nat) (x_1 : (List Leader)) (x_2 : Applied) : Nat → Int → Option ((Bool) ⊕ (Unit))
 | 0, _ => none
 | m + 1, x_322 =>
 (if (decide (x_322 < (x_1.length : Int))) = true then
 joinP (fun (v_379 : Unit) =>
 spec_Whole_l1 N x_1 x_2 m (w64 (x_322 + (1 : Int)))) fun j_379 =>
 (at? x_1 x_322).bind fun x_384 =>
 (if (decide (x_384.Term ≤ x_2.Term)) = true then
 j_379 ()
 else
 (at? x_1 x_322).bind fun x_386 =>
 (if (decide (x_386.Log.Start ≥ x_2.Index)) = true then
 j_379 ()
 else
 (at? x_1 x_322).bind fun x_390 =>
 (spec_EntryAt N x_390.Log x_2.Index).bind fun y_391 =>
 (if (!y_391.2) = true then
 some (Sum.inl false)
 else
 (if (((y_391.1.Term == x_2.Entry.Term) && ((y_391.1.Kind == x_2.Entry.Kind) && (decide (y_391.1.Data = x_2.Entry.Data) && true))) ^^ true) = true then
 some (Sum.inl false)
 else
 j_379 ()))))
 else
 some (Sum.inr ()))
def spec_Whole_l1_r (N : Nat) (x_1 : (List Leader)) (x_2 : Applied) : (List Leader) → Int → Option ((Bool) ⊕ (Unit))
 | [], x_322 =>
 some (Sum.inr ())
 | hd :: tl, x_322 =>
 joinP (fun (v_379 : Unit) =>
 spec_Whole_l1_r N x_1 x_2 tl (w64 (x_322 + (1 : Int)))) fun j_379 =>
 (some hd).bind fun x_384 =>
 (if (decide (x_384.Term ≤ x_2.Term)) = true then
 j_379 ()
 else
 (some hd).bind fun x_386 =>
 (if (decide (x_386.Log.Start ≥ x_2.Index)) = true then
 j_379 ()
 else
 (some hd).bind fun x_390 =>
 (spec_EntryAt N x_390.Log x_2.Index).bind fun y_391 =>
 (if (!y_391.2) = true then
 some (Sum.inl false)
 else
 (if (((y_391.1.Term == x_2.Entry.Term) && ((y_391.1.Kind == x_2.Entry.Kind) && (decide (y_391.1.Data = x_2.Entry.Data) && true))) ^^ true) = true then
 some (Sum.inl false)
 else
 j_379 ()))))
theorem spec_Whole_l1_rng (N : Nat) (x_1 : (List Leader)) (x_2 : Applied) (hx : x_1.length ≤ 1099511627776) : ∀ (d k m : Nat), x_1.length = k + d → d < m → spec_Whole_l1 N x_1 x_2 m (k : Int) = spec_Whole_l1_r N x_1 x_2 (x_1.drop k) (k : Int) := by
  intro d
  induction d with
  | zero =>
    intro k m hd hm
    obtain ⟨m, rfl⟩ : ∃ q, m = q + 1 := ⟨m - 1, by omega⟩
    rw [spec_Whole_l1, if_neg (by simp; omega), List.drop_eq_nil_of_le (by omega), spec_Whole_l1_r]
  | succ d ih =>
    intro k m hd hm
    obtain ⟨m, rfl⟩ : ∃ q, m = q + 1 := ⟨m - 1, by omega⟩
    have hk : k < x_1.length := by omega
    rw [spec_Whole_l1, if_pos (by simp; omega), List.drop_eq_getElem_cons hk, spec_Whole_l1_r]
    have h1 := at_lt hk
    have h2 := w64_succ (k := k) (by omega)
    have h3 := ih (k + 1) m
    simp only [h1, h2, h3 (by omega) (by omega)]
theorem spec_Whole_l1_eq {N : Nat} (x_1 : (List Leader)) (x_2 : Applied) (hx : x_1.length ≤ 1099511627776) (hN : x_1.length < N) : spec_Whole_l1 N x_1 x_2 N 0 = spec_Whole_l1_r N x_1 x_2 x_1 0 := spec_Whole_l1_rng N x_1 x_2 hx x_1.length 0 N (by omega) hN
def spec_Whole (N : Nat) (x_1 : (List Leader)) (x_2 : Applied) : Option (Bool) :=
 joinP (fun (v_320 : Unit) =>
 some true) fun j_320 =>
 (spec_Whole_l1 N x_1 x_2 N (0 : Int)).bind (Sum.elim (fun v_360 => some v_360) (fun (v_361 : Unit) => j_320 ()))
theorem sem_spec_Whole (N : Nat) (x_1 : (List Leader)) (x_2 : Applied) (r : Bool) (h : spec_Whole N x_1 x_2 = some r) : Says Try.prog 42 [RO 129 (x_1.map (encLeader false)), .agg [VI x_2.Node, VI x_2.Term, VI x_2.Index, VI x_2.Entry.Term, VI x_2.Entry.Kind, VS x_2.Entry.Data]] 0 [] (VB r) [] := by
  unfold spec_Whole at h
  refine Says.of_run s42 Try.call42 rfl fun B hB => ?_
  have hm : B.m ≤ 1000 := by omega
  refine Run.seq ?_
  refine Run.ops hm ?_
  refine Ops.st (s := 1000) (.bx rfl rfl) rfl rfl ?_
  refine Ops.p rfl ?_
  refine Ops.nil ?_
  refine Run.seqO h (fun (v_320 : Unit) => []) (fun (v_320 : Unit) => []) (fun h => ?_) (fun v_320 h => ?_)
  · skip
    refine Run.seq ?_
    refine Run.ops hm ?_
    refine Ops.p rfl ?_
    refine Ops.nil ?_
    refine Run.block ?_
    obtain ⟨res_361, h, hk_361⟩ := bindO h
    refine Run.loop (n := N) (fun m_361 fr σ => ∃ (x_322 : Int), spec_Whole_l1 N x_1 x_2 m_361 x_322 = some res_361 ∧ fr = [(0, RO 129 (x_1.map (encLeader false))), (3, .ptr 0 0), (5, VI x_322)] ∧ σ = [(0, .box [VI x_2.Node, VI x_2.Term, VI x_2.Index, VI x_2.Entry.Term, VI x_2.Entry.Kind, VS x_2.Entry.Data])]) (gh_canonE (ts := [0, 3, 5]) hB rfl rfl rfl) ⟨_, h, rfl, rfl⟩ ?_
    rintro m_361 fr σ ⟨x_322, h, rfl, rfl⟩
    obtain _ | m_361 := m_361
    · rw [spec_Whole_l1] at h; cases h
    rw [spec_Whole_l1] at h
    refine Run.seq ?_
    refine Run.seq ?_
    refine Run.ops hm ?_
    refine Ops.p rfl ?_
    refine Ops.p rfl ?_
    refine Ops.st (s := 9224) (Ev.lnF rfl) rfl rfl ?_
    refine Ops.p rfl ?_
    refine Ops.nil ?_
    refine Run.condO rfl h (fun g_364 h => ?_) (fun g_364 h => ?_)
    · skip
      refine Run.skip ?_
      refine Run.seqO h (fun (v_379 : Unit) => [(0, RO 129 (x_1.map (encLeader false))), (3, .ptr 0 0), (5, VI x_322)]) (fun (v_379 : Unit) => [(0, .box [VI x_2.Node, VI x_2.Term, VI x_2.Index, VI x_2.Entry.Term, VI x_2.Entry.Kind, VS x_2.Entry.Data])]) (fun h => ?_) (fun v_379 h => ?_)
      · skip
        refine Run.block ?_
        refine Run.seq ?_
        refine Run.seq ?_
        refine Run.draw hm hmix ?_
        refine OpsD.p rfl ?_
        refine OpsD.p rfl ?_
        obtain ⟨x_384, hx_384, h⟩ := bindO h
        refine OpsD.st (s := 17416) (Ev.iaF rfl rfl hx_384) rfl rfl ?_
        refine OpsD.p rfl ?_
        refine OpsD.p rfl ?_
        refine OpsD.p rfl ?_
        refine OpsD.p rfl ?_
        refine OpsD.p rfl ?_
        refine OpsD.p rfl ?_
        refine OpsD.askO (x := .t 22) rfl h (fun g_385 h => ?_) (fun g_385 h => ?_)
        · skip
          refine OpsD.gn rfl g_385 ?_
          refine OpsD.gn rfl g_385 ?_
          refine OpsD.gn rfl g_385 ?_
          refine OpsD.gn rfl g_385 ?_
          refine OpsD.gn rfl g_385 ?_
          refine OpsD.gn rfl g_385 ?_
          refine OpsD.gn rfl g_385 ?_
          refine OpsD.gn rfl g_385 ?_
          refine OpsD.gn rfl g_385 ?_
          refine OpsD.st (s := 17672) (.pkT rfl g_385 rfl) rfl rfl ?_
          refine OpsD.nil ⟨by kernel_rfl, ?_⟩
          refine Run.condT rfl rfl ?_
          refine Run.exit ?_
          exact ⟨_, _, gh_canonE (ts := [0, 3, 5]) hB rfl rfl rfl, (), h, rfl, rfl⟩
        · skip
          refine OpsD.gp rfl g_385 rfl ?_
          refine OpsD.gp rfl g_385 rfl ?_
          obtain ⟨x_386, hx_386, h⟩ := bindO h
          refine OpsD.gs (s := 17560) rfl g_385 (Ev.iaF rfl rfl hx_386) rfl rfl ?_
          refine OpsD.gp rfl g_385 rfl ?_
          refine OpsD.gp rfl g_385 rfl ?_
          refine OpsD.gp rfl g_385 rfl ?_
          refine OpsD.gp rfl g_385 rfl ?_
          refine OpsD.gp rfl g_385 rfl ?_
          refine OpsD.gp rfl g_385 rfl ?_
          refine OpsD.st (s := 17672) (.pkF rfl g_385 rfl) rfl rfl ?_
          refine OpsD.nil ⟨by kernel_rfl, ?_⟩
          refine Run.condO rfl h (fun g_387 h => ?_) (fun g_387 h => ?_)
          · skip
            refine Run.exit ?_
            exact ⟨_, _, gh_canonE (ts := [0, 3, 5]) hB rfl rfl rfl, (), h, rfl, rfl⟩
          · skip
            refine Run.skip ?_
            refine Run.seq ?_
            refine Run.draw hm hmix ?_
            refine OpsD.p rfl ?_
            refine OpsD.p rfl ?_
            obtain ⟨x_390, hx_390, h⟩ := bindO h
            refine OpsD.st (s := 21512) (Ev.iaF rfl rfl hx_390) rfl rfl ?_
            refine OpsD.p rfl ?_
            refine OpsD.p rfl ?_
            refine OpsD.p rfl ?_
            refine OpsD.p rfl ?_
            obtain ⟨y_391, hy_391, h⟩ := bindO h
            refine OpsD.st (s := 21592) (Ev.call [] [] 0 (sem_spec_EntryAt N x_390.Log x_2.Index _ hy_391) rfl rfl (.cons (.agg (.cons (.c _) (.cons (.c _) (.cons (.c _) .nil)))) (.cons (.c _) .nil)) rfl (.inl rfl) rfl rfl) rfl rfl ?_
            refine OpsD.p rfl ?_
            refine OpsD.p rfl ?_
            refine OpsD.p rfl ?_
            refine OpsD.st (s := 21656) (.al rfl rfl) rfl rfl ?_
            refine OpsD.s0 (s := 21672) (.sto rfl rfl rfl rfl rfl rfl) rfl rfl ?_
            refine OpsD.p rfl ?_
            refine OpsD.nil ⟨by kernel_rfl, ?_⟩
            refine Run.seq ?_
            refine Run.ops hm ?_
            refine Ops.p rfl ?_
            refine Ops.p rfl ?_
            refine Ops.p rfl ?_
            refine Ops.askO (x := .t 46) rfl h (fun g_392 h => ?_) (fun g_392 h => ?_)
            · skip
              refine Ops.gn rfl g_392 ?_
              refine Ops.gn rfl g_392 ?_
              refine Ops.gn rfl g_392 ?_
              refine Ops.gn rfl g_392 ?_
              refine Ops.st (s := 25688) (.pkT rfl g_392 rfl) rfl rfl ?_
              refine Ops.nil ?_
              refine Run.condT rfl rfl ?_
              refine Run.seq ?_
              refine Run.ops hm ?_
              refine Ops.p rfl ?_
              refine Ops.nil ?_
              refine Run.ret ?_
              obtain rfl := someO h
              have h := hk_361
              replace h := inlO h
              obtain rfl := someO h
              exact Ends.mk (.inl rfl) hB rfl rfl rfl rfl
            · skip
              refine Ops.gp rfl g_392 rfl ?_
              refine Ops.gp rfl g_392 rfl ?_
              refine Ops.gp rfl g_392 rfl ?_
              refine Ops.gp rfl g_392 rfl ?_
              refine Ops.st (s := 25688) (.pkF rfl g_392 rfl) rfl rfl ?_
              refine Ops.nil ?_
              refine Run.condO rfl h (fun g_393 h => ?_) (fun g_393 h => ?_)
              · skip
                refine Run.seq ?_
                refine Run.ops hm ?_
                refine Ops.p rfl ?_
                refine Ops.nil ?_
                refine Run.ret ?_
                obtain rfl := someO h
                have h := hk_361
                replace h := inlO h
                obtain rfl := someO h
                exact Ends.mk (.inl rfl) hB rfl rfl rfl rfl
              · skip
                refine Run.skip ?_
                exact ⟨_, _, gh_canonE (ts := [0, 3, 5]) hB rfl rfl rfl, (), h, rfl, rfl⟩
      · skip
        refine Run.ops hm ?_
        refine Ops.p rfl ?_
        refine Ops.p rfl ?_
        refine Ops.p rfl ?_
        refine Ops.nil ?_
        exact ⟨m_361, Nat.lt_succ_self m_361, _, _, gh_canonE (ts := [0, 3, 5]) hB rfl rfl rfl, _, h, rfl, rfl⟩
    · skip
      refine Run.exit ?_
      obtain rfl := someO h
      have h := hk_361
      replace h := inrO h
      exact ⟨_, _, gh_canonE (ts := []) hB rfl rfl rfl, (), h, rfl, rfl⟩
  · skip
    refine Run.seq ?_
    refine Run.ops hm ?_
    refine Ops.p rfl ?_
    refine Ops.nil ?_
    refine Run.ret ?_
    obtain rfl := someO h
    exact Ends.mk (.inl rfl) hB rfl rfl rfl rfl
def impl_within (N : Nat) (x_1 : Int) (x_2 : Int) (x_3 : Int) : Option (Bool) :=
 (if (decide (x_1 ≥ x_2)) = true then
 some (decide (x_1 ≤ x_3))
 else
 some false)
theorem sem_impl_within (N : Nat) (x_1 : Int) (x_2 : Int) (x_3 : Int) (r : Bool) (h : impl_within N x_1 x_2 x_3 = some r) : Says Try.prog 98 [VI x_1, VI x_2, VI x_3] 0 [] (VB r) [] := by
  unfold impl_within at h
  refine Says.of_run s98 Try.call98 rfl fun B hB => ?_
  have hm : B.m ≤ 1000 := by omega
  refine Run.seq ?_
  refine Run.ops hm ?_
  refine Ops.p rfl ?_
  refine Ops.nil ?_
  refine Run.seq ?_
  refine Run.ops hm ?_
  refine Ops.p rfl ?_
  refine Ops.p rfl ?_
  refine Ops.p rfl ?_
  refine Ops.p rfl ?_
  refine Ops.askO (x := .t 10) rfl h (fun g_101 h => ?_) (fun g_101 h => ?_)
  · skip
    refine Ops.gp rfl g_101 rfl ?_
    refine Ops.gp rfl g_101 rfl ?_
    refine Ops.gp rfl g_101 rfl ?_
    refine Ops.st (s := 5208) (.pkT rfl g_101 rfl) rfl rfl ?_
    refine Ops.p rfl ?_
    refine Ops.nil ?_
    refine Run.ret ?_
    obtain rfl := someO h
    exact Ends.mk (.inl rfl) hB rfl rfl rfl rfl
  · skip
    refine Ops.gn rfl g_101 ?_
    refine Ops.gn rfl g_101 ?_
    refine Ops.gn rfl g_101 ?_
    refine Ops.st (s := 5208) (.pkF rfl g_101 rfl) rfl rfl ?_
    refine Ops.p rfl ?_
    refine Ops.nil ?_
    refine Run.ret ?_
    obtain rfl := someO h
    exact Ends.mk (.inl rfl) hB rfl rfl rfl rfl
def impl_ConfOk_l1 (N : Nat) (x_1 : (List Int)) : Nat → Int → Option ((Bool) ⊕ (Unit))
 | 0, _ => none
 | m + 1, x_181 =>
 (if (decide (x_181 < (x_1.length : Int))) = true then
 (at? x_1 x_181).bind fun x_197 =>
 (impl_within N x_197 (1 : Int) (4 : Int)).bind fun y_198 =>
 (if (!y_198) = true then
 some (Sum.inl false)
 else
 (if (decide (x_181 > (0 : Int))) = true then
 (at? x_1 (w64 (x_181 - (1 : Int)))).bind fun x_201 =>
 (if (decide (x_201 ≥ x_197)) = true then
 some (Sum.inl false)
 else
 impl_ConfOk_l1 N x_1 m (w64 (x_181 + (1 : Int))))
 else
 impl_ConfOk_l1 N x_1 m (w64 (x_181 + (1 : Int)))))
 else
 some (Sum.inr ()))
def impl_ConfOk_l1_r (N : Nat) (x_1 : (List Int)) : (List Int) → Int → Option ((Bool) ⊕ (Unit))
 | [], x_181 =>
 some (Sum.inr ())
 | hd :: tl, x_181 =>
 (some hd).bind fun x_197 =>
 (impl_within N x_197 (1 : Int) (4 : Int)).bind fun y_198 =>
 (if (!y_198) = true then
 some (Sum.inl false)
 else
 (if (decide (x_181 > (0 : Int))) = true then
 (at? x_1 (w64 (x_181 - (1 : Int)))).bind fun x_201 =>
 (if (decide (x_201 ≥ x_197)) = true then
 some (Sum.inl false)
 else
 impl_ConfOk_l1_r N x_1 tl (w64 (x_181 + (1 : Int))))
 else
 impl_ConfOk_l1_r N x_1 tl (w64 (x_181 + (1 : Int)))))
theorem impl_ConfOk_l1_rng (N : Nat) (x_1 : (List Int)) (hx : x_1.length ≤ 1099511627776) : ∀ (d k m : Nat), x_1.length = k + d → d < m → impl_ConfOk_l1 N x_1 m (k : Int) = impl_ConfOk_l1_r N x_1 (x_1.drop k) (k : Int) := by
  intro d
  induction d with
  | zero =>
    intro k m hd hm
    obtain ⟨m, rfl⟩ : ∃ q, m = q + 1 := ⟨m - 1, by omega⟩
    rw [impl_ConfOk_l1, if_neg (by simp; omega), List.drop_eq_nil_of_le (by omega), impl_ConfOk_l1_r]
  | succ d ih =>
    intro k m hd hm
    obtain ⟨m, rfl⟩ : ∃ q, m = q + 1 := ⟨m - 1, by omega⟩
    have hk : k < x_1.length := by omega
    rw [impl_ConfOk_l1, if_pos (by simp; omega), List.drop_eq_getElem_cons hk, impl_ConfOk_l1_r]
    have h1 := at_lt hk
    have h2 := w64_succ (k := k) (by omega)
    have h3 := ih (k + 1) m
    simp only [h1, h2, h3 (by omega) (by omega)]
theorem impl_ConfOk_l1_eq {N : Nat} (x_1 : (List Int)) (hx : x_1.length ≤ 1099511627776) (hN : x_1.length < N) : impl_ConfOk_l1 N x_1 N 0 = impl_ConfOk_l1_r N x_1 x_1 0 := impl_ConfOk_l1_rng N x_1 hx x_1.length 0 N (by omega) hN
def impl_ConfOk (N : Nat) (x_1 : (List Int)) : Option (Bool) :=
 joinP (fun (v_177 : Unit) =>
 (impl_within N (x_1.length : Int) (1 : Int) (4 : Int)).bind fun y_203 =>
 some y_203) fun j_177 =>
 (impl_ConfOk_l1 N x_1 N (0 : Int)).bind (Sum.elim (fun v_191 => some v_191) (fun (v_192 : Unit) => j_177 ()))
theorem sem_impl_ConfOk (N : Nat) (x_1 : (List Int)) (r : Bool) (h : impl_ConfOk N x_1 = some r) : Says Try.prog 100 [RO 3 (x_1.map encI)] 0 [] (VB r) [] := by
  unfold impl_ConfOk at h
  refine Says.of_run s100 Try.call100 rfl fun B hB => ?_
  have hm : B.m ≤ 1000 := by omega
  refine Run.seq ?_
  refine Run.ops hm ?_
  refine Ops.p rfl ?_
  refine Ops.nil ?_
  refine Run.seqO h (fun (v_177 : Unit) => [(0, RO 3 (x_1.map encI))]) (fun (v_177 : Unit) => []) (fun h => ?_) (fun v_177 h => ?_)
  · skip
    refine Run.seq ?_
    refine Run.ops hm ?_
    refine Ops.p rfl ?_
    refine Ops.st (s := 5112) (Ev.lnF rfl) rfl rfl ?_
    refine Ops.p rfl ?_
    refine Ops.nil ?_
    refine Run.block ?_
    obtain ⟨res_192, h, hk_192⟩ := bindO h
    refine Run.loop (n := N) (fun m_192 fr σ => ∃ (x_181 : Int), impl_ConfOk_l1 N x_1 m_192 x_181 = some res_192 ∧ fr = [(0, RO 3 (x_1.map encI)), (5, RO 3 (x_1.map encI)), (6, VI (x_1.length : Int)), (7, VI x_181)] ∧ σ = []) (gh_canonE (ts := [0, 5, 6, 7]) hB rfl rfl rfl) ⟨_, h, rfl, rfl⟩ ?_
    rintro m_192 fr σ ⟨x_181, h, rfl, rfl⟩
    obtain _ | m_192 := m_192
    · rw [impl_ConfOk_l1] at h; cases h
    rw [impl_ConfOk_l1] at h
    refine Run.seq ?_
    refine Run.ops hm ?_
    refine Ops.p rfl ?_
    refine Ops.nil ?_
    refine Run.seq ?_
    refine Run.condO rfl h (fun g_195 h => ?_) (fun g_195 h => ?_)
    · skip
      refine Run.skip ?_
      refine Run.seq ?_
      refine Run.block ?_
      refine Run.seq ?_
      refine Run.ops hm ?_
      refine Ops.p rfl ?_
      obtain ⟨x_197, hx_197, h⟩ := bindO h
      refine Ops.st (s := 13304) (Ev.iaF rfl rfl hx_197) rfl rfl ?_
      refine Ops.p rfl ?_
      refine Ops.p rfl ?_
      refine Ops.p rfl ?_
      refine Ops.nil ?_
      refine Run.seq ?_
      refine Run.ops hm ?_
      refine Ops.p rfl ?_
      obtain ⟨y_198, hy_198, h⟩ := bindO h
      refine Ops.st (s := 17400) (Ev.call [] [] 0 (sem_impl_within N x_197 (1 : Int) (4 : Int) _ hy_198) rfl rfl (.cons (.c _) (.cons (.c _) (.cons (.c _) .nil))) rfl (.inl rfl) rfl rfl) rfl rfl ?_
      refine Ops.p rfl ?_
      refine Ops.p rfl ?_
      refine Ops.askO (x := .t 15) rfl h (fun g_199 h => ?_) (fun g_199 h => ?_)
      · skip
        refine Ops.gn rfl g_199 ?_
        refine Ops.gn rfl g_199 ?_
        refine Ops.gn rfl g_199 ?_
        refine Ops.gu rfl ?_
        refine Ops.gu rfl ?_
        refine Ops.gu rfl ?_
        refine Ops.gu rfl ?_
        refine Ops.gu rfl ?_
        refine Ops.gu rfl ?_
        refine Ops.gu rfl ?_
        refine Ops.gn rfl g_199 ?_
        refine Ops.st (s := 17624) (.pkT rfl g_199 rfl) rfl rfl ?_
        refine Ops.nil ?_
        refine Run.condT rfl rfl ?_
        refine Run.seq ?_
        refine Run.ops hm ?_
        refine Ops.p rfl ?_
        refine Ops.nil ?_
        refine Run.ret ?_
        obtain rfl := someO h
        have h := hk_192
        replace h := inlO h
        obtain rfl := someO h
        exact Ends.mk (.inl rfl) hB rfl rfl rfl rfl
      · skip
        refine Ops.gp rfl g_199 rfl ?_
        refine Ops.gp rfl g_199 rfl ?_
        refine Ops.gp rfl g_199 rfl ?_
        refine Ops.askO (x := .t 18) rfl h (fun g_200 h => ?_) (fun g_200 h => ?_)
        · skip
          refine Ops.gp rfl g_200 rfl ?_
          refine Ops.gp rfl g_200 rfl ?_
          refine Ops.gp rfl g_200 rfl ?_
          obtain ⟨x_201, hx_201, h⟩ := bindO h
          refine Ops.gs (s := 17544) rfl g_200 (Ev.iaF rfl rfl hx_201) rfl rfl ?_
          refine Ops.gp rfl g_200 rfl ?_
          refine Ops.gp rfl g_200 rfl ?_
          refine Ops.gp rfl g_200 rfl ?_
          refine Ops.gs (s := 17608) rfl g_199 (.pkT rfl g_200 rfl) rfl rfl ?_
          refine Ops.st (s := 17624) (.pkF rfl g_199 rfl) rfl rfl ?_
          refine Ops.nil ?_
          refine Run.condO rfl h (fun g_202 h => ?_) (fun g_202 h => ?_)
          · skip
            refine Run.seq ?_
            refine Run.ops hm ?_
            refine Ops.p rfl ?_
            refine Ops.nil ?_
            refine Run.ret ?_
            obtain rfl := someO h
            have h := hk_192
            replace h := inlO h
            obtain rfl := someO h
            exact Ends.mk (.inl rfl) hB rfl rfl rfl rfl
          · skip
            refine Run.skip ?_
            refine Run.ops hm ?_
            refine Ops.p rfl ?_
            refine Ops.p rfl ?_
            refine Ops.nil ?_
            exact ⟨m_192, Nat.lt_succ_self m_192, _, _, gh_canonE (ts := [0, 5, 6, 7]) hB rfl rfl rfl, _, h, rfl, rfl⟩
        · skip
          refine Ops.gn rfl g_200 ?_
          refine Ops.gn rfl g_200 ?_
          refine Ops.gn rfl g_200 ?_
          refine Ops.gn rfl g_200 ?_
          refine Ops.gn rfl g_200 ?_
          refine Ops.gn rfl g_200 ?_
          refine Ops.gn rfl g_200 ?_
          refine Ops.gs (s := 17608) rfl g_199 (.pkF rfl g_200 rfl) rfl rfl ?_
          refine Ops.st (s := 17624) (.pkF rfl g_199 rfl) rfl rfl ?_
          refine Ops.nil ?_
          refine Run.condF rfl rfl ?_
          refine Run.skip ?_
          refine Run.ops hm ?_
          refine Ops.p rfl ?_
          refine Ops.p rfl ?_
          refine Ops.nil ?_
          exact ⟨m_192, Nat.lt_succ_self m_192, _, _, gh_canonE (ts := [0, 5, 6, 7]) hB rfl rfl rfl, _, h, rfl, rfl⟩
    · skip
      refine Run.exit ?_
      obtain rfl := someO h
      have h := hk_192
      replace h := inrO h
      exact ⟨_, _, gh_canonE (ts := [0]) hB rfl rfl rfl, (), h, rfl, rfl⟩
  · skip
    refine Run.seq ?_
    refine Run.ops hm ?_
    refine Ops.p rfl ?_
    refine Ops.st (s := 29688) (Ev.lnF rfl) rfl rfl ?_
    obtain ⟨y_203, hy_203, h⟩ := bindO h
    refine Ops.st (s := 29704) (Ev.call [] [] 0 (sem_impl_within N (x_1.length : Int) (1 : Int) (4 : Int) _ hy_203) rfl rfl (.cons (.c _) (.cons (.c _) (.cons (.c _) .nil))) rfl (.inl rfl) rfl rfl) rfl rfl ?_
    refine Ops.p rfl ?_
    refine Ops.nil ?_
    refine Run.ret ?_
    obtain rfl := someO h
    exact Ends.mk (.inl rfl) hB rfl rfl rfl rfl
def impl_ReadConf_l1 (N : Nat) (x_1 : ByteArray) : Nat → Int → (List Int) → Option ((List Int))
 | 0, _, _ => none
 | m + 1, x_158, x_159 =>
 (if (decide (x_158 < (x_1.size : Int))) = true then
 (sat? x_1 x_158).bind fun x_172 =>
 (cat? x_159 ([w64 (x_172)] : List Int)).bind fun x_173 =>
 impl_ReadConf_l1 N x_1 m (w64 (x_158 + (1 : Int))) x_173
 else
 some x_159)
def impl_ReadConf (N : Nat) (x_1 : ByteArray) : Option ((List Int) × Bool) :=
 joinP (fun (v_156 : (List Int)) =>
 (impl_ConfOk N v_156).bind fun y_176 =>
 (if (!y_176) = true then
 some ([], false)
 else
 some (v_156, true))) fun j_156 =>
 (impl_ReadConf_l1 N x_1 N (0 : Int) ([] : (List Int))).bind (fun (v_166 : (List Int)) => j_156 v_166)
theorem sem_impl_ReadConf (N : Nat) (x_1 : ByteArray) (r : (List Int) × Bool) (h : impl_ReadConf N x_1 = some r) : Says Try.prog 108 [VS x_1] 0 [] (.tup [.sl 0 3 0 r.1.length, VB r.2]) [(0, .vec 3 (r.1.map encI))] := by
  unfold impl_ReadConf at h
  refine Says.of_run s108 Try.call108 rfl fun B hB => ?_
  have hm : B.m ≤ 1000 := by omega
  refine Run.seq ?_
  refine Run.ops hm ?_
  refine Ops.p rfl ?_
  refine Ops.p rfl ?_
  refine Ops.nil ?_
  refine Run.seq ?_
  refine Run.ops hm ?_
  refine Ops.p rfl ?_
  refine Ops.nil ?_
  refine Run.seqO h (fun (v_156 : (List Int)) => [(4, .sl 0 3 0 v_156.length)]) (fun (v_156 : (List Int)) => [(0, .vec 3 (v_156.map encI))]) (fun h => ?_) (fun v_156 h => ?_)
  · skip
    refine Run.seq ?_
    refine Run.ops hm ?_
    refine Ops.p rfl ?_
    refine Ops.nil ?_
    refine Run.block ?_
    obtain ⟨res_166, h, hk_166⟩ := bindO h
    refine Run.loop (n := N) (fun m_166 fr σ => ∃ (x_158 : Int), ∃ (x_159 : (List Int)), impl_ReadConf_l1 N x_1 m_166 x_158 x_159 = some res_166 ∧ fr = [(0, VS x_1), (4, .sl 0 3 0 x_159.length), (5, VI x_158)] ∧ σ = [(0, .vec 3 (x_159.map encI))]) (gh_canonE (ts := [0, 4, 5]) hB rfl rfl rfl) ⟨_, _, h, rfl, rfl⟩ ?_
    rintro m_166 fr σ ⟨x_158, x_159, h, rfl, rfl⟩
    obtain _ | m_166 := m_166
    · rw [impl_ReadConf_l1] at h; cases h
    rw [impl_ReadConf_l1] at h
    refine Run.seq ?_
    refine Run.seq ?_
    refine Run.ops hm ?_
    refine Ops.p rfl ?_
    refine Ops.p rfl ?_
    refine Ops.p rfl ?_
    refine Ops.p rfl ?_
    refine Ops.nil ?_
    refine Run.condO rfl h (fun g_169 h => ?_) (fun g_169 h => ?_)
    · skip
      refine Run.skip ?_
      refine Run.seq ?_
      refine Run.block ?_
      refine Run.ops hm ?_
      refine Ops.p rfl ?_
      refine Ops.p rfl ?_
      refine Ops.p rfl ?_
      obtain ⟨x_172, hx_172, h⟩ := bindO h
      refine Ops.st (s := 21528) (Ev.ixS rfl rfl hx_172) rfl rfl ?_
      refine Ops.p rfl ?_
      refine Ops.st (s := 21560) (Ev.bsW (ys := ([w64 (x_172)] : List Int)) (f := encI) rfl (.cons (.c _) .nil) rfl rfl rfl rfl rfl) rfl rfl ?_
      obtain ⟨x_173, hx_173, h⟩ := bindO h
      refine Ops.st (s := 21576) (Ev.apW (f := encI) (ontoW rfl rfl rfl) (addsW rfl rfl rfl (fun _ => rfl)) rfl bt3 rfl hx_173) rfl rfl ?_
      refine Ops.p rfl ?_
      refine Ops.nil ?_
      refine Run.ops hm ?_
      refine Ops.p rfl ?_
      refine Ops.p rfl ?_
      refine Ops.p rfl ?_
      refine Ops.nil ?_
      exact ⟨m_166, Nat.lt_succ_self m_166, _, _, gh_canonE (ts := [0, 4, 5]) hB rfl rfl rfl, _, _, h, rfl, rfl⟩
    · skip
      refine Run.exit ?_
      obtain rfl := someO h
      have h := hk_166
      exact ⟨_, _, gh_canonE (ts := [4]) hB rfl rfl rfl, x_159, h, rfl, rfl⟩
  · skip
    refine Run.seq ?_
    refine Run.seq ?_
    refine Run.ops hm ?_
    refine Ops.p rfl ?_
    obtain ⟨y_176, hy_176, h⟩ := bindO h
    refine Ops.st (s := 25592) (Ev.call [] [0] 0 (sem_impl_ConfOk N v_156 _ hy_176) rfl rfl (.cons (.borrow rfl (by decide) (lendW (fun _ => rfl) _ rfl)) .nil) rfl (.inr ⟨rfl, ownL_root trivial⟩) rfl rfl) rfl rfl ?_
    refine Ops.p rfl ?_
    refine Ops.nil ?_
    refine Run.condO rfl h (fun g_177 h => ?_) (fun g_177 h => ?_)
    · skip
      refine Run.seq ?_
      refine Run.ops hm ?_
      refine Ops.p rfl ?_
      refine Ops.p rfl ?_
      refine Ops.nil ?_
      refine Run.ret ?_
      obtain rfl := someO h
      exact Ends.mk (.inl rfl) hB rfl rfl rfl rfl
    · skip
      refine Run.skip ?_
      refine Run.seq ?_
      refine Run.ops hm ?_
      refine Ops.p rfl ?_
      refine Ops.p rfl ?_
      refine Ops.p rfl ?_
      refine Ops.nil ?_
      refine Run.ret ?_
      obtain rfl := someO h
      exact Ends.mk (.inl rfl) hB rfl rfl rfl rfl
def impl_EntryOk (N : Nat) (x_1 : Entry) : Option (Bool) :=
 (impl_within N x_1.Term (0 : Int) (100000 : Int)).bind fun y_111 =>
 (if (!y_111) = true then
 some false
 else
 (if (x_1.Kind == (1 : Int)) = true then
 some (decide (x_1.Data = (⟨#[]⟩ : ByteArray)))
 else
 (if (x_1.Kind == (2 : Int)) = true then
 (impl_ReadConf N x_1.Data).bind fun y_116 =>
 some y_116.2
 else
 (if (x_1.Kind == (3 : Int)) = true then
 some (decide ((x_1.Data.size : Int) ≤ (120 : Int)))
 else
 some false))))
theorem sem_impl_EntryOk (N : Nat) (x_1 : Entry) (r : Bool) (h : impl_EntryOk N x_1 = some r) : Says Try.prog 124 [.agg [VI x_1.Term, VI x_1.Kind, VS x_1.Data]] 0 [] (VB r) [] := by
  unfold impl_EntryOk at h
  refine Says.of_run s124 Try.call124 rfl fun B hB => ?_
  have hm : B.m ≤ 1000 := by omega
  refine Run.seq ?_
  refine Run.ops hm ?_
  refine Ops.st (s := 1000) (.bx rfl rfl) rfl rfl ?_
  refine Ops.p rfl ?_
  refine Ops.nil ?_
  refine Run.seq ?_
  refine Run.seq ?_
  refine Run.ops hm ?_
  refine Ops.p rfl ?_
  refine Ops.p rfl ?_
  obtain ⟨y_111, hy_111, h⟩ := bindO h
  refine Ops.st (s := 5128) (Ev.call [] [] 0 (sem_impl_within N x_1.Term (0 : Int) (100000 : Int) _ hy_111) rfl rfl (.cons (.c _) (.cons (.c _) (.cons (.c _) .nil))) rfl (.inl rfl) rfl rfl) rfl rfl ?_
  refine Ops.p rfl ?_
  refine Ops.nil ?_
  refine Run.condO rfl h (fun g_112 h => ?_) (fun g_112 h => ?_)
  · skip
    refine Run.seq ?_
    refine Run.ops hm ?_
    refine Ops.p rfl ?_
    refine Ops.nil ?_
    refine Run.ret ?_
    obtain rfl := someO h
    exact Ends.mk (.inl rfl) hB rfl rfl rfl rfl
  · skip
    refine Run.skip ?_
    refine Run.seq ?_
    refine Run.seq ?_
    refine Run.ops hm ?_
    refine Ops.p rfl ?_
    refine Ops.p rfl ?_
    refine Ops.nil ?_
    refine Run.block ?_
    refine Run.seq ?_
    refine Run.ops hm ?_
    refine Ops.p rfl ?_
    refine Ops.p rfl ?_
    refine Ops.nil ?_
    refine Run.condO rfl h (fun g_113 h => ?_) (fun g_113 h => ?_)
    · skip
      refine Run.seq ?_
      refine Run.ops hm ?_
      refine Ops.p rfl ?_
      refine Ops.p rfl ?_
      refine Ops.p rfl ?_
      refine Ops.p rfl ?_
      refine Ops.nil ?_
      refine Run.ret ?_
      obtain rfl := someO h
      exact Ends.mk (.inl rfl) hB rfl rfl rfl rfl
    · skip
      refine Run.seq ?_
      refine Run.ops hm ?_
      refine Ops.p rfl ?_
      refine Ops.p rfl ?_
      refine Ops.nil ?_
      refine Run.condO rfl h (fun g_114 h => ?_) (fun g_114 h => ?_)
      · skip
        refine Run.seq ?_
        refine Run.ops hm ?_
        refine Ops.p rfl ?_
        refine Ops.p rfl ?_
        obtain ⟨y_116, hy_116, h⟩ := bindO h
        refine Ops.st (s := 29704) (Ev.call [] [] 1 (sem_impl_ReadConf N x_1.Data _ hy_116) rfl rfl (.cons (.c _) .nil) rfl (.inl rfl) rfl rfl) rfl rfl ?_
        refine Ops.p rfl ?_
        refine Ops.p rfl ?_
        refine Ops.p rfl ?_
        refine Ops.p rfl ?_
        refine Ops.p rfl ?_
        refine Ops.nil ?_
        refine Run.seq ?_
        refine Run.ops hm ?_
        refine Ops.p rfl ?_
        refine Ops.p rfl ?_
        refine Ops.nil ?_
        refine Run.ret ?_
        obtain rfl := someO h
        exact Ends.mk (.inl rfl) hB rfl rfl rfl rfl
      · skip
        refine Run.seq ?_
        refine Run.ops hm ?_
        refine Ops.p rfl ?_
        refine Ops.p rfl ?_
        refine Ops.nil ?_
        refine Run.condO rfl h (fun g_117 h => ?_) (fun g_117 h => ?_)
        · skip
          refine Run.seq ?_
          refine Run.ops hm ?_
          refine Ops.p rfl ?_
          refine Ops.p rfl ?_
          refine Ops.p rfl ?_
          refine Ops.p rfl ?_
          refine Ops.p rfl ?_
          refine Ops.nil ?_
          refine Run.ret ?_
          obtain rfl := someO h
          exact Ends.mk (.inl rfl) hB rfl rfl rfl rfl
        · skip
          refine Run.skip ?_
          refine Run.seq ?_
          refine Run.ops hm ?_
          refine Ops.p rfl ?_
          refine Ops.nil ?_
          refine Run.ret ?_
          obtain rfl := someO h
          exact Ends.mk (.inl rfl) hB rfl rfl rfl rfl
def impl_LogOk_l1 (N : Nat) (x_1 : Log) : Nat → Int → Int → Option ((Bool) ⊕ (Unit))
 | 0, _, _ => none
 | m + 1, x_207, x_210 =>
 (if (decide (x_210 < (x_1.Entries.length : Int))) = true then
 (at? x_1.Entries x_210).bind fun x_227 =>
 (impl_EntryOk N x_227).bind fun y_231 =>
 (if (!y_231) = true then
 some (Sum.inl false)
 else
 (if (decide (x_227.Term < x_207)) = true then
 some (Sum.inl false)
 else
 impl_LogOk_l1 N x_1 m x_227.Term (w64 (x_210 + (1 : Int)))))
 else
 some (Sum.inr ()))
def impl_LogOk_l1_r (N : Nat) (x_1 : Log) : (List Entry) → Int → Int → Option ((Bool) ⊕ (Unit))
 | [], x_207, x_210 =>
 some (Sum.inr ())
 | hd :: tl, x_207, x_210 =>
 (some hd).bind fun x_227 =>
 (impl_EntryOk N x_227).bind fun y_231 =>
 (if (!y_231) = true then
 some (Sum.inl false)
 else
 (if (decide (x_227.Term < x_207)) = true then
 some (Sum.inl false)
 else
 impl_LogOk_l1_r N x_1 tl x_227.Term (w64 (x_210 + (1 : Int)))))
theorem impl_LogOk_l1_rng (N : Nat) (x_1 : Log) (hx : x_1.Entries.length ≤ 1099511627776) : ∀ (d k m : Nat) (x_207 : Int), x_1.Entries.length = k + d → d < m → impl_LogOk_l1 N x_1 m x_207 (k : Int) = impl_LogOk_l1_r N x_1 (x_1.Entries.drop k) x_207 (k : Int) := by
  intro d
  induction d with
  | zero =>
    intro k m x_207 hd hm
    obtain ⟨m, rfl⟩ : ∃ q, m = q + 1 := ⟨m - 1, by omega⟩
    rw [impl_LogOk_l1, if_neg (by simp; omega), List.drop_eq_nil_of_le (by omega), impl_LogOk_l1_r]
  | succ d ih =>
    intro k m x_207 hd hm
    obtain ⟨m, rfl⟩ : ∃ q, m = q + 1 := ⟨m - 1, by omega⟩
    have hk : k < x_1.Entries.length := by omega
    rw [impl_LogOk_l1, if_pos (by simp; omega), List.drop_eq_getElem_cons hk, impl_LogOk_l1_r]
    have h1 := at_lt hk
    have h2 := w64_succ (k := k) (by omega)
    have h3 := ih (k + 1) m
    simp only [h1, h2, h3 _ (by omega) (by omega)]
theorem impl_LogOk_l1_eq {N : Nat} (x_1 : Log) (hx : x_1.Entries.length ≤ 1099511627776) (hN : x_1.Entries.length < N) (x_207 : Int) : impl_LogOk_l1 N x_1 N x_207 0 = impl_LogOk_l1_r N x_1 x_1.Entries x_207 0 := impl_LogOk_l1_rng N x_1 hx x_1.Entries.length 0 N x_207 (by omega) hN
def impl_LogOk (N : Nat) (x_1 : Log) : Option (Bool) :=
 (impl_within N x_1.Start (0 : Int) (100000 : Int)).bind fun y_173 =>
 (if (!y_173) = true then
 some false
 else
 (impl_within N x_1.StartTerm (0 : Int) (100000 : Int)).bind fun y_175 =>
 (if (!y_175) = true then
 some false
 else
 (if (decide ((x_1.Entries.length : Int) > (120 : Int))) = true then
 some false
 else
 (if (decide ((w64 (x_1.Start + (x_1.Entries.length : Int))) > (100000 : Int))) = true then
 some false
 else
 joinP (fun (v_206 : Unit) =>
 some true) fun j_206 =>
 (impl_LogOk_l1 N x_1 N x_1.StartTerm (0 : Int)).bind (Sum.elim (fun v_221 => some v_221) (fun (v_222 : Unit) => j_206 ()))))))
theorem sem_impl_LogOk (N : Nat) (x_1 : Log) (r : Bool) (h : impl_LogOk N x_1 = some r) : Says Try.prog 89 [.agg [VI x_1.Start, VI x_1.StartTerm, RO 48 (x_1.Entries.map encEntry)]] 0 [] (VB r) [] := by
  unfold impl_LogOk at h
  refine Says.of_run s89 Try.call89 rfl fun B hB => ?_
  have hm : B.m ≤ 1000 := by omega
  refine Run.seq ?_
  refine Run.ops hm ?_
  refine Ops.st (s := 1000) (.bx rfl rfl) rfl rfl ?_
  refine Ops.p rfl ?_
  refine Ops.nil ?_
  refine Run.seq ?_
  refine Run.seq ?_
  refine Run.ops hm ?_
  refine Ops.p rfl ?_
  refine Ops.p rfl ?_
  obtain ⟨y_173, hy_173, h⟩ := bindO h
  refine Ops.st (s := 5128) (Ev.call [] [] 0 (sem_impl_within N x_1.Start (0 : Int) (100000 : Int) _ hy_173) rfl rfl (.cons (.c _) (.cons (.c _) (.cons (.c _) .nil))) rfl (.inl rfl) rfl rfl) rfl rfl ?_
  refine Ops.p rfl ?_
  refine Ops.p rfl ?_
  refine Ops.askO (x := .t 10) rfl h (fun g_174 h => ?_) (fun g_174 h => ?_)
  · skip
    refine Ops.gn rfl g_174 ?_
    refine Ops.gn rfl g_174 ?_
    refine Ops.gn rfl g_174 ?_
    refine Ops.gn rfl g_174 ?_
    refine Ops.st (s := 5240) (.pkT rfl g_174 rfl) rfl rfl ?_
    refine Ops.p rfl ?_
    refine Ops.gn rfl rfl ?_
    refine Ops.gn rfl rfl ?_
    refine Ops.gn rfl rfl ?_
    refine Ops.gn rfl rfl ?_
    refine Ops.st (s := 5336) (.pkT rfl rfl rfl) rfl rfl ?_
    refine Ops.p rfl ?_
    refine Ops.gn rfl rfl ?_
    refine Ops.gn rfl rfl ?_
    refine Ops.gn rfl rfl ?_
    refine Ops.gn rfl rfl ?_
    refine Ops.gn rfl rfl ?_
    refine Ops.gn rfl rfl ?_
    refine Ops.gn rfl rfl ?_
    refine Ops.st (s := 5480) (.pkT rfl rfl rfl) rfl rfl ?_
    refine Ops.nil ?_
    refine Run.condT rfl rfl ?_
    refine Run.seq ?_
    refine Run.ops hm ?_
    refine Ops.p rfl ?_
    refine Ops.nil ?_
    refine Run.ret ?_
    obtain rfl := someO h
    exact Ends.mk (.inl rfl) hB rfl rfl rfl rfl
  · skip
    refine Ops.gp rfl g_174 rfl ?_
    refine Ops.gp rfl g_174 rfl ?_
    obtain ⟨y_175, hy_175, h⟩ := bindO h
    refine Ops.gs (s := 5208) rfl g_174 (Ev.call [] [] 0 (sem_impl_within N x_1.StartTerm (0 : Int) (100000 : Int) _ hy_175) rfl rfl (.cons (.c _) (.cons (.c _) (.cons (.c _) .nil))) rfl (.inl rfl) rfl rfl) rfl rfl ?_
    refine Ops.gp rfl g_174 rfl ?_
    refine Ops.st (s := 5240) (.pkF rfl g_174 rfl) rfl rfl ?_
    refine Ops.p rfl ?_
    refine Ops.askO (x := .t 16) rfl h (fun g_176 h => ?_) (fun g_176 h => ?_)
    · skip
      refine Ops.gn rfl g_176 ?_
      refine Ops.gn rfl g_176 ?_
      refine Ops.gn rfl g_176 ?_
      refine Ops.gn rfl g_176 ?_
      refine Ops.st (s := 5336) (.pkT rfl g_176 rfl) rfl rfl ?_
      refine Ops.p rfl ?_
      refine Ops.gn rfl rfl ?_
      refine Ops.gn rfl rfl ?_
      refine Ops.gn rfl rfl ?_
      refine Ops.gn rfl rfl ?_
      refine Ops.gn rfl rfl ?_
      refine Ops.gn rfl rfl ?_
      refine Ops.gn rfl rfl ?_
      refine Ops.st (s := 5480) (.pkT rfl rfl rfl) rfl rfl ?_
      refine Ops.nil ?_
      refine Run.condT rfl rfl ?_
      refine Run.seq ?_
      refine Run.ops hm ?_
      refine Ops.p rfl ?_
      refine Ops.nil ?_
      refine Run.ret ?_
      obtain rfl := someO h
      exact Ends.mk (.inl rfl) hB rfl rfl rfl rfl
    · skip
      refine Ops.gp rfl g_176 rfl ?_
      refine Ops.gp rfl g_176 rfl ?_
      refine Ops.gs (s := 5304) rfl g_176 (Ev.lnF rfl) rfl rfl ?_
      refine Ops.gp rfl g_176 rfl ?_
      refine Ops.st (s := 5336) (.pkF rfl g_176 rfl) rfl rfl ?_
      refine Ops.p rfl ?_
      refine Ops.askO (x := .t 22) rfl h (fun g_177 h => ?_) (fun g_177 h => ?_)
      · skip
        refine Ops.gn rfl g_177 ?_
        refine Ops.gn rfl g_177 ?_
        refine Ops.gn rfl g_177 ?_
        refine Ops.gn rfl g_177 ?_
        refine Ops.gn rfl g_177 ?_
        refine Ops.gn rfl g_177 ?_
        refine Ops.gn rfl g_177 ?_
        refine Ops.st (s := 5480) (.pkT rfl g_177 rfl) rfl rfl ?_
        refine Ops.nil ?_
        refine Run.condT rfl rfl ?_
        refine Run.seq ?_
        refine Run.ops hm ?_
        refine Ops.p rfl ?_
        refine Ops.nil ?_
        refine Run.ret ?_
        obtain rfl := someO h
        exact Ends.mk (.inl rfl) hB rfl rfl rfl rfl
      · skip
        refine Ops.gp rfl g_177 rfl ?_
        refine Ops.gp rfl g_177 rfl ?_
        refine Ops.gp rfl g_177 rfl ?_
        refine Ops.gp rfl g_177 rfl ?_
        refine Ops.gs (s := 5432) rfl g_177 (Ev.lnF rfl) rfl rfl ?_
        refine Ops.gp rfl g_177 rfl ?_
        refine Ops.gp rfl g_177 rfl ?_
        refine Ops.st (s := 5480) (.pkF rfl g_177 rfl) rfl rfl ?_
        refine Ops.nil ?_
        refine Run.condO rfl h (fun g_178 h => ?_) (fun g_178 h => ?_)
        · skip
          refine Run.seq ?_
          refine Run.ops hm ?_
          refine Ops.p rfl ?_
          refine Ops.nil ?_
          refine Run.ret ?_
          obtain rfl := someO h
          exact Ends.mk (.inl rfl) hB rfl rfl rfl rfl
        · skip
          refine Run.skip ?_
          refine Run.seq ?_
          refine Run.ops hm ?_
          refine Ops.p rfl ?_
          refine Ops.p rfl ?_
          refine Ops.p rfl ?_
          refine Ops.nil ?_
          refine Run.seqO h (fun (v_206 : Unit) => []) (fun (v_206 : Unit) => []) (fun h => ?_) (fun v_206 h => ?_)
          · skip
            refine Run.seq ?_
            refine Run.ops hm ?_
            refine Ops.p rfl ?_
            refine Ops.p rfl ?_
            refine Ops.st (s := 17416) (Ev.lnF rfl) rfl rfl ?_
            refine Ops.p rfl ?_
            refine Ops.nil ?_
            refine Run.block ?_
            obtain ⟨res_222, h, hk_222⟩ := bindO h
            refine Run.loop (n := N) (fun m_222 fr σ => ∃ (x_207 : Int), ∃ (x_210 : Int), impl_LogOk_l1 N x_1 m_222 x_207 x_210 = some res_222 ∧ fr = [(3, VI x_207), (34, RO 48 (x_1.Entries.map encEntry)), (35, VI (x_1.Entries.length : Int)), (36, VI x_210)] ∧ σ = []) (gh_canonE (ts := [3, 34, 35, 36]) hB rfl rfl rfl) ⟨_, _, h, rfl, rfl⟩ ?_
            rintro m_222 fr σ ⟨x_207, x_210, h, rfl, rfl⟩
            obtain _ | m_222 := m_222
            · rw [impl_LogOk_l1] at h; cases h
            rw [impl_LogOk_l1] at h
            refine Run.seq ?_
            refine Run.ops hm ?_
            refine Ops.p rfl ?_
            refine Ops.nil ?_
            refine Run.seq ?_
            refine Run.condO rfl h (fun g_225 h => ?_) (fun g_225 h => ?_)
            · skip
              refine Run.skip ?_
              refine Run.seq ?_
              refine Run.block ?_
              refine Run.seq ?_
              refine Run.ops hm ?_
              obtain ⟨x_227, hx_227, h⟩ := bindO h
              refine Ops.st (s := 25576) (Ev.iaF rfl rfl hx_227) rfl rfl ?_
              refine Ops.p rfl ?_
              refine Ops.st (s := 25608) (.al rfl rfl) rfl rfl ?_
              refine Ops.s0 (s := 25624) (.sto rfl rfl rfl rfl rfl rfl) rfl rfl ?_
              refine Ops.nil ?_
              refine Run.seq ?_
              refine Run.seq ?_
              refine Run.ops hm ?_
              refine Ops.p rfl ?_
              obtain ⟨y_231, hy_231, h⟩ := bindO h
              refine Ops.st (s := 29688) (Ev.call [] [] 0 (sem_impl_EntryOk N x_227 _ hy_231) rfl rfl (.cons (.agg (.cons (.c _) (.cons (.c _) (.cons (.c _) .nil)))) .nil) rfl (.inl rfl) rfl rfl) rfl rfl ?_
              refine Ops.p rfl ?_
              refine Ops.p rfl ?_
              refine Ops.askO (x := .t 43) rfl h (fun g_232 h => ?_) (fun g_232 h => ?_)
              · skip
                refine Ops.gn rfl g_232 ?_
                refine Ops.gn rfl g_232 ?_
                refine Ops.gn rfl g_232 ?_
                refine Ops.gn rfl g_232 ?_
                refine Ops.st (s := 29800) (.pkT rfl g_232 rfl) rfl rfl ?_
                refine Ops.nil ?_
                refine Run.condT rfl rfl ?_
                refine Run.seq ?_
                refine Run.ops hm ?_
                refine Ops.p rfl ?_
                refine Ops.nil ?_
                refine Run.ret ?_
                obtain rfl := someO h
                have h := hk_222
                replace h := inlO h
                obtain rfl := someO h
                exact Ends.mk (.inl rfl) hB rfl rfl rfl rfl
              · skip
                refine Ops.gp rfl g_232 rfl ?_
                refine Ops.gp rfl g_232 rfl ?_
                refine Ops.gp rfl g_232 rfl ?_
                refine Ops.gp rfl g_232 rfl ?_
                refine Ops.st (s := 29800) (.pkF rfl g_232 rfl) rfl rfl ?_
                refine Ops.nil ?_
                refine Run.condO rfl h (fun g_233 h => ?_) (fun g_233 h => ?_)
                · skip
                  refine Run.seq ?_
                  refine Run.ops hm ?_
                  refine Ops.p rfl ?_
                  refine Ops.nil ?_
                  refine Run.ret ?_
                  obtain rfl := someO h
                  have h := hk_222
                  replace h := inlO h
                  obtain rfl := someO h
                  exact Ends.mk (.inl rfl) hB rfl rfl rfl rfl
                · skip
                  refine Run.skip ?_
                  refine Run.ops hm ?_
                  refine Ops.p rfl ?_
                  refine Ops.p rfl ?_
                  refine Ops.p rfl ?_
                  refine Ops.nil ?_
                  refine Run.ops hm ?_
                  refine Ops.p rfl ?_
                  refine Ops.p rfl ?_
                  refine Ops.nil ?_
                  exact ⟨m_222, Nat.lt_succ_self m_222, _, _, gh_canonE (ts := [3, 34, 35, 36]) hB rfl rfl rfl, _, _, h, rfl, rfl⟩
            · skip
              refine Run.exit ?_
              obtain rfl := someO h
              have h := hk_222
              replace h := inrO h
              exact ⟨_, _, gh_canonE (ts := []) hB rfl rfl rfl, (), h, rfl, rfl⟩
          · skip
            refine Run.seq ?_
            refine Run.ops hm ?_
            refine Ops.p rfl ?_
            refine Ops.nil ?_
            refine Run.ret ?_
            obtain rfl := someO h
            exact Ends.mk (.inl rfl) hB rfl rfl rfl rfl
end Go.Proofs.Ytebbgdjmplceiaa.Pe.FnExactWhole
