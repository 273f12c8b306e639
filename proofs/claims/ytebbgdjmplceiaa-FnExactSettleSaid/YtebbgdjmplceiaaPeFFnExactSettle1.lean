/- Functions, as pure functions; and that Go does just that. -/
import Derived.Test.YtebbgdjmplceiaaPeFFnExactSettle0
namespace Go.Proofs.Ytebbgdjmplceiaa.Pe.FnExactSettle
open Go Go.RowKit
set_option linter.unusedVariables false
set_option linter.unusedSimpArgs false
set_option maxHeartbeats 40000000
def spec_EntryOk (N : Nat) (x_1 : Entry) : Option (Bool) :=
 (spec_l01In N x_1.Term (0 : Int) (100000 : Int)).bind fun y_111 =>
 (if (!y_111) = true then
 some false
 else
 (if (x_1.Kind == (1 : Int)) = true then
 some (decide (x_1.Data = (⟨#[]⟩ : ByteArray)))
 else
 (if (x_1.Kind == (2 : Int)) = true then
 (spec_ReadConf N x_1.Data).bind fun y_116 =>
 some y_116.2
 else
 (if (x_1.Kind == (3 : Int)) = true then
 some (decide ((x_1.Data.size : Int) ≤ (120 : Int)))
 else
 some false))))
theorem sem_spec_EntryOk (N : Nat) (x_1 : Entry) (r : Bool) (h : spec_EntryOk N x_1 = some r) : Says Try.prog 143 [.agg [VI x_1.Term, VI x_1.Kind, VS x_1.Data]] 0 [] (VB r) [] := by
  unfold spec_EntryOk at h
  refine Says.of_run s143 Try.call143 rfl fun B hB => ?_
  have hm : B.m ≤ 1000 := by omega
  refine Run.seq ?_
  refine Run.ops hm ?_
  refine Ops.st (s := 1000) (.bx rfl rfl) rfl rfl ?_
  refine Ops.p rfl ?_
  refine Ops.nil ?_
  refine Run.seq ?_
  refine Run.seq ?_
  refine Run.ops hm ?_
  refine Ops.p rfl ?_
  refine Ops.p rfl ?_
  obtain ⟨y_111, hy_111, h⟩ := bindO h
  refine Ops.st (s := 5128) (Ev.call [] [] 0 (sem_spec_l01In N x_1.Term (0 : Int) (100000 : Int) _ hy_111) rfl rfl (.cons (.c _) (.cons (.c _) (.cons (.c _) .nil))) rfl (.inl rfl) rfl rfl) rfl rfl ?_
  refine Ops.p rfl ?_
  refine Ops.nil ?_
  refine Run.condO rfl h (fun g_112 h => ?_) (fun g_112 h => ?_)
  · skip
    refine Run.seq ?_
    refine Run.ops hm ?_
    refine Ops.p rfl ?_
    refine Ops.nil ?_
    refine Run.ret ?_
    obtain rfl := someO h
    exact Ends.mkG (.inl rfl) rfl (gh_pk [0] [] hB rfl rfl rfl rfl) rfl rfl
  · skip
    refine Run.skip ?_
    refine Run.seq ?_
    refine Run.seq ?_
    refine Run.ops hm ?_
    refine Ops.p rfl ?_
    refine Ops.p rfl ?_
    refine Ops.nil ?_
    refine Run.block ?_
    refine Run.seq ?_
    refine Run.ops hm ?_
    refine Ops.p rfl ?_
    refine Ops.p rfl ?_
    refine Ops.nil ?_
    refine Run.condO rfl h (fun g_113 h => ?_) (fun g_113 h => ?_)
    · skip
      refine Run.seq ?_
      refine Run.ops hm ?_
      refine Ops.p rfl ?_
      refine Ops.p rfl ?_
      refine Ops.p rfl ?_
      refine Ops.p rfl ?_
      refine Ops.nil ?_
      refine Run.ret ?_
      obtain rfl := someO h
      exact Ends.mkG (.inl rfl) rfl (gh_pk [0] [] hB rfl rfl rfl rfl) rfl rfl
    · skip
      refine Run.seq ?_
      refine Run.ops hm ?_
      refine Ops.p rfl ?_
      refine Ops.p rfl ?_
      refine Ops.nil ?_
      refine Run.condO rfl h (fun g_114 h => ?_) (fun g_114 h => ?_)
      · skip
        refine Run.seq ?_
        refine Run.ops hm ?_
        refine Ops.p rfl ?_
        refine Ops.p rfl ?_
        obtain ⟨y_116, hy_116, h⟩ := bindO h
        refine Ops.st (s := 29704) (Ev.call [] [] 1 (sem_spec_ReadConf N x_1.Data _ hy_116) rfl rfl (.cons (.c _) .nil) rfl (.inl rfl) rfl rfl) rfl rfl ?_
        refine Ops.p rfl ?_
        refine Ops.p rfl ?_
        refine Ops.p rfl ?_
        refine Ops.p rfl ?_
        refine Ops.p rfl ?_
        refine Ops.nil ?_
        refine Run.seq ?_
        refine Run.ops hm ?_
        refine Ops.p rfl ?_
        refine Ops.p rfl ?_
        refine Ops.nil ?_
        refine Run.ret ?_
        obtain rfl := someO h
        exact Ends.mkG (.inl rfl) rfl (gh_pk [0] [] hB rfl rfl rfl rfl) rfl rfl
      · skip
        refine Run.seq ?_
        refine Run.ops hm ?_
        refine Ops.p rfl ?_
        refine Ops.p rfl ?_
        refine Ops.nil ?_
        refine Run.condO rfl h (fun g_117 h => ?_) (fun g_117 h => ?_)
        · skip
          refine Run.seq ?_
          refine Run.ops hm ?_
          refine Ops.p rfl ?_
          refine Ops.p rfl ?_
          refine Ops.p rfl ?_
          refine Ops.p rfl ?_
          refine Ops.p rfl ?_
          refine Ops.nil ?_
          refine Run.ret ?_
          obtain rfl := someO h
          exact Ends.mkG (.inl rfl) rfl (gh_pk [0] [] hB rfl rfl rfl rfl) rfl rfl
        · skip
          refine Run.skip ?_
          refine Run.seq ?_
          refine Run.ops hm ?_
          refine Ops.p rfl ?_
          refine Ops.nil ?_
          refine Run.ret ?_
          obtain rfl := someO h
          exact Ends.mkG (.inl rfl) rfl (gh_pk [0] [] hB rfl rfl rfl rfl) rfl rfl
def spec_LogOk_l1 (N : Nat) (x_1 : Log) : Nat → Int → Int → Option ((Bool) ⊕ (Unit))
 | 0, _, _ => none
 | m + 1, x_294, x_295 =>
 (if (decide (x_295 < (x_1.Entries.length : Int))) = true then
 (at? x_1.Entries x_295).bind fun x_344 =>
 (spec_EntryOk N x_344).bind fun y_345 =>
 (if (!y_345) = true then
 some (Sum.inl false)
 else
 (at? x_1.Entries x_295).bind fun x_347 =>
 (if (decide (x_347.Term < x_294)) = true then
 some (Sum.inl false)
 else
 (at? x_1.Entries x_295).bind fun x_349 =>
 spec_LogOk_l1 N x_1 m x_349.Term (w64 (x_295 + (1 : Int)))))
 else
 some (Sum.inr ()))
def spec_LogOk_l1_r (N : Nat) (x_1 : Log) : (List Entry) → Int → Int → Option ((Bool) ⊕ (Unit))
 | [], x_294, x_295 =>
 some (Sum.inr ())
 | hd :: tl, x_294, x_295 =>
 (some hd).bind fun x_344 =>
 (spec_EntryOk N x_344).bind fun y_345 =>
 (if (!y_345) = true then
 some (Sum.inl false)
 else
 (some hd).bind fun x_347 =>
 (if (decide (x_347.Term < x_294)) = true then
 some (Sum.inl false)
 else
 (some hd).bind fun x_349 =>
 spec_LogOk_l1_r N x_1 tl x_349.Term (w64 (x_295 + (1 : Int)))))
theorem spec_LogOk_l1_rng (N : Nat) (x_1 : Log) (hx : x_1.Entries.length ≤ 1099511627776) : ∀ (d k m : Nat) (x_294 : Int), x_1.Entries.length = k + d → d < m → spec_LogOk_l1 N x_1 m x_294 (k : Int) = spec_LogOk_l1_r N x_1 (x_1.Entries.drop k) x_294 (k : Int) := by
  intro d
  induction d with
  | zero =>
    intro k m x_294 hd hm
    obtain ⟨m, rfl⟩ : ∃ q, m = q + 1 := ⟨m - 1, by omega⟩
    rw [spec_LogOk_l1, if_neg (by simp; omega), List.drop_eq_nil_of_le (by omega), spec_LogOk_l1_r]
  | succ d ih =>
    intro k m x_294 hd hm
    obtain ⟨m, rfl⟩ : ∃ q, m = q + 1 := ⟨m - 1, by omega⟩
    have hk : k < x_1.Entries.length := by omega
    rw [spec_LogOk_l1, if_pos (by simp; omega), List.drop_eq_getElem_cons hk, spec_LogOk_l1_r]
    have h1 := at_lt hk
    have h2 := w64_succ (k := k) (by omega)
    have h3 := ih (k + 1) m
    simp only [h1, h2, h3 _ (by omega) (by omega)]
theorem spec_LogOk_l1_eq {N : Nat} (x_1 : Log) (hx : x_1.Entries.length ≤ 1099511627776) (hN : x_1.Entries.length < N) (x_294 : Int) : spec_LogOk_l1 N x_1 N x_294 0 = spec_LogOk_l1_r N x_1 x_1.Entries x_294 0 := spec_LogOk_l1_rng N x_1 hx x_1.Entries.length 0 N x_294 (by omega) hN
def spec_LogOk (N : Nat) (x_1 : Log) : Option (Bool) :=
 (spec_l01In N x_1.Start (0 : Int) (100000 : Int)).bind fun y_231 =>
 (if (!y_231) = true then
 some false
 else
 (spec_l01In N x_1.StartTerm (0 : Int) (100000 : Int)).bind fun y_233 =>
 (if (!y_233) = true then
 some false
 else
 (if (decide ((x_1.Entries.length : Int) > (120 : Int))) = true then
 some false
 else
 (if (decide ((w64 (x_1.Start + (x_1.Entries.length : Int))) > (100000 : Int))) = true then
 some false
 else
 joinP (fun (v_293 : Unit) =>
 some true) fun j_293 =>
 (spec_LogOk_l1 N x_1 N x_1.StartTerm (0 : Int)).bind (Sum.elim (fun v_323 => some v_323) (fun (v_324 : Unit) => j_293 ()))))))
theorem sem_spec_LogOk (N : Nat) (x_1 : Log) (r : Bool) (h : spec_LogOk N x_1 = some r) : Says Try.prog 86 [.agg [VI x_1.Start, VI x_1.StartTerm, RO 48 (x_1.Entries.map encEntry)]] 0 [] (VB r) [] := by
  unfold spec_LogOk at h
  refine Says.of_run s86 Try.call86 rfl fun B hB => ?_
  have hm : B.m ≤ 1000 := by omega
  refine Run.seq ?_
  refine Run.ops hm ?_
  refine Ops.st (s := 1000) (.bx rfl rfl) rfl rfl ?_
  refine Ops.p rfl ?_
  refine Ops.nil ?_
  refine Run.seq ?_
  refine Run.seq ?_
  refine Run.ops hm ?_
  refine Ops.p rfl ?_
  refine Ops.p rfl ?_
  obtain ⟨y_231, hy_231, h⟩ := bindO h
  refine Ops.st (s := 5128) (Ev.call [] [] 0 (sem_spec_l01In N x_1.Start (0 : Int) (100000 : Int) _ hy_231) rfl rfl (.cons (.c _) (.cons (.c _) (.cons (.c _) .nil))) rfl (.inl rfl) rfl rfl) rfl rfl ?_
  refine Ops.p rfl ?_
  refine Ops.p rfl ?_
  refine Ops.askO (x := .t 9) rfl h (fun g_232 h => ?_) (fun g_232 h => ?_)
  · skip
    refine Ops.gn rfl g_232 ?_
    refine Ops.gn rfl g_232 ?_
    refine Ops.gn rfl g_232 ?_
    refine Ops.gn rfl g_232 ?_
    refine Ops.st (s := 5240) (.pkT rfl g_232 rfl) rfl rfl ?_
    refine Ops.p rfl ?_
    refine Ops.gn rfl rfl ?_
    refine Ops.gn rfl rfl ?_
    refine Ops.gn rfl rfl ?_
    refine Ops.gn rfl rfl ?_
    refine Ops.st (s := 5336) (.pkT rfl rfl rfl) rfl rfl ?_
    refine Ops.p rfl ?_
    refine Ops.gn rfl rfl ?_
    refine Ops.gn rfl rfl ?_
    refine Ops.gn rfl rfl ?_
    refine Ops.gn rfl rfl ?_
    refine Ops.gn rfl rfl ?_
    refine Ops.gn rfl rfl ?_
    refine Ops.gn rfl rfl ?_
    refine Ops.st (s := 5480) (.pkT rfl rfl rfl) rfl rfl ?_
    refine Ops.nil ?_
    refine Run.condT rfl rfl ?_
    refine Run.seq ?_
    refine Run.ops hm ?_
    refine Ops.p rfl ?_
    refine Ops.nil ?_
    refine Run.ret ?_
    obtain rfl := someO h
    exact Ends.mkG (.inl rfl) rfl (gh_pk [0] [] hB rfl rfl rfl rfl) rfl rfl
  · skip
    refine Ops.gp rfl g_232 rfl ?_
    refine Ops.gp rfl g_232 rfl ?_
    obtain ⟨y_233, hy_233, h⟩ := bindO h
    refine Ops.gs (s := 5208) rfl g_232 (Ev.call [] [] 0 (sem_spec_l01In N x_1.StartTerm (0 : Int) (100000 : Int) _ hy_233) rfl rfl (.cons (.c _) (.cons (.c _) (.cons (.c _) .nil))) rfl (.inl rfl) rfl rfl) rfl rfl ?_
    refine Ops.gp rfl g_232 rfl ?_
    refine Ops.st (s := 5240) (.pkF rfl g_232 rfl) rfl rfl ?_
    refine Ops.p rfl ?_
    refine Ops.askO (x := .t 15) rfl h (fun g_234 h => ?_) (fun g_234 h => ?_)
    · skip
      refine Ops.gn rfl g_234 ?_
      refine Ops.gn rfl g_234 ?_
      refine Ops.gn rfl g_234 ?_
      refine Ops.gn rfl g_234 ?_
      refine Ops.st (s := 5336) (.pkT rfl g_234 rfl) rfl rfl ?_
      refine Ops.p rfl ?_
      refine Ops.gn rfl rfl ?_
      refine Ops.gn rfl rfl ?_
      refine Ops.gn rfl rfl ?_
      refine Ops.gn rfl rfl ?_
      refine Ops.gn rfl rfl ?_
      refine Ops.gn rfl rfl ?_
      refine Ops.gn rfl rfl ?_
      refine Ops.st (s := 5480) (.pkT rfl rfl rfl) rfl rfl ?_
      refine Ops.nil ?_
      refine Run.condT rfl rfl ?_
      refine Run.seq ?_
      refine Run.ops hm ?_
      refine Ops.p rfl ?_
      refine Ops.nil ?_
      refine Run.ret ?_
      obtain rfl := someO h
      exact Ends.mkG (.inl rfl) rfl (gh_pk [0] [] hB rfl rfl rfl rfl) rfl rfl
    · skip
      refine Ops.gp rfl g_234 rfl ?_
      refine Ops.gp rfl g_234 rfl ?_
      refine Ops.gs (s := 5304) rfl g_234 (Ev.lnF rfl) rfl rfl ?_
      refine Ops.gp rfl g_234 rfl ?_
      refine Ops.st (s := 5336) (.pkF rfl g_234 rfl) rfl rfl ?_
      refine Ops.p rfl ?_
      refine Ops.askO (x := .t 21) rfl h (fun g_235 h => ?_) (fun g_235 h => ?_)
      · skip
        refine Ops.gn rfl g_235 ?_
        refine Ops.gn rfl g_235 ?_
        refine Ops.gn rfl g_235 ?_
        refine Ops.gn rfl g_235 ?_
        refine Ops.gn rfl g_235 ?_
        refine Ops.gn rfl g_235 ?_
        refine Ops.gn rfl g_235 ?_
        refine Ops.st (s := 5480) (.pkT rfl g_235 rfl) rfl rfl ?_
        refine Ops.nil ?_
        refine Run.condT rfl rfl ?_
        refine Run.seq ?_
        refine Run.ops hm ?_
        refine Ops.p rfl ?_
        refine Ops.nil ?_
        refine Run.ret ?_
        obtain rfl := someO h
        exact Ends.mkG (.inl rfl) rfl (gh_pk [0] [] hB rfl rfl rfl rfl) rfl rfl
      · skip
        refine Ops.gp rfl g_235 rfl ?_
        refine Ops.gp rfl g_235 rfl ?_
        refine Ops.gp rfl g_235 rfl ?_
        refine Ops.gp rfl g_235 rfl ?_
        refine Ops.gs (s := 5432) rfl g_235 (Ev.lnF rfl) rfl rfl ?_
        refine Ops.gp rfl g_235 rfl ?_
        refine Ops.gp rfl g_235 rfl ?_
        refine Ops.st (s := 5480) (.pkF rfl g_235 rfl) rfl rfl ?_
        refine Ops.nil ?_
        refine Run.condO rfl h (fun g_236 h => ?_) (fun g_236 h => ?_)
        · skip
          refine Run.seq ?_
          refine Run.ops hm ?_
          refine Ops.p rfl ?_
          refine Ops.nil ?_
          refine Run.ret ?_
          obtain rfl := someO h
          exact Ends.mkG (.inl rfl) rfl (gh_pk [0] [] hB rfl rfl rfl rfl) rfl rfl
        · skip
          refine Run.skip ?_
          refine Run.seq ?_
          refine Run.ops hm ?_
          refine Ops.p rfl ?_
          refine Ops.p rfl ?_
          refine Ops.p rfl ?_
          refine Ops.nil ?_
          refine Run.seqO h (fun (v_293 : Unit) => []) (fun (v_293 : Unit) => []) (fun h => ?_) (fun v_293 h => ?_)
          · skip
            refine Run.seq ?_
            refine Run.ops hm ?_
            refine Ops.p rfl ?_
            refine Ops.nil ?_
            refine Run.block ?_
            obtain ⟨res_324, h, hk_324⟩ := bindO h
            refine Run.loop (n := N) (fun m_324 fr σ => ∃ (x_294 : Int), ∃ (x_295 : Int), spec_LogOk_l1 N x_1 m_324 x_294 x_295 = some res_324 ∧ fr = [(1, .ptr 0 0), (3, VI x_294), (4, VI x_295)] ∧ σ = [(0, .box [VI x_1.Start, VI x_1.StartTerm, RO 48 (x_1.Entries.map encEntry)])]) (gh_pk [1, 3, 4] [1000] hB rfl rfl rfl rfl) ⟨_, _, h, rfl, rfl⟩ ?_
            rintro m_324 fr σ ⟨x_294, x_295, h, rfl, rfl⟩
            obtain _ | m_324 := m_324
            · rw [spec_LogOk_l1] at h; cases h
            rw [spec_LogOk_l1] at h
            refine Run.seq ?_
            refine Run.seq ?_
            refine Run.ops hm ?_
            refine Ops.p rfl ?_
            refine Ops.p rfl ?_
            refine Ops.p rfl ?_
            refine Ops.st (s := 21528) (Ev.lnF rfl) rfl rfl ?_
            refine Ops.p rfl ?_
            refine Ops.nil ?_
            refine Run.condO rfl h (fun g_327 h => ?_) (fun g_327 h => ?_)
            · skip
              refine Run.skip ?_
              refine Run.seq ?_
              refine Run.block ?_
              refine Run.seq ?_
              refine Run.seq ?_
              refine Run.ops hm ?_
              refine Ops.p rfl ?_
              refine Ops.p rfl ?_
              refine Ops.p rfl ?_
              obtain ⟨x_344, hx_344, h⟩ := bindO h
              refine Ops.st (s := 29720) (Ev.iaF rfl rfl hx_344) rfl rfl ?_
              refine Ops.p rfl ?_
              obtain ⟨y_345, hy_345, h⟩ := bindO h
              refine Ops.st (s := 29752) (Ev.call [] [] 0 (sem_spec_EntryOk N x_344 _ hy_345) rfl rfl (.cons (.agg (.cons (.c _) (.cons (.c _) (.cons (.c _) .nil)))) .nil) rfl (.inl rfl) rfl rfl) rfl rfl ?_
              refine Ops.p rfl ?_
              refine Ops.p rfl ?_
              refine Ops.askO (x := .t 46) rfl h (fun g_346 h => ?_) (fun g_346 h => ?_)
              · skip
                refine Ops.gn rfl g_346 ?_
                refine Ops.gn rfl g_346 ?_
                refine Ops.gn rfl g_346 ?_
                refine Ops.gn rfl g_346 ?_
                refine Ops.gn rfl g_346 ?_
                refine Ops.gn rfl g_346 ?_
                refine Ops.gn rfl g_346 ?_
                refine Ops.gn rfl g_346 ?_
                refine Ops.st (s := 29928) (.pkT rfl g_346 rfl) rfl rfl ?_
                refine Ops.nil ?_
                refine Run.condT rfl rfl ?_
                refine Run.seq ?_
                refine Run.ops hm ?_
                refine Ops.p rfl ?_
                refine Ops.nil ?_
                refine Run.ret ?_
                obtain rfl := someO h
                have h := hk_324
                replace h := inlO h
                obtain rfl := someO h
                exact Ends.mkG (.inl rfl) rfl (gh_pk [0] [] hB rfl rfl rfl rfl) rfl rfl
              · skip
                refine Ops.gp rfl g_346 rfl ?_
                refine Ops.gp rfl g_346 rfl ?_
                refine Ops.gp rfl g_346 rfl ?_
                obtain ⟨x_347, hx_347, h⟩ := bindO h
                refine Ops.gs (s := 29848) rfl g_346 (Ev.iaF rfl rfl hx_347) rfl rfl ?_
                refine Ops.gp rfl g_346 rfl ?_
                refine Ops.gp rfl g_346 rfl ?_
                refine Ops.gp rfl g_346 rfl ?_
                refine Ops.gp rfl g_346 rfl ?_
                refine Ops.st (s := 29928) (.pkF rfl g_346 rfl) rfl rfl ?_
                refine Ops.nil ?_
                refine Run.condO rfl h (fun g_348 h => ?_) (fun g_348 h => ?_)
                · skip
                  refine Run.seq ?_
                  refine Run.ops hm ?_
                  refine Ops.p rfl ?_
                  refine Ops.nil ?_
                  refine Run.ret ?_
                  obtain rfl := someO h
                  have h := hk_324
                  replace h := inlO h
                  obtain rfl := someO h
                  exact Ends.mkG (.inl rfl) rfl (gh_pk [0] [] hB rfl rfl rfl rfl) rfl rfl
                · skip
                  refine Run.skip ?_
                  refine Run.ops hm ?_
                  refine Ops.p rfl ?_
                  refine Ops.p rfl ?_
                  refine Ops.p rfl ?_
                  obtain ⟨x_349, hx_349, h⟩ := bindO h
                  refine Ops.st (s := 37912) (Ev.iaF rfl rfl hx_349) rfl rfl ?_
                  refine Ops.p rfl ?_
                  refine Ops.p rfl ?_
                  refine Ops.p rfl ?_
                  refine Ops.nil ?_
                  refine Run.ops hm ?_
                  refine Ops.p rfl ?_
                  refine Ops.p rfl ?_
                  refine Ops.p rfl ?_
                  refine Ops.nil ?_
                  exact ⟨m_324, Nat.lt_succ_self m_324, _, _, (gh_pk [1, 3, 4] [0] hB rfl rfl rfl rfl), _, _, h, rfl, rfl⟩
            · skip
              refine Run.exit ?_
              obtain rfl := someO h
              have h := hk_324
              replace h := inrO h
              exact ⟨_, _, (gh_pk [] [] hB rfl rfl rfl rfl), (), h, rfl, rfl⟩
          · skip
            refine Run.seq ?_
            refine Run.ops hm ?_
            refine Ops.p rfl ?_
            refine Ops.nil ?_
            refine Run.ret ?_
            obtain rfl := someO h
            exact Ends.mkG (.inl rfl) rfl (gh_pk [0] [] hB rfl rfl rfl rfl) rfl rfl
def spec_LogLast (N : Nat) (x_1 : Log) : Option (Int × Int) :=
 (if ((x_1.Entries.length : Int) == (0 : Int)) = true then
 some (x_1.Start, x_1.StartTerm)
 else
 (at? x_1.Entries (w64 ((x_1.Entries.length : Int) - (1 : Int)))).bind fun x_105 =>
 some (w64 (x_1.Start + (x_1.Entries.length : Int)), x_105.Term))
theorem sem_spec_LogLast (N : Nat) (x_1 : Log) (r : Int × Int) (h : spec_LogLast N x_1 = some r) : Says Try.prog 130 [.agg [VI x_1.Start, VI x_1.StartTerm, RO 48 (x_1.Entries.map encEntry)]] 0 [] (.tup [VI r.1, VI r.2]) [] := by
  unfold spec_LogLast at h
  refine Says.of_run s130 Try.call130 rfl fun B hB => ?_
  have hm : B.m ≤ 1000 := by omega
  refine Run.seq ?_
  refine Run.ops hm ?_
  refine Ops.st (s := 1000) (.bx rfl rfl) rfl rfl ?_
  refine Ops.p rfl ?_
  refine Ops.p rfl ?_
  refine Ops.nil ?_
  refine Run.seq ?_
  refine Run.ops hm ?_
  refine Ops.p rfl ?_
  refine Ops.p rfl ?_
  refine Ops.st (s := 5128) (Ev.lnF rfl) rfl rfl ?_
  refine Ops.p rfl ?_
  refine Ops.nil ?_
  refine Run.seq ?_
  refine Run.seq ?_
  refine Run.ops hm ?_
  refine Ops.p rfl ?_
  refine Ops.p rfl ?_
  refine Ops.nil ?_
  refine Run.condO rfl h (fun g_104 h => ?_) (fun g_104 h => ?_)
  · skip
    refine Run.seq ?_
    refine Run.draw hm hmix ?_
    refine OpsD.p rfl ?_
    refine OpsD.p rfl ?_
    refine OpsD.p rfl ?_
    refine OpsD.p rfl ?_
    refine OpsD.p rfl ?_
    refine OpsD.p rfl ?_
    refine OpsD.nil ⟨by kernel_rfl, ?_⟩
    refine Run.ret ?_
    obtain rfl := someO h
    exact Ends.mkG (.inl rfl) rfl (gh_pk [0, 1] [] hB rfl rfl rfl rfl) rfl rfl
  · skip
    refine Run.skip ?_
    refine Run.seq ?_
    refine Run.draw hm hmix ?_
    refine OpsD.p rfl ?_
    refine OpsD.p rfl ?_
    refine OpsD.p rfl ?_
    refine OpsD.p rfl ?_
    refine OpsD.p rfl ?_
    refine OpsD.p rfl ?_
    refine OpsD.p rfl ?_
    refine OpsD.p rfl ?_
    obtain ⟨x_105, hx_105, h⟩ := bindO h
    refine OpsD.st (s := 17512) (Ev.iaF rfl rfl hx_105) rfl rfl ?_
    refine OpsD.p rfl ?_
    refine OpsD.p rfl ?_
    refine OpsD.p rfl ?_
    refine OpsD.p rfl ?_
    refine OpsD.nil ⟨by kernel_rfl, ?_⟩
    refine Run.ret ?_
    obtain rfl := someO h
    exact Ends.mkG (.inl rfl) rfl (gh_pk [0, 1] [] hB rfl rfl rfl rfl) rfl rfl
def spec_ConfAt_l1 (N : Nat) (x_1 : Node) (x_2 : Int) : Nat → Int → (List Int) → Option ((List Int))
 | 0, _, _ => none
 | m + 1, x_278, x_293 =>
 (if (decide (x_278 < (x_1.Log.Entries.length : Int))) = true then
 (if (decide ((w64 ((w64 (x_1.Log.Start + (1 : Int))) + x_278)) ≤ x_2)) = true then
 joinP (fun (v_326 : (List Int)) =>
 spec_ConfAt_l1 N x_1 x_2 m (w64 (x_278 + (1 : Int))) v_326) fun j_326 =>
 (at? x_1.Log.Entries x_278).bind fun x_327 =>
 (if (x_327.Kind == (2 : Int)) = true then
 (at? x_1.Log.Entries x_278).bind fun x_331 =>
 (spec_ReadConf N x_331.Data).bind fun y_332 =>
 (if y_332.2 = true then
 j_326 y_332.1
 else
 j_326 x_293)
 else
 j_326 x_293)
 else
 some x_293)
 else
 some x_293)
def spec_ConfAt_l1_r (N : Nat) (x_1 : Node) (x_2 : Int) : (List Entry) → Int → (List Int) → Option ((List Int))
 | [], x_278, x_293 =>
 some x_293
 | hd :: tl, x_278, x_293 =>
 (if (decide ((w64 ((w64 (x_1.Log.Start + (1 : Int))) + x_278)) ≤ x_2)) = true then
 joinP (fun (v_326 : (List Int)) =>
 spec_ConfAt_l1_r N x_1 x_2 tl (w64 (x_278 + (1 : Int))) v_326) fun j_326 =>
 (some hd).bind fun x_327 =>
 (if (x_327.Kind == (2 : Int)) = true then
 (some hd).bind fun x_331 =>
 (spec_ReadConf N x_331.Data).bind fun y_332 =>
 (if y_332.2 = true then
 j_326 y_332.1
 else
 j_326 x_293)
 else
 j_326 x_293)
 else
 some x_293)
theorem spec_ConfAt_l1_rng (N : Nat) (x_1 : Node) (x_2 : Int) (hx : x_1.Log.Entries.length ≤ 1099511627776) : ∀ (d k m : Nat) (x_293 : (List Int)), x_1.Log.Entries.length = k + d → d < m → spec_ConfAt_l1 N x_1 x_2 m (k : Int) x_293 = spec_ConfAt_l1_r N x_1 x_2 (x_1.Log.Entries.drop k) (k : Int) x_293 := by
  intro d
  induction d with
  | zero =>
    intro k m x_293 hd hm
    obtain ⟨m, rfl⟩ : ∃ q, m = q + 1 := ⟨m - 1, by omega⟩
    rw [spec_ConfAt_l1, if_neg (by simp; omega), List.drop_eq_nil_of_le (by omega), spec_ConfAt_l1_r]
  | succ d ih =>
    intro k m x_293 hd hm
    obtain ⟨m, rfl⟩ : ∃ q, m = q + 1 := ⟨m - 1, by omega⟩
    have hk : k < x_1.Log.Entries.length := by omega
    rw [spec_ConfAt_l1, if_pos (by simp; omega), List.drop_eq_getElem_cons hk, spec_ConfAt_l1_r]
    have h1 := at_lt hk
    have h2 := w64_succ (k := k) (by omega)
    have h3 := ih (k + 1) m
    simp only [h1, h2, h3 _ (by omega) (by omega)]
theorem spec_ConfAt_l1_eq {N : Nat} (x_1 : Node) (x_2 : Int) (hx : x_1.Log.Entries.length ≤ 1099511627776) (hN : x_1.Log.Entries.length < N) (x_293 : (List Int)) : spec_ConfAt_l1 N x_1 x_2 N 0 x_293 = spec_ConfAt_l1_r N x_1 x_2 x_1.Log.Entries 0 x_293 := spec_ConfAt_l1_rng N x_1 x_2 hx x_1.Log.Entries.length 0 N x_293 (by omega) hN
def spec_ConfAt (N : Nat) (x_1 : Node) (x_2 : Int) : Option ((List Int)) :=
 (cat? ([] : List Int) x_1.Conf).bind fun x_218 =>
 joinP (fun (v_276 : (List Int)) =>
 some v_276) fun j_276 =>
 (spec_ConfAt_l1 N x_1 x_2 N (0 : Int) x_218).bind (fun (v_313 : (List Int)) => j_276 v_313)
theorem sem_spec_ConfAt (N : Nat) (x_1 : Node) (x_2 : Int) (r : (List Int)) (h : spec_ConfAt N x_1 x_2 = some r) : Says Try.prog 46 [.agg [VI x_1.Id, VI x_1.Term, VI x_1.Vote, VI x_1.Role, VI x_1.Lead, RO 3 (x_1.Conf.map encI), VI x_1.Log.Start, VI x_1.Log.StartTerm, RO 48 (x_1.Log.Entries.map encEntry), VI x_1.Commit, VI x_1.Clock, VI x_1.Limit, RO 3 (x_1.Votes.map encI), RO 172 (x_1.Peers.map encPeer)], VI x_2] 0 [] (.sl 0 3 0 r.length) [(0, .vec 3 (r.map encI))] := by
  unfold spec_ConfAt at h
  refine Says.of_run s46 Try.call46 rfl fun B hB => ?_
  have hm : B.m ≤ 1000 := by omega
  refine Run.seq ?_
  refine Run.ops hm ?_
  refine Ops.st (s := 1000) (.bx rfl rfl) rfl rfl ?_
  refine Ops.p rfl ?_
  refine Ops.nil ?_
  refine Run.seq ?_
  refine Run.ops hm ?_
  refine Ops.st (s := 5096) (Ev.bsW (ys := ([] : List Int)) (f := encI) rfl .nil rfl rfl rfl rfl rfl) rfl rfl ?_
  refine Ops.p rfl ?_
  refine Ops.p rfl ?_
  obtain ⟨x_218, hx_218, h⟩ := bindO h
  refine Ops.st (s := 5144) (Ev.apW (f := encI) (ontoW rfl rfl rfl) (addsF rfl) rfl bt3 rfl hx_218) rfl rfl ?_
  refine Ops.p rfl ?_
  refine Ops.nil ?_
  refine Run.seqO h (fun (v_276 : (List Int)) => [(5, .sl 0 3 0 v_276.length)]) (fun (v_276 : (List Int)) => [(0, .vec 3 (v_276.map encI))]) (fun h => ?_) (fun v_276 h => ?_)
  · skip
    refine Run.seq ?_
    refine Run.ops hm ?_
    refine Ops.p rfl ?_
    refine Ops.nil ?_
    refine Run.block ?_
    obtain ⟨res_313, h, hk_313⟩ := bindO h
    refine Run.loop (n := N) (fun m_313 fr σ => ∃ (x_278 : Int), ∃ (x_293 : (List Int)), spec_ConfAt_l1 N x_1 x_2 m_313 x_278 x_293 = some res_313 ∧ fr = [(1, VI x_2), (2, .ptr 0 0), (5, .sl 1 3 0 x_293.length), (6, VI x_278)] ∧ σ = [(0, .box [VI x_1.Id, VI x_1.Term, VI x_1.Vote, VI x_1.Role, VI x_1.Lead, RO 3 (x_1.Conf.map encI), VI x_1.Log.Start, VI x_1.Log.StartTerm, RO 48 (x_1.Log.Entries.map encEntry), VI x_1.Commit, VI x_1.Clock, VI x_1.Limit, RO 3 (x_1.Votes.map encI), RO 172 (x_1.Peers.map encPeer)]), (1, .vec 3 (x_293.map encI))]) (gh_pk [1, 2, 5, 6] [1000, 5144] hB rfl rfl rfl rfl) ⟨_, _, h, rfl, rfl⟩ ?_
    rintro m_313 fr σ ⟨x_278, x_293, h, rfl, rfl⟩
    obtain _ | m_313 := m_313
    · rw [spec_ConfAt_l1] at h; cases h
    rw [spec_ConfAt_l1] at h
    refine Run.seq ?_
    refine Run.seq ?_
    refine Run.ops hm ?_
    refine Ops.p rfl ?_
    refine Ops.p rfl ?_
    refine Ops.p rfl ?_
    refine Ops.p rfl ?_
    refine Ops.st (s := 13352) (Ev.lnF rfl) rfl rfl ?_
    refine Ops.p rfl ?_
    refine Ops.p rfl ?_
    refine Ops.askO (x := .t 19) rfl h (fun g_317 h => ?_) (fun g_317 h => ?_)
    · skip
      refine Ops.gp rfl g_317 rfl ?_
      refine Ops.gp rfl g_317 rfl ?_
      refine Ops.gp rfl g_317 rfl ?_
      refine Ops.gp rfl g_317 rfl ?_
      refine Ops.gp rfl g_317 rfl ?_
      refine Ops.gp rfl g_317 rfl ?_
      refine Ops.gp rfl g_317 rfl ?_
      refine Ops.gp rfl g_317 rfl ?_
      refine Ops.st (s := 13528) (.pkT rfl g_317 rfl) rfl rfl ?_
      refine Ops.nil ?_
      refine Run.condO rfl h (fun g_318 h => ?_) (fun g_318 h => ?_)
      · skip
        refine Run.skip ?_
        refine Run.seqO h (fun (v_326 : (List Int)) => [(1, VI x_2), (2, .ptr 0 0), (5, .sl 1 3 0 v_326.length), (6, VI x_278)]) (fun (v_326 : (List Int)) => [(0, .box [VI x_1.Id, VI x_1.Term, VI x_1.Vote, VI x_1.Role, VI x_1.Lead, RO 3 (x_1.Conf.map encI), VI x_1.Log.Start, VI x_1.Log.StartTerm, RO 48 (x_1.Log.Entries.map encEntry), VI x_1.Commit, VI x_1.Clock, VI x_1.Limit, RO 3 (x_1.Votes.map encI), RO 172 (x_1.Peers.map encPeer)]), (1, .vec 3 (v_326.map encI))]) (fun h => ?_) (fun v_326 h => ?_)
        · skip
          refine Run.block ?_
          refine Run.seq ?_
          refine Run.ops hm ?_
          refine Ops.p rfl ?_
          refine Ops.p rfl ?_
          refine Ops.p rfl ?_
          refine Ops.p rfl ?_
          obtain ⟨x_327, hx_327, h⟩ := bindO h
          refine Ops.st (s := 21544) (Ev.iaF rfl rfl hx_327) rfl rfl ?_
          refine Ops.p rfl ?_
          refine Ops.p rfl ?_
          refine Ops.p rfl ?_
          refine Ops.nil ?_
          refine Run.condO rfl h (fun g_328 h => ?_) (fun g_328 h => ?_)
          · skip
            refine Run.seq ?_
            refine Run.ops hm ?_
            refine Ops.p rfl ?_
            refine Ops.p rfl ?_
            refine Ops.p rfl ?_
            refine Ops.p rfl ?_
            obtain ⟨x_331, hx_331, h⟩ := bindO h
            refine Ops.st (s := 25640) (Ev.iaF rfl rfl hx_331) rfl rfl ?_
            refine Ops.p rfl ?_
            refine Ops.p rfl ?_
            obtain ⟨y_332, hy_332, h⟩ := bindO h
            refine Ops.st (s := 25688) (Ev.call [] [] 1 (sem_spec_ReadConf N x_331.Data _ hy_332) rfl rfl (.cons (.c _) .nil) rfl (.inl rfl) rfl rfl) rfl rfl ?_
            refine Ops.p rfl ?_
            refine Ops.p rfl ?_
            refine Ops.p rfl ?_
            refine Ops.p rfl ?_
            refine Ops.p rfl ?_
            refine Ops.nil ?_
            refine Run.seq ?_
            refine Run.ops hm ?_
            refine Ops.p rfl ?_
            refine Ops.nil ?_
            refine Run.condO rfl h (fun g_333 h => ?_) (fun g_333 h => ?_)
            · skip
              refine Run.ops hm ?_
              refine Ops.p rfl ?_
              refine Ops.p rfl ?_
              refine Ops.nil ?_
              exact ⟨_, _, (gh_pk [1, 2, 5, 6] [0, 25688] hB rfl rfl rfl rfl), y_332.1, h, rfl, rfl⟩
            · skip
              refine Run.skip ?_
              exact ⟨_, _, (gh_pk [1, 2, 5, 6] [0, 1] hB rfl rfl rfl rfl), x_293, h, rfl, rfl⟩
          · skip
            refine Run.skip ?_
            exact ⟨_, _, (gh_pk [1, 2, 5, 6] [0, 1] hB rfl rfl rfl rfl), x_293, h, rfl, rfl⟩
        · skip
          refine Run.ops hm ?_
          refine Ops.p rfl ?_
          refine Ops.p rfl ?_
          refine Ops.p rfl ?_
          refine Ops.nil ?_
          exact ⟨m_313, Nat.lt_succ_self m_313, _, _, (gh_pk [1, 2, 5, 6] [0, 1] hB rfl rfl rfl rfl), _, _, h, rfl, rfl⟩
      · skip
        refine Run.exit ?_
        obtain rfl := someO h
        have h := hk_313
        exact ⟨_, _, (gh_pk [5] [1] hB rfl rfl rfl rfl), x_293, h, rfl, rfl⟩
    · skip
      refine Ops.gn rfl g_317 ?_
      refine Ops.gn rfl g_317 ?_
      refine Ops.gn rfl g_317 ?_
      refine Ops.gn rfl g_317 ?_
      refine Ops.gn rfl g_317 ?_
      refine Ops.gn rfl g_317 ?_
      refine Ops.gn rfl g_317 ?_
      refine Ops.gn rfl g_317 ?_
      refine Ops.st (s := 13528) (.pkF rfl g_317 rfl) rfl rfl ?_
      refine Ops.nil ?_
      refine Run.condF rfl rfl ?_
      refine Run.exit ?_
      obtain rfl := someO h
      have h := hk_313
      exact ⟨_, _, (gh_pk [5] [1] hB rfl rfl rfl rfl), x_293, h, rfl, rfl⟩
  · skip
    refine Run.seq ?_
    refine Run.ops hm ?_
    refine Ops.p rfl ?_
    refine Ops.p rfl ?_
    refine Ops.nil ?_
    refine Run.ret ?_
    obtain rfl := someO h
    exact Ends.mkG (.inl rfl) rfl (gh_pk [0] [0] hB rfl rfl rfl rfl) rfl rfl
def spec_ConfOf (N : Nat) (x_1 : Node) : Option ((List Int)) :=
 (spec_ConfAt N x_1 (100120 : Int)).bind fun y_101 =>
 some y_101
theorem sem_spec_ConfOf (N : Nat) (x_1 : Node) (r : (List Int)) (h : spec_ConfOf N x_1 = some r) : Says Try.prog 54 [.agg [VI x_1.Id, VI x_1.Term, VI x_1.Vote, VI x_1.Role, VI x_1.Lead, RO 3 (x_1.Conf.map encI), VI x_1.Log.Start, VI x_1.Log.StartTerm, RO 48 (x_1.Log.Entries.map encEntry), VI x_1.Commit, VI x_1.Clock, VI x_1.Limit, RO 3 (x_1.Votes.map encI), RO 172 (x_1.Peers.map encPeer)]] 0 [] (.sl 0 3 0 r.length) [(0, .vec 3 (r.map encI))] := by
  unfold spec_ConfOf at h
  refine Says.of_run s54 Try.call54 rfl fun B hB => ?_
  have hm : B.m ≤ 1000 := by omega
  refine Run.seq ?_
  refine Run.ops hm ?_
  refine Ops.st (s := 1000) (.bx rfl rfl) rfl rfl ?_
  refine Ops.p rfl ?_
  refine Ops.nil ?_
  refine Run.seq ?_
  refine Run.ops hm ?_
  refine Ops.p rfl ?_
  obtain ⟨y_101, hy_101, h⟩ := bindO h
  refine Ops.st (s := 5112) (Ev.call [] [] 1 (sem_spec_ConfAt N x_1 (100120 : Int) _ hy_101) rfl rfl (.cons (.agg (.cons (.c _) (.cons (.c _) (.cons (.c _) (.cons (.c _) (.cons (.c _) (.cons (.c _) (.cons (.c _) (.cons (.c _) (.cons (.c _) (.cons (.c _) (.cons (.c _) (.cons (.c _) (.cons (.c _) (.cons (.c _) .nil))))))))))))))) (.cons (.c _) .nil)) rfl (.inl rfl) rfl rfl) rfl rfl ?_
  refine Ops.p rfl ?_
  refine Ops.nil ?_
  refine Run.ret ?_
  obtain rfl := someO h
  exact Ends.mkG (.inl rfl) rfl (gh_pk [0] [5112] hB rfl rfl rfl rfl) rfl rfl
def spec_l16Others_l1 (N : Nat) (x_1 : (List Int)) (x_2 : Int) : Nat → Int → (List Int) → Option ((List Int))
 | 0, _, _ => none
 | m + 1, x_188, x_189 =>
 (if (decide (x_188 < (x_1.length : Int))) = true then
 joinP (fun (v_209 : (List Int)) =>
 spec_l16Others_l1 N x_1 x_2 m (w64 (x_188 + (1 : Int))) v_209) fun j_209 =>
 (at? x_1 x_188).bind fun x_210 =>
 (if (x_210 != x_2) = true then
 (at? x_1 x_188).bind fun x_212 =>
 (cat? x_189 ([x_212] : List Int)).bind fun x_213 =>
 j_209 x_213
 else
 j_209 x_189)
 else
 some x_189)
def spec_l16Others_l1_r (N : Nat) (x_1 : (List Int)) (x_2 : Int) : (List Int) → Int → (List Int) → Option ((List Int))
 | [], x_188, x_189 =>
 some x_189
 | hd :: tl, x_188, x_189 =>
 joinP (fun (v_209 : (List Int)) =>
 spec_l16Others_l1_r N x_1 x_2 tl (w64 (x_188 + (1 : Int))) v_209) fun j_209 =>
 (some hd).bind fun x_210 =>
 (if (x_210 != x_2) = true then
 (some hd).bind fun x_212 =>
 (cat? x_189 ([x_212] : List Int)).bind fun x_213 =>
 j_209 x_213
 else
 j_209 x_189)
theorem spec_l16Others_l1_rng (N : Nat) (x_1 : (List Int)) (x_2 : Int) (hx : x_1.length ≤ 1099511627776) : ∀ (d k m : Nat) (x_189 : (List Int)), x_1.length = k + d → d < m → spec_l16Others_l1 N x_1 x_2 m (k : Int) x_189 = spec_l16Others_l1_r N x_1 x_2 (x_1.drop k) (k : Int) x_189 := by
  intro d
  induction d with
  | zero =>
    intro k m x_189 hd hm
    obtain ⟨m, rfl⟩ : ∃ q, m = q + 1 := ⟨m - 1, by omega⟩
    rw [spec_l16Others_l1, if_neg (by simp; omega), List.drop_eq_nil_of_le (by omega), spec_l16Others_l1_r]
  | succ d ih =>
    intro k m x_189 hd hm
    obtain ⟨m, rfl⟩ : ∃ q, m = q + 1 := ⟨m - 1, by omega⟩
    have hk : k < x_1.length := by omega
    rw [spec_l16Others_l1, if_pos (by simp; omega), List.drop_eq_getElem_cons hk, spec_l16Others_l1_r]
    have h1 := at_lt hk
    have h2 := w64_succ (k := k) (by omega)
    have h3 := ih (k + 1) m
    simp only [h1, h2, h3 _ (by omega) (by omega)]
theorem spec_l16Others_l1_eq {N : Nat} (x_1 : (List Int)) (x_2 : Int) (hx : x_1.length ≤ 1099511627776) (hN : x_1.length < N) (x_189 : (List Int)) : spec_l16Others_l1 N x_1 x_2 N 0 x_189 = spec_l16Others_l1_r N x_1 x_2 x_1 0 x_189 := spec_l16Others_l1_rng N x_1 x_2 hx x_1.length 0 N x_189 (by omega) hN
def spec_l16Others (N : Nat) (x_1 : (List Int)) (x_2 : Int) : Option ((List Int)) :=
 joinP (fun (v_185 : (List Int)) =>
 some v_185) fun j_185 =>
 (spec_l16Others_l1 N x_1 x_2 N (0 : Int) ([] : List Int)).bind (fun (v_201 : (List Int)) => j_185 v_201)
theorem sem_spec_l16Others (N : Nat) (x_1 : (List Int)) (x_2 : Int) (r : (List Int)) (h : spec_l16Others N x_1 x_2 = some r) : Says Try.prog 132 [RO 3 (x_1.map encI), VI x_2] 0 [] (.sl 0 3 0 r.length) [(0, .vec 3 (r.map encI))] := by
  unfold spec_l16Others at h
  refine Says.of_run s132 Try.call132 rfl fun B hB => ?_
  have hm : B.m ≤ 1000 := by omega
  refine Run.seq ?_
  refine Run.ops hm ?_
  refine Ops.p rfl ?_
  refine Ops.nil ?_
  refine Run.seq ?_
  refine Run.ops hm ?_
  refine Ops.st (s := 5096) (Ev.bsW (ys := ([] : List Int)) (f := encI) rfl .nil rfl rfl rfl rfl rfl) rfl rfl ?_
  refine Ops.p rfl ?_
  refine Ops.nil ?_
  refine Run.seqO h (fun (v_185 : (List Int)) => [(5, .sl 0 3 0 v_185.length)]) (fun (v_185 : (List Int)) => [(0, .vec 3 (v_185.map encI))]) (fun h => ?_) (fun v_185 h => ?_)
  · skip
    refine Run.seq ?_
    refine Run.ops hm ?_
    refine Ops.p rfl ?_
    refine Ops.nil ?_
    refine Run.block ?_
    obtain ⟨res_201, h, hk_201⟩ := bindO h
    refine Run.loop (n := N) (fun m_201 fr σ => ∃ (x_188 : Int), ∃ (x_189 : (List Int)), spec_l16Others_l1 N x_1 x_2 m_201 x_188 x_189 = some res_201 ∧ fr = [(0, RO 3 (x_1.map encI)), (1, VI x_2), (5, .sl 0 3 0 x_189.length), (6, VI x_188)] ∧ σ = [(0, .vec 3 (x_189.map encI))]) (gh_pk [0, 1, 5, 6] [5096] hB rfl rfl rfl rfl) ⟨_, _, h, rfl, rfl⟩ ?_
    rintro m_201 fr σ ⟨x_188, x_189, h, rfl, rfl⟩
    obtain _ | m_201 := m_201
    · rw [spec_l16Others_l1] at h; cases h
    rw [spec_l16Others_l1] at h
    refine Run.seq ?_
    refine Run.seq ?_
    refine Run.ops hm ?_
    refine Ops.p rfl ?_
    refine Ops.p rfl ?_
    refine Ops.st (s := 13320) (Ev.lnF rfl) rfl rfl ?_
    refine Ops.p rfl ?_
    refine Ops.nil ?_
    refine Run.condO rfl h (fun g_204 h => ?_) (fun g_204 h => ?_)
    · skip
      refine Run.skip ?_
      refine Run.seqO h (fun (v_209 : (List Int)) => [(0, RO 3 (x_1.map encI)), (1, VI x_2), (5, .sl 0 3 0 v_209.length), (6, VI x_188)]) (fun (v_209 : (List Int)) => [(0, .vec 3 (v_209.map encI))]) (fun h => ?_) (fun v_209 h => ?_)
      · skip
        refine Run.block ?_
        refine Run.seq ?_
        refine Run.ops hm ?_
        refine Ops.p rfl ?_
        refine Ops.p rfl ?_
        obtain ⟨x_210, hx_210, h⟩ := bindO h
        refine Ops.st (s := 21512) (Ev.iaF rfl rfl hx_210) rfl rfl ?_
        refine Ops.p rfl ?_
        refine Ops.p rfl ?_
        refine Ops.p rfl ?_
        refine Ops.nil ?_
        refine Run.condO rfl h (fun g_211 h => ?_) (fun g_211 h => ?_)
        · skip
          refine Run.ops hm ?_
          refine Ops.p rfl ?_
          refine Ops.p rfl ?_
          refine Ops.p rfl ?_
          obtain ⟨x_212, hx_212, h⟩ := bindO h
          refine Ops.st (s := 25624) (Ev.iaF rfl rfl hx_212) rfl rfl ?_
          refine Ops.p rfl ?_
          refine Ops.st (s := 25656) (Ev.bsW (ys := ([x_212] : List Int)) (f := encI) rfl (.cons (.c _) .nil) rfl rfl rfl rfl rfl) rfl rfl ?_
          obtain ⟨x_213, hx_213, h⟩ := bindO h
          refine Ops.st (s := 25672) (Ev.apW (f := encI) (ontoW rfl rfl rfl) (addsW rfl rfl rfl (fun _ => rfl)) rfl bt3 rfl hx_213) rfl rfl ?_
          refine Ops.p rfl ?_
          refine Ops.nil ?_
          exact ⟨_, _, (gh_pk [0, 1, 5, 6] [25672] hB rfl rfl rfl rfl), x_213, h, rfl, rfl⟩
        · skip
          refine Run.skip ?_
          exact ⟨_, _, (gh_pk [0, 1, 5, 6] [0] hB rfl rfl rfl rfl), x_189, h, rfl, rfl⟩
      · skip
        refine Run.ops hm ?_
        refine Ops.p rfl ?_
        refine Ops.p rfl ?_
        refine Ops.p rfl ?_
        refine Ops.nil ?_
        exact ⟨m_201, Nat.lt_succ_self m_201, _, _, (gh_pk [0, 1, 5, 6] [0] hB rfl rfl rfl rfl), _, _, h, rfl, rfl⟩
    · skip
      refine Run.exit ?_
      obtain rfl := someO h
      have h := hk_201
      exact ⟨_, _, (gh_pk [5] [0] hB rfl rfl rfl rfl), x_189, h, rfl, rfl⟩
  · skip
    refine Run.seq ?_
    refine Run.ops hm ?_
    refine Ops.p rfl ?_
    refine Ops.p rfl ?_
    refine Ops.nil ?_
    refine Run.ret ?_
    obtain rfl := someO h
    exact Ends.mkG (.inl rfl) rfl (gh_pk [0] [0] hB rfl rfl rfl rfl) rfl rfl
def spec_NodeOk_l1 (N : Nat) (x_1 : Node) (y_320 : Int × Int) (v_347 : (List Int)) : Nat → Int → Option ((Bool) ⊕ (Unit))
 | 0, _ => none
 | m + 1, x_419 =>
 (if (decide (x_419 < ((v_347.length : Nat) : Int))) = true then
 (at? x_1.Peers x_419).bind fun x_473 =>
 (at? v_347 x_419).bind fun x_474 =>
 (if (x_473.Id != x_474) = true then
 some (Sum.inl false)
 else
 (spec_l01In N x_473.Next (1 : Int) (w64 (y_320.1 + (1 : Int)))).bind fun y_476 =>
 (if (!y_476) = true then
 some (Sum.inl false)
 else
 (spec_l01In N x_473.Match (0 : Int) (w64 (x_473.Next - (1 : Int)))).bind fun y_478 =>
 (if (!y_478) = true then
 some (Sum.inl false)
 else
 (spec_l01In N x_473.Sent (0 : Int) (20000 : Int)).bind fun y_480 =>
 (if (!y_480) = true then
 some (Sum.inl false)
 else
 spec_NodeOk_l1 N x_1 y_320 v_347 m (w64 (x_419 + (1 : Int)))))))
 else
 some (Sum.inr ()))
def spec_NodeOk (N : Nat) (x_1 : Node) : Option (Bool) :=
 (spec_l01In N x_1.Id (1 : Int) (4 : Int)).bind fun y_305 =>
 (if (!y_305) = true then
 some false
 else
 (spec_ConfOk N x_1.Conf).bind fun y_307 =>
 (if (!y_307) = true then
 some false
 else
 (spec_LogOk N x_1.Log).bind fun y_309 =>
 (if (!y_309) = true then
 some false
 else
 (spec_l01In N x_1.Term (0 : Int) (100000 : Int)).bind fun y_311 =>
 (if (!y_311) = true then
 some false
 else
 (spec_l01In N x_1.Vote (0 : Int) (4 : Int)).bind fun y_313 =>
 (if (!y_313) = true then
 some false
 else
 (spec_l01In N x_1.Lead (0 : Int) (4 : Int)).bind fun y_315 =>
 (if (!y_315) = true then
 some false
 else
 (spec_l01In N x_1.Role (0 : Int) (2 : Int)).bind fun y_317 =>
 (if (!y_317) = true then
 some false
 else
 (spec_LogLast N x_1.Log).bind fun y_320 =>
 joinP (fun (v_332 : Unit) =>
 joinP (fun (v_347 : (List Int)) =>
 (if ((x_1.Peers.length : Int) != ((v_347.length : Nat) : Int)) = true then
 some false
 else
 joinP (fun (v_417 : Unit) =>
 some true) fun j_417 =>
 (spec_NodeOk_l1 N x_1 y_320 v_347 N (0 : Int)).bind (Sum.elim (fun v_457 => some v_457) (fun (v_458 : Unit) => j_417 ())))) fun j_347 =>
 (if (x_1.Role == (2 : Int)) = true then
 (spec_ConfOf N x_1).bind fun y_349 =>
 (spec_l16Others N y_349 x_1.Id).bind fun y_350 =>
 j_347 y_350
 else
 j_347 ([] : List Int))) fun j_332 =>
 (if (decide (x_1.Term < y_320.2)) = true then
 some false
 else
 (spec_l01In N x_1.Commit x_1.Log.Start y_320.1).bind fun y_334 =>
 (if (!y_334) = true then
 some false
 else
 (spec_l01In N x_1.Clock (0 : Int) (20 : Int)).bind fun y_336 =>
 (if (!y_336) = true then
 some false
 else
 (spec_l01In N x_1.Limit (1 : Int) (20 : Int)).bind fun y_338 =>
 (if (!y_338) = true then
 some false
 else
 (spec_l07Rise N x_1.Votes (1 : Int) (4 : Int)).bind fun y_340 =>
 (if (!y_340) = true then
 some false
 else
 (if (decide ((x_1.Votes.length : Int) > (0 : Int))) = true then
 (if (x_1.Role != (1 : Int)) = true then
 some false
 else
 j_332 ())
 else
 j_332 ())))))))))))))
theorem sem_spec_NodeOk (N : Nat) (x_1 : Node) (r : Bool) (h : spec_NodeOk N x_1 = some r) : Says Try.prog 64 [.agg [VI x_1.Id, VI x_1.Term, VI x_1.Vote, VI x_1.Role, VI x_1.Lead, RO 3 (x_1.Conf.map encI), VI x_1.Log.Start, VI x_1.Log.StartTerm, RO 48 (x_1.Log.Entries.map encEntry), VI x_1.Commit, VI x_1.Clock, VI x_1.Limit, RO 3 (x_1.Votes.map encI), RO 172 (x_1.Peers.map encPeer)]] 0 [] (VB r) [] := by
  unfold spec_NodeOk at h
  refine Says.of_run s64 Try.call64 rfl fun B hB => ?_
  have hm : B.m ≤ 1000 := by omega
  refine Run.seq ?_
  refine Run.ops hm ?_
  refine Ops.st (s := 1000) (.bx rfl rfl) rfl rfl ?_
  refine Ops.p rfl ?_
  refine Ops.nil ?_
  refine Run.seq ?_
  refine Run.seq ?_
  refine Run.ops hm ?_
  refine Ops.p rfl ?_
  refine Ops.p rfl ?_
  obtain ⟨y_305, hy_305, h⟩ := bindO h
  refine Ops.st (s := 5128) (Ev.call [] [] 0 (sem_spec_l01In N x_1.Id (1 : Int) (4 : Int) _ hy_305) rfl rfl (.cons (.c _) (.cons (.c _) (.cons (.c _) .nil))) rfl (.inl rfl) rfl rfl) rfl rfl ?_
  refine Ops.p rfl ?_
  refine Ops.p rfl ?_
  refine Ops.askO (x := .t 12) rfl h (fun g_306 h => ?_) (fun g_306 h => ?_)
  · skip
    refine Ops.gn rfl g_306 ?_
    refine Ops.gn rfl g_306 ?_
    refine Ops.gn rfl g_306 ?_
    refine Ops.gn rfl g_306 ?_
    refine Ops.st (s := 5240) (.pkT rfl g_306 rfl) rfl rfl ?_
    refine Ops.p rfl ?_
    refine Ops.gn rfl rfl ?_
    refine Ops.gn rfl rfl ?_
    refine Ops.gn rfl rfl ?_
    refine Ops.gn rfl rfl ?_
    refine Ops.st (s := 5336) (.pkT rfl rfl rfl) rfl rfl ?_
    refine Ops.p rfl ?_
    refine Ops.gn rfl rfl ?_
    refine Ops.gn rfl rfl ?_
    refine Ops.gn rfl rfl ?_
    refine Ops.gn rfl rfl ?_
    refine Ops.st (s := 5432) (.pkT rfl rfl rfl) rfl rfl ?_
    refine Ops.p rfl ?_
    refine Ops.gn rfl rfl ?_
    refine Ops.gn rfl rfl ?_
    refine Ops.gn rfl rfl ?_
    refine Ops.gn rfl rfl ?_
    refine Ops.st (s := 5528) (.pkT rfl rfl rfl) rfl rfl ?_
    refine Ops.p rfl ?_
    refine Ops.gn rfl rfl ?_
    refine Ops.gn rfl rfl ?_
    refine Ops.gn rfl rfl ?_
    refine Ops.gn rfl rfl ?_
    refine Ops.st (s := 5624) (.pkT rfl rfl rfl) rfl rfl ?_
    refine Ops.p rfl ?_
    refine Ops.gn rfl rfl ?_
    refine Ops.gn rfl rfl ?_
    refine Ops.gn rfl rfl ?_
    refine Ops.gn rfl rfl ?_
    refine Ops.st (s := 5720) (.pkT rfl rfl rfl) rfl rfl ?_
    refine Ops.nil ?_
    refine Run.condT rfl rfl ?_
    refine Run.seq ?_
    refine Run.ops hm ?_
    refine Ops.p rfl ?_
    refine Ops.nil ?_
    refine Run.ret ?_
    obtain rfl := someO h
    exact Ends.mkG (.inl rfl) rfl (gh_pk [0] [] hB rfl rfl rfl rfl) rfl rfl
  · skip
    refine Ops.gp rfl g_306 rfl ?_
    refine Ops.gp rfl g_306 rfl ?_
    obtain ⟨y_307, hy_307, h⟩ := bindO h
    refine Ops.gs (s := 5208) rfl g_306 (Ev.call [] [] 0 (sem_spec_ConfOk N x_1.Conf _ hy_307) rfl rfl (.cons (.c _) .nil) rfl (.inl rfl) rfl rfl) rfl rfl ?_
    refine Ops.gp rfl g_306 rfl ?_
    refine Ops.st (s := 5240) (.pkF rfl g_306 rfl) rfl rfl ?_
    refine Ops.p rfl ?_
    refine Ops.askO (x := .t 18) rfl h (fun g_308 h => ?_) (fun g_308 h => ?_)
    · skip
      refine Ops.gn rfl g_308 ?_
      refine Ops.gn rfl g_308 ?_
      refine Ops.gn rfl g_308 ?_
      refine Ops.gn rfl g_308 ?_
      refine Ops.st (s := 5336) (.pkT rfl g_308 rfl) rfl rfl ?_
      refine Ops.p rfl ?_
      refine Ops.gn rfl rfl ?_
      refine Ops.gn rfl rfl ?_
      refine Ops.gn rfl rfl ?_
      refine Ops.gn rfl rfl ?_
      refine Ops.st (s := 5432) (.pkT rfl rfl rfl) rfl rfl ?_
      refine Ops.p rfl ?_
      refine Ops.gn rfl rfl ?_
      refine Ops.gn rfl rfl ?_
      refine Ops.gn rfl rfl ?_
      refine Ops.gn rfl rfl ?_
      refine Ops.st (s := 5528) (.pkT rfl rfl rfl) rfl rfl ?_
      refine Ops.p rfl ?_
      refine Ops.gn rfl rfl ?_
      refine Ops.gn rfl rfl ?_
      refine Ops.gn rfl rfl ?_
      refine Ops.gn rfl rfl ?_
      refine Ops.st (s := 5624) (.pkT rfl rfl rfl) rfl rfl ?_
      refine Ops.p rfl ?_
      refine Ops.gn rfl rfl ?_
      refine Ops.gn rfl rfl ?_
      refine Ops.gn rfl rfl ?_
      refine Ops.gn rfl rfl ?_
      refine Ops.st (s := 5720) (.pkT rfl rfl rfl) rfl rfl ?_
      refine Ops.nil ?_
      refine Run.condT rfl rfl ?_
      refine Run.seq ?_
      refine Run.ops hm ?_
      refine Ops.p rfl ?_
      refine Ops.nil ?_
      refine Run.ret ?_
      obtain rfl := someO h
      exact Ends.mkG (.inl rfl) rfl (gh_pk [0] [] hB rfl rfl rfl rfl) rfl rfl
    · skip
      refine Ops.gp rfl g_308 rfl ?_
      refine Ops.gp rfl g_308 rfl ?_
      obtain ⟨y_309, hy_309, h⟩ := bindO h
      refine Ops.gs (s := 5304) rfl g_308 (Ev.call [] [] 0 (sem_spec_LogOk N x_1.Log _ hy_309) rfl rfl (.cons (.agg (.cons (.c _) (.cons (.c _) (.cons (.c _) .nil)))) .nil) rfl (.inl rfl) rfl rfl) rfl rfl ?_
      refine Ops.gp rfl g_308 rfl ?_
      refine Ops.st (s := 5336) (.pkF rfl g_308 rfl) rfl rfl ?_
      refine Ops.p rfl ?_
      refine Ops.askO (x := .t 24) rfl h (fun g_310 h => ?_) (fun g_310 h => ?_)
      · skip
        refine Ops.gn rfl g_310 ?_
        refine Ops.gn rfl g_310 ?_
        refine Ops.gn rfl g_310 ?_
        refine Ops.gn rfl g_310 ?_
        refine Ops.st (s := 5432) (.pkT rfl g_310 rfl) rfl rfl ?_
        refine Ops.p rfl ?_
        refine Ops.gn rfl rfl ?_
        refine Ops.gn rfl rfl ?_
        refine Ops.gn rfl rfl ?_
        refine Ops.gn rfl rfl ?_
        refine Ops.st (s := 5528) (.pkT rfl rfl rfl) rfl rfl ?_
        refine Ops.p rfl ?_
        refine Ops.gn rfl rfl ?_
        refine Ops.gn rfl rfl ?_
        refine Ops.gn rfl rfl ?_
        refine Ops.gn rfl rfl ?_
        refine Ops.st (s := 5624) (.pkT rfl rfl rfl) rfl rfl ?_
        refine Ops.p rfl ?_
        refine Ops.gn rfl rfl ?_
        refine Ops.gn rfl rfl ?_
        refine Ops.gn rfl rfl ?_
        refine Ops.gn rfl rfl ?_
        refine Ops.st (s := 5720) (.pkT rfl rfl rfl) rfl rfl ?_
        refine Ops.nil ?_
        refine Run.condT rfl rfl ?_
        refine Run.seq ?_
        refine Run.ops hm ?_
        refine Ops.p rfl ?_
        refine Ops.nil ?_
        refine Run.ret ?_
        obtain rfl := someO h
        exact Ends.mkG (.inl rfl) rfl (gh_pk [0] [] hB rfl rfl rfl rfl) rfl rfl
      · skip
        refine Ops.gp rfl g_310 rfl ?_
        refine Ops.gp rfl g_310 rfl ?_
        obtain ⟨y_311, hy_311, h⟩ := bindO h
        refine Ops.gs (s := 5400) rfl g_310 (Ev.call [] [] 0 (sem_spec_l01In N x_1.Term (0 : Int) (100000 : Int) _ hy_311) rfl rfl (.cons (.c _) (.cons (.c _) (.cons (.c _) .nil))) rfl (.inl rfl) rfl rfl) rfl rfl ?_
        refine Ops.gp rfl g_310 rfl ?_
        refine Ops.st (s := 5432) (.pkF rfl g_310 rfl) rfl rfl ?_
        refine Ops.p rfl ?_
        refine Ops.askO (x := .t 30) rfl h (fun g_312 h => ?_) (fun g_312 h => ?_)
        · skip
          refine Ops.gn rfl g_312 ?_
          refine Ops.gn rfl g_312 ?_
          refine Ops.gn rfl g_312 ?_
          refine Ops.gn rfl g_312 ?_
          refine Ops.st (s := 5528) (.pkT rfl g_312 rfl) rfl rfl ?_
          refine Ops.p rfl ?_
          refine Ops.gn rfl rfl ?_
          refine Ops.gn rfl rfl ?_
          refine Ops.gn rfl rfl ?_
          refine Ops.gn rfl rfl ?_
          refine Ops.st (s := 5624) (.pkT rfl rfl rfl) rfl rfl ?_
          refine Ops.p rfl ?_
          refine Ops.gn rfl rfl ?_
          refine Ops.gn rfl rfl ?_
          refine Ops.gn rfl rfl ?_
          refine Ops.gn rfl rfl ?_
          refine Ops.st (s := 5720) (.pkT rfl rfl rfl) rfl rfl ?_
          refine Ops.nil ?_
          refine Run.condT rfl rfl ?_
          refine Run.seq ?_
          refine Run.ops hm ?_
          refine Ops.p rfl ?_
          refine Ops.nil ?_
          refine Run.ret ?_
          obtain rfl := someO h
          exact Ends.mkG (.inl rfl) rfl (gh_pk [0] [] hB rfl rfl rfl rfl) rfl rfl
        · skip
          refine Ops.gp rfl g_312 rfl ?_
          refine Ops.gp rfl g_312 rfl ?_
          obtain ⟨y_313, hy_313, h⟩ := bindO h
          refine Ops.gs (s := 5496) rfl g_312 (Ev.call [] [] 0 (sem_spec_l01In N x_1.Vote (0 : Int) (4 : Int) _ hy_313) rfl rfl (.cons (.c _) (.cons (.c _) (.cons (.c _) .nil))) rfl (.inl rfl) rfl rfl) rfl rfl ?_
          refine Ops.gp rfl g_312 rfl ?_
          refine Ops.st (s := 5528) (.pkF rfl g_312 rfl) rfl rfl ?_
          refine Ops.p rfl ?_
          refine Ops.askO (x := .t 36) rfl h (fun g_314 h => ?_) (fun g_314 h => ?_)
          · skip
            refine Ops.gn rfl g_314 ?_
            refine Ops.gn rfl g_314 ?_
            refine Ops.gn rfl g_314 ?_
            refine Ops.gn rfl g_314 ?_
            refine Ops.st (s := 5624) (.pkT rfl g_314 rfl) rfl rfl ?_
            refine Ops.p rfl ?_
            refine Ops.gn rfl rfl ?_
            refine Ops.gn rfl rfl ?_
            refine Ops.gn rfl rfl ?_
            refine Ops.gn rfl rfl ?_
            refine Ops.st (s := 5720) (.pkT rfl rfl rfl) rfl rfl ?_
            refine Ops.nil ?_
            refine Run.condT rfl rfl ?_
            refine Run.seq ?_
            refine Run.ops hm ?_
            refine Ops.p rfl ?_
            refine Ops.nil ?_
            refine Run.ret ?_
            obtain rfl := someO h
            exact Ends.mkG (.inl rfl) rfl (gh_pk [0] [] hB rfl rfl rfl rfl) rfl rfl
          · skip
            refine Ops.gp rfl g_314 rfl ?_
            refine Ops.gp rfl g_314 rfl ?_
            obtain ⟨y_315, hy_315, h⟩ := bindO h
            refine Ops.gs (s := 5592) rfl g_314 (Ev.call [] [] 0 (sem_spec_l01In N x_1.Lead (0 : Int) (4 : Int) _ hy_315) rfl rfl (.cons (.c _) (.cons (.c _) (.cons (.c _) .nil))) rfl (.inl rfl) rfl rfl) rfl rfl ?_
            refine Ops.gp rfl g_314 rfl ?_
            refine Ops.st (s := 5624) (.pkF rfl g_314 rfl) rfl rfl ?_
            refine Ops.p rfl ?_
            refine Ops.askO (x := .t 42) rfl h (fun g_316 h => ?_) (fun g_316 h => ?_)
            · skip
              refine Ops.gn rfl g_316 ?_
              refine Ops.gn rfl g_316 ?_
              refine Ops.gn rfl g_316 ?_
              refine Ops.gn rfl g_316 ?_
              refine Ops.st (s := 5720) (.pkT rfl g_316 rfl) rfl rfl ?_
              refine Ops.nil ?_
              refine Run.condT rfl rfl ?_
              refine Run.seq ?_
              refine Run.ops hm ?_
              refine Ops.p rfl ?_
              refine Ops.nil ?_
              refine Run.ret ?_
              obtain rfl := someO h
              exact Ends.mkG (.inl rfl) rfl (gh_pk [0] [] hB rfl rfl rfl rfl) rfl rfl
            · skip
              refine Ops.gp rfl g_316 rfl ?_
              refine Ops.gp rfl g_316 rfl ?_
              obtain ⟨y_317, hy_317, h⟩ := bindO h
              refine Ops.gs (s := 5688) rfl g_316 (Ev.call [] [] 0 (sem_spec_l01In N x_1.Role (0 : Int) (2 : Int) _ hy_317) rfl rfl (.cons (.c _) (.cons (.c _) (.cons (.c _) .nil))) rfl (.inl rfl) rfl rfl) rfl rfl ?_
              refine Ops.gp rfl g_316 rfl ?_
              refine Ops.st (s := 5720) (.pkF rfl g_316 rfl) rfl rfl ?_
              refine Ops.nil ?_
              refine Run.condO rfl h (fun g_318 h => ?_) (fun g_318 h => ?_)
              · skip
                refine Run.seq ?_
                refine Run.ops hm ?_
                refine Ops.p rfl ?_
                refine Ops.nil ?_
                refine Run.ret ?_
                obtain rfl := someO h
                exact Ends.mkG (.inl rfl) rfl (gh_pk [0] [] hB rfl rfl rfl rfl) rfl rfl
              · skip
                refine Run.skip ?_
                refine Run.seq ?_
                refine Run.ops hm ?_
                refine Ops.p rfl ?_
                refine Ops.p rfl ?_
                obtain ⟨y_320, hy_320, h⟩ := bindO h
                refine Ops.st (s := 13320) (Ev.call [] [] 0 (sem_spec_LogLast N x_1.Log _ hy_320) rfl rfl (.cons (.agg (.cons (.c _) (.cons (.c _) (.cons (.c _) .nil)))) .nil) rfl (.inl rfl) rfl rfl) rfl rfl ?_
                refine Ops.p rfl ?_
                refine Ops.p rfl ?_
                refine Ops.p rfl ?_
                refine Ops.p rfl ?_
                refine Ops.p rfl ?_
                refine Ops.nil ?_
                refine Run.seqO h (fun (v_332 : Unit) => [(1, .ptr 0 0), (3, VI y_320.1)]) (fun (v_332 : Unit) => [(0, .box [VI x_1.Id, VI x_1.Term, VI x_1.Vote, VI x_1.Role, VI x_1.Lead, RO 3 (x_1.Conf.map encI), VI x_1.Log.Start, VI x_1.Log.StartTerm, RO 48 (x_1.Log.Entries.map encEntry), VI x_1.Commit, VI x_1.Clock, VI x_1.Limit, RO 3 (x_1.Votes.map encI), RO 172 (x_1.Peers.map encPeer)])]) (fun h => ?_) (fun v_332 h => ?_)
                · skip
                  refine Run.seq ?_
                  refine Run.ops hm ?_
                  refine Ops.p rfl ?_
                  refine Ops.p rfl ?_
                  refine Ops.p rfl ?_
                  refine Ops.p rfl ?_
                  refine Ops.p rfl ?_
                  refine Ops.askO (x := .t 58) rfl h (fun g_333 h => ?_) (fun g_333 h => ?_)
                  · skip
                    refine Ops.gn rfl g_333 ?_
                    refine Ops.gn rfl g_333 ?_
                    refine Ops.gn rfl g_333 ?_
                    refine Ops.gn rfl g_333 ?_
                    refine Ops.gn rfl g_333 ?_
                    refine Ops.gn rfl g_333 ?_
                    refine Ops.gn rfl g_333 ?_
                    refine Ops.gn rfl g_333 ?_
                    refine Ops.st (s := 17592) (.pkT rfl g_333 rfl) rfl rfl ?_
                    refine Ops.p rfl ?_
                    refine Ops.gn rfl rfl ?_
                    refine Ops.gn rfl rfl ?_
                    refine Ops.gn rfl rfl ?_
                    refine Ops.gn rfl rfl ?_
                    refine Ops.st (s := 17688) (.pkT rfl rfl rfl) rfl rfl ?_
                    refine Ops.p rfl ?_
                    refine Ops.gn rfl rfl ?_
                    refine Ops.gn rfl rfl ?_
                    refine Ops.gn rfl rfl ?_
                    refine Ops.gn rfl rfl ?_
                    refine Ops.st (s := 17784) (.pkT rfl rfl rfl) rfl rfl ?_
                    refine Ops.p rfl ?_
                    refine Ops.gn rfl rfl ?_
                    refine Ops.gn rfl rfl ?_
                    refine Ops.gn rfl rfl ?_
                    refine Ops.gn rfl rfl ?_
                    refine Ops.st (s := 17880) (.pkT rfl rfl rfl) rfl rfl ?_
                    refine Ops.p rfl ?_
                    refine Ops.gn rfl rfl ?_
                    refine Ops.gn rfl rfl ?_
                    refine Ops.gn rfl rfl ?_
                    refine Ops.gn rfl rfl ?_
                    refine Ops.gn rfl rfl ?_
                    refine Ops.gu rfl ?_
                    refine Ops.gu rfl ?_
                    refine Ops.gu rfl ?_
                    refine Ops.gn rfl rfl ?_
                    refine Ops.st (s := 18056) (.pkT rfl rfl rfl) rfl rfl ?_
                    refine Ops.nil ?_
                    refine Run.condT rfl rfl ?_
                    refine Run.seq ?_
                    refine Run.ops hm ?_
                    refine Ops.p rfl ?_
                    refine Ops.nil ?_
                    refine Run.ret ?_
                    obtain rfl := someO h
                    exact Ends.mkG (.inl rfl) rfl (gh_pk [0] [] hB rfl rfl rfl rfl) rfl rfl
                  · skip
                    refine Ops.gp rfl g_333 rfl ?_
                    refine Ops.gp rfl g_333 rfl ?_
                    refine Ops.gp rfl g_333 rfl ?_
                    refine Ops.gp rfl g_333 rfl ?_
                    refine Ops.gp rfl g_333 rfl ?_
                    refine Ops.gp rfl g_333 rfl ?_
                    obtain ⟨y_334, hy_334, h⟩ := bindO h
                    refine Ops.gs (s := 17560) rfl g_333 (Ev.call [] [] 0 (sem_spec_l01In N x_1.Commit x_1.Log.Start y_320.1 _ hy_334) rfl rfl (.cons (.c _) (.cons (.c _) (.cons (.c _) .nil))) rfl (.inl rfl) rfl rfl) rfl rfl ?_
                    refine Ops.gp rfl g_333 rfl ?_
                    refine Ops.st (s := 17592) (.pkF rfl g_333 rfl) rfl rfl ?_
                    refine Ops.p rfl ?_
                    refine Ops.askO (x := .t 68) rfl h (fun g_335 h => ?_) (fun g_335 h => ?_)
                    · skip
                      refine Ops.gn rfl g_335 ?_
                      refine Ops.gn rfl g_335 ?_
                      refine Ops.gn rfl g_335 ?_
                      refine Ops.gn rfl g_335 ?_
                      refine Ops.st (s := 17688) (.pkT rfl g_335 rfl) rfl rfl ?_
                      refine Ops.p rfl ?_
                      refine Ops.gn rfl rfl ?_
                      refine Ops.gn rfl rfl ?_
                      refine Ops.gn rfl rfl ?_
                      refine Ops.gn rfl rfl ?_
                      refine Ops.st (s := 17784) (.pkT rfl rfl rfl) rfl rfl ?_
                      refine Ops.p rfl ?_
                      refine Ops.gn rfl rfl ?_
                      refine Ops.gn rfl rfl ?_
                      refine Ops.gn rfl rfl ?_
                      refine Ops.gn rfl rfl ?_
                      refine Ops.st (s := 17880) (.pkT rfl rfl rfl) rfl rfl ?_
                      refine Ops.p rfl ?_
                      refine Ops.gn rfl rfl ?_
                      refine Ops.gn rfl rfl ?_
                      refine Ops.gn rfl rfl ?_
                      refine Ops.gn rfl rfl ?_
                      refine Ops.gn rfl rfl ?_
                      refine Ops.gu rfl ?_
                      refine Ops.gu rfl ?_
                      refine Ops.gu rfl ?_
                      refine Ops.gn rfl rfl ?_
                      refine Ops.st (s := 18056) (.pkT rfl rfl rfl) rfl rfl ?_
                      refine Ops.nil ?_
                      refine Run.condT rfl rfl ?_
                      refine Run.seq ?_
                      refine Run.ops hm ?_
                      refine Ops.p rfl ?_
                      refine Ops.nil ?_
                      refine Run.ret ?_
                      obtain rfl := someO h
                      exact Ends.mkG (.inl rfl) rfl (gh_pk [0] [] hB rfl rfl rfl rfl) rfl rfl
                    · skip
                      refine Ops.gp rfl g_335 rfl ?_
                      refine Ops.gp rfl g_335 rfl ?_
                      obtain ⟨y_336, hy_336, h⟩ := bindO h
                      refine Ops.gs (s := 17656) rfl g_335 (Ev.call [] [] 0 (sem_spec_l01In N x_1.Clock (0 : Int) (20 : Int) _ hy_336) rfl rfl (.cons (.c _) (.cons (.c _) (.cons (.c _) .nil))) rfl (.inl rfl) rfl rfl) rfl rfl ?_
                      refine Ops.gp rfl g_335 rfl ?_
                      refine Ops.st (s := 17688) (.pkF rfl g_335 rfl) rfl rfl ?_
                      refine Ops.p rfl ?_
                      refine Ops.askO (x := .t 74) rfl h (fun g_337 h => ?_) (fun g_337 h => ?_)
                      · skip
                        refine Ops.gn rfl g_337 ?_
                        refine Ops.gn rfl g_337 ?_
                        refine Ops.gn rfl g_337 ?_
                        refine Ops.gn rfl g_337 ?_
                        refine Ops.st (s := 17784) (.pkT rfl g_337 rfl) rfl rfl ?_
                        refine Ops.p rfl ?_
                        refine Ops.gn rfl rfl ?_
                        refine Ops.gn rfl rfl ?_
                        refine Ops.gn rfl rfl ?_
                        refine Ops.gn rfl rfl ?_
                        refine Ops.st (s := 17880) (.pkT rfl rfl rfl) rfl rfl ?_
                        refine Ops.p rfl ?_
                        refine Ops.gn rfl rfl ?_
                        refine Ops.gn rfl rfl ?_
                        refine Ops.gn rfl rfl ?_
                        refine Ops.gn rfl rfl ?_
                        refine Ops.gn rfl rfl ?_
                        refine Ops.gu rfl ?_
                        refine Ops.gu rfl ?_
                        refine Ops.gu rfl ?_
                        refine Ops.gn rfl rfl ?_
                        refine Ops.st (s := 18056) (.pkT rfl rfl rfl) rfl rfl ?_
                        refine Ops.nil ?_
                        refine Run.condT rfl rfl ?_
                        refine Run.seq ?_
                        refine Run.ops hm ?_
                        refine Ops.p rfl ?_
                        refine Ops.nil ?_
                        refine Run.ret ?_
                        obtain rfl := someO h
                        exact Ends.mkG (.inl rfl) rfl (gh_pk [0] [] hB rfl rfl rfl rfl) rfl rfl
                      · skip
                        refine Ops.gp rfl g_337 rfl ?_
                        refine Ops.gp rfl g_337 rfl ?_
                        obtain ⟨y_338, hy_338, h⟩ := bindO h
                        refine Ops.gs (s := 17752) rfl g_337 (Ev.call [] [] 0 (sem_spec_l01In N x_1.Limit (1 : Int) (20 : Int) _ hy_338) rfl rfl (.cons (.c _) (.cons (.c _) (.cons (.c _) .nil))) rfl (.inl rfl) rfl rfl) rfl rfl ?_
                        refine Ops.gp rfl g_337 rfl ?_
                        refine Ops.st (s := 17784) (.pkF rfl g_337 rfl) rfl rfl ?_
                        refine Ops.p rfl ?_
                        refine Ops.askO (x := .t 80) rfl h (fun g_339 h => ?_) (fun g_339 h => ?_)
                        · skip
                          refine Ops.gn rfl g_339 ?_
                          refine Ops.gn rfl g_339 ?_
                          refine Ops.gn rfl g_339 ?_
                          refine Ops.gn rfl g_339 ?_
                          refine Ops.st (s := 17880) (.pkT rfl g_339 rfl) rfl rfl ?_
                          refine Ops.p rfl ?_
                          refine Ops.gn rfl rfl ?_
                          refine Ops.gn rfl rfl ?_
                          refine Ops.gn rfl rfl ?_
                          refine Ops.gn rfl rfl ?_
                          refine Ops.gn rfl rfl ?_
                          refine Ops.gu rfl ?_
                          refine Ops.gu rfl ?_
                          refine Ops.gu rfl ?_
                          refine Ops.gn rfl rfl ?_
                          refine Ops.st (s := 18056) (.pkT rfl rfl rfl) rfl rfl ?_
                          refine Ops.nil ?_
                          refine Run.condT rfl rfl ?_
                          refine Run.seq ?_
                          refine Run.ops hm ?_
                          refine Ops.p rfl ?_
                          refine Ops.nil ?_
                          refine Run.ret ?_
                          obtain rfl := someO h
                          exact Ends.mkG (.inl rfl) rfl (gh_pk [0] [] hB rfl rfl rfl rfl) rfl rfl
                        · skip
                          refine Ops.gp rfl g_339 rfl ?_
                          refine Ops.gp rfl g_339 rfl ?_
                          obtain ⟨y_340, hy_340, h⟩ := bindO h
                          refine Ops.gs (s := 17848) rfl g_339 (Ev.call [] [] 0 (sem_spec_l07Rise N x_1.Votes (1 : Int) (4 : Int) _ hy_340) rfl rfl (.cons (.c _) (.cons (.c _) (.cons (.c _) .nil))) rfl (.inl rfl) rfl rfl) rfl rfl ?_
                          refine Ops.gp rfl g_339 rfl ?_
                          refine Ops.st (s := 17880) (.pkF rfl g_339 rfl) rfl rfl ?_
                          refine Ops.p rfl ?_
                          refine Ops.askO (x := .t 86) rfl h (fun g_341 h => ?_) (fun g_341 h => ?_)
                          · skip
                            refine Ops.gn rfl g_341 ?_
                            refine Ops.gn rfl g_341 ?_
                            refine Ops.gn rfl g_341 ?_
                            refine Ops.gn rfl g_341 ?_
                            refine Ops.gn rfl g_341 ?_
                            refine Ops.gu rfl ?_
                            refine Ops.gu rfl ?_
                            refine Ops.gu rfl ?_
                            refine Ops.gn rfl g_341 ?_
                            refine Ops.st (s := 18056) (.pkT rfl g_341 rfl) rfl rfl ?_
                            refine Ops.nil ?_
                            refine Run.condT rfl rfl ?_
                            refine Run.seq ?_
                            refine Run.ops hm ?_
                            refine Ops.p rfl ?_
                            refine Ops.nil ?_
                            refine Run.ret ?_
                            obtain rfl := someO h
                            exact Ends.mkG (.inl rfl) rfl (gh_pk [0] [] hB rfl rfl rfl rfl) rfl rfl
                          · skip
                            refine Ops.gp rfl g_341 rfl ?_
                            refine Ops.gp rfl g_341 rfl ?_
                            refine Ops.gs (s := 17944) rfl g_341 (Ev.lnF rfl) rfl rfl ?_
                            refine Ops.gp rfl g_341 rfl ?_
                            refine Ops.gp rfl g_341 rfl ?_
                            refine Ops.askO (x := .t 91) rfl h (fun g_342 h => ?_) (fun g_342 h => ?_)
                            · skip
                              refine Ops.gp rfl g_342 rfl ?_
                              refine Ops.gp rfl g_342 rfl ?_
                              refine Ops.gp rfl g_342 rfl ?_
                              refine Ops.gs (s := 18040) rfl g_341 (.pkT rfl g_342 rfl) rfl rfl ?_
                              refine Ops.st (s := 18056) (.pkF rfl g_341 rfl) rfl rfl ?_
                              refine Ops.nil ?_
                              refine Run.condO rfl h (fun g_343 h => ?_) (fun g_343 h => ?_)
                              · skip
                                refine Run.seq ?_
                                refine Run.ops hm ?_
                                refine Ops.p rfl ?_
                                refine Ops.nil ?_
                                refine Run.ret ?_
                                obtain rfl := someO h
                                exact Ends.mkG (.inl rfl) rfl (gh_pk [0] [] hB rfl rfl rfl rfl) rfl rfl
                              · skip
                                refine Run.skip ?_
                                exact ⟨_, _, (gh_pk [1, 3] [1000] hB rfl rfl rfl rfl), (), h, rfl, rfl⟩
                            · skip
                              refine Ops.gn rfl g_342 ?_
                              refine Ops.gn rfl g_342 ?_
                              refine Ops.gn rfl g_342 ?_
                              refine Ops.gs (s := 18040) rfl g_341 (.pkF rfl g_342 rfl) rfl rfl ?_
                              refine Ops.st (s := 18056) (.pkF rfl g_341 rfl) rfl rfl ?_
                              refine Ops.nil ?_
                              refine Run.condF rfl rfl ?_
                              refine Run.skip ?_
                              exact ⟨_, _, (gh_pk [1, 3] [1000] hB rfl rfl rfl rfl), (), h, rfl, rfl⟩
                · skip
                  refine Run.seq ?_
                  refine Run.ops hm ?_
                  refine Ops.st (s := 25576) (Ev.bsW (ys := ([] : List Int)) (f := encI) rfl .nil rfl rfl rfl rfl rfl) rfl rfl ?_
                  refine Ops.p rfl ?_
                  refine Ops.nil ?_
                  refine Run.seqO h (fun (v_347 : (List Int)) => [(1, .ptr 0 0), (3, VI y_320.1), (5, .sl 1 3 0 v_347.length)]) (fun (v_347 : (List Int)) => [(0, .box [VI x_1.Id, VI x_1.Term, VI x_1.Vote, VI x_1.Role, VI x_1.Lead, RO 3 (x_1.Conf.map encI), VI x_1.Log.Start, VI x_1.Log.StartTerm, RO 48 (x_1.Log.Entries.map encEntry), VI x_1.Commit, VI x_1.Clock, VI x_1.Limit, RO 3 (x_1.Votes.map encI), RO 172 (x_1.Peers.map encPeer)]), (1, .vec 3 (v_347.map encI))]) (fun h => ?_) (fun v_347 h => ?_)
                  · skip
                    refine Run.seq ?_
                    refine Run.ops hm ?_
                    refine Ops.p rfl ?_
                    refine Ops.p rfl ?_
                    refine Ops.p rfl ?_
                    refine Ops.nil ?_
                    refine Run.condO rfl h (fun g_348 h => ?_) (fun g_348 h => ?_)
                    · skip
                      refine Run.draw hm hmix ?_
                      refine OpsD.p rfl ?_
                      obtain ⟨y_349, hy_349, h⟩ := bindO h
                      refine OpsD.st (s := 33784) (Ev.call [] [] 1 (sem_spec_ConfOf N x_1 _ hy_349) rfl rfl (.cons (.agg (.cons (.c _) (.cons (.c _) (.cons (.c _) (.cons (.c _) (.cons (.c _) (.cons (.c _) (.cons (.c _) (.cons (.c _) (.cons (.c _) (.cons (.c _) (.cons (.c _) (.cons (.c _) (.cons (.c _) (.cons (.c _) .nil))))))))))))))) .nil) rfl (.inl rfl) rfl rfl) rfl rfl ?_
                      refine OpsD.p rfl ?_
                      refine OpsD.p rfl ?_
                      obtain ⟨y_350, hy_350, h⟩ := bindO h
                      refine OpsD.st (s := 33832) (Ev.call [] [33784] 1 (sem_spec_l16Others N y_349 x_1.Id _ hy_350) rfl rfl (.cons (.borrow rfl (by decide) (lendW (fun _ => rfl) _ rfl)) (.cons (.c _) .nil)) rfl (.inr ⟨rfl, ownL_root ⟨own_rows (fun _ => rfl) _, trivial⟩⟩) rfl rfl) rfl rfl ?_
                      refine OpsD.p rfl ?_
                      refine OpsD.nil ⟨by kernel_rfl, ?_⟩
                      exact ⟨_, _, (gh_pk [1, 3, 5] [0, 33832] hB rfl rfl rfl rfl), y_350, h, rfl, rfl⟩
                    · skip
                      refine Run.skip ?_
                      exact ⟨_, _, (gh_pk [1, 3, 5] [0, 25576] hB rfl rfl rfl rfl), ([] : List Int), h, rfl, rfl⟩
                  · skip
                    refine Run.seq ?_
                    refine Run.seq ?_
                    refine Run.ops hm ?_
                    refine Ops.p rfl ?_
                    refine Ops.p rfl ?_
                    refine Ops.st (s := 37896) (Ev.lnF rfl) rfl rfl ?_
                    refine Ops.p rfl ?_
                    refine Ops.p rfl ?_
                    refine Ops.p rfl ?_
                    refine Ops.nil ?_
                    refine Run.condO rfl h (fun g_352 h => ?_) (fun g_352 h => ?_)
                    · skip
                      refine Run.seq ?_
                      refine Run.ops hm ?_
                      refine Ops.p rfl ?_
                      refine Ops.nil ?_
                      refine Run.ret ?_
                      obtain rfl := someO h
                      exact Ends.mkG (.inl rfl) rfl (gh_pk [0] [] hB rfl rfl rfl rfl) rfl rfl
                    · skip
                      refine Run.skip ?_
                      refine Run.seqO h (fun (v_417 : Unit) => []) (fun (v_417 : Unit) => []) (fun h => ?_) (fun v_417 h => ?_)
                      · skip
                        refine Run.seq ?_
                        refine Run.ops hm ?_
                        refine Ops.p rfl ?_
                        refine Ops.nil ?_
                        refine Run.block ?_
                        obtain ⟨res_458, h, hk_458⟩ := bindO h
                        refine Run.loop (n := N) (fun m_458 fr σ => ∃ (x_419 : Int), spec_NodeOk_l1 N x_1 y_320 v_347 m_458 x_419 = some res_458 ∧ fr = [(1, .ptr 0 0), (3, VI y_320.1), (5, .sl 1 3 0 v_347.length), (6, VI x_419)] ∧ σ = [(0, .box [VI x_1.Id, VI x_1.Term, VI x_1.Vote, VI x_1.Role, VI x_1.Lead, RO 3 (x_1.Conf.map encI), VI x_1.Log.Start, VI x_1.Log.StartTerm, RO 48 (x_1.Log.Entries.map encEntry), VI x_1.Commit, VI x_1.Clock, VI x_1.Limit, RO 3 (x_1.Votes.map encI), RO 172 (x_1.Peers.map encPeer)]), (1, .vec 3 (v_347.map encI))]) (gh_pk [1, 3, 5, 6] [0, 1] hB rfl rfl rfl rfl) ⟨_, h, rfl, rfl⟩ ?_
                        rintro m_458 fr σ ⟨x_419, h, rfl, rfl⟩
                        obtain _ | m_458 := m_458
                        · rw [spec_NodeOk_l1] at h; cases h
                        rw [spec_NodeOk_l1] at h
                        refine Run.seq ?_
                        refine Run.seq ?_
                        refine Run.ops hm ?_
                        refine Ops.p rfl ?_
                        refine Ops.p rfl ?_
                        refine Ops.p rfl ?_
                        refine Ops.p rfl ?_
                        refine Ops.nil ?_
                        refine Run.condO rfl h (fun g_461 h => ?_) (fun g_461 h => ?_)
                        · skip
                          refine Run.skip ?_
                          refine Run.seq ?_
                          refine Run.block ?_
                          refine Run.seq ?_
                          refine Run.ops hm ?_
                          refine Ops.p rfl ?_
                          refine Ops.p rfl ?_
                          refine Ops.p rfl ?_
                          obtain ⟨x_473, hx_473, h⟩ := bindO h
                          refine Ops.st (s := 58392) (Ev.iaF rfl rfl hx_473) rfl rfl ?_
                          refine Ops.p rfl ?_
                          refine Ops.st (s := 58424) (.al rfl rfl) rfl rfl ?_
                          refine Ops.s0 (s := 58440) (.sto rfl rfl rfl rfl rfl rfl) rfl rfl ?_
                          refine Ops.nil ?_
                          refine Run.seq ?_
                          refine Run.draw hm hmix ?_
                          refine OpsD.p rfl ?_
                          refine OpsD.p rfl ?_
                          refine OpsD.p rfl ?_
                          refine OpsD.p rfl ?_
                          obtain ⟨x_474, hx_474, h⟩ := bindO h
                          refine OpsD.st (s := 62504) (Ev.iaW rfl rfl rfl hx_474) rfl rfl ?_
                          refine OpsD.st (s := 62520) (Ev.ldE (f := encI) rfl rfl (at_some hx_474).2 rfl rfl rfl) rfl rfl ?_
                          refine OpsD.p rfl ?_
                          refine OpsD.p rfl ?_
                          refine OpsD.askO (x := .t 130) rfl h (fun g_475 h => ?_) (fun g_475 h => ?_)
                          · skip
                            refine OpsD.gn rfl g_475 ?_
                            refine OpsD.gn rfl g_475 ?_
                            refine OpsD.gn rfl g_475 ?_
                            refine OpsD.gn rfl g_475 ?_
                            refine OpsD.gn rfl g_475 ?_
                            refine OpsD.gn rfl g_475 ?_
                            refine OpsD.st (s := 62664) (.pkT rfl g_475 rfl) rfl rfl ?_
                            refine OpsD.p rfl ?_
                            refine OpsD.gn rfl rfl ?_
                            refine OpsD.gn rfl rfl ?_
                            refine OpsD.gn rfl rfl ?_
                            refine OpsD.gn rfl rfl ?_
                            refine OpsD.gn rfl rfl ?_
                            refine OpsD.gn rfl rfl ?_
                            refine OpsD.gn rfl rfl ?_
                            refine OpsD.st (s := 62808) (.pkT rfl rfl rfl) rfl rfl ?_
                            refine OpsD.p rfl ?_
                            refine OpsD.gn rfl rfl ?_
                            refine OpsD.gn rfl rfl ?_
                            refine OpsD.gn rfl rfl ?_
                            refine OpsD.gn rfl rfl ?_
                            refine OpsD.st (s := 62904) (.pkT rfl rfl rfl) rfl rfl ?_
                            refine OpsD.nil ⟨by kernel_rfl, ?_⟩
                            refine Run.condT rfl rfl ?_
                            refine Run.seq ?_
                            refine Run.ops hm ?_
                            refine Ops.p rfl ?_
                            refine Ops.nil ?_
                            refine Run.ret ?_
                            obtain rfl := someO h
                            have h := hk_458
                            replace h := inlO h
                            obtain rfl := someO h
                            exact Ends.mkG (.inl rfl) rfl (gh_pk [0] [] hB rfl rfl rfl rfl) rfl rfl
                          · skip
                            refine OpsD.gp rfl g_475 rfl ?_
                            refine OpsD.gp rfl g_475 rfl ?_
                            refine OpsD.gp rfl g_475 rfl ?_
                            refine OpsD.gp rfl g_475 rfl ?_
                            obtain ⟨y_476, hy_476, h⟩ := bindO h
                            refine OpsD.gs (s := 62632) rfl g_475 (Ev.call [] [] 0 (sem_spec_l01In N x_473.Next (1 : Int) (w64 (y_320.1 + (1 : Int))) _ hy_476) rfl rfl (.cons (.c _) (.cons (.c _) (.cons (.c _) .nil))) rfl (.inl rfl) rfl rfl) rfl rfl ?_
                            refine OpsD.gp rfl g_475 rfl ?_
                            refine OpsD.st (s := 62664) (.pkF rfl g_475 rfl) rfl rfl ?_
                            refine OpsD.p rfl ?_
                            refine OpsD.askO (x := .t 138) rfl h (fun g_477 h => ?_) (fun g_477 h => ?_)
                            · skip
                              refine OpsD.gn rfl g_477 ?_
                              refine OpsD.gn rfl g_477 ?_
                              refine OpsD.gn rfl g_477 ?_
                              refine OpsD.gn rfl g_477 ?_
                              refine OpsD.gn rfl g_477 ?_
                              refine OpsD.gn rfl g_477 ?_
                              refine OpsD.gn rfl g_477 ?_
                              refine OpsD.st (s := 62808) (.pkT rfl g_477 rfl) rfl rfl ?_
                              refine OpsD.p rfl ?_
                              refine OpsD.gn rfl rfl ?_
                              refine OpsD.gn rfl rfl ?_
                              refine OpsD.gn rfl rfl ?_
                              refine OpsD.gn rfl rfl ?_
                              refine OpsD.st (s := 62904) (.pkT rfl rfl rfl) rfl rfl ?_
                              refine OpsD.nil ⟨by kernel_rfl, ?_⟩
                              refine Run.condT rfl rfl ?_
                              refine Run.seq ?_
                              refine Run.ops hm ?_
                              refine Ops.p rfl ?_
                              refine Ops.nil ?_
                              refine Run.ret ?_
                              obtain rfl := someO h
                              have h := hk_458
                              replace h := inlO h
                              obtain rfl := someO h
                              exact Ends.mkG (.inl rfl) rfl (gh_pk [0] [] hB rfl rfl rfl rfl) rfl rfl
                            · skip
                              refine OpsD.gp rfl g_477 rfl ?_
                              refine OpsD.gp rfl g_477 rfl ?_
                              refine OpsD.gp rfl g_477 rfl ?_
                              refine OpsD.gp rfl g_477 rfl ?_
                              refine OpsD.gp rfl g_477 rfl ?_
                              obtain ⟨y_478, hy_478, h⟩ := bindO h
                              refine OpsD.gs (s := 62776) rfl g_477 (Ev.call [] [] 0 (sem_spec_l01In N x_473.Match (0 : Int) (w64 (x_473.Next - (1 : Int))) _ hy_478) rfl rfl (.cons (.c _) (.cons (.c _) (.cons (.c _) .nil))) rfl (.inl rfl) rfl rfl) rfl rfl ?_
                              refine OpsD.gp rfl g_477 rfl ?_
                              refine OpsD.st (s := 62808) (.pkF rfl g_477 rfl) rfl rfl ?_
                              refine OpsD.p rfl ?_
                              refine OpsD.askO (x := .t 147) rfl h (fun g_479 h => ?_) (fun g_479 h => ?_)
                              · skip
                                refine OpsD.gn rfl g_479 ?_
                                refine OpsD.gn rfl g_479 ?_
                                refine OpsD.gn rfl g_479 ?_
                                refine OpsD.gn rfl g_479 ?_
                                refine OpsD.st (s := 62904) (.pkT rfl g_479 rfl) rfl rfl ?_
                                refine OpsD.nil ⟨by kernel_rfl, ?_⟩
                                refine Run.condT rfl rfl ?_
                                refine Run.seq ?_
                                refine Run.ops hm ?_
                                refine Ops.p rfl ?_
                                refine Ops.nil ?_
                                refine Run.ret ?_
                                obtain rfl := someO h
                                have h := hk_458
                                replace h := inlO h
                                obtain rfl := someO h
                                exact Ends.mkG (.inl rfl) rfl (gh_pk [0] [] hB rfl rfl rfl rfl) rfl rfl
                              · skip
                                refine OpsD.gp rfl g_479 rfl ?_
                                refine OpsD.gp rfl g_479 rfl ?_
                                obtain ⟨y_480, hy_480, h⟩ := bindO h
                                refine OpsD.gs (s := 62872) rfl g_479 (Ev.call [] [] 0 (sem_spec_l01In N x_473.Sent (0 : Int) (20000 : Int) _ hy_480) rfl rfl (.cons (.c _) (.cons (.c _) (.cons (.c _) .nil))) rfl (.inl rfl) rfl rfl) rfl rfl ?_
                                refine OpsD.gp rfl g_479 rfl ?_
                                refine OpsD.st (s := 62904) (.pkF rfl g_479 rfl) rfl rfl ?_
                                refine OpsD.nil ⟨by kernel_rfl, ?_⟩
                                refine Run.condO rfl h (fun g_481 h => ?_) (fun g_481 h => ?_)
                                · skip
                                  refine Run.seq ?_
                                  refine Run.ops hm ?_
                                  refine Ops.p rfl ?_
                                  refine Ops.nil ?_
                                  refine Run.ret ?_
                                  obtain rfl := someO h
                                  have h := hk_458
                                  replace h := inlO h
                                  obtain rfl := someO h
                                  exact Ends.mkG (.inl rfl) rfl (gh_pk [0] [] hB rfl rfl rfl rfl) rfl rfl
                                · skip
                                  refine Run.skip ?_
                                  refine Run.ops hm ?_
                                  refine Ops.p rfl ?_
                                  refine Ops.p rfl ?_
                                  refine Ops.p rfl ?_
                                  refine Ops.nil ?_
                                  exact ⟨m_458, Nat.lt_succ_self m_458, _, _, (gh_pk [1, 3, 5, 6] [0, 1] hB rfl rfl rfl rfl), _, h, rfl, rfl⟩
                        · skip
                          refine Run.exit ?_
                          obtain rfl := someO h
                          have h := hk_458
                          replace h := inrO h
                          exact ⟨_, _, (gh_pk [] [] hB rfl rfl rfl rfl), (), h, rfl, rfl⟩
                      · skip
                        refine Run.seq ?_
                        refine Run.ops hm ?_
                        refine Ops.p rfl ?_
                        refine Ops.nil ?_
                        refine Run.ret ?_
                        obtain rfl := someO h
                        exact Ends.mkG (.inl rfl) rfl (gh_pk [0] [] hB rfl rfl rfl rfl) rfl rfl
end Go.Proofs.Ytebbgdjmplceiaa.Pe.FnExactSettle
