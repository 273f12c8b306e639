/- Functions, as pure functions; and that Go does just that. -/
import Derived.Test.YtebbgdjmplceiaaPeFFnExactNodeNew1
namespace Go.Proofs.Ytebbgdjmplceiaa.Pe.FnExactNodeNew
open Go Go.RowKit
set_option linter.unusedVariables false
set_option linter.unusedSimpArgs false
set_option maxHeartbeats 40000000
def impl_EntryOk (N : Nat) (x_1 : Entry) : Option (Bool) :=
 (impl_within N x_1.Term (0 : Int) (100000 : Int)).bind fun y_111 =>
 (if (!y_111) = true then
 some false
 else
 (if (x_1.Kind == (1 : Int)) = true then
 some (decide (x_1.Data = (⟨#[]⟩ : ByteArray)))
 else
 (if (x_1.Kind == (2 : Int)) = true then
 (impl_ReadConf N x_1.Data).bind fun y_116 =>
 some y_116.2
 else
 (if (x_1.Kind == (3 : Int)) = true then
 some (decide ((x_1.Data.size : Int) ≤ (120 : Int)))
 else
 some false))))
theorem sem_impl_EntryOk (N : Nat) (x_1 : Entry) (r : Bool) (h : impl_EntryOk N x_1 = some r) : Says Try.prog 124 [.agg [VI x_1.Term, VI x_1.Kind, VS x_1.Data]] 0 [] (VB r) [] := by
  unfold impl_EntryOk at h
  refine Says.of_run s124 Try.call124 rfl fun B hB => ?_
  have hm : B.m ≤ 1000 := by omega
  refine Run.seq ?_
  refine Run.ops hm ?_
  refine Ops.st (s := 1000) (.bx rfl rfl) rfl rfl ?_
  refine Ops.p rfl ?_
  refine Ops.nil ?_
  refine Run.seq ?_
  refine Run.seq ?_
  refine Run.ops hm ?_
  refine Ops.p rfl ?_
  refine Ops.p rfl ?_
  obtain ⟨y_111, hy_111, h⟩ := bindO h
  refine Ops.st (s := 5128) (Ev.call [] [] 0 (sem_impl_within N x_1.Term (0 : Int) (100000 : Int) _ hy_111) rfl rfl (.cons (.c _) (.cons (.c _) (.cons (.c _) .nil))) rfl (.inl rfl) rfl rfl) rfl rfl ?_
  refine Ops.p rfl ?_
  refine Ops.nil ?_
  refine Run.condO rfl h (fun g_112 h => ?_) (fun g_112 h => ?_)
  · skip
    refine Run.seq ?_
    refine Run.ops hm ?_
    refine Ops.p rfl ?_
    refine Ops.nil ?_
    refine Run.ret ?_
    obtain rfl := someO h
    exact Ends.mkG (.inl rfl) rfl (gh_pk [0] [] hB rfl rfl rfl rfl) rfl rfl
  · skip
    refine Run.skip ?_
    refine Run.seq ?_
    refine Run.seq ?_
    refine Run.ops hm ?_
    refine Ops.p rfl ?_
    refine Ops.p rfl ?_
    refine Ops.nil ?_
    refine Run.block ?_
    refine Run.seq ?_
    refine Run.ops hm ?_
    refine Ops.p rfl ?_
    refine Ops.p rfl ?_
    refine Ops.nil ?_
    refine Run.condO rfl h (fun g_113 h => ?_) (fun g_113 h => ?_)
    · skip
      refine Run.seq ?_
      refine Run.ops hm ?_
      refine Ops.p rfl ?_
      refine Ops.p rfl ?_
      refine Ops.p rfl ?_
      refine Ops.p rfl ?_
      refine Ops.nil ?_
      refine Run.ret ?_
      obtain rfl := someO h
      exact Ends.mkG (.inl rfl) rfl (gh_pk [0] [] hB rfl rfl rfl rfl) rfl rfl
    · skip
      refine Run.seq ?_
      refine Run.ops hm ?_
      refine Ops.p rfl ?_
      refine Ops.p rfl ?_
      refine Ops.nil ?_
      refine Run.condO rfl h (fun g_114 h => ?_) (fun g_114 h => ?_)
      · skip
        refine Run.seq ?_
        refine Run.ops hm ?_
        refine Ops.p rfl ?_
        refine Ops.p rfl ?_
        obtain ⟨y_116, hy_116, h⟩ := bindO h
        refine Ops.st (s := 29704) (Ev.call [] [] 1 (sem_impl_ReadConf N x_1.Data _ hy_116) rfl rfl (.cons (.c _) .nil) rfl (.inl rfl) rfl rfl) rfl rfl ?_
        refine Ops.p rfl ?_
        refine Ops.p rfl ?_
        refine Ops.p rfl ?_
        refine Ops.p rfl ?_
        refine Ops.p rfl ?_
        refine Ops.nil ?_
        refine Run.seq ?_
        refine Run.ops hm ?_
        refine Ops.p rfl ?_
        refine Ops.p rfl ?_
        refine Ops.nil ?_
        refine Run.ret ?_
        obtain rfl := someO h
        exact Ends.mkG (.inl rfl) rfl (gh_pk [0] [] hB rfl rfl rfl rfl) rfl rfl
      · skip
        refine Run.seq ?_
        refine Run.ops hm ?_
        refine Ops.p rfl ?_
        refine Ops.p rfl ?_
        refine Ops.nil ?_
        refine Run.condO rfl h (fun g_117 h => ?_) (fun g_117 h => ?_)
        · skip
          refine Run.seq ?_
          refine Run.ops hm ?_
          refine Ops.p rfl ?_
          refine Ops.p rfl ?_
          refine Ops.p rfl ?_
          refine Ops.p rfl ?_
          refine Ops.p rfl ?_
          refine Ops.nil ?_
          refine Run.ret ?_
          obtain rfl := someO h
          exact Ends.mkG (.inl rfl) rfl (gh_pk [0] [] hB rfl rfl rfl rfl) rfl rfl
        · skip
          refine Run.skip ?_
          refine Run.seq ?_
          refine Run.ops hm ?_
          refine Ops.p rfl ?_
          refine Ops.nil ?_
          refine Run.ret ?_
          obtain rfl := someO h
          exact Ends.mkG (.inl rfl) rfl (gh_pk [0] [] hB rfl rfl rfl rfl) rfl rfl
def impl_LogOk_l1 (N : Nat) (x_1 : Log) : Nat → Int → Int → Option ((Bool) ⊕ (Unit))
 | 0, _, _ => none
 | m + 1, x_207, x_210 =>
 (if (decide (x_210 < (x_1.Entries.length : Int))) = true then
 (at? x_1.Entries x_210).bind fun x_227 =>
 (impl_EntryOk N x_227).bind fun y_231 =>
 (if (!y_231) = true then
 some (Sum.inl false)
 else
 (if (decide (x_227.Term < x_207)) = true then
 some (Sum.inl false)
 else
 impl_LogOk_l1 N x_1 m x_227.Term (w64 (x_210 + (1 : Int)))))
 else
 some (Sum.inr ()))
def impl_LogOk_l1_r (N : Nat) (x_1 : Log) : (List Entry) → Int → Int → Option ((Bool) ⊕ (Unit))
 | [], x_207, x_210 =>
 some (Sum.inr ())
 | hd :: tl, x_207, x_210 =>
 (some hd).bind fun x_227 =>
 (impl_EntryOk N x_227).bind fun y_231 =>
 (if (!y_231) = true then
 some (Sum.inl false)
 else
 (if (decide (x_227.Term < x_207)) = true then
 some (Sum.inl false)
 else
 impl_LogOk_l1_r N x_1 tl x_227.Term (w64 (x_210 + (1 : Int)))))
theorem impl_LogOk_l1_rng (N : Nat) (x_1 : Log) (hx : x_1.Entries.length ≤ 1099511627776) : ∀ (d k m : Nat) (x_207 : Int), x_1.Entries.length = k + d → d < m → impl_LogOk_l1 N x_1 m x_207 (k : Int) = impl_LogOk_l1_r N x_1 (x_1.Entries.drop k) x_207 (k : Int) := by
  intro d
  induction d with
  | zero =>
    intro k m x_207 hd hm
    obtain ⟨m, rfl⟩ : ∃ q, m = q + 1 := ⟨m - 1, by omega⟩
    rw [impl_LogOk_l1, if_neg (by simp; omega), List.drop_eq_nil_of_le (by omega), impl_LogOk_l1_r]
  | succ d ih =>
    intro k m x_207 hd hm
    obtain ⟨m, rfl⟩ : ∃ q, m = q + 1 := ⟨m - 1, by omega⟩
    have hk : k < x_1.Entries.length := by omega
    rw [impl_LogOk_l1, if_pos (by simp; omega), List.drop_eq_getElem_cons hk, impl_LogOk_l1_r]
    have h1 := at_lt hk
    have h2 := w64_succ (k := k) (by omega)
    have h3 := ih (k + 1) m
    simp only [h1, h2, h3 _ (by omega) (by omega)]
theorem impl_LogOk_l1_eq {N : Nat} (x_1 : Log) (hx : x_1.Entries.length ≤ 1099511627776) (hN : x_1.Entries.length < N) (x_207 : Int) : impl_LogOk_l1 N x_1 N x_207 0 = impl_LogOk_l1_r N x_1 x_1.Entries x_207 0 := impl_LogOk_l1_rng N x_1 hx x_1.Entries.length 0 N x_207 (by omega) hN
def impl_LogOk (N : Nat) (x_1 : Log) : Option (Bool) :=
 (impl_within N x_1.Start (0 : Int) (100000 : Int)).bind fun y_173 =>
 (if (!y_173) = true then
 some false
 else
 (impl_within N x_1.StartTerm (0 : Int) (100000 : Int)).bind fun y_175 =>
 (if (!y_175) = true then
 some false
 else
 (if (decide ((x_1.Entries.length : Int) > (120 : Int))) = true then
 some false
 else
 (if (decide ((w64 (x_1.Start + (x_1.Entries.length : Int))) > (100000 : Int))) = true then
 some false
 else
 joinP (fun (v_206 : Unit) =>
 some true) fun j_206 =>
 (impl_LogOk_l1 N x_1 N x_1.StartTerm (0 : Int)).bind (Sum.elim (fun v_221 => some v_221) (fun (v_222 : Unit) => j_206 ()))))))
theorem sem_impl_LogOk (N : Nat) (x_1 : Log) (r : Bool) (h : impl_LogOk N x_1 = some r) : Says Try.prog 89 [.agg [VI x_1.Start, VI x_1.StartTerm, RO 48 (x_1.Entries.map encEntry)]] 0 [] (VB r) [] := by
  unfold impl_LogOk at h
  refine Says.of_run s89 Try.call89 rfl fun B hB => ?_
  have hm : B.m ≤ 1000 := by omega
  refine Run.seq ?_
  refine Run.ops hm ?_
  refine Ops.st (s := 1000) (.bx rfl rfl) rfl rfl ?_
  refine Ops.p rfl ?_
  refine Ops.nil ?_
  refine Run.seq ?_
  refine Run.seq ?_
  refine Run.ops hm ?_
  refine Ops.p rfl ?_
  refine Ops.p rfl ?_
  obtain ⟨y_173, hy_173, h⟩ := bindO h
  refine Ops.st (s := 5128) (Ev.call [] [] 0 (sem_impl_within N x_1.Start (0 : Int) (100000 : Int) _ hy_173) rfl rfl (.cons (.c _) (.cons (.c _) (.cons (.c _) .nil))) rfl (.inl rfl) rfl rfl) rfl rfl ?_
  refine Ops.p rfl ?_
  refine Ops.p rfl ?_
  refine Ops.askO (x := .t 10) rfl h (fun g_174 h => ?_) (fun g_174 h => ?_)
  · skip
    refine Ops.gn rfl g_174 ?_
    refine Ops.gn rfl g_174 ?_
    refine Ops.gn rfl g_174 ?_
    refine Ops.gn rfl g_174 ?_
    refine Ops.st (s := 5240) (.pkT rfl g_174 rfl) rfl rfl ?_
    refine Ops.p rfl ?_
    refine Ops.gn rfl rfl ?_
    refine Ops.gn rfl rfl ?_
    refine Ops.gn rfl rfl ?_
    refine Ops.gn rfl rfl ?_
    refine Ops.st (s := 5336) (.pkT rfl rfl rfl) rfl rfl ?_
    refine Ops.p rfl ?_
    refine Ops.gn rfl rfl ?_
    refine Ops.gn rfl rfl ?_
    refine Ops.gn rfl rfl ?_
    refine Ops.gn rfl rfl ?_
    refine Ops.gn rfl rfl ?_
    refine Ops.gn rfl rfl ?_
    refine Ops.gn rfl rfl ?_
    refine Ops.st (s := 5480) (.pkT rfl rfl rfl) rfl rfl ?_
    refine Ops.nil ?_
    refine Run.condT rfl rfl ?_
    refine Run.seq ?_
    refine Run.ops hm ?_
    refine Ops.p rfl ?_
    refine Ops.nil ?_
    refine Run.ret ?_
    obtain rfl := someO h
    exact Ends.mkG (.inl rfl) rfl (gh_pk [0] [] hB rfl rfl rfl rfl) rfl rfl
  · skip
    refine Ops.gp rfl g_174 rfl ?_
    refine Ops.gp rfl g_174 rfl ?_
    obtain ⟨y_175, hy_175, h⟩ := bindO h
    refine Ops.gs (s := 5208) rfl g_174 (Ev.call [] [] 0 (sem_impl_within N x_1.StartTerm (0 : Int) (100000 : Int) _ hy_175) rfl rfl (.cons (.c _) (.cons (.c _) (.cons (.c _) .nil))) rfl (.inl rfl) rfl rfl) rfl rfl ?_
    refine Ops.gp rfl g_174 rfl ?_
    refine Ops.st (s := 5240) (.pkF rfl g_174 rfl) rfl rfl ?_
    refine Ops.p rfl ?_
    refine Ops.askO (x := .t 16) rfl h (fun g_176 h => ?_) (fun g_176 h => ?_)
    · skip
      refine Ops.gn rfl g_176 ?_
      refine Ops.gn rfl g_176 ?_
      refine Ops.gn rfl g_176 ?_
      refine Ops.gn rfl g_176 ?_
      refine Ops.st (s := 5336) (.pkT rfl g_176 rfl) rfl rfl ?_
      refine Ops.p rfl ?_
      refine Ops.gn rfl rfl ?_
      refine Ops.gn rfl rfl ?_
      refine Ops.gn rfl rfl ?_
      refine Ops.gn rfl rfl ?_
      refine Ops.gn rfl rfl ?_
      refine Ops.gn rfl rfl ?_
      refine Ops.gn rfl rfl ?_
      refine Ops.st (s := 5480) (.pkT rfl rfl rfl) rfl rfl ?_
      refine Ops.nil ?_
      refine Run.condT rfl rfl ?_
      refine Run.seq ?_
      refine Run.ops hm ?_
      refine Ops.p rfl ?_
      refine Ops.nil ?_
      refine Run.ret ?_
      obtain rfl := someO h
      exact Ends.mkG (.inl rfl) rfl (gh_pk [0] [] hB rfl rfl rfl rfl) rfl rfl
    · skip
      refine Ops.gp rfl g_176 rfl ?_
      refine Ops.gp rfl g_176 rfl ?_
      refine Ops.gs (s := 5304) rfl g_176 (Ev.lnF rfl) rfl rfl ?_
      refine Ops.gp rfl g_176 rfl ?_
      refine Ops.st (s := 5336) (.pkF rfl g_176 rfl) rfl rfl ?_
      refine Ops.p rfl ?_
      refine Ops.askO (x := .t 22) rfl h (fun g_177 h => ?_) (fun g_177 h => ?_)
      · skip
        refine Ops.gn rfl g_177 ?_
        refine Ops.gn rfl g_177 ?_
        refine Ops.gn rfl g_177 ?_
        refine Ops.gn rfl g_177 ?_
        refine Ops.gn rfl g_177 ?_
        refine Ops.gn rfl g_177 ?_
        refine Ops.gn rfl g_177 ?_
        refine Ops.st (s := 5480) (.pkT rfl g_177 rfl) rfl rfl ?_
        refine Ops.nil ?_
        refine Run.condT rfl rfl ?_
        refine Run.seq ?_
        refine Run.ops hm ?_
        refine Ops.p rfl ?_
        refine Ops.nil ?_
        refine Run.ret ?_
        obtain rfl := someO h
        exact Ends.mkG (.inl rfl) rfl (gh_pk [0] [] hB rfl rfl rfl rfl) rfl rfl
      · skip
        refine Ops.gp rfl g_177 rfl ?_
        refine Ops.gp rfl g_177 rfl ?_
        refine Ops.gp rfl g_177 rfl ?_
        refine Ops.gp rfl g_177 rfl ?_
        refine Ops.gs (s := 5432) rfl g_177 (Ev.lnF rfl) rfl rfl ?_
        refine Ops.gp rfl g_177 rfl ?_
        refine Ops.gp rfl g_177 rfl ?_
        refine Ops.st (s := 5480) (.pkF rfl g_177 rfl) rfl rfl ?_
        refine Ops.nil ?_
        refine Run.condO rfl h (fun g_178 h => ?_) (fun g_178 h => ?_)
        · skip
          refine Run.seq ?_
          refine Run.ops hm ?_
          refine Ops.p rfl ?_
          refine Ops.nil ?_
          refine Run.ret ?_
          obtain rfl := someO h
          exact Ends.mkG (.inl rfl) rfl (gh_pk [0] [] hB rfl rfl rfl rfl) rfl rfl
        · skip
          refine Run.skip ?_
          refine Run.seq ?_
          refine Run.ops hm ?_
          refine Ops.p rfl ?_
          refine Ops.p rfl ?_
          refine Ops.p rfl ?_
          refine Ops.nil ?_
          refine Run.seqO h (fun (v_206 : Unit) => []) (fun (v_206 : Unit) => []) (fun h => ?_) (fun v_206 h => ?_)
          · skip
            refine Run.seq ?_
            refine Run.ops hm ?_
            refine Ops.p rfl ?_
            refine Ops.p rfl ?_
            refine Ops.st (s := 17416) (Ev.lnF rfl) rfl rfl ?_
            refine Ops.p rfl ?_
            refine Ops.nil ?_
            refine Run.block ?_
            obtain ⟨res_222, h, hk_222⟩ := bindO h
            refine Run.loop (n := N) (fun m_222 fr σ => ∃ (x_207 : Int), ∃ (x_210 : Int), impl_LogOk_l1 N x_1 m_222 x_207 x_210 = some res_222 ∧ fr = [(3, VI x_207), (34, RO 48 (x_1.Entries.map encEntry)), (35, VI (x_1.Entries.length : Int)), (36, VI x_210)] ∧ σ = []) (gh_pk [3, 34, 35, 36] [] hB rfl rfl rfl rfl) ⟨_, _, h, rfl, rfl⟩ ?_
            rintro m_222 fr σ ⟨x_207, x_210, h, rfl, rfl⟩
            obtain _ | m_222 := m_222
            · rw [impl_LogOk_l1] at h; cases h
            rw [impl_LogOk_l1] at h
            refine Run.seq ?_
            refine Run.ops hm ?_
            refine Ops.p rfl ?_
            refine Ops.nil ?_
            refine Run.seq ?_
            refine Run.condO rfl h (fun g_225 h => ?_) (fun g_225 h => ?_)
            · skip
              refine Run.skip ?_
              refine Run.seq ?_
              refine Run.block ?_
              refine Run.seq ?_
              refine Run.ops hm ?_
              obtain ⟨x_227, hx_227, h⟩ := bindO h
              refine Ops.st (s := 25576) (Ev.iaF rfl rfl hx_227) rfl rfl ?_
              refine Ops.p rfl ?_
              refine Ops.st (s := 25608) (.al rfl rfl) rfl rfl ?_
              refine Ops.s0 (s := 25624) (.sto rfl rfl rfl rfl rfl rfl) rfl rfl ?_
              refine Ops.nil ?_
              refine Run.seq ?_
              refine Run.seq ?_
              refine Run.ops hm ?_
              refine Ops.p rfl ?_
              obtain ⟨y_231, hy_231, h⟩ := bindO h
              refine Ops.st (s := 29688) (Ev.call [] [] 0 (sem_impl_EntryOk N x_227 _ hy_231) rfl rfl (.cons (.agg (.cons (.c _) (.cons (.c _) (.cons (.c _) .nil)))) .nil) rfl (.inl rfl) rfl rfl) rfl rfl ?_
              refine Ops.p rfl ?_
              refine Ops.p rfl ?_
              refine Ops.askO (x := .t 43) rfl h (fun g_232 h => ?_) (fun g_232 h => ?_)
              · skip
                refine Ops.gn rfl g_232 ?_
                refine Ops.gn rfl g_232 ?_
                refine Ops.gn rfl g_232 ?_
                refine Ops.gn rfl g_232 ?_
                refine Ops.st (s := 29800) (.pkT rfl g_232 rfl) rfl rfl ?_
                refine Ops.nil ?_
                refine Run.condT rfl rfl ?_
                refine Run.seq ?_
                refine Run.ops hm ?_
                refine Ops.p rfl ?_
                refine Ops.nil ?_
                refine Run.ret ?_
                obtain rfl := someO h
                have h := hk_222
                replace h := inlO h
                obtain rfl := someO h
                exact Ends.mkG (.inl rfl) rfl (gh_pk [0] [] hB rfl rfl rfl rfl) rfl rfl
              · skip
                refine Ops.gp rfl g_232 rfl ?_
                refine Ops.gp rfl g_232 rfl ?_
                refine Ops.gp rfl g_232 rfl ?_
                refine Ops.gp rfl g_232 rfl ?_
                refine Ops.st (s := 29800) (.pkF rfl g_232 rfl) rfl rfl ?_
                refine Ops.nil ?_
                refine Run.condO rfl h (fun g_233 h => ?_) (fun g_233 h => ?_)
                · skip
                  refine Run.seq ?_
                  refine Run.ops hm ?_
                  refine Ops.p rfl ?_
                  refine Ops.nil ?_
                  refine Run.ret ?_
                  obtain rfl := someO h
                  have h := hk_222
                  replace h := inlO h
                  obtain rfl := someO h
                  exact Ends.mkG (.inl rfl) rfl (gh_pk [0] [] hB rfl rfl rfl rfl) rfl rfl
                · skip
                  refine Run.skip ?_
                  refine Run.ops hm ?_
                  refine Ops.p rfl ?_
                  refine Ops.p rfl ?_
                  refine Ops.p rfl ?_
                  refine Ops.nil ?_
                  refine Run.ops hm ?_
                  refine Ops.p rfl ?_
                  refine Ops.p rfl ?_
                  refine Ops.nil ?_
                  exact ⟨m_222, Nat.lt_succ_self m_222, _, _, (gh_pk [3, 34, 35, 36] [] hB rfl rfl rfl rfl), _, _, h, rfl, rfl⟩
            · skip
              refine Run.exit ?_
              obtain rfl := someO h
              have h := hk_222
              replace h := inrO h
              exact ⟨_, _, (gh_pk [] [] hB rfl rfl rfl rfl), (), h, rfl, rfl⟩
          · skip
            refine Run.seq ?_
            refine Run.ops hm ?_
            refine Ops.p rfl ?_
            refine Ops.nil ?_
            refine Run.ret ?_
            obtain rfl := someO h
            exact Ends.mkG (.inl rfl) rfl (gh_pk [0] [] hB rfl rfl rfl rfl) rfl rfl
def impl_LogLast (N : Nat) (x_1 : Log) : Option (Int × Int) :=
 (if ((x_1.Entries.length : Int) == (0 : Int)) = true then
 some (x_1.Start, x_1.StartTerm)
 else
 (at? x_1.Entries (w64 ((x_1.Entries.length : Int) - (1 : Int)))).bind fun x_105 =>
 some (w64 (x_1.Start + (x_1.Entries.length : Int)), x_105.Term))
theorem sem_impl_LogLast (N : Nat) (x_1 : Log) (r : Int × Int) (h : impl_LogLast N x_1 = some r) : Says Try.prog 120 [.agg [VI x_1.Start, VI x_1.StartTerm, RO 48 (x_1.Entries.map encEntry)]] 0 [] (.tup [VI r.1, VI r.2]) [] := by
  unfold impl_LogLast at h
  refine Says.of_run s120 Try.call120 rfl fun B hB => ?_
  have hm : B.m ≤ 1000 := by omega
  refine Run.seq ?_
  refine Run.ops hm ?_
  refine Ops.st (s := 1000) (.bx rfl rfl) rfl rfl ?_
  refine Ops.p rfl ?_
  refine Ops.p rfl ?_
  refine Ops.nil ?_
  refine Run.seq ?_
  refine Run.ops hm ?_
  refine Ops.p rfl ?_
  refine Ops.p rfl ?_
  refine Ops.st (s := 5128) (Ev.lnF rfl) rfl rfl ?_
  refine Ops.p rfl ?_
  refine Ops.nil ?_
  refine Run.seq ?_
  refine Run.seq ?_
  refine Run.ops hm ?_
  refine Ops.p rfl ?_
  refine Ops.p rfl ?_
  refine Ops.nil ?_
  refine Run.condO rfl h (fun g_104 h => ?_) (fun g_104 h => ?_)
  · skip
    refine Run.seq ?_
    refine Run.draw hm hmix ?_
    refine OpsD.p rfl ?_
    refine OpsD.p rfl ?_
    refine OpsD.p rfl ?_
    refine OpsD.p rfl ?_
    refine OpsD.p rfl ?_
    refine OpsD.p rfl ?_
    refine OpsD.nil ⟨by kernel_rfl, ?_⟩
    refine Run.ret ?_
    obtain rfl := someO h
    exact Ends.mkG (.inl rfl) rfl (gh_pk [0, 1] [] hB rfl rfl rfl rfl) rfl rfl
  · skip
    refine Run.skip ?_
    refine Run.seq ?_
    refine Run.draw hm hmix ?_
    refine OpsD.p rfl ?_
    refine OpsD.p rfl ?_
    refine OpsD.p rfl ?_
    refine OpsD.p rfl ?_
    refine OpsD.p rfl ?_
    refine OpsD.p rfl ?_
    refine OpsD.p rfl ?_
    refine OpsD.p rfl ?_
    obtain ⟨x_105, hx_105, h⟩ := bindO h
    refine OpsD.st (s := 17512) (Ev.iaF rfl rfl hx_105) rfl rfl ?_
    refine OpsD.p rfl ?_
    refine OpsD.p rfl ?_
    refine OpsD.p rfl ?_
    refine OpsD.p rfl ?_
    refine OpsD.nil ⟨by kernel_rfl, ?_⟩
    refine Run.ret ?_
    obtain rfl := someO h
    exact Ends.mkG (.inl rfl) rfl (gh_pk [0, 1] [] hB rfl rfl rfl rfl) rfl rfl
def impl_last (N : Nat) (x_1 : Log) : Option (Int) :=
 some (w64 (x_1.Start + (x_1.Entries.length : Int)))
theorem sem_impl_last (N : Nat) (x_1 : Log) (r : Int) (h : impl_last N x_1 = some r) : Says Try.prog 123 [.agg [VI x_1.Start, VI x_1.StartTerm, RO 48 (x_1.Entries.map encEntry)]] 0 [] (VI r) [] := by
  unfold impl_last at h
  refine Says.of_run s123 Try.call123 rfl fun B hB => ?_
  have hm : B.m ≤ 1000 := by omega
  refine Run.seq ?_
  refine Run.ops hm ?_
  refine Ops.st (s := 1000) (.bx rfl rfl) rfl rfl ?_
  refine Ops.p rfl ?_
  refine Ops.nil ?_
  refine Run.seq ?_
  refine Run.ops hm ?_
  refine Ops.p rfl ?_
  refine Ops.p rfl ?_
  refine Ops.p rfl ?_
  refine Ops.p rfl ?_
  refine Ops.st (s := 5160) (Ev.lnF rfl) rfl rfl ?_
  refine Ops.p rfl ?_
  refine Ops.p rfl ?_
  refine Ops.nil ?_
  refine Run.ret ?_
  obtain rfl := someO h
  exact Ends.mkG (.inl rfl) rfl (gh_pk [0] [] hB rfl rfl rfl rfl) rfl rfl
def impl_ConfAt_l1 (N : Nat) (x_1 : Node) (x_2 : Int) : Nat → Int → Option (((List Int)) ⊕ (Unit))
 | 0, _ => none
 | m + 1, x_263 =>
 (if (decide (x_263 ≥ (0 : Int))) = true then
 joinP (fun (v_307 : Unit) =>
 impl_ConfAt_l1 N x_1 x_2 m (w64 (x_263 - (1 : Int)))) fun j_307 =>
 (at? x_1.Log.Entries x_263).bind fun x_309 =>
 (impl_ReadConf N x_309.Data).bind fun y_311 =>
 (if y_311.2 = true then
 (if (x_309.Kind == (2 : Int)) = true then
 (if (decide ((w64 ((w64 (x_1.Log.Start + x_263)) + (1 : Int))) ≤ x_2)) = true then
 some (Sum.inl y_311.1)
 else
 j_307 ())
 else
 j_307 ())
 else
 j_307 ())
 else
 some (Sum.inr ()))
def impl_ConfAt (N : Nat) (x_1 : Node) (x_2 : Int) : Option ((List Int)) :=
 joinP (fun (v_261 : Unit) =>
 (cat? ([] : List Int) x_1.Conf).bind fun x_315 =>
 some x_315) fun j_261 =>
 (impl_ConfAt_l1 N x_1 x_2 N (w64 ((x_1.Log.Entries.length : Int) - (1 : Int)))).bind (Sum.elim (fun v_295 => some v_295) (fun (v_296 : Unit) => j_261 ()))
theorem sem_impl_ConfAt (N : Nat) (x_1 : Node) (x_2 : Int) (r : (List Int)) (h : impl_ConfAt N x_1 x_2 = some r) : Says Try.prog 48 [.agg [VI x_1.Id, VI x_1.Term, VI x_1.Vote, VI x_1.Role, VI x_1.Lead, RO 3 (x_1.Conf.map encI), VI x_1.Log.Start, VI x_1.Log.StartTerm, RO 48 (x_1.Log.Entries.map encEntry), VI x_1.Commit, VI x_1.Clock, VI x_1.Limit, RO 3 (x_1.Votes.map encI), RO 172 (x_1.Peers.map encPeer)], VI x_2] 0 [] (.sl 0 3 0 r.length) [(0, .vec 3 (r.map encI))] := by
  unfold impl_ConfAt at h
  refine Says.of_run s48 Try.call48 rfl fun B hB => ?_
  have hm : B.m ≤ 1000 := by omega
  refine Run.seq ?_
  refine Run.ops hm ?_
  refine Ops.st (s := 1000) (.bx rfl rfl) rfl rfl ?_
  refine Ops.p rfl ?_
  refine Ops.nil ?_
  refine Run.seqO h (fun (v_261 : Unit) => [(2, .ptr 0 0)]) (fun (v_261 : Unit) => [(0, .box [VI x_1.Id, VI x_1.Term, VI x_1.Vote, VI x_1.Role, VI x_1.Lead, RO 3 (x_1.Conf.map encI), VI x_1.Log.Start, VI x_1.Log.StartTerm, RO 48 (x_1.Log.Entries.map encEntry), VI x_1.Commit, VI x_1.Clock, VI x_1.Limit, RO 3 (x_1.Votes.map encI), RO 172 (x_1.Peers.map encPeer)])]) (fun h => ?_) (fun v_261 h => ?_)
  · skip
    refine Run.seq ?_
    refine Run.ops hm ?_
    refine Ops.p rfl ?_
    refine Ops.p rfl ?_
    refine Ops.p rfl ?_
    refine Ops.st (s := 5144) (Ev.lnF rfl) rfl rfl ?_
    refine Ops.p rfl ?_
    refine Ops.p rfl ?_
    refine Ops.nil ?_
    refine Run.block ?_
    obtain ⟨res_296, h, hk_296⟩ := bindO h
    refine Run.loop (n := N) (fun m_296 fr σ => ∃ (x_263 : Int), impl_ConfAt_l1 N x_1 x_2 m_296 x_263 = some res_296 ∧ fr = [(1, VI x_2), (2, .ptr 0 0), (5, VI x_263)] ∧ σ = [(0, .box [VI x_1.Id, VI x_1.Term, VI x_1.Vote, VI x_1.Role, VI x_1.Lead, RO 3 (x_1.Conf.map encI), VI x_1.Log.Start, VI x_1.Log.StartTerm, RO 48 (x_1.Log.Entries.map encEntry), VI x_1.Commit, VI x_1.Clock, VI x_1.Limit, RO 3 (x_1.Votes.map encI), RO 172 (x_1.Peers.map encPeer)])]) (gh_pk [1, 2, 5] [1000] hB rfl rfl rfl rfl) ⟨_, h, rfl, rfl⟩ ?_
    rintro m_296 fr σ ⟨x_263, h, rfl, rfl⟩
    obtain _ | m_296 := m_296
    · rw [impl_ConfAt_l1] at h; cases h
    rw [impl_ConfAt_l1] at h
    refine Run.seq ?_
    refine Run.seq ?_
    refine Run.ops hm ?_
    refine Ops.p rfl ?_
    refine Ops.p rfl ?_
    refine Ops.nil ?_
    refine Run.condO rfl h (fun g_299 h => ?_) (fun g_299 h => ?_)
    · skip
      refine Run.skip ?_
      refine Run.seqO h (fun (v_307 : Unit) => [(1, VI x_2), (2, .ptr 0 0), (5, VI x_263)]) (fun (v_307 : Unit) => [(0, .box [VI x_1.Id, VI x_1.Term, VI x_1.Vote, VI x_1.Role, VI x_1.Lead, RO 3 (x_1.Conf.map encI), VI x_1.Log.Start, VI x_1.Log.StartTerm, RO 48 (x_1.Log.Entries.map encEntry), VI x_1.Commit, VI x_1.Clock, VI x_1.Limit, RO 3 (x_1.Votes.map encI), RO 172 (x_1.Peers.map encPeer)])]) (fun h => ?_) (fun v_307 h => ?_)
      · skip
        refine Run.block ?_
        refine Run.seq ?_
        refine Run.ops hm ?_
        refine Ops.p rfl ?_
        refine Ops.p rfl ?_
        refine Ops.p rfl ?_
        refine Ops.p rfl ?_
        obtain ⟨x_309, hx_309, h⟩ := bindO h
        refine Ops.st (s := 17448) (Ev.iaF rfl rfl hx_309) rfl rfl ?_
        refine Ops.p rfl ?_
        refine Ops.st (s := 17480) (.al rfl rfl) rfl rfl ?_
        refine Ops.s0 (s := 17496) (.sto rfl rfl rfl rfl rfl rfl) rfl rfl ?_
        refine Ops.nil ?_
        refine Run.seq ?_
        refine Run.ops hm ?_
        refine Ops.p rfl ?_
        refine Ops.p rfl ?_
        obtain ⟨y_311, hy_311, h⟩ := bindO h
        refine Ops.st (s := 21512) (Ev.call [] [] 1 (sem_impl_ReadConf N x_309.Data _ hy_311) rfl rfl (.cons (.c _) .nil) rfl (.inl rfl) rfl rfl) rfl rfl ?_
        refine Ops.p rfl ?_
        refine Ops.p rfl ?_
        refine Ops.p rfl ?_
        refine Ops.p rfl ?_
        refine Ops.p rfl ?_
        refine Ops.nil ?_
        refine Run.seq ?_
        refine Run.ops hm ?_
        refine Ops.p rfl ?_
        refine Ops.p rfl ?_
        refine Ops.askO (x := .t 31) rfl h (fun g_312 h => ?_) (fun g_312 h => ?_)
        · skip
          refine Ops.gp rfl g_312 rfl ?_
          refine Ops.gp rfl g_312 rfl ?_
          refine Ops.gp rfl g_312 rfl ?_
          refine Ops.st (s := 25656) (.pkT rfl g_312 rfl) rfl rfl ?_
          refine Ops.p rfl ?_
          refine Ops.askO (x := .t 36) rfl h (fun g_313 h => ?_) (fun g_313 h => ?_)
          · skip
            refine Ops.gp rfl g_313 rfl ?_
            refine Ops.gp rfl g_313 rfl ?_
            refine Ops.gp rfl g_313 rfl ?_
            refine Ops.gp rfl g_313 rfl ?_
            refine Ops.gp rfl g_313 rfl ?_
            refine Ops.gp rfl g_313 rfl ?_
            refine Ops.gp rfl g_313 rfl ?_
            refine Ops.gp rfl g_313 rfl ?_
            refine Ops.st (s := 25816) (.pkT rfl g_313 rfl) rfl rfl ?_
            refine Ops.nil ?_
            refine Run.condO rfl h (fun g_314 h => ?_) (fun g_314 h => ?_)
            · skip
              refine Run.seq ?_
              refine Run.ops hm ?_
              refine Ops.p rfl ?_
              refine Ops.p rfl ?_
              refine Ops.nil ?_
              refine Run.ret ?_
              obtain rfl := someO h
              have h := hk_296
              replace h := inlO h
              obtain rfl := someO h
              exact Ends.mkG (.inl rfl) rfl (gh_pk [0] [21512] hB rfl rfl rfl rfl) rfl rfl
            · skip
              refine Run.skip ?_
              exact ⟨_, _, (gh_pk [1, 2, 5] [0] hB rfl rfl rfl rfl), (), h, rfl, rfl⟩
          · skip
            refine Ops.gn rfl g_313 ?_
            refine Ops.gn rfl g_313 ?_
            refine Ops.gn rfl g_313 ?_
            refine Ops.gn rfl g_313 ?_
            refine Ops.gn rfl g_313 ?_
            refine Ops.gn rfl g_313 ?_
            refine Ops.gn rfl g_313 ?_
            refine Ops.gn rfl g_313 ?_
            refine Ops.st (s := 25816) (.pkF rfl g_313 rfl) rfl rfl ?_
            refine Ops.nil ?_
            refine Run.condF rfl rfl ?_
            refine Run.skip ?_
            exact ⟨_, _, (gh_pk [1, 2, 5] [0] hB rfl rfl rfl rfl), (), h, rfl, rfl⟩
        · skip
          refine Ops.gn rfl g_312 ?_
          refine Ops.gn rfl g_312 ?_
          refine Ops.gn rfl g_312 ?_
          refine Ops.st (s := 25656) (.pkF rfl g_312 rfl) rfl rfl ?_
          refine Ops.p rfl ?_
          refine Ops.gn rfl rfl ?_
          refine Ops.gn rfl rfl ?_
          refine Ops.gn rfl rfl ?_
          refine Ops.gn rfl rfl ?_
          refine Ops.gn rfl rfl ?_
          refine Ops.gn rfl rfl ?_
          refine Ops.gn rfl rfl ?_
          refine Ops.gn rfl rfl ?_
          refine Ops.st (s := 25816) (.pkF rfl rfl rfl) rfl rfl ?_
          refine Ops.nil ?_
          refine Run.condF rfl rfl ?_
          refine Run.skip ?_
          exact ⟨_, _, (gh_pk [1, 2, 5] [0] hB rfl rfl rfl rfl), (), h, rfl, rfl⟩
      · skip
        refine Run.ops hm ?_
        refine Ops.p rfl ?_
        refine Ops.p rfl ?_
        refine Ops.p rfl ?_
        refine Ops.nil ?_
        exact ⟨m_296, Nat.lt_succ_self m_296, _, _, (gh_pk [1, 2, 5] [0] hB rfl rfl rfl rfl), _, h, rfl, rfl⟩
    · skip
      refine Run.exit ?_
      obtain rfl := someO h
      have h := hk_296
      replace h := inrO h
      exact ⟨_, _, (gh_pk [2] [0] hB rfl rfl rfl rfl), (), h, rfl, rfl⟩
  · skip
    refine Run.seq ?_
    refine Run.ops hm ?_
    refine Ops.p rfl ?_
    refine Ops.p rfl ?_
    obtain ⟨x_315, hx_315, h⟩ := bindO h
    refine Ops.st (s := 33800) (Ev.apW (f := encI) (ontoN (f := encI) rfl) (addsF rfl) rfl bt3 rfl hx_315) rfl rfl ?_
    refine Ops.p rfl ?_
    refine Ops.nil ?_
    refine Run.ret ?_
    obtain rfl := someO h
    exact Ends.mkG (.inl rfl) rfl (gh_pk [0] [33800] hB rfl rfl rfl rfl) rfl rfl
def impl_ConfOf (N : Nat) (x_1 : Node) : Option ((List Int)) :=
 (impl_ConfAt N x_1 (9223372036854775807 : Int)).bind fun y_101 =>
 some y_101
theorem sem_impl_ConfOf (N : Nat) (x_1 : Node) (r : (List Int)) (h : impl_ConfOf N x_1 = some r) : Says Try.prog 55 [.agg [VI x_1.Id, VI x_1.Term, VI x_1.Vote, VI x_1.Role, VI x_1.Lead, RO 3 (x_1.Conf.map encI), VI x_1.Log.Start, VI x_1.Log.StartTerm, RO 48 (x_1.Log.Entries.map encEntry), VI x_1.Commit, VI x_1.Clock, VI x_1.Limit, RO 3 (x_1.Votes.map encI), RO 172 (x_1.Peers.map encPeer)]] 0 [] (.sl 0 3 0 r.length) [(0, .vec 3 (r.map encI))] := by
  unfold impl_ConfOf at h
  refine Says.of_run s55 Try.call55 rfl fun B hB => ?_
  have hm : B.m ≤ 1000 := by omega
  refine Run.seq ?_
  refine Run.ops hm ?_
  refine Ops.st (s := 1000) (.bx rfl rfl) rfl rfl ?_
  refine Ops.p rfl ?_
  refine Ops.nil ?_
  refine Run.seq ?_
  refine Run.ops hm ?_
  refine Ops.p rfl ?_
  obtain ⟨y_101, hy_101, h⟩ := bindO h
  refine Ops.st (s := 5112) (Ev.call [] [] 1 (sem_impl_ConfAt N x_1 (9223372036854775807 : Int) _ hy_101) rfl rfl (.cons (.agg (.cons (.c _) (.cons (.c _) (.cons (.c _) (.cons (.c _) (.cons (.c _) (.cons (.c _) (.cons (.c _) (.cons (.c _) (.cons (.c _) (.cons (.c _) (.cons (.c _) (.cons (.c _) (.cons (.c _) (.cons (.c _) .nil))))))))))))))) (.cons (.c _) .nil)) rfl (.inl rfl) rfl rfl) rfl rfl ?_
  refine Ops.p rfl ?_
  refine Ops.nil ?_
  refine Run.ret ?_
  obtain rfl := someO h
  exact Ends.mkG (.inl rfl) rfl (gh_pk [0] [5112] hB rfl rfl rfl rfl) rfl rfl
def impl_othersOf_1 (N : Nat) (x_1 : Int) (x_2 : Node) : Option (Bool) :=
 some (x_1 == x_2.Id)
theorem sem_impl_othersOf_1 (N : Nat) (x_1 : Int) (x_2 : Node) (r : Bool) (h : impl_othersOf_1 N x_1 x_2 = some r) : Says Try.prog 151 [VI x_1, .ptr 0 0] 1 [(0, .box [VI x_2.Id, VI x_2.Term, VI x_2.Vote, VI x_2.Role, VI x_2.Lead, RO 3 (x_2.Conf.map encI), VI x_2.Log.Start, VI x_2.Log.StartTerm, RO 48 (x_2.Log.Entries.map encEntry), VI x_2.Commit, VI x_2.Clock, VI x_2.Limit, RO 3 (x_2.Votes.map encI), RO 172 (x_2.Peers.map encPeer)])] (VB r) [(0, .box [VI x_2.Id, VI x_2.Term, VI x_2.Vote, VI x_2.Role, VI x_2.Lead, RO 3 (x_2.Conf.map encI), VI x_2.Log.Start, VI x_2.Log.StartTerm, RO 48 (x_2.Log.Entries.map encEntry), VI x_2.Commit, VI x_2.Clock, VI x_2.Limit, RO 3 (x_2.Votes.map encI), RO 172 (x_2.Peers.map encPeer)])] := by
  unfold impl_othersOf_1 at h
  refine Says.of_run s151 Try.call151 rfl fun B hB => ?_
  have hm : B.m ≤ 1000 := by omega
  refine Run.seq ?_
  refine Run.ops hm ?_
  refine Ops.p rfl ?_
  refine Ops.nil ?_
  refine Run.seq ?_
  refine Run.ops hm ?_
  refine Ops.p rfl ?_
  refine Ops.p rfl ?_
  refine Ops.p rfl ?_
  refine Ops.p rfl ?_
  refine Ops.p rfl ?_
  refine Ops.nil ?_
  refine Run.ret ?_
  obtain rfl := someO h
  exact Ends.mkG (.inl rfl) rfl (gh_pk [0] [0] hB rfl rfl rfl rfl) rfl rfl
def slices_IndexFunc_int_l1 (N : Nat) (x_1 : (List Int)) (x_2 : Node) : Nat → Int → Option ((Int) ⊕ (Unit))
 | 0, _ => none
 | m + 1, x_194 =>
 (if (decide (x_194 < (x_1.length : Int))) = true then
 (at? x_1 x_194).bind fun x_219 =>
 (impl_othersOf_1 N x_219 x_2).bind fun y_220 =>
 (if y_220 = true then
 some (Sum.inl x_194)
 else
 slices_IndexFunc_int_l1 N x_1 x_2 m (w64 (x_194 + (1 : Int))))
 else
 some (Sum.inr ()))
def slices_IndexFunc_int_l1_r (N : Nat) (x_1 : (List Int)) (x_2 : Node) : (List Int) → Int → Option ((Int) ⊕ (Unit))
 | [], x_194 =>
 some (Sum.inr ())
 | hd :: tl, x_194 =>
 (some hd).bind fun x_219 =>
 (impl_othersOf_1 N x_219 x_2).bind fun y_220 =>
 (if y_220 = true then
 some (Sum.inl x_194)
 else
 slices_IndexFunc_int_l1_r N x_1 x_2 tl (w64 (x_194 + (1 : Int))))
theorem slices_IndexFunc_int_l1_rng (N : Nat) (x_1 : (List Int)) (x_2 : Node) (hx : x_1.length ≤ 1099511627776) : ∀ (d k m : Nat), x_1.length = k + d → d < m → slices_IndexFunc_int_l1 N x_1 x_2 m (k : Int) = slices_IndexFunc_int_l1_r N x_1 x_2 (x_1.drop k) (k : Int) := by
  intro d
  induction d with
  | zero =>
    intro k m hd hm
    obtain ⟨m, rfl⟩ : ∃ q, m = q + 1 := ⟨m - 1, by omega⟩
    rw [slices_IndexFunc_int_l1, if_neg (by simp; omega), List.drop_eq_nil_of_le (by omega), slices_IndexFunc_int_l1_r]
  | succ d ih =>
    intro k m hd hm
    obtain ⟨m, rfl⟩ : ∃ q, m = q + 1 := ⟨m - 1, by omega⟩
    have hk : k < x_1.length := by omega
    rw [slices_IndexFunc_int_l1, if_pos (by simp; omega), List.drop_eq_getElem_cons hk, slices_IndexFunc_int_l1_r]
    have h1 := at_lt hk
    have h2 := w64_succ (k := k) (by omega)
    have h3 := ih (k + 1) m
    simp only [h1, h2, h3 (by omega) (by omega)]
theorem slices_IndexFunc_int_l1_eq {N : Nat} (x_1 : (List Int)) (x_2 : Node) (hx : x_1.length ≤ 1099511627776) (hN : x_1.length < N) : slices_IndexFunc_int_l1 N x_1 x_2 N 0 = slices_IndexFunc_int_l1_r N x_1 x_2 x_1 0 := slices_IndexFunc_int_l1_rng N x_1 x_2 hx x_1.length 0 N (by omega) hN
def slices_IndexFunc_int (N : Nat) (x_1 : (List Int)) (x_2 : Node) : Option (Int) :=
 joinP (fun (v_191 : Unit) =>
 some (-1 : Int)) fun j_191 =>
 (slices_IndexFunc_int_l1 N x_1 x_2 N (0 : Int)).bind (Sum.elim (fun v_214 => some v_214) (fun (v_215 : Unit) => j_191 ()))
theorem sem_slices_IndexFunc_int (N : Nat) (x_1 : (List Int)) (x_2 : Node) (r : Int) (h : slices_IndexFunc_int N x_1 x_2 = some r) : Says Try.prog 158 [RO 3 (x_1.map encI), .fn 151 [.ptr 0 0]] 1 [(0, .box [VI x_2.Id, VI x_2.Term, VI x_2.Vote, VI x_2.Role, VI x_2.Lead, RO 3 (x_2.Conf.map encI), VI x_2.Log.Start, VI x_2.Log.StartTerm, RO 48 (x_2.Log.Entries.map encEntry), VI x_2.Commit, VI x_2.Clock, VI x_2.Limit, RO 3 (x_2.Votes.map encI), RO 172 (x_2.Peers.map encPeer)])] (VI r) [(0, .box [VI x_2.Id, VI x_2.Term, VI x_2.Vote, VI x_2.Role, VI x_2.Lead, RO 3 (x_2.Conf.map encI), VI x_2.Log.Start, VI x_2.Log.StartTerm, RO 48 (x_2.Log.Entries.map encEntry), VI x_2.Commit, VI x_2.Clock, VI x_2.Limit, RO 3 (x_2.Votes.map encI), RO 172 (x_2.Peers.map encPeer)])] := by
  unfold slices_IndexFunc_int at h
  refine Says.of_run s158 Try.call158 rfl fun B hB => ?_
  have hm : B.m ≤ 1000 := by omega
  refine Run.seq ?_
  refine Run.ops hm ?_
  refine Ops.p rfl ?_
  refine Ops.nil ?_
  refine Run.seqO h (fun (v_191 : Unit) => []) (fun (v_191 : Unit) => [(0, .box [VI x_2.Id, VI x_2.Term, VI x_2.Vote, VI x_2.Role, VI x_2.Lead, RO 3 (x_2.Conf.map encI), VI x_2.Log.Start, VI x_2.Log.StartTerm, RO 48 (x_2.Log.Entries.map encEntry), VI x_2.Commit, VI x_2.Clock, VI x_2.Limit, RO 3 (x_2.Votes.map encI), RO 172 (x_2.Peers.map encPeer)])]) (fun h => ?_) (fun v_191 h => ?_)
  · skip
    refine Run.seq ?_
    refine Run.ops hm ?_
    refine Ops.p rfl ?_
    refine Ops.st (s := 5112) (Ev.lnF rfl) rfl rfl ?_
    refine Ops.p rfl ?_
    refine Ops.nil ?_
    refine Run.block ?_
    obtain ⟨res_215, h, hk_215⟩ := bindO h
    refine Run.loop (n := N) (fun m_215 fr σ => ∃ (x_194 : Int), slices_IndexFunc_int_l1 N x_1 x_2 m_215 x_194 = some res_215 ∧ fr = [(0, RO 3 (x_1.map encI)), (1, .fn 151 [.ptr 0 0]), (7, VI (x_1.length : Int)), (8, VI x_194)] ∧ σ = [(0, .box [VI x_2.Id, VI x_2.Term, VI x_2.Vote, VI x_2.Role, VI x_2.Lead, RO 3 (x_2.Conf.map encI), VI x_2.Log.Start, VI x_2.Log.StartTerm, RO 48 (x_2.Log.Entries.map encEntry), VI x_2.Commit, VI x_2.Clock, VI x_2.Limit, RO 3 (x_2.Votes.map encI), RO 172 (x_2.Peers.map encPeer)])]) (gh_pk [0, 1, 7, 8] [0] hB rfl rfl rfl rfl) ⟨_, h, rfl, rfl⟩ ?_
    rintro m_215 fr σ ⟨x_194, h, rfl, rfl⟩
    obtain _ | m_215 := m_215
    · rw [slices_IndexFunc_int_l1] at h; cases h
    rw [slices_IndexFunc_int_l1] at h
    refine Run.seq ?_
    refine Run.ops hm ?_
    refine Ops.p rfl ?_
    refine Ops.nil ?_
    refine Run.seq ?_
    refine Run.condO rfl h (fun g_218 h => ?_) (fun g_218 h => ?_)
    · skip
      refine Run.skip ?_
      refine Run.seq ?_
      refine Run.block ?_
      refine Run.seq ?_
      refine Run.ops hm ?_
      refine Ops.p rfl ?_
      refine Ops.p rfl ?_
      refine Ops.nil ?_
      refine Run.seq ?_
      refine Run.ops hm ?_
      refine Ops.p rfl ?_
      refine Ops.p rfl ?_
      refine Ops.p rfl ?_
      obtain ⟨x_219, hx_219, h⟩ := bindO h
      refine Ops.st (s := 17432) (Ev.iaF rfl rfl hx_219) rfl rfl ?_
      refine Ops.p rfl ?_
      obtain ⟨y_220, hy_220, h⟩ := bindO h
      refine Ops.st (s := 17464) (Ev.callx [0] [] 0 rfl (sem_impl_othersOf_1 N x_219 x_2 _ hy_220) rfl rfl (.cons (.c _) (.cons (.ptr rfl) .nil)) rfl (.inl rfl) rfl rfl) rfl rfl ?_
      refine Ops.nil ?_
      refine Run.condO rfl h (fun g_221 h => ?_) (fun g_221 h => ?_)
      · skip
        refine Run.seq ?_
        refine Run.ops hm ?_
        refine Ops.p rfl ?_
        refine Ops.p rfl ?_
        refine Ops.nil ?_
        refine Run.ret ?_
        obtain rfl := someO h
        have h := hk_215
        replace h := inlO h
        obtain rfl := someO h
        exact Ends.mkG (.inl rfl) rfl (gh_pk [0] [0] hB rfl rfl rfl rfl) rfl rfl
      · skip
        refine Run.skip ?_
        refine Run.ops hm ?_
        refine Ops.p rfl ?_
        refine Ops.p rfl ?_
        refine Ops.nil ?_
        exact ⟨m_215, Nat.lt_succ_self m_215, _, _, (gh_pk [0, 1, 7, 8] [0] hB rfl rfl rfl rfl), _, h, rfl, rfl⟩
    · skip
      refine Run.exit ?_
      obtain rfl := someO h
      have h := hk_215
      replace h := inrO h
      exact ⟨_, _, (gh_pk [] [0] hB rfl rfl rfl rfl), (), h, rfl, rfl⟩
  · skip
    refine Run.seq ?_
    refine Run.ops hm ?_
    refine Ops.p rfl ?_
    refine Ops.nil ?_
    refine Run.ret ?_
    obtain rfl := someO h
    exact Ends.mkG (.inl rfl) rfl (gh_pk [0] [0] hB rfl rfl rfl rfl) rfl rfl
def slices_IndexFunc_int_i1_l1 (N : Nat) (x_1 : (List Int)) (x_2 : Node) : Nat → Int → Option ((Int) ⊕ (Unit))
 | 0, _ => none
 | m + 1, x_193 =>
 (if (decide (x_193 < ((x_1.length : Nat) : Int))) = true then
 (at? x_1 x_193).bind fun x_219 =>
 (impl_othersOf_1 N x_219 x_2).bind fun y_220 =>
 (if y_220 = true then
 some (Sum.inl x_193)
 else
 slices_IndexFunc_int_i1_l1 N x_1 x_2 m (w64 (x_193 + (1 : Int))))
 else
 some (Sum.inr ()))
def slices_IndexFunc_int_i1 (N : Nat) (x_1 : (List Int)) (x_2 : Node) : Option (Int) :=
 joinP (fun (v_191 : Unit) =>
 some (-1 : Int)) fun j_191 =>
 (slices_IndexFunc_int_i1_l1 N x_1 x_2 N (0 : Int)).bind (Sum.elim (fun v_214 => some v_214) (fun (v_215 : Unit) => j_191 ()))
theorem sem_slices_IndexFunc_int_i1 (N : Nat) (x_1 : (List Int)) (x_2 : Node) (r : Int) (h : slices_IndexFunc_int_i1 N x_1 x_2 = some r) : Says Try.prog 158 [.sl 0 3 0 x_1.length, .fn 151 [.ptr 1 0]] 2 [(0, .vec 3 (x_1.map encI)), (1, .box [VI x_2.Id, VI x_2.Term, VI x_2.Vote, VI x_2.Role, VI x_2.Lead, RO 3 (x_2.Conf.map encI), VI x_2.Log.Start, VI x_2.Log.StartTerm, RO 48 (x_2.Log.Entries.map encEntry), VI x_2.Commit, VI x_2.Clock, VI x_2.Limit, RO 3 (x_2.Votes.map encI), RO 172 (x_2.Peers.map encPeer)])] (VI r) [(0, .vec 3 (x_1.map encI)), (1, .box [VI x_2.Id, VI x_2.Term, VI x_2.Vote, VI x_2.Role, VI x_2.Lead, RO 3 (x_2.Conf.map encI), VI x_2.Log.Start, VI x_2.Log.StartTerm, RO 48 (x_2.Log.Entries.map encEntry), VI x_2.Commit, VI x_2.Clock, VI x_2.Limit, RO 3 (x_2.Votes.map encI), RO 172 (x_2.Peers.map encPeer)])] := by
  unfold slices_IndexFunc_int_i1 at h
  refine Says.of_run s158 Try.call158 rfl fun B hB => ?_
  have hm : B.m ≤ 1000 := by omega
  refine Run.seq ?_
  refine Run.ops hm ?_
  refine Ops.p rfl ?_
  refine Ops.nil ?_
  refine Run.seqO h (fun (v_191 : Unit) => []) (fun (v_191 : Unit) => [(0, .vec 3 (x_1.map encI)), (1, .box [VI x_2.Id, VI x_2.Term, VI x_2.Vote, VI x_2.Role, VI x_2.Lead, RO 3 (x_2.Conf.map encI), VI x_2.Log.Start, VI x_2.Log.StartTerm, RO 48 (x_2.Log.Entries.map encEntry), VI x_2.Commit, VI x_2.Clock, VI x_2.Limit, RO 3 (x_2.Votes.map encI), RO 172 (x_2.Peers.map encPeer)])]) (fun h => ?_) (fun v_191 h => ?_)
  · skip
    refine Run.seq ?_
    refine Run.ops hm ?_
    refine Ops.p rfl ?_
    refine Ops.p rfl ?_
    refine Ops.p rfl ?_
    refine Ops.nil ?_
    refine Run.block ?_
    obtain ⟨res_215, h, hk_215⟩ := bindO h
    refine Run.loop (n := N) (fun m_215 fr σ => ∃ (x_193 : Int), slices_IndexFunc_int_i1_l1 N x_1 x_2 m_215 x_193 = some res_215 ∧ fr = [(0, .sl 0 3 0 x_1.length), (1, .fn 151 [.ptr 1 0]), (7, VI ((x_1.length : Nat) : Int)), (8, VI x_193)] ∧ σ = [(0, .vec 3 (x_1.map encI)), (1, .box [VI x_2.Id, VI x_2.Term, VI x_2.Vote, VI x_2.Role, VI x_2.Lead, RO 3 (x_2.Conf.map encI), VI x_2.Log.Start, VI x_2.Log.StartTerm, RO 48 (x_2.Log.Entries.map encEntry), VI x_2.Commit, VI x_2.Clock, VI x_2.Limit, RO 3 (x_2.Votes.map encI), RO 172 (x_2.Peers.map encPeer)])]) (gh_pk [0, 1, 7, 8] [0, 1] hB rfl rfl rfl rfl) ⟨_, h, rfl, rfl⟩ ?_
    rintro m_215 fr σ ⟨x_193, h, rfl, rfl⟩
    obtain _ | m_215 := m_215
    · rw [slices_IndexFunc_int_i1_l1] at h; cases h
    rw [slices_IndexFunc_int_i1_l1] at h
    refine Run.seq ?_
    refine Run.ops hm ?_
    refine Ops.p rfl ?_
    refine Ops.nil ?_
    refine Run.seq ?_
    refine Run.condO rfl h (fun g_218 h => ?_) (fun g_218 h => ?_)
    · skip
      refine Run.skip ?_
      refine Run.seq ?_
      refine Run.block ?_
      refine Run.seq ?_
      refine Run.ops hm ?_
      refine Ops.p rfl ?_
      refine Ops.p rfl ?_
      refine Ops.nil ?_
      refine Run.seq ?_
      refine Run.ops hm ?_
      refine Ops.p rfl ?_
      refine Ops.p rfl ?_
      refine Ops.p rfl ?_
      obtain ⟨x_219, hx_219, h⟩ := bindO h
      refine Ops.st (s := 17432) (Ev.iaW rfl rfl rfl hx_219) rfl rfl ?_
      refine Ops.st (s := 17448) (Ev.ldE (f := encI) rfl rfl (at_some hx_219).2 rfl rfl rfl) rfl rfl ?_
      obtain ⟨y_220, hy_220, h⟩ := bindO h
      refine Ops.st (s := 17464) (Ev.callx [1] [] 0 rfl (sem_impl_othersOf_1 N x_219 x_2 _ hy_220) rfl rfl (.cons (.c _) (.cons (.ptr rfl) .nil)) rfl (.inl rfl) rfl rfl) rfl rfl ?_
      refine Ops.nil ?_
      refine Run.condO rfl h (fun g_221 h => ?_) (fun g_221 h => ?_)
      · skip
        refine Run.seq ?_
        refine Run.ops hm ?_
        refine Ops.p rfl ?_
        refine Ops.p rfl ?_
        refine Ops.nil ?_
        refine Run.ret ?_
        obtain rfl := someO h
        have h := hk_215
        replace h := inlO h
        obtain rfl := someO h
        exact Ends.mkG (.inl rfl) rfl (gh_pk [0] [0, 1] hB rfl rfl rfl rfl) rfl rfl
      · skip
        refine Run.skip ?_
        refine Run.ops hm ?_
        refine Ops.p rfl ?_
        refine Ops.p rfl ?_
        refine Ops.nil ?_
        exact ⟨m_215, Nat.lt_succ_self m_215, _, _, (gh_pk [0, 1, 7, 8] [0, 1] hB rfl rfl rfl rfl), _, h, rfl, rfl⟩
    · skip
      refine Run.exit ?_
      obtain rfl := someO h
      have h := hk_215
      replace h := inrO h
      exact ⟨_, _, (gh_pk [] [0, 1] hB rfl rfl rfl rfl), (), h, rfl, rfl⟩
  · skip
    refine Run.seq ?_
    refine Run.ops hm ?_
    refine Ops.p rfl ?_
    refine Ops.nil ?_
    refine Run.ret ?_
    obtain rfl := someO h
    exact Ends.mkG (.inl rfl) rfl (gh_pk [0] [0, 1] hB rfl rfl rfl rfl) rfl rfl
def slices_DeleteFunc_int_l1 (N : Nat) (x_2 : Node) : Nat → Int → Int → (List Int) → Option (Int × (List Int))
 | 0, _, _, _ => none
 | m + 1, x_262, x_263, x_264 =>
 (if (decide (x_263 < ((x_264.length : Nat) : Int))) = true then
 joinP (fun (v_304 : Int × (List Int)) =>
 slices_DeleteFunc_int_l1 N x_2 m v_304.1 (w64 (x_263 + (1 : Int))) v_304.2) fun j_304 =>
 (at? x_264 x_263).bind fun x_306 =>
 (impl_othersOf_1 N x_306 x_2).bind fun y_307 =>
 (if (!y_307) = true then
 (at? x_264 x_262).bind fun x_310 =>
 j_304 (w64 (x_262 + (1 : Int)), (x_264.set x_262.toNat x_306))
 else
 j_304 (x_262, x_264))
 else
 some (x_262, x_264))
def slices_DeleteFunc_int (N : Nat) (x_1 : (List Int)) (x_2 : Node) : Option (Nat × (List Int)) :=
 (slices_IndexFunc_int_i1 N x_1 x_2).bind fun y_209 =>
 (if (y_209 == (-1 : Int)) = true then
 some (x_1.length, x_1)
 else
 joinP (fun (v_261 : Int × (List Int)) =>
 (drop? v_261.2 v_261.1).bind fun x_313 =>
 (clr? (0 : Int) v_261.2 v_261.1.toNat (v_261.2.length - v_261.1.toNat)).bind fun x_314 =>
 (take? x_314 v_261.1).bind fun x_315 =>
 some (v_261.1.toNat, x_314)) fun j_261 =>
 (slices_DeleteFunc_int_l1 N x_2 N y_209 (w64 (y_209 + (1 : Int))) x_1).bind (fun (v_294 : Int × (List Int)) => j_261 (v_294.1, v_294.2)))
theorem sem_slices_DeleteFunc_int (N : Nat) (x_1 : (List Int)) (x_2 : Node) (r : Nat × (List Int)) (h : slices_DeleteFunc_int N x_1 x_2 = some r) : Says Try.prog 150 [.sl 0 3 0 x_1.length, .fn 151 [.ptr 1 0]] 2 [(0, .vec 3 (x_1.map encI)), (1, .box [VI x_2.Id, VI x_2.Term, VI x_2.Vote, VI x_2.Role, VI x_2.Lead, RO 3 (x_2.Conf.map encI), VI x_2.Log.Start, VI x_2.Log.StartTerm, RO 48 (x_2.Log.Entries.map encEntry), VI x_2.Commit, VI x_2.Clock, VI x_2.Limit, RO 3 (x_2.Votes.map encI), RO 172 (x_2.Peers.map encPeer)])] (.sl 0 3 0 r.1) [(0, .vec 3 (r.2.map encI)), (1, .box [VI x_2.Id, VI x_2.Term, VI x_2.Vote, VI x_2.Role, VI x_2.Lead, RO 3 (x_2.Conf.map encI), VI x_2.Log.Start, VI x_2.Log.StartTerm, RO 48 (x_2.Log.Entries.map encEntry), VI x_2.Commit, VI x_2.Clock, VI x_2.Limit, RO 3 (x_2.Votes.map encI), RO 172 (x_2.Peers.map encPeer)])] := by
  unfold slices_DeleteFunc_int at h
  refine Says.of_run s150 Try.call150 rfl fun B hB => ?_
  have hm : B.m ≤ 1000 := by omega
  refine Run.seq ?_
  refine Run.ops hm ?_
  refine Ops.p rfl ?_
  refine Ops.nil ?_
  refine Run.seq ?_
  refine Run.ops hm ?_
  refine Ops.p rfl ?_
  refine Ops.p rfl ?_
  obtain ⟨y_209, hy_209, h⟩ := bindO h
  refine Ops.st (s := 5128) (Ev.call [0, 1] [] 0 (sem_slices_IndexFunc_int_i1 N x_1 x_2 _ hy_209) rfl rfl (.cons (.sl rfl) (.cons (.fn (.cons (.ptr rfl) .nil)) .nil)) rfl (.inl rfl) rfl rfl) rfl rfl ?_
  refine Ops.p rfl ?_
  refine Ops.nil ?_
  refine Run.seq ?_
  refine Run.seq ?_
  refine Run.ops hm ?_
  refine Ops.p rfl ?_
  refine Ops.p rfl ?_
  refine Ops.nil ?_
  refine Run.condO rfl h (fun g_211 h => ?_) (fun g_211 h => ?_)
  · skip
    refine Run.seq ?_
    refine Run.ops hm ?_
    refine Ops.p rfl ?_
    refine Ops.p rfl ?_
    refine Ops.nil ?_
    refine Run.ret ?_
    obtain rfl := someO h
    exact Ends.mkG (.inl rfl) rfl (gh_pk [0] [0, 1] hB rfl rfl rfl rfl) rfl rfl
  · skip
    refine Run.skip ?_
    refine Run.seqO h (fun (v_261 : Int × (List Int)) => [(0, .sl 0 3 0 v_261.2.length), (5, VI v_261.1)]) (fun (v_261 : Int × (List Int)) => [(0, .vec 3 (v_261.2.map encI)), (1, .box [VI x_2.Id, VI x_2.Term, VI x_2.Vote, VI x_2.Role, VI x_2.Lead, RO 3 (x_2.Conf.map encI), VI x_2.Log.Start, VI x_2.Log.StartTerm, RO 48 (x_2.Log.Entries.map encEntry), VI x_2.Commit, VI x_2.Clock, VI x_2.Limit, RO 3 (x_2.Votes.map encI), RO 172 (x_2.Peers.map encPeer)])]) (fun h => ?_) (fun v_261 h => ?_)
    · skip
      refine Run.seq ?_
      refine Run.ops hm ?_
      refine Ops.p rfl ?_
      refine Ops.p rfl ?_
      refine Ops.p rfl ?_
      refine Ops.nil ?_
      refine Run.block ?_
      obtain ⟨res_294, h, hk_294⟩ := bindO h
      refine Run.loop (n := N) (fun m_294 fr σ => ∃ (x_262 : Int), ∃ (x_263 : Int), ∃ (x_264 : (List Int)), slices_DeleteFunc_int_l1 N x_2 m_294 x_262 x_263 x_264 = some res_294 ∧ fr = [(0, .sl 0 3 0 x_264.length), (1, .fn 151 [.ptr 1 0]), (5, VI x_262), (6, VI x_263)] ∧ σ = [(0, .vec 3 (x_264.map encI)), (1, .box [VI x_2.Id, VI x_2.Term, VI x_2.Vote, VI x_2.Role, VI x_2.Lead, RO 3 (x_2.Conf.map encI), VI x_2.Log.Start, VI x_2.Log.StartTerm, RO 48 (x_2.Log.Entries.map encEntry), VI x_2.Commit, VI x_2.Clock, VI x_2.Limit, RO 3 (x_2.Votes.map encI), RO 172 (x_2.Peers.map encPeer)])]) (gh_pk [0, 1, 5, 6] [0, 1] hB rfl rfl rfl rfl) ⟨_, _, _, h, rfl, rfl⟩ ?_
      rintro m_294 fr σ ⟨x_262, x_263, x_264, h, rfl, rfl⟩
      obtain _ | m_294 := m_294
      · rw [slices_DeleteFunc_int_l1] at h; cases h
      rw [slices_DeleteFunc_int_l1] at h
      refine Run.seq ?_
      refine Run.seq ?_
      refine Run.ops hm ?_
      refine Ops.p rfl ?_
      refine Ops.p rfl ?_
      refine Ops.p rfl ?_
      refine Ops.p rfl ?_
      refine Ops.nil ?_
      refine Run.condO rfl h (fun g_297 h => ?_) (fun g_297 h => ?_)
      · skip
        refine Run.skip ?_
        refine Run.seqO h (fun (v_304 : Int × (List Int)) => [(0, .sl 0 3 0 v_304.2.length), (1, .fn 151 [.ptr 1 0]), (5, VI v_304.1), (6, VI x_263)]) (fun (v_304 : Int × (List Int)) => [(0, .vec 3 (v_304.2.map encI)), (1, .box [VI x_2.Id, VI x_2.Term, VI x_2.Vote, VI x_2.Role, VI x_2.Lead, RO 3 (x_2.Conf.map encI), VI x_2.Log.Start, VI x_2.Log.StartTerm, RO 48 (x_2.Log.Entries.map encEntry), VI x_2.Commit, VI x_2.Clock, VI x_2.Limit, RO 3 (x_2.Votes.map encI), RO 172 (x_2.Peers.map encPeer)])]) (fun h => ?_) (fun v_304 h => ?_)
        · skip
          refine Run.block ?_
          refine Run.seq ?_
          refine Run.ops hm ?_
          refine Ops.p rfl ?_
          refine Ops.p rfl ?_
          obtain ⟨x_306, hx_306, h⟩ := bindO h
          refine Ops.st (s := 29704) (Ev.iaW rfl rfl rfl hx_306) rfl rfl ?_
          refine Ops.st (s := 29720) (Ev.ldE (f := encI) rfl rfl (at_some hx_306).2 rfl rfl rfl) rfl rfl ?_
          refine Ops.p rfl ?_
          refine Ops.nil ?_
          refine Run.seq ?_
          refine Run.ops hm ?_
          refine Ops.p rfl ?_
          refine Ops.p rfl ?_
          obtain ⟨y_307, hy_307, h⟩ := bindO h
          refine Ops.st (s := 33800) (Ev.callx [1] [] 0 rfl (sem_impl_othersOf_1 N x_306 x_2 _ hy_307) rfl rfl (.cons (.c _) (.cons (.ptr rfl) .nil)) rfl (.inl rfl) rfl rfl) rfl rfl ?_
          refine Ops.p rfl ?_
          refine Ops.nil ?_
          refine Run.condO rfl h (fun g_308 h => ?_) (fun g_308 h => ?_)
          · skip
            refine Run.seq ?_
            refine Run.ops hm ?_
            refine Ops.p rfl ?_
            refine Ops.p rfl ?_
            refine Ops.p rfl ?_
            obtain ⟨x_310, hx_310, h⟩ := bindO h
            refine Ops.st (s := 37912) (Ev.iaW rfl rfl rfl hx_310) rfl rfl ?_
            refine Ops.s0 (s := 37928) (Ev.stE (f := encI) (v' := x_306) rfl rfl (at_some hx_310).2 rfl (.cons (.c _) .nil) rfl rfl rfl rfl rfl) rfl rfl ?_
            refine Ops.nil ?_
            refine Run.ops hm ?_
            refine Ops.p rfl ?_
            refine Ops.p rfl ?_
            refine Ops.p rfl ?_
            refine Ops.nil ?_
            exact ⟨_, _, (gh_pk [0, 1, 5, 6] [0, 1] hB rfl rfl (by first | rfl | (simp only [List.length_set]; done) | (simp only [List.length_set]; rfl)) (by first | rfl | (simp only [List.length_set]; done) | (simp only [List.length_set]; rfl))), (w64 (x_262 + (1 : Int)), (x_264.set x_262.toNat x_306)), h, rfl, rfl⟩
          · skip
            refine Run.skip ?_
            exact ⟨_, _, (gh_pk [0, 1, 5, 6] [0, 1] hB rfl rfl rfl rfl), (x_262, x_264), h, rfl, rfl⟩
        · skip
          refine Run.ops hm ?_
          refine Ops.p rfl ?_
          refine Ops.p rfl ?_
          refine Ops.p rfl ?_
          refine Ops.nil ?_
          exact ⟨m_294, Nat.lt_succ_self m_294, _, _, (gh_pk [0, 1, 5, 6] [0, 1] hB rfl rfl rfl rfl), _, _, _, h, rfl, rfl⟩
      · skip
        refine Run.exit ?_
        obtain rfl := someO h
        have h := hk_294
        exact ⟨_, _, (gh_pk [0, 5] [0, 1] hB rfl rfl rfl rfl), (x_262, x_264), h, rfl, rfl⟩
    · skip
      refine Run.seq ?_
      refine Run.ops hm ?_
      refine Ops.p rfl ?_
      refine Ops.p rfl ?_
      obtain ⟨x_313, hx_313, h⟩ := bindO h
      refine Ops.st (s := 46088) (Ev.slWl (xs := v_261.2) rfl rfl rfl hx_313) rfl rfl ?_
      obtain ⟨x_314, hx_314, h⟩ := bindO h
      refine Ops.s0 (s := 46104) (Ev.clrW (f := encI) (zv := (0 : Int)) rfl rfl rfl hx_314) rfl rfl ?_
      refine Ops.nil ?_
      refine Run.seq ?_
      refine Run.ops hm ?_
      refine Ops.p rfl ?_
      refine Ops.p rfl ?_
      obtain ⟨x_315, hx_315, h⟩ := bindO h
      refine Ops.st (s := 50184) (Ev.slWh (xs := x_314) rfl (clr_len hx_314) rfl hx_315) rfl rfl ?_
      refine Ops.p rfl ?_
      refine Ops.nil ?_
      refine Run.ret ?_
      obtain rfl := someO h
      exact Ends.mkG (.inl rfl) rfl (gh_pk [0] [0, 1] hB rfl rfl rfl rfl) (by first | rfl | (simp only [List.length_set, (clr_len hx_314)]; done) | (simp only [List.length_set, (clr_len hx_314)]; rfl)) (by first | rfl | (simp only [List.length_set, (clr_len hx_314)]; done) | (simp only [List.length_set, (clr_len hx_314)]; rfl))
def impl_othersOf (N : Nat) (x_1 : Node) : Option (Nat × (List Int)) :=
 (impl_ConfOf N x_1).bind fun y_103 =>
 (slices_DeleteFunc_int N y_103 x_1).bind fun y_104 =>
 (len? y_103 y_104.2).bind fun y_105 =>
 some (y_104.1, y_104.2)
theorem sem_impl_othersOf (N : Nat) (x_1 : Node) (r : Nat × (List Int)) (h : impl_othersOf N x_1 = some r) : Says Try.prog 121 [.agg [VI x_1.Id, VI x_1.Term, VI x_1.Vote, VI x_1.Role, VI x_1.Lead, RO 3 (x_1.Conf.map encI), VI x_1.Log.Start, VI x_1.Log.StartTerm, RO 48 (x_1.Log.Entries.map encEntry), VI x_1.Commit, VI x_1.Clock, VI x_1.Limit, RO 3 (x_1.Votes.map encI), RO 172 (x_1.Peers.map encPeer)]] 0 [] (.sl 0 3 0 r.1) [(0, .vec 3 (r.2.map encI))] := by
  unfold impl_othersOf at h
  refine Says.of_run s121 Try.call121 rfl fun B hB => ?_
  have hm : B.m ≤ 1000 := by omega
  refine Run.seq ?_
  refine Run.ops hm ?_
  refine Ops.st (s := 1000) (.bx rfl rfl) rfl rfl ?_
  refine Ops.p rfl ?_
  refine Ops.nil ?_
  refine Run.seq ?_
  refine Run.ops hm ?_
  refine Ops.p rfl ?_
  obtain ⟨y_103, hy_103, h⟩ := bindO h
  refine Ops.st (s := 5112) (Ev.call [] [] 1 (sem_impl_ConfOf N x_1 _ hy_103) rfl rfl (.cons (.agg (.cons (.c _) (.cons (.c _) (.cons (.c _) (.cons (.c _) (.cons (.c _) (.cons (.c _) (.cons (.c _) (.cons (.c _) (.cons (.c _) (.cons (.c _) (.cons (.c _) (.cons (.c _) (.cons (.c _) (.cons (.c _) .nil))))))))))))))) .nil) rfl (.inl rfl) rfl rfl) rfl rfl ?_
  refine Ops.p rfl ?_
  obtain ⟨y_104, hy_104, h⟩ := bindO h
  obtain ⟨y_105, hy_105, h⟩ := bindO h
  refine Ops.st (s := 5144) (Ev.call [5112, 1000] [] 0 (sem_slices_DeleteFunc_int N y_103 x_1 _ hy_104) rfl rfl (.cons (.sl rfl) (.cons (.fn (.cons (.ptr rfl) .nil)) .nil)) rfl (.inl rfl) rfl rfl) rfl rfl ?_
  refine Ops.p rfl ?_
  refine Ops.nil ?_
  refine Run.ret ?_
  obtain rfl := someO h
  exact Ends.mkG (.inl rfl) rfl (gh_pk [0] [5112] hB rfl rfl rfl rfl) (by first | rfl | (simp only [List.length_set, (len_some hy_105)]; done) | (simp only [List.length_set, (len_some hy_105)]; rfl)) (by first | rfl | (simp only [List.length_set, (len_some hy_105)]; done) | (simp only [List.length_set, (len_some hy_105)]; rfl))
def slices_Equal_int_l1 (N : Nat) (x_1 : (List Int)) (x_2 : (List Int)) : Nat → Int → Option ((Bool) ⊕ (Unit))
 | 0, _ => none
 | m + 1, x_160 =>
 (if (decide (x_160 < (x_1.length : Int))) = true then
 (at? x_1 x_160).bind fun x_171 =>
 (at? x_2 x_160).bind fun x_172 =>
 (if (x_171 != x_172) = true then
 some (Sum.inl false)
 else
 slices_Equal_int_l1 N x_1 x_2 m (w64 (x_160 + (1 : Int))))
 else
 some (Sum.inr ()))
def slices_Equal_int_l1_r (N : Nat) (x_1 : (List Int)) (x_2 : (List Int)) : (List Int) → Int → Option ((Bool) ⊕ (Unit))
 | [], x_160 =>
 some (Sum.inr ())
 | hd :: tl, x_160 =>
 (some hd).bind fun x_171 =>
 (at? x_2 x_160).bind fun x_172 =>
 (if (x_171 != x_172) = true then
 some (Sum.inl false)
 else
 slices_Equal_int_l1_r N x_1 x_2 tl (w64 (x_160 + (1 : Int))))
theorem slices_Equal_int_l1_rng (N : Nat) (x_1 : (List Int)) (x_2 : (List Int)) (hx : x_1.length ≤ 1099511627776) : ∀ (d k m : Nat), x_1.length = k + d → d < m → slices_Equal_int_l1 N x_1 x_2 m (k : Int) = slices_Equal_int_l1_r N x_1 x_2 (x_1.drop k) (k : Int) := by
  intro d
  induction d with
  | zero =>
    intro k m hd hm
    obtain ⟨m, rfl⟩ : ∃ q, m = q + 1 := ⟨m - 1, by omega⟩
    rw [slices_Equal_int_l1, if_neg (by simp; omega), List.drop_eq_nil_of_le (by omega), slices_Equal_int_l1_r]
  | succ d ih =>
    intro k m hd hm
    obtain ⟨m, rfl⟩ : ∃ q, m = q + 1 := ⟨m - 1, by omega⟩
    have hk : k < x_1.length := by omega
    rw [slices_Equal_int_l1, if_pos (by simp; omega), List.drop_eq_getElem_cons hk, slices_Equal_int_l1_r]
    have h1 := at_lt hk
    have h2 := w64_succ (k := k) (by omega)
    have h3 := ih (k + 1) m
    simp only [h1, h2, h3 (by omega) (by omega)]
theorem slices_Equal_int_l1_eq {N : Nat} (x_1 : (List Int)) (x_2 : (List Int)) (hx : x_1.length ≤ 1099511627776) (hN : x_1.length < N) : slices_Equal_int_l1 N x_1 x_2 N 0 = slices_Equal_int_l1_r N x_1 x_2 x_1 0 := slices_Equal_int_l1_rng N x_1 x_2 hx x_1.length 0 N (by omega) hN
def slices_Equal_int (N : Nat) (x_1 : (List Int)) (x_2 : (List Int)) : Option (Bool) :=
 (if ((x_1.length : Int) != (x_2.length : Int)) = true then
 some false
 else
 joinP (fun (v_156 : Unit) =>
 some true) fun j_156 =>
 (slices_Equal_int_l1 N x_1 x_2 N (0 : Int)).bind (Sum.elim (fun v_166 => some v_166) (fun (v_167 : Unit) => j_156 ())))
theorem sem_slices_Equal_int (N : Nat) (x_1 : (List Int)) (x_2 : (List Int)) (r : Bool) (h : slices_Equal_int N x_1 x_2 = some r) : Says Try.prog 155 [RO 3 (x_1.map encI), RO 3 (x_2.map encI)] 0 [] (VB r) [] := by
  unfold slices_Equal_int at h
  refine Says.of_run s155 Try.call155 rfl fun B hB => ?_
  have hm : B.m ≤ 1000 := by omega
  refine Run.seq ?_
  refine Run.ops hm ?_
  refine Ops.p rfl ?_
  refine Ops.nil ?_
  refine Run.seq ?_
  refine Run.seq ?_
  refine Run.ops hm ?_
  refine Ops.p rfl ?_
  refine Ops.st (s := 5112) (Ev.lnF rfl) rfl rfl ?_
  refine Ops.p rfl ?_
  refine Ops.st (s := 5144) (Ev.lnF rfl) rfl rfl ?_
  refine Ops.p rfl ?_
  refine Ops.nil ?_
  refine Run.condO rfl h (fun g_138 h => ?_) (fun g_138 h => ?_)
  · skip
    refine Run.seq ?_
    refine Run.ops hm ?_
    refine Ops.p rfl ?_
    refine Ops.nil ?_
    refine Run.ret ?_
    obtain rfl := someO h
    exact Ends.mkG (.inl rfl) rfl (gh_pk [0] [] hB rfl rfl rfl rfl) rfl rfl
  · skip
    refine Run.skip ?_
    refine Run.seqO h (fun (v_156 : Unit) => []) (fun (v_156 : Unit) => []) (fun h => ?_) (fun v_156 h => ?_)
    · skip
      refine Run.seq ?_
      refine Run.ops hm ?_
      refine Ops.p rfl ?_
      refine Ops.st (s := 13304) (Ev.lnF rfl) rfl rfl ?_
      refine Ops.p rfl ?_
      refine Ops.nil ?_
      refine Run.block ?_
      obtain ⟨res_167, h, hk_167⟩ := bindO h
      refine Run.loop (n := N) (fun m_167 fr σ => ∃ (x_160 : Int), slices_Equal_int_l1 N x_1 x_2 m_167 x_160 = some res_167 ∧ fr = [(0, RO 3 (x_1.map encI)), (1, RO 3 (x_2.map encI)), (12, VI (x_1.length : Int)), (13, VI x_160)] ∧ σ = []) (gh_pk [0, 1, 12, 13] [] hB rfl rfl rfl rfl) ⟨_, h, rfl, rfl⟩ ?_
      rintro m_167 fr σ ⟨x_160, h, rfl, rfl⟩
      obtain _ | m_167 := m_167
      · rw [slices_Equal_int_l1] at h; cases h
      rw [slices_Equal_int_l1] at h
      refine Run.seq ?_
      refine Run.ops hm ?_
      refine Ops.p rfl ?_
      refine Ops.nil ?_
      refine Run.seq ?_
      refine Run.condO rfl h (fun g_170 h => ?_) (fun g_170 h => ?_)
      · skip
        refine Run.skip ?_
        refine Run.seq ?_
        refine Run.block ?_
        refine Run.seq ?_
        refine Run.ops hm ?_
        refine Ops.p rfl ?_
        refine Ops.p rfl ?_
        refine Ops.nil ?_
        refine Run.seq ?_
        refine Run.draw hm hmix ?_
        refine OpsD.p rfl ?_
        refine OpsD.p rfl ?_
        obtain ⟨x_171, hx_171, h⟩ := bindO h
        refine OpsD.st (s := 25608) (Ev.iaF rfl rfl hx_171) rfl rfl ?_
        refine OpsD.p rfl ?_
        refine OpsD.p rfl ?_
        refine OpsD.p rfl ?_
        obtain ⟨x_172, hx_172, h⟩ := bindO h
        refine OpsD.st (s := 25672) (Ev.iaF rfl rfl hx_172) rfl rfl ?_
        refine OpsD.p rfl ?_
        refine OpsD.p rfl ?_
        refine OpsD.nil ⟨by kernel_rfl, ?_⟩
        refine Run.condO rfl h (fun g_173 h => ?_) (fun g_173 h => ?_)
        · skip
          refine Run.seq ?_
          refine Run.ops hm ?_
          refine Ops.p rfl ?_
          refine Ops.nil ?_
          refine Run.ret ?_
          obtain rfl := someO h
          have h := hk_167
          replace h := inlO h
          obtain rfl := someO h
          exact Ends.mkG (.inl rfl) rfl (gh_pk [0] [] hB rfl rfl rfl rfl) rfl rfl
        · skip
          refine Run.skip ?_
          refine Run.ops hm ?_
          refine Ops.p rfl ?_
          refine Ops.p rfl ?_
          refine Ops.nil ?_
          exact ⟨m_167, Nat.lt_succ_self m_167, _, _, (gh_pk [0, 1, 12, 13] [] hB rfl rfl rfl rfl), _, h, rfl, rfl⟩
      · skip
        refine Run.exit ?_
        obtain rfl := someO h
        have h := hk_167
        replace h := inrO h
        exact ⟨_, _, (gh_pk [] [] hB rfl rfl rfl rfl), (), h, rfl, rfl⟩
    · skip
      refine Run.seq ?_
      refine Run.ops hm ?_
      refine Ops.p rfl ?_
      refine Ops.nil ?_
      refine Run.ret ?_
      obtain rfl := someO h
      exact Ends.mkG (.inl rfl) rfl (gh_pk [0] [] hB rfl rfl rfl rfl) rfl rfl
end Go.Proofs.Ytebbgdjmplceiaa.Pe.FnExactNodeNew
