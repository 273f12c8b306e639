/- Functions, as pure functions; and that Go does just that. -/
import Derived.Test.YtebbgdjmplceiaaPeFFnExactEventOk0
namespace Go.Proofs.Ytebbgdjmplceiaa.Pe.FnExactEventOk
open Go Go.RowKit
set_option linter.unusedVariables false
set_option linter.unusedSimpArgs false
set_option maxHeartbeats 40000000
def impl_ConfOk_l1 (N : Nat) (x_1 : (List Int)) : Nat → Int → Option ((Bool) ⊕ (Unit))
 | 0, _ => none
 | m + 1, x_181 =>
 (if (decide (x_181 < (x_1.length : Int))) = true then
 (at? x_1 x_181).bind fun x_197 =>
 (impl_within N x_197 (1 : Int) (4 : Int)).bind fun y_198 =>
 (if (!y_198) = true then
 some (Sum.inl false)
 else
 (if (decide (x_181 > (0 : Int))) = true then
 (at? x_1 (w64 (x_181 - (1 : Int)))).bind fun x_201 =>
 (if (decide (x_201 ≥ x_197)) = true then
 some (Sum.inl false)
 else
 impl_ConfOk_l1 N x_1 m (w64 (x_181 + (1 : Int))))
 else
 impl_ConfOk_l1 N x_1 m (w64 (x_181 + (1 : Int)))))
 else
 some (Sum.inr ()))
def impl_ConfOk_l1_r (N : Nat) (x_1 : (List Int)) : (List Int) → Int → Option ((Bool) ⊕ (Unit))
 | [], x_181 =>
 some (Sum.inr ())
 | hd :: tl, x_181 =>
 (some hd).bind fun x_197 =>
 (impl_within N x_197 (1 : Int) (4 : Int)).bind fun y_198 =>
 (if (!y_198) = true then
 some (Sum.inl false)
 else
 (if (decide (x_181 > (0 : Int))) = true then
 (at? x_1 (w64 (x_181 - (1 : Int)))).bind fun x_201 =>
 (if (decide (x_201 ≥ x_197)) = true then
 some (Sum.inl false)
 else
 impl_ConfOk_l1_r N x_1 tl (w64 (x_181 + (1 : Int))))
 else
 impl_ConfOk_l1_r N x_1 tl (w64 (x_181 + (1 : Int)))))
theorem impl_ConfOk_l1_rng (N : Nat) (x_1 : (List Int)) (hx : x_1.length ≤ 1099511627776) : ∀ (d k m : Nat), x_1.length = k + d → d < m → impl_ConfOk_l1 N x_1 m (k : Int) = impl_ConfOk_l1_r N x_1 (x_1.drop k) (k : Int) := by
  intro d
  induction d with
  | zero =>
    intro k m hd hm
    obtain ⟨m, rfl⟩ : ∃ q, m = q + 1 := ⟨m - 1, by omega⟩
    rw [impl_ConfOk_l1, if_neg (by simp; omega), List.drop_eq_nil_of_le (by omega), impl_ConfOk_l1_r]
  | succ d ih =>
    intro k m hd hm
    obtain ⟨m, rfl⟩ : ∃ q, m = q + 1 := ⟨m - 1, by omega⟩
    have hk : k < x_1.length := by omega
    rw [impl_ConfOk_l1, if_pos (by simp; omega), List.drop_eq_getElem_cons hk, impl_ConfOk_l1_r]
    have h1 := at_lt hk
    have h2 := w64_succ (k := k) (by omega)
    have h3 := ih (k + 1) m
    simp only [h1, h2, h3 (by omega) (by omega)]
theorem impl_ConfOk_l1_eq {N : Nat} (x_1 : (List Int)) (hx : x_1.length ≤ 1099511627776) (hN : x_1.length < N) : impl_ConfOk_l1 N x_1 N 0 = impl_ConfOk_l1_r N x_1 x_1 0 := impl_ConfOk_l1_rng N x_1 hx x_1.length 0 N (by omega) hN
def impl_ConfOk (N : Nat) (x_1 : (List Int)) : Option (Bool) :=
 joinP (fun (v_177 : Unit) =>
 (impl_within N (x_1.length : Int) (1 : Int) (4 : Int)).bind fun y_203 =>
 some y_203) fun j_177 =>
 (impl_ConfOk_l1 N x_1 N (0 : Int)).bind (Sum.elim (fun v_191 => some v_191) (fun (v_192 : Unit) => j_177 ()))
theorem sem_impl_ConfOk (N : Nat) (x_1 : (List Int)) (r : Bool) (h : impl_ConfOk N x_1 = some r) : Says Try.prog 100 [RO 3 (x_1.map encI)] 0 [] (VB r) [] := by
  unfold impl_ConfOk at h
  refine Says.of_run s100 Try.call100 rfl fun B hB => ?_
  have hm : B.m ≤ 1000 := by omega
  refine Run.seq ?_
  refine Run.ops hm ?_
  refine Ops.p rfl ?_
  refine Ops.nil ?_
  refine Run.seqO h (fun (v_177 : Unit) => [(0, RO 3 (x_1.map encI))]) (fun (v_177 : Unit) => []) (fun h => ?_) (fun v_177 h => ?_)
  · skip
    refine Run.seq ?_
    refine Run.ops hm ?_
    refine Ops.p rfl ?_
    refine Ops.st (s := 5112) (Ev.lnF rfl) rfl rfl ?_
    refine Ops.p rfl ?_
    refine Ops.nil ?_
    refine Run.block ?_
    obtain ⟨res_192, h, hk_192⟩ := bindO h
    refine Run.loop (n := N) (fun m_192 fr σ => ∃ (x_181 : Int), impl_ConfOk_l1 N x_1 m_192 x_181 = some res_192 ∧ fr = [(0, RO 3 (x_1.map encI)), (5, RO 3 (x_1.map encI)), (6, VI (x_1.length : Int)), (7, VI x_181)] ∧ σ = []) (gh_canonE (ts := [0, 5, 6, 7]) hB rfl rfl rfl) ⟨_, h, rfl, rfl⟩ ?_
    rintro m_192 fr σ ⟨x_181, h, rfl, rfl⟩
    obtain _ | m_192 := m_192
    · rw [impl_ConfOk_l1] at h; cases h
    rw [impl_ConfOk_l1] at h
    refine Run.seq ?_
    refine Run.ops hm ?_
    refine Ops.p rfl ?_
    refine Ops.nil ?_
    refine Run.seq ?_
    refine Run.condO rfl h (fun g_195 h => ?_) (fun g_195 h => ?_)
    · skip
      refine Run.skip ?_
      refine Run.seq ?_
      refine Run.block ?_
      refine Run.seq ?_
      refine Run.ops hm ?_
      refine Ops.p rfl ?_
      obtain ⟨x_197, hx_197, h⟩ := bindO h
      refine Ops.st (s := 13304) (Ev.iaF rfl rfl hx_197) rfl rfl ?_
      refine Ops.p rfl ?_
      refine Ops.p rfl ?_
      refine Ops.p rfl ?_
      refine Ops.nil ?_
      refine Run.seq ?_
      refine Run.ops hm ?_
      refine Ops.p rfl ?_
      obtain ⟨y_198, hy_198, h⟩ := bindO h
      refine Ops.st (s := 17400) (Ev.call [] [] 0 (sem_impl_within N x_197 (1 : Int) (4 : Int) _ hy_198) rfl rfl (.cons (.c _) (.cons (.c _) (.cons (.c _) .nil))) rfl (.inl rfl) rfl rfl) rfl rfl ?_
      refine Ops.p rfl ?_
      refine Ops.p rfl ?_
      refine Ops.askO (x := .t 15) rfl h (fun g_199 h => ?_) (fun g_199 h => ?_)
      · skip
        refine Ops.gn rfl g_199 ?_
        refine Ops.gn rfl g_199 ?_
        refine Ops.gn rfl g_199 ?_
        refine Ops.gu rfl ?_
        refine Ops.gu rfl ?_
        refine Ops.gu rfl ?_
        refine Ops.gu rfl ?_
        refine Ops.gu rfl ?_
        refine Ops.gu rfl ?_
        refine Ops.gu rfl ?_
        refine Ops.gn rfl g_199 ?_
        refine Ops.st (s := 17624) (.pkT rfl g_199 rfl) rfl rfl ?_
        refine Ops.nil ?_
        refine Run.condT rfl rfl ?_
        refine Run.seq ?_
        refine Run.ops hm ?_
        refine Ops.p rfl ?_
        refine Ops.nil ?_
        refine Run.ret ?_
        obtain rfl := someO h
        have h := hk_192
        replace h := inlO h
        obtain rfl := someO h
        exact Ends.mk (.inl rfl) hB rfl rfl rfl rfl
      · skip
        refine Ops.gp rfl g_199 rfl ?_
        refine Ops.gp rfl g_199 rfl ?_
        refine Ops.gp rfl g_199 rfl ?_
        refine Ops.askO (x := .t 18) rfl h (fun g_200 h => ?_) (fun g_200 h => ?_)
        · skip
          refine Ops.gp rfl g_200 rfl ?_
          refine Ops.gp rfl g_200 rfl ?_
          refine Ops.gp rfl g_200 rfl ?_
          obtain ⟨x_201, hx_201, h⟩ := bindO h
          refine Ops.gs (s := 17544) rfl g_200 (Ev.iaF rfl rfl hx_201) rfl rfl ?_
          refine Ops.gp rfl g_200 rfl ?_
          refine Ops.gp rfl g_200 rfl ?_
          refine Ops.gp rfl g_200 rfl ?_
          refine Ops.gs (s := 17608) rfl g_199 (.pkT rfl g_200 rfl) rfl rfl ?_
          refine Ops.st (s := 17624) (.pkF rfl g_199 rfl) rfl rfl ?_
          refine Ops.nil ?_
          refine Run.condO rfl h (fun g_202 h => ?_) (fun g_202 h => ?_)
          · skip
            refine Run.seq ?_
            refine Run.ops hm ?_
            refine Ops.p rfl ?_
            refine Ops.nil ?_
            refine Run.ret ?_
            obtain rfl := someO h
            have h := hk_192
            replace h := inlO h
            obtain rfl := someO h
            exact Ends.mk (.inl rfl) hB rfl rfl rfl rfl
          · skip
            refine Run.skip ?_
            refine Run.ops hm ?_
            refine Ops.p rfl ?_
            refine Ops.p rfl ?_
            refine Ops.nil ?_
            exact ⟨m_192, Nat.lt_succ_self m_192, _, _, gh_canonE (ts := [0, 5, 6, 7]) hB rfl rfl rfl, _, h, rfl, rfl⟩
        · skip
          refine Ops.gn rfl g_200 ?_
          refine Ops.gn rfl g_200 ?_
          refine Ops.gn rfl g_200 ?_
          refine Ops.gn rfl g_200 ?_
          refine Ops.gn rfl g_200 ?_
          refine Ops.gn rfl g_200 ?_
          refine Ops.gn rfl g_200 ?_
          refine Ops.gs (s := 17608) rfl g_199 (.pkF rfl g_200 rfl) rfl rfl ?_
          refine Ops.st (s := 17624) (.pkF rfl g_199 rfl) rfl rfl ?_
          refine Ops.nil ?_
          refine Run.condF rfl rfl ?_
          refine Run.skip ?_
          refine Run.ops hm ?_
          refine Ops.p rfl ?_
          refine Ops.p rfl ?_
          refine Ops.nil ?_
          exact ⟨m_192, Nat.lt_succ_self m_192, _, _, gh_canonE (ts := [0, 5, 6, 7]) hB rfl rfl rfl, _, h, rfl, rfl⟩
    · skip
      refine Run.exit ?_
      obtain rfl := someO h
      have h := hk_192
      replace h := inrO h
      exact ⟨_, _, gh_canonE (ts := [0]) hB rfl rfl rfl, (), h, rfl, rfl⟩
  · skip
    refine Run.seq ?_
    refine Run.ops hm ?_
    refine Ops.p rfl ?_
    refine Ops.st (s := 29688) (Ev.lnF rfl) rfl rfl ?_
    obtain ⟨y_203, hy_203, h⟩ := bindO h
    refine Ops.st (s := 29704) (Ev.call [] [] 0 (sem_impl_within N (x_1.length : Int) (1 : Int) (4 : Int) _ hy_203) rfl rfl (.cons (.c _) (.cons (.c _) (.cons (.c _) .nil))) rfl (.inl rfl) rfl rfl) rfl rfl ?_
    refine Ops.p rfl ?_
    refine Ops.nil ?_
    refine Run.ret ?_
    obtain rfl := someO h
    exact Ends.mk (.inl rfl) hB rfl rfl rfl rfl
def impl_EventOk (N : Nat) (x_1 : Int) (x_2 : Event) : Option (Bool) :=
 (impl_within N x_1 (1 : Int) (4 : Int)).bind fun y_131 =>
 (if (!y_131) = true then
 some false
 else
 (impl_within N x_2.Kind (1 : Int) (9 : Int)).bind fun y_133 =>
 (if (!y_133) = true then
 some false
 else
 (impl_within N x_2.Node (1 : Int) x_1).bind fun y_135 =>
 (if (!y_135) = true then
 some false
 else
 (if (decide (x_2.At < (0 : Int))) = true then
 some false
 else
 (if (x_2.Kind == (1 : Int)) = true then
 (impl_within N x_2.Limit (1 : Int) (20 : Int)).bind fun y_139 =>
 some y_139
 else
 (if (x_2.Kind == (9 : Int)) = true then
 (impl_within N x_2.Limit (1 : Int) (20 : Int)).bind fun y_141 =>
 some y_141
 else
 (if (x_2.Kind == (5 : Int)) = true then
 (impl_CommandOk N x_2.Command).bind fun y_143 =>
 some y_143
 else
 (if (x_2.Kind == (6 : Int)) = true then
 (impl_ConfOk N x_2.Conf).bind fun y_145 =>
 (if y_145 = true then
 (at? x_2.Conf (w64 ((x_2.Conf.length : Int) - (1 : Int)))).bind fun x_147 =>
 some (decide (x_147 ≤ x_1))
 else
 some false)
 else
 some true))))))))
theorem sem_impl_EventOk (N : Nat) (x_1 : Int) (x_2 : Event) (r : Bool) (h : impl_EventOk N x_1 x_2 = some r) : Says Try.prog 39 [VI x_1, .agg [VI x_2.Kind, VI x_2.Node, VI x_2.At, VI x_2.Limit, VI x_2.Command.Op, VI x_2.Command.Session, VI x_2.Command.Seq, VS x_2.Command.Key, VS x_2.Command.Value, VS x_2.Command.Old, RO 3 (x_2.Conf.map encI), VB x_2.Cut, VI x_2.Whole, VI x_2.Part]] 0 [] (VB r) [] := by
  unfold impl_EventOk at h
  refine Says.of_run s39 Try.call39 rfl fun B hB => ?_
  have hm : B.m ≤ 1000 := by omega
  refine Run.seq ?_
  refine Run.ops hm ?_
  refine Ops.st (s := 1000) (.bx rfl rfl) rfl rfl ?_
  refine Ops.p rfl ?_
  refine Ops.nil ?_
  refine Run.seq ?_
  refine Run.seq ?_
  refine Run.ops hm ?_
  refine Ops.p rfl ?_
  obtain ⟨y_131, hy_131, h⟩ := bindO h
  refine Ops.st (s := 5112) (Ev.call [] [] 0 (sem_impl_within N x_1 (1 : Int) (4 : Int) _ hy_131) rfl rfl (.cons (.c _) (.cons (.c _) (.cons (.c _) .nil))) rfl (.inl rfl) rfl rfl) rfl rfl ?_
  refine Ops.p rfl ?_
  refine Ops.p rfl ?_
  refine Ops.askO (x := .t 8) rfl h (fun g_132 h => ?_) (fun g_132 h => ?_)
  · skip
    refine Ops.gn rfl g_132 ?_
    refine Ops.gn rfl g_132 ?_
    refine Ops.gn rfl g_132 ?_
    refine Ops.gn rfl g_132 ?_
    refine Ops.st (s := 5224) (.pkT rfl g_132 rfl) rfl rfl ?_
    refine Ops.p rfl ?_
    refine Ops.gn rfl rfl ?_
    refine Ops.gn rfl rfl ?_
    refine Ops.gn rfl rfl ?_
    refine Ops.gn rfl rfl ?_
    refine Ops.gn rfl rfl ?_
    refine Ops.st (s := 5336) (.pkT rfl rfl rfl) rfl rfl ?_
    refine Ops.p rfl ?_
    refine Ops.gn rfl rfl ?_
    refine Ops.gn rfl rfl ?_
    refine Ops.gn rfl rfl ?_
    refine Ops.st (s := 5416) (.pkT rfl rfl rfl) rfl rfl ?_
    refine Ops.nil ?_
    refine Run.condT rfl rfl ?_
    refine Run.seq ?_
    refine Run.ops hm ?_
    refine Ops.p rfl ?_
    refine Ops.nil ?_
    refine Run.ret ?_
    obtain rfl := someO h
    exact Ends.mk (.inl rfl) hB rfl rfl rfl rfl
  · skip
    refine Ops.gp rfl g_132 rfl ?_
    refine Ops.gp rfl g_132 rfl ?_
    obtain ⟨y_133, hy_133, h⟩ := bindO h
    refine Ops.gs (s := 5192) rfl g_132 (Ev.call [] [] 0 (sem_impl_within N x_2.Kind (1 : Int) (9 : Int) _ hy_133) rfl rfl (.cons (.c _) (.cons (.c _) (.cons (.c _) .nil))) rfl (.inl rfl) rfl rfl) rfl rfl ?_
    refine Ops.gp rfl g_132 rfl ?_
    refine Ops.st (s := 5224) (.pkF rfl g_132 rfl) rfl rfl ?_
    refine Ops.p rfl ?_
    refine Ops.askO (x := .t 14) rfl h (fun g_134 h => ?_) (fun g_134 h => ?_)
    · skip
      refine Ops.gn rfl g_134 ?_
      refine Ops.gn rfl g_134 ?_
      refine Ops.gn rfl g_134 ?_
      refine Ops.gn rfl g_134 ?_
      refine Ops.gn rfl g_134 ?_
      refine Ops.st (s := 5336) (.pkT rfl g_134 rfl) rfl rfl ?_
      refine Ops.p rfl ?_
      refine Ops.gn rfl rfl ?_
      refine Ops.gn rfl rfl ?_
      refine Ops.gn rfl rfl ?_
      refine Ops.st (s := 5416) (.pkT rfl rfl rfl) rfl rfl ?_
      refine Ops.nil ?_
      refine Run.condT rfl rfl ?_
      refine Run.seq ?_
      refine Run.ops hm ?_
      refine Ops.p rfl ?_
      refine Ops.nil ?_
      refine Run.ret ?_
      obtain rfl := someO h
      exact Ends.mk (.inl rfl) hB rfl rfl rfl rfl
    · skip
      refine Ops.gp rfl g_134 rfl ?_
      refine Ops.gp rfl g_134 rfl ?_
      refine Ops.gp rfl g_134 rfl ?_
      obtain ⟨y_135, hy_135, h⟩ := bindO h
      refine Ops.gs (s := 5304) rfl g_134 (Ev.call [] [] 0 (sem_impl_within N x_2.Node (1 : Int) x_1 _ hy_135) rfl rfl (.cons (.c _) (.cons (.c _) (.cons (.c _) .nil))) rfl (.inl rfl) rfl rfl) rfl rfl ?_
      refine Ops.gp rfl g_134 rfl ?_
      refine Ops.st (s := 5336) (.pkF rfl g_134 rfl) rfl rfl ?_
      refine Ops.p rfl ?_
      refine Ops.askO (x := .t 21) rfl h (fun g_136 h => ?_) (fun g_136 h => ?_)
      · skip
        refine Ops.gn rfl g_136 ?_
        refine Ops.gn rfl g_136 ?_
        refine Ops.gn rfl g_136 ?_
        refine Ops.st (s := 5416) (.pkT rfl g_136 rfl) rfl rfl ?_
        refine Ops.nil ?_
        refine Run.condT rfl rfl ?_
        refine Run.seq ?_
        refine Run.ops hm ?_
        refine Ops.p rfl ?_
        refine Ops.nil ?_
        refine Run.ret ?_
        obtain rfl := someO h
        exact Ends.mk (.inl rfl) hB rfl rfl rfl rfl
      · skip
        refine Ops.gp rfl g_136 rfl ?_
        refine Ops.gp rfl g_136 rfl ?_
        refine Ops.gp rfl g_136 rfl ?_
        refine Ops.st (s := 5416) (.pkF rfl g_136 rfl) rfl rfl ?_
        refine Ops.nil ?_
        refine Run.condO rfl h (fun g_137 h => ?_) (fun g_137 h => ?_)
        · skip
          refine Run.seq ?_
          refine Run.ops hm ?_
          refine Ops.p rfl ?_
          refine Ops.nil ?_
          refine Run.ret ?_
          obtain rfl := someO h
          exact Ends.mk (.inl rfl) hB rfl rfl rfl rfl
        · skip
          refine Run.skip ?_
          refine Run.seq ?_
          refine Run.seq ?_
          refine Run.ops hm ?_
          refine Ops.p rfl ?_
          refine Ops.p rfl ?_
          refine Ops.nil ?_
          refine Run.block ?_
          refine Run.seq ?_
          refine Run.seq ?_
          refine Run.ops hm ?_
          refine Ops.p rfl ?_
          refine Ops.p rfl ?_
          refine Ops.nil ?_
          refine Run.condO rfl h (fun g_138 h => ?_) (fun g_138 h => ?_)
          · skip
            refine Run.skip ?_
            refine Run.condT rfl g_138 ?_
            refine Run.seq ?_
            refine Run.ops hm ?_
            refine Ops.p rfl ?_
            refine Ops.p rfl ?_
            obtain ⟨y_139, hy_139, h⟩ := bindO h
            refine Ops.st (s := 25608) (Ev.call [] [] 0 (sem_impl_within N x_2.Limit (1 : Int) (20 : Int) _ hy_139) rfl rfl (.cons (.c _) (.cons (.c _) (.cons (.c _) .nil))) rfl (.inl rfl) rfl rfl) rfl rfl ?_
            refine Ops.p rfl ?_
            refine Ops.nil ?_
            refine Run.ret ?_
            obtain rfl := someO h
            exact Ends.mk (.inl rfl) hB rfl rfl rfl rfl
          · skip
            refine Run.ops hm ?_
            refine Ops.p rfl ?_
            refine Ops.p rfl ?_
            refine Ops.nil ?_
            refine Run.condO rfl h (fun g_140 h => ?_) (fun g_140 h => ?_)
            · skip
              refine Run.seq ?_
              refine Run.ops hm ?_
              refine Ops.p rfl ?_
              refine Ops.p rfl ?_
              obtain ⟨y_141, hy_141, h⟩ := bindO h
              refine Ops.st (s := 25608) (Ev.call [] [] 0 (sem_impl_within N x_2.Limit (1 : Int) (20 : Int) _ hy_141) rfl rfl (.cons (.c _) (.cons (.c _) (.cons (.c _) .nil))) rfl (.inl rfl) rfl rfl) rfl rfl ?_
              refine Ops.p rfl ?_
              refine Ops.nil ?_
              refine Run.ret ?_
              obtain rfl := someO h
              exact Ends.mk (.inl rfl) hB rfl rfl rfl rfl
            · skip
              refine Run.seq ?_
              refine Run.ops hm ?_
              refine Ops.p rfl ?_
              refine Ops.p rfl ?_
              refine Ops.nil ?_
              refine Run.condO rfl h (fun g_142 h => ?_) (fun g_142 h => ?_)
              · skip
                refine Run.seq ?_
                refine Run.ops hm ?_
                refine Ops.p rfl ?_
                refine Ops.p rfl ?_
                obtain ⟨y_143, hy_143, h⟩ := bindO h
                refine Ops.st (s := 33800) (Ev.call [] [] 0 (sem_impl_CommandOk N x_2.Command _ hy_143) rfl rfl (.cons (.agg (.cons (.c _) (.cons (.c _) (.cons (.c _) (.cons (.c _) (.cons (.c _) (.cons (.c _) .nil))))))) .nil) rfl (.inl rfl) rfl rfl) rfl rfl ?_
                refine Ops.p rfl ?_
                refine Ops.nil ?_
                refine Run.ret ?_
                obtain rfl := someO h
                exact Ends.mk (.inl rfl) hB rfl rfl rfl rfl
              · skip
                refine Run.seq ?_
                refine Run.ops hm ?_
                refine Ops.p rfl ?_
                refine Ops.p rfl ?_
                refine Ops.nil ?_
                refine Run.condO rfl h (fun g_144 h => ?_) (fun g_144 h => ?_)
                · skip
                  refine Run.seq ?_
                  refine Run.ops hm ?_
                  refine Ops.p rfl ?_
                  refine Ops.p rfl ?_
                  obtain ⟨y_145, hy_145, h⟩ := bindO h
                  refine Ops.st (s := 41992) (Ev.call [] [] 0 (sem_impl_ConfOk N x_2.Conf _ hy_145) rfl rfl (.cons (.c _) .nil) rfl (.inl rfl) rfl rfl) rfl rfl ?_
                  refine Ops.p rfl ?_
                  refine Ops.askO (x := .t 44) rfl h (fun g_146 h => ?_) (fun g_146 h => ?_)
                  · skip
                    refine Ops.gp rfl g_146 rfl ?_
                    refine Ops.gp rfl g_146 rfl ?_
                    refine Ops.gp rfl g_146 rfl ?_
                    refine Ops.gp rfl g_146 rfl ?_
                    refine Ops.gs (s := 42088) rfl g_146 (Ev.lnF rfl) rfl rfl ?_
                    refine Ops.gp rfl g_146 rfl ?_
                    obtain ⟨x_147, hx_147, h⟩ := bindO h
                    refine Ops.gs (s := 42120) rfl g_146 (Ev.iaF rfl rfl hx_147) rfl rfl ?_
                    refine Ops.gp rfl g_146 rfl ?_
                    refine Ops.gp rfl g_146 rfl ?_
                    refine Ops.gp rfl g_146 rfl ?_
                    refine Ops.st (s := 42184) (.pkT rfl g_146 rfl) rfl rfl ?_
                    refine Ops.p rfl ?_
                    refine Ops.nil ?_
                    refine Run.ret ?_
                    obtain rfl := someO h
                    exact Ends.mk (.inl rfl) hB rfl rfl rfl rfl
                  · skip
                    refine Ops.gn rfl g_146 ?_
                    refine Ops.gn rfl g_146 ?_
                    refine Ops.gn rfl g_146 ?_
                    refine Ops.gn rfl g_146 ?_
                    refine Ops.gn rfl g_146 ?_
                    refine Ops.gn rfl g_146 ?_
                    refine Ops.gn rfl g_146 ?_
                    refine Ops.gn rfl g_146 ?_
                    refine Ops.gn rfl g_146 ?_
                    refine Ops.gn rfl g_146 ?_
                    refine Ops.st (s := 42184) (.pkF rfl g_146 rfl) rfl rfl ?_
                    refine Ops.p rfl ?_
                    refine Ops.nil ?_
                    refine Run.ret ?_
                    obtain rfl := someO h
                    exact Ends.mk (.inl rfl) hB rfl rfl rfl rfl
                · skip
                  refine Run.skip ?_
                  refine Run.seq ?_
                  refine Run.ops hm ?_
                  refine Ops.p rfl ?_
                  refine Ops.nil ?_
                  refine Run.ret ?_
                  obtain rfl := someO h
                  exact Ends.mk (.inl rfl) hB rfl rfl rfl rfl
def laws_eqCommand (N : Nat) (x_1 : Command) (x_2 : Command) : Option (Bool) :=
 (if (x_1.Op != x_2.Op) = true then
 some false
 else
 (if (x_1.Session != x_2.Session) = true then
 some false
 else
 (if (x_1.Seq != x_2.Seq) = true then
 some false
 else
 (if (!decide (x_1.Key = x_2.Key)) = true then
 some false
 else
 (if (!decide (x_1.Value = x_2.Value)) = true then
 some false
 else
 (if (!decide (x_1.Old = x_2.Old)) = true then
 some false
 else
 some true))))))
theorem sem_laws_eqCommand (N : Nat) (x_1 : Command) (x_2 : Command) (r : Bool) (h : laws_eqCommand N x_1 x_2 = some r) : Says Try.prog 101 [.agg [VI x_1.Op, VI x_1.Session, VI x_1.Seq, VS x_1.Key, VS x_1.Value, VS x_1.Old], .agg [VI x_2.Op, VI x_2.Session, VI x_2.Seq, VS x_2.Key, VS x_2.Value, VS x_2.Old]] 0 [] (VB r) [] := by
  unfold laws_eqCommand at h
  refine Says.of_run s101 Try.call101 rfl fun B hB => ?_
  have hm : B.m ≤ 1000 := by omega
  refine Run.seq ?_
  refine Run.ops hm ?_
  refine Ops.st (s := 1000) (.bx rfl rfl) rfl rfl ?_
  refine Ops.st (s := 1016) (.bx rfl rfl) rfl rfl ?_
  refine Ops.p rfl ?_
  refine Ops.nil ?_
  refine Run.seq ?_
  refine Run.seq ?_
  refine Run.ops hm ?_
  refine Ops.p rfl ?_
  refine Ops.p rfl ?_
  refine Ops.p rfl ?_
  refine Ops.p rfl ?_
  refine Ops.p rfl ?_
  refine Ops.nil ?_
  refine Run.condO rfl h (fun g_112 h => ?_) (fun g_112 h => ?_)
  · skip
    refine Run.seq ?_
    refine Run.ops hm ?_
    refine Ops.p rfl ?_
    refine Ops.nil ?_
    refine Run.ret ?_
    obtain rfl := someO h
    exact Ends.mk (.inl rfl) hB rfl rfl rfl rfl
  · skip
    refine Run.skip ?_
    refine Run.seq ?_
    refine Run.seq ?_
    refine Run.ops hm ?_
    refine Ops.p rfl ?_
    refine Ops.p rfl ?_
    refine Ops.p rfl ?_
    refine Ops.p rfl ?_
    refine Ops.p rfl ?_
    refine Ops.nil ?_
    refine Run.condO rfl h (fun g_114 h => ?_) (fun g_114 h => ?_)
    · skip
      refine Run.seq ?_
      refine Run.ops hm ?_
      refine Ops.p rfl ?_
      refine Ops.nil ?_
      refine Run.ret ?_
      obtain rfl := someO h
      exact Ends.mk (.inl rfl) hB rfl rfl rfl rfl
    · skip
      refine Run.skip ?_
      refine Run.seq ?_
      refine Run.seq ?_
      refine Run.ops hm ?_
      refine Ops.p rfl ?_
      refine Ops.p rfl ?_
      refine Ops.p rfl ?_
      refine Ops.p rfl ?_
      refine Ops.p rfl ?_
      refine Ops.nil ?_
      refine Run.condO rfl h (fun g_116 h => ?_) (fun g_116 h => ?_)
      · skip
        refine Run.seq ?_
        refine Run.ops hm ?_
        refine Ops.p rfl ?_
        refine Ops.nil ?_
        refine Run.ret ?_
        obtain rfl := someO h
        exact Ends.mk (.inl rfl) hB rfl rfl rfl rfl
      · skip
        refine Run.skip ?_
        refine Run.seq ?_
        refine Run.seq ?_
        refine Run.ops hm ?_
        refine Ops.p rfl ?_
        refine Ops.p rfl ?_
        refine Ops.p rfl ?_
        refine Ops.p rfl ?_
        refine Ops.p rfl ?_
        refine Ops.nil ?_
        refine Run.condO rfl h (fun g_118 h => ?_) (fun g_118 h => ?_)
        · skip
          refine Run.seq ?_
          refine Run.ops hm ?_
          refine Ops.p rfl ?_
          refine Ops.nil ?_
          refine Run.ret ?_
          obtain rfl := someO h
          exact Ends.mk (.inl rfl) hB rfl rfl rfl rfl
        · skip
          refine Run.skip ?_
          refine Run.seq ?_
          refine Run.seq ?_
          refine Run.ops hm ?_
          refine Ops.p rfl ?_
          refine Ops.p rfl ?_
          refine Ops.p rfl ?_
          refine Ops.p rfl ?_
          refine Ops.p rfl ?_
          refine Ops.nil ?_
          refine Run.condO rfl h (fun g_120 h => ?_) (fun g_120 h => ?_)
          · skip
            refine Run.seq ?_
            refine Run.ops hm ?_
            refine Ops.p rfl ?_
            refine Ops.nil ?_
            refine Run.ret ?_
            obtain rfl := someO h
            exact Ends.mk (.inl rfl) hB rfl rfl rfl rfl
          · skip
            refine Run.skip ?_
            refine Run.seq ?_
            refine Run.seq ?_
            refine Run.ops hm ?_
            refine Ops.p rfl ?_
            refine Ops.p rfl ?_
            refine Ops.p rfl ?_
            refine Ops.p rfl ?_
            refine Ops.p rfl ?_
            refine Ops.nil ?_
            refine Run.condO rfl h (fun g_121 h => ?_) (fun g_121 h => ?_)
            · skip
              refine Run.seq ?_
              refine Run.ops hm ?_
              refine Ops.p rfl ?_
              refine Ops.nil ?_
              refine Run.ret ?_
              obtain rfl := someO h
              exact Ends.mk (.inl rfl) hB rfl rfl rfl rfl
            · skip
              refine Run.skip ?_
              refine Run.seq ?_
              refine Run.ops hm ?_
              refine Ops.p rfl ?_
              refine Ops.nil ?_
              refine Run.ret ?_
              obtain rfl := someO h
              exact Ends.mk (.inl rfl) hB rfl rfl rfl rfl
def laws_eqIntS_l1 (N : Nat) (x_1 : (List Int)) (x_2 : (List Int)) : Nat → Int → Option ((Bool) ⊕ (Unit))
 | 0, _ => none
 | m + 1, x_174 =>
 (if (decide (x_174 < (x_1.length : Int))) = true then
 (at? x_1 x_174).bind fun x_191 =>
 (at? x_2 x_174).bind fun x_192 =>
 (if (x_191 != x_192) = true then
 some (Sum.inl false)
 else
 laws_eqIntS_l1 N x_1 x_2 m (w64 (x_174 + (1 : Int))))
 else
 some (Sum.inr ()))
def laws_eqIntS_l1_r (N : Nat) (x_1 : (List Int)) (x_2 : (List Int)) : (List Int) → Int → Option ((Bool) ⊕ (Unit))
 | [], x_174 =>
 some (Sum.inr ())
 | hd :: tl, x_174 =>
 (some hd).bind fun x_191 =>
 (at? x_2 x_174).bind fun x_192 =>
 (if (x_191 != x_192) = true then
 some (Sum.inl false)
 else
 laws_eqIntS_l1_r N x_1 x_2 tl (w64 (x_174 + (1 : Int))))
theorem laws_eqIntS_l1_rng (N : Nat) (x_1 : (List Int)) (x_2 : (List Int)) (hx : x_1.length ≤ 1099511627776) : ∀ (d k m : Nat), x_1.length = k + d → d < m → laws_eqIntS_l1 N x_1 x_2 m (k : Int) = laws_eqIntS_l1_r N x_1 x_2 (x_1.drop k) (k : Int) := by
  intro d
  induction d with
  | zero =>
    intro k m hd hm
    obtain ⟨m, rfl⟩ : ∃ q, m = q + 1 := ⟨m - 1, by omega⟩
    rw [laws_eqIntS_l1, if_neg (by simp; omega), List.drop_eq_nil_of_le (by omega), laws_eqIntS_l1_r]
  | succ d ih =>
    intro k m hd hm
    obtain ⟨m, rfl⟩ : ∃ q, m = q + 1 := ⟨m - 1, by omega⟩
    have hk : k < x_1.length := by omega
    rw [laws_eqIntS_l1, if_pos (by simp; omega), List.drop_eq_getElem_cons hk, laws_eqIntS_l1_r]
    have h1 := at_lt hk
    have h2 := w64_succ (k := k) (by omega)
    have h3 := ih (k + 1) m
    simp only [h1, h2, h3 (by omega) (by omega)]
theorem laws_eqIntS_l1_eq {N : Nat} (x_1 : (List Int)) (x_2 : (List Int)) (hx : x_1.length ≤ 1099511627776) (hN : x_1.length < N) : laws_eqIntS_l1 N x_1 x_2 N 0 = laws_eqIntS_l1_r N x_1 x_2 x_1 0 := laws_eqIntS_l1_rng N x_1 x_2 hx x_1.length 0 N (by omega) hN
def laws_eqIntS (N : Nat) (x_1 : (List Int)) (x_2 : (List Int)) : Option (Bool) :=
 (if ((x_1.length : Int) != (x_2.length : Int)) = true then
 some false
 else
 joinP (fun (v_171 : Unit) =>
 some true) fun j_171 =>
 (laws_eqIntS_l1 N x_1 x_2 N (0 : Int)).bind (Sum.elim (fun v_183 => some v_183) (fun (v_184 : Unit) => j_171 ())))
theorem sem_laws_eqIntS (N : Nat) (x_1 : (List Int)) (x_2 : (List Int)) (r : Bool) (h : laws_eqIntS N x_1 x_2 = some r) : Says Try.prog 49 [RO 3 (x_1.map encI), RO 3 (x_2.map encI)] 0 [] (VB r) [] := by
  unfold laws_eqIntS at h
  refine Says.of_run s49 Try.call49 rfl fun B hB => ?_
  have hm : B.m ≤ 1000 := by omega
  refine Run.seq ?_
  refine Run.ops hm ?_
  refine Ops.p rfl ?_
  refine Ops.nil ?_
  refine Run.seq ?_
  refine Run.seq ?_
  refine Run.ops hm ?_
  refine Ops.p rfl ?_
  refine Ops.st (s := 5112) (Ev.lnF rfl) rfl rfl ?_
  refine Ops.p rfl ?_
  refine Ops.st (s := 5144) (Ev.lnF rfl) rfl rfl ?_
  refine Ops.p rfl ?_
  refine Ops.nil ?_
  refine Run.condO rfl h (fun g_148 h => ?_) (fun g_148 h => ?_)
  · skip
    refine Run.seq ?_
    refine Run.ops hm ?_
    refine Ops.p rfl ?_
    refine Ops.nil ?_
    refine Run.ret ?_
    obtain rfl := someO h
    exact Ends.mk (.inl rfl) hB rfl rfl rfl rfl
  · skip
    refine Run.skip ?_
    refine Run.seqO h (fun (v_171 : Unit) => []) (fun (v_171 : Unit) => []) (fun h => ?_) (fun v_171 h => ?_)
    · skip
      refine Run.seq ?_
      refine Run.ops hm ?_
      refine Ops.p rfl ?_
      refine Ops.nil ?_
      refine Run.block ?_
      obtain ⟨res_184, h, hk_184⟩ := bindO h
      refine Run.loop (n := N) (fun m_184 fr σ => ∃ (x_174 : Int), laws_eqIntS_l1 N x_1 x_2 m_184 x_174 = some res_184 ∧ fr = [(0, RO 3 (x_1.map encI)), (1, RO 3 (x_2.map encI)), (5, VI x_174)] ∧ σ = []) (gh_canonE (ts := [0, 1, 5]) hB rfl rfl rfl) ⟨_, h, rfl, rfl⟩ ?_
      rintro m_184 fr σ ⟨x_174, h, rfl, rfl⟩
      obtain _ | m_184 := m_184
      · rw [laws_eqIntS_l1] at h; cases h
      rw [laws_eqIntS_l1] at h
      refine Run.seq ?_
      refine Run.seq ?_
      refine Run.ops hm ?_
      refine Ops.p rfl ?_
      refine Ops.p rfl ?_
      refine Ops.st (s := 17416) (Ev.lnF rfl) rfl rfl ?_
      refine Ops.p rfl ?_
      refine Ops.nil ?_
      refine Run.condO rfl h (fun g_187 h => ?_) (fun g_187 h => ?_)
      · skip
        refine Run.skip ?_
        refine Run.seq ?_
        refine Run.block ?_
        refine Run.seq ?_
        refine Run.draw hm hmix ?_
        refine OpsD.p rfl ?_
        refine OpsD.p rfl ?_
        obtain ⟨x_191, hx_191, h⟩ := bindO h
        refine OpsD.st (s := 25608) (Ev.iaF rfl rfl hx_191) rfl rfl ?_
        refine OpsD.p rfl ?_
        refine OpsD.p rfl ?_
        refine OpsD.p rfl ?_
        obtain ⟨x_192, hx_192, h⟩ := bindO h
        refine OpsD.st (s := 25672) (Ev.iaF rfl rfl hx_192) rfl rfl ?_
        refine OpsD.p rfl ?_
        refine OpsD.p rfl ?_
        refine OpsD.nil ⟨by kernel_rfl, ?_⟩
        refine Run.condO rfl h (fun g_193 h => ?_) (fun g_193 h => ?_)
        · skip
          refine Run.seq ?_
          refine Run.ops hm ?_
          refine Ops.p rfl ?_
          refine Ops.nil ?_
          refine Run.ret ?_
          obtain rfl := someO h
          have h := hk_184
          replace h := inlO h
          obtain rfl := someO h
          exact Ends.mk (.inl rfl) hB rfl rfl rfl rfl
        · skip
          refine Run.skip ?_
          refine Run.ops hm ?_
          refine Ops.p rfl ?_
          refine Ops.p rfl ?_
          refine Ops.p rfl ?_
          refine Ops.nil ?_
          exact ⟨m_184, Nat.lt_succ_self m_184, _, _, gh_canonE (ts := [0, 1, 5]) hB rfl rfl rfl, _, h, rfl, rfl⟩
      · skip
        refine Run.exit ?_
        obtain rfl := someO h
        have h := hk_184
        replace h := inrO h
        exact ⟨_, _, gh_canonE (ts := []) hB rfl rfl rfl, (), h, rfl, rfl⟩
    · skip
      refine Run.seq ?_
      refine Run.ops hm ?_
      refine Ops.p rfl ?_
      refine Ops.nil ?_
      refine Run.ret ?_
      obtain rfl := someO h
      exact Ends.mk (.inl rfl) hB rfl rfl rfl rfl
def laws_eqEvent (N : Nat) (x_1 : Event) (x_2 : Event) : Option (Bool) :=
 (if (x_1.Kind != x_2.Kind) = true then
 some false
 else
 (if (x_1.Node != x_2.Node) = true then
 some false
 else
 (if (x_1.At != x_2.At) = true then
 some false
 else
 (if (x_1.Limit != x_2.Limit) = true then
 some false
 else
 (laws_eqCommand N x_1.Command x_2.Command).bind fun y_131 =>
 (if (!y_131) = true then
 some false
 else
 (laws_eqIntS N x_1.Conf x_2.Conf).bind fun y_135 =>
 (if (!y_135) = true then
 some false
 else
 (if ((x_1.Cut == x_2.Cut) ^^ true) = true then
 some false
 else
 (if (x_1.Whole != x_2.Whole) = true then
 some false
 else
 (if (x_1.Part != x_2.Part) = true then
 some false
 else
 some true)))))))))
theorem sem_laws_eqEvent (N : Nat) (x_1 : Event) (x_2 : Event) (r : Bool) (h : laws_eqEvent N x_1 x_2 = some r) : Says Try.prog 40 [.agg [VI x_1.Kind, VI x_1.Node, VI x_1.At, VI x_1.Limit, VI x_1.Command.Op, VI x_1.Command.Session, VI x_1.Command.Seq, VS x_1.Command.Key, VS x_1.Command.Value, VS x_1.Command.Old, RO 3 (x_1.Conf.map encI), VB x_1.Cut, VI x_1.Whole, VI x_1.Part], .agg [VI x_2.Kind, VI x_2.Node, VI x_2.At, VI x_2.Limit, VI x_2.Command.Op, VI x_2.Command.Session, VI x_2.Command.Seq, VS x_2.Command.Key, VS x_2.Command.Value, VS x_2.Command.Old, RO 3 (x_2.Conf.map encI), VB x_2.Cut, VI x_2.Whole, VI x_2.Part]] 0 [] (VB r) [] := by
  unfold laws_eqEvent at h
  refine Says.of_run s40 Try.call40 rfl fun B hB => ?_
  have hm : B.m ≤ 1000 := by omega
  refine Run.seq ?_
  refine Run.ops hm ?_
  refine Ops.st (s := 1000) (.bx rfl rfl) rfl rfl ?_
  refine Ops.st (s := 1016) (.bx rfl rfl) rfl rfl ?_
  refine Ops.p rfl ?_
  refine Ops.nil ?_
  refine Run.seq ?_
  refine Run.seq ?_
  refine Run.ops hm ?_
  refine Ops.p rfl ?_
  refine Ops.p rfl ?_
  refine Ops.p rfl ?_
  refine Ops.p rfl ?_
  refine Ops.p rfl ?_
  refine Ops.nil ?_
  refine Run.condO rfl h (fun g_122 h => ?_) (fun g_122 h => ?_)
  · skip
    refine Run.seq ?_
    refine Run.ops hm ?_
    refine Ops.p rfl ?_
    refine Ops.nil ?_
    refine Run.ret ?_
    obtain rfl := someO h
    exact Ends.mk (.inl rfl) hB rfl rfl rfl rfl
  · skip
    refine Run.skip ?_
    refine Run.seq ?_
    refine Run.seq ?_
    refine Run.ops hm ?_
    refine Ops.p rfl ?_
    refine Ops.p rfl ?_
    refine Ops.p rfl ?_
    refine Ops.p rfl ?_
    refine Ops.p rfl ?_
    refine Ops.nil ?_
    refine Run.condO rfl h (fun g_124 h => ?_) (fun g_124 h => ?_)
    · skip
      refine Run.seq ?_
      refine Run.ops hm ?_
      refine Ops.p rfl ?_
      refine Ops.nil ?_
      refine Run.ret ?_
      obtain rfl := someO h
      exact Ends.mk (.inl rfl) hB rfl rfl rfl rfl
    · skip
      refine Run.skip ?_
      refine Run.seq ?_
      refine Run.seq ?_
      refine Run.ops hm ?_
      refine Ops.p rfl ?_
      refine Ops.p rfl ?_
      refine Ops.p rfl ?_
      refine Ops.p rfl ?_
      refine Ops.p rfl ?_
      refine Ops.nil ?_
      refine Run.condO rfl h (fun g_126 h => ?_) (fun g_126 h => ?_)
      · skip
        refine Run.seq ?_
        refine Run.ops hm ?_
        refine Ops.p rfl ?_
        refine Ops.nil ?_
        refine Run.ret ?_
        obtain rfl := someO h
        exact Ends.mk (.inl rfl) hB rfl rfl rfl rfl
      · skip
        refine Run.skip ?_
        refine Run.seq ?_
        refine Run.seq ?_
        refine Run.ops hm ?_
        refine Ops.p rfl ?_
        refine Ops.p rfl ?_
        refine Ops.p rfl ?_
        refine Ops.p rfl ?_
        refine Ops.p rfl ?_
        refine Ops.nil ?_
        refine Run.condO rfl h (fun g_128 h => ?_) (fun g_128 h => ?_)
        · skip
          refine Run.seq ?_
          refine Run.ops hm ?_
          refine Ops.p rfl ?_
          refine Ops.nil ?_
          refine Run.ret ?_
          obtain rfl := someO h
          exact Ends.mk (.inl rfl) hB rfl rfl rfl rfl
        · skip
          refine Run.skip ?_
          refine Run.seq ?_
          refine Run.seq ?_
          refine Run.ops hm ?_
          refine Ops.p rfl ?_
          refine Ops.p rfl ?_
          refine Ops.p rfl ?_
          refine Ops.p rfl ?_
          obtain ⟨y_131, hy_131, h⟩ := bindO h
          refine Ops.st (s := 37928) (Ev.call [] [] 0 (sem_laws_eqCommand N x_1.Command x_2.Command _ hy_131) rfl rfl (.cons (.agg (.cons (.c _) (.cons (.c _) (.cons (.c _) (.cons (.c _) (.cons (.c _) (.cons (.c _) .nil))))))) (.cons (.agg (.cons (.c _) (.cons (.c _) (.cons (.c _) (.cons (.c _) (.cons (.c _) (.cons (.c _) .nil))))))) .nil)) rfl (.inl rfl) rfl rfl) rfl rfl ?_
          refine Ops.p rfl ?_
          refine Ops.nil ?_
          refine Run.condO rfl h (fun g_132 h => ?_) (fun g_132 h => ?_)
          · skip
            refine Run.seq ?_
            refine Run.ops hm ?_
            refine Ops.p rfl ?_
            refine Ops.nil ?_
            refine Run.ret ?_
            obtain rfl := someO h
            exact Ends.mk (.inl rfl) hB rfl rfl rfl rfl
          · skip
            refine Run.skip ?_
            refine Run.seq ?_
            refine Run.seq ?_
            refine Run.ops hm ?_
            refine Ops.p rfl ?_
            refine Ops.p rfl ?_
            refine Ops.p rfl ?_
            refine Ops.p rfl ?_
            obtain ⟨y_135, hy_135, h⟩ := bindO h
            refine Ops.st (s := 46120) (Ev.call [] [] 0 (sem_laws_eqIntS N x_1.Conf x_2.Conf _ hy_135) rfl rfl (.cons (.c _) (.cons (.c _) .nil)) rfl (.inl rfl) rfl rfl) rfl rfl ?_
            refine Ops.p rfl ?_
            refine Ops.nil ?_
            refine Run.condO rfl h (fun g_136 h => ?_) (fun g_136 h => ?_)
            · skip
              refine Run.seq ?_
              refine Run.ops hm ?_
              refine Ops.p rfl ?_
              refine Ops.nil ?_
              refine Run.ret ?_
              obtain rfl := someO h
              exact Ends.mk (.inl rfl) hB rfl rfl rfl rfl
            · skip
              refine Run.skip ?_
              refine Run.seq ?_
              refine Run.seq ?_
              refine Run.ops hm ?_
              refine Ops.p rfl ?_
              refine Ops.p rfl ?_
              refine Ops.p rfl ?_
              refine Ops.p rfl ?_
              refine Ops.p rfl ?_
              refine Ops.nil ?_
              refine Run.condO rfl h (fun g_138 h => ?_) (fun g_138 h => ?_)
              · skip
                refine Run.seq ?_
                refine Run.ops hm ?_
                refine Ops.p rfl ?_
                refine Ops.nil ?_
                refine Run.ret ?_
                obtain rfl := someO h
                exact Ends.mk (.inl rfl) hB rfl rfl rfl rfl
              · skip
                refine Run.skip ?_
                refine Run.seq ?_
                refine Run.seq ?_
                refine Run.ops hm ?_
                refine Ops.p rfl ?_
                refine Ops.p rfl ?_
                refine Ops.p rfl ?_
                refine Ops.p rfl ?_
                refine Ops.p rfl ?_
                refine Ops.nil ?_
                refine Run.condO rfl h (fun g_140 h => ?_) (fun g_140 h => ?_)
                · skip
                  refine Run.seq ?_
                  refine Run.ops hm ?_
                  refine Ops.p rfl ?_
                  refine Ops.nil ?_
                  refine Run.ret ?_
                  obtain rfl := someO h
                  exact Ends.mk (.inl rfl) hB rfl rfl rfl rfl
                · skip
                  refine Run.skip ?_
                  refine Run.seq ?_
                  refine Run.seq ?_
                  refine Run.ops hm ?_
                  refine Ops.p rfl ?_
                  refine Ops.p rfl ?_
                  refine Ops.p rfl ?_
                  refine Ops.p rfl ?_
                  refine Ops.p rfl ?_
                  refine Ops.nil ?_
                  refine Run.condO rfl h (fun g_141 h => ?_) (fun g_141 h => ?_)
                  · skip
                    refine Run.seq ?_
                    refine Run.ops hm ?_
                    refine Ops.p rfl ?_
                    refine Ops.nil ?_
                    refine Run.ret ?_
                    obtain rfl := someO h
                    exact Ends.mk (.inl rfl) hB rfl rfl rfl rfl
                  · skip
                    refine Run.skip ?_
                    refine Run.seq ?_
                    refine Run.ops hm ?_
                    refine Ops.p rfl ?_
                    refine Ops.nil ?_
                    refine Run.ret ?_
                    obtain rfl := someO h
                    exact Ends.mk (.inl rfl) hB rfl rfl rfl rfl
def laws_FnExactEventOk (N : Nat) (x_1 : Int) (x_2 : Event) : Option (Bool) :=
 (laws_szEvent N x_2 (1048576 : Int)).bind fun y_118 =>
 (if (decide (y_118 < (0 : Int))) = true then
 some true
 else
 (laws_toEvent N x_2).bind fun y_123 =>
 (spec_EventOk N x_1 y_123).bind fun y_124 =>
 (laws_toEvent N x_2).bind fun y_126 =>
 (impl_EventOk N x_1 y_126).bind fun y_128 =>
 (if ((y_128 == y_124) ^^ true) = true then
 some false
 else
 (laws_toEvent N x_2).bind fun y_131 =>
 (laws_eqEvent N y_126 y_131).bind fun y_132 =>
 (if (!y_132) = true then
 some false
 else
 some true)))
theorem sem_laws_FnExactEventOk (N : Nat) (x_1 : Int) (x_2 : Event) (r : Bool) (h : laws_FnExactEventOk N x_1 x_2 = some r) : Says Try.prog 7 [VI x_1, .agg [VI x_2.Kind, VI x_2.Node, VI x_2.At, VI x_2.Limit, VI x_2.Command.Op, VI x_2.Command.Session, VI x_2.Command.Seq, VS x_2.Command.Key, VS x_2.Command.Value, VS x_2.Command.Old, RO 3 (x_2.Conf.map encI), VB x_2.Cut, VI x_2.Whole, VI x_2.Part]] 0 [] (VB r) [] := by
  unfold laws_FnExactEventOk at h
  refine Says.of_run s7 Try.call7 rfl fun B hB => ?_
  have hm : B.m ≤ 1000 := by omega
  refine Run.seq ?_
  refine Run.ops hm ?_
  refine Ops.st (s := 1000) (.bx rfl rfl) rfl rfl ?_
  refine Ops.p rfl ?_
  refine Ops.nil ?_
  refine Run.seq ?_
  refine Run.ops hm ?_
  refine Ops.p rfl ?_
  refine Ops.nil ?_
  refine Run.seq ?_
  refine Run.ops hm ?_
  refine Ops.p rfl ?_
  refine Ops.p rfl ?_
  obtain ⟨y_118, hy_118, h⟩ := bindO h
  refine Ops.st (s := 9224) (Ev.call [] [] 0 (sem_laws_szEvent N x_2 (1048576 : Int) _ hy_118) rfl rfl (.cons (.agg (.cons (.c _) (.cons (.c _) (.cons (.c _) (.cons (.c _) (.cons (.c _) (.cons (.c _) (.cons (.c _) (.cons (.c _) (.cons (.c _) (.cons (.c _) (.cons (.c _) (.cons (.c _) (.cons (.c _) (.cons (.c _) .nil))))))))))))))) (.cons (.c _) .nil)) rfl (.inl rfl) rfl rfl) rfl rfl ?_
  refine Ops.p rfl ?_
  refine Ops.nil ?_
  refine Run.seq ?_
  refine Run.seq ?_
  refine Run.ops hm ?_
  refine Ops.p rfl ?_
  refine Ops.p rfl ?_
  refine Ops.nil ?_
  refine Run.condO rfl h (fun g_120 h => ?_) (fun g_120 h => ?_)
  · skip
    refine Run.seq ?_
    refine Run.ops hm ?_
    refine Ops.p rfl ?_
    refine Ops.nil ?_
    refine Run.ret ?_
    obtain rfl := someO h
    exact Ends.mk (.inl rfl) hB rfl rfl rfl rfl
  · skip
    refine Run.skip ?_
    refine Run.seq ?_
    refine Run.ops hm ?_
    refine Ops.p rfl ?_
    refine Ops.p rfl ?_
    obtain ⟨y_123, hy_123, h⟩ := bindO h
    refine Ops.st (s := 21512) (Ev.call [] [] 1 (sem_laws_toEvent N x_2 _ hy_123) rfl rfl (.cons (.agg (.cons (.c _) (.cons (.c _) (.cons (.c _) (.cons (.c _) (.cons (.c _) (.cons (.c _) (.cons (.c _) (.cons (.c _) (.cons (.c _) (.cons (.c _) (.cons (.c _) (.cons (.c _) (.cons (.c _) (.cons (.c _) .nil))))))))))))))) .nil) rfl (.inl rfl) rfl rfl) rfl rfl ?_
    obtain ⟨y_124, hy_124, h⟩ := bindO h
    refine Ops.st (s := 21528) (Ev.call [] [21512] 0 (sem_spec_EventOk N x_1 y_123 _ hy_124) rfl rfl (.cons (.c _) (.cons (.agg (.cons (.c _) (.cons (.c _) (.cons (.c _) (.cons (.c _) (.cons (.c _) (.cons (.c _) (.cons (.c _) (.cons (.c _) (.cons (.c _) (.cons (.c _) (.cons (.borrow rfl (by decide) (lendW (fun _ => rfl) _ rfl)) (.cons (.c _) (.cons (.c _) (.cons (.c _) .nil))))))))))))))) .nil)) rfl (.inr ⟨rfl, ownL_root trivial⟩) rfl rfl) rfl rfl ?_
    refine Ops.p rfl ?_
    refine Ops.nil ?_
    refine Run.seq ?_
    refine Run.ops hm ?_
    refine Ops.p rfl ?_
    obtain ⟨y_126, hy_126, h⟩ := bindO h
    refine Ops.st (s := 25592) (Ev.call [] [] 1 (sem_laws_toEvent N x_2 _ hy_126) rfl rfl (.cons (.agg (.cons (.c _) (.cons (.c _) (.cons (.c _) (.cons (.c _) (.cons (.c _) (.cons (.c _) (.cons (.c _) (.cons (.c _) (.cons (.c _) (.cons (.c _) (.cons (.c _) (.cons (.c _) (.cons (.c _) (.cons (.c _) .nil))))))))))))))) .nil) rfl (.inl rfl) rfl rfl) rfl rfl ?_
    refine Ops.st (s := 25608) (.al rfl rfl) rfl rfl ?_
    refine Ops.s0 (s := 25624) (.sto rfl rfl rfl rfl rfl rfl) rfl rfl ?_
    refine Ops.nil ?_
    refine Run.seq ?_
    refine Run.ops hm ?_
    refine Ops.p rfl ?_
    refine Ops.p rfl ?_
    obtain ⟨y_128, hy_128, h⟩ := bindO h
    refine Ops.st (s := 29704) (Ev.call [] [25592] 0 (sem_impl_EventOk N x_1 y_126 _ hy_128) rfl rfl (.cons (.c _) (.cons (.agg (.cons (.c _) (.cons (.c _) (.cons (.c _) (.cons (.c _) (.cons (.c _) (.cons (.c _) (.cons (.c _) (.cons (.c _) (.cons (.c _) (.cons (.c _) (.cons (.borrow rfl (by decide) (lendW (fun _ => rfl) _ rfl)) (.cons (.c _) (.cons (.c _) (.cons (.c _) .nil))))))))))))))) .nil)) rfl (.inr ⟨rfl, ownL_root trivial⟩) rfl rfl) rfl rfl ?_
    refine Ops.p rfl ?_
    refine Ops.nil ?_
    refine Run.seq ?_
    refine Run.seq ?_
    refine Run.ops hm ?_
    refine Ops.p rfl ?_
    refine Ops.p rfl ?_
    refine Ops.p rfl ?_
    refine Ops.nil ?_
    refine Run.condO rfl h (fun g_130 h => ?_) (fun g_130 h => ?_)
    · skip
      refine Run.seq ?_
      refine Run.ops hm ?_
      refine Ops.p rfl ?_
      refine Ops.nil ?_
      refine Run.ret ?_
      obtain rfl := someO h
      exact Ends.mk (.inl rfl) hB rfl rfl rfl rfl
    · skip
      refine Run.skip ?_
      refine Run.seq ?_
      refine Run.seq ?_
      refine Run.draw hm hmix ?_
      refine OpsD.p rfl ?_
      refine OpsD.p rfl ?_
      obtain ⟨y_131, hy_131, h⟩ := bindO h
      refine OpsD.st (s := 41992) (Ev.call [] [] 1 (sem_laws_toEvent N x_2 _ hy_131) rfl rfl (.cons (.agg (.cons (.c _) (.cons (.c _) (.cons (.c _) (.cons (.c _) (.cons (.c _) (.cons (.c _) (.cons (.c _) (.cons (.c _) (.cons (.c _) (.cons (.c _) (.cons (.c _) (.cons (.c _) (.cons (.c _) (.cons (.c _) .nil))))))))))))))) .nil) rfl (.inl rfl) rfl rfl) rfl rfl ?_
      obtain ⟨y_132, hy_132, h⟩ := bindO h
      refine OpsD.st (s := 42008) (Ev.call [] [25592, 41992] 0 (sem_laws_eqEvent N y_126 y_131 _ hy_132) rfl rfl (.cons (.agg (.cons (.c _) (.cons (.c _) (.cons (.c _) (.cons (.c _) (.cons (.c _) (.cons (.c _) (.cons (.c _) (.cons (.c _) (.cons (.c _) (.cons (.c _) (.cons (.borrow rfl (by decide) (lendW (fun _ => rfl) _ rfl)) (.cons (.c _) (.cons (.c _) (.cons (.c _) .nil))))))))))))))) (.cons (.agg (.cons (.c _) (.cons (.c _) (.cons (.c _) (.cons (.c _) (.cons (.c _) (.cons (.c _) (.cons (.c _) (.cons (.c _) (.cons (.c _) (.cons (.c _) (.cons (.borrow rfl (by decide) (lendW (fun _ => rfl) _ rfl)) (.cons (.c _) (.cons (.c _) (.cons (.c _) .nil))))))))))))))) .nil)) rfl (.inr ⟨rfl, ownL_root trivial⟩) rfl rfl) rfl rfl ?_
      refine OpsD.p rfl ?_
      refine OpsD.nil ⟨by kernel_rfl, ?_⟩
      refine Run.condO rfl h (fun g_133 h => ?_) (fun g_133 h => ?_)
      · skip
        refine Run.seq ?_
        refine Run.ops hm ?_
        refine Ops.p rfl ?_
        refine Ops.nil ?_
        refine Run.ret ?_
        obtain rfl := someO h
        exact Ends.mk (.inl rfl) hB rfl rfl rfl rfl
      · skip
        refine Run.skip ?_
        refine Run.seq ?_
        refine Run.ops hm ?_
        refine Ops.p rfl ?_
        refine Ops.nil ?_
        refine Run.ret ?_
        obtain rfl := someO h
        exact Ends.mk (.inl rfl) hB rfl rfl rfl rfl
end Go.Proofs.Ytebbgdjmplceiaa.Pe.FnExactEventOk
