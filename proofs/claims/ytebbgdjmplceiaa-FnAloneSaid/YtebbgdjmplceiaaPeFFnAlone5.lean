/- Functions, as pure functions; and that Go does just that. -/
import Derived.Test.YtebbgdjmplceiaaPeFFnAlone4
namespace Go.Proofs.Ytebbgdjmplceiaa.Pe.FnAlone
open Go Go.RowKit
set_option linter.unusedVariables false
set_option linter.unusedSimpArgs false
set_option maxHeartbeats 40000000
def spec_ConfOk (N : Nat) (x_1 : (List Int)) : Option (Bool) :=
 (spec_l01In N (x_1.length : Int) (1 : Int) (4 : Int)).bind fun y_103 =>
 (if y_103 = true then
 (spec_l07Rise N x_1 (1 : Int) (4 : Int)).bind fun y_105 =>
 some y_105
 else
 some false)
theorem sem_spec_ConfOk (N : Nat) (x_1 : (List Int)) (r : Bool) (h : spec_ConfOk N x_1 = some r) : Says Try.prog 96 [RO 3 (x_1.map encI)] 0 [] (VB r) [] := by
  unfold spec_ConfOk at h
  refine Says.of_run s96 Try.call96 rfl fun B hB => ?_
  have hm : B.m ≤ 1000 := by omega
  refine Run.seq ?_
  refine Run.ops hm ?_
  refine Ops.p rfl ?_
  refine Ops.nil ?_
  refine Run.seq ?_
  refine Run.ops hm ?_
  refine Ops.p rfl ?_
  refine Ops.st (s := 5112) (Ev.lnF rfl) rfl rfl ?_
  obtain ⟨y_103, hy_103, h⟩ := bindO h
  refine Ops.st (s := 5128) (Ev.call [] [] 0 (sem_spec_l01In N (x_1.length : Int) (1 : Int) (4 : Int) _ hy_103) rfl rfl (.cons (.c _) (.cons (.c _) (.cons (.c _) .nil))) rfl (.inl rfl) rfl rfl) rfl rfl ?_
  refine Ops.p rfl ?_
  refine Ops.askO (x := .t 6) rfl h (fun g_104 h => ?_) (fun g_104 h => ?_)
  · skip
    refine Ops.gp rfl g_104 rfl ?_
    obtain ⟨y_105, hy_105, h⟩ := bindO h
    refine Ops.gs (s := 5176) rfl g_104 (Ev.call [] [] 0 (sem_spec_l07Rise N x_1 (1 : Int) (4 : Int) _ hy_105) rfl rfl (.cons (.c _) (.cons (.c _) (.cons (.c _) .nil))) rfl (.inl rfl) rfl rfl) rfl rfl ?_
    refine Ops.st (s := 5192) (.pkT rfl g_104 rfl) rfl rfl ?_
    refine Ops.p rfl ?_
    refine Ops.nil ?_
    refine Run.ret ?_
    obtain rfl := someO h
    exact Ends.mkG (.inl rfl) rfl (gh_pk [0] [] hB rfl rfl rfl rfl) rfl rfl
  · skip
    refine Ops.gn rfl g_104 ?_
    refine Ops.gn rfl g_104 ?_
    refine Ops.st (s := 5192) (.pkF rfl g_104 rfl) rfl rfl ?_
    refine Ops.p rfl ?_
    refine Ops.nil ?_
    refine Run.ret ?_
    obtain rfl := someO h
    exact Ends.mkG (.inl rfl) rfl (gh_pk [0] [] hB rfl rfl rfl rfl) rfl rfl
def spec_ConfText_l1 (N : Nat) (x_1 : (List Int)) : Nat → Int → (List Int) → Option ((List Int))
 | 0, _, _ => none
 | m + 1, x_162, x_163 =>
 (if (decide (x_162 < (x_1.length : Int))) = true then
 (at? x_1 x_162).bind fun x_176 =>
 (cat? x_163 ([IntKind.wrap .u8 (x_176)] : List Int)).bind fun x_177 =>
 spec_ConfText_l1 N x_1 m (w64 (x_162 + (1 : Int))) x_177
 else
 some x_163)
def spec_ConfText_l1_r (N : Nat) (x_1 : (List Int)) : (List Int) → Int → (List Int) → Option ((List Int))
 | [], x_162, x_163 =>
 some x_163
 | hd :: tl, x_162, x_163 =>
 (some hd).bind fun x_176 =>
 (cat? x_163 ([IntKind.wrap .u8 (x_176)] : List Int)).bind fun x_177 =>
 spec_ConfText_l1_r N x_1 tl (w64 (x_162 + (1 : Int))) x_177
theorem spec_ConfText_l1_rng (N : Nat) (x_1 : (List Int)) (hx : x_1.length ≤ 1099511627776) : ∀ (d k m : Nat) (x_163 : (List Int)), x_1.length = k + d → d < m → spec_ConfText_l1 N x_1 m (k : Int) x_163 = spec_ConfText_l1_r N x_1 (x_1.drop k) (k : Int) x_163 := by
  intro d
  induction d with
  | zero =>
    intro k m x_163 hd hm
    obtain ⟨m, rfl⟩ : ∃ q, m = q + 1 := ⟨m - 1, by omega⟩
    rw [spec_ConfText_l1, if_neg (by simp; omega), List.drop_eq_nil_of_le (by omega), spec_ConfText_l1_r]
  | succ d ih =>
    intro k m x_163 hd hm
    obtain ⟨m, rfl⟩ : ∃ q, m = q + 1 := ⟨m - 1, by omega⟩
    have hk : k < x_1.length := by omega
    rw [spec_ConfText_l1, if_pos (by simp; omega), List.drop_eq_getElem_cons hk, spec_ConfText_l1_r]
    have h1 := at_lt hk
    have h2 := w64_succ (k := k) (by omega)
    have h3 := ih (k + 1) m
    simp only [h1, h2, h3 _ (by omega) (by omega)]
theorem spec_ConfText_l1_eq {N : Nat} (x_1 : (List Int)) (hx : x_1.length ≤ 1099511627776) (hN : x_1.length < N) (x_163 : (List Int)) : spec_ConfText_l1 N x_1 N 0 x_163 = spec_ConfText_l1_r N x_1 x_1 0 x_163 := spec_ConfText_l1_rng N x_1 hx x_1.length 0 N x_163 (by omega) hN
def spec_ConfText (N : Nat) (x_1 : (List Int)) : Option (ByteArray × Bool) :=
 (spec_ConfOk N x_1).bind fun y_141 =>
 (if (!y_141) = true then
 some ((⟨#[]⟩ : ByteArray), false)
 else
 joinP (fun (v_160 : (List Int)) =>
 some (strOf v_160, true)) fun j_160 =>
 (spec_ConfText_l1 N x_1 N (0 : Int) ([] : List Int)).bind (fun (v_170 : (List Int)) => j_160 v_170))
theorem sem_spec_ConfText (N : Nat) (x_1 : (List Int)) (r : ByteArray × Bool) (h : spec_ConfText N x_1 = some r) : Says Try.prog 61 [RO 3 (x_1.map encI)] 0 [] (.tup [VS r.1, VB r.2]) [] := by
  unfold spec_ConfText at h
  refine Says.of_run s61 Try.call61 rfl fun B hB => ?_
  have hm : B.m ≤ 1000 := by omega
  refine Run.seq ?_
  refine Run.ops hm ?_
  refine Ops.p rfl ?_
  refine Ops.p rfl ?_
  refine Ops.nil ?_
  refine Run.seq ?_
  refine Run.seq ?_
  refine Run.ops hm ?_
  refine Ops.p rfl ?_
  obtain ⟨y_141, hy_141, h⟩ := bindO h
  refine Ops.st (s := 5112) (Ev.call [] [] 0 (sem_spec_ConfOk N x_1 _ hy_141) rfl rfl (.cons (.c _) .nil) rfl (.inl rfl) rfl rfl) rfl rfl ?_
  refine Ops.p rfl ?_
  refine Ops.nil ?_
  refine Run.condO rfl h (fun g_142 h => ?_) (fun g_142 h => ?_)
  · skip
    refine Run.seq ?_
    refine Run.ops hm ?_
    refine Ops.p rfl ?_
    refine Ops.p rfl ?_
    refine Ops.nil ?_
    refine Run.ret ?_
    obtain rfl := someO h
    exact Ends.mkG (.inl rfl) rfl (gh_pk [0, 1] [] hB rfl rfl rfl rfl) rfl rfl
  · skip
    refine Run.skip ?_
    refine Run.seq ?_
    refine Run.ops hm ?_
    refine Ops.st (s := 13288) (Ev.bsW (ys := ([] : List Int)) (f := encU) rfl .nil rfl rfl rfl rfl rfl) rfl rfl ?_
    refine Ops.p rfl ?_
    refine Ops.nil ?_
    refine Run.seqO h (fun (v_160 : (List Int)) => [(4, .sl 0 5 0 v_160.length)]) (fun (v_160 : (List Int)) => [(0, .vec 5 (v_160.map encU))]) (fun h => ?_) (fun v_160 h => ?_)
    · skip
      refine Run.seq ?_
      refine Run.ops hm ?_
      refine Ops.p rfl ?_
      refine Ops.nil ?_
      refine Run.block ?_
      obtain ⟨res_170, h, hk_170⟩ := bindO h
      refine Run.loop (n := N) (fun m_170 fr σ => ∃ (x_162 : Int), ∃ (x_163 : (List Int)), spec_ConfText_l1 N x_1 m_170 x_162 x_163 = some res_170 ∧ fr = [(0, RO 3 (x_1.map encI)), (4, .sl 0 5 0 x_163.length), (5, VI x_162)] ∧ σ = [(0, .vec 5 (x_163.map encU))]) (gh_pk [0, 4, 5] [13288] hB rfl rfl rfl rfl) ⟨_, _, h, rfl, rfl⟩ ?_
      rintro m_170 fr σ ⟨x_162, x_163, h, rfl, rfl⟩
      obtain _ | m_170 := m_170
      · rw [spec_ConfText_l1] at h; cases h
      rw [spec_ConfText_l1] at h
      refine Run.seq ?_
      refine Run.seq ?_
      refine Run.ops hm ?_
      refine Ops.p rfl ?_
      refine Ops.p rfl ?_
      refine Ops.st (s := 21512) (Ev.lnF rfl) rfl rfl ?_
      refine Ops.p rfl ?_
      refine Ops.nil ?_
      refine Run.condO rfl h (fun g_173 h => ?_) (fun g_173 h => ?_)
      · skip
        refine Run.skip ?_
        refine Run.seq ?_
        refine Run.block ?_
        refine Run.ops hm ?_
        refine Ops.p rfl ?_
        refine Ops.p rfl ?_
        refine Ops.p rfl ?_
        obtain ⟨x_176, hx_176, h⟩ := bindO h
        refine Ops.st (s := 29720) (Ev.iaF rfl rfl hx_176) rfl rfl ?_
        refine Ops.p rfl ?_
        refine Ops.p rfl ?_
        refine Ops.st (s := 29768) (Ev.bsW (ys := ([IntKind.wrap .u8 (x_176)] : List Int)) (f := encU) rfl (.cons (.c _) .nil) rfl rfl rfl rfl rfl) rfl rfl ?_
        obtain ⟨x_177, hx_177, h⟩ := bindO h
        refine Ops.st (s := 29784) (Ev.apW (f := encU) (ontoW rfl rfl rfl) (addsW rfl rfl rfl (fun _ => rfl)) rfl bt5 rfl hx_177) rfl rfl ?_
        refine Ops.p rfl ?_
        refine Ops.nil ?_
        refine Run.ops hm ?_
        refine Ops.p rfl ?_
        refine Ops.p rfl ?_
        refine Ops.p rfl ?_
        refine Ops.nil ?_
        exact ⟨m_170, Nat.lt_succ_self m_170, _, _, (gh_pk [0, 4, 5] [29784] hB rfl rfl rfl rfl), _, _, h, rfl, rfl⟩
      · skip
        refine Run.exit ?_
        obtain rfl := someO h
        have h := hk_170
        exact ⟨_, _, (gh_pk [4] [0] hB rfl rfl rfl rfl), x_163, h, rfl, rfl⟩
    · skip
      refine Run.seq ?_
      refine Run.ops hm ?_
      refine Ops.p rfl ?_
      refine Ops.st (s := 33784) (.sbC (addsW (f := encU) rfl rfl rfl (fun _ => rfl))) rfl rfl ?_
      refine Ops.p rfl ?_
      refine Ops.p rfl ?_
      refine Ops.nil ?_
      refine Run.ret ?_
      obtain rfl := someO h
      exact Ends.mkG (.inl rfl) rfl (gh_pk [0, 1] [] hB rfl rfl rfl rfl) rfl rfl
def laws_sameInts_l1 (N : Nat) (x_1 : (List Int)) (x_2 : (List Int)) : Nat → Int → Option ((Bool) ⊕ (Unit))
 | 0, _ => none
 | m + 1, x_174 =>
 (if (decide (x_174 < (x_1.length : Int))) = true then
 (at? x_1 x_174).bind fun x_191 =>
 (at? x_2 x_174).bind fun x_192 =>
 (if (x_191 != x_192) = true then
 some (Sum.inl false)
 else
 laws_sameInts_l1 N x_1 x_2 m (w64 (x_174 + (1 : Int))))
 else
 some (Sum.inr ()))
def laws_sameInts_l1_r (N : Nat) (x_1 : (List Int)) (x_2 : (List Int)) : (List Int) → Int → Option ((Bool) ⊕ (Unit))
 | [], x_174 =>
 some (Sum.inr ())
 | hd :: tl, x_174 =>
 (some hd).bind fun x_191 =>
 (at? x_2 x_174).bind fun x_192 =>
 (if (x_191 != x_192) = true then
 some (Sum.inl false)
 else
 laws_sameInts_l1_r N x_1 x_2 tl (w64 (x_174 + (1 : Int))))
theorem laws_sameInts_l1_rng (N : Nat) (x_1 : (List Int)) (x_2 : (List Int)) (hx : x_1.length ≤ 1099511627776) : ∀ (d k m : Nat), x_1.length = k + d → d < m → laws_sameInts_l1 N x_1 x_2 m (k : Int) = laws_sameInts_l1_r N x_1 x_2 (x_1.drop k) (k : Int) := by
  intro d
  induction d with
  | zero =>
    intro k m hd hm
    obtain ⟨m, rfl⟩ : ∃ q, m = q + 1 := ⟨m - 1, by omega⟩
    rw [laws_sameInts_l1, if_neg (by simp; omega), List.drop_eq_nil_of_le (by omega), laws_sameInts_l1_r]
  | succ d ih =>
    intro k m hd hm
    obtain ⟨m, rfl⟩ : ∃ q, m = q + 1 := ⟨m - 1, by omega⟩
    have hk : k < x_1.length := by omega
    rw [laws_sameInts_l1, if_pos (by simp; omega), List.drop_eq_getElem_cons hk, laws_sameInts_l1_r]
    have h1 := at_lt hk
    have h2 := w64_succ (k := k) (by omega)
    have h3 := ih (k + 1) m
    simp only [h1, h2, h3 (by omega) (by omega)]
theorem laws_sameInts_l1_eq {N : Nat} (x_1 : (List Int)) (x_2 : (List Int)) (hx : x_1.length ≤ 1099511627776) (hN : x_1.length < N) : laws_sameInts_l1 N x_1 x_2 N 0 = laws_sameInts_l1_r N x_1 x_2 x_1 0 := laws_sameInts_l1_rng N x_1 x_2 hx x_1.length 0 N (by omega) hN
def laws_sameInts (N : Nat) (x_1 : (List Int)) (x_2 : (List Int)) : Option (Bool) :=
 (if ((x_1.length : Int) != (x_2.length : Int)) = true then
 some false
 else
 joinP (fun (v_171 : Unit) =>
 some true) fun j_171 =>
 (laws_sameInts_l1 N x_1 x_2 N (0 : Int)).bind (Sum.elim (fun v_183 => some v_183) (fun (v_184 : Unit) => j_171 ())))
theorem sem_laws_sameInts (N : Nat) (x_1 : (List Int)) (x_2 : (List Int)) (r : Bool) (h : laws_sameInts N x_1 x_2 = some r) : Says Try.prog 62 [RO 3 (x_1.map encI), RO 3 (x_2.map encI)] 0 [] (VB r) [] := by
  unfold laws_sameInts at h
  refine Says.of_run s62 Try.call62 rfl fun B hB => ?_
  have hm : B.m ≤ 1000 := by omega
  refine Run.seq ?_
  refine Run.ops hm ?_
  refine Ops.p rfl ?_
  refine Ops.nil ?_
  refine Run.seq ?_
  refine Run.seq ?_
  refine Run.ops hm ?_
  refine Ops.p rfl ?_
  refine Ops.st (s := 5112) (Ev.lnF rfl) rfl rfl ?_
  refine Ops.p rfl ?_
  refine Ops.st (s := 5144) (Ev.lnF rfl) rfl rfl ?_
  refine Ops.p rfl ?_
  refine Ops.nil ?_
  refine Run.condO rfl h (fun g_148 h => ?_) (fun g_148 h => ?_)
  · skip
    refine Run.seq ?_
    refine Run.ops hm ?_
    refine Ops.p rfl ?_
    refine Ops.nil ?_
    refine Run.ret ?_
    obtain rfl := someO h
    exact Ends.mkG (.inl rfl) rfl (gh_pk [0] [] hB rfl rfl rfl rfl) rfl rfl
  · skip
    refine Run.skip ?_
    refine Run.seqO h (fun (v_171 : Unit) => []) (fun (v_171 : Unit) => []) (fun h => ?_) (fun v_171 h => ?_)
    · skip
      refine Run.seq ?_
      refine Run.ops hm ?_
      refine Ops.p rfl ?_
      refine Ops.nil ?_
      refine Run.block ?_
      obtain ⟨res_184, h, hk_184⟩ := bindO h
      refine Run.loop (n := N) (fun m_184 fr σ => ∃ (x_174 : Int), laws_sameInts_l1 N x_1 x_2 m_184 x_174 = some res_184 ∧ fr = [(0, RO 3 (x_1.map encI)), (1, RO 3 (x_2.map encI)), (5, VI x_174)] ∧ σ = []) (gh_pk [0, 1, 5] [] hB rfl rfl rfl rfl) ⟨_, h, rfl, rfl⟩ ?_
      rintro m_184 fr σ ⟨x_174, h, rfl, rfl⟩
      obtain _ | m_184 := m_184
      · rw [laws_sameInts_l1] at h; cases h
      rw [laws_sameInts_l1] at h
      refine Run.seq ?_
      refine Run.seq ?_
      refine Run.ops hm ?_
      refine Ops.p rfl ?_
      refine Ops.p rfl ?_
      refine Ops.st (s := 17416) (Ev.lnF rfl) rfl rfl ?_
      refine Ops.p rfl ?_
      refine Ops.nil ?_
      refine Run.condO rfl h (fun g_187 h => ?_) (fun g_187 h => ?_)
      · skip
        refine Run.skip ?_
        refine Run.seq ?_
        refine Run.block ?_
        refine Run.seq ?_
        refine Run.draw hm hmix ?_
        refine OpsD.p rfl ?_
        refine OpsD.p rfl ?_
        obtain ⟨x_191, hx_191, h⟩ := bindO h
        refine OpsD.st (s := 25608) (Ev.iaF rfl rfl hx_191) rfl rfl ?_
        refine OpsD.p rfl ?_
        refine OpsD.p rfl ?_
        refine OpsD.p rfl ?_
        obtain ⟨x_192, hx_192, h⟩ := bindO h
        refine OpsD.st (s := 25672) (Ev.iaF rfl rfl hx_192) rfl rfl ?_
        refine OpsD.p rfl ?_
        refine OpsD.p rfl ?_
        refine OpsD.nil ⟨by kernel_rfl, ?_⟩
        refine Run.condO rfl h (fun g_193 h => ?_) (fun g_193 h => ?_)
        · skip
          refine Run.seq ?_
          refine Run.ops hm ?_
          refine Ops.p rfl ?_
          refine Ops.nil ?_
          refine Run.ret ?_
          obtain rfl := someO h
          have h := hk_184
          replace h := inlO h
          obtain rfl := someO h
          exact Ends.mkG (.inl rfl) rfl (gh_pk [0] [] hB rfl rfl rfl rfl) rfl rfl
        · skip
          refine Run.skip ?_
          refine Run.ops hm ?_
          refine Ops.p rfl ?_
          refine Ops.p rfl ?_
          refine Ops.p rfl ?_
          refine Ops.nil ?_
          exact ⟨m_184, Nat.lt_succ_self m_184, _, _, (gh_pk [0, 1, 5] [] hB rfl rfl rfl rfl), _, h, rfl, rfl⟩
      · skip
        refine Run.exit ?_
        obtain rfl := someO h
        have h := hk_184
        replace h := inrO h
        exact ⟨_, _, (gh_pk [] [] hB rfl rfl rfl rfl), (), h, rfl, rfl⟩
    · skip
      refine Run.seq ?_
      refine Run.ops hm ?_
      refine Ops.p rfl ?_
      refine Ops.nil ?_
      refine Run.ret ?_
      obtain rfl := someO h
      exact Ends.mkG (.inl rfl) rfl (gh_pk [0] [] hB rfl rfl rfl rfl) rfl rfl
def laws_FnAlone (N : Nat) (x_1 : (List Int)) : Option (Bool) :=
 (laws_big N x_1).bind fun y_167 =>
 (if y_167 = true then
 some true
 else
 (spec_DrawPlaces N x_1).bind fun y_170 =>
 (at? y_170 (0 : Int)).bind fun x_173 =>
 (intD .rem .i64 x_173 (4 : Int)).bind fun x_174 =>
 (impl_NodeNew N (w64 ((1 : Int) + x_174)) ([w64 ((1 : Int) + x_174)] : List Int)).bind fun y_176 =>
 (impl_Tick N (Node.mk y_176.1.Id y_176.1.Term y_176.1.Vote y_176.1.Role y_176.1.Lead y_176.1.Conf y_176.1.Log y_176.1.Commit y_176.1.Clock (1 : Int) y_176.1.Votes y_176.1.Peers) (5 : Int)).bind fun y_178 =>
 (if (!y_176.2) = true then
 some false
 else
 (if (!y_178.2.2) = true then
 some false
 else
 (if (y_178.1.Role != (2 : Int)) = true then
 some false
 else
 (if (y_178.1.Term != (1 : Int)) = true then
 some false
 else
 (if (((y_178.2.1.length : Nat) : Int) != (0 : Int)) = true then
 some false
 else
 (if (y_178.1.Commit != (1 : Int)) = true then
 some false
 else
 (impl_Propose N y_178.1 (3 : Int) (⟨#[115, 111, 109, 101]⟩ : ByteArray)).bind fun y_192 =>
 (if (!y_192.2.2.2) = true then
 some false
 else
 (if (y_192.2.2.1 != (2 : Int)) = true then
 some false
 else
 (if (y_192.1.Commit != (2 : Int)) = true then
 some false
 else
 (intD .rem .i64 (w64 ((1 : Int) + x_174)) (4 : Int)).bind fun x_200 =>
 (intD .rem .i64 (w64 (x_200 + (1 : Int))) (4 : Int)).bind fun x_202 =>
 joinP (fun (v_204 : (List Int)) =>
 (spec_ConfText N v_204).bind fun y_207 =>
 (impl_Propose N y_192.1 (2 : Int) y_207.1).bind fun y_209 =>
 (spec_ConfText N ([w64 (x_202 + (1 : Int))] : List Int)).bind fun y_211 =>
 (impl_Propose N y_192.1 (2 : Int) y_211.1).bind fun y_213 =>
 (spec_ConfText N ([w64 ((1 : Int) + x_174)] : List Int)).bind fun y_215 =>
 (impl_Propose N y_209.1 (2 : Int) y_215.1).bind fun y_217 =>
 (if y_209.2.2.2 = true then
 (if (!y_213.2.2.2) = true then
 (if (!y_217.2.2.2) = true then
 (if (y_209.1.Commit == (2 : Int)) = true then
 (if (((y_209.2.1.length : Nat) : Int) == (1 : Int)) = true then
 (impl_ConfOf N y_209.1).bind fun y_223 =>
 (laws_sameInts N y_223 v_204).bind fun y_224 =>
 (if y_224 = true then
 (impl_ConfAt N y_209.1 (2 : Int)).bind fun y_226 =>
 (laws_sameInts N y_226 ([w64 ((1 : Int) + x_174)] : List Int)).bind fun y_227 =>
 (if y_227 = true then
 (impl_NodeOk N y_209.1).bind fun y_229 =>
 some y_229
 else
 some false)
 else
 some false)
 else
 some false)
 else
 some false)
 else
 some false)
 else
 some false)
 else
 some false)) fun j_204 =>
 (if (decide ((w64 ((1 : Int) + x_174)) > (w64 (x_200 + (1 : Int))))) = true then
 j_204 ([w64 (x_200 + (1 : Int)), w64 ((1 : Int) + x_174)] : List Int)
 else
 j_204 ([w64 ((1 : Int) + x_174), w64 (x_200 + (1 : Int))] : List Int))))))))))))
theorem sem_laws_FnAlone (N : Nat) (x_1 : (List Int)) (r : Bool) (h : laws_FnAlone N x_1 = some r) : Says Try.prog 11 [RO 5 (x_1.map encU)] 0 [] (VB r) [] := by
  unfold laws_FnAlone at h
  refine Says.of_run s11 Try.call11 rfl fun B hB => ?_
  have hm : B.m ≤ 1000 := by omega
  refine Run.seq ?_
  refine Run.ops hm ?_
  refine Ops.p rfl ?_
  refine Ops.nil ?_
  refine Run.seq ?_
  refine Run.seq ?_
  refine Run.ops hm ?_
  refine Ops.p rfl ?_
  obtain ⟨y_167, hy_167, h⟩ := bindO h
  refine Ops.st (s := 5112) (Ev.call [] [] 0 (sem_laws_big N x_1 _ hy_167) rfl rfl (.cons (.c _) .nil) rfl (.inl rfl) rfl rfl) rfl rfl ?_
  refine Ops.nil ?_
  refine Run.condO rfl h (fun g_168 h => ?_) (fun g_168 h => ?_)
  · skip
    refine Run.seq ?_
    refine Run.ops hm ?_
    refine Ops.p rfl ?_
    refine Ops.nil ?_
    refine Run.ret ?_
    obtain rfl := someO h
    exact Ends.mkG (.inl rfl) rfl (gh_pk [0] [] hB rfl rfl rfl rfl) rfl rfl
  · skip
    refine Run.skip ?_
    refine Run.seq ?_
    refine Run.ops hm ?_
    refine Ops.p rfl ?_
    obtain ⟨y_170, hy_170, h⟩ := bindO h
    refine Ops.st (s := 13304) (Ev.call [] [] 1 (sem_spec_DrawPlaces N x_1 _ hy_170) rfl rfl (.cons (.c _) .nil) rfl (.inl rfl) rfl rfl) rfl rfl ?_
    refine Ops.p rfl ?_
    refine Ops.nil ?_
    refine Run.seq ?_
    refine Run.ops hm ?_
    refine Ops.p rfl ?_
    obtain ⟨x_173, hx_173, h⟩ := bindO h
    refine Ops.st (s := 17400) (Ev.iaW rfl rfl rfl hx_173) rfl rfl ?_
    refine Ops.st (s := 17416) (Ev.ldE (f := encI) rfl rfl (at_some hx_173).2 rfl rfl rfl) rfl rfl ?_
    obtain ⟨x_174, hx_174, h⟩ := bindO h
    refine Ops.st (s := 17432) (.bin rfl rfl hx_174) rfl rfl ?_
    refine Ops.p rfl ?_
    refine Ops.p rfl ?_
    refine Ops.nil ?_
    refine Run.seq ?_
    refine Run.ops hm ?_
    refine Ops.p rfl ?_
    refine Ops.p rfl ?_
    refine Ops.st (s := 21512) (Ev.bsW (ys := ([w64 ((1 : Int) + x_174)] : List Int)) (f := encI) rfl (.cons (.c _) .nil) rfl rfl rfl rfl rfl) rfl rfl ?_
    obtain ⟨y_176, hy_176, h⟩ := bindO h
    refine Ops.st (s := 21528) (Ev.call [] [21512] 4 (sem_impl_NodeNew N (w64 ((1 : Int) + x_174)) ([w64 ((1 : Int) + x_174)] : List Int) _ hy_176) rfl rfl (.cons (.c _) (.cons (.borrow rfl (by decide) (lendW (fun _ => rfl) _ rfl)) .nil)) rfl (.inr ⟨rfl, ownL_root ⟨own_rows (fun _ => rfl) _, own_rows (fun _ => rfl) _, own_rows (fun _ => rfl) _, own_rows (fun _ => rfl) _, trivial⟩⟩) rfl rfl) rfl rfl ?_
    refine Ops.p rfl ?_
    refine Ops.p rfl ?_
    refine Ops.p rfl ?_
    refine Ops.st (s := 21592) (.al rfl rfl) rfl rfl ?_
    refine Ops.s0 (s := 21608) (.sto rfl rfl rfl rfl rfl rfl) rfl rfl ?_
    refine Ops.p rfl ?_
    refine Ops.nil ?_
    refine Run.seq ?_
    refine Run.ops hm ?_
    refine Ops.p rfl ?_
    refine Ops.s0 (s := 25592) (.sto rfl rfl rfl rfl rfl rfl) rfl rfl ?_
    refine Ops.nil ?_
    refine Run.seq ?_
    refine Run.ops hm ?_
    refine Ops.p rfl ?_
    obtain ⟨y_178, hy_178, h⟩ := bindO h
    refine Ops.st (s := 29688) (Ev.call [] [21528, 21529, 21530, 21531] 5 (sem_impl_Tick N (Node.mk y_176.1.Id y_176.1.Term y_176.1.Vote y_176.1.Role y_176.1.Lead y_176.1.Conf y_176.1.Log y_176.1.Commit y_176.1.Clock (1 : Int) y_176.1.Votes y_176.1.Peers) (5 : Int) _ hy_178) rfl rfl (.cons (.agg (.cons (.c _) (.cons (.c _) (.cons (.c _) (.cons (.c _) (.cons (.c _) (.cons (.borrow rfl (by decide) (lendW (fun _ => rfl) _ rfl)) (.cons (.c _) (.cons (.c _) (.cons (.borrow rfl (by decide) (lendW (fun _ => rfl) _ rfl)) (.cons (.c _) (.cons (.c _) (.cons (.c _) (.cons (.borrow rfl (by decide) (lendW (fun _ => rfl) _ rfl)) (.cons (.borrow rfl (by decide) (lendW (fun _ => rfl) _ rfl)) .nil))))))))))))))) (.cons (.c _) .nil)) rfl (.inr ⟨rfl, ownL_root ⟨own_rows (fun _ => rfl) _, own_rows (fun _ => rfl) _, own_rows (fun _ => rfl) _, own_rows (fun _ => rfl) _, own_rows own_encMessage _, trivial⟩⟩) rfl rfl) rfl rfl ?_
    refine Ops.p rfl ?_
    refine Ops.p rfl ?_
    refine Ops.p rfl ?_
    refine Ops.p rfl ?_
    refine Ops.st (s := 29768) (.al rfl rfl) rfl rfl ?_
    refine Ops.s0 (s := 29784) (.sto rfl rfl rfl rfl rfl rfl) rfl rfl ?_
    refine Ops.p rfl ?_
    refine Ops.p rfl ?_
    refine Ops.nil ?_
    refine Run.seq ?_
    refine Run.seq ?_
    refine Run.ops hm ?_
    refine Ops.p rfl ?_
    refine Ops.p rfl ?_
    refine Ops.p rfl ?_
    refine Ops.askO (x := .t 60) rfl h (fun g_185 h => ?_) (fun g_185 h => ?_)
    · skip
      refine Ops.gn rfl g_185 ?_
      refine Ops.gn rfl g_185 ?_
      refine Ops.st (s := 33848) (.pkT rfl g_185 rfl) rfl rfl ?_
      refine Ops.p rfl ?_
      refine Ops.gn rfl rfl ?_
      refine Ops.gn rfl rfl ?_
      refine Ops.gn rfl rfl ?_
      refine Ops.st (s := 33928) (.pkT rfl rfl rfl) rfl rfl ?_
      refine Ops.p rfl ?_
      refine Ops.gn rfl rfl ?_
      refine Ops.gn rfl rfl ?_
      refine Ops.gn rfl rfl ?_
      refine Ops.st (s := 34008) (.pkT rfl rfl rfl) rfl rfl ?_
      refine Ops.p rfl ?_
      refine Ops.gn rfl rfl ?_
      refine Ops.gn rfl rfl ?_
      refine Ops.gn rfl rfl ?_
      refine Ops.st (s := 34088) (.pkT rfl rfl rfl) rfl rfl ?_
      refine Ops.p rfl ?_
      refine Ops.gn rfl rfl ?_
      refine Ops.gn rfl rfl ?_
      refine Ops.gn rfl rfl ?_
      refine Ops.st (s := 34168) (.pkT rfl rfl rfl) rfl rfl ?_
      refine Ops.nil ?_
      refine Run.condT rfl rfl ?_
      refine Run.seq ?_
      refine Run.ops hm ?_
      refine Ops.p rfl ?_
      refine Ops.nil ?_
      refine Run.ret ?_
      obtain rfl := someO h
      exact Ends.mkG (.inl rfl) rfl (gh_pk [0] [] hB rfl rfl rfl rfl) rfl rfl
    · skip
      refine Ops.gp rfl g_185 rfl ?_
      refine Ops.gp rfl g_185 rfl ?_
      refine Ops.st (s := 33848) (.pkF rfl g_185 rfl) rfl rfl ?_
      refine Ops.p rfl ?_
      refine Ops.askO (x := .t 64) rfl h (fun g_186 h => ?_) (fun g_186 h => ?_)
      · skip
        refine Ops.gn rfl g_186 ?_
        refine Ops.gn rfl g_186 ?_
        refine Ops.gn rfl g_186 ?_
        refine Ops.st (s := 33928) (.pkT rfl g_186 rfl) rfl rfl ?_
        refine Ops.p rfl ?_
        refine Ops.gn rfl rfl ?_
        refine Ops.gn rfl rfl ?_
        refine Ops.gn rfl rfl ?_
        refine Ops.st (s := 34008) (.pkT rfl rfl rfl) rfl rfl ?_
        refine Ops.p rfl ?_
        refine Ops.gn rfl rfl ?_
        refine Ops.gn rfl rfl ?_
        refine Ops.gn rfl rfl ?_
        refine Ops.st (s := 34088) (.pkT rfl rfl rfl) rfl rfl ?_
        refine Ops.p rfl ?_
        refine Ops.gn rfl rfl ?_
        refine Ops.gn rfl rfl ?_
        refine Ops.gn rfl rfl ?_
        refine Ops.st (s := 34168) (.pkT rfl rfl rfl) rfl rfl ?_
        refine Ops.nil ?_
        refine Run.condT rfl rfl ?_
        refine Run.seq ?_
        refine Run.ops hm ?_
        refine Ops.p rfl ?_
        refine Ops.nil ?_
        refine Run.ret ?_
        obtain rfl := someO h
        exact Ends.mkG (.inl rfl) rfl (gh_pk [0] [] hB rfl rfl rfl rfl) rfl rfl
      · skip
        refine Ops.gp rfl g_186 rfl ?_
        refine Ops.gp rfl g_186 rfl ?_
        refine Ops.gp rfl g_186 rfl ?_
        refine Ops.st (s := 33928) (.pkF rfl g_186 rfl) rfl rfl ?_
        refine Ops.p rfl ?_
        refine Ops.askO (x := .t 69) rfl h (fun g_187 h => ?_) (fun g_187 h => ?_)
        · skip
          refine Ops.gn rfl g_187 ?_
          refine Ops.gn rfl g_187 ?_
          refine Ops.gn rfl g_187 ?_
          refine Ops.st (s := 34008) (.pkT rfl g_187 rfl) rfl rfl ?_
          refine Ops.p rfl ?_
          refine Ops.gn rfl rfl ?_
          refine Ops.gn rfl rfl ?_
          refine Ops.gn rfl rfl ?_
          refine Ops.st (s := 34088) (.pkT rfl rfl rfl) rfl rfl ?_
          refine Ops.p rfl ?_
          refine Ops.gn rfl rfl ?_
          refine Ops.gn rfl rfl ?_
          refine Ops.gn rfl rfl ?_
          refine Ops.st (s := 34168) (.pkT rfl rfl rfl) rfl rfl ?_
          refine Ops.nil ?_
          refine Run.condT rfl rfl ?_
          refine Run.seq ?_
          refine Run.ops hm ?_
          refine Ops.p rfl ?_
          refine Ops.nil ?_
          refine Run.ret ?_
          obtain rfl := someO h
          exact Ends.mkG (.inl rfl) rfl (gh_pk [0] [] hB rfl rfl rfl rfl) rfl rfl
        · skip
          refine Ops.gp rfl g_187 rfl ?_
          refine Ops.gp rfl g_187 rfl ?_
          refine Ops.gp rfl g_187 rfl ?_
          refine Ops.st (s := 34008) (.pkF rfl g_187 rfl) rfl rfl ?_
          refine Ops.p rfl ?_
          refine Ops.askO (x := .t 74) rfl h (fun g_188 h => ?_) (fun g_188 h => ?_)
          · skip
            refine Ops.gn rfl g_188 ?_
            refine Ops.gn rfl g_188 ?_
            refine Ops.gn rfl g_188 ?_
            refine Ops.st (s := 34088) (.pkT rfl g_188 rfl) rfl rfl ?_
            refine Ops.p rfl ?_
            refine Ops.gn rfl rfl ?_
            refine Ops.gn rfl rfl ?_
            refine Ops.gn rfl rfl ?_
            refine Ops.st (s := 34168) (.pkT rfl rfl rfl) rfl rfl ?_
            refine Ops.nil ?_
            refine Run.condT rfl rfl ?_
            refine Run.seq ?_
            refine Run.ops hm ?_
            refine Ops.p rfl ?_
            refine Ops.nil ?_
            refine Run.ret ?_
            obtain rfl := someO h
            exact Ends.mkG (.inl rfl) rfl (gh_pk [0] [] hB rfl rfl rfl rfl) rfl rfl
          · skip
            refine Ops.gp rfl g_188 rfl ?_
            refine Ops.gp rfl g_188 rfl ?_
            refine Ops.gp rfl g_188 rfl ?_
            refine Ops.st (s := 34088) (.pkF rfl g_188 rfl) rfl rfl ?_
            refine Ops.p rfl ?_
            refine Ops.askO (x := .t 79) rfl h (fun g_189 h => ?_) (fun g_189 h => ?_)
            · skip
              refine Ops.gn rfl g_189 ?_
              refine Ops.gn rfl g_189 ?_
              refine Ops.gn rfl g_189 ?_
              refine Ops.st (s := 34168) (.pkT rfl g_189 rfl) rfl rfl ?_
              refine Ops.nil ?_
              refine Run.condT rfl rfl ?_
              refine Run.seq ?_
              refine Run.ops hm ?_
              refine Ops.p rfl ?_
              refine Ops.nil ?_
              refine Run.ret ?_
              obtain rfl := someO h
              exact Ends.mkG (.inl rfl) rfl (gh_pk [0] [] hB rfl rfl rfl rfl) rfl rfl
            · skip
              refine Ops.gp rfl g_189 rfl ?_
              refine Ops.gp rfl g_189 rfl ?_
              refine Ops.gp rfl g_189 rfl ?_
              refine Ops.st (s := 34168) (.pkF rfl g_189 rfl) rfl rfl ?_
              refine Ops.nil ?_
              refine Run.condO rfl h (fun g_190 h => ?_) (fun g_190 h => ?_)
              · skip
                refine Run.seq ?_
                refine Run.ops hm ?_
                refine Ops.p rfl ?_
                refine Ops.nil ?_
                refine Run.ret ?_
                obtain rfl := someO h
                exact Ends.mkG (.inl rfl) rfl (gh_pk [0] [] hB rfl rfl rfl rfl) rfl rfl
              · skip
                refine Run.skip ?_
                refine Run.seq ?_
                refine Run.ops hm ?_
                refine Ops.p rfl ?_
                obtain ⟨y_192, hy_192, h⟩ := bindO h
                refine Ops.st (s := 41976) (Ev.call [] [29688, 29689, 29690, 29691] 5 (sem_impl_Propose N y_178.1 (3 : Int) (⟨#[115, 111, 109, 101]⟩ : ByteArray) _ hy_192) rfl rfl (.cons (.agg (.cons (.c _) (.cons (.c _) (.cons (.c _) (.cons (.c _) (.cons (.c _) (.cons (.borrow rfl (by decide) (lendW (fun _ => rfl) _ rfl)) (.cons (.c _) (.cons (.c _) (.cons (.borrow rfl (by decide) (lendW (fun _ => rfl) _ rfl)) (.cons (.c _) (.cons (.c _) (.cons (.c _) (.cons (.borrow rfl (by decide) (lendW (fun _ => rfl) _ rfl)) (.cons (.borrow rfl (by decide) (lendW (fun _ => rfl) _ rfl)) .nil))))))))))))))) (.cons (.c _) (.cons (.c _) .nil))) rfl (.inr ⟨rfl, ownL_root ⟨own_rows (fun _ => rfl) _, own_rows (fun _ => rfl) _, own_rows (fun _ => rfl) _, own_rows (fun _ => rfl) _, own_rows own_encMessage _, trivial⟩⟩) rfl rfl) rfl rfl ?_
                refine Ops.p rfl ?_
                refine Ops.p rfl ?_
                refine Ops.p rfl ?_
                refine Ops.p rfl ?_
                refine Ops.p rfl ?_
                refine Ops.st (s := 42072) (.al rfl rfl) rfl rfl ?_
                refine Ops.s0 (s := 42088) (.sto rfl rfl rfl rfl rfl rfl) rfl rfl ?_
                refine Ops.p rfl ?_
                refine Ops.p rfl ?_
                refine Ops.p rfl ?_
                refine Ops.nil ?_
                refine Run.seq ?_
                refine Run.seq ?_
                refine Run.ops hm ?_
                refine Ops.p rfl ?_
                refine Ops.p rfl ?_
                refine Ops.p rfl ?_
                refine Ops.askO (x := .t 93) rfl h (fun g_196 h => ?_) (fun g_196 h => ?_)
                · skip
                  refine Ops.gn rfl g_196 ?_
                  refine Ops.gn rfl g_196 ?_
                  refine Ops.st (s := 46136) (.pkT rfl g_196 rfl) rfl rfl ?_
                  refine Ops.p rfl ?_
                  refine Ops.gn rfl rfl ?_
                  refine Ops.gn rfl rfl ?_
                  refine Ops.gn rfl rfl ?_
                  refine Ops.st (s := 46216) (.pkT rfl rfl rfl) rfl rfl ?_
                  refine Ops.nil ?_
                  refine Run.condT rfl rfl ?_
                  refine Run.seq ?_
                  refine Run.ops hm ?_
                  refine Ops.p rfl ?_
                  refine Ops.nil ?_
                  refine Run.ret ?_
                  obtain rfl := someO h
                  exact Ends.mkG (.inl rfl) rfl (gh_pk [0] [] hB rfl rfl rfl rfl) rfl rfl
                · skip
                  refine Ops.gp rfl g_196 rfl ?_
                  refine Ops.gp rfl g_196 rfl ?_
                  refine Ops.st (s := 46136) (.pkF rfl g_196 rfl) rfl rfl ?_
                  refine Ops.p rfl ?_
                  refine Ops.askO (x := .t 97) rfl h (fun g_197 h => ?_) (fun g_197 h => ?_)
                  · skip
                    refine Ops.gn rfl g_197 ?_
                    refine Ops.gn rfl g_197 ?_
                    refine Ops.gn rfl g_197 ?_
                    refine Ops.st (s := 46216) (.pkT rfl g_197 rfl) rfl rfl ?_
                    refine Ops.nil ?_
                    refine Run.condT rfl rfl ?_
                    refine Run.seq ?_
                    refine Run.ops hm ?_
                    refine Ops.p rfl ?_
                    refine Ops.nil ?_
                    refine Run.ret ?_
                    obtain rfl := someO h
                    exact Ends.mkG (.inl rfl) rfl (gh_pk [0] [] hB rfl rfl rfl rfl) rfl rfl
                  · skip
                    refine Ops.gp rfl g_197 rfl ?_
                    refine Ops.gp rfl g_197 rfl ?_
                    refine Ops.gp rfl g_197 rfl ?_
                    refine Ops.st (s := 46216) (.pkF rfl g_197 rfl) rfl rfl ?_
                    refine Ops.nil ?_
                    refine Run.condO rfl h (fun g_198 h => ?_) (fun g_198 h => ?_)
                    · skip
                      refine Run.seq ?_
                      refine Run.ops hm ?_
                      refine Ops.p rfl ?_
                      refine Ops.nil ?_
                      refine Run.ret ?_
                      obtain rfl := someO h
                      exact Ends.mkG (.inl rfl) rfl (gh_pk [0] [] hB rfl rfl rfl rfl) rfl rfl
                    · skip
                      refine Run.skip ?_
                      refine Run.seq ?_
                      refine Run.ops hm ?_
                      refine Ops.p rfl ?_
                      obtain ⟨x_200, hx_200, h⟩ := bindO h
                      refine Ops.st (s := 54264) (.bin rfl rfl hx_200) rfl rfl ?_
                      refine Ops.p rfl ?_
                      refine Ops.p rfl ?_
                      refine Ops.nil ?_
                      refine Run.seq ?_
                      refine Run.ops hm ?_
                      refine Ops.p rfl ?_
                      obtain ⟨x_202, hx_202, h⟩ := bindO h
                      refine Ops.st (s := 58360) (.bin rfl rfl hx_202) rfl rfl ?_
                      refine Ops.p rfl ?_
                      refine Ops.p rfl ?_
                      refine Ops.nil ?_
                      refine Run.seq ?_
                      refine Run.ops hm ?_
                      refine Ops.p rfl ?_
                      refine Ops.p rfl ?_
                      refine Ops.st (s := 62472) (Ev.bsW (ys := ([w64 ((1 : Int) + x_174), w64 (x_200 + (1 : Int))] : List Int)) (f := encI) rfl (.cons (.c _) (.cons (.c _) .nil)) rfl rfl rfl rfl rfl) rfl rfl ?_
                      refine Ops.p rfl ?_
                      refine Ops.nil ?_
                      refine Run.seqO h (fun (v_204 : (List Int)) => [(4, VI (w64 ((1 : Int) + x_174))), (10, .ptr 0 0), (15, VI (w64 (x_202 + (1 : Int)))), (16, .sl 1 3 0 v_204.length)]) (fun (v_204 : (List Int)) => [(0, .box [VI y_192.1.Id, VI y_192.1.Term, VI y_192.1.Vote, VI y_192.1.Role, VI y_192.1.Lead, .sl 2 3 0 y_192.1.Conf.length, VI y_192.1.Log.Start, VI y_192.1.Log.StartTerm, .sl 3 48 0 y_192.1.Log.Entries.length, VI y_192.1.Commit, VI y_192.1.Clock, VI y_192.1.Limit, .sl 4 3 0 y_192.1.Votes.length, .sl 5 172 0 y_192.1.Peers.length]), (1, .vec 3 (v_204.map encI)), (2, .vec 3 (y_192.1.Conf.map encI)), (3, .vec 48 (y_192.1.Log.Entries.map encEntry)), (4, .vec 3 (y_192.1.Votes.map encI)), (5, .vec 172 (y_192.1.Peers.map encPeer))]) (fun h => ?_) (fun v_204 h => ?_)
                      · skip
                        refine Run.seq ?_
                        refine Run.ops hm ?_
                        refine Ops.p rfl ?_
                        refine Ops.p rfl ?_
                        refine Ops.p rfl ?_
                        refine Ops.nil ?_
                        refine Run.condO rfl h (fun g_205 h => ?_) (fun g_205 h => ?_)
                        · skip
                          refine Run.ops hm ?_
                          refine Ops.p rfl ?_
                          refine Ops.p rfl ?_
                          refine Ops.st (s := 70664) (Ev.bsW (ys := ([w64 (x_200 + (1 : Int)), w64 ((1 : Int) + x_174)] : List Int)) (f := encI) rfl (.cons (.c _) (.cons (.c _) .nil)) rfl rfl rfl rfl rfl) rfl rfl ?_
                          refine Ops.p rfl ?_
                          refine Ops.nil ?_
                          exact ⟨_, _, (gh_pk [4, 10, 15, 16] [42072, 70664, 41976, 41977, 41978, 41979] hB rfl rfl rfl rfl), ([w64 (x_200 + (1 : Int)), w64 ((1 : Int) + x_174)] : List Int), h, rfl, rfl⟩
                        · skip
                          refine Run.skip ?_
                          exact ⟨_, _, (gh_pk [4, 10, 15, 16] [42072, 62472, 41976, 41977, 41978, 41979] hB rfl rfl rfl rfl), ([w64 ((1 : Int) + x_174), w64 (x_200 + (1 : Int))] : List Int), h, rfl, rfl⟩
                      · skip
                        refine Run.seq ?_
                        refine Run.ops hm ?_
                        refine Ops.p rfl ?_
                        obtain ⟨y_207, hy_207, h⟩ := bindO h
                        refine Ops.st (s := 74744) (Ev.call [] [1] 0 (sem_spec_ConfText N v_204 _ hy_207) rfl rfl (.cons (.borrow rfl (by decide) (lendW (fun _ => rfl) _ rfl)) .nil) rfl (.inr ⟨rfl, ownL_root trivial⟩) rfl rfl) rfl rfl ?_
                        refine Ops.p rfl ?_
                        refine Ops.p rfl ?_
                        refine Ops.p rfl ?_
                        refine Ops.p rfl ?_
                        refine Ops.p rfl ?_
                        refine Ops.nil ?_
                        refine Run.seq ?_
                        refine Run.ops hm ?_
                        refine Ops.p rfl ?_
                        refine Ops.p rfl ?_
                        obtain ⟨y_209, hy_209, h⟩ := bindO h
                        refine Ops.st (s := 78856) (Ev.call [] [2, 3, 4, 5] 5 (sem_impl_Propose N y_192.1 (2 : Int) y_207.1 _ hy_209) rfl rfl (.cons (.agg (.cons (.c _) (.cons (.c _) (.cons (.c _) (.cons (.c _) (.cons (.c _) (.cons (.borrow rfl (by decide) (lendW (fun _ => rfl) _ rfl)) (.cons (.c _) (.cons (.c _) (.cons (.borrow rfl (by decide) (lendW (fun _ => rfl) _ rfl)) (.cons (.c _) (.cons (.c _) (.cons (.c _) (.cons (.borrow rfl (by decide) (lendW (fun _ => rfl) _ rfl)) (.cons (.borrow rfl (by decide) (lendW (fun _ => rfl) _ rfl)) .nil))))))))))))))) (.cons (.c _) (.cons (.c _) .nil))) rfl (.inr ⟨rfl, ownL_root ⟨own_rows (fun _ => rfl) _, own_rows (fun _ => rfl) _, own_rows (fun _ => rfl) _, own_rows (fun _ => rfl) _, own_rows own_encMessage _, trivial⟩⟩) rfl rfl) rfl rfl ?_
                        refine Ops.p rfl ?_
                        refine Ops.p rfl ?_
                        refine Ops.p rfl ?_
                        refine Ops.p rfl ?_
                        refine Ops.p rfl ?_
                        refine Ops.st (s := 78952) (.al rfl rfl) rfl rfl ?_
                        refine Ops.s0 (s := 78968) (.sto rfl rfl rfl rfl rfl rfl) rfl rfl ?_
                        refine Ops.p rfl ?_
                        refine Ops.p rfl ?_
                        refine Ops.p rfl ?_
                        refine Ops.nil ?_
                        refine Run.seq ?_
                        refine Run.ops hm ?_
                        refine Ops.p rfl ?_
                        refine Ops.st (s := 82936) (Ev.bsW (ys := ([w64 (x_202 + (1 : Int))] : List Int)) (f := encI) rfl (.cons (.c _) .nil) rfl rfl rfl rfl rfl) rfl rfl ?_
                        obtain ⟨y_211, hy_211, h⟩ := bindO h
                        refine Ops.st (s := 82952) (Ev.call [] [82936] 0 (sem_spec_ConfText N ([w64 (x_202 + (1 : Int))] : List Int) _ hy_211) rfl rfl (.cons (.borrow rfl (by decide) (lendW (fun _ => rfl) _ rfl)) .nil) rfl (.inr ⟨rfl, ownL_root trivial⟩) rfl rfl) rfl rfl ?_
                        refine Ops.p rfl ?_
                        refine Ops.p rfl ?_
                        refine Ops.p rfl ?_
                        refine Ops.p rfl ?_
                        refine Ops.p rfl ?_
                        refine Ops.nil ?_
                        refine Run.seq ?_
                        refine Run.ops hm ?_
                        refine Ops.p rfl ?_
                        refine Ops.p rfl ?_
                        obtain ⟨y_213, hy_213, h⟩ := bindO h
                        refine Ops.st (s := 87048) (Ev.call [] [2, 3, 4, 5] 5 (sem_impl_Propose N y_192.1 (2 : Int) y_211.1 _ hy_213) rfl rfl (.cons (.agg (.cons (.c _) (.cons (.c _) (.cons (.c _) (.cons (.c _) (.cons (.c _) (.cons (.borrow rfl (by decide) (lendW (fun _ => rfl) _ rfl)) (.cons (.c _) (.cons (.c _) (.cons (.borrow rfl (by decide) (lendW (fun _ => rfl) _ rfl)) (.cons (.c _) (.cons (.c _) (.cons (.c _) (.cons (.borrow rfl (by decide) (lendW (fun _ => rfl) _ rfl)) (.cons (.borrow rfl (by decide) (lendW (fun _ => rfl) _ rfl)) .nil))))))))))))))) (.cons (.c _) (.cons (.c _) .nil))) rfl (.inr ⟨rfl, ownL_root ⟨own_rows (fun _ => rfl) _, own_rows (fun _ => rfl) _, own_rows (fun _ => rfl) _, own_rows (fun _ => rfl) _, own_rows own_encMessage _, trivial⟩⟩) rfl rfl) rfl rfl ?_
                        refine Ops.p rfl ?_
                        refine Ops.p rfl ?_
                        refine Ops.p rfl ?_
                        refine Ops.p rfl ?_
                        refine Ops.p rfl ?_
                        refine Ops.st (s := 87144) (.al rfl rfl) rfl rfl ?_
                        refine Ops.s0 (s := 87160) (.sto rfl rfl rfl rfl rfl rfl) rfl rfl ?_
                        refine Ops.p rfl ?_
                        refine Ops.p rfl ?_
                        refine Ops.p rfl ?_
                        refine Ops.nil ?_
                        refine Run.seq ?_
                        refine Run.ops hm ?_
                        refine Ops.p rfl ?_
                        refine Ops.st (s := 91128) (Ev.bsW (ys := ([w64 ((1 : Int) + x_174)] : List Int)) (f := encI) rfl (.cons (.c _) .nil) rfl rfl rfl rfl rfl) rfl rfl ?_
                        obtain ⟨y_215, hy_215, h⟩ := bindO h
                        refine Ops.st (s := 91144) (Ev.call [] [91128] 0 (sem_spec_ConfText N ([w64 ((1 : Int) + x_174)] : List Int) _ hy_215) rfl rfl (.cons (.borrow rfl (by decide) (lendW (fun _ => rfl) _ rfl)) .nil) rfl (.inr ⟨rfl, ownL_root trivial⟩) rfl rfl) rfl rfl ?_
                        refine Ops.p rfl ?_
                        refine Ops.p rfl ?_
                        refine Ops.p rfl ?_
                        refine Ops.p rfl ?_
                        refine Ops.p rfl ?_
                        refine Ops.nil ?_
                        refine Run.seq ?_
                        refine Run.ops hm ?_
                        refine Ops.p rfl ?_
                        refine Ops.p rfl ?_
                        obtain ⟨y_217, hy_217, h⟩ := bindO h
                        refine Ops.st (s := 95240) (Ev.call [] [78856, 78857, 78858, 78859] 5 (sem_impl_Propose N y_209.1 (2 : Int) y_215.1 _ hy_217) rfl rfl (.cons (.agg (.cons (.c _) (.cons (.c _) (.cons (.c _) (.cons (.c _) (.cons (.c _) (.cons (.borrow rfl (by decide) (lendW (fun _ => rfl) _ rfl)) (.cons (.c _) (.cons (.c _) (.cons (.borrow rfl (by decide) (lendW (fun _ => rfl) _ rfl)) (.cons (.c _) (.cons (.c _) (.cons (.c _) (.cons (.borrow rfl (by decide) (lendW (fun _ => rfl) _ rfl)) (.cons (.borrow rfl (by decide) (lendW (fun _ => rfl) _ rfl)) .nil))))))))))))))) (.cons (.c _) (.cons (.c _) .nil))) rfl (.inr ⟨rfl, ownL_root ⟨own_rows (fun _ => rfl) _, own_rows (fun _ => rfl) _, own_rows (fun _ => rfl) _, own_rows (fun _ => rfl) _, own_rows own_encMessage _, trivial⟩⟩) rfl rfl) rfl rfl ?_
                        refine Ops.p rfl ?_
                        refine Ops.p rfl ?_
                        refine Ops.p rfl ?_
                        refine Ops.p rfl ?_
                        refine Ops.p rfl ?_
                        refine Ops.st (s := 95336) (.al rfl rfl) rfl rfl ?_
                        refine Ops.s0 (s := 95352) (.sto rfl rfl rfl rfl rfl rfl) rfl rfl ?_
                        refine Ops.p rfl ?_
                        refine Ops.p rfl ?_
                        refine Ops.p rfl ?_
                        refine Ops.nil ?_
                        refine Run.seq ?_
                        refine Run.ops hm ?_
                        refine Ops.p rfl ?_
                        refine Ops.p rfl ?_
                        refine Ops.askO (x := .t 159) rfl h (fun g_218 h => ?_) (fun g_218 h => ?_)
                        · skip
                          refine Ops.gp rfl g_218 rfl ?_
                          refine Ops.gp rfl g_218 rfl ?_
                          refine Ops.st (s := 99368) (.pkT rfl g_218 rfl) rfl rfl ?_
                          refine Ops.p rfl ?_
                          refine Ops.askO (x := .t 163) rfl h (fun g_219 h => ?_) (fun g_219 h => ?_)
                          · skip
                            refine Ops.gp rfl g_219 rfl ?_
                            refine Ops.gp rfl g_219 rfl ?_
                            refine Ops.st (s := 99432) (.pkT rfl g_219 rfl) rfl rfl ?_
                            refine Ops.p rfl ?_
                            refine Ops.askO (x := .t 167) rfl h (fun g_220 h => ?_) (fun g_220 h => ?_)
                            · skip
                              refine Ops.gp rfl g_220 rfl ?_
                              refine Ops.gp rfl g_220 rfl ?_
                              refine Ops.gp rfl g_220 rfl ?_
                              refine Ops.st (s := 99512) (.pkT rfl g_220 rfl) rfl rfl ?_
                              refine Ops.p rfl ?_
                              refine Ops.askO (x := .t 172) rfl h (fun g_221 h => ?_) (fun g_221 h => ?_)
                              · skip
                                refine Ops.gp rfl g_221 rfl ?_
                                refine Ops.gp rfl g_221 rfl ?_
                                refine Ops.gp rfl g_221 rfl ?_
                                refine Ops.st (s := 99592) (.pkT rfl g_221 rfl) rfl rfl ?_
                                refine Ops.p rfl ?_
                                refine Ops.askO (x := .t 177) rfl h (fun g_222 h => ?_) (fun g_222 h => ?_)
                                · skip
                                  refine Ops.gp rfl g_222 rfl ?_
                                  obtain ⟨y_223, hy_223, h⟩ := bindO h
                                  refine Ops.gs (s := 99640) rfl g_222 (Ev.call [] [78856, 78857, 78858, 78859] 1 (sem_impl_ConfOf N y_209.1 _ hy_223) rfl rfl (.cons (.agg (.cons (.c _) (.cons (.c _) (.cons (.c _) (.cons (.c _) (.cons (.c _) (.cons (.borrow rfl (by decide) (lendW (fun _ => rfl) _ rfl)) (.cons (.c _) (.cons (.c _) (.cons (.borrow rfl (by decide) (lendW (fun _ => rfl) _ rfl)) (.cons (.c _) (.cons (.c _) (.cons (.c _) (.cons (.borrow rfl (by decide) (lendW (fun _ => rfl) _ rfl)) (.cons (.borrow rfl (by decide) (lendW (fun _ => rfl) _ rfl)) .nil))))))))))))))) .nil) rfl (.inr ⟨rfl, ownL_root ⟨own_rows (fun _ => rfl) _, trivial⟩⟩) rfl rfl) rfl rfl ?_
                                  refine Ops.gp rfl g_222 rfl ?_
                                  obtain ⟨y_224, hy_224, h⟩ := bindO h
                                  refine Ops.gs (s := 99672) rfl g_222 (Ev.call [] [99640, 1] 0 (sem_laws_sameInts N y_223 v_204 _ hy_224) rfl rfl (.cons (.borrow rfl (by decide) (lendW (fun _ => rfl) _ rfl)) (.cons (.borrow rfl (by decide) (lendW (fun _ => rfl) _ rfl)) .nil)) rfl (.inr ⟨rfl, ownL_root trivial⟩) rfl rfl) rfl rfl ?_
                                  refine Ops.st (s := 99688) (.pkT rfl g_222 rfl) rfl rfl ?_
                                  refine Ops.p rfl ?_
                                  refine Ops.askO (x := .t 183) rfl h (fun g_225 h => ?_) (fun g_225 h => ?_)
                                  · skip
                                    refine Ops.gp rfl g_225 rfl ?_
                                    obtain ⟨y_226, hy_226, h⟩ := bindO h
                                    refine Ops.gs (s := 99736) rfl g_225 (Ev.call [] [78856, 78857, 78858, 78859] 1 (sem_impl_ConfAt N y_209.1 (2 : Int) _ hy_226) rfl rfl (.cons (.agg (.cons (.c _) (.cons (.c _) (.cons (.c _) (.cons (.c _) (.cons (.c _) (.cons (.borrow rfl (by decide) (lendW (fun _ => rfl) _ rfl)) (.cons (.c _) (.cons (.c _) (.cons (.borrow rfl (by decide) (lendW (fun _ => rfl) _ rfl)) (.cons (.c _) (.cons (.c _) (.cons (.c _) (.cons (.borrow rfl (by decide) (lendW (fun _ => rfl) _ rfl)) (.cons (.borrow rfl (by decide) (lendW (fun _ => rfl) _ rfl)) .nil))))))))))))))) (.cons (.c _) .nil)) rfl (.inr ⟨rfl, ownL_root ⟨own_rows (fun _ => rfl) _, trivial⟩⟩) rfl rfl) rfl rfl ?_
                                    refine Ops.gp rfl g_225 rfl ?_
                                    refine Ops.gs (s := 99768) rfl g_225 (Ev.bsW (ys := ([w64 ((1 : Int) + x_174)] : List Int)) (f := encI) rfl (.cons (.c _) .nil) rfl rfl rfl rfl rfl) rfl rfl ?_
                                    obtain ⟨y_227, hy_227, h⟩ := bindO h
                                    refine Ops.gs (s := 99784) rfl g_225 (Ev.call [] [99736, 99768] 0 (sem_laws_sameInts N y_226 ([w64 ((1 : Int) + x_174)] : List Int) _ hy_227) rfl rfl (.cons (.borrow rfl (by decide) (lendW (fun _ => rfl) _ rfl)) (.cons (.borrow rfl (by decide) (lendW (fun _ => rfl) _ rfl)) .nil)) rfl (.inr ⟨rfl, ownL_root trivial⟩) rfl rfl) rfl rfl ?_
                                    refine Ops.st (s := 99800) (.pkT rfl g_225 rfl) rfl rfl ?_
                                    refine Ops.p rfl ?_
                                    refine Ops.askO (x := .t 190) rfl h (fun g_228 h => ?_) (fun g_228 h => ?_)
                                    · skip
                                      refine Ops.gp rfl g_228 rfl ?_
                                      obtain ⟨y_229, hy_229, h⟩ := bindO h
                                      refine Ops.gs (s := 99848) rfl g_228 (Ev.call [] [78856, 78857, 78858, 78859] 0 (sem_impl_NodeOk N y_209.1 _ hy_229) rfl rfl (.cons (.agg (.cons (.c _) (.cons (.c _) (.cons (.c _) (.cons (.c _) (.cons (.c _) (.cons (.borrow rfl (by decide) (lendW (fun _ => rfl) _ rfl)) (.cons (.c _) (.cons (.c _) (.cons (.borrow rfl (by decide) (lendW (fun _ => rfl) _ rfl)) (.cons (.c _) (.cons (.c _) (.cons (.c _) (.cons (.borrow rfl (by decide) (lendW (fun _ => rfl) _ rfl)) (.cons (.borrow rfl (by decide) (lendW (fun _ => rfl) _ rfl)) .nil))))))))))))))) .nil) rfl (.inr ⟨rfl, ownL_root trivial⟩) rfl rfl) rfl rfl ?_
                                      refine Ops.st (s := 99864) (.pkT rfl g_228 rfl) rfl rfl ?_
                                      refine Ops.p rfl ?_
                                      refine Ops.nil ?_
                                      refine Run.ret ?_
                                      obtain rfl := someO h
                                      exact Ends.mkG (.inl rfl) rfl (gh_pk [0] [] hB rfl rfl rfl rfl) rfl rfl
                                    · skip
                                      refine Ops.gn rfl g_228 ?_
                                      refine Ops.gn rfl g_228 ?_
                                      refine Ops.st (s := 99864) (.pkF rfl g_228 rfl) rfl rfl ?_
                                      refine Ops.p rfl ?_
                                      refine Ops.nil ?_
                                      refine Run.ret ?_
                                      obtain rfl := someO h
                                      exact Ends.mkG (.inl rfl) rfl (gh_pk [0] [] hB rfl rfl rfl rfl) rfl rfl
                                  · skip
                                    refine Ops.gn rfl g_225 ?_
                                    refine Ops.gn rfl g_225 ?_
                                    refine Ops.gn rfl g_225 ?_
                                    refine Ops.gn rfl g_225 ?_
                                    refine Ops.gn rfl g_225 ?_
                                    refine Ops.st (s := 99800) (.pkF rfl g_225 rfl) rfl rfl ?_
                                    refine Ops.p rfl ?_
                                    refine Ops.gn rfl rfl ?_
                                    refine Ops.gn rfl rfl ?_
                                    refine Ops.st (s := 99864) (.pkF rfl rfl rfl) rfl rfl ?_
                                    refine Ops.p rfl ?_
                                    refine Ops.nil ?_
                                    refine Run.ret ?_
                                    obtain rfl := someO h
                                    exact Ends.mkG (.inl rfl) rfl (gh_pk [0] [] hB rfl rfl rfl rfl) rfl rfl
                                · skip
                                  refine Ops.gn rfl g_222 ?_
                                  refine Ops.gn rfl g_222 ?_
                                  refine Ops.gn rfl g_222 ?_
                                  refine Ops.gn rfl g_222 ?_
                                  refine Ops.st (s := 99688) (.pkF rfl g_222 rfl) rfl rfl ?_
                                  refine Ops.p rfl ?_
                                  refine Ops.gn rfl rfl ?_
                                  refine Ops.gn rfl rfl ?_
                                  refine Ops.gn rfl rfl ?_
                                  refine Ops.gn rfl rfl ?_
                                  refine Ops.gn rfl rfl ?_
                                  refine Ops.st (s := 99800) (.pkF rfl rfl rfl) rfl rfl ?_
                                  refine Ops.p rfl ?_
                                  refine Ops.gn rfl rfl ?_
                                  refine Ops.gn rfl rfl ?_
                                  refine Ops.st (s := 99864) (.pkF rfl rfl rfl) rfl rfl ?_
                                  refine Ops.p rfl ?_
                                  refine Ops.nil ?_
                                  refine Run.ret ?_
                                  obtain rfl := someO h
                                  exact Ends.mkG (.inl rfl) rfl (gh_pk [0] [] hB rfl rfl rfl rfl) rfl rfl
                              · skip
                                refine Ops.gn rfl g_221 ?_
                                refine Ops.gn rfl g_221 ?_
                                refine Ops.gn rfl g_221 ?_
                                refine Ops.st (s := 99592) (.pkF rfl g_221 rfl) rfl rfl ?_
                                refine Ops.p rfl ?_
                                refine Ops.gn rfl rfl ?_
                                refine Ops.gn rfl rfl ?_
                                refine Ops.gn rfl rfl ?_
                                refine Ops.gn rfl rfl ?_
                                refine Ops.st (s := 99688) (.pkF rfl rfl rfl) rfl rfl ?_
                                refine Ops.p rfl ?_
                                refine Ops.gn rfl rfl ?_
                                refine Ops.gn rfl rfl ?_
                                refine Ops.gn rfl rfl ?_
                                refine Ops.gn rfl rfl ?_
                                refine Ops.gn rfl rfl ?_
                                refine Ops.st (s := 99800) (.pkF rfl rfl rfl) rfl rfl ?_
                                refine Ops.p rfl ?_
                                refine Ops.gn rfl rfl ?_
                                refine Ops.gn rfl rfl ?_
                                refine Ops.st (s := 99864) (.pkF rfl rfl rfl) rfl rfl ?_
                                refine Ops.p rfl ?_
                                refine Ops.nil ?_
                                refine Run.ret ?_
                                obtain rfl := someO h
                                exact Ends.mkG (.inl rfl) rfl (gh_pk [0] [] hB rfl rfl rfl rfl) rfl rfl
                            · skip
                              refine Ops.gn rfl g_220 ?_
                              refine Ops.gn rfl g_220 ?_
                              refine Ops.gn rfl g_220 ?_
                              refine Ops.st (s := 99512) (.pkF rfl g_220 rfl) rfl rfl ?_
                              refine Ops.p rfl ?_
                              refine Ops.gn rfl rfl ?_
                              refine Ops.gn rfl rfl ?_
                              refine Ops.gn rfl rfl ?_
                              refine Ops.st (s := 99592) (.pkF rfl rfl rfl) rfl rfl ?_
                              refine Ops.p rfl ?_
                              refine Ops.gn rfl rfl ?_
                              refine Ops.gn rfl rfl ?_
                              refine Ops.gn rfl rfl ?_
                              refine Ops.gn rfl rfl ?_
                              refine Ops.st (s := 99688) (.pkF rfl rfl rfl) rfl rfl ?_
                              refine Ops.p rfl ?_
                              refine Ops.gn rfl rfl ?_
                              refine Ops.gn rfl rfl ?_
                              refine Ops.gn rfl rfl ?_
                              refine Ops.gn rfl rfl ?_
                              refine Ops.gn rfl rfl ?_
                              refine Ops.st (s := 99800) (.pkF rfl rfl rfl) rfl rfl ?_
                              refine Ops.p rfl ?_
                              refine Ops.gn rfl rfl ?_
                              refine Ops.gn rfl rfl ?_
                              refine Ops.st (s := 99864) (.pkF rfl rfl rfl) rfl rfl ?_
                              refine Ops.p rfl ?_
                              refine Ops.nil ?_
                              refine Run.ret ?_
                              obtain rfl := someO h
                              exact Ends.mkG (.inl rfl) rfl (gh_pk [0] [] hB rfl rfl rfl rfl) rfl rfl
                          · skip
                            refine Ops.gn rfl g_219 ?_
                            refine Ops.gn rfl g_219 ?_
                            refine Ops.st (s := 99432) (.pkF rfl g_219 rfl) rfl rfl ?_
                            refine Ops.p rfl ?_
                            refine Ops.gn rfl rfl ?_
                            refine Ops.gn rfl rfl ?_
                            refine Ops.gn rfl rfl ?_
                            refine Ops.st (s := 99512) (.pkF rfl rfl rfl) rfl rfl ?_
                            refine Ops.p rfl ?_
                            refine Ops.gn rfl rfl ?_
                            refine Ops.gn rfl rfl ?_
                            refine Ops.gn rfl rfl ?_
                            refine Ops.st (s := 99592) (.pkF rfl rfl rfl) rfl rfl ?_
                            refine Ops.p rfl ?_
                            refine Ops.gn rfl rfl ?_
                            refine Ops.gn rfl rfl ?_
                            refine Ops.gn rfl rfl ?_
                            refine Ops.gn rfl rfl ?_
                            refine Ops.st (s := 99688) (.pkF rfl rfl rfl) rfl rfl ?_
                            refine Ops.p rfl ?_
                            refine Ops.gn rfl rfl ?_
                            refine Ops.gn rfl rfl ?_
                            refine Ops.gn rfl rfl ?_
                            refine Ops.gn rfl rfl ?_
                            refine Ops.gn rfl rfl ?_
                            refine Ops.st (s := 99800) (.pkF rfl rfl rfl) rfl rfl ?_
                            refine Ops.p rfl ?_
                            refine Ops.gn rfl rfl ?_
                            refine Ops.gn rfl rfl ?_
                            refine Ops.st (s := 99864) (.pkF rfl rfl rfl) rfl rfl ?_
                            refine Ops.p rfl ?_
                            refine Ops.nil ?_
                            refine Run.ret ?_
                            obtain rfl := someO h
                            exact Ends.mkG (.inl rfl) rfl (gh_pk [0] [] hB rfl rfl rfl rfl) rfl rfl
                        · skip
                          refine Ops.gn rfl g_218 ?_
                          refine Ops.gn rfl g_218 ?_
                          refine Ops.st (s := 99368) (.pkF rfl g_218 rfl) rfl rfl ?_
                          refine Ops.p rfl ?_
                          refine Ops.gn rfl rfl ?_
                          refine Ops.gn rfl rfl ?_
                          refine Ops.st (s := 99432) (.pkF rfl rfl rfl) rfl rfl ?_
                          refine Ops.p rfl ?_
                          refine Ops.gn rfl rfl ?_
                          refine Ops.gn rfl rfl ?_
                          refine Ops.gn rfl rfl ?_
                          refine Ops.st (s := 99512) (.pkF rfl rfl rfl) rfl rfl ?_
                          refine Ops.p rfl ?_
                          refine Ops.gn rfl rfl ?_
                          refine Ops.gn rfl rfl ?_
                          refine Ops.gn rfl rfl ?_
                          refine Ops.st (s := 99592) (.pkF rfl rfl rfl) rfl rfl ?_
                          refine Ops.p rfl ?_
                          refine Ops.gn rfl rfl ?_
                          refine Ops.gn rfl rfl ?_
                          refine Ops.gn rfl rfl ?_
                          refine Ops.gn rfl rfl ?_
                          refine Ops.st (s := 99688) (.pkF rfl rfl rfl) rfl rfl ?_
                          refine Ops.p rfl ?_
                          refine Ops.gn rfl rfl ?_
                          refine Ops.gn rfl rfl ?_
                          refine Ops.gn rfl rfl ?_
                          refine Ops.gn rfl rfl ?_
                          refine Ops.gn rfl rfl ?_
                          refine Ops.st (s := 99800) (.pkF rfl rfl rfl) rfl rfl ?_
                          refine Ops.p rfl ?_
                          refine Ops.gn rfl rfl ?_
                          refine Ops.gn rfl rfl ?_
                          refine Ops.st (s := 99864) (.pkF rfl rfl rfl) rfl rfl ?_
                          refine Ops.p rfl ?_
                          refine Ops.nil ?_
                          refine Run.ret ?_
                          obtain rfl := someO h
                          exact Ends.mkG (.inl rfl) rfl (gh_pk [0] [] hB rfl rfl rfl rfl) rfl rfl
end Go.Proofs.Ytebbgdjmplceiaa.Pe.FnAlone
