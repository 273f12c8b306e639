/- Functions, as pure functions; and that Go does just that. -/
import Derived.Test.YtebbgdjmplceiaaPeFFnExactWhole1
namespace Go.Proofs.Ytebbgdjmplceiaa.Pe.FnExactWhole
open Go Go.RowKit
set_option linter.unusedVariables false
set_option linter.unusedSimpArgs false
set_option maxHeartbeats 40000000
def impl_hasEntry (N : Nat) (x_1 : Log) (x_2 : Int) : Option (Bool) :=
 (if (decide (x_2 > x_1.Start)) = true then
 (impl_within N (w64 (x_2 - x_1.Start)) (1 : Int) (x_1.Entries.length : Int)).bind fun y_103 =>
 some y_103
 else
 some false)
theorem sem_impl_hasEntry (N : Nat) (x_1 : Log) (x_2 : Int) (r : Bool) (h : impl_hasEntry N x_1 x_2 = some r) : Says Try.prog 90 [.agg [VI x_1.Start, VI x_1.StartTerm, RO 48 (x_1.Entries.map encEntry)], VI x_2] 0 [] (VB r) [] := by
  unfold impl_hasEntry at h
  refine Says.of_run s90 Try.call90 rfl fun B hB => ?_
  have hm : B.m ≤ 1000 := by omega
  refine Run.seq ?_
  refine Run.ops hm ?_
  refine Ops.st (s := 1000) (.bx rfl rfl) rfl rfl ?_
  refine Ops.p rfl ?_
  refine Ops.nil ?_
  refine Run.seq ?_
  refine Run.ops hm ?_
  refine Ops.p rfl ?_
  refine Ops.p rfl ?_
  refine Ops.p rfl ?_
  refine Ops.p rfl ?_
  refine Ops.p rfl ?_
  refine Ops.askO (x := .t 9) rfl h (fun g_102 h => ?_) (fun g_102 h => ?_)
  · skip
    refine Ops.gp rfl g_102 rfl ?_
    refine Ops.gp rfl g_102 rfl ?_
    refine Ops.gp rfl g_102 rfl ?_
    refine Ops.gp rfl g_102 rfl ?_
    refine Ops.gp rfl g_102 rfl ?_
    refine Ops.gp rfl g_102 rfl ?_
    refine Ops.gs (s := 5272) rfl g_102 (Ev.lnF rfl) rfl rfl ?_
    obtain ⟨y_103, hy_103, h⟩ := bindO h
    refine Ops.gs (s := 5288) rfl g_102 (Ev.call [] [] 0 (sem_impl_within N (w64 (x_2 - x_1.Start)) (1 : Int) (x_1.Entries.length : Int) _ hy_103) rfl rfl (.cons (.c _) (.cons (.c _) (.cons (.c _) .nil))) rfl (.inl rfl) rfl rfl) rfl rfl ?_
    refine Ops.st (s := 5304) (.pkT rfl g_102 rfl) rfl rfl ?_
    refine Ops.p rfl ?_
    refine Ops.nil ?_
    refine Run.ret ?_
    obtain rfl := someO h
    exact Ends.mk (.inl rfl) hB rfl rfl rfl rfl
  · skip
    refine Ops.gn rfl g_102 ?_
    refine Ops.gn rfl g_102 ?_
    refine Ops.gn rfl g_102 ?_
    refine Ops.gn rfl g_102 ?_
    refine Ops.gn rfl g_102 ?_
    refine Ops.gn rfl g_102 ?_
    refine Ops.gn rfl g_102 ?_
    refine Ops.gn rfl g_102 ?_
    refine Ops.st (s := 5304) (.pkF rfl g_102 rfl) rfl rfl ?_
    refine Ops.p rfl ?_
    refine Ops.nil ?_
    refine Run.ret ?_
    obtain rfl := someO h
    exact Ends.mk (.inl rfl) hB rfl rfl rfl rfl
def impl_EntryAt (N : Nat) (x_1 : Log) (x_2 : Int) : Option (Entry × Bool) :=
 (impl_LogOk N x_1).bind fun y_113 =>
 (if (!y_113) = true then
 some ((Entry.mk (0 : Int) (0 : Int) (⟨#[]⟩ : ByteArray)), false)
 else
 (impl_hasEntry N x_1 x_2).bind fun y_115 =>
 (if (!y_115) = true then
 some ((Entry.mk (0 : Int) (0 : Int) (⟨#[]⟩ : ByteArray)), false)
 else
 (at? x_1.Entries (w64 ((w64 (x_2 - x_1.Start)) - (1 : Int)))).bind fun x_117 =>
 some (x_117, true)))
theorem sem_impl_EntryAt (N : Nat) (x_1 : Log) (x_2 : Int) (r : Entry × Bool) (h : impl_EntryAt N x_1 x_2 = some r) : Says Try.prog 33 [.agg [VI x_1.Start, VI x_1.StartTerm, RO 48 (x_1.Entries.map encEntry)], VI x_2] 0 [] (.tup [.agg [VI r.1.Term, VI r.1.Kind, VS r.1.Data], VB r.2]) [] := by
  unfold impl_EntryAt at h
  refine Says.of_run s33 Try.call33 rfl fun B hB => ?_
  have hm : B.m ≤ 1000 := by omega
  refine Run.seq ?_
  refine Run.ops hm ?_
  refine Ops.st (s := 1000) (.bx rfl rfl) rfl rfl ?_
  refine Ops.st (s := 1016) (.al rfl rfl) rfl rfl ?_
  refine Ops.p rfl ?_
  refine Ops.nil ?_
  refine Run.seq ?_
  refine Run.seq ?_
  refine Run.ops hm ?_
  refine Ops.p rfl ?_
  obtain ⟨y_113, hy_113, h⟩ := bindO h
  refine Ops.st (s := 5112) (Ev.call [] [] 0 (sem_impl_LogOk N x_1 _ hy_113) rfl rfl (.cons (.agg (.cons (.c _) (.cons (.c _) (.cons (.c _) .nil)))) .nil) rfl (.inl rfl) rfl rfl) rfl rfl ?_
  refine Ops.p rfl ?_
  refine Ops.p rfl ?_
  refine Ops.askO (x := .t 9) rfl h (fun g_114 h => ?_) (fun g_114 h => ?_)
  · skip
    refine Ops.gn rfl g_114 ?_
    refine Ops.gn rfl g_114 ?_
    refine Ops.gn rfl g_114 ?_
    refine Ops.gn rfl g_114 ?_
    refine Ops.st (s := 5224) (.pkT rfl g_114 rfl) rfl rfl ?_
    refine Ops.nil ?_
    refine Run.condT rfl rfl ?_
    refine Run.seq ?_
    refine Run.ops hm ?_
    refine Ops.st (s := 9192) (.bd rfl rfl) rfl rfl ?_
    refine Ops.s0 (s := 9208) (.sto rfl rfl rfl rfl rfl rfl) rfl rfl ?_
    refine Ops.p rfl ?_
    refine Ops.nil ?_
    refine Run.ret ?_
    obtain rfl := someO h
    exact Ends.mk (.inl rfl) hB rfl rfl rfl rfl
  · skip
    refine Ops.gp rfl g_114 rfl ?_
    refine Ops.gp rfl g_114 rfl ?_
    obtain ⟨y_115, hy_115, h⟩ := bindO h
    refine Ops.gs (s := 5192) rfl g_114 (Ev.call [] [] 0 (sem_impl_hasEntry N x_1 x_2 _ hy_115) rfl rfl (.cons (.agg (.cons (.c _) (.cons (.c _) (.cons (.c _) .nil)))) (.cons (.c _) .nil)) rfl (.inl rfl) rfl rfl) rfl rfl ?_
    refine Ops.gp rfl g_114 rfl ?_
    refine Ops.st (s := 5224) (.pkF rfl g_114 rfl) rfl rfl ?_
    refine Ops.nil ?_
    refine Run.condO rfl h (fun g_116 h => ?_) (fun g_116 h => ?_)
    · skip
      refine Run.seq ?_
      refine Run.ops hm ?_
      refine Ops.st (s := 9192) (.bd rfl rfl) rfl rfl ?_
      refine Ops.s0 (s := 9208) (.sto rfl rfl rfl rfl rfl rfl) rfl rfl ?_
      refine Ops.p rfl ?_
      refine Ops.nil ?_
      refine Run.ret ?_
      obtain rfl := someO h
      exact Ends.mk (.inl rfl) hB rfl rfl rfl rfl
    · skip
      refine Run.skip ?_
      refine Run.seq ?_
      refine Run.ops hm ?_
      refine Ops.p rfl ?_
      refine Ops.p rfl ?_
      refine Ops.p rfl ?_
      refine Ops.p rfl ?_
      refine Ops.p rfl ?_
      refine Ops.p rfl ?_
      refine Ops.p rfl ?_
      obtain ⟨x_117, hx_117, h⟩ := bindO h
      refine Ops.st (s := 13400) (Ev.iaF rfl rfl hx_117) rfl rfl ?_
      refine Ops.p rfl ?_
      refine Ops.s0 (s := 13432) (.sto rfl rfl rfl rfl rfl rfl) rfl rfl ?_
      refine Ops.p rfl ?_
      refine Ops.nil ?_
      refine Run.ret ?_
      obtain rfl := someO h
      exact Ends.mk (.inl rfl) hB rfl rfl rfl rfl
def impl_Whole_1 (N : Nat) (x_1 : Leader) (x_2 : Applied) : Option (Bool) :=
 (impl_EntryAt N x_1.Log x_2.Index).bind fun y_106 =>
 (if (decide (x_1.Term > x_2.Term)) = true then
 (if (decide (x_1.Log.Start < x_2.Index)) = true then
 (if (!y_106.2) = true then
 some true
 else
 some (((y_106.1.Term == x_2.Entry.Term) && ((y_106.1.Kind == x_2.Entry.Kind) && (decide (y_106.1.Data = x_2.Entry.Data) && true))) ^^ true))
 else
 some false)
 else
 some false)
theorem sem_impl_Whole_1 (N : Nat) (x_1 : Leader) (x_2 : Applied) (r : Bool) (h : impl_Whole_1 N x_1 x_2 = some r) : Says Try.prog 104 [.agg [VI x_1.Node, VI x_1.Term, VI x_1.Log.Start, VI x_1.Log.StartTerm, RO 48 (x_1.Log.Entries.map encEntry)], .ptr 0 0] 1 [(0, .box [VI x_2.Node, VI x_2.Term, VI x_2.Index, VI x_2.Entry.Term, VI x_2.Entry.Kind, VS x_2.Entry.Data])] (VB r) [(0, .box [VI x_2.Node, VI x_2.Term, VI x_2.Index, VI x_2.Entry.Term, VI x_2.Entry.Kind, VS x_2.Entry.Data])] := by
  unfold impl_Whole_1 at h
  refine Says.of_run s104 Try.call104 rfl fun B hB => ?_
  have hm : B.m ≤ 1000 := by omega
  refine Run.seq ?_
  refine Run.ops hm ?_
  refine Ops.st (s := 1000) (.bx rfl rfl) rfl rfl ?_
  refine Ops.p rfl ?_
  refine Ops.nil ?_
  refine Run.seq ?_
  refine Run.ops hm ?_
  refine Ops.p rfl ?_
  refine Ops.p rfl ?_
  refine Ops.p rfl ?_
  refine Ops.p rfl ?_
  obtain ⟨y_106, hy_106, h⟩ := bindO h
  refine Ops.st (s := 5160) (Ev.call [] [] 0 (sem_impl_EntryAt N x_1.Log x_2.Index _ hy_106) rfl rfl (.cons (.agg (.cons (.c _) (.cons (.c _) (.cons (.c _) .nil)))) (.cons (.c _) .nil)) rfl (.inl rfl) rfl rfl) rfl rfl ?_
  refine Ops.p rfl ?_
  refine Ops.p rfl ?_
  refine Ops.p rfl ?_
  refine Ops.st (s := 5224) (.al rfl rfl) rfl rfl ?_
  refine Ops.s0 (s := 5240) (.sto rfl rfl rfl rfl rfl rfl) rfl rfl ?_
  refine Ops.p rfl ?_
  refine Ops.nil ?_
  refine Run.seq ?_
  refine Run.ops hm ?_
  refine Ops.p rfl ?_
  refine Ops.p rfl ?_
  refine Ops.p rfl ?_
  refine Ops.p rfl ?_
  refine Ops.p rfl ?_
  refine Ops.p rfl ?_
  refine Ops.askO (x := .t 19) rfl h (fun g_107 h => ?_) (fun g_107 h => ?_)
  · skip
    refine Ops.gp rfl g_107 rfl ?_
    refine Ops.gp rfl g_107 rfl ?_
    refine Ops.gp rfl g_107 rfl ?_
    refine Ops.gp rfl g_107 rfl ?_
    refine Ops.gp rfl g_107 rfl ?_
    refine Ops.gp rfl g_107 rfl ?_
    refine Ops.st (s := 9384) (.pkT rfl g_107 rfl) rfl rfl ?_
    refine Ops.p rfl ?_
    refine Ops.askO (x := .t 27) rfl h (fun g_108 h => ?_) (fun g_108 h => ?_)
    · skip
      refine Ops.gp rfl g_108 rfl ?_
      refine Ops.gp rfl g_108 rfl ?_
      refine Ops.gp rfl g_108 rfl ?_
      refine Ops.askO (x := .t 30) rfl h (fun g_109 h => ?_) (fun g_109 h => ?_)
      · skip
        refine Ops.gn rfl g_109 ?_
        refine Ops.gn rfl g_109 ?_
        refine Ops.gn rfl g_109 ?_
        refine Ops.gn rfl g_109 ?_
        refine Ops.gs (s := 9528) rfl g_108 (.pkT rfl g_109 rfl) rfl rfl ?_
        refine Ops.st (s := 9544) (.pkT rfl g_108 rfl) rfl rfl ?_
        refine Ops.p rfl ?_
        refine Ops.nil ?_
        refine Run.ret ?_
        obtain rfl := someO h
        exact Ends.mk (.inl rfl) hB rfl rfl rfl rfl
      · skip
        refine Ops.gp rfl g_109 rfl ?_
        refine Ops.gp rfl g_109 rfl ?_
        refine Ops.gp rfl g_109 rfl ?_
        refine Ops.gp rfl g_109 rfl ?_
        refine Ops.gs (s := 9528) rfl g_108 (.pkF rfl g_109 rfl) rfl rfl ?_
        refine Ops.st (s := 9544) (.pkT rfl g_108 rfl) rfl rfl ?_
        refine Ops.p rfl ?_
        refine Ops.nil ?_
        refine Run.ret ?_
        obtain rfl := someO h
        exact Ends.mk (.inl rfl) hB rfl rfl rfl rfl
    · skip
      refine Ops.gn rfl g_108 ?_
      refine Ops.gn rfl g_108 ?_
      refine Ops.gn rfl g_108 ?_
      refine Ops.gu rfl ?_
      refine Ops.gu rfl ?_
      refine Ops.gu rfl ?_
      refine Ops.gu rfl ?_
      refine Ops.gn rfl g_108 ?_
      refine Ops.st (s := 9544) (.pkF rfl g_108 rfl) rfl rfl ?_
      refine Ops.p rfl ?_
      refine Ops.nil ?_
      refine Run.ret ?_
      obtain rfl := someO h
      exact Ends.mk (.inl rfl) hB rfl rfl rfl rfl
  · skip
    refine Ops.gn rfl g_107 ?_
    refine Ops.gn rfl g_107 ?_
    refine Ops.gn rfl g_107 ?_
    refine Ops.gn rfl g_107 ?_
    refine Ops.gn rfl g_107 ?_
    refine Ops.gn rfl g_107 ?_
    refine Ops.st (s := 9384) (.pkF rfl g_107 rfl) rfl rfl ?_
    refine Ops.p rfl ?_
    refine Ops.gn rfl rfl ?_
    refine Ops.gn rfl rfl ?_
    refine Ops.gn rfl rfl ?_
    refine Ops.gu rfl ?_
    refine Ops.gu rfl ?_
    refine Ops.gu rfl ?_
    refine Ops.gu rfl ?_
    refine Ops.gn rfl rfl ?_
    refine Ops.st (s := 9544) (.pkF rfl rfl rfl) rfl rfl ?_
    refine Ops.p rfl ?_
    refine Ops.nil ?_
    refine Run.ret ?_
    obtain rfl := someO h
    exact Ends.mk (.inl rfl) hB rfl rfl rfl rfl
def slices_IndexFunc_Leader_l1 (N : Nat) (x_1 : (List Leader)) (x_2 : Applied) : Nat → Int → Option ((Int) ⊕ (Unit))
 | 0, _ => none
 | m + 1, x_170 =>
 (if (decide (x_170 < (x_1.length : Int))) = true then
 (at? x_1 x_170).bind fun x_187 =>
 (impl_Whole_1 N x_187 x_2).bind fun y_188 =>
 (if y_188 = true then
 some (Sum.inl x_170)
 else
 slices_IndexFunc_Leader_l1 N x_1 x_2 m (w64 (x_170 + (1 : Int))))
 else
 some (Sum.inr ()))
def slices_IndexFunc_Leader_l1_r (N : Nat) (x_1 : (List Leader)) (x_2 : Applied) : (List Leader) → Int → Option ((Int) ⊕ (Unit))
 | [], x_170 =>
 some (Sum.inr ())
 | hd :: tl, x_170 =>
 (some hd).bind fun x_187 =>
 (impl_Whole_1 N x_187 x_2).bind fun y_188 =>
 (if y_188 = true then
 some (Sum.inl x_170)
 else
 slices_IndexFunc_Leader_l1_r N x_1 x_2 tl (w64 (x_170 + (1 : Int))))
theorem slices_IndexFunc_Leader_l1_rng (N : Nat) (x_1 : (List Leader)) (x_2 : Applied) (hx : x_1.length ≤ 1099511627776) : ∀ (d k m : Nat), x_1.length = k + d → d < m → slices_IndexFunc_Leader_l1 N x_1 x_2 m (k : Int) = slices_IndexFunc_Leader_l1_r N x_1 x_2 (x_1.drop k) (k : Int) := by
  intro d
  induction d with
  | zero =>
    intro k m hd hm
    obtain ⟨m, rfl⟩ : ∃ q, m = q + 1 := ⟨m - 1, by omega⟩
    rw [slices_IndexFunc_Leader_l1, if_neg (by simp; omega), List.drop_eq_nil_of_le (by omega), slices_IndexFunc_Leader_l1_r]
  | succ d ih =>
    intro k m hd hm
    obtain ⟨m, rfl⟩ : ∃ q, m = q + 1 := ⟨m - 1, by omega⟩
    have hk : k < x_1.length := by omega
    rw [slices_IndexFunc_Leader_l1, if_pos (by simp; omega), List.drop_eq_getElem_cons hk, slices_IndexFunc_Leader_l1_r]
    have h1 := at_lt hk
    have h2 := w64_succ (k := k) (by omega)
    have h3 := ih (k + 1) m
    simp only [h1, h2, h3 (by omega) (by omega)]
theorem slices_IndexFunc_Leader_l1_eq {N : Nat} (x_1 : (List Leader)) (x_2 : Applied) (hx : x_1.length ≤ 1099511627776) (hN : x_1.length < N) : slices_IndexFunc_Leader_l1 N x_1 x_2 N 0 = slices_IndexFunc_Leader_l1_r N x_1 x_2 x_1 0 := slices_IndexFunc_Leader_l1_rng N x_1 x_2 hx x_1.length 0 N (by omega) hN
def slices_IndexFunc_Leader (N : Nat) (x_1 : (List Leader)) (x_2 : Applied) : Option (Int) :=
 joinP (fun (v_167 : Unit) =>
 some (-1 : Int)) fun j_167 =>
 (slices_IndexFunc_Leader_l1 N x_1 x_2 N (0 : Int)).bind (Sum.elim (fun v_182 => some v_182) (fun (v_183 : Unit) => j_167 ()))
theorem sem_slices_IndexFunc_Leader (N : Nat) (x_1 : (List Leader)) (x_2 : Applied) (r : Int) (h : slices_IndexFunc_Leader N x_1 x_2 = some r) : Says Try.prog 142 [RO 129 (x_1.map (encLeader false)), .fn 104 [.ptr 0 0]] 1 [(0, .box [VI x_2.Node, VI x_2.Term, VI x_2.Index, VI x_2.Entry.Term, VI x_2.Entry.Kind, VS x_2.Entry.Data])] (VI r) [(0, .box [VI x_2.Node, VI x_2.Term, VI x_2.Index, VI x_2.Entry.Term, VI x_2.Entry.Kind, VS x_2.Entry.Data])] := by
  unfold slices_IndexFunc_Leader at h
  refine Says.of_run s142 Try.call142 rfl fun B hB => ?_
  have hm : B.m ≤ 1000 := by omega
  refine Run.seq ?_
  refine Run.ops hm ?_
  refine Ops.p rfl ?_
  refine Ops.nil ?_
  refine Run.seqO h (fun (v_167 : Unit) => []) (fun (v_167 : Unit) => [(0, .box [VI x_2.Node, VI x_2.Term, VI x_2.Index, VI x_2.Entry.Term, VI x_2.Entry.Kind, VS x_2.Entry.Data])]) (fun h => ?_) (fun v_167 h => ?_)
  · skip
    refine Run.seq ?_
    refine Run.ops hm ?_
    refine Ops.p rfl ?_
    refine Ops.st (s := 5112) (Ev.lnF rfl) rfl rfl ?_
    refine Ops.p rfl ?_
    refine Ops.nil ?_
    refine Run.block ?_
    obtain ⟨res_183, h, hk_183⟩ := bindO h
    refine Run.loop (n := N) (fun m_183 fr σ => ∃ (x_170 : Int), slices_IndexFunc_Leader_l1 N x_1 x_2 m_183 x_170 = some res_183 ∧ fr = [(0, RO 129 (x_1.map (encLeader false))), (1, .fn 104 [.ptr 0 0]), (7, VI (x_1.length : Int)), (8, VI x_170)] ∧ σ = [(0, .box [VI x_2.Node, VI x_2.Term, VI x_2.Index, VI x_2.Entry.Term, VI x_2.Entry.Kind, VS x_2.Entry.Data])]) (gh_canonE (ts := [0, 1, 7, 8]) hB rfl rfl rfl) ⟨_, h, rfl, rfl⟩ ?_
    rintro m_183 fr σ ⟨x_170, h, rfl, rfl⟩
    obtain _ | m_183 := m_183
    · rw [slices_IndexFunc_Leader_l1] at h; cases h
    rw [slices_IndexFunc_Leader_l1] at h
    refine Run.seq ?_
    refine Run.ops hm ?_
    refine Ops.p rfl ?_
    refine Ops.nil ?_
    refine Run.seq ?_
    refine Run.condO rfl h (fun g_186 h => ?_) (fun g_186 h => ?_)
    · skip
      refine Run.skip ?_
      refine Run.seq ?_
      refine Run.block ?_
      refine Run.seq ?_
      refine Run.ops hm ?_
      refine Ops.p rfl ?_
      refine Ops.p rfl ?_
      refine Ops.nil ?_
      refine Run.seq ?_
      refine Run.ops hm ?_
      refine Ops.p rfl ?_
      refine Ops.p rfl ?_
      refine Ops.p rfl ?_
      obtain ⟨x_187, hx_187, h⟩ := bindO h
      refine Ops.st (s := 17432) (Ev.iaF rfl rfl hx_187) rfl rfl ?_
      refine Ops.p rfl ?_
      obtain ⟨y_188, hy_188, h⟩ := bindO h
      refine Ops.st (s := 17464) (Ev.callx [0] [] 0 rfl (sem_impl_Whole_1 N x_187 x_2 _ hy_188) rfl rfl (.cons (.agg (.cons (.c _) (.cons (.c _) (.cons (.c _) (.cons (.c _) (.cons (.c _) .nil)))))) (.cons (.ptr rfl) .nil)) rfl (.inl rfl) rfl rfl) rfl rfl ?_
      refine Ops.nil ?_
      refine Run.condO rfl h (fun g_189 h => ?_) (fun g_189 h => ?_)
      · skip
        refine Run.seq ?_
        refine Run.ops hm ?_
        refine Ops.p rfl ?_
        refine Ops.p rfl ?_
        refine Ops.nil ?_
        refine Run.ret ?_
        obtain rfl := someO h
        have h := hk_183
        replace h := inlO h
        obtain rfl := someO h
        exact Ends.mk (.inl rfl) hB rfl rfl rfl rfl
      · skip
        refine Run.skip ?_
        refine Run.ops hm ?_
        refine Ops.p rfl ?_
        refine Ops.p rfl ?_
        refine Ops.nil ?_
        exact ⟨m_183, Nat.lt_succ_self m_183, _, _, gh_canonE (ts := [0, 1, 7, 8]) hB rfl rfl rfl, _, h, rfl, rfl⟩
    · skip
      refine Run.exit ?_
      obtain rfl := someO h
      have h := hk_183
      replace h := inrO h
      exact ⟨_, _, gh_canonE (ts := []) hB rfl rfl rfl, (), h, rfl, rfl⟩
  · skip
    refine Run.seq ?_
    refine Run.ops hm ?_
    refine Ops.p rfl ?_
    refine Ops.nil ?_
    refine Run.ret ?_
    obtain rfl := someO h
    exact Ends.mk (.inl rfl) hB rfl rfl rfl rfl
def slices_ContainsFunc_Leader (N : Nat) (x_1 : (List Leader)) (x_2 : Applied) : Option (Bool) :=
 (slices_IndexFunc_Leader N x_1 x_2).bind fun y_101 =>
 some (decide (y_101 ≥ (0 : Int)))
theorem sem_slices_ContainsFunc_Leader (N : Nat) (x_1 : (List Leader)) (x_2 : Applied) (r : Bool) (h : slices_ContainsFunc_Leader N x_1 x_2 = some r) : Says Try.prog 82 [RO 129 (x_1.map (encLeader false)), .fn 104 [.ptr 0 0]] 1 [(0, .box [VI x_2.Node, VI x_2.Term, VI x_2.Index, VI x_2.Entry.Term, VI x_2.Entry.Kind, VS x_2.Entry.Data])] (VB r) [(0, .box [VI x_2.Node, VI x_2.Term, VI x_2.Index, VI x_2.Entry.Term, VI x_2.Entry.Kind, VS x_2.Entry.Data])] := by
  unfold slices_ContainsFunc_Leader at h
  refine Says.of_run s82 Try.call82 rfl fun B hB => ?_
  have hm : B.m ≤ 1000 := by omega
  refine Run.seq ?_
  refine Run.ops hm ?_
  refine Ops.p rfl ?_
  refine Ops.nil ?_
  refine Run.seq ?_
  refine Run.ops hm ?_
  refine Ops.p rfl ?_
  refine Ops.p rfl ?_
  obtain ⟨y_101, hy_101, h⟩ := bindO h
  refine Ops.st (s := 5128) (Ev.call [0] [] 0 (sem_slices_IndexFunc_Leader N x_1 x_2 _ hy_101) rfl rfl (.cons (.c _) (.cons (.fn (.cons (.ptr rfl) .nil)) .nil)) rfl (.inl rfl) rfl rfl) rfl rfl ?_
  refine Ops.p rfl ?_
  refine Ops.p rfl ?_
  refine Ops.nil ?_
  refine Run.ret ?_
  obtain rfl := someO h
  exact Ends.mk (.inl rfl) hB rfl rfl rfl rfl
def impl_Whole (N : Nat) (x_1 : (List Leader)) (x_2 : Applied) : Option (Bool) :=
 (slices_ContainsFunc_Leader N x_1 x_2).bind fun y_101 =>
 some (!y_101)
theorem sem_impl_Whole (N : Nat) (x_1 : (List Leader)) (x_2 : Applied) (r : Bool) (h : impl_Whole N x_1 x_2 = some r) : Says Try.prog 44 [RO 129 (x_1.map (encLeader false)), .agg [VI x_2.Node, VI x_2.Term, VI x_2.Index, VI x_2.Entry.Term, VI x_2.Entry.Kind, VS x_2.Entry.Data]] 0 [] (VB r) [] := by
  unfold impl_Whole at h
  refine Says.of_run s44 Try.call44 rfl fun B hB => ?_
  have hm : B.m ≤ 1000 := by omega
  refine Run.seq ?_
  refine Run.ops hm ?_
  refine Ops.st (s := 1000) (.bx rfl rfl) rfl rfl ?_
  refine Ops.p rfl ?_
  refine Ops.nil ?_
  refine Run.seq ?_
  refine Run.ops hm ?_
  refine Ops.p rfl ?_
  refine Ops.p rfl ?_
  obtain ⟨y_101, hy_101, h⟩ := bindO h
  refine Ops.st (s := 5128) (Ev.call [1000] [] 0 (sem_slices_ContainsFunc_Leader N x_1 x_2 _ hy_101) rfl rfl (.cons (.c _) (.cons (.fn (.cons (.ptr rfl) .nil)) .nil)) rfl (.inl rfl) rfl rfl) rfl rfl ?_
  refine Ops.p rfl ?_
  refine Ops.p rfl ?_
  refine Ops.nil ?_
  refine Run.ret ?_
  obtain rfl := someO h
  exact Ends.mk (.inl rfl) hB rfl rfl rfl rfl
def laws_eqEntry (N : Nat) (x_1 : Entry) (x_2 : Entry) : Option (Bool) :=
 (if (x_1.Term != x_2.Term) = true then
 some false
 else
 (if (x_1.Kind != x_2.Kind) = true then
 some false
 else
 (if (!decide (x_1.Data = x_2.Data)) = true then
 some false
 else
 some true)))
theorem sem_laws_eqEntry (N : Nat) (x_1 : Entry) (x_2 : Entry) (r : Bool) (h : laws_eqEntry N x_1 x_2 = some r) : Says Try.prog 34 [.agg [VI x_1.Term, VI x_1.Kind, VS x_1.Data], .agg [VI x_2.Term, VI x_2.Kind, VS x_2.Data]] 0 [] (VB r) [] := by
  unfold laws_eqEntry at h
  refine Says.of_run s34 Try.call34 rfl fun B hB => ?_
  have hm : B.m ≤ 1000 := by omega
  refine Run.seq ?_
  refine Run.ops hm ?_
  refine Ops.st (s := 1000) (.bx rfl rfl) rfl rfl ?_
  refine Ops.st (s := 1016) (.bx rfl rfl) rfl rfl ?_
  refine Ops.p rfl ?_
  refine Ops.nil ?_
  refine Run.seq ?_
  refine Run.seq ?_
  refine Run.ops hm ?_
  refine Ops.p rfl ?_
  refine Ops.p rfl ?_
  refine Ops.p rfl ?_
  refine Ops.p rfl ?_
  refine Ops.p rfl ?_
  refine Ops.nil ?_
  refine Run.condO rfl h (fun g_106 h => ?_) (fun g_106 h => ?_)
  · skip
    refine Run.seq ?_
    refine Run.ops hm ?_
    refine Ops.p rfl ?_
    refine Ops.nil ?_
    refine Run.ret ?_
    obtain rfl := someO h
    exact Ends.mk (.inl rfl) hB rfl rfl rfl rfl
  · skip
    refine Run.skip ?_
    refine Run.seq ?_
    refine Run.seq ?_
    refine Run.ops hm ?_
    refine Ops.p rfl ?_
    refine Ops.p rfl ?_
    refine Ops.p rfl ?_
    refine Ops.p rfl ?_
    refine Ops.p rfl ?_
    refine Ops.nil ?_
    refine Run.condO rfl h (fun g_108 h => ?_) (fun g_108 h => ?_)
    · skip
      refine Run.seq ?_
      refine Run.ops hm ?_
      refine Ops.p rfl ?_
      refine Ops.nil ?_
      refine Run.ret ?_
      obtain rfl := someO h
      exact Ends.mk (.inl rfl) hB rfl rfl rfl rfl
    · skip
      refine Run.skip ?_
      refine Run.seq ?_
      refine Run.seq ?_
      refine Run.ops hm ?_
      refine Ops.p rfl ?_
      refine Ops.p rfl ?_
      refine Ops.p rfl ?_
      refine Ops.p rfl ?_
      refine Ops.p rfl ?_
      refine Ops.nil ?_
      refine Run.condO rfl h (fun g_109 h => ?_) (fun g_109 h => ?_)
      · skip
        refine Run.seq ?_
        refine Run.ops hm ?_
        refine Ops.p rfl ?_
        refine Ops.nil ?_
        refine Run.ret ?_
        obtain rfl := someO h
        exact Ends.mk (.inl rfl) hB rfl rfl rfl rfl
      · skip
        refine Run.skip ?_
        refine Run.seq ?_
        refine Run.ops hm ?_
        refine Ops.p rfl ?_
        refine Ops.nil ?_
        refine Run.ret ?_
        obtain rfl := someO h
        exact Ends.mk (.inl rfl) hB rfl rfl rfl rfl
def laws_eqEntryS_l1 (N : Nat) (x_1 : (List Entry)) (x_2 : (List Entry)) : Nat → Int → Option ((Bool) ⊕ (Unit))
 | 0, _ => none
 | m + 1, x_186 =>
 (if (decide (x_186 < (x_1.length : Int))) = true then
 (at? x_1 x_186).bind fun x_206 =>
 (at? x_2 x_186).bind fun x_207 =>
 (laws_eqEntry N x_206 x_207).bind fun y_208 =>
 (if (!y_208) = true then
 some (Sum.inl false)
 else
 laws_eqEntryS_l1 N x_1 x_2 m (w64 (x_186 + (1 : Int))))
 else
 some (Sum.inr ()))
def laws_eqEntryS_l1_r (N : Nat) (x_1 : (List Entry)) (x_2 : (List Entry)) : (List Entry) → Int → Option ((Bool) ⊕ (Unit))
 | [], x_186 =>
 some (Sum.inr ())
 | hd :: tl, x_186 =>
 (some hd).bind fun x_206 =>
 (at? x_2 x_186).bind fun x_207 =>
 (laws_eqEntry N x_206 x_207).bind fun y_208 =>
 (if (!y_208) = true then
 some (Sum.inl false)
 else
 laws_eqEntryS_l1_r N x_1 x_2 tl (w64 (x_186 + (1 : Int))))
theorem laws_eqEntryS_l1_rng (N : Nat) (x_1 : (List Entry)) (x_2 : (List Entry)) (hx : x_1.length ≤ 1099511627776) : ∀ (d k m : Nat), x_1.length = k + d → d < m → laws_eqEntryS_l1 N x_1 x_2 m (k : Int) = laws_eqEntryS_l1_r N x_1 x_2 (x_1.drop k) (k : Int) := by
  intro d
  induction d with
  | zero =>
    intro k m hd hm
    obtain ⟨m, rfl⟩ : ∃ q, m = q + 1 := ⟨m - 1, by omega⟩
    rw [laws_eqEntryS_l1, if_neg (by simp; omega), List.drop_eq_nil_of_le (by omega), laws_eqEntryS_l1_r]
  | succ d ih =>
    intro k m hd hm
    obtain ⟨m, rfl⟩ : ∃ q, m = q + 1 := ⟨m - 1, by omega⟩
    have hk : k < x_1.length := by omega
    rw [laws_eqEntryS_l1, if_pos (by simp; omega), List.drop_eq_getElem_cons hk, laws_eqEntryS_l1_r]
    have h1 := at_lt hk
    have h2 := w64_succ (k := k) (by omega)
    have h3 := ih (k + 1) m
    simp only [h1, h2, h3 (by omega) (by omega)]
theorem laws_eqEntryS_l1_eq {N : Nat} (x_1 : (List Entry)) (x_2 : (List Entry)) (hx : x_1.length ≤ 1099511627776) (hN : x_1.length < N) : laws_eqEntryS_l1 N x_1 x_2 N 0 = laws_eqEntryS_l1_r N x_1 x_2 x_1 0 := laws_eqEntryS_l1_rng N x_1 x_2 hx x_1.length 0 N (by omega) hN
def laws_eqEntryS (N : Nat) (x_1 : (List Entry)) (x_2 : (List Entry)) : Option (Bool) :=
 (if ((x_1.length : Int) != (x_2.length : Int)) = true then
 some false
 else
 joinP (fun (v_183 : Unit) =>
 some true) fun j_183 =>
 (laws_eqEntryS_l1 N x_1 x_2 N (0 : Int)).bind (Sum.elim (fun v_197 => some v_197) (fun (v_198 : Unit) => j_183 ())))
theorem sem_laws_eqEntryS (N : Nat) (x_1 : (List Entry)) (x_2 : (List Entry)) (r : Bool) (h : laws_eqEntryS N x_1 x_2 = some r) : Says Try.prog 91 [RO 48 (x_1.map encEntry), RO 48 (x_2.map encEntry)] 0 [] (VB r) [] := by
  unfold laws_eqEntryS at h
  refine Says.of_run s91 Try.call91 rfl fun B hB => ?_
  have hm : B.m ≤ 1000 := by omega
  refine Run.seq ?_
  refine Run.ops hm ?_
  refine Ops.p rfl ?_
  refine Ops.nil ?_
  refine Run.seq ?_
  refine Run.seq ?_
  refine Run.ops hm ?_
  refine Ops.p rfl ?_
  refine Ops.st (s := 5112) (Ev.lnF rfl) rfl rfl ?_
  refine Ops.p rfl ?_
  refine Ops.st (s := 5144) (Ev.lnF rfl) rfl rfl ?_
  refine Ops.p rfl ?_
  refine Ops.nil ?_
  refine Run.condO rfl h (fun g_156 h => ?_) (fun g_156 h => ?_)
  · skip
    refine Run.seq ?_
    refine Run.ops hm ?_
    refine Ops.p rfl ?_
    refine Ops.nil ?_
    refine Run.ret ?_
    obtain rfl := someO h
    exact Ends.mk (.inl rfl) hB rfl rfl rfl rfl
  · skip
    refine Run.skip ?_
    refine Run.seqO h (fun (v_183 : Unit) => []) (fun (v_183 : Unit) => []) (fun h => ?_) (fun v_183 h => ?_)
    · skip
      refine Run.seq ?_
      refine Run.ops hm ?_
      refine Ops.p rfl ?_
      refine Ops.nil ?_
      refine Run.block ?_
      obtain ⟨res_198, h, hk_198⟩ := bindO h
      refine Run.loop (n := N) (fun m_198 fr σ => ∃ (x_186 : Int), laws_eqEntryS_l1 N x_1 x_2 m_198 x_186 = some res_198 ∧ fr = [(0, RO 48 (x_1.map encEntry)), (1, RO 48 (x_2.map encEntry)), (5, VI x_186)] ∧ σ = []) (gh_canonE (ts := [0, 1, 5]) hB rfl rfl rfl) ⟨_, h, rfl, rfl⟩ ?_
      rintro m_198 fr σ ⟨x_186, h, rfl, rfl⟩
      obtain _ | m_198 := m_198
      · rw [laws_eqEntryS_l1] at h; cases h
      rw [laws_eqEntryS_l1] at h
      refine Run.seq ?_
      refine Run.seq ?_
      refine Run.ops hm ?_
      refine Ops.p rfl ?_
      refine Ops.p rfl ?_
      refine Ops.st (s := 17416) (Ev.lnF rfl) rfl rfl ?_
      refine Ops.p rfl ?_
      refine Ops.nil ?_
      refine Run.condO rfl h (fun g_201 h => ?_) (fun g_201 h => ?_)
      · skip
        refine Run.skip ?_
        refine Run.seq ?_
        refine Run.block ?_
        refine Run.seq ?_
        refine Run.draw hm hmix ?_
        refine OpsD.p rfl ?_
        refine OpsD.p rfl ?_
        obtain ⟨x_206, hx_206, h⟩ := bindO h
        refine OpsD.st (s := 25608) (Ev.iaF rfl rfl hx_206) rfl rfl ?_
        refine OpsD.p rfl ?_
        refine OpsD.p rfl ?_
        refine OpsD.p rfl ?_
        obtain ⟨x_207, hx_207, h⟩ := bindO h
        refine OpsD.st (s := 25672) (Ev.iaF rfl rfl hx_207) rfl rfl ?_
        refine OpsD.p rfl ?_
        obtain ⟨y_208, hy_208, h⟩ := bindO h
        refine OpsD.st (s := 25704) (Ev.call [] [] 0 (sem_laws_eqEntry N x_206 x_207 _ hy_208) rfl rfl (.cons (.agg (.cons (.c _) (.cons (.c _) (.cons (.c _) .nil)))) (.cons (.agg (.cons (.c _) (.cons (.c _) (.cons (.c _) .nil)))) .nil)) rfl (.inl rfl) rfl rfl) rfl rfl ?_
        refine OpsD.p rfl ?_
        refine OpsD.nil ⟨by kernel_rfl, ?_⟩
        refine Run.condO rfl h (fun g_209 h => ?_) (fun g_209 h => ?_)
        · skip
          refine Run.seq ?_
          refine Run.ops hm ?_
          refine Ops.p rfl ?_
          refine Ops.nil ?_
          refine Run.ret ?_
          obtain rfl := someO h
          have h := hk_198
          replace h := inlO h
          obtain rfl := someO h
          exact Ends.mk (.inl rfl) hB rfl rfl rfl rfl
        · skip
          refine Run.skip ?_
          refine Run.ops hm ?_
          refine Ops.p rfl ?_
          refine Ops.p rfl ?_
          refine Ops.p rfl ?_
          refine Ops.nil ?_
          exact ⟨m_198, Nat.lt_succ_self m_198, _, _, gh_canonE (ts := [0, 1, 5]) hB rfl rfl rfl, _, h, rfl, rfl⟩
      · skip
        refine Run.exit ?_
        obtain rfl := someO h
        have h := hk_198
        replace h := inrO h
        exact ⟨_, _, gh_canonE (ts := []) hB rfl rfl rfl, (), h, rfl, rfl⟩
    · skip
      refine Run.seq ?_
      refine Run.ops hm ?_
      refine Ops.p rfl ?_
      refine Ops.nil ?_
      refine Run.ret ?_
      obtain rfl := someO h
      exact Ends.mk (.inl rfl) hB rfl rfl rfl rfl
def laws_eqLog (N : Nat) (x_1 : Log) (x_2 : Log) : Option (Bool) :=
 (if (x_1.Start != x_2.Start) = true then
 some false
 else
 (if (x_1.StartTerm != x_2.StartTerm) = true then
 some false
 else
 (laws_eqEntryS N x_1.Entries x_2.Entries).bind fun y_110 =>
 (if (!y_110) = true then
 some false
 else
 some true)))
theorem sem_laws_eqLog (N : Nat) (x_1 : Log) (x_2 : Log) (r : Bool) (h : laws_eqLog N x_1 x_2 = some r) : Says Try.prog 35 [.agg [VI x_1.Start, VI x_1.StartTerm, RO 48 (x_1.Entries.map encEntry)], .agg [VI x_2.Start, VI x_2.StartTerm, RO 48 (x_2.Entries.map encEntry)]] 0 [] (VB r) [] := by
  unfold laws_eqLog at h
  refine Says.of_run s35 Try.call35 rfl fun B hB => ?_
  have hm : B.m ≤ 1000 := by omega
  refine Run.seq ?_
  refine Run.ops hm ?_
  refine Ops.st (s := 1000) (.bx rfl rfl) rfl rfl ?_
  refine Ops.st (s := 1016) (.bx rfl rfl) rfl rfl ?_
  refine Ops.p rfl ?_
  refine Ops.nil ?_
  refine Run.seq ?_
  refine Run.seq ?_
  refine Run.ops hm ?_
  refine Ops.p rfl ?_
  refine Ops.p rfl ?_
  refine Ops.p rfl ?_
  refine Ops.p rfl ?_
  refine Ops.p rfl ?_
  refine Ops.nil ?_
  refine Run.condO rfl h (fun g_107 h => ?_) (fun g_107 h => ?_)
  · skip
    refine Run.seq ?_
    refine Run.ops hm ?_
    refine Ops.p rfl ?_
    refine Ops.nil ?_
    refine Run.ret ?_
    obtain rfl := someO h
    exact Ends.mk (.inl rfl) hB rfl rfl rfl rfl
  · skip
    refine Run.skip ?_
    refine Run.seq ?_
    refine Run.seq ?_
    refine Run.ops hm ?_
    refine Ops.p rfl ?_
    refine Ops.p rfl ?_
    refine Ops.p rfl ?_
    refine Ops.p rfl ?_
    refine Ops.p rfl ?_
    refine Ops.nil ?_
    refine Run.condO rfl h (fun g_109 h => ?_) (fun g_109 h => ?_)
    · skip
      refine Run.seq ?_
      refine Run.ops hm ?_
      refine Ops.p rfl ?_
      refine Ops.nil ?_
      refine Run.ret ?_
      obtain rfl := someO h
      exact Ends.mk (.inl rfl) hB rfl rfl rfl rfl
    · skip
      refine Run.skip ?_
      refine Run.seq ?_
      refine Run.seq ?_
      refine Run.ops hm ?_
      refine Ops.p rfl ?_
      refine Ops.p rfl ?_
      refine Ops.p rfl ?_
      refine Ops.p rfl ?_
      obtain ⟨y_110, hy_110, h⟩ := bindO h
      refine Ops.st (s := 21544) (Ev.call [] [] 0 (sem_laws_eqEntryS N x_1.Entries x_2.Entries _ hy_110) rfl rfl (.cons (.c _) (.cons (.c _) .nil)) rfl (.inl rfl) rfl rfl) rfl rfl ?_
      refine Ops.p rfl ?_
      refine Ops.nil ?_
      refine Run.condO rfl h (fun g_111 h => ?_) (fun g_111 h => ?_)
      · skip
        refine Run.seq ?_
        refine Run.ops hm ?_
        refine Ops.p rfl ?_
        refine Ops.nil ?_
        refine Run.ret ?_
        obtain rfl := someO h
        exact Ends.mk (.inl rfl) hB rfl rfl rfl rfl
      · skip
        refine Run.skip ?_
        refine Run.seq ?_
        refine Run.ops hm ?_
        refine Ops.p rfl ?_
        refine Ops.nil ?_
        refine Run.ret ?_
        obtain rfl := someO h
        exact Ends.mk (.inl rfl) hB rfl rfl rfl rfl
def laws_eqLeader (N : Nat) (x_1 : Leader) (x_2 : Leader) : Option (Bool) :=
 (if (x_1.Node != x_2.Node) = true then
 some false
 else
 (if (x_1.Term != x_2.Term) = true then
 some false
 else
 (laws_eqLog N x_1.Log x_2.Log).bind fun y_110 =>
 (if (!y_110) = true then
 some false
 else
 some true)))
theorem sem_laws_eqLeader (N : Nat) (x_1 : Leader) (x_2 : Leader) (r : Bool) (h : laws_eqLeader N x_1 x_2 = some r) : Says Try.prog 84 [.agg [VI x_1.Node, VI x_1.Term, VI x_1.Log.Start, VI x_1.Log.StartTerm, RO 48 (x_1.Log.Entries.map encEntry)], .agg [VI x_2.Node, VI x_2.Term, VI x_2.Log.Start, VI x_2.Log.StartTerm, RO 48 (x_2.Log.Entries.map encEntry)]] 0 [] (VB r) [] := by
  unfold laws_eqLeader at h
  refine Says.of_run s84 Try.call84 rfl fun B hB => ?_
  have hm : B.m ≤ 1000 := by omega
  refine Run.seq ?_
  refine Run.ops hm ?_
  refine Ops.st (s := 1000) (.bx rfl rfl) rfl rfl ?_
  refine Ops.st (s := 1016) (.bx rfl rfl) rfl rfl ?_
  refine Ops.p rfl ?_
  refine Ops.nil ?_
  refine Run.seq ?_
  refine Run.seq ?_
  refine Run.ops hm ?_
  refine Ops.p rfl ?_
  refine Ops.p rfl ?_
  refine Ops.p rfl ?_
  refine Ops.p rfl ?_
  refine Ops.p rfl ?_
  refine Ops.nil ?_
  refine Run.condO rfl h (fun g_107 h => ?_) (fun g_107 h => ?_)
  · skip
    refine Run.seq ?_
    refine Run.ops hm ?_
    refine Ops.p rfl ?_
    refine Ops.nil ?_
    refine Run.ret ?_
    obtain rfl := someO h
    exact Ends.mk (.inl rfl) hB rfl rfl rfl rfl
  · skip
    refine Run.skip ?_
    refine Run.seq ?_
    refine Run.seq ?_
    refine Run.ops hm ?_
    refine Ops.p rfl ?_
    refine Ops.p rfl ?_
    refine Ops.p rfl ?_
    refine Ops.p rfl ?_
    refine Ops.p rfl ?_
    refine Ops.nil ?_
    refine Run.condO rfl h (fun g_109 h => ?_) (fun g_109 h => ?_)
    · skip
      refine Run.seq ?_
      refine Run.ops hm ?_
      refine Ops.p rfl ?_
      refine Ops.nil ?_
      refine Run.ret ?_
      obtain rfl := someO h
      exact Ends.mk (.inl rfl) hB rfl rfl rfl rfl
    · skip
      refine Run.skip ?_
      refine Run.seq ?_
      refine Run.seq ?_
      refine Run.ops hm ?_
      refine Ops.p rfl ?_
      refine Ops.p rfl ?_
      refine Ops.p rfl ?_
      refine Ops.p rfl ?_
      obtain ⟨y_110, hy_110, h⟩ := bindO h
      refine Ops.st (s := 21544) (Ev.call [] [] 0 (sem_laws_eqLog N x_1.Log x_2.Log _ hy_110) rfl rfl (.cons (.agg (.cons (.c _) (.cons (.c _) (.cons (.c _) .nil)))) (.cons (.agg (.cons (.c _) (.cons (.c _) (.cons (.c _) .nil)))) .nil)) rfl (.inl rfl) rfl rfl) rfl rfl ?_
      refine Ops.p rfl ?_
      refine Ops.nil ?_
      refine Run.condO rfl h (fun g_111 h => ?_) (fun g_111 h => ?_)
      · skip
        refine Run.seq ?_
        refine Run.ops hm ?_
        refine Ops.p rfl ?_
        refine Ops.nil ?_
        refine Run.ret ?_
        obtain rfl := someO h
        exact Ends.mk (.inl rfl) hB rfl rfl rfl rfl
      · skip
        refine Run.skip ?_
        refine Run.seq ?_
        refine Run.ops hm ?_
        refine Ops.p rfl ?_
        refine Ops.nil ?_
        refine Run.ret ?_
        obtain rfl := someO h
        exact Ends.mk (.inl rfl) hB rfl rfl rfl rfl
def laws_eqLeaderS_l1 (N : Nat) (x_1 : (List Leader)) (x_2 : (List Leader)) : Nat → Int → Option ((Bool) ⊕ (Unit))
 | 0, _ => none
 | m + 1, x_186 =>
 (if (decide (x_186 < (x_1.length : Int))) = true then
 (at? x_1 x_186).bind fun x_206 =>
 (at? x_2 x_186).bind fun x_207 =>
 (laws_eqLeader N x_206 x_207).bind fun y_208 =>
 (if (!y_208) = true then
 some (Sum.inl false)
 else
 laws_eqLeaderS_l1 N x_1 x_2 m (w64 (x_186 + (1 : Int))))
 else
 some (Sum.inr ()))
def laws_eqLeaderS_l1_r (N : Nat) (x_1 : (List Leader)) (x_2 : (List Leader)) : (List Leader) → Int → Option ((Bool) ⊕ (Unit))
 | [], x_186 =>
 some (Sum.inr ())
 | hd :: tl, x_186 =>
 (some hd).bind fun x_206 =>
 (at? x_2 x_186).bind fun x_207 =>
 (laws_eqLeader N x_206 x_207).bind fun y_208 =>
 (if (!y_208) = true then
 some (Sum.inl false)
 else
 laws_eqLeaderS_l1_r N x_1 x_2 tl (w64 (x_186 + (1 : Int))))
theorem laws_eqLeaderS_l1_rng (N : Nat) (x_1 : (List Leader)) (x_2 : (List Leader)) (hx : x_1.length ≤ 1099511627776) : ∀ (d k m : Nat), x_1.length = k + d → d < m → laws_eqLeaderS_l1 N x_1 x_2 m (k : Int) = laws_eqLeaderS_l1_r N x_1 x_2 (x_1.drop k) (k : Int) := by
  intro d
  induction d with
  | zero =>
    intro k m hd hm
    obtain ⟨m, rfl⟩ : ∃ q, m = q + 1 := ⟨m - 1, by omega⟩
    rw [laws_eqLeaderS_l1, if_neg (by simp; omega), List.drop_eq_nil_of_le (by omega), laws_eqLeaderS_l1_r]
  | succ d ih =>
    intro k m hd hm
    obtain ⟨m, rfl⟩ : ∃ q, m = q + 1 := ⟨m - 1, by omega⟩
    have hk : k < x_1.length := by omega
    rw [laws_eqLeaderS_l1, if_pos (by simp; omega), List.drop_eq_getElem_cons hk, laws_eqLeaderS_l1_r]
    have h1 := at_lt hk
    have h2 := w64_succ (k := k) (by omega)
    have h3 := ih (k + 1) m
    simp only [h1, h2, h3 (by omega) (by omega)]
theorem laws_eqLeaderS_l1_eq {N : Nat} (x_1 : (List Leader)) (x_2 : (List Leader)) (hx : x_1.length ≤ 1099511627776) (hN : x_1.length < N) : laws_eqLeaderS_l1 N x_1 x_2 N 0 = laws_eqLeaderS_l1_r N x_1 x_2 x_1 0 := laws_eqLeaderS_l1_rng N x_1 x_2 hx x_1.length 0 N (by omega) hN
def laws_eqLeaderS (N : Nat) (x_1 : (List Leader)) (x_2 : (List Leader)) : Option (Bool) :=
 (if ((x_1.length : Int) != (x_2.length : Int)) = true then
 some false
 else
 joinP (fun (v_183 : Unit) =>
 some true) fun j_183 =>
 (laws_eqLeaderS_l1 N x_1 x_2 N (0 : Int)).bind (Sum.elim (fun v_197 => some v_197) (fun (v_198 : Unit) => j_183 ())))
theorem sem_laws_eqLeaderS (N : Nat) (x_1 : (List Leader)) (x_2 : (List Leader)) (r : Bool) (h : laws_eqLeaderS N x_1 x_2 = some r) : Says Try.prog 29 [RO 129 (x_1.map (encLeader false)), RO 129 (x_2.map (encLeader false))] 0 [] (VB r) [] := by
  unfold laws_eqLeaderS at h
  refine Says.of_run s29 Try.call29 rfl fun B hB => ?_
  have hm : B.m ≤ 1000 := by omega
  refine Run.seq ?_
  refine Run.ops hm ?_
  refine Ops.p rfl ?_
  refine Ops.nil ?_
  refine Run.seq ?_
  refine Run.seq ?_
  refine Run.ops hm ?_
  refine Ops.p rfl ?_
  refine Ops.st (s := 5112) (Ev.lnF rfl) rfl rfl ?_
  refine Ops.p rfl ?_
  refine Ops.st (s := 5144) (Ev.lnF rfl) rfl rfl ?_
  refine Ops.p rfl ?_
  refine Ops.nil ?_
  refine Run.condO rfl h (fun g_156 h => ?_) (fun g_156 h => ?_)
  · skip
    refine Run.seq ?_
    refine Run.ops hm ?_
    refine Ops.p rfl ?_
    refine Ops.nil ?_
    refine Run.ret ?_
    obtain rfl := someO h
    exact Ends.mk (.inl rfl) hB rfl rfl rfl rfl
  · skip
    refine Run.skip ?_
    refine Run.seqO h (fun (v_183 : Unit) => []) (fun (v_183 : Unit) => []) (fun h => ?_) (fun v_183 h => ?_)
    · skip
      refine Run.seq ?_
      refine Run.ops hm ?_
      refine Ops.p rfl ?_
      refine Ops.nil ?_
      refine Run.block ?_
      obtain ⟨res_198, h, hk_198⟩ := bindO h
      refine Run.loop (n := N) (fun m_198 fr σ => ∃ (x_186 : Int), laws_eqLeaderS_l1 N x_1 x_2 m_198 x_186 = some res_198 ∧ fr = [(0, RO 129 (x_1.map (encLeader false))), (1, RO 129 (x_2.map (encLeader false))), (5, VI x_186)] ∧ σ = []) (gh_canonE (ts := [0, 1, 5]) hB rfl rfl rfl) ⟨_, h, rfl, rfl⟩ ?_
      rintro m_198 fr σ ⟨x_186, h, rfl, rfl⟩
      obtain _ | m_198 := m_198
      · rw [laws_eqLeaderS_l1] at h; cases h
      rw [laws_eqLeaderS_l1] at h
      refine Run.seq ?_
      refine Run.seq ?_
      refine Run.ops hm ?_
      refine Ops.p rfl ?_
      refine Ops.p rfl ?_
      refine Ops.st (s := 17416) (Ev.lnF rfl) rfl rfl ?_
      refine Ops.p rfl ?_
      refine Ops.nil ?_
      refine Run.condO rfl h (fun g_201 h => ?_) (fun g_201 h => ?_)
      · skip
        refine Run.skip ?_
        refine Run.seq ?_
        refine Run.block ?_
        refine Run.seq ?_
        refine Run.draw hm hmix ?_
        refine OpsD.p rfl ?_
        refine OpsD.p rfl ?_
        obtain ⟨x_206, hx_206, h⟩ := bindO h
        refine OpsD.st (s := 25608) (Ev.iaF rfl rfl hx_206) rfl rfl ?_
        refine OpsD.p rfl ?_
        refine OpsD.p rfl ?_
        refine OpsD.p rfl ?_
        obtain ⟨x_207, hx_207, h⟩ := bindO h
        refine OpsD.st (s := 25672) (Ev.iaF rfl rfl hx_207) rfl rfl ?_
        refine OpsD.p rfl ?_
        obtain ⟨y_208, hy_208, h⟩ := bindO h
        refine OpsD.st (s := 25704) (Ev.call [] [] 0 (sem_laws_eqLeader N x_206 x_207 _ hy_208) rfl rfl (.cons (.agg (.cons (.c _) (.cons (.c _) (.cons (.c _) (.cons (.c _) (.cons (.c _) .nil)))))) (.cons (.agg (.cons (.c _) (.cons (.c _) (.cons (.c _) (.cons (.c _) (.cons (.c _) .nil)))))) .nil)) rfl (.inl rfl) rfl rfl) rfl rfl ?_
        refine OpsD.p rfl ?_
        refine OpsD.nil ⟨by kernel_rfl, ?_⟩
        refine Run.condO rfl h (fun g_209 h => ?_) (fun g_209 h => ?_)
        · skip
          refine Run.seq ?_
          refine Run.ops hm ?_
          refine Ops.p rfl ?_
          refine Ops.nil ?_
          refine Run.ret ?_
          obtain rfl := someO h
          have h := hk_198
          replace h := inlO h
          obtain rfl := someO h
          exact Ends.mk (.inl rfl) hB rfl rfl rfl rfl
        · skip
          refine Run.skip ?_
          refine Run.ops hm ?_
          refine Ops.p rfl ?_
          refine Ops.p rfl ?_
          refine Ops.p rfl ?_
          refine Ops.nil ?_
          exact ⟨m_198, Nat.lt_succ_self m_198, _, _, gh_canonE (ts := [0, 1, 5]) hB rfl rfl rfl, _, h, rfl, rfl⟩
      · skip
        refine Run.exit ?_
        obtain rfl := someO h
        have h := hk_198
        replace h := inrO h
        exact ⟨_, _, gh_canonE (ts := []) hB rfl rfl rfl, (), h, rfl, rfl⟩
    · skip
      refine Run.seq ?_
      refine Run.ops hm ?_
      refine Ops.p rfl ?_
      refine Ops.nil ?_
      refine Run.ret ?_
      obtain rfl := someO h
      exact Ends.mk (.inl rfl) hB rfl rfl rfl rfl
def laws_FnExactWhole (N : Nat) (x_1 : (List Leader)) (x_2 : Applied) : Option (Bool) :=
 (laws_szLeaderS N x_1 (1048576 : Int)).bind fun y_126 =>
 (if (decide (y_126 < (0 : Int))) = true then
 some true
 else
 (laws_szApplied N x_2 y_126).bind fun y_130 =>
 (if (decide (y_130 < (0 : Int))) = true then
 some true
 else
 (laws_toLeaderS N x_1).bind fun y_136 =>
 (laws_toApplied N x_2).bind fun y_137 =>
 (spec_Whole N y_136 y_137).bind fun y_138 =>
 (laws_toLeaderS N x_1).bind fun y_140 =>
 (laws_toApplied N x_2).bind fun y_143 =>
 (impl_Whole N y_140 y_143).bind fun y_144 =>
 (if ((y_144 == y_138) ^^ true) = true then
 some false
 else
 (laws_toLeaderS N x_1).bind fun y_147 =>
 (laws_eqLeaderS N y_140 y_147).bind fun y_148 =>
 (if (!y_148) = true then
 some false
 else
 some true))))
theorem sem_laws_FnExactWhole (N : Nat) (x_1 : (List Leader)) (x_2 : Applied) (r : Bool) (h : laws_FnExactWhole N x_1 x_2 = some r) : Says Try.prog 8 [RO 127 (x_1.map (encLeaderL false)), .agg [VI x_2.Node, VI x_2.Term, VI x_2.Index, VI x_2.Entry.Term, VI x_2.Entry.Kind, VS x_2.Entry.Data]] 0 [] (VB r) [] := by
  unfold laws_FnExactWhole at h
  refine Says.of_run s8 Try.call8 rfl fun B hB => ?_
  have hm : B.m ≤ 1000 := by omega
  refine Run.seq ?_
  refine Run.ops hm ?_
  refine Ops.st (s := 1000) (.bx rfl rfl) rfl rfl ?_
  refine Ops.p rfl ?_
  refine Ops.nil ?_
  refine Run.seq ?_
  refine Run.ops hm ?_
  refine Ops.p rfl ?_
  refine Ops.nil ?_
  refine Run.seq ?_
  refine Run.ops hm ?_
  refine Ops.p rfl ?_
  refine Ops.p rfl ?_
  obtain ⟨y_126, hy_126, h⟩ := bindO h
  refine Ops.st (s := 9224) (Ev.call [] [] 0 (sem_laws_szLeaderS N x_1 (1048576 : Int) _ hy_126) rfl rfl (.cons (.c _) (.cons (.c _) .nil)) rfl (.inl rfl) rfl rfl) rfl rfl ?_
  refine Ops.p rfl ?_
  refine Ops.nil ?_
  refine Run.seq ?_
  refine Run.seq ?_
  refine Run.ops hm ?_
  refine Ops.p rfl ?_
  refine Ops.p rfl ?_
  refine Ops.nil ?_
  refine Run.condO rfl h (fun g_128 h => ?_) (fun g_128 h => ?_)
  · skip
    refine Run.seq ?_
    refine Run.ops hm ?_
    refine Ops.p rfl ?_
    refine Ops.nil ?_
    refine Run.ret ?_
    obtain rfl := someO h
    exact Ends.mk (.inl rfl) hB rfl rfl rfl rfl
  · skip
    refine Run.skip ?_
    refine Run.seq ?_
    refine Run.ops hm ?_
    refine Ops.p rfl ?_
    refine Ops.p rfl ?_
    obtain ⟨y_130, hy_130, h⟩ := bindO h
    refine Ops.st (s := 21512) (Ev.call [] [] 0 (sem_laws_szApplied N x_2 y_126 _ hy_130) rfl rfl (.cons (.agg (.cons (.c _) (.cons (.c _) (.cons (.c _) (.cons (.c _) (.cons (.c _) (.cons (.c _) .nil))))))) (.cons (.c _) .nil)) rfl (.inl rfl) rfl rfl) rfl rfl ?_
    refine Ops.p rfl ?_
    refine Ops.nil ?_
    refine Run.seq ?_
    refine Run.seq ?_
    refine Run.ops hm ?_
    refine Ops.p rfl ?_
    refine Ops.p rfl ?_
    refine Ops.nil ?_
    refine Run.condO rfl h (fun g_132 h => ?_) (fun g_132 h => ?_)
    · skip
      refine Run.seq ?_
      refine Run.ops hm ?_
      refine Ops.p rfl ?_
      refine Ops.nil ?_
      refine Run.ret ?_
      obtain rfl := someO h
      exact Ends.mk (.inl rfl) hB rfl rfl rfl rfl
    · skip
      refine Run.skip ?_
      refine Run.seq ?_
      refine Run.draw hm hmix ?_
      refine OpsD.p rfl ?_
      obtain ⟨y_136, hy_136, h⟩ := bindO h
      refine OpsD.st (s := 33784) (Ev.call [] [] 1 (sem_laws_toLeaderS N x_1 _ hy_136) rfl rfl (.cons (.c _) .nil) rfl (.inl rfl) rfl rfl) rfl rfl ?_
      refine OpsD.p rfl ?_
      obtain ⟨y_137, hy_137, h⟩ := bindO h
      refine OpsD.st (s := 33816) (Ev.call [] [] 0 (sem_laws_toApplied N x_2 _ hy_137) rfl rfl (.cons (.agg (.cons (.c _) (.cons (.c _) (.cons (.c _) (.cons (.c _) (.cons (.c _) (.cons (.c _) .nil))))))) .nil) rfl (.inl rfl) rfl rfl) rfl rfl ?_
      obtain ⟨y_138, hy_138, h⟩ := bindO h
      refine OpsD.st (s := 33832) (Ev.call [] [33784] 0 (sem_spec_Whole N y_136 y_137 _ hy_138) rfl rfl (.cons (.borrow rfl (by decide) (lendW ro_encLeader _ rfl)) (.cons (.agg (.cons (.c _) (.cons (.c _) (.cons (.c _) (.cons (.c _) (.cons (.c _) (.cons (.c _) .nil))))))) .nil)) rfl (.inr ⟨rfl, ownL_root trivial⟩) rfl rfl) rfl rfl ?_
      refine OpsD.p rfl ?_
      refine OpsD.nil ⟨by kernel_rfl, ?_⟩
      refine Run.seq ?_
      refine Run.ops hm ?_
      refine Ops.p rfl ?_
      obtain ⟨y_140, hy_140, h⟩ := bindO h
      refine Ops.st (s := 37880) (Ev.call [] [] 1 (sem_laws_toLeaderS N x_1 _ hy_140) rfl rfl (.cons (.c _) .nil) rfl (.inl rfl) rfl rfl) rfl rfl ?_
      refine Ops.p rfl ?_
      refine Ops.nil ?_
      refine Run.seq ?_
      refine Run.ops hm ?_
      refine Ops.p rfl ?_
      refine Ops.p rfl ?_
      obtain ⟨y_143, hy_143, h⟩ := bindO h
      refine Ops.st (s := 41992) (Ev.call [] [] 0 (sem_laws_toApplied N x_2 _ hy_143) rfl rfl (.cons (.agg (.cons (.c _) (.cons (.c _) (.cons (.c _) (.cons (.c _) (.cons (.c _) (.cons (.c _) .nil))))))) .nil) rfl (.inl rfl) rfl rfl) rfl rfl ?_
      obtain ⟨y_144, hy_144, h⟩ := bindO h
      refine Ops.st (s := 42008) (Ev.call [] [37880] 0 (sem_impl_Whole N y_140 y_143 _ hy_144) rfl rfl (.cons (.borrow rfl (by decide) (lendW ro_encLeader _ rfl)) (.cons (.agg (.cons (.c _) (.cons (.c _) (.cons (.c _) (.cons (.c _) (.cons (.c _) (.cons (.c _) .nil))))))) .nil)) rfl (.inr ⟨rfl, ownL_root trivial⟩) rfl rfl) rfl rfl ?_
      refine Ops.p rfl ?_
      refine Ops.nil ?_
      refine Run.seq ?_
      refine Run.seq ?_
      refine Run.ops hm ?_
      refine Ops.p rfl ?_
      refine Ops.p rfl ?_
      refine Ops.p rfl ?_
      refine Ops.nil ?_
      refine Run.condO rfl h (fun g_146 h => ?_) (fun g_146 h => ?_)
      · skip
        refine Run.seq ?_
        refine Run.ops hm ?_
        refine Ops.p rfl ?_
        refine Ops.nil ?_
        refine Run.ret ?_
        obtain rfl := someO h
        exact Ends.mk (.inl rfl) hB rfl rfl rfl rfl
      · skip
        refine Run.skip ?_
        refine Run.seq ?_
        refine Run.seq ?_
        refine Run.ops hm ?_
        refine Ops.p rfl ?_
        refine Ops.p rfl ?_
        obtain ⟨y_147, hy_147, h⟩ := bindO h
        refine Ops.st (s := 54280) (Ev.call [] [] 1 (sem_laws_toLeaderS N x_1 _ hy_147) rfl rfl (.cons (.c _) .nil) rfl (.inl rfl) rfl rfl) rfl rfl ?_
        obtain ⟨y_148, hy_148, h⟩ := bindO h
        refine Ops.st (s := 54296) (Ev.call [] [37880, 54280] 0 (sem_laws_eqLeaderS N y_140 y_147 _ hy_148) rfl rfl (.cons (.borrow rfl (by decide) (lendW ro_encLeader _ rfl)) (.cons (.borrow rfl (by decide) (lendW ro_encLeader _ rfl)) .nil)) rfl (.inr ⟨rfl, ownL_root trivial⟩) rfl rfl) rfl rfl ?_
        refine Ops.p rfl ?_
        refine Ops.nil ?_
        refine Run.condO rfl h (fun g_149 h => ?_) (fun g_149 h => ?_)
        · skip
          refine Run.seq ?_
          refine Run.ops hm ?_
          refine Ops.p rfl ?_
          refine Ops.nil ?_
          refine Run.ret ?_
          obtain rfl := someO h
          exact Ends.mk (.inl rfl) hB rfl rfl rfl rfl
        · skip
          refine Run.skip ?_
          refine Run.seq ?_
          refine Run.ops hm ?_
          refine Ops.p rfl ?_
          refine Ops.nil ?_
          refine Run.ret ?_
          obtain rfl := someO h
          exact Ends.mk (.inl rfl) hB rfl rfl rfl rfl
end Go.Proofs.Ytebbgdjmplceiaa.Pe.FnExactWhole
