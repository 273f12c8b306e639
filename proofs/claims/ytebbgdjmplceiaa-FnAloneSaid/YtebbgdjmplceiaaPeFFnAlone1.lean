/- Functions, as pure functions; and that Go does just that. -/
import Derived.Test.YtebbgdjmplceiaaPeFFnAlone0
namespace Go.Proofs.Ytebbgdjmplceiaa.Pe.FnAlone
open Go Go.RowKit
set_option linter.unusedVariables false
set_option linter.unusedSimpArgs false
set_option maxHeartbeats 40000000
def impl_ConfOf (N : Nat) (x_1 : Node) : Option ((List Int)) :=
 (impl_ConfAt N x_1 (9223372036854775807 : Int)).bind fun y_101 =>
 some y_101
theorem sem_impl_ConfOf (N : Nat) (x_1 : Node) (r : (List Int)) (h : impl_ConfOf N x_1 = some r) : Says Try.prog 55 [.agg [VI x_1.Id, VI x_1.Term, VI x_1.Vote, VI x_1.Role, VI x_1.Lead, RO 3 (x_1.Conf.map encI), VI x_1.Log.Start, VI x_1.Log.StartTerm, RO 48 (x_1.Log.Entries.map encEntry), VI x_1.Commit, VI x_1.Clock, VI x_1.Limit, RO 3 (x_1.Votes.map encI), RO 172 (x_1.Peers.map encPeer)]] 0 [] (.sl 0 3 0 r.length) [(0, .vec 3 (r.map encI))] := by
  unfold impl_ConfOf at h
  refine Says.of_run s55 Try.call55 rfl fun B hB => ?_
  have hm : B.m ≤ 1000 := by omega
  refine Run.seq ?_
  refine Run.ops hm ?_
  refine Ops.st (s := 1000) (.bx rfl rfl) rfl rfl ?_
  refine Ops.p rfl ?_
  refine Ops.nil ?_
  refine Run.seq ?_
  refine Run.ops hm ?_
  refine Ops.p rfl ?_
  obtain ⟨y_101, hy_101, h⟩ := bindO h
  refine Ops.st (s := 5112) (Ev.call [] [] 1 (sem_impl_ConfAt N x_1 (9223372036854775807 : Int) _ hy_101) rfl rfl (.cons (.agg (.cons (.c _) (.cons (.c _) (.cons (.c _) (.cons (.c _) (.cons (.c _) (.cons (.c _) (.cons (.c _) (.cons (.c _) (.cons (.c _) (.cons (.c _) (.cons (.c _) (.cons (.c _) (.cons (.c _) (.cons (.c _) .nil))))))))))))))) (.cons (.c _) .nil)) rfl (.inl rfl) rfl rfl) rfl rfl ?_
  refine Ops.p rfl ?_
  refine Ops.nil ?_
  refine Run.ret ?_
  obtain rfl := someO h
  exact Ends.mkG (.inl rfl) rfl (gh_pk [0] [5112] hB rfl rfl rfl rfl) rfl rfl
def impl_othersOf_1 (N : Nat) (x_1 : Int) (x_2 : Node) : Option (Bool) :=
 some (x_1 == x_2.Id)
theorem sem_impl_othersOf_1 (N : Nat) (x_1 : Int) (x_2 : Node) (r : Bool) (h : impl_othersOf_1 N x_1 x_2 = some r) : Says Try.prog 151 [VI x_1, .ptr 0 0] 1 [(0, .box [VI x_2.Id, VI x_2.Term, VI x_2.Vote, VI x_2.Role, VI x_2.Lead, RO 3 (x_2.Conf.map encI), VI x_2.Log.Start, VI x_2.Log.StartTerm, RO 48 (x_2.Log.Entries.map encEntry), VI x_2.Commit, VI x_2.Clock, VI x_2.Limit, RO 3 (x_2.Votes.map encI), RO 172 (x_2.Peers.map encPeer)])] (VB r) [(0, .box [VI x_2.Id, VI x_2.Term, VI x_2.Vote, VI x_2.Role, VI x_2.Lead, RO 3 (x_2.Conf.map encI), VI x_2.Log.Start, VI x_2.Log.StartTerm, RO 48 (x_2.Log.Entries.map encEntry), VI x_2.Commit, VI x_2.Clock, VI x_2.Limit, RO 3 (x_2.Votes.map encI), RO 172 (x_2.Peers.map encPeer)])] := by
  unfold impl_othersOf_1 at h
  refine Says.of_run s151 Try.call151 rfl fun B hB => ?_
  have hm : B.m ≤ 1000 := by omega
  refine Run.seq ?_
  refine Run.ops hm ?_
  refine Ops.p rfl ?_
  refine Ops.nil ?_
  refine Run.seq ?_
  refine Run.ops hm ?_
  refine Ops.p rfl ?_
  refine Ops.p rfl ?_
  refine Ops.p rfl ?_
  refine Ops.p rfl ?_
  refine Ops.p rfl ?_
  refine Ops.nil ?_
  refine Run.ret ?_
  obtain rfl := someO h
  exact Ends.mkG (.inl rfl) rfl (gh_pk [0] [0] hB rfl rfl rfl rfl) rfl rfl
def slices_IndexFunc_int_l1 (N : Nat) (x_1 : (List Int)) (x_2 : Node) : Nat → Int → Option ((Int) ⊕ (Unit))
 | 0, _ => none
 | m + 1, x_194 =>
 (if (decide (x_194 < (x_1.length : Int))) = true then
 (at? x_1 x_194).bind fun x_219 =>
 (impl_othersOf_1 N x_219 x_2).bind fun y_220 =>
 (if y_220 = true then
 some (Sum.inl x_194)
 else
 slices_IndexFunc_int_l1 N x_1 x_2 m (w64 (x_194 + (1 : Int))))
 else
 some (Sum.inr ()))
def slices_IndexFunc_int_l1_r (N : Nat) (x_1 : (List Int)) (x_2 : Node) : (List Int) → Int → Option ((Int) ⊕ (Unit))
 | [], x_194 =>
 some (Sum.inr ())
 | hd :: tl, x_194 =>
 (some hd).bind fun x_219 =>
 (impl_othersOf_1 N x_219 x_2).bind fun y_220 =>
 (if y_220 = true then
 some (Sum.inl x_194)
 else
 slices_IndexFunc_int_l1_r N x_1 x_2 tl (w64 (x_194 + (1 : Int))))
theorem slices_IndexFunc_int_l1_rng (N : Nat) (x_1 : (List Int)) (x_2 : Node) (hx : x_1.length ≤ 1099511627776) : ∀ (d k m : Nat), x_1.length = k + d → d < m → slices_IndexFunc_int_l1 N x_1 x_2 m (k : Int) = slices_IndexFunc_int_l1_r N x_1 x_2 (x_1.drop k) (k : Int) := by
  intro d
  induction d with
  | zero =>
    intro k m hd hm
    obtain ⟨m, rfl⟩ : ∃ q, m = q + 1 := ⟨m - 1, by omega⟩
    rw [slices_IndexFunc_int_l1, if_neg (by simp; omega), List.drop_eq_nil_of_le (by omega), slices_IndexFunc_int_l1_r]
  | succ d ih =>
    intro k m hd hm
    obtain ⟨m, rfl⟩ : ∃ q, m = q + 1 := ⟨m - 1, by omega⟩
    have hk : k < x_1.length := by omega
    rw [slices_IndexFunc_int_l1, if_pos (by simp; omega), List.drop_eq_getElem_cons hk, slices_IndexFunc_int_l1_r]
    have h1 := at_lt hk
    have h2 := w64_succ (k := k) (by omega)
    have h3 := ih (k + 1) m
    simp only [h1, h2, h3 (by omega) (by omega)]
theorem slices_IndexFunc_int_l1_eq {N : Nat} (x_1 : (List Int)) (x_2 : Node) (hx : x_1.length ≤ 1099511627776) (hN : x_1.length < N) : slices_IndexFunc_int_l1 N x_1 x_2 N 0 = slices_IndexFunc_int_l1_r N x_1 x_2 x_1 0 := slices_IndexFunc_int_l1_rng N x_1 x_2 hx x_1.length 0 N (by omega) hN
def slices_IndexFunc_int (N : Nat) (x_1 : (List Int)) (x_2 : Node) : Option (Int) :=
 joinP (fun (v_191 : Unit) =>
 some (-1 : Int)) fun j_191 =>
 (slices_IndexFunc_int_l1 N x_1 x_2 N (0 : Int)).bind (Sum.elim (fun v_214 => some v_214) (fun (v_215 : Unit) => j_191 ()))
theorem sem_slices_IndexFunc_int (N : Nat) (x_1 : (List Int)) (x_2 : Node) (r : Int) (h : slices_IndexFunc_int N x_1 x_2 = some r) : Says Try.prog 158 [RO 3 (x_1.map encI), .fn 151 [.ptr 0 0]] 1 [(0, .box [VI x_2.Id, VI x_2.Term, VI x_2.Vote, VI x_2.Role, VI x_2.Lead, RO 3 (x_2.Conf.map encI), VI x_2.Log.Start, VI x_2.Log.StartTerm, RO 48 (x_2.Log.Entries.map encEntry), VI x_2.Commit, VI x_2.Clock, VI x_2.Limit, RO 3 (x_2.Votes.map encI), RO 172 (x_2.Peers.map encPeer)])] (VI r) [(0, .box [VI x_2.Id, VI x_2.Term, VI x_2.Vote, VI x_2.Role, VI x_2.Lead, RO 3 (x_2.Conf.map encI), VI x_2.Log.Start, VI x_2.Log.StartTerm, RO 48 (x_2.Log.Entries.map encEntry), VI x_2.Commit, VI x_2.Clock, VI x_2.Limit, RO 3 (x_2.Votes.map encI), RO 172 (x_2.Peers.map encPeer)])] := by
  unfold slices_IndexFunc_int at h
  refine Says.of_run s158 Try.call158 rfl fun B hB => ?_
  have hm : B.m ≤ 1000 := by omega
  refine Run.seq ?_
  refine Run.ops hm ?_
  refine Ops.p rfl ?_
  refine Ops.nil ?_
  refine Run.seqO h (fun (v_191 : Unit) => []) (fun (v_191 : Unit) => [(0, .box [VI x_2.Id, VI x_2.Term, VI x_2.Vote, VI x_2.Role, VI x_2.Lead, RO 3 (x_2.Conf.map encI), VI x_2.Log.Start, VI x_2.Log.StartTerm, RO 48 (x_2.Log.Entries.map encEntry), VI x_2.Commit, VI x_2.Clock, VI x_2.Limit, RO 3 (x_2.Votes.map encI), RO 172 (x_2.Peers.map encPeer)])]) (fun h => ?_) (fun v_191 h => ?_)
  · skip
    refine Run.seq ?_
    refine Run.ops hm ?_
    refine Ops.p rfl ?_
    refine Ops.st (s := 5112) (Ev.lnF rfl) rfl rfl ?_
    refine Ops.p rfl ?_
    refine Ops.nil ?_
    refine Run.block ?_
    obtain ⟨res_215, h, hk_215⟩ := bindO h
    refine Run.loop (n := N) (fun m_215 fr σ => ∃ (x_194 : Int), slices_IndexFunc_int_l1 N x_1 x_2 m_215 x_194 = some res_215 ∧ fr = [(0, RO 3 (x_1.map encI)), (1, .fn 151 [.ptr 0 0]), (7, VI (x_1.length : Int)), (8, VI x_194)] ∧ σ = [(0, .box [VI x_2.Id, VI x_2.Term, VI x_2.Vote, VI x_2.Role, VI x_2.Lead, RO 3 (x_2.Conf.map encI), VI x_2.Log.Start, VI x_2.Log.StartTerm, RO 48 (x_2.Log.Entries.map encEntry), VI x_2.Commit, VI x_2.Clock, VI x_2.Limit, RO 3 (x_2.Votes.map encI), RO 172 (x_2.Peers.map encPeer)])]) (gh_pk [0, 1, 7, 8] [0] hB rfl rfl rfl rfl) ⟨_, h, rfl, rfl⟩ ?_
    rintro m_215 fr σ ⟨x_194, h, rfl, rfl⟩
    obtain _ | m_215 := m_215
    · rw [slices_IndexFunc_int_l1] at h; cases h
    rw [slices_IndexFunc_int_l1] at h
    refine Run.seq ?_
    refine Run.ops hm ?_
    refine Ops.p rfl ?_
    refine Ops.nil ?_
    refine Run.seq ?_
    refine Run.condO rfl h (fun g_218 h => ?_) (fun g_218 h => ?_)
    · skip
      refine Run.skip ?_
      refine Run.seq ?_
      refine Run.block ?_
      refine Run.seq ?_
      refine Run.ops hm ?_
      refine Ops.p rfl ?_
      refine Ops.p rfl ?_
      refine Ops.nil ?_
      refine Run.seq ?_
      refine Run.ops hm ?_
      refine Ops.p rfl ?_
      refine Ops.p rfl ?_
      refine Ops.p rfl ?_
      obtain ⟨x_219, hx_219, h⟩ := bindO h
      refine Ops.st (s := 17432) (Ev.iaF rfl rfl hx_219) rfl rfl ?_
      refine Ops.p rfl ?_
      obtain ⟨y_220, hy_220, h⟩ := bindO h
      refine Ops.st (s := 17464) (Ev.callx [0] [] 0 rfl (sem_impl_othersOf_1 N x_219 x_2 _ hy_220) rfl rfl (.cons (.c _) (.cons (.ptr rfl) .nil)) rfl (.inl rfl) rfl rfl) rfl rfl ?_
      refine Ops.nil ?_
      refine Run.condO rfl h (fun g_221 h => ?_) (fun g_221 h => ?_)
      · skip
        refine Run.seq ?_
        refine Run.ops hm ?_
        refine Ops.p rfl ?_
        refine Ops.p rfl ?_
        refine Ops.nil ?_
        refine Run.ret ?_
        obtain rfl := someO h
        have h := hk_215
        replace h := inlO h
        obtain rfl := someO h
        exact Ends.mkG (.inl rfl) rfl (gh_pk [0] [0] hB rfl rfl rfl rfl) rfl rfl
      · skip
        refine Run.skip ?_
        refine Run.ops hm ?_
        refine Ops.p rfl ?_
        refine Ops.p rfl ?_
        refine Ops.nil ?_
        exact ⟨m_215, Nat.lt_succ_self m_215, _, _, (gh_pk [0, 1, 7, 8] [0] hB rfl rfl rfl rfl), _, h, rfl, rfl⟩
    · skip
      refine Run.exit ?_
      obtain rfl := someO h
      have h := hk_215
      replace h := inrO h
      exact ⟨_, _, (gh_pk [] [0] hB rfl rfl rfl rfl), (), h, rfl, rfl⟩
  · skip
    refine Run.seq ?_
    refine Run.ops hm ?_
    refine Ops.p rfl ?_
    refine Ops.nil ?_
    refine Run.ret ?_
    obtain rfl := someO h
    exact Ends.mkG (.inl rfl) rfl (gh_pk [0] [0] hB rfl rfl rfl rfl) rfl rfl
def slices_IndexFunc_int_i1_l1 (N : Nat) (x_1 : (List Int)) (x_2 : Node) : Nat → Int → Option ((Int) ⊕ (Unit))
 | 0, _ => none
 | m + 1, x_193 =>
 (if (decide (x_193 < ((x_1.length : Nat) : Int))) = true then
 (at? x_1 x_193).bind fun x_219 =>
 (impl_othersOf_1 N x_219 x_2).bind fun y_220 =>
 (if y_220 = true then
 some (Sum.inl x_193)
 else
 slices_IndexFunc_int_i1_l1 N x_1 x_2 m (w64 (x_193 + (1 : Int))))
 else
 some (Sum.inr ()))
def slices_IndexFunc_int_i1 (N : Nat) (x_1 : (List Int)) (x_2 : Node) : Option (Int) :=
 joinP (fun (v_191 : Unit) =>
 some (-1 : Int)) fun j_191 =>
 (slices_IndexFunc_int_i1_l1 N x_1 x_2 N (0 : Int)).bind (Sum.elim (fun v_214 => some v_214) (fun (v_215 : Unit) => j_191 ()))
theorem sem_slices_IndexFunc_int_i1 (N : Nat) (x_1 : (List Int)) (x_2 : Node) (r : Int) (h : slices_IndexFunc_int_i1 N x_1 x_2 = some r) : Says Try.prog 158 [.sl 0 3 0 x_1.length, .fn 151 [.ptr 1 0]] 2 [(0, .vec 3 (x_1.map encI)), (1, .box [VI x_2.Id, VI x_2.Term, VI x_2.Vote, VI x_2.Role, VI x_2.Lead, RO 3 (x_2.Conf.map encI), VI x_2.Log.Start, VI x_2.Log.StartTerm, RO 48 (x_2.Log.Entries.map encEntry), VI x_2.Commit, VI x_2.Clock, VI x_2.Limit, RO 3 (x_2.Votes.map encI), RO 172 (x_2.Peers.map encPeer)])] (VI r) [(0, .vec 3 (x_1.map encI)), (1, .box [VI x_2.Id, VI x_2.Term, VI x_2.Vote, VI x_2.Role, VI x_2.Lead, RO 3 (x_2.Conf.map encI), VI x_2.Log.Start, VI x_2.Log.StartTerm, RO 48 (x_2.Log.Entries.map encEntry), VI x_2.Commit, VI x_2.Clock, VI x_2.Limit, RO 3 (x_2.Votes.map encI), RO 172 (x_2.Peers.map encPeer)])] := by
  unfold slices_IndexFunc_int_i1 at h
  refine Says.of_run s158 Try.call158 rfl fun B hB => ?_
  have hm : B.m ≤ 1000 := by omega
  refine Run.seq ?_
  refine Run.ops hm ?_
  refine Ops.p rfl ?_
  refine Ops.nil ?_
  refine Run.seqO h (fun (v_191 : Unit) => []) (fun (v_191 : Unit) => [(0, .vec 3 (x_1.map encI)), (1, .box [VI x_2.Id, VI x_2.Term, VI x_2.Vote, VI x_2.Role, VI x_2.Lead, RO 3 (x_2.Conf.map encI), VI x_2.Log.Start, VI x_2.Log.StartTerm, RO 48 (x_2.Log.Entries.map encEntry), VI x_2.Commit, VI x_2.Clock, VI x_2.Limit, RO 3 (x_2.Votes.map encI), RO 172 (x_2.Peers.map encPeer)])]) (fun h => ?_) (fun v_191 h => ?_)
  · skip
    refine Run.seq ?_
    refine Run.ops hm ?_
    refine Ops.p rfl ?_
    refine Ops.p rfl ?_
    refine Ops.p rfl ?_
    refine Ops.nil ?_
    refine Run.block ?_
    obtain ⟨res_215, h, hk_215⟩ := bindO h
    refine Run.loop (n := N) (fun m_215 fr σ => ∃ (x_193 : Int), slices_IndexFunc_int_i1_l1 N x_1 x_2 m_215 x_193 = some res_215 ∧ fr = [(0, .sl 0 3 0 x_1.length), (1, .fn 151 [.ptr 1 0]), (7, VI ((x_1.length : Nat) : Int)), (8, VI x_193)] ∧ σ = [(0, .vec 3 (x_1.map encI)), (1, .box [VI x_2.Id, VI x_2.Term, VI x_2.Vote, VI x_2.Role, VI x_2.Lead, RO 3 (x_2.Conf.map encI), VI x_2.Log.Start, VI x_2.Log.StartTerm, RO 48 (x_2.Log.Entries.map encEntry), VI x_2.Commit, VI x_2.Clock, VI x_2.Limit, RO 3 (x_2.Votes.map encI), RO 172 (x_2.Peers.map encPeer)])]) (gh_pk [0, 1, 7, 8] [0, 1] hB rfl rfl rfl rfl) ⟨_, h, rfl, rfl⟩ ?_
    rintro m_215 fr σ ⟨x_193, h, rfl, rfl⟩
    obtain _ | m_215 := m_215
    · rw [slices_IndexFunc_int_i1_l1] at h; cases h
    rw [slices_IndexFunc_int_i1_l1] at h
    refine Run.seq ?_
    refine Run.ops hm ?_
    refine Ops.p rfl ?_
    refine Ops.nil ?_
    refine Run.seq ?_
    refine Run.condO rfl h (fun g_218 h => ?_) (fun g_218 h => ?_)
    · skip
      refine Run.skip ?_
      refine Run.seq ?_
      refine Run.block ?_
      refine Run.seq ?_
      refine Run.ops hm ?_
      refine Ops.p rfl ?_
      refine Ops.p rfl ?_
      refine Ops.nil ?_
      refine Run.seq ?_
      refine Run.ops hm ?_
      refine Ops.p rfl ?_
      refine Ops.p rfl ?_
      refine Ops.p rfl ?_
      obtain ⟨x_219, hx_219, h⟩ := bindO h
      refine Ops.st (s := 17432) (Ev.iaW rfl rfl rfl hx_219) rfl rfl ?_
      refine Ops.st (s := 17448) (Ev.ldE (f := encI) rfl rfl (at_some hx_219).2 rfl rfl rfl) rfl rfl ?_
      obtain ⟨y_220, hy_220, h⟩ := bindO h
      refine Ops.st (s := 17464) (Ev.callx [1] [] 0 rfl (sem_impl_othersOf_1 N x_219 x_2 _ hy_220) rfl rfl (.cons (.c _) (.cons (.ptr rfl) .nil)) rfl (.inl rfl) rfl rfl) rfl rfl ?_
      refine Ops.nil ?_
      refine Run.condO rfl h (fun g_221 h => ?_) (fun g_221 h => ?_)
      · skip
        refine Run.seq ?_
        refine Run.ops hm ?_
        refine Ops.p rfl ?_
        refine Ops.p rfl ?_
        refine Ops.nil ?_
        refine Run.ret ?_
        obtain rfl := someO h
        have h := hk_215
        replace h := inlO h
        obtain rfl := someO h
        exact Ends.mkG (.inl rfl) rfl (gh_pk [0] [0, 1] hB rfl rfl rfl rfl) rfl rfl
      · skip
        refine Run.skip ?_
        refine Run.ops hm ?_
        refine Ops.p rfl ?_
        refine Ops.p rfl ?_
        refine Ops.nil ?_
        exact ⟨m_215, Nat.lt_succ_self m_215, _, _, (gh_pk [0, 1, 7, 8] [0, 1] hB rfl rfl rfl rfl), _, h, rfl, rfl⟩
    · skip
      refine Run.exit ?_
      obtain rfl := someO h
      have h := hk_215
      replace h := inrO h
      exact ⟨_, _, (gh_pk [] [0, 1] hB rfl rfl rfl rfl), (), h, rfl, rfl⟩
  · skip
    refine Run.seq ?_
    refine Run.ops hm ?_
    refine Ops.p rfl ?_
    refine Ops.nil ?_
    refine Run.ret ?_
    obtain rfl := someO h
    exact Ends.mkG (.inl rfl) rfl (gh_pk [0] [0, 1] hB rfl rfl rfl rfl) rfl rfl
def slices_DeleteFunc_int_l1 (N : Nat) (x_2 : Node) : Nat → Int → Int → (List Int) → Option (Int × (List Int))
 | 0, _, _, _ => none
 | m + 1, x_262, x_263, x_264 =>
 (if (decide (x_263 < ((x_264.length : Nat) : Int))) = true then
 joinP (fun (v_304 : Int × (List Int)) =>
 slices_DeleteFunc_int_l1 N x_2 m v_304.1 (w64 (x_263 + (1 : Int))) v_304.2) fun j_304 =>
 (at? x_264 x_263).bind fun x_306 =>
 (impl_othersOf_1 N x_306 x_2).bind fun y_307 =>
 (if (!y_307) = true then
 (at? x_264 x_262).bind fun x_310 =>
 j_304 (w64 (x_262 + (1 : Int)), (x_264.set x_262.toNat x_306))
 else
 j_304 (x_262, x_264))
 else
 some (x_262, x_264))
def slices_DeleteFunc_int (N : Nat) (x_1 : (List Int)) (x_2 : Node) : Option (Nat × (List Int)) :=
 (slices_IndexFunc_int_i1 N x_1 x_2).bind fun y_209 =>
 (if (y_209 == (-1 : Int)) = true then
 some (x_1.length, x_1)
 else
 joinP (fun (v_261 : Int × (List Int)) =>
 (drop? v_261.2 v_261.1).bind fun x_313 =>
 (clr? (0 : Int) v_261.2 v_261.1.toNat (v_261.2.length - v_261.1.toNat)).bind fun x_314 =>
 (take? x_314 v_261.1).bind fun x_315 =>
 some (v_261.1.toNat, x_314)) fun j_261 =>
 (slices_DeleteFunc_int_l1 N x_2 N y_209 (w64 (y_209 + (1 : Int))) x_1).bind (fun (v_294 : Int × (List Int)) => j_261 (v_294.1, v_294.2)))
theorem sem_slices_DeleteFunc_int (N : Nat) (x_1 : (List Int)) (x_2 : Node) (r : Nat × (List Int)) (h : slices_DeleteFunc_int N x_1 x_2 = some r) : Says Try.prog 150 [.sl 0 3 0 x_1.length, .fn 151 [.ptr 1 0]] 2 [(0, .vec 3 (x_1.map encI)), (1, .box [VI x_2.Id, VI x_2.Term, VI x_2.Vote, VI x_2.Role, VI x_2.Lead, RO 3 (x_2.Conf.map encI), VI x_2.Log.Start, VI x_2.Log.StartTerm, RO 48 (x_2.Log.Entries.map encEntry), VI x_2.Commit, VI x_2.Clock, VI x_2.Limit, RO 3 (x_2.Votes.map encI), RO 172 (x_2.Peers.map encPeer)])] (.sl 0 3 0 r.1) [(0, .vec 3 (r.2.map encI)), (1, .box [VI x_2.Id, VI x_2.Term, VI x_2.Vote, VI x_2.Role, VI x_2.Lead, RO 3 (x_2.Conf.map encI), VI x_2.Log.Start, VI x_2.Log.StartTerm, RO 48 (x_2.Log.Entries.map encEntry), VI x_2.Commit, VI x_2.Clock, VI x_2.Limit, RO 3 (x_2.Votes.map encI), RO 172 (x_2.Peers.map encPeer)])] := by
  unfold slices_DeleteFunc_int at h
  refine Says.of_run s150 Try.call150 rfl fun B hB => ?_
  have hm : B.m ≤ 1000 := by omega
  refine Run.seq ?_
  refine Run.ops hm ?_
  refine Ops.p rfl ?_
  refine Ops.nil ?_
  refine Run.seq ?_
  refine Run.ops hm ?_
  refine Ops.p rfl ?_
  refine Ops.p rfl ?_
  obtain ⟨y_209, hy_209, h⟩ := bindO h
  refine Ops.st (s := 5128) (Ev.call [0, 1] [] 0 (sem_slices_IndexFunc_int_i1 N x_1 x_2 _ hy_209) rfl rfl (.cons (.sl rfl) (.cons (.fn (.cons (.ptr rfl) .nil)) .nil)) rfl (.inl rfl) rfl rfl) rfl rfl ?_
  refine Ops.p rfl ?_
  refine Ops.nil ?_
  refine Run.seq ?_
  refine Run.seq ?_
  refine Run.ops hm ?_
  refine Ops.p rfl ?_
  refine Ops.p rfl ?_
  refine Ops.nil ?_
  refine Run.condO rfl h (fun g_211 h => ?_) (fun g_211 h => ?_)
  · skip
    refine Run.seq ?_
    refine Run.ops hm ?_
    refine Ops.p rfl ?_
    refine Ops.p rfl ?_
    refine Ops.nil ?_
    refine Run.ret ?_
    obtain rfl := someO h
    exact Ends.mkG (.inl rfl) rfl (gh_pk [0] [0, 1] hB rfl rfl rfl rfl) rfl rfl
  · skip
    refine Run.skip ?_
    refine Run.seqO h (fun (v_261 : Int × (List Int)) => [(0, .sl 0 3 0 v_261.2.length), (5, VI v_261.1)]) (fun (v_261 : Int × (List Int)) => [(0, .vec 3 (v_261.2.map encI)), (1, .box [VI x_2.Id, VI x_2.Term, VI x_2.Vote, VI x_2.Role, VI x_2.Lead, RO 3 (x_2.Conf.map encI), VI x_2.Log.Start, VI x_2.Log.StartTerm, RO 48 (x_2.Log.Entries.map encEntry), VI x_2.Commit, VI x_2.Clock, VI x_2.Limit, RO 3 (x_2.Votes.map encI), RO 172 (x_2.Peers.map encPeer)])]) (fun h => ?_) (fun v_261 h => ?_)
    · skip
      refine Run.seq ?_
      refine Run.ops hm ?_
      refine Ops.p rfl ?_
      refine Ops.p rfl ?_
      refine Ops.p rfl ?_
      refine Ops.nil ?_
      refine Run.block ?_
      obtain ⟨res_294, h, hk_294⟩ := bindO h
      refine Run.loop (n := N) (fun m_294 fr σ => ∃ (x_262 : Int), ∃ (x_263 : Int), ∃ (x_264 : (List Int)), slices_DeleteFunc_int_l1 N x_2 m_294 x_262 x_263 x_264 = some res_294 ∧ fr = [(0, .sl 0 3 0 x_264.length), (1, .fn 151 [.ptr 1 0]), (5, VI x_262), (6, VI x_263)] ∧ σ = [(0, .vec 3 (x_264.map encI)), (1, .box [VI x_2.Id, VI x_2.Term, VI x_2.Vote, VI x_2.Role, VI x_2.Lead, RO 3 (x_2.Conf.map encI), VI x_2.Log.Start, VI x_2.Log.StartTerm, RO 48 (x_2.Log.Entries.map encEntry), VI x_2.Commit, VI x_2.Clock, VI x_2.Limit, RO 3 (x_2.Votes.map encI), RO 172 (x_2.Peers.map encPeer)])]) (gh_pk [0, 1, 5, 6] [0, 1] hB rfl rfl rfl rfl) ⟨_, _, _, h, rfl, rfl⟩ ?_
      rintro m_294 fr σ ⟨x_262, x_263, x_264, h, rfl, rfl⟩
      obtain _ | m_294 := m_294
      · rw [slices_DeleteFunc_int_l1] at h; cases h
      rw [slices_DeleteFunc_int_l1] at h
      refine Run.seq ?_
      refine Run.seq ?_
      refine Run.ops hm ?_
      refine Ops.p rfl ?_
      refine Ops.p rfl ?_
      refine Ops.p rfl ?_
      refine Ops.p rfl ?_
      refine Ops.nil ?_
      refine Run.condO rfl h (fun g_297 h => ?_) (fun g_297 h => ?_)
      · skip
        refine Run.skip ?_
        refine Run.seqO h (fun (v_304 : Int × (List Int)) => [(0, .sl 0 3 0 v_304.2.length), (1, .fn 151 [.ptr 1 0]), (5, VI v_304.1), (6, VI x_263)]) (fun (v_304 : Int × (List Int)) => [(0, .vec 3 (v_304.2.map encI)), (1, .box [VI x_2.Id, VI x_2.Term, VI x_2.Vote, VI x_2.Role, VI x_2.Lead, RO 3 (x_2.Conf.map encI), VI x_2.Log.Start, VI x_2.Log.StartTerm, RO 48 (x_2.Log.Entries.map encEntry), VI x_2.Commit, VI x_2.Clock, VI x_2.Limit, RO 3 (x_2.Votes.map encI), RO 172 (x_2.Peers.map encPeer)])]) (fun h => ?_) (fun v_304 h => ?_)
        · skip
          refine Run.block ?_
          refine Run.seq ?_
          refine Run.ops hm ?_
          refine Ops.p rfl ?_
          refine Ops.p rfl ?_
          obtain ⟨x_306, hx_306, h⟩ := bindO h
          refine Ops.st (s := 29704) (Ev.iaW rfl rfl rfl hx_306) rfl rfl ?_
          refine Ops.st (s := 29720) (Ev.ldE (f := encI) rfl rfl (at_some hx_306).2 rfl rfl rfl) rfl rfl ?_
          refine Ops.p rfl ?_
          refine Ops.nil ?_
          refine Run.seq ?_
          refine Run.ops hm ?_
          refine Ops.p rfl ?_
          refine Ops.p rfl ?_
          obtain ⟨y_307, hy_307, h⟩ := bindO h
          refine Ops.st (s := 33800) (Ev.callx [1] [] 0 rfl (sem_impl_othersOf_1 N x_306 x_2 _ hy_307) rfl rfl (.cons (.c _) (.cons (.ptr rfl) .nil)) rfl (.inl rfl) rfl rfl) rfl rfl ?_
          refine Ops.p rfl ?_
          refine Ops.nil ?_
          refine Run.condO rfl h (fun g_308 h => ?_) (fun g_308 h => ?_)
          · skip
            refine Run.seq ?_
            refine Run.ops hm ?_
            refine Ops.p rfl ?_
            refine Ops.p rfl ?_
            refine Ops.p rfl ?_
            obtain ⟨x_310, hx_310, h⟩ := bindO h
            refine Ops.st (s := 37912) (Ev.iaW rfl rfl rfl hx_310) rfl rfl ?_
            refine Ops.s0 (s := 37928) (Ev.stE (f := encI) (v' := x_306) rfl rfl (at_some hx_310).2 rfl (.cons (.c _) .nil) rfl rfl rfl rfl rfl) rfl rfl ?_
            refine Ops.nil ?_
            refine Run.ops hm ?_
            refine Ops.p rfl ?_
            refine Ops.p rfl ?_
            refine Ops.p rfl ?_
            refine Ops.nil ?_
            exact ⟨_, _, (gh_pk [0, 1, 5, 6] [0, 1] hB rfl rfl (by first | rfl | (simp only [List.length_set]; done) | (simp only [List.length_set]; rfl)) (by first | rfl | (simp only [List.length_set]; done) | (simp only [List.length_set]; rfl))), (w64 (x_262 + (1 : Int)), (x_264.set x_262.toNat x_306)), h, rfl, rfl⟩
          · skip
            refine Run.skip ?_
            exact ⟨_, _, (gh_pk [0, 1, 5, 6] [0, 1] hB rfl rfl rfl rfl), (x_262, x_264), h, rfl, rfl⟩
        · skip
          refine Run.ops hm ?_
          refine Ops.p rfl ?_
          refine Ops.p rfl ?_
          refine Ops.p rfl ?_
          refine Ops.nil ?_
          exact ⟨m_294, Nat.lt_succ_self m_294, _, _, (gh_pk [0, 1, 5, 6] [0, 1] hB rfl rfl rfl rfl), _, _, _, h, rfl, rfl⟩
      · skip
        refine Run.exit ?_
        obtain rfl := someO h
        have h := hk_294
        exact ⟨_, _, (gh_pk [0, 5] [0, 1] hB rfl rfl rfl rfl), (x_262, x_264), h, rfl, rfl⟩
    · skip
      refine Run.seq ?_
      refine Run.ops hm ?_
      refine Ops.p rfl ?_
      refine Ops.p rfl ?_
      obtain ⟨x_313, hx_313, h⟩ := bindO h
      refine Ops.st (s := 46088) (Ev.slWl (xs := v_261.2) rfl rfl rfl hx_313) rfl rfl ?_
      obtain ⟨x_314, hx_314, h⟩ := bindO h
      refine Ops.s0 (s := 46104) (Ev.clrW (f := encI) (zv := (0 : Int)) rfl rfl rfl hx_314) rfl rfl ?_
      refine Ops.nil ?_
      refine Run.seq ?_
      refine Run.ops hm ?_
      refine Ops.p rfl ?_
      refine Ops.p rfl ?_
      obtain ⟨x_315, hx_315, h⟩ := bindO h
      refine Ops.st (s := 50184) (Ev.slWh (xs := x_314) rfl (clr_len hx_314) rfl hx_315) rfl rfl ?_
      refine Ops.p rfl ?_
      refine Ops.nil ?_
      refine Run.ret ?_
      obtain rfl := someO h
      exact Ends.mkG (.inl rfl) rfl (gh_pk [0] [0, 1] hB rfl rfl rfl rfl) (by first | rfl | (simp only [List.length_set, (clr_len hx_314)]; done) | (simp only [List.length_set, (clr_len hx_314)]; rfl)) (by first | rfl | (simp only [List.length_set, (clr_len hx_314)]; done) | (simp only [List.length_set, (clr_len hx_314)]; rfl))
def impl_othersOf (N : Nat) (x_1 : Node) : Option (Nat × (List Int)) :=
 (impl_ConfOf N x_1).bind fun y_103 =>
 (slices_DeleteFunc_int N y_103 x_1).bind fun y_104 =>
 (len? y_103 y_104.2).bind fun y_105 =>
 some (y_104.1, y_104.2)
theorem sem_impl_othersOf (N : Nat) (x_1 : Node) (r : Nat × (List Int)) (h : impl_othersOf N x_1 = some r) : Says Try.prog 121 [.agg [VI x_1.Id, VI x_1.Term, VI x_1.Vote, VI x_1.Role, VI x_1.Lead, RO 3 (x_1.Conf.map encI), VI x_1.Log.Start, VI x_1.Log.StartTerm, RO 48 (x_1.Log.Entries.map encEntry), VI x_1.Commit, VI x_1.Clock, VI x_1.Limit, RO 3 (x_1.Votes.map encI), RO 172 (x_1.Peers.map encPeer)]] 0 [] (.sl 0 3 0 r.1) [(0, .vec 3 (r.2.map encI))] := by
  unfold impl_othersOf at h
  refine Says.of_run s121 Try.call121 rfl fun B hB => ?_
  have hm : B.m ≤ 1000 := by omega
  refine Run.seq ?_
  refine Run.ops hm ?_
  refine Ops.st (s := 1000) (.bx rfl rfl) rfl rfl ?_
  refine Ops.p rfl ?_
  refine Ops.nil ?_
  refine Run.seq ?_
  refine Run.ops hm ?_
  refine Ops.p rfl ?_
  obtain ⟨y_103, hy_103, h⟩ := bindO h
  refine Ops.st (s := 5112) (Ev.call [] [] 1 (sem_impl_ConfOf N x_1 _ hy_103) rfl rfl (.cons (.agg (.cons (.c _) (.cons (.c _) (.cons (.c _) (.cons (.c _) (.cons (.c _) (.cons (.c _) (.cons (.c _) (.cons (.c _) (.cons (.c _) (.cons (.c _) (.cons (.c _) (.cons (.c _) (.cons (.c _) (.cons (.c _) .nil))))))))))))))) .nil) rfl (.inl rfl) rfl rfl) rfl rfl ?_
  refine Ops.p rfl ?_
  obtain ⟨y_104, hy_104, h⟩ := bindO h
  obtain ⟨y_105, hy_105, h⟩ := bindO h
  refine Ops.st (s := 5144) (Ev.call [5112, 1000] [] 0 (sem_slices_DeleteFunc_int N y_103 x_1 _ hy_104) rfl rfl (.cons (.sl rfl) (.cons (.fn (.cons (.ptr rfl) .nil)) .nil)) rfl (.inl rfl) rfl rfl) rfl rfl ?_
  refine Ops.p rfl ?_
  refine Ops.nil ?_
  refine Run.ret ?_
  obtain rfl := someO h
  exact Ends.mkG (.inl rfl) rfl (gh_pk [0] [5112] hB rfl rfl rfl rfl) (by first | rfl | (simp only [List.length_set, (len_some hy_105)]; done) | (simp only [List.length_set, (len_some hy_105)]; rfl)) (by first | rfl | (simp only [List.length_set, (len_some hy_105)]; done) | (simp only [List.length_set, (len_some hy_105)]; rfl))
def slices_Equal_int_l1 (N : Nat) (x_1 : (List Int)) (x_2 : (List Int)) : Nat → Int → Option ((Bool) ⊕ (Unit))
 | 0, _ => none
 | m + 1, x_160 =>
 (if (decide (x_160 < (x_1.length : Int))) = true then
 (at? x_1 x_160).bind fun x_171 =>
 (at? x_2 x_160).bind fun x_172 =>
 (if (x_171 != x_172) = true then
 some (Sum.inl false)
 else
 slices_Equal_int_l1 N x_1 x_2 m (w64 (x_160 + (1 : Int))))
 else
 some (Sum.inr ()))
def slices_Equal_int_l1_r (N : Nat) (x_1 : (List Int)) (x_2 : (List Int)) : (List Int) → Int → Option ((Bool) ⊕ (Unit))
 | [], x_160 =>
 some (Sum.inr ())
 | hd :: tl, x_160 =>
 (some hd).bind fun x_171 =>
 (at? x_2 x_160).bind fun x_172 =>
 (if (x_171 != x_172) = true then
 some (Sum.inl false)
 else
 slices_Equal_int_l1_r N x_1 x_2 tl (w64 (x_160 + (1 : Int))))
theorem slices_Equal_int_l1_rng (N : Nat) (x_1 : (List Int)) (x_2 : (List Int)) (hx : x_1.length ≤ 1099511627776) : ∀ (d k m : Nat), x_1.length = k + d → d < m → slices_Equal_int_l1 N x_1 x_2 m (k : Int) = slices_Equal_int_l1_r N x_1 x_2 (x_1.drop k) (k : Int) := by
  intro d
  induction d with
  | zero =>
    intro k m hd hm
    obtain ⟨m, rfl⟩ : ∃ q, m = q + 1 := ⟨m - 1, by omega⟩
    rw [slices_Equal_int_l1, if_neg (by simp; omega), List.drop_eq_nil_of_le (by omega), slices_Equal_int_l1_r]
  | succ d ih =>
    intro k m hd hm
    obtain ⟨m, rfl⟩ : ∃ q, m = q + 1 := ⟨m - 1, by omega⟩
    have hk : k < x_1.length := by omega
    rw [slices_Equal_int_l1, if_pos (by simp; omega), List.drop_eq_getElem_cons hk, slices_Equal_int_l1_r]
    have h1 := at_lt hk
    have h2 := w64_succ (k := k) (by omega)
    have h3 := ih (k + 1) m
    simp only [h1, h2, h3 (by omega) (by omega)]
theorem slices_Equal_int_l1_eq {N : Nat} (x_1 : (List Int)) (x_2 : (List Int)) (hx : x_1.length ≤ 1099511627776) (hN : x_1.length < N) : slices_Equal_int_l1 N x_1 x_2 N 0 = slices_Equal_int_l1_r N x_1 x_2 x_1 0 := slices_Equal_int_l1_rng N x_1 x_2 hx x_1.length 0 N (by omega) hN
def slices_Equal_int (N : Nat) (x_1 : (List Int)) (x_2 : (List Int)) : Option (Bool) :=
 (if ((x_1.length : Int) != (x_2.length : Int)) = true then
 some false
 else
 joinP (fun (v_156 : Unit) =>
 some true) fun j_156 =>
 (slices_Equal_int_l1 N x_1 x_2 N (0 : Int)).bind (Sum.elim (fun v_166 => some v_166) (fun (v_167 : Unit) => j_156 ())))
theorem sem_slices_Equal_int (N : Nat) (x_1 : (List Int)) (x_2 : (List Int)) (r : Bool) (h : slices_Equal_int N x_1 x_2 = some r) : Says Try.prog 155 [RO 3 (x_1.map encI), RO 3 (x_2.map encI)] 0 [] (VB r) [] := by
  unfold slices_Equal_int at h
  refine Says.of_run s155 Try.call155 rfl fun B hB => ?_
  have hm : B.m ≤ 1000 := by omega
  refine Run.seq ?_
  refine Run.ops hm ?_
  refine Ops.p rfl ?_
  refine Ops.nil ?_
  refine Run.seq ?_
  refine Run.seq ?_
  refine Run.ops hm ?_
  refine Ops.p rfl ?_
  refine Ops.st (s := 5112) (Ev.lnF rfl) rfl rfl ?_
  refine Ops.p rfl ?_
  refine Ops.st (s := 5144) (Ev.lnF rfl) rfl rfl ?_
  refine Ops.p rfl ?_
  refine Ops.nil ?_
  refine Run.condO rfl h (fun g_138 h => ?_) (fun g_138 h => ?_)
  · skip
    refine Run.seq ?_
    refine Run.ops hm ?_
    refine Ops.p rfl ?_
    refine Ops.nil ?_
    refine Run.ret ?_
    obtain rfl := someO h
    exact Ends.mkG (.inl rfl) rfl (gh_pk [0] [] hB rfl rfl rfl rfl) rfl rfl
  · skip
    refine Run.skip ?_
    refine Run.seqO h (fun (v_156 : Unit) => []) (fun (v_156 : Unit) => []) (fun h => ?_) (fun v_156 h => ?_)
    · skip
      refine Run.seq ?_
      refine Run.ops hm ?_
      refine Ops.p rfl ?_
      refine Ops.st (s := 13304) (Ev.lnF rfl) rfl rfl ?_
      refine Ops.p rfl ?_
      refine Ops.nil ?_
      refine Run.block ?_
      obtain ⟨res_167, h, hk_167⟩ := bindO h
      refine Run.loop (n := N) (fun m_167 fr σ => ∃ (x_160 : Int), slices_Equal_int_l1 N x_1 x_2 m_167 x_160 = some res_167 ∧ fr = [(0, RO 3 (x_1.map encI)), (1, RO 3 (x_2.map encI)), (12, VI (x_1.length : Int)), (13, VI x_160)] ∧ σ = []) (gh_pk [0, 1, 12, 13] [] hB rfl rfl rfl rfl) ⟨_, h, rfl, rfl⟩ ?_
      rintro m_167 fr σ ⟨x_160, h, rfl, rfl⟩
      obtain _ | m_167 := m_167
      · rw [slices_Equal_int_l1] at h; cases h
      rw [slices_Equal_int_l1] at h
      refine Run.seq ?_
      refine Run.ops hm ?_
      refine Ops.p rfl ?_
      refine Ops.nil ?_
      refine Run.seq ?_
      refine Run.condO rfl h (fun g_170 h => ?_) (fun g_170 h => ?_)
      · skip
        refine Run.skip ?_
        refine Run.seq ?_
        refine Run.block ?_
        refine Run.seq ?_
        refine Run.ops hm ?_
        refine Ops.p rfl ?_
        refine Ops.p rfl ?_
        refine Ops.nil ?_
        refine Run.seq ?_
        refine Run.draw hm hmix ?_
        refine OpsD.p rfl ?_
        refine OpsD.p rfl ?_
        obtain ⟨x_171, hx_171, h⟩ := bindO h
        refine OpsD.st (s := 25608) (Ev.iaF rfl rfl hx_171) rfl rfl ?_
        refine OpsD.p rfl ?_
        refine OpsD.p rfl ?_
        refine OpsD.p rfl ?_
        obtain ⟨x_172, hx_172, h⟩ := bindO h
        refine OpsD.st (s := 25672) (Ev.iaF rfl rfl hx_172) rfl rfl ?_
        refine OpsD.p rfl ?_
        refine OpsD.p rfl ?_
        refine OpsD.nil ⟨by kernel_rfl, ?_⟩
        refine Run.condO rfl h (fun g_173 h => ?_) (fun g_173 h => ?_)
        · skip
          refine Run.seq ?_
          refine Run.ops hm ?_
          refine Ops.p rfl ?_
          refine Ops.nil ?_
          refine Run.ret ?_
          obtain rfl := someO h
          have h := hk_167
          replace h := inlO h
          obtain rfl := someO h
          exact Ends.mkG (.inl rfl) rfl (gh_pk [0] [] hB rfl rfl rfl rfl) rfl rfl
        · skip
          refine Run.skip ?_
          refine Run.ops hm ?_
          refine Ops.p rfl ?_
          refine Ops.p rfl ?_
          refine Ops.nil ?_
          exact ⟨m_167, Nat.lt_succ_self m_167, _, _, (gh_pk [0, 1, 12, 13] [] hB rfl rfl rfl rfl), _, h, rfl, rfl⟩
      · skip
        refine Run.exit ?_
        obtain rfl := someO h
        have h := hk_167
        replace h := inrO h
        exact ⟨_, _, (gh_pk [] [] hB rfl rfl rfl rfl), (), h, rfl, rfl⟩
    · skip
      refine Run.seq ?_
      refine Run.ops hm ?_
      refine Ops.p rfl ?_
      refine Ops.nil ?_
      refine Run.ret ?_
      obtain rfl := someO h
      exact Ends.mkG (.inl rfl) rfl (gh_pk [0] [] hB rfl rfl rfl rfl) rfl rfl
def impl_peersOk_l1 (N : Nat) (x_1 : Node) : Nat → Int → (List Int) → Option ((Bool) ⊕ ((List Int)))
 | 0, _, _ => none
 | m + 1, x_247, x_262 =>
 (if (decide (x_247 < (x_1.Peers.length : Int))) = true then
 (at? x_1.Peers x_247).bind fun x_282 =>
 (cat? x_262 ([x_282.Id] : List Int)).bind fun x_284 =>
 (impl_last N x_1.Log).bind fun y_285 =>
 (impl_within N x_282.Next (1 : Int) (w64 (y_285 + (1 : Int)))).bind fun y_286 =>
 (if (!y_286) = true then
 some (Sum.inl false)
 else
 (impl_within N x_282.Match (0 : Int) (w64 (x_282.Next - (1 : Int)))).bind fun y_288 =>
 (if (!y_288) = true then
 some (Sum.inl false)
 else
 (impl_within N x_282.Sent (0 : Int) (20000 : Int)).bind fun y_290 =>
 (if (!y_290) = true then
 some (Sum.inl false)
 else
 impl_peersOk_l1 N x_1 m (w64 (x_247 + (1 : Int))) x_284)))
 else
 some (Sum.inr x_262))
def impl_peersOk_l1_r (N : Nat) (x_1 : Node) : (List Peer) → Int → (List Int) → Option ((Bool) ⊕ ((List Int)))
 | [], x_247, x_262 =>
 some (Sum.inr x_262)
 | hd :: tl, x_247, x_262 =>
 (some hd).bind fun x_282 =>
 (cat? x_262 ([x_282.Id] : List Int)).bind fun x_284 =>
 (impl_last N x_1.Log).bind fun y_285 =>
 (impl_within N x_282.Next (1 : Int) (w64 (y_285 + (1 : Int)))).bind fun y_286 =>
 (if (!y_286) = true then
 some (Sum.inl false)
 else
 (impl_within N x_282.Match (0 : Int) (w64 (x_282.Next - (1 : Int)))).bind fun y_288 =>
 (if (!y_288) = true then
 some (Sum.inl false)
 else
 (impl_within N x_282.Sent (0 : Int) (20000 : Int)).bind fun y_290 =>
 (if (!y_290) = true then
 some (Sum.inl false)
 else
 impl_peersOk_l1_r N x_1 tl (w64 (x_247 + (1 : Int))) x_284)))
theorem impl_peersOk_l1_rng (N : Nat) (x_1 : Node) (hx : x_1.Peers.length ≤ 1099511627776) : ∀ (d k m : Nat) (x_262 : (List Int)), x_1.Peers.length = k + d → d < m → impl_peersOk_l1 N x_1 m (k : Int) x_262 = impl_peersOk_l1_r N x_1 (x_1.Peers.drop k) (k : Int) x_262 := by
  intro d
  induction d with
  | zero =>
    intro k m x_262 hd hm
    obtain ⟨m, rfl⟩ : ∃ q, m = q + 1 := ⟨m - 1, by omega⟩
    rw [impl_peersOk_l1, if_neg (by simp; omega), List.drop_eq_nil_of_le (by omega), impl_peersOk_l1_r]
  | succ d ih =>
    intro k m x_262 hd hm
    obtain ⟨m, rfl⟩ : ∃ q, m = q + 1 := ⟨m - 1, by omega⟩
    have hk : k < x_1.Peers.length := by omega
    rw [impl_peersOk_l1, if_pos (by simp; omega), List.drop_eq_getElem_cons hk, impl_peersOk_l1_r]
    have h1 := at_lt hk
    have h2 := w64_succ (k := k) (by omega)
    have h3 := ih (k + 1) m
    simp only [h1, h2, h3 _ (by omega) (by omega)]
theorem impl_peersOk_l1_eq {N : Nat} (x_1 : Node) (hx : x_1.Peers.length ≤ 1099511627776) (hN : x_1.Peers.length < N) (x_262 : (List Int)) : impl_peersOk_l1 N x_1 N 0 x_262 = impl_peersOk_l1_r N x_1 x_1.Peers 0 x_262 := impl_peersOk_l1_rng N x_1 hx x_1.Peers.length 0 N x_262 (by omega) hN
def impl_peersOk (N : Nat) (x_1 : Node) : Option (Bool) :=
 joinP (fun (v_244 : (List Int)) =>
 (impl_othersOf N x_1).bind fun y_292 =>
 (slices_Equal_int N v_244 (y_292.2.take y_292.1)).bind fun y_293 =>
 some y_293) fun j_244 =>
 (impl_peersOk_l1 N x_1 N (0 : Int) ([] : (List Int))).bind (Sum.elim (fun v_276 => some v_276) (fun (v_277 : (List Int)) => j_244 v_277))
theorem sem_impl_peersOk (N : Nat) (x_1 : Node) (r : Bool) (h : impl_peersOk N x_1 = some r) : Says Try.prog 129 [.agg [VI x_1.Id, VI x_1.Term, VI x_1.Vote, VI x_1.Role, VI x_1.Lead, RO 3 (x_1.Conf.map encI), VI x_1.Log.Start, VI x_1.Log.StartTerm, RO 48 (x_1.Log.Entries.map encEntry), VI x_1.Commit, VI x_1.Clock, VI x_1.Limit, RO 3 (x_1.Votes.map encI), RO 172 (x_1.Peers.map encPeer)]] 0 [] (VB r) [] := by
  unfold impl_peersOk at h
  refine Says.of_run s129 Try.call129 rfl fun B hB => ?_
  have hm : B.m ≤ 1000 := by omega
  refine Run.seq ?_
  refine Run.ops hm ?_
  refine Ops.st (s := 1000) (.bx rfl rfl) rfl rfl ?_
  refine Ops.p rfl ?_
  refine Ops.nil ?_
  refine Run.seq ?_
  refine Run.ops hm ?_
  refine Ops.p rfl ?_
  refine Ops.nil ?_
  refine Run.seqO h (fun (v_244 : (List Int)) => [(1, .ptr 0 0), (3, .sl 1 3 0 v_244.length)]) (fun (v_244 : (List Int)) => [(0, .box [VI x_1.Id, VI x_1.Term, VI x_1.Vote, VI x_1.Role, VI x_1.Lead, RO 3 (x_1.Conf.map encI), VI x_1.Log.Start, VI x_1.Log.StartTerm, RO 48 (x_1.Log.Entries.map encEntry), VI x_1.Commit, VI x_1.Clock, VI x_1.Limit, RO 3 (x_1.Votes.map encI), RO 172 (x_1.Peers.map encPeer)]), (1, .vec 3 (v_244.map encI))]) (fun h => ?_) (fun v_244 h => ?_)
  · skip
    refine Run.seq ?_
    refine Run.ops hm ?_
    refine Ops.p rfl ?_
    refine Ops.p rfl ?_
    refine Ops.st (s := 9224) (Ev.lnF rfl) rfl rfl ?_
    refine Ops.p rfl ?_
    refine Ops.nil ?_
    refine Run.block ?_
    obtain ⟨res_277, h, hk_277⟩ := bindO h
    refine Run.loop (n := N) (fun m_277 fr σ => ∃ (x_247 : Int), ∃ (x_262 : (List Int)), impl_peersOk_l1 N x_1 m_277 x_247 x_262 = some res_277 ∧ fr = [(1, .ptr 0 0), (3, .sl 1 3 0 x_262.length), (7, RO 172 (x_1.Peers.map encPeer)), (8, VI (x_1.Peers.length : Int)), (9, VI x_247)] ∧ σ = [(0, .box [VI x_1.Id, VI x_1.Term, VI x_1.Vote, VI x_1.Role, VI x_1.Lead, RO 3 (x_1.Conf.map encI), VI x_1.Log.Start, VI x_1.Log.StartTerm, RO 48 (x_1.Log.Entries.map encEntry), VI x_1.Commit, VI x_1.Clock, VI x_1.Limit, RO 3 (x_1.Votes.map encI), RO 172 (x_1.Peers.map encPeer)]), (1, .vec 3 (x_262.map encI))]) (Gh.trans (Gh.trans (gh_prn [1, 3, 7, 8, 9] [1000] hB rfl) (gh_nil [3] [] hB rfl rfl rfl)) (gh_pk [1, 3, 7, 8, 9] [1000, 10000000] hB rfl rfl rfl rfl)) ⟨_, _, h, rfl, rfl⟩ ?_
    rintro m_277 fr σ ⟨x_247, x_262, h, rfl, rfl⟩
    obtain _ | m_277 := m_277
    · rw [impl_peersOk_l1] at h; cases h
    rw [impl_peersOk_l1] at h
    refine Run.seq ?_
    refine Run.ops hm ?_
    refine Ops.p rfl ?_
    refine Ops.nil ?_
    refine Run.seq ?_
    refine Run.condO rfl h (fun g_280 h => ?_) (fun g_280 h => ?_)
    · skip
      refine Run.skip ?_
      refine Run.seq ?_
      refine Run.block ?_
      refine Run.seq ?_
      refine Run.ops hm ?_
      obtain ⟨x_282, hx_282, h⟩ := bindO h
      refine Ops.st (s := 17384) (Ev.iaF rfl rfl hx_282) rfl rfl ?_
      refine Ops.p rfl ?_
      refine Ops.st (s := 17416) (.al rfl rfl) rfl rfl ?_
      refine Ops.s0 (s := 17432) (.sto rfl rfl rfl rfl rfl rfl) rfl rfl ?_
      refine Ops.nil ?_
      refine Run.seq ?_
      refine Run.ops hm ?_
      refine Ops.p rfl ?_
      refine Ops.p rfl ?_
      refine Ops.p rfl ?_
      refine Ops.st (s := 21528) (Ev.bsW (ys := ([x_282.Id] : List Int)) (f := encI) rfl (.cons (.c _) .nil) rfl rfl rfl rfl rfl) rfl rfl ?_
      obtain ⟨x_284, hx_284, h⟩ := bindO h
      refine Ops.st (s := 21544) (Ev.apW (f := encI) (ontoW rfl rfl rfl) (addsW rfl rfl rfl (fun _ => rfl)) rfl bt3 rfl hx_284) rfl rfl ?_
      refine Ops.p rfl ?_
      refine Ops.nil ?_
      refine Run.seq ?_
      refine Run.draw hm hmix ?_
      refine OpsD.p rfl ?_
      refine OpsD.p rfl ?_
      refine OpsD.p rfl ?_
      refine OpsD.p rfl ?_
      obtain ⟨y_285, hy_285, h⟩ := bindO h
      refine OpsD.st (s := 25640) (Ev.call [] [] 0 (sem_impl_last N x_1.Log _ hy_285) rfl rfl (.cons (.agg (.cons (.c _) (.cons (.c _) (.cons (.c _) .nil)))) .nil) rfl (.inl rfl) rfl rfl) rfl rfl ?_
      refine OpsD.p rfl ?_
      obtain ⟨y_286, hy_286, h⟩ := bindO h
      refine OpsD.st (s := 25672) (Ev.call [] [] 0 (sem_impl_within N x_282.Next (1 : Int) (w64 (y_285 + (1 : Int))) _ hy_286) rfl rfl (.cons (.c _) (.cons (.c _) (.cons (.c _) .nil))) rfl (.inl rfl) rfl rfl) rfl rfl ?_
      refine OpsD.p rfl ?_
      refine OpsD.p rfl ?_
      refine OpsD.askO (x := .t 26) rfl h (fun g_287 h => ?_) (fun g_287 h => ?_)
      · skip
        refine OpsD.gn rfl g_287 ?_
        refine OpsD.gn rfl g_287 ?_
        refine OpsD.gn rfl g_287 ?_
        refine OpsD.gn rfl g_287 ?_
        refine OpsD.gn rfl g_287 ?_
        refine OpsD.gn rfl g_287 ?_
        refine OpsD.gn rfl g_287 ?_
        refine OpsD.st (s := 25832) (.pkT rfl g_287 rfl) rfl rfl ?_
        refine OpsD.p rfl ?_
        refine OpsD.gn rfl rfl ?_
        refine OpsD.gn rfl rfl ?_
        refine OpsD.gn rfl rfl ?_
        refine OpsD.gn rfl rfl ?_
        refine OpsD.st (s := 25928) (.pkT rfl rfl rfl) rfl rfl ?_
        refine OpsD.nil ⟨by kernel_rfl, ?_⟩
        refine Run.condT rfl rfl ?_
        refine Run.seq ?_
        refine Run.ops hm ?_
        refine Ops.p rfl ?_
        refine Ops.nil ?_
        refine Run.ret ?_
        obtain rfl := someO h
        have h := hk_277
        replace h := inlO h
        obtain rfl := someO h
        exact Ends.mkG (.inl rfl) rfl (gh_pk [0] [] hB rfl rfl rfl rfl) rfl rfl
      · skip
        refine OpsD.gp rfl g_287 rfl ?_
        refine OpsD.gp rfl g_287 rfl ?_
        refine OpsD.gp rfl g_287 rfl ?_
        refine OpsD.gp rfl g_287 rfl ?_
        refine OpsD.gp rfl g_287 rfl ?_
        obtain ⟨y_288, hy_288, h⟩ := bindO h
        refine OpsD.gs (s := 25800) rfl g_287 (Ev.call [] [] 0 (sem_impl_within N x_282.Match (0 : Int) (w64 (x_282.Next - (1 : Int))) _ hy_288) rfl rfl (.cons (.c _) (.cons (.c _) (.cons (.c _) .nil))) rfl (.inl rfl) rfl rfl) rfl rfl ?_
        refine OpsD.gp rfl g_287 rfl ?_
        refine OpsD.st (s := 25832) (.pkF rfl g_287 rfl) rfl rfl ?_
        refine OpsD.p rfl ?_
        refine OpsD.askO (x := .t 35) rfl h (fun g_289 h => ?_) (fun g_289 h => ?_)
        · skip
          refine OpsD.gn rfl g_289 ?_
          refine OpsD.gn rfl g_289 ?_
          refine OpsD.gn rfl g_289 ?_
          refine OpsD.gn rfl g_289 ?_
          refine OpsD.st (s := 25928) (.pkT rfl g_289 rfl) rfl rfl ?_
          refine OpsD.nil ⟨by kernel_rfl, ?_⟩
          refine Run.condT rfl rfl ?_
          refine Run.seq ?_
          refine Run.ops hm ?_
          refine Ops.p rfl ?_
          refine Ops.nil ?_
          refine Run.ret ?_
          obtain rfl := someO h
          have h := hk_277
          replace h := inlO h
          obtain rfl := someO h
          exact Ends.mkG (.inl rfl) rfl (gh_pk [0] [] hB rfl rfl rfl rfl) rfl rfl
        · skip
          refine OpsD.gp rfl g_289 rfl ?_
          refine OpsD.gp rfl g_289 rfl ?_
          obtain ⟨y_290, hy_290, h⟩ := bindO h
          refine OpsD.gs (s := 25896) rfl g_289 (Ev.call [] [] 0 (sem_impl_within N x_282.Sent (0 : Int) (20000 : Int) _ hy_290) rfl rfl (.cons (.c _) (.cons (.c _) (.cons (.c _) .nil))) rfl (.inl rfl) rfl rfl) rfl rfl ?_
          refine OpsD.gp rfl g_289 rfl ?_
          refine OpsD.st (s := 25928) (.pkF rfl g_289 rfl) rfl rfl ?_
          refine OpsD.nil ⟨by kernel_rfl, ?_⟩
          refine Run.condO rfl h (fun g_291 h => ?_) (fun g_291 h => ?_)
          · skip
            refine Run.seq ?_
            refine Run.ops hm ?_
            refine Ops.p rfl ?_
            refine Ops.nil ?_
            refine Run.ret ?_
            obtain rfl := someO h
            have h := hk_277
            replace h := inlO h
            obtain rfl := someO h
            exact Ends.mkG (.inl rfl) rfl (gh_pk [0] [] hB rfl rfl rfl rfl) rfl rfl
          · skip
            refine Run.skip ?_
            refine Run.ops hm ?_
            refine Ops.p rfl ?_
            refine Ops.p rfl ?_
            refine Ops.nil ?_
            exact ⟨m_277, Nat.lt_succ_self m_277, _, _, (gh_pk [1, 3, 7, 8, 9] [0, 21544] hB rfl rfl rfl rfl), _, _, h, rfl, rfl⟩
    · skip
      refine Run.exit ?_
      obtain rfl := someO h
      have h := hk_277
      replace h := inrO h
      exact ⟨_, _, (gh_pk [1, 3] [0, 1] hB rfl rfl rfl rfl), x_262, h, rfl, rfl⟩
  · skip
    refine Run.seq ?_
    refine Run.ops hm ?_
    refine Ops.p rfl ?_
    refine Ops.p rfl ?_
    obtain ⟨y_292, hy_292, h⟩ := bindO h
    refine Ops.st (s := 37896) (Ev.call [] [] 1 (sem_impl_othersOf N x_1 _ hy_292) rfl rfl (.cons (.agg (.cons (.c _) (.cons (.c _) (.cons (.c _) (.cons (.c _) (.cons (.c _) (.cons (.c _) (.cons (.c _) (.cons (.c _) (.cons (.c _) (.cons (.c _) (.cons (.c _) (.cons (.c _) (.cons (.c _) (.cons (.c _) .nil))))))))))))))) .nil) rfl (.inl rfl) rfl rfl) rfl rfl ?_
    obtain ⟨y_293, hy_293, h⟩ := bindO h
    refine Ops.st (s := 37912) (Ev.call [] [1, 37896] 0 (sem_slices_Equal_int N v_244 (y_292.2.take y_292.1) _ hy_293) rfl rfl (.cons (.borrow rfl (by decide) (lendW (fun _ => rfl) _ rfl)) (.cons (.borrow rfl (by decide) (lendP (fun _ => rfl) _ _ _)) .nil)) rfl (.inr ⟨rfl, ownL_root trivial⟩) rfl rfl) rfl rfl ?_
    refine Ops.p rfl ?_
    refine Ops.nil ?_
    refine Run.ret ?_
    obtain rfl := someO h
    exact Ends.mkG (.inl rfl) rfl (gh_pk [0] [] hB rfl rfl rfl rfl) rfl rfl
def impl_NodeOk_l1 (N : Nat) (x_1 : Node) : Nat → Int → Option ((Bool) ⊕ (Unit))
 | 0, _ => none
 | m + 1, x_311 =>
 (if (decide (x_311 < (x_1.Votes.length : Int))) = true then
 (at? x_1.Votes x_311).bind fun x_341 =>
 (impl_within N x_341 (1 : Int) (4 : Int)).bind fun y_342 =>
 (if (!y_342) = true then
 some (Sum.inl false)
 else
 (if (decide (x_311 > (0 : Int))) = true then
 (at? x_1.Votes (w64 (x_311 - (1 : Int)))).bind fun x_345 =>
 (if (decide (x_345 ≥ x_341)) = true then
 some (Sum.inl false)
 else
 impl_NodeOk_l1 N x_1 m (w64 (x_311 + (1 : Int))))
 else
 impl_NodeOk_l1 N x_1 m (w64 (x_311 + (1 : Int)))))
 else
 some (Sum.inr ()))
def impl_NodeOk_l1_r (N : Nat) (x_1 : Node) : (List Int) → Int → Option ((Bool) ⊕ (Unit))
 | [], x_311 =>
 some (Sum.inr ())
 | hd :: tl, x_311 =>
 (some hd).bind fun x_341 =>
 (impl_within N x_341 (1 : Int) (4 : Int)).bind fun y_342 =>
 (if (!y_342) = true then
 some (Sum.inl false)
 else
 (if (decide (x_311 > (0 : Int))) = true then
 (at? x_1.Votes (w64 (x_311 - (1 : Int)))).bind fun x_345 =>
 (if (decide (x_345 ≥ x_341)) = true then
 some (Sum.inl false)
 else
 impl_NodeOk_l1_r N x_1 tl (w64 (x_311 + (1 : Int))))
 else
 impl_NodeOk_l1_r N x_1 tl (w64 (x_311 + (1 : Int)))))
theorem impl_NodeOk_l1_rng (N : Nat) (x_1 : Node) (hx : x_1.Votes.length ≤ 1099511627776) : ∀ (d k m : Nat), x_1.Votes.length = k + d → d < m → impl_NodeOk_l1 N x_1 m (k : Int) = impl_NodeOk_l1_r N x_1 (x_1.Votes.drop k) (k : Int) := by
  intro d
  induction d with
  | zero =>
    intro k m hd hm
    obtain ⟨m, rfl⟩ : ∃ q, m = q + 1 := ⟨m - 1, by omega⟩
    rw [impl_NodeOk_l1, if_neg (by simp; omega), List.drop_eq_nil_of_le (by omega), impl_NodeOk_l1_r]
  | succ d ih =>
    intro k m hd hm
    obtain ⟨m, rfl⟩ : ∃ q, m = q + 1 := ⟨m - 1, by omega⟩
    have hk : k < x_1.Votes.length := by omega
    rw [impl_NodeOk_l1, if_pos (by simp; omega), List.drop_eq_getElem_cons hk, impl_NodeOk_l1_r]
    have h1 := at_lt hk
    have h2 := w64_succ (k := k) (by omega)
    have h3 := ih (k + 1) m
    simp only [h1, h2, h3 (by omega) (by omega)]
theorem impl_NodeOk_l1_eq {N : Nat} (x_1 : Node) (hx : x_1.Votes.length ≤ 1099511627776) (hN : x_1.Votes.length < N) : impl_NodeOk_l1 N x_1 N 0 = impl_NodeOk_l1_r N x_1 x_1.Votes 0 := impl_NodeOk_l1_rng N x_1 hx x_1.Votes.length 0 N (by omega) hN
def impl_NodeOk (N : Nat) (x_1 : Node) : Option (Bool) :=
 (impl_within N x_1.Id (1 : Int) (4 : Int)).bind fun y_234 =>
 (if (!y_234) = true then
 some false
 else
 (impl_ConfOk N x_1.Conf).bind fun y_236 =>
 (if (!y_236) = true then
 some false
 else
 (impl_LogOk N x_1.Log).bind fun y_238 =>
 (if (!y_238) = true then
 some false
 else
 (impl_LogLast N x_1.Log).bind fun y_241 =>
 (impl_within N x_1.Term y_241.2 (100000 : Int)).bind fun y_256 =>
 (if (!y_256) = true then
 some false
 else
 (impl_within N x_1.Vote (0 : Int) (4 : Int)).bind fun y_258 =>
 (if (!y_258) = true then
 some false
 else
 (impl_within N x_1.Lead (0 : Int) (4 : Int)).bind fun y_260 =>
 (if (!y_260) = true then
 some false
 else
 (impl_within N x_1.Role (0 : Int) (2 : Int)).bind fun y_262 =>
 (if (!y_262) = true then
 some false
 else
 (impl_within N x_1.Commit x_1.Log.Start y_241.1).bind fun y_264 =>
 (if (!y_264) = true then
 some false
 else
 (impl_within N x_1.Limit (1 : Int) (20 : Int)).bind fun y_266 =>
 (if (!y_266) = true then
 some false
 else
 (impl_within N x_1.Clock (0 : Int) (20 : Int)).bind fun y_268 =>
 (if (!y_268) = true then
 some false
 else
 joinP (fun (v_308 : Unit) =>
 joinP (fun (v_349 : Unit) =>
 (if (x_1.Role == (2 : Int)) = true then
 (impl_peersOk N x_1).bind fun y_355 =>
 some y_355
 else
 some ((x_1.Peers.length : Int) == (0 : Int)))) fun j_349 =>
 (if (x_1.Role != (1 : Int)) = true then
 (if (decide ((x_1.Votes.length : Int) > (0 : Int))) = true then
 some false
 else
 j_349 ())
 else
 j_349 ())) fun j_308 =>
 (impl_NodeOk_l1 N x_1 N (0 : Int)).bind (Sum.elim (fun v_335 => some v_335) (fun (v_336 : Unit) => j_308 ()))))))))))))
theorem sem_impl_NodeOk (N : Nat) (x_1 : Node) (r : Bool) (h : impl_NodeOk N x_1 = some r) : Says Try.prog 63 [.agg [VI x_1.Id, VI x_1.Term, VI x_1.Vote, VI x_1.Role, VI x_1.Lead, RO 3 (x_1.Conf.map encI), VI x_1.Log.Start, VI x_1.Log.StartTerm, RO 48 (x_1.Log.Entries.map encEntry), VI x_1.Commit, VI x_1.Clock, VI x_1.Limit, RO 3 (x_1.Votes.map encI), RO 172 (x_1.Peers.map encPeer)]] 0 [] (VB r) [] := by
  unfold impl_NodeOk at h
  refine Says.of_run s63 Try.call63 rfl fun B hB => ?_
  have hm : B.m ≤ 1000 := by omega
  refine Run.seq ?_
  refine Run.ops hm ?_
  refine Ops.st (s := 1000) (.bx rfl rfl) rfl rfl ?_
  refine Ops.p rfl ?_
  refine Ops.nil ?_
  refine Run.seq ?_
  refine Run.seq ?_
  refine Run.ops hm ?_
  refine Ops.p rfl ?_
  refine Ops.p rfl ?_
  obtain ⟨y_234, hy_234, h⟩ := bindO h
  refine Ops.st (s := 5128) (Ev.call [] [] 0 (sem_impl_within N x_1.Id (1 : Int) (4 : Int) _ hy_234) rfl rfl (.cons (.c _) (.cons (.c _) (.cons (.c _) .nil))) rfl (.inl rfl) rfl rfl) rfl rfl ?_
  refine Ops.p rfl ?_
  refine Ops.p rfl ?_
  refine Ops.askO (x := .t 11) rfl h (fun g_235 h => ?_) (fun g_235 h => ?_)
  · skip
    refine Ops.gn rfl g_235 ?_
    refine Ops.gn rfl g_235 ?_
    refine Ops.gn rfl g_235 ?_
    refine Ops.gn rfl g_235 ?_
    refine Ops.st (s := 5240) (.pkT rfl g_235 rfl) rfl rfl ?_
    refine Ops.p rfl ?_
    refine Ops.gn rfl rfl ?_
    refine Ops.gn rfl rfl ?_
    refine Ops.gn rfl rfl ?_
    refine Ops.gn rfl rfl ?_
    refine Ops.st (s := 5336) (.pkT rfl rfl rfl) rfl rfl ?_
    refine Ops.nil ?_
    refine Run.condT rfl rfl ?_
    refine Run.seq ?_
    refine Run.ops hm ?_
    refine Ops.p rfl ?_
    refine Ops.nil ?_
    refine Run.ret ?_
    obtain rfl := someO h
    exact Ends.mkG (.inl rfl) rfl (gh_pk [0] [] hB rfl rfl rfl rfl) rfl rfl
  · skip
    refine Ops.gp rfl g_235 rfl ?_
    refine Ops.gp rfl g_235 rfl ?_
    obtain ⟨y_236, hy_236, h⟩ := bindO h
    refine Ops.gs (s := 5208) rfl g_235 (Ev.call [] [] 0 (sem_impl_ConfOk N x_1.Conf _ hy_236) rfl rfl (.cons (.c _) .nil) rfl (.inl rfl) rfl rfl) rfl rfl ?_
    refine Ops.gp rfl g_235 rfl ?_
    refine Ops.st (s := 5240) (.pkF rfl g_235 rfl) rfl rfl ?_
    refine Ops.p rfl ?_
    refine Ops.askO (x := .t 17) rfl h (fun g_237 h => ?_) (fun g_237 h => ?_)
    · skip
      refine Ops.gn rfl g_237 ?_
      refine Ops.gn rfl g_237 ?_
      refine Ops.gn rfl g_237 ?_
      refine Ops.gn rfl g_237 ?_
      refine Ops.st (s := 5336) (.pkT rfl g_237 rfl) rfl rfl ?_
      refine Ops.nil ?_
      refine Run.condT rfl rfl ?_
      refine Run.seq ?_
      refine Run.ops hm ?_
      refine Ops.p rfl ?_
      refine Ops.nil ?_
      refine Run.ret ?_
      obtain rfl := someO h
      exact Ends.mkG (.inl rfl) rfl (gh_pk [0] [] hB rfl rfl rfl rfl) rfl rfl
    · skip
      refine Ops.gp rfl g_237 rfl ?_
      refine Ops.gp rfl g_237 rfl ?_
      obtain ⟨y_238, hy_238, h⟩ := bindO h
      refine Ops.gs (s := 5304) rfl g_237 (Ev.call [] [] 0 (sem_impl_LogOk N x_1.Log _ hy_238) rfl rfl (.cons (.agg (.cons (.c _) (.cons (.c _) (.cons (.c _) .nil)))) .nil) rfl (.inl rfl) rfl rfl) rfl rfl ?_
      refine Ops.gp rfl g_237 rfl ?_
      refine Ops.st (s := 5336) (.pkF rfl g_237 rfl) rfl rfl ?_
      refine Ops.nil ?_
      refine Run.condO rfl h (fun g_239 h => ?_) (fun g_239 h => ?_)
      · skip
        refine Run.seq ?_
        refine Run.ops hm ?_
        refine Ops.p rfl ?_
        refine Ops.nil ?_
        refine Run.ret ?_
        obtain rfl := someO h
        exact Ends.mkG (.inl rfl) rfl (gh_pk [0] [] hB rfl rfl rfl rfl) rfl rfl
      · skip
        refine Run.skip ?_
        refine Run.seq ?_
        refine Run.ops hm ?_
        refine Ops.p rfl ?_
        refine Ops.p rfl ?_
        obtain ⟨y_241, hy_241, h⟩ := bindO h
        refine Ops.st (s := 13320) (Ev.call [] [] 0 (sem_impl_LogLast N x_1.Log _ hy_241) rfl rfl (.cons (.agg (.cons (.c _) (.cons (.c _) (.cons (.c _) .nil)))) .nil) rfl (.inl rfl) rfl rfl) rfl rfl ?_
        refine Ops.p rfl ?_
        refine Ops.p rfl ?_
        refine Ops.p rfl ?_
        refine Ops.p rfl ?_
        refine Ops.p rfl ?_
        refine Ops.nil ?_
        refine Run.seq ?_
        refine Run.seq ?_
        refine Run.ops hm ?_
        refine Ops.p rfl ?_
        refine Ops.p rfl ?_
        refine Ops.p rfl ?_
        obtain ⟨y_256, hy_256, h⟩ := bindO h
        refine Ops.st (s := 17432) (Ev.call [] [] 0 (sem_impl_within N x_1.Term y_241.2 (100000 : Int) _ hy_256) rfl rfl (.cons (.c _) (.cons (.c _) (.cons (.c _) .nil))) rfl (.inl rfl) rfl rfl) rfl rfl ?_
        refine Ops.p rfl ?_
        refine Ops.p rfl ?_
        refine Ops.askO (x := .t 34) rfl h (fun g_257 h => ?_) (fun g_257 h => ?_)
        · skip
          refine Ops.gn rfl g_257 ?_
          refine Ops.gn rfl g_257 ?_
          refine Ops.gn rfl g_257 ?_
          refine Ops.gn rfl g_257 ?_
          refine Ops.st (s := 17544) (.pkT rfl g_257 rfl) rfl rfl ?_
          refine Ops.p rfl ?_
          refine Ops.gn rfl rfl ?_
          refine Ops.gn rfl rfl ?_
          refine Ops.gn rfl rfl ?_
          refine Ops.gn rfl rfl ?_
          refine Ops.st (s := 17640) (.pkT rfl rfl rfl) rfl rfl ?_
          refine Ops.p rfl ?_
          refine Ops.gn rfl rfl ?_
          refine Ops.gn rfl rfl ?_
          refine Ops.gn rfl rfl ?_
          refine Ops.gn rfl rfl ?_
          refine Ops.st (s := 17736) (.pkT rfl rfl rfl) rfl rfl ?_
          refine Ops.p rfl ?_
          refine Ops.gn rfl rfl ?_
          refine Ops.gn rfl rfl ?_
          refine Ops.gn rfl rfl ?_
          refine Ops.gn rfl rfl ?_
          refine Ops.gn rfl rfl ?_
          refine Ops.gn rfl rfl ?_
          refine Ops.gn rfl rfl ?_
          refine Ops.gn rfl rfl ?_
          refine Ops.st (s := 17896) (.pkT rfl rfl rfl) rfl rfl ?_
          refine Ops.p rfl ?_
          refine Ops.gn rfl rfl ?_
          refine Ops.gn rfl rfl ?_
          refine Ops.gn rfl rfl ?_
          refine Ops.gn rfl rfl ?_
          refine Ops.st (s := 17992) (.pkT rfl rfl rfl) rfl rfl ?_
          refine Ops.p rfl ?_
          refine Ops.gn rfl rfl ?_
          refine Ops.gn rfl rfl ?_
          refine Ops.gn rfl rfl ?_
          refine Ops.gn rfl rfl ?_
          refine Ops.st (s := 18088) (.pkT rfl rfl rfl) rfl rfl ?_
          refine Ops.nil ?_
          refine Run.condT rfl rfl ?_
          refine Run.seq ?_
          refine Run.ops hm ?_
          refine Ops.p rfl ?_
          refine Ops.nil ?_
          refine Run.ret ?_
          obtain rfl := someO h
          exact Ends.mkG (.inl rfl) rfl (gh_pk [0] [] hB rfl rfl rfl rfl) rfl rfl
        · skip
          refine Ops.gp rfl g_257 rfl ?_
          refine Ops.gp rfl g_257 rfl ?_
          obtain ⟨y_258, hy_258, h⟩ := bindO h
          refine Ops.gs (s := 17512) rfl g_257 (Ev.call [] [] 0 (sem_impl_within N x_1.Vote (0 : Int) (4 : Int) _ hy_258) rfl rfl (.cons (.c _) (.cons (.c _) (.cons (.c _) .nil))) rfl (.inl rfl) rfl rfl) rfl rfl ?_
          refine Ops.gp rfl g_257 rfl ?_
          refine Ops.st (s := 17544) (.pkF rfl g_257 rfl) rfl rfl ?_
          refine Ops.p rfl ?_
          refine Ops.askO (x := .t 40) rfl h (fun g_259 h => ?_) (fun g_259 h => ?_)
          · skip
            refine Ops.gn rfl g_259 ?_
            refine Ops.gn rfl g_259 ?_
            refine Ops.gn rfl g_259 ?_
            refine Ops.gn rfl g_259 ?_
            refine Ops.st (s := 17640) (.pkT rfl g_259 rfl) rfl rfl ?_
            refine Ops.p rfl ?_
            refine Ops.gn rfl rfl ?_
            refine Ops.gn rfl rfl ?_
            refine Ops.gn rfl rfl ?_
            refine Ops.gn rfl rfl ?_
            refine Ops.st (s := 17736) (.pkT rfl rfl rfl) rfl rfl ?_
            refine Ops.p rfl ?_
            refine Ops.gn rfl rfl ?_
            refine Ops.gn rfl rfl ?_
            refine Ops.gn rfl rfl ?_
            refine Ops.gn rfl rfl ?_
            refine Ops.gn rfl rfl ?_
            refine Ops.gn rfl rfl ?_
            refine Ops.gn rfl rfl ?_
            refine Ops.gn rfl rfl ?_
            refine Ops.st (s := 17896) (.pkT rfl rfl rfl) rfl rfl ?_
            refine Ops.p rfl ?_
            refine Ops.gn rfl rfl ?_
            refine Ops.gn rfl rfl ?_
            refine Ops.gn rfl rfl ?_
            refine Ops.gn rfl rfl ?_
            refine Ops.st (s := 17992) (.pkT rfl rfl rfl) rfl rfl ?_
            refine Ops.p rfl ?_
            refine Ops.gn rfl rfl ?_
            refine Ops.gn rfl rfl ?_
            refine Ops.gn rfl rfl ?_
            refine Ops.gn rfl rfl ?_
            refine Ops.st (s := 18088) (.pkT rfl rfl rfl) rfl rfl ?_
            refine Ops.nil ?_
            refine Run.condT rfl rfl ?_
            refine Run.seq ?_
            refine Run.ops hm ?_
            refine Ops.p rfl ?_
            refine Ops.nil ?_
            refine Run.ret ?_
            obtain rfl := someO h
            exact Ends.mkG (.inl rfl) rfl (gh_pk [0] [] hB rfl rfl rfl rfl) rfl rfl
          · skip
            refine Ops.gp rfl g_259 rfl ?_
            refine Ops.gp rfl g_259 rfl ?_
            obtain ⟨y_260, hy_260, h⟩ := bindO h
            refine Ops.gs (s := 17608) rfl g_259 (Ev.call [] [] 0 (sem_impl_within N x_1.Lead (0 : Int) (4 : Int) _ hy_260) rfl rfl (.cons (.c _) (.cons (.c _) (.cons (.c _) .nil))) rfl (.inl rfl) rfl rfl) rfl rfl ?_
            refine Ops.gp rfl g_259 rfl ?_
            refine Ops.st (s := 17640) (.pkF rfl g_259 rfl) rfl rfl ?_
            refine Ops.p rfl ?_
            refine Ops.askO (x := .t 46) rfl h (fun g_261 h => ?_) (fun g_261 h => ?_)
            · skip
              refine Ops.gn rfl g_261 ?_
              refine Ops.gn rfl g_261 ?_
              refine Ops.gn rfl g_261 ?_
              refine Ops.gn rfl g_261 ?_
              refine Ops.st (s := 17736) (.pkT rfl g_261 rfl) rfl rfl ?_
              refine Ops.p rfl ?_
              refine Ops.gn rfl rfl ?_
              refine Ops.gn rfl rfl ?_
              refine Ops.gn rfl rfl ?_
              refine Ops.gn rfl rfl ?_
              refine Ops.gn rfl rfl ?_
              refine Ops.gn rfl rfl ?_
              refine Ops.gn rfl rfl ?_
              refine Ops.gn rfl rfl ?_
              refine Ops.st (s := 17896) (.pkT rfl rfl rfl) rfl rfl ?_
              refine Ops.p rfl ?_
              refine Ops.gn rfl rfl ?_
              refine Ops.gn rfl rfl ?_
              refine Ops.gn rfl rfl ?_
              refine Ops.gn rfl rfl ?_
              refine Ops.st (s := 17992) (.pkT rfl rfl rfl) rfl rfl ?_
              refine Ops.p rfl ?_
              refine Ops.gn rfl rfl ?_
              refine Ops.gn rfl rfl ?_
              refine Ops.gn rfl rfl ?_
              refine Ops.gn rfl rfl ?_
              refine Ops.st (s := 18088) (.pkT rfl rfl rfl) rfl rfl ?_
              refine Ops.nil ?_
              refine Run.condT rfl rfl ?_
              refine Run.seq ?_
              refine Run.ops hm ?_
              refine Ops.p rfl ?_
              refine Ops.nil ?_
              refine Run.ret ?_
              obtain rfl := someO h
              exact Ends.mkG (.inl rfl) rfl (gh_pk [0] [] hB rfl rfl rfl rfl) rfl rfl
            · skip
              refine Ops.gp rfl g_261 rfl ?_
              refine Ops.gp rfl g_261 rfl ?_
              obtain ⟨y_262, hy_262, h⟩ := bindO h
              refine Ops.gs (s := 17704) rfl g_261 (Ev.call [] [] 0 (sem_impl_within N x_1.Role (0 : Int) (2 : Int) _ hy_262) rfl rfl (.cons (.c _) (.cons (.c _) (.cons (.c _) .nil))) rfl (.inl rfl) rfl rfl) rfl rfl ?_
              refine Ops.gp rfl g_261 rfl ?_
              refine Ops.st (s := 17736) (.pkF rfl g_261 rfl) rfl rfl ?_
              refine Ops.p rfl ?_
              refine Ops.askO (x := .t 52) rfl h (fun g_263 h => ?_) (fun g_263 h => ?_)
              · skip
                refine Ops.gn rfl g_263 ?_
                refine Ops.gn rfl g_263 ?_
                refine Ops.gn rfl g_263 ?_
                refine Ops.gn rfl g_263 ?_
                refine Ops.gn rfl g_263 ?_
                refine Ops.gn rfl g_263 ?_
                refine Ops.gn rfl g_263 ?_
                refine Ops.gn rfl g_263 ?_
                refine Ops.st (s := 17896) (.pkT rfl g_263 rfl) rfl rfl ?_
                refine Ops.p rfl ?_
                refine Ops.gn rfl rfl ?_
                refine Ops.gn rfl rfl ?_
                refine Ops.gn rfl rfl ?_
                refine Ops.gn rfl rfl ?_
                refine Ops.st (s := 17992) (.pkT rfl rfl rfl) rfl rfl ?_
                refine Ops.p rfl ?_
                refine Ops.gn rfl rfl ?_
                refine Ops.gn rfl rfl ?_
                refine Ops.gn rfl rfl ?_
                refine Ops.gn rfl rfl ?_
                refine Ops.st (s := 18088) (.pkT rfl rfl rfl) rfl rfl ?_
                refine Ops.nil ?_
                refine Run.condT rfl rfl ?_
                refine Run.seq ?_
                refine Run.ops hm ?_
                refine Ops.p rfl ?_
                refine Ops.nil ?_
                refine Run.ret ?_
                obtain rfl := someO h
                exact Ends.mkG (.inl rfl) rfl (gh_pk [0] [] hB rfl rfl rfl rfl) rfl rfl
              · skip
                refine Ops.gp rfl g_263 rfl ?_
                refine Ops.gp rfl g_263 rfl ?_
                refine Ops.gp rfl g_263 rfl ?_
                refine Ops.gp rfl g_263 rfl ?_
                refine Ops.gp rfl g_263 rfl ?_
                refine Ops.gp rfl g_263 rfl ?_
                obtain ⟨y_264, hy_264, h⟩ := bindO h
                refine Ops.gs (s := 17864) rfl g_263 (Ev.call [] [] 0 (sem_impl_within N x_1.Commit x_1.Log.Start y_241.1 _ hy_264) rfl rfl (.cons (.c _) (.cons (.c _) (.cons (.c _) .nil))) rfl (.inl rfl) rfl rfl) rfl rfl ?_
                refine Ops.gp rfl g_263 rfl ?_
                refine Ops.st (s := 17896) (.pkF rfl g_263 rfl) rfl rfl ?_
                refine Ops.p rfl ?_
                refine Ops.askO (x := .t 62) rfl h (fun g_265 h => ?_) (fun g_265 h => ?_)
                · skip
                  refine Ops.gn rfl g_265 ?_
                  refine Ops.gn rfl g_265 ?_
                  refine Ops.gn rfl g_265 ?_
                  refine Ops.gn rfl g_265 ?_
                  refine Ops.st (s := 17992) (.pkT rfl g_265 rfl) rfl rfl ?_
                  refine Ops.p rfl ?_
                  refine Ops.gn rfl rfl ?_
                  refine Ops.gn rfl rfl ?_
                  refine Ops.gn rfl rfl ?_
                  refine Ops.gn rfl rfl ?_
                  refine Ops.st (s := 18088) (.pkT rfl rfl rfl) rfl rfl ?_
                  refine Ops.nil ?_
                  refine Run.condT rfl rfl ?_
                  refine Run.seq ?_
                  refine Run.ops hm ?_
                  refine Ops.p rfl ?_
                  refine Ops.nil ?_
                  refine Run.ret ?_
                  obtain rfl := someO h
                  exact Ends.mkG (.inl rfl) rfl (gh_pk [0] [] hB rfl rfl rfl rfl) rfl rfl
                · skip
                  refine Ops.gp rfl g_265 rfl ?_
                  refine Ops.gp rfl g_265 rfl ?_
                  obtain ⟨y_266, hy_266, h⟩ := bindO h
                  refine Ops.gs (s := 17960) rfl g_265 (Ev.call [] [] 0 (sem_impl_within N x_1.Limit (1 : Int) (20 : Int) _ hy_266) rfl rfl (.cons (.c _) (.cons (.c _) (.cons (.c _) .nil))) rfl (.inl rfl) rfl rfl) rfl rfl ?_
                  refine Ops.gp rfl g_265 rfl ?_
                  refine Ops.st (s := 17992) (.pkF rfl g_265 rfl) rfl rfl ?_
                  refine Ops.p rfl ?_
                  refine Ops.askO (x := .t 68) rfl h (fun g_267 h => ?_) (fun g_267 h => ?_)
                  · skip
                    refine Ops.gn rfl g_267 ?_
                    refine Ops.gn rfl g_267 ?_
                    refine Ops.gn rfl g_267 ?_
                    refine Ops.gn rfl g_267 ?_
                    refine Ops.st (s := 18088) (.pkT rfl g_267 rfl) rfl rfl ?_
                    refine Ops.nil ?_
                    refine Run.condT rfl rfl ?_
                    refine Run.seq ?_
                    refine Run.ops hm ?_
                    refine Ops.p rfl ?_
                    refine Ops.nil ?_
                    refine Run.ret ?_
                    obtain rfl := someO h
                    exact Ends.mkG (.inl rfl) rfl (gh_pk [0] [] hB rfl rfl rfl rfl) rfl rfl
                  · skip
                    refine Ops.gp rfl g_267 rfl ?_
                    refine Ops.gp rfl g_267 rfl ?_
                    obtain ⟨y_268, hy_268, h⟩ := bindO h
                    refine Ops.gs (s := 18056) rfl g_267 (Ev.call [] [] 0 (sem_impl_within N x_1.Clock (0 : Int) (20 : Int) _ hy_268) rfl rfl (.cons (.c _) (.cons (.c _) (.cons (.c _) .nil))) rfl (.inl rfl) rfl rfl) rfl rfl ?_
                    refine Ops.gp rfl g_267 rfl ?_
                    refine Ops.st (s := 18088) (.pkF rfl g_267 rfl) rfl rfl ?_
                    refine Ops.nil ?_
                    refine Run.condO rfl h (fun g_269 h => ?_) (fun g_269 h => ?_)
                    · skip
                      refine Run.seq ?_
                      refine Run.ops hm ?_
                      refine Ops.p rfl ?_
                      refine Ops.nil ?_
                      refine Run.ret ?_
                      obtain rfl := someO h
                      exact Ends.mkG (.inl rfl) rfl (gh_pk [0] [] hB rfl rfl rfl rfl) rfl rfl
                    · skip
                      refine Run.skip ?_
                      refine Run.seqO h (fun (v_308 : Unit) => [(1, .ptr 0 0)]) (fun (v_308 : Unit) => [(0, .box [VI x_1.Id, VI x_1.Term, VI x_1.Vote, VI x_1.Role, VI x_1.Lead, RO 3 (x_1.Conf.map encI), VI x_1.Log.Start, VI x_1.Log.StartTerm, RO 48 (x_1.Log.Entries.map encEntry), VI x_1.Commit, VI x_1.Clock, VI x_1.Limit, RO 3 (x_1.Votes.map encI), RO 172 (x_1.Peers.map encPeer)])]) (fun h => ?_) (fun v_308 h => ?_)
                      · skip
                        refine Run.seq ?_
                        refine Run.ops hm ?_
                        refine Ops.p rfl ?_
                        refine Ops.p rfl ?_
                        refine Ops.st (s := 25608) (Ev.lnF rfl) rfl rfl ?_
                        refine Ops.p rfl ?_
                        refine Ops.nil ?_
                        refine Run.block ?_
                        obtain ⟨res_336, h, hk_336⟩ := bindO h
                        refine Run.loop (n := N) (fun m_336 fr σ => ∃ (x_311 : Int), impl_NodeOk_l1 N x_1 m_336 x_311 = some res_336 ∧ fr = [(1, .ptr 0 0), (75, RO 3 (x_1.Votes.map encI)), (76, VI (x_1.Votes.length : Int)), (77, VI x_311)] ∧ σ = [(0, .box [VI x_1.Id, VI x_1.Term, VI x_1.Vote, VI x_1.Role, VI x_1.Lead, RO 3 (x_1.Conf.map encI), VI x_1.Log.Start, VI x_1.Log.StartTerm, RO 48 (x_1.Log.Entries.map encEntry), VI x_1.Commit, VI x_1.Clock, VI x_1.Limit, RO 3 (x_1.Votes.map encI), RO 172 (x_1.Peers.map encPeer)])]) (gh_pk [1, 75, 76, 77] [1000] hB rfl rfl rfl rfl) ⟨_, h, rfl, rfl⟩ ?_
                        rintro m_336 fr σ ⟨x_311, h, rfl, rfl⟩
                        obtain _ | m_336 := m_336
                        · rw [impl_NodeOk_l1] at h; cases h
                        rw [impl_NodeOk_l1] at h
                        refine Run.seq ?_
                        refine Run.ops hm ?_
                        refine Ops.p rfl ?_
                        refine Ops.nil ?_
                        refine Run.seq ?_
                        refine Run.condO rfl h (fun g_339 h => ?_) (fun g_339 h => ?_)
                        · skip
                          refine Run.skip ?_
                          refine Run.seq ?_
                          refine Run.block ?_
                          refine Run.seq ?_
                          refine Run.ops hm ?_
                          refine Ops.p rfl ?_
                          obtain ⟨x_341, hx_341, h⟩ := bindO h
                          refine Ops.st (s := 33784) (Ev.iaF rfl rfl hx_341) rfl rfl ?_
                          refine Ops.p rfl ?_
                          refine Ops.p rfl ?_
                          refine Ops.p rfl ?_
                          refine Ops.nil ?_
                          refine Run.seq ?_
                          refine Run.ops hm ?_
                          refine Ops.p rfl ?_
                          obtain ⟨y_342, hy_342, h⟩ := bindO h
                          refine Ops.st (s := 37880) (Ev.call [] [] 0 (sem_impl_within N x_341 (1 : Int) (4 : Int) _ hy_342) rfl rfl (.cons (.c _) (.cons (.c _) (.cons (.c _) .nil))) rfl (.inl rfl) rfl rfl) rfl rfl ?_
                          refine Ops.p rfl ?_
                          refine Ops.p rfl ?_
                          refine Ops.askO (x := .t 85) rfl h (fun g_343 h => ?_) (fun g_343 h => ?_)
                          · skip
                            refine Ops.gn rfl g_343 ?_
                            refine Ops.gn rfl g_343 ?_
                            refine Ops.gn rfl g_343 ?_
                            refine Ops.gu rfl ?_
                            refine Ops.gu rfl ?_
                            refine Ops.gu rfl ?_
                            refine Ops.gu rfl ?_
                            refine Ops.gu rfl ?_
                            refine Ops.gu rfl ?_
                            refine Ops.gu rfl ?_
                            refine Ops.gu rfl ?_
                            refine Ops.gn rfl g_343 ?_
                            refine Ops.st (s := 38120) (.pkT rfl g_343 rfl) rfl rfl ?_
                            refine Ops.nil ?_
                            refine Run.condT rfl rfl ?_
                            refine Run.seq ?_
                            refine Run.ops hm ?_
                            refine Ops.p rfl ?_
                            refine Ops.nil ?_
                            refine Run.ret ?_
                            obtain rfl := someO h
                            have h := hk_336
                            replace h := inlO h
                            obtain rfl := someO h
                            exact Ends.mkG (.inl rfl) rfl (gh_pk [0] [] hB rfl rfl rfl rfl) rfl rfl
                          · skip
                            refine Ops.gp rfl g_343 rfl ?_
                            refine Ops.gp rfl g_343 rfl ?_
                            refine Ops.gp rfl g_343 rfl ?_
                            refine Ops.askO (x := .t 88) rfl h (fun g_344 h => ?_) (fun g_344 h => ?_)
                            · skip
                              refine Ops.gp rfl g_344 rfl ?_
                              refine Ops.gp rfl g_344 rfl ?_
                              refine Ops.gp rfl g_344 rfl ?_
                              refine Ops.gp rfl g_344 rfl ?_
                              obtain ⟨x_345, hx_345, h⟩ := bindO h
                              refine Ops.gs (s := 38040) rfl g_344 (Ev.iaF rfl rfl hx_345) rfl rfl ?_
                              refine Ops.gp rfl g_344 rfl ?_
                              refine Ops.gp rfl g_344 rfl ?_
                              refine Ops.gp rfl g_344 rfl ?_
                              refine Ops.gs (s := 38104) rfl g_343 (.pkT rfl g_344 rfl) rfl rfl ?_
                              refine Ops.st (s := 38120) (.pkF rfl g_343 rfl) rfl rfl ?_
                              refine Ops.nil ?_
                              refine Run.condO rfl h (fun g_346 h => ?_) (fun g_346 h => ?_)
                              · skip
                                refine Run.seq ?_
                                refine Run.ops hm ?_
                                refine Ops.p rfl ?_
                                refine Ops.nil ?_
                                refine Run.ret ?_
                                obtain rfl := someO h
                                have h := hk_336
                                replace h := inlO h
                                obtain rfl := someO h
                                exact Ends.mkG (.inl rfl) rfl (gh_pk [0] [] hB rfl rfl rfl rfl) rfl rfl
                              · skip
                                refine Run.skip ?_
                                refine Run.ops hm ?_
                                refine Ops.p rfl ?_
                                refine Ops.p rfl ?_
                                refine Ops.nil ?_
                                exact ⟨m_336, Nat.lt_succ_self m_336, _, _, (gh_pk [1, 75, 76, 77] [0] hB rfl rfl rfl rfl), _, h, rfl, rfl⟩
                            · skip
                              refine Ops.gn rfl g_344 ?_
                              refine Ops.gn rfl g_344 ?_
                              refine Ops.gn rfl g_344 ?_
                              refine Ops.gn rfl g_344 ?_
                              refine Ops.gn rfl g_344 ?_
                              refine Ops.gn rfl g_344 ?_
                              refine Ops.gn rfl g_344 ?_
                              refine Ops.gn rfl g_344 ?_
                              refine Ops.gs (s := 38104) rfl g_343 (.pkF rfl g_344 rfl) rfl rfl ?_
                              refine Ops.st (s := 38120) (.pkF rfl g_343 rfl) rfl rfl ?_
                              refine Ops.nil ?_
                              refine Run.condF rfl rfl ?_
                              refine Run.skip ?_
                              refine Run.ops hm ?_
                              refine Ops.p rfl ?_
                              refine Ops.p rfl ?_
                              refine Ops.nil ?_
                              exact ⟨m_336, Nat.lt_succ_self m_336, _, _, (gh_pk [1, 75, 76, 77] [0] hB rfl rfl rfl rfl), _, h, rfl, rfl⟩
                        · skip
                          refine Run.exit ?_
                          obtain rfl := someO h
                          have h := hk_336
                          replace h := inrO h
                          exact ⟨_, _, (gh_pk [1] [0] hB rfl rfl rfl rfl), (), h, rfl, rfl⟩
                      · skip
                        refine Run.seqO h (fun (v_349 : Unit) => [(1, .ptr 0 0)]) (fun (v_349 : Unit) => [(0, .box [VI x_1.Id, VI x_1.Term, VI x_1.Vote, VI x_1.Role, VI x_1.Lead, RO 3 (x_1.Conf.map encI), VI x_1.Log.Start, VI x_1.Log.StartTerm, RO 48 (x_1.Log.Entries.map encEntry), VI x_1.Commit, VI x_1.Clock, VI x_1.Limit, RO 3 (x_1.Votes.map encI), RO 172 (x_1.Peers.map encPeer)])]) (fun h => ?_) (fun v_349 h => ?_)
                        · skip
                          refine Run.seq ?_
                          refine Run.ops hm ?_
                          refine Ops.p rfl ?_
                          refine Ops.p rfl ?_
                          refine Ops.p rfl ?_
                          refine Ops.p rfl ?_
                          refine Ops.askO (x := .t 103) rfl h (fun g_350 h => ?_) (fun g_350 h => ?_)
                          · skip
                            refine Ops.gp rfl g_350 rfl ?_
                            refine Ops.gp rfl g_350 rfl ?_
                            refine Ops.gs (s := 50248) rfl g_350 (Ev.lnF rfl) rfl rfl ?_
                            refine Ops.gp rfl g_350 rfl ?_
                            refine Ops.st (s := 50280) (.pkT rfl g_350 rfl) rfl rfl ?_
                            refine Ops.nil ?_
                            refine Run.condO rfl h (fun g_351 h => ?_) (fun g_351 h => ?_)
                            · skip
                              refine Run.seq ?_
                              refine Run.ops hm ?_
                              refine Ops.p rfl ?_
                              refine Ops.nil ?_
                              refine Run.ret ?_
                              obtain rfl := someO h
                              exact Ends.mkG (.inl rfl) rfl (gh_pk [0] [] hB rfl rfl rfl rfl) rfl rfl
                            · skip
                              refine Run.skip ?_
                              exact ⟨_, _, (gh_pk [1] [0] hB rfl rfl rfl rfl), (), h, rfl, rfl⟩
                          · skip
                            refine Ops.gn rfl g_350 ?_
                            refine Ops.gn rfl g_350 ?_
                            refine Ops.gn rfl g_350 ?_
                            refine Ops.gn rfl g_350 ?_
                            refine Ops.st (s := 50280) (.pkF rfl g_350 rfl) rfl rfl ?_
                            refine Ops.nil ?_
                            refine Run.condF rfl rfl ?_
                            refine Run.skip ?_
                            exact ⟨_, _, (gh_pk [1] [0] hB rfl rfl rfl rfl), (), h, rfl, rfl⟩
                        · skip
                          refine Run.seq ?_
                          refine Run.seq ?_
                          refine Run.ops hm ?_
                          refine Ops.p rfl ?_
                          refine Ops.p rfl ?_
                          refine Ops.p rfl ?_
                          refine Ops.nil ?_
                          refine Run.condO rfl h (fun g_354 h => ?_) (fun g_354 h => ?_)
                          · skip
                            refine Run.seq ?_
                            refine Run.ops hm ?_
                            refine Ops.p rfl ?_
                            obtain ⟨y_355, hy_355, h⟩ := bindO h
                            refine Ops.st (s := 62456) (Ev.call [] [] 0 (sem_impl_peersOk N x_1 _ hy_355) rfl rfl (.cons (.agg (.cons (.c _) (.cons (.c _) (.cons (.c _) (.cons (.c _) (.cons (.c _) (.cons (.c _) (.cons (.c _) (.cons (.c _) (.cons (.c _) (.cons (.c _) (.cons (.c _) (.cons (.c _) (.cons (.c _) (.cons (.c _) .nil))))))))))))))) .nil) rfl (.inl rfl) rfl rfl) rfl rfl ?_
                            refine Ops.p rfl ?_
                            refine Ops.nil ?_
                            refine Run.ret ?_
                            obtain rfl := someO h
                            exact Ends.mkG (.inl rfl) rfl (gh_pk [0] [] hB rfl rfl rfl rfl) rfl rfl
                          · skip
                            refine Run.skip ?_
                            refine Run.seq ?_
                            refine Run.ops hm ?_
                            refine Ops.p rfl ?_
                            refine Ops.p rfl ?_
                            refine Ops.st (s := 66568) (Ev.lnF rfl) rfl rfl ?_
                            refine Ops.p rfl ?_
                            refine Ops.p rfl ?_
                            refine Ops.nil ?_
                            refine Run.ret ?_
                            obtain rfl := someO h
                            exact Ends.mkG (.inl rfl) rfl (gh_pk [0] [] hB rfl rfl rfl rfl) rfl rfl
end Go.Proofs.Ytebbgdjmplceiaa.Pe.FnAlone
