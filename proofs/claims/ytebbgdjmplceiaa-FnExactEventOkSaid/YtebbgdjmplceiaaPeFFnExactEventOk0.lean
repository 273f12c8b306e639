/- Functions, as pure functions; and that Go does just that. -/
import Derived.Test.YtebbgdjmplceiaaPeTy
import Derived.Test.YtebbgdjmplceiaaPeSFnExactEventOk
namespace Go.Proofs.Ytebbgdjmplceiaa.Pe.FnExactEventOk
open Go Go.RowKit
set_option linter.unusedVariables false
set_option linter.unusedSimpArgs false
set_option maxHeartbeats 40000000
theorem hmix : Try.prog.follows .mixedOrders = true := by kernel_rfl
structure Command where
  Op : Int
  Session : Int
  Seq : Int
  Key : ByteArray
  Value : ByteArray
  Old : ByteArray
abbrev encCommand (x : Command) : List C := [.i .i64 x.Op, .i .i64 x.Session, .i .i64 x.Seq, .s x.Key, .s x.Value, .s x.Old]
structure Event where
  Kind : Int
  Node : Int
  At : Int
  Limit : Int
  Command : Command
  Conf : (List Int)
  Cut : Bool
  Whole : Int
  Part : Int
abbrev encEventL (o : Bool) (x : Event) : List C := [.i .i64 x.Kind, .i .i64 x.Node, .i .i64 x.At, .i .i64 x.Limit, .i .i64 x.Command.Op, .i .i64 x.Command.Session, .i .i64 x.Command.Seq, .s x.Command.Key, .s x.Command.Value, .s x.Command.Old, .row o 3 (x.Conf.map encI), .b x.Cut, .i .i64 x.Whole, .i .i64 x.Part]
theorem ro_encEventL (x : Event) : roCs (encEventL true x) = encEventL false x := by simp only [encEventL, roCs, roC, roRows_mapf (fun _ => rfl)]
theorem own_encEventL (x : Event) : ownCs (encEventL true x) = true := by simp only [encEventL, ownCs, ownC, Bool.and_self, Bool.and_true, Bool.true_and, own_rows (f := encI) (fun _ => rfl)]
abbrev encEvent (o : Bool) (x : Event) : List C := [.i .i64 x.Kind, .i .i64 x.Node, .i .i64 x.At, .i .i64 x.Limit, .i .i64 x.Command.Op, .i .i64 x.Command.Session, .i .i64 x.Command.Seq, .s x.Command.Key, .s x.Command.Value, .s x.Command.Old, .row o 3 (x.Conf.map encI), .b x.Cut, .i .i64 x.Whole, .i .i64 x.Part]
theorem ro_encEvent (x : Event) : roCs (encEvent true x) = encEvent false x := by simp only [encEvent, roCs, roC, roRows_mapf (fun _ => rfl)]
theorem own_encEvent (x : Event) : ownCs (encEvent true x) = true := by simp only [encEvent, ownCs, ownC, Bool.and_self, Bool.and_true, Bool.true_and, own_rows (f := encI) (fun _ => rfl)]
theorem bt3 : bytesOf Try.prog 3 ≤ 2048 := of_decide_eq_true (by kernel_rfl)
def laws_szCommand (N : Nat) (x_1 : Command) (x_2 : Int) : Option (Int) :=
 (if (decide ((w64 (x_2 - (x_1.Key.size : Int))) < (0 : Int))) = true then
 some (-1 : Int)
 else
 (if (decide ((w64 ((w64 (x_2 - (x_1.Key.size : Int))) - (x_1.Value.size : Int))) < (0 : Int))) = true then
 some (-1 : Int)
 else
 (if (decide ((w64 ((w64 ((w64 (x_2 - (x_1.Key.size : Int))) - (x_1.Value.size : Int))) - (x_1.Old.size : Int))) < (0 : Int))) = true then
 some (-1 : Int)
 else
 some (w64 ((w64 ((w64 (x_2 - (x_1.Key.size : Int))) - (x_1.Value.size : Int))) - (x_1.Old.size : Int))))))
theorem sem_laws_szCommand (N : Nat) (x_1 : Command) (x_2 : Int) (r : Int) (h : laws_szCommand N x_1 x_2 = some r) : Says Try.prog 92 [.agg [VI x_1.Op, VI x_1.Session, VI x_1.Seq, VS x_1.Key, VS x_1.Value, VS x_1.Old], VI x_2] 0 [] (VI r) [] := by
  unfold laws_szCommand at h
  refine Says.of_run s92 Try.call92 rfl fun B hB => ?_
  have hm : B.m ≤ 1000 := by omega
  refine Run.seq ?_
  refine Run.ops hm ?_
  refine Ops.st (s := 1000) (.bx rfl rfl) rfl rfl ?_
  refine Ops.p rfl ?_
  refine Ops.nil ?_
  refine Run.seq ?_
  refine Run.ops hm ?_
  refine Ops.p rfl ?_
  refine Ops.p rfl ?_
  refine Ops.p rfl ?_
  refine Ops.p rfl ?_
  refine Ops.p rfl ?_
  refine Ops.p rfl ?_
  refine Ops.nil ?_
  refine Run.seq ?_
  refine Run.seq ?_
  refine Run.ops hm ?_
  refine Ops.p rfl ?_
  refine Ops.p rfl ?_
  refine Ops.nil ?_
  refine Run.condO rfl h (fun g_107 h => ?_) (fun g_107 h => ?_)
  · skip
    refine Run.seq ?_
    refine Run.ops hm ?_
    refine Ops.p rfl ?_
    refine Ops.nil ?_
    refine Run.ret ?_
    obtain rfl := someO h
    exact Ends.mk (.inl rfl) hB rfl rfl rfl rfl
  · skip
    refine Run.skip ?_
    refine Run.seq ?_
    refine Run.ops hm ?_
    refine Ops.p rfl ?_
    refine Ops.p rfl ?_
    refine Ops.p rfl ?_
    refine Ops.p rfl ?_
    refine Ops.p rfl ?_
    refine Ops.p rfl ?_
    refine Ops.nil ?_
    refine Run.seq ?_
    refine Run.seq ?_
    refine Run.ops hm ?_
    refine Ops.p rfl ?_
    refine Ops.p rfl ?_
    refine Ops.nil ?_
    refine Run.condO rfl h (fun g_109 h => ?_) (fun g_109 h => ?_)
    · skip
      refine Run.seq ?_
      refine Run.ops hm ?_
      refine Ops.p rfl ?_
      refine Ops.nil ?_
      refine Run.ret ?_
      obtain rfl := someO h
      exact Ends.mk (.inl rfl) hB rfl rfl rfl rfl
    · skip
      refine Run.skip ?_
      refine Run.seq ?_
      refine Run.ops hm ?_
      refine Ops.p rfl ?_
      refine Ops.p rfl ?_
      refine Ops.p rfl ?_
      refine Ops.p rfl ?_
      refine Ops.p rfl ?_
      refine Ops.p rfl ?_
      refine Ops.nil ?_
      refine Run.seq ?_
      refine Run.seq ?_
      refine Run.ops hm ?_
      refine Ops.p rfl ?_
      refine Ops.p rfl ?_
      refine Ops.nil ?_
      refine Run.condO rfl h (fun g_111 h => ?_) (fun g_111 h => ?_)
      · skip
        refine Run.seq ?_
        refine Run.ops hm ?_
        refine Ops.p rfl ?_
        refine Ops.nil ?_
        refine Run.ret ?_
        obtain rfl := someO h
        exact Ends.mk (.inl rfl) hB rfl rfl rfl rfl
      · skip
        refine Run.skip ?_
        refine Run.seq ?_
        refine Run.ops hm ?_
        refine Ops.p rfl ?_
        refine Ops.p rfl ?_
        refine Ops.nil ?_
        refine Run.ret ?_
        obtain rfl := someO h
        exact Ends.mk (.inl rfl) hB rfl rfl rfl rfl
def laws_szIntS (N : Nat) (x_1 : (List Int)) (x_2 : Int) : Option (Int) :=
 (if (decide ((w64 (x_2 - (x_1.length : Int))) < (0 : Int))) = true then
 some (-1 : Int)
 else
 some (w64 (x_2 - (x_1.length : Int))))
theorem sem_laws_szIntS (N : Nat) (x_1 : (List Int)) (x_2 : Int) (r : Int) (h : laws_szIntS N x_1 x_2 = some r) : Says Try.prog 93 [RO 3 (x_1.map encI), VI x_2] 0 [] (VI r) [] := by
  unfold laws_szIntS at h
  refine Says.of_run s93 Try.call93 rfl fun B hB => ?_
  have hm : B.m ≤ 1000 := by omega
  refine Run.seq ?_
  refine Run.ops hm ?_
  refine Ops.p rfl ?_
  refine Ops.nil ?_
  refine Run.seq ?_
  refine Run.ops hm ?_
  refine Ops.p rfl ?_
  refine Ops.p rfl ?_
  refine Ops.st (s := 5128) (Ev.lnF rfl) rfl rfl ?_
  refine Ops.p rfl ?_
  refine Ops.p rfl ?_
  refine Ops.nil ?_
  refine Run.seq ?_
  refine Run.seq ?_
  refine Run.ops hm ?_
  refine Ops.p rfl ?_
  refine Ops.p rfl ?_
  refine Ops.nil ?_
  refine Run.condO rfl h (fun g_103 h => ?_) (fun g_103 h => ?_)
  · skip
    refine Run.seq ?_
    refine Run.ops hm ?_
    refine Ops.p rfl ?_
    refine Ops.nil ?_
    refine Run.ret ?_
    obtain rfl := someO h
    exact Ends.mk (.inl rfl) hB rfl rfl rfl rfl
  · skip
    refine Run.skip ?_
    refine Run.seq ?_
    refine Run.ops hm ?_
    refine Ops.p rfl ?_
    refine Ops.p rfl ?_
    refine Ops.nil ?_
    refine Run.ret ?_
    obtain rfl := someO h
    exact Ends.mk (.inl rfl) hB rfl rfl rfl rfl
def laws_szEvent (N : Nat) (x_1 : Event) (x_2 : Int) : Option (Int) :=
 (laws_szCommand N x_1.Command x_2).bind fun y_109 =>
 (if (decide (y_109 < (0 : Int))) = true then
 some (-1 : Int)
 else
 (laws_szIntS N x_1.Conf y_109).bind fun y_113 =>
 (if (decide (y_113 < (0 : Int))) = true then
 some (-1 : Int)
 else
 some y_113))
theorem sem_laws_szEvent (N : Nat) (x_1 : Event) (x_2 : Int) (r : Int) (h : laws_szEvent N x_1 x_2 = some r) : Says Try.prog 36 [.agg [VI x_1.Kind, VI x_1.Node, VI x_1.At, VI x_1.Limit, VI x_1.Command.Op, VI x_1.Command.Session, VI x_1.Command.Seq, VS x_1.Command.Key, VS x_1.Command.Value, VS x_1.Command.Old, RO 3 (x_1.Conf.map encI), VB x_1.Cut, VI x_1.Whole, VI x_1.Part], VI x_2] 0 [] (VI r) [] := by
  unfold laws_szEvent at h
  refine Says.of_run s36 Try.call36 rfl fun B hB => ?_
  have hm : B.m ≤ 1000 := by omega
  refine Run.seq ?_
  refine Run.ops hm ?_
  refine Ops.st (s := 1000) (.bx rfl rfl) rfl rfl ?_
  refine Ops.p rfl ?_
  refine Ops.nil ?_
  refine Run.seq ?_
  refine Run.ops hm ?_
  refine Ops.p rfl ?_
  refine Ops.p rfl ?_
  refine Ops.p rfl ?_
  obtain ⟨y_109, hy_109, h⟩ := bindO h
  refine Ops.st (s := 5144) (Ev.call [] [] 0 (sem_laws_szCommand N x_1.Command x_2 _ hy_109) rfl rfl (.cons (.agg (.cons (.c _) (.cons (.c _) (.cons (.c _) (.cons (.c _) (.cons (.c _) (.cons (.c _) .nil))))))) (.cons (.c _) .nil)) rfl (.inl rfl) rfl rfl) rfl rfl ?_
  refine Ops.p rfl ?_
  refine Ops.nil ?_
  refine Run.seq ?_
  refine Run.seq ?_
  refine Run.ops hm ?_
  refine Ops.p rfl ?_
  refine Ops.p rfl ?_
  refine Ops.nil ?_
  refine Run.condO rfl h (fun g_111 h => ?_) (fun g_111 h => ?_)
  · skip
    refine Run.seq ?_
    refine Run.ops hm ?_
    refine Ops.p rfl ?_
    refine Ops.nil ?_
    refine Run.ret ?_
    obtain rfl := someO h
    exact Ends.mk (.inl rfl) hB rfl rfl rfl rfl
  · skip
    refine Run.skip ?_
    refine Run.seq ?_
    refine Run.ops hm ?_
    refine Ops.p rfl ?_
    refine Ops.p rfl ?_
    refine Ops.p rfl ?_
    obtain ⟨y_113, hy_113, h⟩ := bindO h
    refine Ops.st (s := 17432) (Ev.call [] [] 0 (sem_laws_szIntS N x_1.Conf y_109 _ hy_113) rfl rfl (.cons (.c _) (.cons (.c _) .nil)) rfl (.inl rfl) rfl rfl) rfl rfl ?_
    refine Ops.p rfl ?_
    refine Ops.nil ?_
    refine Run.seq ?_
    refine Run.seq ?_
    refine Run.ops hm ?_
    refine Ops.p rfl ?_
    refine Ops.p rfl ?_
    refine Ops.nil ?_
    refine Run.condO rfl h (fun g_115 h => ?_) (fun g_115 h => ?_)
    · skip
      refine Run.seq ?_
      refine Run.ops hm ?_
      refine Ops.p rfl ?_
      refine Ops.nil ?_
      refine Run.ret ?_
      obtain rfl := someO h
      exact Ends.mk (.inl rfl) hB rfl rfl rfl rfl
    · skip
      refine Run.skip ?_
      refine Run.seq ?_
      refine Run.ops hm ?_
      refine Ops.p rfl ?_
      refine Ops.p rfl ?_
      refine Ops.nil ?_
      refine Run.ret ?_
      obtain rfl := someO h
      exact Ends.mk (.inl rfl) hB rfl rfl rfl rfl
def laws_toCommand (N : Nat) (x_1 : Command) : Option (Command) :=
 some x_1
theorem sem_laws_toCommand (N : Nat) (x_1 : Command) (r : Command) (h : laws_toCommand N x_1 = some r) : Says Try.prog 97 [.agg [VI x_1.Op, VI x_1.Session, VI x_1.Seq, VS x_1.Key, VS x_1.Value, VS x_1.Old]] 0 [] (.agg [VI r.Op, VI r.Session, VI r.Seq, VS r.Key, VS r.Value, VS r.Old]) [] := by
  unfold laws_toCommand at h
  refine Says.of_run s97 Try.call97 rfl fun B hB => ?_
  have hm : B.m ≤ 1000 := by omega
  refine Run.seq ?_
  refine Run.ops hm ?_
  refine Ops.st (s := 1000) (.bx rfl rfl) rfl rfl ?_
  refine Ops.st (s := 1016) (.al rfl rfl) rfl rfl ?_
  refine Ops.nil ?_
  refine Run.seq ?_
  refine Run.ops hm ?_
  refine Ops.st (s := 5096) (.al rfl rfl) rfl rfl ?_
  refine Ops.nil ?_
  refine Run.seq ?_
  refine Run.ops hm ?_
  refine Ops.p rfl ?_
  refine Ops.p rfl ?_
  refine Ops.p rfl ?_
  refine Ops.s0 (s := 9240) (.sto rfl rfl rfl rfl rfl rfl) rfl rfl ?_
  refine Ops.nil ?_
  refine Run.seq ?_
  refine Run.ops hm ?_
  refine Ops.p rfl ?_
  refine Ops.p rfl ?_
  refine Ops.p rfl ?_
  refine Ops.s0 (s := 13336) (.sto rfl rfl rfl rfl rfl rfl) rfl rfl ?_
  refine Ops.nil ?_
  refine Run.seq ?_
  refine Run.ops hm ?_
  refine Ops.p rfl ?_
  refine Ops.p rfl ?_
  refine Ops.p rfl ?_
  refine Ops.s0 (s := 17432) (.sto rfl rfl rfl rfl rfl rfl) rfl rfl ?_
  refine Ops.nil ?_
  refine Run.seq ?_
  refine Run.ops hm ?_
  refine Ops.p rfl ?_
  refine Ops.p rfl ?_
  refine Ops.p rfl ?_
  refine Ops.s0 (s := 21528) (.sto rfl rfl rfl rfl rfl rfl) rfl rfl ?_
  refine Ops.nil ?_
  refine Run.seq ?_
  refine Run.ops hm ?_
  refine Ops.p rfl ?_
  refine Ops.p rfl ?_
  refine Ops.p rfl ?_
  refine Ops.s0 (s := 25624) (.sto rfl rfl rfl rfl rfl rfl) rfl rfl ?_
  refine Ops.nil ?_
  refine Run.seq ?_
  refine Run.ops hm ?_
  refine Ops.p rfl ?_
  refine Ops.p rfl ?_
  refine Ops.p rfl ?_
  refine Ops.s0 (s := 29720) (.sto rfl rfl rfl rfl rfl rfl) rfl rfl ?_
  refine Ops.nil ?_
  refine Run.seq ?_
  refine Run.ops hm ?_
  refine Ops.p rfl ?_
  refine Ops.s0 (s := 33784) (.sto rfl rfl rfl rfl rfl rfl) rfl rfl ?_
  refine Ops.nil ?_
  refine Run.ret ?_
  obtain rfl := someO h
  exact Ends.mk (.inl rfl) hB rfl rfl rfl rfl
def laws_toIntS_l1 (N : Nat) (x_1 : (List Int)) : Nat → Int → (List Int) → Option ((List Int))
 | 0, _, _ => none
 | m + 1, x_158, x_159 =>
 (if (decide (x_158 < (x_1.length : Int))) = true then
 (at? x_1 x_158).bind fun x_172 =>
 (at? x_159 x_158).bind fun x_173 =>
 laws_toIntS_l1 N x_1 m (w64 (x_158 + (1 : Int))) (x_159.set x_158.toNat x_172)
 else
 some x_159)
def laws_toIntS_l1_r (N : Nat) (x_1 : (List Int)) : (List Int) → Int → (List Int) → Option ((List Int))
 | [], x_158, x_159 =>
 some x_159
 | hd :: tl, x_158, x_159 =>
 (some hd).bind fun x_172 =>
 (at? x_159 x_158).bind fun x_173 =>
 laws_toIntS_l1_r N x_1 tl (w64 (x_158 + (1 : Int))) (x_159.set x_158.toNat x_172)
theorem laws_toIntS_l1_rng (N : Nat) (x_1 : (List Int)) (hx : x_1.length ≤ 1099511627776) : ∀ (d k m : Nat) (x_159 : (List Int)), x_1.length = k + d → d < m → laws_toIntS_l1 N x_1 m (k : Int) x_159 = laws_toIntS_l1_r N x_1 (x_1.drop k) (k : Int) x_159 := by
  intro d
  induction d with
  | zero =>
    intro k m x_159 hd hm
    obtain ⟨m, rfl⟩ : ∃ q, m = q + 1 := ⟨m - 1, by omega⟩
    rw [laws_toIntS_l1, if_neg (by simp; omega), List.drop_eq_nil_of_le (by omega), laws_toIntS_l1_r]
  | succ d ih =>
    intro k m x_159 hd hm
    obtain ⟨m, rfl⟩ : ∃ q, m = q + 1 := ⟨m - 1, by omega⟩
    have hk : k < x_1.length := by omega
    rw [laws_toIntS_l1, if_pos (by simp; omega), List.drop_eq_getElem_cons hk, laws_toIntS_l1_r]
    have h1 := at_lt hk
    have h2 := w64_succ (k := k) (by omega)
    have h3 := ih (k + 1) m
    simp only [h1, h2, h3 _ (by omega) (by omega)]
theorem laws_toIntS_l1_eq {N : Nat} (x_1 : (List Int)) (hx : x_1.length ≤ 1099511627776) (hN : x_1.length < N) (x_159 : (List Int)) : laws_toIntS_l1 N x_1 N 0 x_159 = laws_toIntS_l1_r N x_1 x_1 0 x_159 := laws_toIntS_l1_rng N x_1 hx x_1.length 0 N x_159 (by omega) hN
def laws_toIntS (N : Nat) (x_1 : (List Int)) : Option ((List Int)) :=
 (mk? (0 : Int) (x_1.length : Int)).bind fun x_138 =>
 joinP (fun (v_156 : (List Int)) =>
 some v_156) fun j_156 =>
 (laws_toIntS_l1 N x_1 N (0 : Int) x_138).bind (fun (v_166 : (List Int)) => j_156 v_166)
theorem sem_laws_toIntS (N : Nat) (x_1 : (List Int)) (r : (List Int)) (h : laws_toIntS N x_1 = some r) : Says Try.prog 66 [RO 3 (x_1.map encI)] 0 [] (.sl 0 3 0 r.length) [(0, .vec 3 (r.map encI))] := by
  unfold laws_toIntS at h
  refine Says.of_run s66 Try.call66 rfl fun B hB => ?_
  have hm : B.m ≤ 1000 := by omega
  refine Run.seq ?_
  refine Run.ops hm ?_
  refine Ops.p rfl ?_
  refine Ops.nil ?_
  refine Run.seq ?_
  refine Run.ops hm ?_
  refine Ops.p rfl ?_
  refine Ops.st (s := 5112) (Ev.lnF rfl) rfl rfl ?_
  obtain ⟨x_138, hx_138, h⟩ := bindO h
  refine Ops.st (s := 5128) (Ev.msW (f := encI) (zv := (0 : Int)) rfl rfl rfl bt3 rfl hx_138) rfl rfl ?_
  refine Ops.p rfl ?_
  refine Ops.nil ?_
  refine Run.seqO h (fun (v_156 : (List Int)) => [(3, .sl 0 3 0 v_156.length)]) (fun (v_156 : (List Int)) => [(0, .vec 3 (v_156.map encI))]) (fun h => ?_) (fun v_156 h => ?_)
  · skip
    refine Run.seq ?_
    refine Run.ops hm ?_
    refine Ops.p rfl ?_
    refine Ops.nil ?_
    refine Run.block ?_
    obtain ⟨res_166, h, hk_166⟩ := bindO h
    refine Run.loop (n := N) (fun m_166 fr σ => ∃ (x_158 : Int), ∃ (x_159 : (List Int)), laws_toIntS_l1 N x_1 m_166 x_158 x_159 = some res_166 ∧ fr = [(0, RO 3 (x_1.map encI)), (3, .sl 0 3 0 x_159.length), (4, VI x_158)] ∧ σ = [(0, .vec 3 (x_159.map encI))]) (gh_canonE (ts := [0, 3, 4]) hB rfl rfl rfl) ⟨_, _, h, rfl, rfl⟩ ?_
    rintro m_166 fr σ ⟨x_158, x_159, h, rfl, rfl⟩
    obtain _ | m_166 := m_166
    · rw [laws_toIntS_l1] at h; cases h
    rw [laws_toIntS_l1] at h
    refine Run.seq ?_
    refine Run.seq ?_
    refine Run.ops hm ?_
    refine Ops.p rfl ?_
    refine Ops.p rfl ?_
    refine Ops.st (s := 13320) (Ev.lnF rfl) rfl rfl ?_
    refine Ops.p rfl ?_
    refine Ops.nil ?_
    refine Run.condO rfl h (fun g_169 h => ?_) (fun g_169 h => ?_)
    · skip
      refine Run.skip ?_
      refine Run.seq ?_
      refine Run.block ?_
      refine Run.ops hm ?_
      refine Ops.p rfl ?_
      refine Ops.p rfl ?_
      refine Ops.p rfl ?_
      refine Ops.p rfl ?_
      obtain ⟨x_172, hx_172, h⟩ := bindO h
      refine Ops.st (s := 21544) (Ev.iaF rfl rfl hx_172) rfl rfl ?_
      refine Ops.p rfl ?_
      obtain ⟨x_173, hx_173, h⟩ := bindO h
      refine Ops.st (s := 21576) (Ev.iaW rfl rfl rfl hx_173) rfl rfl ?_
      refine Ops.s0 (s := 21592) (Ev.stE (f := encI) (v' := x_172) rfl rfl (at_some hx_173).2 rfl (.cons (.c _) .nil) rfl rfl rfl rfl rfl) rfl rfl ?_
      refine Ops.nil ?_
      refine Run.ops hm ?_
      refine Ops.p rfl ?_
      refine Ops.p rfl ?_
      refine Ops.p rfl ?_
      refine Ops.nil ?_
      exact ⟨m_166, Nat.lt_succ_self m_166, _, _, gh_canonE (ts := [0, 3, 4]) hB rfl (by first | rfl | (simp only [List.length_set]; done) | (simp only [List.length_set]; rfl)) (by first | rfl | (simp only [List.length_set]; done) | (simp only [List.length_set]; rfl)), _, _, h, rfl, rfl⟩
    · skip
      refine Run.exit ?_
      obtain rfl := someO h
      have h := hk_166
      exact ⟨_, _, gh_canonE (ts := [3]) hB rfl rfl rfl, x_159, h, rfl, rfl⟩
  · skip
    refine Run.seq ?_
    refine Run.ops hm ?_
    refine Ops.p rfl ?_
    refine Ops.p rfl ?_
    refine Ops.nil ?_
    refine Run.ret ?_
    obtain rfl := someO h
    exact Ends.mk (.inl rfl) hB rfl rfl rfl rfl
def laws_toEvent (N : Nat) (x_1 : Event) : Option (Event) :=
 (laws_toCommand N x_1.Command).bind fun y_105 =>
 (laws_toIntS N x_1.Conf).bind fun y_107 =>
 some (Event.mk x_1.Kind x_1.Node x_1.At x_1.Limit y_105 y_107 x_1.Cut x_1.Whole x_1.Part)
theorem sem_laws_toEvent (N : Nat) (x_1 : Event) (r : Event) (h : laws_toEvent N x_1 = some r) : Says Try.prog 38 [.agg [VI x_1.Kind, VI x_1.Node, VI x_1.At, VI x_1.Limit, VI x_1.Command.Op, VI x_1.Command.Session, VI x_1.Command.Seq, VS x_1.Command.Key, VS x_1.Command.Value, VS x_1.Command.Old, RO 3 (x_1.Conf.map encI), VB x_1.Cut, VI x_1.Whole, VI x_1.Part]] 0 [] (.agg [VI r.Kind, VI r.Node, VI r.At, VI r.Limit, VI r.Command.Op, VI r.Command.Session, VI r.Command.Seq, VS r.Command.Key, VS r.Command.Value, VS r.Command.Old, .sl 0 3 0 r.Conf.length, VB r.Cut, VI r.Whole, VI r.Part]) [(0, .vec 3 (r.Conf.map encI))] := by
  unfold laws_toEvent at h
  refine Says.of_run s38 Try.call38 rfl fun B hB => ?_
  have hm : B.m ≤ 1000 := by omega
  refine Run.seq ?_
  refine Run.ops hm ?_
  refine Ops.st (s := 1000) (.bx rfl rfl) rfl rfl ?_
  refine Ops.st (s := 1016) (.al rfl rfl) rfl rfl ?_
  refine Ops.nil ?_
  refine Run.seq ?_
  refine Run.ops hm ?_
  refine Ops.st (s := 5096) (.al rfl rfl) rfl rfl ?_
  refine Ops.nil ?_
  refine Run.seq ?_
  refine Run.ops hm ?_
  refine Ops.p rfl ?_
  refine Ops.p rfl ?_
  refine Ops.p rfl ?_
  refine Ops.s0 (s := 9240) (.sto rfl rfl rfl rfl rfl rfl) rfl rfl ?_
  refine Ops.nil ?_
  refine Run.seq ?_
  refine Run.ops hm ?_
  refine Ops.p rfl ?_
  refine Ops.p rfl ?_
  refine Ops.p rfl ?_
  refine Ops.s0 (s := 13336) (.sto rfl rfl rfl rfl rfl rfl) rfl rfl ?_
  refine Ops.nil ?_
  refine Run.seq ?_
  refine Run.ops hm ?_
  refine Ops.p rfl ?_
  refine Ops.p rfl ?_
  refine Ops.p rfl ?_
  refine Ops.s0 (s := 17432) (.sto rfl rfl rfl rfl rfl rfl) rfl rfl ?_
  refine Ops.nil ?_
  refine Run.seq ?_
  refine Run.ops hm ?_
  refine Ops.p rfl ?_
  refine Ops.p rfl ?_
  refine Ops.p rfl ?_
  refine Ops.s0 (s := 21528) (.sto rfl rfl rfl rfl rfl rfl) rfl rfl ?_
  refine Ops.nil ?_
  refine Run.seq ?_
  refine Run.ops hm ?_
  refine Ops.p rfl ?_
  refine Ops.p rfl ?_
  obtain ⟨y_105, hy_105, h⟩ := bindO h
  refine Ops.st (s := 25608) (Ev.call [] [] 0 (sem_laws_toCommand N x_1.Command _ hy_105) rfl rfl (.cons (.agg (.cons (.c _) (.cons (.c _) (.cons (.c _) (.cons (.c _) (.cons (.c _) (.cons (.c _) .nil))))))) .nil) rfl (.inl rfl) rfl rfl) rfl rfl ?_
  refine Ops.p rfl ?_
  refine Ops.s0 (s := 25640) (.sto rfl rfl rfl rfl rfl rfl) rfl rfl ?_
  refine Ops.nil ?_
  refine Run.seq ?_
  refine Run.ops hm ?_
  refine Ops.p rfl ?_
  refine Ops.p rfl ?_
  obtain ⟨y_107, hy_107, h⟩ := bindO h
  refine Ops.st (s := 29704) (Ev.call [] [] 1 (sem_laws_toIntS N x_1.Conf _ hy_107) rfl rfl (.cons (.c _) .nil) rfl (.inl rfl) rfl rfl) rfl rfl ?_
  refine Ops.p rfl ?_
  refine Ops.s0 (s := 29736) (.sto rfl rfl rfl rfl rfl rfl) rfl rfl ?_
  refine Ops.nil ?_
  refine Run.seq ?_
  refine Run.ops hm ?_
  refine Ops.p rfl ?_
  refine Ops.p rfl ?_
  refine Ops.p rfl ?_
  refine Ops.s0 (s := 33816) (.sto rfl rfl rfl rfl rfl rfl) rfl rfl ?_
  refine Ops.nil ?_
  refine Run.seq ?_
  refine Run.ops hm ?_
  refine Ops.p rfl ?_
  refine Ops.p rfl ?_
  refine Ops.p rfl ?_
  refine Ops.s0 (s := 37912) (.sto rfl rfl rfl rfl rfl rfl) rfl rfl ?_
  refine Ops.nil ?_
  refine Run.seq ?_
  refine Run.ops hm ?_
  refine Ops.p rfl ?_
  refine Ops.p rfl ?_
  refine Ops.p rfl ?_
  refine Ops.s0 (s := 42008) (.sto rfl rfl rfl rfl rfl rfl) rfl rfl ?_
  refine Ops.nil ?_
  refine Run.seq ?_
  refine Run.ops hm ?_
  refine Ops.p rfl ?_
  refine Ops.s0 (s := 46072) (.sto rfl rfl rfl rfl rfl rfl) rfl rfl ?_
  refine Ops.nil ?_
  refine Run.ret ?_
  obtain rfl := someO h
  exact Ends.mk (.inl rfl) hB rfl rfl rfl rfl
def spec_l01In (N : Nat) (x_1 : Int) (x_2 : Int) (x_3 : Int) : Option (Bool) :=
 (if (decide (x_1 ≥ x_2)) = true then
 some (decide (x_1 ≤ x_3))
 else
 some false)
theorem sem_spec_l01In (N : Nat) (x_1 : Int) (x_2 : Int) (x_3 : Int) (r : Bool) (h : spec_l01In N x_1 x_2 x_3 = some r) : Says Try.prog 94 [VI x_1, VI x_2, VI x_3] 0 [] (VB r) [] := by
  unfold spec_l01In at h
  refine Says.of_run s94 Try.call94 rfl fun B hB => ?_
  have hm : B.m ≤ 1000 := by omega
  refine Run.seq ?_
  refine Run.ops hm ?_
  refine Ops.p rfl ?_
  refine Ops.nil ?_
  refine Run.seq ?_
  refine Run.ops hm ?_
  refine Ops.p rfl ?_
  refine Ops.p rfl ?_
  refine Ops.p rfl ?_
  refine Ops.p rfl ?_
  refine Ops.askO (x := .t 10) rfl h (fun g_101 h => ?_) (fun g_101 h => ?_)
  · skip
    refine Ops.gp rfl g_101 rfl ?_
    refine Ops.gp rfl g_101 rfl ?_
    refine Ops.gp rfl g_101 rfl ?_
    refine Ops.st (s := 5208) (.pkT rfl g_101 rfl) rfl rfl ?_
    refine Ops.p rfl ?_
    refine Ops.nil ?_
    refine Run.ret ?_
    obtain rfl := someO h
    exact Ends.mk (.inl rfl) hB rfl rfl rfl rfl
  · skip
    refine Ops.gn rfl g_101 ?_
    refine Ops.gn rfl g_101 ?_
    refine Ops.gn rfl g_101 ?_
    refine Ops.st (s := 5208) (.pkF rfl g_101 rfl) rfl rfl ?_
    refine Ops.p rfl ?_
    refine Ops.nil ?_
    refine Run.ret ?_
    obtain rfl := someO h
    exact Ends.mk (.inl rfl) hB rfl rfl rfl rfl
def spec_CommandOk (N : Nat) (x_1 : Command) : Option (Bool) :=
 (spec_l01In N x_1.Op (1 : Int) (5 : Int)).bind fun y_135 =>
 (if (!y_135) = true then
 some false
 else
 (spec_l01In N x_1.Session (0 : Int) (100000 : Int)).bind fun y_137 =>
 (if (!y_137) = true then
 some false
 else
 (spec_l01In N x_1.Seq (0 : Int) (100000 : Int)).bind fun y_139 =>
 (if (!y_139) = true then
 some false
 else
 (if (decide ((x_1.Value.size : Int) > (12 : Int))) = true then
 some false
 else
 (if (decide ((x_1.Old.size : Int) > (12 : Int))) = true then
 some false
 else
 (if (x_1.Op == (1 : Int)) = true then
 some (((x_1.Op == (1 : Int)) && ((x_1.Session == (0 : Int)) && ((x_1.Seq == (0 : Int)) && (decide (x_1.Key = (⟨#[]⟩ : ByteArray)) && (decide (x_1.Value = (⟨#[]⟩ : ByteArray)) && (decide (x_1.Old = (⟨#[]⟩ : ByteArray)) && true)))))) ^^ false)
 else
 (spec_l01In N (x_1.Key.size : Int) (1 : Int) (9 : Int)).bind fun y_147 =>
 (if (!y_147) = true then
 some false
 else
 (if (x_1.Op == (2 : Int)) = true then
 (if (decide (x_1.Value = (⟨#[]⟩ : ByteArray))) = true then
 some (decide (x_1.Old = (⟨#[]⟩ : ByteArray)))
 else
 some false)
 else
 (if (x_1.Op == (4 : Int)) = true then
 (if (decide (x_1.Value = (⟨#[]⟩ : ByteArray))) = true then
 some (decide (x_1.Old = (⟨#[]⟩ : ByteArray)))
 else
 some false)
 else
 (if (x_1.Op == (3 : Int)) = true then
 some (decide (x_1.Old = (⟨#[]⟩ : ByteArray)))
 else
 some true))))))))))
theorem sem_spec_CommandOk (N : Nat) (x_1 : Command) (r : Bool) (h : spec_CommandOk N x_1 = some r) : Says Try.prog 95 [.agg [VI x_1.Op, VI x_1.Session, VI x_1.Seq, VS x_1.Key, VS x_1.Value, VS x_1.Old]] 0 [] (VB r) [] := by
  unfold spec_CommandOk at h
  refine Says.of_run s95 Try.call95 rfl fun B hB => ?_
  have hm : B.m ≤ 1000 := by omega
  refine Run.seq ?_
  refine Run.ops hm ?_
  refine Ops.st (s := 1000) (.bx rfl rfl) rfl rfl ?_
  refine Ops.p rfl ?_
  refine Ops.nil ?_
  refine Run.seq ?_
  refine Run.seq ?_
  refine Run.ops hm ?_
  refine Ops.p rfl ?_
  refine Ops.p rfl ?_
  obtain ⟨y_135, hy_135, h⟩ := bindO h
  refine Ops.st (s := 5128) (Ev.call [] [] 0 (sem_spec_l01In N x_1.Op (1 : Int) (5 : Int) _ hy_135) rfl rfl (.cons (.c _) (.cons (.c _) (.cons (.c _) .nil))) rfl (.inl rfl) rfl rfl) rfl rfl ?_
  refine Ops.p rfl ?_
  refine Ops.p rfl ?_
  refine Ops.askO (x := .t 7) rfl h (fun g_136 h => ?_) (fun g_136 h => ?_)
  · skip
    refine Ops.gn rfl g_136 ?_
    refine Ops.gn rfl g_136 ?_
    refine Ops.gn rfl g_136 ?_
    refine Ops.gn rfl g_136 ?_
    refine Ops.st (s := 5240) (.pkT rfl g_136 rfl) rfl rfl ?_
    refine Ops.p rfl ?_
    refine Ops.gn rfl rfl ?_
    refine Ops.gn rfl rfl ?_
    refine Ops.gn rfl rfl ?_
    refine Ops.gn rfl rfl ?_
    refine Ops.st (s := 5336) (.pkT rfl rfl rfl) rfl rfl ?_
    refine Ops.p rfl ?_
    refine Ops.gn rfl rfl ?_
    refine Ops.gn rfl rfl ?_
    refine Ops.gn rfl rfl ?_
    refine Ops.gn rfl rfl ?_
    refine Ops.st (s := 5432) (.pkT rfl rfl rfl) rfl rfl ?_
    refine Ops.p rfl ?_
    refine Ops.gn rfl rfl ?_
    refine Ops.gn rfl rfl ?_
    refine Ops.gn rfl rfl ?_
    refine Ops.gn rfl rfl ?_
    refine Ops.st (s := 5528) (.pkT rfl rfl rfl) rfl rfl ?_
    refine Ops.nil ?_
    refine Run.condT rfl rfl ?_
    refine Run.seq ?_
    refine Run.ops hm ?_
    refine Ops.p rfl ?_
    refine Ops.nil ?_
    refine Run.ret ?_
    obtain rfl := someO h
    exact Ends.mk (.inl rfl) hB rfl rfl rfl rfl
  · skip
    refine Ops.gp rfl g_136 rfl ?_
    refine Ops.gp rfl g_136 rfl ?_
    obtain ⟨y_137, hy_137, h⟩ := bindO h
    refine Ops.gs (s := 5208) rfl g_136 (Ev.call [] [] 0 (sem_spec_l01In N x_1.Session (0 : Int) (100000 : Int) _ hy_137) rfl rfl (.cons (.c _) (.cons (.c _) (.cons (.c _) .nil))) rfl (.inl rfl) rfl rfl) rfl rfl ?_
    refine Ops.gp rfl g_136 rfl ?_
    refine Ops.st (s := 5240) (.pkF rfl g_136 rfl) rfl rfl ?_
    refine Ops.p rfl ?_
    refine Ops.askO (x := .t 13) rfl h (fun g_138 h => ?_) (fun g_138 h => ?_)
    · skip
      refine Ops.gn rfl g_138 ?_
      refine Ops.gn rfl g_138 ?_
      refine Ops.gn rfl g_138 ?_
      refine Ops.gn rfl g_138 ?_
      refine Ops.st (s := 5336) (.pkT rfl g_138 rfl) rfl rfl ?_
      refine Ops.p rfl ?_
      refine Ops.gn rfl rfl ?_
      refine Ops.gn rfl rfl ?_
      refine Ops.gn rfl rfl ?_
      refine Ops.gn rfl rfl ?_
      refine Ops.st (s := 5432) (.pkT rfl rfl rfl) rfl rfl ?_
      refine Ops.p rfl ?_
      refine Ops.gn rfl rfl ?_
      refine Ops.gn rfl rfl ?_
      refine Ops.gn rfl rfl ?_
      refine Ops.gn rfl rfl ?_
      refine Ops.st (s := 5528) (.pkT rfl rfl rfl) rfl rfl ?_
      refine Ops.nil ?_
      refine Run.condT rfl rfl ?_
      refine Run.seq ?_
      refine Run.ops hm ?_
      refine Ops.p rfl ?_
      refine Ops.nil ?_
      refine Run.ret ?_
      obtain rfl := someO h
      exact Ends.mk (.inl rfl) hB rfl rfl rfl rfl
    · skip
      refine Ops.gp rfl g_138 rfl ?_
      refine Ops.gp rfl g_138 rfl ?_
      obtain ⟨y_139, hy_139, h⟩ := bindO h
      refine Ops.gs (s := 5304) rfl g_138 (Ev.call [] [] 0 (sem_spec_l01In N x_1.Seq (0 : Int) (100000 : Int) _ hy_139) rfl rfl (.cons (.c _) (.cons (.c _) (.cons (.c _) .nil))) rfl (.inl rfl) rfl rfl) rfl rfl ?_
      refine Ops.gp rfl g_138 rfl ?_
      refine Ops.st (s := 5336) (.pkF rfl g_138 rfl) rfl rfl ?_
      refine Ops.p rfl ?_
      refine Ops.askO (x := .t 19) rfl h (fun g_140 h => ?_) (fun g_140 h => ?_)
      · skip
        refine Ops.gn rfl g_140 ?_
        refine Ops.gn rfl g_140 ?_
        refine Ops.gn rfl g_140 ?_
        refine Ops.gn rfl g_140 ?_
        refine Ops.st (s := 5432) (.pkT rfl g_140 rfl) rfl rfl ?_
        refine Ops.p rfl ?_
        refine Ops.gn rfl rfl ?_
        refine Ops.gn rfl rfl ?_
        refine Ops.gn rfl rfl ?_
        refine Ops.gn rfl rfl ?_
        refine Ops.st (s := 5528) (.pkT rfl rfl rfl) rfl rfl ?_
        refine Ops.nil ?_
        refine Run.condT rfl rfl ?_
        refine Run.seq ?_
        refine Run.ops hm ?_
        refine Ops.p rfl ?_
        refine Ops.nil ?_
        refine Run.ret ?_
        obtain rfl := someO h
        exact Ends.mk (.inl rfl) hB rfl rfl rfl rfl
      · skip
        refine Ops.gp rfl g_140 rfl ?_
        refine Ops.gp rfl g_140 rfl ?_
        refine Ops.gp rfl g_140 rfl ?_
        refine Ops.gp rfl g_140 rfl ?_
        refine Ops.st (s := 5432) (.pkF rfl g_140 rfl) rfl rfl ?_
        refine Ops.p rfl ?_
        refine Ops.askO (x := .t 25) rfl h (fun g_141 h => ?_) (fun g_141 h => ?_)
        · skip
          refine Ops.gn rfl g_141 ?_
          refine Ops.gn rfl g_141 ?_
          refine Ops.gn rfl g_141 ?_
          refine Ops.gn rfl g_141 ?_
          refine Ops.st (s := 5528) (.pkT rfl g_141 rfl) rfl rfl ?_
          refine Ops.nil ?_
          refine Run.condT rfl rfl ?_
          refine Run.seq ?_
          refine Run.ops hm ?_
          refine Ops.p rfl ?_
          refine Ops.nil ?_
          refine Run.ret ?_
          obtain rfl := someO h
          exact Ends.mk (.inl rfl) hB rfl rfl rfl rfl
        · skip
          refine Ops.gp rfl g_141 rfl ?_
          refine Ops.gp rfl g_141 rfl ?_
          refine Ops.gp rfl g_141 rfl ?_
          refine Ops.gp rfl g_141 rfl ?_
          refine Ops.st (s := 5528) (.pkF rfl g_141 rfl) rfl rfl ?_
          refine Ops.nil ?_
          refine Run.condO rfl h (fun g_142 h => ?_) (fun g_142 h => ?_)
          · skip
            refine Run.seq ?_
            refine Run.ops hm ?_
            refine Ops.p rfl ?_
            refine Ops.nil ?_
            refine Run.ret ?_
            obtain rfl := someO h
            exact Ends.mk (.inl rfl) hB rfl rfl rfl rfl
          · skip
            refine Run.skip ?_
            refine Run.seq ?_
            refine Run.seq ?_
            refine Run.ops hm ?_
            refine Ops.p rfl ?_
            refine Ops.p rfl ?_
            refine Ops.p rfl ?_
            refine Ops.nil ?_
            refine Run.condO rfl h (fun g_144 h => ?_) (fun g_144 h => ?_)
            · skip
              refine Run.seq ?_
              refine Run.ops hm ?_
              refine Ops.p rfl ?_
              refine Ops.st (s := 17400) (.bd rfl rfl) rfl rfl ?_
              refine Ops.p rfl ?_
              refine Ops.p rfl ?_
              refine Ops.nil ?_
              refine Run.ret ?_
              obtain rfl := someO h
              exact Ends.mk (.inl rfl) hB rfl rfl rfl rfl
            · skip
              refine Run.skip ?_
              refine Run.seq ?_
              refine Run.seq ?_
              refine Run.ops hm ?_
              refine Ops.p rfl ?_
              refine Ops.p rfl ?_
              refine Ops.p rfl ?_
              obtain ⟨y_147, hy_147, h⟩ := bindO h
              refine Ops.st (s := 21528) (Ev.call [] [] 0 (sem_spec_l01In N (x_1.Key.size : Int) (1 : Int) (9 : Int) _ hy_147) rfl rfl (.cons (.c _) (.cons (.c _) (.cons (.c _) .nil))) rfl (.inl rfl) rfl rfl) rfl rfl ?_
              refine Ops.p rfl ?_
              refine Ops.nil ?_
              refine Run.condO rfl h (fun g_148 h => ?_) (fun g_148 h => ?_)
              · skip
                refine Run.seq ?_
                refine Run.ops hm ?_
                refine Ops.p rfl ?_
                refine Ops.nil ?_
                refine Run.ret ?_
                obtain rfl := someO h
                exact Ends.mk (.inl rfl) hB rfl rfl rfl rfl
              · skip
                refine Run.skip ?_
                refine Run.seq ?_
                refine Run.seq ?_
                refine Run.ops hm ?_
                refine Ops.p rfl ?_
                refine Ops.p rfl ?_
                refine Ops.nil ?_
                refine Run.block ?_
                refine Run.seq ?_
                refine Run.seq ?_
                refine Run.ops hm ?_
                refine Ops.p rfl ?_
                refine Ops.p rfl ?_
                refine Ops.nil ?_
                refine Run.condO rfl h (fun g_149 h => ?_) (fun g_149 h => ?_)
                · skip
                  refine Run.skip ?_
                  refine Run.condT rfl g_149 ?_
                  refine Run.seq ?_
                  refine Run.ops hm ?_
                  refine Ops.p rfl ?_
                  refine Ops.p rfl ?_
                  refine Ops.p rfl ?_
                  refine Ops.p rfl ?_
                  refine Ops.askO (x := .t 50) rfl h (fun g_150 h => ?_) (fun g_150 h => ?_)
                  · skip
                    refine Ops.gp rfl g_150 rfl ?_
                    refine Ops.gp rfl g_150 rfl ?_
                    refine Ops.gp rfl g_150 rfl ?_
                    refine Ops.st (s := 42072) (.pkT rfl g_150 rfl) rfl rfl ?_
                    refine Ops.p rfl ?_
                    refine Ops.nil ?_
                    refine Run.ret ?_
                    obtain rfl := someO h
                    exact Ends.mk (.inl rfl) hB rfl rfl rfl rfl
                  · skip
                    refine Ops.gn rfl g_150 ?_
                    refine Ops.gn rfl g_150 ?_
                    refine Ops.gn rfl g_150 ?_
                    refine Ops.st (s := 42072) (.pkF rfl g_150 rfl) rfl rfl ?_
                    refine Ops.p rfl ?_
                    refine Ops.nil ?_
                    refine Run.ret ?_
                    obtain rfl := someO h
                    exact Ends.mk (.inl rfl) hB rfl rfl rfl rfl
                · skip
                  refine Run.ops hm ?_
                  refine Ops.p rfl ?_
                  refine Ops.p rfl ?_
                  refine Ops.nil ?_
                  refine Run.condO rfl h (fun g_151 h => ?_) (fun g_151 h => ?_)
                  · skip
                    refine Run.seq ?_
                    refine Run.ops hm ?_
                    refine Ops.p rfl ?_
                    refine Ops.p rfl ?_
                    refine Ops.p rfl ?_
                    refine Ops.p rfl ?_
                    refine Ops.askO (x := .t 50) rfl h (fun g_152 h => ?_) (fun g_152 h => ?_)
                    · skip
                      refine Ops.gp rfl g_152 rfl ?_
                      refine Ops.gp rfl g_152 rfl ?_
                      refine Ops.gp rfl g_152 rfl ?_
                      refine Ops.st (s := 42072) (.pkT rfl g_152 rfl) rfl rfl ?_
                      refine Ops.p rfl ?_
                      refine Ops.nil ?_
                      refine Run.ret ?_
                      obtain rfl := someO h
                      exact Ends.mk (.inl rfl) hB rfl rfl rfl rfl
                    · skip
                      refine Ops.gn rfl g_152 ?_
                      refine Ops.gn rfl g_152 ?_
                      refine Ops.gn rfl g_152 ?_
                      refine Ops.st (s := 42072) (.pkF rfl g_152 rfl) rfl rfl ?_
                      refine Ops.p rfl ?_
                      refine Ops.nil ?_
                      refine Run.ret ?_
                      obtain rfl := someO h
                      exact Ends.mk (.inl rfl) hB rfl rfl rfl rfl
                  · skip
                    refine Run.seq ?_
                    refine Run.ops hm ?_
                    refine Ops.p rfl ?_
                    refine Ops.p rfl ?_
                    refine Ops.nil ?_
                    refine Run.condO rfl h (fun g_153 h => ?_) (fun g_153 h => ?_)
                    · skip
                      refine Run.seq ?_
                      refine Run.ops hm ?_
                      refine Ops.p rfl ?_
                      refine Ops.p rfl ?_
                      refine Ops.p rfl ?_
                      refine Ops.p rfl ?_
                      refine Ops.nil ?_
                      refine Run.ret ?_
                      obtain rfl := someO h
                      exact Ends.mk (.inl rfl) hB rfl rfl rfl rfl
                    · skip
                      refine Run.skip ?_
                      refine Run.seq ?_
                      refine Run.ops hm ?_
                      refine Ops.p rfl ?_
                      refine Ops.nil ?_
                      refine Run.ret ?_
                      obtain rfl := someO h
                      exact Ends.mk (.inl rfl) hB rfl rfl rfl rfl
def spec_l07Rise_l1 (N : Nat) (x_1 : (List Int)) (x_2 : Int) (x_3 : Int) : Nat → Int → Option ((Bool) ⊕ (Unit))
 | 0, _ => none
 | m + 1, x_228 =>
 (if (decide (x_228 < (x_1.length : Int))) = true then
 joinP (fun (v_258 : Unit) =>
 spec_l07Rise_l1 N x_1 x_2 x_3 m (w64 (x_228 + (1 : Int)))) fun j_258 =>
 (at? x_1 x_228).bind fun x_259 =>
 (spec_l01In N x_259 x_2 x_3).bind fun y_260 =>
 (if (!y_260) = true then
 some (Sum.inl false)
 else
 (if (decide (x_228 > (0 : Int))) = true then
 (at? x_1 (w64 (x_228 - (1 : Int)))).bind fun x_263 =>
 (at? x_1 x_228).bind fun x_264 =>
 (if (decide (x_263 ≥ x_264)) = true then
 some (Sum.inl false)
 else
 j_258 ())
 else
 j_258 ()))
 else
 some (Sum.inr ()))
def spec_l07Rise_l1_r (N : Nat) (x_1 : (List Int)) (x_2 : Int) (x_3 : Int) : (List Int) → Int → Option ((Bool) ⊕ (Unit))
 | [], x_228 =>
 some (Sum.inr ())
 | hd :: tl, x_228 =>
 joinP (fun (v_258 : Unit) =>
 spec_l07Rise_l1_r N x_1 x_2 x_3 tl (w64 (x_228 + (1 : Int)))) fun j_258 =>
 (some hd).bind fun x_259 =>
 (spec_l01In N x_259 x_2 x_3).bind fun y_260 =>
 (if (!y_260) = true then
 some (Sum.inl false)
 else
 (if (decide (x_228 > (0 : Int))) = true then
 (at? x_1 (w64 (x_228 - (1 : Int)))).bind fun x_263 =>
 (some hd).bind fun x_264 =>
 (if (decide (x_263 ≥ x_264)) = true then
 some (Sum.inl false)
 else
 j_258 ())
 else
 j_258 ()))
theorem spec_l07Rise_l1_rng (N : Nat) (x_1 : (List Int)) (x_2 : Int) (x_3 : Int) (hx : x_1.length ≤ 1099511627776) : ∀ (d k m : Nat), x_1.length = k + d → d < m → spec_l07Rise_l1 N x_1 x_2 x_3 m (k : Int) = spec_l07Rise_l1_r N x_1 x_2 x_3 (x_1.drop k) (k : Int) := by
  intro d
  induction d with
  | zero =>
    intro k m hd hm
    obtain ⟨m, rfl⟩ : ∃ q, m = q + 1 := ⟨m - 1, by omega⟩
    rw [spec_l07Rise_l1, if_neg (by simp; omega), List.drop_eq_nil_of_le (by omega), spec_l07Rise_l1_r]
  | succ d ih =>
    intro k m hd hm
    obtain ⟨m, rfl⟩ : ∃ q, m = q + 1 := ⟨m - 1, by omega⟩
    have hk : k < x_1.length := by omega
    rw [spec_l07Rise_l1, if_pos (by simp; omega), List.drop_eq_getElem_cons hk, spec_l07Rise_l1_r]
    have h1 := at_lt hk
    have h2 := w64_succ (k := k) (by omega)
    have h3 := ih (k + 1) m
    simp only [h1, h2, h3 (by omega) (by omega)]
theorem spec_l07Rise_l1_eq {N : Nat} (x_1 : (List Int)) (x_2 : Int) (x_3 : Int) (hx : x_1.length ≤ 1099511627776) (hN : x_1.length < N) : spec_l07Rise_l1 N x_1 x_2 x_3 N 0 = spec_l07Rise_l1_r N x_1 x_2 x_3 x_1 0 := spec_l07Rise_l1_rng N x_1 x_2 x_3 hx x_1.length 0 N (by omega) hN
def spec_l07Rise (N : Nat) (x_1 : (List Int)) (x_2 : Int) (x_3 : Int) : Option (Bool) :=
 joinP (fun (v_224 : Unit) =>
 some true) fun j_224 =>
 (spec_l07Rise_l1 N x_1 x_2 x_3 N (0 : Int)).bind (Sum.elim (fun v_246 => some v_246) (fun (v_247 : Unit) => j_224 ()))
theorem sem_spec_l07Rise (N : Nat) (x_1 : (List Int)) (x_2 : Int) (x_3 : Int) (r : Bool) (h : spec_l07Rise N x_1 x_2 x_3 = some r) : Says Try.prog 131 [RO 3 (x_1.map encI), VI x_2, VI x_3] 0 [] (VB r) [] := by
  unfold spec_l07Rise at h
  refine Says.of_run s131 Try.call131 rfl fun B hB => ?_
  have hm : B.m ≤ 1000 := by omega
  refine Run.seq ?_
  refine Run.ops hm ?_
  refine Ops.p rfl ?_
  refine Ops.nil ?_
  refine Run.seqO h (fun (v_224 : Unit) => []) (fun (v_224 : Unit) => []) (fun h => ?_) (fun v_224 h => ?_)
  · skip
    refine Run.seq ?_
    refine Run.ops hm ?_
    refine Ops.p rfl ?_
    refine Ops.nil ?_
    refine Run.block ?_
    obtain ⟨res_247, h, hk_247⟩ := bindO h
    refine Run.loop (n := N) (fun m_247 fr σ => ∃ (x_228 : Int), spec_l07Rise_l1 N x_1 x_2 x_3 m_247 x_228 = some res_247 ∧ fr = [(0, RO 3 (x_1.map encI)), (1, VI x_2), (2, VI x_3), (7, VI x_228)] ∧ σ = []) (gh_canonE (ts := [0, 1, 2, 7]) hB rfl rfl rfl) ⟨_, h, rfl, rfl⟩ ?_
    rintro m_247 fr σ ⟨x_228, h, rfl, rfl⟩
    obtain _ | m_247 := m_247
    · rw [spec_l07Rise_l1] at h; cases h
    rw [spec_l07Rise_l1] at h
    refine Run.seq ?_
    refine Run.seq ?_
    refine Run.ops hm ?_
    refine Ops.p rfl ?_
    refine Ops.p rfl ?_
    refine Ops.st (s := 9224) (Ev.lnF rfl) rfl rfl ?_
    refine Ops.p rfl ?_
    refine Ops.nil ?_
    refine Run.condO rfl h (fun g_250 h => ?_) (fun g_250 h => ?_)
    · skip
      refine Run.skip ?_
      refine Run.seqO h (fun (v_258 : Unit) => [(0, RO 3 (x_1.map encI)), (1, VI x_2), (2, VI x_3), (7, VI x_228)]) (fun (v_258 : Unit) => []) (fun h => ?_) (fun v_258 h => ?_)
      · skip
        refine Run.block ?_
        refine Run.seq ?_
        refine Run.draw hm hmix ?_
        refine OpsD.p rfl ?_
        refine OpsD.p rfl ?_
        obtain ⟨x_259, hx_259, h⟩ := bindO h
        refine OpsD.st (s := 17416) (Ev.iaF rfl rfl hx_259) rfl rfl ?_
        refine OpsD.p rfl ?_
        refine OpsD.p rfl ?_
        refine OpsD.p rfl ?_
        obtain ⟨y_260, hy_260, h⟩ := bindO h
        refine OpsD.st (s := 17480) (Ev.call [] [] 0 (sem_spec_l01In N x_259 x_2 x_3 _ hy_260) rfl rfl (.cons (.c _) (.cons (.c _) (.cons (.c _) .nil))) rfl (.inl rfl) rfl rfl) rfl rfl ?_
        refine OpsD.p rfl ?_
        refine OpsD.p rfl ?_
        refine OpsD.askO (x := .t 22) rfl h (fun g_261 h => ?_) (fun g_261 h => ?_)
        · skip
          refine OpsD.gn rfl g_261 ?_
          refine OpsD.gn rfl g_261 ?_
          refine OpsD.gn rfl g_261 ?_
          refine OpsD.gu rfl ?_
          refine OpsD.gu rfl ?_
          refine OpsD.gu rfl ?_
          refine OpsD.gu rfl ?_
          refine OpsD.gu rfl ?_
          refine OpsD.gu rfl ?_
          refine OpsD.gu rfl ?_
          refine OpsD.gu rfl ?_
          refine OpsD.gu rfl ?_
          refine OpsD.gu rfl ?_
          refine OpsD.gn rfl g_261 ?_
          refine OpsD.st (s := 17752) (.pkT rfl g_261 rfl) rfl rfl ?_
          refine OpsD.nil ⟨by kernel_rfl, ?_⟩
          refine Run.condT rfl rfl ?_
          refine Run.seq ?_
          refine Run.ops hm ?_
          refine Ops.p rfl ?_
          refine Ops.nil ?_
          refine Run.ret ?_
          obtain rfl := someO h
          have h := hk_247
          replace h := inlO h
          obtain rfl := someO h
          exact Ends.mk (.inl rfl) hB rfl rfl rfl rfl
        · skip
          refine OpsD.gp rfl g_261 rfl ?_
          refine OpsD.gp rfl g_261 rfl ?_
          refine OpsD.gp rfl g_261 rfl ?_
          refine OpsD.askO (x := .t 25) rfl h (fun g_262 h => ?_) (fun g_262 h => ?_)
          · skip
            refine OpsD.gp rfl g_262 rfl ?_
            refine OpsD.gp rfl g_262 rfl ?_
            refine OpsD.gp rfl g_262 rfl ?_
            obtain ⟨x_263, hx_263, h⟩ := bindO h
            refine OpsD.gs (s := 17624) rfl g_262 (Ev.iaF rfl rfl hx_263) rfl rfl ?_
            refine OpsD.gp rfl g_262 rfl ?_
            refine OpsD.gp rfl g_262 rfl ?_
            refine OpsD.gp rfl g_262 rfl ?_
            obtain ⟨x_264, hx_264, h⟩ := bindO h
            refine OpsD.gs (s := 17688) rfl g_262 (Ev.iaF rfl rfl hx_264) rfl rfl ?_
            refine OpsD.gp rfl g_262 rfl ?_
            refine OpsD.gp rfl g_262 rfl ?_
            refine OpsD.gs (s := 17736) rfl g_261 (.pkT rfl g_262 rfl) rfl rfl ?_
            refine OpsD.st (s := 17752) (.pkF rfl g_261 rfl) rfl rfl ?_
            refine OpsD.nil ⟨by kernel_rfl, ?_⟩
            refine Run.condO rfl h (fun g_265 h => ?_) (fun g_265 h => ?_)
            · skip
              refine Run.seq ?_
              refine Run.ops hm ?_
              refine Ops.p rfl ?_
              refine Ops.nil ?_
              refine Run.ret ?_
              obtain rfl := someO h
              have h := hk_247
              replace h := inlO h
              obtain rfl := someO h
              exact Ends.mk (.inl rfl) hB rfl rfl rfl rfl
            · skip
              refine Run.skip ?_
              exact ⟨_, _, gh_canonE (ts := [0, 1, 2, 7]) hB rfl rfl rfl, (), h, rfl, rfl⟩
          · skip
            refine OpsD.gn rfl g_262 ?_
            refine OpsD.gn rfl g_262 ?_
            refine OpsD.gn rfl g_262 ?_
            refine OpsD.gn rfl g_262 ?_
            refine OpsD.gn rfl g_262 ?_
            refine OpsD.gn rfl g_262 ?_
            refine OpsD.gn rfl g_262 ?_
            refine OpsD.gn rfl g_262 ?_
            refine OpsD.gn rfl g_262 ?_
            refine OpsD.gn rfl g_262 ?_
            refine OpsD.gs (s := 17736) rfl g_261 (.pkF rfl g_262 rfl) rfl rfl ?_
            refine OpsD.st (s := 17752) (.pkF rfl g_261 rfl) rfl rfl ?_
            refine OpsD.nil ⟨by kernel_rfl, ?_⟩
            refine Run.condF rfl rfl ?_
            refine Run.skip ?_
            exact ⟨_, _, gh_canonE (ts := [0, 1, 2, 7]) hB rfl rfl rfl, (), h, rfl, rfl⟩
      · skip
        refine Run.ops hm ?_
        refine Ops.p rfl ?_
        refine Ops.p rfl ?_
        refine Ops.p rfl ?_
        refine Ops.nil ?_
        exact ⟨m_247, Nat.lt_succ_self m_247, _, _, gh_canonE (ts := [0, 1, 2, 7]) hB rfl rfl rfl, _, h, rfl, rfl⟩
    · skip
      refine Run.exit ?_
      obtain rfl := someO h
      have h := hk_247
      replace h := inrO h
      exact ⟨_, _, gh_canonE (ts := []) hB rfl rfl rfl, (), h, rfl, rfl⟩
  · skip
    refine Run.seq ?_
    refine Run.ops hm ?_
    refine Ops.p rfl ?_
    refine Ops.nil ?_
    refine Run.ret ?_
    obtain rfl := someO h
    exact Ends.mk (.inl rfl) hB rfl rfl rfl rfl
def spec_ConfOk (N : Nat) (x_1 : (List Int)) : Option (Bool) :=
 (spec_l01In N (x_1.length : Int) (1 : Int) (4 : Int)).bind fun y_103 =>
 (if y_103 = true then
 (spec_l07Rise N x_1 (1 : Int) (4 : Int)).bind fun y_105 =>
 some y_105
 else
 some false)
theorem sem_spec_ConfOk (N : Nat) (x_1 : (List Int)) (r : Bool) (h : spec_ConfOk N x_1 = some r) : Says Try.prog 96 [RO 3 (x_1.map encI)] 0 [] (VB r) [] := by
  unfold spec_ConfOk at h
  refine Says.of_run s96 Try.call96 rfl fun B hB => ?_
  have hm : B.m ≤ 1000 := by omega
  refine Run.seq ?_
  refine Run.ops hm ?_
  refine Ops.p rfl ?_
  refine Ops.nil ?_
  refine Run.seq ?_
  refine Run.ops hm ?_
  refine Ops.p rfl ?_
  refine Ops.st (s := 5112) (Ev.lnF rfl) rfl rfl ?_
  obtain ⟨y_103, hy_103, h⟩ := bindO h
  refine Ops.st (s := 5128) (Ev.call [] [] 0 (sem_spec_l01In N (x_1.length : Int) (1 : Int) (4 : Int) _ hy_103) rfl rfl (.cons (.c _) (.cons (.c _) (.cons (.c _) .nil))) rfl (.inl rfl) rfl rfl) rfl rfl ?_
  refine Ops.p rfl ?_
  refine Ops.askO (x := .t 6) rfl h (fun g_104 h => ?_) (fun g_104 h => ?_)
  · skip
    refine Ops.gp rfl g_104 rfl ?_
    obtain ⟨y_105, hy_105, h⟩ := bindO h
    refine Ops.gs (s := 5176) rfl g_104 (Ev.call [] [] 0 (sem_spec_l07Rise N x_1 (1 : Int) (4 : Int) _ hy_105) rfl rfl (.cons (.c _) (.cons (.c _) (.cons (.c _) .nil))) rfl (.inl rfl) rfl rfl) rfl rfl ?_
    refine Ops.st (s := 5192) (.pkT rfl g_104 rfl) rfl rfl ?_
    refine Ops.p rfl ?_
    refine Ops.nil ?_
    refine Run.ret ?_
    obtain rfl := someO h
    exact Ends.mk (.inl rfl) hB rfl rfl rfl rfl
  · skip
    refine Ops.gn rfl g_104 ?_
    refine Ops.gn rfl g_104 ?_
    refine Ops.st (s := 5192) (.pkF rfl g_104 rfl) rfl rfl ?_
    refine Ops.p rfl ?_
    refine Ops.nil ?_
    refine Run.ret ?_
    obtain rfl := someO h
    exact Ends.mk (.inl rfl) hB rfl rfl rfl rfl
def spec_EventOk (N : Nat) (x_1 : Int) (x_2 : Event) : Option (Bool) :=
 (spec_l01In N x_1 (1 : Int) (4 : Int)).bind fun y_131 =>
 (if (!y_131) = true then
 some false
 else
 (spec_l01In N x_2.Kind (1 : Int) (9 : Int)).bind fun y_133 =>
 (if (!y_133) = true then
 some false
 else
 (spec_l01In N x_2.Node (1 : Int) x_1).bind fun y_135 =>
 (if (!y_135) = true then
 some false
 else
 (if (decide (x_2.At < (0 : Int))) = true then
 some false
 else
 (if (x_2.Kind == (1 : Int)) = true then
 (spec_l01In N x_2.Limit (1 : Int) (20 : Int)).bind fun y_139 =>
 some y_139
 else
 (if (x_2.Kind == (9 : Int)) = true then
 (spec_l01In N x_2.Limit (1 : Int) (20 : Int)).bind fun y_141 =>
 some y_141
 else
 (if (x_2.Kind == (5 : Int)) = true then
 (spec_CommandOk N x_2.Command).bind fun y_143 =>
 some y_143
 else
 (if (x_2.Kind == (6 : Int)) = true then
 (spec_ConfOk N x_2.Conf).bind fun y_145 =>
 (if y_145 = true then
 (at? x_2.Conf (w64 ((x_2.Conf.length : Int) - (1 : Int)))).bind fun x_147 =>
 some (decide (x_147 ≤ x_1))
 else
 some false)
 else
 some true))))))))
theorem sem_spec_EventOk (N : Nat) (x_1 : Int) (x_2 : Event) (r : Bool) (h : spec_EventOk N x_1 x_2 = some r) : Says Try.prog 37 [VI x_1, .agg [VI x_2.Kind, VI x_2.Node, VI x_2.At, VI x_2.Limit, VI x_2.Command.Op, VI x_2.Command.Session, VI x_2.Command.Seq, VS x_2.Command.Key, VS x_2.Command.Value, VS x_2.Command.Old, RO 3 (x_2.Conf.map encI), VB x_2.Cut, VI x_2.Whole, VI x_2.Part]] 0 [] (VB r) [] := by
  unfold spec_EventOk at h
  refine Says.of_run s37 Try.call37 rfl fun B hB => ?_
  have hm : B.m ≤ 1000 := by omega
  refine Run.seq ?_
  refine Run.ops hm ?_
  refine Ops.st (s := 1000) (.bx rfl rfl) rfl rfl ?_
  refine Ops.p rfl ?_
  refine Ops.nil ?_
  refine Run.seq ?_
  refine Run.seq ?_
  refine Run.ops hm ?_
  refine Ops.p rfl ?_
  obtain ⟨y_131, hy_131, h⟩ := bindO h
  refine Ops.st (s := 5112) (Ev.call [] [] 0 (sem_spec_l01In N x_1 (1 : Int) (4 : Int) _ hy_131) rfl rfl (.cons (.c _) (.cons (.c _) (.cons (.c _) .nil))) rfl (.inl rfl) rfl rfl) rfl rfl ?_
  refine Ops.p rfl ?_
  refine Ops.p rfl ?_
  refine Ops.askO (x := .t 8) rfl h (fun g_132 h => ?_) (fun g_132 h => ?_)
  · skip
    refine Ops.gn rfl g_132 ?_
    refine Ops.gn rfl g_132 ?_
    refine Ops.gn rfl g_132 ?_
    refine Ops.gn rfl g_132 ?_
    refine Ops.st (s := 5224) (.pkT rfl g_132 rfl) rfl rfl ?_
    refine Ops.p rfl ?_
    refine Ops.gn rfl rfl ?_
    refine Ops.gn rfl rfl ?_
    refine Ops.gn rfl rfl ?_
    refine Ops.gn rfl rfl ?_
    refine Ops.gn rfl rfl ?_
    refine Ops.st (s := 5336) (.pkT rfl rfl rfl) rfl rfl ?_
    refine Ops.p rfl ?_
    refine Ops.gn rfl rfl ?_
    refine Ops.gn rfl rfl ?_
    refine Ops.gn rfl rfl ?_
    refine Ops.st (s := 5416) (.pkT rfl rfl rfl) rfl rfl ?_
    refine Ops.nil ?_
    refine Run.condT rfl rfl ?_
    refine Run.seq ?_
    refine Run.ops hm ?_
    refine Ops.p rfl ?_
    refine Ops.nil ?_
    refine Run.ret ?_
    obtain rfl := someO h
    exact Ends.mk (.inl rfl) hB rfl rfl rfl rfl
  · skip
    refine Ops.gp rfl g_132 rfl ?_
    refine Ops.gp rfl g_132 rfl ?_
    obtain ⟨y_133, hy_133, h⟩ := bindO h
    refine Ops.gs (s := 5192) rfl g_132 (Ev.call [] [] 0 (sem_spec_l01In N x_2.Kind (1 : Int) (9 : Int) _ hy_133) rfl rfl (.cons (.c _) (.cons (.c _) (.cons (.c _) .nil))) rfl (.inl rfl) rfl rfl) rfl rfl ?_
    refine Ops.gp rfl g_132 rfl ?_
    refine Ops.st (s := 5224) (.pkF rfl g_132 rfl) rfl rfl ?_
    refine Ops.p rfl ?_
    refine Ops.askO (x := .t 14) rfl h (fun g_134 h => ?_) (fun g_134 h => ?_)
    · skip
      refine Ops.gn rfl g_134 ?_
      refine Ops.gn rfl g_134 ?_
      refine Ops.gn rfl g_134 ?_
      refine Ops.gn rfl g_134 ?_
      refine Ops.gn rfl g_134 ?_
      refine Ops.st (s := 5336) (.pkT rfl g_134 rfl) rfl rfl ?_
      refine Ops.p rfl ?_
      refine Ops.gn rfl rfl ?_
      refine Ops.gn rfl rfl ?_
      refine Ops.gn rfl rfl ?_
      refine Ops.st (s := 5416) (.pkT rfl rfl rfl) rfl rfl ?_
      refine Ops.nil ?_
      refine Run.condT rfl rfl ?_
      refine Run.seq ?_
      refine Run.ops hm ?_
      refine Ops.p rfl ?_
      refine Ops.nil ?_
      refine Run.ret ?_
      obtain rfl := someO h
      exact Ends.mk (.inl rfl) hB rfl rfl rfl rfl
    · skip
      refine Ops.gp rfl g_134 rfl ?_
      refine Ops.gp rfl g_134 rfl ?_
      refine Ops.gp rfl g_134 rfl ?_
      obtain ⟨y_135, hy_135, h⟩ := bindO h
      refine Ops.gs (s := 5304) rfl g_134 (Ev.call [] [] 0 (sem_spec_l01In N x_2.Node (1 : Int) x_1 _ hy_135) rfl rfl (.cons (.c _) (.cons (.c _) (.cons (.c _) .nil))) rfl (.inl rfl) rfl rfl) rfl rfl ?_
      refine Ops.gp rfl g_134 rfl ?_
      refine Ops.st (s := 5336) (.pkF rfl g_134 rfl) rfl rfl ?_
      refine Ops.p rfl ?_
      refine Ops.askO (x := .t 21) rfl h (fun g_136 h => ?_) (fun g_136 h => ?_)
      · skip
        refine Ops.gn rfl g_136 ?_
        refine Ops.gn rfl g_136 ?_
        refine Ops.gn rfl g_136 ?_
        refine Ops.st (s := 5416) (.pkT rfl g_136 rfl) rfl rfl ?_
        refine Ops.nil ?_
        refine Run.condT rfl rfl ?_
        refine Run.seq ?_
        refine Run.ops hm ?_
        refine Ops.p rfl ?_
        refine Ops.nil ?_
        refine Run.ret ?_
        obtain rfl := someO h
        exact Ends.mk (.inl rfl) hB rfl rfl rfl rfl
      · skip
        refine Ops.gp rfl g_136 rfl ?_
        refine Ops.gp rfl g_136 rfl ?_
        refine Ops.gp rfl g_136 rfl ?_
        refine Ops.st (s := 5416) (.pkF rfl g_136 rfl) rfl rfl ?_
        refine Ops.nil ?_
        refine Run.condO rfl h (fun g_137 h => ?_) (fun g_137 h => ?_)
        · skip
          refine Run.seq ?_
          refine Run.ops hm ?_
          refine Ops.p rfl ?_
          refine Ops.nil ?_
          refine Run.ret ?_
          obtain rfl := someO h
          exact Ends.mk (.inl rfl) hB rfl rfl rfl rfl
        · skip
          refine Run.skip ?_
          refine Run.seq ?_
          refine Run.seq ?_
          refine Run.ops hm ?_
          refine Ops.p rfl ?_
          refine Ops.p rfl ?_
          refine Ops.nil ?_
          refine Run.block ?_
          refine Run.seq ?_
          refine Run.seq ?_
          refine Run.ops hm ?_
          refine Ops.p rfl ?_
          refine Ops.p rfl ?_
          refine Ops.nil ?_
          refine Run.condO rfl h (fun g_138 h => ?_) (fun g_138 h => ?_)
          · skip
            refine Run.skip ?_
            refine Run.condT rfl g_138 ?_
            refine Run.seq ?_
            refine Run.ops hm ?_
            refine Ops.p rfl ?_
            refine Ops.p rfl ?_
            obtain ⟨y_139, hy_139, h⟩ := bindO h
            refine Ops.st (s := 25608) (Ev.call [] [] 0 (sem_spec_l01In N x_2.Limit (1 : Int) (20 : Int) _ hy_139) rfl rfl (.cons (.c _) (.cons (.c _) (.cons (.c _) .nil))) rfl (.inl rfl) rfl rfl) rfl rfl ?_
            refine Ops.p rfl ?_
            refine Ops.nil ?_
            refine Run.ret ?_
            obtain rfl := someO h
            exact Ends.mk (.inl rfl) hB rfl rfl rfl rfl
          · skip
            refine Run.ops hm ?_
            refine Ops.p rfl ?_
            refine Ops.p rfl ?_
            refine Ops.nil ?_
            refine Run.condO rfl h (fun g_140 h => ?_) (fun g_140 h => ?_)
            · skip
              refine Run.seq ?_
              refine Run.ops hm ?_
              refine Ops.p rfl ?_
              refine Ops.p rfl ?_
              obtain ⟨y_141, hy_141, h⟩ := bindO h
              refine Ops.st (s := 25608) (Ev.call [] [] 0 (sem_spec_l01In N x_2.Limit (1 : Int) (20 : Int) _ hy_141) rfl rfl (.cons (.c _) (.cons (.c _) (.cons (.c _) .nil))) rfl (.inl rfl) rfl rfl) rfl rfl ?_
              refine Ops.p rfl ?_
              refine Ops.nil ?_
              refine Run.ret ?_
              obtain rfl := someO h
              exact Ends.mk (.inl rfl) hB rfl rfl rfl rfl
            · skip
              refine Run.seq ?_
              refine Run.ops hm ?_
              refine Ops.p rfl ?_
              refine Ops.p rfl ?_
              refine Ops.nil ?_
              refine Run.condO rfl h (fun g_142 h => ?_) (fun g_142 h => ?_)
              · skip
                refine Run.seq ?_
                refine Run.ops hm ?_
                refine Ops.p rfl ?_
                refine Ops.p rfl ?_
                obtain ⟨y_143, hy_143, h⟩ := bindO h
                refine Ops.st (s := 33800) (Ev.call [] [] 0 (sem_spec_CommandOk N x_2.Command _ hy_143) rfl rfl (.cons (.agg (.cons (.c _) (.cons (.c _) (.cons (.c _) (.cons (.c _) (.cons (.c _) (.cons (.c _) .nil))))))) .nil) rfl (.inl rfl) rfl rfl) rfl rfl ?_
                refine Ops.p rfl ?_
                refine Ops.nil ?_
                refine Run.ret ?_
                obtain rfl := someO h
                exact Ends.mk (.inl rfl) hB rfl rfl rfl rfl
              · skip
                refine Run.seq ?_
                refine Run.ops hm ?_
                refine Ops.p rfl ?_
                refine Ops.p rfl ?_
                refine Ops.nil ?_
                refine Run.condO rfl h (fun g_144 h => ?_) (fun g_144 h => ?_)
                · skip
                  refine Run.seq ?_
                  refine Run.ops hm ?_
                  refine Ops.p rfl ?_
                  refine Ops.p rfl ?_
                  obtain ⟨y_145, hy_145, h⟩ := bindO h
                  refine Ops.st (s := 41992) (Ev.call [] [] 0 (sem_spec_ConfOk N x_2.Conf _ hy_145) rfl rfl (.cons (.c _) .nil) rfl (.inl rfl) rfl rfl) rfl rfl ?_
                  refine Ops.p rfl ?_
                  refine Ops.askO (x := .t 44) rfl h (fun g_146 h => ?_) (fun g_146 h => ?_)
                  · skip
                    refine Ops.gp rfl g_146 rfl ?_
                    refine Ops.gp rfl g_146 rfl ?_
                    refine Ops.gp rfl g_146 rfl ?_
                    refine Ops.gp rfl g_146 rfl ?_
                    refine Ops.gs (s := 42088) rfl g_146 (Ev.lnF rfl) rfl rfl ?_
                    refine Ops.gp rfl g_146 rfl ?_
                    obtain ⟨x_147, hx_147, h⟩ := bindO h
                    refine Ops.gs (s := 42120) rfl g_146 (Ev.iaF rfl rfl hx_147) rfl rfl ?_
                    refine Ops.gp rfl g_146 rfl ?_
                    refine Ops.gp rfl g_146 rfl ?_
                    refine Ops.gp rfl g_146 rfl ?_
                    refine Ops.st (s := 42184) (.pkT rfl g_146 rfl) rfl rfl ?_
                    refine Ops.p rfl ?_
                    refine Ops.nil ?_
                    refine Run.ret ?_
                    obtain rfl := someO h
                    exact Ends.mk (.inl rfl) hB rfl rfl rfl rfl
                  · skip
                    refine Ops.gn rfl g_146 ?_
                    refine Ops.gn rfl g_146 ?_
                    refine Ops.gn rfl g_146 ?_
                    refine Ops.gn rfl g_146 ?_
                    refine Ops.gn rfl g_146 ?_
                    refine Ops.gn rfl g_146 ?_
                    refine Ops.gn rfl g_146 ?_
                    refine Ops.gn rfl g_146 ?_
                    refine Ops.gn rfl g_146 ?_
                    refine Ops.gn rfl g_146 ?_
                    refine Ops.st (s := 42184) (.pkF rfl g_146 rfl) rfl rfl ?_
                    refine Ops.p rfl ?_
                    refine Ops.nil ?_
                    refine Run.ret ?_
                    obtain rfl := someO h
                    exact Ends.mk (.inl rfl) hB rfl rfl rfl rfl
                · skip
                  refine Run.skip ?_
                  refine Run.seq ?_
                  refine Run.ops hm ?_
                  refine Ops.p rfl ?_
                  refine Ops.nil ?_
                  refine Run.ret ?_
                  obtain rfl := someO h
                  exact Ends.mk (.inl rfl) hB rfl rfl rfl rfl
def impl_within (N : Nat) (x_1 : Int) (x_2 : Int) (x_3 : Int) : Option (Bool) :=
 (if (decide (x_1 ≥ x_2)) = true then
 some (decide (x_1 ≤ x_3))
 else
 some false)
theorem sem_impl_within (N : Nat) (x_1 : Int) (x_2 : Int) (x_3 : Int) (r : Bool) (h : impl_within N x_1 x_2 x_3 = some r) : Says Try.prog 98 [VI x_1, VI x_2, VI x_3] 0 [] (VB r) [] := by
  unfold impl_within at h
  refine Says.of_run s98 Try.call98 rfl fun B hB => ?_
  have hm : B.m ≤ 1000 := by omega
  refine Run.seq ?_
  refine Run.ops hm ?_
  refine Ops.p rfl ?_
  refine Ops.nil ?_
  refine Run.seq ?_
  refine Run.ops hm ?_
  refine Ops.p rfl ?_
  refine Ops.p rfl ?_
  refine Ops.p rfl ?_
  refine Ops.p rfl ?_
  refine Ops.askO (x := .t 10) rfl h (fun g_101 h => ?_) (fun g_101 h => ?_)
  · skip
    refine Ops.gp rfl g_101 rfl ?_
    refine Ops.gp rfl g_101 rfl ?_
    refine Ops.gp rfl g_101 rfl ?_
    refine Ops.st (s := 5208) (.pkT rfl g_101 rfl) rfl rfl ?_
    refine Ops.p rfl ?_
    refine Ops.nil ?_
    refine Run.ret ?_
    obtain rfl := someO h
    exact Ends.mk (.inl rfl) hB rfl rfl rfl rfl
  · skip
    refine Ops.gn rfl g_101 ?_
    refine Ops.gn rfl g_101 ?_
    refine Ops.gn rfl g_101 ?_
    refine Ops.st (s := 5208) (.pkF rfl g_101 rfl) rfl rfl ?_
    refine Ops.p rfl ?_
    refine Ops.nil ?_
    refine Run.ret ?_
    obtain rfl := someO h
    exact Ends.mk (.inl rfl) hB rfl rfl rfl rfl
def impl_CommandOk (N : Nat) (x_1 : Command) : Option (Bool) :=
 joinP (fun (v_123 : Bool × Bool) =>
 (impl_within N x_1.Session (0 : Int) (100000 : Int)).bind fun y_129 =>
 (if y_129 = true then
 (impl_within N x_1.Seq (0 : Int) (100000 : Int)).bind fun y_131 =>
 (if y_131 = true then
 (impl_within N (x_1.Key.size : Int) (1 : Int) (9 : Int)).bind fun y_133 =>
 (if y_133 = true then
 (if v_123.1 = true then
 some v_123.2
 else
 some false)
 else
 some false)
 else
 some false)
 else
 some false)) fun j_123 =>
 (if (x_1.Op == (1 : Int)) = true then
 some (((x_1.Op == (1 : Int)) && ((x_1.Session == (0 : Int)) && ((x_1.Seq == (0 : Int)) && (decide (x_1.Key = (⟨#[]⟩ : ByteArray)) && (decide (x_1.Value = (⟨#[]⟩ : ByteArray)) && (decide (x_1.Old = (⟨#[]⟩ : ByteArray)) && true)))))) ^^ false)
 else
 (if (x_1.Op == (2 : Int)) = true then
 j_123 (decide (x_1.Value = (⟨#[]⟩ : ByteArray)), decide (x_1.Old = (⟨#[]⟩ : ByteArray)))
 else
 (if (x_1.Op == (4 : Int)) = true then
 j_123 (decide (x_1.Value = (⟨#[]⟩ : ByteArray)), decide (x_1.Old = (⟨#[]⟩ : ByteArray)))
 else
 (if (x_1.Op == (3 : Int)) = true then
 j_123 (decide ((x_1.Value.size : Int) ≤ (12 : Int)), decide (x_1.Old = (⟨#[]⟩ : ByteArray)))
 else
 (if (x_1.Op == (5 : Int)) = true then
 j_123 (decide ((x_1.Value.size : Int) ≤ (12 : Int)), decide ((x_1.Old.size : Int) ≤ (12 : Int)))
 else
 some false)))))
theorem sem_impl_CommandOk (N : Nat) (x_1 : Command) (r : Bool) (h : impl_CommandOk N x_1 = some r) : Says Try.prog 99 [.agg [VI x_1.Op, VI x_1.Session, VI x_1.Seq, VS x_1.Key, VS x_1.Value, VS x_1.Old]] 0 [] (VB r) [] := by
  unfold impl_CommandOk at h
  refine Says.of_run s99 Try.call99 rfl fun B hB => ?_
  have hm : B.m ≤ 1000 := by omega
  refine Run.seq ?_
  refine Run.ops hm ?_
  refine Ops.st (s := 1000) (.bx rfl rfl) rfl rfl ?_
  refine Ops.p rfl ?_
  refine Ops.nil ?_
  refine Run.seq ?_
  refine Run.draw hm hmix ?_
  refine OpsD.p rfl ?_
  refine OpsD.p rfl ?_
  refine OpsD.p rfl ?_
  refine OpsD.p rfl ?_
  refine OpsD.p rfl ?_
  refine OpsD.p rfl ?_
  refine OpsD.p rfl ?_
  refine OpsD.p rfl ?_
  refine OpsD.p rfl ?_
  refine OpsD.p rfl ?_
  refine OpsD.nil ⟨by kernel_rfl, ?_⟩
  refine Run.seqO h (fun (v_123 : Bool × Bool) => [(1, .ptr 0 0), (3, VB v_123.1), (4, VB v_123.2)]) (fun (v_123 : Bool × Bool) => [(0, .box [VI x_1.Op, VI x_1.Session, VI x_1.Seq, VS x_1.Key, VS x_1.Value, VS x_1.Old])]) (fun h => ?_) (fun v_123 h => ?_)
  · skip
    refine Run.seq ?_
    refine Run.ops hm ?_
    refine Ops.p rfl ?_
    refine Ops.p rfl ?_
    refine Ops.nil ?_
    refine Run.block ?_
    refine Run.seq ?_
    refine Run.ops hm ?_
    refine Ops.p rfl ?_
    refine Ops.p rfl ?_
    refine Ops.nil ?_
    refine Run.condO rfl h (fun g_124 h => ?_) (fun g_124 h => ?_)
    · skip
      refine Run.seq ?_
      refine Run.ops hm ?_
      refine Ops.p rfl ?_
      refine Ops.st (s := 21496) (.bd rfl rfl) rfl rfl ?_
      refine Ops.p rfl ?_
      refine Ops.p rfl ?_
      refine Ops.nil ?_
      refine Run.ret ?_
      obtain rfl := someO h
      exact Ends.mk (.inl rfl) hB rfl rfl rfl rfl
    · skip
      refine Run.seq ?_
      refine Run.seq ?_
      refine Run.ops hm ?_
      refine Ops.p rfl ?_
      refine Ops.p rfl ?_
      refine Ops.nil ?_
      refine Run.condO rfl h (fun g_125 h => ?_) (fun g_125 h => ?_)
      · skip
        refine Run.skip ?_
        refine Run.condT rfl g_125 ?_
        refine Run.draw hm hmix ?_
        refine OpsD.p rfl ?_
        refine OpsD.p rfl ?_
        refine OpsD.p rfl ?_
        refine OpsD.p rfl ?_
        refine OpsD.p rfl ?_
        refine OpsD.p rfl ?_
        refine OpsD.p rfl ?_
        refine OpsD.p rfl ?_
        refine OpsD.nil ⟨by kernel_rfl, ?_⟩
        exact ⟨_, _, gh_canonE (ts := [1, 3, 4]) hB rfl rfl rfl, (decide (x_1.Value = (⟨#[]⟩ : ByteArray)), decide (x_1.Old = (⟨#[]⟩ : ByteArray))), h, rfl, rfl⟩
      · skip
        refine Run.ops hm ?_
        refine Ops.p rfl ?_
        refine Ops.p rfl ?_
        refine Ops.nil ?_
        refine Run.condO rfl h (fun g_126 h => ?_) (fun g_126 h => ?_)
        · skip
          refine Run.draw hm hmix ?_
          refine OpsD.p rfl ?_
          refine OpsD.p rfl ?_
          refine OpsD.p rfl ?_
          refine OpsD.p rfl ?_
          refine OpsD.p rfl ?_
          refine OpsD.p rfl ?_
          refine OpsD.p rfl ?_
          refine OpsD.p rfl ?_
          refine OpsD.nil ⟨by kernel_rfl, ?_⟩
          exact ⟨_, _, gh_canonE (ts := [1, 3, 4]) hB rfl rfl rfl, (decide (x_1.Value = (⟨#[]⟩ : ByteArray)), decide (x_1.Old = (⟨#[]⟩ : ByteArray))), h, rfl, rfl⟩
        · skip
          refine Run.seq ?_
          refine Run.ops hm ?_
          refine Ops.p rfl ?_
          refine Ops.p rfl ?_
          refine Ops.nil ?_
          refine Run.condO rfl h (fun g_127 h => ?_) (fun g_127 h => ?_)
          · skip
            refine Run.ops hm ?_
            refine Ops.p rfl ?_
            refine Ops.p rfl ?_
            refine Ops.p rfl ?_
            refine Ops.p rfl ?_
            refine Ops.nil ?_
            exact ⟨_, _, gh_canonE (ts := [1, 3, 4]) hB rfl rfl rfl, (decide ((x_1.Value.size : Int) ≤ (12 : Int)), decide (x_1.Old = (⟨#[]⟩ : ByteArray))), h, rfl, rfl⟩
          · skip
            refine Run.seq ?_
            refine Run.ops hm ?_
            refine Ops.p rfl ?_
            refine Ops.p rfl ?_
            refine Ops.nil ?_
            refine Run.condO rfl h (fun g_128 h => ?_) (fun g_128 h => ?_)
            · skip
              refine Run.skip ?_
              exact ⟨_, _, gh_canonE (ts := [1, 3, 4]) hB rfl rfl rfl, (decide ((x_1.Value.size : Int) ≤ (12 : Int)), decide ((x_1.Old.size : Int) ≤ (12 : Int))), h, rfl, rfl⟩
            · skip
              refine Run.seq ?_
              refine Run.ops hm ?_
              refine Ops.p rfl ?_
              refine Ops.nil ?_
              refine Run.ret ?_
              obtain rfl := someO h
              exact Ends.mk (.inl rfl) hB rfl rfl rfl rfl
  · skip
    refine Run.seq ?_
    refine Run.ops hm ?_
    refine Ops.p rfl ?_
    refine Ops.p rfl ?_
    obtain ⟨y_129, hy_129, h⟩ := bindO h
    refine Ops.st (s := 50184) (Ev.call [] [] 0 (sem_impl_within N x_1.Session (0 : Int) (100000 : Int) _ hy_129) rfl rfl (.cons (.c _) (.cons (.c _) (.cons (.c _) .nil))) rfl (.inl rfl) rfl rfl) rfl rfl ?_
    refine Ops.p rfl ?_
    refine Ops.askO (x := .t 39) rfl h (fun g_130 h => ?_) (fun g_130 h => ?_)
    · skip
      refine Ops.gp rfl g_130 rfl ?_
      refine Ops.gp rfl g_130 rfl ?_
      obtain ⟨y_131, hy_131, h⟩ := bindO h
      refine Ops.gs (s := 50248) rfl g_130 (Ev.call [] [] 0 (sem_impl_within N x_1.Seq (0 : Int) (100000 : Int) _ hy_131) rfl rfl (.cons (.c _) (.cons (.c _) (.cons (.c _) .nil))) rfl (.inl rfl) rfl rfl) rfl rfl ?_
      refine Ops.st (s := 50264) (.pkT rfl g_130 rfl) rfl rfl ?_
      refine Ops.p rfl ?_
      refine Ops.askO (x := .t 44) rfl h (fun g_132 h => ?_) (fun g_132 h => ?_)
      · skip
        refine Ops.gp rfl g_132 rfl ?_
        refine Ops.gp rfl g_132 rfl ?_
        refine Ops.gp rfl g_132 rfl ?_
        obtain ⟨y_133, hy_133, h⟩ := bindO h
        refine Ops.gs (s := 50344) rfl g_132 (Ev.call [] [] 0 (sem_impl_within N (x_1.Key.size : Int) (1 : Int) (9 : Int) _ hy_133) rfl rfl (.cons (.c _) (.cons (.c _) (.cons (.c _) .nil))) rfl (.inl rfl) rfl rfl) rfl rfl ?_
        refine Ops.st (s := 50360) (.pkT rfl g_132 rfl) rfl rfl ?_
        refine Ops.p rfl ?_
        refine Ops.askO (x := .t 50) rfl h (fun g_134 h => ?_) (fun g_134 h => ?_)
        · skip
          refine Ops.gp rfl g_134 rfl ?_
          refine Ops.st (s := 50408) (.pkT rfl g_134 rfl) rfl rfl ?_
          refine Ops.p rfl ?_
          refine Ops.askO (x := .t 53) rfl h (fun g_135 h => ?_) (fun g_135 h => ?_)
          · skip
            refine Ops.gp rfl g_135 rfl ?_
            refine Ops.st (s := 50456) (.pkT rfl g_135 rfl) rfl rfl ?_
            refine Ops.p rfl ?_
            refine Ops.nil ?_
            refine Run.ret ?_
            obtain rfl := someO h
            exact Ends.mk (.inl rfl) hB rfl rfl rfl rfl
          · skip
            refine Ops.gn rfl g_135 ?_
            refine Ops.st (s := 50456) (.pkF rfl g_135 rfl) rfl rfl ?_
            refine Ops.p rfl ?_
            refine Ops.nil ?_
            refine Run.ret ?_
            obtain rfl := someO h
            exact Ends.mk (.inl rfl) hB rfl rfl rfl rfl
        · skip
          refine Ops.gn rfl g_134 ?_
          refine Ops.st (s := 50408) (.pkF rfl g_134 rfl) rfl rfl ?_
          refine Ops.p rfl ?_
          refine Ops.gn rfl rfl ?_
          refine Ops.st (s := 50456) (.pkF rfl rfl rfl) rfl rfl ?_
          refine Ops.p rfl ?_
          refine Ops.nil ?_
          refine Run.ret ?_
          obtain rfl := someO h
          exact Ends.mk (.inl rfl) hB rfl rfl rfl rfl
      · skip
        refine Ops.gn rfl g_132 ?_
        refine Ops.gn rfl g_132 ?_
        refine Ops.gn rfl g_132 ?_
        refine Ops.gn rfl g_132 ?_
        refine Ops.st (s := 50360) (.pkF rfl g_132 rfl) rfl rfl ?_
        refine Ops.p rfl ?_
        refine Ops.gn rfl rfl ?_
        refine Ops.st (s := 50408) (.pkF rfl rfl rfl) rfl rfl ?_
        refine Ops.p rfl ?_
        refine Ops.gn rfl rfl ?_
        refine Ops.st (s := 50456) (.pkF rfl rfl rfl) rfl rfl ?_
        refine Ops.p rfl ?_
        refine Ops.nil ?_
        refine Run.ret ?_
        obtain rfl := someO h
        exact Ends.mk (.inl rfl) hB rfl rfl rfl rfl
    · skip
      refine Ops.gn rfl g_130 ?_
      refine Ops.gn rfl g_130 ?_
      refine Ops.gn rfl g_130 ?_
      refine Ops.st (s := 50264) (.pkF rfl g_130 rfl) rfl rfl ?_
      refine Ops.p rfl ?_
      refine Ops.gn rfl rfl ?_
      refine Ops.gn rfl rfl ?_
      refine Ops.gn rfl rfl ?_
      refine Ops.gn rfl rfl ?_
      refine Ops.st (s := 50360) (.pkF rfl rfl rfl) rfl rfl ?_
      refine Ops.p rfl ?_
      refine Ops.gn rfl rfl ?_
      refine Ops.st (s := 50408) (.pkF rfl rfl rfl) rfl rfl ?_
      refine Ops.p rfl ?_
      refine Ops.gn rfl rfl ?_
      refine Ops.st (s := 50456) (.pkF rfl rfl rfl) rfl rfl ?_
      refine Ops.p rfl ?_
      refine Ops.nil ?_
      refine Run.ret ?_
      obtain rfl := someO h
      exact Ends.mk (.inl rfl) hB rfl rfl rfl rfl
end Go.Proofs.Ytebbgdjmplceiaa.Pe.FnExactEventOk
