/- Functions, as pure functions; and that Go does just that. -/
import Derived.Test.YtebbgdjmplceiaaPeTy
import Derived.Test.YtebbgdjmplceiaaPeSFnExactOnce
namespace Go.Proofs.Ytebbgdjmplceiaa.Pe.FnExactOnce
open Go Go.RowKit
set_option linter.unusedVariables false
set_option linter.unusedSimpArgs false
set_option maxHeartbeats 40000000
theorem hmix : Try.prog.follows .mixedOrders = true := by kernel_rfl
structure Command where
  Op : Int
  Session : Int
  Seq : Int
  Key : ByteArray
  Value : ByteArray
  Old : ByteArray
abbrev encCommand (x : Command) : List C := [.i .i64 x.Op, .i .i64 x.Session, .i .i64 x.Seq, .s x.Key, .s x.Value, .s x.Old]
structure Reply where
  Call : Int
  Index : Int
  Command : Command
  Text : ByteArray
abbrev encReply (x : Reply) : List C := [.i .i64 x.Call, .i .i64 x.Index, .i .i64 x.Command.Op, .i .i64 x.Command.Session, .i .i64 x.Command.Seq, .s x.Command.Key, .s x.Command.Value, .s x.Command.Old, .s x.Text]
theorem bt119 : bytesOf Try.prog 119 ≤ 2048 := of_decide_eq_true (by kernel_rfl)
def laws_szCommand (N : Nat) (x_1 : Command) (x_2 : Int) : Option (Int) :=
 (if (decide ((w64 (x_2 - (x_1.Key.size : Int))) < (0 : Int))) = true then
 some (-1 : Int)
 else
 (if (decide ((w64 ((w64 (x_2 - (x_1.Key.size : Int))) - (x_1.Value.size : Int))) < (0 : Int))) = true then
 some (-1 : Int)
 else
 (if (decide ((w64 ((w64 ((w64 (x_2 - (x_1.Key.size : Int))) - (x_1.Value.size : Int))) - (x_1.Old.size : Int))) < (0 : Int))) = true then
 some (-1 : Int)
 else
 some (w64 ((w64 ((w64 (x_2 - (x_1.Key.size : Int))) - (x_1.Value.size : Int))) - (x_1.Old.size : Int))))))
theorem sem_laws_szCommand (N : Nat) (x_1 : Command) (x_2 : Int) (r : Int) (h : laws_szCommand N x_1 x_2 = some r) : Says Try.prog 92 [.agg [VI x_1.Op, VI x_1.Session, VI x_1.Seq, VS x_1.Key, VS x_1.Value, VS x_1.Old], VI x_2] 0 [] (VI r) [] := by
  unfold laws_szCommand at h
  refine Says.of_run s92 Try.call92 rfl fun B hB => ?_
  have hm : B.m ≤ 1000 := by omega
  refine Run.seq ?_
  refine Run.ops hm ?_
  refine Ops.st (s := 1000) (.bx rfl rfl) rfl rfl ?_
  refine Ops.p rfl ?_
  refine Ops.nil ?_
  refine Run.seq ?_
  refine Run.ops hm ?_
  refine Ops.p rfl ?_
  refine Ops.p rfl ?_
  refine Ops.p rfl ?_
  refine Ops.p rfl ?_
  refine Ops.p rfl ?_
  refine Ops.p rfl ?_
  refine Ops.nil ?_
  refine Run.seq ?_
  refine Run.seq ?_
  refine Run.ops hm ?_
  refine Ops.p rfl ?_
  refine Ops.p rfl ?_
  refine Ops.nil ?_
  refine Run.condO rfl h (fun g_107 h => ?_) (fun g_107 h => ?_)
  · skip
    refine Run.seq ?_
    refine Run.ops hm ?_
    refine Ops.p rfl ?_
    refine Ops.nil ?_
    refine Run.ret ?_
    obtain rfl := someO h
    exact Ends.mk (.inl rfl) hB rfl rfl rfl rfl
  · skip
    refine Run.skip ?_
    refine Run.seq ?_
    refine Run.ops hm ?_
    refine Ops.p rfl ?_
    refine Ops.p rfl ?_
    refine Ops.p rfl ?_
    refine Ops.p rfl ?_
    refine Ops.p rfl ?_
    refine Ops.p rfl ?_
    refine Ops.nil ?_
    refine Run.seq ?_
    refine Run.seq ?_
    refine Run.ops hm ?_
    refine Ops.p rfl ?_
    refine Ops.p rfl ?_
    refine Ops.nil ?_
    refine Run.condO rfl h (fun g_109 h => ?_) (fun g_109 h => ?_)
    · skip
      refine Run.seq ?_
      refine Run.ops hm ?_
      refine Ops.p rfl ?_
      refine Ops.nil ?_
      refine Run.ret ?_
      obtain rfl := someO h
      exact Ends.mk (.inl rfl) hB rfl rfl rfl rfl
    · skip
      refine Run.skip ?_
      refine Run.seq ?_
      refine Run.ops hm ?_
      refine Ops.p rfl ?_
      refine Ops.p rfl ?_
      refine Ops.p rfl ?_
      refine Ops.p rfl ?_
      refine Ops.p rfl ?_
      refine Ops.p rfl ?_
      refine Ops.nil ?_
      refine Run.seq ?_
      refine Run.seq ?_
      refine Run.ops hm ?_
      refine Ops.p rfl ?_
      refine Ops.p rfl ?_
      refine Ops.nil ?_
      refine Run.condO rfl h (fun g_111 h => ?_) (fun g_111 h => ?_)
      · skip
        refine Run.seq ?_
        refine Run.ops hm ?_
        refine Ops.p rfl ?_
        refine Ops.nil ?_
        refine Run.ret ?_
        obtain rfl := someO h
        exact Ends.mk (.inl rfl) hB rfl rfl rfl rfl
      · skip
        refine Run.skip ?_
        refine Run.seq ?_
        refine Run.ops hm ?_
        refine Ops.p rfl ?_
        refine Ops.p rfl ?_
        refine Ops.nil ?_
        refine Run.ret ?_
        obtain rfl := someO h
        exact Ends.mk (.inl rfl) hB rfl rfl rfl rfl
def laws_szReply (N : Nat) (x_1 : Reply) (x_2 : Int) : Option (Int) :=
 (laws_szCommand N x_1.Command x_2).bind fun y_107 =>
 (if (decide (y_107 < (0 : Int))) = true then
 some (-1 : Int)
 else
 (if (decide ((w64 (y_107 - (x_1.Text.size : Int))) < (0 : Int))) = true then
 some (-1 : Int)
 else
 some (w64 (y_107 - (x_1.Text.size : Int)))))
theorem sem_laws_szReply (N : Nat) (x_1 : Reply) (x_2 : Int) (r : Int) (h : laws_szReply N x_1 x_2 = some r) : Says Try.prog 73 [.agg [VI x_1.Call, VI x_1.Index, VI x_1.Command.Op, VI x_1.Command.Session, VI x_1.Command.Seq, VS x_1.Command.Key, VS x_1.Command.Value, VS x_1.Command.Old, VS x_1.Text], VI x_2] 0 [] (VI r) [] := by
  unfold laws_szReply at h
  refine Says.of_run s73 Try.call73 rfl fun B hB => ?_
  have hm : B.m ≤ 1000 := by omega
  refine Run.seq ?_
  refine Run.ops hm ?_
  refine Ops.st (s := 1000) (.bx rfl rfl) rfl rfl ?_
  refine Ops.p rfl ?_
  refine Ops.nil ?_
  refine Run.seq ?_
  refine Run.ops hm ?_
  refine Ops.p rfl ?_
  refine Ops.p rfl ?_
  refine Ops.p rfl ?_
  obtain ⟨y_107, hy_107, h⟩ := bindO h
  refine Ops.st (s := 5144) (Ev.call [] [] 0 (sem_laws_szCommand N x_1.Command x_2 _ hy_107) rfl rfl (.cons (.agg (.cons (.c _) (.cons (.c _) (.cons (.c _) (.cons (.c _) (.cons (.c _) (.cons (.c _) .nil))))))) (.cons (.c _) .nil)) rfl (.inl rfl) rfl rfl) rfl rfl ?_
  refine Ops.p rfl ?_
  refine Ops.nil ?_
  refine Run.seq ?_
  refine Run.seq ?_
  refine Run.ops hm ?_
  refine Ops.p rfl ?_
  refine Ops.p rfl ?_
  refine Ops.nil ?_
  refine Run.condO rfl h (fun g_109 h => ?_) (fun g_109 h => ?_)
  · skip
    refine Run.seq ?_
    refine Run.ops hm ?_
    refine Ops.p rfl ?_
    refine Ops.nil ?_
    refine Run.ret ?_
    obtain rfl := someO h
    exact Ends.mk (.inl rfl) hB rfl rfl rfl rfl
  · skip
    refine Run.skip ?_
    refine Run.seq ?_
    refine Run.ops hm ?_
    refine Ops.p rfl ?_
    refine Ops.p rfl ?_
    refine Ops.p rfl ?_
    refine Ops.p rfl ?_
    refine Ops.p rfl ?_
    refine Ops.p rfl ?_
    refine Ops.nil ?_
    refine Run.seq ?_
    refine Run.seq ?_
    refine Run.ops hm ?_
    refine Ops.p rfl ?_
    refine Ops.p rfl ?_
    refine Ops.nil ?_
    refine Run.condO rfl h (fun g_111 h => ?_) (fun g_111 h => ?_)
    · skip
      refine Run.seq ?_
      refine Run.ops hm ?_
      refine Ops.p rfl ?_
      refine Ops.nil ?_
      refine Run.ret ?_
      obtain rfl := someO h
      exact Ends.mk (.inl rfl) hB rfl rfl rfl rfl
    · skip
      refine Run.skip ?_
      refine Run.seq ?_
      refine Run.ops hm ?_
      refine Ops.p rfl ?_
      refine Ops.p rfl ?_
      refine Ops.nil ?_
      refine Run.ret ?_
      obtain rfl := someO h
      exact Ends.mk (.inl rfl) hB rfl rfl rfl rfl
def laws_szReplyS_l1 (N : Nat) (x_1 : (List Reply)) : Nat → Int → Int → Option ((Int) ⊕ (Int))
 | 0, _, _ => none
 | m + 1, x_197, x_198 =>
 (if (decide (x_198 < (x_1.length : Int))) = true then
 (at? x_1 x_198).bind fun x_223 =>
 (laws_szReply N x_223 x_197).bind fun y_224 =>
 (if (decide (y_224 < (0 : Int))) = true then
 some (Sum.inl (-1 : Int))
 else
 laws_szReplyS_l1 N x_1 m y_224 (w64 (x_198 + (1 : Int))))
 else
 some (Sum.inr x_197))
def laws_szReplyS_l1_r (N : Nat) (x_1 : (List Reply)) : (List Reply) → Int → Int → Option ((Int) ⊕ (Int))
 | [], x_197, x_198 =>
 some (Sum.inr x_197)
 | hd :: tl, x_197, x_198 =>
 (some hd).bind fun x_223 =>
 (laws_szReply N x_223 x_197).bind fun y_224 =>
 (if (decide (y_224 < (0 : Int))) = true then
 some (Sum.inl (-1 : Int))
 else
 laws_szReplyS_l1_r N x_1 tl y_224 (w64 (x_198 + (1 : Int))))
theorem laws_szReplyS_l1_rng (N : Nat) (x_1 : (List Reply)) (hx : x_1.length ≤ 1099511627776) : ∀ (d k m : Nat) (x_197 : Int), x_1.length = k + d → d < m → laws_szReplyS_l1 N x_1 m x_197 (k : Int) = laws_szReplyS_l1_r N x_1 (x_1.drop k) x_197 (k : Int) := by
  intro d
  induction d with
  | zero =>
    intro k m x_197 hd hm
    obtain ⟨m, rfl⟩ : ∃ q, m = q + 1 := ⟨m - 1, by omega⟩
    rw [laws_szReplyS_l1, if_neg (by simp; omega), List.drop_eq_nil_of_le (by omega), laws_szReplyS_l1_r]
  | succ d ih =>
    intro k m x_197 hd hm
    obtain ⟨m, rfl⟩ : ∃ q, m = q + 1 := ⟨m - 1, by omega⟩
    have hk : k < x_1.length := by omega
    rw [laws_szReplyS_l1, if_pos (by simp; omega), List.drop_eq_getElem_cons hk, laws_szReplyS_l1_r]
    have h1 := at_lt hk
    have h2 := w64_succ (k := k) (by omega)
    have h3 := ih (k + 1) m
    simp only [h1, h2, h3 _ (by omega) (by omega)]
theorem laws_szReplyS_l1_eq {N : Nat} (x_1 : (List Reply)) (hx : x_1.length ≤ 1099511627776) (hN : x_1.length < N) (x_197 : Int) : laws_szReplyS_l1 N x_1 N x_197 0 = laws_szReplyS_l1_r N x_1 x_1 x_197 0 := laws_szReplyS_l1_rng N x_1 hx x_1.length 0 N x_197 (by omega) hN
def laws_szReplyS (N : Nat) (x_1 : (List Reply)) (x_2 : Int) : Option (Int) :=
 (if (decide ((w64 (x_2 - (x_1.length : Int))) < (0 : Int))) = true then
 some (-1 : Int)
 else
 joinP (fun (v_195 : Int) =>
 some v_195) fun j_195 =>
 (laws_szReplyS_l1 N x_1 N (w64 (x_2 - (x_1.length : Int))) (0 : Int)).bind (Sum.elim (fun v_211 => some v_211) (fun (v_212 : Int) => j_195 v_212)))
theorem sem_laws_szReplyS (N : Nat) (x_1 : (List Reply)) (x_2 : Int) (r : Int) (h : laws_szReplyS N x_1 x_2 = some r) : Says Try.prog 20 [RO 117 (x_1.map encReply), VI x_2] 0 [] (VI r) [] := by
  unfold laws_szReplyS at h
  refine Says.of_run s20 Try.call20 rfl fun B hB => ?_
  have hm : B.m ≤ 1000 := by omega
  refine Run.seq ?_
  refine Run.ops hm ?_
  refine Ops.p rfl ?_
  refine Ops.nil ?_
  refine Run.seq ?_
  refine Run.ops hm ?_
  refine Ops.p rfl ?_
  refine Ops.p rfl ?_
  refine Ops.st (s := 5128) (Ev.lnF rfl) rfl rfl ?_
  refine Ops.p rfl ?_
  refine Ops.p rfl ?_
  refine Ops.nil ?_
  refine Run.seq ?_
  refine Run.seq ?_
  refine Run.ops hm ?_
  refine Ops.p rfl ?_
  refine Ops.p rfl ?_
  refine Ops.nil ?_
  refine Run.condO rfl h (fun g_164 h => ?_) (fun g_164 h => ?_)
  · skip
    refine Run.seq ?_
    refine Run.ops hm ?_
    refine Ops.p rfl ?_
    refine Ops.nil ?_
    refine Run.ret ?_
    obtain rfl := someO h
    exact Ends.mk (.inl rfl) hB rfl rfl rfl rfl
  · skip
    refine Run.skip ?_
    refine Run.seqO h (fun (v_195 : Int) => [(1, VI v_195)]) (fun (v_195 : Int) => []) (fun h => ?_) (fun v_195 h => ?_)
    · skip
      refine Run.seq ?_
      refine Run.ops hm ?_
      refine Ops.p rfl ?_
      refine Ops.nil ?_
      refine Run.block ?_
      obtain ⟨res_212, h, hk_212⟩ := bindO h
      refine Run.loop (n := N) (fun m_212 fr σ => ∃ (x_197 : Int), ∃ (x_198 : Int), laws_szReplyS_l1 N x_1 m_212 x_197 x_198 = some res_212 ∧ fr = [(0, RO 117 (x_1.map encReply)), (1, VI x_197), (5, VI x_198)] ∧ σ = []) (gh_canonE (ts := [0, 1, 5]) hB rfl rfl rfl) ⟨_, _, h, rfl, rfl⟩ ?_
      rintro m_212 fr σ ⟨x_197, x_198, h, rfl, rfl⟩
      obtain _ | m_212 := m_212
      · rw [laws_szReplyS_l1] at h; cases h
      rw [laws_szReplyS_l1] at h
      refine Run.seq ?_
      refine Run.seq ?_
      refine Run.ops hm ?_
      refine Ops.p rfl ?_
      refine Ops.p rfl ?_
      refine Ops.st (s := 21512) (Ev.lnF rfl) rfl rfl ?_
      refine Ops.p rfl ?_
      refine Ops.nil ?_
      refine Run.condO rfl h (fun g_215 h => ?_) (fun g_215 h => ?_)
      · skip
        refine Run.skip ?_
        refine Run.seq ?_
        refine Run.block ?_
        refine Run.seq ?_
        refine Run.ops hm ?_
        refine Ops.p rfl ?_
        refine Ops.p rfl ?_
        obtain ⟨x_223, hx_223, h⟩ := bindO h
        refine Ops.st (s := 29704) (Ev.iaF rfl rfl hx_223) rfl rfl ?_
        refine Ops.p rfl ?_
        refine Ops.p rfl ?_
        obtain ⟨y_224, hy_224, h⟩ := bindO h
        refine Ops.st (s := 29752) (Ev.call [] [] 0 (sem_laws_szReply N x_223 x_197 _ hy_224) rfl rfl (.cons (.agg (.cons (.c _) (.cons (.c _) (.cons (.c _) (.cons (.c _) (.cons (.c _) (.cons (.c _) (.cons (.c _) (.cons (.c _) (.cons (.c _) .nil)))))))))) (.cons (.c _) .nil)) rfl (.inl rfl) rfl rfl) rfl rfl ?_
        refine Ops.p rfl ?_
        refine Ops.nil ?_
        refine Run.seq ?_
        refine Run.ops hm ?_
        refine Ops.p rfl ?_
        refine Ops.p rfl ?_
        refine Ops.nil ?_
        refine Run.condO rfl h (fun g_225 h => ?_) (fun g_225 h => ?_)
        · skip
          refine Run.seq ?_
          refine Run.ops hm ?_
          refine Ops.p rfl ?_
          refine Ops.nil ?_
          refine Run.ret ?_
          obtain rfl := someO h
          have h := hk_212
          replace h := inlO h
          obtain rfl := someO h
          exact Ends.mk (.inl rfl) hB rfl rfl rfl rfl
        · skip
          refine Run.skip ?_
          refine Run.ops hm ?_
          refine Ops.p rfl ?_
          refine Ops.p rfl ?_
          refine Ops.p rfl ?_
          refine Ops.nil ?_
          exact ⟨m_212, Nat.lt_succ_self m_212, _, _, gh_canonE (ts := [0, 1, 5]) hB rfl rfl rfl, _, _, h, rfl, rfl⟩
      · skip
        refine Run.exit ?_
        obtain rfl := someO h
        have h := hk_212
        replace h := inrO h
        exact ⟨_, _, gh_canonE (ts := [1]) hB rfl rfl rfl, x_197, h, rfl, rfl⟩
    · skip
      refine Run.seq ?_
      refine Run.ops hm ?_
      refine Ops.p rfl ?_
      refine Ops.p rfl ?_
      refine Ops.nil ?_
      refine Run.ret ?_
      obtain rfl := someO h
      exact Ends.mk (.inl rfl) hB rfl rfl rfl rfl
def laws_toCommand (N : Nat) (x_1 : Command) : Option (Command) :=
 some x_1
theorem sem_laws_toCommand (N : Nat) (x_1 : Command) (r : Command) (h : laws_toCommand N x_1 = some r) : Says Try.prog 97 [.agg [VI x_1.Op, VI x_1.Session, VI x_1.Seq, VS x_1.Key, VS x_1.Value, VS x_1.Old]] 0 [] (.agg [VI r.Op, VI r.Session, VI r.Seq, VS r.Key, VS r.Value, VS r.Old]) [] := by
  unfold laws_toCommand at h
  refine Says.of_run s97 Try.call97 rfl fun B hB => ?_
  have hm : B.m ≤ 1000 := by omega
  refine Run.seq ?_
  refine Run.ops hm ?_
  refine Ops.st (s := 1000) (.bx rfl rfl) rfl rfl ?_
  refine Ops.st (s := 1016) (.al rfl rfl) rfl rfl ?_
  refine Ops.nil ?_
  refine Run.seq ?_
  refine Run.ops hm ?_
  refine Ops.st (s := 5096) (.al rfl rfl) rfl rfl ?_
  refine Ops.nil ?_
  refine Run.seq ?_
  refine Run.ops hm ?_
  refine Ops.p rfl ?_
  refine Ops.p rfl ?_
  refine Ops.p rfl ?_
  refine Ops.s0 (s := 9240) (.sto rfl rfl rfl rfl rfl rfl) rfl rfl ?_
  refine Ops.nil ?_
  refine Run.seq ?_
  refine Run.ops hm ?_
  refine Ops.p rfl ?_
  refine Ops.p rfl ?_
  refine Ops.p rfl ?_
  refine Ops.s0 (s := 13336) (.sto rfl rfl rfl rfl rfl rfl) rfl rfl ?_
  refine Ops.nil ?_
  refine Run.seq ?_
  refine Run.ops hm ?_
  refine Ops.p rfl ?_
  refine Ops.p rfl ?_
  refine Ops.p rfl ?_
  refine Ops.s0 (s := 17432) (.sto rfl rfl rfl rfl rfl rfl) rfl rfl ?_
  refine Ops.nil ?_
  refine Run.seq ?_
  refine Run.ops hm ?_
  refine Ops.p rfl ?_
  refine Ops.p rfl ?_
  refine Ops.p rfl ?_
  refine Ops.s0 (s := 21528) (.sto rfl rfl rfl rfl rfl rfl) rfl rfl ?_
  refine Ops.nil ?_
  refine Run.seq ?_
  refine Run.ops hm ?_
  refine Ops.p rfl ?_
  refine Ops.p rfl ?_
  refine Ops.p rfl ?_
  refine Ops.s0 (s := 25624) (.sto rfl rfl rfl rfl rfl rfl) rfl rfl ?_
  refine Ops.nil ?_
  refine Run.seq ?_
  refine Run.ops hm ?_
  refine Ops.p rfl ?_
  refine Ops.p rfl ?_
  refine Ops.p rfl ?_
  refine Ops.s0 (s := 29720) (.sto rfl rfl rfl rfl rfl rfl) rfl rfl ?_
  refine Ops.nil ?_
  refine Run.seq ?_
  refine Run.ops hm ?_
  refine Ops.p rfl ?_
  refine Ops.s0 (s := 33784) (.sto rfl rfl rfl rfl rfl rfl) rfl rfl ?_
  refine Ops.nil ?_
  refine Run.ret ?_
  obtain rfl := someO h
  exact Ends.mk (.inl rfl) hB rfl rfl rfl rfl
def laws_toReply (N : Nat) (x_1 : Reply) : Option (Reply) :=
 (laws_toCommand N x_1.Command).bind fun y_103 =>
 some (Reply.mk x_1.Call x_1.Index y_103 x_1.Text)
theorem sem_laws_toReply (N : Nat) (x_1 : Reply) (r : Reply) (h : laws_toReply N x_1 = some r) : Says Try.prog 75 [.agg [VI x_1.Call, VI x_1.Index, VI x_1.Command.Op, VI x_1.Command.Session, VI x_1.Command.Seq, VS x_1.Command.Key, VS x_1.Command.Value, VS x_1.Command.Old, VS x_1.Text]] 0 [] (.agg [VI r.Call, VI r.Index, VI r.Command.Op, VI r.Command.Session, VI r.Command.Seq, VS r.Command.Key, VS r.Command.Value, VS r.Command.Old, VS r.Text]) [] := by
  unfold laws_toReply at h
  refine Says.of_run s75 Try.call75 rfl fun B hB => ?_
  have hm : B.m ≤ 1000 := by omega
  refine Run.seq ?_
  refine Run.ops hm ?_
  refine Ops.st (s := 1000) (.bx rfl rfl) rfl rfl ?_
  refine Ops.st (s := 1016) (.al rfl rfl) rfl rfl ?_
  refine Ops.nil ?_
  refine Run.seq ?_
  refine Run.ops hm ?_
  refine Ops.st (s := 5096) (.al rfl rfl) rfl rfl ?_
  refine Ops.nil ?_
  refine Run.seq ?_
  refine Run.ops hm ?_
  refine Ops.p rfl ?_
  refine Ops.p rfl ?_
  refine Ops.p rfl ?_
  refine Ops.s0 (s := 9240) (.sto rfl rfl rfl rfl rfl rfl) rfl rfl ?_
  refine Ops.nil ?_
  refine Run.seq ?_
  refine Run.ops hm ?_
  refine Ops.p rfl ?_
  refine Ops.p rfl ?_
  refine Ops.p rfl ?_
  refine Ops.s0 (s := 13336) (.sto rfl rfl rfl rfl rfl rfl) rfl rfl ?_
  refine Ops.nil ?_
  refine Run.seq ?_
  refine Run.ops hm ?_
  refine Ops.p rfl ?_
  refine Ops.p rfl ?_
  obtain ⟨y_103, hy_103, h⟩ := bindO h
  refine Ops.st (s := 17416) (Ev.call [] [] 0 (sem_laws_toCommand N x_1.Command _ hy_103) rfl rfl (.cons (.agg (.cons (.c _) (.cons (.c _) (.cons (.c _) (.cons (.c _) (.cons (.c _) (.cons (.c _) .nil))))))) .nil) rfl (.inl rfl) rfl rfl) rfl rfl ?_
  refine Ops.p rfl ?_
  refine Ops.s0 (s := 17448) (.sto rfl rfl rfl rfl rfl rfl) rfl rfl ?_
  refine Ops.nil ?_
  refine Run.seq ?_
  refine Run.ops hm ?_
  refine Ops.p rfl ?_
  refine Ops.p rfl ?_
  refine Ops.p rfl ?_
  refine Ops.s0 (s := 21528) (.sto rfl rfl rfl rfl rfl rfl) rfl rfl ?_
  refine Ops.nil ?_
  refine Run.seq ?_
  refine Run.ops hm ?_
  refine Ops.p rfl ?_
  refine Ops.s0 (s := 25592) (.sto rfl rfl rfl rfl rfl rfl) rfl rfl ?_
  refine Ops.nil ?_
  refine Run.ret ?_
  obtain rfl := someO h
  exact Ends.mk (.inl rfl) hB rfl rfl rfl rfl
def laws_toReplyS_l1 (N : Nat) (x_1 : (List Reply)) : Nat → Int → (List Reply) → Option ((List Reply))
 | 0, _, _ => none
 | m + 1, x_170, x_171 =>
 (if (decide (x_170 < (x_1.length : Int))) = true then
 (at? x_1 x_170).bind fun x_187 =>
 (laws_toReply N x_187).bind fun y_188 =>
 (at? x_171 x_170).bind fun x_189 =>
 laws_toReplyS_l1 N x_1 m (w64 (x_170 + (1 : Int))) (x_171.set x_170.toNat y_188)
 else
 some x_171)
def laws_toReplyS_l1_r (N : Nat) (x_1 : (List Reply)) : (List Reply) → Int → (List Reply) → Option ((List Reply))
 | [], x_170, x_171 =>
 some x_171
 | hd :: tl, x_170, x_171 =>
 (some hd).bind fun x_187 =>
 (laws_toReply N x_187).bind fun y_188 =>
 (at? x_171 x_170).bind fun x_189 =>
 laws_toReplyS_l1_r N x_1 tl (w64 (x_170 + (1 : Int))) (x_171.set x_170.toNat y_188)
theorem laws_toReplyS_l1_rng (N : Nat) (x_1 : (List Reply)) (hx : x_1.length ≤ 1099511627776) : ∀ (d k m : Nat) (x_171 : (List Reply)), x_1.length = k + d → d < m → laws_toReplyS_l1 N x_1 m (k : Int) x_171 = laws_toReplyS_l1_r N x_1 (x_1.drop k) (k : Int) x_171 := by
  intro d
  induction d with
  | zero =>
    intro k m x_171 hd hm
    obtain ⟨m, rfl⟩ : ∃ q, m = q + 1 := ⟨m - 1, by omega⟩
    rw [laws_toReplyS_l1, if_neg (by simp; omega), List.drop_eq_nil_of_le (by omega), laws_toReplyS_l1_r]
  | succ d ih =>
    intro k m x_171 hd hm
    obtain ⟨m, rfl⟩ : ∃ q, m = q + 1 := ⟨m - 1, by omega⟩
    have hk : k < x_1.length := by omega
    rw [laws_toReplyS_l1, if_pos (by simp; omega), List.drop_eq_getElem_cons hk, laws_toReplyS_l1_r]
    have h1 := at_lt hk
    have h2 := w64_succ (k := k) (by omega)
    have h3 := ih (k + 1) m
    simp only [h1, h2, h3 _ (by omega) (by omega)]
theorem laws_toReplyS_l1_eq {N : Nat} (x_1 : (List Reply)) (hx : x_1.length ≤ 1099511627776) (hN : x_1.length < N) (x_171 : (List Reply)) : laws_toReplyS_l1 N x_1 N 0 x_171 = laws_toReplyS_l1_r N x_1 x_1 0 x_171 := laws_toReplyS_l1_rng N x_1 hx x_1.length 0 N x_171 (by omega) hN
def laws_toReplyS (N : Nat) (x_1 : (List Reply)) : Option ((List Reply)) :=
 (mk? (Reply.mk (0 : Int) (0 : Int) (Command.mk (0 : Int) (0 : Int) (0 : Int) (⟨#[]⟩ : ByteArray) (⟨#[]⟩ : ByteArray) (⟨#[]⟩ : ByteArray)) (⟨#[]⟩ : ByteArray)) (x_1.length : Int)).bind fun x_146 =>
 joinP (fun (v_168 : (List Reply)) =>
 some v_168) fun j_168 =>
 (laws_toReplyS_l1 N x_1 N (0 : Int) x_146).bind (fun (v_180 : (List Reply)) => j_168 v_180)
theorem sem_laws_toReplyS (N : Nat) (x_1 : (List Reply)) (r : (List Reply)) (h : laws_toReplyS N x_1 = some r) : Says Try.prog 22 [RO 117 (x_1.map encReply)] 0 [] (.sl 0 119 0 r.length) [(0, .vec 119 (r.map encReply))] := by
  unfold laws_toReplyS at h
  refine Says.of_run s22 Try.call22 rfl fun B hB => ?_
  have hm : B.m ≤ 1000 := by omega
  refine Run.seq ?_
  refine Run.ops hm ?_
  refine Ops.p rfl ?_
  refine Ops.nil ?_
  refine Run.seq ?_
  refine Run.ops hm ?_
  refine Ops.p rfl ?_
  refine Ops.st (s := 5112) (Ev.lnF rfl) rfl rfl ?_
  obtain ⟨x_146, hx_146, h⟩ := bindO h
  refine Ops.st (s := 5128) (Ev.msW (f := encReply) (zv := (Reply.mk (0 : Int) (0 : Int) (Command.mk (0 : Int) (0 : Int) (0 : Int) (⟨#[]⟩ : ByteArray) (⟨#[]⟩ : ByteArray) (⟨#[]⟩ : ByteArray)) (⟨#[]⟩ : ByteArray))) rfl rfl rfl bt119 rfl hx_146) rfl rfl ?_
  refine Ops.p rfl ?_
  refine Ops.nil ?_
  refine Run.seqO h (fun (v_168 : (List Reply)) => [(3, .sl 0 119 0 v_168.length)]) (fun (v_168 : (List Reply)) => [(0, .vec 119 (v_168.map encReply))]) (fun h => ?_) (fun v_168 h => ?_)
  · skip
    refine Run.seq ?_
    refine Run.ops hm ?_
    refine Ops.p rfl ?_
    refine Ops.nil ?_
    refine Run.block ?_
    obtain ⟨res_180, h, hk_180⟩ := bindO h
    refine Run.loop (n := N) (fun m_180 fr σ => ∃ (x_170 : Int), ∃ (x_171 : (List Reply)), laws_toReplyS_l1 N x_1 m_180 x_170 x_171 = some res_180 ∧ fr = [(0, RO 117 (x_1.map encReply)), (3, .sl 0 119 0 x_171.length), (4, VI x_170)] ∧ σ = [(0, .vec 119 (x_171.map encReply))]) (gh_canonE (ts := [0, 3, 4]) hB rfl rfl rfl) ⟨_, _, h, rfl, rfl⟩ ?_
    rintro m_180 fr σ ⟨x_170, x_171, h, rfl, rfl⟩
    obtain _ | m_180 := m_180
    · rw [laws_toReplyS_l1] at h; cases h
    rw [laws_toReplyS_l1] at h
    refine Run.seq ?_
    refine Run.seq ?_
    refine Run.ops hm ?_
    refine Ops.p rfl ?_
    refine Ops.p rfl ?_
    refine Ops.st (s := 13320) (Ev.lnF rfl) rfl rfl ?_
    refine Ops.p rfl ?_
    refine Ops.nil ?_
    refine Run.condO rfl h (fun g_183 h => ?_) (fun g_183 h => ?_)
    · skip
      refine Run.skip ?_
      refine Run.seq ?_
      refine Run.block ?_
      refine Run.ops hm ?_
      refine Ops.p rfl ?_
      refine Ops.p rfl ?_
      refine Ops.p rfl ?_
      refine Ops.p rfl ?_
      obtain ⟨x_187, hx_187, h⟩ := bindO h
      refine Ops.st (s := 21544) (Ev.iaF rfl rfl hx_187) rfl rfl ?_
      refine Ops.p rfl ?_
      obtain ⟨y_188, hy_188, h⟩ := bindO h
      refine Ops.st (s := 21576) (Ev.call [] [] 0 (sem_laws_toReply N x_187 _ hy_188) rfl rfl (.cons (.agg (.cons (.c _) (.cons (.c _) (.cons (.c _) (.cons (.c _) (.cons (.c _) (.cons (.c _) (.cons (.c _) (.cons (.c _) (.cons (.c _) .nil)))))))))) .nil) rfl (.inl rfl) rfl rfl) rfl rfl ?_
      obtain ⟨x_189, hx_189, h⟩ := bindO h
      refine Ops.st (s := 21592) (Ev.iaW rfl rfl rfl hx_189) rfl rfl ?_
      refine Ops.s0 (s := 21608) (Ev.stE (f := encReply) (v' := y_188) rfl rfl (at_some hx_189).2 rfl (.cons (.c _) (.cons (.c _) (.cons (.c _) (.cons (.c _) (.cons (.c _) (.cons (.c _) (.cons (.c _) (.cons (.c _) (.cons (.c _) .nil))))))))) rfl rfl rfl rfl rfl) rfl rfl ?_
      refine Ops.nil ?_
      refine Run.ops hm ?_
      refine Ops.p rfl ?_
      refine Ops.p rfl ?_
      refine Ops.p rfl ?_
      refine Ops.nil ?_
      exact ⟨m_180, Nat.lt_succ_self m_180, _, _, gh_canonE (ts := [0, 3, 4]) hB rfl (by first | rfl | (simp only [List.length_set]; done) | (simp only [List.length_set]; rfl)) (by first | rfl | (simp only [List.length_set]; done) | (simp only [List.length_set]; rfl)), _, _, h, rfl, rfl⟩
    · skip
      refine Run.exit ?_
      obtain rfl := someO h
      have h := hk_180
      exact ⟨_, _, gh_canonE (ts := [3]) hB rfl rfl rfl, x_171, h, rfl, rfl⟩
  · skip
    refine Run.seq ?_
    refine Run.ops hm ?_
    refine Ops.p rfl ?_
    refine Ops.p rfl ?_
    refine Ops.nil ?_
    refine Run.ret ?_
    obtain rfl := someO h
    exact Ends.mk (.inl rfl) hB rfl rfl rfl rfl
def spec_l19Result (N : Nat) (x_1 : ByteArray) : Option (Bool) :=
 (if (!decide (x_1 = (⟨#[101, 120, 112, 105, 114, 101, 100]⟩ : ByteArray))) = true then
 (if (!decide (x_1 = (⟨#[115, 116, 97, 108, 101]⟩ : ByteArray))) = true then
 some (!decide (x_1 = (⟨#[103, 97, 112]⟩ : ByteArray)))
 else
 some false)
 else
 some false)
theorem sem_spec_l19Result (N : Nat) (x_1 : ByteArray) (r : Bool) (h : spec_l19Result N x_1 = some r) : Says Try.prog 74 [VS x_1] 0 [] (VB r) [] := by
  unfold spec_l19Result at h
  refine Says.of_run s74 Try.call74 rfl fun B hB => ?_
  have hm : B.m ≤ 1000 := by omega
  refine Run.seq ?_
  refine Run.ops hm ?_
  refine Ops.p rfl ?_
  refine Ops.nil ?_
  refine Run.seq ?_
  refine Run.ops hm ?_
  refine Ops.p rfl ?_
  refine Ops.p rfl ?_
  refine Ops.p rfl ?_
  refine Ops.askO (x := .t 5) rfl h (fun g_102 h => ?_) (fun g_102 h => ?_)
  · skip
    refine Ops.gp rfl g_102 rfl ?_
    refine Ops.gp rfl g_102 rfl ?_
    refine Ops.st (s := 5176) (.pkT rfl g_102 rfl) rfl rfl ?_
    refine Ops.p rfl ?_
    refine Ops.askO (x := .t 9) rfl h (fun g_103 h => ?_) (fun g_103 h => ?_)
    · skip
      refine Ops.gp rfl g_103 rfl ?_
      refine Ops.gp rfl g_103 rfl ?_
      refine Ops.st (s := 5240) (.pkT rfl g_103 rfl) rfl rfl ?_
      refine Ops.p rfl ?_
      refine Ops.nil ?_
      refine Run.ret ?_
      obtain rfl := someO h
      exact Ends.mk (.inl rfl) hB rfl rfl rfl rfl
    · skip
      refine Ops.gn rfl g_103 ?_
      refine Ops.gn rfl g_103 ?_
      refine Ops.st (s := 5240) (.pkF rfl g_103 rfl) rfl rfl ?_
      refine Ops.p rfl ?_
      refine Ops.nil ?_
      refine Run.ret ?_
      obtain rfl := someO h
      exact Ends.mk (.inl rfl) hB rfl rfl rfl rfl
  · skip
    refine Ops.gn rfl g_102 ?_
    refine Ops.gn rfl g_102 ?_
    refine Ops.st (s := 5176) (.pkF rfl g_102 rfl) rfl rfl ?_
    refine Ops.p rfl ?_
    refine Ops.gn rfl rfl ?_
    refine Ops.gn rfl rfl ?_
    refine Ops.st (s := 5240) (.pkF rfl rfl rfl) rfl rfl ?_
    refine Ops.p rfl ?_
    refine Ops.nil ?_
    refine Run.ret ?_
    obtain rfl := someO h
    exact Ends.mk (.inl rfl) hB rfl rfl rfl rfl
def spec_Once_l2 (N : Nat) (x_1 : (List Reply)) (x_856 : Int) : Nat → Int → Option ((Bool) ⊕ (Unit))
 | 0, _ => none
 | m + 1, x_1048 =>
 (if (decide (x_1048 < x_856)) = true then
 joinP (fun (v_1093 : Unit) =>
 spec_Once_l2 N x_1 x_856 m (w64 (x_1048 + (1 : Int)))) fun j_1093 =>
 (at? x_1 x_856).bind fun x_1095 =>
 (at? x_1 x_1048).bind fun x_1097 =>
 (if (decide (x_1095.Command.Session > (0 : Int))) = true then
 (if (x_1095.Command.Session == x_1097.Command.Session) = true then
 (if (x_1095.Command.Seq == x_1097.Command.Seq) = true then
 (spec_l19Result N x_1095.Text).bind fun y_1101 =>
 (if y_1101 = true then
 (spec_l19Result N x_1097.Text).bind fun y_1103 =>
 (if y_1103 = true then
 (if (!decide (x_1095.Text = x_1097.Text)) = true then
 some (Sum.inl false)
 else
 j_1093 ())
 else
 j_1093 ())
 else
 j_1093 ())
 else
 j_1093 ())
 else
 j_1093 ())
 else
 j_1093 ())
 else
 some (Sum.inr ()))
def spec_Once_l1 (N : Nat) (x_1 : (List Reply)) : Nat → Int → Option ((Bool) ⊕ (Unit))
 | 0, _ => none
 | m + 1, x_856 =>
 (if (decide (x_856 < (x_1.length : Int))) = true then
 joinP (fun (v_1045 : Unit) =>
 spec_Once_l1 N x_1 m (w64 (x_856 + (1 : Int)))) fun j_1045 =>
 (spec_Once_l2 N x_1 x_856 N (0 : Int)).bind (Sum.elim (fun v_1076 => some (Sum.inl v_1076)) (fun (v_1077 : Unit) => j_1045 ()))
 else
 some (Sum.inr ()))
def spec_Once_l1_r (N : Nat) (x_1 : (List Reply)) : (List Reply) → Int → Option ((Bool) ⊕ (Unit))
 | [], x_856 =>
 some (Sum.inr ())
 | hd :: tl, x_856 =>
 joinP (fun (v_1045 : Unit) =>
 spec_Once_l1_r N x_1 tl (w64 (x_856 + (1 : Int)))) fun j_1045 =>
 (spec_Once_l2 N x_1 x_856 N (0 : Int)).bind (Sum.elim (fun v_1076 => some (Sum.inl v_1076)) (fun (v_1077 : Unit) => j_1045 ()))
theorem spec_Once_l1_rng (N : Nat) (x_1 : (List Reply)) (hx : x_1.length ≤ 1099511627776) : ∀ (d k m : Nat), x_1.length = k + d → d < m → spec_Once_l1 N x_1 m (k : Int) = spec_Once_l1_r N x_1 (x_1.drop k) (k : Int) := by
  intro d
  induction d with
  | zero =>
    intro k m hd hm
    obtain ⟨m, rfl⟩ : ∃ q, m = q + 1 := ⟨m - 1, by omega⟩
    rw [spec_Once_l1, if_neg (by simp; omega), List.drop_eq_nil_of_le (by omega), spec_Once_l1_r]
  | succ d ih =>
    intro k m hd hm
    obtain ⟨m, rfl⟩ : ∃ q, m = q + 1 := ⟨m - 1, by omega⟩
    have hk : k < x_1.length := by omega
    rw [spec_Once_l1, if_pos (by simp; omega), List.drop_eq_getElem_cons hk, spec_Once_l1_r]
    have h1 := at_lt hk
    have h2 := w64_succ (k := k) (by omega)
    have h3 := ih (k + 1) m
    simp only [h1, h2, h3 (by omega) (by omega)]
theorem spec_Once_l1_eq {N : Nat} (x_1 : (List Reply)) (hx : x_1.length ≤ 1099511627776) (hN : x_1.length < N) : spec_Once_l1 N x_1 N 0 = spec_Once_l1_r N x_1 x_1 0 := spec_Once_l1_rng N x_1 hx x_1.length 0 N (by omega) hN
def spec_Once (N : Nat) (x_1 : (List Reply)) : Option (Bool) :=
 joinP (fun (v_854 : Unit) =>
 some true) fun j_854 =>
 (spec_Once_l1 N x_1 N (0 : Int)).bind (Sum.elim (fun v_980 => some v_980) (fun (v_981 : Unit) => j_854 ()))
theorem sem_spec_Once (N : Nat) (x_1 : (List Reply)) (r : Bool) (h : spec_Once N x_1 = some r) : Says Try.prog 21 [RO 119 (x_1.map encReply)] 0 [] (VB r) [] := by
  unfold spec_Once at h
  refine Says.of_run s21 Try.call21 rfl fun B hB => ?_
  have hm : B.m ≤ 1000 := by omega
  refine Run.seq ?_
  refine Run.ops hm ?_
  refine Ops.p rfl ?_
  refine Ops.nil ?_
  refine Run.seqO h (fun (v_854 : Unit) => []) (fun (v_854 : Unit) => []) (fun h => ?_) (fun v_854 h => ?_)
  · skip
    refine Run.seq ?_
    refine Run.ops hm ?_
    refine Ops.p rfl ?_
    refine Ops.nil ?_
    refine Run.block ?_
    obtain ⟨res_981, h, hk_981⟩ := bindO h
    refine Run.loop (n := N) (fun m_981 fr σ => ∃ (x_856 : Int), spec_Once_l1 N x_1 m_981 x_856 = some res_981 ∧ fr = [(0, RO 119 (x_1.map encReply)), (3, VI x_856)] ∧ σ = []) (gh_canonE (ts := [0, 3]) hB rfl rfl rfl) ⟨_, h, rfl, rfl⟩ ?_
    rintro m_981 fr σ ⟨x_856, h, rfl, rfl⟩
    obtain _ | m_981 := m_981
    · rw [spec_Once_l1] at h; cases h
    rw [spec_Once_l1] at h
    refine Run.seq ?_
    refine Run.seq ?_
    refine Run.ops hm ?_
    refine Ops.p rfl ?_
    refine Ops.p rfl ?_
    refine Ops.st (s := 9224) (Ev.lnF rfl) rfl rfl ?_
    refine Ops.p rfl ?_
    refine Ops.nil ?_
    refine Run.condO rfl h (fun g_984 h => ?_) (fun g_984 h => ?_)
    · skip
      refine Run.skip ?_
      refine Run.seqO h (fun (v_1045 : Unit) => [(0, RO 119 (x_1.map encReply)), (3, VI x_856)]) (fun (v_1045 : Unit) => []) (fun h => ?_) (fun v_1045 h => ?_)
      · skip
        refine Run.block ?_
        refine Run.seq ?_
        refine Run.ops hm ?_
        refine Ops.p rfl ?_
        refine Ops.nil ?_
        refine Run.block ?_
        obtain ⟨res_1077, h, hk_1077⟩ := bindO h
        refine Run.loop (n := N) (fun m_1077 fr σ => ∃ (x_1048 : Int), spec_Once_l2 N x_1 x_856 m_1077 x_1048 = some res_1077 ∧ fr = [(0, RO 119 (x_1.map encReply)), (3, VI x_856), (4, VI x_1048)] ∧ σ = []) (gh_canonE (ts := [0, 3, 4]) hB rfl rfl rfl) ⟨_, h, rfl, rfl⟩ ?_
        rintro m_1077 fr σ ⟨x_1048, h, rfl, rfl⟩
        obtain _ | m_1077 := m_1077
        · rw [spec_Once_l2] at h; cases h
        rw [spec_Once_l2] at h
        refine Run.seq ?_
        refine Run.seq ?_
        refine Run.ops hm ?_
        refine Ops.p rfl ?_
        refine Ops.p rfl ?_
        refine Ops.p rfl ?_
        refine Ops.nil ?_
        refine Run.condO rfl h (fun g_1080 h => ?_) (fun g_1080 h => ?_)
        · skip
          refine Run.skip ?_
          refine Run.seqO h (fun (v_1093 : Unit) => [(0, RO 119 (x_1.map encReply)), (3, VI x_856), (4, VI x_1048)]) (fun (v_1093 : Unit) => []) (fun h => ?_) (fun v_1093 h => ?_)
          · skip
            refine Run.block ?_
            refine Run.seq ?_
            refine Run.ops hm ?_
            refine Ops.p rfl ?_
            refine Ops.p rfl ?_
            obtain ⟨x_1095, hx_1095, h⟩ := bindO h
            refine Ops.st (s := 29704) (Ev.iaF rfl rfl hx_1095) rfl rfl ?_
            refine Ops.p rfl ?_
            refine Ops.st (s := 29736) (.al rfl rfl) rfl rfl ?_
            refine Ops.s0 (s := 29752) (.sto rfl rfl rfl rfl rfl rfl) rfl rfl ?_
            refine Ops.nil ?_
            refine Run.seq ?_
            refine Run.ops hm ?_
            refine Ops.p rfl ?_
            refine Ops.p rfl ?_
            obtain ⟨x_1097, hx_1097, h⟩ := bindO h
            refine Ops.st (s := 33800) (Ev.iaF rfl rfl hx_1097) rfl rfl ?_
            refine Ops.p rfl ?_
            refine Ops.st (s := 33832) (.al rfl rfl) rfl rfl ?_
            refine Ops.s0 (s := 33848) (.sto rfl rfl rfl rfl rfl rfl) rfl rfl ?_
            refine Ops.nil ?_
            refine Run.seq ?_
            refine Run.ops hm ?_
            refine Ops.p rfl ?_
            refine Ops.p rfl ?_
            refine Ops.p rfl ?_
            refine Ops.p rfl ?_
            refine Ops.p rfl ?_
            refine Ops.askO (x := .t 30) rfl h (fun g_1098 h => ?_) (fun g_1098 h => ?_)
            · skip
              refine Ops.gp rfl g_1098 rfl ?_
              refine Ops.gp rfl g_1098 rfl ?_
              refine Ops.gp rfl g_1098 rfl ?_
              refine Ops.gp rfl g_1098 rfl ?_
              refine Ops.gp rfl g_1098 rfl ?_
              refine Ops.gp rfl g_1098 rfl ?_
              refine Ops.gp rfl g_1098 rfl ?_
              refine Ops.st (s := 38056) (.pkT rfl g_1098 rfl) rfl rfl ?_
              refine Ops.p rfl ?_
              refine Ops.askO (x := .t 39) rfl h (fun g_1099 h => ?_) (fun g_1099 h => ?_)
              · skip
                refine Ops.gp rfl g_1099 rfl ?_
                refine Ops.gp rfl g_1099 rfl ?_
                refine Ops.gp rfl g_1099 rfl ?_
                refine Ops.gp rfl g_1099 rfl ?_
                refine Ops.gp rfl g_1099 rfl ?_
                refine Ops.gp rfl g_1099 rfl ?_
                refine Ops.gp rfl g_1099 rfl ?_
                refine Ops.st (s := 38200) (.pkT rfl g_1099 rfl) rfl rfl ?_
                refine Ops.p rfl ?_
                refine Ops.askO (x := .t 48) rfl h (fun g_1100 h => ?_) (fun g_1100 h => ?_)
                · skip
                  refine Ops.gp rfl g_1100 rfl ?_
                  refine Ops.gp rfl g_1100 rfl ?_
                  obtain ⟨y_1101, hy_1101, h⟩ := bindO h
                  refine Ops.gs (s := 38264) rfl g_1100 (Ev.call [] [] 0 (sem_spec_l19Result N x_1095.Text _ hy_1101) rfl rfl (.cons (.c _) .nil) rfl (.inl rfl) rfl rfl) rfl rfl ?_
                  refine Ops.st (s := 38280) (.pkT rfl g_1100 rfl) rfl rfl ?_
                  refine Ops.p rfl ?_
                  refine Ops.askO (x := .t 53) rfl h (fun g_1102 h => ?_) (fun g_1102 h => ?_)
                  · skip
                    refine Ops.gp rfl g_1102 rfl ?_
                    refine Ops.gp rfl g_1102 rfl ?_
                    obtain ⟨y_1103, hy_1103, h⟩ := bindO h
                    refine Ops.gs (s := 38344) rfl g_1102 (Ev.call [] [] 0 (sem_spec_l19Result N x_1097.Text _ hy_1103) rfl rfl (.cons (.c _) .nil) rfl (.inl rfl) rfl rfl) rfl rfl ?_
                    refine Ops.st (s := 38360) (.pkT rfl g_1102 rfl) rfl rfl ?_
                    refine Ops.p rfl ?_
                    refine Ops.askO (x := .t 58) rfl h (fun g_1104 h => ?_) (fun g_1104 h => ?_)
                    · skip
                      refine Ops.gp rfl g_1104 rfl ?_
                      refine Ops.gp rfl g_1104 rfl ?_
                      refine Ops.gp rfl g_1104 rfl ?_
                      refine Ops.gp rfl g_1104 rfl ?_
                      refine Ops.gp rfl g_1104 rfl ?_
                      refine Ops.st (s := 38472) (.pkT rfl g_1104 rfl) rfl rfl ?_
                      refine Ops.nil ?_
                      refine Run.condO rfl h (fun g_1105 h => ?_) (fun g_1105 h => ?_)
                      · skip
                        refine Run.seq ?_
                        refine Run.ops hm ?_
                        refine Ops.p rfl ?_
                        refine Ops.nil ?_
                        refine Run.ret ?_
                        obtain rfl := someO h
                        have h := hk_1077
                        replace h := inlO h
                        obtain rfl := someO h
                        have h := hk_981
                        replace h := inlO h
                        obtain rfl := someO h
                        exact Ends.mk (.inl rfl) hB rfl rfl rfl rfl
                      · skip
                        refine Run.skip ?_
                        exact ⟨_, _, gh_canonE (ts := [0, 3, 4]) hB rfl rfl rfl, (), h, rfl, rfl⟩
                    · skip
                      refine Ops.gn rfl g_1104 ?_
                      refine Ops.gn rfl g_1104 ?_
                      refine Ops.gn rfl g_1104 ?_
                      refine Ops.gn rfl g_1104 ?_
                      refine Ops.gn rfl g_1104 ?_
                      refine Ops.st (s := 38472) (.pkF rfl g_1104 rfl) rfl rfl ?_
                      refine Ops.nil ?_
                      refine Run.condF rfl rfl ?_
                      refine Run.skip ?_
                      exact ⟨_, _, gh_canonE (ts := [0, 3, 4]) hB rfl rfl rfl, (), h, rfl, rfl⟩
                  · skip
                    refine Ops.gn rfl g_1102 ?_
                    refine Ops.gn rfl g_1102 ?_
                    refine Ops.gn rfl g_1102 ?_
                    refine Ops.st (s := 38360) (.pkF rfl g_1102 rfl) rfl rfl ?_
                    refine Ops.p rfl ?_
                    refine Ops.gn rfl rfl ?_
                    refine Ops.gn rfl rfl ?_
                    refine Ops.gn rfl rfl ?_
                    refine Ops.gn rfl rfl ?_
                    refine Ops.gn rfl rfl ?_
                    refine Ops.st (s := 38472) (.pkF rfl rfl rfl) rfl rfl ?_
                    refine Ops.nil ?_
                    refine Run.condF rfl rfl ?_
                    refine Run.skip ?_
                    exact ⟨_, _, gh_canonE (ts := [0, 3, 4]) hB rfl rfl rfl, (), h, rfl, rfl⟩
                · skip
                  refine Ops.gn rfl g_1100 ?_
                  refine Ops.gn rfl g_1100 ?_
                  refine Ops.gn rfl g_1100 ?_
                  refine Ops.st (s := 38280) (.pkF rfl g_1100 rfl) rfl rfl ?_
                  refine Ops.p rfl ?_
                  refine Ops.gn rfl rfl ?_
                  refine Ops.gn rfl rfl ?_
                  refine Ops.gn rfl rfl ?_
                  refine Ops.st (s := 38360) (.pkF rfl rfl rfl) rfl rfl ?_
                  refine Ops.p rfl ?_
                  refine Ops.gn rfl rfl ?_
                  refine Ops.gn rfl rfl ?_
                  refine Ops.gn rfl rfl ?_
                  refine Ops.gn rfl rfl ?_
                  refine Ops.gn rfl rfl ?_
                  refine Ops.st (s := 38472) (.pkF rfl rfl rfl) rfl rfl ?_
                  refine Ops.nil ?_
                  refine Run.condF rfl rfl ?_
                  refine Run.skip ?_
                  exact ⟨_, _, gh_canonE (ts := [0, 3, 4]) hB rfl rfl rfl, (), h, rfl, rfl⟩
              · skip
                refine Ops.gn rfl g_1099 ?_
                refine Ops.gn rfl g_1099 ?_
                refine Ops.gn rfl g_1099 ?_
                refine Ops.gn rfl g_1099 ?_
                refine Ops.gn rfl g_1099 ?_
                refine Ops.gn rfl g_1099 ?_
                refine Ops.gn rfl g_1099 ?_
                refine Ops.st (s := 38200) (.pkF rfl g_1099 rfl) rfl rfl ?_
                refine Ops.p rfl ?_
                refine Ops.gn rfl rfl ?_
                refine Ops.gn rfl rfl ?_
                refine Ops.gn rfl rfl ?_
                refine Ops.st (s := 38280) (.pkF rfl rfl rfl) rfl rfl ?_
                refine Ops.p rfl ?_
                refine Ops.gn rfl rfl ?_
                refine Ops.gn rfl rfl ?_
                refine Ops.gn rfl rfl ?_
                refine Ops.st (s := 38360) (.pkF rfl rfl rfl) rfl rfl ?_
                refine Ops.p rfl ?_
                refine Ops.gn rfl rfl ?_
                refine Ops.gn rfl rfl ?_
                refine Ops.gn rfl rfl ?_
                refine Ops.gn rfl rfl ?_
                refine Ops.gn rfl rfl ?_
                refine Ops.st (s := 38472) (.pkF rfl rfl rfl) rfl rfl ?_
                refine Ops.nil ?_
                refine Run.condF rfl rfl ?_
                refine Run.skip ?_
                exact ⟨_, _, gh_canonE (ts := [0, 3, 4]) hB rfl rfl rfl, (), h, rfl, rfl⟩
            · skip
              refine Ops.gn rfl g_1098 ?_
              refine Ops.gn rfl g_1098 ?_
              refine Ops.gn rfl g_1098 ?_
              refine Ops.gn rfl g_1098 ?_
              refine Ops.gn rfl g_1098 ?_
              refine Ops.gn rfl g_1098 ?_
              refine Ops.gn rfl g_1098 ?_
              refine Ops.st (s := 38056) (.pkF rfl g_1098 rfl) rfl rfl ?_
              refine Ops.p rfl ?_
              refine Ops.gn rfl rfl ?_
              refine Ops.gn rfl rfl ?_
              refine Ops.gn rfl rfl ?_
              refine Ops.gn rfl rfl ?_
              refine Ops.gn rfl rfl ?_
              refine Ops.gn rfl rfl ?_
              refine Ops.gn rfl rfl ?_
              refine Ops.st (s := 38200) (.pkF rfl rfl rfl) rfl rfl ?_
              refine Ops.p rfl ?_
              refine Ops.gn rfl rfl ?_
              refine Ops.gn rfl rfl ?_
              refine Ops.gn rfl rfl ?_
              refine Ops.st (s := 38280) (.pkF rfl rfl rfl) rfl rfl ?_
              refine Ops.p rfl ?_
              refine Ops.gn rfl rfl ?_
              refine Ops.gn rfl rfl ?_
              refine Ops.gn rfl rfl ?_
              refine Ops.st (s := 38360) (.pkF rfl rfl rfl) rfl rfl ?_
              refine Ops.p rfl ?_
              refine Ops.gn rfl rfl ?_
              refine Ops.gn rfl rfl ?_
              refine Ops.gn rfl rfl ?_
              refine Ops.gn rfl rfl ?_
              refine Ops.gn rfl rfl ?_
              refine Ops.st (s := 38472) (.pkF rfl rfl rfl) rfl rfl ?_
              refine Ops.nil ?_
              refine Run.condF rfl rfl ?_
              refine Run.skip ?_
              exact ⟨_, _, gh_canonE (ts := [0, 3, 4]) hB rfl rfl rfl, (), h, rfl, rfl⟩
          · skip
            refine Run.ops hm ?_
            refine Ops.p rfl ?_
            refine Ops.p rfl ?_
            refine Ops.p rfl ?_
            refine Ops.nil ?_
            exact ⟨m_1077, Nat.lt_succ_self m_1077, _, _, gh_canonE (ts := [0, 3, 4]) hB rfl rfl rfl, _, h, rfl, rfl⟩
        · skip
          refine Run.exit ?_
          obtain rfl := someO h
          have h := hk_1077
          replace h := inrO h
          exact ⟨_, _, gh_canonE (ts := [0, 3]) hB rfl rfl rfl, (), h, rfl, rfl⟩
      · skip
        refine Run.ops hm ?_
        refine Ops.p rfl ?_
        refine Ops.p rfl ?_
        refine Ops.p rfl ?_
        refine Ops.nil ?_
        exact ⟨m_981, Nat.lt_succ_self m_981, _, _, gh_canonE (ts := [0, 3]) hB rfl rfl rfl, _, h, rfl, rfl⟩
    · skip
      refine Run.exit ?_
      obtain rfl := someO h
      have h := hk_981
      replace h := inrO h
      exact ⟨_, _, gh_canonE (ts := []) hB rfl rfl rfl, (), h, rfl, rfl⟩
  · skip
    refine Run.seq ?_
    refine Run.ops hm ?_
    refine Ops.p rfl ?_
    refine Ops.nil ?_
    refine Run.ret ?_
    obtain rfl := someO h
    exact Ends.mk (.inl rfl) hB rfl rfl rfl rfl
def impl_counts (N : Nat) (x_1 : Reply) : Option (Bool) :=
 (if (decide (x_1.Command.Session > (0 : Int))) = true then
 (if (!decide (x_1.Text = (⟨#[101, 120, 112, 105, 114, 101, 100]⟩ : ByteArray))) = true then
 (if (!decide (x_1.Text = (⟨#[115, 116, 97, 108, 101]⟩ : ByteArray))) = true then
 some (!decide (x_1.Text = (⟨#[103, 97, 112]⟩ : ByteArray)))
 else
 some false)
 else
 some false)
 else
 some false)
theorem sem_impl_counts (N : Nat) (x_1 : Reply) (r : Bool) (h : impl_counts N x_1 = some r) : Says Try.prog 76 [.agg [VI x_1.Call, VI x_1.Index, VI x_1.Command.Op, VI x_1.Command.Session, VI x_1.Command.Seq, VS x_1.Command.Key, VS x_1.Command.Value, VS x_1.Command.Old, VS x_1.Text]] 0 [] (VB r) [] := by
  unfold impl_counts at h
  refine Says.of_run s76 Try.call76 rfl fun B hB => ?_
  have hm : B.m ≤ 1000 := by omega
  refine Run.seq ?_
  refine Run.ops hm ?_
  refine Ops.st (s := 1000) (.bx rfl rfl) rfl rfl ?_
  refine Ops.p rfl ?_
  refine Ops.nil ?_
  refine Run.seq ?_
  refine Run.ops hm ?_
  refine Ops.p rfl ?_
  refine Ops.p rfl ?_
  refine Ops.p rfl ?_
  refine Ops.p rfl ?_
  refine Ops.p rfl ?_
  refine Ops.askO (x := .t 7) rfl h (fun g_103 h => ?_) (fun g_103 h => ?_)
  · skip
    refine Ops.gp rfl g_103 rfl ?_
    refine Ops.gp rfl g_103 rfl ?_
    refine Ops.gp rfl g_103 rfl ?_
    refine Ops.st (s := 5224) (.pkT rfl g_103 rfl) rfl rfl ?_
    refine Ops.p rfl ?_
    refine Ops.askO (x := .t 12) rfl h (fun g_104 h => ?_) (fun g_104 h => ?_)
    · skip
      refine Ops.gp rfl g_104 rfl ?_
      refine Ops.gp rfl g_104 rfl ?_
      refine Ops.gp rfl g_104 rfl ?_
      refine Ops.st (s := 5304) (.pkT rfl g_104 rfl) rfl rfl ?_
      refine Ops.p rfl ?_
      refine Ops.askO (x := .t 17) rfl h (fun g_105 h => ?_) (fun g_105 h => ?_)
      · skip
        refine Ops.gp rfl g_105 rfl ?_
        refine Ops.gp rfl g_105 rfl ?_
        refine Ops.gp rfl g_105 rfl ?_
        refine Ops.st (s := 5384) (.pkT rfl g_105 rfl) rfl rfl ?_
        refine Ops.p rfl ?_
        refine Ops.nil ?_
        refine Run.ret ?_
        obtain rfl := someO h
        exact Ends.mk (.inl rfl) hB rfl rfl rfl rfl
      · skip
        refine Ops.gn rfl g_105 ?_
        refine Ops.gn rfl g_105 ?_
        refine Ops.gn rfl g_105 ?_
        refine Ops.st (s := 5384) (.pkF rfl g_105 rfl) rfl rfl ?_
        refine Ops.p rfl ?_
        refine Ops.nil ?_
        refine Run.ret ?_
        obtain rfl := someO h
        exact Ends.mk (.inl rfl) hB rfl rfl rfl rfl
    · skip
      refine Ops.gn rfl g_104 ?_
      refine Ops.gn rfl g_104 ?_
      refine Ops.gn rfl g_104 ?_
      refine Ops.st (s := 5304) (.pkF rfl g_104 rfl) rfl rfl ?_
      refine Ops.p rfl ?_
      refine Ops.gn rfl rfl ?_
      refine Ops.gn rfl rfl ?_
      refine Ops.gn rfl rfl ?_
      refine Ops.st (s := 5384) (.pkF rfl rfl rfl) rfl rfl ?_
      refine Ops.p rfl ?_
      refine Ops.nil ?_
      refine Run.ret ?_
      obtain rfl := someO h
      exact Ends.mk (.inl rfl) hB rfl rfl rfl rfl
  · skip
    refine Ops.gn rfl g_103 ?_
    refine Ops.gn rfl g_103 ?_
    refine Ops.gn rfl g_103 ?_
    refine Ops.st (s := 5224) (.pkF rfl g_103 rfl) rfl rfl ?_
    refine Ops.p rfl ?_
    refine Ops.gn rfl rfl ?_
    refine Ops.gn rfl rfl ?_
    refine Ops.gn rfl rfl ?_
    refine Ops.st (s := 5304) (.pkF rfl rfl rfl) rfl rfl ?_
    refine Ops.p rfl ?_
    refine Ops.gn rfl rfl ?_
    refine Ops.gn rfl rfl ?_
    refine Ops.gn rfl rfl ?_
    refine Ops.st (s := 5384) (.pkF rfl rfl rfl) rfl rfl ?_
    refine Ops.p rfl ?_
    refine Ops.nil ?_
    refine Run.ret ?_
    obtain rfl := someO h
    exact Ends.mk (.inl rfl) hB rfl rfl rfl rfl
def impl_Once_1 (N : Nat) (x_1 : Reply) (x_2 : Reply) : Option (Bool) :=
 (impl_counts N x_1).bind fun y_104 =>
 (if y_104 = true then
 (if (x_2.Command.Session == x_1.Command.Session) = true then
 (if (x_2.Command.Seq == x_1.Command.Seq) = true then
 some (!decide (x_2.Text = x_1.Text))
 else
 some false)
 else
 some false)
 else
 some false)
theorem sem_impl_Once_1 (N : Nat) (x_1 : Reply) (x_2 : Reply) (r : Bool) (h : impl_Once_1 N x_1 x_2 = some r) : Says Try.prog 78 [.agg [VI x_1.Call, VI x_1.Index, VI x_1.Command.Op, VI x_1.Command.Session, VI x_1.Command.Seq, VS x_1.Command.Key, VS x_1.Command.Value, VS x_1.Command.Old, VS x_1.Text], .ptr 0 0] 1 [(0, .box [VI x_2.Call, VI x_2.Index, VI x_2.Command.Op, VI x_2.Command.Session, VI x_2.Command.Seq, VS x_2.Command.Key, VS x_2.Command.Value, VS x_2.Command.Old, VS x_2.Text])] (VB r) [(0, .box [VI x_2.Call, VI x_2.Index, VI x_2.Command.Op, VI x_2.Command.Session, VI x_2.Command.Seq, VS x_2.Command.Key, VS x_2.Command.Value, VS x_2.Command.Old, VS x_2.Text])] := by
  unfold impl_Once_1 at h
  refine Says.of_run s78 Try.call78 rfl fun B hB => ?_
  have hm : B.m ≤ 1000 := by omega
  refine Run.seq ?_
  refine Run.ops hm ?_
  refine Ops.st (s := 1000) (.bx rfl rfl) rfl rfl ?_
  refine Ops.p rfl ?_
  refine Ops.nil ?_
  refine Run.seq ?_
  refine Run.ops hm ?_
  refine Ops.p rfl ?_
  obtain ⟨y_104, hy_104, h⟩ := bindO h
  refine Ops.st (s := 5112) (Ev.call [] [] 0 (sem_impl_counts N x_1 _ hy_104) rfl rfl (.cons (.agg (.cons (.c _) (.cons (.c _) (.cons (.c _) (.cons (.c _) (.cons (.c _) (.cons (.c _) (.cons (.c _) (.cons (.c _) (.cons (.c _) .nil)))))))))) .nil) rfl (.inl rfl) rfl rfl) rfl rfl ?_
  refine Ops.p rfl ?_
  refine Ops.askO (x := .t 6) rfl h (fun g_105 h => ?_) (fun g_105 h => ?_)
  · skip
    refine Ops.gp rfl g_105 rfl ?_
    refine Ops.gp rfl g_105 rfl ?_
    refine Ops.gp rfl g_105 rfl ?_
    refine Ops.gp rfl g_105 rfl ?_
    refine Ops.gp rfl g_105 rfl ?_
    refine Ops.gp rfl g_105 rfl ?_
    refine Ops.gp rfl g_105 rfl ?_
    refine Ops.st (s := 5256) (.pkT rfl g_105 rfl) rfl rfl ?_
    refine Ops.p rfl ?_
    refine Ops.askO (x := .t 15) rfl h (fun g_106 h => ?_) (fun g_106 h => ?_)
    · skip
      refine Ops.gp rfl g_106 rfl ?_
      refine Ops.gp rfl g_106 rfl ?_
      refine Ops.gp rfl g_106 rfl ?_
      refine Ops.gp rfl g_106 rfl ?_
      refine Ops.gp rfl g_106 rfl ?_
      refine Ops.gp rfl g_106 rfl ?_
      refine Ops.gp rfl g_106 rfl ?_
      refine Ops.st (s := 5400) (.pkT rfl g_106 rfl) rfl rfl ?_
      refine Ops.p rfl ?_
      refine Ops.askO (x := .t 24) rfl h (fun g_107 h => ?_) (fun g_107 h => ?_)
      · skip
        refine Ops.gp rfl g_107 rfl ?_
        refine Ops.gp rfl g_107 rfl ?_
        refine Ops.gp rfl g_107 rfl ?_
        refine Ops.gp rfl g_107 rfl ?_
        refine Ops.gp rfl g_107 rfl ?_
        refine Ops.st (s := 5512) (.pkT rfl g_107 rfl) rfl rfl ?_
        refine Ops.p rfl ?_
        refine Ops.nil ?_
        refine Run.ret ?_
        obtain rfl := someO h
        exact Ends.mk (.inl rfl) hB rfl rfl rfl rfl
      · skip
        refine Ops.gn rfl g_107 ?_
        refine Ops.gn rfl g_107 ?_
        refine Ops.gn rfl g_107 ?_
        refine Ops.gn rfl g_107 ?_
        refine Ops.gn rfl g_107 ?_
        refine Ops.st (s := 5512) (.pkF rfl g_107 rfl) rfl rfl ?_
        refine Ops.p rfl ?_
        refine Ops.nil ?_
        refine Run.ret ?_
        obtain rfl := someO h
        exact Ends.mk (.inl rfl) hB rfl rfl rfl rfl
    · skip
      refine Ops.gn rfl g_106 ?_
      refine Ops.gn rfl g_106 ?_
      refine Ops.gn rfl g_106 ?_
      refine Ops.gn rfl g_106 ?_
      refine Ops.gn rfl g_106 ?_
      refine Ops.gn rfl g_106 ?_
      refine Ops.gn rfl g_106 ?_
      refine Ops.st (s := 5400) (.pkF rfl g_106 rfl) rfl rfl ?_
      refine Ops.p rfl ?_
      refine Ops.gn rfl rfl ?_
      refine Ops.gn rfl rfl ?_
      refine Ops.gn rfl rfl ?_
      refine Ops.gn rfl rfl ?_
      refine Ops.gn rfl rfl ?_
      refine Ops.st (s := 5512) (.pkF rfl rfl rfl) rfl rfl ?_
      refine Ops.p rfl ?_
      refine Ops.nil ?_
      refine Run.ret ?_
      obtain rfl := someO h
      exact Ends.mk (.inl rfl) hB rfl rfl rfl rfl
  · skip
    refine Ops.gn rfl g_105 ?_
    refine Ops.gn rfl g_105 ?_
    refine Ops.gn rfl g_105 ?_
    refine Ops.gn rfl g_105 ?_
    refine Ops.gn rfl g_105 ?_
    refine Ops.gn rfl g_105 ?_
    refine Ops.gn rfl g_105 ?_
    refine Ops.st (s := 5256) (.pkF rfl g_105 rfl) rfl rfl ?_
    refine Ops.p rfl ?_
    refine Ops.gn rfl rfl ?_
    refine Ops.gn rfl rfl ?_
    refine Ops.gn rfl rfl ?_
    refine Ops.gn rfl rfl ?_
    refine Ops.gn rfl rfl ?_
    refine Ops.gn rfl rfl ?_
    refine Ops.gn rfl rfl ?_
    refine Ops.st (s := 5400) (.pkF rfl rfl rfl) rfl rfl ?_
    refine Ops.p rfl ?_
    refine Ops.gn rfl rfl ?_
    refine Ops.gn rfl rfl ?_
    refine Ops.gn rfl rfl ?_
    refine Ops.gn rfl rfl ?_
    refine Ops.gn rfl rfl ?_
    refine Ops.st (s := 5512) (.pkF rfl rfl rfl) rfl rfl ?_
    refine Ops.p rfl ?_
    refine Ops.nil ?_
    refine Run.ret ?_
    obtain rfl := someO h
    exact Ends.mk (.inl rfl) hB rfl rfl rfl rfl
def slices_IndexFunc_Reply_l1 (N : Nat) (x_1 : (List Reply)) (x_2 : Reply) : Nat → Int → Option ((Int) ⊕ (Unit))
 | 0, _ => none
 | m + 1, x_179 =>
 (if (decide (x_179 < (x_1.length : Int))) = true then
 (at? x_1 x_179).bind fun x_199 =>
 (impl_Once_1 N x_199 x_2).bind fun y_200 =>
 (if y_200 = true then
 some (Sum.inl x_179)
 else
 slices_IndexFunc_Reply_l1 N x_1 x_2 m (w64 (x_179 + (1 : Int))))
 else
 some (Sum.inr ()))
def slices_IndexFunc_Reply_l1_r (N : Nat) (x_1 : (List Reply)) (x_2 : Reply) : (List Reply) → Int → Option ((Int) ⊕ (Unit))
 | [], x_179 =>
 some (Sum.inr ())
 | hd :: tl, x_179 =>
 (some hd).bind fun x_199 =>
 (impl_Once_1 N x_199 x_2).bind fun y_200 =>
 (if y_200 = true then
 some (Sum.inl x_179)
 else
 slices_IndexFunc_Reply_l1_r N x_1 x_2 tl (w64 (x_179 + (1 : Int))))
theorem slices_IndexFunc_Reply_l1_rng (N : Nat) (x_1 : (List Reply)) (x_2 : Reply) (hx : x_1.length ≤ 1099511627776) : ∀ (d k m : Nat), x_1.length = k + d → d < m → slices_IndexFunc_Reply_l1 N x_1 x_2 m (k : Int) = slices_IndexFunc_Reply_l1_r N x_1 x_2 (x_1.drop k) (k : Int) := by
  intro d
  induction d with
  | zero =>
    intro k m hd hm
    obtain ⟨m, rfl⟩ : ∃ q, m = q + 1 := ⟨m - 1, by omega⟩
    rw [slices_IndexFunc_Reply_l1, if_neg (by simp; omega), List.drop_eq_nil_of_le (by omega), slices_IndexFunc_Reply_l1_r]
  | succ d ih =>
    intro k m hd hm
    obtain ⟨m, rfl⟩ : ∃ q, m = q + 1 := ⟨m - 1, by omega⟩
    have hk : k < x_1.length := by omega
    rw [slices_IndexFunc_Reply_l1, if_pos (by simp; omega), List.drop_eq_getElem_cons hk, slices_IndexFunc_Reply_l1_r]
    have h1 := at_lt hk
    have h2 := w64_succ (k := k) (by omega)
    have h3 := ih (k + 1) m
    simp only [h1, h2, h3 (by omega) (by omega)]
theorem slices_IndexFunc_Reply_l1_eq {N : Nat} (x_1 : (List Reply)) (x_2 : Reply) (hx : x_1.length ≤ 1099511627776) (hN : x_1.length < N) : slices_IndexFunc_Reply_l1 N x_1 x_2 N 0 = slices_IndexFunc_Reply_l1_r N x_1 x_2 x_1 0 := slices_IndexFunc_Reply_l1_rng N x_1 x_2 hx x_1.length 0 N (by omega) hN
def slices_IndexFunc_Reply (N : Nat) (x_1 : (List Reply)) (x_2 : Reply) : Option (Int) :=
 joinP (fun (v_176 : Unit) =>
 some (-1 : Int)) fun j_176 =>
 (slices_IndexFunc_Reply_l1 N x_1 x_2 N (0 : Int)).bind (Sum.elim (fun v_194 => some v_194) (fun (v_195 : Unit) => j_176 ()))
theorem sem_slices_IndexFunc_Reply (N : Nat) (x_1 : (List Reply)) (x_2 : Reply) (r : Int) (h : slices_IndexFunc_Reply N x_1 x_2 = some r) : Says Try.prog 141 [RO 119 (x_1.map encReply), .fn 78 [.ptr 0 0]] 1 [(0, .box [VI x_2.Call, VI x_2.Index, VI x_2.Command.Op, VI x_2.Command.Session, VI x_2.Command.Seq, VS x_2.Command.Key, VS x_2.Command.Value, VS x_2.Command.Old, VS x_2.Text])] (VI r) [(0, .box [VI x_2.Call, VI x_2.Index, VI x_2.Command.Op, VI x_2.Command.Session, VI x_2.Command.Seq, VS x_2.Command.Key, VS x_2.Command.Value, VS x_2.Command.Old, VS x_2.Text])] := by
  unfold slices_IndexFunc_Reply at h
  refine Says.of_run s141 Try.call141 rfl fun B hB => ?_
  have hm : B.m ≤ 1000 := by omega
  refine Run.seq ?_
  refine Run.ops hm ?_
  refine Ops.p rfl ?_
  refine Ops.nil ?_
  refine Run.seqO h (fun (v_176 : Unit) => []) (fun (v_176 : Unit) => [(0, .box [VI x_2.Call, VI x_2.Index, VI x_2.Command.Op, VI x_2.Command.Session, VI x_2.Command.Seq, VS x_2.Command.Key, VS x_2.Command.Value, VS x_2.Command.Old, VS x_2.Text])]) (fun h => ?_) (fun v_176 h => ?_)
  · skip
    refine Run.seq ?_
    refine Run.ops hm ?_
    refine Ops.p rfl ?_
    refine Ops.st (s := 5112) (Ev.lnF rfl) rfl rfl ?_
    refine Ops.p rfl ?_
    refine Ops.nil ?_
    refine Run.block ?_
    obtain ⟨res_195, h, hk_195⟩ := bindO h
    refine Run.loop (n := N) (fun m_195 fr σ => ∃ (x_179 : Int), slices_IndexFunc_Reply_l1 N x_1 x_2 m_195 x_179 = some res_195 ∧ fr = [(0, RO 119 (x_1.map encReply)), (1, .fn 78 [.ptr 0 0]), (7, VI (x_1.length : Int)), (8, VI x_179)] ∧ σ = [(0, .box [VI x_2.Call, VI x_2.Index, VI x_2.Command.Op, VI x_2.Command.Session, VI x_2.Command.Seq, VS x_2.Command.Key, VS x_2.Command.Value, VS x_2.Command.Old, VS x_2.Text])]) (gh_canonE (ts := [0, 1, 7, 8]) hB rfl rfl rfl) ⟨_, h, rfl, rfl⟩ ?_
    rintro m_195 fr σ ⟨x_179, h, rfl, rfl⟩
    obtain _ | m_195 := m_195
    · rw [slices_IndexFunc_Reply_l1] at h; cases h
    rw [slices_IndexFunc_Reply_l1] at h
    refine Run.seq ?_
    refine Run.ops hm ?_
    refine Ops.p rfl ?_
    refine Ops.nil ?_
    refine Run.seq ?_
    refine Run.condO rfl h (fun g_198 h => ?_) (fun g_198 h => ?_)
    · skip
      refine Run.skip ?_
      refine Run.seq ?_
      refine Run.block ?_
      refine Run.seq ?_
      refine Run.ops hm ?_
      refine Ops.p rfl ?_
      refine Ops.p rfl ?_
      refine Ops.nil ?_
      refine Run.seq ?_
      refine Run.ops hm ?_
      refine Ops.p rfl ?_
      refine Ops.p rfl ?_
      refine Ops.p rfl ?_
      obtain ⟨x_199, hx_199, h⟩ := bindO h
      refine Ops.st (s := 17432) (Ev.iaF rfl rfl hx_199) rfl rfl ?_
      refine Ops.p rfl ?_
      obtain ⟨y_200, hy_200, h⟩ := bindO h
      refine Ops.st (s := 17464) (Ev.callx [0] [] 0 rfl (sem_impl_Once_1 N x_199 x_2 _ hy_200) rfl rfl (.cons (.agg (.cons (.c _) (.cons (.c _) (.cons (.c _) (.cons (.c _) (.cons (.c _) (.cons (.c _) (.cons (.c _) (.cons (.c _) (.cons (.c _) .nil)))))))))) (.cons (.ptr rfl) .nil)) rfl (.inl rfl) rfl rfl) rfl rfl ?_
      refine Ops.nil ?_
      refine Run.condO rfl h (fun g_201 h => ?_) (fun g_201 h => ?_)
      · skip
        refine Run.seq ?_
        refine Run.ops hm ?_
        refine Ops.p rfl ?_
        refine Ops.p rfl ?_
        refine Ops.nil ?_
        refine Run.ret ?_
        obtain rfl := someO h
        have h := hk_195
        replace h := inlO h
        obtain rfl := someO h
        exact Ends.mk (.inl rfl) hB rfl rfl rfl rfl
      · skip
        refine Run.skip ?_
        refine Run.ops hm ?_
        refine Ops.p rfl ?_
        refine Ops.p rfl ?_
        refine Ops.nil ?_
        exact ⟨m_195, Nat.lt_succ_self m_195, _, _, gh_canonE (ts := [0, 1, 7, 8]) hB rfl rfl rfl, _, h, rfl, rfl⟩
    · skip
      refine Run.exit ?_
      obtain rfl := someO h
      have h := hk_195
      replace h := inrO h
      exact ⟨_, _, gh_canonE (ts := []) hB rfl rfl rfl, (), h, rfl, rfl⟩
  · skip
    refine Run.seq ?_
    refine Run.ops hm ?_
    refine Ops.p rfl ?_
    refine Ops.nil ?_
    refine Run.ret ?_
    obtain rfl := someO h
    exact Ends.mk (.inl rfl) hB rfl rfl rfl rfl
def slices_ContainsFunc_Reply (N : Nat) (x_1 : (List Reply)) (x_2 : Reply) : Option (Bool) :=
 (slices_IndexFunc_Reply N x_1 x_2).bind fun y_101 =>
 some (decide (y_101 ≥ (0 : Int)))
theorem sem_slices_ContainsFunc_Reply (N : Nat) (x_1 : (List Reply)) (x_2 : Reply) (r : Bool) (h : slices_ContainsFunc_Reply N x_1 x_2 = some r) : Says Try.prog 77 [RO 119 (x_1.map encReply), .fn 78 [.ptr 0 0]] 1 [(0, .box [VI x_2.Call, VI x_2.Index, VI x_2.Command.Op, VI x_2.Command.Session, VI x_2.Command.Seq, VS x_2.Command.Key, VS x_2.Command.Value, VS x_2.Command.Old, VS x_2.Text])] (VB r) [(0, .box [VI x_2.Call, VI x_2.Index, VI x_2.Command.Op, VI x_2.Command.Session, VI x_2.Command.Seq, VS x_2.Command.Key, VS x_2.Command.Value, VS x_2.Command.Old, VS x_2.Text])] := by
  unfold slices_ContainsFunc_Reply at h
  refine Says.of_run s77 Try.call77 rfl fun B hB => ?_
  have hm : B.m ≤ 1000 := by omega
  refine Run.seq ?_
  refine Run.ops hm ?_
  refine Ops.p rfl ?_
  refine Ops.nil ?_
  refine Run.seq ?_
  refine Run.ops hm ?_
  refine Ops.p rfl ?_
  refine Ops.p rfl ?_
  obtain ⟨y_101, hy_101, h⟩ := bindO h
  refine Ops.st (s := 5128) (Ev.call [0] [] 0 (sem_slices_IndexFunc_Reply N x_1 x_2 _ hy_101) rfl rfl (.cons (.c _) (.cons (.fn (.cons (.ptr rfl) .nil)) .nil)) rfl (.inl rfl) rfl rfl) rfl rfl ?_
  refine Ops.p rfl ?_
  refine Ops.p rfl ?_
  refine Ops.nil ?_
  refine Run.ret ?_
  obtain rfl := someO h
  exact Ends.mk (.inl rfl) hB rfl rfl rfl rfl
def impl_Once_l1 (N : Nat) (x_1 : (List Reply)) : Nat → Int → Option ((Bool) ⊕ (Unit))
 | 0, _ => none
 | m + 1, x_192 =>
 (if (decide (x_192 < (x_1.length : Int))) = true then
 (at? x_1 x_192).bind fun x_210 =>
 (impl_counts N x_210).bind fun y_213 =>
 (if (!y_213) = true then
 impl_Once_l1 N x_1 m (w64 (x_192 + (1 : Int)))
 else
 (take? x_1 x_192).bind fun x_215 =>
 (slices_ContainsFunc_Reply N x_215 x_210).bind fun y_216 =>
 (if y_216 = true then
 some (Sum.inl false)
 else
 impl_Once_l1 N x_1 m (w64 (x_192 + (1 : Int)))))
 else
 some (Sum.inr ()))
def impl_Once_l1_r (N : Nat) (x_1 : (List Reply)) : (List Reply) → Int → Option ((Bool) ⊕ (Unit))
 | [], x_192 =>
 some (Sum.inr ())
 | hd :: tl, x_192 =>
 (some hd).bind fun x_210 =>
 (impl_counts N x_210).bind fun y_213 =>
 (if (!y_213) = true then
 impl_Once_l1_r N x_1 tl (w64 (x_192 + (1 : Int)))
 else
 (take? x_1 x_192).bind fun x_215 =>
 (slices_ContainsFunc_Reply N x_215 x_210).bind fun y_216 =>
 (if y_216 = true then
 some (Sum.inl false)
 else
 impl_Once_l1_r N x_1 tl (w64 (x_192 + (1 : Int)))))
theorem impl_Once_l1_rng (N : Nat) (x_1 : (List Reply)) (hx : x_1.length ≤ 1099511627776) : ∀ (d k m : Nat), x_1.length = k + d → d < m → impl_Once_l1 N x_1 m (k : Int) = impl_Once_l1_r N x_1 (x_1.drop k) (k : Int) := by
  intro d
  induction d with
  | zero =>
    intro k m hd hm
    obtain ⟨m, rfl⟩ : ∃ q, m = q + 1 := ⟨m - 1, by omega⟩
    rw [impl_Once_l1, if_neg (by simp; omega), List.drop_eq_nil_of_le (by omega), impl_Once_l1_r]
  | succ d ih =>
    intro k m hd hm
    obtain ⟨m, rfl⟩ : ∃ q, m = q + 1 := ⟨m - 1, by omega⟩
    have hk : k < x_1.length := by omega
    rw [impl_Once_l1, if_pos (by simp; omega), List.drop_eq_getElem_cons hk, impl_Once_l1_r]
    have h1 := at_lt hk
    have h2 := w64_succ (k := k) (by omega)
    have h3 := ih (k + 1) m
    simp only [h1, h2, h3 (by omega) (by omega)]
theorem impl_Once_l1_eq {N : Nat} (x_1 : (List Reply)) (hx : x_1.length ≤ 1099511627776) (hN : x_1.length < N) : impl_Once_l1 N x_1 N 0 = impl_Once_l1_r N x_1 x_1 0 := impl_Once_l1_rng N x_1 hx x_1.length 0 N (by omega) hN
def impl_Once (N : Nat) (x_1 : (List Reply)) : Option (Bool) :=
 joinP (fun (v_188 : Unit) =>
 some true) fun j_188 =>
 (impl_Once_l1 N x_1 N (0 : Int)).bind (Sum.elim (fun v_204 => some v_204) (fun (v_205 : Unit) => j_188 ()))
theorem sem_impl_Once (N : Nat) (x_1 : (List Reply)) (r : Bool) (h : impl_Once N x_1 = some r) : Says Try.prog 23 [RO 119 (x_1.map encReply)] 0 [] (VB r) [] := by
  unfold impl_Once at h
  refine Says.of_run s23 Try.call23 rfl fun B hB => ?_
  have hm : B.m ≤ 1000 := by omega
  refine Run.seq ?_
  refine Run.ops hm ?_
  refine Ops.p rfl ?_
  refine Ops.nil ?_
  refine Run.seqO h (fun (v_188 : Unit) => []) (fun (v_188 : Unit) => []) (fun h => ?_) (fun v_188 h => ?_)
  · skip
    refine Run.seq ?_
    refine Run.ops hm ?_
    refine Ops.p rfl ?_
    refine Ops.st (s := 5112) (Ev.lnF rfl) rfl rfl ?_
    refine Ops.p rfl ?_
    refine Ops.nil ?_
    refine Run.block ?_
    obtain ⟨res_205, h, hk_205⟩ := bindO h
    refine Run.loop (n := N) (fun m_205 fr σ => ∃ (x_192 : Int), impl_Once_l1 N x_1 m_205 x_192 = some res_205 ∧ fr = [(0, RO 119 (x_1.map encReply)), (5, RO 119 (x_1.map encReply)), (6, VI (x_1.length : Int)), (7, VI x_192)] ∧ σ = []) (gh_canonE (ts := [0, 5, 6, 7]) hB rfl rfl rfl) ⟨_, h, rfl, rfl⟩ ?_
    rintro m_205 fr σ ⟨x_192, h, rfl, rfl⟩
    obtain _ | m_205 := m_205
    · rw [impl_Once_l1] at h; cases h
    rw [impl_Once_l1] at h
    refine Run.seq ?_
    refine Run.ops hm ?_
    refine Ops.p rfl ?_
    refine Ops.nil ?_
    refine Run.seq ?_
    refine Run.condO rfl h (fun g_208 h => ?_) (fun g_208 h => ?_)
    · skip
      refine Run.skip ?_
      refine Run.seq ?_
      refine Run.block ?_
      refine Run.seq ?_
      refine Run.ops hm ?_
      refine Ops.p rfl ?_
      obtain ⟨x_210, hx_210, h⟩ := bindO h
      refine Ops.st (s := 13304) (Ev.iaF rfl rfl hx_210) rfl rfl ?_
      refine Ops.p rfl ?_
      refine Ops.st (s := 13336) (.al rfl rfl) rfl rfl ?_
      refine Ops.p rfl ?_
      refine Ops.s0 (s := 13368) (.sto rfl rfl rfl rfl rfl rfl) rfl rfl ?_
      refine Ops.nil ?_
      refine Run.seq ?_
      refine Run.seq ?_
      refine Run.ops hm ?_
      refine Ops.p rfl ?_
      obtain ⟨y_213, hy_213, h⟩ := bindO h
      refine Ops.st (s := 17400) (Ev.call [] [] 0 (sem_impl_counts N x_210 _ hy_213) rfl rfl (.cons (.agg (.cons (.c _) (.cons (.c _) (.cons (.c _) (.cons (.c _) (.cons (.c _) (.cons (.c _) (.cons (.c _) (.cons (.c _) (.cons (.c _) .nil)))))))))) .nil) rfl (.inl rfl) rfl rfl) rfl rfl ?_
      refine Ops.p rfl ?_
      refine Ops.nil ?_
      refine Run.condO rfl h (fun g_214 h => ?_) (fun g_214 h => ?_)
      · skip
        refine Run.exit ?_
        refine Run.ops hm ?_
        refine Ops.p rfl ?_
        refine Ops.p rfl ?_
        refine Ops.nil ?_
        exact ⟨m_205, Nat.lt_succ_self m_205, _, _, gh_canonE (ts := [0, 5, 6, 7]) hB rfl rfl rfl, _, h, rfl, rfl⟩
      · skip
        refine Run.skip ?_
        refine Run.seq ?_
        refine Run.ops hm ?_
        refine Ops.p rfl ?_
        refine Ops.p rfl ?_
        obtain ⟨x_215, hx_215, h⟩ := bindO h
        refine Ops.st (s := 21512) (Ev.slFh rfl rfl hx_215) rfl rfl ?_
        refine Ops.p rfl ?_
        obtain ⟨y_216, hy_216, h⟩ := bindO h
        refine Ops.st (s := 21544) (Ev.call [13336] [] 0 (sem_slices_ContainsFunc_Reply N x_215 x_210 _ hy_216) rfl rfl (.cons (.c _) (.cons (.fn (.cons (.ptr rfl) .nil)) .nil)) rfl (.inl rfl) rfl rfl) rfl rfl ?_
        refine Ops.nil ?_
        refine Run.condO rfl h (fun g_217 h => ?_) (fun g_217 h => ?_)
        · skip
          refine Run.seq ?_
          refine Run.ops hm ?_
          refine Ops.p rfl ?_
          refine Ops.nil ?_
          refine Run.ret ?_
          obtain rfl := someO h
          have h := hk_205
          replace h := inlO h
          obtain rfl := someO h
          exact Ends.mk (.inl rfl) hB rfl rfl rfl rfl
        · skip
          refine Run.skip ?_
          refine Run.ops hm ?_
          refine Ops.p rfl ?_
          refine Ops.p rfl ?_
          refine Ops.nil ?_
          exact ⟨m_205, Nat.lt_succ_self m_205, _, _, gh_canonE (ts := [0, 5, 6, 7]) hB rfl rfl rfl, _, h, rfl, rfl⟩
    · skip
      refine Run.exit ?_
      obtain rfl := someO h
      have h := hk_205
      replace h := inrO h
      exact ⟨_, _, gh_canonE (ts := []) hB rfl rfl rfl, (), h, rfl, rfl⟩
  · skip
    refine Run.seq ?_
    refine Run.ops hm ?_
    refine Ops.p rfl ?_
    refine Ops.nil ?_
    refine Run.ret ?_
    obtain rfl := someO h
    exact Ends.mk (.inl rfl) hB rfl rfl rfl rfl
end Go.Proofs.Ytebbgdjmplceiaa.Pe.FnExactOnce
