/- The law FnExactWorldNew holds: whatever it is called with, it answers true, and its arguments read as they did. No condition. -/
import Derived.Test.YteiimlnnaioocaaGreatDoorRows
import Derived.Test.YteiimlnnaioocaaGreatDoorPeArg
import Derived.Test.YteiimlnnaioocaaGreatDoorPureFnExactWorldNew
import Derived.WalkKit
import Derived.ProofKit
import Derived.OpenShut
import Derived.ShutString
import Derived.ChangeOld
import Derived.Below
import Derived.SizedLaws
import Derived.LaidMore
import Derived.Lay
import Derived.Stop.Joined
import Derived.Stop.LaidErr
import Derived.MakeChecks
import Derived.Lib.LaidTab
import Derived.SevenTiedAt
import Derived.ChangeVars
import Derived.Test.YteiimlnnaioocaaGreatDoorTie
import Derived.Test.YteiimlnnaioocaaGreatDoorCards
namespace Go.Proofs.YteiimlnnaioocaaGreatDoor.fnExactWorldNew
open Go Go.ChangeShapes Go.WideShapes Go.ChangeAt Go.RowKit Go.Proofs.YteiimlnnaioocaaGreatDoor.Pe Go.Proofs.YteiimlnnaioocaaGreatDoor.Pe.FnExactWorldNew
set_option linter.unusedVariables false
theorem own : ownKnob Tryz.prog.godebug = none := by kernel_rfl
theorem laidOut : laidOutB Tryz.prog = true := by kernel_rfl
theorem o3 : Opn Tryz.prog 3 (fun x => [.i .i64 x]) (fun x => WI .i64 x) := opn_int Tryz.underlying3
theorem o22 : Opn Tryz.prog 22 (fun xs : (List Int) => [.row false 3 (xs.map encI)]) (fun xs => xs.length ≤ maxLen ∧ ∀ y ∈ xs, WI .i64 y) := opn_slice Tryz.underlying22 (of_decide_eq_true (by kernel_rfl)) o3
theorem door_met (os : Os) (args : Array Value) : laidMetH Tryz.prog Rows.fnExactWorldNewRow.laid ((World.doorLaid Tryz.prog 4000 os).forCall (fun _ _ => 0) ⟨#[], args, []⟩).memory :=
  laidMetH_of_parts3 (fuel := 8) (laidMet_of_run' 8 (by kernel_rfl) (by kernel_rfl)) (by kernel_rfl) (by kernel_rfl)
theorem star : "*" ++ "errors.errorString" = "*errors.errorString" := by decide
theorem row_err (u : TypeId) (h : Tryz.prog.typeName? 3 u = some "*errors.errorString") : u = 285 :=
  typeName_ptr_named (nm := "errors.errorString") (by rw [star]; kernel_rfl) (by kernel_rfl) (by decide) u (by rw [star]; exact h)
theorem glb0 {W : World} (h : laidMet Tryz.prog Rows.fnExactWorldNewRow.laid W) : ∃ o, W.heap[1]? = some o ∧ isTab .u64 pow10s o := by
  obtain ⟨ps, ⟨g0, t0, cs0, f0, p0, q0, hg0, ht0, hv0, hd0, _, _⟩, _⟩ := h.tail.tail
  obtain rfl := Option.some.inj ((show Tryz.prog.globalNamed "internal/strconv.uint64pow10" = some 1 by kernel_rfl).symm.trans hg0)
  obtain rfl := Option.some.inj ((show (Tryz.prog.globals[1]?).map (·.type) = some 274 by kernel_rfl).symm.trans ht0)
  have hc := Lib.cells_of_tab (k := .u64) (zs := [1, 10, 100, 1000, 10000, 100000, 1000000, 10000000, 100000000, 1000000000, 10000000000, 100000000000, 1000000000000, 10000000000000, 100000000000000, 1000000000000000, 10000000000000000, 100000000000000000, 1000000000000000000, 10000000000000000000]) (n := 20) Tryz.underlying274 Tryz.underlying261 (by kernel_rfl) (by kernel_rfl) hd0
  unfold World.var? at hv0
  rw [(show Tryz.prog.globalNamed "internal/strconv.uint64pow10" = some 1 by kernel_rfl), Option.bind_some] at hv0
  split at hv0
  · rename_i cs e z he
    refine ⟨_, he, e, z, ?_⟩
    obtain rfl := Option.some.inj hv0
    congr 1
    apply Array.ext'
    exact hc
  · cases hv0
theorem glb1 {W : World} (h : laidMet Tryz.prog Rows.fnExactWorldNewRow.laid W) : ∃ o, W.heap[2]? = some o ∧ isErr o := by
  obtain ⟨a, x, hv, _⟩ := laid_sentinel (n := "strconv.ErrSyntax") (nm := "*errors.errorString") h.tail.tail.tail.tail (show Tryz.prog.globalNamed "strconv.ErrSyntax" = some 2 by kernel_rfl) (show (Tryz.prog.globals[2]?).map (·.type) = some 249 by kernel_rfl) Tryz.underlying249 row_err Tryz.underlying285 Tryz.underlying287 rfl rfl Tryz.underlying9 (by kernel_rfl) (by kernel_rfl)
  unfold World.var? at hv
  rw [(show Tryz.prog.globalNamed "strconv.ErrSyntax" = some 2 by kernel_rfl), Option.bind_some] at hv
  split at hv
  · rename_i cs e z he
    obtain rfl := Option.some.inj hv
    exact ⟨_, he, _, _, e, z, rfl⟩
  · cases hv
theorem glb2 {W : World} (h : laidMet Tryz.prog Rows.fnExactWorldNewRow.laid W) : ∃ o, W.heap[3]? = some o ∧ isErr o := by
  obtain ⟨a, x, hv, _⟩ := laid_sentinel (n := "strconv.ErrRange") (nm := "*errors.errorString") h.tail.tail.tail (show Tryz.prog.globalNamed "strconv.ErrRange" = some 3 by kernel_rfl) (show (Tryz.prog.globals[3]?).map (·.type) = some 249 by kernel_rfl) Tryz.underlying249 row_err Tryz.underlying285 Tryz.underlying287 rfl rfl Tryz.underlying9 (by kernel_rfl) (by kernel_rfl)
  unfold World.var? at hv
  rw [(show Tryz.prog.globalNamed "strconv.ErrRange" = some 3 by kernel_rfl), Option.bind_some] at hv
  split at hv
  · rename_i cs e z he
    obtain rfl := Option.some.inj hv
    exact ⟨_, he, _, _, e, z, rfl⟩
  · cases hv
theorem glb {W : World} (h : laidMetH Tryz.prog Rows.fnExactWorldNewRow.laid W) : GlbOk W (fun _ => False) := by
  rw [MakeChecks.laidMetH_plain _ _ _ (by kernel_rfl)] at h
  intro t ht
  simp only [globTabs, List.mem_cons, List.not_mem_nil, or_false] at ht
  rcases ht with rfl | rfl | rfl
  · exact ⟨id, glb0 h⟩
  · exact ⟨id, glb1 h⟩
  · exact ⟨id, glb2 h⟩
set_option maxRecDepth 100000 in
theorem lifted (os : Os) (started : os.Started) (H : Type) (enc : TypeId × Value → H) :
    ReturnsInHanded {} Tryz.checked os 3 .any (fun w args => (Rows.fnExactWorldNewSpec.pre enc Tryz.prog Tryz.f3 [] false w args ∧ laidMetH Tryz.prog Rows.fnExactWorldNewRow.laid w) ∧ sizedMet enc Tryz.prog Tryz.f3 (OpenSpec.ofChange Rows.fnExactWorldNewSpec) false w args) (Rows.fnExactWorldNewSpec.post enc Tryz.prog Tryz.f3 false true false false) := by
  refine returnsInHanded_of_change_and (C := Tryz.checked) (X := fun w _ => laidMetH Tryz.prog Rows.fnExactWorldNewRow.laid w) (fun _ _ _ hh h => h.of_heap hh) own started (by kernel_rfl) Tryz.func3
    (ChangeSpec.witness_shaped (enc := enc) (C := Tryz.checked) (os := os) (X := fun w _ => laidMetH Tryz.prog Rows.fnExactWorldNewRow.laid w) false (World.doorLaid Tryz.prog 4000 os) #[.int .i64 0, .slice none 0 0] 8 rfl (World.shaped_of_RefB (by kernel_rfl) (by kernel_rfl)) (by kernel_rfl) (by kernel_rfl) (by kernel_rfl) (door_met os _)) ?_
  intro W base args ds gs before hval0 hW hcnd hsz0 hL _
  have hval : ∀ (j : Nat) t v, Tryz.f3.params[j]? = some t → args[j]? = some v → Value.okWide Tryz.prog W .any base t v := hval0
  have hW' := hW
  obtain ⟨p, q, hA0, hV, rfl, hfz, hnd⟩ := hW
  have hA : DataW.TrodAll enc Tryz.prog W 0 (fun _ => true) true Tryz.f3.params.toList args.toList ds p := hA0
  rw [Tryz.params3] at hA hval
  obtain ⟨v0, vs0, d0, ds0, p0, q0, hargs, rfl, rfl, h0, r0⟩ := trodAll_cons hA
  obtain ⟨v1, vs1, d1, ds1, p1, q1, rfl, rfl, rfl, h1, r1⟩ := trodAll_cons r0
  obtain ⟨rfl, rfl, rfl⟩ := trodAll_nil r1
  obtain rfl : args = #[v0, v1] := by cases args; simp_all
  obtain ⟨rfl, rfl⟩ := trodVars_none hV
  obtain ⟨x0, rfl, rfl, rfl, hw0⟩ := open_int Tryz.underlying3 (hval 0 3 v0 rfl rfl) h0
  have k1 := h1
  have lt1 : ∀ x ∈ p1, x.block < W.heap.size := by obtain ⟨m, hm⟩ := k1; exact DataW.trod_lt m _ _ _ hm
  obtain ⟨x1, hK1, hw1⟩ := opn_arg o22 h1
  obtain ⟨a1, len1, cap1, rfl⟩ := okWide_slice Tryz.underlying22 (hval 1 22 v1 rfl rfl)
  clear hA0 hval0 hsz0
  obtain ⟨N, hN⟩ := holds x0 x1 hw0 hw1
  refine (law_calls (sem_laws_FnExactWorldNew N x0 x1 _ hN) (glb hL) (w := W) (args := #[_, _]) (by simp only [VsRel]; exact ⟨_, _, rfl, (by simp only [VRel]; exact .i _ _), ⟨_, _, rfl, arg_one (by simpa [Value.cells] using hK1), rfl⟩⟩)).mono fun e W' ⟨he, bel⟩ => ?_
  subst he
  exact ⟨_, rfl, _, _, _, [], _, [], hW', trodAll_mk1 (shut_bool Tryz.underlying4 _), (trodAll_cons_mk (shut_int Tryz.underlying3 hw0) (trodAll_cons_mk (Below.trod laidOut (by kernel_rfl) (of_decide_eq_true (by kernel_rfl)) k1 bel lt1) trodAll_mk0)), rfl, bel.frame _, fun h => by cases h⟩
theorem over : Rows.fnExactWorldNewRow.holds Tryz.pinned (OpenSpec.ofChange Rows.fnExactWorldNewSpec) :=
  OpenClaim.holds_of_wide 3 Tryz.f3 rfl rfl rfl rfl rfl rfl rfl ⟨rfl, rfl, rfl, rfl, rfl⟩ rfl rfl rfl rfl rfl (by kernel_rfl) Tryz.func3 (by kernel_rfl)
    (of_decide_eq_true (by kernel_rfl)) (by unfold Func.isWrapper; first | (rw [if_pos (by decide +kernel)]; kernel_rfl) | (rw [if_neg (by decide +kernel)]; exact ⟨rfl, rfl⟩))
    (fun os started H enc _ => lifted os started H enc)
theorem card_holds : Rows.FnExactWorldNewCardSaid :=
  Claim7.holds_tied_plain_at .later [] [.data, .data, .data, .sentinel, .sentinel] true (true, "7b463b9d277e8bd5e6b7017a5cda22657de6a5e2ff308d5f9a3fb2318009129e") true
    over (fun _ h => by cases h) (by kernel_rfl) (fun _ h => by cases h) fnExactWorldNew_row_tie rfl ⟨rfl, rfl⟩ (by kernel_rfl) rfl
    (fun f fn hf hfn => by
      obtain rfl : f = 3 := Option.some.inj ((show Tryz.prog.funcNamed "loop.example/g00103/laws.FnExactWorldNew" = some 3 by kernel_rfl).symm.trans hf) |>.symm
      obtain rfl : fn = Tryz.f3 := (Option.some.inj (Tryz.func3.symm.trans hfn)).symm
      exact ⟨by kernel_rfl, fun j t ht => by
        rw [Tryz.params3] at ht
        have hm : t ∈ [3, 22] := by simpa using Array.mem_of_getElem? ht
        have hall : ([3, 22].all fun u => !Tryz.prog.wantsStandIn u) = true := by kernel_rfl
        exact (show Tryz.prog.wantsStandIn t = false by simpa using List.all_eq_true.1 hall t hm)⟩)
    (by kernel_rfl)
#print axioms card_holds
end Go.Proofs.YteiimlnnaioocaaGreatDoor.fnExactWorldNew
namespace Go.Proofs.YteiimlnnaioocaaGreatDoor
/-- The card, under a short name, for the claim. -/
theorem fnExactWorldNew_holds : Rows.FnExactWorldNewCardSaid := fnExactWorldNew.card_holds
end Go.Proofs.YteiimlnnaioocaaGreatDoor
