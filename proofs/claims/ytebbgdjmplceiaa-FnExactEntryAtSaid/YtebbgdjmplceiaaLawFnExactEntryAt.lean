/- The law FnExactEntryAt holds: whatever it is called with, it answers true, and its arguments read as they did. No condition. -/
import Derived.Test.YtebbgdjmplceiaaRows
import Derived.Test.YtebbgdjmplceiaaPFnExactEntryAtx
import Derived.Test.YtebbgdjmplceiaaPureFnExactEntryAt
import Derived.Test.YtebbgdjmplceiaaOpen
import Derived.WalkKit
import Derived.ProofKit
import Derived.OpenShut
import Derived.ShutString
import Derived.ChangeOld
import Derived.Below
import Derived.SizedLaws
namespace Go.Proofs.Ytebbgdjmplceiaa.fnExactEntryAt
open Go.ChangeShapes Go.WideShapes Go.ChangeAt Go.RowKit Go.Proofs.Ytebbgdjmplceiaa.Open Go.Proofs.YtebbgdjmplceiaaW.PrintWords Go.Proofs.Ytebbgdjmplceiaa.PFnExactEntryAt
set_option linter.unusedVariables false
theorem own : ownKnob Try.prog.godebug = none := by kernel_rfl
theorem laidOut : laidOutB Try.prog = true := by kernel_rfl
theorem o3 : Opens Try.prog 3 (Kd.int .i64) (fun x => (Lit.int .i64 x).wf = true) := opens_int Try.underlying3 (by kernel_rfl)
theorem o9 : Opens Try.prog 9 (Kd.string) (fun x => x.size ≤ maxLen) := opens_string Try.underlying9 (by kernel_rfl)
def wf71 (x : S71) : Prop := ((Lit.int .i64 x.f0).wf = true) ∧ ((Lit.int .i64 x.f1).wf = true) ∧ (x.f2.size ≤ maxLen)
set_option maxRecDepth 100000 in
theorem o71 : Opens Try.prog 71 k71 wf71 := by
  have h := opens_struct (l := [_, _, _]) Try.underlying71 rfl (by kernel_rfl) (opensF_cons rfl o3 (opensF_cons rfl o3 (opensF_one rfl o9))) (fun x : S71 => (x.f0, x.f1, x.f2)) (fun x => ⟨x.1, x.2.1, x.2.2⟩) (fun _ => rfl)
  exact h
theorem o43 : Opens Try.prog 43 (Kd.slice 71 k71) (fun xs => xs.length ≤ maxLen ∧ ∀ x ∈ xs, wf71 x) := opens_slice Try.underlying43 (by kernel_rfl) o71
set_option maxRecDepth 100000 in
theorem top45 : Opens Try.prog 45 (Kd.iso (Kd.pair (Kd.int .i64) (Kd.pair (Kd.int .i64) (Kd.slice 71 k71))) (fun x : Int × Int × List S71 => x)) (fun x => ((Lit.int .i64 x.1).wf = true) ∧ ((Lit.int .i64 x.2.1).wf = true) ∧ (x.2.2.length ≤ maxLen ∧ ∀ y ∈ x.2.2, wf71 y)) := by
  have h := opens_struct (l := [_, _, _]) Try.underlying45 rfl (by kernel_rfl) (opensF_cons rfl o3 (opensF_cons rfl o3 (opensF_one rfl o43))) (fun x : Int × Int × List S71 => x) (fun x => x) (fun _ => rfl)
  exact h
set_option maxRecDepth 100000 in
theorem lifted (os : Os) (started : os.Started) (H : Type) (enc : TypeId × Value → H) :
    ReturnsInHanded {} Try.checked os 6 .any (Rows.fnExactEntryAtSpec.pre6 enc Try.prog Try.f6 Rows.fnExactEntryAtRow.domain false) (Rows.fnExactEntryAtSpec.post enc Try.prog Try.f6 false true false false) := by
  refine returnsInHanded_of_change_sized (C := Try.checked) own started (by kernel_rfl) Try.func6
    (ChangeSpec.witness6 (enc := enc) (C := Try.checked) false ⟨#[], #[.agg #[.int .i64 0, .int .i64 0, .slice none 0 0], .int .i64 0], []⟩ 8 (by kernel_rfl) (by kernel_rfl) (by kernel_rfl) (by kernel_rfl)) ?_
  intro W base args ds gs before hval0 hW hcnd hsz0 _
  have hval : ∀ (j : Nat) t v, Try.f6.params[j]? = some t → args[j]? = some v → Value.okWide Try.prog W .any base t v := hval0
  have hW' := hW
  obtain ⟨p, q, hA0, hV, rfl, hfz, hnd⟩ := hW
  have hA : DataW.TrodAll enc Try.prog W 0 (fun _ => true) true Try.f6.params.toList args.toList ds p := hA0
  rw [Try.params6] at hA hval
  obtain ⟨v0, vs0, d0, ds0, p0, q0, hargs, rfl, rfl, h0, r0⟩ := trodAll_cons hA
  obtain ⟨v1, vs1, d1, ds1, p1, q1, rfl, rfl, rfl, h1, r1⟩ := trodAll_cons r0
  obtain ⟨rfl, rfl, rfl⟩ := trodAll_nil r1
  obtain rfl : args = #[v0, v1] := by cases args; simp_all
  obtain ⟨rfl, rfl⟩ := trodVars_none hV
  have k0 := h0
  have lt0 : ∀ x ∈ p0, x.block < W.heap.size := by obtain ⟨m, hm⟩ := k0; exact DataW.trod_lt m _ _ _ hm
  obtain ⟨x0, hK0, hw0⟩ := opens_arg top45 h0
  obtain ⟨cs0, rfl, _⟩ := okWide_struct Try.underlying45 (hval 0 45 v0 rfl rfl)
  obtain ⟨_, _, e0_0, rfl, ⟨_, _, e0_1, rfl, ⟨A0_2, c0_2, rfl, hc0_2, hr0_2⟩⟩⟩ := hK0
  obtain rfl : cs0 = #[.int .i64 x0.1, .int .i64 x0.2.1, .slice A0_2 (x0.2.2).length c0_2] := by
    apply Array.toList_inj.1
    show cs0.toList = _
    rw [show cs0.toList = _ from e0_0, e0_1]; rfl
  obtain ⟨a1, rfl, rfl, rfl, w1⟩ := open_int Try.underlying3 (hval 1 3 v1 rfl rfl) h1
  clear hA0 hval0 hsz0
  obtain ⟨k, hk⟩ := PureFnExactEntryAt.holds (x0.1) (x0.2.1) (x0.2.2) a1 hw0 w1
  refine (laws_FnExactEntryAt.calls k (x0.1) (x0.2.1) A0_2 c0_2 (x0.2.2) a1 true W hr0_2 hc0_2 hk).mono fun e W' ⟨he, bel⟩ => ?_
  subst he
  exact ⟨_, rfl, _, _, _, [], _, [], hW', trodAll_mk1 (shut_bool Try.underlying4 _), (trodAll_cons_mk (Below.trod laidOut (by kernel_rfl) (of_decide_eq_true (by kernel_rfl)) k0 bel lt0) (trodAll_cons_mk (shut_int Try.underlying3 w1) trodAll_mk0)), rfl, bel.frame _, fun h => by cases h⟩
theorem over : Rows.fnExactEntryAtRow.holds Try.pinned (OpenSpec.ofChange Rows.fnExactEntryAtSpec) :=
  OpenClaim.holds_of_wide 6 Try.f6 rfl rfl rfl rfl rfl rfl rfl ⟨rfl, rfl, rfl, rfl, rfl⟩ rfl rfl rfl rfl rfl (by kernel_rfl) Try.func6 (by kernel_rfl)
    (of_decide_eq_true (by kernel_rfl)) (by unfold Func.isWrapper; first | (rw [if_pos (by decide +kernel)]; kernel_rfl) | (rw [if_neg (by decide +kernel)]; exact ⟨rfl, rfl⟩))
    (fun os started H enc _ => lifted os started H enc)
theorem proved : Rows.FnExactEntryAtSaid := over
#print axioms proved
end Go.Proofs.Ytebbgdjmplceiaa.fnExactEntryAt
namespace Go.Proofs.Ytebbgdjmplceiaa
/-- The row, under a short name, for the claim. -/
theorem fnExactEntryAt_holds : Rows.FnExactEntryAtSaid := fnExactEntryAt.proved
end Go.Proofs.Ytebbgdjmplceiaa
