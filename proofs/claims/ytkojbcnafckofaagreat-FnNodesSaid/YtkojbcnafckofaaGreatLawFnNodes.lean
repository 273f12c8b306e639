/- The law FnNodes holds: whatever it is called with, it answers true, and its arguments read as they did. No condition. -/
import Derived.Test.YtkojbcnafckofaaGreatRows
import Derived.Test.YtkojbcnafckofaaGreatPeArg
import Derived.Test.YtkojbcnafckofaaGreatPureFnNodes
import Derived.WalkKit
import Derived.ProofKit
import Derived.OpenShut
import Derived.ShutString
import Derived.ChangeOld
import Derived.Below
import Derived.SizedLaws
namespace Go.Proofs.YtkojbcnafckofaaGreat.fnNodes
open Go Go.ChangeShapes Go.WideShapes Go.ChangeAt Go.RowKit Go.Proofs.YtkojbcnafckofaaGreat.Pe Go.Proofs.YtkojbcnafckofaaGreat.Pe.FnNodes
set_option linter.unusedVariables false
theorem own : ownKnob Tryz.prog.godebug = none := by kernel_rfl
theorem laidOut : laidOutB Tryz.prog = true := by kernel_rfl
theorem o5 : Opn Tryz.prog 5 (fun x => [.i .u8 x]) (fun x => WI .u8 x) := opn_int Tryz.underlying5
theorem o22 : Opn Tryz.prog 22 (fun xs : (List Int) => [.row false 5 (xs.map encU)]) (fun xs => xs.length ≤ maxLen ∧ ∀ y ∈ xs, WI .u8 y) := opn_slice Tryz.underlying22 (of_decide_eq_true (by kernel_rfl)) o5
set_option maxRecDepth 100000 in
theorem lifted (os : Os) (started : os.Started) (H : Type) (enc : TypeId × Value → H) :
    ReturnsInHanded {} Tryz.checked os 5 .any (Rows.fnNodesSpec.pre6 enc Tryz.prog Tryz.f5 Rows.fnNodesRow.domain false) (Rows.fnNodesSpec.post enc Tryz.prog Tryz.f5 false true false false) := by
  refine returnsInHanded_of_change_sized (C := Tryz.checked) own started (by kernel_rfl) Tryz.func5
    (ChangeSpec.witness6 (enc := enc) (C := Tryz.checked) false ⟨#[], #[.slice none 0 0], []⟩ 8 (by kernel_rfl) (by kernel_rfl) (by kernel_rfl) (by kernel_rfl)) ?_
  intro W base args ds gs before hval0 hW hcnd hsz0 _
  have hval : ∀ (j : Nat) t v, Tryz.f5.params[j]? = some t → args[j]? = some v → Value.okWide Tryz.prog W .any base t v := hval0
  have hW' := hW
  obtain ⟨p, q, hA0, hV, rfl, hfz, hnd⟩ := hW
  have hA : DataW.TrodAll enc Tryz.prog W 0 (fun _ => true) true Tryz.f5.params.toList args.toList ds p := hA0
  rw [Tryz.params5] at hA hval
  obtain ⟨v0, vs0, d0, ds0, p0, q0, hargs, rfl, rfl, h0, r0⟩ := trodAll_cons hA
  obtain ⟨rfl, rfl, rfl⟩ := trodAll_nil r0
  obtain rfl : args = #[v0] := by cases args; simp_all
  obtain ⟨rfl, rfl⟩ := trodVars_none hV
  have k0 := h0
  have lt0 : ∀ x ∈ p0, x.block < W.heap.size := by obtain ⟨m, hm⟩ := k0; exact DataW.trod_lt m _ _ _ hm
  obtain ⟨x0, hK0, hw0⟩ := opn_arg o22 h0
  obtain ⟨a0, len0, cap0, rfl⟩ := okWide_slice Tryz.underlying22 (hval 0 22 v0 rfl rfl)
  clear hA0 hval0 hsz0
  obtain ⟨N, hN⟩ := holds x0 hw0
  refine (law_calls (sem_laws_FnNodes N x0 _ hN) (w := W) (args := #[_]) (by simp only [VsRel]; exact ⟨_, _, rfl, arg_one (by simpa [Value.cells] using hK0), rfl⟩)).mono fun e W' ⟨he, bel⟩ => ?_
  subst he
  exact ⟨_, rfl, _, _, _, [], _, [], hW', trodAll_mk1 (shut_bool Tryz.underlying4 _), (trodAll_cons_mk (Below.trod laidOut (by kernel_rfl) (of_decide_eq_true (by kernel_rfl)) k0 bel lt0) trodAll_mk0), rfl, bel.frame _, fun h => by cases h⟩
theorem over : Rows.fnNodesRow.holds Tryz.pinned (OpenSpec.ofChange Rows.fnNodesSpec) :=
  OpenClaim.holds_of_wide 5 Tryz.f5 rfl rfl rfl rfl rfl rfl rfl ⟨rfl, rfl, rfl, rfl, rfl⟩ rfl rfl rfl rfl rfl (by kernel_rfl) Tryz.func5 (by kernel_rfl)
    (of_decide_eq_true (by kernel_rfl)) (by unfold Func.isWrapper; first | (rw [if_pos (by decide +kernel)]; kernel_rfl) | (rw [if_neg (by decide +kernel)]; exact ⟨rfl, rfl⟩))
    (fun os started H enc _ => lifted os started H enc)
theorem proved : Rows.FnNodesSaid := over
#print axioms proved
end Go.Proofs.YtkojbcnafckofaaGreat.fnNodes
namespace Go.Proofs.YtkojbcnafckofaaGreat
/-- The row, under a short name, for the claim. -/
theorem fnNodes_holds : Rows.FnNodesSaid := fnNodes.proved
end Go.Proofs.YtkojbcnafckofaaGreat
