/- The law FnLogs holds: whatever it is called with, it answers true, and its arguments read as they did. No condition. -/
import Derived.Test.YthlhkcnilehbbaaRows
import Derived.Test.YthlhkcnilehbbaaPeArg
import Derived.Test.YthlhkcnilehbbaaPureFnLogs
import Derived.WalkKit
import Derived.ProofKit
import Derived.OpenShut
import Derived.ShutString
import Derived.ChangeOld
import Derived.Below
import Derived.SizedLaws
namespace Go.Proofs.Ythlhkcnilehbbaa.fnLogs
open Go Go.ChangeShapes Go.WideShapes Go.ChangeAt Go.RowKit Go.Proofs.Ythlhkcnilehbbaa.Pe Go.Proofs.Ythlhkcnilehbbaa.Pe.FnLogs
set_option linter.unusedVariables false
theorem own : ownKnob Try.prog.godebug = none := by kernel_rfl
theorem laidOut : laidOutB Try.prog = true := by kernel_rfl
theorem o5 : Opn Try.prog 5 (fun x => [.i .u8 x]) (fun x => WI .u8 x) := opn_int Try.underlying5
theorem o22 : Opn Try.prog 22 (fun xs : (List Int) => [.row false 5 (xs.map encU)]) (fun xs => xs.length ≤ maxLen ∧ ∀ y ∈ xs, WI .u8 y) := opn_slice Try.underlying22 (of_decide_eq_true (by kernel_rfl)) o5
set_option maxRecDepth 100000 in
theorem lifted (os : Os) (started : os.Started) (H : Type) (enc : TypeId × Value → H) :
    ReturnsInHanded {} Try.checked os 3 .any (Rows.fnLogsSpec.pre6 enc Try.prog Try.f3 Rows.fnLogsRow.domain false) (Rows.fnLogsSpec.post enc Try.prog Try.f3 false true false false) := by
  refine returnsInHanded_of_change_sized (C := Try.checked) own started (by kernel_rfl) Try.func3
    (ChangeSpec.witness6 (enc := enc) (C := Try.checked) false ⟨#[], #[.slice none 0 0], []⟩ 8 (by kernel_rfl) (by kernel_rfl) (by kernel_rfl) (by kernel_rfl)) ?_
  intro W base args ds gs before hval0 hW hcnd hsz0 _
  have hval : ∀ (j : Nat) t v, Try.f3.params[j]? = some t → args[j]? = some v → Value.okWide Try.prog W .any base t v := hval0
  have hW' := hW
  obtain ⟨p, q, hA0, hV, rfl, hfz, hnd⟩ := hW
  have hA : DataW.TrodAll enc Try.prog W 0 (fun _ => true) true Try.f3.params.toList args.toList ds p := hA0
  rw [Try.params3] at hA hval
  obtain ⟨v0, vs0, d0, ds0, p0, q0, hargs, rfl, rfl, h0, r0⟩ := trodAll_cons hA
  obtain ⟨rfl, rfl, rfl⟩ := trodAll_nil r0
  obtain rfl : args = #[v0] := by cases args; simp_all
  obtain ⟨rfl, rfl⟩ := trodVars_none hV
  have k0 := h0
  have lt0 : ∀ x ∈ p0, x.block < W.heap.size := by obtain ⟨m, hm⟩ := k0; exact DataW.trod_lt m _ _ _ hm
  obtain ⟨x0, hK0, hw0⟩ := opn_arg o22 h0
  obtain ⟨a0, len0, cap0, rfl⟩ := okWide_slice Try.underlying22 (hval 0 22 v0 rfl rfl)
  clear hA0 hval0 hsz0
  obtain ⟨N, hN⟩ := holds x0 hw0
  refine (law_calls (sem_laws_FnLogs N x0 _ hN) (fun t ht => by cases ht) (w := W) (args := #[_]) (by simp only [VsRel]; exact ⟨_, _, rfl, arg_one (by simpa [Value.cells] using hK0), rfl⟩)).mono fun e W' ⟨he, bel⟩ => ?_
  subst he
  exact ⟨_, rfl, _, _, _, [], _, [], hW', trodAll_mk1 (shut_bool Try.underlying4 _), (trodAll_cons_mk (Below.trod laidOut (by kernel_rfl) (of_decide_eq_true (by kernel_rfl)) k0 bel lt0) trodAll_mk0), rfl, bel.frame _, fun h => by cases h⟩
theorem over : Rows.fnLogsRow.holds Try.pinned (OpenSpec.ofChange Rows.fnLogsSpec) :=
  OpenClaim.holds_of_wide 3 Try.f3 rfl rfl rfl rfl rfl rfl rfl ⟨rfl, rfl, rfl, rfl, rfl⟩ rfl rfl rfl rfl rfl (by kernel_rfl) Try.func3 (by kernel_rfl)
    (of_decide_eq_true (by kernel_rfl)) (by unfold Func.isWrapper; first | (rw [if_pos (by decide +kernel)]; kernel_rfl) | (rw [if_neg (by decide +kernel)]; exact ⟨rfl, rfl⟩))
    (fun os started H enc _ => lifted os started H enc)
theorem proved : Rows.FnLogsSaid := over
#print axioms proved
end Go.Proofs.Ythlhkcnilehbbaa.fnLogs
namespace Go.Proofs.Ythlhkcnilehbbaa
/-- The row, under a short name, for the claim. -/
theorem fnLogs_holds : Rows.FnLogsSaid := fnLogs.proved
end Go.Proofs.Ythlhkcnilehbbaa
