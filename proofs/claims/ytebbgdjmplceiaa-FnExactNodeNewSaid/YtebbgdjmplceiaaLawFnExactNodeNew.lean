/- The law FnExactNodeNew holds: whatever it is called with, it answers true, and its arguments read as they did. No condition. -/
import Derived.Test.YtebbgdjmplceiaaRows
import Derived.Test.YtebbgdjmplceiaaPeArg
import Derived.Test.YtebbgdjmplceiaaPureFnExactNodeNew
import Derived.WalkKit
import Derived.ProofKit
import Derived.OpenShut
import Derived.ShutString
import Derived.ChangeOld
import Derived.Below
import Derived.SizedLaws
namespace Go.Proofs.Ytebbgdjmplceiaa.fnExactNodeNew
open Go Go.ChangeShapes Go.WideShapes Go.ChangeAt Go.RowKit Go.Proofs.Ytebbgdjmplceiaa.Pe Go.Proofs.Ytebbgdjmplceiaa.Pe.FnExactNodeNew
set_option linter.unusedVariables false
theorem own : ownKnob Try.prog.godebug = none := by kernel_rfl
theorem laidOut : laidOutB Try.prog = true := by kernel_rfl
theorem o3 : Opn Try.prog 3 (fun x => [.i .i64 x]) (fun x => WI .i64 x) := opn_int Try.underlying3
theorem o60 : Opn Try.prog 60 (fun xs : (List Int) => [.row false 3 (xs.map encI)]) (fun xs => xs.length ≤ maxLen ∧ ∀ y ∈ xs, WI .i64 y) := opn_slice Try.underlying60 (of_decide_eq_true (by kernel_rfl)) o3
set_option maxRecDepth 100000 in
theorem lifted (os : Os) (started : os.Started) (H : Type) (enc : TypeId × Value → H) :
    ReturnsInHanded {} Try.checked os 13 .any (Rows.fnExactNodeNewSpec.pre6 enc Try.prog Try.f13 Rows.fnExactNodeNewRow.domain false) (Rows.fnExactNodeNewSpec.post enc Try.prog Try.f13 false true false false) := by
  refine returnsInHanded_of_change_sized (C := Try.checked) own started (by kernel_rfl) Try.func13
    (ChangeSpec.witness6 (enc := enc) (C := Try.checked) false ⟨#[], #[.int .i64 0, .slice none 0 0], []⟩ 8 (by kernel_rfl) (by kernel_rfl) (by kernel_rfl) (by kernel_rfl)) ?_
  intro W base args ds gs before hval0 hW hcnd hsz0 _
  have hval : ∀ (j : Nat) t v, Try.f13.params[j]? = some t → args[j]? = some v → Value.okWide Try.prog W .any base t v := hval0
  have hW' := hW
  obtain ⟨p, q, hA0, hV, rfl, hfz, hnd⟩ := hW
  have hA : DataW.TrodAll enc Try.prog W 0 (fun _ => true) true Try.f13.params.toList args.toList ds p := hA0
  rw [Try.params13] at hA hval
  obtain ⟨v0, vs0, d0, ds0, p0, q0, hargs, rfl, rfl, h0, r0⟩ := trodAll_cons hA
  obtain ⟨v1, vs1, d1, ds1, p1, q1, rfl, rfl, rfl, h1, r1⟩ := trodAll_cons r0
  obtain ⟨rfl, rfl, rfl⟩ := trodAll_nil r1
  obtain rfl : args = #[v0, v1] := by cases args; simp_all
  obtain ⟨rfl, rfl⟩ := trodVars_none hV
  obtain ⟨x0, rfl, rfl, rfl, hw0⟩ := open_int Try.underlying3 (hval 0 3 v0 rfl rfl) h0
  have k1 := h1
  have lt1 : ∀ x ∈ p1, x.block < W.heap.size := by obtain ⟨m, hm⟩ := k1; exact DataW.trod_lt m _ _ _ hm
  obtain ⟨x1, hK1, hw1⟩ := opn_arg o60 h1
  obtain ⟨a1, len1, cap1, rfl⟩ := okWide_slice Try.underlying60 (hval 1 60 v1 rfl rfl)
  clear hA0 hval0 hsz0
  obtain ⟨N, hN⟩ := holds x0 x1 hw0 hw1
  refine (law_calls (sem_laws_FnExactNodeNew N x0 x1 _ hN) (w := W) (args := #[_, _]) (by simp only [VsRel]; exact ⟨_, _, rfl, (by simp only [VRel]; exact .i _ _), ⟨_, _, rfl, arg_one (by simpa [Value.cells] using hK1), rfl⟩⟩)).mono fun e W' ⟨he, bel⟩ => ?_
  subst he
  exact ⟨_, rfl, _, _, _, [], _, [], hW', trodAll_mk1 (shut_bool Try.underlying4 _), (trodAll_cons_mk (shut_int Try.underlying3 hw0) (trodAll_cons_mk (Below.trod laidOut (by kernel_rfl) (of_decide_eq_true (by kernel_rfl)) k1 bel lt1) trodAll_mk0)), rfl, bel.frame _, fun h => by cases h⟩
theorem over : Rows.fnExactNodeNewRow.holds Try.pinned (OpenSpec.ofChange Rows.fnExactNodeNewSpec) :=
  OpenClaim.holds_of_wide 13 Try.f13 rfl rfl rfl rfl rfl rfl rfl ⟨rfl, rfl, rfl, rfl, rfl⟩ rfl rfl rfl rfl rfl (by kernel_rfl) Try.func13 (by kernel_rfl)
    (of_decide_eq_true (by kernel_rfl)) (by unfold Func.isWrapper; first | (rw [if_pos (by decide +kernel)]; kernel_rfl) | (rw [if_neg (by decide +kernel)]; exact ⟨rfl, rfl⟩))
    (fun os started H enc _ => lifted os started H enc)
theorem proved : Rows.FnExactNodeNewSaid := over
#print axioms proved
end Go.Proofs.Ytebbgdjmplceiaa.fnExactNodeNew
namespace Go.Proofs.Ytebbgdjmplceiaa
/-- The row, under a short name, for the claim. -/
theorem fnExactNodeNew_holds : Rows.FnExactNodeNewSaid := fnExactNodeNew.proved
end Go.Proofs.Ytebbgdjmplceiaa
