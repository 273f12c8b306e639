/- The law FnExactWhole holds: whatever it is called with, it answers true, and its arguments read as they did. No condition. -/
import Derived.Test.YtebbgdjmplceiaaRows
import Derived.Test.YtebbgdjmplceiaaPeArg
import Derived.Test.YtebbgdjmplceiaaPureFnExactWhole
import Derived.WalkKit
import Derived.ProofKit
import Derived.OpenShut
import Derived.ShutString
import Derived.ChangeOld
import Derived.Below
import Derived.SizedLaws
namespace Go.Proofs.Ytebbgdjmplceiaa.fnExactWhole
open Go Go.ChangeShapes Go.WideShapes Go.ChangeAt Go.RowKit Go.Proofs.Ytebbgdjmplceiaa.Pe Go.Proofs.Ytebbgdjmplceiaa.Pe.FnExactWhole
set_option linter.unusedVariables false
theorem own : ownKnob Try.prog.godebug = none := by kernel_rfl
theorem laidOut : laidOutB Try.prog = true := by kernel_rfl
theorem o3 : Opn Try.prog 3 (fun x => [.i .i64 x]) (fun x => WI .i64 x) := opn_int Try.underlying3
theorem o9 : Opn Try.prog 9 (fun x => [.s x]) (fun x => x.size ≤ maxLen) := opn_string Try.underlying9
set_option maxRecDepth 100000 in
theorem o71 : Opn Try.prog 71 (fun x => encEntry x) wfEntry := opn_struct (l := [_, _, _]) Try.underlying71 rfl (by kernel_rfl) (opnF_cons (z := 1) rfl (by kernel_rfl) o3 (opnF_cons (z := 1) rfl (by kernel_rfl) o3 (opnF_one (z := 1) rfl (by kernel_rfl) o9))) (fun x => Entry.mk x.1 x.2.1 x.2.2) (fun _ => rfl) (fun _ h => h)
theorem o43 : Opn Try.prog 43 (fun xs : (List Entry) => [.row false 71 (xs.map encEntry)]) (fun xs => xs.length ≤ maxLen ∧ ∀ y ∈ xs, wfEntry y) := opn_slice Try.underlying43 (of_decide_eq_true (by kernel_rfl)) o71
set_option maxRecDepth 100000 in
theorem o45 : Opn Try.prog 45 (fun x => encLogL false x) wfLog := opn_struct (l := [_, _, _]) Try.underlying45 rfl (by kernel_rfl) (opnF_cons (z := 1) rfl (by kernel_rfl) o3 (opnF_cons (z := 1) rfl (by kernel_rfl) o3 (opnF_one (z := 1) rfl (by kernel_rfl) o43))) (fun x => Log.mk x.1 x.2.1 x.2.2) (fun _ => rfl) (fun _ h => h)
set_option maxRecDepth 100000 in
theorem o127 : Opn Try.prog 127 (fun x => encLeaderL false x) wfLeader := opn_struct (l := [_, _, _]) Try.underlying127 rfl (by kernel_rfl) (opnF_cons (z := 1) rfl (by kernel_rfl) o3 (opnF_cons (z := 1) rfl (by kernel_rfl) o3 (opnF_one (z := 3) rfl (by kernel_rfl) o45))) (fun x => Leader.mk x.1 x.2.1 x.2.2) (fun _ => rfl) (fun _ h => h)
theorem o36 : Opn Try.prog 36 (fun xs : (List Leader) => [.row false 127 (xs.map (encLeaderL false))]) (fun xs => xs.length ≤ maxLen ∧ ∀ y ∈ xs, wfLeader y) := opn_slice Try.underlying36 (of_decide_eq_true (by kernel_rfl)) o127
set_option maxRecDepth 100000 in
theorem o73 : Opn Try.prog 73 (fun x => encApplied x) wfApplied := opn_struct (l := [_, _, _, _]) Try.underlying73 rfl (by kernel_rfl) (opnF_cons (z := 1) rfl (by kernel_rfl) o3 (opnF_cons (z := 1) rfl (by kernel_rfl) o3 (opnF_cons (z := 1) rfl (by kernel_rfl) o3 (opnF_one (z := 3) rfl (by kernel_rfl) o71)))) (fun x => Applied.mk x.1 x.2.1 x.2.2.1 x.2.2.2) (fun _ => rfl) (fun _ h => h)
set_option maxRecDepth 100000 in
theorem lifted (os : Os) (started : os.Started) (H : Type) (enc : TypeId × Value → H) :
    ReturnsInHanded {} Try.checked os 8 .any (Rows.fnExactWholeSpec.pre6 enc Try.prog Try.f8 Rows.fnExactWholeRow.domain false) (Rows.fnExactWholeSpec.post enc Try.prog Try.f8 false true false false) := by
  refine returnsInHanded_of_change_sized (C := Try.checked) own started (by kernel_rfl) Try.func8
    (ChangeSpec.witness6 (enc := enc) (C := Try.checked) false ⟨#[], #[.slice none 0 0, .agg #[.int .i64 0, .int .i64 0, .int .i64 0, .int .i64 0, .int .i64 0, .string ByteArray.empty]], []⟩ 8 (by kernel_rfl) (by kernel_rfl) (by kernel_rfl) (by kernel_rfl)) ?_
  intro W base args ds gs before hval0 hW hcnd hsz0 _
  have hval : ∀ (j : Nat) t v, Try.f8.params[j]? = some t → args[j]? = some v → Value.okWide Try.prog W .any base t v := hval0
  have hW' := hW
  obtain ⟨p, q, hA0, hV, rfl, hfz, hnd⟩ := hW
  have hA : DataW.TrodAll enc Try.prog W 0 (fun _ => true) true Try.f8.params.toList args.toList ds p := hA0
  rw [Try.params8] at hA hval
  obtain ⟨v0, vs0, d0, ds0, p0, q0, hargs, rfl, rfl, h0, r0⟩ := trodAll_cons hA
  obtain ⟨v1, vs1, d1, ds1, p1, q1, rfl, rfl, rfl, h1, r1⟩ := trodAll_cons r0
  obtain ⟨rfl, rfl, rfl⟩ := trodAll_nil r1
  obtain rfl : args = #[v0, v1] := by cases args; simp_all
  obtain ⟨rfl, rfl⟩ := trodVars_none hV
  have k0 := h0
  have lt0 : ∀ x ∈ p0, x.block < W.heap.size := by obtain ⟨m, hm⟩ := k0; exact DataW.trod_lt m _ _ _ hm
  obtain ⟨x0, hK0, hw0⟩ := opn_arg o36 h0
  obtain ⟨a0, len0, cap0, rfl⟩ := okWide_slice Try.underlying36 (hval 0 36 v0 rfl rfl)
  have k1 := h1
  have lt1 : ∀ x ∈ p1, x.block < W.heap.size := by obtain ⟨m, hm⟩ := k1; exact DataW.trod_lt m _ _ _ hm
  obtain ⟨x1, hK1, hw1⟩ := opn_arg o73 h1
  obtain ⟨cs1, rfl, _⟩ := okWide_struct Try.underlying73 (hval 1 73 v1 rfl rfl)
  clear hA0 hval0 hsz0
  obtain ⟨N, hN⟩ := holds x0 x1 hw0 hw1
  refine (law_calls (sem_laws_FnExactWhole N x0 x1 _ hN) (w := W) (args := #[_, _]) (by simp only [VsRel]; exact ⟨_, _, rfl, arg_one (by simpa [Value.cells] using hK0), ⟨_, _, rfl, arg_agg hK1 rfl, rfl⟩⟩)).mono fun e W' ⟨he, bel⟩ => ?_
  subst he
  exact ⟨_, rfl, _, _, _, [], _, [], hW', trodAll_mk1 (shut_bool Try.underlying4 _), (trodAll_cons_mk (Below.trod laidOut (by kernel_rfl) (of_decide_eq_true (by kernel_rfl)) k0 bel lt0) (trodAll_cons_mk (Below.trod laidOut (by kernel_rfl) (of_decide_eq_true (by kernel_rfl)) k1 bel lt1) trodAll_mk0)), rfl, bel.frame _, fun h => by cases h⟩
theorem over : Rows.fnExactWholeRow.holds Try.pinned (OpenSpec.ofChange Rows.fnExactWholeSpec) :=
  OpenClaim.holds_of_wide 8 Try.f8 rfl rfl rfl rfl rfl rfl rfl ⟨rfl, rfl, rfl, rfl, rfl⟩ rfl rfl rfl rfl rfl (by kernel_rfl) Try.func8 (by kernel_rfl)
    (of_decide_eq_true (by kernel_rfl)) (by unfold Func.isWrapper; first | (rw [if_pos (by decide +kernel)]; kernel_rfl) | (rw [if_neg (by decide +kernel)]; exact ⟨rfl, rfl⟩))
    (fun os started H enc _ => lifted os started H enc)
theorem proved : Rows.FnExactWholeSaid := over
#print axioms proved
end Go.Proofs.Ytebbgdjmplceiaa.fnExactWhole
namespace Go.Proofs.Ytebbgdjmplceiaa
/-- The row, under a short name, for the claim. -/
theorem fnExactWhole_holds : Rows.FnExactWholeSaid := fnExactWhole.proved
end Go.Proofs.Ytebbgdjmplceiaa
