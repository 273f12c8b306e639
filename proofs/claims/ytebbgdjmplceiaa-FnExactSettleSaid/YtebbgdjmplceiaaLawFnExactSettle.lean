/- The law FnExactSettle holds: whatever it is called with, it answers true, and its arguments read as they did. No condition. -/
import Derived.Test.YtebbgdjmplceiaaRows
import Derived.Test.YtebbgdjmplceiaaPeArg
import Derived.Test.YtebbgdjmplceiaaPureFnExactSettle
import Derived.WalkKit
import Derived.ProofKit
import Derived.OpenShut
import Derived.ShutString
import Derived.ChangeOld
import Derived.Below
import Derived.SizedLaws
namespace Go.Proofs.Ytebbgdjmplceiaa.fnExactSettle
open Go Go.ChangeShapes Go.WideShapes Go.ChangeAt Go.RowKit Go.Proofs.Ytebbgdjmplceiaa.Pe Go.Proofs.Ytebbgdjmplceiaa.Pe.FnExactSettle
set_option linter.unusedVariables false
theorem own : ownKnob Try.prog.godebug = none := by kernel_rfl
theorem laidOut : laidOutB Try.prog = true := by kernel_rfl
theorem o3 : Opn Try.prog 3 (fun x => [.i .i64 x]) (fun x => WI .i64 x) := opn_int Try.underlying3
theorem o60 : Opn Try.prog 60 (fun xs : (List Int) => [.row false 3 (xs.map encI)]) (fun xs => xs.length ≤ maxLen ∧ ∀ y ∈ xs, WI .i64 y) := opn_slice Try.underlying60 (of_decide_eq_true (by kernel_rfl)) o3
theorem o9 : Opn Try.prog 9 (fun x => [.s x]) (fun x => x.size ≤ maxLen) := opn_string Try.underlying9
set_option maxRecDepth 100000 in
theorem o71 : Opn Try.prog 71 (fun x => encEntry x) wfEntry := opn_struct (l := [_, _, _]) Try.underlying71 rfl (by kernel_rfl) (opnF_cons (z := 1) rfl (by kernel_rfl) o3 (opnF_cons (z := 1) rfl (by kernel_rfl) o3 (opnF_one (z := 1) rfl (by kernel_rfl) o9))) (fun x => Go.Proofs.Ytebbgdjmplceiaa.Pe.FnExactSettle.Entry.mk x.1 x.2.1 x.2.2) (fun _ => rfl) (fun _ h => h)
theorem o43 : Opn Try.prog 43 (fun xs : (List Entry) => [.row false 71 (xs.map encEntry)]) (fun xs => xs.length ≤ maxLen ∧ ∀ y ∈ xs, wfEntry y) := opn_slice Try.underlying43 (of_decide_eq_true (by kernel_rfl)) o71
set_option maxRecDepth 100000 in
theorem o45 : Opn Try.prog 45 (fun x => encLogL false x) wfLog := opn_struct (l := [_, _, _]) Try.underlying45 rfl (by kernel_rfl) (opnF_cons (z := 1) rfl (by kernel_rfl) o3 (opnF_cons (z := 1) rfl (by kernel_rfl) o3 (opnF_one (z := 1) rfl (by kernel_rfl) o43))) (fun x => Go.Proofs.Ytebbgdjmplceiaa.Pe.FnExactSettle.Log.mk x.1 x.2.1 x.2.2) (fun _ => rfl) (fun _ h => h)
set_option maxRecDepth 100000 in
theorem o182 : Opn Try.prog 182 (fun x => encPeer x) wfPeer := opn_struct (l := [_, _, _, _]) Try.underlying182 rfl (by kernel_rfl) (opnF_cons (z := 1) rfl (by kernel_rfl) o3 (opnF_cons (z := 1) rfl (by kernel_rfl) o3 (opnF_cons (z := 1) rfl (by kernel_rfl) o3 (opnF_one (z := 1) rfl (by kernel_rfl) o3)))) (fun x => Go.Proofs.Ytebbgdjmplceiaa.Pe.FnExactSettle.Peer.mk x.1 x.2.1 x.2.2.1 x.2.2.2) (fun _ => rfl) (fun _ h => h)
theorem o80 : Opn Try.prog 80 (fun xs : (List Peer) => [.row false 182 (xs.map encPeer)]) (fun xs => xs.length ≤ maxLen ∧ ∀ y ∈ xs, wfPeer y) := opn_slice Try.underlying80 (of_decide_eq_true (by kernel_rfl)) o182
set_option maxRecDepth 100000 in
theorem o82 : Opn Try.prog 82 (fun x => encNodeL false x) wfNode := opn_struct (l := [_, _, _, _, _, _, _, _, _, _, _, _]) Try.underlying82 rfl (by kernel_rfl) (opnF_cons (z := 1) rfl (by kernel_rfl) o3 (opnF_cons (z := 1) rfl (by kernel_rfl) o3 (opnF_cons (z := 1) rfl (by kernel_rfl) o3 (opnF_cons (z := 1) rfl (by kernel_rfl) o3 (opnF_cons (z := 1) rfl (by kernel_rfl) o3 (opnF_cons (z := 1) rfl (by kernel_rfl) o60 (opnF_cons (z := 3) rfl (by kernel_rfl) o45 (opnF_cons (z := 1) rfl (by kernel_rfl) o3 (opnF_cons (z := 1) rfl (by kernel_rfl) o3 (opnF_cons (z := 1) rfl (by kernel_rfl) o3 (opnF_cons (z := 1) rfl (by kernel_rfl) o60 (opnF_one (z := 1) rfl (by kernel_rfl) o80)))))))))))) (fun x => Go.Proofs.Ytebbgdjmplceiaa.Pe.FnExactSettle.Node.mk x.1 x.2.1 x.2.2.1 x.2.2.2.1 x.2.2.2.2.1 x.2.2.2.2.2.1 x.2.2.2.2.2.2.1 x.2.2.2.2.2.2.2.1 x.2.2.2.2.2.2.2.2.1 x.2.2.2.2.2.2.2.2.2.1 x.2.2.2.2.2.2.2.2.2.2.1 x.2.2.2.2.2.2.2.2.2.2.2) (fun _ => rfl) (fun _ h => h)
set_option maxRecDepth 100000 in
theorem lifted (os : Os) (started : os.Started) (H : Type) (enc : TypeId × Value → H) :
    ReturnsInHanded {} Try.checked os 14 .any (Rows.fnExactSettleSpec.pre6 enc Try.prog Try.f14 Rows.fnExactSettleRow.domain false) (Rows.fnExactSettleSpec.post enc Try.prog Try.f14 false true false false) := by
  refine returnsInHanded_of_change_sized (C := Try.checked) own started (by kernel_rfl) Try.func14
    (ChangeSpec.witness6 (enc := enc) (C := Try.checked) false ⟨#[], #[.agg #[.int .i64 0, .int .i64 0, .int .i64 0, .int .i64 0, .int .i64 0, .slice none 0 0, .int .i64 0, .int .i64 0, .slice none 0 0, .int .i64 0, .int .i64 0, .int .i64 0, .slice none 0 0, .slice none 0 0], .int .i64 0], []⟩ 8 (by kernel_rfl) (by kernel_rfl) (by kernel_rfl) (by kernel_rfl)) ?_
  intro W base args ds gs before hval0 hW hcnd hsz0 _
  have hval : ∀ (j : Nat) t v, Try.f14.params[j]? = some t → args[j]? = some v → Value.okWide Try.prog W .any base t v := hval0
  have hW' := hW
  obtain ⟨p, q, hA0, hV, rfl, hfz, hnd⟩ := hW
  have hA : DataW.TrodAll enc Try.prog W 0 (fun _ => true) true Try.f14.params.toList args.toList ds p := hA0
  rw [Try.params14] at hA hval
  obtain ⟨v0, vs0, d0, ds0, p0, q0, hargs, rfl, rfl, h0, r0⟩ := trodAll_cons hA
  obtain ⟨v1, vs1, d1, ds1, p1, q1, rfl, rfl, rfl, h1, r1⟩ := trodAll_cons r0
  obtain ⟨rfl, rfl, rfl⟩ := trodAll_nil r1
  obtain rfl : args = #[v0, v1] := by cases args; simp_all
  obtain ⟨rfl, rfl⟩ := trodVars_none hV
  have k0 := h0
  have lt0 : ∀ x ∈ p0, x.block < W.heap.size := by obtain ⟨m, hm⟩ := k0; exact DataW.trod_lt m _ _ _ hm
  obtain ⟨x0, hK0, hw0⟩ := opn_arg o82 h0
  obtain ⟨cs0, rfl, _⟩ := okWide_struct Try.underlying82 (hval 0 82 v0 rfl rfl)
  obtain ⟨x1, rfl, rfl, rfl, hw1⟩ := open_int Try.underlying3 (hval 1 3 v1 rfl rfl) h1
  clear hA0 hval0 hsz0
  obtain ⟨N, hN⟩ := holds x0 x1 hw0 hw1
  refine (law_calls (sem_laws_FnExactSettle N x0 x1 _ hN) (w := W) (args := #[_, _]) (by simp only [VsRel]; exact ⟨_, _, rfl, arg_agg hK0 rfl, ⟨_, _, rfl, (by simp only [VRel]; exact .i _ _), rfl⟩⟩)).mono fun e W' ⟨he, bel⟩ => ?_
  subst he
  exact ⟨_, rfl, _, _, _, [], _, [], hW', trodAll_mk1 (shut_bool Try.underlying4 _), (trodAll_cons_mk (Below.trod laidOut (by kernel_rfl) (of_decide_eq_true (by kernel_rfl)) k0 bel lt0) (trodAll_cons_mk (shut_int Try.underlying3 hw1) trodAll_mk0)), rfl, bel.frame _, fun h => by cases h⟩
theorem over : Rows.fnExactSettleRow.holds Try.pinned (OpenSpec.ofChange Rows.fnExactSettleSpec) :=
  OpenClaim.holds_of_wide 14 Try.f14 rfl rfl rfl rfl rfl rfl rfl ⟨rfl, rfl, rfl, rfl, rfl⟩ rfl rfl rfl rfl rfl (by kernel_rfl) Try.func14 (by kernel_rfl)
    (of_decide_eq_true (by kernel_rfl)) (by unfold Func.isWrapper; first | (rw [if_pos (by decide +kernel)]; kernel_rfl) | (rw [if_neg (by decide +kernel)]; exact ⟨rfl, rfl⟩))
    (fun os started H enc _ => lifted os started H enc)
theorem proved : Rows.FnExactSettleSaid := over
#print axioms proved
end Go.Proofs.Ytebbgdjmplceiaa.fnExactSettle
namespace Go.Proofs.Ytebbgdjmplceiaa
/-- The row, under a short name, for the claim. -/
theorem fnExactSettle_holds : Rows.FnExactSettleSaid := fnExactSettle.proved
end Go.Proofs.Ytebbgdjmplceiaa
