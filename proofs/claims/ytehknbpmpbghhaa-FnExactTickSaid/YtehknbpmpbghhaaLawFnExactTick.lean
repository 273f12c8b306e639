/- The law FnExactTick holds: whatever it is called with, it answers true, and its arguments read as they did. No condition. -/
import Derived.Test.YtehknbpmpbghhaaRows
import Derived.Test.YtehknbpmpbghhaaPeArg
import Derived.Test.YtehknbpmpbghhaaPureFnExactTick
import Derived.WalkKit
import Derived.ProofKit
import Derived.OpenShut
import Derived.ShutString
import Derived.ChangeOld
import Derived.Below
import Derived.SizedLaws
namespace Go.Proofs.Ytehknbpmpbghhaa.fnExactTick
open Go Go.ChangeShapes Go.WideShapes Go.ChangeAt Go.RowKit Go.Proofs.Ytehknbpmpbghhaa.Pe Go.Proofs.Ytehknbpmpbghhaa.Pe.FnExactTick
set_option linter.unusedVariables false
theorem own : ownKnob Try.prog.godebug = none := by kernel_rfl
theorem laidOut : laidOutB Try.prog = true := by kernel_rfl
theorem o3 : Opn Try.prog 3 (fun x => [.i .i64 x]) (fun x => WI .i64 x) := opn_int Try.underlying3
theorem o45 : Opn Try.prog 45 (fun xs : (List Int) => [.row false 3 (xs.map encI)]) (fun xs => xs.length ≤ maxLen ∧ ∀ y ∈ xs, WI .i64 y) := opn_slice Try.underlying45 (of_decide_eq_true (by kernel_rfl)) o3
theorem o9 : Opn Try.prog 9 (fun x => [.s x]) (fun x => x.size ≤ maxLen) := opn_string Try.underlying9
set_option maxRecDepth 100000 in
theorem o211 : Opn Try.prog 211 (fun x => encEntry x) wfEntry := opn_struct (l := [_, _, _]) Try.underlying211 rfl (by kernel_rfl) (opnF_cons (z := 1) rfl (by kernel_rfl) o3 (opnF_cons (z := 1) rfl (by kernel_rfl) o3 (opnF_one (z := 1) rfl (by kernel_rfl) o9))) (fun x => Go.Proofs.Ytehknbpmpbghhaa.Pe.FnExactTick.Entry.mk x.1 x.2.1 x.2.2) (fun _ => rfl) (fun _ h => h)
theorem o69 : Opn Try.prog 69 (fun xs : (List Entry) => [.row false 211 (xs.map encEntry)]) (fun xs => xs.length ≤ maxLen ∧ ∀ y ∈ xs, wfEntry y) := opn_slice Try.underlying69 (of_decide_eq_true (by kernel_rfl)) o211
set_option maxRecDepth 100000 in
theorem o71 : Opn Try.prog 71 (fun x => encLogL false x) wfLog := opn_struct (l := [_, _, _]) Try.underlying71 rfl (by kernel_rfl) (opnF_cons (z := 1) rfl (by kernel_rfl) o3 (opnF_cons (z := 1) rfl (by kernel_rfl) o3 (opnF_one (z := 1) rfl (by kernel_rfl) o69))) (fun x => Go.Proofs.Ytehknbpmpbghhaa.Pe.FnExactTick.Log.mk x.1 x.2.1 x.2.2) (fun _ => rfl) (fun _ h => h)
set_option maxRecDepth 100000 in
theorem o188 : Opn Try.prog 188 (fun x => encPeer x) wfPeer := opn_struct (l := [_, _, _, _]) Try.underlying188 rfl (by kernel_rfl) (opnF_cons (z := 1) rfl (by kernel_rfl) o3 (opnF_cons (z := 1) rfl (by kernel_rfl) o3 (opnF_cons (z := 1) rfl (by kernel_rfl) o3 (opnF_one (z := 1) rfl (by kernel_rfl) o3)))) (fun x => Go.Proofs.Ytehknbpmpbghhaa.Pe.FnExactTick.Peer.mk x.1 x.2.1 x.2.2.1 x.2.2.2) (fun _ => rfl) (fun _ h => h)
theorem o72 : Opn Try.prog 72 (fun xs : (List Peer) => [.row false 188 (xs.map encPeer)]) (fun xs => xs.length ≤ maxLen ∧ ∀ y ∈ xs, wfPeer y) := opn_slice Try.underlying72 (of_decide_eq_true (by kernel_rfl)) o188
set_option maxRecDepth 100000 in
theorem o74 : Opn Try.prog 74 (fun x => encNodeL false x) wfNode := opn_struct (l := [_, _, _, _, _, _, _, _, _, _, _, _]) Try.underlying74 rfl (by kernel_rfl) (opnF_cons (z := 1) rfl (by kernel_rfl) o3 (opnF_cons (z := 1) rfl (by kernel_rfl) o3 (opnF_cons (z := 1) rfl (by kernel_rfl) o3 (opnF_cons (z := 1) rfl (by kernel_rfl) o3 (opnF_cons (z := 1) rfl (by kernel_rfl) o3 (opnF_cons (z := 1) rfl (by kernel_rfl) o45 (opnF_cons (z := 3) rfl (by kernel_rfl) o71 (opnF_cons (z := 1) rfl (by kernel_rfl) o3 (opnF_cons (z := 1) rfl (by kernel_rfl) o3 (opnF_cons (z := 1) rfl (by kernel_rfl) o3 (opnF_cons (z := 1) rfl (by kernel_rfl) o45 (opnF_one (z := 1) rfl (by kernel_rfl) o72)))))))))))) (fun x => Go.Proofs.Ytehknbpmpbghhaa.Pe.FnExactTick.Node.mk x.1 x.2.1 x.2.2.1 x.2.2.2.1 x.2.2.2.2.1 x.2.2.2.2.2.1 x.2.2.2.2.2.2.1 x.2.2.2.2.2.2.2.1 x.2.2.2.2.2.2.2.2.1 x.2.2.2.2.2.2.2.2.2.1 x.2.2.2.2.2.2.2.2.2.2.1 x.2.2.2.2.2.2.2.2.2.2.2) (fun _ => rfl) (fun _ h => h)
set_option maxRecDepth 100000 in
theorem lifted (os : Os) (started : os.Started) (H : Type) (enc : TypeId × Value → H) :
    ReturnsInHanded {} Try.checked os 6 .any (Rows.fnExactTickSpec.pre6 enc Try.prog Try.f6 Rows.fnExactTickRow.domain false) (Rows.fnExactTickSpec.post enc Try.prog Try.f6 false true false false) := by
  refine returnsInHanded_of_change_sized (C := Try.checked) own started (by kernel_rfl) Try.func6
    (ChangeSpec.witness6 (enc := enc) (C := Try.checked) false ⟨#[], #[.agg #[.int .i64 0, .int .i64 0, .int .i64 0, .int .i64 0, .int .i64 0, .slice none 0 0, .int .i64 0, .int .i64 0, .slice none 0 0, .int .i64 0, .int .i64 0, .int .i64 0, .slice none 0 0, .slice none 0 0], .int .i64 0], []⟩ 8 (by kernel_rfl) (by kernel_rfl) (by kernel_rfl) (by kernel_rfl)) ?_
  intro W base args ds gs before hval0 hW hcnd hsz0 _
  have hval : ∀ (j : Nat) t v, Try.f6.params[j]? = some t → args[j]? = some v → Value.okWide Try.prog W .any base t v := hval0
  have hW' := hW
  obtain ⟨p, q, hA0, hV, rfl, hfz, hnd⟩ := hW
  have hA : DataW.TrodAll enc Try.prog W 0 (fun _ => true) true Try.f6.params.toList args.toList ds p := hA0
  rw [Try.params6] at hA hval
  obtain ⟨v0, vs0, d0, ds0, p0, q0, hargs, rfl, rfl, h0, r0⟩ := trodAll_cons hA
  obtain ⟨v1, vs1, d1, ds1, p1, q1, rfl, rfl, rfl, h1, r1⟩ := trodAll_cons r0
  obtain ⟨rfl, rfl, rfl⟩ := trodAll_nil r1
  obtain rfl : args = #[v0, v1] := by cases args; simp_all
  obtain ⟨rfl, rfl⟩ := trodVars_none hV
  have k0 := h0
  have lt0 : ∀ x ∈ p0, x.block < W.heap.size := by obtain ⟨m, hm⟩ := k0; exact DataW.trod_lt m _ _ _ hm
  obtain ⟨x0, hK0, hw0⟩ := opn_arg o74 h0
  obtain ⟨cs0, rfl, _⟩ := okWide_struct Try.underlying74 (hval 0 74 v0 rfl rfl)
  obtain ⟨x1, rfl, rfl, rfl, hw1⟩ := open_int Try.underlying3 (hval 1 3 v1 rfl rfl) h1
  clear hA0 hval0 hsz0
  obtain ⟨N, hN⟩ := holds x0 x1 hw0 hw1
  refine (law_calls (sem_laws_FnExactTick N x0 x1 _ hN) (w := W) (args := #[_, _]) (by simp only [VsRel]; exact ⟨_, _, rfl, arg_agg hK0 rfl, ⟨_, _, rfl, (by simp only [VRel]; exact .i _ _), rfl⟩⟩)).mono fun e W' ⟨he, bel⟩ => ?_
  subst he
  exact ⟨_, rfl, _, _, _, [], _, [], hW', trodAll_mk1 (shut_bool Try.underlying4 _), (trodAll_cons_mk (Below.trod laidOut (by kernel_rfl) (of_decide_eq_true (by kernel_rfl)) k0 bel lt0) (trodAll_cons_mk (shut_int Try.underlying3 hw1) trodAll_mk0)), rfl, bel.frame _, fun h => by cases h⟩
theorem over : Rows.fnExactTickRow.holds Try.pinned (OpenSpec.ofChange Rows.fnExactTickSpec) :=
  OpenClaim.holds_of_wide 6 Try.f6 rfl rfl rfl rfl rfl rfl rfl ⟨rfl, rfl, rfl, rfl, rfl⟩ rfl rfl rfl rfl rfl (by kernel_rfl) Try.func6 (by kernel_rfl)
    (of_decide_eq_true (by kernel_rfl)) (by unfold Func.isWrapper; first | (rw [if_pos (by decide +kernel)]; kernel_rfl) | (rw [if_neg (by decide +kernel)]; exact ⟨rfl, rfl⟩))
    (fun os started H enc _ => lifted os started H enc)
theorem proved : Rows.FnExactTickSaid := over
#print axioms proved
end Go.Proofs.Ytehknbpmpbghhaa.fnExactTick
namespace Go.Proofs.Ytehknbpmpbghhaa
/-- The row, under a short name, for the claim. -/
theorem fnExactTick_holds : Rows.FnExactTickSaid := fnExactTick.proved
end Go.Proofs.Ytehknbpmpbghhaa
