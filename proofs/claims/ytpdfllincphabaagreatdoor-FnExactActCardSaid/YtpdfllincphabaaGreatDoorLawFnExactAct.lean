/- The law FnExactAct holds: whatever it is called with, it answers true, and its arguments read as they did. No condition. -/
import Derived.Test.YtpdfllincphabaaGreatDoorRows
import Derived.Test.YtpdfllincphabaaGreatDoorPeArg
import Derived.Test.YtpdfllincphabaaGreatDoorPureFnExactAct
import Derived.WalkKit
import Derived.ProofKit
import Derived.OpenShut
import Derived.ShutString
import Derived.ChangeOld
import Derived.Below
import Derived.SizedLaws
import Derived.LaidMore
import Derived.Lay
import Derived.Stop.Joined
import Derived.Stop.LaidErr
import Derived.MakeChecks
import Derived.Lib.LaidTab
import Derived.SevenTiedAt
import Derived.ChangeVars
import Derived.Test.YtpdfllincphabaaGreatDoorTie
import Derived.Test.YtpdfllincphabaaGreatDoorCards
namespace Go.Proofs.YtpdfllincphabaaGreatDoor.fnExactAct
open Go Go.ChangeShapes Go.WideShapes Go.ChangeAt Go.RowKit Go.Proofs.YtpdfllincphabaaGreatDoor.Pe Go.Proofs.YtpdfllincphabaaGreatDoor.Pe.FnExactAct
set_option linter.unusedVariables false
theorem own : ownKnob Tryz.prog.godebug = none := by kernel_rfl
theorem laidOut : laidOutB Tryz.prog = true := by kernel_rfl
theorem o9 : Opn Tryz.prog 9 (fun x => [.s x]) (fun x => x.size ≤ maxLen) := opn_string Tryz.underlying9
set_option maxRecDepth 100000 in
theorem o38 : Opn Tryz.prog 38 (fun x => encPair x) wfPair := opn_struct (l := [_, _]) Tryz.underlying38 rfl (by kernel_rfl) (opnF_cons (z := 1) rfl (by kernel_rfl) o9 (opnF_one (z := 1) rfl (by kernel_rfl) o9)) (fun x => Go.Proofs.YtpdfllincphabaaGreatDoor.Pe.FnExactAct.Pair.mk x.1 x.2) (fun _ => rfl) (fun _ h => h)
theorem o22 : Opn Tryz.prog 22 (fun xs : (List Pair) => [.row false 38 (xs.map encPair)]) (fun xs => xs.length ≤ maxLen ∧ ∀ y ∈ xs, wfPair y) := opn_slice Tryz.underlying22 (of_decide_eq_true (by kernel_rfl)) o38
theorem o3 : Opn Tryz.prog 3 (fun x => [.i .i64 x]) (fun x => WI .i64 x) := opn_int Tryz.underlying3
set_option maxRecDepth 100000 in
theorem o24 : Opn Tryz.prog 24 (fun x => encCommand x) wfCommand := opn_struct (l := [_, _, _, _, _, _]) Tryz.underlying24 rfl (by kernel_rfl) (opnF_cons (z := 1) rfl (by kernel_rfl) o3 (opnF_cons (z := 1) rfl (by kernel_rfl) o3 (opnF_cons (z := 1) rfl (by kernel_rfl) o3 (opnF_cons (z := 1) rfl (by kernel_rfl) o9 (opnF_cons (z := 1) rfl (by kernel_rfl) o9 (opnF_one (z := 1) rfl (by kernel_rfl) o9)))))) (fun x => Go.Proofs.YtpdfllincphabaaGreatDoor.Pe.FnExactAct.Command.mk x.1 x.2.1 x.2.2.1 x.2.2.2.1 x.2.2.2.2.1 x.2.2.2.2.2) (fun _ => rfl) (fun _ h => h)
theorem door_met (os : Os) (args : Array Value) : laidMetH Tryz.prog Rows.fnExactActRow.laid ((World.laidAll Tryz.prog os Rows.fnExactActRow.laid).forCall (fun _ _ => 0) ⟨#[], args, []⟩).memory := by
  rw [MakeChecks.laidMetH_plain _ _ _ (by kernel_rfl)]
  exact laidMet_laidAll _ (by kernel_rfl) (by kernel_rfl)
theorem star : "*" ++ "errors.errorString" = "*errors.errorString" := by decide
theorem row_err (u : TypeId) (h : Tryz.prog.typeName? 3 u = some "*errors.errorString") : u = 132 :=
  typeName_ptr_named (nm := "errors.errorString") (by rw [star]; kernel_rfl) (by kernel_rfl) (by decide) u (by rw [star]; exact h)
theorem glb0 {W : World} (h : laidMet Tryz.prog Rows.fnExactActRow.laid W) : ∃ o, W.heap[5]? = some o ∧ isTab .u64 pow10s o := by
  obtain ⟨ps, ⟨g0, t0, cs0, f0, p0, q0, hg0, ht0, hv0, hd0, _, _⟩, _⟩ := h.tail.tail
  obtain rfl := Option.some.inj ((show Tryz.prog.globalNamed "internal/strconv.uint64pow10" = some 5 by kernel_rfl).symm.trans hg0)
  obtain rfl := Option.some.inj ((show (Tryz.prog.globals[5]?).map (·.type) = some 143 by kernel_rfl).symm.trans ht0)
  have hc := Lib.cells_of_tab (k := .u64) (zs := [1, 10, 100, 1000, 10000, 100000, 1000000, 10000000, 100000000, 1000000000, 10000000000, 100000000000, 1000000000000, 10000000000000, 100000000000000, 1000000000000000, 10000000000000000, 100000000000000000, 1000000000000000000, 10000000000000000000]) (n := 20) Tryz.underlying143 Tryz.underlying116 (by kernel_rfl) (by kernel_rfl) hd0
  unfold World.var? at hv0
  rw [(show Tryz.prog.globalNamed "internal/strconv.uint64pow10" = some 5 by kernel_rfl), Option.bind_some] at hv0
  split at hv0
  · rename_i cs e z he
    refine ⟨_, he, e, z, ?_⟩
    obtain rfl := Option.some.inj hv0
    congr 1
    apply Array.ext'
    exact hc
  · cases hv0
theorem glb1 {W : World} (h : laidMet Tryz.prog Rows.fnExactActRow.laid W) : ∃ o, W.heap[1]? = some o ∧ isErr o := by
  obtain ⟨a, x, hv, _⟩ := laid_sentinel (n := "strconv.ErrSyntax") (nm := "*errors.errorString") h.tail.tail.tail.tail.tail (show Tryz.prog.globalNamed "strconv.ErrSyntax" = some 1 by kernel_rfl) (show (Tryz.prog.globals[1]?).map (·.type) = some 89 by kernel_rfl) Tryz.underlying89 row_err Tryz.underlying132 Tryz.underlying134 rfl rfl Tryz.underlying9 (by kernel_rfl) (by kernel_rfl)
  unfold World.var? at hv
  rw [(show Tryz.prog.globalNamed "strconv.ErrSyntax" = some 1 by kernel_rfl), Option.bind_some] at hv
  split at hv
  · rename_i cs e z he
    obtain rfl := Option.some.inj hv
    exact ⟨_, he, _, _, e, z, rfl⟩
  · cases hv
theorem glb2 {W : World} (h : laidMet Tryz.prog Rows.fnExactActRow.laid W) : ∃ o, W.heap[2]? = some o ∧ isErr o := by
  obtain ⟨a, x, hv, _⟩ := laid_sentinel (n := "strconv.ErrRange") (nm := "*errors.errorString") h.tail.tail.tail.tail (show Tryz.prog.globalNamed "strconv.ErrRange" = some 2 by kernel_rfl) (show (Tryz.prog.globals[2]?).map (·.type) = some 89 by kernel_rfl) Tryz.underlying89 row_err Tryz.underlying132 Tryz.underlying134 rfl rfl Tryz.underlying9 (by kernel_rfl) (by kernel_rfl)
  unfold World.var? at hv
  rw [(show Tryz.prog.globalNamed "strconv.ErrRange" = some 2 by kernel_rfl), Option.bind_some] at hv
  split at hv
  · rename_i cs e z he
    obtain rfl := Option.some.inj hv
    exact ⟨_, he, _, _, e, z, rfl⟩
  · cases hv
theorem glb {W : World} (h : laidMetH Tryz.prog Rows.fnExactActRow.laid W) : GlbOk W (fun _ => False) := by
  rw [MakeChecks.laidMetH_plain _ _ _ (by kernel_rfl)] at h
  intro t ht
  simp only [globTabs, List.mem_cons, List.not_mem_nil, or_false] at ht
  rcases ht with rfl | rfl | rfl
  · exact ⟨id, glb0 h⟩
  · exact ⟨id, glb1 h⟩
  · exact ⟨id, glb2 h⟩
set_option maxRecDepth 100000 in
theorem lifted (os : Os) (started : os.Started) (H : Type) (enc : TypeId × Value → H) :
    ReturnsInHanded {} Tryz.checked os 3 .any (fun w args => (Rows.fnExactActSpec.pre enc Tryz.prog Tryz.f3 [] false w args ∧ laidMetH Tryz.prog Rows.fnExactActRow.laid w) ∧ sizedMet enc Tryz.prog Tryz.f3 (OpenSpec.ofChange Rows.fnExactActSpec) false w args) (Rows.fnExactActSpec.post enc Tryz.prog Tryz.f3 false true false false) := by
  refine returnsInHanded_of_change_and (C := Tryz.checked) (X := fun w _ => laidMetH Tryz.prog Rows.fnExactActRow.laid w) (fun _ _ _ hh h => h.of_heap hh) own started (by kernel_rfl) Tryz.func3
    (ChangeSpec.witness_shaped (enc := enc) (C := Tryz.checked) (os := os) (X := fun w _ => laidMetH Tryz.prog Rows.fnExactActRow.laid w) false (World.laidAll Tryz.prog os Rows.fnExactActRow.laid) #[.slice none 0 0, .int .i64 0, .agg #[.int .i64 0, .int .i64 0, .int .i64 0, .string ByteArray.empty, .string ByteArray.empty, .string ByteArray.empty]] 8 (World.laidAll_os _ _ _) (World.shaped_of_ZipB (by kernel_rfl) (by kernel_rfl)) (by kernel_rfl) (by kernel_rfl) (by kernel_rfl) (door_met os _)) ?_
  intro W base args ds gs before hval0 hW hcnd hsz0 hL _
  have hval : ∀ (j : Nat) t v, Tryz.f3.params[j]? = some t → args[j]? = some v → Value.okWide Tryz.prog W .any base t v := hval0
  have hW' := hW
  obtain ⟨p, q, hA0, hV, rfl, hfz, hnd⟩ := hW
  have hA : DataW.TrodAll enc Tryz.prog W 0 (fun _ => true) true Tryz.f3.params.toList args.toList ds p := hA0
  rw [Tryz.params3] at hA hval
  obtain ⟨v0, vs0, d0, ds0, p0, q0, hargs, rfl, rfl, h0, r0⟩ := trodAll_cons hA
  obtain ⟨v1, vs1, d1, ds1, p1, q1, rfl, rfl, rfl, h1, r1⟩ := trodAll_cons r0
  obtain ⟨v2, vs2, d2, ds2, p2, q2, rfl, rfl, rfl, h2, r2⟩ := trodAll_cons r1
  obtain ⟨rfl, rfl, rfl⟩ := trodAll_nil r2
  obtain rfl : args = #[v0, v1, v2] := by cases args; simp_all
  obtain ⟨rfl, rfl⟩ := trodVars_none hV
  have k0 := h0
  have lt0 : ∀ x ∈ p0, x.block < W.heap.size := by obtain ⟨m, hm⟩ := k0; exact DataW.trod_lt m _ _ _ hm
  obtain ⟨x0, hK0, hw0⟩ := opn_arg o22 h0
  obtain ⟨a0, len0, cap0, rfl⟩ := okWide_slice Tryz.underlying22 (hval 0 22 v0 rfl rfl)
  obtain ⟨x1, rfl, rfl, rfl, hw1⟩ := open_int Tryz.underlying3 (hval 1 3 v1 rfl rfl) h1
  have k2 := h2
  have lt2 : ∀ x ∈ p2, x.block < W.heap.size := by obtain ⟨m, hm⟩ := k2; exact DataW.trod_lt m _ _ _ hm
  obtain ⟨x2, hK2, hw2⟩ := opn_arg o24 h2
  obtain ⟨cs2, rfl, _⟩ := okWide_struct Tryz.underlying24 (hval 2 24 v2 rfl rfl)
  clear hA0 hval0 hsz0
  obtain ⟨N, hN⟩ := holds x0 x1 x2 hw0 hw1 hw2
  refine (law_calls (sem_laws_FnExactAct N x0 x1 x2 _ hN) (glb hL) (w := W) (args := #[_, _, _]) (by simp only [VsRel]; exact ⟨_, _, rfl, arg_one (by simpa [Value.cells] using hK0), ⟨_, _, rfl, (by simp only [VRel]; exact .i _ _), ⟨_, _, rfl, arg_agg hK2 rfl, rfl⟩⟩⟩)).mono fun e W' ⟨he, bel⟩ => ?_
  subst he
  exact ⟨_, rfl, _, _, _, [], _, [], hW', trodAll_mk1 (shut_bool Tryz.underlying4 _), (trodAll_cons_mk (Below.trod laidOut (by kernel_rfl) (of_decide_eq_true (by kernel_rfl)) k0 bel lt0) (trodAll_cons_mk (shut_int Tryz.underlying3 hw1) (trodAll_cons_mk (Below.trod laidOut (by kernel_rfl) (of_decide_eq_true (by kernel_rfl)) k2 bel lt2) trodAll_mk0))), rfl, bel.frame _, fun h => by cases h⟩
theorem over : Rows.fnExactActRow.holds Tryz.pinned (OpenSpec.ofChange Rows.fnExactActSpec) :=
  OpenClaim.holds_of_wide 3 Tryz.f3 rfl rfl rfl rfl rfl rfl rfl ⟨rfl, rfl, rfl, rfl, rfl⟩ rfl rfl rfl rfl rfl (by kernel_rfl) Tryz.func3 (by kernel_rfl)
    (of_decide_eq_true (by kernel_rfl)) (by unfold Func.isWrapper; first | (rw [if_pos (by decide +kernel)]; kernel_rfl) | (rw [if_neg (by decide +kernel)]; exact ⟨rfl, rfl⟩))
    (fun os started H enc _ => lifted os started H enc)
theorem card_holds : Rows.FnExactActCardSaid :=
  Claim7.holds_tied_plain_at .later [] [.data, .data, .data, .data, .sentinel, .sentinel, .pinned] true (true, "e2808482ec344df8b312a8d38f9771125d9060fd60e3838d3a1aec8308637edf") true
    over (fun _ h => by cases h) (by kernel_rfl) (fun _ h => by cases h) fnExactAct_row_tie rfl ⟨rfl, rfl⟩ (by kernel_rfl) rfl
    (fun f fn hf hfn => by
      obtain rfl : f = 3 := Option.some.inj ((show Tryz.prog.funcNamed "loop.example/g00103/laws.FnExactAct" = some 3 by kernel_rfl).symm.trans hf) |>.symm
      obtain rfl : fn = Tryz.f3 := (Option.some.inj (Tryz.func3.symm.trans hfn)).symm
      exact ⟨by kernel_rfl, fun j t ht => by
        rw [Tryz.params3] at ht
        have hm : t ∈ [22, 3, 24] := by simpa using Array.mem_of_getElem? ht
        have hall : ([22, 3, 24].all fun u => !Tryz.prog.wantsStandIn u) = true := by kernel_rfl
        exact (show Tryz.prog.wantsStandIn t = false by simpa using List.all_eq_true.1 hall t hm)⟩)
    (by kernel_rfl)
#print axioms card_holds
end Go.Proofs.YtpdfllincphabaaGreatDoor.fnExactAct
namespace Go.Proofs.YtpdfllincphabaaGreatDoor
/-- The card, under a short name, for the claim. -/
theorem fnExactAct_holds : Rows.FnExactActCardSaid := fnExactAct.card_holds
end Go.Proofs.YtpdfllincphabaaGreatDoor
