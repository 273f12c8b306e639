/- The law FnBoots holds: whatever it is called with, it answers true, and its arguments read as they did. No condition. -/
import Derived.Test.YtmcbbifeekhmgaaGreatDoorRows
import Derived.Test.YtmcbbifeekhmgaaGreatDoorPeArg
import Derived.Test.YtmcbbifeekhmgaaGreatDoorPureFnBoots
import Derived.WalkKit
import Derived.ProofKit
import Derived.OpenShut
import Derived.ShutString
import Derived.ChangeOld
import Derived.Below
import Derived.SizedLaws
import Derived.LaidMore
import Derived.Lay
import Derived.Stop.Joined
import Derived.Stop.LaidErr
import Derived.MakeChecks
import Derived.Lib.LaidTab
import Derived.SevenTiedAt
import Derived.ChangeVars
import Derived.Test.YtmcbbifeekhmgaaGreatDoorTie
import Derived.Test.YtmcbbifeekhmgaaGreatDoorCards
namespace Go.Proofs.YtmcbbifeekhmgaaGreatDoor.fnBoots
open Go Go.ChangeShapes Go.WideShapes Go.ChangeAt Go.RowKit Go.Proofs.YtmcbbifeekhmgaaGreatDoor.Pe Go.Proofs.YtmcbbifeekhmgaaGreatDoor.Pe.FnBoots
set_option linter.unusedVariables false
theorem cs_vs {P : Program} {j : Nat → Hd} {w : World} {S : Nat → Prop} : ∀ {cs : List C} {vs : List Value}, CsRel P w S cs vs [] → VsRel P j w S (cs.map .c) vs
  | [], vs, h => by cases h; simp only [List.map_nil, VsRel]
  | c :: cs, vs, h => by
    generalize hL : ([] : List Nat) = L0 at h
    cases h with
    | cons _ _ v vs' L L' h hs =>
      obtain ⟨rfl, rfl⟩ := List.append_eq_nil_iff.1 hL.symm
      simp only [List.map_cons, VsRel, VRel]
      exact ⟨v, vs', rfl, h, cs_vs hs⟩
theorem arg_one {P : Program} {j : Nat → Hd} {w : World} {S : Nat → Prop} {c : C} {v : Value} (h : CsRel P w S [c] [v] []) : VRel P j w S (.c c) v := by
  have := cs_vs (j := j) h
  simp only [List.map_cons, List.map_nil, VsRel] at this
  obtain ⟨u, us, e, h1, _⟩ := this
  cases e
  exact h1
theorem own : ownKnob Tryz.prog.godebug = none := by kernel_rfl
theorem laidOut : laidOutB Tryz.prog = true := by kernel_rfl
theorem o5 : Opn Tryz.prog 5 (fun x => [.i .u8 x]) (fun x => WI .u8 x) := opn_int Tryz.underlying5
theorem o22 : Opn Tryz.prog 22 (fun xs : (List Int) => [.row false 5 (xs.map encU)]) (fun xs => xs.length ≤ maxLen ∧ ∀ y ∈ xs, WI .u8 y) := opn_slice Tryz.underlying22 (of_decide_eq_true (by kernel_rfl)) o5
theorem door_met (os : Os) (args : Array Value) : laidMetH Tryz.prog Rows.fnBootsRow.laid ((World.doorLaid Tryz.prog 4000 os).forCall (fun _ _ => 0) ⟨#[], args, []⟩).memory :=
  laidMetH_of_parts3 (fuel := 8) (laidMet_of_run' 8 (by kernel_rfl) (by kernel_rfl)) (by kernel_rfl) (by kernel_rfl)
theorem star : "*" ++ "errors.errorString" = "*errors.errorString" := by decide
theorem row_err (u : TypeId) (h : Tryz.prog.typeName? 3 u = some "*errors.errorString") : u = 343 :=
  typeName_ptr_named (nm := "errors.errorString") (by rw [star]; kernel_rfl) (by kernel_rfl) (by decide) u (by rw [star]; exact h)
theorem glb0 {W : World} (h : laidMet Tryz.prog Rows.fnBootsRow.laid W) : ∃ o, W.heap[1]? = some o ∧ isTab .u64 pow10s o := by
  obtain ⟨ps, ⟨g0, t0, cs0, f0, p0, q0, hg0, ht0, hv0, hd0, _, _⟩, _⟩ := h.tail.tail
  obtain rfl := Option.some.inj ((show Tryz.prog.globalNamed "internal/strconv.uint64pow10" = some 1 by kernel_rfl).symm.trans hg0)
  obtain rfl := Option.some.inj ((show (Tryz.prog.globals[1]?).map (·.type) = some 332 by kernel_rfl).symm.trans ht0)
  have hc := Lib.cells_of_tab (k := .u64) (zs := [1, 10, 100, 1000, 10000, 100000, 1000000, 10000000, 100000000, 1000000000, 10000000000, 100000000000, 1000000000000, 10000000000000, 100000000000000, 1000000000000000, 10000000000000000, 100000000000000000, 1000000000000000000, 10000000000000000000]) (n := 20) Tryz.underlying332 Tryz.underlying318 (by kernel_rfl) (by kernel_rfl) hd0
  unfold World.var? at hv0
  rw [(show Tryz.prog.globalNamed "internal/strconv.uint64pow10" = some 1 by kernel_rfl), Option.bind_some] at hv0
  split at hv0
  · rename_i cs e z he
    refine ⟨_, he, e, z, ?_⟩
    obtain rfl := Option.some.inj hv0
    congr 1
    apply Array.ext'
    exact hc
  · cases hv0
theorem glb1 {W : World} (h : laidMet Tryz.prog Rows.fnBootsRow.laid W) : ∃ o, W.heap[2]? = some o ∧ isErr o := by
  obtain ⟨a, x, hv, _⟩ := laid_sentinel (n := "strconv.ErrSyntax") (nm := "*errors.errorString") h.tail.tail.tail.tail (show Tryz.prog.globalNamed "strconv.ErrSyntax" = some 2 by kernel_rfl) (show (Tryz.prog.globals[2]?).map (·.type) = some 294 by kernel_rfl) Tryz.underlying294 row_err Tryz.underlying343 Tryz.underlying345 rfl rfl Tryz.underlying9 (by kernel_rfl) (by kernel_rfl)
  unfold World.var? at hv
  rw [(show Tryz.prog.globalNamed "strconv.ErrSyntax" = some 2 by kernel_rfl), Option.bind_some] at hv
  split at hv
  · rename_i cs e z he
    obtain rfl := Option.some.inj hv
    exact ⟨_, he, _, _, e, z, rfl⟩
  · cases hv
theorem glb2 {W : World} (h : laidMet Tryz.prog Rows.fnBootsRow.laid W) : ∃ o, W.heap[3]? = some o ∧ isErr o := by
  obtain ⟨a, x, hv, _⟩ := laid_sentinel (n := "strconv.ErrRange") (nm := "*errors.errorString") h.tail.tail.tail (show Tryz.prog.globalNamed "strconv.ErrRange" = some 3 by kernel_rfl) (show (Tryz.prog.globals[3]?).map (·.type) = some 294 by kernel_rfl) Tryz.underlying294 row_err Tryz.underlying343 Tryz.underlying345 rfl rfl Tryz.underlying9 (by kernel_rfl) (by kernel_rfl)
  unfold World.var? at hv
  rw [(show Tryz.prog.globalNamed "strconv.ErrRange" = some 3 by kernel_rfl), Option.bind_some] at hv
  split at hv
  · rename_i cs e z he
    obtain rfl := Option.some.inj hv
    exact ⟨_, he, _, _, e, z, rfl⟩
  · cases hv
theorem glb {W : World} (h : laidMetH Tryz.prog Rows.fnBootsRow.laid W) : GlbOk W (fun _ => False) := by
  rw [MakeChecks.laidMetH_plain _ _ _ (by kernel_rfl)] at h
  intro t ht
  simp only [globTabs, List.mem_cons, List.not_mem_nil, or_false] at ht
  rcases ht with rfl | rfl | rfl
  · exact ⟨id, glb0 h⟩
  · exact ⟨id, glb1 h⟩
  · exact ⟨id, glb2 h⟩
set_option maxRecDepth 100000 in
theorem lifted (os : Os) (started : os.Started) (H : Type) (enc : TypeId × Value → H) :
    ReturnsInHanded {} Tryz.checked os 3 .any (fun w args => (Rows.fnBootsSpec.pre enc Tryz.prog Tryz.f3 [] false w args ∧ laidMetH Tryz.prog Rows.fnBootsRow.laid w) ∧ sizedMet enc Tryz.prog Tryz.f3 (OpenSpec.ofChange Rows.fnBootsSpec) false w args) (Rows.fnBootsSpec.post enc Tryz.prog Tryz.f3 false true false false) := by
  refine returnsInHanded_of_change_and (C := Tryz.checked) (X := fun w _ => laidMetH Tryz.prog Rows.fnBootsRow.laid w) (fun _ _ _ hh h => h.of_heap hh) own started (by kernel_rfl) Tryz.func3
    (ChangeSpec.witness_shaped (enc := enc) (C := Tryz.checked) (os := os) (X := fun w _ => laidMetH Tryz.prog Rows.fnBootsRow.laid w) false (World.doorLaid Tryz.prog 4000 os) #[.slice none 0 0] 8 rfl (World.shaped_of_RefB (by kernel_rfl) (by kernel_rfl)) (by kernel_rfl) (by kernel_rfl) (by kernel_rfl) (door_met os _)) ?_
  intro W base args ds gs before hval0 hW hcnd hsz0 hL _
  have hval : ∀ (j : Nat) t v, Tryz.f3.params[j]? = some t → args[j]? = some v → Value.okWide Tryz.prog W .any base t v := hval0
  have hW' := hW
  obtain ⟨p, q, hA0, hV, rfl, hfz, hnd⟩ := hW
  have hA : DataW.TrodAll enc Tryz.prog W 0 (fun _ => true) true Tryz.f3.params.toList args.toList ds p := hA0
  rw [Tryz.params3] at hA hval
  obtain ⟨v0, vs0, d0, ds0, p0, q0, hargs, rfl, rfl, h0, r0⟩ := trodAll_cons hA
  obtain ⟨rfl, rfl, rfl⟩ := trodAll_nil r0
  obtain rfl : args = #[v0] := by cases args; simp_all
  obtain ⟨rfl, rfl⟩ := trodVars_none hV
  have k0 := h0
  have lt0 : ∀ x ∈ p0, x.block < W.heap.size := by obtain ⟨m, hm⟩ := k0; exact DataW.trod_lt m _ _ _ hm
  obtain ⟨x0, hK0, hw0⟩ := opn_arg o22 h0
  obtain ⟨a0, len0, cap0, rfl⟩ := okWide_slice Tryz.underlying22 (hval 0 22 v0 rfl rfl)
  clear hA0 hval0 hsz0
  obtain ⟨N, hN⟩ := holds x0 hw0
  refine (law_calls ((i264 N x0).says _ hN) (glb hL) (w := W) (args := #[_]) (by simp only [VsRel]; exact ⟨_, _, rfl, arg_one (by simpa [Value.cells] using hK0), rfl⟩)).mono fun e W' ⟨he, bel⟩ => ?_
  subst he
  exact ⟨_, rfl, _, _, _, [], _, [], hW', trodAll_mk1 (shut_bool Tryz.underlying4 _), (trodAll_cons_mk (Below.trod laidOut (by kernel_rfl) (of_decide_eq_true (by kernel_rfl)) k0 bel lt0) trodAll_mk0), rfl, bel.frame _, fun h => by cases h⟩
set_option maxHeartbeats 40000000 in
theorem closed : joinedFacts Tryz.prog 3 Tryz.f3 Rows.fnBootsSpec Rows.fnBootsRow = true := by
  unfold joinedFacts
  simp only [Bool.and_eq_true]
  repeat' apply And.intro
  all_goals decide +kernel
theorem over : Rows.fnBootsRow.holds Tryz.pinned (OpenSpec.ofChange Rows.fnBootsSpec) :=
  OpenClaim.holds_of_wide 3 Tryz.f3 rfl rfl rfl rfl rfl rfl rfl ⟨rfl, rfl, rfl, rfl, rfl⟩ rfl rfl rfl rfl rfl (by kernel_rfl) Tryz.func3 closed
    (of_decide_eq_true (by kernel_rfl)) (by unfold Func.isWrapper; first | (rw [if_pos (by decide +kernel)]; kernel_rfl) | (rw [if_neg (by decide +kernel)]; exact ⟨rfl, rfl⟩))
    (fun os started H enc _ => lifted os started H enc)
theorem card_holds : Rows.FnBootsCardSaid :=
  Claim7.holds_tied_plain_at .later [] [.data, .data, .data, .sentinel, .sentinel] true (true, "a844f01e247712e76376107d778b8067a67c9507cb77505d0d74a71cec888b5a") true
    over (fun _ h => by cases h) (by kernel_rfl) (fun _ h => by cases h) fnBoots_row_tie rfl ⟨rfl, rfl⟩ (by kernel_rfl) rfl
    (fun f fn hf hfn => by
      obtain rfl : f = 3 := Option.some.inj ((show Tryz.prog.funcNamed "loop.example/g00103/laws.FnBoots" = some 3 by kernel_rfl).symm.trans hf) |>.symm
      obtain rfl : fn = Tryz.f3 := (Option.some.inj (Tryz.func3.symm.trans hfn)).symm
      exact ⟨by kernel_rfl, fun j t ht => by
        rw [Tryz.params3] at ht
        have hm : t ∈ [22] := by simpa using Array.mem_of_getElem? ht
        have hall : ([22].all fun u => !Tryz.prog.wantsStandIn u) = true := by kernel_rfl
        exact (show Tryz.prog.wantsStandIn t = false by simpa using List.all_eq_true.1 hall t hm)⟩)
    (by kernel_rfl)
#print axioms card_holds
end Go.Proofs.YtmcbbifeekhmgaaGreatDoor.fnBoots
namespace Go.Proofs.YtmcbbifeekhmgaaGreatDoor
/-- The card, under a short name, for the claim. -/
theorem fnBoots_holds : Rows.FnBootsCardSaid := fnBoots.card_holds
end Go.Proofs.YtmcbbifeekhmgaaGreatDoor
