/- The law FnExactReadScript holds: whatever it is called with, it answers true, and its arguments read as they did. No condition. -/
import Derived.Test.YtmnoonjkiflonaaGreatDoorRows
import Derived.Test.YtmnoonjkiflonaaGreatDoorPeArg
import Derived.Test.YtmnoonjkiflonaaGreatDoorPureFnExactReadScript
import Derived.WalkKit
import Derived.ProofKit
import Derived.OpenShut
import Derived.ShutString
import Derived.ChangeOld
import Derived.Below
import Derived.SizedLaws
import Derived.LaidMore
import Derived.Lay
import Derived.Stop.Joined
import Derived.Stop.LaidErr
import Derived.MakeChecks
import Derived.Lib.LaidTab
import Derived.SevenTiedAt
import Derived.ChangeVars
import Derived.Test.YtmnoonjkiflonaaGreatDoorTie
import Derived.Test.YtmnoonjkiflonaaGreatDoorCards
namespace Go.Proofs.YtmnoonjkiflonaaGreatDoor.fnExactReadScript
open Go Go.ChangeShapes Go.WideShapes Go.ChangeAt Go.RowKit Go.Proofs.YtmnoonjkiflonaaGreatDoor.Pe Go.Proofs.YtmnoonjkiflonaaGreatDoor.Pe.FnExactReadScript
set_option linter.unusedVariables false
theorem own : ownKnob Tryz.prog.godebug = none := by kernel_rfl
theorem laidOut : laidOutB Tryz.prog = true := by kernel_rfl
theorem o9 : Opn Tryz.prog 9 (fun x => [.s x]) (fun x => x.size ≤ maxLen) := opn_string Tryz.underlying9
theorem door_met (os : Os) (args : Array Value) : laidMetH Tryz.prog Rows.fnExactReadScriptRow.laid ((World.laidAll Tryz.prog os Rows.fnExactReadScriptRow.laid).forCall (fun _ _ => 0) ⟨#[], args, []⟩).memory := by
  rw [MakeChecks.laidMetH_plain _ _ _ (by kernel_rfl)]
  exact laidMet_laidAll _ (by kernel_rfl) (by kernel_rfl)
theorem star : "*" ++ "errors.errorString" = "*errors.errorString" := by decide
theorem row_err (u : TypeId) (h : Tryz.prog.typeName? 3 u = some "*errors.errorString") : u = 270 :=
  typeName_ptr_named (nm := "errors.errorString") (by rw [star]; kernel_rfl) (by kernel_rfl) (by decide) u (by rw [star]; exact h)
theorem glb0 {W : World} (h : laidMet Tryz.prog Rows.fnExactReadScriptRow.laid W) : ∃ o, W.heap[7]? = some o ∧ isTab .u64 pow10s o := by
  obtain ⟨ps, ⟨g0, t0, cs0, f0, p0, q0, hg0, ht0, hv0, hd0, _, _⟩, _⟩ := h.tail.tail
  obtain rfl := Option.some.inj ((show Tryz.prog.globalNamed "internal/strconv.uint64pow10" = some 7 by kernel_rfl).symm.trans hg0)
  obtain rfl := Option.some.inj ((show (Tryz.prog.globals[7]?).map (·.type) = some 288 by kernel_rfl).symm.trans ht0)
  have hc := Lib.cells_of_tab (k := .u64) (zs := [1, 10, 100, 1000, 10000, 100000, 1000000, 10000000, 100000000, 1000000000, 10000000000, 100000000000, 1000000000000, 10000000000000, 100000000000000, 1000000000000000, 10000000000000000, 100000000000000000, 1000000000000000000, 10000000000000000000]) (n := 20) Tryz.underlying288 Tryz.underlying241 (by kernel_rfl) (by kernel_rfl) hd0
  unfold World.var? at hv0
  rw [(show Tryz.prog.globalNamed "internal/strconv.uint64pow10" = some 7 by kernel_rfl), Option.bind_some] at hv0
  split at hv0
  · rename_i cs e z he
    refine ⟨_, he, e, z, ?_⟩
    obtain rfl := Option.some.inj hv0
    congr 1
    apply Array.ext'
    exact hc
  · cases hv0
theorem glb1 {W : World} (h : laidMet Tryz.prog Rows.fnExactReadScriptRow.laid W) : ∃ o, W.heap[5]? = some o ∧ isErr o := by
  obtain ⟨a, x, hv, _⟩ := laid_sentinel (n := "strconv.ErrSyntax") (nm := "*errors.errorString") h.tail.tail.tail.tail.tail (show Tryz.prog.globalNamed "strconv.ErrSyntax" = some 5 by kernel_rfl) (show (Tryz.prog.globals[5]?).map (·.type) = some 123 by kernel_rfl) Tryz.underlying123 row_err Tryz.underlying270 Tryz.underlying272 rfl rfl Tryz.underlying9 (by kernel_rfl) (by kernel_rfl)
  unfold World.var? at hv
  rw [(show Tryz.prog.globalNamed "strconv.ErrSyntax" = some 5 by kernel_rfl), Option.bind_some] at hv
  split at hv
  · rename_i cs e z he
    obtain rfl := Option.some.inj hv
    exact ⟨_, he, _, _, e, z, rfl⟩
  · cases hv
theorem glb2 {W : World} (h : laidMet Tryz.prog Rows.fnExactReadScriptRow.laid W) : ∃ o, W.heap[6]? = some o ∧ isErr o := by
  obtain ⟨a, x, hv, _⟩ := laid_sentinel (n := "strconv.ErrRange") (nm := "*errors.errorString") h.tail.tail.tail.tail (show Tryz.prog.globalNamed "strconv.ErrRange" = some 6 by kernel_rfl) (show (Tryz.prog.globals[6]?).map (·.type) = some 123 by kernel_rfl) Tryz.underlying123 row_err Tryz.underlying270 Tryz.underlying272 rfl rfl Tryz.underlying9 (by kernel_rfl) (by kernel_rfl)
  unfold World.var? at hv
  rw [(show Tryz.prog.globalNamed "strconv.ErrRange" = some 6 by kernel_rfl), Option.bind_some] at hv
  split at hv
  · rename_i cs e z he
    obtain rfl := Option.some.inj hv
    exact ⟨_, he, _, _, e, z, rfl⟩
  · cases hv
set_option maxRecDepth 100000 in
theorem glb3 {W : World} (h : laidMet Tryz.prog Rows.fnExactReadScriptRow.laid W) : ∃ o, W.heap[0]? = some o ∧ isTab .u8 spaces o := by
  obtain ⟨ps, ⟨g0, t0, cs0, f0, p0, q0, hg0, ht0, hv0, hd0, _, _⟩, _⟩ := h.tail.tail.tail.tail.tail.tail.tail
  obtain rfl := Option.some.inj ((show Tryz.prog.globalNamed "strings.asciiSpace" = some 0 by kernel_rfl).symm.trans hg0)
  obtain rfl := Option.some.inj ((show (Tryz.prog.globals[0]?).map (·.type) = some 119 by kernel_rfl).symm.trans ht0)
  have hc := Lib.cells_of_tab (k := .u8) (zs := [0, 0, 0, 0, 0, 0, 0, 0, 0, 1, 1, 1, 1, 1, 0, 0, 0, 0, 0, 0, 0, 0, 0, 0, 0, 0, 0, 0, 0, 0, 0, 0, 1, 0, 0, 0, 0, 0, 0, 0, 0, 0, 0, 0, 0, 0, 0, 0, 0, 0, 0, 0, 0, 0, 0, 0, 0, 0, 0, 0, 0, 0, 0, 0, 0, 0, 0, 0, 0, 0, 0, 0, 0, 0, 0, 0, 0, 0, 0, 0, 0, 0, 0, 0, 0, 0, 0, 0, 0, 0, 0, 0, 0, 0, 0, 0, 0, 0, 0, 0, 0, 0, 0, 0, 0, 0, 0, 0, 0, 0, 0, 0, 0, 0, 0, 0, 0, 0, 0, 0, 0, 0, 0, 0, 0, 0, 0, 0, 0, 0, 0, 0, 0, 0, 0, 0, 0, 0, 0, 0, 0, 0, 0, 0, 0, 0, 0, 0, 0, 0, 0, 0, 0, 0, 0, 0, 0, 0, 0, 0, 0, 0, 0, 0, 0, 0, 0, 0, 0, 0, 0, 0, 0, 0, 0, 0, 0, 0, 0, 0, 0, 0, 0, 0, 0, 0, 0, 0, 0, 0, 0, 0, 0, 0, 0, 0, 0, 0, 0, 0, 0, 0, 0, 0, 0, 0, 0, 0, 0, 0, 0, 0, 0, 0, 0, 0, 0, 0, 0, 0, 0, 0, 0, 0, 0, 0, 0, 0, 0, 0, 0, 0, 0, 0, 0, 0, 0, 0, 0, 0, 0, 0, 0, 0, 0, 0, 0, 0, 0, 0, 0, 0, 0, 0, 0, 0]) (n := 256) Tryz.underlying119 Tryz.underlying5 (by kernel_rfl) (by kernel_rfl) hd0
  unfold World.var? at hv0
  rw [(show Tryz.prog.globalNamed "strings.asciiSpace" = some 0 by kernel_rfl), Option.bind_some] at hv0
  split at hv0
  · rename_i cs e z he
    refine ⟨_, he, e, z, ?_⟩
    obtain rfl := Option.some.inj hv0
    congr 1
    apply Array.ext'
    exact hc
  · cases hv0
theorem glb {W : World} (h : laidMetH Tryz.prog Rows.fnExactReadScriptRow.laid W) : GlbOk W (fun _ => False) := by
  rw [MakeChecks.laidMetH_plain _ _ _ (by kernel_rfl)] at h
  intro t ht
  simp only [globTabs, List.mem_cons, List.not_mem_nil, or_false] at ht
  rcases ht with rfl | rfl | rfl | rfl
  · exact ⟨id, glb0 h⟩
  · exact ⟨id, glb1 h⟩
  · exact ⟨id, glb2 h⟩
  · exact ⟨id, glb3 h⟩
set_option maxRecDepth 100000 in
theorem lifted (os : Os) (started : os.Started) (H : Type) (enc : TypeId × Value → H) :
    ReturnsInHanded {} Tryz.checked os 3 .any (fun w args => (Rows.fnExactReadScriptSpec.pre enc Tryz.prog Tryz.f3 [] false w args ∧ laidMetH Tryz.prog Rows.fnExactReadScriptRow.laid w) ∧ sizedMet enc Tryz.prog Tryz.f3 (OpenSpec.ofChange Rows.fnExactReadScriptSpec) false w args) (Rows.fnExactReadScriptSpec.post enc Tryz.prog Tryz.f3 false true false false) := by
  refine returnsInHanded_of_change_and (C := Tryz.checked) (X := fun w _ => laidMetH Tryz.prog Rows.fnExactReadScriptRow.laid w) (fun _ _ _ hh h => h.of_heap hh) own started (by kernel_rfl) Tryz.func3
    (ChangeSpec.witness_shaped (enc := enc) (C := Tryz.checked) (os := os) (X := fun w _ => laidMetH Tryz.prog Rows.fnExactReadScriptRow.laid w) false (World.laidAll Tryz.prog os Rows.fnExactReadScriptRow.laid) #[.string ByteArray.empty] 8 (World.laidAll_os _ _ _) (World.shaped_of_ZipB (by kernel_rfl) (by kernel_rfl)) (by kernel_rfl) (by kernel_rfl) (by kernel_rfl) (door_met os _)) ?_
  intro W base args ds gs before hval0 hW hcnd hsz0 hL _
  have hval : ∀ (j : Nat) t v, Tryz.f3.params[j]? = some t → args[j]? = some v → Value.okWide Tryz.prog W .any base t v := hval0
  have hW' := hW
  obtain ⟨p, q, hA0, hV, rfl, hfz, hnd⟩ := hW
  have hA : DataW.TrodAll enc Tryz.prog W 0 (fun _ => true) true Tryz.f3.params.toList args.toList ds p := hA0
  rw [Tryz.params3] at hA hval
  obtain ⟨v0, vs0, d0, ds0, p0, q0, hargs, rfl, rfl, h0, r0⟩ := trodAll_cons hA
  obtain ⟨rfl, rfl, rfl⟩ := trodAll_nil r0
  obtain rfl : args = #[v0] := by cases args; simp_all
  obtain ⟨rfl, rfl⟩ := trodVars_none hV
  obtain ⟨x0, rfl, rfl, rfl, hw0⟩ := Go.ChangeMaps.open_string Tryz.underlying9 (hval 0 9 v0 rfl rfl) h0
  clear hA0 hval0 hsz0
  obtain ⟨N, hN⟩ := holds x0 hw0
  refine (law_calls (sem_laws_FnExactReadScript N x0 _ hN) (glb hL) (w := W) (args := #[_]) (by simp only [VsRel]; exact ⟨_, _, rfl, (by simp only [VRel]; exact .s _), rfl⟩)).mono fun e W' ⟨he, bel⟩ => ?_
  subst he
  exact ⟨_, rfl, _, _, _, [], _, [], hW', trodAll_mk1 (shut_bool Tryz.underlying4 _), (trodAll_cons_mk (Go.ChangeMaps.shut_string Tryz.underlying9 hw0) trodAll_mk0), rfl, bel.frame _, fun h => by cases h⟩
theorem over : Rows.fnExactReadScriptRow.holds Tryz.pinned (OpenSpec.ofChange Rows.fnExactReadScriptSpec) :=
  OpenClaim.holds_of_wide 3 Tryz.f3 rfl rfl rfl rfl rfl rfl rfl ⟨rfl, rfl, rfl, rfl, rfl⟩ rfl rfl rfl rfl rfl (by kernel_rfl) Tryz.func3 (by kernel_rfl)
    (of_decide_eq_true (by kernel_rfl)) (by unfold Func.isWrapper; first | (rw [if_pos (by decide +kernel)]; kernel_rfl) | (rw [if_neg (by decide +kernel)]; exact ⟨rfl, rfl⟩))
    (fun os started H enc _ => lifted os started H enc)
theorem card_holds : Rows.FnExactReadScriptCardSaid :=
  Claim7.holds_tied_plain_at .later [] [.data, .data, .data, .data, .sentinel, .sentinel, .listed, .data, .pinned] true (true, "af55ab42d926e68aa9038cf75c2f9fead5f5a054bca19c3dd718abdaf0f49232") true
    over (fun _ h => by cases h) (by kernel_rfl) (fun _ h => by cases h) fnExactReadScript_row_tie rfl ⟨rfl, rfl⟩ (by kernel_rfl) rfl
    (fun f fn hf hfn => by
      obtain rfl : f = 3 := Option.some.inj ((show Tryz.prog.funcNamed "loop.example/g00103/laws.FnExactReadScript" = some 3 by kernel_rfl).symm.trans hf) |>.symm
      obtain rfl : fn = Tryz.f3 := (Option.some.inj (Tryz.func3.symm.trans hfn)).symm
      exact ⟨by kernel_rfl, fun j t ht => by
        rw [Tryz.params3] at ht
        have hm : t ∈ [9] := by simpa using Array.mem_of_getElem? ht
        have hall : ([9].all fun u => !Tryz.prog.wantsStandIn u) = true := by kernel_rfl
        exact (show Tryz.prog.wantsStandIn t = false by simpa using List.all_eq_true.1 hall t hm)⟩)
    (by kernel_rfl)
#print axioms card_holds
end Go.Proofs.YtmnoonjkiflonaaGreatDoor.fnExactReadScript
namespace Go.Proofs.YtmnoonjkiflonaaGreatDoor
/-- The card, under a short name, for the claim. -/
theorem fnExactReadScript_holds : Rows.FnExactReadScriptCardSaid := fnExactReadScript.card_holds
end Go.Proofs.YtmnoonjkiflonaaGreatDoor
