/- The law FnExactShowWorld holds: whatever it is called with, it answers true, and its arguments read as they did. No condition. -/
import Derived.Test.YtedoifjaobebeaaGreatDoorRows
import Derived.Test.YtedoifjaobebeaaGreatDoorPeArg
import Derived.Test.YtedoifjaobebeaaGreatDoorPureFnExactShowWorld
import Derived.WalkKit
import Derived.ProofKit
import Derived.OpenShut
import Derived.ShutString
import Derived.ChangeOld
import Derived.Below
import Derived.SizedLaws
import Derived.LaidMore
import Derived.Stop.Joined
import Derived.MakeChecks
import Derived.Lib.LaidTab
import Derived.SevenTiedAt
import Derived.ChangeVars
import Derived.Test.YtedoifjaobebeaaGreatDoorTie
import Derived.Test.YtedoifjaobebeaaGreatDoorCards
namespace Go.Proofs.YtedoifjaobebeaaGreatDoor.fnExactShowWorld
open Go Go.ChangeShapes Go.WideShapes Go.ChangeAt Go.RowKit Go.Proofs.YtedoifjaobebeaaGreatDoor.Pe Go.Proofs.YtedoifjaobebeaaGreatDoor.Pe.FnExactShowWorld
set_option linter.unusedVariables false
theorem own : ownKnob Tryz.prog.godebug = none := by kernel_rfl
theorem laidOut : laidOutB Tryz.prog = true := by kernel_rfl
theorem o4 : Opn Tryz.prog 4 (fun x => [.b x]) (fun x => True) := opn_bool Tryz.underlying4
theorem o22 : Opn Tryz.prog 22 (fun xs : (List Bool) => [.row false 4 (xs.map encB)]) (fun xs => xs.length ≤ maxLen ∧ ∀ y ∈ xs, True) := opn_slice Tryz.underlying22 (of_decide_eq_true (by kernel_rfl)) o4
theorem o3 : Opn Tryz.prog 3 (fun x => [.i .i64 x]) (fun x => WI .i64 x) := opn_int Tryz.underlying3
theorem o72 : Opn Tryz.prog 72 (fun xs : (List Int) => [.row false 3 (xs.map encI)]) (fun xs => xs.length ≤ maxLen ∧ ∀ y ∈ xs, WI .i64 y) := opn_slice Tryz.underlying72 (of_decide_eq_true (by kernel_rfl)) o3
theorem o9 : Opn Tryz.prog 9 (fun x => [.s x]) (fun x => x.size ≤ maxLen) := opn_string Tryz.underlying9
set_option maxRecDepth 100000 in
theorem o97 : Opn Tryz.prog 97 (fun x => encEntry x) wfEntry := opn_struct (l := [_, _, _]) Tryz.underlying97 rfl (by kernel_rfl) (opnF_cons (z := 1) rfl (by kernel_rfl) o3 (opnF_cons (z := 1) rfl (by kernel_rfl) o3 (opnF_one (z := 1) rfl (by kernel_rfl) o9))) (fun x => Go.Proofs.YtedoifjaobebeaaGreatDoor.Pe.FnExactShowWorld.Entry.mk x.1 x.2.1 x.2.2) (fun _ => rfl) (fun _ h => h)
theorem o73 : Opn Tryz.prog 73 (fun xs : (List Entry) => [.row false 97 (xs.map encEntry)]) (fun xs => xs.length ≤ maxLen ∧ ∀ y ∈ xs, wfEntry y) := opn_slice Tryz.underlying73 (of_decide_eq_true (by kernel_rfl)) o97
set_option maxRecDepth 100000 in
theorem o75 : Opn Tryz.prog 75 (fun x => encLogL false x) wfLog := opn_struct (l := [_, _, _]) Tryz.underlying75 rfl (by kernel_rfl) (opnF_cons (z := 1) rfl (by kernel_rfl) o3 (opnF_cons (z := 1) rfl (by kernel_rfl) o3 (opnF_one (z := 1) rfl (by kernel_rfl) o73))) (fun x => Go.Proofs.YtedoifjaobebeaaGreatDoor.Pe.FnExactShowWorld.Log.mk x.1 x.2.1 x.2.2) (fun _ => rfl) (fun _ h => h)
set_option maxRecDepth 100000 in
theorem o188 : Opn Tryz.prog 188 (fun x => encPeer x) wfPeer := opn_struct (l := [_, _, _, _]) Tryz.underlying188 rfl (by kernel_rfl) (opnF_cons (z := 1) rfl (by kernel_rfl) o3 (opnF_cons (z := 1) rfl (by kernel_rfl) o3 (opnF_cons (z := 1) rfl (by kernel_rfl) o3 (opnF_one (z := 1) rfl (by kernel_rfl) o3)))) (fun x => Go.Proofs.YtedoifjaobebeaaGreatDoor.Pe.FnExactShowWorld.Peer.mk x.1 x.2.1 x.2.2.1 x.2.2.2) (fun _ => rfl) (fun _ h => h)
theorem o76 : Opn Tryz.prog 76 (fun xs : (List Peer) => [.row false 188 (xs.map encPeer)]) (fun xs => xs.length ≤ maxLen ∧ ∀ y ∈ xs, wfPeer y) := opn_slice Tryz.underlying76 (of_decide_eq_true (by kernel_rfl)) o188
set_option maxRecDepth 100000 in
theorem o78 : Opn Tryz.prog 78 (fun x => encNodeL false x) wfNode := opn_struct (l := [_, _, _, _, _, _, _, _, _, _, _, _]) Tryz.underlying78 rfl (by kernel_rfl) (opnF_cons (z := 1) rfl (by kernel_rfl) o3 (opnF_cons (z := 1) rfl (by kernel_rfl) o3 (opnF_cons (z := 1) rfl (by kernel_rfl) o3 (opnF_cons (z := 1) rfl (by kernel_rfl) o3 (opnF_cons (z := 1) rfl (by kernel_rfl) o3 (opnF_cons (z := 1) rfl (by kernel_rfl) o72 (opnF_cons (z := 3) rfl (by kernel_rfl) o75 (opnF_cons (z := 1) rfl (by kernel_rfl) o3 (opnF_cons (z := 1) rfl (by kernel_rfl) o3 (opnF_cons (z := 1) rfl (by kernel_rfl) o3 (opnF_cons (z := 1) rfl (by kernel_rfl) o72 (opnF_one (z := 1) rfl (by kernel_rfl) o76)))))))))))) (fun x => Go.Proofs.YtedoifjaobebeaaGreatDoor.Pe.FnExactShowWorld.Node.mk x.1 x.2.1 x.2.2.1 x.2.2.2.1 x.2.2.2.2.1 x.2.2.2.2.2.1 x.2.2.2.2.2.2.1 x.2.2.2.2.2.2.2.1 x.2.2.2.2.2.2.2.2.1 x.2.2.2.2.2.2.2.2.2.1 x.2.2.2.2.2.2.2.2.2.2.1 x.2.2.2.2.2.2.2.2.2.2.2) (fun _ => rfl) (fun _ h => h)
set_option maxRecDepth 100000 in
theorem o181 : Opn Tryz.prog 181 (fun x => encFile x) wfFile := opn_struct (l := [_, _]) Tryz.underlying181 rfl (by kernel_rfl) (opnF_cons (z := 1) rfl (by kernel_rfl) o9 (opnF_one (z := 1) rfl (by kernel_rfl) o9)) (fun x => Go.Proofs.YtedoifjaobebeaaGreatDoor.Pe.FnExactShowWorld.File.mk x.1 x.2) (fun _ => rfl) (fun _ h => h)
theorem o79 : Opn Tryz.prog 79 (fun xs : (List File) => [.row false 181 (xs.map encFile)]) (fun xs => xs.length ≤ maxLen ∧ ∀ y ∈ xs, wfFile y) := opn_slice Tryz.underlying79 (of_decide_eq_true (by kernel_rfl)) o181
set_option maxRecDepth 100000 in
theorem o81 : Opn Tryz.prog 81 (fun x => encDiskL false x) wfDisk := opn_struct (l := [_]) Tryz.underlying81 rfl (by kernel_rfl) (opnF_one (z := 1) rfl (by kernel_rfl) o79) (fun x => Go.Proofs.YtedoifjaobebeaaGreatDoor.Pe.FnExactShowWorld.Disk.mk x) (fun _ => rfl) (fun _ h => h)
set_option maxRecDepth 100000 in
theorem o83 : Opn Tryz.prog 83 (fun x => encManifestL false x) wfManifest := opn_struct (l := [_, _, _, _, _]) Tryz.underlying83 rfl (by kernel_rfl) (opnF_cons (z := 1) rfl (by kernel_rfl) o72 (opnF_cons (z := 1) rfl (by kernel_rfl) o3 (opnF_cons (z := 1) rfl (by kernel_rfl) o3 (opnF_cons (z := 1) rfl (by kernel_rfl) o3 (opnF_one (z := 1) rfl (by kernel_rfl) o72))))) (fun x => Go.Proofs.YtedoifjaobebeaaGreatDoor.Pe.FnExactShowWorld.Manifest.mk x.1 x.2.1 x.2.2.1 x.2.2.2.1 x.2.2.2.2) (fun _ => rfl) (fun _ h => h)
set_option maxRecDepth 100000 in
theorem o184 : Opn Tryz.prog 184 (fun x => encSpot x) wfSpot := opn_struct (l := [_, _, _, _]) Tryz.underlying184 rfl (by kernel_rfl) (opnF_cons (z := 1) rfl (by kernel_rfl) o9 (opnF_cons (z := 1) rfl (by kernel_rfl) o3 (opnF_cons (z := 1) rfl (by kernel_rfl) o3 (opnF_one (z := 1) rfl (by kernel_rfl) o3)))) (fun x => Go.Proofs.YtedoifjaobebeaaGreatDoor.Pe.FnExactShowWorld.Spot.mk x.1 x.2.1 x.2.2.1 x.2.2.2) (fun _ => rfl) (fun _ h => h)
theorem o84 : Opn Tryz.prog 84 (fun xs : (List Spot) => [.row false 184 (xs.map encSpot)]) (fun xs => xs.length ≤ maxLen ∧ ∀ y ∈ xs, wfSpot y) := opn_slice Tryz.underlying84 (of_decide_eq_true (by kernel_rfl)) o184
set_option maxRecDepth 100000 in
theorem o86 : Opn Tryz.prog 86 (fun x => encShelfL false x) wfShelf := opn_struct (l := [_, _, _]) Tryz.underlying86 rfl (by kernel_rfl) (opnF_cons (z := 5) rfl (by kernel_rfl) o83 (opnF_cons (z := 1) rfl (by kernel_rfl) o84 (opnF_one (z := 1) rfl (by kernel_rfl) o3))) (fun x => Go.Proofs.YtedoifjaobebeaaGreatDoor.Pe.FnExactShowWorld.Shelf.mk x.1 x.2.1 x.2.2) (fun _ => rfl) (fun _ h => h)
set_option maxRecDepth 100000 in
theorem o88 : Opn Tryz.prog 88 (fun x => encServerL false x) wfServer := opn_struct (l := [_, _, _, _, _, _]) Tryz.underlying88 rfl (by kernel_rfl) (opnF_cons (z := 14) rfl (by kernel_rfl) o78 (opnF_cons (z := 1) rfl (by kernel_rfl) o81 (opnF_cons (z := 7) rfl (by kernel_rfl) o86 (opnF_cons (z := 1) rfl (by kernel_rfl) o9 (opnF_cons (z := 1) rfl (by kernel_rfl) o3 (opnF_one (z := 1) rfl (by kernel_rfl) o3)))))) (fun x => Go.Proofs.YtedoifjaobebeaaGreatDoor.Pe.FnExactShowWorld.Server.mk x.1 x.2.1 x.2.2.1 x.2.2.2.1 x.2.2.2.2.1 x.2.2.2.2.2) (fun _ => rfl) (fun _ h => h)
theorem o23 : Opn Tryz.prog 23 (fun xs : (List Server) => [.row false 88 (xs.map (encServerL false))]) (fun xs => xs.length ≤ maxLen ∧ ∀ y ∈ xs, wfServer y) := opn_slice Tryz.underlying23 (of_decide_eq_true (by kernel_rfl)) o88
set_option maxRecDepth 100000 in
theorem o91 : Opn Tryz.prog 91 (fun x => encMessageL false x) wfMessage := opn_struct (l := [_, _, _, _, _, _, _, _, _, _, _, _]) Tryz.underlying91 rfl (by kernel_rfl) (opnF_cons (z := 1) rfl (by kernel_rfl) o3 (opnF_cons (z := 1) rfl (by kernel_rfl) o3 (opnF_cons (z := 1) rfl (by kernel_rfl) o3 (opnF_cons (z := 1) rfl (by kernel_rfl) o3 (opnF_cons (z := 1) rfl (by kernel_rfl) o3 (opnF_cons (z := 1) rfl (by kernel_rfl) o3 (opnF_cons (z := 1) rfl (by kernel_rfl) o3 (opnF_cons (z := 1) rfl (by kernel_rfl) o4 (opnF_cons (z := 1) rfl (by kernel_rfl) o73 (opnF_cons (z := 1) rfl (by kernel_rfl) o72 (opnF_cons (z := 1) rfl (by kernel_rfl) o9 (opnF_one (z := 1) rfl (by kernel_rfl) o4)))))))))))) (fun x => Go.Proofs.YtedoifjaobebeaaGreatDoor.Pe.FnExactShowWorld.Message.mk x.1 x.2.1 x.2.2.1 x.2.2.2.1 x.2.2.2.2.1 x.2.2.2.2.2.1 x.2.2.2.2.2.2.1 x.2.2.2.2.2.2.2.1 x.2.2.2.2.2.2.2.2.1 x.2.2.2.2.2.2.2.2.2.1 x.2.2.2.2.2.2.2.2.2.2.1 x.2.2.2.2.2.2.2.2.2.2.2) (fun _ => rfl) (fun _ h => h)
theorem o24 : Opn Tryz.prog 24 (fun xs : (List Message) => [.row false 91 (xs.map (encMessageL false))]) (fun xs => xs.length ≤ maxLen ∧ ∀ y ∈ xs, wfMessage y) := opn_slice Tryz.underlying24 (of_decide_eq_true (by kernel_rfl)) o91
set_option maxRecDepth 100000 in
theorem o127 : Opn Tryz.prog 127 (fun x => encWait x) wfWait := opn_struct (l := [_, _, _, _]) Tryz.underlying127 rfl (by kernel_rfl) (opnF_cons (z := 1) rfl (by kernel_rfl) o3 (opnF_cons (z := 1) rfl (by kernel_rfl) o3 (opnF_cons (z := 1) rfl (by kernel_rfl) o3 (opnF_one (z := 1) rfl (by kernel_rfl) o3)))) (fun x => Go.Proofs.YtedoifjaobebeaaGreatDoor.Pe.FnExactShowWorld.Wait.mk x.1 x.2.1 x.2.2.1 x.2.2.2) (fun _ => rfl) (fun _ h => h)
theorem o25 : Opn Tryz.prog 25 (fun xs : (List Wait) => [.row false 127 (xs.map encWait)]) (fun xs => xs.length ≤ maxLen ∧ ∀ y ∈ xs, wfWait y) := opn_slice Tryz.underlying25 (of_decide_eq_true (by kernel_rfl)) o127
set_option maxRecDepth 100000 in
theorem o94 : Opn Tryz.prog 94 (fun x => encLeaderL false x) wfLeader := opn_struct (l := [_, _, _]) Tryz.underlying94 rfl (by kernel_rfl) (opnF_cons (z := 1) rfl (by kernel_rfl) o3 (opnF_cons (z := 1) rfl (by kernel_rfl) o3 (opnF_one (z := 3) rfl (by kernel_rfl) o75))) (fun x => Go.Proofs.YtedoifjaobebeaaGreatDoor.Pe.FnExactShowWorld.Leader.mk x.1 x.2.1 x.2.2) (fun _ => rfl) (fun _ h => h)
theorem o26 : Opn Tryz.prog 26 (fun xs : (List Leader) => [.row false 94 (xs.map (encLeaderL false))]) (fun xs => xs.length ≤ maxLen ∧ ∀ y ∈ xs, wfLeader y) := opn_slice Tryz.underlying26 (of_decide_eq_true (by kernel_rfl)) o94
set_option maxRecDepth 100000 in
theorem o99 : Opn Tryz.prog 99 (fun x => encApplied x) wfApplied := opn_struct (l := [_, _, _, _]) Tryz.underlying99 rfl (by kernel_rfl) (opnF_cons (z := 1) rfl (by kernel_rfl) o3 (opnF_cons (z := 1) rfl (by kernel_rfl) o3 (opnF_cons (z := 1) rfl (by kernel_rfl) o3 (opnF_one (z := 3) rfl (by kernel_rfl) o97)))) (fun x => Go.Proofs.YtedoifjaobebeaaGreatDoor.Pe.FnExactShowWorld.Applied.mk x.1 x.2.1 x.2.2.1 x.2.2.2) (fun _ => rfl) (fun _ h => h)
theorem o27 : Opn Tryz.prog 27 (fun xs : (List Applied) => [.row false 99 (xs.map encApplied)]) (fun xs => xs.length ≤ maxLen ∧ ∀ y ∈ xs, wfApplied y) := opn_slice Tryz.underlying27 (of_decide_eq_true (by kernel_rfl)) o99
set_option maxRecDepth 100000 in
theorem o101 : Opn Tryz.prog 101 (fun x => encCommand x) wfCommand := opn_struct (l := [_, _, _, _, _, _]) Tryz.underlying101 rfl (by kernel_rfl) (opnF_cons (z := 1) rfl (by kernel_rfl) o3 (opnF_cons (z := 1) rfl (by kernel_rfl) o3 (opnF_cons (z := 1) rfl (by kernel_rfl) o3 (opnF_cons (z := 1) rfl (by kernel_rfl) o9 (opnF_cons (z := 1) rfl (by kernel_rfl) o9 (opnF_one (z := 1) rfl (by kernel_rfl) o9)))))) (fun x => Go.Proofs.YtedoifjaobebeaaGreatDoor.Pe.FnExactShowWorld.Command.mk x.1 x.2.1 x.2.2.1 x.2.2.2.1 x.2.2.2.2.1 x.2.2.2.2.2) (fun _ => rfl) (fun _ h => h)
set_option maxRecDepth 100000 in
theorem o103 : Opn Tryz.prog 103 (fun x => encReply x) wfReply := opn_struct (l := [_, _, _, _]) Tryz.underlying103 rfl (by kernel_rfl) (opnF_cons (z := 1) rfl (by kernel_rfl) o3 (opnF_cons (z := 1) rfl (by kernel_rfl) o3 (opnF_cons (z := 6) rfl (by kernel_rfl) o101 (opnF_one (z := 1) rfl (by kernel_rfl) o9)))) (fun x => Go.Proofs.YtedoifjaobebeaaGreatDoor.Pe.FnExactShowWorld.Reply.mk x.1 x.2.1 x.2.2.1 x.2.2.2) (fun _ => rfl) (fun _ h => h)
theorem o28 : Opn Tryz.prog 28 (fun xs : (List Reply) => [.row false 103 (xs.map encReply)]) (fun xs => xs.length ≤ maxLen ∧ ∀ y ∈ xs, wfReply y) := opn_slice Tryz.underlying28 (of_decide_eq_true (by kernel_rfl)) o103
set_option maxRecDepth 100000 in
theorem o30 : Opn Tryz.prog 30 (fun x => encWorldL false x) wfWorld := opn_struct (l := [_, _, _, _, _, _, _]) Tryz.underlying30 rfl (by kernel_rfl) (opnF_cons (z := 1) rfl (by kernel_rfl) o22 (opnF_cons (z := 1) rfl (by kernel_rfl) o23 (opnF_cons (z := 1) rfl (by kernel_rfl) o24 (opnF_cons (z := 1) rfl (by kernel_rfl) o25 (opnF_cons (z := 1) rfl (by kernel_rfl) o26 (opnF_cons (z := 1) rfl (by kernel_rfl) o27 (opnF_one (z := 1) rfl (by kernel_rfl) o28))))))) (fun x => Go.Proofs.YtedoifjaobebeaaGreatDoor.Pe.FnExactShowWorld.World.mk x.1 x.2.1 x.2.2.1 x.2.2.2.1 x.2.2.2.2.1 x.2.2.2.2.2.1 x.2.2.2.2.2.2) (fun _ => rfl) (fun _ h => h)
theorem door_met (os : Os) (args : Array Value) : laidMetH Tryz.prog Rows.fnExactShowWorldRow.laid ((World.doorLaid Tryz.prog 4000 os).forCall (fun _ _ => 0) ⟨#[], args, []⟩).memory :=
  laidMetH_of_parts3 (fuel := 8) (laidMet_of_run' 8 (by kernel_rfl) (by kernel_rfl)) (by kernel_rfl) (by kernel_rfl)
theorem glb {W : World} (h : laidMetH Tryz.prog Rows.fnExactShowWorldRow.laid W) : GlbOk W (fun _ => False) := by
  rw [MakeChecks.laidMetH_plain _ _ _ (by kernel_rfl)] at h
  obtain ⟨ps, ⟨g0, t0, cs0, f0, p0, q0, hg0, ht0, hv0, hd0, ⟨g1, t1, cs1, f1, p1, q1, hg1, ht1, hv1, hd1, ⟨g2, t2, cs2, f2, p2, q2, hg2, ht2, hv2, hd2, _, _⟩, _⟩, _⟩, _⟩ := h
  obtain rfl := Option.some.inj ((show Tryz.prog.globalNamed "internal/strconv.uint64pow10" = some 0 by kernel_rfl).symm.trans hg2)
  obtain rfl := Option.some.inj ((show (Tryz.prog.globals[0]?).map (·.type) = some 204 by kernel_rfl).symm.trans ht2)
  have hc := Lib.cells_of_tab (k := .u64) (zs := [1, 10, 100, 1000, 10000, 100000, 1000000, 10000000, 100000000, 1000000000, 10000000000, 100000000000, 1000000000000, 10000000000000, 100000000000000, 1000000000000000, 10000000000000000, 100000000000000000, 1000000000000000000, 10000000000000000000]) (n := 20) Tryz.underlying204 Tryz.underlying194 (by kernel_rfl) (by kernel_rfl) hd2
  intro t ht
  simp only [globTabs, List.mem_singleton] at ht
  subst ht
  refine ⟨id, ?_⟩
  unfold World.var? at hv2
  rw [show Tryz.prog.globalNamed "internal/strconv.uint64pow10" = some 0 by kernel_rfl, Option.bind_some] at hv2
  split at hv2
  · rename_i cs e z he
    refine ⟨_, he, e, z, ?_⟩
    obtain rfl := Option.some.inj hv2
    congr 1
    apply Array.ext'
    exact hc
  · cases hv2
set_option maxRecDepth 100000 in
theorem lifted (os : Os) (started : os.Started) (H : Type) (enc : TypeId × Value → H) :
    ReturnsInHanded {} Tryz.checked os 3 .any (fun w args => (Rows.fnExactShowWorldSpec.pre enc Tryz.prog Tryz.f3 [] false w args ∧ laidMetH Tryz.prog Rows.fnExactShowWorldRow.laid w) ∧ sizedMet enc Tryz.prog Tryz.f3 (OpenSpec.ofChange Rows.fnExactShowWorldSpec) false w args) (Rows.fnExactShowWorldSpec.post enc Tryz.prog Tryz.f3 false true false false) := by
  refine returnsInHanded_of_change_and (C := Tryz.checked) (X := fun w _ => laidMetH Tryz.prog Rows.fnExactShowWorldRow.laid w) (fun _ _ _ hh h => h.of_heap hh) own started (by kernel_rfl) Tryz.func3
    (ChangeSpec.witness_shaped (enc := enc) (C := Tryz.checked) (os := os) (X := fun w _ => laidMetH Tryz.prog Rows.fnExactShowWorldRow.laid w) false (World.doorLaid Tryz.prog 4000 os) #[.agg #[.slice none 0 0, .slice none 0 0, .slice none 0 0, .slice none 0 0, .slice none 0 0, .slice none 0 0, .slice none 0 0]] 8 rfl (World.shaped_of_RefB (by kernel_rfl) (by kernel_rfl)) (by kernel_rfl) (by kernel_rfl) (by kernel_rfl) (door_met os _)) ?_
  intro W base args ds gs before hval0 hW hcnd hsz0 hL _
  have hval : ∀ (j : Nat) t v, Tryz.f3.params[j]? = some t → args[j]? = some v → Value.okWide Tryz.prog W .any base t v := hval0
  have hW' := hW
  obtain ⟨p, q, hA0, hV, rfl, hfz, hnd⟩ := hW
  have hA : DataW.TrodAll enc Tryz.prog W 0 (fun _ => true) true Tryz.f3.params.toList args.toList ds p := hA0
  rw [Tryz.params3] at hA hval
  obtain ⟨v0, vs0, d0, ds0, p0, q0, hargs, rfl, rfl, h0, r0⟩ := trodAll_cons hA
  obtain ⟨rfl, rfl, rfl⟩ := trodAll_nil r0
  obtain rfl : args = #[v0] := by cases args; simp_all
  obtain ⟨rfl, rfl⟩ := trodVars_none hV
  have k0 := h0
  have lt0 : ∀ x ∈ p0, x.block < W.heap.size := by obtain ⟨m, hm⟩ := k0; exact DataW.trod_lt m _ _ _ hm
  obtain ⟨x0, hK0, hw0⟩ := opn_arg o30 h0
  obtain ⟨cs0, rfl, _⟩ := okWide_struct Tryz.underlying30 (hval 0 30 v0 rfl rfl)
  clear hA0 hval0 hsz0
  obtain ⟨N, hN⟩ := holds x0 hw0
  refine (law_calls (sem_laws_FnExactShowWorld N x0 _ hN) (glb hL) (w := W) (args := #[_]) (by simp only [VsRel]; exact ⟨_, _, rfl, arg_agg hK0 rfl, rfl⟩)).mono fun e W' ⟨he, bel⟩ => ?_
  subst he
  exact ⟨_, rfl, _, _, _, [], _, [], hW', trodAll_mk1 (shut_bool Tryz.underlying4 _), (trodAll_cons_mk (Below.trod laidOut (by kernel_rfl) (of_decide_eq_true (by kernel_rfl)) k0 bel lt0) trodAll_mk0), rfl, bel.frame _, fun h => by cases h⟩
theorem over : Rows.fnExactShowWorldRow.holds Tryz.pinned (OpenSpec.ofChange Rows.fnExactShowWorldSpec) :=
  OpenClaim.holds_of_wide 3 Tryz.f3 rfl rfl rfl rfl rfl rfl rfl ⟨rfl, rfl, rfl, rfl, rfl⟩ rfl rfl rfl rfl rfl (by kernel_rfl) Tryz.func3 (by kernel_rfl)
    (of_decide_eq_true (by kernel_rfl)) (by unfold Func.isWrapper; first | (rw [if_pos (by decide +kernel)]; kernel_rfl) | (rw [if_neg (by decide +kernel)]; exact ⟨rfl, rfl⟩))
    (fun os started H enc _ => lifted os started H enc)
theorem card_holds : Rows.FnExactShowWorldCardSaid :=
  Claim7.holds_tied_plain_at .later [] [.data, .data, .data] true (true, "c61dddf885114307dcef6052dde3919231e73e318261fdb723cfb2b8555bbc76") false
    over (fun _ h => by cases h) (by kernel_rfl) (fun _ h => by cases h) fnExactShowWorld_row_tie rfl ⟨rfl, rfl⟩ (by kernel_rfl) rfl
    (fun f fn hf hfn => by
      obtain rfl : f = 3 := Option.some.inj ((show Tryz.prog.funcNamed "loop.example/g00103/laws.FnExactShowWorld" = some 3 by kernel_rfl).symm.trans hf) |>.symm
      obtain rfl : fn = Tryz.f3 := (Option.some.inj (Tryz.func3.symm.trans hfn)).symm
      exact ⟨by kernel_rfl, fun j t ht => by
        rw [Tryz.params3] at ht
        have hm : t ∈ [30] := by simpa using Array.mem_of_getElem? ht
        have hall : ([30].all fun u => !Tryz.prog.wantsStandIn u) = true := by kernel_rfl
        exact (show Tryz.prog.wantsStandIn t = false by simpa using List.all_eq_true.1 hall t hm)⟩)
    (by kernel_rfl)
#print axioms card_holds
end Go.Proofs.YtedoifjaobebeaaGreatDoor.fnExactShowWorld
namespace Go.Proofs.YtedoifjaobebeaaGreatDoor
/-- The card, under a short name, for the claim. -/
theorem fnExactShowWorld_holds : Rows.FnExactShowWorldCardSaid := fnExactShowWorld.card_holds
end Go.Proofs.YtedoifjaobebeaaGreatDoor
