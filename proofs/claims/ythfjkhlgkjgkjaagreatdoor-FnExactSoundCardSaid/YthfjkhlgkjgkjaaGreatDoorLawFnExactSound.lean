/- The law FnExactSound holds: whatever it is called with, it answers true, and its arguments read as they did. No condition. -/
import Derived.Test.YthfjkhlgkjgkjaaGreatDoorRows
import Derived.Test.YthfjkhlgkjgkjaaGreatDoorPeArg
import Derived.Test.YthfjkhlgkjgkjaaGreatDoorPureFnExactSound
import Derived.WalkKit
import Derived.ProofKit
import Derived.OpenShut
import Derived.ShutString
import Derived.ChangeOld
import Derived.Below
import Derived.SizedLaws
import Derived.LaidMore
import Derived.Lay
import Derived.Stop.Joined
import Derived.Stop.LaidErr
import Derived.MakeChecks
import Derived.Lib.LaidTab
import Derived.SevenTiedAt
import Derived.ChangeVars
import Derived.Test.YthfjkhlgkjgkjaaGreatDoorTie
import Derived.Test.YthfjkhlgkjgkjaaGreatDoorCards
namespace Go.Proofs.YthfjkhlgkjgkjaaGreatDoor.fnExactSound
open Go Go.ChangeShapes Go.WideShapes Go.ChangeAt Go.RowKit Go.Proofs.YthfjkhlgkjgkjaaGreatDoor.Pe Go.Proofs.YthfjkhlgkjgkjaaGreatDoor.Pe.FnExactSound
set_option linter.unusedVariables false
theorem own : ownKnob Tryz.prog.godebug = none := by kernel_rfl
theorem laidOut : laidOutB Tryz.prog = true := by kernel_rfl
theorem o4 : Opn Tryz.prog 4 (fun x => [.b x]) (fun x => True) := opn_bool Tryz.underlying4
theorem o22 : Opn Tryz.prog 22 (fun xs : (List Bool) => [.row false 4 (xs.map encB)]) (fun xs => xs.length ≤ maxLen ∧ ∀ y ∈ xs, True) := opn_slice Tryz.underlying22 (of_decide_eq_true (by kernel_rfl)) o4
theorem o3 : Opn Tryz.prog 3 (fun x => [.i .i64 x]) (fun x => WI .i64 x) := opn_int Tryz.underlying3
theorem o54 : Opn Tryz.prog 54 (fun xs : (List Int) => [.row false 3 (xs.map encI)]) (fun xs => xs.length ≤ maxLen ∧ ∀ y ∈ xs, WI .i64 y) := opn_slice Tryz.underlying54 (of_decide_eq_true (by kernel_rfl)) o3
theorem o9 : Opn Tryz.prog 9 (fun x => [.s x]) (fun x => x.size ≤ maxLen) := opn_string Tryz.underlying9
set_option maxRecDepth 100000 in
theorem o126 : Opn Tryz.prog 126 (fun x => encEntry x) wfEntry := opn_struct (l := [_, _, _]) Tryz.underlying126 rfl (by kernel_rfl) (opnF_cons (z := 1) rfl (by kernel_rfl) o3 (opnF_cons (z := 1) rfl (by kernel_rfl) o3 (opnF_one (z := 1) rfl (by kernel_rfl) o9))) (fun x => Go.Proofs.YthfjkhlgkjgkjaaGreatDoor.Pe.FnExactSound.Entry.mk x.1 x.2.1 x.2.2) (fun _ => rfl) (fun _ h => h)
theorem o104 : Opn Tryz.prog 104 (fun xs : (List Entry) => [.row false 126 (xs.map encEntry)]) (fun xs => xs.length ≤ maxLen ∧ ∀ y ∈ xs, wfEntry y) := opn_slice Tryz.underlying104 (of_decide_eq_true (by kernel_rfl)) o126
set_option maxRecDepth 100000 in
theorem o106 : Opn Tryz.prog 106 (fun x => encLogL false x) wfLog := opn_struct (l := [_, _, _]) Tryz.underlying106 rfl (by kernel_rfl) (opnF_cons (z := 1) rfl (by kernel_rfl) o3 (opnF_cons (z := 1) rfl (by kernel_rfl) o3 (opnF_one (z := 1) rfl (by kernel_rfl) o104))) (fun x => Go.Proofs.YthfjkhlgkjgkjaaGreatDoor.Pe.FnExactSound.Log.mk x.1 x.2.1 x.2.2) (fun _ => rfl) (fun _ h => h)
set_option maxRecDepth 100000 in
theorem o329 : Opn Tryz.prog 329 (fun x => encPeer x) wfPeer := opn_struct (l := [_, _, _, _]) Tryz.underlying329 rfl (by kernel_rfl) (opnF_cons (z := 1) rfl (by kernel_rfl) o3 (opnF_cons (z := 1) rfl (by kernel_rfl) o3 (opnF_cons (z := 1) rfl (by kernel_rfl) o3 (opnF_one (z := 1) rfl (by kernel_rfl) o3)))) (fun x => Go.Proofs.YthfjkhlgkjgkjaaGreatDoor.Pe.FnExactSound.Peer.mk x.1 x.2.1 x.2.2.1 x.2.2.2) (fun _ => rfl) (fun _ h => h)
theorem o107 : Opn Tryz.prog 107 (fun xs : (List Peer) => [.row false 329 (xs.map encPeer)]) (fun xs => xs.length ≤ maxLen ∧ ∀ y ∈ xs, wfPeer y) := opn_slice Tryz.underlying107 (of_decide_eq_true (by kernel_rfl)) o329
set_option maxRecDepth 100000 in
theorem o109 : Opn Tryz.prog 109 (fun x => encNodeL false x) wfNode := opn_struct (l := [_, _, _, _, _, _, _, _, _, _, _, _]) Tryz.underlying109 rfl (by kernel_rfl) (opnF_cons (z := 1) rfl (by kernel_rfl) o3 (opnF_cons (z := 1) rfl (by kernel_rfl) o3 (opnF_cons (z := 1) rfl (by kernel_rfl) o3 (opnF_cons (z := 1) rfl (by kernel_rfl) o3 (opnF_cons (z := 1) rfl (by kernel_rfl) o3 (opnF_cons (z := 1) rfl (by kernel_rfl) o54 (opnF_cons (z := 3) rfl (by kernel_rfl) o106 (opnF_cons (z := 1) rfl (by kernel_rfl) o3 (opnF_cons (z := 1) rfl (by kernel_rfl) o3 (opnF_cons (z := 1) rfl (by kernel_rfl) o3 (opnF_cons (z := 1) rfl (by kernel_rfl) o54 (opnF_one (z := 1) rfl (by kernel_rfl) o107)))))))))))) (fun x => Go.Proofs.YthfjkhlgkjgkjaaGreatDoor.Pe.FnExactSound.Node.mk x.1 x.2.1 x.2.2.1 x.2.2.2.1 x.2.2.2.2.1 x.2.2.2.2.2.1 x.2.2.2.2.2.2.1 x.2.2.2.2.2.2.2.1 x.2.2.2.2.2.2.2.2.1 x.2.2.2.2.2.2.2.2.2.1 x.2.2.2.2.2.2.2.2.2.2.1 x.2.2.2.2.2.2.2.2.2.2.2) (fun _ => rfl) (fun _ h => h)
set_option maxRecDepth 100000 in
theorem o316 : Opn Tryz.prog 316 (fun x => encFile x) wfFile := opn_struct (l := [_, _]) Tryz.underlying316 rfl (by kernel_rfl) (opnF_cons (z := 1) rfl (by kernel_rfl) o9 (opnF_one (z := 1) rfl (by kernel_rfl) o9)) (fun x => Go.Proofs.YthfjkhlgkjgkjaaGreatDoor.Pe.FnExactSound.File.mk x.1 x.2) (fun _ => rfl) (fun _ h => h)
theorem o110 : Opn Tryz.prog 110 (fun xs : (List File) => [.row false 316 (xs.map encFile)]) (fun xs => xs.length ≤ maxLen ∧ ∀ y ∈ xs, wfFile y) := opn_slice Tryz.underlying110 (of_decide_eq_true (by kernel_rfl)) o316
set_option maxRecDepth 100000 in
theorem o112 : Opn Tryz.prog 112 (fun x => encDiskL false x) wfDisk := opn_struct (l := [_]) Tryz.underlying112 rfl (by kernel_rfl) (opnF_one (z := 1) rfl (by kernel_rfl) o110) (fun x => Go.Proofs.YthfjkhlgkjgkjaaGreatDoor.Pe.FnExactSound.Disk.mk x) (fun _ => rfl) (fun _ h => h)
set_option maxRecDepth 100000 in
theorem o113 : Opn Tryz.prog 113 (fun x => encManifestL false x) wfManifest := opn_struct (l := [_, _, _, _, _]) Tryz.underlying113 rfl (by kernel_rfl) (opnF_cons (z := 1) rfl (by kernel_rfl) o54 (opnF_cons (z := 1) rfl (by kernel_rfl) o3 (opnF_cons (z := 1) rfl (by kernel_rfl) o3 (opnF_cons (z := 1) rfl (by kernel_rfl) o3 (opnF_one (z := 1) rfl (by kernel_rfl) o54))))) (fun x => Go.Proofs.YthfjkhlgkjgkjaaGreatDoor.Pe.FnExactSound.Manifest.mk x.1 x.2.1 x.2.2.1 x.2.2.2.1 x.2.2.2.2) (fun _ => rfl) (fun _ h => h)
set_option maxRecDepth 100000 in
theorem o318 : Opn Tryz.prog 318 (fun x => encSpot x) wfSpot := opn_struct (l := [_, _, _, _]) Tryz.underlying318 rfl (by kernel_rfl) (opnF_cons (z := 1) rfl (by kernel_rfl) o9 (opnF_cons (z := 1) rfl (by kernel_rfl) o3 (opnF_cons (z := 1) rfl (by kernel_rfl) o3 (opnF_one (z := 1) rfl (by kernel_rfl) o3)))) (fun x => Go.Proofs.YthfjkhlgkjgkjaaGreatDoor.Pe.FnExactSound.Spot.mk x.1 x.2.1 x.2.2.1 x.2.2.2) (fun _ => rfl) (fun _ h => h)
theorem o114 : Opn Tryz.prog 114 (fun xs : (List Spot) => [.row false 318 (xs.map encSpot)]) (fun xs => xs.length ≤ maxLen ∧ ∀ y ∈ xs, wfSpot y) := opn_slice Tryz.underlying114 (of_decide_eq_true (by kernel_rfl)) o318
set_option maxRecDepth 100000 in
theorem o116 : Opn Tryz.prog 116 (fun x => encShelfL false x) wfShelf := opn_struct (l := [_, _, _]) Tryz.underlying116 rfl (by kernel_rfl) (opnF_cons (z := 5) rfl (by kernel_rfl) o113 (opnF_cons (z := 1) rfl (by kernel_rfl) o114 (opnF_one (z := 1) rfl (by kernel_rfl) o3))) (fun x => Go.Proofs.YthfjkhlgkjgkjaaGreatDoor.Pe.FnExactSound.Shelf.mk x.1 x.2.1 x.2.2) (fun _ => rfl) (fun _ h => h)
set_option maxRecDepth 100000 in
theorem o118 : Opn Tryz.prog 118 (fun x => encServerL false x) wfServer := opn_struct (l := [_, _, _, _, _, _]) Tryz.underlying118 rfl (by kernel_rfl) (opnF_cons (z := 14) rfl (by kernel_rfl) o109 (opnF_cons (z := 1) rfl (by kernel_rfl) o112 (opnF_cons (z := 7) rfl (by kernel_rfl) o116 (opnF_cons (z := 1) rfl (by kernel_rfl) o9 (opnF_cons (z := 1) rfl (by kernel_rfl) o3 (opnF_one (z := 1) rfl (by kernel_rfl) o3)))))) (fun x => Go.Proofs.YthfjkhlgkjgkjaaGreatDoor.Pe.FnExactSound.Server.mk x.1 x.2.1 x.2.2.1 x.2.2.2.1 x.2.2.2.2.1 x.2.2.2.2.2) (fun _ => rfl) (fun _ h => h)
theorem o23 : Opn Tryz.prog 23 (fun xs : (List Server) => [.row false 118 (xs.map (encServerL false))]) (fun xs => xs.length ≤ maxLen ∧ ∀ y ∈ xs, wfServer y) := opn_slice Tryz.underlying23 (of_decide_eq_true (by kernel_rfl)) o118
set_option maxRecDepth 100000 in
theorem o121 : Opn Tryz.prog 121 (fun x => encMessageL false x) wfMessage := opn_struct (l := [_, _, _, _, _, _, _, _, _, _, _, _]) Tryz.underlying121 rfl (by kernel_rfl) (opnF_cons (z := 1) rfl (by kernel_rfl) o3 (opnF_cons (z := 1) rfl (by kernel_rfl) o3 (opnF_cons (z := 1) rfl (by kernel_rfl) o3 (opnF_cons (z := 1) rfl (by kernel_rfl) o3 (opnF_cons (z := 1) rfl (by kernel_rfl) o3 (opnF_cons (z := 1) rfl (by kernel_rfl) o3 (opnF_cons (z := 1) rfl (by kernel_rfl) o3 (opnF_cons (z := 1) rfl (by kernel_rfl) o4 (opnF_cons (z := 1) rfl (by kernel_rfl) o104 (opnF_cons (z := 1) rfl (by kernel_rfl) o54 (opnF_cons (z := 1) rfl (by kernel_rfl) o9 (opnF_one (z := 1) rfl (by kernel_rfl) o4)))))))))))) (fun x => Go.Proofs.YthfjkhlgkjgkjaaGreatDoor.Pe.FnExactSound.Message.mk x.1 x.2.1 x.2.2.1 x.2.2.2.1 x.2.2.2.2.1 x.2.2.2.2.2.1 x.2.2.2.2.2.2.1 x.2.2.2.2.2.2.2.1 x.2.2.2.2.2.2.2.2.1 x.2.2.2.2.2.2.2.2.2.1 x.2.2.2.2.2.2.2.2.2.2.1 x.2.2.2.2.2.2.2.2.2.2.2) (fun _ => rfl) (fun _ h => h)
theorem o24 : Opn Tryz.prog 24 (fun xs : (List Message) => [.row false 121 (xs.map (encMessageL false))]) (fun xs => xs.length ≤ maxLen ∧ ∀ y ∈ xs, wfMessage y) := opn_slice Tryz.underlying24 (of_decide_eq_true (by kernel_rfl)) o121
set_option maxRecDepth 100000 in
theorem o158 : Opn Tryz.prog 158 (fun x => encWait x) wfWait := opn_struct (l := [_, _, _, _]) Tryz.underlying158 rfl (by kernel_rfl) (opnF_cons (z := 1) rfl (by kernel_rfl) o3 (opnF_cons (z := 1) rfl (by kernel_rfl) o3 (opnF_cons (z := 1) rfl (by kernel_rfl) o3 (opnF_one (z := 1) rfl (by kernel_rfl) o3)))) (fun x => Go.Proofs.YthfjkhlgkjgkjaaGreatDoor.Pe.FnExactSound.Wait.mk x.1 x.2.1 x.2.2.1 x.2.2.2) (fun _ => rfl) (fun _ h => h)
theorem o25 : Opn Tryz.prog 25 (fun xs : (List Wait) => [.row false 158 (xs.map encWait)]) (fun xs => xs.length ≤ maxLen ∧ ∀ y ∈ xs, wfWait y) := opn_slice Tryz.underlying25 (of_decide_eq_true (by kernel_rfl)) o158
set_option maxRecDepth 100000 in
theorem o124 : Opn Tryz.prog 124 (fun x => encLeaderL false x) wfLeader := opn_struct (l := [_, _, _]) Tryz.underlying124 rfl (by kernel_rfl) (opnF_cons (z := 1) rfl (by kernel_rfl) o3 (opnF_cons (z := 1) rfl (by kernel_rfl) o3 (opnF_one (z := 3) rfl (by kernel_rfl) o106))) (fun x => Go.Proofs.YthfjkhlgkjgkjaaGreatDoor.Pe.FnExactSound.Leader.mk x.1 x.2.1 x.2.2) (fun _ => rfl) (fun _ h => h)
theorem o26 : Opn Tryz.prog 26 (fun xs : (List Leader) => [.row false 124 (xs.map (encLeaderL false))]) (fun xs => xs.length ≤ maxLen ∧ ∀ y ∈ xs, wfLeader y) := opn_slice Tryz.underlying26 (of_decide_eq_true (by kernel_rfl)) o124
set_option maxRecDepth 100000 in
theorem o128 : Opn Tryz.prog 128 (fun x => encApplied x) wfApplied := opn_struct (l := [_, _, _, _]) Tryz.underlying128 rfl (by kernel_rfl) (opnF_cons (z := 1) rfl (by kernel_rfl) o3 (opnF_cons (z := 1) rfl (by kernel_rfl) o3 (opnF_cons (z := 1) rfl (by kernel_rfl) o3 (opnF_one (z := 3) rfl (by kernel_rfl) o126)))) (fun x => Go.Proofs.YthfjkhlgkjgkjaaGreatDoor.Pe.FnExactSound.Applied.mk x.1 x.2.1 x.2.2.1 x.2.2.2) (fun _ => rfl) (fun _ h => h)
theorem o27 : Opn Tryz.prog 27 (fun xs : (List Applied) => [.row false 128 (xs.map encApplied)]) (fun xs => xs.length ≤ maxLen ∧ ∀ y ∈ xs, wfApplied y) := opn_slice Tryz.underlying27 (of_decide_eq_true (by kernel_rfl)) o128
set_option maxRecDepth 100000 in
theorem o131 : Opn Tryz.prog 131 (fun x => encCommand x) wfCommand := opn_struct (l := [_, _, _, _, _, _]) Tryz.underlying131 rfl (by kernel_rfl) (opnF_cons (z := 1) rfl (by kernel_rfl) o3 (opnF_cons (z := 1) rfl (by kernel_rfl) o3 (opnF_cons (z := 1) rfl (by kernel_rfl) o3 (opnF_cons (z := 1) rfl (by kernel_rfl) o9 (opnF_cons (z := 1) rfl (by kernel_rfl) o9 (opnF_one (z := 1) rfl (by kernel_rfl) o9)))))) (fun x => Go.Proofs.YthfjkhlgkjgkjaaGreatDoor.Pe.FnExactSound.Command.mk x.1 x.2.1 x.2.2.1 x.2.2.2.1 x.2.2.2.2.1 x.2.2.2.2.2) (fun _ => rfl) (fun _ h => h)
set_option maxRecDepth 100000 in
theorem o133 : Opn Tryz.prog 133 (fun x => encReply x) wfReply := opn_struct (l := [_, _, _, _]) Tryz.underlying133 rfl (by kernel_rfl) (opnF_cons (z := 1) rfl (by kernel_rfl) o3 (opnF_cons (z := 1) rfl (by kernel_rfl) o3 (opnF_cons (z := 6) rfl (by kernel_rfl) o131 (opnF_one (z := 1) rfl (by kernel_rfl) o9)))) (fun x => Go.Proofs.YthfjkhlgkjgkjaaGreatDoor.Pe.FnExactSound.Reply.mk x.1 x.2.1 x.2.2.1 x.2.2.2) (fun _ => rfl) (fun _ h => h)
theorem o28 : Opn Tryz.prog 28 (fun xs : (List Reply) => [.row false 133 (xs.map encReply)]) (fun xs => xs.length ≤ maxLen ∧ ∀ y ∈ xs, wfReply y) := opn_slice Tryz.underlying28 (of_decide_eq_true (by kernel_rfl)) o133
set_option maxRecDepth 100000 in
theorem o30 : Opn Tryz.prog 30 (fun x => encWorldL false x) wfWorld := opn_struct (l := [_, _, _, _, _, _, _]) Tryz.underlying30 rfl (by kernel_rfl) (opnF_cons (z := 1) rfl (by kernel_rfl) o22 (opnF_cons (z := 1) rfl (by kernel_rfl) o23 (opnF_cons (z := 1) rfl (by kernel_rfl) o24 (opnF_cons (z := 1) rfl (by kernel_rfl) o25 (opnF_cons (z := 1) rfl (by kernel_rfl) o26 (opnF_cons (z := 1) rfl (by kernel_rfl) o27 (opnF_one (z := 1) rfl (by kernel_rfl) o28))))))) (fun x => Go.Proofs.YthfjkhlgkjgkjaaGreatDoor.Pe.FnExactSound.World.mk x.1 x.2.1 x.2.2.1 x.2.2.2.1 x.2.2.2.2.1 x.2.2.2.2.2.1 x.2.2.2.2.2.2) (fun _ => rfl) (fun _ h => h)
theorem door_met (os : Os) (args : Array Value) : laidMetH Tryz.prog Rows.fnExactSoundRow.laid ((World.laidAll Tryz.prog os Rows.fnExactSoundRow.laid).forCall (fun _ _ => 0) ⟨#[], args, []⟩).memory := by
  rw [MakeChecks.laidMetH_plain _ _ _ (by kernel_rfl)]
  exact laidMet_laidAll _ (by kernel_rfl) (by kernel_rfl)
theorem star : "*" ++ "errors.errorString" = "*errors.errorString" := by decide
theorem row_err (u : TypeId) (h : Tryz.prog.typeName? 3 u = some "*errors.errorString") : u = 396 :=
  typeName_ptr_named (nm := "errors.errorString") (by rw [star]; kernel_rfl) (by kernel_rfl) (by decide) u (by rw [star]; exact h)
theorem glb0 {W : World} (h : laidMet Tryz.prog Rows.fnExactSoundRow.laid W) : ∃ o, W.heap[1]? = some o ∧ isTab .u64 pow10s o := by
  obtain ⟨ps, ⟨g0, t0, cs0, f0, p0, q0, hg0, ht0, hv0, hd0, _, _⟩, _⟩ := h.tail.tail
  obtain rfl := Option.some.inj ((show Tryz.prog.globalNamed "internal/strconv.uint64pow10" = some 1 by kernel_rfl).symm.trans hg0)
  obtain rfl := Option.some.inj ((show (Tryz.prog.globals[1]?).map (·.type) = some 383 by kernel_rfl).symm.trans ht0)
  have hc := Lib.cells_of_tab (k := .u64) (zs := [1, 10, 100, 1000, 10000, 100000, 1000000, 10000000, 100000000, 1000000000, 10000000000, 100000000000, 1000000000000, 10000000000000, 100000000000000, 1000000000000000, 10000000000000000, 100000000000000000, 1000000000000000000, 10000000000000000000]) (n := 20) Tryz.underlying383 Tryz.underlying365 (by kernel_rfl) (by kernel_rfl) hd0
  unfold World.var? at hv0
  rw [(show Tryz.prog.globalNamed "internal/strconv.uint64pow10" = some 1 by kernel_rfl), Option.bind_some] at hv0
  split at hv0
  · rename_i cs e z he
    refine ⟨_, he, e, z, ?_⟩
    obtain rfl := Option.some.inj hv0
    congr 1
    apply Array.ext'
    exact hc
  · cases hv0
theorem glb1 {W : World} (h : laidMet Tryz.prog Rows.fnExactSoundRow.laid W) : ∃ o, W.heap[2]? = some o ∧ isErr o := by
  obtain ⟨a, x, hv, _⟩ := laid_sentinel (n := "strconv.ErrSyntax") (nm := "*errors.errorString") h.tail.tail.tail.tail.tail (show Tryz.prog.globalNamed "strconv.ErrSyntax" = some 2 by kernel_rfl) (show (Tryz.prog.globals[2]?).map (·.type) = some 333 by kernel_rfl) Tryz.underlying333 row_err Tryz.underlying396 Tryz.underlying398 rfl rfl Tryz.underlying9 (by kernel_rfl) (by kernel_rfl)
  unfold World.var? at hv
  rw [(show Tryz.prog.globalNamed "strconv.ErrSyntax" = some 2 by kernel_rfl), Option.bind_some] at hv
  split at hv
  · rename_i cs e z he
    obtain rfl := Option.some.inj hv
    exact ⟨_, he, _, _, e, z, rfl⟩
  · cases hv
theorem glb2 {W : World} (h : laidMet Tryz.prog Rows.fnExactSoundRow.laid W) : ∃ o, W.heap[3]? = some o ∧ isErr o := by
  obtain ⟨a, x, hv, _⟩ := laid_sentinel (n := "strconv.ErrRange") (nm := "*errors.errorString") h.tail.tail.tail.tail (show Tryz.prog.globalNamed "strconv.ErrRange" = some 3 by kernel_rfl) (show (Tryz.prog.globals[3]?).map (·.type) = some 333 by kernel_rfl) Tryz.underlying333 row_err Tryz.underlying396 Tryz.underlying398 rfl rfl Tryz.underlying9 (by kernel_rfl) (by kernel_rfl)
  unfold World.var? at hv
  rw [(show Tryz.prog.globalNamed "strconv.ErrRange" = some 3 by kernel_rfl), Option.bind_some] at hv
  split at hv
  · rename_i cs e z he
    obtain rfl := Option.some.inj hv
    exact ⟨_, he, _, _, e, z, rfl⟩
  · cases hv
theorem glb {W : World} (h : laidMetH Tryz.prog Rows.fnExactSoundRow.laid W) : GlbOk W (fun _ => False) := by
  rw [MakeChecks.laidMetH_plain _ _ _ (by kernel_rfl)] at h
  intro t ht
  simp only [globTabs, List.mem_cons, List.not_mem_nil, or_false] at ht
  rcases ht with rfl | rfl | rfl
  · exact ⟨id, glb0 h⟩
  · exact ⟨id, glb1 h⟩
  · exact ⟨id, glb2 h⟩
set_option maxRecDepth 100000 in
theorem lifted (os : Os) (started : os.Started) (H : Type) (enc : TypeId × Value → H) :
    ReturnsInHanded {} Tryz.checked os 4 .any (fun w args => (Rows.fnExactSoundSpec.pre enc Tryz.prog Tryz.f4 [] false w args ∧ laidMetH Tryz.prog Rows.fnExactSoundRow.laid w) ∧ sizedMet enc Tryz.prog Tryz.f4 (OpenSpec.ofChange Rows.fnExactSoundSpec) false w args) (Rows.fnExactSoundSpec.post enc Tryz.prog Tryz.f4 false true false false) := by
  refine returnsInHanded_of_change_and (C := Tryz.checked) (X := fun w _ => laidMetH Tryz.prog Rows.fnExactSoundRow.laid w) (fun _ _ _ hh h => h.of_heap hh) own started (by kernel_rfl) Tryz.func4
    (ChangeSpec.witness_shaped (enc := enc) (C := Tryz.checked) (os := os) (X := fun w _ => laidMetH Tryz.prog Rows.fnExactSoundRow.laid w) false (World.laidAll Tryz.prog os Rows.fnExactSoundRow.laid) #[.agg #[.slice none 0 0, .slice none 0 0, .slice none 0 0, .slice none 0 0, .slice none 0 0, .slice none 0 0, .slice none 0 0]] 8 (World.laidAll_os _ _ _) (World.shaped_of_ZipB (by kernel_rfl) (by kernel_rfl)) (by kernel_rfl) (by kernel_rfl) (by kernel_rfl) (door_met os _)) ?_
  intro W base args ds gs before hval0 hW hcnd hsz0 hL _
  have hval : ∀ (j : Nat) t v, Tryz.f4.params[j]? = some t → args[j]? = some v → Value.okWide Tryz.prog W .any base t v := hval0
  have hW' := hW
  obtain ⟨p, q, hA0, hV, rfl, hfz, hnd⟩ := hW
  have hA : DataW.TrodAll enc Tryz.prog W 0 (fun _ => true) true Tryz.f4.params.toList args.toList ds p := hA0
  rw [Tryz.params4] at hA hval
  obtain ⟨v0, vs0, d0, ds0, p0, q0, hargs, rfl, rfl, h0, r0⟩ := trodAll_cons hA
  obtain ⟨rfl, rfl, rfl⟩ := trodAll_nil r0
  obtain rfl : args = #[v0] := by cases args; simp_all
  obtain ⟨rfl, rfl⟩ := trodVars_none hV
  have k0 := h0
  have lt0 : ∀ x ∈ p0, x.block < W.heap.size := by obtain ⟨m, hm⟩ := k0; exact DataW.trod_lt m _ _ _ hm
  obtain ⟨x0, hK0, hw0⟩ := opn_arg o30 h0
  obtain ⟨cs0, rfl, _⟩ := okWide_struct Tryz.underlying30 (hval 0 30 v0 rfl rfl)
  clear hA0 hval0 hsz0
  obtain ⟨N, hN⟩ := holds x0 hw0
  refine (law_calls ((i276 N x0).says _ hN) (glb hL) (w := W) (args := #[_]) (by simp only [VsRel]; exact ⟨_, _, rfl, arg_agg hK0 rfl, rfl⟩)).mono fun e W' ⟨he, bel⟩ => ?_
  subst he
  exact ⟨_, rfl, _, _, _, [], _, [], hW', trodAll_mk1 (shut_bool Tryz.underlying4 _), (trodAll_cons_mk (Below.trod laidOut (by kernel_rfl) (of_decide_eq_true (by kernel_rfl)) k0 bel lt0) trodAll_mk0), rfl, bel.frame _, fun h => by cases h⟩
set_option maxHeartbeats 40000000 in
theorem closed : joinedFacts Tryz.prog 4 Tryz.f4 Rows.fnExactSoundSpec Rows.fnExactSoundRow = true := by
  unfold joinedFacts
  simp only [Bool.and_eq_true]
  repeat' apply And.intro
  all_goals decide +kernel
theorem over : Rows.fnExactSoundRow.holds Tryz.pinned (OpenSpec.ofChange Rows.fnExactSoundSpec) :=
  OpenClaim.holds_of_wide 4 Tryz.f4 rfl rfl rfl rfl rfl rfl rfl ⟨rfl, rfl, rfl, rfl, rfl⟩ rfl rfl rfl rfl rfl (by kernel_rfl) Tryz.func4 closed
    (of_decide_eq_true (by kernel_rfl)) (by unfold Func.isWrapper; first | (rw [if_pos (by decide +kernel)]; kernel_rfl) | (rw [if_neg (by decide +kernel)]; exact ⟨rfl, rfl⟩))
    (fun os started H enc _ => lifted os started H enc)
theorem card_holds : Rows.FnExactSoundCardSaid :=
  Claim7.holds_tied_plain_at .later [] [.data, .data, .data, .data, .sentinel, .sentinel, .pinned] true (true, "c5edb61a55aeb4e5f694afed6317b50e747a34cc97d2fd7cae6c622278ba1f4e") true
    over (fun _ h => by cases h) (by kernel_rfl) (fun _ h => by cases h) fnExactSound_row_tie rfl ⟨rfl, rfl⟩ (by kernel_rfl) rfl
    (fun f fn hf hfn => by
      obtain rfl : f = 4 := Option.some.inj ((show Tryz.prog.funcNamed "loop.example/g00103/laws.FnExactSound" = some 4 by kernel_rfl).symm.trans hf) |>.symm
      obtain rfl : fn = Tryz.f4 := (Option.some.inj (Tryz.func4.symm.trans hfn)).symm
      exact ⟨by kernel_rfl, fun j t ht => by
        rw [Tryz.params4] at ht
        have hm : t ∈ [30] := by simpa using Array.mem_of_getElem? ht
        have hall : ([30].all fun u => !Tryz.prog.wantsStandIn u) = true := by kernel_rfl
        exact (show Tryz.prog.wantsStandIn t = false by simpa using List.all_eq_true.1 hall t hm)⟩)
    (by kernel_rfl)
#print axioms card_holds
end Go.Proofs.YthfjkhlgkjgkjaaGreatDoor.fnExactSound
namespace Go.Proofs.YthfjkhlgkjgkjaaGreatDoor
/-- The card, under a short name, for the claim. -/
theorem fnExactSound_holds : Rows.FnExactSoundCardSaid := fnExactSound.card_holds
end Go.Proofs.YthfjkhlgkjgkjaaGreatDoor
