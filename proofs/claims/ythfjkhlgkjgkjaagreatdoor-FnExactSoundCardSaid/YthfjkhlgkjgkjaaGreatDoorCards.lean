/-
  DERIVED. GIVEN WITH THE SEED: THE CARDS: each row of YthfjkhlgkjgkjaaGreatDoorRows.lean that lists a variable, with what it lists TIED to the program's text (the seventh form; the later family's looks); each row that meets fmt, with fmt's text TOLD by the authors' own Lean function (tested against real Go, not proved from fmt's source: count such statements apart). THE CARD IS WHAT COUNTS. Prove the row's statement (the work); the ties are given (YthfjkhlgkjgkjaaGreatDoorTie.lean); close each card by the builder's one call (the guide's Derived/Test/ToyasCard.lean, 'card_holds'). Laid BY PROGRAM, IN A SANDBOX (cutbox-door.mjs). By AI agents, Wed Nov 11 2026. No macro, syntax, notation, axiom, sorry.
-/
import Derived.Test.YthfjkhlgkjgkjaaGreatDoorRows
import GoSem.ClaimSeven
namespace Go.Proofs.YthfjkhlgkjgkjaaGreatDoor
namespace Rows

/-- THE TIED CARD OF 'laws.FnExactFolded'. -/
def fnExactFoldedCard : Claim7 := { stood := { row := fnExactFoldedRow, standIns := [], harness := (true, "c5edb61a55aeb4e5f694afed6317b50e747a34cc97d2fd7cae6c622278ba1f4e"), looks := true }, kinds := [], alts := [], laidByText := true, laidKinds := [.data, .data, .data, .data, .sentinel, .sentinel, .pinned], laidTests := true, laidLooks := .later }
def FnExactFoldedCardSaid : Prop := Claim7.holds Tryz.pinned (.plain (OpenSpec.ofChange fnExactFoldedSpec)) fnExactFoldedCard

/-- THE TIED CARD OF 'laws.FnExactSound'. -/
def fnExactSoundCard : Claim7 := { stood := { row := fnExactSoundRow, standIns := [], harness := (true, "c5edb61a55aeb4e5f694afed6317b50e747a34cc97d2fd7cae6c622278ba1f4e"), looks := true }, kinds := [], alts := [], laidByText := true, laidKinds := [.data, .data, .data, .data, .sentinel, .sentinel, .pinned], laidTests := true, laidLooks := .later }
def FnExactSoundCardSaid : Prop := Claim7.holds Tryz.pinned (.plain (OpenSpec.ofChange fnExactSoundSpec)) fnExactSoundCard

/-- THE SECOND FORM's CARD OF 'laws.FnExactFolded'. -/
def fnExactFoldedUptoCard : Claim7 := { stood := { row := fnExactFoldedUptoRow, standIns := [], harness := (true, "c5edb61a55aeb4e5f694afed6317b50e747a34cc97d2fd7cae6c622278ba1f4e"), looks := true }, kinds := [], alts := [], laidByText := true, laidKinds := [.data, .data, .data, .data, .sentinel, .sentinel, .pinned], laidTests := true, laidLooks := .later }
def FnExactFoldedUptoCardSaid : Prop := Claim7.holds Tryz.pinned (.plain (OpenSpec.upto fnExactFoldedSpec)) fnExactFoldedUptoCard

/-- THE SECOND FORM's CARD OF 'laws.FnExactSound'. -/
def fnExactSoundUptoCard : Claim7 := { stood := { row := fnExactSoundUptoRow, standIns := [], harness := (true, "c5edb61a55aeb4e5f694afed6317b50e747a34cc97d2fd7cae6c622278ba1f4e"), looks := true }, kinds := [], alts := [], laidByText := true, laidKinds := [.data, .data, .data, .data, .sentinel, .sentinel, .pinned], laidTests := true, laidLooks := .later }
def FnExactSoundUptoCardSaid : Prop := Claim7.holds Tryz.pinned (.plain (OpenSpec.upto fnExactSoundSpec)) fnExactSoundUptoCard
end Rows
end Go.Proofs.YthfjkhlgkjgkjaaGreatDoor
