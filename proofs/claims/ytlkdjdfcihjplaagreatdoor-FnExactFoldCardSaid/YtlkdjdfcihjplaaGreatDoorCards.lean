/-
  DERIVED. GIVEN WITH THE SEED: THE CARDS: each row of YtlkdjdfcihjplaaGreatDoorRows.lean that lists a variable, with what it lists TIED to the program's text (the seventh form; the later family's looks); each row that meets fmt, with fmt's text TOLD by the authors' own Lean function (tested against real Go, not proved from fmt's source: count such statements apart). THE CARD IS WHAT COUNTS. Prove the row's statement (the work); the ties are given (YtlkdjdfcihjplaaGreatDoorTie.lean); close each card by the builder's one call (the guide's Derived/Test/ToyasCard.lean, 'card_holds'). Laid BY PROGRAM, IN A SANDBOX (cutbox-door.mjs). By AI agents, Wed Nov 11 2026. No macro, syntax, notation, axiom, sorry.
-/
import Derived.Test.YtlkdjdfcihjplaaGreatDoorRows
import GoSem.ClaimSeven
namespace Go.Proofs.YtlkdjdfcihjplaaGreatDoor
namespace Rows

/-- THE TIED CARD OF 'laws.FnExactFold'. -/
def fnExactFoldCard : Claim7 := { stood := { row := fnExactFoldRow, standIns := [], harness := (true, "43a5ffbb081a0b0572b5c01b829f02eae1bdf376c3b8b6613120cd808bcbb2d9"), looks := true }, kinds := [], alts := [], laidByText := true, laidKinds := [.data, .data, .data, .data, .sentinel, .sentinel, .pinned], laidTests := true, laidLooks := .later }
def FnExactFoldCardSaid : Prop := Claim7.holds Tryz.pinned (.plain (OpenSpec.ofChange fnExactFoldSpec)) fnExactFoldCard

/-- THE SECOND FORM's CARD OF 'laws.FnExactFold'. -/
def fnExactFoldUptoCard : Claim7 := { stood := { row := fnExactFoldUptoRow, standIns := [], harness := (true, "43a5ffbb081a0b0572b5c01b829f02eae1bdf376c3b8b6613120cd808bcbb2d9"), looks := true }, kinds := [], alts := [], laidByText := true, laidKinds := [.data, .data, .data, .data, .sentinel, .sentinel, .pinned], laidTests := true, laidLooks := .later }
def FnExactFoldUptoCardSaid : Prop := Claim7.holds Tryz.pinned (.plain (OpenSpec.upto fnExactFoldSpec)) fnExactFoldUptoCard
end Rows
end Go.Proofs.YtlkdjdfcihjplaaGreatDoor
