/-
  DERIVED. GIVEN WITH THE SEED: THE CARDS: each row of YtpdfllincphabaaGreatDoorRows.lean that lists a variable, with what it lists TIED to the program's text (the seventh form; the later family's looks); each row that meets fmt, with fmt's text TOLD by the authors' own Lean function (tested against real Go, not proved from fmt's source: count such statements apart). THE CARD IS WHAT COUNTS. Prove the row's statement (the work); the ties are given (YtpdfllincphabaaGreatDoorTie.lean); close each card by the builder's one call (the guide's Derived/Test/ToyasCard.lean, 'card_holds'). Laid BY PROGRAM, IN A SANDBOX (cutbox-door.mjs). By AI agents, Wed Nov 11 2026. No macro, syntax, notation, axiom, sorry.
-/
import Derived.Test.YtpdfllincphabaaGreatDoorRows
import GoSem.ClaimSeven
namespace Go.Proofs.YtpdfllincphabaaGreatDoor
namespace Rows

/-- THE TIED CARD OF 'laws.FnExactAct'. -/
def fnExactActCard : Claim7 := { stood := { row := fnExactActRow, standIns := [], harness := (true, "e2808482ec344df8b312a8d38f9771125d9060fd60e3838d3a1aec8308637edf"), looks := true }, kinds := [], alts := [], laidByText := true, laidKinds := [.data, .data, .data, .data, .sentinel, .sentinel, .pinned], laidTests := true, laidLooks := .later }
def FnExactActCardSaid : Prop := Claim7.holds Tryz.pinned (.plain (OpenSpec.ofChange fnExactActSpec)) fnExactActCard

/-- THE SECOND FORM's CARD OF 'laws.FnExactAct'. -/
def fnExactActUptoCard : Claim7 := { stood := { row := fnExactActUptoRow, standIns := [], harness := (true, "e2808482ec344df8b312a8d38f9771125d9060fd60e3838d3a1aec8308637edf"), looks := true }, kinds := [], alts := [], laidByText := true, laidKinds := [.data, .data, .data, .data, .sentinel, .sentinel, .pinned], laidTests := true, laidLooks := .later }
def FnExactActUptoCardSaid : Prop := Claim7.holds Tryz.pinned (.plain (OpenSpec.upto fnExactActSpec)) fnExactActUptoCard
end Rows
end Go.Proofs.YtpdfllincphabaaGreatDoor
