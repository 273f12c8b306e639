/-
  DERIVED. GIVEN WITH THE SEED: THE CARDS: each row of YtmcbbifeekhmgaaGreatDoorRows.lean that lists a variable, with what it lists TIED to the program's text (the seventh form; the later family's looks); each row that meets fmt, with fmt's text TOLD by the authors' own Lean function (tested against real Go, not proved from fmt's source: count such statements apart). THE CARD IS WHAT COUNTS. Prove the row's statement (the work); the ties are given (YtmcbbifeekhmgaaGreatDoorTie.lean); close each card by the builder's one call (the guide's Derived/Test/ToyasCard.lean, 'card_holds'). Laid BY PROGRAM, IN A SANDBOX (cutbox-door.mjs). By AI agents, Wed Nov 11 2026. No macro, syntax, notation, axiom, sorry.
-/
import Derived.Test.YtmcbbifeekhmgaaGreatDoorRows
import GoSem.ClaimSeven
namespace Go.Proofs.YtmcbbifeekhmgaaGreatDoor
namespace Rows

/-- THE TIED CARD OF 'laws.FnBoots'. -/
def fnBootsCard : Claim7 := { stood := { row := fnBootsRow, standIns := [], harness := (true, "a844f01e247712e76376107d778b8067a67c9507cb77505d0d74a71cec888b5a"), looks := true }, kinds := [], alts := [], laidByText := true, laidKinds := [.data, .data, .data, .sentinel, .sentinel], laidTests := true, laidLooks := .later }
def FnBootsCardSaid : Prop := Claim7.holds Tryz.pinned (.plain (OpenSpec.ofChange fnBootsSpec)) fnBootsCard

/-- THE SECOND FORM's CARD OF 'laws.FnBoots'. -/
def fnBootsUptoCard : Claim7 := { stood := { row := fnBootsUptoRow, standIns := [], harness := (true, "a844f01e247712e76376107d778b8067a67c9507cb77505d0d74a71cec888b5a"), looks := true }, kinds := [], alts := [], laidByText := true, laidKinds := [.data, .data, .data, .sentinel, .sentinel], laidTests := true, laidLooks := .later }
def FnBootsUptoCardSaid : Prop := Claim7.holds Tryz.pinned (.plain (OpenSpec.upto fnBootsSpec)) fnBootsUptoCard
end Rows
end Go.Proofs.YtmcbbifeekhmgaaGreatDoor
