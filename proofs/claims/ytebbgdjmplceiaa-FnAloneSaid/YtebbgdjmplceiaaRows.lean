/-
  No cell of these rows narrows 'for every input' (looked for: loops, veiled, ifaces, maps, wideKeys, modest, calm, conditions, laid).
  DERIVED. THE GIVEN ROWS OF THIS SEAT. 12 by the template 'for every input the law returns true; each argument reads behind the call as it read before'; 0 by the template 'total and deterministic' (their statements: YtebbgdjmplceiaaTotals.lean).
  GIVEN WITH THE SEED: the statements are not yours to turn. If you find one false, say at which input.
  Laid BY PROGRAM, IN A SANDBOX (cutbox-rows.mjs): the forced cells as the released guide's own fill.sh prints them over the translation 3ba667806f9be170… (all of the seat's roots in one cut). By AI agents, Wed Nov 11 2026. No macro, syntax, notation, axiom, sorry.
-/
import Derived.Test.YtebbgdjmplceiaaChecked
import GoSem.Claim
import GoSem.ClaimJoined
import GoSem.ClaimMapViews
import Derived.JoinedTies
import Derived.KernelRfl
namespace Go.Proofs.Ytebbgdjmplceiaa
/- THE CELL 'sum', in the pinned program and in every row, IS THE sha256 OF THE DUMP (.gsa) THAT YtebbgdjmplceiaaProg.lean LOADS. Nothing in Lean hashes anything: it is a label: what it is worth is what the hold of that sum in a sandbox is worth. -/
noncomputable def Try.pinned : Pinned := { name := "ytebbgdjmplceiaa", sum := "3ba667806f9be170947e4102c3966fab3518669e0e0925f88999f33cd2644b26", checked := Try.checked }
namespace Rows
def none {H : Type} : Left H := { results := [], args := [] }

/-- 'laws.FnExactSameApplied': WHATEVER THE INPUT: true; the input reads as it did. -/
def fnExactSameAppliedSpec : ChangeSpec := { name := "fnExactSameApplied", fn := fun _ => fun
  | [d] => { results := [.lit (.bool true)], args := [d] }
  | _ => none }
def fnExactSameAppliedRow : OpenClaim := { program := "ytebbgdjmplceiaa", sum := "3ba667806f9be170947e4102c3966fab3518669e0e0925f88999f33cd2644b26", func := "loop.example/g00103/laws.FnExactSameApplied", spec := "fnExactSameApplied", unfollowed := true, recurses := true, apart := false }
def FnExactSameAppliedSaid : Prop := fnExactSameAppliedRow.holds Try.pinned (OpenSpec.ofChange fnExactSameAppliedSpec)

/-- ITS FALSE NEIGHBOUR: 'it returns false'. Refute it at one input. -/
def fnExactSameAppliedWrong : ChangeSpec := { name := "fnExactSameApplied", fn := fun _ => fun
  | [d] => { results := [.lit (.bool false)], args := [d] }
  | _ => none }
def FnExactSameAppliedWrongFalsely : Prop := fnExactSameAppliedRow.holds Try.pinned (OpenSpec.ofChange fnExactSameAppliedWrong)

/-- 'laws.FnExactOnce': WHATEVER THE INPUT: true; the input reads as it did. -/
def fnExactOnceSpec : ChangeSpec := { name := "fnExactOnce", fn := fun _ => fun
  | [d] => { results := [.lit (.bool true)], args := [d] }
  | _ => none }
def fnExactOnceRow : OpenClaim := { program := "ytebbgdjmplceiaa", sum := "3ba667806f9be170947e4102c3966fab3518669e0e0925f88999f33cd2644b26", func := "loop.example/g00103/laws.FnExactOnce", spec := "fnExactOnce", unfollowed := true, recurses := true, apart := false }
def FnExactOnceSaid : Prop := fnExactOnceRow.holds Try.pinned (OpenSpec.ofChange fnExactOnceSpec)

/-- ITS FALSE NEIGHBOUR: 'it returns false'. Refute it at one input. -/
def fnExactOnceWrong : ChangeSpec := { name := "fnExactOnce", fn := fun _ => fun
  | [d] => { results := [.lit (.bool false)], args := [d] }
  | _ => none }
def FnExactOnceWrongFalsely : Prop := fnExactOnceRow.holds Try.pinned (OpenSpec.ofChange fnExactOnceWrong)

/-- 'laws.FnExactOneLeader': WHATEVER THE INPUT: true; the input reads as it did. -/
def fnExactOneLeaderSpec : ChangeSpec := { name := "fnExactOneLeader", fn := fun _ => fun
  | [d] => { results := [.lit (.bool true)], args := [d] }
  | _ => none }
def fnExactOneLeaderRow : OpenClaim := { program := "ytebbgdjmplceiaa", sum := "3ba667806f9be170947e4102c3966fab3518669e0e0925f88999f33cd2644b26", func := "loop.example/g00103/laws.FnExactOneLeader", spec := "fnExactOneLeader", unfollowed := true, recurses := true, apart := false }
def FnExactOneLeaderSaid : Prop := fnExactOneLeaderRow.holds Try.pinned (OpenSpec.ofChange fnExactOneLeaderSpec)

/-- ITS FALSE NEIGHBOUR: 'it returns false'. Refute it at one input. -/
def fnExactOneLeaderWrong : ChangeSpec := { name := "fnExactOneLeader", fn := fun _ => fun
  | [d] => { results := [.lit (.bool false)], args := [d] }
  | _ => none }
def FnExactOneLeaderWrongFalsely : Prop := fnExactOneLeaderRow.holds Try.pinned (OpenSpec.ofChange fnExactOneLeaderWrong)

/-- 'laws.FnExactEntryAt': WHATEVER THE INPUT: true; the input reads as it did. -/
def fnExactEntryAtSpec : ChangeSpec := { name := "fnExactEntryAt", fn := fun _ => fun
  | [d1, d2] => { results := [.lit (.bool true)], args := [d1, d2] }
  | _ => none }
def fnExactEntryAtRow : OpenClaim := { program := "ytebbgdjmplceiaa", sum := "3ba667806f9be170947e4102c3966fab3518669e0e0925f88999f33cd2644b26", func := "loop.example/g00103/laws.FnExactEntryAt", spec := "fnExactEntryAt", apart := false }
def FnExactEntryAtSaid : Prop := fnExactEntryAtRow.holds Try.pinned (OpenSpec.ofChange fnExactEntryAtSpec)

/-- ITS FALSE NEIGHBOUR: 'it returns false'. Refute it at one input. -/
def fnExactEntryAtWrong : ChangeSpec := { name := "fnExactEntryAt", fn := fun _ => fun
  | [d1, d2] => { results := [.lit (.bool false)], args := [d1, d2] }
  | _ => none }
def FnExactEntryAtWrongFalsely : Prop := fnExactEntryAtRow.holds Try.pinned (OpenSpec.ofChange fnExactEntryAtWrong)

/-- 'laws.FnExactEventOk': WHATEVER THE INPUT: true; the input reads as it did. -/
def fnExactEventOkSpec : ChangeSpec := { name := "fnExactEventOk", fn := fun _ => fun
  | [d1, d2] => { results := [.lit (.bool true)], args := [d1, d2] }
  | _ => none }
def fnExactEventOkRow : OpenClaim := { program := "ytebbgdjmplceiaa", sum := "3ba667806f9be170947e4102c3966fab3518669e0e0925f88999f33cd2644b26", func := "loop.example/g00103/laws.FnExactEventOk", spec := "fnExactEventOk", apart := false }
def FnExactEventOkSaid : Prop := fnExactEventOkRow.holds Try.pinned (OpenSpec.ofChange fnExactEventOkSpec)

/-- ITS FALSE NEIGHBOUR: 'it returns false'. Refute it at one input. -/
def fnExactEventOkWrong : ChangeSpec := { name := "fnExactEventOk", fn := fun _ => fun
  | [d1, d2] => { results := [.lit (.bool false)], args := [d1, d2] }
  | _ => none }
def FnExactEventOkWrongFalsely : Prop := fnExactEventOkRow.holds Try.pinned (OpenSpec.ofChange fnExactEventOkWrong)

/-- 'laws.FnExactWhole': WHATEVER THE INPUT: true; the input reads as it did. -/
def fnExactWholeSpec : ChangeSpec := { name := "fnExactWhole", fn := fun _ => fun
  | [d1, d2] => { results := [.lit (.bool true)], args := [d1, d2] }
  | _ => none }
def fnExactWholeRow : OpenClaim := { program := "ytebbgdjmplceiaa", sum := "3ba667806f9be170947e4102c3966fab3518669e0e0925f88999f33cd2644b26", func := "loop.example/g00103/laws.FnExactWhole", spec := "fnExactWhole", unfollowed := true, recurses := true, apart := false }
def FnExactWholeSaid : Prop := fnExactWholeRow.holds Try.pinned (OpenSpec.ofChange fnExactWholeSpec)

/-- ITS FALSE NEIGHBOUR: 'it returns false'. Refute it at one input. -/
def fnExactWholeWrong : ChangeSpec := { name := "fnExactWhole", fn := fun _ => fun
  | [d1, d2] => { results := [.lit (.bool false)], args := [d1, d2] }
  | _ => none }
def FnExactWholeWrongFalsely : Prop := fnExactWholeRow.holds Try.pinned (OpenSpec.ofChange fnExactWholeWrong)

/-- 'laws.FnExactConfAt': WHATEVER THE INPUT: true; the input reads as it did. -/
def fnExactConfAtSpec : ChangeSpec := { name := "fnExactConfAt", fn := fun _ => fun
  | [d1, d2] => { results := [.lit (.bool true)], args := [d1, d2] }
  | _ => none }
def fnExactConfAtRow : OpenClaim := { program := "ytebbgdjmplceiaa", sum := "3ba667806f9be170947e4102c3966fab3518669e0e0925f88999f33cd2644b26", func := "loop.example/g00103/laws.FnExactConfAt", spec := "fnExactConfAt", apart := false }
def FnExactConfAtSaid : Prop := fnExactConfAtRow.holds Try.pinned (OpenSpec.ofChange fnExactConfAtSpec)

/-- ITS FALSE NEIGHBOUR: 'it returns false'. Refute it at one input. -/
def fnExactConfAtWrong : ChangeSpec := { name := "fnExactConfAt", fn := fun _ => fun
  | [d1, d2] => { results := [.lit (.bool false)], args := [d1, d2] }
  | _ => none }
def FnExactConfAtWrongFalsely : Prop := fnExactConfAtRow.holds Try.pinned (OpenSpec.ofChange fnExactConfAtWrong)

/-- 'laws.FnExactConfOf': WHATEVER THE INPUT: true; the input reads as it did. -/
def fnExactConfOfSpec : ChangeSpec := { name := "fnExactConfOf", fn := fun _ => fun
  | [d] => { results := [.lit (.bool true)], args := [d] }
  | _ => none }
def fnExactConfOfRow : OpenClaim := { program := "ytebbgdjmplceiaa", sum := "3ba667806f9be170947e4102c3966fab3518669e0e0925f88999f33cd2644b26", func := "loop.example/g00103/laws.FnExactConfOf", spec := "fnExactConfOf", apart := false }
def FnExactConfOfSaid : Prop := fnExactConfOfRow.holds Try.pinned (OpenSpec.ofChange fnExactConfOfSpec)

/-- ITS FALSE NEIGHBOUR: 'it returns false'. Refute it at one input. -/
def fnExactConfOfWrong : ChangeSpec := { name := "fnExactConfOf", fn := fun _ => fun
  | [d] => { results := [.lit (.bool false)], args := [d] }
  | _ => none }
def FnExactConfOfWrongFalsely : Prop := fnExactConfOfRow.holds Try.pinned (OpenSpec.ofChange fnExactConfOfWrong)

/-- 'laws.FnAlone': WHATEVER THE INPUT: true; the input reads as it did. -/
def fnAloneSpec : ChangeSpec := { name := "fnAlone", fn := fun _ => fun
  | [d] => { results := [.lit (.bool true)], args := [d] }
  | _ => none }
def fnAloneRow : OpenClaim := { program := "ytebbgdjmplceiaa", sum := "3ba667806f9be170947e4102c3966fab3518669e0e0925f88999f33cd2644b26", func := "loop.example/g00103/laws.FnAlone", spec := "fnAlone", unfollowed := true, recurses := true, apart := false }
def FnAloneSaid : Prop := fnAloneRow.holds Try.pinned (OpenSpec.ofChange fnAloneSpec)

/-- ITS FALSE NEIGHBOUR: 'it returns false'. Refute it at one input. -/
def fnAloneWrong : ChangeSpec := { name := "fnAlone", fn := fun _ => fun
  | [d] => { results := [.lit (.bool false)], args := [d] }
  | _ => none }
def FnAloneWrongFalsely : Prop := fnAloneRow.holds Try.pinned (OpenSpec.ofChange fnAloneWrong)

/-- 'laws.FnExactNodeOk': WHATEVER THE INPUT: true; the input reads as it did. -/
def fnExactNodeOkSpec : ChangeSpec := { name := "fnExactNodeOk", fn := fun _ => fun
  | [d] => { results := [.lit (.bool true)], args := [d] }
  | _ => none }
def fnExactNodeOkRow : OpenClaim := { program := "ytebbgdjmplceiaa", sum := "3ba667806f9be170947e4102c3966fab3518669e0e0925f88999f33cd2644b26", func := "loop.example/g00103/laws.FnExactNodeOk", spec := "fnExactNodeOk", unfollowed := true, recurses := true, apart := false }
def FnExactNodeOkSaid : Prop := fnExactNodeOkRow.holds Try.pinned (OpenSpec.ofChange fnExactNodeOkSpec)

/-- ITS FALSE NEIGHBOUR: 'it returns false'. Refute it at one input. -/
def fnExactNodeOkWrong : ChangeSpec := { name := "fnExactNodeOk", fn := fun _ => fun
  | [d] => { results := [.lit (.bool false)], args := [d] }
  | _ => none }
def FnExactNodeOkWrongFalsely : Prop := fnExactNodeOkRow.holds Try.pinned (OpenSpec.ofChange fnExactNodeOkWrong)

/-- 'laws.FnExactNodeNew': WHATEVER THE INPUT: true; the input reads as it did. -/
def fnExactNodeNewSpec : ChangeSpec := { name := "fnExactNodeNew", fn := fun _ => fun
  | [d1, d2] => { results := [.lit (.bool true)], args := [d1, d2] }
  | _ => none }
def fnExactNodeNewRow : OpenClaim := { program := "ytebbgdjmplceiaa", sum := "3ba667806f9be170947e4102c3966fab3518669e0e0925f88999f33cd2644b26", func := "loop.example/g00103/laws.FnExactNodeNew", spec := "fnExactNodeNew", unfollowed := true, recurses := true, apart := false }
def FnExactNodeNewSaid : Prop := fnExactNodeNewRow.holds Try.pinned (OpenSpec.ofChange fnExactNodeNewSpec)

/-- ITS FALSE NEIGHBOUR: 'it returns false'. Refute it at one input. -/
def fnExactNodeNewWrong : ChangeSpec := { name := "fnExactNodeNew", fn := fun _ => fun
  | [d1, d2] => { results := [.lit (.bool false)], args := [d1, d2] }
  | _ => none }
def FnExactNodeNewWrongFalsely : Prop := fnExactNodeNewRow.holds Try.pinned (OpenSpec.ofChange fnExactNodeNewWrong)

/-- 'laws.FnExactSettle': WHATEVER THE INPUT: true; the input reads as it did. -/
def fnExactSettleSpec : ChangeSpec := { name := "fnExactSettle", fn := fun _ => fun
  | [d1, d2] => { results := [.lit (.bool true)], args := [d1, d2] }
  | _ => none }
def fnExactSettleRow : OpenClaim := { program := "ytebbgdjmplceiaa", sum := "3ba667806f9be170947e4102c3966fab3518669e0e0925f88999f33cd2644b26", func := "loop.example/g00103/laws.FnExactSettle", spec := "fnExactSettle", unfollowed := true, recurses := true, apart := false }
def FnExactSettleSaid : Prop := fnExactSettleRow.holds Try.pinned (OpenSpec.ofChange fnExactSettleSpec)

/-- ITS FALSE NEIGHBOUR: 'it returns false'. Refute it at one input. -/
def fnExactSettleWrong : ChangeSpec := { name := "fnExactSettle", fn := fun _ => fun
  | [d1, d2] => { results := [.lit (.bool false)], args := [d1, d2] }
  | _ => none }
def FnExactSettleWrongFalsely : Prop := fnExactSettleRow.holds Try.pinned (OpenSpec.ofChange fnExactSettleWrong)

/- THE SECOND FORM. 'bulk': how many values and letters a reading holds, each counted each time it is reached (what is shared counts as often as it is met; a slice's spare places count too). A statement '..UptoSaid' is the law's where the arguments, and the package variables that the reading takes, are together of bulk at most 1048576: NARROWER than '..Said'. Prove '..Said' where nothing that the law and all that it calls make is longer than what came in: it says more and counts as full. Else prove '..UptoSaid'. A law counts once. -/
mutual
def uptoBulk {H : Type} : DataW H → Nat
  | .lit (.string bytes) => bytes.length + 1
  | .lit _ => 1
  | .nil => 1
  | .ptr d => uptoBulk d + 1
  | .slice elems spare => uptoBulkAll elems + uptoBulkAll spare + 1
  | .agg parts => uptoBulkAll parts + 1
  | .iface _ d => uptoBulk d + 1
  | .map entries => uptoBulkEntries entries + 1
  | .held _ => 1
def uptoBulkAll {H : Type} : List (DataW H) → Nat
  | [] => 0
  | d :: r => uptoBulk d + uptoBulkAll r
def uptoBulkEntries {H : Type} : List (Lit × DataW H) → Nat
  | [] => 0
  | x :: r => uptoBulkEntry x + uptoBulkEntries r
def uptoBulkEntry {H : Type} : Lit × DataW H → Nat
  | (.string bytes, d) => bytes.length + uptoBulk d + 1
  | (_, d) => uptoBulk d + 1
 end
def uptoSmall : (H : Type) → List (DataW H) → Bool := fun _ ds => decide (uptoBulkAll ds ≤ 1048576)
def OpenSpec.upto (s : _root_.Go.ChangeSpec) : _root_.Go.OpenSpec := { _root_.Go.OpenSpec.ofChange s with cond := some uptoSmall }

/-- 'laws.FnExactSameApplied', WHERE WHAT IT READS IS OF BULK AT MOST 1048576: true; the input reads as it did. -/
def fnExactSameAppliedUptoRow : OpenClaim := { program := "ytebbgdjmplceiaa", sum := "3ba667806f9be170947e4102c3966fab3518669e0e0925f88999f33cd2644b26", func := "loop.example/g00103/laws.FnExactSameApplied", spec := "fnExactSameApplied", unfollowed := true, recurses := true, apart := false, narrowed := true }
def FnExactSameAppliedUptoSaid : Prop := fnExactSameAppliedUptoRow.holds Try.pinned (OpenSpec.upto fnExactSameAppliedSpec)

/-- 'laws.FnExactOnce', WHERE WHAT IT READS IS OF BULK AT MOST 1048576: true; the input reads as it did. -/
def fnExactOnceUptoRow : OpenClaim := { program := "ytebbgdjmplceiaa", sum := "3ba667806f9be170947e4102c3966fab3518669e0e0925f88999f33cd2644b26", func := "loop.example/g00103/laws.FnExactOnce", spec := "fnExactOnce", unfollowed := true, recurses := true, apart := false, narrowed := true }
def FnExactOnceUptoSaid : Prop := fnExactOnceUptoRow.holds Try.pinned (OpenSpec.upto fnExactOnceSpec)

/-- 'laws.FnExactOneLeader', WHERE WHAT IT READS IS OF BULK AT MOST 1048576: true; the input reads as it did. -/
def fnExactOneLeaderUptoRow : OpenClaim := { program := "ytebbgdjmplceiaa", sum := "3ba667806f9be170947e4102c3966fab3518669e0e0925f88999f33cd2644b26", func := "loop.example/g00103/laws.FnExactOneLeader", spec := "fnExactOneLeader", unfollowed := true, recurses := true, apart := false, narrowed := true }
def FnExactOneLeaderUptoSaid : Prop := fnExactOneLeaderUptoRow.holds Try.pinned (OpenSpec.upto fnExactOneLeaderSpec)

/-- 'laws.FnExactEntryAt', WHERE WHAT IT READS IS OF BULK AT MOST 1048576: true; the input reads as it did. -/
def fnExactEntryAtUptoRow : OpenClaim := { program := "ytebbgdjmplceiaa", sum := "3ba667806f9be170947e4102c3966fab3518669e0e0925f88999f33cd2644b26", func := "loop.example/g00103/laws.FnExactEntryAt", spec := "fnExactEntryAt", apart := false, narrowed := true }
def FnExactEntryAtUptoSaid : Prop := fnExactEntryAtUptoRow.holds Try.pinned (OpenSpec.upto fnExactEntryAtSpec)

/-- 'laws.FnExactEventOk', WHERE WHAT IT READS IS OF BULK AT MOST 1048576: true; the input reads as it did. -/
def fnExactEventOkUptoRow : OpenClaim := { program := "ytebbgdjmplceiaa", sum := "3ba667806f9be170947e4102c3966fab3518669e0e0925f88999f33cd2644b26", func := "loop.example/g00103/laws.FnExactEventOk", spec := "fnExactEventOk", apart := false, narrowed := true }
def FnExactEventOkUptoSaid : Prop := fnExactEventOkUptoRow.holds Try.pinned (OpenSpec.upto fnExactEventOkSpec)

/-- 'laws.FnExactWhole', WHERE WHAT IT READS IS OF BULK AT MOST 1048576: true; the input reads as it did. -/
def fnExactWholeUptoRow : OpenClaim := { program := "ytebbgdjmplceiaa", sum := "3ba667806f9be170947e4102c3966fab3518669e0e0925f88999f33cd2644b26", func := "loop.example/g00103/laws.FnExactWhole", spec := "fnExactWhole", unfollowed := true, recurses := true, apart := false, narrowed := true }
def FnExactWholeUptoSaid : Prop := fnExactWholeUptoRow.holds Try.pinned (OpenSpec.upto fnExactWholeSpec)

/-- 'laws.FnExactConfAt', WHERE WHAT IT READS IS OF BULK AT MOST 1048576: true; the input reads as it did. -/
def fnExactConfAtUptoRow : OpenClaim := { program := "ytebbgdjmplceiaa", sum := "3ba667806f9be170947e4102c3966fab3518669e0e0925f88999f33cd2644b26", func := "loop.example/g00103/laws.FnExactConfAt", spec := "fnExactConfAt", apart := false, narrowed := true }
def FnExactConfAtUptoSaid : Prop := fnExactConfAtUptoRow.holds Try.pinned (OpenSpec.upto fnExactConfAtSpec)

/-- 'laws.FnExactConfOf', WHERE WHAT IT READS IS OF BULK AT MOST 1048576: true; the input reads as it did. -/
def fnExactConfOfUptoRow : OpenClaim := { program := "ytebbgdjmplceiaa", sum := "3ba667806f9be170947e4102c3966fab3518669e0e0925f88999f33cd2644b26", func := "loop.example/g00103/laws.FnExactConfOf", spec := "fnExactConfOf", apart := false, narrowed := true }
def FnExactConfOfUptoSaid : Prop := fnExactConfOfUptoRow.holds Try.pinned (OpenSpec.upto fnExactConfOfSpec)

/-- 'laws.FnAlone', WHERE WHAT IT READS IS OF BULK AT MOST 1048576: true; the input reads as it did. -/
def fnAloneUptoRow : OpenClaim := { program := "ytebbgdjmplceiaa", sum := "3ba667806f9be170947e4102c3966fab3518669e0e0925f88999f33cd2644b26", func := "loop.example/g00103/laws.FnAlone", spec := "fnAlone", unfollowed := true, recurses := true, apart := false, narrowed := true }
def FnAloneUptoSaid : Prop := fnAloneUptoRow.holds Try.pinned (OpenSpec.upto fnAloneSpec)

/-- 'laws.FnExactNodeOk', WHERE WHAT IT READS IS OF BULK AT MOST 1048576: true; the input reads as it did. -/
def fnExactNodeOkUptoRow : OpenClaim := { program := "ytebbgdjmplceiaa", sum := "3ba667806f9be170947e4102c3966fab3518669e0e0925f88999f33cd2644b26", func := "loop.example/g00103/laws.FnExactNodeOk", spec := "fnExactNodeOk", unfollowed := true, recurses := true, apart := false, narrowed := true }
def FnExactNodeOkUptoSaid : Prop := fnExactNodeOkUptoRow.holds Try.pinned (OpenSpec.upto fnExactNodeOkSpec)

/-- 'laws.FnExactNodeNew', WHERE WHAT IT READS IS OF BULK AT MOST 1048576: true; the input reads as it did. -/
def fnExactNodeNewUptoRow : OpenClaim := { program := "ytebbgdjmplceiaa", sum := "3ba667806f9be170947e4102c3966fab3518669e0e0925f88999f33cd2644b26", func := "loop.example/g00103/laws.FnExactNodeNew", spec := "fnExactNodeNew", unfollowed := true, recurses := true, apart := false, narrowed := true }
def FnExactNodeNewUptoSaid : Prop := fnExactNodeNewUptoRow.holds Try.pinned (OpenSpec.upto fnExactNodeNewSpec)

/-- 'laws.FnExactSettle', WHERE WHAT IT READS IS OF BULK AT MOST 1048576: true; the input reads as it did. -/
def fnExactSettleUptoRow : OpenClaim := { program := "ytebbgdjmplceiaa", sum := "3ba667806f9be170947e4102c3966fab3518669e0e0925f88999f33cd2644b26", func := "loop.example/g00103/laws.FnExactSettle", spec := "fnExactSettle", unfollowed := true, recurses := true, apart := false, narrowed := true }
def FnExactSettleUptoSaid : Prop := fnExactSettleUptoRow.holds Try.pinned (OpenSpec.upto fnExactSettleSpec)

end Rows
end Go.Proofs.Ytebbgdjmplceiaa
