import Derived.Test.YthlhkcnilehbbaaPeLib
import Derived.Test.YthlhkcnilehbbaaPeFFnLogs7
namespace Go.Proofs.Ythlhkcnilehbbaa.Pe.FnLogs
open Go Go.RowKit
set_option linter.unusedVariables false
set_option linter.unusedSimpArgs false
set_option maxHeartbeats 40000000
theorem at_set {α : Type} {xs : List α} {k : Nat} (h : k < xs.length) (y : α) : at? (xs.set k y) (k : Int) = some y := by
 unfold at?
 rw [if_pos (by omega),Int.toNat_natCast,List.getElem?_set_self h]
theorem le_sum {α : Type} {f : α → Nat} {y : α} : ∀ {xs : List α},y ∈ xs → f y ≤ (xs.map f).sum
 | x :: xs,h => by
  rcases List.mem_cons.1 h with rfl | h
  ·simp
  ·have := le_sum (f := f) h
   simp only [List.map_cons,List.sum_cons]
   omega
end Go.Proofs.Ythlhkcnilehbbaa.Pe.FnLogs
