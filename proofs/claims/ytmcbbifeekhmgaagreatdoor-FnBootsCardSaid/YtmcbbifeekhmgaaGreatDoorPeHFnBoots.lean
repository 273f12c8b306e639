import Derived.Test.YtmcbbifeekhmgaaGreatDoorPeLib
import Derived.Test.YtmcbbifeekhmgaaGreatDoorPeFFnBoots4
namespace Go.Proofs.YtmcbbifeekhmgaaGreatDoor.Pe.FnBoots
open Go Go.RowKit
set_option linter.unusedVariables false
set_option linter.unusedSimpArgs false
set_option maxHeartbeats 40000000
theorem le_sum {α:Type}{f:α->Nat}{y:α}:∀{xs:List α},y∈xs->f y<=(xs.map f).sum
 |x::xs,h=>by
  rcases List.mem_cons.1 h with rfl|h
  ·simp
  ·have:=le_sum (f:=f) h
   simp only[List.map_cons,List.sum_cons]
   omega
end Go.Proofs.YtmcbbifeekhmgaaGreatDoor.Pe.FnBoots
