import Derived.Test.YtmcbbifeekhmgaaGreatDoorPeMem9
namespace Go.Proofs.YtmcbbifeekhmgaaGreatDoor.Pe
open Go Go.RowKit
section
variable {P:Program} {B:Begin} {N:Nat} {fr:Fr} {σ:St} {j:Nat->Hd} {L:Nat->List Nat} {S:Nat->Prop} {a:Act} {w:World} {o:Oper}
theorem Mem.lnkAt (h:Mem P σ j L S w){r e i:Nat}{rows:List (List C)}{cs:List C}{ls:List (Nat×Nat)}(hr:root σ r=.lnk e rows i cs ls):RootRel P j w S r (.lnk e rows i cs ls) (L r):=by
 have:=h.roots r
 rwa [hr]at this
end
end Go.Proofs.YtmcbbifeekhmgaaGreatDoor.Pe
