import Derived.Test.YtmcbbifeekhmgaaGreatDoorPeArg
namespace Go.Proofs.YtmcbbifeekhmgaaGreatDoor.Pe
open Go Go.RowKit
abbrev Big (N:Nat):Prop:=1099511627776<N
def totL {α:Type}(f:α->Nat)(xs:List α):Nat:=xs.length+(xs.map f).sum
theorem cat_ok {α:Type}{xs ys:List α}(h:xs.length+ys.length<=68719476736):cat? xs ys=some (xs++ys):=by
 unfold cat?
 rw[if_pos h]
theorem drop_ok {α:Type}{xs:List α}{i:Nat}(h:i<=xs.length):drop? xs (i:Int)=some (xs.drop i):=by
 unfold drop?
 rw[if_pos (by omega),Int.toNat_natCast]
theorem take_ok {α:Type}{xs:List α}{i:Nat}(h:i<=xs.length):take? xs (i:Int)=some (xs.take i):=by
 unfold take?
 rw[if_pos (by omega),Int.toNat_natCast]
theorem scat_ok {t u:ByteArray}(h:t.size+u.size<=9223372036854775807):scat? t u=some (t++u):=by
 unfold scat?
 rw[if_pos h]
end Go.Proofs.YtmcbbifeekhmgaaGreatDoor.Pe
