import Derived.Test.YthfjkhlgkjgkjaaGreatDoorPeArg
namespace Go.Proofs.YthfjkhlgkjgkjaaGreatDoor.Pe
open Go Go.RowKit
abbrev Big (N:Nat):Prop:=1099511627776<N
def totL {α:Type}(f:α→Nat)(xs:List α):Nat:=xs.length+(xs.map f).sum
theorem maxLen_le:maxLen≤9223372036854775807:=by decide
theorem take_set_succ {α:Type}{xs:List α}{k:Nat}{y:α}(h:k<xs.length):(xs.set k y).take (k+1)=xs.take k++[y]:=by
 rw[List.take_add_one,List.take_set_of_le (Nat.le_refl _),List.getElem?_set_self h]
 rfl
theorem mk_some {α:Type}{z:α}{n:Nat}(h:n≤68719476736):mk? z (n:Int)=some (List.replicate n z):=by
 unfold mk?
 rw[if_pos (by omega),Int.toNat_natCast]
theorem cat_ok {α:Type}{xs ys:List α}(h:xs.length+ys.length≤68719476736):cat? xs ys=some (xs++ys):=by
 unfold cat?
 rw[if_pos h]
theorem take_ok {α:Type}{xs:List α}{i:Nat}(h:i≤xs.length):take? xs (i:Int)=some (xs.take i):=by
 unfold take?
 rw[if_pos (by omega),Int.toNat_natCast]
theorem scat_ok {t u:ByteArray}(h:t.size+u.size≤9223372036854775807):scat? t u=some (t++u):=by
 unfold scat?
 rw[if_pos h]
end Go.Proofs.YthfjkhlgkjgkjaaGreatDoor.Pe
