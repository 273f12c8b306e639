import Derived.RowKit
namespace Go.Proofs.YtmcbbifeekhmgaaGreatDoor.Pe
open Go
inductive C where
 |b (x:Bool)
 |i (k:IntKind) (n:Int)
 |s (x:ByteArray)
 |row (own:Bool) (e:Nat) (rows:List (List C))
 |nilp
 |dead
inductive V where
 |c (x:C)
 |sl (r e off len:Nat)
 |ptr (r o:Nat)
 |el (r e i k:Nat)
 |rp (cs:List C)
 |agg (vs:List V)
 |tup (vs:List V)
 |fn (f:Nat) (caps:List V)
 |undef
 |s3 (r e len:Nat)
 |mp (r:Nat)
inductive Rt where
 |no
 |gone
 |box (cells:List V)
 |vec (e:Nat) (rows:List (List C))
 |ro (e:Nat) (rows:List (List C))
 |lnk (e:Nat) (rows:List (List C)) (i:Nat) (cs:List C) (ls:List (Nat×Nat))
 |mp (es:List (ByteArray×Int))
inductive A where
 |t (n:Nat)
 |c (v:V)
inductive O where
 |mv (x:A)
 |pk (c a b:A)
 |al (z:List C)
 |bx (x:A)
 |bd (z:List C) (ps:List (Nat×Nat×A))
 |bs (e:Nat) (n:Nat) (z:List C) (ps:List (Nat×Nat×A))
 |ld (n:Nat) (ag:Bool) (x:A)
 |sto (n:Nat) (x v:A)
 |nc (x:A)
 |bi (op:BinOp) (x y:A)
 |eqs (ne:Bool) (ks:List Nat) (x y:A)
 |bb (ne:Bool) (x y:A)
 |un (op:UnOp) (x:A)
 |cv (k:IntKind) (x:A)
 |sb (x:A)
 |bs_ (e:Nat) (x:A)
 |mf (f:Nat) (caps:List A)
 |ms (e:Nat) (z:List C) (l c:A)
 |sl (e:Nat) (x:A) (lo hi:Option A)
 |ss (x:A) (lo hi:Option A)
 |fa (off:Nat) (x:A)
 |fd (off n:Nat) (ag:Bool) (x:A)
 |ia (e:Nat) (x i:A)
 |ix (x i:A)
 |ex (x:A) (k:Nat)
 |cl (f:Nat) (xs:List A)
 |cx (f:A) (xs:List A)
 |ln (str:Bool) (x:A)
 |ap (e:Nat) (x y:A)
 |aps (e:Nat) (x y:A)
 |mx (x y:A)
 |mn (x y:A)
 |clr (e:Nat) (z:List C) (x:A)
 |cp (x:A)
 |apz (e:Nat) (z:List C) (x n:A)
 |bad
 |s3 (e:Nat) (x h m:A)
 |mk
 |mu (m k v:A)
 |lk (m k:A)
structure Op1 where
 d:Option Nat
 g:Option (Nat×Bool)
 a:List Nat
 o:O
abbrev Op1.m (d a:Nat):Op1:=⟨some d,none,[],.mv (.t a)⟩
abbrev Op1.w (d:Nat)(o:O):Op1:=⟨some d,none,[],o⟩
abbrev Op1.n (o:O):Op1:=⟨none,none,[],o⟩
abbrev Op1.q (d:Nat)(l:List Nat)(o:O):Op1:=⟨some d,none,l,o⟩
abbrev Op1.u (d t:Nat)(b:Bool)(o:O):Op1:=⟨some d,some (t,b),[],o⟩
abbrev A.k (n:Int):A:=.c (.c (.i .i64 n))
abbrev C.z:C:=.i .i64 0
abbrev O.l1 (t:Nat):O:=.ld 1 false (.t t)
inductive K where
 |skip
 |ops (site:Nat) (draw:Bool) (l:List Op1)
 |seq (a b:K)
 |cond (c:A) (x y:K)
 |block (n:Nat) (x:K)
 |loop (x:K)
 |exit (n:Nat)
 |ret
abbrev K.os (n:Nat)(l:List Op1):K:=.ops n false l
structure F where
 params:Nat
 slots:Nat
 res:List (Nat×Option (Nat×Bool))
 body:K
abbrev Fr:=List (Nat×V)
abbrev St:=List (Nat×Rt)
def get:Fr->Nat->V
 |[],_=>.undef
 |(k,v)::l,j=>match Nat.decEq j k with|.isTrue _=>v|.isFalse _=>get l j
def root:St->Nat->Rt
 |[],_=>.no
 |(k,v)::l,j=>match Nat.decEq j k with|.isTrue _=>v|.isFalse _=>root l j
def val (fr:Fr):A->V
 |.t n=>get fr n
 |.c v=>v
theorem get_put {fr:Fr}{d t:Nat}{v:V}:get ((d,v)::fr) t=if t=d then v else get fr t:=by
 simp only[get]
 cases h:Nat.decEq t d with
 |isTrue e=>simp[e]
 |isFalse e=>simp[e]
theorem root_put {σ:St}{d t:Nat}{v:Rt}:root ((d,v)::σ) t=if t=d then v else root σ t:=by
 simp only[root]
 cases h:Nat.decEq t d with
 |isTrue e=>simp[e]
 |isFalse e=>simp[e]
end Go.Proofs.YtmcbbifeekhmgaaGreatDoor.Pe
