import Derived.Test.YtmcbbifeekhmgaaGreatDoorPeState
import Derived.Test.YtmcbbifeekhmgaaGreatDoorPeStrip
import Derived.Laws.Sem
import Derived.Laws.Cells
namespace Go.Proofs.YtmcbbifeekhmgaaGreatDoor.Pe
open Go Go.RowKit
def takeN {α:Type}:Nat->List α->Option (List α)
 |0,_=>some []
 |_+1,[]=>none
 |n+1,x::xs=>match takeN n xs with
  |some l=>some (x::l)
  |none=>none
theorem takeN_some {α:Type}:∀{n:Nat}{xs l:List α},takeN n xs=some l->xs=l++xs.drop n/\l.length=n
 |0,xs,l,h=>by simp only[takeN,Option.some.injEq]at h;subst h;simp
 |n+1,[],l,h=>by simp[takeN]at h
 |n+1,x::xs,l,h=>by
  simp only[takeN]at h
  cases e:takeN n xs with
  |none=>simp[e]at h
  |some l'=>
   simp only[e,Option.some.injEq]at h
   subst h
   obtain⟨h1,h2⟩:=takeN_some e
   grind
def nf:V->Option V
 |.c c=>some (.c c)
 |.sl r e off len=>some (.sl r e off len)
 |.ptr r o=>some (.ptr r o)
 |.el r e i k=>some (.el r e i k)
 |.rp cs=>some (.rp cs)
 |.agg vs=>some (.agg vs)
 |.tup vs=>some (.tup vs)
 |.fn f cs=>some (.fn f cs)
 |.undef=>some .undef
 |.s3 r e len=>some (.s3 r e len)
 |.mp r=>some (.mp r)
theorem nf_some {v x:V}(h:nf v=some x):x=v:=by cases v<;>simp only[nf,Option.some.injEq]at h<;>exact h.symm
def nfL:List V->Option (List V)
 |[]=>some []
 |v::vs=>match nf v,nfL vs with
  |some x,some xs=>some (x::xs)
  |_,_=>none
theorem nfL_some:∀{vs xs:List V},nfL vs=some xs->xs=vs
 |[],xs,h=>by simp only[nfL,Option.some.injEq]at h;exact h.symm
 |v::vs,xs,h=>by
  simp only[nfL]at h
  split at h<;>simp only[Option.some.injEq,reduceCtorEq]at h
  rename_i x ys h1 h2
  subst h
  rw[nf_some h1,nfL_some h2]
def readC:C->Option V
 |.row true _ _=>none
 |.row false e rows=>some (.c (.row false e rows))
 |.b x=>some (.c (.b x))
 |.i k n=>some (.c (.i k n))
 |.s x=>some (.c (.s x))
 |.nilp=>some (.c .nilp)
 |.dead=>none
def reads:List C->Option (List V)
 |[]=>some []
 |c::cs=>match readC c,reads cs with
  |some v,some vs=>some (v::vs)
  |_,_=>none
def mkV:Bool->List V->Option V
 |true,vs=>some (.agg vs)
 |false,[v]=>some v
 |false,_=>none
def binV (op:BinOp):V->V->Option V
 |.c (.i k x),.c (.i k' y)=>if k=k' then match op with
  |.eql=>some (.c (.b (x==y)))
  |.neq=>some (.c (.b (x !=y)))
  |.lss=>some (.c (.b (decide (x<y))))
  |.leq=>some (.c (.b (decide (x<=y))))
  |.gtr=>some (.c (.b (decide (x>y))))
  |.geq=>some (.c (.b (decide (x>=y))))
  |.add=>some (.c (.i k (k.wrap (x+y))))
  |.sub=>some (.c (.i k (k.wrap (x-y))))
  |.mul=>some (.c (.i k (k.wrap (x*y))))
  |_=>none else none
 |.c (.s x),.c (.s y)=>match op with
  |.eql=>some (.c (.b (decide (x=y))))
  |.neq=>some (.c (.b (!decide (x=y))))
  |.lss=>some (.c (.b (Op.bytesLess x.toList y.toList)))
  |.leq=>some (.c (.b (Op.bytesLess x.toList y.toList||decide (x=y))))
  |.gtr=>some (.c (.b (!(Op.bytesLess x.toList y.toList||decide (x=y)))))
  |.geq=>some (.c (.b (!Op.bytesLess x.toList y.toList)))
  |_=>none
 |_,_=>none
def eqC:List Nat->List V->List V->Option Bool
 |[],[],[]=>some true
 |0::ks,.c (.i k x)::us,.c (.i k' y)::vs=>match decide (k=k'),eqC ks us vs with
  |true,some r=>some ((x==y)&&r)
  |_,_=>none
 |1::ks,.c (.s x)::us,.c (.s y)::vs=>match eqC ks us vs with
  |some r=>some (decide (x=y)&&r)
  |none=>none
 |2::ks,.c (.b x)::us,.c (.b y)::vs=>match eqC ks us vs with
  |some r=>some ((x==y)&&r)
  |none=>none
 |_,_,_=>none
def pure1 (fr:Fr)(σ:St):O->Option V
 |.mv x=>nf (val fr x)
 |.nc x=>match val fr x with
  |.ptr r o=>some (.ptr r o)
  |.el r e i k=>some (.el r e i k)
  |.rp cs=>some (.rp cs)
  |.fn f cs=>some (.fn f cs)
  |_=>none
 |.pk c a b=>match val fr c with
  |.c (.b true)=>nf (val fr a)
  |.c (.b false)=>nf (val fr b)
  |_=>none
 |.ln false x=>match val fr x with
  |.sl _ _ _ len=>some (.c (.i .i64 len))
  |.c (.row false _ rows)=>some (.c (.i .i64 rows.length))
  |.c (.row true _ [])=>some (.c (.i .i64 0))
  |_=>none
 |.ln true x=>match val fr x with
  |.c (.s s)=>some (.c (.i .i64 s.size))
  |_=>none
 |.bi op x y=>match val fr x,val fr y with
  |v,u=>binV op v u
 |.eqs ne ks x y=>match val fr x,val fr y with
  |.agg us,.agg vs=>match eqC ks us vs with
   |some r=>some (.c (.b (r ^^ ne)))
   |none=>none
  |_,_=>none
 |.bb ne x y=>match val fr x,val fr y with
  |.c (.b a),.c (.b b)=>some (.c (.b (a==b ^^ ne)))
  |_,_=>none
 |.un .not x=>match val fr x with
  |.c (.b t)=>some (.c (.b (!t)))
  |_=>none
 |.un .neg x=>match val fr x with
  |.c (.i k n)=>some (.c (.i k (k.wrap (-n))))
  |_=>none
 |.cv k x=>match val fr x with
  |.c (.i _ n)=>some (.c (.i k (k.wrap n)))
  |_=>none
 |.cp x=>match val fr x with
  |.c (.row true _ [])=>some (.c (.i .i64 0))
  |_=>none
 |.mx x y=>match val fr x,val fr y with
  |.c (.i .i64 a),.c (.i .i64 b)=>some (.c (.i .i64 (if a<b then b else a)))
  |_,_=>none
 |.mn x y=>match val fr x,val fr y with
  |.c (.i .i64 a),.c (.i .i64 b)=>some (.c (.i .i64 (if b<a then b else a)))
  |_,_=>none
 |.fa off x=>match val fr x with
  |.ptr r o=>some (.ptr r (o+off))
  |.el r e i k=>some (.el r e i (k+off))
  |.rp cs=>some (.rp (cs.drop off))
  |_=>none
 |.fd off n ag x=>match val fr x with
  |.agg vs=>match takeN n (vs.drop off)with
   |some l=>mkV ag l
   |none=>none
  |_=>none
 |.ld n ag x=>match val fr x with
  |.ptr r o=>match root σ r with
   |.box cells=>match takeN n (cells.drop o)with
    |some l=>mkV ag l
    |none=>none
   |_=>none
  |.rp cs=>match takeN n cs with
   |some l=>match reads l with
    |some vs=>mkV ag vs
    |none=>none
   |none=>none
  |_=>none
 |.ex x k=>match val fr x with
  |.tup vs=>vs[k]?
  |_=>none
 |.mf f xs=>some (.fn f (xs.map (val fr)))
 |_=>none
section
variable {P:Program} {B:Begin} {N:Nat} {fr:Fr} {σ:St} {j:Nat->Hd} {L:Nat->List Nat} {S:Nat->Prop} {a:Act} {w:World}
theorem nil_own {e:Nat}{v:Value}(h:CRel P w S (.row true e []) v []):v=.slice none 0 0:=by
 generalize hL:([]:List Nat)=L0 at h
 cases h with
 |own _ _ _ vals L hz ho hcs=>
  rcases ho.2 with ⟨h,_⟩|⟨g,cap,cur,rfl,_⟩
  ·exact h
  ·simp[own1,Value.ownBlock]at hL
theorem own_nil (e:Nat):CRel P w S (.row true e []) (.slice none 0 0) []:=by
 have:=CRel.own (P:=P) (w:=w) (S:=S) e [] (.slice none 0 0) [] [] (by simp) (World.ownsRow_nil w 0 _ _) (by simpa using CsRel.nil)
 simpa[own1,Value.ownBlock]using this
theorem vOf_rel {t:Nat}{v:Value}{x:V}(h:vOf P t v=some x):VRel P j w S x v:=by
 unfold vOf at h
 split at h<;>simp only[Option.some.injEq,reduceCtorEq]at h<;>subst h<;>simp only[VRel]
 ·exact .b _
 ·exact .i _ _
 ·exact .s _
 ·exact .nilp
 ·exact own_nil _
theorem aOf_rel (h:Rel P B N fr σ j L S a w){t:Nat}{x:Operand}{y:A}(hx:aOf P t x=some y):VRel P j w S (val fr y) (a.eval x):=by
 unfold aOf at hx
 split at hx
 ·simp only[Option.some.injEq]at hx;subst hx;exact h.slots _
 ·simp only[Option.map_eq_some_iff]at hx
  obtain⟨v,hv,rfl⟩:=hx
  exact vOf_rel hv
 ·simp only[Option.some.injEq]at hx
  subst hx
  simp only[val,VRel,Act.eval]
  exact⟨[],rfl,rfl⟩
 ·simp at hx
theorem asOf_rel (h:Rel P B N fr σ j L S a w):∀{xs:List Operand}{ts:List TypeId}{ys:List A},asOf P xs ts=some ys->VsRel P j w S (ys.map (val fr)) (xs.map a.eval)
 |[],ts,ys,hx=>by
  grind [asOf,Option.some.injEq,VsRel]
 |x::xs,ts,ys,hx=>by
  simp only[asOf]at hx
  split at hx<;>simp only[Option.some.injEq,reduceCtorEq]at hx
  rename_i y ys' h1 h2
  subst hx
  simp only[List.map_cons,VsRel]
  exact⟨_,_,rfl,aOf_rel h h1,asOf_rel h h2⟩
theorem zOk_rel {j:Nat->Hd}:∀{cs:List C}{vs:List Value},zOk cs vs=true->VsRel P j w S (cs.map .c) vs/\CsRel P w S cs vs []/\(∀u∈vs,u.oneCell'=true)/\vs.length=cs.length
 |[],[],_=>⟨by simp only[List.map_nil,VsRel],.nil,by simp,rfl⟩
 |[],_::_,h=>by simp[zOk]at h
 |_::_,[],h=>by simp[zOk]at h
 |c::cs,v::vs,h=>by
  simp only[zOk,Bool.and_eq_true]at h
  obtain⟨h1,h2⟩:=h
  have key:CRel P w S c v []:=by
   split at h1
   ·simp only[beq_iff_eq]at h1;subst h1;exact .b _
   ·simp only[Bool.and_eq_true,beq_iff_eq]at h1;obtain⟨rfl,rfl⟩:=h1;exact .i _ _
   ·exact .s _
   ·exact own_nil _
   ·exact .nilp
   ·simp at h1
  obtain⟨h3,h4,h5,h6⟩:=zOk_rel (j:=j) h2
  refine⟨by simp only[List.map_cons,VsRel];exact⟨v,vs,rfl,by simp only[VRel];exact key,h3⟩,?_,?_,by simp[h6]⟩
  ·have:=CsRel.cons (P:=P) c cs v vs [] [] key h4
   simpa using this
  ·intro u hu
   rcases List.mem_cons.1 hu with rfl|hu
   ·exact key.one
   ·exact h5 u hu
theorem zOf_some {t:Nat}{cs:List C}(h:zOf P t=some cs):∃i z,P.info? t=some i/\i.zero=some z/\i.size=cs.length/\zOk cs z.cells.toList=true:=by
 unfold zOf at h
 grind
theorem readC_rel {c:C}{x:V}{v:Value}{L':List Nat}(hx:readC c=some x)(hc:CRel P w S c v L'):VRel P j w S x v:=by
 cases c with
 |row own e rows=>
  cases own with
  |true=>simp[readC]at hx
  |false=>
   simp only[readC,Option.some.injEq]at hx
   subst hx
   simp only[VRel]
   cases hc with
   |ro _ _ A n c vals hz hn hc h0 hv hA hcs=>exact .ro _ _ A n c vals hz hn hc h0 hv hA hcs
 |b t=>simp only[readC,Option.some.injEq]at hx;subst hx;cases hc;simp only[VRel];exact .b _
 |i k n=>simp only[readC,Option.some.injEq]at hx;subst hx;cases hc;simp only[VRel];exact .i _ _
 |s t=>simp only[readC,Option.some.injEq]at hx;subst hx;cases hc;simp only[VRel];exact .s _
 |nilp=>simp only[readC,Option.some.injEq]at hx;subst hx;cases hc;simp only[VRel];exact .nilp
 |dead=>simp[readC]at hx
theorem reads_rel:∀{cs:List C}{xs:List V}{vs:List Value}{L':List Nat},reads cs=some xs->CsRel P w S cs vs L'->VsRel P j w S xs vs
 |[],xs,vs,L',hx,hc=>by
  simp only[reads,Option.some.injEq]at hx
  subst hx
  cases hc
  simp only[VsRel]
 |c::cs,xs,vs,L',hx,hc=>by
  simp only[reads]at hx
  cases e1:readC c with
  |none=>simp[e1]at hx
  |some v=>
   cases e2:reads cs with
   |none=>simp[e1,e2]at hx
   |some l=>
    simp only[e1,e2,Option.some.injEq]at hx
    subst hx
    cases hc with
    |cons _ _ u us L1 L2 h1 h2=>
     simp only[VsRel]
     exact⟨u,us,rfl,readC_rel e1 h1,reads_rel e2 h2⟩
end
end Go.Proofs.YtmcbbifeekhmgaaGreatDoor.Pe
