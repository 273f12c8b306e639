import Derived.Test.YtmcbbifeekhmgaaGreatDoorPeRel
import Derived.Calls
namespace Go.Proofs.YtmcbbifeekhmgaaGreatDoor.Pe
open Go Go.RowKit
def SlRel (z:Nat)(h v:Value)(off len:Nat):Prop:=
 (h=.slice none 0 0/\off=0/\len=0/\v=.slice none 0 0)\/
 ∃g n c A cc,h=.slice (some ⟨g,0,none⟩) n c/\off+len<=n/\v=.slice (some A) len cc/\len<=cc/\off+cc<=c/\(A=⟨g,off*z,none⟩\/cc=0)/\(off=0->A=⟨g,0,none⟩/\cc=c)
def S3Rel (h v:Value)(len:Nat):Prop:=(∃g n c,h=.slice (some ⟨g,0,none⟩) n c/\len<=n/\len<=c/\v=.slice (some ⟨g,0,none⟩) len len)\/(h=.slice none 0 0/\len=0/\v=.slice none 0 0)
def MpEq (es':Array MapEntry)(es:List (ByteArray×Int)):Prop:=es'.toList.map (λe=>(e.key,e.val))=es.map λp=>(Value.string p.1,Value.int .i64 p.2)
section
variable (P:Program) (j:Nat->Hd) (w:World) (S:Nat->Prop)
mutual
def VRel:V->Value->Prop
 |.c c,v=>CRel P w S c v []
 |.sl r e off len,v=>∃h,j r=.hdr h/\SlRel (P.cellsOf e) h v off len
 |.ptr r o,v=>∃g,j r=.blk g/\v=.pointer (some ⟨g,o,none⟩)
 |.el r e i k,v=>∃g n c,j r=.hdr (.slice (some ⟨g,0,none⟩) n c)/\i<n/\v=.pointer (some ⟨g,i*P.cellsOf e+k,none⟩)
 |.rp cs,v=>∃a vals,v=.pointer (some a)/\S a.block/\(∀k u,vals[k]? =some u->w.cell? (a.add k)=some u)/\CsRel P w S cs vals []
 |.agg vs,v=>∃us:List Value,v=.agg us.toArray/\VsRel vs us
 |.tup vs,v=>∃us:List Value,v=.tuple us.toArray/\VsRel vs us
 |.fn f caps,v=>∃us:List Value,v=.func (.func f) #[] us.toArray/\VsRel caps us
 |.undef,_=>True
 |.s3 r _ len,v=>∃h,j r=.hdr h/\S3Rel h v len
 |.mp r,v=>∃g,j r=.blk g/\v=.map (some g)
def VsRel:List V->List Value->Prop
 |[],us=>us=[]
 |x::xs,us=>∃u us',us=u::us'/\VRel x u/\VsRel xs us'
end
def RootRel (r:Nat)(x:Rt)(L:List Nat):Prop:=match x with
 |.no=>j r=.no/\L=[]
 |.gone=>L=[]
 |.box cells=>∃g cur e,j r=.blk g/\w.heap[g]? =some (.cells cur e (0,0))/\VsRel P j w S cells cur.toList/\(∀u∈cur.toList,u.oneCell'=true)/\L=[g]
 |.vec e rows=>∃v,j r=.hdr v/\CRel P w S (.row true e rows) v L
 |.ro e rows=>∃v,j r=.hdr v/\CRel P w S (.row false e rows) v []/\L=[]
 |.lnk e rows i cs ls=>∃v,j r=.hdr v/\CRel P w S (.row true e (rows.set i cs)) v L/\i<rows.length/\
   ∀q∈ls,∃g n c cur t hs,v=.slice (some ⟨g,0,none⟩) n c/\w.heap[g]? =some (.cells cur t (0,0))/\cur.toList[i*P.cellsOf e+q.1]? =some hs/\j q.2=.hdr hs
 |.mp es=>∃g es' clk,j r=.blk g/\w.heap[g]? =some (.map es' clk)/\MpEq es' es/\L=[g]
end
structure Mem (P:Program) (σ:St) (j:Nat->Hd) (L:Nat->List Nat) (S:Nat->Prop) (w:World):Prop where
 roots:∀r,RootRel P j w S r (root σ r) (L r)
 nodup:∀r,(L r).Nodup
 disj:∀r r' b,b∈L r->b∈L r'->r=r'
 owned:∀r b,b∈L r->b<w.heap.size/\¬S b
 stab:∀b,S b->b<w.heap.size
abbrev isTab (k:IntKind)(zs:List Int)(o:Obj):Prop:=∃e z,o=.cells ((zs.map λz=>Value.int k z).toArray) e z
abbrev isErr (o:Obj):Prop:=∃tp p e z,o=.cells #[.iface tp p] e z
abbrev pow10s:List Int:=[1,10,100,1000,10000,100000,1000000,10000000,100000000,1000000000,10000000000,100000000000,1000000000000,10000000000000,100000000000000,1000000000000000,10000000000000000,100000000000000000,1000000000000000000,10000000000000000000]
def globTabs:List (Nat×(Obj->Prop)):=[(1,isTab .u64 pow10s),(2,isErr),(3,isErr)]
def GlbOk (w:World)(own:Nat->Prop):Prop:=∀t∈globTabs,¬own t.1/\∃o,w.heap[t.1]? =some o/\t.2 o
structure Begin where
 w0:World
 own0:Nat->Prop
 S0:Nat->Prop
 m:Nat
 j0:Nat->Hd
 glob:GlbOk w0 own0
structure Since (B:Begin) (j:Nat->Hd) (L:Nat->List Nat) (S:Nat->Prop) (w:World):Prop where
 mine:∀r b,b∈L r->B.own0 b\/B.w0.heap.size<=b
 came:∀b,S b->B.S0 b\/B.own0 b\/B.w0.heap.size<=b
 grow:∀b,B.S0 b->S b
 same:∀r,r<B.m->j r=B.j0 r
 os:w.os=B.w0.os
 tape:w.tape=B.w0.tape
 output:w.output=B.w0.output
 heap:B.w0.heap.size<=w.heap.size
 frame:∀b,b<B.w0.heap.size->¬B.own0 b->w.heap[b]? =B.w0.heap[b]?
structure Rel (P:Program) (B:Begin) (N:Nat) (fr:Fr) (σ:St) (j:Nat->Hd) (L:Nat->List Nat) (S:Nat->Prop) (a:Act) (w:World):Prop where
 size:a.tmps.size=N
 defers:a.defers=[]
 slots:∀t,VRel P j w S (get fr t) (a.eval (.tmp t))
 mem:Mem P σ j L S w
 since:Since B j L S w
theorem Rel.glob {P:Program}{B:Begin}{N:Nat}{fr:Fr}{σ:St}{j:Nat->Hd}{L:Nat->List Nat}{S:Nat->Prop}{a:Act}{w:World}(h:Rel P B N fr σ j L S a w){own:Nat->Prop}(ho:∀b,own b->∃r,b∈L r):GlbOk w own:=λt ht=>by
 obtain⟨h1,o,h2,h3⟩:=B.glob t ht
 have hlt:t.1<B.w0.heap.size:=(Array.getElem?_eq_some_iff.1 h2).1
 refine⟨λhb=> ?_,o,?_,h3⟩
 ·obtain⟨r,hr⟩:=ho _ hb
  rcases h.since.mine r _ hr with h4|h4
  ·exact h1 h4
  ·omega
 ·rw[h.since.frame _ hlt h1];exact h2
section
variable {P:Program} {j j':Nat->Hd} {w w':World} {S S':Nat->Prop}
theorem eval_put {a:Act}{d t:Nat}{v:Value}(hd:d<a.tmps.size):(a.put (some d) v).eval (.tmp t)=if t=d then v else a.eval (.tmp t):=by
 simp only[Act.put,Act.eval,Array.getD_eq_getD_getElem?,Array.getElem?_setIfInBounds]
 by_cases h:d=t
 ·subst h
  simp[hd]
 ·simp[h,Ne.symm h]
theorem size_put {a:Act}{d:Option Nat}{v:Value}:(a.put d v).tmps.size=a.tmps.size:=by
 cases d<;>simp[Act.put]
theorem defers_put {a:Act}{d:Option Nat}{v:Value}:(a.put d v).defers=a.defers:=by
 cases d<;>simp[Act.put]
theorem VRel.undef {v:Value}:VRel P j w S .undef v:=by unfold VRel;trivial
section
variable (hS:∀b,S b->S' b/\w'.heap[b]? =w.heap[b]?) (hj:∀r,j r≠ .no->j' r=j r)
mutual
theorem VRel.same (hS:∀b,S b->S' b/\w'.heap[b]? =w.heap[b]?)(hj:∀r,j r≠ .no->j' r=j r):∀{x:V}{v:Value},VRel P j w S x v->VRel P j' w' S' x v
 |.c c,v,h=>by
  simp only[VRel]at h⊢
  exact h.stays hS (by simp)
 |.sl r e off len,v,h=>by
  simp only[VRel]at h⊢
  obtain⟨u,hu,hs⟩:=h
  exact⟨u,(hj r (by rw[hu];simp)).trans hu,hs⟩
 |.el r e i k,v,h=>by
  simp only[VRel]at h⊢
  obtain⟨g,n,c,hu,hs⟩:=h
  exact⟨g,n,c,(hj r (by rw[hu];simp)).trans hu,hs⟩
 |.ptr r o,v,h=>by
  simp only[VRel]at h⊢
  obtain⟨g,hg,hv⟩:=h
  exact⟨g,(hj r (by rw[hg];simp)).trans hg,hv⟩
 |.s3 r e len,v,h=>by
  simp only[VRel]at h⊢
  obtain⟨u,hu,hs⟩:=h
  exact⟨u,(hj r (by rw[hu];simp)).trans hu,hs⟩
 |.mp r,v,h=>by
  simp only[VRel]at h⊢
  obtain⟨g,hg,hv⟩:=h
  exact⟨g,(hj r (by rw[hg];simp)).trans hg,hv⟩
 |.rp cs,v,h=>by
  simp only[VRel]at h⊢
  obtain⟨a,vals,hv,hs,hcell,hcs⟩:=h
  obtain⟨hs',hb⟩:=hS _ hs
  refine⟨a,vals,hv,hs',λk u hk=> ?_,hcs.stays hS (by simp)⟩
  rw[<-hcell k u hk]
  refine World.cell?_of_block ?_
  have hab:(a.add k).block=a.block:=by unfold Addr.add;split<;>rfl
  rw[hab]
  exact hb
 |.agg vs,v,h=>by
  simp only[VRel]at h⊢
  obtain⟨us,hv,hs⟩:=h
  exact⟨us,hv,VsRel.same hS hj hs⟩
 |.tup vs,v,h=>by
  simp only[VRel]at h⊢
  obtain⟨us,hv,hs⟩:=h
  exact⟨us,hv,VsRel.same hS hj hs⟩
 |.fn f vs,v,h=>by
  simp only[VRel]at h⊢
  obtain⟨us,hv,hs⟩:=h
  exact⟨us,hv,VsRel.same hS hj hs⟩
 |.undef,v,h=>VRel.undef
theorem VsRel.same (hS:∀b,S b->S' b/\w'.heap[b]? =w.heap[b]?)(hj:∀r,j r≠ .no->j' r=j r):∀{xs:List V}{us:List Value},VsRel P j w S xs us->VsRel P j' w' S' xs us
 |[],us,h=>by
  grind [VsRel]
 |x::xs,us,h=>by
  simp only[VsRel]at h⊢
  obtain⟨u,us',e,h1,h2⟩:=h
  exact⟨u,us',e,VRel.same hS hj h1,VsRel.same hS hj h2⟩
end
end
theorem VsRel.len:∀{xs:List V}{us:List Value},VsRel P j w S xs us->us.length=xs.length
 |[],us,h=>by simp only[VsRel]at h;subst h;rfl
 |x::xs,us,h=>by simp only[VsRel]at h;obtain⟨u,us',rfl,_,h2⟩:=h;simp[h2.len]
theorem VsRel.at:∀{xs:List V}{us:List Value},VsRel P j w S xs us->∀{k:Nat}{x:V},xs[k]? =some x->∃u,us[k]? =some u/\VRel P j w S x u
 |[],us,h,k,x,hk=>by simp at hk
 |y::xs,us,h,k,x,hk=>by
  simp only[VsRel]at h
  obtain⟨u,us',rfl,h1,h2⟩:=h
  cases k with
  |zero=>simp only[List.getElem?_cons_zero,Option.some.injEq]at hk;subst hk;exact⟨u,rfl,h1⟩
  |succ k=>simpa using h2.at (k:=k) (by simpa using hk)
theorem VsRel.append {ys:List V}{vs:List Value}(h2:VsRel P j w S ys vs):∀{xs:List V}{us:List Value},VsRel P j w S xs us->VsRel P j w S (xs++ys) (us++vs)
 |[],us,h=>by simp only[VsRel]at h;subst h;exact h2
 |x::xs,us,h=>by
  simp only[VsRel]at h
  obtain⟨u,us',rfl,h1,h3⟩:=h
  simp only[List.cons_append,VsRel]
  exact⟨u,_,rfl,h1,VsRel.append h2 h3⟩
theorem VsRel.split {ys:List V}:∀{xs:List V}{us:List Value},VsRel P j w S (xs++ys) us->∃u1 u2,us=u1++u2/\VsRel P j w S xs u1/\VsRel P j w S ys u2
 |[],us,h=>⟨[],us,rfl,by simp only[VsRel],h⟩
 |x::xs,us,h=>by
  simp only[List.cons_append,VsRel]at h
  obtain⟨u,us',rfl,h1,h2⟩:=h
  obtain⟨u1,u2,rfl,h3,h4⟩:=h2.split
  exact⟨u::u1,u2,rfl,by simp only[VsRel];exact⟨u,u1,rfl,h1,h3⟩,h4⟩
theorem RootRel.same {r:Nat}{x:Rt}{L:List Nat}(h:RootRel P j w S r x L)(hj:∀r,j r≠ .no->j' r=j r)(hr:j' r=j r)(hS:∀b,S b->S' b/\w'.heap[b]? =w.heap[b]?)(hL:∀b∈L,w'.heap[b]? =w.heap[b]?):RootRel P j' w' S' r x L:=by
 cases x with
 |no=>simp only[RootRel]at h⊢;exact⟨hr.trans h.1,h.2⟩
 |gone=>exact h
 |box cells=>
  simp only[RootRel]at h⊢
  obtain⟨g,cur,e,hg,hh,hv,h1,rfl⟩:=h
  exact⟨g,cur,e,hr.trans hg,by rw[hL g (by simp)];exact hh,hv.same hS hj,h1,rfl⟩
 |vec e rows=>
  simp only[RootRel]at h⊢
  obtain⟨v,hv,hc⟩:=h
  exact⟨v,hr.trans hv,hc.stays hS hL⟩
 |ro e rows=>
  simp only[RootRel]at h⊢
  obtain⟨v,hv,hc,hl⟩:=h
  exact⟨v,hr.trans hv,hc.stays hS (by simp),hl⟩
 |lnk e rows i cs ls=>
  simp only[RootRel]at h⊢
  obtain⟨v,hv,hc,hi,hl⟩:=h
  refine⟨v,hr.trans hv,hc.stays hS hL,hi,λq hq=> ?_⟩
  obtain⟨g,n,c,cur,t,hs,hv',hh,hcur,hj'⟩:=hl q hq
  have hg:g∈L:=by
   cases hc with
   |own=>exact List.mem_append_left _ (mem_own1.2 (by rw[hv'];rfl))
  exact⟨g,n,c,cur,t,hs,hv',(hL g hg).trans hh,hcur,(hj q.2 (by rw[hj'];simp)).trans hj'⟩
 |mp es=>
  simp only[RootRel]at h⊢
  obtain⟨g,es',clk,hg,hh,he,rfl⟩:=h
  exact⟨g,es',clk,hr.trans hg,by rw[hL g (by simp)];exact hh,he,rfl⟩
theorem Mem.turn {σ σ':St}{L L':Nat->List Nat}(h:Mem P σ j L S w)(X:Nat->Prop)
  (hσ:∀r,¬X r->root σ' r=root σ r) (hj:∀r,¬X r->j' r=j r) (hL:∀r,¬X r->L' r=L r) (hjn:∀r,j r≠ .no->j' r=j r)
  (hb:∀r b,¬X r->b∈L r->w'.heap[b]? =w.heap[b]? /\¬S' b) (hS:∀b,S b->S' b/\w'.heap[b]? =w.heap[b]?)
  (hX:∀r,X r->RootRel P j' w' S' r (root σ' r) (L' r)) (hXn:∀r,X r->(L' r).Nodup)
  (hXo:∀r b,X r->b∈L' r->b<w'.heap.size/\¬S' b/\(∀r',¬X r'->b∉L r')/\∀r',X r'->b∈L' r'->r=r')
  (hSz:∀b,S' b->b<w'.heap.size) (hw:w.heap.size<=w'.heap.size):Mem P σ' j' L' S' w' where
 roots r:=by
  by_cases hx:X r
  ·exact hX r hx
  ·rw[hσ r hx,hL r hx]
   exact(h.roots r).same hjn (hj r hx) hS (λb hbr=>(hb r b hx hbr).1)
 nodup r:=by
  by_cases hx:X r
  ·exact hXn r hx
  ·rw[hL r hx];exact h.nodup r
 disj r r' b h1 h2:=by
  by_cases hx:X r<;>by_cases hx':X r'
  ·exact(hXo r b hx h1).2.2.2 r' hx' h2
  ·rw[hL r' hx']at h2;exact absurd h2 ((hXo r b hx h1).2.2.1 r' hx')
  ·rw[hL r hx]at h1;exact absurd h1 ((hXo r' b hx' h2).2.2.1 r hx)
  ·rw[hL r hx]at h1;rw[hL r' hx']at h2;exact h.disj r r' b h1 h2
 owned r b h1:=by
  by_cases hx:X r
  ·exact⟨(hXo r b hx h1).1,(hXo r b hx h1).2.1⟩
  ·rw[hL r hx]at h1
   exact⟨Nat.lt_of_lt_of_le (h.owned r b h1).1 hw,(hb r b hx h1).2⟩
 stab:=hSz
theorem Rel.put {B:Begin}{N:Nat}{fr:Fr}{σ:St}{L:Nat->List Nat}{a:Act}(h:Rel P B N fr σ j L S a w){d:Nat}{x:V}{v:Value}(hd:d<N)(hv:VRel P j w S x v):
  Rel P B N ((d,x)::fr) σ j L S (a.put (some d) v) w:=by
 refine{ h with size:=size_put.trans h.size,defers:=defers_put.trans h.defers,slots:=λt=> ?_ }
 rw[get_put,eval_put (by rw[h.size];exact hd)]
 split
 ·exact hv
 ·exact h.slots t
def putd (d:Option Nat)(x:V)(fr:Fr):Fr:=match d with
 |some d=>(d,x)::fr
 |none=>fr
theorem Rel.putd {B:Begin}{N:Nat}{fr:Fr}{σ:St}{L:Nat->List Nat}{a:Act}(h:Rel P B N fr σ j L S a w){d:Option Nat}{x:V}{v:Value}(hd:∀k,d=some k->k<N)(hv:VRel P j w S x v):
  Rel P B N (putd d x fr) σ j L S (a.put d v) w:=by
 cases d with
 |none=>exact h
 |some d=>exact h.put (hd d rfl) hv
theorem Rel.drew {B:Begin}{N:Nat}{fr:Fr}{σ:St}{L:Nat->List Nat}{a:Act}(h:Rel P B N fr σ j L S a w):Rel P B N fr σ j L S a { w with drawn:=w.drawn+1 }:=
 { h with
  slots:=λt=>(h.slots t).same (w:=w) (w':={ w with drawn:=w.drawn+1 }) (λ_ hb=>⟨hb,rfl⟩) (λ_ _=>rfl)
  mem:={ h.mem with roots:=λr=>(h.mem.roots r).same (w:=w) (w':={ w with drawn:=w.drawn+1 }) (λ_ _=>rfl) rfl (λ_ hb=>⟨hb,rfl⟩) (λ_ _=>rfl) }
  since:={ h.since with } }
end
end Go.Proofs.YtmcbbifeekhmgaaGreatDoor.Pe
