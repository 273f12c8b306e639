import Derived.Test.YtmcbbifeekhmgaaGreatDoorPeMem7
namespace Go.Proofs.YtmcbbifeekhmgaaGreatDoor.Pe
open Go Go.RowKit
def idx:List Nat->Nat->Option Nat
 |[],_=>none
 |x::xs,r=>match Nat.decEq r x with
  |.isTrue _=>some 0
  |.isFalse _=>match idx xs r with
   |some k=>some (k+1)
   |none=>none
theorem idx_cons {x r:Nat}{xs:List Nat}:idx (x::xs) r=if r=x then some 0 else(idx xs r).map (· +1):=by
 simp only[idx]
 cases h:Nat.decEq r x with
 |isTrue e=>simp[e]
 |isFalse e=>
  grind
theorem idx_some:∀{ρ:List Nat}{r k:Nat},idx ρ r=some k->ρ[k]? =some r
 |[],r,k,h=>by simp[idx]at h
 |x::xs,r,k,h=>by
  simp only[idx]at h
  split at h
  ·grind
  ·split at h<;>simp only[Option.some.injEq,reduceCtorEq]at h
   rename_i k' hk
   subst h
   simpa using idx_some hk
mutual
def renV (φ:Nat->Option Nat):V->V
 |.c c=>.c c
 |.sl r e off len=>match φ r with
  |some k=>.sl k e off len
  |none=>.undef
 |.ptr r o=>match φ r with
  |some k=>.ptr k o
  |none=>.undef
 |.el r e i k=>match φ r with
  |some q=>.el q e i k
  |none=>.undef
 |.rp cs=>.rp cs
 |.agg vs=>.agg (renVs φ vs)
 |.tup vs=>.tup (renVs φ vs)
 |.fn f vs=>.fn f (renVs φ vs)
 |.undef=>.undef
 |.s3 r e len=>match φ r with
  |some k=>.s3 k e len
  |none=>.undef
 |.mp r=>match φ r with
  |some k=>.mp k
  |none=>.undef
def renVs (φ:Nat->Option Nat):List V->List V
 |[]=>[]
 |v::vs=>renV φ v::renVs φ vs
end
def renRt (φ:Nat->Option Nat):Rt->Rt
 |.box cells=>.box (renVs φ cells)
 |.no=>.no
 |.gone=>.gone
 |.vec e rows=>.vec e rows
 |.ro e rows=>.ro e rows
 |.lnk e rows i cs _=>.vec e (rows.set i cs)
 |.mp es=>.mp es
def pickFrom (φ:Nat->Option Nat)(σ:St):Nat->List Nat->St
 |_,[]=>[]
 |n,r::rs=>(n,renRt φ (root σ r))::pickFrom φ σ (n+1) rs
def pickS (ρ:List Nat)(σ:St):St:=pickFrom (idx ρ) σ 0 ρ
theorem root_pickFrom {φ:Nat->Option Nat}{σ:St}:∀{ρ:List Nat}{n k:Nat},root (pickFrom φ σ n ρ) k=if n<=k then(match ρ[k-n]? with|some r=>renRt φ (root σ r)|none=>.no)else .no
 |[],n,k=>by simp[pickFrom,root]
 |r::ρ,n,k=>by
  rw[pickFrom,root_put,root_pickFrom]
  grind
theorem root_pick {ρ:List Nat}{σ:St}{k:Nat}:root (pickS ρ σ) k=match ρ[k]? with|some r=>renRt (idx ρ) (root σ r)|none=>.no:=by
 grind [pickS,root_pickFrom]
def pickj (ρ:List Nat)(j:Nat->Hd)(k:Nat):Hd:=match ρ[k]? with
 |some r=>j r
 |none=>.no
def pickL (ρ:List Nat)(L:Nat->List Nat)(k:Nat):List Nat:=match ρ[k]? with
 |some r=>L r
 |none=>[]
section
variable {P:Program} {B:Begin} {N:Nat} {fr:Fr} {σ:St} {j j':Nat->Hd} {L:Nat->List Nat} {S:Nat->Prop} {a:Act} {w w':World} {o:Oper}
mutual
theorem VRel.ren {φ:Nat->Option Nat}(hφ:∀r k,φ r=some k->j r≠ .no->j' k=j r):∀{x:V}{v:Value},VRel P j w S x v->VRel P j' w S (renV φ x) v
 |.c c,v,h=>by simpa only[renV,VRel]using h
 |.sl r e off len,v,h=>by
  simp only[renV]
  split
  ·rename_i k hk
   simp only[VRel]at h⊢
   obtain⟨g,hg,hr⟩:=h
   exact⟨g,(hφ r k hk (by rw[hg];simp)).trans hg,hr⟩
  ·exact VRel.undef
 |.s3 r e len,v,h=>by
  simp only[renV]
  split
  ·rename_i k hk
   simp only[VRel]at h⊢
   obtain⟨g,hg,hr⟩:=h
   exact⟨g,(hφ r k hk (by rw[hg];simp)).trans hg,hr⟩
  ·exact VRel.undef
 |.ptr r o,v,h=>by
  simp only[renV]
  split
  ·rename_i k hk
   simp only[VRel]at h⊢
   obtain⟨g,hg,hr⟩:=h
   exact⟨g,(hφ r k hk (by rw[hg];simp)).trans hg,hr⟩
  ·exact VRel.undef
 |.mp r,v,h=>by
  simp only[renV]
  split
  ·rename_i k hk
   simp only[VRel]at h⊢
   obtain⟨g,hg,hr⟩:=h
   exact⟨g,(hφ r k hk (by rw[hg];simp)).trans hg,hr⟩
  ·exact VRel.undef
 |.el r e i k,v,h=>by
  simp only[renV]
  split
  ·rename_i q hk
   simp only[VRel]at h⊢
   obtain⟨g,n,c,hg,hr⟩:=h
   exact⟨g,n,c,(hφ r q hk (by rw[hg];simp)).trans hg,hr⟩
  ·exact VRel.undef
 |.rp cs,v,h=>by simpa only[renV,VRel]using h
 |.agg vs,v,h=>by
  simp only[renV,VRel]at h⊢
  obtain⟨us,hv,hs⟩:=h
  exact⟨us,hv,VsRel.ren hφ hs⟩
 |.tup vs,v,h=>by
  simp only[renV,VRel]at h⊢
  obtain⟨us,hv,hs⟩:=h
  exact⟨us,hv,VsRel.ren hφ hs⟩
 |.fn f vs,v,h=>by
  simp only[renV,VRel]at h⊢
  obtain⟨us,hv,hs⟩:=h
  exact⟨us,hv,VsRel.ren hφ hs⟩
 |.undef,v,h=>by simp only[renV];exact VRel.undef
theorem VsRel.ren {φ:Nat->Option Nat}(hφ:∀r k,φ r=some k->j r≠ .no->j' k=j r):∀{xs:List V}{us:List Value},VsRel P j w S xs us->VsRel P j' w S (renVs φ xs) us
 |[],us,h=>by simpa only[renVs,VsRel]using h
 |x::xs,us,h=>by
  simp only[renVs,VsRel]at h⊢
  obtain⟨u,us',e,h1,h2⟩:=h
  exact⟨u,us',e,VRel.ren hφ h1,VsRel.ren hφ h2⟩
end
theorem RootRel.ren {φ:Nat->Option Nat}(hφ:∀r k,φ r=some k->j r≠ .no->j' k=j r){r k:Nat}(hk:j' k=j r){x:Rt}{L0:List Nat}(h:RootRel P j w S r x L0):RootRel P j' w S k (renRt φ x) L0:=by
 cases x with
 |no=>simp only[renRt,RootRel]at h⊢;rw[hk];exact h
 |gone=>exact h
 |box cells=>
  simp only[renRt,RootRel]at h⊢
  obtain⟨g,cur,e,hg,hh,hv,h1,rfl⟩:=h
  exact⟨g,cur,e,hk.trans hg,hh,hv.ren hφ,h1,rfl⟩
 |vec e rows=>simp only[renRt,RootRel]at h⊢;rw[hk];exact h
 |ro e rows=>simp only[renRt,RootRel]at h⊢;rw[hk];exact h
 |lnk e rows i cs ls=>
  simp only[renRt,RootRel]at h⊢
  obtain⟨v,hv,hc,_⟩:=h
  exact⟨v,hk.trans hv,hc⟩
 |mp es=>simp only[renRt,RootRel]at h⊢;rw[hk];exact h
theorem nodup_get {ρ:List Nat}(h:ρ.Nodup){i k r:Nat}(hi:ρ[i]? =some r)(hk:ρ[k]? =some r):i=k:=by
 obtain⟨h1,e1⟩:=List.getElem?_eq_some_iff.1 hi
 obtain⟨h2,e2⟩:=List.getElem?_eq_some_iff.1 hk
 have hp:=List.pairwise_iff_getElem.1 h
 rcases Nat.lt_trichotomy i k with hlt|heq|hgt
 ·grind
 ·exact heq
 grind
theorem pick_idx {ρ:List Nat}:∀r k,idx ρ r=some k->j r≠ .no->pickj ρ j k=j r:=by
 intro r k h _
 unfold pickj
 rw[idx_some h]
theorem Mem.pick (h:Mem P σ j L S w){ρ:List Nat}(hρ:ρ.Nodup):Mem P (pickS ρ σ) (pickj ρ j) (pickL ρ L) S w where
 roots k:=by
  rw[root_pick]
  cases hk:ρ[k]? with
  |none=>simp[RootRel,pickj,pickL,hk]
  |some r=>
   simp only[pickL,hk]
   exact(h.roots r).ren pick_idx (by simp[pickj,hk])
 nodup k:=by
  unfold pickL
  split
  ·exact h.nodup _
  ·simp
 disj k k' b h1 h2:=by
  unfold pickL at h1 h2
  split at h1
  ·rename_i r hr
   split at h2
   ·rename_i r' hr'
    have:=h.disj r r' b h1 h2
    subst this
    exact nodup_get hρ hr hr'
   ·simp at h2
  ·simp at h1
 owned k b h1:=by
  unfold pickL at h1
  split at h1
  ·exact h.owned _ b h1
  ·simp at h1
 stab:=h.stab
def keepF (φ:Nat->Option Nat)(fr:Fr):List Nat->Fr
 |[]=>[]
 |t::ts=>(t,renV φ (get fr t))::keepF φ fr ts
theorem get_keepF {φ:Nat->Option Nat}{fr:Fr}{t:Nat}:∀{ts:List Nat},get (keepF φ fr ts) t=renV φ (get fr t)\/get (keepF φ fr ts) t=.undef
 |[]=>.inr rfl
 |t'::ts=>by
  rw[keepF,get_put]
  by_cases h:t=t'
  ·subst h;simp
  ·rw[if_neg h];exact get_keepF
theorem Rel.pick (h:Rel P B N fr σ j L S a w){ρ:List Nat}(hρ:ρ.Nodup)(hm:∀k,k<B.m->ρ[k]? =some k)(ts:List Nat):Rel P B N (keepF (idx ρ) fr ts) (pickS ρ σ) (pickj ρ j) (pickL ρ L) S a w where
 size:=h.size
 defers:=h.defers
 slots t:=by
  rcases get_keepF (φ:=idx ρ) (fr:=fr) (t:=t) (ts:=ts)with e|e
  ·rw[e];exact(h.slots t).ren pick_idx
  ·rw[e];exact VRel.undef
 mem:=h.mem.pick hρ
 since:={ h.since with
  mine:=λk b hb=>by
   unfold pickL at hb
   split at hb
   ·exact h.since.mine _ b hb
   ·simp at hb
  same:=λk hk=>by
   unfold pickj
   rw[hm k hk]
   exact h.since.same k hk }
def nilN1:V->Nat
 |.c (.row true _ [])=>1
 |_=>0
def nilV1 (c:Nat):V->V
 |.c (.row true e [])=>.sl c e 0 0
 |x=>x
def nilA1 (c:Nat):V->St
 |.c (.row true e [])=>[(c,.vec e [])]
 |_=>[]
def nilVs (c:Nat):List V->List V
 |[]=>[]
 |x::xs=>nilV1 c x::nilVs (c+nilN1 x) xs
def nilAs (c:Nat):List V->St
 |[]=>[]
 |x::xs=>nilA1 c x++nilAs (c+nilN1 x) xs
def nilV (c:Nat):V->V
 |.agg vs=>.agg (nilVs c vs)
 |.tup vs=>.tup (nilVs c vs)
 |x=>nilV1 c x
def nilA (c:Nat):V->St
 |.agg vs=>nilAs c vs
 |.tup vs=>nilAs c vs
 |x=>nilA1 c x
def Nils (l:St):Prop:=∀x∈l,∃e,x.2=Rt.vec e []
theorem nilA1_nils (c:Nat)(x:V):Nils (nilA1 c x):=by
 intro y hy
 unfold nilA1 at hy
 split at hy
 ·grind
 ·simp at hy
theorem nilAs_nils:∀(c:Nat)(xs:List V),Nils (nilAs c xs)
 |c,[]=>by intro y hy;simp[nilAs]at hy
 |c,x::xs=>by
  intro y hy
  simp only[nilAs,List.mem_append]at hy
  exact hy.elim (nilA1_nils c x y) (nilAs_nils _ xs y)
theorem nilA_nils (c:Nat)(x:V):Nils (nilA c x):=by
 cases x with
 |agg vs=>exact nilAs_nils c vs
 |tup vs=>exact nilAs_nils c vs
 |c y=>exact nilA1_nils c (.c y)
 |_=>intro y hy;simp[nilA,nilA1]at hy
def jNil (l:St)(j:Nat->Hd)(r:Nat):Hd:=match root l r with
 |.no=>j r
 |_=>.hdr (.slice none 0 0)
theorem root_append {l σ:St}{r:Nat}:root (l++σ) r=match idx (l.map (·.1)) r with|some _=>root l r|none=>root σ r:=by
 induction l with
 |nil=>rfl
 |cons x l ih=>
  grind [idx_cons,root_put,idx]
theorem Nils.root_cases {l:St}(h:Nils l)(r:Nat):(idx (l.map (·.1)) r=none/\root l r=.no)\/((∃k,idx (l.map (·.1)) r=some k)/\(∃e,root l r=.vec e [])/\∃x∈l,x.1=r):=by
 induction l with
 |nil=>exact .inl ⟨rfl,rfl⟩
 |cons x l ih=>
  obtain⟨k,v⟩:=x
  simp only[List.map_cons,idx_cons,root_put]
  by_cases e:r=k
  ·subst e
   obtain⟨e',he⟩:=h (r,v) (by simp)
   simp only at he
   exact .inr ⟨⟨0,by simp⟩,⟨e',by simp[he]⟩,(r,v),by simp,rfl⟩
  ·simp only[e,if_false]
   rcases ih (λx hx=>h x (by simp[hx]))with ⟨h1,h2⟩|⟨⟨q,h1⟩,h2,x,hx,h3⟩
   ·exact .inl ⟨by rw[h1];rfl,h2⟩
   ·exact .inr ⟨⟨q+1,by rw[h1];rfl⟩,h2,x,by simp[hx],h3⟩
theorem Rel.addNils (h:Rel P B N fr σ j L S a w){l:St}(hl:Nils l)(hf:∀x∈l,root σ x.1=.no/\B.m<=x.1):Rel P B N fr (l++σ) (jNil l j) L S a w/\(∀r,j r≠ .no->jNil l j r=j r)/\∀x∈l,jNil l j x.1=.hdr (.slice none 0 0):=by
 have hjn:∀r,j r≠ .no->jNil l j r=j r:=by
  intro r hr
  unfold jNil
  rcases hl.root_cases r with ⟨_,h2⟩|⟨_,⟨e,h2⟩,x,hx,h3⟩
  ·rw[h2]
  ·exact absurd (h3▸(h.fresh (hf x hx).1).1) hr
 refine⟨⟨h.size,h.defers,λt=>(h.slots t).same (λ_ hb=>⟨hb,rfl⟩) hjn,⟨λr=> ?_,h.mem.nodup,h.mem.disj,h.mem.owned,h.mem.stab⟩,{ h.since with same:=λr hr=> ?_ }⟩,hjn,λx hx=> ?_⟩
 ·rw[root_append]
  rcases hl.root_cases r with ⟨h1,h2⟩|⟨⟨k,h1⟩,⟨e,h2⟩,x,hx,h3⟩
  ·simp only[h1]
   exact(h.mem.roots r).same hjn (by unfold jNil;rw[h2]) (λ_ hb=>⟨hb,rfl⟩) (λ_ _=>rfl)
  ·simp only[h1,h2]
   have hL:=(h.fresh (hf x hx).1).2
   rw[h3]at hL
   refine⟨.slice none 0 0,by unfold jNil;rw[h2],?_⟩
   rw[hL]
   exact own_nil e
 ·unfold jNil
  rcases hl.root_cases r with ⟨_,h2⟩|⟨_,⟨e,h2⟩,x,hx,h3⟩
  ·rw[h2];exact h.since.same r hr
  ·have:=(hf x hx).2
   omega
 ·unfold jNil
  rcases hl.root_cases x.1 with ⟨h1,h2⟩|⟨_,⟨e,h2⟩,_⟩
  ·exfalso
   have:∀(l:List Nat)(r:Nat),r∈l->idx l r≠none:=by
    intro l
    induction l with
    |nil=>intro r hr;simp at hr
    |cons y l ih=>
     intro r hr
     rw[idx_cons]
     by_cases e:r=y
     ·simp[e]
     ·have:=ih r (by simpa[e]using hr)
      simp[e,this]
   exact this _ _ (List.mem_map.2 ⟨x,hx,rfl⟩) h1
  ·rw[h2]
theorem nilV1_rel {c:Nat}{x:V}{v:Value}(h:VRel P j w S x v)(hjn:∀r,j r≠ .no->j' r=j r)(hn:∀y∈nilA1 c x,j' y.1=.hdr (.slice none 0 0)):VRel P j' w S (nilV1 c x) v:=by
 unfold nilV1
 split
 ·rename_i e
  simp only[VRel]at h⊢
  have:=nil_own h
  subst this
  exact⟨.slice none 0 0,hn (c,.vec e []) (by simp[nilA1]),.inl ⟨rfl,rfl,rfl,rfl⟩⟩
 ·exact h.same (λ_ hb=>⟨hb,rfl⟩) hjn
theorem nilVs_rel (hjn:∀r,j r≠ .no->j' r=j r):∀{xs:List V}{c:Nat}{us:List Value},VsRel P j w S xs us->(∀y∈nilAs c xs,j' y.1=.hdr (.slice none 0 0))->VsRel P j' w S (nilVs c xs) us
 |[],c,us,h,_=>by simpa only[nilVs,VsRel]using h
 |x::xs,c,us,h,hn=>by
  simp only[nilVs,VsRel]at h⊢
  obtain⟨u,us',e,h1,h2⟩:=h
  exact⟨u,us',e,nilV1_rel h1 hjn (λy hy=>hn y (by simp[nilAs,hy])),nilVs_rel hjn h2 (λy hy=>hn y (by simp[nilAs,hy]))⟩
theorem nilV_rel {c:Nat}{x:V}{v:Value}(h:VRel P j w S x v)(hjn:∀r,j r≠ .no->j' r=j r)(hn:∀y∈nilA c x,j' y.1=.hdr (.slice none 0 0)):VRel P j' w S (nilV c x) v:=by
 cases x with
 |agg vs=>
  simp only[nilV,VRel]at h⊢
  obtain⟨us,hv,hs⟩:=h
  exact⟨us,hv,nilVs_rel hjn hs hn⟩
 |tup vs=>
  simp only[nilV,VRel]at h⊢
  obtain⟨us,hv,hs⟩:=h
  exact⟨us,hv,nilVs_rel hjn hs hn⟩
 |c y=>exact nilV1_rel h hjn hn
 |_=>exact h.same (λ_ hb=>⟨hb,rfl⟩) hjn
def freshIn (σ:St)(m:Nat):St->Bool
 |[]=>true
 |(r,_)::l=>match root σ r with
  |.no=>Nat.ble m r&&freshIn σ m l
  |_=>false
theorem freshIn_spec {m:Nat}:∀{l:St},freshIn σ m l=true->∀x∈l,root σ x.1=.no/\m<=x.1
 |[],_,x,hx=>by simp at hx
 |(r,v)::l,h,x,hx=>by
  simp only[freshIn]at h
  split at h
  ·rename_i hr
   simp only[Bool.and_eq_true,Nat.ble_eq]at h
   rcases List.mem_cons.1 hx with rfl|hx
   ·exact⟨hr,h.1⟩
   ·exact freshIn_spec h.2 x hx
  ·cases h
theorem Rel.nilSlot (h:Rel P B N fr σ j L S a w){t c:Nat}(hf:freshIn σ B.m (nilA c (get fr t))=true):∃j',Rel P B N ((t,nilV c (get fr t))::fr) (nilA c (get fr t)++σ) j' L S a w:=by
 obtain⟨h1,h2,h3⟩:=h.addNils (nilA_nils c _) (freshIn_spec hf)
 refine⟨_,{ h1 with slots:=λt'=> ?_ }⟩
 rw[get_put]
 split
 ·rename_i e
  subst e
  exact nilV_rel (h.slots t') h2 h3
 ·exact h1.slots t'
theorem Rel.nilBox (h:Rel P B N fr σ j L S a w){r c:Nat}{cells:List V}(hr:root σ r=.box cells)(hf:freshIn σ B.m (nilAs c cells)=true):∃j',Rel P B N fr ((r,.box (nilVs c cells))::(nilAs c cells++σ)) j' L S a w:=by
 obtain⟨h1,h2,h3⟩:=h.addNils (nilAs_nils c cells) (freshIn_spec hf)
 refine⟨_,{ h1 with mem:={ h1.mem with roots:=λr'=> ?_ } }⟩
 rw[root_put]
 split
 ·rename_i e
  subst e
  obtain⟨g,cur,e,hg,hh,hv,h4,h5⟩:=h.mem.boxAt hr
  exact⟨g,cur,e,(h2 r' (by rw[hg];simp)).trans hg,hh,nilVs_rel h2 hv h3,h4,h5⟩
 ·exact h1.mem.roots r'
mutual
def roC:C->C
 |.row _ e rows=>.row false e (roRows rows)
 |.b x=>.b x
 |.i k n=>.i k n
 |.s x=>.s x
 |.nilp=>.nilp
 |.dead=>.dead
def roCs:List C->List C
 |[]=>[]
 |c::cs=>roC c::roCs cs
def roRows:List (List C)->List (List C)
 |[]=>[]
 |x::xs=>roCs x::roRows xs
end
theorem roRows_map (xs:List (List C)):roRows xs=xs.map roCs:=by
 induction xs with
 |nil=>rfl
 |cons x xs ih=>simp[roRows,ih]
theorem roCs_map (xs:List C):roCs xs=xs.map roC:=by
 induction xs with
 |nil=>rfl
 |cons x xs ih=>simp[roCs,ih]
end
end Go.Proofs.YtmcbbifeekhmgaaGreatDoor.Pe
