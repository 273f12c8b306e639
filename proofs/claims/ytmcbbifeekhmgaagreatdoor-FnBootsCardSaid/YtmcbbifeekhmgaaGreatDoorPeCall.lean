import Derived.Test.YtmcbbifeekhmgaaGreatDoorPeGhost
namespace Go.Proofs.YtmcbbifeekhmgaaGreatDoor.Pe
open Go Go.RowKit
def Says (P:Program)(f:Nat)(vs:List V)(m:Nat)(σ:St)(vo:V)(σo:St):Prop:=
 (∀args w,(callFunc f args).run P w=.ok (.enter f args) w)/\
 ∀(j:Nat->Hd)(L:Nat->List Nat)(S:Nat->Prop)(w:World)(args:List Value),Mem P σ j L S w->(∀r,m<=r->j r=.no/\L r=[])->VsRel P j w S vs args->∀(hg:GlbOk w λb=>∃r,b∈L r),
  Calls P f args.toArray w λe w'=>∃v j' L' S',e=.returned v/\VRel P j' w' S' vo v/\Mem P σo j' L' S' w'/\Since ⟨w,λb=>∃r,b∈L r,S,m,j,hg⟩ j' L' S' w'
mutual
inductive Pass (σ:St) (ρ β:List Nat):V->V->Prop
 |c (x:C):Pass σ ρ β (.c x) (.c x)
 |nil (e e':Nat):Pass σ ρ β (.c (.row true e [])) (.c (.row false e' []))
 |sl {r k e off len:Nat} (h:idx ρ r=some k):Pass σ ρ β (.sl r e off len) (.sl k e off len)
 |ptr {r k o:Nat} (h:idx ρ r=some k):Pass σ ρ β (.ptr r o) (.ptr k o)
 |el {r k e i q:Nat} (h:idx ρ r=some k):Pass σ ρ β (.el r e i q) (.el k e i q)
 |borrow {r e off len:Nat} {rows rows':List (List C)} (hr:root σ r=.vec e rows) (hb:r∈β) (ht:((roRows rows).drop off).take len=rows'):Pass σ ρ β (.sl r e off len) (.c (.row false e rows'))
 |share {r e off len:Nat} {rows rows':List (List C)} (hr:root σ r=.ro e rows) (ht:(rows.drop off).take len=rows'):Pass σ ρ β (.sl r e off len) (.c (.row false e rows'))
 |rp (cs:List C):Pass σ ρ β (.rp cs) (.rp cs)
 |undef (x:V):Pass σ ρ β x .undef
 |agg {vs us:List V} (h:Passes σ ρ β vs us):Pass σ ρ β (.agg vs) (.agg us)
 |fn {f:Nat} {vs us:List V} (h:Passes σ ρ β vs us):Pass σ ρ β (.fn f vs) (.fn f us)
inductive Passes (σ:St) (ρ β:List Nat):List V->List V->Prop
 |nil:Passes σ ρ β [] []
 |cons {x y:V} {xs ys:List V} (h:Pass σ ρ β x y) (hs:Passes σ ρ β xs ys):Passes σ ρ β (x::xs) (y::ys)
end
section
variable {P:Program} {B:Begin} {N:Nat} {fr:Fr} {σ:St} {j j':Nat->Hd} {L:Nat->List Nat} {S S':Nat->Prop} {a:Act} {w w':World} {o:Oper}
theorem roRows_flat (rows:List (List C)):(roRows rows).flatten=roCs rows.flatten:=by
 grind [roRows_map,roCs_map,List.map_congr_left]
theorem roCs_len (cs:List C):(roCs cs).length=cs.length:=by rw[roCs_map,List.length_map]
theorem roRows_len (rows:List (List C)):(roRows rows).length=rows.length:=by rw[roRows_map,List.length_map]
theorem roRows_z {rows:List (List C)}{z:Nat}(h:∀x∈rows,x.length=z):∀x∈roRows rows,x.length=z:=by
 grind [roRows_map,roCs_len]
theorem CRel.frozen (hS:∀b,S b->S' b){c:C}{v:Value}{L:List Nat}(h:CRel P w S c v L):(∀b∈L,S' b)->CRel P w S' (roC c) v []:=by
 refine CRel.rec (motive_1:=λc v L _=>(∀b∈L,S' b)->CRel P w S' (roC c) v []) (motive_2:=λcs vs L _=>(∀b∈L,S' b)->CsRel P w S' (roCs cs) vs []) ?_ ?_ ?_ ?_ ?_ ?_ ?_ ?_ ?_ h
 ·exact λx _=>.b x
 ·exact λk n _=>.i k n
 ·exact λx _=>.s x
 ·exact λ_=>.nilp
 ·exact λv h _=>.dead v h
 ·intro e rows A n c vals hz hn hc h0 hv hA _ ih _
  refine .ro e (roRows rows) A n c vals (roRows_z hz) (by rw[roRows_len];exact hn) hc h0 hv (λhp=> ?_) (by rw[roRows_flat];exact ih (by simp))
  grind
 ·intro e rows v vals L hz ho _ ih hL
  have h2:=ih (λb hb=>hL b (List.mem_append_right _ hb))
  rcases ho with ⟨hl,⟨rfl,h0⟩|⟨g,cap,cur,rfl,_,hh,hn,hc,hs,ht⟩⟩
  ·refine .ro e (roRows rows) none 0 0 vals (roRows_z hz) (by rw[roRows_len];exact h0.symm) (Nat.le_refl _) (λ_=>rfl) (by rw[hl,h0]) (λhp=>absurd hp (by omega)) (by rw[roRows_flat];exact h2)
  ·refine .ro e (roRows rows) (some ⟨g,0,none⟩) rows.length cap vals (roRows_z hz) (by rw[roRows_len]) hn (by simp) hl (λ_=>⟨⟨g,0,none⟩,rfl,hL g (by simp[own1,Value.ownBlock]),λk u hk=> ?_⟩) (by rw[roRows_flat];exact h2)
   rw[add_off,Nat.zero_add]
   subst ht
   rw[List.getElem?_take]at hk
   split at hk
   ·simp only[World.cell?,hh]
    simpa using hk
   ·cases hk
 ·exact λ_=>.nil
 ·intro c cs v vs L L' _ _ ih1 ih2 hL
  exact .cons _ _ _ _ [] [] (ih1 (λb hb=>hL b (List.mem_append_left _ hb))) (ih2 (λb hb=>hL b (List.mem_append_right _ hb)))
theorem ro_of_sl {e:Nat}{rows:List (List C)}{hd v:Value}(hc:CRel P w S (.row false e rows) hd []){off len:Nat}(hs:SlRel (P.cellsOf e) hd v off len):CRel P w S (.row false e ((rows.drop off).take len)) v []:=by
 have hs0:=hs
 rcases hs with ⟨rfl,rfl,rfl,rfl⟩|⟨g,n,c,A,cc,rfl,_⟩
 ·grind [ro_open,List.eq_nil_of_length_eq_zero]
 ·exact ro_cut hc hs0
def lent (S:Nat->Prop)(L:Nat->List Nat)(β:List Nat)(b:Nat):Prop:=S b\/∃r∈β,b∈L r
theorem Pass.rel (h:Mem P σ j L S w){ρ β:List Nat}:∀{x y:V},Pass σ ρ β x y->∀{v:Value},VRel P j w S x v->VRel P (pickj ρ j) w (lent S L β) y v:=by
 have hS:∀b,S b->lent S L β b/\w.heap[b]? =w.heap[b]? :=λb hb=>⟨.inl hb,rfl⟩
 suffices key:∀(x y:V),Pass σ ρ β x y->∀(v:Value),VRel P j w S x v->VRel P (pickj ρ j) w (lent S L β) y v from λ{x y} hp {v} hv=>key x y hp v hv
 intro x
 refine V.rec (motive_1:=λx=>∀(y:V),Pass σ ρ β x y->∀(v:Value),VRel P j w S x v->VRel P (pickj ρ j) w (lent S L β) y v)
  (motive_2:=λxs=>∀(ys:List V),Passes σ ρ β xs ys->∀(vs:List Value),VsRel P j w S xs vs->VsRel P (pickj ρ j) w (lent S L β) ys vs) ?_ ?_ ?_ ?_ ?_ ?_ ?_ ?_ ?_ ?_ ?_ ?_ ?_ x
 ·intro c y hp v hv
  cases hp with
  |c=>simp only[VRel]at hv⊢;exact hv.stays hS (by simp)
  |nil e e'=>
   simp only[VRel]at hv⊢
   have:=nil_own hv
   subst this
   exact .ro e' [] none 0 0 [] (by simp) rfl (Nat.le_refl _) (λ_=>rfl) (by simp) (λh=>absurd h (by simp)) (by simpa using CsRel.nil)
  |undef=>exact VRel.undef
 ·intro r e off len y hp v hv
  cases hp with
  |sl hk=>simp only[VRel]at hv⊢;obtain⟨g,hg,hr⟩:=hv;exact⟨g,(pick_idx r _ hk (by rw[hg];simp)).trans hg,hr⟩
  |borrow hr hb ht=>
   subst ht
   obtain⟨hd,hj,hc⟩:=h.vecAt hr
   simp only[VRel]at hv⊢
   obtain⟨hd',hj',hs⟩:=hv
   rw[hj]at hj'
   cases hj'
   have:=hc.frozen (S':=lent S L β) (λb hb=>.inl hb) (λb hb'=>.inr ⟨r,hb,hb'⟩)
   grind [ro_of_sl,roC]
  |share hr ht=>
   subst ht
   have:=sl_ro_root h hr hv
   simp only[VRel]
   exact this.stays hS (by simp)
  |undef=>exact VRel.undef
 ·intro r o y hp v hv
  cases hp with
  |ptr hk=>simp only[VRel]at hv⊢;obtain⟨g,hg,hr⟩:=hv;exact⟨g,(pick_idx r _ hk (by rw[hg];simp)).trans hg,hr⟩
  |undef=>exact VRel.undef
 ·intro r e i k y hp v hv
  cases hp with
  |el hk=>simp only[VRel]at hv⊢;obtain⟨g,n,c,hg,hr⟩:=hv;exact⟨g,n,c,(pick_idx r _ hk (by rw[hg];simp)).trans hg,hr⟩
  |undef=>exact VRel.undef
 ·intro cs y hp v hv
  cases hp with
  |rp=>
   simp only[VRel]at hv⊢
   obtain⟨a,vals,h1,h2,h3,h4⟩:=hv
   exact⟨a,vals,h1,.inl h2,h3,h4.stays hS (by simp)⟩
  |undef=>exact VRel.undef
 ·intro vs ih y hp v hv
  cases hp with
  |agg hf=>simp only[VRel]at hv⊢;obtain⟨us,h1,h2⟩:=hv;exact⟨us,h1,ih _ hf _ h2⟩
  |undef=>exact VRel.undef
 ·intro vs ih y hp v hv
  cases hp with
  |undef=>exact VRel.undef
 ·intro f vs ih y hp v hv
  cases hp with
  |fn hf=>simp only[VRel]at hv⊢;obtain⟨us,h1,h2⟩:=hv;exact⟨us,h1,ih _ hf _ h2⟩
  |undef=>exact VRel.undef
 ·intro y hp v hv
  cases hp with
  |undef=>exact VRel.undef
 ·intro r e len y hp v hv
  cases hp with
  |undef=>exact VRel.undef
 ·intro r y hp v hv
  cases hp with
  |undef=>exact VRel.undef
 ·intro ys hf vs hv
  cases hf
  grind [VsRel]
 ·intro x xs ih1 ih2 ys hf vs hv
  cases hf with
  |cons h1 h2=>
   grind [VsRel]
theorem Pass.rels (h:Mem P σ j L S w){ρ β:List Nat}:∀{xs ys:List V},Passes σ ρ β xs ys->∀{vs:List Value},VsRel P j w S xs vs->VsRel P (pickj ρ j) w (lent S L β) ys vs
 |_,_,.nil,vs,hv=>by simpa only[VsRel]using hv
 |_,_,.cons h1 h2,vs,hv=>by
  simp only[VsRel]at hv⊢
  obtain⟨u,us',e,q1,q2⟩:=hv
  exact⟨u,us',e,h1.rel h q1,Pass.rels h h2 q2⟩
theorem Mem.lend (h:Mem P σ j L S w){ρ β:List Nat}(hρ:ρ.Nodup)(hd:∀r∈β,r∉ρ):Mem P (pickS ρ σ) (pickj ρ j) (pickL ρ L) (lent S L β) w:=by
 have h1:=h.pick hρ
 refine⟨λr=>(h1.roots r).same (λ_ _=>rfl) rfl (λb hb=>⟨.inl hb,rfl⟩) (λ_ _=>rfl),h1.nodup,h1.disj,λk b hb=>⟨(h1.owned k b hb).1,?_⟩,?_⟩
 ·rintro(hs|⟨r,hr,hb'⟩)
  ·exact(h1.owned k b hb).2 hs
  ·unfold pickL at hb
   split at hb
   ·rename_i r' hr'
    have:=h.disj r r' b hb' hb
    grind
   ·simp at hb
 ·rintro b (hs|⟨r,hr,hb'⟩)
  ·exact h.stab b hs
  ·exact(h.owned r b hb').1
end
def back (ρ:List Nat)(s:Nat)(k:Nat):Option Nat:=match ρ[k]? with
 |some r=>some r
 |none=>some (s+(k-ρ.length))
def backSt (φ:Nat->Option Nat)(σo:St):List Nat->Nat->St
 |[],_=>[]
 |r::rs,k=>(r,renRt φ (root σo k))::backSt φ σo rs (k+1)
def upto (s:Nat):Nat->List Nat
 |0=>[]
 |n+1=>s::upto (s+1) n
def below (n:Nat):St->Bool
 |[]=>true
 |(k,_)::l=>Nat.blt k n&&below n l
theorem below_spec {n:Nat}:∀{σ:St},below n σ=true->∀k,n<=k->root σ k=.no
 |[],_,k,_=>rfl
 |(q,v)::l,h,k,hk=>by
  simp only[below,Bool.and_eq_true,Nat.blt_eq]at h
  rw[root_put,if_neg (by omega)]
  exact below_spec h.2 k hk
mutual
def ownC:C->Bool
 |.row own _ rows=>own&&ownRows rows
 |_=>true
def ownCs:List C->Bool
 |[]=>true
 |c::cs=>ownC c&&ownCs cs
def ownRows:List (List C)->Bool
 |[]=>true
 |x::xs=>ownCs x&&ownRows xs
end
mutual
def ownV:V->Bool
 |.c c=>ownC c
 |.agg vs=>ownVs vs
 |.tup vs=>ownVs vs
 |.fn _ vs=>ownVs vs
 |.rp _=>false
 |_=>true
def ownVs:List V->Bool
 |[]=>true
 |x::xs=>ownV x&&ownVs xs
end
def ownRt:Rt->Prop
 |.box cells=>ownVs cells=true
 |.vec _ rows=>ownRows rows=true
 |.ro _ _=>False
 |.lnk _ _ _ _ _=>False
 |_=>True
section
variable {P:Program} {j j':Nat->Hd} {L:Nat->List Nat} {S S':Nat->Prop} {w w':World}
theorem ownRows_flat:∀{rows:List (List C)},ownRows rows=true->ownCs rows.flatten=true
 |[],_=>rfl
 |x::xs,h=>by
  simp only[ownRows,Bool.and_eq_true]at h
  rw[List.flatten_cons]
  have h2:=ownRows_flat h.2
  have:∀(a b:List C),ownCs a=true->ownCs b=true->ownCs (a++b)=true:=by
   intro a b ha hb
   induction a with
   |nil=>exact hb
   |cons c cs ih=>
    simp only[ownCs,Bool.and_eq_true,List.cons_append]at ha⊢
    grind
  exact this _ _ h.1 h2
theorem CRel.own_any {c:C}{v:Value}{L0:List Nat}(h:CRel P w S c v L0):ownC c=true->CRel P w S' c v L0:=by
 refine CRel.rec (motive_1:=λc v L _=>ownC c=true->CRel P w S' c v L) (motive_2:=λcs vs L _=>ownCs cs=true->CsRel P w S' cs vs L) ?_ ?_ ?_ ?_ ?_ ?_ ?_ ?_ ?_ h
 ·exact λx _=>.b x
 ·exact λk n _=>.i k n
 ·exact λx _=>.s x
 ·exact λ_=>.nilp
 ·exact λv h _=>.dead v h
 ·grind [ownC]
 ·intro e rows v vals L hz ho _ ih hf
  simp only[ownC,Bool.true_and]at hf
  exact .own e rows v vals L hz ho (ih (ownRows_flat hf))
 ·exact λ_=>.nil
 ·intro c cs v vs L L' _ _ ih1 ih2 hf
  simp only[ownCs,Bool.and_eq_true]at hf
  exact .cons _ _ _ _ _ _ (ih1 hf.1) (ih2 hf.2)
mutual
theorem VRel.own_any:∀{x:V}{v:Value},VRel P j w S x v->ownV x=true->VRel P j w S' x v
 |.c c,v,h,hf=>by simp only[VRel,ownV]at h hf⊢;exact h.own_any hf
 |.sl r e off len,v,h,_=>by simpa only[VRel]using h
 |.ptr r o,v,h,_=>by simpa only[VRel]using h
 |.el r e i k,v,h,_=>by simpa only[VRel]using h
 |.s3 r e len,v,h,_=>by simpa only[VRel]using h
 |.mp r,v,h,_=>by simpa only[VRel]using h
 |.rp cs,v,h,hf=>by simp[ownV]at hf
 |.agg vs,v,h,hf=>by
  simp only[VRel,ownV]at h hf⊢
  obtain⟨us,h1,h2⟩:=h
  exact⟨us,h1,VsRel.own_any h2 hf⟩
 |.tup vs,v,h,hf=>by
  simp only[VRel,ownV]at h hf⊢
  obtain⟨us,h1,h2⟩:=h
  exact⟨us,h1,VsRel.own_any h2 hf⟩
 |.fn f vs,v,h,hf=>by
  simp only[VRel,ownV]at h hf⊢
  obtain⟨us,h1,h2⟩:=h
  exact⟨us,h1,VsRel.own_any h2 hf⟩
 |.undef,v,h,_=>VRel.undef
theorem VsRel.own_any:∀{xs:List V}{us:List Value},VsRel P j w S xs us->ownVs xs=true->VsRel P j w S' xs us
 |[],us,h,_=>by simpa only[VsRel]using h
 |x::xs,us,h,hf=>by
  simp only[VsRel,ownVs,Bool.and_eq_true]at h hf⊢
  obtain⟨u,us',e,h1,h2⟩:=h
  exact⟨u,us',e,VRel.own_any h1 hf.1,VsRel.own_any h2 hf.2⟩
end
theorem RootRel.own_any {r:Nat}{x:Rt}{L0:List Nat}(h:RootRel P j w S r x L0)(hf:ownRt x):RootRel P j w S' r x L0:=by
 cases x with
 |no=>exact h
 |gone=>exact h
 |box cells=>
  simp only[RootRel,ownRt]at h hf⊢
  obtain⟨g,cur,e,hg,hh,hv,h1,h2⟩:=h
  exact⟨g,cur,e,hg,hh,hv.own_any hf,h1,h2⟩
 |vec e rows=>
  simp only[RootRel,ownRt]at h hf⊢
  obtain⟨v,hv,hc⟩:=h
  exact⟨v,hv,hc.own_any (by simpa[ownC]using hf)⟩
 |ro e rows=>exact hf.elim
 |lnk e rows i cs ls=>exact hf.elim
 |mp es=>exact h
end
end Go.Proofs.YtmcbbifeekhmgaaGreatDoor.Pe
