import Derived.Test.YtmcbbifeekhmgaaGreatDoorPeDraw2
namespace Go.Proofs.YtmcbbifeekhmgaaGreatDoor.Pe
open Go Go.RowKit
section
variable {c:Ctx} {fr:Fr} {σ:St} {Q:Post} {j:Nat->Hd} {L:Nat->List Nat} {S:Nat->Prop} {a:Act} {w:World}
theorem opsOf_at {P:Program}{N:Nat}{draw:Bool}{all:Array Oper}:∀{os:List Oper}{l:List Op1},opsOf P N draw all os=some l->∀{i:Nat}{o:Oper},os[i]? =some o->∃x g,l[i]? =some ⟨o.dst,g,if draw then(o.after.toList.filter (Region.binds .any)).map (·.on)else[],x⟩/\oOf P o=some x/\gOf all o.guard=some g/\∀d,o.dst=some d->d<N
 |[],_,_,i,o,h=>by simp at h
 |y::os,l,h,i,o,ho=>by
  obtain⟨x,g,af,xs,rfl,hx,hg,hxs,hN,rfl⟩:=opsOf_cons h
  cases i with
  |zero=>simp only[List.getElem?_cons_zero,Option.some.injEq]at ho;subst ho;exact⟨x,g,rfl,hx,hg,hN⟩
  |succ i=>simpa using opsOf_at hxs (i:=i) (o:=o) (by simpa using ho)
theorem opsOf_len {P:Program}{N:Nat}{draw:Bool}{all:Array Oper}:∀{os:List Oper}{l:List Op1},opsOf P N draw all os=some l->l.length=os.length
 |[],l,h=>by simp only[opsOf,Option.some.injEq]at h;subst h;rfl
 |y::os,l,h=>by
  obtain⟨x,g,af,xs,rfl,_,_,hxs,_⟩:=opsOf_cons h
  simp[opsOf_len hxs]
theorem slotsA_mem:∀{xs:List A}{t:Nat},A.t t∈xs->t∈slotsA xs
 |.t n::xs,t,h=>by
  rcases List.mem_cons.1 h with h|h
  ·cases h;simp[slotsA]
  ·simp[slotsA,slotsA_mem h]
 |.c v::xs,t,h=>by
  rcases List.mem_cons.1 h with h|h
  ·cases h
  ·simpa[slotsA]using slotsA_mem h
theorem draw_sound (hB:c.B.m<=1000){ops:Array Oper}{l:List Op1}(hl:opsOf c.P c.N true ops ops.toList=some l){site:Nat}{full:List Tr}(hfl:full.length=l.length){fr0:Fr}{σ0:St}(hgood:∀i o,l[i]? =some o->Good c site full fr0 σ0 i o)(hok:okDraw full=true)
  {QM:Exit->Act->World->Prop} (hQ:∀j L S a w,Rel c.P c.B c.N (buildF (λ_=>true) 0 full fr0) (buildS (λ_=>true) 0 full σ0) j L S a w->QM .normal a w):
  ∀(fuel:Nat)(listed:Array Bool)(a:Act)(w:World)(j:Nat->Hd)(L:Nat->List Nat)(S:Nat->Prop),listed.size=ops.size->Closed full listed->((List.range ops.size).filter (λi=> !inE listed i)).length<=fuel->
   Rel c.P c.B c.N (buildF (inE listed) 0 full fr0) (buildS (inE listed) 0 full σ0) j L S a w->wpAny c.P .any ops QM fuel listed a w:=by
 have hn:full.length=ops.size:=by rw[hfl,opsOf_len hl];simp
 have hspec:=okDraw_spec hok
 have hall:∀(listed:Array Bool),listed.size=ops.size->Closed full listed->Region.ready .any ops listed=[]->∀i,i<ops.size->inE listed i=true:=by
  intro listed hs hc hr i
  induction i using Nat.strongRecOn with
  |_ i ih=>
   intro hi
   cases hE:inE listed i with
   |true=>rfl
   |false=>
    exfalso
    have hio:ops[i]? =some ops[i]:=Array.getElem?_eq_getElem hi
    obtain⟨x,g,h1,hx,hg,hN⟩:=opsOf_at hl (i:=i) (o:=ops[i]) (by simp)
    obtain⟨y,hy,_,haf,_⟩:=hgood i _ h1
    have:i∈Region.ready .any ops listed:=by
     rw[mem_ready]
     refine⟨?_,ops[i],hio,λe he hb=> ?_⟩
     ·unfold inE at hE
      have hlt:i<listed.size:=by omega
      simp only[Array.getD_eq_getD_getElem?,Array.getElem?_eq_getElem hlt,Option.getD_some]at hE⊢
      exact hE
     ·have hmem:e.on∈y.af:=by
       rw[haf]
       simp only[if_true,List.mem_map,List.mem_filter]
       exact⟨e,⟨by simpa using he,hb⟩,rfl⟩
      have hlt:=(hspec i y hy).1 e.on hmem
      have:=ih e.on hlt (by omega)
      exact this
    rw[hr]at this
    cases this
 have hend:∀(listed:Array Bool)(a:Act)(w:World)(j:Nat->Hd)(L:Nat->List Nat)(S:Nat->Prop),(∀i,i<ops.size->inE listed i=true)->Rel c.P c.B c.N (buildF (inE listed) 0 full fr0) (buildS (inE listed) 0 full σ0) j L S a w->QM .normal a w:=by
  intro listed a w j L S hE hr
  refine hQ j L S a w (hr.congr (λt=>buildF_congr rfl (λi x hx _=> ?_)) (λr=>buildS_congr rfl (λi x hx _=> ?_)))
  ·rw[Nat.zero_add,hE i (by rw[<-hn];exact(List.getElem?_eq_some_iff.1 hx).1)]
  ·rw[Nat.zero_add,hE i (by rw[<-hn];exact(List.getElem?_eq_some_iff.1 hx).1)]
 intro fuel
 induction fuel with
 |zero=>
  intro listed a w j L S hs hc hf hr
  have hE:∀i,i<ops.size->inE listed i=true:=by
   intro i hi
   cases h:inE listed i with
   |true=>rfl
   |false=>
    exfalso
    have:i∈(List.range ops.size).filter (λi=> !inE listed i):=by simp[hi,h]
    have:=List.length_pos_of_mem this
    omega
  refine⟨?_,hend listed a w j L S hE hr⟩
  rw[List.eq_nil_iff_forall_not_mem]
  intro i hi
  obtain⟨h0,o,ho,_⟩:=mem_ready.1 hi
  have hlt:i<ops.size:=(Array.getElem?_eq_some_iff.1 ho).1
  have h1:=hE i hlt
  unfold inE at h1
  have hlt':i<listed.size:=by omega
  simp only[Array.getD_eq_getD_getElem?,Array.getElem?_eq_getElem hlt',Option.getD_some]at h0 h1
  rw[h0]at h1
  cases h1
 |succ fuel ih=>
  intro listed a w j L S hs hc hf hr
  refine⟨λhready=>hend listed a w j L S (hall listed hs hc hready) hr,λi hi=> ?_⟩
  obtain⟨h0,o,ho,haft⟩:=mem_ready.1 hi
  have hlt:i<ops.size:=(Array.getElem?_eq_some_iff.1 ho).1
  have hlt':i<listed.size:=by omega
  have hE:inE listed i=false:=by
   unfold inE
   simp only[Array.getD_eq_getD_getElem?,Array.getElem?_eq_getElem hlt',Option.getD_some]at h0⊢
   exact h0
  obtain⟨x,g,h1,hx,hg,hN⟩:=opsOf_at hl (i:=i) (o:=o) (by simpa using ho)
  obtain⟨y,hy,hyd,haf,hsl,hcase⟩:=hgood i _ h1
  have ha:∀q∈y.af,inE listed q=true:=by
   intro q hq
   rw[haf]at hq
   simp only[if_true,List.mem_map,List.mem_filter]at hq
   obtain⟨e,⟨he,hb⟩,rfl⟩:=hq
   exact haft e (by simpa using he) hb
  obtain⟨hs1,hs2⟩:=sees hok hc hy hE ha fr0 σ0
  obtain⟨hd1,hd2⟩:=done_state hok hc hy hE hlt' fr0 σ0
  have hc':Closed full (listed.setIfInBounds i true):=by
   intro k z hz hk q hq
   rw[inE_set hlt']at hk⊢
   by_cases h:q=i
   ·rw[if_pos h]
   ·rw[if_neg h]
    by_cases hki:k=i
    ·subst hki;rw[hy]at hz;cases hz;exact ha q hq
    ·rw[if_neg hki]at hk;exact hc k z hz hk q hq
  have hf':((List.range ops.size).filter (λk=> !inE (listed.setIfInBounds i true) k)).length<=fuel:=by
   have hsub:((List.range ops.size).filter (λk=> !inE (listed.setIfInBounds i true) k))=((List.range ops.size).filter (λk=> !inE listed k)).filter (λk=>k !=i):=by
    rw[List.filter_filter]
    apply List.filter_congr
    intro k _
    rw[inE_set hlt']
    by_cases h:k=i
    ·simp[h]
    ·simp[h]
   rw[hsub]
   have hmem:i∈(List.range ops.size).filter (λk=> !inE listed k):=by simp[hlt,hE]
   have hlt2:(((List.range ops.size).filter (λk=> !inE listed k)).filter (λk=>k !=i)).length<((List.range ops.size).filter (λk=> !inE listed k)).length:=by
    rcases Nat.lt_or_ge (((List.range ops.size).filter (λk=> !inE listed k)).filter (λk=>k !=i)).length ((List.range ops.size).filter (λk=> !inE listed k)).length with h|h
    ·exact h
    ·have:=List.length_filter_le (λk=>k !=i) ((List.range ops.size).filter (λk=> !inE listed k))
     have heq:(((List.range ops.size).filter (λk=> !inE listed k)).filter (λk=>k !=i)).length=((List.range ops.size).filter (λk=> !inE listed k)).length:=by omega
     rw[List.length_filter_eq_length_iff]at heq
     have:=heq i hmem
     simp at this
   omega
  have next:∀(u:Value)(w':World)(j':Nat->Hd)(L':Nat->List Nat)(S':Nat->Prop),Rel c.P c.B c.N (buildF (inE listed) 0 full fr0) (y.ws++buildS (inE listed) 0 full σ0) j' L' S' a w'->VRel c.P j' w' S' y.v u->wpAny c.P .any ops QM fuel (listed.setIfInBounds i true) (a.put o.dst u) w':=by
   intro u w' j' L' S' hr' hv
   have hdst:y.d=o.dst:=hyd
   refine ih _ _ w' j' L' S' (by simp[hs]) hc' hf' ((hr'.putd (d:=o.dst) hN hv).congr (λt=> ?_) hd2)
   rw[hd1,hdst]
  have hgt:∀t want,g=some (t,want)->get (buildF (inE listed) 0 full fr0) t=get (txF full fr0 i) t:=by
   rintro t want rfl
   exact hs1 t (by rw[hsl];simp[slotsO])
  unfold wpOp
  rw[ho]
  simp only
  rcases hcase with ⟨hgo,R,hev,hft⟩|⟨hst,hyv,hyw⟩
  ·have hw:Region.wanted o (yielded ops a.tmps)=true:=by
    cases g with
    |none=>
     unfold gOf at hg
     split at hg
     ·rename_i hgu
      unfold Region.wanted
      rw[hgu]
     ·split at hg<;>simp at hg
    |some tw=>
     obtain⟨t,want⟩:=tw
     have hv:get (buildF (inE listed) 0 full fr0) t=.c (.b want):=(hgt t want rfl).trans hgo
     rw[wanted_of hr hg hv (guard_lt hl hg)]
     simp
   rw[hw,if_pos rfl]
   left
   have hlocal:EvZ c.P (buildF (inE listed) 0 full fr0) (buildS (inE listed) 0 full σ0) (sid site i) x y.v y.ws R:=by
    refine hev.local (λz hz=> ?_) (λr hr'=>hs2 r ?_)
    ·cases z with
     |t n=>exact hs1 n (by rw[hsl];simp only[slotsO,List.mem_append];exact .inr (slotsA_mem hz))
     |c v=>rfl
    ·rcases hr' with (hr'|hr')|hr'
     ·left;rw[hft];simp[hr']
     ·left;rw[hft];simp[hr']
     ·right;exact hr'
   exact hlocal.does hr hx (Nat.le_trans hB (sid_ge _ _)) _ _ (λu w' j' L' S' hr' hv=>next u w' j' L' S' hr' hv)
  ·have hw:Region.wanted o (yielded ops a.tmps)=false:=by
    cases g with
    |none=>exact hst.elim
    |some tw=>
     obtain⟨t,want⟩:=tw
     rcases hst with ⟨b,hb,hne⟩|hb
     ·rw[wanted_of hr hg ((hgt t want rfl).trans hb) (guard_lt hl hg)]
      simpa using hne
     ·exact wanted_none hr hg ((hgt t want rfl).trans hb)
   rw[hw]
   simp only[Bool.false_eq_true,if_false]
   refine next undef w j L S ?_ (by rw[hyv];exact undef_rel)
   rw[hyw]
   exact hr
theorem Run.draw (hB:c.B.m<=1000)(hm:c.P.follows .mixedOrders=true){site:Nat}{l:List Op1}(h:OpsD c site 0 l fr σ [] (λfr σ tr=>okDraw tr=true/\Q .normal fr σ)):Run c (.ops site true l) fr σ Q:=by
 intro code hk a w j L S hr
 cases code<;>simp only[kOf,Option.some.injEq,reduceCtorEq,Option.map_eq_some_iff]at hk<;>try (obtain⟨_,_,hk⟩:=hk;cases hk)
 case region ops hl=>
  obtain⟨full,post,hfp,hlen,hgood,hok,hq⟩:=opsD_good l [] fr σ rfl rfl h
  rw[List.nil_append]at hfp
  subst hfp
  refine wp_region_any hm ?_
  have h0:∀i,inE (Array.replicate ops.size false) i=false:=by
   intro i
   unfold inE
   rcases Nat.lt_or_ge i ops.size with hi|hi
   ·simp[hi]
   ·simp[hi]
  have hr0:=hr.drew
  refine draw_sound hB hl (full:=full) hlen (fr0:=fr) (σ0:=σ) (λi o ho=>by simpa using hgood i o ho) hok (λj L S a w hr'=>⟨_,_,j,L,S,hq,hr'⟩) ops.size (Array.replicate ops.size false) a _ j L S (by simp) (λi x _ hi=>by rw[h0]at hi;cases hi) ?_ ?_
  ·exact Nat.le_trans (List.length_filter_le _ _) (by simp)
  ·have hnone:∀(tr:List Tr)(k:Nat)(fr:Fr),buildF (inE (Array.replicate ops.size false)) k tr fr=fr:=by
    intro tr
    induction tr with
    |nil=>intro k fr;rfl
    |cons z tr ih=>intro k fr;simp only[buildF,h0];exact ih (k+1) fr
   have hnoneS:∀(tr:List Tr)(k:Nat)(σ:St),buildS (inE (Array.replicate ops.size false)) k tr σ=σ:=by
    intro tr
    induction tr with
    |nil=>intro k σ;rfl
    |cons z tr ih=>intro k σ;simp only[buildS,h0];exact ih (k+1) σ
   rw[hnone,hnoneS]
   exact hr0
 all_goals (exfalso;revert hk;repeat' split)<;>simp
end
end Go.Proofs.YtmcbbifeekhmgaaGreatDoor.Pe
