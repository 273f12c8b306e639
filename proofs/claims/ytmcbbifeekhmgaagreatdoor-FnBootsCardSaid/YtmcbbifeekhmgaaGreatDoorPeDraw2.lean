import Derived.Test.YtmcbbifeekhmgaaGreatDoorPeDraw
namespace Go.Proofs.YtmcbbifeekhmgaaGreatDoor.Pe
open Go Go.RowKit
def before (i:Nat):Nat->Bool:=λq=>decide (q<i)
def txF (full:List Tr)(fr:Fr)(i:Nat):Fr:=buildF (before i) 0 full fr
def txS (full:List Tr)(σ:St)(i:Nat):St:=buildS (before i) 0 full σ
def goes (g:Option (Nat×Bool))(fr:Fr):Prop:=match g with
 |none=>True
 |some (t,want)=>get fr t=.c (.b want)
def stays (g:Option (Nat×Bool))(fr:Fr):Prop:=match g with
 |none=>False
 |some (t,want)=>(∃b,get fr t=.c (.b b)/\b≠want)\/get fr t=.tup []
def Good (c:Ctx)(site:Nat)(full:List Tr)(fr0:Fr)(σ0:St)(i:Nat)(o:Op1):Prop:=
 ∃x,full[i]? =some x/\x.d=o.d/\x.af=o.a/\x.sl=slotsO o/\
  ((goes o.g (txF full fr0 i)/\∃R,EvZ c.P (txF full fr0 i) (txS full σ0 i) (sid site i) o.o x.v x.ws R/\x.ft=refsO (txF full fr0 i) o.o++R)\/(stays o.g (txF full fr0 i)/\x.v=.tup []/\x.ws=[]))
theorem buildF_app {E:Nat->Bool}:∀{a b:List Tr}{k:Nat}{fr:Fr},buildF E k (a++b) fr=buildF E (k+a.length) b (buildF E k a fr)
 |[],b,k,fr=>by simp[buildF]
 |x::a,b,k,fr=>by
  simp only[List.cons_append,buildF,List.length_cons]
  rw[buildF_app,show k+1+a.length=k+(a.length+1) by omega]
theorem buildS_app {E:Nat->Bool}:∀{a b:List Tr}{k:Nat}{σ:St},buildS E k (a++b) σ=buildS E (k+a.length) b (buildS E k a σ)
 |[],b,k,σ=>by simp[buildS]
 |x::a,b,k,σ=>by
  simp only[List.cons_append,buildS,List.length_cons]
  rw[buildS_app,show k+1+a.length=k+(a.length+1) by omega]
theorem buildF_none {i:Nat}:∀{tr:List Tr}{k:Nat}{fr:Fr},i<=k->buildF (before i) k tr fr=fr
 |[],_,_,_=>rfl
 |x::tr,k,fr,h=>by
  have:before i k=false:=by unfold before;simp only[decide_eq_false_iff_not];omega
  simp only[buildF,this]
  exact buildF_none (by omega)
theorem buildS_none {i:Nat}:∀{tr:List Tr}{k:Nat}{σ:St},i<=k->buildS (before i) k tr σ=σ
 |[],_,_,_=>rfl
 |x::tr,k,σ,h=>by
  have:before i k=false:=by unfold before;simp only[decide_eq_false_iff_not];omega
  simp only[buildS,this]
  exact buildS_none (by omega)
theorem buildF_all {i:Nat}:∀{tr:List Tr}{k:Nat}{fr:Fr},k+tr.length<=i->buildF (before i) k tr fr=buildF (λ_=>true) k tr fr
 |[],_,_,_=>rfl
 |x::tr,k,fr,h=>by
  simp only[List.length_cons]at h
  have:before i k=true:=by unfold before;simp only[decide_eq_true_eq];omega
  simp only[buildF,this]
  exact buildF_all (by omega)
theorem buildS_all {i:Nat}:∀{tr:List Tr}{k:Nat}{σ:St},k+tr.length<=i->buildS (before i) k tr σ=buildS (λ_=>true) k tr σ
 |[],_,_,_=>rfl
 |x::tr,k,σ,h=>by
  simp only[List.length_cons]at h
  have:before i k=true:=by unfold before;simp only[decide_eq_true_eq];omega
  simp only[buildS,this]
  exact buildS_all (by omega)
theorem txF_at {a b:List Tr}{fr:Fr}:txF (a++b) fr a.length=buildF (λ_=>true) 0 a fr:=by
 unfold txF
 rw[buildF_app,buildF_none (by omega),buildF_all (by omega)]
theorem txS_at {a b:List Tr}{σ:St}:txS (a++b) σ a.length=buildS (λ_=>true) 0 a σ:=by
 unfold txS
 rw[buildS_app,buildS_none (by omega),buildS_all (by omega)]
theorem opsD_good {c:Ctx}{site:Nat}{fr0:Fr}{σ0:St}{Q:Fr->St->List Tr->Prop}:∀(l:List Op1)(pre:List Tr)(fr:Fr)(σ:St),fr=buildF (λ_=>true) 0 pre fr0->σ=buildS (λ_=>true) 0 pre σ0->OpsD c site pre.length l fr σ pre Q->
  ∃full post,full=pre++post/\post.length=l.length/\(∀i o,l[i]? =some o->Good c site full fr0 σ0 (pre.length+i) o)/\Q (buildF (λ_=>true) 0 full fr0) (buildS (λ_=>true) 0 full σ0) full
 |[],pre,fr,σ,hf,hσ,h=>⟨pre,[],by simp,rfl,by simp,by subst hf;subst hσ;exact h⟩
 |o::l,pre,fr,σ,hf,hσ,h=>by
  have ex:∀v ws R,EvZ c.P fr σ (sid site pre.length) o.o v ws R->goes o.g fr->OpsD c site (pre.length+1) l (putd o.d v fr) (ws++σ) (pre++[⟨o.d,v,ws,refsO fr o.o++R,slotsO o,o.a⟩]) Q->
    ∃full post,full=pre++post/\post.length=(o::l).length/\(∀i o',(o::l)[i]? =some o'->Good c site full fr0 σ0 (pre.length+i) o')/\Q (buildF (λ_=>true) 0 full fr0) (buildS (λ_=>true) 0 full σ0) full:=by
   intro v ws R he hg hr
   obtain⟨full,post,rfl,hl,hgood,hq⟩:=opsD_good l (pre++[⟨o.d,v,ws,refsO fr o.o++R,slotsO o,o.a⟩]) (putd o.d v fr) (ws++σ) (by rw[buildF_app,<-hf];rfl) (by rw[buildS_app,<-hσ];rfl) (by simpa using hr)
   refine⟨_,⟨o.d,v,ws,refsO fr o.o++R,slotsO o,o.a⟩::post,by simp,by simp[hl],λi o' ho=> ?_,hq⟩
   cases i with
   |zero=>
    simp only[List.getElem?_cons_zero,Option.some.injEq]at ho
    subst ho
    have e1:txF (pre++[⟨o.d,v,ws,refsO fr o.o++R,slotsO o,o.a⟩]++post) fr0 pre.length=fr:=by rw[List.append_assoc,txF_at,<-hf]
    have e2:txS (pre++[⟨o.d,v,ws,refsO fr o.o++R,slotsO o,o.a⟩]++post) σ0 pre.length=σ:=by rw[List.append_assoc,txS_at,<-hσ]
    refine⟨⟨o.d,v,ws,refsO fr o.o++R,slotsO o,o.a⟩,by simp,rfl,rfl,rfl,.inl ⟨?_,R,?_,?_⟩⟩
    ·rw[Nat.add_zero,e1];exact hg
    ·rw[Nat.add_zero,e1,e2];exact he
    ·rw[Nat.add_zero,e1]
   |succ i=>
    have:=hgood i o' (by simpa using ho)
    rw[List.length_append]at this
    simpa[Nat.add_assoc,Nat.add_comm 1 i]using this
  have sk:stays o.g fr->OpsD c site (pre.length+1) l (putd o.d (.tup []) fr) σ (pre++[⟨o.d,.tup [],[],[],slotsO o,o.a⟩]) Q->
    ∃full post,full=pre++post/\post.length=(o::l).length/\(∀i o',(o::l)[i]? =some o'->Good c site full fr0 σ0 (pre.length+i) o')/\Q (buildF (λ_=>true) 0 full fr0) (buildS (λ_=>true) 0 full σ0) full:=by
   intro hg hr
   obtain⟨full,post,rfl,hl,hgood,hq⟩:=opsD_good l (pre++[⟨o.d,.tup [],[],[],slotsO o,o.a⟩]) (putd o.d (.tup []) fr) σ (by rw[buildF_app,<-hf];rfl) (by rw[buildS_app,<-hσ];rfl) (by simpa using hr)
   refine⟨_,⟨o.d,.tup [],[],[],slotsO o,o.a⟩::post,by simp,by simp[hl],λi o' ho=> ?_,hq⟩
   cases i with
   |zero=>
    simp only[List.getElem?_cons_zero,Option.some.injEq]at ho
    subst ho
    have e1:txF (pre++[⟨o.d,.tup [],[],[],slotsO o,o.a⟩]++post) fr0 pre.length=fr:=by rw[List.append_assoc,txF_at,<-hf]
    refine⟨⟨o.d,.tup [],[],[],slotsO o,o.a⟩,by simp,rfl,rfl,rfl,.inr ⟨?_,rfl,rfl⟩⟩
    rw[Nat.add_zero,e1]
    exact hg
   |succ i=>
    have:=hgood i o' (by simpa using ho)
    rw[List.length_append]at this
    simpa[Nat.add_assoc,Nat.add_comm 1 i]using this
  obtain⟨d,g,af,op⟩:=o
  cases g with
  |none=>
   obtain⟨v,ws,R,he,hr⟩:=h
   exact ex v ws R he trivial hr
  |some tw=>
   obtain⟨t,want⟩:=tw
   rcases h with ⟨b,hb,h1,h2⟩|⟨hb,h2⟩
   ·by_cases e:b=want
    ·subst e
     obtain⟨v,ws,R,he,hr⟩:=h1 rfl
     exact ex v ws R he hb hr
    ·exact sk (.inl ⟨b,hb,e⟩) (h2 e)
   ·exact sk (.inr hb) h2
section
variable {c:Ctx} {j:Nat->Hd} {L:Nat->List Nat} {S:Nat->Prop} {a:Act} {w:World}
theorem Rel.congr {P:Program}{B:Begin}{N:Nat}{fr fr':Fr}{σ σ':St}(h:Rel P B N fr σ j L S a w)(hf:∀t,get fr' t=get fr t)(hσ:∀r,root σ' r=root σ r):Rel P B N fr' σ' j L S a w where
 size:=h.size
 defers:=h.defers
 slots t:=by rw[hf];exact h.slots t
 mem:={ h.mem with roots:=λr=>by rw[hσ];exact h.mem.roots r }
 since:=h.since
def inE (listed:Array Bool)(i:Nat):Bool:=listed.getD i false
def Closed (full:List Tr)(listed:Array Bool):Prop:=∀i x,full[i]? =some x->inE listed i=true->∀q∈x.af,inE listed q=true
theorem closed_before {full:List Tr}{listed:Array Bool}(hc:Closed full listed){i j:Nat}(h:Before full i j):inE listed j=true->inE listed i=true:=by
 induction h with
 |edge h hi=>exact λhj=>hc _ _ h hj _ hi
 |over h hq hb ih=>exact λhj=>ih (hc _ _ h hj _ hq)
theorem ahead_done {full:List Tr}{listed:Array Bool}(hc:Closed full listed){i j:Nat}{x:Tr}(hx:full[j]? =some x)(ha:∀q∈x.af,inE listed q=true)(h:Before full i j):inE listed i=true:=by
 cases h with
 |edge h hi=>rw[hx]at h;cases h;exact ha _ hi
 |over h hq hb=>rw[hx]at h;cases h;exact closed_before hc hb (ha _ hq)
theorem behind_not {full:List Tr}{listed:Array Bool}(hc:Closed full listed){i j:Nat}(hj:inE listed j=false)(h:Before full j i):inE listed i=false:=by
 cases hi:inE listed i with
 |false=>rfl
 |true=>rw[closed_before hc h hi]at hj;cases hj
theorem clash_d {y x:Tr}{d:Nat}(hy:y.d=some d)(h:d∈x.sl\/x.d=some d):clash y x=true:=by
 unfold clash
 rw[hy]
 rcases h with h|h
 ·have:=has_iff.2 h
  simp[this]
 ·simp[h]
theorem clash_d' {y x:Tr}{d:Nat}(hx:x.d=some d)(h:d∈y.sl):clash y x=true:=by
 unfold clash
 rw[hx]
 have:=has_iff.2 h
 simp[this]
theorem clash_w {y x:Tr}{r:Nat}(hy:r∈y.ws.map (·.1))(h:r∈x.ft\/r∈x.ws.map (·.1)):clash y x=true:=by
 unfold clash
 have:y.ws.any (λp=>has x.ft p.1||has (x.ws.map (·.1)) p.1)=true:=by
  rw[List.any_eq_true]
  obtain⟨p,hp,rfl⟩:=List.mem_map.1 hy
  refine⟨p,hp,?_⟩
  rw[Bool.or_eq_true]
  exact h.imp has_iff.2 has_iff.2
 simp only[this,Bool.or_true,Bool.true_or]
theorem clash_w' {y x:Tr}{r:Nat}(hx:r∈x.ws.map (·.1))(h:r∈y.ft):clash y x=true:=by
 unfold clash
 have:x.ws.any (λp=>has y.ft p.1)=true:=by
  rw[List.any_eq_true]
  obtain⟨p,hp,rfl⟩:=List.mem_map.1 hx
  exact⟨p,hp,has_iff.2 h⟩
 simp only[this,Bool.or_true]
theorem sees {full:List Tr}(hok:okDraw full=true){listed:Array Bool}(hc:Closed full listed){j:Nat}{x:Tr}(hx:full[j]? =some x)(hj:inE listed j=false)(ha:∀q∈x.af,inE listed q=true)(fr0:Fr)(σ0:St):
  (∀t∈x.sl,get (buildF (inE listed) 0 full fr0) t=get (txF full fr0 j) t)/\∀r,r∈x.ft\/r∈x.ws.map (·.1)->root (buildS (inE listed) 0 full σ0) r=root (txS full σ0 j) r:=by
 have hspec:=okDraw_spec hok
 refine⟨λt ht=>buildF_congr rfl (λi y hy hd=> ?_),λr hr=>buildS_congr rfl (λi y hy hd=> ?_)⟩
 ·rw[Nat.zero_add]
  rcases Nat.lt_trichotomy i j with hlt|rfl|hgt
  ·rw[ahead_done hc hx ha ((hspec j x hx).2 i y hlt hy (clash_d hd (.inl ht)))]
   simp[before,hlt]
  ·rw[hj];simp[before]
  ·rw[behind_not hc hj ((hspec i y hy).2 j x hgt hx (clash_d' hd ht))]
   simp[before];omega
 ·rw[Nat.zero_add]
  rcases Nat.lt_trichotomy i j with hlt|rfl|hgt
  ·rw[ahead_done hc hx ha ((hspec j x hx).2 i y hlt hy (clash_w hd hr))]
   simp[before,hlt]
  ·rw[hj];simp[before]
  ·have hcl:clash x y=true:=by
    rcases hr with hr|hr
    ·exact clash_w' hd hr
    ·exact clash_w hr (.inr hd)
   rw[behind_not hc hj ((hspec i y hy).2 j x hgt hx hcl)]
   simp[before];omega
theorem inE_set {listed:Array Bool}{j i:Nat}(hj:j<listed.size):inE (listed.setIfInBounds j true) i=if i=j then true else inE listed i:=by
 unfold inE
 by_cases h:i=j
 ·subst h;simp[hj]
 ·simp[h,Array.getElem?_setIfInBounds_ne (Ne.symm h)]
theorem done_state {full:List Tr}(hok:okDraw full=true){listed:Array Bool}(hc:Closed full listed){j:Nat}{x:Tr}(hx:full[j]? =some x)(hj:inE listed j=false)(hjs:j<listed.size)(fr0:Fr)(σ0:St):
  (∀t,get (buildF (inE (listed.setIfInBounds j true)) 0 full fr0) t=get (putd x.d x.v (buildF (inE listed) 0 full fr0)) t)/\∀r,root (buildS (inE (listed.setIfInBounds j true)) 0 full σ0) r=root (x.ws++buildS (inE listed) 0 full σ0) r:=by
 have hspec:=okDraw_spec hok
 refine⟨λt=> ?_,λr=> ?_⟩
 ·rw[get_putd]
  by_cases hd:x.d=some t
  ·rw[if_pos hd]
   refine buildF_last hx hd (by rw[Nat.zero_add,inE_set hjs,if_pos rfl]) (λi y hi hy hyd=> ?_)
   rw[Nat.zero_add,inE_set hjs,if_neg (by omega)]
   exact behind_not hc hj ((hspec i y hy).2 j x hi hx (clash_d hd (.inr hyd)))
  ·rw[if_neg hd]
   refine buildF_congr rfl (λi y hy hyd=> ?_)
   rw[Nat.zero_add,inE_set hjs]
   by_cases h:i=j
   ·subst h;rw[hx]at hy;cases hy;exact absurd hyd hd
   ·rw[if_neg h]
 ·rw[root_ws]
  by_cases hd:r∈x.ws.map (·.1)
  ·rw[if_pos hd]
   refine buildS_last hx hd (by rw[Nat.zero_add,inE_set hjs,if_pos rfl]) (λi y hi hy hyd=> ?_)
   rw[Nat.zero_add,inE_set hjs,if_neg (by omega)]
   exact behind_not hc hj ((hspec i y hy).2 j x hi hx (clash_w hd (.inr hyd)))
  ·rw[if_neg hd]
   refine buildS_congr rfl (λi y hy hyd=> ?_)
   rw[Nat.zero_add,inE_set hjs]
   by_cases h:i=j
   ·subst h;rw[hx]at hy;cases hy;exact absurd hyd hd
   ·rw[if_neg h]
end
end Go.Proofs.YtmcbbifeekhmgaaGreatDoor.Pe
