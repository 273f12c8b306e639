import Derived.Test.YtmcbbifeekhmgaaGreatDoorPeRun
import Derived.Test.YtmcbbifeekhmgaaGreatDoorPeLocal
namespace Go.Proofs.YtmcbbifeekhmgaaGreatDoor.Pe
open Go Go.RowKit
section
variable {P:Program} {B:Begin} {N:Nat} {fr fr' fr2:Fr} {σ σ' σ2:St}
theorem Gh.refl:Gh P B N fr σ fr σ:=λj L S _ _ h=>⟨j,L,S,h⟩
theorem Gh.trans (h1:Gh P B N fr σ fr' σ')(h2:Gh P B N fr' σ' fr2 σ2):Gh P B N fr σ fr2 σ2:=by
 intro j L S a w h
 obtain⟨j',L',S',h'⟩:=h1 j L S a w h
 exact h2 j' L' S' a w h'
theorem Gh.pick {ρ ts:List Nat}(hρ:ρ.Nodup)(hm:∀k,k<B.m->ρ[k]? =some k):Gh P B N fr σ (keepF (idx ρ) fr ts) (pickS ρ σ):=λ_ _ _ _ _ h=>⟨_,_,_,h.pick hρ hm ts⟩
theorem Gh.nilSlot {t c:Nat}(hf:freshIn σ B.m (nilA c (get fr t))=true):Gh P B N fr σ ((t,nilV c (get fr t))::fr) (nilA c (get fr t)++σ):=λ_ _ _ _ _ h=>by
 obtain⟨j',h'⟩:=h.nilSlot hf
 exact⟨j',_,_,h'⟩
theorem Gh.nilBox {r c:Nat}{cells:List V}(hr:root σ r=.box cells)(hf:freshIn σ B.m (nilAs c cells)=true):Gh P B N fr σ fr ((r,.box (nilVs c cells))::(nilAs c cells++σ)):=λ_ _ _ _ _ h=>by
 obtain⟨j',h'⟩:=h.nilBox hr hf
 exact⟨j',_,_,h'⟩
theorem Gh.freeze {r e:Nat}{rows rows':List (List C)}(hr:root σ r=.vec e rows)(ht:roRows rows=rows'):Gh P B N fr σ fr ((r,.ro e rows')::σ):=λ_ _ _ _ _ h=>h.freeze hr ht
def nilSlots:Nat->List Nat->Fr->St->Fr×St
 |_,[],fr,σ=>(fr,σ)
 |c,t::ts,fr,σ=>nilSlots (c+64) ts ((t,nilV c (get fr t))::fr) (nilA c (get fr t)++σ)
def okSlots (m:Nat):Nat->List Nat->Fr->St->Bool
 |_,[],_,_=>true
 |c,t::ts,fr,σ=>freshIn σ m (nilA c (get fr t))&&okSlots m (c+64) ts ((t,nilV c (get fr t))::fr) (nilA c (get fr t)++σ)
theorem gh_nilSlots:∀{ts:List Nat}{c:Nat}{fr:Fr}{σ:St},okSlots B.m c ts fr σ=true->Gh P B N fr σ (nilSlots c ts fr σ).1 (nilSlots c ts fr σ).2
 |[],_,_,_,_=>Gh.refl
 |t::ts,c,fr,σ,h=>by
  simp only[okSlots,Bool.and_eq_true]at h
  exact(Gh.nilSlot h.1).trans (gh_nilSlots h.2)
def nilBoxes:Nat->List Nat->St->St
 |_,[],σ=>σ
 |c,r::rs,σ=>match root σ r with
  |.box cells=>nilBoxes (c+64) rs ((r,.box (nilVs c cells))::(nilAs c cells++σ))
  |_=>nilBoxes (c+64) rs σ
def okBoxes (m:Nat):Nat->List Nat->St->Bool
 |_,[],_=>true
 |c,r::rs,σ=>match root σ r with
  |.box cells=>freshIn σ m (nilAs c cells)&&okBoxes m (c+64) rs ((r,.box (nilVs c cells))::(nilAs c cells++σ))
  |_=>okBoxes m (c+64) rs σ
theorem gh_nilBoxes:∀{rs:List Nat}{c:Nat}{σ:St},okBoxes B.m c rs σ=true->Gh P B N fr σ fr (nilBoxes c rs σ)
 |[],_,_,_=>Gh.refl
 |r::rs,c,σ,h=>by
  simp only[okBoxes]at h
  simp only[nilBoxes]
  split at h
  ·rename_i cells hr
   simp only[Bool.and_eq_true]at h
   exact(Gh.nilBox hr h.1).trans (gh_nilBoxes h.2)
  ·exact gh_nilBoxes h
def slotRefs (fr:Fr):List Nat->List Nat
 |[]=>[]
 |t::ts=>refs (get fr t)++slotRefs fr ts
def nodupB:List Nat->Bool
 |[]=>true
 |x::xs=> !has xs x&&nodupB xs
theorem nodupB_spec:∀{l:List Nat},nodupB l=true->l.Nodup
 |[],_=>.nil
 |x::xs,h=>by
  simp only[nodupB,Bool.and_eq_true,Bool.not_eq_true']at h
  rw[List.nodup_cons]
  refine⟨λhx=> ?_,nodupB_spec h.2⟩
  grind [has_iff]
def firsts:Nat->Nat->List Nat->Bool
 |_,0,_=>true
 |k,m+1,x::xs=>Nat.beq x k&&firsts (k+1) m xs
 |_,_+1,[]=>false
theorem firsts_spec:∀{m k:Nat}{l:List Nat},firsts k m l=true->∀q,q<m->l[q]? =some (k+q)
 |0,k,l,_,q,hq=>by omega
 |m+1,k,x::xs,h,q,hq=>by
  simp only[firsts,Bool.and_eq_true,Nat.beq_eq]at h
  cases q with
  |zero=>simp[h.1]
  |succ q=>
   have:=firsts_spec h.2 q (by omega)
   grind
 |m+1,k,[],h,q,hq=>by simp[firsts]at h
def nfD:V->Option V
 |.agg vs=>match nfL vs with
  |some l=>some (.agg l)
  |none=>none
 |.fn f vs=>match nfL vs with
  |some l=>some (.fn f l)
  |none=>none
 |v=>nf v
theorem nfD_some {v x:V}(h:nfD v=some x):x=v:=by
 unfold nfD at h
 split at h
 ·grind [Option.some.injEq,nfL_some]
 ·grind [Option.some.injEq,nfL_some]
 ·exact nf_some h
def nfF:Fr->Option Fr
 |[]=>some []
 |(t,v)::fr=>match nfD v,nfF fr with
  |some x,some l=>some ((t,x)::l)
  |_,_=>none
theorem nfF_some:∀{fr l:Fr},nfF fr=some l->l=fr
 |[],l,h=>by simp only[nfF,Option.some.injEq]at h;exact h.symm
 |(t,v)::fr,l,h=>by
  simp only[nfF]at h
  split at h<;>simp only[Option.some.injEq,reduceCtorEq]at h
  rename_i x ys h1 h2
  rw[<-h,nfD_some h1,nfF_some h2]
def nfR:Rt->Option Rt
 |.box cells=>match nfL cells with
  |some l=>some (.box l)
  |none=>none
 |.no=>some .no
 |.gone=>some .gone
 |.vec e rows=>some (.vec e rows)
 |.ro e rows=>some (.ro e rows)
 |.lnk e rows i cs ls=>some (.lnk e rows i cs ls)
 |.mp es=>some (.mp es)
theorem nfR_some {v x:Rt}(h:nfR v=some x):x=v:=by
 cases v<;>simp only[nfR,Option.some.injEq]at h
 case box cells=>
  grind [Option.some.injEq,nfL_some]
 all_goals exact h.symm
def nfS:St->Option St
 |[]=>some []
 |(t,v)::σ=>match nfR v,nfS σ with
  |some x,some l=>some ((t,x)::l)
  |_,_=>none
theorem nfS_some:∀{σ l:St},nfS σ=some l->l=σ
 |[],l,h=>by simp only[nfS,Option.some.injEq]at h;exact h.symm
 |(t,v)::σ,l,h=>by
  simp only[nfS]at h
  split at h<;>simp only[Option.some.injEq,reduceCtorEq]at h
  rename_i x ys h1 h2
  rw[<-h,nfR_some h1,nfS_some h2]
end
def framed:Nat->List V->Fr
 |_,[]=>[]
 |k,v::vs=>(k,v)::framed (k+1) vs
theorem get_framed:∀{vs:List V}{k t:Nat},get (framed k vs) t=if k<=t then(vs[t-k]?).getD .undef else .undef
 |[],k,t=>by simp[framed,get]
 |v::vs,k,t=>by
  rw[framed,get_put,get_framed]
  grind
def resV (fr:Fr)(σ:St):List (Nat×Option (Nat×Bool))->Option (List V)
 |[]=>some []
 |(t,none)::rs=>match resV fr σ rs with
  |some us=>some (get fr t::us)
  |none=>none
 |(t,some (n,ag))::rs=>match get fr t with
  |.ptr r o=>match root σ r with
   |.box cells=>match takeN n (cells.drop o),resV fr σ rs with
    |some l,some us=>match mkV ag l with
     |some v=>some (v::us)
     |none=>none
    |_,_=>none
   |_=>none
  |_=>none
def oneV:List V->V
 |[v]=>v
 |vs=>.tup vs
def gets (fr:Fr):Nat->Nat->List V
 |_,0=>[]
 |k,n+1=>get fr k::gets fr (k+1) n
def Ends (P:Program)(B:Begin)(F:F)(vo:V)(σo:St):Post:=λe fr σ=>(e=.ret\/e=.normal)/\∃us,resV fr σ F.res=some us/\∃fr2,Gh P B us.length (framed 0 us) σ fr2 σo/\vo=oneV (gets fr2 0 us.length)
section
variable {P:Program} {B:Begin} {N:Nat} {fr:Fr} {σ:St} {j:Nat->Hd} {L:Nat->List Nat} {S:Nat->Prop} {a:Act} {w:World}
theorem resV_run (h:Rel P B N fr σ j L S a w):∀{rv:List ResultVar}{rs:List (Nat×Option (Nat×Bool))}{us:List V},resOf P rv=some rs->resV fr σ rs=some us->∃vals:List Value,VsRel P j w S us vals/\(rv.mapM fun |.tmp t=>pure (a.tmps.getD t undef)|.cell p t=>do loadVar t (<-asAddr (a.tmps.getD p undef)):Sem (List Value)).run P w=.ok vals w
 |[],rs,us,h1,h2=>by
  simp only[resOf,Option.some.injEq]at h1
  subst h1
  simp only[resV,Option.some.injEq]at h2
  subst h2
  exact⟨[],by simp only[VsRel],by simp⟩
 |.tmp t::rv,rs,us,h1,h2=>by
  simp only[resOf,Option.map_eq_some_iff]at h1
  obtain⟨rs',h3,rfl⟩:=h1
  simp only[resV]at h2
  split at h2<;>simp only[Option.some.injEq,reduceCtorEq]at h2
  rename_i us' hus
  subst h2
  obtain⟨vals,q1,q2⟩:=resV_run h h3 hus
  refine⟨_::vals,by simp only[VsRel];exact⟨_,_,rfl,h.slots t,q1⟩,?_⟩
  simp only[List.mapM_cons,Sem.run_bind,Sem.run_pure,Result.andThen_ok,q2]
  rfl
 |.cell p t::rv,rs,us,h1,h2=>by
  simp only[resOf]at h1
  split at h1<;>simp only[Option.some.injEq,reduceCtorEq]at h1
  rename_i s xs hs hxs
  subst h1
  obtain⟨n,ag⟩:=s
  simp only[resV]at h2
  split at h2<;>try simp only[reduceCtorEq]at h2
  rename_i r o hp
  split at h2<;>try simp only[reduceCtorEq]at h2
  rename_i cells hr
  split at h2<;>try simp only[reduceCtorEq]at h2
  rename_i l us' hl hus
  split at h2<;>simp only[Option.some.injEq,reduceCtorEq]at h2
  rename_i v hv
  subst h2
  obtain⟨vals,q1,q2⟩:=resV_run h hxs hus
  have hpx:=h.slots p
  rw[hp]at hpx
  simp only[VRel]at hpx
  obtain⟨g,hg,hpx⟩:=hpx
  obtain⟨g',cur,e',hg',hh,hvs,_,_⟩:=h.mem.boxAt hr
  obtain rfl:g'=g:=by rw[hg]at hg';cases hg';rfl
  obtain⟨pre,post,rfl,hpre,hln⟩:=drop_take_at hl
  obtain⟨v1,v2,hcur,g1,g2⟩:=hvs.split
  obtain⟨v3,v4,rfl,g3,g4⟩:=g2.split
  have ho1:v1.length=o\/v3=[]:=by
   rcases hpre with hp|hp
   ·exact .inl (g1.len.trans hp)
   grind [VsRel]
  obtain⟨u,hu,hrel⟩:=load_run hs hpx hv g3 (g3.len.trans hln) (box_cells hh hcur ho1)
  refine⟨u::vals,by simp only[VsRel];exact⟨_,_,rfl,hrel,q1⟩,?_⟩
  simp only[Act.eval]at hpx
  have hu':(loadVar t ⟨g',o,none⟩).run P w=.ok u w:=by
   simp only[Instr.loadAt,Act.eval,hpx,Instr.sureAddr,Sem.run_bind,Sem.run_pure,Result.andThen_ok]at hu
   exact hu
  have hc:(do loadVar t (<-asAddr (a.tmps.getD p undef)):Go.Sem Value).run P w=.ok u w:=by
   rw[hpx]
   simp only[asAddr,Sem.run_bind,Sem.run_pure,Result.andThen_ok,hu']
  rw[List.mapM_cons,Sem.run_bind]
  show(Sem.run P (do loadVar t (<-asAddr (a.tmps.getD p undef)):Go.Sem Value) w).andThen _=_
  rw[hc]
  simp only[Result.andThen_ok,Sem.run_bind,q2,Sem.run_pure]
theorem framed_rel {us:List V}{vals:List Value}(h:Rel P B N fr σ j L S a w)(hv:VsRel P j w S us vals):Rel P B us.length (framed 0 us) σ j L S { tmps:=vals.toArray,defers:=[] } w:=by
 refine⟨by simpa using hv.len,rfl,λt=> ?_,h.mem,h.since⟩
 rw[get_framed]
 simp only[Nat.zero_le,if_true,Nat.sub_zero,Act.eval,Array.getD_eq_getD_getElem?,List.getElem?_toArray]
 cases hk:us[t]? with
 |none=>exact VRel.undef
 |some x=>
  obtain⟨u,hu,hr⟩:=hv.at hk
  rw[hu]
  exact hr
theorem gets_rel {a:Act}{vals:List Value}{n:Nat}(h:Rel P B n fr σ j L S a w)(ha:a.tmps=vals.toArray):∀{m k:Nat},k+m=vals.length->VsRel P j w S (gets fr k m) (vals.drop k)
 |0,k,hk=>by
  grind [List.drop_eq_nil_of_le,gets,VsRel]
 |m+1,k,hk=>by
  have hlt:k<vals.length:=by omega
  rw[List.drop_eq_getElem_cons hlt]
  simp only[gets,VsRel]
  refine⟨_,_,rfl,?_,gets_rel h ha (by omega)⟩
  have:=h.slots k
  simpa[Act.eval,ha,hlt]using this
theorem oneV_rel {us:List V}{vals:List Value}(h:VsRel P j w S us vals):VRel P j w S (oneV us) (if h:vals.toArray.size=1 then vals.toArray[0]else .tuple vals.toArray):=by
 match us,h with
 |[],h=>
  grind [VsRel,oneV,VRel]
 |[x],h=>
  grind [VsRel,oneV]
 |x::y::xs,h=>
  have hl:=h.len
  grind [List.size_toArray,List.length_cons,oneV,VRel]
theorem Says.of_run {f:Nat}{F:F}{vs:List V}{m:Nat}{σ σo:St}{vo:V}(hF:fOf P f=some F)(hen:∀args w,(callFunc f args).run P w=.ok (.enter f args) w)(hl:vs.length=F.params)
  (hrun:∀B:Begin,B.m=m->Run ⟨P,B,F.slots⟩ F.body (framed 0 vs) σ (Ends P B F vo σo)):Says P f vs m σ vo σo:=by
 refine⟨hen,λj L S w args hmem hj hargs hg0=> ?_⟩
 unfold fOf at hF
 split at hF<;>try simp only[reduceCtorEq]at hF
 rename_i fn hfn
 split at hF<;>try simp only[reduceCtorEq]at hF
 rename_i b hb
 split at hF<;>try simp only[reduceCtorEq]at hF
 rename_i k rs hk hrs
 split at hF<;>simp only[Option.some.injEq,reduceCtorEq]at hF
 rename_i hn
 subst hF
 simp only[Nat.ble_eq]at hn
 have hal:args.length=vs.length:=hargs.len
 have hsz:(args.toArray++Array.replicate (fn.ntmps-args.toArray.size) undef).size=fn.ntmps:=by
  grind
 have h0:Rel P ⟨w,λb=>∃r,b∈L r,S,m,j,hg0⟩ fn.ntmps (framed 0 vs) σ j L S { tmps:=args.toArray++Array.replicate (fn.ntmps-args.toArray.size) undef,defers:=[] } w:=by
  refine⟨hsz,rfl,λt=> ?_,hmem,⟨λr b hb=>.inl ⟨r,hb⟩,λb hb=>.inl hb,λb hb=>hb,λr hr=>rfl,rfl,rfl,rfl,Nat.le_refl _,λb h1 h2=>rfl⟩⟩
  rw[get_framed]
  simp only[Nat.zero_le,if_true,Nat.sub_zero,Act.eval,Array.getD_eq_getD_getElem?]
  cases ht:vs[t]? with
  |none=>exact VRel.undef
  |some x=>
   obtain⟨u,hu,hr⟩:=hargs.at ht
   grind
 refine calls_of_wp hfn hb (wp_mono (hrun ⟨w,λb=>∃r,b∈L r,S,m,j,hg0⟩ rfl b hk _ w j L S h0) ?_)
 rintro e a' w' ⟨fr',σ',j',L',S',⟨he,us,hus,fr2,hg,rfl⟩,hr⟩
 obtain⟨vals,hv,hres⟩:=resV_run hr hrs hus
 obtain⟨j2,L2,S2,h2⟩:=hg j' L' S' _ w' (framed_rel hr hv)
 have hgets:=gets_rel (vals:=vals) h2 rfl (m:=us.length) (k:=0) (by rw[hv.len];omega)
 rw[List.drop_zero]at hgets
 have key:bodyPost P fn (λe w'=>∃v j' L' S',e=.returned v/\VRel P j' w' S' (oneV (gets fr2 0 us.length)) v/\Mem P σo j' L' S' w'/\Since ⟨w,λb=>∃r,b∈L r,S,m,j,hg0⟩ j' L' S' w') .ret a' w':=by
  refine⟨hr.defers,_,?_,_,j2,L2,S2,rfl,oneV_rel hgets,h2.mem,h2.since⟩
  unfold results
  simp only[Array.mapM_eq_mapM_toList,Sem.run_bind,Sem.run_map,Sem.run_pure]
  exact congrArg (λr:Result (List Value)=>(r.andThen λa w'=>Result.ok a.toArray w').andThen λa w'=>Result.ok (if h:a.size=1 then a[0]else Value.tuple a) w') hres
 rcases he with rfl|rfl
 ·exact key
 ·exact key
end
end Go.Proofs.YtmcbbifeekhmgaaGreatDoor.Pe
