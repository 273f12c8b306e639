import Derived.Test.YthfjkhlgkjgkjaaGreatDoorPeEnd
import Derived.Test.YthfjkhlgkjgkjaaGreatDoorPeDraw3
namespace Go.Proofs.YthfjkhlgkjgkjaaGreatDoor.Pe
open Go Go.RowKit
set_option linter.unusedVariables false
def nfApp:St→St→Option St
 |[],σ=>some σ
 |x::ws,σ=>match nfApp ws σ with
  |some l=>some (x::l)
  |none=>none
theorem nfApp_some:∀{ws σ l:St},nfApp ws σ=some l→l=ws++σ
 |[],σ,l,h=>by simp only[nfApp,Option.some.injEq]at h;exact h.symm
 |x::ws,σ,l,h=>by
  simp only[nfApp]at h
  split at h<;>simp only[Option.some.injEq,reduceCtorEq]at h
  rename_i l' h'
  rw[←h,nfApp_some h']
  rfl
section
variable {c:Ctx} {fr:Fr} {σ σ':St} {site k s t d:Nat} {af:List Nat} {o:O} {l:List Op1} {Q:Fr→St→Prop} {v:V} {ws:St} {R:List Nat} {b:Bool}
theorem Ops.p (h:pure1 fr σ o=some v)(hr:Ops c site (k+1) l ((d,v)::fr) σ Q):Ops c site k (⟨some d,none,af,o⟩::l) fr σ Q:=⟨v,[],[],.mk (.pure h),hr⟩
theorem Ops.p2 {d2:Nat}{af2:List Nat}{o2:O}{v2:V}(h:pure1 fr σ o=some v)(h2:pure1 ((d,v)::fr) σ o2=some v2)(hr:Ops c site (k+1+1) l ((d2,v2)::(d,v)::fr) σ Q):Ops c site k (⟨some d,none,af,o⟩::⟨some d2,none,af2,o2⟩::l) fr σ Q:=.p h (.p h2 hr)
theorem Ops.p3 {d2 d3:Nat}{af2 af3:List Nat}{o2 o3:O}{v2 v3:V}(h:pure1 fr σ o=some v)(h2:pure1 ((d,v)::fr) σ o2=some v2)(h3:pure1 ((d2,v2)::(d,v)::fr) σ o3=some v3)(hr:Ops c site (k+1+1+1) l ((d3,v3)::(d2,v2)::(d,v)::fr) σ Q):Ops c site k (⟨some d,none,af,o⟩::⟨some d2,none,af2,o2⟩::⟨some d3,none,af3,o3⟩::l) fr σ Q:=.p2 h h2 (.p h3 hr)
theorem Ops.stz (he:EvZ c.P fr σ s o v ws R)(hs:sid site k=s)(hσ:nfApp ws σ=some σ')(hr:Ops c site (k+1) l ((d,v)::fr) σ' Q):Ops c site k (⟨some d,none,af,o⟩::l) fr σ Q:=by
 subst hs
 rw[nfApp_some hσ]at hr
 exact⟨v,ws,R,he,hr⟩
theorem Ops.st (he:Ev c.P fr σ s o v ws R)(hs:sid site k=s)(hσ:nfApp ws σ=some σ')(hr:Ops c site (k+1) l ((d,v)::fr) σ' Q):Ops c site k (⟨some d,none,af,o⟩::l) fr σ Q:=by
 subst hs
 rw[nfApp_some hσ]at hr
 exact⟨v,ws,R,.mk he,hr⟩
theorem Ops.s0 (he:Ev c.P fr σ s o v ws R)(hs:sid site k=s)(hσ:nfApp ws σ=some σ')(hr:Ops c site (k+1) l fr σ' Q):Ops c site k (⟨none,none,af,o⟩::l) fr σ Q:=by
 subst hs
 rw[nfApp_some hσ]at hr
 exact⟨v,ws,R,.mk he,hr⟩
theorem Ops.z (s:Nat)(he:Ev c.P fr σ s o v ws R)(hs:sid site k=s)(hσ:nfApp ws σ=some σ')(hr:Ops c site (k+1) l ((d,v)::fr) σ' Q):Ops c site k (⟨some d,none,af,o⟩::l) fr σ Q:=.st he hs hσ hr
theorem Ops.y (s:Nat)(he:Ev c.P fr σ s o v ws R)(hs:sid site k=s)(hσ:nfApp ws σ=some σ')(hr:Ops c site (k+1) l fr σ' Q):Ops c site k (⟨none,none,af,o⟩::l) fr σ Q:=.s0 he hs hσ hr
theorem Ops.gs {want:Bool}(hg:get fr t=.c (.b b))(hb:b=want)(he:Ev c.P fr σ s o v ws R)(hs:sid site k=s)(hσ:nfApp ws σ=some σ')(hr:Ops c site (k+1) l ((d,v)::fr) σ' Q):Ops c site k (⟨some d,some (t,want),af,o⟩::l) fr σ Q:=by
 subst hs
 rw[nfApp_some hσ]at hr
 exact .inl ⟨b,hg,fun _=>⟨v,ws,R,.mk he,hr⟩,fun hn=>absurd hb hn⟩
end
section
variable {c:Ctx} {fr:Fr} {σ σ':St} {site k s t d:Nat} {af:List Nat} {o:O} {l:List Op1} {tr:List Tr} {Q:Fr→St→List Tr→Prop} {v:V} {ws:St} {R:List Nat} {b:Bool}
theorem OpsD.nil (h:Q fr σ tr):OpsD c site k [] fr σ tr Q:=h
theorem OpsD.p (h:pure1 fr σ o=some v)(hr:OpsD c site (k+1) l ((d,v)::fr) σ (tr++[⟨some d,v,[],refsO fr o++[],slotsO ⟨some d,none,af,o⟩,af⟩]) Q):OpsD c site k (⟨some d,none,af,o⟩::l) fr σ tr Q:=⟨v,[],[],.mk (.pure h),hr⟩
theorem OpsD.stz (he:EvZ c.P fr σ s o v ws R)(hs:sid site k=s)(hσ:nfApp ws σ=some σ')(hr:OpsD c site (k+1) l ((d,v)::fr) σ' (tr++[⟨some d,v,ws,refsO fr o++R,slotsO ⟨some d,none,af,o⟩,af⟩]) Q):OpsD c site k (⟨some d,none,af,o⟩::l) fr σ tr Q:=by
 subst hs
 rw[nfApp_some hσ]at hr
 exact⟨v,ws,R,he,hr⟩
theorem OpsD.st (he:Ev c.P fr σ s o v ws R)(hs:sid site k=s)(hσ:nfApp ws σ=some σ')(hr:OpsD c site (k+1) l ((d,v)::fr) σ' (tr++[⟨some d,v,ws,refsO fr o++R,slotsO ⟨some d,none,af,o⟩,af⟩]) Q):OpsD c site k (⟨some d,none,af,o⟩::l) fr σ tr Q:=by
 subst hs
 rw[nfApp_some hσ]at hr
 exact⟨v,ws,R,.mk he,hr⟩
theorem OpsD.s0 (he:Ev c.P fr σ s o v ws R)(hs:sid site k=s)(hσ:nfApp ws σ=some σ')(hr:OpsD c site (k+1) l fr σ' (tr++[⟨none,v,ws,refsO fr o++R,slotsO ⟨none,none,af,o⟩,af⟩]) Q):OpsD c site k (⟨none,none,af,o⟩::l) fr σ tr Q:=by
 subst hs
 rw[nfApp_some hσ]at hr
 exact⟨v,ws,R,.mk he,hr⟩
theorem OpsD.z (s:Nat)(he:Ev c.P fr σ s o v ws R)(hs:sid site k=s)(hσ:nfApp ws σ=some σ')(hr:OpsD c site (k+1) l ((d,v)::fr) σ' (tr++[⟨some d,v,ws,refsO fr o++R,slotsO ⟨some d,none,af,o⟩,af⟩]) Q):OpsD c site k (⟨some d,none,af,o⟩::l) fr σ tr Q:=.st he hs hσ hr
theorem OpsD.y (s:Nat)(he:Ev c.P fr σ s o v ws R)(hs:sid site k=s)(hσ:nfApp ws σ=some σ')(hr:OpsD c site (k+1) l fr σ' (tr++[⟨none,v,ws,refsO fr o++R,slotsO ⟨none,none,af,o⟩,af⟩]) Q):OpsD c site k (⟨none,none,af,o⟩::l) fr σ tr Q:=.s0 he hs hσ hr
theorem OpsD.gs {want:Bool}(hg:get fr t=.c (.b b))(hb:b=want)(he:Ev c.P fr σ s o v ws R)(hs:sid site k=s)(hσ:nfApp ws σ=some σ')(hr:OpsD c site (k+1) l ((d,v)::fr) σ' (tr++[⟨some d,v,ws,refsO fr o++R,slotsO ⟨some d,some (t,want),af,o⟩,af⟩]) Q):OpsD c site k (⟨some d,some (t,want),af,o⟩::l) fr σ tr Q:=by
 subst hs
 rw[nfApp_some hσ]at hr
 exact .inl ⟨b,hg,fun _=>⟨v,ws,R,.mk he,hr⟩,fun hn=>absurd hb hn⟩
end
def nfT:V→Option V
 |.tup vs=>match nfTs vs with
  |some l=>some (.tup l)
  |none=>none
 |v=>nfD v
where nfTs:List V→Option (List V)
 |[]=>some []
 |v::vs=>match nfD v,nfTs vs with
  |some x,some xs=>some (x::xs)
  |_,_=>none
theorem nfTs_some:∀{vs xs:List V},nfT.nfTs vs=some xs→xs=vs
 |[],xs,h=>by simp only[nfT.nfTs,Option.some.injEq]at h;exact h.symm
 |v::vs,xs,h=>by
  simp only[nfT.nfTs]at h
  split at h<;>simp only[Option.some.injEq,reduceCtorEq]at h
  rename_i x ys h1 h2
  rw[←h,nfD_some h1,nfTs_some h2]
theorem nfT_some {v x:V}(h:nfT v=some x):x=v:=by
 unfold nfT at h
 split at h
 ·split at h<;>simp only[Option.some.injEq,reduceCtorEq]at h
  rename_i l hl
  rw[←h,nfTs_some hl]
 ·exact nfD_some h
def freshN (σ:St)(s:Nat):Nat→Bool
 |0=>true
 |n+1=>(match root σ s with|.no=>true|_=>false)&&freshN σ (s+1) n
theorem freshN_spec {σ:St}:∀{n s:Nat},freshN σ s n=true→∀k,k<n→root σ (s+k)=.no
 |0,s,_,k,hk=>by omega
 |n+1,s,h,k,hk=>by
  simp only[freshN,Bool.and_eq_true]at h
  cases k with
  |zero=>
   have h1:=h.1
   split at h1
   ·assumption
   ·cases h1
  |succ k=>
   have:=freshN_spec h.2 k (by omega)
   rwa [show s+1+k=s+(k+1) by omega]at this
def apart:List Nat→List Nat→Bool
 |[],_=>true
 |r::β,ρ=> !has ρ r&&apart β ρ
theorem apart_spec:∀{β ρ:List Nat},apart β ρ=true→∀r∈β,r∉ρ
 |[],_,_,r,hr=>by simp at hr
 |q::β,ρ,h,r,hr=>by
  simp only[apart,Bool.and_eq_true,Bool.not_eq_true']at h
  rcases List.mem_cons.1 hr with rfl|hr
  ·intro hm
   rw[←has_iff,h.1]at hm
   cases hm
  ·exact apart_spec h.2 r hr
section
variable {P:Program} {fr:Fr} {σ σc σo:St} {s f n m:Nat} {xs:List A} {x:A} {vs caps:List V} {vo v:V} {ws:St}
theorem Ev.call (ρ β:List Nat)(n:Nat)(hsem:Says P f vs m σc vo σo)(hm:ρ.length=m)(hσ:pickS ρ σ=σc)(hp:Passes σ ρ β (xs.map (val fr)) vs)(hok:(nodupB ρ&&apart β ρ&&freshN σ s n&&nodupB (ρ++upto s n)&&below (ρ.length+n) σo)=true)(hcase:β=[]∨(ownV vo=true∧∀k,ownRt (root σo k)))
  (hv:nfT (renV (back ρ s) vo)=some v) (hw:nfS (backSt (back ρ s) σo (ρ++upto s n) 0)=some ws):Ev P fr σ s (.cl f xs) v ws ρ:=by
 subst hm
 simp only[Bool.and_eq_true]at hok
 obtain⟨⟨⟨⟨h1,h2⟩,h3⟩,h4⟩,h5⟩:=hok
 rw[nfT_some hv,nfS_some hw]
 exact .cl hsem hσ (nodupB_spec h1) (apart_spec h2) hp (freshN_spec h3) (nodupB_spec h4) h5 hcase
theorem Ev.callx (ρ β:List Nat)(n:Nat)(hf:val fr x=.fn f caps)(hsem:Says P f vs m σc vo σo)(hm:ρ.length=m)(hσ:pickS ρ σ=σc)(hp:Passes σ ρ β (xs.map (val fr)++caps) vs)(hok:(nodupB ρ&&apart β ρ&&freshN σ s n&&nodupB (ρ++upto s n)&&below (ρ.length+n) σo)=true)(hcase:β=[]∨(ownV vo=true∧∀k,ownRt (root σo k)))
  (hv:nfT (renV (back ρ s) vo)=some v) (hw:nfS (backSt (back ρ s) σo (ρ++upto s n) 0)=some ws):Ev P fr σ s (.cx x xs) v ws ρ:=by
 subst hm
 simp only[Bool.and_eq_true]at hok
 obtain⟨⟨⟨⟨h1,h2⟩,h3⟩,h4⟩,h5⟩:=hok
 rw[nfT_some hv,nfS_some hw]
 exact .cx hf hsem hσ (nodupB_spec h1) (apart_spec h2) hp (freshN_spec h3) (nodupB_spec h4) h5 hcase
end
section
variable {c:Ctx} {fr:Fr} {σ:St} {Q:Post} {x:A} {p q:K} {b:Bool}
theorem Run.condT (hx:val fr x=.c (.b b))(hb:b=true)(h:Run c p fr σ Q):Run c (.cond x p q) fr σ Q:=Run.cond hx (fun _=>h) (fun hn=>by rw[hb]at hn;cases hn)
theorem Run.condF (hx:val fr x=.c (.b b))(hb:b=false)(h:Run c q fr σ Q):Run c (.cond x p q) fr σ Q:=Run.cond hx (fun hn=>by rw[hb]at hn;cases hn) (fun _=>h)
end
section
variable {σ:St} {ρ β:List Nat} {xs ys:List V}
theorem Passes.d1 {c:C}(h:Passes σ ρ β xs ys):Passes σ ρ β (.c c::xs) (.c c::ys):=.cons (.c _) h
theorem ToCs.d1 {vs:List V}{c:C}{cs:List C}{M:List Nat}(h:ToCs σ vs cs M):ToCs σ (.c c::vs) (c::cs) M:=.cons (.c _) h
theorem ToCs.d2 {vs:List V}{c d:C}{cs:List C}{M:List Nat}(h:ToCs σ vs cs M):ToCs σ (.c c:: .c d::vs) (c::d::cs) M:=.d1 (.d1 h)
theorem ToCs.d4 {vs:List V}{c d e f:C}{cs:List C}{M:List Nat}(h:ToCs σ vs cs M):ToCs σ (.c c:: .c d:: .c e:: .c f::vs) (c::d::e::f::cs) M:=.d2 (.d2 h)
theorem Passes.d2 {c d:C}(h:Passes σ ρ β xs ys):Passes σ ρ β (.c c:: .c d::xs) (.c c:: .c d::ys):=.d1 (.d1 h)
theorem Passes.d4 {c d e f:C}(h:Passes σ ρ β xs ys):Passes σ ρ β (.c c:: .c d:: .c e:: .c f::xs) (.c c:: .c d:: .c e:: .c f::ys):=.d2 (.d2 h)
end
theorem Run.so {c:Ctx}{fr:Fr}{σ:St}{Q:Post}{y:K}(hB:c.B.m≤1000){site:Nat}{l:List Op1}(h:Ops c site 0 l fr σ (fun fr σ=>thenQ c y Q .normal fr σ)):Run c (.seq (.ops site false l) y) fr σ Q:=Run.seq (Run.ops hB h)
end Go.Proofs.YthfjkhlgkjgkjaaGreatDoor.Pe
