import Derived.Test.YtmcbbifeekhmgaaGreatDoorPeEnd
import Derived.Test.YtmcbbifeekhmgaaGreatDoorPeDraw3
namespace Go.Proofs.YtmcbbifeekhmgaaGreatDoor.Pe
open Go Go.RowKit
set_option linter.unusedVariables false
def nfApp:St->St->Option St
 |[],σ=>some σ
 |x::ws,σ=>match nfApp ws σ with
  |some l=>some (x::l)
  |none=>none
theorem nfApp_some:∀{ws σ l:St},nfApp ws σ=some l->l=ws++σ
 |[],σ,l,h=>by simp only[nfApp,Option.some.injEq]at h;exact h.symm
 |x::ws,σ,l,h=>by
  simp only[nfApp]at h
  split at h<;>simp only[Option.some.injEq,reduceCtorEq]at h
  rename_i l' h'
  rw[<-h,nfApp_some h']
  rfl
section
variable {c:Ctx} {fr:Fr} {σ σ':St} {site k s t d:Nat} {af:List Nat} {o:O} {l:List Op1} {Q:Fr->St->Prop} {v:V} {ws:St} {R:List Nat} {b:Bool}
end
section
variable {c:Ctx} {fr:Fr} {σ σ':St} {site k s t d:Nat} {af:List Nat} {o:O} {l:List Op1} {tr:List Tr} {Q:Fr->St->List Tr->Prop} {v:V} {ws:St} {R:List Nat} {b:Bool}
end
def nfT:V->Option V
 |.tup vs=>match nfTs vs with
  |some l=>some (.tup l)
  |none=>none
 |v=>nfD v
where nfTs:List V->Option (List V)
 |[]=>some []
 |v::vs=>match nfD v,nfTs vs with
  |some x,some xs=>some (x::xs)
  |_,_=>none
theorem nfTs_some:∀{vs xs:List V},nfT.nfTs vs=some xs->xs=vs
 |[],xs,h=>by simp only[nfT.nfTs,Option.some.injEq]at h;exact h.symm
 |v::vs,xs,h=>by
  simp only[nfT.nfTs]at h
  split at h<;>simp only[Option.some.injEq,reduceCtorEq]at h
  rename_i x ys h1 h2
  rw[<-h,nfD_some h1,nfTs_some h2]
theorem nfT_some {v x:V}(h:nfT v=some x):x=v:=by
 unfold nfT at h
 split at h
 ·grind [Option.some.injEq,nfTs_some]
 ·exact nfD_some h
def freshN (σ:St)(s:Nat):Nat->Bool
 |0=>true
 |n+1=>(match root σ s with|.no=>true|_=>false)&&freshN σ (s+1) n
theorem freshN_spec {σ:St}:∀{n s:Nat},freshN σ s n=true->∀k,k<n->root σ (s+k)=.no
 |0,s,_,k,hk=>by omega
 |n+1,s,h,k,hk=>by
  simp only[freshN,Bool.and_eq_true]at h
  cases k with
  |zero=>
   have h1:=h.1
   split at h1
   ·assumption
   ·cases h1
  |succ k=>
   have:=freshN_spec h.2 k (by omega)
   grind
def apart:List Nat->List Nat->Bool
 |[],_=>true
 |r::β,ρ=> !has ρ r&&apart β ρ
theorem apart_spec:∀{β ρ:List Nat},apart β ρ=true->∀r∈β,r∉ρ
 |[],_,_,r,hr=>by simp at hr
 |q::β,ρ,h,r,hr=>by
  simp only[apart,Bool.and_eq_true,Bool.not_eq_true']at h
  rcases List.mem_cons.1 hr with rfl|hr
  ·intro hm
   rw[<-has_iff,h.1]at hm
   cases hm
  ·exact apart_spec h.2 r hr
section
variable {P:Program} {fr:Fr} {σ σc σo:St} {s f n m:Nat} {xs:List A} {x:A} {vs caps:List V} {vo v:V} {ws:St}
theorem Ev.call (ρ β:List Nat)(n:Nat)(hsem:Says P f vs m σc vo σo)(hm:ρ.length=m)(hσ:pickS ρ σ=σc)(hp:Passes σ ρ β (xs.map (val fr)) vs)(hok:(nodupB ρ&&apart β ρ&&freshN σ s n&&nodupB (ρ++upto s n)&&below (ρ.length+n) σo)=true)(hcase:β=[]\/(ownV vo=true/\∀k,ownRt (root σo k)))
  (hv:nfT (renV (back ρ s) vo)=some v) (hw:nfS (backSt (back ρ s) σo (ρ++upto s n) 0)=some ws):Ev P fr σ s (.cl f xs) v ws ρ:=by
 subst hm
 simp only[Bool.and_eq_true]at hok
 obtain⟨⟨⟨⟨h1,h2⟩,h3⟩,h4⟩,h5⟩:=hok
 rw[nfT_some hv,nfS_some hw]
 exact .cl hsem hσ (nodupB_spec h1) (apart_spec h2) hp (freshN_spec h3) (nodupB_spec h4) h5 hcase
theorem Ev.callx (ρ β:List Nat)(n:Nat)(hf:val fr x=.fn f caps)(hsem:Says P f vs m σc vo σo)(hm:ρ.length=m)(hσ:pickS ρ σ=σc)(hp:Passes σ ρ β (xs.map (val fr)++caps) vs)(hok:(nodupB ρ&&apart β ρ&&freshN σ s n&&nodupB (ρ++upto s n)&&below (ρ.length+n) σo)=true)(hcase:β=[]\/(ownV vo=true/\∀k,ownRt (root σo k)))
  (hv:nfT (renV (back ρ s) vo)=some v) (hw:nfS (backSt (back ρ s) σo (ρ++upto s n) 0)=some ws):Ev P fr σ s (.cx x xs) v ws ρ:=by
 subst hm
 simp only[Bool.and_eq_true]at hok
 obtain⟨⟨⟨⟨h1,h2⟩,h3⟩,h4⟩,h5⟩:=hok
 rw[nfT_some hv,nfS_some hw]
 exact .cx hf hsem hσ (nodupB_spec h1) (apart_spec h2) hp (freshN_spec h3) (nodupB_spec h4) h5 hcase
end
section
variable {c:Ctx} {fr:Fr} {σ:St} {Q:Post} {x:A} {p q:K} {b:Bool}
theorem Run.condT (hx:val fr x=.c (.b b))(hb:b=true)(h:Run c p fr σ Q):Run c (.cond x p q) fr σ Q:=Run.cond hx (λ_=>h) (λhn=>by rw[hb]at hn;cases hn)
theorem Run.condF (hx:val fr x=.c (.b b))(hb:b=false)(h:Run c q fr σ Q):Run c (.cond x p q) fr σ Q:=Run.cond hx (λhn=>by rw[hb]at hn;cases hn) (λ_=>h)
end
section
variable {σ:St} {ρ β:List Nat} {xs ys:List V}
theorem Passes.d1 {c:C}(h:Passes σ ρ β xs ys):Passes σ ρ β (.c c::xs) (.c c::ys):=.cons (.c _) h
theorem ToCs.d1 {vs:List V}{c:C}{cs:List C}{M:List Nat}(h:ToCs σ vs cs M):ToCs σ (.c c::vs) (c::cs) M:=.cons (.c _) h
theorem ToCs.d2 {vs:List V}{c d:C}{cs:List C}{M:List Nat}(h:ToCs σ vs cs M):ToCs σ (.c c:: .c d::vs) (c::d::cs) M:=.d1 (.d1 h)
theorem ToCs.d4 {vs:List V}{c d e f:C}{cs:List C}{M:List Nat}(h:ToCs σ vs cs M):ToCs σ (.c c:: .c d:: .c e:: .c f::vs) (c::d::e::f::cs) M:=.d2 (.d2 h)
theorem Passes.d2 {c d:C}(h:Passes σ ρ β xs ys):Passes σ ρ β (.c c:: .c d::xs) (.c c:: .c d::ys):=.d1 (.d1 h)
theorem Passes.d4 {c d e f:C}(h:Passes σ ρ β xs ys):Passes σ ρ β (.c c:: .c d:: .c e:: .c f::xs) (.c c:: .c d:: .c e:: .c f::ys):=.d2 (.d2 h)
end
end Go.Proofs.YtmcbbifeekhmgaaGreatDoor.Pe
