import Derived.Test.YtmcbbifeekhmgaaGreatDoorPeLink
namespace Go.Proofs.YtmcbbifeekhmgaaGreatDoor.Pe
open Go Go.RowKit
def lkS:List (Nat×Nat)->Nat->Option Nat
 |[],_=>none
 |q::ls,k=>match Nat.beq q.1 k with
  |true=>some q.2
  |false=>lkS ls k
theorem lkS_mem:∀{ls:List (Nat×Nat)}{k s:Nat},lkS ls k=some s->(k,s)∈ls
 |q::ls,k,s,h=>by
  simp only[lkS]at h
  split at h
  ·grind [Nat.eq_of_beq_eq_true,Option.some.injEq,List.mem_cons_self]
  ·exact List.mem_cons_of_mem _ (lkS_mem h)
def slOf (σ:St)(s:Nat):Option V:=match root σ s with
 |.vec e rows=>some (.sl s e 0 rows.length)
 |_=>none
def readL (σ:St)(ls:List (Nat×Nat))(k:Nat)(c:C):Option V:=match lkS ls k with
 |some s=>slOf σ s
 |none=>readC c
def readsL (σ:St)(ls:List (Nat×Nat)):Nat->List C->Option (List V)
 |_,[]=>some []
 |k,c::cs=>match readL σ ls k c,readsL σ ls (k+1) cs with
  |some v,some vs=>some (v::vs)
  |_,_=>none
theorem readsL_local {σ σ':St}{ls:List (Nat×Nat)}(h:∀s∈ls.map (·.2),root σ' s=root σ s):∀(cs:List C)(k:Nat),readsL σ' ls k cs=readsL σ ls k cs
 |[],_=>rfl
 |c::cs,k=>by
  have h1:readL σ' ls k c=readL σ ls k c:=by
   unfold readL
   cases e:lkS ls k with
   |none=>rfl
   |some s=>simp only[slOf,h s (List.mem_map.2 ⟨_,lkS_mem e,rfl⟩)]
  simp only[readsL,h1,readsL_local h cs (k+1)]
section
variable {P:Program} {B:Begin} {N:Nat} {fr:Fr} {σ:St} {j:Nat->Hd} {L:Nat->List Nat} {S:Nat->Prop} {a:Act} {w:World} {o:Oper}
theorem whole_rel {e:Nat}{rows:List (List C)}{hs:Value}{L0:List Nat}(hc:CRel P w S (.row true e rows) hs L0):SlRel (P.cellsOf e) hs hs 0 rows.length:=by
 rcases own_open hc with ⟨rfl,rfl,_⟩|⟨g,cap,cur,L',rfl,_,hcap,_⟩
 ·exact .inl ⟨rfl,rfl,rfl,rfl⟩
 ·exact .inr ⟨g,rows.length,cap,⟨g,0,none⟩,cap,rfl,by omega,rfl,hcap,by omega,.inl (by simp),λ_=>⟨rfl,rfl⟩⟩
theorem slOf_rel (h:Mem P σ j L S w){s:Nat}{hs:Value}{x:V}(hj:j s=.hdr hs)(hx:slOf σ s=some x):VRel P j w S x hs:=by
 unfold slOf at hx
 split at hx<;>simp only[Option.some.injEq,reduceCtorEq]at hx
 rename_i e rows hr
 subst hx
 obtain⟨v,hj',hc⟩:=h.vecAt hr
 grind [VRel,whole_rel]
theorem readsL_rel (h:Mem P σ j L S w){ls:List (Nat×Nat)}:∀{cs:List C}{k:Nat}{xs:List V}{vs:List Value}{L':List Nat},readsL σ ls k cs=some xs->CsRel P w S cs vs L'->
  (∀t s u,(k+t,s)∈ls->vs[t]? =some u->j s=.hdr u)->VsRel P j w S xs vs
 |[],k,xs,vs,L',hx,hc,_=>by
  simp only[readsL,Option.some.injEq]at hx
  subst hx
  cases hc
  simp only[VsRel]
 |c::cs,k,xs,vs,L',hx,hc,hl=>by
  simp only[readsL]at hx
  cases e1:readL σ ls k c with
  |none=>rw[e1]at hx;simp at hx
  |some x=>
   cases e2:readsL σ ls (k+1) cs with
   |none=>rw[e1,e2]at hx;simp at hx
   |some xs'=>
    rw[e1,e2]at hx
    simp only[Option.some.injEq]at hx
    subst hx
    cases hc with
    |cons _ _ u us La Lb h1 h2=>
     simp only[VsRel]
     refine⟨u,us,rfl,?_,readsL_rel h e2 h2 (λt s y hm hy=>hl (t+1) s y (by rw[show k+(t+1)=k+1+t by omega];exact hm) (by simpa using hy))⟩
     unfold readL at e1
     split at e1
     ·rename_i s hs
      exact slOf_rel h (hl 0 s u (lkS_mem hs) rfl) e1
     grind [readC_rel]
theorem do_ld_lnk (h:Rel P B N fr σ j L S a w){t n:Nat}{ag:Bool}{x:Operand}(ho:o.op=.load t x)(hs:shapeOf P t=some (n,ag)){x':A}(hx:aOf P 0 x=some x'){r e i k:Nat}(hp:val fr x'=.el r e i k){rows:List (List C)}{cs l:List C}{ls:List (Nat×Nat)}(hr:root σ r=.lnk e rows i cs ls)(hl:takeN n (cs.drop k)=some l){vs:List V}(hvs:readsL σ ls k l=some vs){v:V}(hv:mkV ag vs=some v):
  Does P B N fr σ a w o v:=by
 have hpx:=aOf_rel h hx
 rw[hp]at hpx
 simp only[VRel]at hpx
 obtain⟨g,m,c,hj,him,hpx⟩:=hpx
 obtain⟨hd,hj',hc,hil,hlk⟩:=h.mem.lnkAt hr
 rw[hj]at hj'
 cases hj'
 have hi:(rows.set i cs)[i]? =some cs:=by rw[List.getElem?_set_self hil]
 rcases own_open hc with ⟨_,h1,_⟩|⟨g',cap,cur,L',h1,hh,hcap,_,hsz,hcs,hL,hz⟩
 ·cases h1
 ·cases h1
  obtain⟨pre,post,hfl,hpre,_⟩:=flat_at hz hi
  rw[hfl]at hcs
  obtain⟨v1,v2,L1,L2,hcur,_,g1,g2⟩:=hcs.split
  obtain⟨v3,v4,L3,L4,rfl,_,g3,g4⟩:=g2.split
  obtain⟨pre2,post2,rfl,hpre2,hln⟩:=drop_take_at hl
  obtain⟨v5,v6,L5,L6,rfl,_,g5,g6⟩:=g3.split
  obtain⟨v7,v8,L7,L8,rfl,_,g7,g8⟩:=g6.split
  have hat:∀q u,v7[q]? =some u->cur.toList[i*P.cellsOf e+k+q]? =some u:=by
   intro q u hq
   have hql:q<v7.length:=(List.getElem?_eq_some_iff.1 hq).1
   have hk:v5.length=k:=by
    rcases hpre2 with hp2|hp2
    ·exact g5.len.trans hp2
    ·rw[g7.len,hp2]at hql;simp at hql
   have h1':v1.length=i*P.cellsOf e:=g1.len.trans hpre
   have:(cur.toList.take ((rows.set i (pre2++(l++post2))).length*P.cellsOf e))[i*P.cellsOf e+k+q]? =some u:=by
    rw[hcur,List.getElem?_append_right (by omega),List.getElem?_append_left (by simp;omega),List.getElem?_append_right (by omega),List.getElem?_append_left (by omega)]
    grind
   rw[List.getElem?_take]at this
   split at this
   ·exact this
   ·cases this
  have hcells:∀q u,v7[q]? =some u->w.cell? ((⟨g,i*P.cellsOf e+k,none⟩:Addr).add q)=some u:=by
   intro q u hq
   rw[add_off]
   simp only[World.cell?,hh]
   grind
  have hlinks:∀t s u,(k+t,s)∈ls->v7[t]? =some u->j s=.hdr u:=by
   grind
  obtain⟨u,hu,hrel⟩:=load_run (w:=w) hs hpx hv (readsL_rel h.mem hvs g7 hlinks) (g7.len.trans hln) hcells
  refine Does.value (j':=j) (L':=L) (S':=S) (u:=u) ?_ h hrel
  simp only[execOp,ho,Sem.run_bind,hu,Result.andThen_ok,Sem.run_pure]
end
end Go.Proofs.YtmcbbifeekhmgaaGreatDoor.Pe
