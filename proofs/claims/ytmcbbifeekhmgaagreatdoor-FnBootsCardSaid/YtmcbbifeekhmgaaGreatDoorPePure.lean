import Derived.Test.YtmcbbifeekhmgaaGreatDoorPeOps
namespace Go.Proofs.YtmcbbifeekhmgaaGreatDoor.Pe
open Go Go.RowKit
section
variable {P:Program} {B:Begin} {N:Nat} {fr:Fr} {σ:St} {j:Nat->Hd} {L:Nat->List Nat} {S:Nat->Prop} {a:Act} {w:World}
def Yields1 (P:Program)(a:Act)(w:World)(o:Oper)(v:Value):Prop:=(execOp a.eval o).run P w=.ok (.value v) w
theorem shapeOf_some {t n:Nat}{ag:Bool}(h:shapeOf P t=some (n,ag)):∃i d,P.info? t=some i/\i.size=n/\P.underlying t=some d/\
  ((ag=true/\∃fs,d=.struct fs)\/(ag=false/\(∀fs,d≠ .struct fs)/\∀k e,d≠ .array k e)):=by
 unfold shapeOf at h
 split at h
 ·grind
 ·simp at h
 ·grind
 ·simp at h
theorem run_loadVar {t n:Nat}{ag:Bool}(h:shapeOf P t=some (n,ag)){x:Addr}{vals:List Value}(hl:vals.length=n)(hv:∀k u,vals[k]? =some u->w.cell? (x.add k)=some u):
  (loadVar t x).run P w=.ok (if ag then .agg vals.toArray else vals.headD undef) w\/(ag=false/\n≠1):=by
 obtain⟨i,d,hi,hn,hd,hag⟩:=shapeOf_some h
 have hu:(underlying t).run P w=.ok d w:=by simp[underlying,hd]
 rcases hag with ⟨rfl,fs,rfl⟩|⟨rfl,h1,h2⟩
 ·left
  have hs:(sizeOf t).run P w=.ok n w:=by simp[sizeOf,typeInfo,hi,hn]
  have hc:=run_loadCells_list (P:=P) w x vals hv
  rw[hl]at hc
  simp[loadVar,isAgg,hu,hs,hc]
 ·by_cases hn1:n=1
  ·left
   obtain⟨v,rfl⟩:∃v,vals=[v]:=by
    match vals,hl.trans hn1 with
    |[v],_=>exact⟨v,rfl⟩
   have hc:=hv 0 v rfl
   have hx:x.add 0=x:=by simp[Addr.add]
   rw[hx]at hc
   have ha:(isAgg t).run P w=.ok false w:=by
    simp only[isAgg,Sem.run_bind,hu,Result.andThen_ok]
    rfl
   simp[loadVar,ha,hc]
  grind
theorem mkV_rel {ag:Bool}{xs:List V}{x:V}{vals:List Value}(hx:mkV ag xs=some x)(h:VsRel P j w S xs vals):VRel P j w S x (if ag then .agg vals.toArray else vals.headD undef)/\(ag=false->vals.length=1):=by
 cases ag with
 |true=>
  grind [mkV,Option.some.injEq,VRel]
 |false=>
  match xs,hx with
  |[y],hx=>
   grind [mkV,Option.some.injEq,VsRel]
theorem drop_rel {cs:List C}{vals:List Value}(h:CsRel P w S cs vals [])(n:Nat):CsRel P w S (cs.drop n) (vals.drop n) []:=by
 rcases Nat.le_total n cs.length with hn|hn
 ·have e:cs=cs.take n++cs.drop n:=(List.take_append_drop n cs).symm
  rw[e]at h
  obtain⟨v1,v2,L1,L2,rfl,hL,h1,h2⟩:=h.split
  have hl:v1.length=n:=by rw[h1.len];simp[hn]
  grind [List.append_eq_nil_iff,List.drop_left]
 ·rw[List.drop_eq_nil_of_le hn,List.drop_eq_nil_of_le (by rw[h.len];exact hn)]
  exact .nil
theorem add_add' (x:Addr)(m n:Nat):(x.add m).add n=x.add (m+n):=by
 cases x
 unfold Addr.add
 grind
theorem add_off (g o k:Nat):(⟨g,o,none⟩:Addr).add k=⟨g,o+k,none⟩:=by
 unfold Addr.add
 split
 ·rename_i h;subst h;rfl
 ·rfl
end
end Go.Proofs.YtmcbbifeekhmgaaGreatDoor.Pe
