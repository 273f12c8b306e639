import Derived.Test.YtmcbbifeekhmgaaGreatDoorPeMem1
namespace Go.Proofs.YtmcbbifeekhmgaaGreatDoor.Pe
open Go Go.RowKit
inductive ToC (σ:St):V->C->List Nat->Prop
 |c (x:C):ToC σ (.c x) x []
 |own {r e len:Nat} {rows:List (List C)} (h:root σ r=.vec e rows) (hl:len=rows.length):ToC σ (.sl r e 0 len) (.row true e rows) [r]
 |ro {r e off len:Nat} {rows rows':List (List C)} (h:root σ r=.ro e rows) (hl:(rows.drop off).take len=rows'):ToC σ (.sl r e off len) (.row false e rows') []
 |nilro (e e':Nat):ToC σ (.c (.row true e [])) (.row false e' []) []
inductive ToCs (σ:St):List V->List C->List Nat->Prop
 |nil:ToCs σ [] [] []
 |cons {v:V} {vs:List V} {c:C} {cs:List C} {M M':List Nat} (h:ToC σ v c M) (hs:ToCs σ vs cs M'):ToCs σ (v::vs) (c::cs) (M++M')
section
variable {P:Program} {B:Begin} {N:Nat} {fr:Fr} {σ:St} {j:Nat->Hd} {L:Nat->List Nat} {S:Nat->Prop} {a:Act} {w w':World} {o:Oper}
theorem own_open {e:Nat}{rows:List (List C)}{v:Value}{L:List Nat}(h:CRel P w S (.row true e rows) v L):
  (rows=[]/\v=.slice none 0 0/\L=[])\/∃g cap cur L',v=.slice (some ⟨g,0,none⟩) rows.length cap/\w.heap[g]? =some (.cells cur e (0,0))/\rows.length<=cap/\cap<=maxLen/\cur.size=cap*P.cellsOf e/\
   CsRel P w S rows.flatten (cur.toList.take (rows.length*P.cellsOf e)) L'/\L=g::L'/\∀x∈rows,x.length=P.cellsOf e:=by
 cases h with
 |own _ _ _ vals L hz ho hcs=>
  obtain⟨hl,ho⟩:=ho
  rcases ho with ⟨rfl,h0⟩|⟨g,cap,cur,rfl,_,hh,hn,hc,hs,ht⟩
  ·left
   have:=List.eq_nil_of_length_eq_zero h0
   subst this
   refine⟨rfl,rfl,?_⟩
   simp only[List.flatten_nil]at hcs
   cases hcs
   rfl
  ·right
   subst ht
   exact⟨g,cap,cur,L,rfl,hh,hn,hc,hs,hcs,rfl,hz⟩
theorem own_close {e g cap:Nat}{rows:List (List C)}{cur:Array Value}{L':List Nat}(hh:w.heap[g]? =some (.cells cur e (0,0)))(hn:rows.length<=cap)(hc:cap<=maxLen)(hs:cur.size=cap*P.cellsOf e)
  (hcs:CsRel P w S rows.flatten (cur.toList.take (rows.length*P.cellsOf e)) L') (hz:∀x∈rows,x.length=P.cellsOf e):CRel P w S (.row true e rows) (.slice (some ⟨g,0,none⟩) rows.length cap) (g::L'):=by
 have hlen:(cur.toList.take (rows.length*P.cellsOf e)).length=rows.length*P.cellsOf e:=by
  grind [List.length_take,Nat.min_eq_left,Nat.mul_le_mul_right]
 have:=CRel.own (P:=P) (w:=w) (S:=S) e rows (.slice (some ⟨g,0,none⟩) rows.length cap) _ L' hz ⟨hlen,.inr ⟨g,cap,cur,rfl,Nat.zero_le _,hh,hn,hc,hs,rfl⟩⟩ hcs
 simpa[own1,Value.ownBlock]using this
theorem ro_open {e:Nat}{rows:List (List C)}{v:Value}{L:List Nat}(h:CRel P w S (.row false e rows) v L):∃A c vals,v=.slice A rows.length c/\L=[]/\rows.length<=c/\(A=none->c=0)/\vals.length=rows.length*P.cellsOf e/\(∀x∈rows,x.length=P.cellsOf e)/\
  (0<rows.length->∃a,A=some a/\S a.block/\∀k u,vals[k]? =some u->w.cell? (a.add k)=some u)/\CsRel P w S rows.flatten vals []:=by
 cases h with
 |ro _ _ A n c vals hz hn hc h0 hv hA hcs=>
  subst hn
  exact⟨A,c,vals,rfl,rfl,hc,h0,hv,hz,hA,hcs⟩
theorem flat_len {α:Type}{z:Nat}:∀{rows:List (List α)},(∀x∈rows,x.length=z)->rows.flatten.length=rows.length*z
 |[],_=>by simp
 |x::rows,h=>by
  rw[List.flatten_cons,List.length_append,flat_len (λy hy=>h y (by simp[hy])),h x (by simp),List.length_cons,Nat.add_mul]
  omega
theorem flat_at {α:Type}{z:Nat}{rows:List (List α)}(hz:∀x∈rows,x.length=z){i:Nat}{cs:List α}(h:rows[i]? =some cs):∃pre post,rows.flatten=pre++(cs++post)/\pre.length=i*z/\∀ds,(rows.set i ds).flatten=pre++(ds++post):=by
 have hi:i<rows.length:=(List.getElem?_eq_some_iff.1 h).1
 have hcs:rows[i]=cs:=(List.getElem?_eq_some_iff.1 h).2
 refine⟨(rows.take i).flatten,(rows.drop (i+1)).flatten,?_,?_,?_⟩
 ·have:rows=rows.take i++(cs::rows.drop (i+1)):=by rw[<-hcs,List.getElem_cons_drop,List.take_append_drop]
  grind
 ·grind [flat_len,List.mem_of_mem_take,List.length_take]
 grind [List.set_eq_take_append_cons_drop]
theorem sizeAt_some {t n:Nat}(h:sizeAt P t=some n):(sizeOf t).run P w=.ok n w/\P.cellsOf t=n:=by
 unfold sizeAt at h
 split at h<;>simp only[Option.some.injEq,reduceCtorEq]at h
 rename_i i hi
 subst h
 exact⟨by simp[sizeOf,typeInfo,hi],by simp[Program.cellsOf,hi]⟩
theorem elemOf_some {t e:Nat}(h:elemOf P t=some e):P.underlying t=some (.slice e):=by
 grind [elemOf,Option.some.injEq]
theorem run_indexAt {t e n:Nat}(ht:elemOf P t=some e)(hn:sizeAt P e=some n){ad:Addr}{len cap:Nat}{k:IntKind}{i:Int}(h0:0<=i)(h1:i<len):(Instr.indexAt t (.slice (some ad) len cap) (.int k i)).run P w=.ok (.pointer (some (ad.add (i.toNat*n)))) w:=by
 have hu:(underlying t).run P w=.ok (.slice e) w:=by simp[underlying,elemOf_some ht]
 simp only[Instr.indexAt,asIntOf,Sem.run_bind,Sem.run_pure,Result.andThen_ok,hu,(sizeAt_some hn).1,h0,h1,and_self,if_true]
theorem do_ia (h:Rel P B N fr σ j L S a w){t e n:Nat}{x y:Operand}(ho:o.op=.indexAddr t x y)(ht:elemOf P t=some e)(hn:sizeAt P e=some n){x' y':A}(hx:aOf P t x=some x')(hy:aOf P 0 y=some y')
  {k:IntKind} {i:Int} (hi:val fr y'=.c (.i k i)) (h0:0<=i) {r off len:Nat} (hv:val fr x'=.sl r e off len) (h1:i<len):Does P B N fr σ a w o (.el r e (off+i.toNat) 0):=by
 have hi':=aOf_rel h hy
 have hv':=aOf_rel h hx
 rw[hi]at hi'
 rw[hv]at hv'
 simp only[VRel]at hi' hv'
 generalize hay:a.eval y=vy at*
 cases hi'
 obtain⟨hd,hj,hs⟩:=hv'
 rcases hs with ⟨_,_,rfl,_⟩|⟨g,m,c,A,cc,rfl,hm,hax,hlc,_,hA,_⟩
 ·simp at h1;omega
 ·obtain rfl:A=⟨g,off*P.cellsOf e,none⟩:=hA.resolve_right (by omega)
  refine Does.value (j':=j) (L':=L) (S':=S) (u:=.pointer (some ⟨g,(off+i.toNat)*P.cellsOf e+0,none⟩)) ?_ h ?_
  ·have:=run_indexAt (P:=P) (w:=w) ht hn (ad:=⟨g,off*P.cellsOf e,none⟩) (len:=len) (cap:=cc) (k:=k) h0 h1
   simp only[execOp,ho,hay,hax,Sem.run_bind,this,Result.andThen_ok,Sem.run_pure,add_off,<-(sizeAt_some (w:=w) hn).2]
   grind
  grind [VRel]
theorem do_ia_roC (h:Rel P B N fr σ j L S a w){t e n:Nat}{x y:Operand}(ho:o.op=.indexAddr t x y)(ht:elemOf P t=some e)(hn:sizeAt P e=some n){y':A}(hy:aOf P 0 y=some y')
  {k:IntKind} {i:Int} (hi:val fr y'=.c (.i k i)) (h0:0<=i) {rows:List (List C)} (hv':CRel P w S (.row false e rows) (a.eval x) []) {cs:List C} (h1:rows[i.toNat]? =some cs):Does P B N fr σ a w o (.rp cs):=by
 have hi':=aOf_rel h hy
 rw[hi]at hi'
 simp only[VRel]at hi'
 generalize hay:a.eval y=vy at*
 cases hi'
 obtain⟨A,c,vals,hax,_,_,_,hvl,hz,hA,hcs⟩:=ro_open hv'
 have hlt:i.toNat<rows.length:=(List.getElem?_eq_some_iff.1 h1).1
 obtain⟨ad,rfl,hS,hcell⟩:=hA (by omega)
 obtain⟨pre,post,hfl,hpre,_⟩:=flat_at hz h1
 rw[hfl]at hcs
 obtain⟨v1,v2,L1,L2,rfl,hL,g1,g2⟩:=hcs.split
 obtain⟨v3,v4,L3,L4,rfl,hL2,g3,g4⟩:=g2.split
 have e1:L1=[]/\L2=[]:=by simpa using hL.symm
 obtain⟨rfl,rfl⟩:=e1
 have e2:L3=[]/\L4=[]:=by simpa using hL2.symm
 obtain⟨rfl,rfl⟩:=e2
 have hv1:v1.length=i.toNat*P.cellsOf e:=g1.len.trans hpre
 refine Does.value (j':=j) (L':=L) (S':=S) (u:=.pointer (some (ad.add (i.toNat*P.cellsOf e)))) ?_ h ?_
 ·have:=run_indexAt (P:=P) (w:=w) ht hn (ad:=ad) (len:=rows.length) (cap:=c) (k:=k) h0 (by omega)
  simp only[execOp,ho,hay,hax,Sem.run_bind,this,Result.andThen_ok,Sem.run_pure,<-(sizeAt_some (w:=w) hn).2]
 ·simp only[VRel]
  refine⟨_,v3,rfl,?_,?_,g3⟩
  ·have:(ad.add (i.toNat*P.cellsOf e)).block=ad.block:=by unfold Addr.add;split<;>rfl
   grind
  ·intro q u hq
   rw[add_add']
   grind
theorem do_ia_ro (h:Rel P B N fr σ j L S a w){t e n:Nat}{x y:Operand}(ho:o.op=.indexAddr t x y)(ht:elemOf P t=some e)(hn:sizeAt P e=some n){x' y':A}(hx:aOf P t x=some x')(hy:aOf P 0 y=some y')
  {k:IntKind} {i:Int} (hi:val fr y'=.c (.i k i)) (h0:0<=i) {rows:List (List C)} (hv:val fr x'=.c (.row false e rows)) {cs:List C} (h1:rows[i.toNat]? =some cs):Does P B N fr σ a w o (.rp cs):=by
 have hv':=aOf_rel h hx
 rw[hv]at hv'
 simp only[VRel]at hv'
 exact do_ia_roC h ho ht hn hy hi h0 hv' h1
theorem ro_cut {e:Nat}{rows:List (List C)}{g n c:Nat}{L0:List Nat}(h:CRel P w S (.row false e rows) (.slice (some ⟨g,0,none⟩) n c) L0){v:Value}{off len:Nat}(hs:SlRel (P.cellsOf e) (.slice (some ⟨g,0,none⟩) n c) v off len):CRel P w S (.row false e ((rows.drop off).take len)) v []:=by
 obtain⟨A,c',vals,hA0,_,hc,_,hvl,hz,hA,hcs⟩:=ro_open h
 cases hA0
 rcases hs with ⟨h0,_⟩|⟨g',n',c'',A,cc,hh,hm,rfl,hlc,hcc,hAA,_⟩
 ·cases h0
 ·cases hh
  have hlen:((rows.drop off).take len).length=len:=by rw[List.length_take,List.length_drop];omega
  have hz':∀x∈(rows.drop off).take len,x.length=P.cellsOf e:=λx hx=>hz x (List.mem_of_mem_drop (List.mem_of_mem_take hx))
  have hfl:rows.flatten=(rows.take off).flatten++(((rows.drop off).take len).flatten++((rows.drop off).drop len).flatten):=by
   grind [List.flatten_append,List.take_append_drop]
  rw[hfl]at hcs
  obtain⟨v1,v2,L1,L2,rfl,hL,g1,g2⟩:=hcs.split
  obtain⟨v3,v4,L3,L4,rfl,hL2,g3,g4⟩:=g2.split
  have e1:L1=[]/\L2=[]:=by simpa using hL.symm
  obtain⟨rfl,rfl⟩:=e1
  have e2:L3=[]/\L4=[]:=by simpa using hL2.symm
  obtain⟨rfl,rfl⟩:=e2
  have hv1:v1.length=off*P.cellsOf e:=by
   rw[g1.len,flat_len (λx hx=>hz x (List.mem_of_mem_take hx)),List.length_take]
   congr 1
   omega
  have hv3:v3.length=len*P.cellsOf e:=by rw[g3.len,flat_len hz',hlen]
  have:=CRel.ro (P:=P) (w:=w) (S:=S) e ((rows.drop off).take len) (some A) len cc v3 hz' hlen.symm hlc (by simp) hv3 ?_ g3
  ·exact this
  ·intro hp
   obtain⟨ad,had,hS,hcell⟩:=hA (by omega)
   cases had
   obtain rfl:A=⟨g,off*P.cellsOf e,none⟩:=hAA.resolve_right (by omega)
   refine⟨_,rfl,hS,λk u hk=> ?_⟩
   rw[add_off]
   have:=hcell (off*P.cellsOf e+k) u (by
    rw[<-hv1,List.getElem?_append_right (by omega),show v1.length+k-v1.length=k by omega,List.getElem?_append_left (List.getElem?_eq_some_iff.1 hk).1]
    exact hk)
   rw[add_off,Nat.zero_add]at this
   exact this
theorem sl_ro_root (h:Mem P σ j L S w){r e off len:Nat}{rows:List (List C)}(hr:root σ r=.ro e rows){v:Value}(hv:VRel P j w S (.sl r e off len) v):CRel P w S (.row false e ((rows.drop off).take len)) v []:=by
 obtain⟨hd,hj,hc,_⟩:=h.roAt hr
 simp only[VRel]at hv
 obtain⟨hd',hj',hs⟩:=hv
 rw[hj]at hj'
 cases hj'
 have hs0:=hs
 rcases hs with ⟨rfl,rfl,rfl,rfl⟩|⟨g,n,c,A,cc,rfl,_⟩
 ·grind [ro_open,List.eq_nil_of_length_eq_zero]
 ·exact ro_cut hc hs0
theorem ToC.rel (h:Mem P σ j L S w){v:V}{c:C}{M:List Nat}(hc:ToC σ v c M){u:Value}(hv:VRel P j w S v u):CRel P w S c u (M.flatMap L):=by
 cases hc with
 |c x=>simpa[VRel]using hv
 | @own r e len rows hr hl=>
  subst hl
  obtain⟨hd,hj,hc⟩:=h.vecAt hr
  simp only[VRel]at hv
  obtain⟨hd',hj',hs⟩:=hv
  rw[hj]at hj'
  cases hj'
  have:u=hd:=by
   rcases hs with ⟨rfl,_,_,rfl⟩|⟨g,n,c,A,cc,rfl,_,rfl,_,_,_,h0⟩
   ·rfl
   grind [own_open]
  grind
 | @ro r e off len rows rows' hr hl=>
  grind [sl_ro_root]
 |nilro e e'=>
  simp only[VRel]at hv
  have hu:u=.slice none 0 0:=by
   grind [own_open]
  subst hu
  exact .ro e' [] none 0 0 [] (by simp) rfl (Nat.le_refl _) (λ_=>rfl) (by simp) (λh=>absurd h (by simp)) (by simpa using CsRel.nil)
theorem ToCs.rel (h:Mem P σ j L S w):∀{vs:List V}{cs:List C}{M:List Nat},ToCs σ vs cs M->∀{us:List Value},VsRel P j w S vs us->CsRel P w S cs us (M.flatMap L)
 |_,_,_,.nil,us,hv=>by simp only[VsRel]at hv;subst hv;exact .nil
 |_,_,_,.cons h1 h2,us,hv=>by
  simp only[VsRel]at hv
  obtain⟨u,us',rfl,g1,g2⟩:=hv
  rw[List.flatMap_append]
  exact .cons _ _ _ _ _ _ (h1.rel h g1) (h2.rel h g2)
theorem ToCs.len {vs:List V}{cs:List C}{M:List Nat}(h:ToCs σ vs cs M):vs.length=cs.length:=by
 induction h with
 |nil=>rfl
 |cons h hs ih=>simp[ih]
theorem nodup_flatMap (h:Mem P σ j L S w):∀{M:List Nat},M.Nodup->(M.flatMap L).Nodup
 |[],_=>by simp
 |m::M,hM=>by
  rw[List.flatMap_cons,List.nodup_append]
  rw[List.nodup_cons]at hM
  refine⟨h.nodup m,nodup_flatMap h hM.2,?_⟩
  intro b hb c hc e
  subst e
  obtain⟨m',hm',hb'⟩:=List.mem_flatMap.1 hc
  exact hM.1 (h.disj m m' b hb hb'▸hm')
theorem do_ia_sro (h:Rel P B N fr σ j L S a w){t e n:Nat}{x y:Operand}(ho:o.op=.indexAddr t x y)(ht:elemOf P t=some e)(hn:sizeAt P e=some n){x' y':A}(hx:aOf P t x=some x')(hy:aOf P 0 y=some y')
  {k:IntKind} {i:Int} (hi:val fr y'=.c (.i k i)) (h0:0<=i) {r off len:Nat} {rows:List (List C)} (hv:val fr x'=.sl r e off len) (hr:root σ r=.ro e rows) {cs:List C} (h1:((rows.drop off).take len)[i.toNat]? =some cs):Does P B N fr σ a w o (.rp cs):=by
 have hv':=aOf_rel h hx
 rw[hv]at hv'
 exact do_ia_roC h ho ht hn hy hi h0 (sl_ro_root h.mem hr hv') h1
end
end Go.Proofs.YtmcbbifeekhmgaaGreatDoor.Pe
