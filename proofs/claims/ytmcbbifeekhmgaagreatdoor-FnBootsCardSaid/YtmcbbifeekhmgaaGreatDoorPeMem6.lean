import Derived.Test.YtmcbbifeekhmgaaGreatDoorPeMem5
import Derived.Lib.AppendZeros
set_option linter.unusedVariables false
namespace Go.Proofs.YtmcbbifeekhmgaaGreatDoor.Pe
open Go Go.RowKit
def bytesOf (P:Program)(e:Nat):Nat:=match P.info? e with
 |some i=>i.bytes
 |none=>0
inductive Onto (fr:Fr) (σ:St) (x:A) (e:Nat):List (List C)->List Nat->Prop
 |nil {e':Nat} (h:val fr x=.c (.row true e' [])):Onto fr σ x e [] []
 |own {r len:Nat} {rows rows':List (List C)} (h:val fr x=.sl r e 0 len) (hr:root σ r=.vec e rows) (hl:len<=rows.length) (ht:rows.take len=rows'):Onto fr σ x e rows' [r]
def flatC:C->Bool
 |.row true _ _=>false
 |_=>true
inductive Adds (fr:Fr) (σ:St) (y:A) (e:Nat):List (List C)->List Nat->Prop
 |ro {rows:List (List C)} (h:val fr y=.c (.row false e rows)):Adds fr σ y e rows []
 |shared {r off len:Nat} {rows rows':List (List C)} (h:val fr y=.sl r e off len) (hr:root σ r=.ro e rows) (ht:(rows.drop off).take len=rows'):Adds fr σ y e rows' []
 |flat {r off len:Nat} {rows rows':List (List C)} (h:val fr y=.sl r e off len) (hr:root σ r=.vec e rows) (ht:(rows.drop off).take len=rows') (hf:∀x∈rows',∀c∈x,flatC c=true):Adds fr σ y e rows' []
 |own {r len:Nat} {rows:List (List C)} (h:val fr y=.sl r e 0 len) (hr:root σ r=.vec e rows) (hl:len=rows.length):Adds fr σ y e rows [r]
 |nil {e':Nat} (h:val fr y=.c (.row true e' [])):Adds fr σ y e [] []
section
variable {P:Program} {B:Begin} {N:Nat} {fr:Fr} {σ:St} {j:Nat->Hd} {L:Nat->List Nat} {S:Nat->Prop} {a:Act} {w w':World} {o:Oper}
theorem grown_stays {v:Value}{g:World.grownBy w w' v.ownBlock}{b:Nat}(hb:b<w.heap.size)(h:b∉own1 v):w'.heap[b]? =w.heap[b]? :=
 g.block b hb (λe=>h (mem_own1.2 e.symm))
theorem CsRel.one:∀{cs:List C}{vs:List Value}{L0:List Nat},CsRel P w S cs vs L0->∀u∈vs,u.oneCell'=true
 |_,_,_,.nil,u,hu=>by simp at hu
 |_,_,_,.cons _ _ _ _ _ _ h hs,u,hu=>by
  rcases List.mem_cons.1 hu with rfl|hu
  ·exact h.one
  ·exact hs.one u hu
theorem do_ap_key (h:Rel P B N fr σ j L S a w){c:Call}{tys:Array TypeId}{x y:Operand}(ho:o.op=.call c)(hc1:c.callee=.builtin .append)(hc2:c.args=#[x,y])(hc3:c.argTypes=tys){e:Nat}
  {rx ry:List (List C)} {L0 Ly M:List Nat} {v vx yv:Value} {xs vals:List Value} (hv:a.eval x=vx) (hy:a.eval y=yv) (hzx:∀r∈rx,r.length=P.cellsOf e) (hcx:CsRel P w S rx.flatten xs L0)
  (key:∃v' w',(Builtin.append_ tys o.type #[vx,yv]).run P w=.ok v' w'/\w'.ownsRow 0 e (P.cellsOf e) v' (rx.length+ry.length) (xs++vals)/\w.grownBy w' v.ownBlock/\(v'.ownBlock=v.ownBlock\/v'.ownBlock=some w.heap.size))
  (hcs:CsRel P w S ry.flatten vals Ly) (hzy:∀x∈ry,x.length=P.cellsOf e) (hsub:∀b∈(own1 v++L0)++Ly,b∈M.flatMap L) (hnd:((own1 v++L0)++Ly).Nodup)
  {s:Nat} (hs:root σ s=.no) (hm:B.m<=s) (hsM:s∉M):Does P B N fr ((s,.vec e (rx++ry))::gones M σ) a w o (.sl s e 0 (rx.length+ry.length)):=by
 obtain⟨hj,hLs⟩:=h.fresh hs
 obtain⟨v',w',hrun,ho2,hg,hblk⟩:=key
 have hL0:∀b∈L0++Ly,b∈M.flatMap L:=λb hb=>hsub b (by simp only[List.mem_append]at hb⊢;rcases hb with hb|hb;exact .inl (.inr hb);exact .inr hb)
 have hLt:∀b∈M.flatMap L,b<w.heap.size/\¬S b:=by
  intro b hb
  obtain⟨m,_,hb'⟩:=List.mem_flatMap.1 hb
  exact h.mem.owned m b hb'
 have hnd':own1 v++(L0++Ly)=own1 v++L0++Ly:=by simp
 rw[<-hnd',List.nodup_append]at hnd
 have hgS:∀b,S b->w'.heap[b]? =w.heap[b]? :=λb hb=>grown_stays (g:=hg) (h.mem.stab b hb) (λhb'=>(hLt b (hsub b (by simp[hb']))).2 hb)
 have hg0:∀b∈L0++Ly,w'.heap[b]? =w.heap[b]? :=λb hb=>grown_stays (g:=hg) (hLt b (hL0 b hb)).1 (λhb'=>hnd.2.2 b hb' b hb rfl)
 have hown':CRel P w' S (.row true e (rx++ry)) v' (own1 v'++(L0++Ly)):=by
  refine .own e (rx++ry) v' (xs++vals) (L0++Ly) ?_ ?_ ?_
  ·intro r hr
   rcases List.mem_append.1 hr with hr|hr
   ·exact hzx r hr
   ·exact hzy r hr
  ·grind
  ·rw[List.flatten_append]
   exact CsRel.append (hcs.stay hgS (λb hb=>hg0 b (by simp[hb]))) (hcx.stay hgS (λb hb=>hg0 b (by simp[hb])))
 have hown1:∀b∈own1 v',b∈own1 v\/b=w.heap.size:=by
  grind [mem_own1]
 have hsize:∀b∈own1 v',b<w'.heap.size:=by
  intro b hb
  rw[mem_own1]at hb
  rcases ho2.2 with ⟨rfl,_⟩|⟨g,cap,cur,rfl,_,hh,_⟩
  ·simp[Value.ownBlock]at hb
  ·simp only[Value.ownBlock,Option.some.injEq]at hb
   grind
 have h4:=h.turn1 s M (.vec e (rx++ry)) (own1 v'++(L0++Ly)) (.hdr v') hsM (λhn=>absurd hj hn) (λhb=>absurd hb (by omega)) (λb hb _ hnb=>grown_stays (g:=hg) hb (λhb'=>by
   obtain⟨m,hm',hb2⟩:=List.mem_flatMap.1 (hsub b (by simp[hb']))
   exact hnb m hm' hb2)) hg.size ⟨hg.os,hg.tape,hg.output⟩ ⟨v',by unfold updj;rw[if_pos rfl],hown'⟩ ?_ ?_
 ·refine Does.value (u:=v') ?_ h4 ?_
  ·unfold execOp
   simp only[ho,resolve,hc1,invoke,builtin,Sem.run_bind,Sem.run_pure,Result.andThen_ok,hc2,hc3,List.map_toArray,List.map_cons,List.map_nil,hv,hy,hrun]
  ·simp only[VRel]
   refine⟨v',by unfold updj;rw[if_pos rfl],?_⟩
   rcases ho2.2 with ⟨rfl,h0⟩|⟨g,cap,cur,rfl,_,hh,hn,_⟩
   ·exact .inl ⟨rfl,rfl,h0,rfl⟩
   ·exact .inr ⟨g,rx.length+ry.length,cap,⟨g,0,none⟩,cap,rfl,by omega,rfl,hn,by omega,.inl (by simp),λ_=>⟨rfl,rfl⟩⟩
 ·rw[List.nodup_append]
  refine⟨?_,hnd.2.1,?_⟩
  ·grind [own1]
  grind
 ·grind
theorem do_ap_gen (h:Rel P B N fr σ j L S a w){c:Call}{t:TypeId}{x y:Operand}(ho:o.op=.call c)(hc1:c.callee=.builtin .append)(hc2:c.args=#[x,y])(hc3:c.argTypes=#[t,t]){e:Nat}(he:elemOf P t=some e){z:List C}(hz:zOf P e=some z)(hz0:z.length≠0)
  {rx ry:List (List C)} {Lx Ly M:List Nat} (hown:CRel P w S (.row true e rx) (a.eval x) Lx) {Ad:Option Addr} {cc:Nat} (hy:a.eval y=.slice Ad ry.length cc) (hA0:Ad=none->cc=0) {vals:List Value} (hA:∀ad,Ad=some ad->∀k u,vals[k]? =some u->w.cell? (ad.add k)=some u)
  (hcs:CsRel P w S ry.flatten vals Ly) (hzy:∀x∈ry,x.length=P.cellsOf e) (hAn:Ad=none->ry=[]) (hsub:∀b∈Lx++Ly,b∈M.flatMap L) (hnd:(Lx++Ly).Nodup) (h63:rx.length+ry.length<=maxLen) (hb:(rx.length+ry.length)*bytesOf P e<=140737488355328)
  {s:Nat} (hs:root σ s=.no) (hm:B.m<=s) (hsM:s∉M):Does P B N fr ((s,.vec e (rx++ry))::gones M σ) a w o (.sl s e 0 (rx.length+ry.length)):=by
 obtain⟨i,zv,hi,hzv,hsz,hok⟩:=zOf_some hz
 obtain⟨_,_,_,hzl⟩:=zOk_rel (P:=P) (w:=w) (S:=S) (j:=j) hok
 have hce:P.cellsOf e=z.length:=by simp[Program.cellsOf,hi,hsz]
 have hbi:bytesOf P e=i.bytes:=by simp[bytesOf,hi]
 rw[hbi]at hb
 generalize hv:a.eval x=v at hown
 cases hown with
 |own _ _ _ xs L0 hzx ho1 hcx=>
  have hvl:vals.length=ry.length*z.length:=by rw[hcs.len,flat_len hzy,hce]
  rw[hce]at ho1
  have key:∃v' w',(Builtin.append_ #[t,t] o.type #[v,.slice Ad ry.length cc]).run P w=.ok v' w'/\w'.ownsRow 0 e z.length v' (rx.length+ry.length) (xs++vals)/\w.grownBy w' v.ownBlock/\(v'.ownBlock=v.ownBlock\/v'.ownBlock=some w.heap.size):=by
   cases Ad with
   |none=>
    obtain rfl:=hA0 rfl
    obtain rfl:=hAn rfl
    have hv0:vals=[]:=List.eq_nil_of_length_eq_zero (by simpa using hvl)
    subst hv0
    refine⟨v,w,run_append_owned_none (P:=P) w 0 t o.type e i z.length (elemOf_some he) hi v rx.length xs ho1,by simpa using ho1,⟨rfl,rfl,rfl,Nat.le_refl _,λ_ _ _=>rfl⟩,.inl rfl⟩
   |some ad=>
    obtain⟨v',w',q1,q2,q3,_,q4⟩:=run_append_own_at (P:=P) w 0 t o.type e i zv z.length i.bytes (elemOf_some he) hi hzv hsz rfl (by simpa using hzl) (by omega) v rx.length xs ho1 ad ry.length cc vals hvl (hA ad rfl) hcs.one h63 hb (Nat.zero_le _)
    grind
  exact do_ap_key h ho hc1 hc2 hc3 hv hy hzx hcx (by rw[hce];exact key) hcs hzy hsub hnd hs hm hsM
theorem own_take {e:Nat}{rows:List (List C)}{h0 v:Value}{L0:List Nat}(hc:CRel P w S (.row true e rows) h0 L0){len:Nat}(hl:len<=rows.length)(hs:SlRel (P.cellsOf e) h0 v 0 len):
  ∃L1,CRel P w S (.row true e (rows.take len)) v L1/\(L0.Nodup->L1.Nodup)/\∀b∈L1,b∈L0:=by
 rcases own_open hc with ⟨rfl,rfl,rfl⟩|⟨g,cap,cur,L',rfl,hh,hcap,hcm,hsz,hcs,rfl,hz⟩
 ·rcases hs with ⟨_,_,rfl,rfl⟩|⟨g,n,c,A,cc,h1,_⟩
  ·grind
  ·cases h1
 ·rcases hs with ⟨h1,_⟩|⟨g',n,c,A,cc,h1,hn,rfl,hlc,_,_,h2⟩
  ·cases h1
  ·cases h1
   obtain⟨rfl,rfl⟩:=h2 rfl
   have hfl:rows.flatten=(rows.take len).flatten++(rows.drop len).flatten:=by rw[<-List.flatten_append,List.take_append_drop]
   rw[hfl]at hcs
   obtain⟨v1,v2,L1,L2,hcur,rfl,g1,g2⟩:=hcs.split
   have hzt:∀x∈rows.take len,x.length=P.cellsOf e:=λx hx=>hz x (List.mem_of_mem_take hx)
   have hlen:(rows.take len).length=len:=by rw[List.length_take];omega
   have hv1:v1.length=len*P.cellsOf e:=by rw[g1.len,flat_len hzt,hlen]
   have ht:cur.toList.take (len*P.cellsOf e)=v1:=by
    grind [Nat.min_eq_left,Nat.mul_le_mul_right,List.take_left]
   have key:=own_close (P:=P) (S:=S) (rows:=rows.take len) (cap:=cc) (L':=L1) hh (by omega) hcm hsz (by rw[hlen,ht];exact g1) hzt
   grind
theorem Onto.rel (h:Rel P B N fr σ j L S a w){x:A}{e:Nat}{rx:List (List C)}{M:List Nat}(hx:Onto fr σ x e rx M){v:Value}(hv:VRel P j w S (val fr x) v):∃Lx,CRel P w S (.row true e rx) v Lx/\Lx.Nodup/\(∀b∈Lx,b∈M.flatMap L)/\∀s,root σ s=.no->s∉M:=by
 cases hx with
 | @nil e' h0=>
  rw[h0]at hv
  simp only[VRel]at hv
  have:=nil_own hv
  subst this
  exact⟨[],own_nil e,by simp,by simp,by simp⟩
 | @own r len rows rows' h0 hr hl ht=>
  subst ht
  rw[h0]at hv
  simp only[VRel]at hv
  obtain⟨hd,hj,hs⟩:=hv
  obtain⟨hd',hj',hc⟩:=h.mem.vecAt hr
  rw[hj]at hj'
  cases hj'
  obtain⟨L1,g1,g2,g3⟩:=own_take hc hl hs
  exact⟨L1,g1,g2 (h.mem.nodup r),by simpa using g3,λs hs hm=>by simp only[List.mem_singleton]at hm;subst hm;rw[hs]at hr;cases hr⟩
theorem flat_none:∀{cs:List C}{vs:List Value}{L0:List Nat},CsRel P w S cs vs L0->(∀c∈cs,flatC c=true)->L0=[]
 |_,_,_,.nil,_=>rfl
 |_,_,_,.cons c _ _ _ _ _ h hs,hf=>by
  rw[flat_none hs (λc hc=>hf c (by simp[hc])),List.append_nil]
  have:=hf c (by simp)
  cases h<;>first|rfl|simp[flatC]at this
theorem own_sl {e:Nat}{rows:List (List C)}{h0 v:Value}{L0:List Nat}(hc:CRel P w S (.row true e rows) h0 L0){off len:Nat}(hs:SlRel (P.cellsOf e) h0 v off len):
  ∃Ad cc vals L1,v=.slice Ad len cc/\(Ad=none->cc=0/\len=0)/\(∀ad,Ad=some ad->∀k u,vals[k]? =some u->w.cell? (ad.add k)=some u)/\CsRel P w S ((rows.drop off).take len).flatten vals L1/\((rows.drop off).take len).length=len/\(∀x∈rows,x.length=P.cellsOf e)/\(L0.Nodup->L1.Nodup)/\∀b∈L1,b∈L0:=by
 rcases own_open hc with ⟨rfl,rfl,rfl⟩|⟨g,cap,cur,L',rfl,hh,hcap,hcm,hsz,hcs,rfl,hz⟩
 ·rcases hs with ⟨_,rfl,rfl,rfl⟩|⟨g,n,c,A,cc,h1,_⟩
  ·exact⟨none,0,[],[],rfl,by simp,by simp,by simpa using CsRel.nil,by simp,by simp,by simp,by simp⟩
  ·cases h1
 ·rcases hs with ⟨h1,_⟩|⟨g',n,c,A,cc,h1,hn,rfl,hlc,hcc,hAA,_⟩
  ·cases h1
  ·cases h1
   have hfl:rows.flatten=(rows.take off).flatten++(((rows.drop off).take len).flatten++((rows.drop off).drop len).flatten):=by
    grind [List.flatten_append,List.take_append_drop]
   rw[hfl]at hcs
   obtain⟨v1,v2,L1,L2,hcur,rfl,g1,g2⟩:=hcs.split
   obtain⟨v3,v4,L3,L4,rfl,rfl,g3,g4⟩:=g2.split
   have hlen:((rows.drop off).take len).length=len:=by rw[List.length_take,List.length_drop];omega
   have hv1:v1.length=off*P.cellsOf e:=by
    rw[g1.len,flat_len (λx hx=>hz x (List.mem_of_mem_take hx)),List.length_take]
    grind
   have hv3:v3.length=len*P.cellsOf e:=by rw[g3.len,flat_len (λx hx=>hz x (List.mem_of_mem_drop (List.mem_of_mem_take hx))),hlen]
   refine⟨some A,cc,v3,L3,rfl,by simp,?_,g3,hlen,hz,λhn=> ?_,λb hb=>by simp[hb]⟩
   rotate_left
   ·grind
   rintro ad had k u hk
   cases had
   have hkl:k<v3.length:=(List.getElem?_eq_some_iff.1 hk).1
   obtain rfl:A=⟨g,off*P.cellsOf e,none⟩:=hAA.resolve_right (by
    rintro rfl
    have:len=0:=by omega
    subst this
    simp at hv3
    subst hv3
    simp at hkl)
   have:(cur.toList.take (rows.length*P.cellsOf e))[off*P.cellsOf e+k]? =some u:=by
    rw[hcur,<-hv1,List.getElem?_append_right (by omega),show v1.length+k-v1.length=k by omega,List.getElem?_append_left hkl]
    exact hk
   rw[List.getElem?_take]at this
   split at this
   ·rw[add_off]
    simp only[World.cell?,hh]
    simpa using this
   ·cases this
theorem ro_sl {e:Nat}{rows:List (List C)}{v:Value}{L0:List Nat}(hc:CRel P w S (.row false e rows) v L0):
  ∃Ad cc vals,v=.slice Ad rows.length cc/\(Ad=none->cc=0/\rows.length=0)/\(∀ad,Ad=some ad->∀k u,vals[k]? =some u->w.cell? (ad.add k)=some u)/\CsRel P w S rows.flatten vals []/\∀x∈rows,x.length=P.cellsOf e:=by
 obtain⟨A,c,vals,rfl,_,hcl,h0,hvl,hz,hA,hcs⟩:=ro_open hc
 refine⟨A,c,vals,rfl,λhn=>⟨h0 hn,by have:=h0 hn;omega⟩,?_,hcs,hz⟩
 rintro ad rfl k u hk
 have hkl:k<vals.length:=(List.getElem?_eq_some_iff.1 hk).1
 have:0<rows.length:=by
  rcases Nat.eq_zero_or_pos rows.length with h|h
  ·grind
  ·exact h
 obtain⟨a,ha,_,hcell⟩:=hA this
 cases ha
 exact hcell k u hk
theorem Adds.rel (h:Rel P B N fr σ j L S a w){y:A}{e:Nat}{ry:List (List C)}{M:List Nat}(hy:Adds fr σ y e ry M){v:Value}(hv:VRel P j w S (val fr y) v):
  ∃Ad cc vals Ly,v=.slice Ad ry.length cc/\(Ad=none->cc=0/\ry.length=0)/\(∀ad,Ad=some ad->∀k u,vals[k]? =some u->w.cell? (ad.add k)=some u)/\CsRel P w S ry.flatten vals Ly/\(∀x∈ry,x.length=P.cellsOf e)/\Ly.Nodup/\(∀b∈Ly,b∈M.flatMap L)/\∀s,root σ s=.no->s∉M:=by
 cases hy with
 |ro h0=>
  grind [VRel,ro_sl]
 |shared h0 hr ht=>
  subst ht
  rw[h0]at hv
  have hc:=sl_ro_root h.mem hr hv
  grind [ro_sl]
 | @flat r off len rows rows' h0 hr ht hf=>
  subst ht
  rw[h0]at hv
  simp only[VRel]at hv
  obtain⟨hd,hj,hs⟩:=hv
  obtain⟨hd',hj',hc⟩:=h.mem.vecAt hr
  grind [own_sl,flat_none,List.mem_flatten,List.mem_of_mem_drop,List.mem_of_mem_take]
 | @own r len rows h0 hr hl=>
  subst hl
  rw[h0]at hv
  simp only[VRel]at hv
  obtain⟨hd,hj,hs⟩:=hv
  obtain⟨hd',hj',hc⟩:=h.mem.vecAt hr
  rw[hj]at hj'
  cases hj'
  have hu:v=hd:=by
   rcases hs with ⟨rfl,_,_,rfl⟩|⟨g,n,c,A,cc,rfl,_,rfl,_,_,_,h0⟩
   ·rfl
   grind [own_open]
  obtain⟨L1,g1,g2,g3⟩:=own_take hc (Nat.le_refl _) hs
  rw[List.take_length]at g1
  obtain⟨Ad,cc,vals,L2,q1,q2,q3,q4,q5,q6,q65,q7⟩:=own_sl (v:=v) g1 (by rw[<-hu]at hs;exact hs)
  simp only[List.drop_zero,List.take_length]at q4
  exact⟨Ad,cc,vals,L2,q1,q2,q3,q4,q6,q65 (g2 (h.mem.nodup r)),λb hb=>by simpa using g3 b (q7 b hb),λs hs hm=>by simp only[List.mem_singleton]at hm;subst hm;rw[hs]at hr;cases hr⟩
 |nil h0=>
  rw[h0]at hv
  simp only[VRel]at hv
  have:=nil_own hv
  subst this
  exact⟨none,0,[],[],rfl,by simp,by simp,by simpa using CsRel.nil,by simp,by simp,by simp,by simp⟩
theorem do_ap (h:Rel P B N fr σ j L S a w){c:Call}{t:TypeId}{x y:Operand}(ho:o.op=.call c)(hc1:c.callee=.builtin .append)(hc2:c.args=#[x,y])(hc3:c.argTypes=#[t,t]){e:Nat}(he:elemOf P t=some e){z:List C}(hz:zOf P e=some z)(hz0:z.length≠0)
  {x' y':A} (hx:aOf P t x=some x') (hy:aOf P t y=some y') {rx ry:List (List C)} {Mx My:List Nat} (hox:Onto fr σ x' e rx Mx) (hay:Adds fr σ y' e ry My) (hM:(Mx++My).Nodup) (h63:rx.length+ry.length<=maxLen) (hb:(rx.length+ry.length)*bytesOf P e<=140737488355328)
  {s:Nat} (hs:root σ s=.no) (hm:B.m<=s):Does P B N fr ((s,.vec e (rx++ry))::gones (Mx++My) σ) a w o (.sl s e 0 (rx++ry).length):=by
 obtain⟨Lx,p1,p2,p3,p4⟩:=hox.rel h (aOf_rel h hx)
 obtain⟨Ad,cc,vals,Ly,q1,q2,q3,q4,q5,q6,q7,q8⟩:=hay.rel h (aOf_rel h hy)
 rw[List.length_append]
 refine do_ap_gen h ho hc1 hc2 hc3 he hz hz0 p1 q1 (λhn=>(q2 hn).1) q3 q4 q5 (λhn=>List.eq_nil_of_length_eq_zero (q2 hn).2) ?_ ?_ h63 hb hs hm ?_
 ·grind
 ·rw[List.nodup_append]
  refine⟨p2,q6,?_⟩
  rintro b hb1 b2 hb2 rfl
  obtain⟨m1,hm1,hb1'⟩:=List.mem_flatMap.1 (p3 b hb1)
  obtain⟨m2,hm2,hb2'⟩:=List.mem_flatMap.1 (q7 b hb2)
  have:=h.mem.disj m1 m2 b hb1' hb2'
  grind
 ·grind
theorem do_ap3 (h:Rel P B N fr σ j L S a w){c:Call}{t:TypeId}{x y:Operand}(ho:o.op=.call c)(hc1:c.callee=.builtin .append)(hc2:c.args=#[x,y])(hc3:c.argTypes=#[t,t]){e:Nat}(he:elemOf P t=some e){z:List C}(hz:zOf P e=some z)(hz0:z.length≠0)
  {x' y':A} (hx:aOf P t x=some x') (hy:aOf P t y=some y') {r len:Nat} {rows ry:List (List C)} {My:List Nat} (hv:val fr x'=.s3 r e len) (hr:root σ r=.vec e rows) (hl:len<=rows.length) (hf:∀x∈rows.take len,∀c∈x,flatC c=true) (hay:Adds fr σ y' e ry My) (hy0:0<ry.length) (hM:My.Nodup)
  (h63:len+ry.length<=maxLen) (hb:(len+ry.length)*bytesOf P e<=140737488355328) {s:Nat} (hs:root σ s=.no) (hm:B.m<=s):Does P B N fr ((s,.vec e (rows.take len++ry))::gones My σ) a w o (.sl s e 0 (len+ry.length)):=by
 have hlen:(rows.take len).length=len:=by rw[List.length_take];omega
 obtain⟨Ad,cc,vals,Ly,q1,q2,q3,q4,q5,q6,q7,q8⟩:=hay.rel h (aOf_rel h hy)
 have hvx:=aOf_rel h hx
 rw[hv]at hvx
 simp only[VRel]at hvx
 obtain⟨hd,hj,h3⟩:=hvx
 obtain⟨hd',hj',hc⟩:=h.mem.vecAt hr
 rw[hj]at hj'
 cases hj'
 rcases h3 with ⟨g,n,c',rfl,hln,hnc,hax⟩|⟨rfl,rfl,hax⟩
 ·obtain⟨i,zv,hi,hzv,hsz,hok⟩:=zOf_some hz
  obtain⟨_,hzc,_,hzl⟩:=zOk_rel (P:=P) (w:=w) (S:=S) (j:=j) hok
  have hce:P.cellsOf e=z.length:=by simp[Program.cellsOf,hi,hsz]
  have hbi:bytesOf P e=i.bytes:=by simp[bytesOf,hi]
  rw[hbi]at hb
  have hzs:zv.cells.size=z.length:=by simpa using hzl
  obtain⟨ad,rfl⟩:∃ad,Ad=some ad:=by
   cases Ad with
   |none=>have:=(q2 rfl).2;omega
   |some ad=>exact⟨ad,rfl⟩
  have hvl:vals.length=ry.length*z.length:=by rw[q4.len,flat_len q5,hce]
  obtain⟨Ad,cc',olds,L1,g1,g2,g3,g4,g5,g6,_,_⟩:=own_sl (off:=0) (len:=len) (v:=.slice (some ⟨g,0,none⟩) len c') hc (.inr ⟨g,n,c',⟨g,0,none⟩,c',rfl,by omega,rfl,by omega,by omega,.inl (by simp),λ_=>⟨rfl,rfl⟩⟩)
  cases g1
  rw[List.drop_zero]at g4 g5
  have:L1=[]:=flat_none g4 (λc hc=>by
   obtain⟨x,hx,hcx⟩:=List.mem_flatten.1 hc
   exact hf x hx c hcx)
  subst this
  have hz':∀x∈rows.take len,x.length=P.cellsOf e:=λx hx=>g6 x (List.mem_of_mem_take hx)
  have hol:olds.length=len*z.length:=by rw[g4.len,flat_len hz',hlen,hce]
  have hcap:=grownCap_ge w (len+ry.length) len e
  have hcm:=grownCap_le_maxLen w (len+ry.length) len e h63
  have hbytes:Builtin.nextslicecap (len+ry.length) len*i.bytes<=281474976710656:=growslice_fits (by omega) hb
  have hrun:=run_append_grow (P:=P) w t o.type e i zv (elemOf_some he) hi hzv ⟨g,0,none⟩ len len olds (by rw[hsz];exact hol) (g3 _ rfl) ad ry.length cc vals (by rw[hsz];exact hvl) (q3 ad rfl) (by omega) (by simp only[maxLen]at h63;omega) hbytes
  rw[<-hax,<-q1]at hrun
  have hlv:(olds++vals).length=(len+ry.length)*z.length:=by rw[List.length_append,hol,hvl,Nat.add_mul]
  have:=do_ap_key (P:=P) (M:=My) h ho hc1 hc2 hc3 (e:=e) (rx:=[]) (ry:=rows.take len++ry) (L0:=[]) (Ly:=Ly) (v:=.slice none 0 0) (vx:=a.eval x) (yv:=a.eval y) (xs:=[]) (vals:=olds++vals) rfl rfl (by simp) (by simpa using CsRel.nil)
   ⟨_,_,hrun,⟨by rw[hce,List.nil_append,hlv,List.length_append,hlen,List.length_nil,Nat.zero_add],.inr ⟨w.heap.size,grownCap w (len+ry.length) len e,_,by rw[List.length_append,hlen,List.length_nil,Nat.zero_add],Nat.zero_le _,heap_alloc_new w.drew _,by rw[List.length_append,hlen,List.length_nil,Nat.zero_add];exact hcap,hcm,by
    simp only[Array.size_append,List.size_toArray,size_zeroCells,hzs,hce,hol,hvl,<-Nat.add_mul]
    congr 1
    omega,by
    rw[hce,List.length_append,hlen,List.length_nil,Nat.zero_add,List.nil_append]
    simp only[Array.toList_append,List.append_assoc]
    rw[<-List.append_assoc,<-hlv]
    exact List.take_left⟩⟩,⟨rfl,rfl,rfl,by simp,λb hb0 _=>heap_alloc_old w.drew _ b hb0⟩,.inr rfl⟩
   (by rw[List.flatten_append];exact CsRel.append q4 g4) (by
    intro x hx
    rcases List.mem_append.1 hx with hx|hx
    ·exact hz' x hx
    ·exact q5 x hx) (by simpa[own1,Value.ownBlock]using q7) (by simpa[own1,Value.ownBlock]using q6) hs hm (q8 s hs)
  grind
 ·have:=do_ap_gen (rx:=[]) h ho hc1 hc2 hc3 he hz hz0 (by rw[hax];exact own_nil e) q1 (λhn=>(q2 hn).1) q3 q4 q5 (λhn=>List.eq_nil_of_length_eq_zero (q2 hn).2) (by simpa using q7) (by simpa using q6) (by simpa using h63) (by simpa using hb) hs hm (q8 s hs)
  simpa using this
theorem do_apz (h:Rel P B N fr σ j L S a w){c:Call}{t u:TypeId}{x y:Operand}{k:IntKind}(ho:o.op=.call c)(hc1:c.callee=.builtin .append)(hc2:c.args=#[x,y])(hc3:c.argTypes=#[t,u]){e:Nat}(he:elemOf P t=some e)(hu:P.underlying u=some (.int k)){z:List C}(hz:zOf P e=some z)(hz0:z.length≠0)
  {x' y':A} (hx:aOf P t x=some x') (hy:aOf P u y=some y') {e':Nat} {kn:IntKind} {n:Int} (hxv:val fr x'=.c (.row true e' [])) (hyv:val fr y'=.c (.i kn n)) (h0:1<=n) (h63:n<=maxLen) (hb:n.toNat*bytesOf P e<=140737488355328)
  {s:Nat} (hs:root σ s=.no) (hm:B.m<=s):Does P B N fr ((s,.vec e (List.replicate n.toNat z))::σ) a w o (.sl s e 0 n.toNat):=by
 obtain⟨i,zv,hi,hzv,hsz,hok⟩:=zOf_some hz
 obtain⟨_,hzc,_,hzl⟩:=zOk_rel (P:=P) (w:=w) (S:=S) (j:=j) hok
 have hce:P.cellsOf e=z.length:=by simp[Program.cellsOf,hi,hsz]
 have hbi:bytesOf P e=i.bytes:=by simp[bytesOf,hi]
 rw[hbi]at hb
 have hvx:=aOf_rel h hx
 have hvy:=aOf_rel h hy
 rw[hxv]at hvx
 rw[hyv]at hvy
 simp only[VRel]at hvx hvy
 have hax:=nil_own hvx
 obtain⟨m,rfl⟩:∃m:Nat,n=(m:Int):=⟨n.toNat,by omega⟩
 have hay:a.eval y=.int kn m:=by
  generalize a.eval y=vy at hvy
  cases hvy
  rfl
 have hzs:zv.cells.size=z.length:=by simpa using hzl
 have hm0:0<m:=by omega
 have hmax:m<=maxLen:=by omega
 simp only[Int.toNat_natCast]at hb⊢
 have hrun:=Lib.run_append_nil_zeros (P:=P) w t u o.type e i zv kn k (elemOf_some he) hu hi hzv m hm0 (by omega) (by simp only[maxLen]at hmax;omega) (by omega)
 have htl:(Builtin.zeroCells zv.cells m).toList=repl zv.cells.toList m:=toList_madeCells zv.cells m
 have hcap:=grownCap_ge w m 0 e
 have hcm:=grownCap_le_maxLen w m 0 e hmax
 have hrep:∀q:Nat,CsRel P w S (List.replicate q z).flatten (repl zv.cells.toList q) []:=by
  intro q
  induction q with
  |zero=>exact .nil
  |succ q ih=>
   rw[List.replicate_succ,List.flatten_cons]
   simpa only[repl,List.append_nil]using CsRel.append ih hzc
 have hrl:(repl zv.cells.toList m).length=m*z.length:=by rw[repl_len,<-hzs,Array.length_toList]
 have hz1:∀x∈List.replicate m z,x.length=P.cellsOf e:=by
  grind
 have:=do_ap_key (P:=P) (M:=[]) h ho hc1 hc2 hc3 (e:=e) (rx:=[]) (ry:=List.replicate m z) (L0:=[]) (Ly:=[]) (v:=.slice none 0 0) (yv:=.int kn m) (xs:=[]) (vals:=repl zv.cells.toList m) hax hay (by simp) (by simpa using CsRel.nil)
  ⟨_,_,hrun,⟨by rw[hce];simp[hrl],.inr ⟨w.heap.size,grownCap w m 0 e,_,by simp,Nat.zero_le _,heap_alloc_new _ _,by simpa using hcap,hcm,by rw[Array.size_append,size_zeroCells,size_zeroCells,hce,hzs,<-Nat.add_mul];congr 1;omega,by
   rw[hce,List.length_nil,Nat.zero_add,List.length_replicate,Array.toList_append,htl,<-hrl,List.take_left,List.nil_append]⟩⟩,⟨rfl,rfl,rfl,by show _<=(Array.push _ _).size;simp,λb hb0 _=>heap_alloc_old _ _ b hb0⟩,.inr rfl⟩
  (hrep m) hz1 (by simp[own1,Value.ownBlock]) (by simp[own1,Value.ownBlock]) hs hm (by simp)
 simpa[gones]using this
end
end Go.Proofs.YtmcbbifeekhmgaaGreatDoor.Pe
