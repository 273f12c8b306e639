import Derived.Test.YtmcbbifeekhmgaaGreatDoorPeMem2
namespace Go.Proofs.YtmcbbifeekhmgaaGreatDoor.Pe
open Go Go.RowKit
section
variable {P:Program} {B:Begin} {N:Nat} {fr:Fr} {σ:St} {j:Nat->Hd} {L:Nat->List Nat} {S:Nat->Prop} {a:Act} {w w':World} {o:Oper}
theorem do_ld_el (h:Rel P B N fr σ j L S a w){t n:Nat}{ag:Bool}{x:Operand}(ho:o.op=.load t x)(hs:shapeOf P t=some (n,ag)){x':A}(hx:aOf P 0 x=some x'){r e i k:Nat}(hp:val fr x'=.el r e i k){rows:List (List C)}(hr:root σ r=.vec e rows){cs l:List C}(hi:rows[i]? =some cs)(hl:takeN n (cs.drop k)=some l){vs:List V}(hvs:reads l=some vs){v:V}(hv:mkV ag vs=some v):
  Does P B N fr σ a w o v:=by
 have hpx:=aOf_rel h hx
 rw[hp]at hpx
 simp only[VRel]at hpx
 obtain⟨g,m,c,hj,him,hpx⟩:=hpx
 obtain⟨hd,hj',hc⟩:=h.mem.vecAt hr
 rw[hj]at hj'
 cases hj'
 rcases own_open hc with ⟨_,h1,_⟩|⟨g',cap,cur,L',h1,hh,hcap,_,hsz,hcs,hL,hz⟩
 ·cases h1
 ·cases h1
  obtain⟨pre,post,hfl,hpre,_⟩:=flat_at hz hi
  rw[hfl]at hcs
  obtain⟨v1,v2,L1,L2,hcur,_,g1,g2⟩:=hcs.split
  obtain⟨v3,v4,L3,L4,rfl,_,g3,g4⟩:=g2.split
  obtain⟨pre2,post2,rfl,hpre2,hln⟩:=drop_take_at hl
  obtain⟨v5,v6,L5,L6,rfl,_,g5,g6⟩:=g3.split
  obtain⟨v7,v8,L7,L8,rfl,_,g7,g8⟩:=g6.split
  have hcells:∀q u,v7[q]? =some u->w.cell? ((⟨g,i*P.cellsOf e+k,none⟩:Addr).add q)=some u:=by
   intro q u hq
   have hql:q<v7.length:=(List.getElem?_eq_some_iff.1 hq).1
   have hk:v5.length=k:=by
    rcases hpre2 with hp2|hp2
    ·exact g5.len.trans hp2
    ·rw[g7.len,hp2]at hql;simp at hql
   have h1':v1.length=i*P.cellsOf e:=g1.len.trans hpre
   have:(cur.toList.take (rows.length*P.cellsOf e))[i*P.cellsOf e+k+q]? =some u:=by
    rw[hcur,List.getElem?_append_right (by omega),List.getElem?_append_left (by simp;omega),List.getElem?_append_right (by omega),List.getElem?_append_left (by omega)]
    grind
   have h2:=this
   rw[List.getElem?_take]at h2
   split at h2
   ·rw[add_off]
    simp only[World.cell?,hh]
    simpa using h2
   ·cases h2
  obtain⟨u,hu,hrel⟩:=load_run (w:=w) hs hpx hv (reads_rel (j:=j) hvs g7) (g7.len.trans hln) hcells
  refine Does.value (j':=j) (L':=L) (S':=S) (u:=u) ?_ h hrel
  simp only[execOp,ho,Sem.run_bind,hu,Result.andThen_ok,Sem.run_pure]
theorem setAt_mid {α:Type}{x y z us:List α}{o:Nat}(ho:x.length=o)(h:us.length=y.length):setAt (x++(y++z)) o us=x++(us++z):=by
 grind [setAt,List.take_left,List.append_assoc,List.drop_left]
theorem CsRel.stay (hS:∀b,S b->w'.heap[b]? =w.heap[b]?){cs:List C}{vs:List Value}{L0:List Nat}(h:CsRel P w S cs vs L0)(hL:∀b∈L0,w'.heap[b]? =w.heap[b]?):CsRel P w' S cs vs L0:=h.stays (λb hb=>⟨hb,hS b hb⟩) hL
theorem setAt_len {α:Type}{l xs:List α}{k:Nat}(h:k+xs.length<=l.length):(setAt l k xs).length=l.length:=by
 grind [setAt,List.length_append,List.length_take,List.length_drop]
theorem do_sto_el (h:Rel P B N fr σ j L S a w){t n:Nat}{x y:Operand}(ho:o.op=.store t x y)(hn:sizeAt P t=some n){x' y':A}(hx:aOf P 0 x=some x')(hy:aOf P t y=some y'){r e i k:Nat}(hp:val fr x'=.el r e i k){rows:List (List C)}(hr:root σ r=.vec e rows){cs:List C}(hi:rows[i]? =some cs)
  {vs:List V} (hvs:cellsV (val fr y')=some vs) {ds:List C} {M:List Nat} (hd:ToCs σ vs ds M) (hM:M.Nodup) (hrM:r∉M) (hl:vs.length=n) (hfit:k+n<=cs.length):
  Does P B N fr ((r,.vec e (rows.set i (setAt cs k ds)))::gones M σ) a w o .undef:=by
 obtain⟨q1,q2,q3,_⟩:=cellsV_rel hvs (aOf_rel h hy)
 have hpx:=aOf_rel h hx
 rw[hp]at hpx
 simp only[VRel]at hpx
 obtain⟨g,m,c,hj,him,hpx⟩:=hpx
 obtain⟨hd',hj',hc⟩:=h.mem.vecAt hr
 rw[hj]at hj'
 cases hj'
 rcases own_open hc with ⟨_,h1,_⟩|⟨g',cap,cur,L',h1,hh,hcap,hcm,hsz,hcs,hL,hz⟩
 ·cases h1
 ·cases h1
  have hdl:ds.length=n:=hd.len.symm.trans hl
  have hul:(a.eval y).cells.toList.length=n:=by simpa using q3.trans hl
  obtain⟨pre,post,hfl,hpre,hset⟩:=flat_at hz hi
  have hcsl:cs.length=P.cellsOf e:=hz cs (List.mem_of_getElem? hi)
  have hcs0:cs=cs.take k++((cs.drop k).take n++(cs.drop k).drop n):=by rw[List.take_append_drop,List.take_append_drop]
  have hnew:setAt cs k ds=cs.take k++(ds++(cs.drop k).drop n):=by
   grind [setAt,List.append_assoc,List.drop_drop]
  rw[hfl,hcs0]at hcs
  obtain⟨v1,v2,L1,L2,hcur,hLL,g1,g2⟩:=hcs.split
  obtain⟨v3,v4,L3,L4,rfl,rfl,g3,g4⟩:=g2.split
  obtain⟨v5,v6,L5,L6,rfl,rfl,g5,g6⟩:=g3.split
  obtain⟨v7,v8,L7,L8,rfl,rfl,g7,g8⟩:=g6.split
  have e1:v1.length=i*P.cellsOf e:=g1.len.trans hpre
  have e5:v5.length=k:=by rw[g5.len,List.length_take];omega
  have e7:v7.length=n:=by rw[g7.len,List.length_take,List.length_drop];omega
  have hcurl:cur.toList=(v1++v5)++(v7++(v8++v4++cur.toList.drop (rows.length*P.cellsOf e))):=by
   grind [List.take_append_drop,List.append_assoc]
  have hsetc:setAt cur.toList (i*P.cellsOf e+k) (a.eval y).cells.toList=(v1++v5)++((a.eval y).cells.toList++(v8++v4++cur.toList.drop (rows.length*P.cellsOf e))):=by
   grind [setAt_mid]
  have hT:(cur.toList.take (rows.length*P.cellsOf e)).length=rows.length*P.cellsOf e:=by
   grind [List.length_take,Nat.min_eq_left,Nat.mul_le_mul_right]
  have hlen8:v1.length+v5.length+v7.length+v8.length+v4.length=rows.length*P.cellsOf e:=by
   grind
  have htake:(setAt cur.toList (i*P.cellsOf e+k) (a.eval y).cells.toList).take (rows.length*P.cellsOf e)=v1++((v5++((a.eval y).cells.toList++v8))++v4):=by
   grind [List.append_assoc,List.length_append,List.take_left]
  have hfit2:i*P.cellsOf e+k+n<=cur.size:=by
   grind
  have hrun:=run_storeVar (P:=P) hn (v:=a.eval y) (q3.trans hl) q2 (o:=i*P.cellsOf e+k) hh hfit2
  have hnd:=h.mem.nodup r
  rw[hL,hLL]at hnd
  have hgn:g∉L1++((L5++(L7++L8))++L4):=(List.nodup_cons.1 hnd).1
  have hgM:g∉M.flatMap L:=by
   intro hb
   obtain⟨m',hm',hb'⟩:=List.mem_flatMap.1 hb
   exact hrM (h.mem.disj r m' g (by rw[hL];simp) hb'▸hm')
  have hheap:∀b,b≠g->(w.setRow g (setAt cur.toList (i*P.cellsOf e+k) (a.eval y).cells.toList).toArray).heap[b]? =w.heap[b]? :=λb hb=>heap_setRow hb
  have hS:∀b,S b->(w.setRow g (setAt cur.toList (i*P.cellsOf e+k) (a.eval y).cells.toList).toArray).heap[b]? =w.heap[b]? :=λb hb=>hheap b (by rintro rfl;exact(h.mem.owned r b (by rw[hL];simp)).2 hb)
  have hMd:∀b∈M.flatMap L,b∉L r:=by
   intro b hb hb'
   obtain⟨m',hm',hb2⟩:=List.mem_flatMap.1 hb
   exact hrM (h.mem.disj r m' b hb' hb2▸hm')
  have h4:=h.turn1 (w':=w.setRow g (setAt cur.toList (i*P.cellsOf e+k) (a.eval y).cells.toList).toArray) r M (.vec e (rows.set i (setAt cs k ds))) (g::(L1++((L5++(M.flatMap L++L8))++L4))) (.hdr (.slice (some ⟨g,0,none⟩) rows.length c)) hrM (λ_=>hj.symm) (λ_=>hj.symm)
   (λb _ hb _=>hheap b (by rintro rfl;exact hb (by rw[hL];simp))) (Nat.le_of_eq size_setRow.symm) ⟨rfl,rfl,rfl⟩ ?_ ?_ ?_
  ·refine Does.skip ?_ h4
   have:(Instr.storeAt t (a.eval x) (a.eval y)).run P w=.ok () (w.setRow g (setAt cur.toList (i*P.cellsOf e+k) (a.eval y).cells.toList).toArray):=by
    simp only[Instr.storeAt,hpx,Instr.sureAddr,Sem.run_bind,Sem.run_pure,Result.andThen_ok,hrun]
   simp only[execOp,ho,Sem.run_bind,this,Result.andThen_ok,Sem.run_pure]
  ·refine⟨.slice (some ⟨g,0,none⟩) rows.length c,by simp[updj],?_⟩
   have key:=own_close (P:=P) (S:=S) (rows:=rows.set i (setAt cs k ds)) (cap:=c) (L':=L1++((L5++(M.flatMap L++L8))++L4)) (setRow_heap w g cur (setAt cur.toList (i*P.cellsOf e+k) (a.eval y).cells.toList).toArray e _ hh) (by simpa using hcap) hcm ?_ ?_ ?_
   ·grind
   ·grind
   ·rw[List.length_set,hset,hnew]
    simp only[htake]
    have hgL:∀{l:List Nat},(∀b∈l,b∈L1++((L5++(L7++L8))++L4))->∀b∈l,(w.setRow g (setAt cur.toList (i*P.cellsOf e+k) (a.eval y).cells.toList).toArray).heap[b]? =w.heap[b]? :=λhl b hb=>hheap b (by rintro rfl;exact hgn (hl b hb))
    refine CsRel.append (CsRel.append (g4.stay hS (hgL (by intro b hb;simp[hb]))) (CsRel.append (CsRel.append (g8.stay hS (hgL (by intro b hb;simp[hb]))) ((hd.rel h.mem q1).stay hS (λb hb=>hheap b (by rintro rfl;exact hgM hb)))) (g5.stay hS (hgL (by intro b hb;simp[hb]))))) (g1.stay hS (hgL (by intro b hb;simp[hb])))
   grind
  ·have hnM:=nodup_flatMap h.mem hM
   rw[List.nodup_cons]at hnd⊢
   refine⟨?_,?_⟩
   ·grind
   ·have hsub:∀b,b∈L1++((L5++(L7++L8))++L4)->b∈L r:=λb hb=>by rw[hL,hLL];exact List.mem_cons_of_mem _ hb
    have hdd:∀b∈M.flatMap L,b∉L1++((L5++(L7++L8))++L4):=λb hb hb'=>hMd b hb (hsub b hb')
    have h0:=hnd.2
    simp only[List.nodup_append,List.mem_append,List.mem_flatMap]at h0 hdd hnM⊢
    refine⟨h0.1,⟨⟨h0.2.1.1.1,⟨hnM,h0.2.1.1.2.1.2.1,?_⟩,?_⟩,h0.2.1.2.1,?_⟩,?_⟩
    ·grind
    ·rintro b hb c hc rfl
     grind
    ·rintro b hb c hc rfl
     grind
    ·rintro b hb c hc rfl
     rcases hc with (hc|hc|hc)|hc
     ·grind
     ·grind
     ·grind
     grind
  ·intro b hb
   simp only[List.mem_cons,List.mem_append,List.mem_flatMap]at hb
   rw[hL,hLL]
   simp only[List.mem_cons,List.mem_append]
   rcases hb with hb|hb|((hb|hb|hb)|hb)
   ·exact .inl (.inl hb)
   ·exact .inl (.inr (.inl hb))
   ·grind
   ·exact .inr (.inl hb)
   ·grind
   grind
end
end Go.Proofs.YtmcbbifeekhmgaaGreatDoor.Pe
