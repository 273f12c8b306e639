import Derived.Test.YtmcbbifeekhmgaaGreatDoorPeMem7
import Derived.Laws.CopyRow
namespace Go.Proofs.YtmcbbifeekhmgaaGreatDoor.Pe
open Go Go.RowKit
set_option linter.unusedVariables false
set_option linter.unusedSimpArgs false
section
variable {P:Program} {B:Begin} {N:Nat} {fr:Fr} {σ:St} {j:Nat->Hd} {L:Nat->List Nat} {S:Nat->Prop} {a:Act} {w:World} {o:Oper}
theorem do_slX (h:Rel P B N fr σ j L S a w){t:TypeId}{x:Operand}{lo hi:Option Operand}(ho:o.op=.slice t x lo hi none){e:Nat}(ht:P.underlying t=some (.slice e)){n:Nat}(hn:sizeAt P e=some n){x':A}(hx:aOf P t x=some x'){lo' hi':Option A}(hlo:optOf P lo=some lo')(hhi:optOf P hi=some hi')
  {r len l q:Nat} {rows:List (List C)} (hv:val fr x'=.sl r e 0 len) (hr:root σ r=.vec e rows) (hq:Bnd fr hi' len q) (hl:Bnd fr lo' 0 l) (h1:l<=q) (h2:q<=rows.length):Does P B N fr σ a w o (.sl r e l (q-l)):=by
 by_cases hle:q<=len
 ·have:=do_sl h ho ht hn hx hlo hhi hv hq hl h1 hle
  grind
 have hvx:=aOf_rel h hx
 rw[hv]at hvx
 simp only[VRel]at hvx
 obtain⟨hd,hj,hs⟩:=hvx
 obtain⟨hd',hj',hc⟩:=h.mem.vecAt hr
 rw[hj]at hj'
 cases hj'
 have hu:(underlying t).run P w=.ok (.slice e) w:=by simp[underlying,ht]
 rcases own_open hc with ⟨rfl,_,_⟩|⟨g',cap,cur,L',h1',hh,hcap,hcm,hsz,hcs,hL,hz⟩
 ·simp at h2
  omega
 ·rcases hs with ⟨h9,_⟩|⟨g,m,c,A,cc,h9,hm,hax,hlc,hcc,hA,h0⟩
  ·rw[h9]at h1'
   cases h1'
  ·rw[h9]at h1'
   cases h1'
   obtain⟨rfl,rfl⟩:=h0 rfl
   have hb:=run_sliceBounds (cap:=cc) h hlo hhi true hq hl h1 (by omega)
   have hsz2:=(sizeAt_some (w:=w) hn).2
   refine Does.value (j':=j) (L':=L) (S':=S) (u:=.slice (if cc=l then some ⟨g',0,none⟩else some ((⟨g',0,none⟩:Addr).add (l*n))) (q-l) (cc-l)) ?_ h ?_
   ·simp only[execOp,ho,Instr.sliceAt,Instr.slice,Sem.run_bind,hu,hax,Result.andThen_ok,hb,(sizeAt_some hn).1,Sem.run_pure,Option.map_none,Option.map_some]
   ·simp only[VRel]
    refine⟨_,hj,.inr ⟨g',rows.length,cc,if cc=l then⟨g',0,none⟩else(⟨g',0,none⟩:Addr).add (l*n),cc-l,h9,by omega,by split<;>rfl,by omega,by omega,?_,?_⟩⟩
    ·by_cases e1:cc=l
     ·right;omega
     ·left
      rw[if_neg e1,add_off,<-hsz2,Nat.zero_add]
    ·intro h3
     subst h3
     constructor
     ·split
      ·rfl
      ·simp[Addr.add]
     ·rfl
theorem zeroCells_flat (z:Array Value)(n:Nat):(Builtin.zeroCells z n).toList=(List.replicate n z.toList).flatten:=by
 unfold Builtin.zeroCells
 rw[Array.toList_map,Array.toList_range]
 induction n with
 |zero=>simp
 |succ n ih=>
  rw[Nat.succ_mul,List.range_add,List.map_append,ih,List.replicate_succ',List.flatten_append]
  congr 1
  apply List.ext_getElem
  ·simp
  ·intro i h1 h2
   have hi:i<z.size:=by simpa using h1
   simp only[List.map_map,List.getElem_map,List.getElem_range,Function.comp,List.flatten_cons,List.flatten_nil,List.append_nil,Array.getElem_toList]
   rw[show(n*z.size+i)%z.size=i by rw[Nat.add_comm,Nat.add_mul_mod_self_right,Nat.mod_eq_of_lt hi]]
   simp[hi]
theorem CsRel.rep {cs:List C}{vs:List Value}(h:CsRel P w S cs vs []):∀n,CsRel P w S (List.replicate n cs).flatten (List.replicate n vs).flatten []
 |0=>.nil
 |n+1=>by
  rw[List.replicate_succ,List.replicate_succ,List.flatten_cons,List.flatten_cons]
  simpa using CsRel.append (CsRel.rep h n) h
theorem do_clr (h:Rel P B N fr σ j L S a w){c:Call}{t:TypeId}{x:Operand}(ho:o.op=.call c)(hc1:c.callee=.builtin .clear)(hc2:c.args=#[x])(hc3:c.argTypes=#[t]){e:Nat}(he:elemOf P t=some e){z:List C}(hz:zOf P e=some z)(hz0:z.length≠0)
  {x':A} (hx:aOf P t x=some x') {r off len:Nat} {rows:List (List C)} (hv:val fr x'=.sl r e off len) (hr:root σ r=.vec e rows) (hle:off+len<=rows.length):
  Does P B N fr ((r,.vec e (rows.take off++(List.replicate len z++rows.drop (off+len))))::σ) a w o (.tup []):=by
 have hvx:=aOf_rel h hx
 rw[hv]at hvx
 simp only[VRel]at hvx
 obtain⟨hd,hj,hs⟩:=hvx
 obtain⟨hd',hj',hc⟩:=h.mem.vecAt hr
 rw[hj]at hj'
 cases hj'
 obtain⟨i,v,hi,hiz,hisz,hzo⟩:=zOf_some hz
 have hu:(underlying t).run P w=.ok (.slice e) w:=by simp[underlying,elemOf_some he]
 have hzv:(zeroValue e).run P w=.ok v w:=by simp[zeroValue,typeInfo,hi,hiz]
 have hcell:P.cellsOf e=z.length:=by simp[Program.cellsOf,hi,hisz]
 by_cases h0:len=0
 ·subst h0
  have hrow:rows.take off++(List.replicate 0 z++rows.drop (off+0))=rows:=by simp
  rw[hrow]
  have h4:=h.turn1 (w':=w) r [] (.vec e rows) (L r) (j r) (by simp) (λ_=>rfl) (λ_=>rfl) (λ_ _ _ _=>rfl) (Nat.le_refl _) ⟨rfl,rfl,rfl⟩ ?_ (h.mem.nodup r) (λb hb=>.inl hb)
  ·refine Does.value ?_ h4 (u:=.tuple #[]) (by simp only[VRel,VsRel];exact⟨[],rfl,rfl⟩)
   rcases hs with ⟨rfl,rfl,_,hax⟩|⟨g,m,c',A,cc,rfl,hm,hax,hlc,hcc,hA,_⟩
   ·simp[execOp,ho,resolve,hc1,invoke,builtin,hc2,hc3,hax,Builtin.clear_,hu]
   ·simp[execOp,ho,resolve,hc1,invoke,builtin,hc2,hc3,hax,Builtin.clear_,hu]
  grind [updj,RootRel]
 ·rcases hs with ⟨_,_,h9,_⟩|⟨g,m,c',A,cc,rfl,hm,hax,hlc,hcc,hA,_⟩
  ·omega
  obtain rfl:A=⟨g,off*P.cellsOf e,none⟩:=hA.resolve_right (by omega)
  rcases own_open hc with ⟨_,h1,_⟩|⟨g',cap,cur,L',h1,hh,hcap,hcm,hsz,hcs,hL,hzr⟩
  ·cases h1
  ·cases h1
   have hfl:rows.flatten=(rows.take off).flatten++(((rows.drop off).take len).flatten++(rows.drop (off+len)).flatten):=by
    grind [List.flatten_append,List.drop_drop,List.take_append_drop]
   rw[hfl]at hcs
   obtain⟨v1,v2,L1,L2,hcur,hLL,g1,g2⟩:=hcs.split
   obtain⟨v3,v4,L3,L4,rfl,rfl,g3,g4⟩:=g2.split
   have e1:v1.length=off*P.cellsOf e:=by
    rw[g1.len,flat_len (λx hx=>hzr x (List.mem_of_mem_take hx)),List.length_take]
    grind
   have e3:v3.length=len*P.cellsOf e:=by
    rw[g3.len,flat_len (λx hx=>hzr x (List.mem_of_mem_drop (List.mem_of_mem_take hx))),List.length_take,List.length_drop]
    grind
   obtain⟨_,hzc,hz1,hzl⟩:=zOk_rel (P:=P) (w:=w) (S:=S) (j:=j) hzo
   let zs:=(List.replicate len v.cells.toList).flatten
   have hzs:(Builtin.zeroCells v.cells len).toList=zs:=zeroCells_flat _ _
   have hzsl:zs.length=len*P.cellsOf e:=by
    grind [List.length_flatten,List.map_replicate,List.sum_replicate_nat]
   have hzs1:∀u∈zs,u.oneCell'=true:=by
    grind [List.mem_flatten]
   have hcurl:cur.toList=v1++(v3++(v4++cur.toList.drop (rows.length*P.cellsOf e))):=by
    grind [List.take_append_drop,List.append_assoc]
   have hsetc:setAt cur.toList (off*P.cellsOf e) zs=v1++(zs++(v4++cur.toList.drop (rows.length*P.cellsOf e))):=by
    grind [setAt_mid]
   have hcsz:cur.toList.length=c'*P.cellsOf e:=by simpa using hsz
   have hT:(cur.toList.take (rows.length*P.cellsOf e)).length=rows.length*P.cellsOf e:=by
    grind [List.length_take,Nat.min_eq_left,Nat.mul_le_mul_right]
   have hlen4:v1.length+v3.length+v4.length=rows.length*P.cellsOf e:=by
    grind
   have htake:(setAt cur.toList (off*P.cellsOf e) zs).take (rows.length*P.cellsOf e)=v1++(zs++v4):=by
    grind
   have hfit:off*P.cellsOf e+0+zs.length<=cur.size:=by
    grind
   have hst:=run_storeCells_at (P:=P) g (off*P.cellsOf e) e zs 0 cur w hh hfit hzs1
   rw[Nat.add_zero]at hst
   have hst':(storeCells ⟨g,off*P.cellsOf e,none⟩ zs 0).run P w=.ok () (w.setRow g (setAt cur.toList (off*P.cellsOf e) zs).toArray):=hst
   have hnd:=h.mem.nodup r
   rw[hL,hLL]at hnd
   have hgn:g∉L1++(L3++L4):=(List.nodup_cons.1 hnd).1
   have hheap:∀b,b≠g->(w.setRow g (setAt cur.toList (off*P.cellsOf e) zs).toArray).heap[b]? =w.heap[b]? :=λb hb=>heap_setRow hb
   have hS:∀b,S b->(w.setRow g (setAt cur.toList (off*P.cellsOf e) zs).toArray).heap[b]? =w.heap[b]? :=λb hb=>hheap b (by rintro rfl;exact(h.mem.owned r b (by rw[hL];simp)).2 hb)
   have hlenr:(rows.take off++(List.replicate len z++rows.drop (off+len))).length=rows.length:=by
    grind [List.length_append,List.length_take,List.length_replicate,List.length_drop]
   have h4:=h.turn1 (w':=w.setRow g (setAt cur.toList (off*P.cellsOf e) zs).toArray) r [] (.vec e (rows.take off++(List.replicate len z++rows.drop (off+len)))) (g::(L1++([]++L4))) (.hdr (.slice (some ⟨g,0,none⟩) rows.length c')) (by simp) (λ_=>hj.symm) (λ_=>hj.symm)
    (λb _ hb _=>hheap b (by rintro rfl;exact hb (by rw[hL];simp))) (Nat.le_of_eq size_setRow.symm) ⟨rfl,rfl,rfl⟩ ?_ ?_ ?_
   ·refine Does.value ?_ h4 (u:=.tuple #[]) (by simp only[VRel,VsRel];exact⟨[],rfl,rfl⟩)
    obtain⟨q,rfl⟩:∃q,len=q+1:=⟨len-1,by omega⟩
    simp only[execOp,ho,resolve,hc1,invoke,builtin,hc2,hc3,hax,Builtin.clear_,hu,Sem.run_bind,Sem.run_pure,Result.andThen_ok,List.map_toArray,List.map_cons,List.map_nil,hzv,hzs,hst']
    simp[hzs,hst',hzv,hu]
   ·refine⟨.slice (some ⟨g,0,none⟩) rows.length c',by simp[updj],?_⟩
    have key:=own_close (P:=P) (S:=S) (rows:=rows.take off++(List.replicate len z++rows.drop (off+len))) (cap:=c') (L':=L1++([]++L4)) (setRow_heap w g cur (setAt cur.toList (off*P.cellsOf e) zs).toArray e _ hh) (by rw[hlenr];exact hcap) hcm ?_ ?_ ?_
    ·grind
    ·grind
    ·rw[hlenr]
     simp only[htake,List.flatten_append]
     have hgL:∀{l:List Nat},(∀b∈l,b∈L1++(L3++L4))->∀b∈l,(w.setRow g (setAt cur.toList (off*P.cellsOf e) zs).toArray).heap[b]? =w.heap[b]? :=λhl b hb=>hheap b (by rintro rfl;exact hgn (hl b hb))
     exact CsRel.append (CsRel.append (g4.stay hS (hgL (by intro b hb;simp[hb]))) ((CsRel.rep hzc len).stay hS (by simp))) (g1.stay hS (hgL (by intro b hb;simp[hb])))
    grind
   ·grind
   grind
end
end Go.Proofs.YtmcbbifeekhmgaaGreatDoor.Pe
