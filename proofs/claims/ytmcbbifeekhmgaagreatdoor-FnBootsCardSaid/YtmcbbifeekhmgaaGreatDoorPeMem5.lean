import Derived.Test.YtmcbbifeekhmgaaGreatDoorPeMem4
import Derived.Maps.AppendAt
namespace Go.Proofs.YtmcbbifeekhmgaaGreatDoor.Pe
open Go Go.RowKit
section
variable {P:Program} {B:Begin} {N:Nat} {fr:Fr} {σ:St} {j:Nat->Hd} {L:Nat->List Nat} {S:Nat->Prop} {a:Act} {w w':World} {o:Oper}
theorem toList_madeCells (z:Array Value):∀n,(madeCells z (n*z.size)).toList=repl z.toList n
 |0=>by simp[madeCells,repl]
 |n+1=>by
  have ih:=toList_madeCells z n
  simp only[madeCells,Array.toList_map,Array.toList_range]at ih⊢
  rw[Nat.add_mul,Nat.one_mul,Nat.add_comm,List.range_add,List.map_append,repl,<-ih,List.map_map]
  congr 1
  ·apply List.ext_getElem
   ·simp
   ·intro i h1 h2
    have hi:i<z.size:=by simpa using h1
    grind [Nat.mod_eq_of_lt]
  ·apply List.map_congr_left
   intro i _
   simp only[Function.comp,Nat.add_mod_left]
theorem repl_rel {z:List C}{vs:List Value}(h:CsRel P w S z vs []):∀n,CsRel P w S (repl z n) (repl vs n) []
 |0=>.nil
 |n+1=>by
  have:=CsRel.append (repl_rel h n) h
  grind [repl]
theorem replV_rel {z:List V}{vs:List Value}(h:VsRel P j w S z vs):∀n,VsRel P j w S (repl z n) (repl vs n)
 |0=>by simp only[repl,VsRel]
 |n+1=>by
  simp only[repl]
  exact VsRel.append (replV_rel h n) h
theorem repl_mem {α:Type}{z:List α}{x:α}:∀{n:Nat},x∈repl z n->x∈z
 |0,h=>by simp[repl]at h
 |n+1,h=>by
  simp only[repl,List.mem_append]at h
  exact h.elim id repl_mem
theorem repl_map {α β:Type}(f:α->β)(z:List α):∀n,(repl z n).map f=repl (z.map f) n
 |0=>rfl
 |n+1=>by simp[repl,repl_map f z n]
theorem flatten_replicate {α:Type}(z:List α):∀n,(List.replicate n z).flatten=repl z n
 |0=>rfl
 |n+1=>by simp[List.replicate_succ,repl,flatten_replicate z n]
theorem do_bs (h:Rel P B N fr σ j L S a w){t:TypeId}{n:Nat}{ps:Array (Nat×Operand)}(ho:o.op=.buildSlice t n ps){e:Nat}(he:elemOf P t=some e){z:List C}(hz:zOf P e=some z)(hn:n*z.length<=4096)(hz0:z.length≠0){qs:List (Nat×Nat×A)}
  (hq:partsOf P (λi=>some (i*z.length,z.length,e)) ps.toList=some qs) {vs:List V} (hf:fillV fr ((repl z n).map .c) qs=some vs) {cs:List C} {M:List Nat} (hcs:ToCs σ vs cs M) (hM:M.Nodup) {s:Nat} (hs:root σ s=.no) (hm:B.m<=s) (hsM:s∉M):
  Does P B N fr ((s,.vec e (chunks z.length n cs))::gones M σ) a w o (.sl s e 0 n):=by
 obtain⟨i,v,hi,hv,hsz,hok⟩:=zOf_some hz
 obtain⟨h1,_,h2,h3⟩:=zOk_rel (P:=P) (w:=w) (S:=S) (j:=j) hok
 have hzs:v.cells.size=z.length:=by simpa using h3
 have h1':VsRel P j w S ((repl z n).map .c) (repl v.cells.toList n):=by rw[repl_map];exact replV_rel h1 n
 obtain⟨ds,g1,g2,g3⟩:=fill_rel h (place:=λi=>some (i*z.length,z.length)) (by
  intro i off size t hi
  simp only[Option.some.injEq,Prod.mk.injEq]at hi⊢
  exact⟨hi.1,hi.2.1⟩) hq hf h1' (λu hu=>h2 u (repl_mem hu))
 have hcr:=hcs.rel h.mem g2
 have hvsl:vs.length=n*z.length:=by
  have:∀(qs:List (Nat×Nat×A))(cells vs:List V),fillV fr cells qs=some vs->vs.length=cells.length:=by
   intro qs
   induction qs with
   |nil=>intro cells vs hf;simp only[fillV,Option.some.injEq]at hf;subst hf;rfl
   |cons q qs ih=>
    intro cells vs hf
    obtain⟨off,size,x⟩:=q
    simp only[fillV]at hf
    split at hf<;>try simp only[reduceCtorEq]at hf
    split at hf<;>try simp only[reduceCtorEq]at hf
    rename_i hok
    simp only[Bool.and_eq_true,Nat.beq_eq,Nat.ble_eq]at hok
    grind [setAt_len]
  grind [List.length_map,repl_len]
 have hcl:cs.length=n*z.length:=hcs.len.symm.trans hvsl
 obtain⟨c1,c2,c3⟩:=chunks_spec hcl
 have hce:P.cellsOf e=z.length:=by simp[Program.cellsOf,hi,hsz]
 have hnl:n<=maxLen:=by
  have:n<=n*z.length:=Nat.le_mul_of_pos_right n (by omega)
  simp only[maxLen]
  omega
 obtain⟨j',L',h4,h5⟩:=h.newVec hs hm (e:=e) (rows:=chunks z.length n cs) (vals:=ds) (M:=M) (by rw[c1];exact hcr) hM (by rw[hce];exact c3) (by rw[c2];exact hnl) hsM
 rw[c2]at h5
 refine Does.value (u:=.slice (some ⟨w.heap.size,0,none⟩) n n) ?_ h4 h5
 have hu:(underlying t).run P w=.ok (.slice e) w:=by simp[underlying,elemOf_some he]
 have hsize:(sizeOf e).run P w=.ok z.length w:=by simp[sizeOf,typeInfo,hi,hsz]
 have hzv:(zeroValue e).run P w=.ok v w:=by simp[zeroValue,typeInfo,hi,hv]
 have hmade:(madeCells v.cells (n*z.length))=(repl v.cells.toList n).toArray:=by
  grind [Array.ext',toList_madeCells]
 have hmap:(ps.map λx=>(x.1,a.eval x.2)).toList=ps.toList.map λx=>(x.1,a.eval x.2):=by simp
 have hrun:(Instr.buildSlice t n (ps.map λx=>(x.1,a.eval x.2))).run P w=.ok (.slice (some ⟨w.heap.size,0,none⟩) n n) (w.alloc (.cells ds.toArray e)):=by
  by_cases hn0:n*z.length=0
  ·have hn00:n=0:=by rcases Nat.mul_eq_zero.1 hn0 with h|h;exact h;omega
   subst hn00
   have g1':Instr.fill (λi=>some (i*z.length,z.length)) #[] (ps.toList.map λx=>(x.1,a.eval x.2))=some ds.toArray:=by simpa[repl]using g1
   simp[Instr.buildSlice,hu,hsize,show Array.range 0=#[]from rfl,g1',newRow]
  ·have hmade':(Array.range (n*z.length)).map (λx=>v.cells[x%v.cells.size]!)=(repl v.cells.toList n).toArray:=hmade
   unfold Instr.buildSlice
   simp only[Sem.run_bind,hu,Result.andThen_ok,hsize]
   rw[if_neg (by omega)]
   simp only[Sem.run_bind,Sem.run_pure,Result.andThen_ok,hn0,if_false,hzv,hmade',hmap,g1,newRow,run_newObj]
   rfl
 simp only[execOp,ho,Sem.run_bind,hrun,Result.andThen_ok,Sem.run_pure]
theorem do_ms (h:Rel P B N fr σ j L S a w){t:TypeId}{x y:Operand}(ho:o.op=.makeSlice t x y){e:Nat}(he:elemOf P t=some e){z:List C}(hz:zOf P e=some z){x' y':A}(hx:aOf P 0 x=some x')(hy:aOf P 0 y=some y'){kl kc:IntKind}{l c:Int}(hl:val fr x'=.c (.i kl l))(hc:val fr y'=.c (.i kc c))
  (h0:0<=l) (hlc:l<=c) (hb:∀i,P.info? e=some i->(i.bytes:Int)*c<=281474976710656) (h63:c<=9223372036854775807) {s:Nat} (hs:root σ s=.no) (hm:B.m<=s):
  Does P B N fr ((s,.vec e (List.replicate l.toNat z))::σ) a w o (.sl s e 0 l.toNat):=by
 obtain⟨i,v,hi,hv,hsz,hok⟩:=zOf_some hz
 obtain⟨_,h1,h2,h3⟩:=zOk_rel (P:=P) (w:=w) (S:=S) (j:=j) hok
 have hxl:=aOf_rel h hx
 have hyl:=aOf_rel h hy
 rw[hl]at hxl
 rw[hc]at hyl
 simp only[VRel]at hxl hyl
 generalize hax:a.eval x=vx at*
 generalize hay:a.eval y=vy at*
 cases hxl
 cases hyl
 have hrun:=run_make (P:=P) w t e i v (elemOf_some he) hi hv kl kc l c h0 hlc (hb i hi) h63
 obtain⟨hj,hL⟩:=h.fresh hs
 have hzs:v.cells.size=z.length:=by simpa using h3
 have hce:P.cellsOf e=z.length:=by simp[Program.cellsOf,hi,hsz]
 have hold:∀b,b<w.heap.size->(w.alloc (.cells (madeCells v.cells (c.toNat*i.size)) e)).heap[b]? =w.heap[b]? :=λb hb=>heap_alloc_old w _ b hb
 have hsz2:(w.alloc (.cells (madeCells v.cells (c.toNat*i.size)) e)).heap.size=w.heap.size+1:=by show(w.heap.push _).size=_;simp
 have hnew:(w.alloc (.cells (madeCells v.cells (c.toNat*i.size)) e)).heap[w.heap.size]? =some (.cells (madeCells v.cells (c.toNat*i.size)) e):=heap_alloc_new w _
 have htl:(madeCells v.cells (c.toNat*i.size)).toList.take (l.toNat*z.length)=repl v.cells.toList l.toNat:=by
  rw[hsz,<-hzs,toList_madeCells]
  have:∀(n m:Nat)(u:List Value),n<=m->(repl u m).take (n*u.length)=repl u n:=by
   intro n
   induction n with
   |zero=>intro m u _;simp[repl]
   |succ n ih=>
    intro m u hnm
    cases m with
    |zero=>omega
    |succ m=>
     simp only[repl]
     rw[Nat.add_mul,Nat.one_mul,Nat.add_comm,List.take_length_add_append,ih m u (by omega)]
  grind
 have h4:=h.turn1 s [] (.vec e (List.replicate l.toNat z)) [w.heap.size] (.hdr (.slice (some ⟨w.heap.size,0,none⟩) l.toNat c.toNat)) (by simp) (λhn=>absurd hj hn) (λhb=>absurd hb (by omega)) (λb hb _ _=>hold b hb) (by omega) ⟨rfl,rfl,rfl⟩ ?_ (by simp) (by simp[hsz2])
 ·refine Does.value (u:=.slice (some ⟨w.heap.size,0,none⟩) l.toNat c.toNat) ?_ h4 ?_
  ·simp only[execOp,ho,hax,hay,Sem.run_bind,hrun,Result.andThen_ok,Sem.run_pure]
  ·simp only[VRel]
   exact⟨.slice (some ⟨w.heap.size,0,none⟩) l.toNat c.toNat,by unfold updj;rw[if_pos rfl],.inr ⟨w.heap.size,l.toNat,c.toNat,⟨w.heap.size,0,none⟩,c.toNat,rfl,by omega,rfl,by omega,by omega,.inl (by simp),λ_=>⟨rfl,rfl⟩⟩⟩
 ·refine⟨.slice (some ⟨w.heap.size,0,none⟩) l.toNat c.toNat,by unfold updj;rw[if_pos rfl],?_⟩
  have key:=own_close (P:=P) (S:=S) (rows:=List.replicate l.toNat z) (cap:=c.toNat) (L':=[]) hnew (by simp;omega) (by simp only[maxLen];omega) (by rw[size_madeCells,hce,hsz]) ?_ (by
   intro x0 hx0
   rw[List.eq_of_mem_replicate hx0,hce])
  ·simpa using key
  ·rw[flatten_replicate,List.length_replicate,hce,htl]
   exact(repl_rel h1 _).stay (λb hb=>hold b (h.mem.stab b hb)) (by simp)
end
end Go.Proofs.YtmcbbifeekhmgaaGreatDoor.Pe
