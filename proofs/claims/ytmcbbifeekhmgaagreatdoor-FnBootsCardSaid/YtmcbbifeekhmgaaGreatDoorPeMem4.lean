import Derived.Test.YtmcbbifeekhmgaaGreatDoorPeMem3
import Derived.Laws.Tables
namespace Go.Proofs.YtmcbbifeekhmgaaGreatDoor.Pe
open Go Go.RowKit
def fillV (fr:Fr):List V->List (Nat×Nat×A)->Option (List V)
 |cells,[]=>some cells
 |cells,(off,size,x)::ps=>match cellsV (val fr x)with
  |some vs=>match Nat.beq vs.length size&&Nat.ble (off+size) cells.length with
   |true=>fillV fr (setAt cells off vs) ps
   |false=>none
  |none=>none
def chunks {α:Type}(z:Nat):Nat->List α->List (List α)
 |0,_=>[]
 |n+1,l=>l.take z::chunks z n (l.drop z)
theorem chunks_spec {α:Type}{z:Nat}:∀{n:Nat}{l:List α},l.length=n*z->(chunks z n l).flatten=l/\(chunks z n l).length=n/\∀x∈chunks z n l,x.length=z
 |0,l,h=>by
  grind [List.eq_nil_of_length_eq_zero,chunks]
 |n+1,l,h=>by
  rw[Nat.add_mul,Nat.one_mul]at h
  obtain⟨h1,h2,h3⟩:=chunks_spec (z:=z) (n:=n) (l:=l.drop z) (by rw[List.length_drop];omega)
  refine⟨by simp[chunks,h1],by simp[chunks,h2],?_⟩
  intro x hx
  simp only[chunks,List.mem_cons]at hx
  rcases hx with rfl|hx
  ·rw[List.length_take];omega
  ·exact h3 x hx
def repl {α:Type}(z:List α):Nat->List α
 |0=>[]
 |n+1=>z++repl z n
theorem repl_len {α:Type}{z:List α}:∀{n:Nat},(repl z n).length=n*z.length
 |0=>by simp[repl]
 |n+1=>by rw[repl,List.length_append,repl_len,Nat.add_mul];omega
section
variable {P:Program} {B:Begin} {N:Nat} {fr:Fr} {σ:St} {j:Nat->Hd} {L:Nat->List Nat} {S:Nat->Prop} {a:Act} {w w':World} {o:Oper}
theorem setAt_step {α:Type}(x z:List α)(y u:α)(us:List α){m:Nat}(hm:x.length=m):setAt (x++u::z) (m+1) us=setAt (x++y::z) m (u::us):=by
 subst hm
 unfold setAt
 rw[List.take_length_add_append,List.take_left,List.length_cons,Nat.add_assoc,List.drop_length_add_append,List.drop_length_add_append,Nat.add_comm 1 us.length]
 simp
theorem foldl_set (off:Nat):∀(us:List Value)(k:Nat)(cells:Array Value),off+k+us.length<=cells.size->((us.zipIdx k).foldl (λcs (x:Value×Nat)=>cs.setIfInBounds (off+x.2) x.1) cells)=(setAt cells.toList (off+k) us).toArray
 |[],k,cells,_=>by simp[setAt]
 |u::us,k,cells,h=>by
  simp only[List.length_cons]at h
  simp only[List.zipIdx_cons,List.foldl_cons]
  rw[foldl_set off us (k+1) _ (by simp;omega)]
  congr 1
  have hk:off+k<cells.toList.length:=by simp;omega
  rw[Array.toList_setIfInBounds,List.set_eq_take_append_cons_drop,if_pos hk]
  have e1:(cells.toList.take (off+k)).length=off+k:=by rw[List.length_take];omega
  have e2:cells.toList=cells.toList.take (off+k)++cells.toList[off+k]::cells.toList.drop (off+k+1):=by
   rw[List.getElem_cons_drop,List.take_append_drop]
  grind [setAt_step]
theorem fill_one {place:Nat->Option (Nat×Nat)}{i off size:Nat}(hp:place i=some (off,size)){v:Value}{cells:Array Value}{rest:List (Nat×Value)}(h1:v.cells.size=size)(h2:off+size<=cells.size):
  Instr.fill place cells ((i,v)::rest)=Instr.fill place (setAt cells.toList off v.cells.toList).toArray rest:=by
 have hf:=foldl_set off v.cells.toList 0 cells (by simp;omega)
 simp only[Instr.fill,hp]
 rw[if_neg (by simp;omega)]
 congr 1
 have:v.cells.zipIdx.foldl (λcs (x:Value×Nat)=>cs.setIfInBounds (off+x.2) x.1) cells=(v.cells.toList.zipIdx 0).foldl (λcs (x:Value×Nat)=>cs.setIfInBounds (off+x.2) x.1) cells:=by
  rw[<-Array.foldl_toList]
  congr 1
  simp
 rw[<-this]at hf
 exact hf
theorem setAt_rel {cells vs:List V}{us ds:List Value}(h1:VsRel P j w S cells us)(h2:VsRel P j w S vs ds){k:Nat}:VsRel P j w S (setAt cells k vs) (setAt us k ds):=by
 unfold setAt
 rw[h2.len]
 exact VsRel.append (h1.drop _) (VsRel.append h2 (h1.take k))
theorem fill_rel (h:Rel P B N fr σ j L S a w){place:Nat->Option (Nat×Nat)}{place3:Nat->Option (Nat×Nat×Nat)}(hpl:∀i off size t,place3 i=some (off,size,t)->place i=some (off,size)):∀{ps:List (Nat×Operand)}{qs:List (Nat×Nat×A)}{cells vs:List V}{us:List Value},partsOf P place3 ps=some qs->fillV fr cells qs=some vs->
  VsRel P j w S cells us->(∀u∈us,u.oneCell'=true)->∃ds,Instr.fill place us.toArray (ps.map λx=>(x.1,a.eval x.2))=some ds.toArray/\VsRel P j w S vs ds/\∀u∈ds,u.oneCell'=true
 |[],qs,cells,vs,us,hq,hf,hc,h1=>by
  simp only[partsOf,Option.some.injEq]at hq
  subst hq
  simp only[fillV,Option.some.injEq]at hf
  subst hf
  exact⟨us,rfl,hc,h1⟩
 |(i,x)::ps,qs,cells,vs,us,hq,hf,hc,h1=>by
  simp only[partsOf]at hq
  split at hq<;>try simp only[reduceCtorEq]at hq
  rename_i off size t as hp has
  split at hq<;>simp only[Option.some.injEq,reduceCtorEq]at hq
  rename_i b hb
  subst hq
  simp only[fillV]at hf
  split at hf<;>try simp only[reduceCtorEq]at hf
  rename_i l hl
  split at hf<;>try simp only[reduceCtorEq]at hf
  rename_i hok
  simp only[Bool.and_eq_true,Nat.beq_eq,Nat.ble_eq]at hok
  obtain⟨q1,q2,q3,_⟩:=cellsV_rel hl (aOf_rel h hb)
  have hcl:=hc.len
  have hone:∀u∈setAt us off (a.eval x).cells.toList,u.oneCell'=true:=by
   grind [setAt,List.mem_of_mem_take,List.mem_of_mem_drop]
  obtain⟨ds,g1,g2,g3⟩:=fill_rel h hpl has hf (setAt_rel hc q1) hone
  refine⟨ds,?_,g2,g3⟩
  rw[List.map_cons,fill_one (hpl i off size t hp) (q3.trans hok.1) (by simp;omega)]
  simpa using g1
theorem do_build (h:Rel P B N fr σ j L S a w){t:TypeId}{ps:Array (Nat×Operand)}(ho:o.op=.build t ps){z:List C}(hz:zOf P t=some z){fs:Array Field}(hu:P.underlying t=some (.struct fs)){pl:List (Nat×Nat)}(hpl:placesOf P fs.toList=some pl){qs:List (Nat×Nat×A)}
  (hq:partsOf P (λi=>match pl[i]?,fs[i]? with|some (off,n),some f=>some (off,n,f.type)|_,_=>none) ps.toList=some qs) {vs:List V} (hf:fillV fr (z.map .c) qs=some vs):Does P B N fr σ a w o (.agg vs):=by
 obtain⟨i,v,hi,hv,_,hok⟩:=zOf_some hz
 obtain⟨h1,_,h2,_⟩:=zOk_rel (P:=P) (w:=w) (S:=S) (j:=j) hok
 obtain⟨ds,g1,g2,g3⟩:=fill_rel h (place:=(pl.toArray[·]?)) (by
  intro i off size t hi
  split at hi<;>simp only[Option.some.injEq,reduceCtorEq,Prod.mk.injEq]at hi
  rename_i off' n' f e1 e2
  obtain⟨rfl,rfl,_⟩:=hi
  simpa using e1) hq hf h1 h2
 refine Does.value (j':=j) (L':=L) (S':=S) (u:=.agg ds.toArray) ?_ h (by simp only[VRel];exact⟨ds,rfl,g2⟩)
 have hb:P.built t (ps.map λx=>(x.1,a.eval x.2)).toList=some ds.toArray:=by
  unfold Program.built
  unfold placesOf at hpl
  simp only[hi,hu,hv,hpl]
  simpa using g1
 have:=run_build (P:=P) w t (ps.map λx=>(x.1,a.eval x.2)) ds.toArray hb
 simp only[execOp,ho,Sem.run_bind,this,Result.andThen_ok,Sem.run_pure]
theorem Rel.newVec (h:Rel P B N fr σ j L S a w){s:Nat}(hs:root σ s=.no)(hm:B.m<=s){e:Nat}{rows:List (List C)}{vals:List Value}{M:List Nat}(hcs:CsRel P w S rows.flatten vals (M.flatMap L))(hM:M.Nodup)(hz:∀x∈rows,x.length=P.cellsOf e)(hmax:rows.length<=maxLen)(hsM:s∉M):
  ∃j' L',Rel P B N fr ((s,.vec e rows)::gones M σ) j' L' S a (w.alloc (.cells vals.toArray e))/\VRel P j' (w.alloc (.cells vals.toArray e)) S (.sl s e 0 rows.length) (.slice (some ⟨w.heap.size,0,none⟩) rows.length rows.length):=by
 obtain⟨hj,hL⟩:=h.fresh hs
 have hold:∀b,b<w.heap.size->(w.alloc (.cells vals.toArray e)).heap[b]? =w.heap[b]? :=λb hb=>heap_alloc_old w _ b hb
 have hsz:(w.alloc (.cells vals.toArray e)).heap.size=w.heap.size+1:=by show(w.heap.push _).size=_;simp
 have hnew:(w.alloc (.cells vals.toArray e)).heap[w.heap.size]? =some (.cells vals.toArray e):=heap_alloc_new w _
 have hvl:vals.length=rows.length*P.cellsOf e:=by rw[hcs.len,flat_len hz]
 have hML:∀b∈M.flatMap L,b<w.heap.size:=by
  intro b hb
  obtain⟨m,_,hb'⟩:=List.mem_flatMap.1 hb
  exact(h.mem.owned m b hb').1
 refine⟨_,_,h.turn1 s M (.vec e rows) (w.heap.size::M.flatMap L) (.hdr (.slice (some ⟨w.heap.size,0,none⟩) rows.length rows.length)) hsM (λhn=>absurd hj hn) (λhb=>absurd hb (by omega)) (λb hb _ _=>hold b hb) (by omega) ⟨rfl,rfl,rfl⟩ ?_ ?_ ?_,?_⟩
 ·refine⟨_,by unfold updj;rw[if_pos rfl],own_close hnew (Nat.le_refl _) hmax (by simp[hvl]) ?_ hz⟩
  rw[List.toList_toArray,<-hvl,List.take_length]
  exact hcs.stay (λb hb=>hold b (h.mem.stab b hb)) (λb hb=>hold b (hML b hb))
 ·rw[List.nodup_cons]
  exact⟨λhb=>absurd (hML _ hb) (by omega),nodup_flatMap h.mem hM⟩
 ·grind
 ·simp only[VRel]
  refine⟨.slice (some ⟨w.heap.size,0,none⟩) rows.length rows.length,by unfold updj;rw[if_pos rfl],.inr ⟨w.heap.size,rows.length,rows.length,⟨w.heap.size,0,none⟩,rows.length,rfl,by omega,rfl,Nat.le_refl _,by omega,.inl (by simp),λ_=>⟨rfl,rfl⟩⟩⟩
end
end Go.Proofs.YtmcbbifeekhmgaaGreatDoor.Pe
