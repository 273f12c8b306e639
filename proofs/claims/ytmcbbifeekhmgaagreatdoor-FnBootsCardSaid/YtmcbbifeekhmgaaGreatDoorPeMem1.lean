import Derived.Test.YtmcbbifeekhmgaaGreatDoorPeTurn
import Derived.Laws.CopyRow
import Derived.Laws.MakeOwn
namespace Go.Proofs.YtmcbbifeekhmgaaGreatDoor.Pe
open Go Go.RowKit
def Does (P:Program)(B:Begin)(N:Nat)(fr:Fr)(σ:St)(a:Act)(w:World)(o:Oper)(v:V):Prop:=
 ∀(K:Act->World->Prop)(Q:Exit->Act->World->Prop),(∀u w' j' L' S',Rel P B N fr σ j' L' S' a w'->VRel P j' w' S' v u->K (a.put o.dst u) w')->o.wp P a w K Q
def cell1:V->Bool
 |.agg _|.tup _|.undef=>false
 |_=>true
def cellsV:V->Option (List V)
 |.agg vs=>match vs.all cell1 with
  |true=>some vs
  |false=>none
 |.tup _=>none
 |.undef=>none
 |v=>some [v]
section
variable {P:Program} {B:Begin} {N:Nat} {fr:Fr} {σ:St} {j:Nat->Hd} {L:Nat->List Nat} {S:Nat->Prop} {a:Act} {w w':World} {o:Oper}
theorem Does.value {σ':St}{v:V}{u:Value}{j':Nat->Hd}{L':Nat->List Nat}{S':Nat->Prop}(hr:(execOp a.eval o).run P w=.ok (.value u) w')(h:Rel P B N fr σ' j' L' S' a w')(hv:VRel P j' w' S' v u):Does P B N fr σ' a w o v:=by
 intro K Q hK
 unfold Oper.wp
 rw[hr,Oper.upon_value]
 grind
theorem Does.skip {σ':St}{j':Nat->Hd}{L':Nat->List Nat}{S':Nat->Prop}(hr:(execOp a.eval o).run P w=.ok .skip w')(h:Rel P B N fr σ' j' L' S' a w'):Does P B N fr σ' a w o .undef:=by
 intro K Q hK
 unfold Oper.wp
 rw[hr,Oper.upon_skip]
 exact hK undef w' j' L' S' h VRel.undef
theorem cell1_one {x:V}{u:Value}(h:VRel P j w S x u)(hx:cell1 x=true):u.oneCell'=true:=by
 cases x<;>simp only[cell1,Bool.false_eq_true]at hx<;>simp only[VRel]at h
 ·exact h.one
 ·obtain⟨hd,_,hs⟩:=h
  rcases hs with ⟨_,_,_,rfl⟩|⟨g,n,c,A,cc,_,_,rfl,_⟩<;>rfl
 ·obtain⟨g,_,rfl⟩:=h;rfl
 ·obtain⟨g,n,c,_,_,rfl⟩:=h;rfl
 ·obtain⟨a,vals,rfl,_⟩:=h;rfl
 ·obtain⟨us,rfl,_⟩:=h;rfl
 ·obtain⟨hd,_,hs⟩:=h
  rcases hs with ⟨g,n,c,_,_,_,rfl⟩|⟨_,_,rfl⟩<;>rfl
 ·obtain⟨g,_,rfl⟩:=h;rfl
theorem cells_one {vs:List V}:∀{us:List Value},VsRel P j w S vs us->(∀x∈vs,cell1 x=true)->∀u∈us,u.oneCell'=true:=by
 induction vs with
 |nil=>intro us h _ u hu;simp only[VsRel]at h;subst h;simp at hu
 |cons x xs ih=>
  grind [VsRel,cell1_one]
theorem one_cells {u:Value}(h:u.oneCell'=true):u.cells=#[u]:=by
 cases u<;>first|rfl|simp[Value.oneCell']at h
theorem cellsV_rel {x:V}{vs:List V}{u:Value}(hx:cellsV x=some vs)(h:VRel P j w S x u):VsRel P j w S vs u.cells.toList/\(∀u'∈u.cells.toList,u'.oneCell'=true)/\u.cells.size=vs.length/\∀y∈vs,cell1 y=true:=by
 have one:cell1 x=true->vs=[x]->VsRel P j w S vs u.cells.toList/\(∀u'∈u.cells.toList,u'.oneCell'=true)/\u.cells.size=vs.length/\∀y∈vs,cell1 y=true:=by
  grind [cell1_one,one_cells,VsRel]
 cases x<;>simp only[cellsV,Option.some.injEq,reduceCtorEq]at hx
 case agg l=>
  split at hx<;>simp only[Option.some.injEq,reduceCtorEq]at hx
  subst hx
  rename_i hall
  rw[List.all_eq_true]at hall
  simp only[VRel]at h
  obtain⟨us,rfl,hs⟩:=h
  exact⟨by simpa[Value.cells]using hs,by simpa[Value.cells]using cells_one hs hall,by simpa[Value.cells]using hs.len,hall⟩
 all_goals exact one rfl hx.symm
theorem Rel.fresh (h:Rel P B N fr σ j L S a w){s:Nat}(hs:root σ s=.no):j s=.no/\L s=[]:=by
 have:=h.mem.roots s
 rw[hs]at this
 exact this
theorem Rel.newBox (h:Rel P B N fr σ j L S a w){s:Nat}(hs:root σ s=.no)(hm:B.m<=s){vs:List V}{us:List Value}(e:TypeId)(hv:VsRel P j w S vs us)(h1:∀u∈us,u.oneCell'=true):
  ∃j' L',Rel P B N fr ((s,.box vs)::σ) j' L' S a (w.alloc (.cells us.toArray e))/\VRel P j' (w.alloc (.cells us.toArray e)) S (.ptr s 0) (.pointer (some ⟨w.heap.size,0,none⟩)):=by
 obtain⟨hj,hL⟩:=h.fresh hs
 have hold:∀b,b<w.heap.size->(w.alloc (.cells us.toArray e)).heap[b]? =w.heap[b]? :=λb hb=>heap_alloc_old w _ b hb
 have hsz:(w.alloc (.cells us.toArray e)).heap.size=w.heap.size+1:=by show(w.heap.push _).size=_;simp
 have hnew:(w.alloc (.cells us.toArray e)).heap[w.heap.size]? =some (.cells us.toArray e):=heap_alloc_new w _
 refine⟨_,_,h.turn1 s [] (.box vs) [w.heap.size] (.blk w.heap.size) (by simp) (λhn=>absurd hj hn) (λhb=>absurd hb (by omega)) (λb hb _ _=>hold b hb) (by omega) ⟨rfl,rfl,rfl⟩ ?_ (by simp) (by simp[hsz]),?_⟩
 ·exact⟨w.heap.size,us.toArray,e,by simp[updj],hnew,by simpa using hv.same (λb hb=>⟨hb,hold b (h.mem.stab b hb)⟩) (updj_same (λhn=>absurd hj hn)),by simpa using h1,rfl⟩
 ·grind [VRel,updj]
theorem do_alloc (h:Rel P B N fr σ j L S a w){t:TypeId}(ho:o.op=.alloc t){z:List C}(hz:zOf P t=some z){s:Nat}(hs:root σ s=.no)(hm:B.m<=s):
  Does P B N fr ((s,.box (z.map .c))::σ) a w o (.ptr s 0):=by
 obtain⟨i,v,hi,hv,_,hok⟩:=zOf_some hz
 obtain⟨h1,_,h2,_⟩:=zOk_rel (P:=P) (w:=w) (S:=S) (j:=j) hok
 obtain⟨j',L',h3,h4⟩:=h.newBox hs hm t h1 h2
 refine Does.value (w':=w.alloc (.cells v.cells.toList.toArray t)) ?_ h3 h4
 simp[execOp,ho,Instr.alloc,zeroValue,typeInfo,hi,hv,newVar,newRow]
theorem do_box (h:Rel P B N fr σ j L S a w){t:TypeId}{x:Operand}(ho:o.op=.box t x){y:A}(hy:aOf P t x=some y){vs:List V}(hvs:cellsV (val fr y)=some vs){s:Nat}(hs:root σ s=.no)(hm:B.m<=s):
  Does P B N fr ((s,.box vs)::σ) a w o (.ptr s 0):=by
 obtain⟨h1,h2,_,_⟩:=cellsV_rel hvs (aOf_rel h hy)
 obtain⟨j',L',h3,h4⟩:=h.newBox hs hm t h1 h2
 refine Does.value (w':=w.alloc (.cells (a.eval x).cells.toList.toArray t)) ?_ h3 h4
 simp[execOp,ho,Instr.box,newVar,newRow]
def setAt {α:Type}(l:List α)(o:Nat)(xs:List α):List α:=l.take o++xs++l.drop (o+xs.length)
theorem heap_setRow {g:Nat}{cs:Array Value}{b:Nat}(h:b≠g):(w.setRow g cs).heap[b]? =w.heap[b]? :=by
 unfold World.setRow
 grind
theorem size_setRow {g:Nat}{cs:Array Value}:(w.setRow g cs).heap.size=w.heap.size:=by
 unfold World.setRow
 simp
theorem VsRel.take:∀{xs:List V}{us:List Value},VsRel P j w S xs us->∀n,VsRel P j w S (xs.take n) (us.take n)
 |[],us,h,n=>by simp only[VsRel]at h;subst h;simp only[List.take_nil,VsRel]
 |x::xs,us,h,n=>by
  simp only[VsRel]at h
  obtain⟨u,us',rfl,h1,h2⟩:=h
  cases n with
  |zero=>simp only[List.take_zero,VsRel]
  |succ n=>simp only[List.take_succ_cons,VsRel];exact⟨u,_,rfl,h1,h2.take n⟩
theorem VsRel.drop:∀{xs:List V}{us:List Value},VsRel P j w S xs us->∀n,VsRel P j w S (xs.drop n) (us.drop n)
 |[],us,h,n=>by simp only[VsRel]at h;subst h;simp only[List.drop_nil,VsRel]
 |x::xs,us,h,n=>by
  cases n with
  |zero=>simpa using h
  |succ n=>
   simp only[VsRel]at h
   obtain⟨u,us',rfl,h1,h2⟩:=h
   simpa using h2.drop n
theorem run_storeVar {t:TypeId}{n:Nat}(hn:sizeAt P t=some n){v:Value}(hv:v.cells.size=n)(h1:∀u∈v.cells.toList,u.oneCell'=true){g o:Nat}{cur:Array Value}{e:TypeId}(hg:w.heap[g]? =some (.cells cur e (0,0)))(hfit:o+n<=cur.size):
  (storeVar t ⟨g,o,none⟩ v).run P w=.ok () (w.setRow g (setAt cur.toList o v.cells.toList).toArray):=by
 unfold sizeAt at hn
 split at hn<;>simp only[Option.some.injEq,reduceCtorEq]at hn
 rename_i i hi
 have hlen:v.cells.toList.length=n:=by simpa using hv
 have:=run_storeCells_at (P:=P) g o e v.cells.toList 0 cur w hg (by omega) h1
 simp only[storeVar,sizeOf,typeInfo,Sem.run_bind,run_program,Result.andThen_ok,hi,Sem.run_pure,hn]
 rw[if_neg (by simpa using hv),this]
 simp only[setAt,Nat.add_zero,List.append_assoc]
theorem do_store (h:Rel P B N fr σ j L S a w){t:TypeId}{x y:Operand}(ho:o.op=.store t x y){n:Nat}(hn:sizeAt P t=some n){x' y':A}(hx:aOf P 0 x=some x')(hy:aOf P t y=some y'){r k:Nat}(hp:val fr x'=.ptr r k){cells:List V}(hr:root σ r=.box cells){vs:List V}(hvs:cellsV (val fr y')=some vs)(hl:vs.length=n)(hfit:k+n<=cells.length):
  Does P B N fr ((r,.box (setAt cells k vs))::σ) a w o .undef:=by
 obtain⟨h1,h2,h3,_⟩:=cellsV_rel hvs (aOf_rel h hy)
 have hpx:=aOf_rel h hx
 rw[hp]at hpx
 simp only[VRel]at hpx
 obtain⟨g,hjr,hpx⟩:=hpx
 obtain⟨g',cur,e,hg',hh,hc,hc1,hL⟩:=h.mem.boxAt hr
 obtain rfl:g'=g:=by rw[hjr]at hg';cases hg';rfl
 have hcl:cur.size=cells.length:=by simpa using hc.len
 have hrun:=run_storeVar (P:=P) hn (v:=a.eval y) (h3.trans hl) h2 (o:=k) hh (by omega)
 have hglt:g'<w.heap.size:=(Array.getElem?_eq_some_iff.1 hh).1
 have hself:updj j r (.blk g')=j:=by funext q;unfold updj;split<;>simp_all
 have h4:=h.turn1 (w':=w.setRow g' (setAt cur.toList k (a.eval y).cells.toList).toArray) r [] (.box (setAt cells k vs)) [g'] (.blk g') (by simp) (λ_=>hjr.symm) (λ_=>hjr.symm) (λb _ hb _=>heap_setRow (by rintro rfl;exact hb (by simp[hL]))) (Nat.le_of_eq size_setRow.symm) ⟨rfl,rfl,rfl⟩ ?_ (by simp) (by simp[hL])
 ·refine Does.skip ?_ h4
  have:(Instr.storeAt t (a.eval x) (a.eval y)).run P w=.ok () (w.setRow g' (setAt cur.toList k (a.eval y).cells.toList).toArray):=by
   simp only[Instr.storeAt,hpx,Instr.sureAddr,Sem.run_bind,Sem.run_pure,Result.andThen_ok,hrun]
  simp only[execOp,ho,Sem.run_bind,this,Result.andThen_ok,Sem.run_pure]
 ·have hS:∀b,S b->S b/\(w.setRow g' (setAt cur.toList k (a.eval y).cells.toList).toArray).heap[b]? =w.heap[b]? :=λb hb=>⟨hb,heap_setRow (by rintro rfl;exact(h.mem.owned r b (by simp[hL])).2 hb)⟩
  refine⟨g',_,e,by simp[updj],setRow_heap w g' cur _ e _ hh,?_,?_,rfl⟩
  ·rw[hself]
   have h5:VsRel P j w S (setAt cells k vs) (setAt cur.toList k (a.eval y).cells.toList):=by
    unfold setAt
    rw[List.append_assoc,List.append_assoc]
    refine VsRel.append (VsRel.append ?_ h1) (hc.take k)
    have:(a.eval y).cells.toList.length=vs.length:=h1.len
    rw[this]
    exact hc.drop _
   simpa using h5.same hS (λ_ _=>rfl)
  grind [setAt,List.mem_of_mem_take,List.mem_of_mem_drop]
end
end Go.Proofs.YtmcbbifeekhmgaaGreatDoor.Pe
