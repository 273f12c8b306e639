import Derived.Test.YtmcbbifeekhmgaaGreatDoorPeMem2
import Derived.MapKept
namespace Go.Proofs.YtmcbbifeekhmgaaGreatDoor.Pe
open Go Go.RowKit
def mget:List (ByteArray×Int)->ByteArray->Int
 |[],_=>0
 |p::es,k=>if k=p.1 then p.2 else mget es k
def mhas:List (ByteArray×Int)->ByteArray->Bool
 |[],_=>false
 |p::es,k=>decide (k=p.1)||mhas es k
theorem findNow_mp {k:ByteArray}:∀(l:List MapEntry)(es:List (ByteArray×Int))(i:Nat),l.map (λe=>(e.key,e.val))=es.map (λp=>(Value.string p.1,Value.int .i64 p.2))->
  (Instr.findNow .string (.string k) l i=some none/\mhas es k=false/\mget es k=0)\/∃q,Instr.findNow .string (.string k) l i=some (some (q,.int .i64 (mget es k)))/\mhas es k=true
 |[],es,i,h=>by
  cases es with
  |nil=>exact .inl ⟨rfl,rfl,rfl⟩
  |cons p es=>cases h
 |e::l,es,i,h=>by
  cases es with
  |nil=>cases h
  |cons p es=>
   simp only[List.map_cons,List.cons.injEq,Prod.mk.injEq]at h
   obtain⟨⟨h1,h2⟩,h3⟩:=h
   have ih:=findNow_mp (k:=k) l es (i+1) h3
   have hs:Instr.sameNow .string (.string k) e.key=some (k==p.1):=by rw[h1];rfl
   by_cases hk:k=p.1
   ·have hb:(k==p.1)=true:=(MapKept.bytes_beq k p.1).2 hk
    rw[hb]at hs
    refine .inr ⟨i,?_,?_⟩
    ·simp only[Instr.findNow,hs,mget,if_pos hk,h2]
    ·simp only[mhas,hk,decide_true,Bool.true_or]
   ·have hb:(k==p.1)=false:=by
     cases hq:k==p.1 with
     |false=>rfl
     |true=>exact absurd ((MapKept.bytes_beq k p.1).1 hq) hk
    rw[hb]at hs
    rcases ih with ⟨a,b,c⟩|⟨q,a,b⟩
    ·exact .inl ⟨by simp only[Instr.findNow,hs,a],by simp only[mhas,hk,b,decide_false,Bool.or_self],by simp only[mget,if_neg hk,c]⟩
    ·exact .inr ⟨q,by simp only[Instr.findNow,hs,a,mget,if_neg hk],by simp only[mhas,b,Bool.or_true]⟩
section
variable {P:Program} {B:Begin} {N:Nat} {fr:Fr} {σ:St} {j:Nat->Hd} {L:Nat->List Nat} {S:Nat->Prop} {a:Act} {w:World} {o:Oper}
theorem mapOk_some {t k e:Nat}(h:mapOk P t=some (k,e)):P.underlying t=some (.map k e)/\P.underlying k=some .string/\∀w:World,(zeroValue e).run P w=.ok (.int .i64 0) w:=by
 unfold mapOk at h
 split at h<;>try simp only[reduceCtorEq]at h
 rename_i k' e' hu
 split at h<;>try simp only[reduceCtorEq]at h
 rename_i hk he
 split at h<;>try simp only[reduceCtorEq]at h
 rename_i i hi
 split at h<;>try simp only[reduceCtorEq]at h
 rename_i n hz
 split at h<;>simp only[Option.some.injEq,Prod.mk.injEq,reduceCtorEq]at h
 rename_i hn
 subst hn
 obtain⟨rfl,rfl⟩:=h
 exact⟨hu,hk,λw=>by simp[zeroValue,typeInfo,hi,hz]⟩
theorem Mem.mpAt (h:Mem P σ j L S w){r:Nat}{es:List (ByteArray×Int)}(hr:root σ r=.mp es):∃g es' clk,j r=.blk g/\w.heap[g]? =some (.map es' clk)/\MpEq es' es/\L r=[g]:=by
 have:=h.roots r
 rw[hr]at this
 exact this
theorem do_mk (h:Rel P B N fr σ j L S a w){t:Nat}(ho:o.op=.makeMap t none){s:Nat}(hs:root σ s=.no)(hm:B.m<=s):Does P B N fr ((s,.mp [])::σ) a w o (.mp s):=by
 obtain⟨hj,hL⟩:=h.fresh hs
 have hold:∀b,b<w.heap.size->(w.alloc (.map #[] 0)).heap[b]? =w.heap[b]? :=λb hb=>heap_alloc_old w _ b hb
 have hsz:(w.alloc (.map #[] 0)).heap.size=w.heap.size+1:=by show(w.heap.push _).size=_;simp
 have hnew:(w.alloc (.map #[] 0)).heap[w.heap.size]? =some (.map #[] 0):=heap_alloc_new w _
 have h4:=h.turn1 (w':=w.alloc (.map #[] 0)) s [] (.mp []) [w.heap.size] (.blk w.heap.size) (by simp) (λhn=>absurd hj hn) (λhb=>absurd hb (by omega)) (λb hb _ _=>hold b hb) (by omega) ⟨rfl,rfl,rfl⟩ ⟨w.heap.size,#[],0,by simp[updj],hnew,rfl,rfl⟩ (by simp) (by simp[hsz])
 refine Does.value (u:=.map (some w.heap.size)) ?_ h4 ?_
 ·have hrun:(Instr.makeMap t none).run P w=.ok (.map (some w.heap.size)) (w.alloc (.map #[] 0)):=rfl
  simp only[execOp,ho,Option.map_none,Sem.run_bind,hrun,Result.andThen_ok,Sem.run_pure]
 grind [VRel,updj]
theorem do_mu (h:Rel P B N fr σ j L S a w){t k e:Nat}{m x y:Operand}(ho:o.op=.mapUpdate t m x y\/o.op=.insert t m x y)(ht:mapOk P t=some (k,e)){m' x' y':A}(hm:aOf P 0 m=some m')(hx:aOf P k x=some x')(hy:aOf P e y=some y')
  {r:Nat} {es:List (ByteArray×Int)} {q:ByteArray} {v:Int} (gm:val fr m'=.mp r) (hr:root σ r=.mp es) (gx:val fr x'=.c (.s q)) (gy:val fr y'=.c (.i .i64 v)) (hn:mhas es q=false):Does P B N fr ((r,.mp (es++[(q,v)]))::σ) a w o .undef:=by
 obtain⟨hu,hk,_⟩:=mapOk_some ht
 have hpm:=aOf_rel h hm
 rw[gm]at hpm
 simp only[VRel]at hpm
 obtain⟨g,hjr,hpm⟩:=hpm
 have hpx:=aOf_rel h hx
 rw[gx]at hpx
 simp only[VRel]at hpx
 have hpy:=aOf_rel h hy
 rw[gy]at hpy
 simp only[VRel]at hpy
 obtain⟨g',es',clk,hg',hh,he,hL⟩:=h.mem.mpAt hr
 obtain rfl:g'=g:=by rw[hjr]at hg';cases hg';rfl
 have ex:a.eval x=.string q:=by
  generalize a.eval x=u at hpx
  cases hpx
  rfl
 have ey:a.eval y=.int .i64 v:=by
  generalize a.eval y=u at hpy
  cases hpy
  rfl
 have hf:Instr.findNow .string (.string q) es'.toList 0=some none:=by
  rcases findNow_mp (k:=q) es'.toList es 0 he with ⟨h1,_⟩|⟨_,_,h2⟩
  ·exact h1
  grind
 have hrun:(Instr.mapUpdate t (a.eval m) (a.eval x) (a.eval y)).run P w=.ok () { w with heap:=w.heap.setIfInBounds g' (.map (es'.push { key:=.string q,val:=.int .i64 v,born:=clk }) (clk+1)) }:=by
  rw[hpm,ex,ey]
  simp[Instr.mapUpdate,run_underlying hu,MapKept.run_getObj_map hh,MapKept.run_checkKey (k:=.string q) hk (by simp[MapKept.IsKey]),MapKept.run_findKey hk hf,MapKept.run_setObj_map _ hh,Result.andThen]
 have hglt:g'<w.heap.size:=(Array.getElem?_eq_some_iff.1 hh).1
 have hset:=MapKept.heap_set (w:=w) (o':=.map (es'.push { key:=.string q,val:=.int .i64 v,born:=clk }) (clk+1)) hh
 have hself:updj j r (.blk g')=j:=by funext q;unfold updj;split<;>simp_all
 have h4:=h.turn1 (w':={ w with heap:=w.heap.setIfInBounds g' (.map (es'.push { key:=.string q,val:=.int .i64 v,born:=clk }) (clk+1)) }) r [] (.mp (es++[(q,v)])) [g'] (.blk g') (by simp) (λ_=>hjr.symm) (λ_=>hjr.symm) (λb _ hb _=>hset.2 b (by rintro rfl;exact hb (by simp[hL]))) (by simp) ⟨rfl,rfl,rfl⟩ ?_ (by simp) (by simp[hL])
 ·refine Does.skip ?_ h4
  rcases ho with ho|ho<;>simp only[execOp,ho,Sem.run_bind,hrun,Result.andThen_ok,Sem.run_pure]
 ·refine⟨g',_,_,by simp[updj],hset.1,?_,rfl⟩
  grind [MpEq,Array.toList_push]
theorem do_lk (h:Rel P B N fr σ j L S a w){t k e:Nat}{m x:Operand}(ho:o.op=.lookup t m x false)(ht:mapOk P t=some (k,e)){m' x':A}(hm:aOf P 0 m=some m')(hx:aOf P k x=some x')
  {r:Nat} {es:List (ByteArray×Int)} {q:ByteArray} (gm:val fr m'=.mp r) (hr:root σ r=.mp es) (gx:val fr x'=.c (.s q)):Does P B N fr σ a w o (.c (.i .i64 (mget es q))):=by
 obtain⟨hu,hk,hz⟩:=mapOk_some ht
 have hpm:=aOf_rel h hm
 rw[gm]at hpm
 simp only[VRel]at hpm
 obtain⟨g,hjr,hpm⟩:=hpm
 have hpx:=aOf_rel h hx
 rw[gx]at hpx
 simp only[VRel]at hpx
 obtain⟨g',es',clk,hg',hh,he,hL⟩:=h.mem.mpAt hr
 obtain rfl:g'=g:=by rw[hjr]at hg';cases hg';rfl
 have ex:a.eval x=.string q:=by
  generalize a.eval x=u at hpx
  cases hpx
  rfl
 refine Does.value (u:=.int .i64 (mget es q)) (w':=w) ?_ h (by simp only[VRel];exact .i _ _)
 have hrun:(Instr.lookup t (a.eval m) (a.eval x) false).run P w=.ok (.int .i64 (mget es q)) w:=by
  rw[hpm,ex]
  rcases findNow_mp (k:=q) es'.toList es 0 he with ⟨h1,_,h3⟩|⟨i,h1,_⟩
  ·simp[Instr.lookup,run_underlying hu,MapKept.run_getObj_map hh,MapKept.run_checkKey (k:=.string q) hk (by simp[MapKept.IsKey]),MapKept.run_findKey hk h1,hz,h3,Result.andThen]
  ·simp[Instr.lookup,run_underlying hu,MapKept.run_getObj_map hh,MapKept.run_checkKey (k:=.string q) hk (by simp[MapKept.IsKey]),MapKept.run_findKey hk h1,Result.andThen]
 simp only[execOp,ho,Sem.run_bind,hrun,Result.andThen_ok,Sem.run_pure]
end
end Go.Proofs.YtmcbbifeekhmgaaGreatDoor.Pe
