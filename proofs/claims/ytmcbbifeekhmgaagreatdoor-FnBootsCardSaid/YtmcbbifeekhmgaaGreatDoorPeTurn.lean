import Derived.Test.YtmcbbifeekhmgaaGreatDoorPePure2
namespace Go.Proofs.YtmcbbifeekhmgaaGreatDoor.Pe
open Go Go.RowKit
def gones (M:List Nat)(σ:St):St:=M.map (λr=>(r,Rt.gone))++σ
theorem root_gones {M:List Nat}{σ:St}{r:Nat}:root (gones M σ) r=if r∈M then .gone else root σ r:=by
 induction M with
 |nil=>simp[gones]
 |cons m M ih=>
  simp only[gones,List.map_cons,List.cons_append,root_put,List.mem_cons]at ih⊢
  by_cases h:r=m
  ·simp[h]
  ·simp[h,ih]
def updj (j:Nat->Hd)(r:Nat)(x:Hd):Nat->Hd:=λk=>if k=r then x else j k
def updL (L:Nat->List Nat)(r:Nat)(M:List Nat)(x:List Nat):Nat->List Nat:=λk=>if k=r then x else if k∈M then[]else L k
section
variable {P:Program} {j:Nat->Hd} {w w':World} {S:Nat->Prop} {σ:St} {L:Nat->List Nat}
theorem updj_same {r:Nat}{x:Hd}(h:j r≠ .no->x=j r):∀k,j k≠ .no->updj j r x k=j k:=by
 intro k hk
 unfold updj
 split
 ·rename_i e;subst e;exact h hk
 ·rfl
theorem Mem.turn1 (h:Mem P σ j L S w)(r0:Nat)(M:List Nat)(x:Rt)(Lx:List Nat)(hd:Hd)(hM:r0∉M)(hj0:j r0≠ .no->hd=j r0)
  (hheap:∀b,b<w.heap.size->b∉L r0->(∀m∈M,b∉L m)->w'.heap[b]? =w.heap[b]?) (hsz:w.heap.size<=w'.heap.size)
  (hx:RootRel P (updj j r0 hd) w' S r0 x Lx) (hn:Lx.Nodup)
  (ho:∀b∈Lx,b∈L r0\/(∃m∈M,b∈L m)\/(w.heap.size<=b/\b<w'.heap.size)):
  Mem P ((r0,x)::gones M σ) (updj j r0 hd) (updL L r0 M Lx) S w':=by
 have hS:∀b,S b->S b/\w'.heap[b]? =w.heap[b]? :=λb hb=>⟨hb,hheap b (h.stab b hb) (λhb'=>(h.owned r0 b hb').2 hb) (λm _ hb'=>(h.owned m b hb').2 hb)⟩
 refine h.turn (λr=>r=r0\/r∈M) ?_ ?_ ?_ (updj_same hj0) ?_ hS ?_ ?_ ?_ (λb hb=>Nat.lt_of_lt_of_le (h.stab b hb) hsz) hsz
 ·grind [root_put,root_gones]
 ·grind [updj]
 ·grind [updL]
 ·intro r b hr hb
  simp only[not_or]at hr
  refine⟨hheap b (h.owned r b hb).1 (λhb'=>hr.1 (h.disj r r0 b hb hb')) (λm hm hb'=>hr.2 (h.disj r m b hb hb'▸hm)),(h.owned r b hb).2⟩
 ·grind [root_put,updL,root_gones,RootRel]
 ·grind [updL]
 ·intro r b hr hb
  by_cases e:r=r0
  ·subst e
   have hb':b∈Lx:=by simpa[updL]using hb
   have hcase:=ho b hb'
   refine⟨?_,?_,?_,?_⟩
   ·rcases hcase with h1|⟨m,_,h1⟩|h1
    ·exact Nat.lt_of_lt_of_le (h.owned _ b h1).1 hsz
    ·exact Nat.lt_of_lt_of_le (h.owned _ b h1).1 hsz
    ·exact h1.2
   ·rcases hcase with h1|⟨m,_,h1⟩|h1
    ·exact(h.owned _ b h1).2
    ·exact(h.owned _ b h1).2
    grind
   ·intro r' hr' hb2
    simp only[not_or]at hr'
    rcases hcase with h1|⟨m,hm,h1⟩|h1
    ·exact hr'.1 (h.disj r' r b hb2 h1)
    ·exact hr'.2 (h.disj r' m b hb2 h1▸hm)
    ·exact absurd (h.owned r' b hb2).1 (by omega)
   grind [updL]
  grind [updL]
structure Quiet (w w':World):Prop where
 os:w'.os=w.os
 tape:w'.tape=w.tape
 output:w'.output=w.output
theorem Since.turn1 {B:Begin}(h:Since B j L S w)(r0:Nat)(M:List Nat)(Lx:List Nat)(hd:Hd)(hj0:j r0≠ .no->hd=j r0)(hm:r0<B.m->hd=j r0)
  (hheap:∀b,b<w.heap.size->b∉L r0->(∀m∈M,b∉L m)->w'.heap[b]? =w.heap[b]?) (hsz:w.heap.size<=w'.heap.size)
  (ho:∀b∈Lx,b∈L r0\/(∃m∈M,b∈L m)\/(w.heap.size<=b/\b<w'.heap.size)) (hq:Quiet w w'):Since B (updj j r0 hd) (updL L r0 M Lx) S w' where
 mine r b hb:=by
  by_cases e:r=r0
  ·subst e
   have hb':b∈Lx:=by simpa[updL]using hb
   rcases ho b hb' with h1|⟨m,_,h1⟩|h1
   ·exact h.mine _ b h1
   ·exact h.mine _ b h1
   ·exact .inr (Nat.le_trans h.heap h1.1)
  ·by_cases hm:r∈M
   ·simp[updL,e,hm]at hb
   ·exact h.mine r b (by simpa[updL,e,hm]using hb)
 came:=h.came
 grow:=h.grow
 same r hr:=by
  unfold updj
  split
  ·rename_i e;subst e;rw[hm hr];exact h.same r hr
  ·exact h.same r hr
 os:=hq.os.trans h.os
 tape:=hq.tape.trans h.tape
 output:=hq.output.trans h.output
 heap:=Nat.le_trans h.heap hsz
 frame b hb hn:=by
  rw[hheap b (Nat.lt_of_lt_of_le hb h.heap) ?_ ?_,h.frame b hb hn]
  ·intro hb'
   rcases h.mine _ b hb' with h1|h1
   ·exact hn h1
   ·omega
  ·intro m _ hb'
   rcases h.mine _ b hb' with h1|h1
   ·exact hn h1
   ·omega
theorem Rel.turn1 {B:Begin}{N:Nat}{fr:Fr}{a:Act}(h:Rel P B N fr σ j L S a w)(r0:Nat)(M:List Nat)(x:Rt)(Lx:List Nat)(hd:Hd)(hM:r0∉M)(hj0:j r0≠ .no->hd=j r0)(hm:r0<B.m->hd=j r0)
  (hheap:∀b,b<w.heap.size->b∉L r0->(∀m∈M,b∉L m)->w'.heap[b]? =w.heap[b]?) (hsz:w.heap.size<=w'.heap.size) (hq:Quiet w w')
  (hx:RootRel P (updj j r0 hd) w' S r0 x Lx) (hn:Lx.Nodup)
  (ho:∀b∈Lx,b∈L r0\/(∃m∈M,b∈L m)\/(w.heap.size<=b/\b<w'.heap.size)):
  Rel P B N fr ((r0,x)::gones M σ) (updj j r0 hd) (updL L r0 M Lx) S a w' where
 size:=h.size
 defers:=h.defers
 slots t:=(h.slots t).same (λb hb=>⟨hb,hheap b (h.mem.stab b hb) (λhb'=>(h.mem.owned r0 b hb').2 hb) (λm _ hb'=>(h.mem.owned m b hb').2 hb)⟩) (updj_same hj0)
 mem:=h.mem.turn1 r0 M x Lx hd hM hj0 hheap hsz hx hn ho
 since:=h.since.turn1 r0 M Lx hd hj0 hm hheap hsz ho hq
end
end Go.Proofs.YtmcbbifeekhmgaaGreatDoor.Pe
