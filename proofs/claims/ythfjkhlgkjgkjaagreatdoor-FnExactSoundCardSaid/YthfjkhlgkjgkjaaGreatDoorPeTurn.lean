import Derived.Test.YthfjkhlgkjgkjaaGreatDoorPePure2
namespace Go.Proofs.YthfjkhlgkjgkjaaGreatDoor.Pe
open Go Go.RowKit
def gones (M:List Nat)(σ:St):St:=M.map (fun r=>(r,Rt.gone))++σ
theorem root_gones {M:List Nat}{σ:St}{r:Nat}:root (gones M σ) r=if r∈M then .gone else root σ r:=by
 induction M with
 |nil=>simp[gones]
 |cons m M ih=>
  simp only[gones,List.map_cons,List.cons_append,root_put,List.mem_cons]at ih⊢
  by_cases h:r=m
  ·simp[h]
  ·simp[h,ih]
def updj (j:Nat→Hd)(r:Nat)(x:Hd):Nat→Hd:=fun k=>if k=r then x else j k
def updL (L:Nat→List Nat)(r:Nat)(M:List Nat)(x:List Nat):Nat→List Nat:=fun k=>if k=r then x else if k∈M then[]else L k
section
variable {P:Program} {j:Nat→Hd} {w w':World} {S:Nat→Prop} {σ:St} {L:Nat→List Nat}
theorem updj_same {r:Nat}{x:Hd}(h:j r≠ .no→x=j r):∀k,j k≠ .no→updj j r x k=j k:=by
 intro k hk
 unfold updj
 split
 ·rename_i e;subst e;exact h hk
 ·rfl
theorem Mem.turn1 (h:Mem P σ j L S w)(r0:Nat)(M:List Nat)(x:Rt)(Lx:List Nat)(hd:Hd)(hM:r0∉M)(hj0:j r0≠ .no→hd=j r0)
  (hheap:∀b,b<w.heap.size→b∉L r0→(∀m∈M,b∉L m)→w'.heap[b]? =w.heap[b]?) (hsz:w.heap.size≤w'.heap.size)
  (hx:RootRel P (updj j r0 hd) w' S r0 x Lx) (hn:Lx.Nodup)
  (ho:∀b∈Lx,b∈L r0∨(∃m∈M,b∈L m)∨(w.heap.size≤b∧b<w'.heap.size)):
  Mem P ((r0,x)::gones M σ) (updj j r0 hd) (updL L r0 M Lx) S w':=by
 have hS:∀b,S b→S b∧w'.heap[b]? =w.heap[b]? :=fun b hb=>⟨hb,hheap b (h.stab b hb) (fun hb'=>(h.owned r0 b hb').2 hb) (fun m _ hb'=>(h.owned m b hb').2 hb)⟩
 refine h.turn (fun r=>r=r0∨r∈M) ?_ ?_ ?_ (updj_same hj0) ?_ hS ?_ ?_ ?_ (fun b hb=>Nat.lt_of_lt_of_le (h.stab b hb) hsz) hsz
 ·intro r hr
  rw[root_put,root_gones]
  simp only[not_or]at hr
  simp[hr.1,hr.2]
 ·intro r hr
  simp only[not_or]at hr
  simp[updj,hr.1]
 ·intro r hr
  simp only[not_or]at hr
  simp[updL,hr.1,hr.2]
 ·intro r b hr hb
  simp only[not_or]at hr
  refine⟨hheap b (h.owned r b hb).1 (fun hb'=>hr.1 (h.disj r r0 b hb hb')) (fun m hm hb'=>hr.2 (h.disj r m b hb hb'▸hm)),(h.owned r b hb).2⟩
 ·intro r hr
  by_cases e:r=r0
  ·subst e
   rw[root_put]
   simpa[updL]using hx
  ·have hm:=hr.resolve_left e
   rw[root_put,root_gones]
   simp only[e,if_false,hm,if_true]
   simp[updL,e,hm,RootRel]
 ·intro r hr
  by_cases e:r=r0
  ·subst e;simpa[updL]using hn
  ·have hm:=hr.resolve_left e
   simp[updL,e,hm]
 ·intro r b hr hb
  by_cases e:r=r0
  ·subst e
   have hb':b∈Lx:=by simpa[updL]using hb
   have hcase:=ho b hb'
   refine⟨?_,?_,?_,?_⟩
   ·rcases hcase with h1|⟨m,_,h1⟩|h1
    ·exact Nat.lt_of_lt_of_le (h.owned _ b h1).1 hsz
    ·exact Nat.lt_of_lt_of_le (h.owned _ b h1).1 hsz
    ·exact h1.2
   ·rcases hcase with h1|⟨m,_,h1⟩|h1
    ·exact(h.owned _ b h1).2
    ·exact(h.owned _ b h1).2
    ·exact fun hs=>absurd (h.stab b hs) (by omega)
   ·intro r' hr' hb2
    simp only[not_or]at hr'
    rcases hcase with h1|⟨m,hm,h1⟩|h1
    ·exact hr'.1 (h.disj r' r b hb2 h1)
    ·exact hr'.2 (h.disj r' m b hb2 h1▸hm)
    ·exact absurd (h.owned r' b hb2).1 (by omega)
   ·intro r' hr' hb2
    by_cases e':r'=r
    ·exact e'.symm
    ·have hm:=hr'.resolve_left e'
     simp[updL,e',hm]at hb2
  ·have hm:=hr.resolve_left e
   simp[updL,e,hm]at hb
structure Quiet (w w':World):Prop where
 os:w'.os=w.os
 tape:w'.tape=w.tape
 output:w'.output=w.output
theorem Since.turn1 {B:Begin}(h:Since B j L S w)(r0:Nat)(M:List Nat)(Lx:List Nat)(hd:Hd)(hj0:j r0≠ .no→hd=j r0)(hm:r0<B.m→hd=j r0)
  (hheap:∀b,b<w.heap.size→b∉L r0→(∀m∈M,b∉L m)→w'.heap[b]? =w.heap[b]?) (hsz:w.heap.size≤w'.heap.size)
  (ho:∀b∈Lx,b∈L r0∨(∃m∈M,b∈L m)∨(w.heap.size≤b∧b<w'.heap.size)) (hq:Quiet w w'):Since B (updj j r0 hd) (updL L r0 M Lx) S w' where
 mine r b hb:=by
  by_cases e:r=r0
  ·subst e
   have hb':b∈Lx:=by simpa[updL]using hb
   rcases ho b hb' with h1|⟨m,_,h1⟩|h1
   ·exact h.mine _ b h1
   ·exact h.mine _ b h1
   ·exact .inr (Nat.le_trans h.heap h1.1)
  ·by_cases hm:r∈M
   ·simp[updL,e,hm]at hb
   ·exact h.mine r b (by simpa[updL,e,hm]using hb)
 came:=h.came
 grow:=h.grow
 same r hr:=by
  unfold updj
  split
  ·rename_i e;subst e;rw[hm hr];exact h.same r hr
  ·exact h.same r hr
 os:=hq.os.trans h.os
 tape:=hq.tape.trans h.tape
 output:=hq.output.trans h.output
 heap:=Nat.le_trans h.heap hsz
 frame b hb hn:=by
  rw[hheap b (Nat.lt_of_lt_of_le hb h.heap) ?_ ?_,h.frame b hb hn]
  ·intro hb'
   rcases h.mine _ b hb' with h1|h1
   ·exact hn h1
   ·omega
  ·intro m _ hb'
   rcases h.mine _ b hb' with h1|h1
   ·exact hn h1
   ·omega
theorem Rel.turn1 {B:Begin}{N:Nat}{fr:Fr}{a:Act}(h:Rel P B N fr σ j L S a w)(r0:Nat)(M:List Nat)(x:Rt)(Lx:List Nat)(hd:Hd)(hM:r0∉M)(hj0:j r0≠ .no→hd=j r0)(hm:r0<B.m→hd=j r0)
  (hheap:∀b,b<w.heap.size→b∉L r0→(∀m∈M,b∉L m)→w'.heap[b]? =w.heap[b]?) (hsz:w.heap.size≤w'.heap.size) (hq:Quiet w w')
  (hx:RootRel P (updj j r0 hd) w' S r0 x Lx) (hn:Lx.Nodup)
  (ho:∀b∈Lx,b∈L r0∨(∃m∈M,b∈L m)∨(w.heap.size≤b∧b<w'.heap.size)):
  Rel P B N fr ((r0,x)::gones M σ) (updj j r0 hd) (updL L r0 M Lx) S a w' where
 size:=h.size
 defers:=h.defers
 slots t:=(h.slots t).same (fun b hb=>⟨hb,hheap b (h.mem.stab b hb) (fun hb'=>(h.mem.owned r0 b hb').2 hb) (fun m _ hb'=>(h.mem.owned m b hb').2 hb)⟩) (updj_same hj0)
 mem:=h.mem.turn1 r0 M x Lx hd hM hj0 hheap hsz hx hn ho
 since:=h.since.turn1 r0 M Lx hd hj0 hm hheap hsz ho hq
end
end Go.Proofs.YthfjkhlgkjgkjaaGreatDoor.Pe
