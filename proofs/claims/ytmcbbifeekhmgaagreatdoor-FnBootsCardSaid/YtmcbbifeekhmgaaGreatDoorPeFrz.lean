import Derived.Test.YtmcbbifeekhmgaaGreatDoorPeLocal
namespace Go.Proofs.YtmcbbifeekhmgaaGreatDoor.Pe
open Go Go.RowKit
section
variable {P:Program} {B:Begin} {N:Nat} {fr fr':Fr} {σ:St} {j:Nat->Hd} {L:Nat->List Nat} {S:Nat->Prop} {a:Act} {w:World} {o:Oper}
theorem Rel.freeze (h:Rel P B N fr σ j L S a w){r e:Nat}{rows rows':List (List C)}(hr:root σ r=.vec e rows)(ht:roRows rows=rows'):∃j' L' S',Rel P B N fr ((r,.ro e rows')::σ) j' L' S' a w:=by
 subst ht
 obtain⟨hd,hj,hc⟩:=h.mem.vecAt hr
 have hS:∀b,S b->(S b\/b∈L r)/\w.heap[b]? =w.heap[b]? :=λb hb=>⟨.inl hb,rfl⟩
 refine⟨j,λk=>if k=r then[]else L k,λb=>S b\/b∈L r,h.size,h.defers,λt=>(h.slots t).same hS (λ_ _=>rfl),⟨λk=> ?_,λk=> ?_,λk k' b h1 h2=> ?_,λk b h1=> ?_,λb hb=> ?_⟩,{ h.since with mine:=λk b h1=> ?_,came:=λb hb=> ?_,grow:=λb hb=>.inl (h.since.grow b hb) }⟩
 ·rw[root_put]
  by_cases e:k=r
  ·subst e
   simp only[if_true]
   refine⟨hd,hj,?_,rfl⟩
   have:=hc.frozen (S':=λb=>S b\/b∈L k) (λb hb=>.inl hb) (λb hb=>.inr hb)
   grind [roC]
  ·simp only[e,if_false]
   exact(h.mem.roots k).same (λ_ _=>rfl) rfl hS (λ_ _=>rfl)
 ·split
  ·simp
  ·exact h.mem.nodup k
 ·split at h1
  ·simp at h1
  ·split at h2
   ·simp at h2
   ·exact h.mem.disj k k' b h1 h2
 ·split at h1
  ·simp at h1
  ·rename_i e
   refine⟨(h.mem.owned k b h1).1,?_⟩
   rintro(hs|hs)
   ·exact(h.mem.owned k b h1).2 hs
   ·exact e (h.mem.disj k r b h1 hs)
 ·rcases hb with hb|hb
  ·exact h.mem.stab b hb
  ·exact(h.mem.owned r b hb).1
 ·split at h1
  ·simp at h1
  ·exact h.since.mine k b h1
 ·rcases hb with hb|hb
  ·exact h.since.came b hb
  ·exact .inr (h.since.mine r b hb)
inductive EvZ (P:Program) (fr:Fr):St->Nat->O->V->St->List Nat->Prop
 |mk {σ:St} {s:Nat} {o:O} {v:V} {ws:St} {R:List Nat} (h:Ev P fr σ s o v ws R):EvZ P fr σ s o v ws R
 |fz {σ:St} {s:Nat} {o:O} {v:V} {ws:St} {R:List Nat} {r e:Nat} {rows rows':List (List C)} (hr:root σ r=.vec e rows) (ht:roRows rows=rows') (h:EvZ P fr ((r,.ro e rows')::σ) s o v ws R):EvZ P fr σ s o v (ws++[(r,.ro e rows')]) (r::R)
theorem EvZ.does {op:O}{s:Nat}{v:V}{ws:St}{R:List Nat}(he:EvZ P fr σ s op v ws R):∀{j:Nat->Hd}{L:Nat->List Nat}{S:Nat->Prop},Rel P B N fr σ j L S a w->oOf P o=some op->B.m<=s->Does P B N fr (ws++σ) a w o v:=by
 induction he with
 |mk he=>exact λh ho hm=>he.does h ho hm
 |fz hr ht he ih=>
  intro j L S h ho hm
  obtain⟨j',L',S',h'⟩:=h.freeze hr ht
  grind
theorem EvZ.local {s:Nat}{o:O}{v:V}{ws:St}{R:List Nat}(he:EvZ P fr σ s o v ws R):(∀x∈opsA o,val fr' x=val fr x)->∀{σ':St},(∀r,(r∈refsO fr o\/r∈R)\/r∈ws.map (·.1)->root σ' r=root σ r)->EvZ P fr' σ' s o v ws R:=by
 induction he with
 |mk he=>exact λhv σ' hσ=>.mk (he.local hv hσ)
 | @fz σ s o v ws R r e rows rows' hr ht he ih=>
  intro hv σ' hσ
  refine .fz ((hσ r (.inl (.inr (by simp)))).trans hr) ht (ih hv (λq hq=> ?_))
  rw[root_put,root_put]
  grind
end
end Go.Proofs.YtmcbbifeekhmgaaGreatDoor.Pe
