import Derived.Test.YtmcbbifeekhmgaaGreatDoorPeCall
namespace Go.Proofs.YtmcbbifeekhmgaaGreatDoor.Pe
open Go Go.RowKit
theorem root_backSt {φ:Nat->Option Nat}{σo:St}{r:Nat}:∀{I:List Nat}{q:Nat},root (backSt φ σo I q) r=match idx I r with|some k=>renRt φ (root σo (q+k))|none=>.no
 |[],q=>rfl
 |x::I,q=>by
  rw[backSt,root_put,idx_cons,root_backSt]
  grind
theorem backSt_keys {φ:Nat->Option Nat}{σo:St}:∀{I:List Nat}{q:Nat},(backSt φ σo I q).map (·.1)=I
 |[],_=>rfl
 |x::I,q=>by simp[backSt,backSt_keys]
theorem root_backSt_append {φ:Nat->Option Nat}{σo σ:St}{I:List Nat}{r:Nat}:root (backSt φ σo I 0++σ) r=match idx I r with|some k=>renRt φ (root σo k)|none=>root σ r:=by
 grind [root_append,backSt_keys,root_backSt,idx]
theorem idx_mem:∀{I:List Nat}{r:Nat},r∈I->∃k,idx I r=some k
 |x::I,r,h=>by
  rw[idx_cons]
  by_cases e:r=x
  ·exact⟨0,by simp[e]⟩
  ·obtain⟨k,hk⟩:=idx_mem (I:=I) (r:=r) (by simpa[e]using h)
   grind
theorem idx_of_get {I:List Nat}(hI:I.Nodup){r k:Nat}(h:I[k]? =some r):idx I r=some k:=by
 obtain⟨q,hq⟩:=idx_mem (List.mem_of_getElem? h)
 rw[hq,nodup_get hI (idx_some hq) h]
theorem upto_get:∀{n s k:Nat},(upto s n)[k]? =if k<n then some (s+k)else none
 |0,s,k=>by simp[upto]
 |n+1,s,k=>by
  cases k with
  |zero=>simp[upto]
  |succ k=>
   simp only[upto,List.getElem?_cons_succ,upto_get]
   grind
section
variable {P:Program} {B:Begin} {N:Nat} {fr:Fr} {σ:St} {j j':Nat->Hd} {L:Nat->List Nat} {S S':Nat->Prop} {a:Act} {w w':World} {o:Oper}
theorem pickL_mem {ρ:List Nat}{k b:Nat}(h:b∈pickL ρ L k):∃r,ρ[k]? =some r/\b∈L r:=by
 unfold pickL at h
 split at h
 ·grind
 ·simp at h
theorem ids_get {ρ:List Nat}{s n k r:Nat}(h:(ρ++upto s n)[k]? =some r):(k<ρ.length/\ρ[k]? =some r)\/(ρ.length<=k/\k<ρ.length+n/\r=s+(k-ρ.length)):=by
 grind [Nat.lt_or_ge,List.getElem?_append_left,List.getElem?_append_right,upto_get]
theorem back_call (h:Rel P B N fr σ j L S a w){ρ β:List Nat}(hβ:∀r∈β,r∉ρ){s n:Nat}(hs:∀k,k<n->root σ (s+k)=.no/\B.m<=s+k)(hI:(ρ++upto s n).Nodup){vo:V}{σo:St}(hb:below (ρ.length+n) σo=true)
  (hcase:β=[]\/(ownV vo=true/\∀k,ownRt (root σo k))) {v:Value} {jc:Nat->Hd} {Lc:Nat->List Nat} {Sc:Nat->Prop} (hv:VRel P jc w' Sc vo v) (hm:Mem P σo jc Lc Sc w') {hg:GlbOk w λb=>∃r,b∈pickL ρ L r} (hc:Since ⟨w,λb=>∃r,b∈pickL ρ L r,lent S L β,ρ.length,pickj ρ j,hg⟩ jc Lc Sc w'):
  ∃j' L' S',Rel P B N fr (backSt (back ρ s) σo (ρ++upto s n) 0++σ) j' L' S' a w'/\VRel P j' w' S' (renV (back ρ s) vo) v:=by
 obtain⟨S2,s1,s2,s3,s4,s5⟩:∃S2:Nat->Prop,(∀b,S b->S2 b)/\(∀b,S2 b->Sc b)/\(VRel P jc w' S2 vo v)/\(∀k,RootRel P jc w' S2 k (root σo k) (Lc k))/\((∀b,S2 b->S b)\/(∀b,S2 b->S b\/(∃r,b∈pickL ρ L r)\/w.heap.size<=b)):=by
  rcases hcase with rfl|⟨g1,g2⟩
  ·refine⟨Sc,λb hb=>hc.grow b (.inl hb),λb hb=>hb,hv,hm.roots,.inr λb hb=> ?_⟩
   rcases hc.came b hb with hb|hb
   ·rcases hb with hb|⟨r,hr,_⟩
    ·exact .inl hb
    ·simp at hr
   ·exact .inr hb
  ·exact⟨S,λb hb=>hb,λb hb=>hc.grow b (.inl hb),hv.own_any g1,λk=>(hm.roots k).own_any (g2 k),.inl λb hb=>hb⟩
 have hj0:∀k r,(ρ++upto s n)[k]? =some r->j r≠ .no->jc k=j r:=by
  intro k r hk hr
  rcases ids_get hk with ⟨h1,h2⟩|⟨h1,h2,rfl⟩
  ·rw[hc.same k h1]
   simp[pickj,h2]
  ·exact absurd (h.fresh (hs _ (by omega)).1).1 hr
 have hjn:∀r,j r≠ .no->(match idx (ρ++upto s n) r with|some k=>jc k|none=>j r)=j r:=by
  intro r hr
  split
  ·grind [idx_some]
  ·rfl
 have hφ:∀q t,back ρ s q=some t->jc q≠ .no->(match idx (ρ++upto s n) t with|some k=>jc k|none=>j t)=jc q:=by
  intro q t hq hn
  have:(ρ++upto s n)[q]? =some t:=by
   unfold back at hq
   split at hq
   ·grind
   ·rename_i hr
    cases hq
    have hge:ρ.length<=q:=by
     rcases Nat.lt_or_ge q ρ.length with hlt|hge
     ·grind
     ·exact hge
    rw[List.getElem?_append_right hge,upto_get]
    by_cases hlt:q-ρ.length<n
    ·rw[if_pos hlt]
    ·exfalso
     have h0:=hm.roots q
     rw[below_spec hb q (by omega)]at h0
     exact hn h0.1
  rw[idx_of_get hI this]
 have hown:∀r b,b∈L r->(∃q,b∈pickL ρ L q)->r∈ρ:=by
  rintro r b hb ⟨q,hq⟩
  obtain⟨r',h1,h2⟩:=pickL_mem hq
  have:=h.mem.disj r r' b hb h2
  grind
 have hnone:∀r,idx (ρ++upto s n) r=none->r∉ρ:=by
  intro r hr hm'
  obtain⟨k,hk⟩:=idx_mem (I:=ρ++upto s n) (r:=r) (by simp[hm'])
  grind
 have hS:∀b,S b->S2 b/\w'.heap[b]? =w.heap[b]? :=by
  intro b hb
  refine⟨s1 b hb,hc.frame b (h.mem.stab b hb) ?_⟩
  rintro⟨q,hq⟩
  obtain⟨r',_,h2⟩:=pickL_mem hq
  exact(h.mem.owned r' b h2).2 hb
 have hLr:∀r b,idx (ρ++upto s n) r=none->b∈L r->w'.heap[b]? =w.heap[b]? :=λr b hr hb=>hc.frame b (h.mem.owned r b hb).1 (λhq=>hnone r hr (hown r b hb hq))
 refine⟨λr=>match idx (ρ++upto s n) r with|some k=>jc k|none=>j r,λr=>match idx (ρ++upto s n) r with|some k=>Lc k|none=>L r,S2,⟨h.size,h.defers,λt=>(h.slots t).same hS hjn,⟨λr=> ?_,λr=> ?_,λr r' b h1 h2=> ?_,λr b h1=> ?_,λb hb'=>hm.stab b (s2 b hb')⟩,⟨λr b h1=> ?_,λb hb'=> ?_,λb hb'=>s1 b (h.since.grow b hb'),λr hr=> ?_,hc.os.trans h.since.os,hc.tape.trans h.since.tape,hc.output.trans h.since.output,Nat.le_trans h.since.heap hc.heap,λb h1 h2=> ?_⟩⟩,s3.ren hφ⟩
 ·rw[root_backSt_append]
  cases hk:idx (ρ++upto s n) r with
  |some k=>exact(s4 k).ren hφ (by simp[hk])
  |none=>exact(h.mem.roots r).same hjn (by simp[hk]) hS (λb hb'=>hLr r b hk hb')
 ·split
  ·exact hm.nodup _
  ·exact h.mem.nodup r
 ·have cross:∀k r b,idx (ρ++upto s n) r=none->b∈Lc k->b∉L r:=by
   intro k r b hr h1 h2
   rcases hc.mine k b h1 with hq|hq
   ·grind
   ·have:=(h.mem.owned r b h2).1
    grind
  cases hk:idx (ρ++upto s n) r with
  |some k=>
   rw[hk]at h1
   cases hk':idx (ρ++upto s n) r' with
   |some k'=>
    rw[hk']at h2
    have:=hm.disj k k' b h1 h2
    subst this
    have e1:=idx_some hk
    rw[idx_some hk']at e1
    grind
   |none=>rw[hk']at h2;exact absurd h2 (cross k r' b hk' h1)
  |none=>
   rw[hk]at h1
   cases hk':idx (ρ++upto s n) r' with
   |some k'=>rw[hk']at h2;exact absurd h1 (cross k' r b hk h2)
   |none=>rw[hk']at h2;exact h.mem.disj r r' b h1 h2
 ·cases hk:idx (ρ++upto s n) r with
  |some k=>
   rw[hk]at h1
   exact⟨(hm.owned k b h1).1,λhb'=>(hm.owned k b h1).2 (s2 b hb')⟩
  |none=>
   rw[hk]at h1
   have ho:=h.mem.owned r b h1
   grind
 ·cases hk:idx (ρ++upto s n) r with
  |some k=>
   rw[hk]at h1
   rcases hc.mine k b h1 with ⟨q,hq⟩|hq
   ·obtain⟨r',_,h2⟩:=pickL_mem hq
    exact h.since.mine r' b h2
   ·exact .inr (Nat.le_trans h.since.heap hq)
  |none=>rw[hk]at h1;exact h.since.mine r b h1
 ·rcases s5 with s5|s5
  ·exact h.since.came b (s5 b hb')
  ·rcases s5 b hb' with h3|⟨q,hq⟩|h3
   ·exact h.since.came b h3
   ·obtain⟨r',_,h2⟩:=pickL_mem hq
    exact .inr (h.since.mine r' b h2)
   ·exact .inr (.inr (Nat.le_trans h.since.heap h3))
 ·cases hk:idx (ρ++upto s n) r with
  |none=>exact h.since.same r hr
  |some k=>
   rcases ids_get (idx_some hk)with ⟨h1,h2⟩|⟨h1,h2,rfl⟩
   ·show jc k=_
    rw[hc.same k h1]
    simp only[pickj,h2]
    exact h.since.same r hr
   ·have:=(hs (k-ρ.length) (by omega)).2
    omega
 ·rw[hc.frame b (Nat.lt_of_lt_of_le h1 h.since.heap) ?_,h.since.frame b h1 h2]
  rintro⟨q,hq⟩
  obtain⟨r',_,h3⟩:=pickL_mem hq
  rcases h.since.mine r' b h3 with h4|h4
  ·exact h2 h4
  ·omega
theorem do_calls (h:Rel P B N fr σ j L S a w){f:Nat}{us vs:List V}{ρ β:List Nat}{σc:St}{vo:V}{σo:St}(hsem:Says P f vs ρ.length σc vo σo)(hσ:pickS ρ σ=σc)(hρ:ρ.Nodup)(hβ:∀r∈β,r∉ρ){args:List Value}(hargs:VsRel P j w S us args)(hp:Passes σ ρ β us vs)
  {s n:Nat} (hs:∀k,k<n->root σ (s+k)=.no/\B.m<=s+k) (hI:(ρ++upto s n).Nodup) (hb:below (ρ.length+n) σo=true) (hcase:β=[]\/(ownV vo=true/\∀k,ownRt (root σo k))):
  Calls P f args.toArray w λe w'=>∃v j' L' S',e=.returned v/\Rel P B N fr (backSt (back ρ s) σo (ρ++upto s n) 0++σ) j' L' S' a w'/\VRel P j' w' S' (renV (back ρ s) vo) v:=by
 subst hσ
 refine(hsem.2 (pickj ρ j) (pickL ρ L) (lent S L β) w args (h.mem.lend hρ hβ) (λr hr=> ?_) (Pass.rels h.mem hp hargs) (h.glob λb hb=>by obtain⟨k,hk⟩:=hb;obtain⟨r,_,h2⟩:=pickL_mem hk;exact⟨r,h2⟩)).mono ?_
 ·grind [List.getElem?_eq_none,pickj,pickL]
 ·grind [back_call]
end
end Go.Proofs.YtmcbbifeekhmgaaGreatDoor.Pe
