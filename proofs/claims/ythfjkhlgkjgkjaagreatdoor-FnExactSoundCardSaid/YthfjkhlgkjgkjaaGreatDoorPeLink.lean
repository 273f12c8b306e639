import Derived.Test.YthfjkhlgkjgkjaaGreatDoorPeMem9
namespace Go.Proofs.YthfjkhlgkjgkjaaGreatDoor.Pe
open Go Go.RowKit
section
variable {P:Program} {B:Begin} {N:Nat} {fr:Fr} {σ:St} {j:Nat→Hd} {L:Nat→List Nat} {S:Nat→Prop} {a:Act} {w:World} {o:Oper}
theorem Mem.lnkAt (h:Mem P σ j L S w){r e i:Nat}{rows:List (List C)}{cs:List C}{ls:List (Nat×Nat)}(hr:root σ r=.lnk e rows i cs ls):RootRel P j w S r (.lnk e rows i cs ls) (L r):=by
 have:=h.roots r
 rwa [hr]at this
theorem row_at {e i k:Nat}{rows:List (List C)}{cs:List C}{c:C}{v:Value}{L0:List Nat}(hc:CRel P w S (.row true e rows) v L0)(hi:rows[i]? =some cs)(hk:cs[k]? =some c):
  ∃g n cap cur t hs L1 Lc L2,v=.slice (some ⟨g,0,none⟩) n cap∧w.heap[g]? =some (.cells cur t (0,0))∧cur.toList[i*P.cellsOf e+k]? =some hs∧L0=L1++(Lc++L2)∧CRel P w S c hs Lc∧
   ∀c' Lc',CRel P w S c' hs Lc'→CRel P w S (.row true e (rows.set i (cs.set k c'))) v (L1++(Lc'++L2)):=by
 rcases own_open hc with ⟨rfl,_,_⟩|⟨g,cap,cur,L',rfl,hh,hcap,hcm,hsz,hcs,rfl,hz⟩
 ·simp at hi
 ·obtain⟨pre,post,hfl,hpre,hset⟩:=flat_at hz hi
  obtain⟨hkl,hke⟩:=List.getElem?_eq_some_iff.1 hk
  have hcs0:cs=cs.take k++(c::cs.drop (k+1)):=by
   conv=>lhs;rw[←List.take_append_drop k cs,List.drop_eq_getElem_cons hkl,hke]
  rw[hfl,hcs0]at hcs
  obtain⟨v1,v2,L1,L2,hcur,rfl,g1,g2⟩:=hcs.split
  obtain⟨v3,v4,L3,L4,rfl,rfl,g3,g4⟩:=g2.split
  obtain⟨v5,v6,L5,L6,rfl,rfl,g5,g6⟩:=g3.split
  cases g6 with
  |cons _ _ u us La Lb hcc hrest=>
   have e1:v1.length=i*P.cellsOf e:=g1.len.trans hpre
   have e5:v5.length=k:=by rw[g5.len,List.length_take];omega
   refine⟨g,rows.length,cap,cur,e,u,g::(L1++L5),La,Lb++L4,rfl,hh,?_,by simp,hcc,fun c' Lc' hc'=> ?_⟩
   ·have h1:(cur.toList.take (rows.length*P.cellsOf e))[i*P.cellsOf e+k]? =some u:=by
     rw[hcur,List.getElem?_append_right (by omega),List.append_assoc,List.getElem?_append_right (by omega)]
     rw[show i*P.cellsOf e+k-v1.length-v5.length=0 by omega]
     rfl
    rw[List.getElem?_take]at h1
    split at h1
    ·exact h1
    ·cases h1
   ·have hc2:cs.set k c'=cs.take k++(c'::cs.drop (k+1)):=by
     rw[List.set_eq_take_append_cons_drop,if_pos hkl]
    have key:=own_close (P:=P) (S:=S) (rows:=rows.set i (cs.set k c')) (cap:=cap) (L':=L1++((L5++(Lc'++Lb))++L4)) hh (by simpa using hcap) hcm hsz ?_ ?_
    ·rw[List.length_set]at key
     have e0:g::(L1++((L5++(Lc'++Lb))++L4))=g::(L1++L5)++(Lc'++(Lb++L4)):=by simp
     rwa [e0]at key
    ·rw[List.length_set,hset,hc2,hcur]
     exact CsRel.append (CsRel.append g4 (CsRel.append (.cons _ _ _ _ _ _ hc' hrest) g5)) g1
    ·intro x0 hx0
     rcases List.mem_or_eq_of_mem_set hx0 with h9|rfl
     ·exact hz x0 h9
     ·rw[List.length_set]
      exact hz cs (List.mem_of_getElem? hi)
theorem Rel.two (h:Rel P B N fr σ j L S a w)(r s:Nat)(hrs:r≠s)(x y:Rt)(Lx Ly:List Nat)(hd:Hd)(hs0:j s≠ .no→hd=j s)(hsm:s<B.m→hd=j s)
  (hx:RootRel P (updj j s hd) w S r x Lx) (hy:RootRel P (updj j s hd) w S s y Ly) (hnx:Lx.Nodup) (hny:Ly.Nodup) (hdd:∀b∈Lx,b∉Ly) (ho:∀b,b∈Lx∨b∈Ly→b∈L r∨b∈L s):
  Rel P B N fr ((s,y)::(r,x)::σ) (updj j s hd) (fun k=>if k=s then Ly else if k=r then Lx else L k) S a w where
 size:=h.size
 defers:=h.defers
 slots t:=(h.slots t).same (fun b hb=>⟨hb,rfl⟩) (updj_same hs0)
 mem:=by
  refine h.mem.turn (fun k=>k=r∨k=s) ?_ ?_ ?_ (updj_same hs0) (fun k b hk hb=>⟨rfl,(h.mem.owned k b hb).2⟩) (fun b hb=>⟨hb,rfl⟩) ?_ ?_ ?_ h.mem.stab (Nat.le_refl _)
  ·intro k hk
   simp only[not_or]at hk
   simp[root_put,hk.1,hk.2]
  ·intro k hk
   simp only[not_or]at hk
   simp[updj,hk.2]
  ·intro k hk
   simp only[not_or]at hk
   simp[hk.1,hk.2]
  ·rintro k (rfl|rfl)
   ·simpa[root_put,hrs]using hx
   ·simpa[root_put]using hy
  ·rintro k (rfl|rfl)
   ·simpa[hrs]using hnx
   ·simpa using hny
  ·intro k b hk hb
   have hb':b∈Lx∨b∈Ly:=by
    rcases hk with rfl|rfl
    ·left;simpa[hrs]using hb
    ·right;simpa using hb
   have hc:=ho b hb'
   refine⟨?_,?_,?_,?_⟩
   ·rcases hc with h1|h1
    ·exact(h.mem.owned _ b h1).1
    ·exact(h.mem.owned _ b h1).1
   ·rcases hc with h1|h1
    ·exact(h.mem.owned _ b h1).2
    ·exact(h.mem.owned _ b h1).2
   ·intro k' hk' h2
    simp only[not_or]at hk'
    rcases hc with h1|h1
    ·exact hk'.1 (h.mem.disj k' r b h2 h1)
    ·exact hk'.2 (h.mem.disj k' s b h2 h1)
   ·intro k' hk' h2
    have hsr:s≠r:=fun e=>hrs e.symm
    rcases hk with rfl|rfl<;>rcases hk' with rfl|rfl
    ·rfl
    ·simp only[hrs,if_false,if_true]at hb h2
     exact absurd h2 (hdd b hb)
    ·simp only[hrs,if_false,if_true]at hb h2
     exact absurd hb (hdd b h2)
    ·rfl
 since:=
  { h.since with
   mine:=fun k b hb=>by
    have hb':(b∈L r∨b∈L s)∨b∈L k:=by
     split at hb
     ·exact .inl (ho b (.inr hb))
     ·split at hb
      ·exact .inl (ho b (.inl hb))
      ·exact .inr hb
    rcases hb' with (h1|h1)|h1<;>exact h.since.mine _ b h1
   same:=fun k hk=>by
    unfold updj
    split
    ·rename_i e;subst e;rw[hsm hk];exact h.since.same k hk
    ·exact h.since.same k hk }
theorem Rel.cls (h:Rel P B N fr σ j L S a w){r e i k s e':Nat}{rows rows':List (List C)}{cs cs':List C}{ls:List (Nat×Nat)}(hr:root σ r=.lnk e rows i cs ls)(hq:(k,s)∈ls)(hk:k<cs.length)(hs:root σ s=.vec e' rows')(hcs:cs.set k (.row true e' rows')=cs'):
  ∃j' L' S',Rel P B N fr ((s,.gone)::(r,.lnk e rows i cs' ls)::σ) j' L' S' a w:=by
 subst hcs
 obtain⟨v,hj,hc,hi,hl⟩:=h.mem.lnkAt hr
 have hi':(rows.set i cs)[i]? =some cs:=by rw[List.getElem?_set_self hi]
 obtain⟨g,n,cap,cur,t,hv,L1,Lc,L2,rfl,hh,hcur,hL,hcc,hput⟩:=row_at hc hi' (List.getElem?_eq_getElem hk)
 obtain⟨g',n',c',cur',t',hs',h1,h2,h3,h4⟩:=hl _ hq
 cases h1
 rw[hh]at h2
 cases h2
 rw[hcur]at h3
 cases h3
 obtain⟨v',hj',hc'⟩:=h.mem.vecAt hs
 rw[h4]at hj'
 cases hj'
 have hrs:r≠s:=by
  rintro rfl
  rw[hr]at hs
  cases hs
 have hnd:=h.mem.nodup r
 rw[hL]at hnd
 have hns:=h.mem.nodup s
 have hd:∀b,b∈L s→b∉L1++(Lc++L2):=fun b hb hb'=>hrs (h.mem.disj r s b (by rw[hL];exact hb') hb)
 simp only[List.nodup_append,List.mem_append,not_or]at hnd hd
 refine⟨_,_,S,h.two r s hrs _ _ (L1++(L s++L2)) [] (j s) (fun _=>rfl) (fun _=>rfl) ?_ rfl ?_ List.nodup_nil (fun b _ hb=>by cases hb) ?_⟩
 ·have hput':=hput _ _ hc'
  rw[List.set_set]at hput'
  have hjj:updj j s (j s)=j:=by
   funext q
   unfold updj
   split
   ·rename_i e;rw[e]
   ·rfl
  rw[hjj]
  exact⟨_,hj,hput',hi,hl⟩
 ·simp only[List.nodup_append,List.mem_append]
  refine⟨hnd.1,⟨hns,hnd.2.1.2.1,fun b hb c hc e=> ?_⟩,fun b hb c hc e=> ?_⟩
  ·subst e
   exact(hd b hb).2.2 hc
  ·subst e
   rcases hc with hc|hc
   ·exact(hd b hc).1 hb
   ·exact hnd.2.2 b hb b (.inr hc) rfl
 ·intro b hb
  rcases hb with hb|hb
  ·rw[hL]
   simp only[List.mem_append]at hb⊢
   rcases hb with hb|hb|hb
   ·exact .inl (.inl hb)
   ·exact .inr hb
   ·exact .inl (.inr (.inr hb))
  ·cases hb
end
end Go.Proofs.YthfjkhlgkjgkjaaGreatDoor.Pe
