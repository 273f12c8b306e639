import Derived.Test.YtmcbbifeekhmgaaGreatDoorPeFrz
import Derived.Tactics
namespace Go.Proofs.YtmcbbifeekhmgaaGreatDoor.Pe
open Go Go.RowKit
structure Ctx where
 P:Program
 B:Begin
 N:Nat
abbrev Post:=Exit->Fr->St->Prop
def Ex (c:Ctx)(Q:Post)(e:Exit)(a:Act)(w:World):Prop:=∃fr σ j L S,Q e fr σ/\Rel c.P c.B c.N fr σ j L S a w
def Run (c:Ctx)(k:K)(fr:Fr)(σ:St)(Q:Post):Prop:=
 ∀code,kOf c.P c.N code=some k->∀a w j L S,Rel c.P c.B c.N fr σ j L S a w->code.wp c.P (Ex c Q) a w
def sid (site k:Nat):Nat:=1000+(site*256+k)*16
def Ops (c:Ctx)(site:Nat):Nat->List Op1->Fr->St->(Fr->St->Prop)->Prop
 |_,[],fr,σ,Q=>Q fr σ
 |k,o::l,fr,σ,Q=>match o.g with
  |none=>∃v ws R,EvZ c.P fr σ (sid site k) o.o v ws R/\Ops c site (k+1) l (putd o.d v fr) (ws++σ) Q
  |some (t,want)=>(∃b,get fr t=.c (.b b)/\(b=want->∃v ws R,EvZ c.P fr σ (sid site k) o.o v ws R/\Ops c site (k+1) l (putd o.d v fr) (ws++σ) Q)/\(b≠want->Ops c site (k+1) l (putd o.d (.tup []) fr) σ Q))\/
   (get fr t=.tup []/\Ops c site (k+1) l (putd o.d (.tup []) fr) σ Q)
section
variable {c:Ctx} {fr:Fr} {σ:St} {Q:Post} {j:Nat->Hd} {L:Nat->List Nat} {S:Nat->Prop} {a:Act} {w:World}
theorem sid_ge (site k:Nat):1000<=sid site k:=by unfold sid;omega
theorem opsOf_cons {P:Program}{N:Nat}{draw:Bool}{all:Array Oper}{o:Oper}{os:List Oper}{l:List Op1}(h:opsOf P N draw all (o::os)=some l):∃x g af xs,l=⟨o.dst,g,af,x⟩::xs/\oOf P o=some x/\gOf all o.guard=some g/\opsOf P N draw all os=some xs/\(∀d,o.dst=some d->d<N)/\af=if draw then(o.after.toList.filter (Region.binds .any)).map (·.on)else[]:=by
 simp only[opsOf]at h
 split at h<;>try simp only[reduceCtorEq]at h
 rename_i x g xs hx hg hxs
 split at h<;>simp only[Option.some.injEq,reduceCtorEq]at h
 rename_i hd
 subst h
 refine⟨x,g,_,xs,rfl,hx,hg,hxs,λd hd'=> ?_,rfl⟩
 rw[hd']at hd
 simpa using hd
theorem wanted_of {P:Program}{N:Nat}{B:Begin}(h:Rel P B N fr σ j L S a w){all:Array Oper}{o:Oper}{t:Nat}{want b:Bool}(hg:gOf all o.guard=some (some (t,want)))(hb:get fr t=.c (.b b))(ht:t<N):Region.wanted o (yielded all a.tmps)=(b==want):=by
 unfold gOf at hg
 split at hg
 ·cases hg
 ·rename_i i want' hgu
  split at hg<;>simp only[Option.some.injEq,Prod.mk.injEq,reduceCtorEq]at hg
  rename_i d hd
  obtain⟨rfl,rfl⟩:=hg
  have hv:=h.slots d
  rw[hb]at hv
  simp only[VRel]at hv
  have hy:yielded all a.tmps i=some b:=by
   unfold yielded
   rw[hd]
   simp only[Option.bind_some]
   simp only[Act.eval,Array.getD_eq_getD_getElem?]at hv
   have hlt:d<a.tmps.size:=by rw[h.size];exact ht
   rw[Array.getElem?_eq_getElem hlt]at hv⊢
   simp only[Option.getD_some]at hv
   generalize a.tmps[d]=q at hv
   cases hv
   rfl
  unfold Region.wanted
  grind
theorem wanted_none {P:Program}{N:Nat}{B:Begin}(h:Rel P B N fr σ j L S a w){all:Array Oper}{o:Oper}{t:Nat}{want:Bool}(hg:gOf all o.guard=some (some (t,want)))(hb:get fr t=.tup []):Region.wanted o (yielded all a.tmps)=false:=by
 unfold gOf at hg
 split at hg
 ·cases hg
 ·rename_i i want' hgu
  split at hg<;>simp only[Option.some.injEq,Prod.mk.injEq,reduceCtorEq]at hg
  rename_i d hd
  obtain⟨rfl,rfl⟩:=hg
  have hv:=h.slots d
  rw[hb]at hv
  simp only[VRel,VsRel]at hv
  obtain⟨us,hv,rfl⟩:=hv
  have hy:yielded all a.tmps i=none:=by
   unfold yielded
   rw[hd]
   simp only[Option.bind_some]
   simp only[Act.eval,Array.getD_eq_getD_getElem?]at hv
   grind
  unfold Region.wanted
  grind
theorem undef_rel {P:Program}:VRel P j w S (.tup []) undef:=by
 simp only[VRel,VsRel]
 exact⟨[],rfl,rfl⟩
theorem gOf_slot {P:Program}{N:Nat}{draw:Bool}{all:Array Oper}{t:Nat}{want:Bool}:∀{os:List Oper}{l:List Op1},opsOf P N draw all os=some l->∀{i:Nat}{o:Oper},os[i]? =some o->∀{d:Nat},o.dst=some d->d<N
 |[],_,_,i,o,h,_,_=>by simp at h
 |x::os,l,h,i,o,ho,d,hd=>by
  obtain⟨_,_,_,xs,_,_,_,hxs,hN,_⟩:=opsOf_cons h
  cases i with
  |zero=>simp only[List.getElem?_cons_zero,Option.some.injEq]at ho;subst ho;exact hN d hd
  |succ i=>exact gOf_slot (t:=t) (want:=want) hxs (by simpa using ho) hd
theorem guard_lt {P:Program}{N:Nat}{draw:Bool}{all:Array Oper}{l:List Op1}(h:opsOf P N draw all all.toList=some l){o:Oper}{t:Nat}{want:Bool}(hg:gOf all o.guard=some (some (t,want))):t<N:=by
 unfold gOf at hg
 split at hg
 ·cases hg
 ·rename_i i want' hgu
  split at hg<;>simp only[Option.some.injEq,Prod.mk.injEq,reduceCtorEq]at hg
  rename_i d hd
  obtain⟨rfl,rfl⟩:=hg
  cases hi:all[i]? with
  |none=>rw[hi]at hd;cases hd
  |some o'=>
   rw[hi]at hd
   exact gOf_slot (t:=d) (want:=want') h (i:=i) (o:=o') (by simpa using hi) (by simpa using hd)
theorem ops_sound (hB:c.B.m<=1000){all:Array Oper}{l0:List Op1}(hall:opsOf c.P c.N false all all.toList=some l0){site:Nat}{QM:Exit->Act->World->Prop}{Q:Fr->St->Prop}(hQ:∀fr σ j L S a w,Q fr σ->Rel c.P c.B c.N fr σ j L S a w->QM .normal a w):∀(os:List Oper)(l:List Op1)(k:Nat)(fr:Fr)(σ:St),opsOf c.P c.N false all os=some l->Ops c site k l fr σ Q->∀j L S a w,Rel c.P c.B c.N fr σ j L S a w->wpList c.P all QM os a w:=by
 intro os
 induction os with
 |nil=>
  intro l k fr σ h hq j L S a w hr
  simp only[opsOf,Option.some.injEq]at h
  subst h
  exact hQ _ _ _ _ _ _ _ hq hr
 |cons o os ih=>
  intro l k fr σ h hq j L S a w hr
  obtain⟨x,g,af,xs,rfl,hx,hg,hxs,hN,_⟩:=opsOf_cons h
  have hex:∀v ws R,EvZ c.P fr σ (sid site k) x v ws R->Ops c site (k+1) xs (putd o.dst v fr) (ws++σ) Q->o.wp c.P a w (wpList c.P all QM os) QM:=by
   intro v ws R he hrest
   refine(he.does hr hx (Nat.le_trans hB (sid_ge _ _))) _ _ ?_
   intro u w' j' L' S' hr' hv
   exact ih xs (k+1) _ _ hxs hrest j' L' S' _ w' (hr'.putd hN hv)
  have hskip:Ops c site (k+1) xs (putd o.dst (.tup []) fr) σ Q->wpList c.P all QM os (a.put o.dst undef) w:=λhrest=>ih xs (k+1) _ _ hxs hrest j L S _ w (hr.putd hN undef_rel)
  cases g with
  |none=>
   obtain⟨v,ws,R,he,hrest⟩:=hq
   have hw:Region.wanted o (yielded all a.tmps)=true:=by
    unfold gOf at hg
    split at hg
    ·rename_i hgu
     unfold Region.wanted
     rw[hgu]
    grind
   simp only[wpList,hw,if_true]
   grind
  |some tw=>
   obtain⟨t,want⟩:=tw
   rcases hq with ⟨b,hb,h1,h2⟩|⟨hb,h2⟩
   ·have hw:=wanted_of hr hg hb (guard_lt hall hg)
    by_cases e:b=want
    ·subst e
     obtain⟨v,ws,R,he,hrest⟩:=h1 rfl
     simp only[wpList,hw,beq_self_eq_true,if_true]
     grind
    ·have hf:(b==want)=false:=by simpa using e
     simp only[wpList,hw,hf,Bool.false_eq_true,if_false]
     grind
   ·have hw:=wanted_none hr hg hb
    simp only[wpList,hw,Bool.false_eq_true,if_false]
    exact hskip h2
theorem Run.skip (h:Q .normal fr σ):Run c .skip fr σ Q:=by
 intro code hk a w j L S hr
 cases code<;>simp only[kOf,Option.some.injEq,reduceCtorEq,Option.map_eq_some_iff]at hk<;>try (obtain⟨_,_,hk⟩:=hk;cases hk)
 ·exact wp_skip ⟨fr,σ,j,L,S,h,hr⟩
 all_goals (exfalso;revert hk;repeat' split)<;>simp
theorem Run.exit {n:Nat}(h:Q (.exit n) fr σ):Run c (.exit n) fr σ Q:=by
 intro code hk a w j L S hr
 cases code<;>simp only[kOf,Option.some.injEq,reduceCtorEq,Option.map_eq_some_iff]at hk<;>try (obtain⟨_,_,hk⟩:=hk;cases hk)
 case exit m=>cases hk;exact wp_exit ⟨fr,σ,j,L,S,h,hr⟩
 all_goals (exfalso;revert hk;repeat' split)<;>simp
theorem Run.ret (h:Q .ret fr σ):Run c .ret fr σ Q:=by
 intro code hk a w j L S hr
 cases code<;>simp only[kOf,Option.some.injEq,reduceCtorEq,Option.map_eq_some_iff]at hk<;>try (obtain⟨_,_,hk⟩:=hk;cases hk)
 case ret=>exact wp_ret ⟨fr,σ,j,L,S,h,hr⟩
 all_goals (exfalso;revert hk;repeat' split)<;>simp
def thenQ (c:Ctx)(y:K)(Q:Post):Post
 |.normal,fr,σ=>Run c y fr σ Q
 |e,fr,σ=>Q e fr σ
theorem Run.seq {x y:K}(h:Run c x fr σ (thenQ c y Q)):Run c (.seq x y) fr σ Q:=by
 intro code hk a w j L S hr
 cases code<;>simp only[kOf,Option.some.injEq,reduceCtorEq,Option.map_eq_some_iff]at hk<;>try (obtain⟨_,_,hk⟩:=hk;cases hk)
 case seq p q=>
  split at hk<;>simp only[Option.some.injEq,reduceCtorEq,K.seq.injEq]at hk
  rename_i x' y' hx hy
  obtain⟨rfl,rfl⟩:=hk
  refine wp_seq (wp_mono (h p hx a w j L S hr) ?_)
  rintro e a' w' ⟨fr',σ',j',L',S',hq,hr'⟩
  cases e with
  |normal=>exact hq q hy a' w' j' L' S' hr'
  |_=>exact⟨fr',σ',j',L',S',hq,hr'⟩
 grind
theorem Run.cond {x:A}{p q:K}{b:Bool}(hx:val fr x=.c (.b b))(h1:b=true->Run c p fr σ Q)(h2:b=false->Run c q fr σ Q):Run c (.cond x p q) fr σ Q:=by
 intro code hk a w j L S hr
 cases code<;>simp only[kOf,Option.some.injEq,reduceCtorEq,Option.map_eq_some_iff]at hk<;>try (obtain⟨_,_,hk⟩:=hk;cases hk)
 case cond o p' q'=>
  split at hk<;>simp only[Option.some.injEq,reduceCtorEq,K.cond.injEq]at hk
  rename_i x' p'' q'' ho hp hq
  obtain⟨rfl,rfl,rfl⟩:=hk
  have hv:=aOf_rel hr ho
  rw[hx]at hv
  simp only[VRel]at hv
  have:a.eval o=.bool b:=by
   generalize a.eval o=u at hv
   cases hv
   rfl
  exact wp_cond_split this (λhb=>h1 hb p' hp a w j L S hr) (λhb=>h2 hb q' hq a w j L S hr)
 grind
def blockQ (n:Nat)(Q:Post):Post
 |.exit m,fr,σ=>match Nat.decEq m n with
  |.isTrue _=>Q .normal fr σ
  |.isFalse _=>Q (.exit m) fr σ
 |e,fr,σ=>Q e fr σ
theorem Run.block {n:Nat}{x:K}(h:Run c x fr σ (blockQ n Q)):Run c (.block n x) fr σ Q:=by
 intro code hk a w j L S hr
 cases code<;>simp only[kOf,Option.some.injEq,reduceCtorEq,Option.map_eq_some_iff]at hk<;>try (obtain⟨_,_,hk⟩:=hk;cases hk)
 case block p hx=>
  refine wp_block (wp_mono (h p hx a w j L S hr) ?_)
  rintro e a' w' ⟨fr',σ',j',L',S',hq,hr'⟩
  cases e with
  |exit m=>
   simp only[blockQ]at hq
   simp only[Exit.inBlock]
   split at hq
   ·rename_i e _;rw[if_pos e];exact⟨fr',σ',j',L',S',hq,hr'⟩
   ·rename_i e _;rw[if_neg e];exact⟨fr',σ',j',L',S',hq,hr'⟩
  |_=>exact⟨fr',σ',j',L',S',hq,hr'⟩
 all_goals (exfalso;revert hk;repeat' split)<;>simp
def Gh (P:Program)(B:Begin)(N:Nat)(fr:Fr)(σ:St)(fr':Fr)(σ':St):Prop:=∀j L S a w,Rel P B N fr σ j L S a w->∃j' L' S',Rel P B N fr' σ' j' L' S' a w
theorem Run.gh {x:K}{fr':Fr}{σ':St}(hg:Gh c.P c.B c.N fr σ fr' σ')(h:Run c x fr' σ' Q):Run c x fr σ Q:=by
 intro code hk a w j L S hr
 obtain⟨j',L',S',hr'⟩:=hg j L S a w hr
 exact h code hk a w j' L' S' hr'
def roundQ (c:Ctx)(J:Nat->Fr->St->Prop)(n:Nat)(Q:Post):Post
 |.normal,fr,σ=>∃n',n'<n/\∃fr' σ',Gh c.P c.B c.N fr σ fr' σ'/\J n' fr' σ'
 |e,fr,σ=>Q e fr σ
theorem Run.loop {x:K}(J:Nat->Fr->St->Prop){n:Nat}{fr0:Fr}{σ0:St}(hg0:Gh c.P c.B c.N fr σ fr0 σ0)(h0:J n fr0 σ0)(h:∀n fr σ,J n fr σ->Run c x fr σ (roundQ c J n Q)):Run c (.loop x) fr σ Q:=by
 intro code hk a w j L S hr
 cases code<;>simp only[kOf,Option.some.injEq,reduceCtorEq,Option.map_eq_some_iff]at hk<;>try (obtain⟨_,_,hk⟩:=hk;cases hk)
 case loop p hx=>
  intro b k cs
  have key:∀n a w,(∃fr σ j L S,J n fr σ/\Rel c.P c.B c.N fr σ j L S a w)->∃e a' w',Ex c Q e a' w'/\Arrives c.P (lone (b.at a (.code p:: .inLoop p::k)) cs w) b k cs e a' w':=by
   intro n
   induction n using Nat.strongRecOn with
   |_ n ih=>
    rintro a w ⟨fr,σ,j,L,S,hJ,hr⟩
    obtain⟨e,a1,w1,⟨fr',σ',j',L',S',hq,hr'⟩,harr⟩:=h n fr σ hJ p hx a w j L S hr b (.inLoop p::k) cs
    cases e with
    |normal=>
     obtain⟨n',hlt,fr2,σ2,hg,hJ'⟩:=hq
     obtain⟨j2,L2,S2,hr2⟩:=hg j' L' S' a1 w1 hr'
     obtain⟨e2,a2,w2,hq2,harr2⟩:=ih n' hlt a1 w1 ⟨fr2,σ2,j2,L2,S2,hJ',hr2⟩
     exact⟨e2,a2,w2,hq2,.of_steps (Steps.trans harr (.one step_inLoop)) harr2⟩
    |exit id=>exact⟨_,a1,w1,⟨fr',σ',j',L',S',hq,hr'⟩,.pass (x:=.inLoop p) rfl (λ_ _=>.inl (by simp)) harr⟩
    |goto l=>exact⟨_,a1,w1,⟨fr',σ',j',L',S',hq,hr'⟩,.pass (x:=.inLoop p) rfl (λ_ _=>.inl (by simp)) harr⟩
    |ret=>exact⟨_,a1,w1,⟨fr',σ',j',L',S',hq,hr'⟩,.pass (x:=.inLoop p) rfl (λ_ _=>.inl (by simp)) harr⟩
    |panic ch=>exact⟨_,a1,w1,⟨fr',σ',j',L',S',hq,hr'⟩,.pass (x:=.inLoop p) rfl (λ_ _=>.inl (by simp)) harr⟩
    |outgrown=>exact⟨_,a1,w1,⟨fr',σ',j',L',S',hq,hr'⟩,.pass (x:=.inLoop p) rfl (λ_ _=>.inl (by simp)) harr⟩
  obtain⟨j0,L0,S0,hr0⟩:=hg0 j L S a w hr
  obtain⟨e,a',w',hq,harr⟩:=key n a w ⟨fr0,σ0,j0,L0,S0,h0,hr0⟩
  exact⟨e,a',w',hq,.of_steps (.one step_loop) harr⟩
 all_goals (exfalso;revert hk;repeat' split)<;>simp
theorem Run.ops (hB:c.B.m<=1000){site:Nat}{l:List Op1}(h:Ops c site 0 l fr σ (λfr σ=>Q .normal fr σ)):Run c (.ops site false l) fr σ Q:=by
 intro code hk a w j L S hr
 cases code<;>simp only[kOf,Option.some.injEq,reduceCtorEq,Option.map_eq_some_iff]at hk<;>try (obtain⟨_,_,hk⟩:=hk;cases hk)
 case region ops hl=>
  exact wp_region_list (ops_sound hB hl (λfr σ j L S a w hq hr=>⟨fr,σ,j,L,S,hq,hr⟩) ops.toList l 0 fr σ hl h j L S a w hr)
 all_goals (exfalso;revert hk;repeat' split)<;>simp
end
end Go.Proofs.YtmcbbifeekhmgaaGreatDoor.Pe
