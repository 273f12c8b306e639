import Derived.Test.YtmcbbifeekhmgaaGreatDoorPeNorm
import Derived.Test.YtmcbbifeekhmgaaGreatDoorPeTy
namespace Go.Proofs.YtmcbbifeekhmgaaGreatDoor.Pe
open Go Go.RowKit
set_option linter.unusedVariables false
inductive Fm
 |k (y:K)
 |o (site k:Nat) (l:List Op1) (tr:Option (List Tr))
 |b (n:Nat)
 |j (J:Fr->St->Prop)
 |l (J:Nat->Fr->St->Prop) (n:Nat)
 |e (P:Program) (B:Begin) (F:F) (vo:V) (σo:St)
def regQ (c:Ctx)(site k:Nat)(l:List Op1)(tr:Option (List Tr))(Q:Post):Post
 |.normal,fr,σ=>match tr with
  |none=>Ops c site k l fr σ (λfr σ=>Q .normal fr σ)
  |some tr=>OpsD c site k l fr σ tr (λfr σ tr=>okDraw tr=true/\Q .normal fr σ)
 |e,fr,σ=>Q e fr σ
def sem (c:Ctx):List Fm->Post
 |[]=>λ_ _ _=>False
 |.k y::s=>thenQ c y (sem c s)
 |.o site k l tr::s=>regQ c site k l tr (sem c s)
 |.b n::s=>blockQ n (sem c s)
 |.j J::s=>meetQ c J (sem c s)
 |.l J n::s=>roundQ c J n (sem c s)
 |.e P B F vo σo::_=>Ends P B F vo σo
abbrev Tl:=List (Nat×Bool)
def TlOk (tl:Tl)(fr:Fr):Prop:=∀x∈tl,get fr x.1=.c (.b x.2)
def lkT:Tl->Nat->Option Bool
 |[],_=>none
 |(k,b)::l,t=>match Nat.decEq t k with
  |.isTrue _=>some b
  |.isFalse _=>lkT l t
def dT (d:Nat):Tl->Option Tl
 |[]=>some []
 |(k,b)::l=>match Nat.decEq d k,dT d l with
  |.isTrue _,some m=>some m
  |.isFalse _,some m=>some ((k,b)::m)
  |_,none=>none
def srcT (tl:Tl):A->Option Bool
 |.t n=>lkT tl n
 |.c (.c (.b b))=>some b
 |_=>none
def sT (d:Option Nat)(src:Option Bool)(tl:Tl):Option Tl:=match d with
 |none=>some tl
 |some d=>match dT d tl with
  |some l=>match src with
   |some b=>some ((d,b)::l)
   |none=>some l
  |none=>none
def fin (d:Option Nat)(src:Option Bool)(v:V)(ws:St)(tl:Tl)(fr:Fr)(σ:St):Option (Tl×Fr×St):=match sT d src tl,nfApp ws σ with
 |some tl',some σ'=>match d with
  |some d=>some (tl',(d,v)::fr,σ')
  |none=>some (tl',fr,σ')
 |_,_=>none
def goG (tl:Tl)(fr:Fr):Option (Nat×Bool)->Nat
 |none=>1
 |some (t,w)=>match lkT tl t with
  |some true=>match w with|true=>1|false=>0
  |some false=>match w with|true=>0|false=>1
  |none=>match get fr t with
   |.tup []=>0
   |_=>2
def step (fr:Fr)(σ:St)(s:Nat):O->Option (V×St)
 |.al z=>match root σ s with
  |.no=>match nfL (z.map .c)with
   |some vs=>some (.ptr s 0,[(s,.box vs)])
   |none=>none
  |_=>none
 |.bx x=>match root σ s with
  |.no=>match cellsV (val fr x)with
   |some vs=>match nfL vs with
    |some us=>some (.ptr s 0,[(s,.box us)])
    |none=>none
   |none=>none
  |_=>none
 |.bd z ps=>match fillV fr (z.map .c) ps with
  |some vs=>match nfL vs with
   |some us=>some (.agg us,[])
   |none=>none
  |none=>none
 |.sto n x y=>match val fr x with
  |.ptr r k=>match root σ r with
   |.box cells=>match cellsV (val fr y)with
    |some vs=>match Nat.beq vs.length n&&Nat.ble (k+n) cells.length with
     |true=>match nfL (setAt cells k vs)with
      |some us=>some (.undef,[(r,.box us)])
      |none=>none
     |false=>none
    |none=>none
   |_=>none
  |_=>none
 |.ln false x=>match val fr x with
  |.sl _ _ _ len=>some (.c (.i .i64 len),[])
  |.c (.row true _ [])=>some (.c (.i .i64 0),[])
  |_=>none
 |.pk _ _ _=>none
 |o=>match pure1 fr σ o with
  |some v=>some (v,[])
  |none=>none
def stepT (tl:Tl)(fr:Fr)(σ:St)(s:Nat):O->Option (V×St×Option Bool)
 |.mv x=>match nf (val fr x)with
  |some v=>some (v,[],srcT tl x)
  |none=>none
 |.pk c x y=>match srcT tl c with
  |some true=>match nf (val fr x)with
   |some v=>some (v,[],srcT tl x)
   |none=>none
  |some false=>match nf (val fr y)with
   |some v=>some (v,[],srcT tl y)
   |none=>none
  |none=>none
 |o=>match step fr σ s o with
  |some (v,ws)=>some (v,ws,none)
  |none=>none
def addT (tr:Option (List Tr))(x:Tr):Option (List Tr):=match tr with
 |none=>none
 |some l=>some (l++[x])
def br:K->Bool
 |.seq a b=>br a||br b
 |.cond _ _ _=>true
 |.block _ x=>br x
 |.loop _=>true
 |.ops _ _ l=>l.any λo=>match o.g,o.o with
  |none,.pk _ _ _=>true
  |none,_=>false
  |some _,_=>true
 |_=>false
def popE (i:Nat):List Fm->Option (List Fm)
 |.b n::s=>match Nat.decEq i n with
  |.isTrue _=>some s
  |.isFalse _=>popE i s
 |.k _::s=>popE i s
 |.o _ _ _ _::s=>popE i s
 |.j _::s=>popE i s
 |_=>none
def popR:List Fm->Option (List Fm)
 |.e P B F vo σo::_=>some [.e P B F vo σo]
 |.b _::s=>popR s
 |.k _::s=>popR s
 |.o _ _ _ _::s=>popR s
 |.j _::s=>popR s
 |_=>none
def popX (i:Option Nat):List Fm->Option (List Fm)
 |.l _ _::s=>some s
 |.b n::s=>match i with
  |none=>popX i s
  |some i=>match Nat.decEq i n with
   |.isTrue _=>none
   |.isFalse _=>popX (some i) s
 |.k _::s=>popX i s
 |.o _ _ _ _::s=>popX i s
 |.j _::s=>popX i s
 |_=>none
def exN:Option Nat->Exit
 |none=>.ret
 |some i=>.exit i
def drOf:Bool->Option (List Tr)
 |true=>some []
 |false=>none
abbrev XS:=List Fm×Tl×Fr×St
inductive Ch
 |f (t:Nat) (v:V)
 |r (q:Nat) (x:Rt)
 |c (q k:Nat) (v:V)
def putF (t:Nat)(v:V):Fr->Fr
 |[]=>[(t,v)]
 |(s,u)::l=>match Nat.decEq t s with
  |.isTrue _=>(t,v)::l
  |.isFalse _=>(s,u)::putF t v l
def putS (t:Nat)(v:Rt):St->St
 |[]=>[(t,v)]
 |(s,u)::l=>match Nat.decEq t s with
  |.isTrue _=>(t,v)::l
  |.isFalse _=>(s,u)::putS t v l
def putC (t k:Nat)(v:V):St->St
 |[]=>[]
 |(s,u)::l=>match Nat.decEq t s with
  |.isTrue _=>match u with
   |.box cells=>(s,.box (setAt cells k [v]))::l
   |u=>(s,u)::l
  |.isFalse _=>(s,u)::putC t k v l
def chF:List Ch->Fr->Fr
 |[],fr=>fr
 |.f t v::l,fr=>chF l (putF t v fr)
 |.r _ _::l,fr=>chF l fr
 |.c _ _ _::l,fr=>chF l fr
def chS:List Ch->St->St
 |[],σ=>σ
 |.f _ _::l,σ=>chS l σ
 |.r q x::l,σ=>chS l (putS q x σ)
 |.c q k v::l,σ=>chS l (putC q k v σ)
def knew (ts rs:List Nat)(l:List Ch)(fr:Fr)(σ:St):Option (Fr×St):=nz (chF l (keepF (idx rs) fr ts)) (chS l (pickS rs σ))
def X0 (q:Nat):Nat->List Fm->Tl->Fr->St->Option XS
 |0,s,tl,fr,σ=>some (s,tl,fr,σ)
 |n+1,.k (.ops site dr l)::s,tl,fr,σ=>match Nat.decEq (site+1) q with
  |.isTrue _=>some (.k (.ops site dr l)::s,tl,fr,σ)
  |.isFalse _=>X0 q n (.o site 0 l (drOf dr)::s) tl fr σ
 |n+1,.k .skip::s,tl,fr,σ=>X0 q n s tl fr σ
 |n+1,.k (.seq a b)::s,tl,fr,σ=>match br a with
  |true=>some (.k (.seq a b)::s,tl,fr,σ)
  |false=>X0 q n (.k a:: .k b::s) tl fr σ
 |n+1,.k (.block i x)::s,tl,fr,σ=>X0 q n (.k x:: .b i::s) tl fr σ
 |n+1,.k (.cond a x y)::s,tl,fr,σ=>match srcT tl a with
  |some true=>X0 q n (.k x::s) tl fr σ
  |some false=>X0 q n (.k y::s) tl fr σ
  |none=>some (.k (.cond a x y)::s,tl,fr,σ)
 |n+1,.k (.exit i)::s,tl,fr,σ=>match popE i s with
  |some s'=>X0 q n s' tl fr σ
  |none=>some (.k (.exit i)::s,tl,fr,σ)
 |n+1,.k .ret::s,tl,fr,σ=>match popR s with
  |some s'=>some (s',tl,fr,σ)
  |none=>some (.k .ret::s,tl,fr,σ)
 |n+1,.b _::s,tl,fr,σ=>X0 q n s tl fr σ
 |n+1,.o _ _ [] none::s,tl,fr,σ=>X0 q n s tl fr σ
 |n+1,.o site k (⟨d,g,af,o⟩::l) tr::s,tl,fr,σ=>match goG tl fr g with
  |0=>match fin d none (.tup []) [] tl fr σ with
   |some (tl',fr',σ')=>X0 q n (.o site (k+1) l (addT tr ⟨d,.tup [],[],[],slotsO ⟨d,g,af,o⟩,af⟩)::s) tl' fr' σ'
   |none=>none
  |1=>match stepT tl fr σ (sid site k) o with
   |some (v,ws,src)=>match fin d src v ws tl fr σ with
    |some (tl',fr',σ')=>X0 q n (.o site (k+1) l (addT tr ⟨d,v,ws,refsO fr o++[],slotsO ⟨d,g,af,o⟩,af⟩)::s) tl' fr' σ'
    |none=>none
   |none=>some (.o site k (⟨d,g,af,o⟩::l) tr::s,tl,fr,σ)
  |_=>some (.o site k (⟨d,g,af,o⟩::l) tr::s,tl,fr,σ)
 |_+1,s,tl,fr,σ=>some (s,tl,fr,σ)
def askN (tl:Tl)(fr:Fr):List Fm->Option Nat
 |.k (.cond (.t n) _ _)::_=>some n
 |.o _ _ (⟨_,some (t,w),_,o⟩::_) _::_=>match goG tl fr (some (t,w))with
  |1=>match o with
   |.pk (.t n) _ _=>some n
   |_=>none
  |_=>some t
 |.o _ _ (⟨_,none,_,.pk (.t n) _ _⟩::_) _::_=>some n
 |_=>none
section
variable {c:Ctx} {tl tl':Tl} {fr fr':Fr} {σ σ':St} {s s':List Fm}
theorem TlOk.nil:TlOk [] fr:=by intro x hx;simp at hx
theorem TlOk.cons {n:Nat}{b:Bool}(h:TlOk tl fr)(hn:get fr n=.c (.b b)):TlOk ((n,b)::tl) fr:=by
 intro x hx
 rcases List.mem_cons.1 hx with rfl|hx
 ·exact hn
 ·exact h x hx
theorem lkT_ok {t:Nat}{b:Bool}(h:TlOk tl fr)(hl:lkT tl t=some b):get fr t=.c (.b b):=by
 induction tl with
 |nil=>cases hl
 |cons x l ih=>
  obtain⟨k,q⟩:=x
  simp only[lkT]at hl
  split at hl
  ·rename_i e _
   simp only[Option.some.injEq]at hl
   subst hl
   rw[e]
   exact h (k,q) (by simp)
  ·exact ih (λy hy=>h y (by simp[hy])) hl
theorem dT_mem {d:Nat}{x:Nat×Bool}:∀{tl l:Tl},dT d tl=some l->x∈l->x∈tl/\d≠x.1
 |[],l,h,hx=>by simp only[dT,Option.some.injEq]at h;subst h;simp at hx
 |(k,b)::tl,l,h,hx=>by
  simp only[dT]at h
  split at h<;>simp only[Option.some.injEq,reduceCtorEq]at h
  ·subst h
   obtain⟨h3,h4⟩:=dT_mem (by assumption) hx
   exact⟨by simp[h3],h4⟩
  ·rename_i h2 he
   subst h
   rcases List.mem_cons.1 hx with rfl|hx
   ·exact⟨by simp,by assumption⟩
   ·obtain⟨h3,h4⟩:=dT_mem (by assumption) hx
    exact⟨by simp[h3],h4⟩
theorem fin_ok {d:Option Nat}{src:Option Bool}{v:V}{ws:St}(h:fin d src v ws tl fr σ=some (tl',fr',σ'))(ht:TlOk tl fr)(hv:∀b,src=some b->v=.c (.b b)):TlOk tl' fr'/\fr'=putd d v fr/\σ'=ws++σ:=by
 unfold fin at h
 split at h<;>try simp only[reduceCtorEq]at h
 rename_i tl1 σ1 h1 h2
 obtain rfl:=nfApp_some h2
 cases d with
 |none=>
  simp only[sT,Option.some.injEq]at h1
  subst h1
  simp only[Option.some.injEq,Prod.mk.injEq]at h
  obtain⟨rfl,rfl,rfl⟩:=h
  exact⟨ht,rfl,rfl⟩
 |some d=>
  simp only[Option.some.injEq,Prod.mk.injEq]at h
  obtain⟨rfl,rfl,rfl⟩:=h
  refine⟨?_,rfl,rfl⟩
  simp only[sT]at h1
  split at h1<;>try simp only[reduceCtorEq]at h1
  rename_i l hl
  have key:TlOk l ((d,v)::fr):=by
   intro x hx
   obtain⟨h3,h4⟩:=dT_mem hl hx
   rw[get_put,if_neg (Ne.symm h4)]
   exact ht x h3
  split at h1<;>simp only[Option.some.injEq]at h1<;>subst h1
  ·intro x hx
   rcases List.mem_cons.1 hx with rfl|hx
   ·rw[get_put,if_pos rfl];exact hv _ rfl
   ·exact key x hx
  ·exact key
theorem srcT_ok {x:A}{b:Bool}(h:TlOk tl fr)(hs:srcT tl x=some b):val fr x=.c (.b b):=by
 unfold srcT at hs
 split at hs
 ·exact lkT_ok h hs
 ·simp only[Option.some.injEq]at hs;subst hs;rfl
 ·cases hs
theorem step_ok {P:Program}{s:Nat}{o:O}{v:V}{ws:St}(h:step fr σ s o=some (v,ws)):Ev P fr σ s o v ws []:=by
 unfold step at h
 split at h
 ·split at h<;>try simp only[reduceCtorEq]at h
  rename_i hs
  split at h<;>simp only[Option.some.injEq,Prod.mk.injEq,reduceCtorEq]at h
  obtain⟨rfl,rfl⟩:=h
  exact .al (by assumption) hs
 ·split at h<;>try simp only[reduceCtorEq]at h
  rename_i hs
  split at h<;>try simp only[reduceCtorEq]at h
  rename_i vs hvs
  split at h<;>simp only[Option.some.injEq,Prod.mk.injEq,reduceCtorEq]at h
  rename_i us hus
  obtain⟨rfl,rfl⟩:=h
  obtain rfl:=nfL_some hus
  exact .bx hvs hs
 ·split at h<;>try simp only[reduceCtorEq]at h
  rename_i vs hvs
  split at h<;>simp only[Option.some.injEq,Prod.mk.injEq,reduceCtorEq]at h
  rename_i us hus
  obtain⟨rfl,rfl⟩:=h
  exact .bd hvs hus
 ·split at h<;>try simp only[reduceCtorEq]at h
  rename_i hp
  split at h<;>try simp only[reduceCtorEq]at h
  rename_i hr
  split at h<;>try simp only[reduceCtorEq]at h
  rename_i hv
  split at h<;>try simp only[reduceCtorEq]at h
  rename_i hb
  split at h<;>simp only[Option.some.injEq,Prod.mk.injEq,reduceCtorEq]at h
  rename_i us hus
  obtain⟨rfl,rfl⟩:=h
  simp only[Bool.and_eq_true,Nat.beq_eq]at hb
  exact .sto hp hr hv hb.1 hb.2 hus
 ·rename_i x
  split at h<;>simp only[Option.some.injEq,Prod.mk.injEq,reduceCtorEq]at h
  ·rename_i hv;obtain⟨rfl,rfl⟩:=h;exact .pure (by simp only[pure1,hv])
  ·rename_i hv;obtain⟨rfl,rfl⟩:=h;exact .pure (by simp only[pure1,hv])
 ·cases h
 ·split at h<;>simp only[Option.some.injEq,Prod.mk.injEq,reduceCtorEq]at h
  rename_i hv
  obtain⟨rfl,rfl⟩:=h
  exact .pure hv
theorem stepT_ok {P:Program}{s:Nat}{o:O}{v:V}{ws:St}{src:Option Bool}(ht:TlOk tl fr)(h:stepT tl fr σ s o=some (v,ws,src)):Ev P fr σ s o v ws []/\∀b,src=some b->v=.c (.b b):=by
 unfold stepT at h
 split at h
 ·split at h<;>simp only[Option.some.injEq,Prod.mk.injEq,reduceCtorEq]at h
  rename_i hv
  obtain⟨rfl,rfl,rfl⟩:=h
  exact⟨.pure hv,λb hb=>(nf_some hv).trans (srcT_ok ht hb)⟩
 ·split at h<;>try simp only[reduceCtorEq]at h
  ·rename_i hc
   split at h<;>simp only[Option.some.injEq,Prod.mk.injEq,reduceCtorEq]at h
   rename_i hv
   obtain⟨rfl,rfl,rfl⟩:=h
   exact⟨.pkT (srcT_ok ht hc) rfl hv,λb hb=>(nf_some hv).trans (srcT_ok ht hb)⟩
  ·rename_i hc
   split at h<;>simp only[Option.some.injEq,Prod.mk.injEq,reduceCtorEq]at h
   rename_i hv
   obtain⟨rfl,rfl,rfl⟩:=h
   exact⟨.pkF (srcT_ok ht hc) rfl hv,λb hb=>(nf_some hv).trans (srcT_ok ht hb)⟩
 ·split at h<;>simp only[Option.some.injEq,Prod.mk.injEq,reduceCtorEq]at h
  rename_i hv
  obtain⟨rfl,rfl,rfl⟩:=h
  exact⟨step_ok hv,λb hb=>by cases hb⟩
theorem goG_one {g:Option (Nat×Bool)}(ht:TlOk tl fr)(h:goG tl fr g=1):g=none\/∃t w,g=some (t,w)/\get fr t=.c (.b w):=by
 cases g with
 |none=>exact .inl rfl
 |some g=>
  obtain⟨t,w⟩:=g
  refine .inr ⟨t,w,rfl,?_⟩
  simp only[goG]at h
  split at h
  ·rename_i hl
   split at h
   ·exact lkT_ok ht hl
   ·cases h
  ·rename_i hl
   split at h
   ·cases h
   ·exact lkT_ok ht hl
  ·split at h<;>cases h
theorem goG_zero {g:Option (Nat×Bool)}(ht:TlOk tl fr)(h:goG tl fr g=0):∃t w,g=some (t,w)/\(get fr t=.c (.b (!w))\/get fr t=.tup []):=by
 cases g with
 |none=>cases h
 |some g=>
  obtain⟨t,w⟩:=g
  refine⟨t,w,rfl,?_⟩
  simp only[goG]at h
  split at h
  ·rename_i hl
   split at h
   ·cases h
   ·exact .inl (lkT_ok ht hl)
  ·rename_i hl
   split at h
   ·exact .inl (lkT_ok ht hl)
   ·cases h
  ·split at h
   ·rename_i hg;exact .inr hg
   ·cases h
theorem reg_go {site k:Nat}{o:Op1}{l:List Op1}{tr:Option (List Tr)}{Q:Post}{v:V}{ws:St}{R:List Nat}(ht:TlOk tl fr)(hg:goG tl fr o.g=1)(he:EvZ c.P fr σ (sid site k) o.o v ws R)(h:regQ c site (k+1) l (addT tr ⟨o.d,v,ws,refsO fr o.o++R,slotsO o,o.a⟩) Q .normal (putd o.d v fr) (ws++σ)):regQ c site k (o::l) tr Q .normal fr σ:=by
 obtain⟨d,g,af,o⟩:=o
 cases tr with
 |none=>
  simp only[regQ,addT]at h⊢
  rcases goG_one ht hg with h1|⟨t,w,h1,h2⟩
  ·simp only at h1
   subst h1
   exact⟨v,ws,R,he,h⟩
  ·simp only at h1
   subst h1
   exact .inl ⟨w,h2,λ_=>⟨v,ws,R,he,h⟩,λhn=>absurd rfl hn⟩
 |some tr=>
  simp only[regQ,addT]at h⊢
  rcases goG_one ht hg with h1|⟨t,w,h1,h2⟩
  ·simp only at h1
   subst h1
   exact⟨v,ws,R,he,h⟩
  ·simp only at h1
   subst h1
   exact .inl ⟨w,h2,λ_=>⟨v,ws,R,he,h⟩,λhn=>absurd rfl hn⟩
theorem reg_skip {site k:Nat}{o:Op1}{l:List Op1}{tr:Option (List Tr)}{Q:Post}(ht:TlOk tl fr)(hg:goG tl fr o.g=0)(h:regQ c site (k+1) l (addT tr ⟨o.d,.tup [],[],[],slotsO o,o.a⟩) Q .normal (putd o.d (.tup []) fr) σ):regQ c site k (o::l) tr Q .normal fr σ:=by
 obtain⟨d,g,af,o⟩:=o
 obtain⟨t,w,h1,h2⟩:=goG_zero ht hg
 simp only at h1
 subst h1
 have hne:(!w)≠w:=by cases w<;>simp
 cases tr with
 |none=>
  simp only[regQ,addT]at h⊢
  rcases h2 with h2|h2
  ·exact .inl ⟨!w,h2,λhn=>absurd hn hne,λ_=>h⟩
  ·exact .inr ⟨h2,h⟩
 |some tr=>
  simp only[regQ,addT]at h⊢
  rcases h2 with h2|h2
  ·exact .inl ⟨!w,h2,λhn=>absurd hn hne,λ_=>h⟩
  ·exact .inr ⟨h2,h⟩
theorem popE_ok {i:Nat}(h:popE i s=some s'):sem c s' .normal fr σ->sem c s (.exit i) fr σ:=by
 induction s with
 |nil=>cases h
 |cons x s ih=>
  cases x with
  |b n=>
   simp only[popE]at h
   intro hs
   simp only[sem,blockQ]
   split at h
   ·rename_i e he
    simp only[Option.some.injEq]at h
    subst h
    rw[he]
    exact hs
   ·rename_i e he
    rw[he]
    exact ih h hs
  |k y=>exact λhs=>ih h hs
  |o a b l t=>exact λhs=>ih h hs
  |j J=>exact λhs=>ih h hs
  |l J n=>cases h
  |e P B F vo σo=>cases h
theorem popR_ok (h:popR s=some s'):sem c s' .normal fr σ->sem c s .ret fr σ:=by
 induction s with
 |nil=>cases h
 |cons x s ih=>
  cases x with
  |b n=>exact λhs=>ih h hs
  |k y=>exact λhs=>ih h hs
  |o a b l t=>exact λhs=>ih h hs
  |j J=>exact λhs=>ih h hs
  |l J n=>cases h
  |e P B F vo σo=>
   simp only[popR,Option.some.injEq]at h
   subst h
   rintro⟨_,h2⟩
   exact⟨.inl rfl,h2⟩
theorem popX_ok {i:Option Nat}(h:popX i s=some s'):sem c s' (exN i) fr σ->sem c s (exN i) fr σ:=by
 induction s with
 |nil=>cases h
 |cons x s ih=>
  cases x with
  |b n=>
   intro hs
   simp only[popX]at h
   cases i with
   |none=>exact ih h hs
   |some i=>
    simp only at h
    split at h
    ·cases h
    ·rename_i e he
     simp only[sem,blockQ,exN,he]
     exact ih h hs
  |k y=>intro hs;have:=ih h hs;cases i<;>exact this
  |o a b l t=>intro hs;have:=ih h hs;cases i<;>exact this
  |j J=>intro hs;have:=ih h hs;cases i<;>exact this
  |l J n=>
   simp only[popX,Option.some.injEq]at h
   subst h
   intro hs
   cases i<;>exact hs
  |e P B F vo σo=>cases h
theorem X0_ok (hB:c.B.m<=1000)(hmix:c.P.follows .mixedOrders=true){q:Nat}:∀{n:Nat}{s s':List Fm}{tl tl':Tl}{fr fr':Fr}{σ σ':St},X0 q n s tl fr σ=some (s',tl',fr',σ')->TlOk tl fr->TlOk tl' fr'/\(sem c s' .normal fr' σ'->sem c s .normal fr σ):=by
 intro n
 induction n with
 |zero=>
  intro s s' tl tl' fr fr' σ σ' h ht
  simp only[X0,Option.some.injEq,Prod.mk.injEq]at h
  obtain⟨rfl,rfl,rfl,rfl⟩:=h
  exact⟨ht,id⟩
 |succ n ih=>
  intro s s' tl tl' fr fr' σ σ' h ht
  have stay:some (s,tl,fr,σ)=some (s',tl',fr',σ')->TlOk tl' fr'/\(sem c s' .normal fr' σ'->sem c s .normal fr σ):=by
   intro h
   simp only[Option.some.injEq,Prod.mk.injEq]at h
   obtain⟨rfl,rfl,rfl,rfl⟩:=h
   exact⟨ht,id⟩
  have via:∀{s1:List Fm}{tl1:Tl}{fr1:Fr}{σ1:St},X0 q n s1 tl1 fr1 σ1=some (s',tl',fr',σ')->TlOk tl1 fr1->(sem c s1 .normal fr1 σ1->sem c s .normal fr σ)->TlOk tl' fr'/\(sem c s' .normal fr' σ'->sem c s .normal fr σ):=by
   intro s1 tl1 fr1 σ1 h1 h2 h3
   obtain⟨h4,h5⟩:=ih h1 h2
   exact⟨h4,λh=>h3 (h5 h)⟩
  cases s with
  |nil=>exact stay h
  |cons x s=>
   cases x with
   |k y=>
    cases y with
    |ops site dr l=>
     simp only[X0]at h
     split at h
     ·exact stay h
     ·refine via h ht λhs=> ?_
      cases dr with
      |false=>exact Run.ops hB hs
      |true=>exact Run.draw hB hmix hs
    |skip=>exact via h ht λhs=>Run.skip hs
    |seq a b=>
     simp only[X0]at h
     split at h
     ·exact stay h
     ·exact via h ht λhs=>Run.seq hs
    |block i x=>exact via h ht λhs=>Run.block hs
    |cond a x y=>
     simp only[X0]at h
     split at h
     ·rename_i hc;exact via h ht λhs=>Run.condT (srcT_ok ht hc) rfl hs
     ·rename_i hc;exact via h ht λhs=>Run.condF (srcT_ok ht hc) rfl hs
     ·exact stay h
    |exit i=>
     simp only[X0]at h
     split at h
     ·rename_i hp;exact via h ht λhs=>Run.exit (popE_ok hp hs)
     ·exact stay h
    |ret=>
     simp only[X0]at h
     split at h
     ·rename_i hp
      simp only[Option.some.injEq,Prod.mk.injEq]at h
      obtain⟨rfl,rfl,rfl,rfl⟩:=h
      exact⟨ht,λhs=>Run.ret (popR_ok hp hs)⟩
     ·exact stay h
    |loop x=>exact stay h
   |b i=>exact via h ht λhs=>hs
   |o site k l tr=>
    cases l with
    |nil=>
     cases tr with
     |none=>exact via h ht λhs=>hs
     |some tr=>exact stay h
    |cons o l=>
     obtain⟨d,g,af,o⟩:=o
     simp only[X0]at h
     split at h
     ·rename_i hg
      split at h<;>try simp only[reduceCtorEq]at h
      rename_i hf
      obtain⟨h1,rfl,rfl⟩:=fin_ok hf ht (λb hb=>by cases hb)
      exact via h h1 λhs=>reg_skip (o:=⟨_,_,_,_⟩) ht hg hs
     ·rename_i hg
      split at h
      ·rename_i hst
       obtain⟨h1,h2⟩:=stepT_ok (P:=c.P) ht hst
       split at h<;>try simp only[reduceCtorEq]at h
       rename_i hf
       obtain⟨h3,rfl,rfl⟩:=fin_ok hf ht h2
       exact via h h3 λhs=>reg_go (o:=⟨_,_,_,_⟩) ht hg (.mk h1) hs
      ·exact stay h
     ·exact stay h
   |j J=>exact stay h
   |l J n=>exact stay h
   |e P B F vo σo=>exact stay h
end
def G {β:Type}(c:Ctx)(m:Nat)(s:List Fm)(tl:Tl)(fr:Fr)(σ:St)(p:Option β)(r:β):Prop:=
 c.B.m=m->m<=1000->c.P.follows .mixedOrders=true->TlOk tl fr->p=some r->sem c s .normal fr σ
def Gm (P:Program)(B:Begin)(N m:Nat)(fr:Fr)(σ:St)(fr':Fr)(σ':St):Prop:=B.m=m->Gh P B N fr σ fr' σ'
def jJ {α β:Type}(k:α->Option β)(r:β)(FR:α->Fr)(SG:α->St):Fr->St->Prop:=λfr σ=>∃v,k v=some r/\fr=FR v/\σ=SG v
class HM (P:Program):Prop where
 ok:P.follows .mixedOrders=true
class Sem (P:Program) (f:Nat) {R:Type} (p:Option R) (vs:outParam (List V)) (m:outParam Nat) (σ:outParam St) (vo:outParam (R->V)) (σo:outParam (R->St)):Prop where
 says:∀r,p=some r->Says P f vs m σ (vo r) (σo r)
section
variable {α β ρ:Type} {c:Ctx} {m:Nat} {s s' s1 s2 s3:List Fm} {tl tl' tl1:Tl} {fr fr' fr0 fr1 fr2:Fr} {σ σ' σ0 σ1 σ2:St} {p:Option β} {r:β}
theorem G.x {q:Nat}(hx:X0 q 999 s tl fr σ=some (s',tl',fr',σ'))(h:G c m s' tl' fr' σ' p r):G c m s tl fr σ p r:=by
 intro hB hm hf ht hp
 obtain⟨h1,h2⟩:=X0_ok (c:=c) (by omega) hf hx ht
 exact h2 (h hB hm hf h1 hp)
theorem G.no:G c m s tl fr σ (none:Option β) r:=by
 intro _ _ _ _ hp
 cases hp
theorem G.st {site k:Nat}{d:Option Nat}{g:Option (Nat×Bool)}{af:List Nat}{o:O}{l:List Op1}{tr:Option (List Tr)}{v:V}{ws:St}{R:List Nat}(hx:X0 0 999 s tl fr σ=some (.o site k (⟨d,g,af,o⟩::l) tr::s',tl',fr',σ'))(he:Ev c.P fr' σ' (sid site k) o v ws R)(hσ:fin d none v ws tl' fr' σ'=some (tl1,fr1,σ1))
  (h:G c m (.o site (k+1) l (addT tr ⟨d,v,ws,refsO fr' o++R,slotsO ⟨d,g,af,o⟩,af⟩)::s') tl1 fr1 σ1 p r) (hg:goG tl' fr' g=1:=by exact rfl):G c m s tl fr σ p r:=by
 refine G.x hx λhB hm hf ht hp=> ?_
 obtain⟨h1,rfl,rfl⟩:=fin_ok hσ ht (λb hb=>by cases hb)
 exact reg_go (o:=⟨d,g,af,o⟩) ht hg (.mk he) (h hB hm hf h1 hp)
theorem G.stz {site k:Nat}{d:Option Nat}{g:Option (Nat×Bool)}{af:List Nat}{o:O}{l:List Op1}{tr:Option (List Tr)}{v:V}{ws:St}{R:List Nat}(hx:X0 0 999 s tl fr σ=some (.o site k (⟨d,g,af,o⟩::l) tr::s',tl',fr',σ'))(he:EvZ c.P fr' σ' (sid site k) o v ws R)(hσ:fin d none v ws tl' fr' σ'=some (tl1,fr1,σ1))
  (h:G c m (.o site (k+1) l (addT tr ⟨d,v,ws,refsO fr' o++R,slotsO ⟨d,g,af,o⟩,af⟩)::s') tl1 fr1 σ1 p r) (hg:goG tl' fr' g=1:=by exact rfl):G c m s tl fr σ p r:=by
 refine G.x hx λhB hm hf ht hp=> ?_
 obtain⟨h1,rfl,rfl⟩:=fin_ok hσ ht (λb hb=>by cases hb)
 exact reg_go (o:=⟨d,g,af,o⟩) ht hg he (h hB hm hf h1 hp)
theorem G.B {o:Option α}{kk:α->Option β}(h:∀x,o=some x->G c m s tl fr σ (kk x) r):G c m s tl fr σ (o.bind kk) r:=by
 intro hB hm hf ht hp
 obtain⟨x,h1,h2⟩:=bindO hp
 exact h x h1 hB hm hf ht h2
theorem G.a {b:Bool}{n:Nat}{A1 A2:Option β}(hx:X0 0 999 s tl fr σ=some (s',tl',fr',σ'))(hn:askN tl' fr' s'=some n)(h1:G c m s' ((n,true)::tl') fr' σ' A1 r)(h2:G c m s' ((n,false)::tl') fr' σ' A2 r)(hb:get fr' n=.c (.b b):=by exact rfl):G c m s tl fr σ (if b=true then A1 else A2) r:=by
 refine G.x hx λhB hm hf ht hp=> ?_
 cases b with
 |true=>exact h1 hB hm hf (ht.cons hb) (by simpa using hp)
 |false=>exact h2 hB hm hf (ht.cons hb) (by simpa using hp)
theorem G.a' {b:Bool}{n:Nat}{A1 A2:Option β}(hx:X0 0 999 s tl fr σ=some (s',tl',fr',σ'))(hn:askN tl' fr' s'=some n)(h1:b=true->G c m s' ((n,true)::tl') fr' σ' A1 r)(h2:b=false->G c m s' ((n,false)::tl') fr' σ' A2 r)(hb:get fr' n=.c (.b b):=by exact rfl):G c m s tl fr σ (if b=true then A1 else A2) r:=by
 refine G.x hx λhB hm hf ht hp=> ?_
 cases b with
 |true=>exact h1 rfl hB hm hf (ht.cons hb) (by simpa using hp)
 |false=>exact h2 rfl hB hm hf (ht.cons hb) (by simpa using hp)
theorem G.kn {b w:Bool}{n:Nat}(hx:X0 0 999 s tl fr σ=some (s',tl',fr',σ'))(hn:askN tl' fr' s'=some n)(hb:get fr' n=.c (.b b))(hw:b=w)(h:G c m s' ((n,w)::tl') fr' σ' p r):G c m s tl fr σ p r:=by
 refine G.x hx λhB hm hf ht hp=> ?_
 subst hw
 exact h hB hm hf (ht.cons hb) hp
theorem G.q {a b:K}(hx:X0 0 999 s tl fr σ=some (.k (.seq a b)::s',tl',fr',σ'))(h:G c m (.k a:: .k b::s') tl' fr' σ' p r):G c m s tl fr σ p r:=
 G.x hx λhB hm hf ht hp=>Run.seq (h hB hm hf ht hp)
theorem G.j {a y:K}{kk:α->Option β}{body:(α->Option β)->Option β}(hx:X0 0 999 s tl fr σ=some (.k (.seq a y)::s',tl',fr',σ'))(FR:α->Fr)(SG:α->St)(h1:∀j:α->Option β,G c m (.k a:: .j (jJ j r FR SG)::s') tl' fr' σ' (body j) r)(h2:∀v,G c m (.k y::s') [] (FR v) (SG v) (kk v) r):G c m s tl fr σ (joinP kk body) r:=by
 refine G.x hx λhB hm hf ht hp=> ?_
 refine Run.seqJ (jJ kk r FR SG) (h1 kk hB hm hf ht hp) ?_
 rintro fr σ ⟨v,hv,rfl,rfl⟩
 exact h2 v hB hm hf TlOk.nil hv
theorem G.J {kk:α->Option β}{FR:α->Fr}{SG:α->St}{t:α}(hx:X0 0 999 s tl fr σ=some (.j (jJ kk r FR SG)::s',tl',fr',σ'))(hg:Gm c.P c.B c.N m fr' σ' (FR t) (SG t)):G c m s tl fr σ (kk t) r:=
 G.x hx λhB hm hf ht hp=>⟨_,_,hg hB,t,hp,rfl,rfl⟩
theorem G.jk {a y:K}{kk:α->Option β}{body:(α->Option β)->Option β}{FR:α->Fr}{SG:α->St}(hx:X0 0 999 s tl fr σ=some (.k (.seq a y)::s',tl',fr',σ'))(ts rs:List Nat)(l:α->List Ch)(hk:∀v,knew ts rs (l v) fr' σ'=some (FR v,SG v))(h1:∀j:α->Option β,G c m (.k a:: .j (jJ j r FR SG)::s') tl' fr' σ' (body j) r)(h2:∀v,G c m (.k y::s') [] (FR v) (SG v) (kk v) r):G c m s tl fr σ (joinP kk body) r:=G.j hx FR SG h1 h2
def Kq (kk:ρ->Option β)(q:ρ)(r:β):Prop:=kk q=some r
theorem G.L {p0:Option ρ}{kk:ρ->Option β}{x:K}{n0:Nat}(hx:X0 0 999 s tl fr σ=some (.k (.loop x)::s',tl',fr',σ'))(J:ρ->Nat->Fr->St->Prop)(hg:Gm c.P c.B c.N m fr' σ' fr0 σ0)(h0:∀q,p0=some q->J q n0 fr0 σ0)(h:∀q,kk q=some r->∀n fr σ,J q n fr σ->c.B.m=m->m<=1000->c.P.follows .mixedOrders=true->Run c x fr σ (roundQ c (J q) n (sem c s'))):G c m s tl fr σ (p0.bind kk) r:=by
 refine G.x hx λhB hm hf ht hp=> ?_
 obtain⟨q,h1,h2⟩:=bindO hp
 exact Run.loop (J q) (hg hB) (h0 q h1) λn fr σ hJ=>h q h2 n fr σ hJ hB hm hf
def GX {β:Type}(c:Ctx)(m:Nat)(i:Option Nat)(s:List Fm)(tl:Tl)(fr:Fr)(σ:St)(p:Option β)(r:β):Prop:=
 c.B.m=m->m<=1000->c.P.follows .mixedOrders=true->TlOk tl fr->p=some r->sem c s (exN i) fr σ
theorem G.X {kk:ρ->Option β}{q t:ρ}{i:Nat}(k:Kq kk q r)(hx:X0 0 999 s tl fr σ=some (.k (.exit i)::s1,tl',fr',σ'))(h1:popX (some i) s1=some s2)(h:GX c m (some i) s2 tl' fr' σ' (kk t) r):G c m s tl fr σ (some t) q:=
 G.x hx λhB hm hf ht hp=>Run.exit (popX_ok h1 (h hB hm hf ht (by rw[someO hp];exact k)))
theorem G.Xr {kk:ρ->Option β}{q t:ρ}(k:Kq kk q r)(hx:X0 0 999 s tl fr σ=some (.k .ret::s1,tl',fr',σ'))(h1:popX none s1=some s2)(h:GX c m none s2 tl' fr' σ' (kk t) r):G c m s tl fr σ (some t) q:=
 G.x hx λhB hm hf ht hp=>Run.ret (popX_ok (i:=none) h1 (h hB hm hf ht (by rw[someO hp];exact k)))
theorem GX.n {i:Nat}(h1:popE i s=some s')(h:G c m s' tl fr σ p r):GX c m (some i) s tl fr σ p r:=λhB hm hf ht hp=>popE_ok h1 (h hB hm hf ht hp)
theorem GX.e (h1:popR s=some s')(h:G c m s' tl fr σ p r):GX c m none s tl fr σ p r:=λhB hm hf ht hp=>popR_ok h1 (h hB hm hf ht hp)
theorem GX.il {ρ':Type}{f:ρ->Option β}{g:ρ'->Option β}{u:ρ}{i:Option Nat}(h:GX c m i s tl fr σ (f u) r):GX c m i s tl fr σ (Sum.elim f g (.inl u)) r:=h
theorem GX.ir {ρ':Type}{f:ρ->Option β}{g:ρ'->Option β}{u:ρ'}{i:Option Nat}(h:GX c m i s tl fr σ (g u) r):GX c m i s tl fr σ (Sum.elim f g (.inr u)) r:=h
theorem G.R {q:β}{J:Nat->Fr->St->Prop}{n:Nat}(hx:X0 0 999 s tl fr σ=some (.l J (n+1)::s',tl',fr',σ'))(hJ:p=some q->J n fr0 σ0)(hg:Gm c.P c.B c.N m fr' σ' fr0 σ0):G c m s tl fr σ p q:=
 G.x hx λhB hm hf ht hp=>⟨n,Nat.lt_succ_self n,_,_,hg hB,hJ hp⟩
def lJ0 (F:Nat->Option ρ)(q:ρ)(FR:Fr)(SG:St):Nat->Fr->St->Prop:=λn fr σ=>F n=some q/\fr=FR/\σ=SG
theorem G.L0 {F:Nat->Option ρ}{kk:ρ->Option β}{x:K}{n0:Nat}(hx:X0 0 999 s tl fr σ=some (.k (.loop x)::s',tl',fr',σ'))(FR:Fr)(SG:St)(hg:Gm c.P c.B c.N m fr' σ' (FR) (SG))(h:∀n q,Kq kk q r->G c m (.k x:: .l (lJ0 F q FR SG) (n+1)::s') [] (FR) (SG) (F (n+1)) q)(h0:F 0=none:=by intros;rfl):G c m s tl fr σ ((F n0).bind kk) r:=G.L hx (λq=>lJ0 F q FR SG) hg (λq hq=>⟨hq,rfl,rfl⟩) (by
 rintro q hq n fr σ ⟨hF,rfl,rfl⟩ hB hm hf
 cases n with
 |zero=>rw[h0]at hF;cases hF
 |succ n=>exact h n q hq hB hm hf TlOk.nil hF)
def lJ1 {A0:Type}(F:Nat->A0->Option ρ)(q:ρ)(FR:A0->Fr)(SG:A0->St):Nat->Fr->St->Prop:=λn fr σ=>∃a0,F n a0=some q/\fr=FR a0/\σ=SG a0
theorem G.L1 {A0:Type}{F:Nat->A0->Option ρ}{kk:ρ->Option β}{x:K}{n0:Nat}{a0:A0}(hx:X0 0 999 s tl fr σ=some (.k (.loop x)::s',tl',fr',σ'))(FR:A0->Fr)(SG:A0->St)(hg:Gm c.P c.B c.N m fr' σ' (FR a0) (SG a0))(h:∀n a0 q,Kq kk q r->G c m (.k x:: .l (lJ1 F q FR SG) (n+1)::s') [] (FR a0) (SG a0) (F (n+1) a0) q)(h0:∀a0,F 0 a0=none:=by intros;rfl):G c m s tl fr σ ((F n0 a0).bind kk) r:=G.L hx (λq=>lJ1 F q FR SG) hg (λq hq=>⟨_,hq,rfl,rfl⟩) (by
 rintro q hq n fr σ ⟨a0,hF,rfl,rfl⟩ hB hm hf
 cases n with
 |zero=>rw[h0]at hF;cases hF
 |succ n=>exact h n a0 q hq hB hm hf TlOk.nil hF)
def lJ2 {A0 A1:Type}(F:Nat->A0->A1->Option ρ)(q:ρ)(FR:A0->A1->Fr)(SG:A0->A1->St):Nat->Fr->St->Prop:=λn fr σ=>∃a0 a1,F n a0 a1=some q/\fr=FR a0 a1/\σ=SG a0 a1
theorem G.L2 {A0 A1:Type}{F:Nat->A0->A1->Option ρ}{kk:ρ->Option β}{x:K}{n0:Nat}{a0:A0}{a1:A1}(hx:X0 0 999 s tl fr σ=some (.k (.loop x)::s',tl',fr',σ'))(FR:A0->A1->Fr)(SG:A0->A1->St)(hg:Gm c.P c.B c.N m fr' σ' (FR a0 a1) (SG a0 a1))(h:∀n a0 a1 q,Kq kk q r->G c m (.k x:: .l (lJ2 F q FR SG) (n+1)::s') [] (FR a0 a1) (SG a0 a1) (F (n+1) a0 a1) q)(h0:∀a0 a1,F 0 a0 a1=none:=by intros;rfl):G c m s tl fr σ ((F n0 a0 a1).bind kk) r:=G.L hx (λq=>lJ2 F q FR SG) hg (λq hq=>⟨_,_,hq,rfl,rfl⟩) (by
 rintro q hq n fr σ ⟨a0,a1,hF,rfl,rfl⟩ hB hm hf
 cases n with
 |zero=>rw[h0]at hF;cases hF
 |succ n=>exact h n a0 a1 q hq hB hm hf TlOk.nil hF)
def lJ3 {A0 A1 A2:Type}(F:Nat->A0->A1->A2->Option ρ)(q:ρ)(FR:A0->A1->A2->Fr)(SG:A0->A1->A2->St):Nat->Fr->St->Prop:=λn fr σ=>∃a0 a1 a2,F n a0 a1 a2=some q/\fr=FR a0 a1 a2/\σ=SG a0 a1 a2
theorem G.L3 {A0 A1 A2:Type}{F:Nat->A0->A1->A2->Option ρ}{kk:ρ->Option β}{x:K}{n0:Nat}{a0:A0}{a1:A1}{a2:A2}(hx:X0 0 999 s tl fr σ=some (.k (.loop x)::s',tl',fr',σ'))(FR:A0->A1->A2->Fr)(SG:A0->A1->A2->St)(hg:Gm c.P c.B c.N m fr' σ' (FR a0 a1 a2) (SG a0 a1 a2))(h:∀n a0 a1 a2 q,Kq kk q r->G c m (.k x:: .l (lJ3 F q FR SG) (n+1)::s') [] (FR a0 a1 a2) (SG a0 a1 a2) (F (n+1) a0 a1 a2) q)(h0:∀a0 a1 a2,F 0 a0 a1 a2=none:=by intros;rfl):G c m s tl fr σ ((F n0 a0 a1 a2).bind kk) r:=G.L hx (λq=>lJ3 F q FR SG) hg (λq hq=>⟨_,_,_,hq,rfl,rfl⟩) (by
 rintro q hq n fr σ ⟨a0,a1,a2,hF,rfl,rfl⟩ hB hm hf
 cases n with
 |zero=>rw[h0]at hF;cases hF
 |succ n=>exact h n a0 a1 a2 q hq hB hm hf TlOk.nil hF)
def lJ4 {A0 A1 A2 A3:Type}(F:Nat->A0->A1->A2->A3->Option ρ)(q:ρ)(FR:A0->A1->A2->A3->Fr)(SG:A0->A1->A2->A3->St):Nat->Fr->St->Prop:=λn fr σ=>∃a0 a1 a2 a3,F n a0 a1 a2 a3=some q/\fr=FR a0 a1 a2 a3/\σ=SG a0 a1 a2 a3
theorem G.L4 {A0 A1 A2 A3:Type}{F:Nat->A0->A1->A2->A3->Option ρ}{kk:ρ->Option β}{x:K}{n0:Nat}{a0:A0}{a1:A1}{a2:A2}{a3:A3}(hx:X0 0 999 s tl fr σ=some (.k (.loop x)::s',tl',fr',σ'))(FR:A0->A1->A2->A3->Fr)(SG:A0->A1->A2->A3->St)(hg:Gm c.P c.B c.N m fr' σ' (FR a0 a1 a2 a3) (SG a0 a1 a2 a3))(h:∀n a0 a1 a2 a3 q,Kq kk q r->G c m (.k x:: .l (lJ4 F q FR SG) (n+1)::s') [] (FR a0 a1 a2 a3) (SG a0 a1 a2 a3) (F (n+1) a0 a1 a2 a3) q)(h0:∀a0 a1 a2 a3,F 0 a0 a1 a2 a3=none:=by intros;rfl):G c m s tl fr σ ((F n0 a0 a1 a2 a3).bind kk) r:=G.L hx (λq=>lJ4 F q FR SG) hg (λq hq=>⟨_,_,_,_,hq,rfl,rfl⟩) (by
 rintro q hq n fr σ ⟨a0,a1,a2,a3,hF,rfl,rfl⟩ hB hm hf
 cases n with
 |zero=>rw[h0]at hF;cases hF
 |succ n=>exact h n a0 a1 a2 a3 q hq hB hm hf TlOk.nil hF)
def lJ5 {A0 A1 A2 A3 A4:Type}(F:Nat->A0->A1->A2->A3->A4->Option ρ)(q:ρ)(FR:A0->A1->A2->A3->A4->Fr)(SG:A0->A1->A2->A3->A4->St):Nat->Fr->St->Prop:=λn fr σ=>∃a0 a1 a2 a3 a4,F n a0 a1 a2 a3 a4=some q/\fr=FR a0 a1 a2 a3 a4/\σ=SG a0 a1 a2 a3 a4
theorem G.L5 {A0 A1 A2 A3 A4:Type}{F:Nat->A0->A1->A2->A3->A4->Option ρ}{kk:ρ->Option β}{x:K}{n0:Nat}{a0:A0}{a1:A1}{a2:A2}{a3:A3}{a4:A4}(hx:X0 0 999 s tl fr σ=some (.k (.loop x)::s',tl',fr',σ'))(FR:A0->A1->A2->A3->A4->Fr)(SG:A0->A1->A2->A3->A4->St)(hg:Gm c.P c.B c.N m fr' σ' (FR a0 a1 a2 a3 a4) (SG a0 a1 a2 a3 a4))(h:∀n a0 a1 a2 a3 a4 q,Kq kk q r->G c m (.k x:: .l (lJ5 F q FR SG) (n+1)::s') [] (FR a0 a1 a2 a3 a4) (SG a0 a1 a2 a3 a4) (F (n+1) a0 a1 a2 a3 a4) q)(h0:∀a0 a1 a2 a3 a4,F 0 a0 a1 a2 a3 a4=none:=by intros;rfl):G c m s tl fr σ ((F n0 a0 a1 a2 a3 a4).bind kk) r:=G.L hx (λq=>lJ5 F q FR SG) hg (λq hq=>⟨_,_,_,_,_,hq,rfl,rfl⟩) (by
 rintro q hq n fr σ ⟨a0,a1,a2,a3,a4,hF,rfl,rfl⟩ hB hm hf
 cases n with
 |zero=>rw[h0]at hF;cases hF
 |succ n=>exact h n a0 a1 a2 a3 a4 q hq hB hm hf TlOk.nil hF)
def lJ6 {A0 A1 A2 A3 A4 A5:Type}(F:Nat->A0->A1->A2->A3->A4->A5->Option ρ)(q:ρ)(FR:A0->A1->A2->A3->A4->A5->Fr)(SG:A0->A1->A2->A3->A4->A5->St):Nat->Fr->St->Prop:=λn fr σ=>∃a0 a1 a2 a3 a4 a5,F n a0 a1 a2 a3 a4 a5=some q/\fr=FR a0 a1 a2 a3 a4 a5/\σ=SG a0 a1 a2 a3 a4 a5
theorem G.L6 {A0 A1 A2 A3 A4 A5:Type}{F:Nat->A0->A1->A2->A3->A4->A5->Option ρ}{kk:ρ->Option β}{x:K}{n0:Nat}{a0:A0}{a1:A1}{a2:A2}{a3:A3}{a4:A4}{a5:A5}(hx:X0 0 999 s tl fr σ=some (.k (.loop x)::s',tl',fr',σ'))(FR:A0->A1->A2->A3->A4->A5->Fr)(SG:A0->A1->A2->A3->A4->A5->St)(hg:Gm c.P c.B c.N m fr' σ' (FR a0 a1 a2 a3 a4 a5) (SG a0 a1 a2 a3 a4 a5))(h:∀n a0 a1 a2 a3 a4 a5 q,Kq kk q r->G c m (.k x:: .l (lJ6 F q FR SG) (n+1)::s') [] (FR a0 a1 a2 a3 a4 a5) (SG a0 a1 a2 a3 a4 a5) (F (n+1) a0 a1 a2 a3 a4 a5) q)(h0:∀a0 a1 a2 a3 a4 a5,F 0 a0 a1 a2 a3 a4 a5=none:=by intros;rfl):G c m s tl fr σ ((F n0 a0 a1 a2 a3 a4 a5).bind kk) r:=G.L hx (λq=>lJ6 F q FR SG) hg (λq hq=>⟨_,_,_,_,_,_,hq,rfl,rfl⟩) (by
 rintro q hq n fr σ ⟨a0,a1,a2,a3,a4,a5,hF,rfl,rfl⟩ hB hm hf
 cases n with
 |zero=>rw[h0]at hF;cases hF
 |succ n=>exact h n a0 a1 a2 a3 a4 a5 q hq hB hm hf TlOk.nil hF)
theorem G.K0 {F:Nat->Option ρ}{kk:ρ->Option β}{x:K}{n0:Nat}{FR:Fr}{SG:St}{fr1:Fr}{σ1:St}(hx:X0 0 999 s tl fr σ=some (.k (.loop x)::s',tl',fr',σ'))(ts rs:List Nat)(l:List Ch)(hk:knew ts rs l fr' σ'=some (FR,SG))(h:∀n q,Kq kk q r->G c m (.k x:: .l (lJ0 F q FR SG) (n+1)::s') [] FR SG (F (n+1)) q)(hok:(nodupB rs&&firsts 0 m rs)=true:=by exact rfl)(hg:nz (keepF (idx rs) fr' ts) (pickS rs σ')=some (fr1,σ1):=by exact rfl)(e1:fr1=FR:=by first|exact rfl|(simp only[List.length_set,takeMap,List.drop_zero,List.map_nil];done)|(simp only[List.length_set,takeMap,List.drop_zero,List.map_nil];rfl))(e2:σ1=SG:=by first|exact rfl|(simp only[List.length_set,takeMap,List.drop_zero,List.map_nil];done)|(simp only[List.length_set,takeMap,List.drop_zero,List.map_nil];rfl))(h0:F 0=none:=by intros;rfl):G c m s tl fr σ ((F n0).bind kk) r:=G.L0 hx FR SG (λhB=>gh_pk ts rs hB hok hg e1 e2) h h0
theorem G.K1 {A0:Type}{F:Nat->A0->Option ρ}{kk:ρ->Option β}{x:K}{n0:Nat}{a0:A0}{FR:A0->Fr}{SG:A0->St}{fr1:Fr}{σ1:St}(hx:X0 0 999 s tl fr σ=some (.k (.loop x)::s',tl',fr',σ'))(ts rs:List Nat)(l:A0->List Ch)(hk:∀a0,knew ts rs (l a0) fr' σ'=some (FR a0,SG a0))(h:∀n a0 q,Kq kk q r->G c m (.k x:: .l (lJ1 F q FR SG) (n+1)::s') [] (FR a0) (SG a0) (F (n+1) a0) q)(hok:(nodupB rs&&firsts 0 m rs)=true:=by exact rfl)(hg:nz (keepF (idx rs) fr' ts) (pickS rs σ')=some (fr1,σ1):=by exact rfl)(e1:fr1=FR a0:=by first|exact rfl|(simp only[List.length_set,takeMap,List.drop_zero,List.map_nil];done)|(simp only[List.length_set,takeMap,List.drop_zero,List.map_nil];rfl))(e2:σ1=SG a0:=by first|exact rfl|(simp only[List.length_set,takeMap,List.drop_zero,List.map_nil];done)|(simp only[List.length_set,takeMap,List.drop_zero,List.map_nil];rfl))(h0:∀a0,F 0 a0=none:=by intros;rfl):G c m s tl fr σ ((F n0 a0).bind kk) r:=G.L1 hx FR SG (λhB=>gh_pk ts rs hB hok hg e1 e2) h h0
theorem G.K2 {A0 A1:Type}{F:Nat->A0->A1->Option ρ}{kk:ρ->Option β}{x:K}{n0:Nat}{a0:A0}{a1:A1}{FR:A0->A1->Fr}{SG:A0->A1->St}{fr1:Fr}{σ1:St}(hx:X0 0 999 s tl fr σ=some (.k (.loop x)::s',tl',fr',σ'))(ts rs:List Nat)(l:A0->A1->List Ch)(hk:∀a0 a1,knew ts rs (l a0 a1) fr' σ'=some (FR a0 a1,SG a0 a1))(h:∀n a0 a1 q,Kq kk q r->G c m (.k x:: .l (lJ2 F q FR SG) (n+1)::s') [] (FR a0 a1) (SG a0 a1) (F (n+1) a0 a1) q)(hok:(nodupB rs&&firsts 0 m rs)=true:=by exact rfl)(hg:nz (keepF (idx rs) fr' ts) (pickS rs σ')=some (fr1,σ1):=by exact rfl)(e1:fr1=FR a0 a1:=by first|exact rfl|(simp only[List.length_set,takeMap,List.drop_zero,List.map_nil];done)|(simp only[List.length_set,takeMap,List.drop_zero,List.map_nil];rfl))(e2:σ1=SG a0 a1:=by first|exact rfl|(simp only[List.length_set,takeMap,List.drop_zero,List.map_nil];done)|(simp only[List.length_set,takeMap,List.drop_zero,List.map_nil];rfl))(h0:∀a0 a1,F 0 a0 a1=none:=by intros;rfl):G c m s tl fr σ ((F n0 a0 a1).bind kk) r:=G.L2 hx FR SG (λhB=>gh_pk ts rs hB hok hg e1 e2) h h0
theorem G.K3 {A0 A1 A2:Type}{F:Nat->A0->A1->A2->Option ρ}{kk:ρ->Option β}{x:K}{n0:Nat}{a0:A0}{a1:A1}{a2:A2}{FR:A0->A1->A2->Fr}{SG:A0->A1->A2->St}{fr1:Fr}{σ1:St}(hx:X0 0 999 s tl fr σ=some (.k (.loop x)::s',tl',fr',σ'))(ts rs:List Nat)(l:A0->A1->A2->List Ch)(hk:∀a0 a1 a2,knew ts rs (l a0 a1 a2) fr' σ'=some (FR a0 a1 a2,SG a0 a1 a2))(h:∀n a0 a1 a2 q,Kq kk q r->G c m (.k x:: .l (lJ3 F q FR SG) (n+1)::s') [] (FR a0 a1 a2) (SG a0 a1 a2) (F (n+1) a0 a1 a2) q)(hok:(nodupB rs&&firsts 0 m rs)=true:=by exact rfl)(hg:nz (keepF (idx rs) fr' ts) (pickS rs σ')=some (fr1,σ1):=by exact rfl)(e1:fr1=FR a0 a1 a2:=by first|exact rfl|(simp only[List.length_set,takeMap,List.drop_zero,List.map_nil];done)|(simp only[List.length_set,takeMap,List.drop_zero,List.map_nil];rfl))(e2:σ1=SG a0 a1 a2:=by first|exact rfl|(simp only[List.length_set,takeMap,List.drop_zero,List.map_nil];done)|(simp only[List.length_set,takeMap,List.drop_zero,List.map_nil];rfl))(h0:∀a0 a1 a2,F 0 a0 a1 a2=none:=by intros;rfl):G c m s tl fr σ ((F n0 a0 a1 a2).bind kk) r:=G.L3 hx FR SG (λhB=>gh_pk ts rs hB hok hg e1 e2) h h0
theorem G.K4 {A0 A1 A2 A3:Type}{F:Nat->A0->A1->A2->A3->Option ρ}{kk:ρ->Option β}{x:K}{n0:Nat}{a0:A0}{a1:A1}{a2:A2}{a3:A3}{FR:A0->A1->A2->A3->Fr}{SG:A0->A1->A2->A3->St}{fr1:Fr}{σ1:St}(hx:X0 0 999 s tl fr σ=some (.k (.loop x)::s',tl',fr',σ'))(ts rs:List Nat)(l:A0->A1->A2->A3->List Ch)(hk:∀a0 a1 a2 a3,knew ts rs (l a0 a1 a2 a3) fr' σ'=some (FR a0 a1 a2 a3,SG a0 a1 a2 a3))(h:∀n a0 a1 a2 a3 q,Kq kk q r->G c m (.k x:: .l (lJ4 F q FR SG) (n+1)::s') [] (FR a0 a1 a2 a3) (SG a0 a1 a2 a3) (F (n+1) a0 a1 a2 a3) q)(hok:(nodupB rs&&firsts 0 m rs)=true:=by exact rfl)(hg:nz (keepF (idx rs) fr' ts) (pickS rs σ')=some (fr1,σ1):=by exact rfl)(e1:fr1=FR a0 a1 a2 a3:=by first|exact rfl|(simp only[List.length_set,takeMap,List.drop_zero,List.map_nil];done)|(simp only[List.length_set,takeMap,List.drop_zero,List.map_nil];rfl))(e2:σ1=SG a0 a1 a2 a3:=by first|exact rfl|(simp only[List.length_set,takeMap,List.drop_zero,List.map_nil];done)|(simp only[List.length_set,takeMap,List.drop_zero,List.map_nil];rfl))(h0:∀a0 a1 a2 a3,F 0 a0 a1 a2 a3=none:=by intros;rfl):G c m s tl fr σ ((F n0 a0 a1 a2 a3).bind kk) r:=G.L4 hx FR SG (λhB=>gh_pk ts rs hB hok hg e1 e2) h h0
theorem G.K5 {A0 A1 A2 A3 A4:Type}{F:Nat->A0->A1->A2->A3->A4->Option ρ}{kk:ρ->Option β}{x:K}{n0:Nat}{a0:A0}{a1:A1}{a2:A2}{a3:A3}{a4:A4}{FR:A0->A1->A2->A3->A4->Fr}{SG:A0->A1->A2->A3->A4->St}{fr1:Fr}{σ1:St}(hx:X0 0 999 s tl fr σ=some (.k (.loop x)::s',tl',fr',σ'))(ts rs:List Nat)(l:A0->A1->A2->A3->A4->List Ch)(hk:∀a0 a1 a2 a3 a4,knew ts rs (l a0 a1 a2 a3 a4) fr' σ'=some (FR a0 a1 a2 a3 a4,SG a0 a1 a2 a3 a4))(h:∀n a0 a1 a2 a3 a4 q,Kq kk q r->G c m (.k x:: .l (lJ5 F q FR SG) (n+1)::s') [] (FR a0 a1 a2 a3 a4) (SG a0 a1 a2 a3 a4) (F (n+1) a0 a1 a2 a3 a4) q)(hok:(nodupB rs&&firsts 0 m rs)=true:=by exact rfl)(hg:nz (keepF (idx rs) fr' ts) (pickS rs σ')=some (fr1,σ1):=by exact rfl)(e1:fr1=FR a0 a1 a2 a3 a4:=by first|exact rfl|(simp only[List.length_set,takeMap,List.drop_zero,List.map_nil];done)|(simp only[List.length_set,takeMap,List.drop_zero,List.map_nil];rfl))(e2:σ1=SG a0 a1 a2 a3 a4:=by first|exact rfl|(simp only[List.length_set,takeMap,List.drop_zero,List.map_nil];done)|(simp only[List.length_set,takeMap,List.drop_zero,List.map_nil];rfl))(h0:∀a0 a1 a2 a3 a4,F 0 a0 a1 a2 a3 a4=none:=by intros;rfl):G c m s tl fr σ ((F n0 a0 a1 a2 a3 a4).bind kk) r:=G.L5 hx FR SG (λhB=>gh_pk ts rs hB hok hg e1 e2) h h0
theorem G.dn {site k:Nat}{tr:List Tr}(hx:X0 0 999 s tl fr σ=some (.o site k [] (some tr)::s',tl',fr',σ'))(h:G c m s' tl' fr' σ' p r)(hok:okDraw tr=true:=by kernel_rfl):G c m s tl fr σ p r:=
 G.x hx λhB hm hf ht hp=>⟨hok,h hB hm hf ht hp⟩
theorem G.E {F:F}{vr:V}{σr:St}{t:β}{us:List V}(hx:X0 0 999 s tl fr σ=some (.e c.P c.B F vr σr::s',tl',fr',σ'))(hu:resV fr' σ' F.res=some us)(hg:Gm c.P c.B us.length m (framed 0 us) σ' fr1 σ1)(hv:r=t->vr=oneV (gets fr1 0 us.length):=by intro h;subst h;first|exact rfl|(simp only[List.length_set,takeMap,List.drop_zero,List.map_nil];done)|(simp only[List.length_set,takeMap,List.drop_zero,List.map_nil];rfl))(hσ:r=t->σr=σ1:=by intro h;subst h;first|exact rfl|(simp only[List.length_set,takeMap,List.drop_zero,List.map_nil];done)|(simp only[List.length_set,takeMap,List.drop_zero,List.map_nil];rfl)):G c m s tl fr σ (some t) r:=
 G.x hx λhB hm hf ht hp=>by
  have h1:=(someO hp).symm
  rw[hv h1,hσ h1]
  exact⟨.inr rfl,us,hu,fr1,hg hB,rfl⟩
theorem G.Ek {F:F}{vr:V}{σr:St}{t:β}{us:List V}(rs:List Nat)(hx:X0 0 999 s tl fr σ=some (.e c.P c.B F vr σr::s',tl',fr',σ'))(hu:resV fr' σ' F.res=some us)(h:nz (keepF (idx rs) (framed 0 us) (upto 0 us.length)) (pickS rs σ')=some (fr1,σ1))(hok:(nodupB rs&&firsts 0 m rs)=true:=by exact rfl)(hv:r=t->vr=oneV (gets fr1 0 us.length):=by intro h;subst h;first|exact rfl|(simp only[List.length_set,takeMap,List.drop_zero,List.map_nil];done)|(simp only[List.length_set,takeMap,List.drop_zero,List.map_nil];rfl))(hσ:r=t->σr=σ1:=by intro h;subst h;first|exact rfl|(simp only[List.length_set,takeMap,List.drop_zero,List.map_nil];done)|(simp only[List.length_set,takeMap,List.drop_zero,List.map_nil];rfl)):G c m s tl fr σ (some t) r:=
 G.E hx hu (λhB=>gh_pk _ rs hB hok h rfl rfl) hv hσ
theorem sy {P:Program}{f:Nat}{R:Type}{p:Option R}{vs:List V}{m:Nat}{σ:St}{vo:R->V}{σo:R->St}[hs:Sem P f p vs m σ vo σo]{r:R}(h:p=some r):Says P f vs m σ (vo r) (σo r):=hs.says r h
section
variable {P:Program} {B:Begin} {N:Nat}
theorem Gm.g (h:B.m=m->Gh P B N fr σ fr' σ'):Gm P B N m fr σ fr' σ':=h
theorem Gm.t (h1:Gh P B N fr σ fr0 σ0)(h2:Gm P B N m fr0 σ0 fr' σ'):Gm P B N m fr σ fr' σ':=λhB=>.trans h1 (h2 hB)
theorem Gm.k (ts rs:List Nat)(hok:(nodupB rs&&firsts 0 m rs)=true:=by exact rfl)(h:nz (keepF (idx rs) fr ts) (pickS rs σ)=some (fr1,σ1):=by exact rfl)(e1:fr1=fr':=by first|exact rfl|(simp only[List.length_set,takeMap,List.drop_zero,List.map_nil];done)|(simp only[List.length_set,takeMap,List.drop_zero,List.map_nil];rfl))(e2:σ1=σ':=by first|exact rfl|(simp only[List.length_set,takeMap,List.drop_zero,List.map_nil];done)|(simp only[List.length_set,takeMap,List.drop_zero,List.map_nil];rfl)):Gm P B N m fr σ fr' σ':=λhB=>gh_pk ts rs hB hok h e1 e2
theorem Gm.n (ts a b b' rs:List Nat)(h0:prune m ts a fr σ=some (fr0,σ0):=by exact rfl)(h1:okSlots m 10000000 b fr0 σ0=true:=by exact rfl)(h2:okBoxes m 20000000 b' (nilSlots 10000000 b fr0 σ0).2=true:=by exact rfl)(h3:nz (nilSlots 10000000 b fr0 σ0).1 (nilBoxes 20000000 b' (nilSlots 10000000 b fr0 σ0).2)=some (fr2,σ2):=by exact rfl)(hok:(nodupB rs&&firsts 0 m rs)=true:=by exact rfl)(h:nz (keepF (idx rs) fr2 ts) (pickS rs σ2)=some (fr1,σ1):=by exact rfl)(e1:fr1=fr':=by first|exact rfl|(simp only[List.length_set,takeMap,List.drop_zero,List.map_nil];done)|(simp only[List.length_set,takeMap,List.drop_zero,List.map_nil];rfl))(e2:σ1=σ':=by first|exact rfl|(simp only[List.length_set,takeMap,List.drop_zero,List.map_nil];done)|(simp only[List.length_set,takeMap,List.drop_zero,List.map_nil];rfl)):Gm P B N m fr σ fr' σ':=λhB=>.trans (.trans (gh_prn ts a hB h0) (gh_nil b b' hB h1 h2 h3)) (gh_pk ts rs hB hok h e1 e2)
theorem Gm.ro (ts a b c d rs:List Nat)(h0:prune m ts a fr σ=some (fr0,σ0):=by exact rfl)(h3:nz (roFr σ0 c d fr0 ts) (roBx c d b σ0)=some (fr2,σ2):=by exact rfl)(hok:(nodupB rs&&firsts 0 m rs)=true:=by exact rfl)(h:nz (keepF (idx rs) fr2 ts) (pickS rs σ2)=some (fr1,σ1):=by exact rfl)(e1:fr1=fr':=by first|exact rfl|(simp only[List.length_set,takeMap,List.drop_zero,List.map_nil];done)|(simp only[List.length_set,takeMap,List.drop_zero,List.map_nil];rfl))(e2:σ1=σ':=by first|exact rfl|(simp only[List.length_set,takeMap,List.drop_zero,List.map_nil];done)|(simp only[List.length_set,takeMap,List.drop_zero,List.map_nil];rfl)):Gm P B N m fr σ fr' σ':=λhB=>.trans (.trans (gh_prn ts a hB h0) (gh_ro ts b c d h3)) (gh_pk ts rs hB hok h e1 e2)
theorem Gm.mv (ts a b rs:List Nat)(h0:prune m ts a fr σ=some (fr0,σ0):=by exact rfl)(h1:okMv m b σ0=true:=by exact rfl)(h3:nz (keepF (mvP b) fr0 ts) (mvS b σ0)=some (fr2,σ2):=by exact rfl)(hok:(nodupB rs&&firsts 0 m rs)=true:=by exact rfl)(h:nz (keepF (idx rs) fr2 ts) (pickS rs σ2)=some (fr1,σ1):=by exact rfl)(e1:fr1=fr':=by first|exact rfl|(simp only[List.length_set,takeMap,List.drop_zero,List.map_nil];done)|(simp only[List.length_set,takeMap,List.drop_zero,List.map_nil];rfl))(e2:σ1=σ':=by first|exact rfl|(simp only[List.length_set,takeMap,List.drop_zero,List.map_nil];done)|(simp only[List.length_set,takeMap,List.drop_zero,List.map_nil];rfl)):Gm P B N m fr σ fr' σ':=λhB=>.trans (.trans (gh_prn ts a hB h0) (gh_mvE ts b hB h1 h3)) (gh_pk ts rs hB hok h e1 e2)
end
theorem Sem.st {P:Program}{f:Nat}{R:Type}{p:Option R}{F:F}{vs:List V}{m:Nat}{σ:St}{vo:R->V}{σo:R->St}{fr:Fr}[hx:HM P](hF:(fOf P f).bind nF=some F)(hfr:nfF (framed 0 vs)=some fr)(hen:∀args w,(callFunc f args).run P w=.ok (.enter f args) w)(h:∀B r,G ⟨P,B,F.slots⟩ m [.k F.body,.e P B F (vo r) (σo r)] [] fr σ p r)(hl:vs.length=F.params:=by exact rfl)(hm:m<=1000:=by omega):Sem P f p vs m σ vo σo:=
 ⟨λr hp=>Says.of_norm hF hen hl λB hB=>by
  have:=h B r hB hm hx.ok TlOk.nil hp
  rw[nfF_some hfr]at this
  exact this⟩
theorem Sem.so {P:Program}{f:Nat}{R:Type}{p:Option R}{F:F}{vs:List V}{m:Nat}{σ:St}{vo:R->V}{σo:R->St}{fr:Fr}[hx:HM P](hF:fOf P f=some F)(hfr:nfF (framed 0 vs)=some fr)(hen:∀args w,(callFunc f args).run P w=.ok (.enter f args) w)(h:∀B r,G ⟨P,B,F.slots⟩ m [.k F.body,.e P B F (vo r) (σo r)] [] fr σ p r)(hl:vs.length=F.params:=by exact rfl)(hm:m<=1000:=by omega):Sem P f p vs m σ vo σo:=
 ⟨λr hp=>Says.of_run hF hen hl λB hB=>by
  have:=h B r hB hm hx.ok TlOk.nil hp
  rw[nfF_some hfr]at this
  exact this⟩
def callR (d:Option Nat)(ρ:List Nat)(s n:Nat)(vo:V)(σo:St)(tl:Tl)(fr:Fr)(σ:St):Option (V×St×Tl×Fr×St):=match nfT (renV (back ρ s) vo),nfS (backSt (back ρ s) σo (ρ++upto s n) 0)with
 |some v,some ws=>match fin d none v ws tl fr σ with
  |some (tl',fr',σ')=>some (v,ws,tl',fr',σ')
  |none=>none
 |_,_=>none
theorem callR_ok {d:Option Nat}{ρ:List Nat}{s n:Nat}{vo v:V}{σo ws:St}(h:callR d ρ s n vo σo tl fr σ=some (v,ws,tl',fr',σ')):nfT (renV (back ρ s) vo)=some v/\nfS (backSt (back ρ s) σo (ρ++upto s n) 0)=some ws/\fin d none v ws tl fr σ=some (tl',fr',σ'):=by
 unfold callR at h
 split at h<;>try simp only[reduceCtorEq]at h
 rename_i h1 h2
 split at h<;>simp only[Option.some.injEq,Prod.mk.injEq,reduceCtorEq]at h
 rename_i h3
 obtain⟨rfl,rfl,rfl,rfl,rfl⟩:=h
 exact⟨h1,h2,h3⟩
theorem lw {α:Type}{f g:α->List C}{xs:List α}{len:Nat}(h:∀x,roCs (f x)=g x:=by exact λ_=>rfl)(hl:len=xs.length:=by exact rfl):((roRows (xs.map f)).drop 0).take len=xs.map g:=lendW h xs hl
theorem i {P:Program}{f:Nat}{R:Type}{p:Option R}{vs:List V}{m:Nat}{σ:St}{vo:R->V}{σo:R->St}[h:Sem P f p vs m σ vo σo]:Sem P f p vs m σ vo σo:=h
theorem q {α:Type}{γ:α->Type}{f:∀y,γ y}:∀y,f y=f y:=λ_=>rfl
theorem G.f {R:Type}{f site k mm:Nat}{d:Option Nat}{g:Option (Nat×Bool)}{af:List Nat}{xs:List A}{l:List Op1}{tr:Option (List Tr)}{pc:Option R}{kk:R->Option β}{vs:List V}{σc:St}{vo v:R->V}{σo ws σz:R->St}{frz:R->Fr}{tlz:R->Tl}(ρ' β':List Nat)(n:Nat)
  (hx:X0 0 999 s tl fr σ=some (.o site k (⟨d,g,af,.cl f xs⟩::l) tr::s',tl',fr',σ')) (hs:Sem c.P f pc vs mm σc vo σo) (hq:∀y,callR d ρ' (sid site k) n (vo y) (σo y) tl' fr' σ'=some (v y,ws y,tlz y,frz y,σz y))
  (h:∀y,pc=some y->G c m (.o site (k+1) l (addT tr ⟨d,v y,ws y,refsO fr' (.cl f xs)++ρ',slotsO ⟨d,g,af,.cl f xs⟩,af⟩)::s') (tlz y) (frz y) (σz y) (kk y) r)
  (hp:Passes σ' ρ' β' (xs.map (val fr')) vs:=by repeat' (first|exact .nil|refine .d4 ?_|refine .d1 ?_|refine .cons ?_ ?_|exact .c _|refine .agg ?_|exact .sl rfl|exact .ptr rfl|exact .el rfl|exact .rp _|exact .nil _ _|refine .fn ?_|exact .undef _)) (hσ:pickS ρ' σ'=σc:=by exact rfl) (hm:ρ'.length=mm:=by exact rfl)
  (hok:∀y,(nodupB ρ'&&apart β' ρ'&&freshN σ' (sid site k) n&&nodupB (ρ'++upto (sid site k) n)&&below (ρ'.length+n) (σo y))=true:=by intro _;exact rfl) (hcase:∀y,β'=[]\/(ownV (vo y)=true/\∀k,ownRt (root (σo y) k)):=by intro _;exact .inl rfl) (hg:goG tl' fr' g=1:=by exact rfl):G c m s tl fr σ (pc.bind kk) r:=by
 refine G.x hx λhB hm' hf ht hp'=> ?_
 obtain⟨y,h1,h2⟩:=bindO hp'
 obtain⟨q1,q2,q3⟩:=callR_ok (hq y)
 have he:Ev c.P fr' σ' (sid site k) (.cl f xs) (v y) (ws y) ρ':=Ev.call ρ' β' n (hs.says y h1) hm hσ hp (hok y) (hcase y) q1 q2
 obtain⟨h3,h4,h5⟩:=fin_ok q3 ht (λb hb=>by cases hb)
 refine reg_go (o:=⟨d,g,af,.cl f xs⟩) ht hg (.mk he) ?_
 have:=h y h1 hB hm' hf h3 h2
 rw[h4,h5]at this
 exact this
theorem G.c0 {R:Type}{f site k mm:Nat}{d:Option Nat}{g:Option (Nat×Bool)}{af:List Nat}{xs:List A}{l:List Op1}{tr:Option (List Tr)}{pc:Option R}{kk:R->Option β}{vs:List V}{σc:St}{vo v:R->V}{σo ws σz:R->St}{frz:R->Fr}{tlz:R->Tl}
  (hx:X0 0 999 s tl fr σ=some (.o site k (⟨d,g,af,.cl f xs⟩::l) tr::s',tl',fr',σ')) (hs:Sem c.P f pc vs mm σc vo σo) (hq:∀y,callR d [] (sid site k) 0 (vo y) (σo y) tl' fr' σ'=some (v y,ws y,tlz y,frz y,σz y))
  (h:∀y,pc=some y->G c m (.o site (k+1) l (addT tr ⟨d,v y,ws y,refsO fr' (.cl f xs)++[],slotsO ⟨d,g,af,.cl f xs⟩,af⟩)::s') (tlz y) (frz y) (σz y) (kk y) r)
  (hp:Passes σ' [] [] (xs.map (val fr')) vs:=by repeat' (first|exact .nil|refine .d4 ?_|refine .d1 ?_|refine .cons ?_ ?_|exact .c _|refine .agg ?_|exact .sl rfl|exact .ptr rfl|exact .el rfl|exact .rp _|exact .nil _ _|refine .fn ?_|exact .undef _)) (hσ:pickS [] σ'=σc:=by exact rfl) (hm:([]:List Nat).length=mm:=by exact rfl)
  (hok:∀y,(nodupB []&&apart [] []&&freshN σ' (sid site k) 0&&nodupB ([]++upto (sid site k) 0)&&below (([]:List Nat).length+0) (σo y))=true:=by intro _;exact rfl) (hg:goG tl' fr' g=1:=by exact rfl):G c m s tl fr σ (pc.bind kk) r:=G.f [] [] 0 hx hs hq h hp hσ hm hok (λ_=>.inl rfl) hg
theorem G.c1 {R:Type}{f site k mm:Nat}{d:Option Nat}{g:Option (Nat×Bool)}{af:List Nat}{xs:List A}{l:List Op1}{tr:Option (List Tr)}{pc:Option R}{kk:R->Option β}{vs:List V}{σc:St}{vo v:R->V}{σo ws σz:R->St}{frz:R->Fr}{tlz:R->Tl}
  (hx:X0 0 999 s tl fr σ=some (.o site k (⟨d,g,af,.cl f xs⟩::l) tr::s',tl',fr',σ')) (hs:Sem c.P f pc vs mm σc vo σo) (hq:∀y,callR d [] (sid site k) 1 (vo y) (σo y) tl' fr' σ'=some (v y,ws y,tlz y,frz y,σz y))
  (h:∀y,pc=some y->G c m (.o site (k+1) l (addT tr ⟨d,v y,ws y,refsO fr' (.cl f xs)++[],slotsO ⟨d,g,af,.cl f xs⟩,af⟩)::s') (tlz y) (frz y) (σz y) (kk y) r)
  (hp:Passes σ' [] [] (xs.map (val fr')) vs:=by repeat' (first|exact .nil|refine .d4 ?_|refine .d1 ?_|refine .cons ?_ ?_|exact .c _|refine .agg ?_|exact .sl rfl|exact .ptr rfl|exact .el rfl|exact .rp _|exact .nil _ _|refine .fn ?_|exact .undef _)) (hσ:pickS [] σ'=σc:=by exact rfl) (hm:([]:List Nat).length=mm:=by exact rfl)
  (hok:∀y,(nodupB []&&apart [] []&&freshN σ' (sid site k) 1&&nodupB ([]++upto (sid site k) 1)&&below (([]:List Nat).length+1) (σo y))=true:=by intro _;exact rfl) (hg:goG tl' fr' g=1:=by exact rfl):G c m s tl fr σ (pc.bind kk) r:=G.f [] [] 1 hx hs hq h hp hσ hm hok (λ_=>.inl rfl) hg
end
end Go.Proofs.YtmcbbifeekhmgaaGreatDoor.Pe
