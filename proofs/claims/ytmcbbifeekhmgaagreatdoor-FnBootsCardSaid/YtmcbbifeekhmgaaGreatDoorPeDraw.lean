import Derived.Test.YtmcbbifeekhmgaaGreatDoorPeLocal
import Derived.Test.YtmcbbifeekhmgaaGreatDoorPeRun
import Derived.Orders
namespace Go.Proofs.YtmcbbifeekhmgaaGreatDoor.Pe
open Go Go.RowKit
structure Tr where
 d:Option Nat
 v:V
 ws:St
 ft:List Nat
 sl:List Nat
 af:List Nat
def slotsA:List A->List Nat
 |[]=>[]
 |.t n::xs=>n::slotsA xs
 |.c _::xs=>slotsA xs
def slotsO (o:Op1):List Nat:=(match o.g with
 |some (t,_)=>[t]
 |none=>[])++slotsA (opsA o.o)
def OpsD (c:Ctx)(site:Nat):Nat->List Op1->Fr->St->List Tr->(Fr->St->List Tr->Prop)->Prop
 |_,[],fr,σ,tr,Q=>Q fr σ tr
 |k,o::l,fr,σ,tr,Q=>match o.g with
  |none=>∃v ws R,EvZ c.P fr σ (sid site k) o.o v ws R/\OpsD c site (k+1) l (putd o.d v fr) (ws++σ) (tr++[⟨o.d,v,ws,refsO fr o.o++R,slotsO o,o.a⟩]) Q
  |some (t,want)=>(∃b,get fr t=.c (.b b)/\(b=want->∃v ws R,EvZ c.P fr σ (sid site k) o.o v ws R/\OpsD c site (k+1) l (putd o.d v fr) (ws++σ) (tr++[⟨o.d,v,ws,refsO fr o.o++R,slotsO o,o.a⟩]) Q)/\
    (b≠want->OpsD c site (k+1) l (putd o.d (.tup []) fr) σ (tr++[⟨o.d,.tup [],[],[],slotsO o,o.a⟩]) Q))\/
   (get fr t=.tup []/\OpsD c site (k+1) l (putd o.d (.tup []) fr) σ (tr++[⟨o.d,.tup [],[],[],slotsO o,o.a⟩]) Q)
def buildF (E:Nat->Bool):Nat->List Tr->Fr->Fr
 |_,[],fr=>fr
 |k,x::tr,fr=>buildF E (k+1) tr (match E k with|true=>putd x.d x.v fr|false=>fr)
def buildS (E:Nat->Bool):Nat->List Tr->St->St
 |_,[],σ=>σ
 |k,x::tr,σ=>buildS E (k+1) tr (match E k with|true=>x.ws++σ|false=>σ)
theorem get_putd {d:Option Nat}{v:V}{fr:Fr}{t:Nat}:get (putd d v fr) t=if d=some t then v else get fr t:=by
 cases d with
 |none=>simp[putd]
 |some d=>
  simp only[putd,get_put,Option.some.injEq]
  by_cases h:t=d
  ·simp[h]
  ·simp[h,Ne.symm h]
theorem root_ws {ws σ:St}{r:Nat}:root (ws++σ) r=if r∈ws.map (·.1)then root ws r else root σ r:=by
 rw[root_append]
 by_cases h:r∈ws.map (·.1)
 ·obtain⟨k,hk⟩:=idx_mem h
  rw[hk,if_pos h]
 ·rw[if_neg h]
  cases hk:idx (ws.map (·.1)) r with
  |none=>rfl
  |some k=>exact absurd (List.mem_of_getElem? (idx_some hk)) h
theorem buildF_congr {E E':Nat->Bool}{t:Nat}:∀{tr:List Tr}{k:Nat}{fr fr':Fr},get fr t=get fr' t->(∀i x,tr[i]? =some x->x.d=some t->E (k+i)=E' (k+i))->get (buildF E k tr fr) t=get (buildF E' k tr fr') t
 |[],_,_,_,h,_=>h
 |x::tr,k,fr,fr',h,hE=>by
  simp only[buildF]
  refine buildF_congr ?_ (λi y hy hd=>by have:=hE (i+1) y (by simpa using hy) hd;rwa [show k+(i+1)=k+1+i by omega]at this)
  by_cases hd:x.d=some t
  ·have:=hE 0 x rfl hd
   rw[Nat.add_zero]at this
   rw[this]
   cases E' k with
   |true=>simp only[get_putd,hd,if_true]
   |false=>exact h
  ·have h2:∀(b:Bool)(fr:Fr),get (match b with|true=>putd x.d x.v fr|false=>fr) t=get fr t:=by
    intro b fr
    cases b with
    |true=>simp only[get_putd,hd,if_false]
    |false=>rfl
   rw[h2,h2]
   exact h
theorem buildS_congr {E E':Nat->Bool}{r:Nat}:∀{tr:List Tr}{k:Nat}{σ σ':St},root σ r=root σ' r->(∀i x,tr[i]? =some x->r∈x.ws.map (·.1)->E (k+i)=E' (k+i))->root (buildS E k tr σ) r=root (buildS E' k tr σ') r
 |[],_,_,_,h,_=>h
 |x::tr,k,σ,σ',h,hE=>by
  simp only[buildS]
  refine buildS_congr ?_ (λi y hy hd=>by have:=hE (i+1) y (by simpa using hy) hd;rwa [show k+(i+1)=k+1+i by omega]at this)
  by_cases hd:r∈x.ws.map (·.1)
  ·have:=hE 0 x rfl hd
   rw[Nat.add_zero]at this
   rw[this]
   cases E' k with
   |true=>simp only[root_ws,hd,if_true]
   |false=>exact h
  ·have h2:∀(b:Bool)(σ:St),root (match b with|true=>x.ws++σ|false=>σ) r=root σ r:=by
    intro b σ
    cases b with
    |true=>simp only[root_ws,hd,if_false]
    |false=>rfl
   rw[h2,h2]
   exact h
theorem buildF_last {E:Nat->Bool}{t:Nat}:∀{tr:List Tr}{k j:Nat}{fr:Fr}{x:Tr},tr[j]? =some x->x.d=some t->E (k+j)=true->(∀i y,j<i->tr[i]? =some y->y.d=some t->E (k+i)=false)->get (buildF E k tr fr) t=x.v
 |[],_,_,_,_,h,_,_,_=>by simp at h
 |y::tr,k,0,fr,x,h,hd,hE,hl=>by
  simp only[List.getElem?_cons_zero,Option.some.injEq]at h
  subst h
  rw[Nat.add_zero]at hE
  simp only[buildF,hE]
  have h2:get (buildF E (k+1) tr (putd y.d y.v fr)) t=get (buildF (λ_=>false) (k+1) tr (putd y.d y.v fr)) t:=buildF_congr rfl (λi z hz hzd=>by
   have:=hl (i+1) z (by omega) (by simpa using hz) hzd
   rwa [show k+(i+1)=k+1+i by omega]at this)
  rw[h2]
  have h3:∀(tr:List Tr)(k:Nat)(fr:Fr),buildF (λ_=>false) k tr fr=fr:=by
   intro tr
   induction tr with
   |nil=>intro k fr;rfl
   |cons z tr ih=>intro k fr;exact ih (k+1) fr
  rw[h3,get_putd,if_pos hd]
 |y::tr,k,j+1,fr,x,h,hd,hE,hl=>by
  simp only[buildF]
  exact buildF_last (j:=j) (by simpa using h) hd (by rwa [show k+1+j=k+(j+1) by omega]) (λi z hi hz hzd=>by
   have:=hl (i+1) z (by omega) (by simpa using hz) hzd
   rwa [show k+(i+1)=k+1+i by omega]at this)
theorem buildS_last {E:Nat->Bool}{r:Nat}:∀{tr:List Tr}{k j:Nat}{σ:St}{x:Tr},tr[j]? =some x->r∈x.ws.map (·.1)->E (k+j)=true->(∀i y,j<i->tr[i]? =some y->r∈y.ws.map (·.1)->E (k+i)=false)->root (buildS E k tr σ) r=root x.ws r
 |[],_,_,_,_,h,_,_,_=>by simp at h
 |y::tr,k,0,σ,x,h,hd,hE,hl=>by
  simp only[List.getElem?_cons_zero,Option.some.injEq]at h
  subst h
  rw[Nat.add_zero]at hE
  simp only[buildS,hE]
  have h2:root (buildS E (k+1) tr (y.ws++σ)) r=root (buildS (λ_=>false) (k+1) tr (y.ws++σ)) r:=buildS_congr rfl (λi z hz hzd=>by
   have:=hl (i+1) z (by omega) (by simpa using hz) hzd
   rwa [show k+(i+1)=k+1+i by omega]at this)
  rw[h2]
  have h3:∀(tr:List Tr)(k:Nat)(σ:St),buildS (λ_=>false) k tr σ=σ:=by
   intro tr
   induction tr with
   |nil=>intro k σ;rfl
   |cons z tr ih=>intro k σ;exact ih (k+1) σ
  rw[h3,root_ws,if_pos hd]
 |y::tr,k,j+1,σ,x,h,hd,hE,hl=>by
  simp only[buildS]
  exact buildS_last (j:=j) (by simpa using h) hd (by rwa [show k+1+j=k+(j+1) by omega]) (λi z hi hz hzd=>by
   have:=hl (i+1) z (by omega) (by simpa using hz) hzd
   rwa [show k+(i+1)=k+1+i by omega]at this)
inductive Before (tr:List Tr) (i:Nat):Nat->Prop
 |edge {j:Nat} {x:Tr} (h:tr[j]? =some x) (hi:i∈x.af):Before tr i j
 |over {j q:Nat} {x:Tr} (h:tr[j]? =some x) (hq:q∈x.af) (hb:Before tr i q):Before tr i j
def clash (y x:Tr):Bool:=
 (match y.d with
  |some d=>has x.sl d||(match x.d with|some d'=>Nat.beq d d'|none=>false)
  |none=>false)||
 (match x.d with
  |some d=>has y.sl d
  |none=>false)||
 y.ws.any (λp=>has x.ft p.1||has (x.ws.map (·.1)) p.1)||x.ws.any (λp=>has y.ft p.1)
def okAll (b:Nat)(x:Tr):Nat->List Tr->Bool
 |_,[]=>true
 |i,y::ys=>(!clash y x||Nat.testBit b i)&&okAll b x (i+1) ys
def over (acc:List Nat):List Nat->Nat
 |[]=>0
 |q::qs=>2 ^ q|||(acc.getD q 0|||over acc qs)
def okGo (acc:List Nat)(prev:List Tr):List Tr->Bool
 |[]=>true
 |x::tr=>okAll (over acc x.af) x 0 prev&&x.af.all (λq=>Nat.blt q prev.length)&&okGo (acc++[over acc x.af]) (prev++[x]) tr
def okDraw (tr:List Tr):Bool:=okGo [] [] tr
theorem okAll_spec {b:Nat}{x:Tr}:∀{ys:List Tr}{k:Nat},okAll b x k ys=true->∀i y,ys[i]? =some y->clash y x=true->Nat.testBit b (k+i)=true
 |[],_,_,i,y,h,_=>by simp at h
 |z::ys,k,h,i,y,hy,hc=>by
  simp only[okAll,Bool.and_eq_true,Bool.or_eq_true,Bool.not_eq_true']at h
  cases i with
  |zero=>
   simp only[List.getElem?_cons_zero,Option.some.injEq]at hy
   subst hy
   rcases h.1 with h1|h1
   ·rw[hc]at h1;cases h1
   ·exact h1
  |succ i=>
   have:=okAll_spec h.2 i y (by simpa using hy) hc
   rwa [show k+1+i=k+(i+1) by omega]at this
theorem okDraw_spec {full:List Tr}(h:okDraw full=true):∀j x,full[j]? =some x->(∀q∈x.af,q<j)/\∀i y,i<j->full[i]? =some y->clash y x=true->Before full i j:=by
 have key:∀(tr prev:List Tr)(acc:List Nat),full=prev++tr->acc.length=prev.length->(∀q b,acc[q]? =some b->∀i,Nat.testBit b i=true->Before full i q)->okGo acc prev tr=true->∀j x,prev.length<=j->full[j]? =some x->(∀q∈x.af,q<j)/\∀i y,i<j->full[i]? =some y->clash y x=true->Before full i j:=by
  intro tr
  induction tr with
  |nil=>
   intro prev acc hf _ _ _ j x hj hx
   rw[hf,List.append_nil]at hx
   have:=(List.getElem?_eq_some_iff.1 hx).1
   omega
  |cons z tr ih=>
   intro prev acc hf hl hacc hok j x hj hx
   simp only[okGo,Bool.and_eq_true,List.all_eq_true,Nat.blt_eq]at hok
   have hz:full[prev.length]? =some z:=by rw[hf];simp
   have hover:∀(qs:List Nat),(∀q∈qs,q∈z.af)->∀i,Nat.testBit (over acc qs) i=true->Before full i prev.length:=by
    intro qs
    induction qs with
    |nil=>intro _ i hi;simp[over]at hi
    |cons q qs ihq=>
     intro hqs i hi
     simp only[over,Nat.testBit_or,Nat.testBit_two_pow,Bool.or_eq_true,decide_eq_true_eq]at hi
     rcases hi with rfl|hi|hi
     ·exact .edge hz (hqs _ (by simp))
     ·cases hq:acc[q]? with
      |none=>simp[List.getD_eq_getElem?_getD,hq]at hi
      |some b=>
       simp only[List.getD_eq_getElem?_getD,hq,Option.getD_some]at hi
       exact .over hz (hqs q (by simp)) (hacc q b hq i hi)
     ·exact ihq (λq hq=>hqs q (by simp[hq])) i hi
   rcases Nat.eq_or_lt_of_le hj with rfl|hlt
   ·rw[hz]at hx
    cases hx
    refine⟨hok.1.2,λi y hi hy hc=> ?_⟩
    rw[hf,List.getElem?_append_left hi]at hy
    have:=okAll_spec hok.1.1 i y hy hc
    rw[Nat.zero_add]at this
    exact hover _ (λq hq=>hq) i this
   ·refine ih (prev++[z]) (acc++[over acc z.af]) (by rw[hf];simp) (by simp[hl]) ?_ hok.2 j x (by simp;omega) hx
    intro q b hb i hi
    rcases Nat.lt_or_ge q acc.length with hq|hq
    ·rw[List.getElem?_append_left hq]at hb
     exact hacc q b hb i hi
    ·rw[List.getElem?_append_right hq]at hb
     have hq0:q-acc.length=0:=by
      rcases Nat.eq_zero_or_pos (q-acc.length)with h0|h0
      ·exact h0
      ·rw[List.getElem?_eq_none (by simp;omega)]at hb;cases hb
     rw[hq0]at hb
     simp only[List.getElem?_cons_zero,Option.some.injEq]at hb
     subst hb
     have:q=prev.length:=by omega
     subst this
     exact hover _ (λq hq=>hq) i hi
 exact λj x hx=>key full [] [] rfl rfl (by intro q b hb;simp at hb) h j x (Nat.zero_le _) hx
end Go.Proofs.YtmcbbifeekhmgaaGreatDoor.Pe
