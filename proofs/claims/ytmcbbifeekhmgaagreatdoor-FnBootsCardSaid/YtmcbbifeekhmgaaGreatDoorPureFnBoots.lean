import Derived.KernelRfl
import Derived.Lib.ItoaNum
import Derived.Lib.ItoaLen
import Derived.Lib.AtoiAll
import Derived.Lib.AtoiTie
import Derived.Test.YtmcbbifeekhmgaaGreatDoorPureFnBootsA
namespace Go.Proofs.YtmcbbifeekhmgaaGreatDoor.Pe.FnBoots
open Go Go.RowKit
set_option linter.unusedVariables false
set_option linter.unusedSimpArgs false
set_option maxHeartbeats 4000000
theorem log_le {l:Log}(h:logOk l=true):l.StartTerm<=logTerm l/\∀e∈l.Entries,e.Data.size<=120/\0<=e.Term/\e.Term<=logTerm l:=by
 obtain⟨a1,a2,a3,a4,a5,a6,a7⟩:=logOk_at h
 unfold logTerm
 cases he:l.Entries.getLast? with
 |none=>rw[List.getLast?_eq_none_iff]at he;rw[he];simp
 |some z=>exact terms_le a7 a3 z he
structure NK (n:Node):Prop where
 r:NR n
 w:NW n n
 log:logOk n.Log=true
 vote:0<=n.Vote/\n.Vote<=4
 clock:0<=n.Clock/\n.Clock<=20
theorem nok_t (N:Nat)(hN:Big N){n:Node}(hs:totNode n<=1000000):Po (s_NodeOk N n) λb=>b=true->NK n:=by
 have hs2:=hs
 simp only[totNode,totL]at hs2
 unfold s_NodeOk
 refine Po.n (by simp) λh1=>Po.e (confOk_spec N hN _ (by omega)) (Po.i (λ_=>Po.r (by simp)) λh2=>Po.e (logOk_spec N hN _ (by omega)) (Po.i (λ_=>Po.r (by simp)) λh3=>Po.n (by simp) λh4=>Po.n (by simp) λh5=>Po.n (by simp) λh6=>Po.n (by simp) λh7=> ?_))
 rw[Bool.not_eq_false]at h2 h3
 obtain⟨a1,a2,a3,a4,a5,a6,a7⟩:=logOk_at h3
 have hle:=log_le h3
 have hlw:LW n.Log:=⟨⟨a1,a2⟩,by omega,λe he=>(hle.2 e he).1⟩
 refine Po.e (logLast_spec N h3) (Po.j (λ_=>logTerm n.Log<=n.Term/\(n.Log.Start<=n.Commit/\n.Commit<=logEnd n.Log)/\(0<=n.Clock/\n.Clock<=20)/\n.Votes.length<=4) (λ_ hv=> ?_) λg hg=>Po.i (λ_=>Po.r (by simp)) λc1=>Po.n (by simp) λc2=>Po.n (by simp) λc3=>Po.n (by simp) λc4=>Po.e (rise_eq N hN _ _ _ (by omega)) (Po.i (λ_=>Po.r (by simp)) λc5=> ?_))
 ·refine Po.j CW (λv hv2=> ?_) λg hg=>Po.i (λ_=>Po.b (cof_t N hN n (conf_cw h2) hlw) λc hc=>Po.b (oth_t N hN c _ hc) λo ho=>hg o ho) λ_=>hg _ ⟨by simp,by simp⟩
  have hvl:=hv2.1
  refine Po.i (λ_=>Po.r (by simp)) λhl=> ?_
  refine Po.j (λ_=>∀p∈n.Peers,PW p) (λ_ hp=>Po.r λ_=>⟨⟨h1,conf_cw h2,⟨a1,a2⟩,⟨a3,by show n.Log.StartTerm<=n.Term;omega⟩,hv.2.1.1⟩,⟨rfl,rfl,⟨rfl,rfl⟩,by omega,λe he=>⟨(hle.2 e he).1,(hle.2 e he).2.1,by have:=(hle.2 e he).2.2;omega⟩,⟨Int.le_refl _,h4.2⟩,⟨Int.le_refl _,hv.2.1.2⟩,⟨by omega,hp⟩,by omega⟩,h3,h5,hv.2.2.1⟩) λg hg=>Po.b (P:=λr=>r=.inl false\/∃u,r=.inr u/\∀p∈n.Peers,PW p) (Po.l0 hN (λm i (_:Unit)=>s_NodeOk_l1 N n _ v m i) v.length (λi _=>∀j:Nat,(j:Int)<i->∀p,n.Peers[j]? =some p->PW p) (by omega) (λm i s h0 hs k=> ?_) (s:=()) (by omega) (by omega)) ?_
  ·rw[s_NodeOk_l1]
   refine Po.i (λq=>Po.a' h0 (by omega) λp hp=>Po.a h0 q λx hx=>Po.i (λ_=>Po.r (.inl rfl)) λd1=>Po.n (.inl rfl) λd2=>Po.n (.inl rfl) λd3=>Po.n (.inl rfl) λd4=>k q () λj hj p' hp'=> ?_) λq=>Po.r (.inr ⟨(),rfl,λp hp=> ?_⟩)
   ·by_cases hji:j=i.toNat
    ·rw[hji,hp]at hp'
     simp only[Option.some.injEq]at hp'
     subst hp'
     have:=hv2.2 x hx
     unfold logEnd at d2
     rw[w64_id (by omega) (by omega)]at d2
     rw[w64_id (by omega) (by omega)]at d3
     exact⟨by omega,by omega,by omega,d4⟩
    ·exact hs j (by omega) p' hp'
   ·obtain⟨j,hj,rfl⟩:=List.getElem_of_mem hp
    exact hs j (by omega) _ (List.getElem?_eq_getElem hj)
  ·rintro _ (rfl|⟨u,rfl,hp⟩)
   ·exact Po.r (by simp)
   ·exact hg () hp
 ·rw[Bool.not_eq_false]at c5
  have:=votes_len c5
  refine Po.i (λ_=>Po.i (λ_=>Po.r (by simp)) λ_=>hg () ⟨by omega,c2,c3,this⟩) λ_=>hg () ⟨by omega,c2,c3,this⟩
theorem n15:(1:Int)≠5:=by decide
theorem n25:(2:Int)≠5:=by decide
theorem n45:(4:Int)≠5:=by decide
def RW (n:Node)(k:Int)(q:Tl16Run):Prop:=NW n q.n/\TL k q.told
theorem tick_t (N:Nat)(hN:Big N){n:Node}(hs:totNode n<=1000000)(lim:Int):Po (s_Tick N n lim) λq=>q.2.2=false/\q.2.1=[]\/NK n/\NW n q.1/\TL 8 q.2.1:=by
 unfold s_Tick
 refine Po.b (nok_t N hN hs) λb hb=>Po.i (λ_=>Po.r (.inl ⟨rfl,rfl⟩)) λc=>Po.n (.inl ⟨rfl,rfl⟩) λ_=> ?_
 have K:=hb (by simpa using c)
 have w:=K.w
 have h:=K.r
 have hlw:=h.lw w
 have t0:TL 0 []:=⟨Int.le_refl _,by simp⟩
 have htm:=w.term
 have hst:=h.st
 have up:∀{k:Int}{t:List Message},TL k t->k<=8->TL 8 t:=λa b=>⟨Int.le_trans a.1 b,a.2⟩
 have w0:∀c l,NW n { n with Clock:=c,Limit:=l }:=λ_ _=>⟨w.1,w.2,w.3,w.4,w.5,w.6,w.7,w.8,w.9⟩
 refine Po.e (copy_spec N n (by omega)) (Po.i (λ_=>Po.b (sa_eq N n▸sends_t N hN h (r:=⟨n,[]⟩) w (by omega) t0) ?_) λ_=>Po.i (λ_=>Po.r (.inr ⟨K,w0 _ _,up t0 (by omega)⟩)) λ_=>Po.b (cof_t N hN _ (h.cw (w0 0 lim)) (h.lw (w0 0 lim))) λc hc=>Po.e (in_spec N hN c _ (by have:=hc.1;omega)) (Po.i (λ_=>Po.r (.inr ⟨K,w0 _ _,up t0 (by omega)⟩)) λ_=>Po.i (λ_=>Po.r (.inr ⟨K,w0 _ _,up t0 (by omega)⟩)) λht=> ?_))
 ·rintro⟨y,t⟩ ⟨rfl,h2⟩
  exact Po.r (.inr ⟨K,w,up h2 (by omega)⟩)
 rw[w64_id (by omega) (by omega)]
 have w1:NW n ⟨n.Id,n.Term+1,n.Id,1,0,n.Conf,n.Log,n.Commit,0,lim,[n.Id],n.Peers⟩:=⟨w.1,w.2,w.3,w.4,λe he=>⟨(w.5 e he).1,(w.5 e he).2.1,by have:=(w.5 e he).2.2;show e.Term<=n.Term+1;omega⟩,⟨by show n.Term<=n.Term+1;omega,by show n.Term+1<=100000;omega⟩,w.7,w.8,by show 1<=5;omega⟩
 refine Po.b (el_t N hN h w1) ?_
 rintro⟨b,_⟩ rfl
 refine Po.i (λ_=>Po.b (lead_t N hN h w1 (by omega) t0) λq hq=>Po.r (.inr ⟨K,hq.1,up hq.2 (by omega)⟩)) λ_=>Po.b (ll_t N hlw) λl _=>Po.b (oth_t N hN c _ hc) λo ho=> ?_
 have hol:=ho.1
 have ff:∀t,TL 4 t->NW n _/\TL 8 t:=λt ht=>⟨w1,up ht (by omega)⟩
 refine Po.j (λv=>∃t,v=(n.Id,n.Term+1,n.Id,1,0,n.Log.Start,n.Log.StartTerm,n.Commit,0,lim,t)/\TL 4 t) (by rintro _ ⟨t,rfl,h2⟩;exact Po.r (.inr ⟨K,w1,up h2 (by omega)⟩)) λg hg=>Po.b (Po.l0 hN (λm i t=>s_Tick_l1 N n n l o m i n.Id (n.Term+1) n.Id 1 0 n.Log.Start n.Log.StartTerm n.Commit 0 lim t) o.length (λi t=>TL i t/\i<=o.length) (by omega) (λm i t h0 hs k=> ?_) (by omega) ⟨t0,by omega⟩) hg
 have htl:=hs.1.1
 rw[s_Tick_l1]
 exact Po.i (λq=>Po.a h0 q λx hx=>Po.e (tell_e N _ _ (by simp only;omega)) (k q _ ⟨hs.1.add (tw0 (ho.2 x hx) n15),by omega⟩)) λq=>Po.r ⟨t,rfl,⟨by omega,hs.1.2⟩⟩
structure MW (m:Message):Prop where
 fr:1<=m.From/\m.From<=4
 tm:0<=m.Term/\m.Term<=100000
 lt:0<=m.LogTerm
 ix:0<=m.Index/\m.Index<=100000
 cm:0<=m.Commit/\m.Commit<=100000
 en:m.Entries.length<=4/\∀e∈m.Entries,e.Data.size<=120/\0<=e.Term/\e.Term<=m.Term
theorem askVote_t (N:Nat)(hN:Big N){n:Node}(h:NR n){r:Tl16Run}(w:NW n r.n){m:Message}(hm:MW m)(ht:TL 0 r.told):Po (s_l16AskVote N r m) λq=>RW n 8 q/\q.n.Log.Entries=r.n.Log.Entries/\q.n.Votes=r.n.Votes/\q.n.Peers=r.n.Peers:=by
 have htl:=ht.1
 unfold s_l16AskVote
 refine Po.b (ll_t N (h.lw w)) λl _=>Po.j (λ_=>True) (λv _=>Po.j (λ_=>True) (λu _=>Po.j (λ_=>True) (λz _=>Po.e (tell_e N _ _ (by simp only;omega)) (Po.r ⟨⟨⟨w.1,w.2,w.3,w.4,w.5,w.6,w.7,w.8,w.9⟩,⟨by simp;omega,(ht.add (tw0 hm.fr n25)).2⟩⟩,rfl,rfl,rfl⟩)) λg hg=>Po.i (λ_=>hg _ trivial) λ_=>hg _ trivial) λg hg=> ?_) λg hg=>Po.i (λ_=>hg _ trivial) λ_=>Po.i (λ_=>hg _ trivial) λ_=>hg _ trivial
 exact Po.i (λ_=>Po.i (λ_=>hg _ trivial) λ_=>Po.i (λ_=>hg _ trivial) λ_=>hg _ trivial) λ_=>hg _ trivial
theorem tellVote_t (N:Nat)(hN:Big N){n:Node}(h:NR n){r:Tl16Run}(w:NW n r.n)(m:Message)(ht:TL 0 r.told):Po (s_l16TellVote N r m) (RW n 8):=by
 have up:∀{k:Int}{t:List Message},TL k t->k<=8->TL 8 t:=λa b=>⟨Int.le_trans a.1 b,a.2⟩
 have hv:=w.votes
 unfold s_l16TellVote
 refine Po.i (λ_=>Po.r ⟨w,up ht (by omega)⟩) λ_=>Po.i (λ_=>Po.r ⟨w,up ht (by omega)⟩) λ_=>Po.i (λ_=>Po.r ⟨w,up ht (by omega)⟩) λ_=>Po.j (λv=>v.length<=5) (λv hvl=> ?_) λg hg=>Po.b (Po.l0 hN (λk i s=>s_l16TellVote_l1 N r m k i s) 5 (λi s=>(s.length:Int)<=i/\i<=5) (by omega) (λk i s h0 hs kk=> ?_) (by omega) (by simp)) hg
 ·have w1:=w.put h r.n.Role r.n.Lead hvl w.peers
  exact Po.b (el1_t N hN h (r:=⟨_,r.told⟩) w1) λb _=>Po.i (λ_=>Po.b (lead_t N hN h (r:=⟨_,r.told⟩) w1 (by omega) ht) λq hq=>Po.r ⟨hq.1,up hq.2 (by omega)⟩) λ_=>Po.r ⟨w1,up ht (by omega)⟩
 ·rw[s_l16TellVote_l1]
  exact Po.i (λq=>Po.j (λv=>(v.length:Int)<=i+1) (λv hv=>kk (by omega) v ⟨hv,by omega⟩) λg hg=>Po.i (λ_=>Po.c (by simp;omega) (hg _ (by simp;omega))) λ_=>Po.e (in_spec N hN _ _ (by omega)) (Po.i (λ_=>Po.c (by simp;omega) (hg _ (by simp;omega))) λ_=>hg _ (by omega))) λ_=>Po.r (by omega)
theorem refuse_t (N:Nat){n:Node}{r:Tl16Run}(w:NW n r.n){m:Message}(hm:1<=m.From/\m.From<=4)(x:Int)(ht:TL 0 r.told):Po (s_l16Refuse N r m x) λq=>q.n=r.n/\TL 8 q.told:=by
 have htl:=ht.1
 exact Po.e (tell_e N _ _ (by omega)) (Po.r ⟨rfl,⟨by simp;omega,(ht.add (tw0 hm n45)).2⟩⟩)
theorem askAppend_t (N:Nat)(hN:Big N){n:Node}(h:NR n){r:Tl16Run}(w:NW n r.n){m:Message}(hm:MW m)(ht:TL 0 r.told)(hmt:m.Term<=r.n.Term):Po (s_l16AskAppend N r m) (RW n 8):=by
 have hlw:=h.lw w
 have hls:=hlw.s
 have hll:=w.len
 have hen:=hm.en
 have hix:=hm.ix
 have hcm:=hm.cm
 have hwc:=w.com
 have hwst:=w.st
 have hst:=h.st
 have htl:=ht.1
 have hhc:=h.com
 unfold s_l16AskAppend
 refine Po.e (last_e N hlw) (Po.i (λ_=>Po.b (refuse_t N w hm.fr 0 ht) ?_) λ_=>Po.e rfl (Po.j (λv=>(r.n.Log.Start<=v.1/\v.1<=100000)/\0<=v.2.1/\v.2.2.length<=4/\∀e∈v.2.2,e∈m.Entries) ?_ λg hg=>Po.i (λ_=> ?_) λ_=>hg _ ⟨⟨by show r.n.Log.Start<=m.Index;rename_i q;simp only at q;omega,hix.2⟩,hm.lt,hen.1,λe he=>he⟩))
 ·rintro⟨y,t⟩ ⟨rfl,h2⟩
  exact Po.r ⟨w,h2⟩
 ·rintro⟨ix,lt,es⟩ ⟨v1,v2,v3,v4⟩
  simp only at v1 v2 v3 v4⊢
  have w1:NW n ⟨r.n.Id,r.n.Term,r.n.Vote,0,m.From,r.n.Conf,r.n.Log,r.n.Commit,0,r.n.Limit,[],[]⟩:=⟨w.1,w.2,w.3,w.4,w.5,w.6,w.7,by simp,by simp⟩
  have rf:∀m':Message,m'.From=m.From->∀x,Po (s_l16Refuse N ⟨⟨r.n.Id,r.n.Term,r.n.Vote,0,m.From,r.n.Conf,r.n.Log,r.n.Commit,0,r.n.Limit,[],[]⟩,r.told⟩ m' x) λq=>q.n=⟨r.n.Id,r.n.Term,r.n.Vote,0,m.From,r.n.Conf,r.n.Log,r.n.Commit,0,r.n.Limit,[],[]⟩/\TL 8 q.told:=λm' e x=>refuse_t N (r:=⟨_,_⟩) w1 (by rw[e];exact hm.fr) x ht
  have rk:∀q:Tl16Run,q.n=⟨r.n.Id,r.n.Term,r.n.Vote,0,m.From,r.n.Conf,r.n.Log,r.n.Commit,0,r.n.Limit,[],[]⟩/\TL 8 q.told->Po (some (⟨⟨q.n.Id,q.n.Term,q.n.Vote,q.n.Role,q.n.Lead,r.n.Conf,⟨q.n.Log.Start,q.n.Log.StartTerm,r.n.Log.Entries⟩,q.n.Commit,q.n.Clock,q.n.Limit,[],[]⟩,q.told⟩:Tl16Run)) (RW n 8):=by
   rintro⟨y,t⟩ ⟨rfl,h2⟩
   exact Po.r ⟨w1,h2⟩
  refine Po.b (lt_t N hlw ix (by omega)) λt htt=>Po.i (λ_=>Po.j (λ_=>True) (λv _=>Po.j (λ_=>True) (λu _=>Po.b (rf _ rfl u) rk) λg hg=>Po.i (λ_=>hg _ trivial) λ_=>hg _ trivial) λg hg=>Po.i (λ_=>hg _ trivial) λ_=>hg _ trivial) λq=> ?_
  have hie:ix<=r.n.Log.Start+r.n.Log.Entries.length:=by
   rcases htt with ⟨_,e⟩|e|⟨e,_⟩<;>omega
  refine Po.j (λk:Int=>0<=k/\k<=es.length/\ix+k<=r.n.Log.Start+r.n.Log.Entries.length) (λk hk=> ?_) λg hg=>Po.b (Po.l0 hN (λk i (_:Unit)=>s_l16AskAppend_l1 N r ⟨⟨r.n.Id,r.n.Term,r.n.Vote,0,m.From,r.n.Conf,r.n.Log,r.n.Commit,r.n.Clock,r.n.Limit,[],[]⟩,r.told⟩ (ix,lt,es) k i) es.length (λi _=>i<=es.length/\ix+i<=r.n.Log.Start+r.n.Log.Entries.length) (by omega) (λk i s h0 hs kk=> ?_) (s:=()) (by omega) ⟨by omega,by omega⟩) hg
  ·have w2:∀(es':List Entry)(c:Int),es'.length<=121->(∀e∈es',e.Data.size<=120/\0<=e.Term/\e.Term<=r.n.Term)->r.n.Commit<=c->c<=r.n.Log.Start+es'.length->NW n ⟨r.n.Id,r.n.Term,r.n.Vote,0,m.From,r.n.Conf,⟨r.n.Log.Start,r.n.Log.StartTerm,es'⟩,c,0,r.n.Limit,[],[]⟩:=λes' c a1 a2 a3 a4=>⟨w.1,w.2,w.3,a1,a2,w.6,⟨Int.le_trans hwc.1 a3,a4⟩,by simp,by simp⟩
   rw[w64_id (n:=ix+k) (by omega) (by omega),w64_id (n:=ix+k-_) (by omega) (by omega),w64_id (n:=ix+es.length) (by omega) (by omega)]
   refine Po.j (λl=>l.length<=121/\(∀e∈l,e.Data.size<=120/\0<=e.Term/\e.Term<=r.n.Term)/\r.n.Commit<=r.n.Log.Start+l.length/\ix+es.length<=r.n.Log.Start+l.length) (λl hl=>Po.j (λc=>c<=ix+es.length) (λc hc=>Po.j (λc=>r.n.Commit<=c/\c<=r.n.Log.Start+l.length) (λc hc=>Po.e (tell_e N _ _ (by simp only;omega)) (Po.r ⟨w2 l c hl.1 hl.2.1 hc.1 hc.2,⟨by simp;omega,(ht.add (tw0 hm.fr n45)).2⟩⟩)) λg hg=>Po.i (λq=>hg _ ⟨Int.le_of_lt q,by omega⟩) λ_=>hg _ ⟨Int.le_refl _,by show r.n.Commit<=_;omega⟩) λg hg=>Po.i (λ_=>hg _ (Int.le_refl _)) λ_=>hg _ (by omega)) λg hg=>Po.i (λq=> ?_) λ_=>hg _ ⟨hll,w.dat,hwc.2,by omega⟩
   obtain⟨c,rfl⟩:∃c:Nat,k=c:=⟨k.toNat,by omega⟩
   obtain⟨d,hd⟩:∃d:Nat,ix+c-r.n.Log.Start=d:=⟨(ix+c-r.n.Log.Start).toNat,by omega⟩
   simp only[hd]
   rw[Pe.take_ok (by omega),bO,Int.toNat_natCast,cat_ok (by simp;omega),bO,drop_ok (by omega),bO,List.nil_append]
   refine Po.c (by simp;omega) (Po.i (λ_=>Po.b (rf _ rfl _) rk) λq2=> ?_)
   have hsz:∀e∈r.n.Log.Entries.take d++es.drop c,e.Data.size<=120/\0<=e.Term/\e.Term<=r.n.Term:=by
    intro e he
    rcases List.mem_append.1 he with he|he
    ·exact w.dat e (List.mem_of_mem_take he)
    ·have:=hen.2 e (v4 e (List.mem_of_mem_drop he))
     exact⟨this.1,this.2.1,by omega⟩
   have hln:(r.n.Log.Entries.take d++es.drop c).length=d+(es.length-c):=by simp;omega
   have hsum:=sum_le (f:=totEntry) (B:=120) λe he=>(hsz e he).1
   refine Po.e (logOk_spec N hN _ (by unfold totLog;simp only[totL];omega)) (Po.i (λ_=>Po.b (rf _ rfl _) rk) λq3=>hg _ ⟨?_,hsz,by omega,by omega⟩)
   rw[Bool.not_eq_false]at q3
   have:=(logOk_at q3).2.2.2.2.1
   simp only at this
   omega
  ·rw[s_l16AskAppend_l1]
   refine Po.i (λq=> ?_) λ_=>Po.r ⟨h0,hs⟩
   simp only at q⊢
   rw[w64_id (n:=ix+1) (by omega) (by omega),w64_id (n:=ix+1+i) (by omega) (by omega)]
   refine Po.b (lt_t N hlw _ (by omega)) λt htt=>Po.a h0 q λe he=>Po.i (λc=>kk q () ⟨by omega,?_⟩) λ_=>Po.r ⟨h0,hs⟩
   have:=(hen.2 e (v4 e he)).2.1
   rcases htt with ⟨_,e⟩|e|⟨e,_⟩<;>omega
 ·simp only at*
  rw[w64_id (by omega) (by omega)]
  refine Po.j (λv:Int=>0<=v/\v<=m.Entries.length) (λv hv=> ?_) λg hg=>Po.i (λ_=>hg _ ⟨by omega,Int.le_refl _⟩) λ_=>hg _ ⟨by omega,by omega⟩
  obtain⟨c,rfl⟩:∃c:Nat,v=c:=⟨v.toNat,by omega⟩
  rw[drop_ok (by omega),bO]
  exact hg _ ⟨⟨Int.le_refl _,hls.2⟩,by show 0<=r.n.Log.StartTerm;omega,by simp;omega,λe he=>List.mem_of_mem_drop he⟩
theorem tot_ent {α:Type}{f:α->Nat}:∀{xs:List α}{x:α},x∈xs->f x<=(xs.map f).sum
 |y::ys,x,h=>by
  rw[List.map_cons,List.sum_cons]
  rcases List.mem_cons.1 h with rfl|h
  ·omega
  ·have:=tot_ent (f:=f) h;omega
theorem mok_t (N:Nat)(hN:Big N){m:Message}(ht:totMessage m<=1000000):Po (s_MessageOk N m) λb=>b=true->MW m/\(m.Kind=5->CW m.Conf/\m.Data.size<=60/\m.LogTerm<=100000):=by
 simp only[totMessage,totL]at ht
 unfold s_MessageOk
 refine Po.n (by simp) λ_=>Po.n (by simp) λh2=>Po.n (by simp) λh3=>Po.i (λ_=>Po.r (by simp)) λ_=>Po.n (by simp) λh4=>Po.n (by simp) λh5=>Po.n (by simp) λh6=>Po.n (by simp) λh7=>Po.j (λ_=>m.Entries.length<=4) (λ_ hl=>Po.j (λ_=>∀e∈m.Entries,e.Data.size<=120/\0<=e.Term/\e.Term<=m.Term) (λ_ he=> ?_) λg hg=>Po.b (P:=λr=>r=.inl false\/∃u,r=.inr u/\∀e∈m.Entries,e.Data.size<=120/\0<=e.Term/\e.Term<=m.Term) (Po.l0 hN (λk i t=>s_MessageOk_l1 N m k t i) m.Entries.length (λi _=>∀j:Nat,(j:Int)<i->∀e,m.Entries[j]? =some e->e.Data.size<=120/\0<=e.Term/\e.Term<=m.Term) (by omega) (λk i s h0 hs kk=> ?_) (by omega) (by omega)) ?_) λg hg=>Po.i (λ_=>Po.r (by simp)) λc=>Po.i (λ_=>Po.i (λ_=>Po.r (by simp)) λ_=>hg () (by omega)) λ_=>hg () (by omega)
 ·have w:MW m:=⟨h2,h4,h5.1,h6,h7,hl,he⟩
  refine Po.i (λk5=>Po.e (confOk_spec N hN _ (by omega)) (Po.i (λc=>Po.r λe=>⟨w,λ_=>⟨conf_cw c,by simp only[DT]at e;omega,h5.2⟩⟩) λ_=>Po.r (by simp))) λk5=>Po.i (λ_=>Po.i (λ_=>Po.r λ_=>⟨w,λe=>absurd e k5⟩) λ_=>Po.r (by simp)) λ_=>Po.r (by simp)
 ·rw[s_MessageOk_l1]
  refine Po.i (λq=>Po.a' h0 q λe he=>Po.e (entOk_spec N hN e (by have h1:totEntry e<=_:=tot_ent (List.mem_of_getElem? he);have h2:e.Data.size=totEntry e:=rfl;omega)) (Po.i (λ_=>Po.r (.inl rfl)) λc=>Po.a' h0 q λe2 he2=>Po.i (λ_=>Po.r (.inl rfl)) λc2=>Po.a' h0 q λe3 he3=>Po.i (λ_=>Po.r (.inl rfl)) λc3=>Po.a' h0 q λe4 he4=>kk q _ λj hj x hx=> ?_)) λq=>Po.r (.inr ⟨(),rfl,λe he=> ?_⟩)
  ·by_cases hji:j=i.toNat
   ·rw[hji,he]at hx
    rw[he]at he3
    simp only[Option.some.injEq]at hx he3
    subst hx he3
    rw[Bool.not_eq_false]at c
    have:=entOk_term c
    exact⟨ent_small c,this.1,by omega⟩
   ·exact hs j (by omega) x hx
  ·obtain⟨j,hj,rfl⟩:=List.getElem_of_mem he
   exact hs j (by omega) _ (List.getElem?_eq_getElem hj)
 ·rintro _ (rfl|⟨u,rfl,hp⟩)
  ·exact Po.r (by simp)
  ·exact hg () hp
theorem reply_t (N:Nat)(hN:Big N){n:Node}(h:NR n){r:Tl16Run}(w:NW n r.n){m:Message}(hm:MW m)(ht:TL 0 r.told):Po (s_l16Reply N r m) (RW n 8):=by
 have up:∀{k:Int}{t:List Message},TL k t->k<=8->TL 8 t:=λa b=>⟨Int.le_trans a.1 b,a.2⟩
 have hps:=w.peers
 have hlw:=h.lw w
 have hll:=w.len
 have hls:=hlw.s
 have hix:=hm.ix
 have hcm:=hm.cm
 have w0:RW n 8 r:=⟨w,up ht (by omega)⟩
 unfold s_l16Reply
 refine Po.i (λ_=>Po.r w0) λ_=>Po.i (λ_=>Po.r w0) λ_=>Po.j (λv:Int=> -1<=v/\v<r.n.Peers.length) (λv hv=>Po.i (λ_=>Po.r w0) λhv0=>Po.e (last_e N hlw) (Po.a (by omega) hv.2 λp hp=> ?_)) λg hg=>Po.b (Po.l0 hN (λk i s=>s_l16Reply_l1 N r m k s i) r.n.Peers.length (λi s=>(-1<=s/\s<r.n.Peers.length)) (by omega) (λk i s h0 hs kk=> ?_) (by omega) (by omega)) hg
 ·obtain⟨p1,p2,p3,p4⟩:=hps.2 p hp
  have ws:∀q:Peer,PW q->NW n ⟨r.n.Id,r.n.Term,r.n.Vote,r.n.Role,r.n.Lead,r.n.Conf,r.n.Log,r.n.Commit,r.n.Clock,r.n.Limit,r.n.Votes,r.n.Peers.set v.toNat q⟩:=λq hq=>w.put h _ _ w.votes ⟨by rw[List.length_set];exact hps.1,λx hx=>(List.mem_or_eq_of_mem_set hx).elim (hps.2 x) λe=>e▸hq⟩
  refine Po.i (λ_=>Po.j (λx=>0<=x/\x<=200000) (λx hx=>Po.j (λy=> -1000000<=y/\y<=900000) (λy hy=>Po.j (λz=>0<=z/\z<=20000) (λz hz=>Po.a (by omega) hv.2 λ_ _=> ?_) λg hg=>Po.i (λ_=>hg _ ⟨Int.le_refl _,by show(0:Int)<=20000;omega⟩) λ_=>hg _ p4) λg hg=>Po.i (λ_=>hg _ ⟨by omega,by omega⟩) λc=>hg _ p3) λg hg=>Po.i (λ_=>hg _ ⟨by omega,by omega⟩) λ_=>hg _ ⟨hix.1,by omega⟩) λ_=> ?_
  ·rw[w64_id (n:=y+1) (by omega) (by omega)]
   have pw:PW ⟨p.Id,y+1,y,z⟩:=⟨p1,⟨by show-1000000<=y+1;omega,by show y+1<=1000000;omega⟩,⟨hy.1,hy.2⟩,hz⟩
   refine Po.b (commit_t N hN h (r:=⟨_,_⟩) (ws _ pw)) λq hq=> ?_
   have tq:TL 0 q.told:=by rw[hq.2];exact ht
   refine Po.i (λ_=>Po.i (λ_=>Po.b (send_t N hN h hq.1 (by omega) tq pw) ?_) λ_=>Po.r ⟨hq.1,up tq (by omega)⟩) λ_=>Po.r ⟨hq.1,up tq (by omega)⟩
   obtain⟨qn,qt⟩:=q
   rintro⟨y,t⟩ ⟨rfl,h2⟩
   exact Po.r ⟨hq.1,up h2 (by omega)⟩
  ·rw[w64_id (n:=m.Index+1) (by omega) (by omega),w64_id (n:=p.Match+1) (by omega) (by omega)]
   refine Po.j (λx=>(-1000000<=x.1/\x.1<=1000000)/\0<=x.2/\x.2<=20000) (λx hx=>Po.a (by omega) hv.2 λ_ _=> ?_) λg hg=>Po.i (λ_=>Po.i (λ_=>Po.i (λ_=>hg _ ⟨p2,by show 0<=m.Commit/\m.Commit<=20000;omega⟩) λ_=>hg _ ⟨p2,by show(0:Int)<=0/\(0:Int)<=20000;omega⟩) λ_=>hg _ ⟨p2,by show(0:Int)<=0/\(0:Int)<=20000;omega⟩) λ_=>Po.j (λy=> -1000000<=y) (λy hy=>Po.i (λ_=>hg _ ⟨⟨hy,by show y<=1000000;omega⟩,p4⟩) λ_=>hg _ ⟨p2,p4⟩) λg hg=>Po.i (λ_=>hg _ (by omega)) λ_=>hg _ (by omega)
   have pw:PW ⟨p.Id,x.1,p.Match,x.2⟩:=⟨p1,hx.1,p3,hx.2⟩
   refine Po.b (send_t N hN h (r:=⟨_,_⟩) (ws _ pw) (by omega) ht pw) ?_
   rintro⟨y,t⟩ ⟨rfl,h2⟩
   exact Po.r ⟨ws _ pw,up h2 (by omega)⟩
 ·rw[s_l16Reply_l1]
  exact Po.i (λq=>Po.j (λv:Int=> -1<=v/\v<r.n.Peers.length) (λv hv=>kk q v hv) λg hg=>Po.a h0 q λ_ _=>Po.i (λ_=>hg _ ⟨by omega,q⟩) λ_=>hg _ hs) λ_=>Po.r hs
theorem recv_t (N:Nat)(hN:Big N){n:Node}(hs:totNode n<=1000000){m:Message}(hms:totMessage m<=1000000):Po (s_Receive N n m) λq=>q.2.2=false/\q.2.1=[]\/NK n/\NW n q.1/\TL 8 q.2.1/\MW m/\(m.Kind=5->CW m.Conf/\m.Data.size<=60/\m.LogTerm<=100000/\m.Term<=q.1.Term):=by
 unfold s_Receive
 refine Po.b (nok_t N hN hs) λb hb=>Po.i (λ_=>Po.r (.inl ⟨rfl,rfl⟩)) λc=>Po.b (mok_t N hN hms) λb2 hb2=>Po.i (λ_=>Po.r (.inl ⟨rfl,rfl⟩)) λc2=>Po.i (λ_=>Po.r (.inl ⟨rfl,rfl⟩)) λ_=> ?_
 have K:=hb (by simpa using c)
 obtain⟨hm,hm5⟩:=hb2 (by simpa using c2)
 have w:=K.w
 have h:=K.r
 have htm:=w.term
 have hmt:=hm.tm
 have t0:TL 0 []:=⟨Int.le_refl _,by simp⟩
 refine Po.e (copy_spec N n (by omega)) (Po.j (λv=>NW n ⟨v.1,v.2.1,v.2.2.1,v.2.2.2.1,v.2.2.2.2.1,n.Conf,⟨v.2.2.2.2.2.1,v.2.2.2.2.2.2.1,n.Log.Entries⟩,v.2.2.2.2.2.2.2.1,v.2.2.2.2.2.2.2.2.1,v.2.2.2.2.2.2.2.2.2.1,v.2.2.2.2.2.2.2.2.2.2.1,v.2.2.2.2.2.2.2.2.2.2.2.1⟩/\TL 0 v.2.2.2.2.2.2.2.2.2.2.2.2/\m.Term<=v.2.1) ?_ λg hg=>Po.i (λq=>Po.e rfl (hg _ ⟨⟨w.1,w.2,w.3,w.4,λe he=>⟨(w.5 e he).1,(w.5 e he).2.1,by have:=(w.5 e he).2.2;show e.Term<=m.Term;omega⟩,⟨by show n.Term<=m.Term;omega,hmt.2⟩,w.7,by simp,by simp⟩,t0,Int.le_refl _⟩)) λq=>hg _ ⟨w,t0,by show m.Term<=n.Term;omega⟩)
 rintro⟨a1,a2,a3,a4,a5,a6,a7,a8,a9,a10,a11,a12,a13⟩ ⟨v1,v2,v3⟩
 simp only at v1 v2 v3⊢
 have ne:∀{k:Int}{p:Prop},m.Kind=k->k≠5->m.Kind=5->p:=λa b c=>absurd (a.symm.trans c) b
 refine Po.j (λq=>RW n 8 q/\(m.Kind=5->m.Term<=q.n.Term)) (λq hq=>Po.r (.inr ⟨K,hq.1.1,hq.1.2,hm,λe=>⟨(hm5 e).1,(hm5 e).2.1,(hm5 e).2.2,hq.2 e⟩⟩)) λg hg=>Po.i (λq=> ?_) λ_=>Po.i (λq=>Po.b (tellVote_t N hN h (r:=⟨_,_⟩) v1 m v2) λy hy=>hg _ ⟨hy,ne q n25⟩) λ_=>Po.i (λq=>Po.b (askAppend_t N hN h (r:=⟨_,_⟩) v1 hm v2 v3) λy hy=>hg _ ⟨hy,ne q (by decide)⟩) λ_=>Po.i (λq=>Po.b (reply_t N hN h (r:=⟨_,_⟩) v1 hm v2) λy hy=>hg _ ⟨hy,ne q n45⟩) λ_=>Po.i (λq=>Po.b (reply_t N hN h (r:=⟨_,_⟩) v1 hm v2) λy hy=>hg _ ⟨hy,ne q (by decide)⟩) λ_=> ?_
 ·refine Po.b (askVote_t N hN h (r:=⟨_,_⟩) v1 hm v2) ?_
  rintro⟨⟨b1,b2,b3,b4,b5,b6,⟨c1,c2,c3⟩,b8,b9,b10,b11,b12⟩,t⟩ ⟨hy,e1,e2,e3⟩
  simp only at e1 e2 e3
  subst e1 e2 e3
  exact hg _ ⟨⟨⟨hy.1.1,rfl,hy.1.3,hy.1.4,hy.1.5,hy.1.6,hy.1.7,hy.1.8,hy.1.9⟩,hy.2⟩,ne q n15⟩
 ·have v4:TL 8 a13:=⟨Int.le_trans v2.1 (by omega),v2.2⟩
  exact Po.i (λ_=>Po.i (λ_=>Po.e rfl (hg _ ⟨⟨⟨v1.1,v1.2,v1.3,v1.4,v1.5,v1.6,v1.7,by simp,by simp⟩,v4⟩,λ_=>v3⟩)) λ_=>hg _ ⟨⟨v1,v4⟩,λ_=>v3⟩) λ_=>hg _ ⟨⟨v1,v4⟩,λ_=>v3⟩
theorem near_t (N:Nat)(hN:Big N){a b:List Int}(ha:a.length<=1000)(hb:b.length<=1000):Po (s_l16Near N a b) λ_=>True:=by
 unfold s_l16Near
 refine Po.j (λ_=>True) (λ_ _=>Po.r trivial) λg hg=>Po.b (Po.l0 hN (λk i s=>s_l16Near_l1 N a b k s i) 5 (λ_ _=>True) (by omega) (λk i s h0 hs kk=> ?_) (by omega) trivial) hg
 rw[s_l16Near_l1]
 exact Po.i (λq=>Po.j (λ_=>True) (kk (by omega)) λg hg=>Po.e (in_spec N hN _ _ (by omega)) (Po.e (in_spec N hN _ _ (by omega)) (Po.i (λ_=>hg _ trivial) λ_=>hg _ trivial))) λ_=>Po.r trivial
theorem prop_t (N:Nat)(hN:Big N){n:Node}(hs:totNode n<=1000000)(kind:Int){t:BA}(htz:t.size<=100000):Po (s_Propose N n kind t) λq=>q.2.2.2=false/\q.2.1=[]\/NK n/\NW n q.1/\TL 8 q.2.1:=by
 unfold s_Propose
 refine Po.b (nok_t N hN hs) λb hb=>Po.i (λ_=>Po.r (.inl ⟨rfl,rfl⟩)) λc=>Po.i (λ_=>Po.r (.inl ⟨rfl,rfl⟩)) λ_=>Po.e (entOk_spec N hN _ (by show t.size<=_;omega)) (Po.i (λ_=>Po.r (.inl ⟨rfl,rfl⟩)) λc2=> ?_)
 have K:=hb (by simpa using c)
 rw[Bool.not_eq_false]at c2
 have w:=K.w
 have h:=K.r
 have hlw:=h.lw w
 have hls:=hlw.s
 have hlo:=(logOk_at K.log).2.2.2.2.1
 have hwc:=w.com
 have hhc:=h.com
 have hps:=w.peers
 have ht1:t.size<=120:=ent_small c2
 have ht2:0<=n.Term/\n.Term<=100000:=entOk_term c2
 refine Po.b (room_t N hlw) λb hb=>Po.i (λ_=>Po.r (.inl ⟨rfl,rfl⟩)) λc3=>Po.j (λ_=>True) (λ_ _=> ?_) λg hg=>Po.i (λ_=>Po.e (readConf_spec N hN t (by omega)) (Po.b (lt_t N hlw _ (by omega)) λ_ _=>Po.i (λ_=>Po.r (.inl ⟨rfl,rfl⟩)) λ_=>Po.b (cix_t N hN n hlw) λ_ _=>Po.i (λ_=>Po.r (.inl ⟨rfl,rfl⟩)) λ_=>Po.b (cof_t N hN n (h.cw w) hlw) λcf hcf=>Po.b (near_t N hN (by have:=hcf.1;omega) (by unfold readConf;split;exact(by rw[ints_len];omega);exact(by simp))) λ_ _=>Po.i (λ_=>Po.r (.inl ⟨rfl,rfl⟩)) λ_=>hg () trivial)) λ_=>hg () trivial
 have w1:∀ps:List Peer,(ps.length<=4/\∀p∈ps,PW p)->NW n ⟨n.Id,n.Term,n.Vote,n.Role,n.Lead,n.Conf,⟨n.Log.Start,n.Log.StartTerm,n.Log.Entries++[⟨n.Term,kind,t⟩]⟩,n.Commit,n.Clock,n.Limit,n.Votes,ps⟩:=λps hp=>w.add h (by omega) ht1 ⟨ht2.1,Int.le_refl _⟩ _ _ w.votes hp
 have w2:=w1 _ hps
 refine Po.e (copy_spec N n (by omega)) (Po.e (last_e N hlw) (Po.c (by simp;omega) (Po.b (cof_t N hN _ (h.cw w2) (h.lw w2)) λcf hcf=>Po.b (oth_t N hN cf _ hcf) λo ho=> ?_)))
 have hol:=ho.1
 rw[w64_id (by omega) (by omega)]
 refine Po.j (λps=>ps.length<=4/\∀p∈ps,PW p) (λps hp=>Po.b (commit_t N hN h (r:=⟨_,_⟩) (w1 ps hp)) λq hq=>Po.b (sends_t N hN h hq.1 (by omega) (k:=0) (by rw[hq.2];exact⟨Int.le_refl _,by simp⟩)) λz hz=>Po.r (.inr ⟨K,by rw[hz.1];exact hq.1,⟨Int.le_trans hz.2.1 (by omega),hz.2.2⟩⟩)) λg hg=>Po.b (Po.l0 hN (λk i s=>s_Propose_l1 N n (n.Log.Start+n.Log.Entries.length) o k i s) o.length (λi ps=>(ps.length:Int)<=i/\i<=o.length/\∀p∈ps,PW p) (by omega) (λk i s h0 hs kk=> ?_) (by omega) (by simp)) hg
 rw[s_Propose_l1]
 refine Po.i (λq=>Po.j (λps=>(ps.length:Int)<=i+1/\∀p∈ps,PW p) (λps hp=>kk q ps ⟨hp.1,by omega,hp.2⟩) λg hg=>Po.a h0 q λx hx=>Po.j (λv=>PW ⟨v.1,v.2.1,v.2.2.1,v.2.2.2⟩) (λv hv=>Po.c (by simp;omega) (hg _ ⟨by simp;omega,λp hp=> ?_⟩)) λg hg=>Po.b (Po.l0 hN (λk j (v:Int×Int×Int×Int)=>s_Propose_l2 N n o i k j v.1 v.2.1 v.2.2.1 v.2.2.2) n.Peers.length (λ_ v=>PW ⟨v.1,v.2.1,v.2.2.1,v.2.2.2⟩) (by omega) (λk j v h1 hv kk=> ?_) (s:=(x,w64 (n.Log.Start+n.Log.Entries.length+1),0,0)) (by omega) ?_) λv hv=>hg _ hv) λ_=>Po.r ⟨by omega,hs.2.2⟩
 ·rcases List.mem_append.1 hp with hp|hp
  ·exact hs.2.2 p hp
  ·rw[List.mem_singleton]at hp;subst hp;exact hv
 ·rw[s_Propose_l2]
  exact Po.i (λq2=>Po.j (λv=>PW ⟨v.1,v.2.1,v.2.2.1,v.2.2.2⟩) (λv hv=>kk q2 v hv) λg hg=>Po.a h1 q2 λp hp=>Po.a h0 q λy _=>Po.i (λ_=>Po.a h1 q2 λp2 hp2=>hg _ (hps.2 p2 hp2)) λ_=>hg _ hv) λ_=>Po.r hv
 ·rw[w64_id (by omega) (by omega)]
  refine⟨ho.2 x hx,⟨?_,?_⟩,⟨?_,?_⟩,⟨?_,?_⟩⟩<;>simp only<;>omega
def CurW (t:BA)(c:Tl05Cur):Prop:=∃(a:Nat)(b:Bool),c=⟨t,a,b⟩/\a<=t.size
theorem lv_t (N:Nat)(hN:Big N){t:BA}(ht:t.size<=1000000){c:Tl05Cur}(h:CurW t c):Po (s_l05Var N c) λq=>CurW t q.2/\0<=q.1/\q.1<=1000000000:=by
 obtain⟨a,b,rfl,ha⟩:=h
 cases b with
 |true=>exact⟨_,sv_bad N hN t a (by omega) ha,⟨_,_,rfl,ha⟩,by omega,by omega⟩
 |false=>
  refine⟨_,sv_ok N hN t a (by omega) ha,?_⟩
  cases hp:pv t a with
  |none=>exact⟨⟨_,_,rfl,ha⟩,Int.le_refl 0,by show(0:Int)<=1000000000;omega⟩
  |some q=>
   obtain⟨n,k⟩:=q
   obtain⟨h1,h2,h3,_⟩:=pv_some ha hp
   exact⟨⟨_,_,rfl,h3⟩,by simp only;omega,by simp only;omega⟩
theorem tk_t (N:Nat){t:BA}(ht:t.size<=1000000){c:Tl05Cur}(h:CurW t c){n:Int}(h0:0<=n)(h1:n<=1000000000):Po (s_l05Take N c n) λq=>CurW t q.2/\q.1.size<=t.size/\(q.2.bad=false->(q.1.size:Int)=n):=by
 obtain⟨a,b,rfl,ha⟩:=h
 obtain⟨m,rfl⟩:∃m:Nat,n=m:=⟨n.toNat,by omega⟩
 cases b with
 |true=>exact⟨_,take_bad N t a m,⟨_,_,rfl,ha⟩,Nat.zero_le _,λe=>by simp at e⟩
 |false=>
  refine⟨_,take_ok N t a m (by omega) ha (by omega),?_⟩
  by_cases hm:m<=t.size-a
  ·rw[IP hm]
   exact⟨⟨_,_,rfl,by omega⟩,by simp;omega,λ_=>by simp;omega⟩
  ·rw[IQ hm]
   exact⟨⟨_,_,rfl,ha⟩,Nat.zero_le _,λe=>by simp at e⟩
theorem rs_t (N:Nat)(hN:Big N){t:BA}(ht:t.size<=1000000){c:Tl05Cur}(h:CurW t c):Po (s_l05ReadShort N c) λq=>CurW t q.2/\q.1.size<=t.size:=
 Po.b (lv_t N hN ht h) λ_ h2=>Po.b (tk_t N ht h2.1 h2.2.1 h2.2.2) λ_ h3=>Po.r ⟨h3.1,h3.2.1⟩
structure CmW (x:Command):Prop where
 s:0<=x.Session/\x.Session<=100000
 q:0<=x.Seq/\x.Seq<=100000
 v:x.Value.size<=12
 o:x.Old.size<=12
 k:x.Key.size<=9
theorem cmok_t (N:Nat)(x:Command):Po (s_CommandOk N x) λb=>b=true->CmW x:=by
 unfold s_CommandOk
 refine Po.n (by simp) λ_=>Po.n (by simp) λh1=>Po.n (by simp) λh2=>Po.i (λ_=>Po.r (by simp)) λh3=>Po.i (λ_=>Po.r (by simp)) λh4=>Po.i (λ_=>Po.r λe=>⟨h1,h2,by omega,by omega,?_⟩) λ_=>Po.n (by simp) λh5=> ?_
 ·simp only[Bool.and_eq_true,DT,Bool.xor_false]at e
  rw[e.2.2.2.1]
  decide
 ·have w:CmW x:=⟨h1,h2,by omega,by omega,by omega⟩
  exact Po.i (λ_=>Po.i (λ_=>Po.r λ_=>w) λ_=>Po.r (by simp)) λ_=>Po.i (λ_=>Po.i (λ_=>Po.r λ_=>w) λ_=>Po.r (by simp)) λ_=>Po.i (λ_=>Po.r λ_=>w) λ_=>Po.r λ_=>w
theorem lvar_t (N:Nat)(hN:Big N){x:Int}(h0:0<=x)(h1:x<=100000):Po (s_l01Var N x) λt=>t.size<=5:=by
 obtain⟨n,rfl⟩:∃n:Nat,x=n:=⟨x.toNat,by omega⟩
 exact⟨_,var_spec N hN n (by omega),by show(encT n).size<=5;rw[encT_size];exact enc_len5 (by omega)⟩
theorem lsh_t (N:Nat)(hN:Big N){s:BA}(h:s.size<=1000):Po (s_l05Short N s) λt=>t.size<=1005:=Po.b (lvar_t N hN (x:=s.size) (by omega) (by omega)) λt ht=>Po.s (by omega) (Po.r (by rw[BZ];omega))
theorem cmtx_t (N:Nat)(hN:Big N)(x:Command):Po (s_CommandText N x) λq=>q.1.size<=10000:=by
 unfold s_CommandText
 refine Po.b (cmok_t N x) λb hb=>Po.i (λ_=>Po.r (Nat.zero_le _)) λc=> ?_
 have w:=hb (by simpa using c)
 have h1:=w.k
 have h2:=w.v
 have h3:=w.o
 have h4:(strOf ([IntKind.wrap .u8 x.Op]:List Int)).size<=1:=Nat.le_of_eq rfl
 refine Po.b (lvar_t N hN w.s.1 w.s.2) λt1 g1=>Po.s (by omega) (Po.b (lvar_t N hN w.q.1 w.q.2) λt2 g2=>Po.s (by rw[BZ];omega) (Po.b (lsh_t N hN (by omega)) λt3 g3=>Po.s (by simp only[BZ];omega) (Po.b (lsh_t N hN (by omega)) λt4 g4=>Po.s (by simp only[BZ];omega) (Po.b (lsh_t N hN (by omega)) λt5 g5=>Po.s (by simp only[BZ];omega) (Po.r (by simp only[BZ];omega))))))
theorem rcm_t (N:Nat)(hN:Big N){t:BA}(ht:t.size<=1000000):Po (s_ReadCommand N t) λ_=>True:=by
 unfold s_ReadCommand
 refine Po.b (tk_t N ht ⟨0,false,rfl,Nat.zero_le _⟩ (n:=1) (by omega) (by omega)) λy hy=>Po.i (λ_=>Po.r trivial) λc=> ?_
 have h1:=hy.2.2 (by simpa using c)
 rw[show(0:Int)=((0:Nat):Int)from rfl,sat_lt (by omega),bO]
 exact Po.b (lv_t N hN ht hy.1) λ_ h=>Po.b (lv_t N hN ht h.1) λ_ h=>Po.b (rs_t N hN ht h.1) λ_ h=>Po.b (rs_t N hN ht h.1) λ_ h=>Po.b (rs_t N hN ht h.1) λ_ h=>Po.b (cmtx_t N hN _) λ_ _=>Po.i (λ_=>Po.r trivial) λ_=>Po.i (λ_=>Po.r trivial) λ_=>Po.i (λ_=>Po.r trivial) λ_=>Po.r trivial
def PrW (p:Pair):Prop:=1<=p.Key.size/\p.Key.size<=100/\p.Value.size<=1000
theorem mapok_t (N:Nat)(hN:Big N){m:List Pair}(hm:m.length<=100000):Po (s_MapOk N m) λb=>b=true->∀p∈m,PrW p:=by
 unfold s_MapOk
 refine Po.i (λ_=>Po.r (by simp)) λ_=>Po.j (λ_=>∀p∈m,PrW p) (λ_ h=>Po.r λ_=>h) λg hg=>Po.b (P:=λr=>r=.inl false\/∃u,r=.inr u/\∀p∈m,PrW p) (Po.l0 hN (λk i (_:Unit)=>s_MapOk_l1 N m k i) m.length (λi _=>∀j:Nat,(j:Int)<i->∀p,m[j]? =some p->PrW p) (by omega) (λk i s h0 hs kk=> ?_) (s:=()) (by omega) (by omega)) ?_
 ·rw[s_MapOk_l1]
  refine Po.i (λq=>Po.j (λ_=>PrW (m[i.toNat]'(by omega))) (λ_ hp=>kk q () λj hj p hp'=> ?_) λg hg=>Po.a' h0 q λp hp=> ?_) λq=>Po.r (.inr ⟨(),rfl,λp hp=> ?_⟩)
  ·by_cases hji:j=i.toNat
   ·subst hji
    rw[List.getElem?_eq_getElem (by omega)]at hp'
    simp only[Option.some.injEq]at hp'
    exact hp'▸hp
   ·exact hs j (by omega) p hp'
  ·unfold s_l05Key
   rw[in_eq]
   simp only[bO]
   have hp2:m[i.toNat]'(by omega)=p:=by rw[List.getElem?_eq_getElem (by omega)]at hp;simpa using hp
   refine Po.i (λ_=>Po.r (.inl rfl)) λc1=>Po.a' h0 q λp2 hp3=>Po.i (λ_=>Po.r (.inl rfl)) λc2=> ?_
   simp only[Bool.not_eq_false,DT]at c1
   rw[hp]at hp3
   simp only[Option.some.injEq]at hp3
   subst hp3
   have w:PrW (m[i.toNat]'(by omega)):=by rw[hp2];exact⟨by omega,by omega,by omega⟩
   refine Po.i (λ_=> ?_) λ_=>hg () w
   rw[w64_id (n:=i-1) (by omega) (by omega)]
   exact Po.a (by omega) (by omega) λ_ _=>Po.a h0 q λ_ _=>Po.i (λ_=>Po.r (.inl rfl)) λ_=>hg () w
  ·obtain⟨j,hj,rfl⟩:=List.getElem_of_mem hp
   exact hs j (by omega) _ (List.getElem?_eq_getElem hj)
 ·rintro _ (rfl|⟨u,rfl,hp⟩)
  ·exact Po.r (by simp)
  ·exact hg () hp
theorem at_t (N:Nat)(hN:Big N){m:List Pair}(hm:m.length<=100000)(k:BA):Po (s_l06At N m k) λi:Int=> -1<=i/\i<m.length:=by
 unfold s_l06At
 refine Po.j (λ_=>True) (λ_ _=>Po.r ⟨by omega,by omega⟩) λg hg=>Po.b (P:=λr=>∀i:Int,r=.inl i-> -1<=i/\i<m.length) (Po.l0 hN (λf i (_:Unit)=>s_l06At_l1 N m k f i) m.length (λ_ _=>True) (by omega) (λf i s h0 _ kk=> ?_) (s:=()) (by omega) trivial) ?_
 ·rw[s_l06At_l1]
  exact Po.i (λq=>Po.a h0 q λp _=>Po.i (λ_=>Po.r λj e=>by simp only[Sum.inl.injEq]at e;omega) λ_=>kk q () trivial) λ_=>Po.r (by simp)
 ·rintro(i|u) h
  ·exact Po.r (h i rfl)
  ·exact hg () trivial
theorem get_t (N:Nat)(hN:Big N){m:List Pair}(hm:m.length<=100000)(hp:∀p∈m,PrW p)(k:BA):Po (s_l06Get N m k) λt=>t.size<=1000:=
 Po.b (at_t N hN hm k) λi hi=>Po.i (λ_=>Po.r (Nat.zero_le _)) λc=>Po.a (by omega) hi.2 λp h=>Po.r (hp p h).2.2
theorem cut_t (N:Nat)(hN:Big N){m:List Pair}(hm:m.length<=100000)(k:BA):Po (s_l06Cut N m k) λr=>r.length<=m.length:=by
 unfold s_l06Cut
 refine Po.j (λr=>r.length<=m.length) (λ_ h=>Po.r h) λg hg=>Po.b (Po.l0 hN (λf i s=>s_l06Cut_l1 N m k f i s) m.length (λi s=>(s.length:Int)<=i/\i<=m.length) (by omega) (λf i s h0 hs kk=> ?_) (by omega) (by simp)) hg
 rw[s_l06Cut_l1]
 exact Po.i (λq=>Po.j (λv=>(v.length:Int)<=i+1) (λv hv=>kk q v ⟨hv,by omega⟩) λg hg=>Po.a h0 q λp _=>Po.i (λ_=>Po.a h0 q λ_ _=>Po.c (by simp;omega) (hg _ (by simp;omega))) λ_=>hg _ (by omega)) λ_=>Po.r (by omega)
theorem put_t (N:Nat)(hN:Big N){m:List Pair}(hm:m.length<=100000)(k v:BA):Po (s_l06Put N m k v) λr=>r.length<=2*m.length+1:=by
 unfold s_l06Put
 refine Po.j (λr=>r.length<=m.length) (λw hw=>Po.c (by simp;omega) (Po.j (λr=>r.length<=2*m.length+1) (λ_ h=>Po.r h) λg hg=>Po.b (Po.l0 hN (λf i s=>s_l06Put_l2 N m k f i s) m.length (λi s=>(s.length:Int)<=m.length+1+i/\i<=m.length) (by omega) (λf i s h0 hs kk=> ?_) (by omega) (by simp;omega)) hg)) λg hg=>Po.b (Po.l0 hN (λf i s=>s_l06Put_l1 N m k f i s) m.length (λi s=>(s.length:Int)<=i/\i<=m.length) (by omega) (λf i s h0 hs kk=> ?_) (by omega) (by simp)) hg
 ·rw[s_l06Put_l2]
  exact Po.i (λq=>Po.j (λv=>(v.length:Int)<=m.length+2+i) (λv hv=>kk q v ⟨by omega,by omega⟩) λg hg=>Po.a h0 q λp _=>Po.i (λ_=>Po.a h0 q λ_ _=>Po.c (by simp;omega) (hg _ (by simp;omega))) λ_=>hg _ (by omega)) λ_=>Po.r (by omega)
 ·rw[s_l06Put_l1]
  exact Po.i (λq=>Po.j (λv=>(v.length:Int)<=i+1) (λv hv=>kk q v ⟨hv,by omega⟩) λg hg=>Po.a h0 q λp _=>Po.i (λ_=>Po.a h0 q λ_ _=>Po.c (by simp;omega) (hg _ (by simp;omega))) λ_=>hg _ (by omega)) λ_=>Po.r (by omega)
theorem btw_t (N:Nat)(hN:Big N){a b:List Pair}(ha:a.length<=100000)(hb:b.length<=100000):Po (s_MapBetween N a b) λq=>q.1.length<=1000:=by
 unfold s_MapBetween
 refine Po.b (mapok_t N hN ha) λ_ _=>Po.i (λ_=>Po.r (Nat.zero_le _)) λ_=>Po.b (mapok_t N hN hb) λ_ _=>Po.i (λ_=>Po.r (Nat.zero_le _)) λ_=>Po.j (λ_=>True) (λv _=>Po.i (λ_=>Po.r (Nat.zero_le _)) λ_=>Po.r (by simp only;omega)) λg hg=>Po.b (P:=λ_=>True) ?_ hg
 have key:∀(f:Nat)(i k:Int)(l:List Change),0<=i->i<=a.length->0<=k->k<=b.length->a.length+b.length-i-k<f->(l.length:Int)<=i+k->Po (s_MapBetween_l1 N a b f i k l) λ_=>True:=by
  intro f
  induction f with
  |zero=>intro i k l;omega
  |succ f ih=>
   intro i k l h1 h2 h3 h4 h5 h6
   rw[s_MapBetween_l1]
   refine Po.j (λ_=>i<a.length\/k<b.length) (λ_ h7=>Po.j (λ_=>k<b.length) (λ_ h8=>Po.i (λ_=>Po.a h3 h8 λ_ _=>Po.a h3 h8 λ_ _=>Po.c (by simp;omega) ?_) λc=>Po.a h1 (by omega) λ_ _=>Po.a h3 h8 λ_ _=>Po.i (λ_=>Po.a h3 h8 λ_ _=>Po.a h3 h8 λ_ _=>Po.c (by simp;omega) ?_) λ_=>Po.j (λl'=>(l'.length:Int)<=i+k+1) (λl' hl'=> ?_) λg hg=>Po.a h1 (by omega) λ_ _=>Po.a h3 h8 λ_ _=>Po.i (λ_=>Po.a h3 h8 λ_ _=>Po.a h3 h8 λ_ _=>Po.c (by simp;omega) (hg _ (by simp;omega))) λ_=>hg _ (by omega)) λg hg=>Po.i (λc=>Po.a h1 (by omega) λ_ _=>Po.c (by simp;omega) ?_) λc=>Po.i (λq=>Po.a h1 q λ_ _=>Po.a h3 (by omega) λ_ _=>Po.i (λ_=>Po.a h1 q λ_ _=>Po.c (by simp;omega) ?_) λ_=>hg () (by omega)) λ_=>hg () (by omega)) λg hg=>Po.i (λq=>hg () (.inl q)) λ_=>Po.i (λq=>hg () (.inr q)) λ_=>Po.r trivial
   all_goals
    first
    |rw[w64_id (n:=k+1) (by omega) (by omega),w64_id (n:=i+1) (by omega) (by omega)]
    |rw[w64_id (n:=k+1) (by omega) (by omega)]
    |rw[w64_id (n:=i+1) (by omega) (by omega)]
   all_goals exact ih _ _ _ (by omega) (by omega) (by omega) (by omega) (by omega) (by first|omega|(simp;omega))
 exact key N 0 0 [] (by omega) (by omega) (by omega) (by omega) (by unfold Big at hN;omega) (by simp)
theorem rdec_sm (t:BA):0<=(rdec t).1/\(rdec t).1<=1000000000:=by
 unfold rdec
 cases h:rdN t with
 |none=>simp
 |some n=>
  have:=(rdN_some.1 h).1
  simp only
  omega
theorem rdec_t (N:Nat)(hN:Big N)(t:BA):Po (s_ReadDecimal N t) λq=>0<=q.1/\q.1<=1000000000:=⟨_,rdec_spec N hN t,rdec_sm t⟩
theorem dec_t (N:Nat)(hN:Big N){n:Int}(h0:0<=n)(h1:n<=10000000000):Po (s_Decimal N n) λt=>t.size<=21:=
 ⟨_,dec_spec N hN n (by omega) (by omega),by show(Lib.itoa n).toArray.size<=21;rw[List.size_toArray];exact Lib.itoa_length_le n (by omega) (by omega)⟩
def StW (s:Tl15State):Prop:=(0<=s.id/\s.id<=1000000000)/\(0<=s.seq/\s.seq<=1000000000)/\s.reply.size<=1000
theorem sat_t {β:Type}{Q:β->Prop}{t:BA}{i:Int}(h0:0<=i)(h:i<t.size){f:Int->Option β}(k:∀x,Po (f x) Q):Po ((sat? t i).bind f) Q:=by
 obtain⟨n,rfl⟩:∃n:Nat,i=n:=⟨i.toNat,by omega⟩
 rw[sat_lt (by omega)]
 exact k _
theorem sread_t (N:Nat)(hN:Big N){id:Int}(hi:0<=id/\id<=1000000000){t:BA}(ht:t.size<=1000):Po (s_l15Read N id t) λq=>StW q.1:=by
 unfold s_l15Read
 refine Po.j (λv:Int=>0<=v/\v<=t.size) (λv hv=> ?_) λg hg=>Po.b (Po.l0 hN (λk i (_:Unit)=>s_l15Read_l1 N t k i) t.size (λi _=>i<=t.size) (by omega) (λk i s h0 hs kk=> ?_) (s:=()) (by omega) (by omega)) hg
 ·rw[w64_id (n:=v+1) (by omega) (by omega)]
  refine Po.j (λu:Int=>v+1<=u) (λu hu=>Po.i (λ_=>Po.r ⟨hi,by show(0:Int)<=0/\(0:Int)<=1000000000;omega,Nat.zero_le _⟩) λc=> ?_) λg hg=>Po.b (Po.l0 hN (λk i (_:Unit)=>s_l15Read_l2 N t k i) t.size (λi _=>v+1<=i) (by omega) (λk i s h0 hs kk=> ?_) (s:=()) (by omega) (by omega)) hg
  ·obtain⟨a,rfl⟩:∃a:Nat,v=a:=⟨v.toNat,by omega⟩
   obtain⟨b,rfl⟩:∃b:Nat,u=b:=⟨u.toNat,by omega⟩
   rw[stake_ok (by omega),bO,WS (by omega),show((a:Int)+1)=((a+1:Nat):Int) by omega]
   refine Po.b (rdec_t N hN _) λx hx=> ?_
   rw[scut_ok (by omega) (by omega),bO]
   refine Po.b (rdec_t N hN _) λy hy=> ?_
   rw[sdrop_ok (by omega),bO]
   have hz:(t.extract (b+1) t.size).size<=1000:=by rw[ByteArray.size_extract];omega
   exact Po.i (λ_=>Po.r ⟨hi,hx,hz⟩) λ_=>Po.r ⟨hi,hx,hz⟩
  ·rw[s_l15Read_l2]
   exact Po.i (λq=>sat_t h0 q λx=>Po.i (λ_=>kk q () (by omega)) λ_=>Po.r hs) λ_=>Po.r hs
 ·rw[s_l15Read_l1]
  exact Po.i (λq=>sat_t h0 q λx=>Po.i (λ_=>kk q () (by omega)) λ_=>Po.r ⟨h0,hs⟩) λ_=>Po.r ⟨h0,hs⟩
theorem ses_t (N:Nat)(hN:Big N){m:List Pair}(hm:m.length<=100000)(hp:∀p∈m,PrW p):Po (s_l15Sessions N m) λq=>q.1.length<=m.length/\∀s∈q.1,StW s:=by
 unfold s_l15Sessions
 refine Po.j (λl=>l.length<=m.length/\∀s∈l,StW s) (λl hl=>Po.r hl) λg hg=>Po.b (P:=λr=>∃l:List Tl15State,(l.length<=m.length/\∀s∈l,StW s)/\((∃b,r=.inl (l,b))\/r=.inr l)) (Po.l0 hN (λk i l=>s_l15Sessions_l1 N m k i l) m.length (λi l=>(l.length:Int)<=i/\i<=m.length/\∀s∈l,StW s) (by omega) (λk i l h0 hs kk=> ?_) (by omega) (by simp)) ?_
 ·rw[s_l15Sessions_l1]
  refine Po.i (λq=>Po.j (λl=>(l.length:Int)<=i+1/\∀s∈l,StW s) (λl hl=>kk q l ⟨hl.1,by omega,hl.2⟩) λg hg=>Po.a h0 q λp hp1=>sat_t (by omega) (by have:=(hp p hp1).1;omega) λx=>Po.i (λ_=>hg _ ⟨by omega,hs.2.2⟩) λ_=>Po.a h0 q λp2 hp2=> ?_) λ_=>Po.r ⟨l,⟨by omega,hs.2.2⟩,.inr rfl⟩
  rw[show(1:Int)=((1:Nat):Int)from rfl,sdrop_ok (hp p2 hp2).1,bO]
  refine Po.b (rdec_t N hN _) λd hd=>Po.a h0 q λp3 hp3=>Po.b (sread_t N hN hd (hp p3 hp3).2.2) λst hst=>Po.i (λ_=>Po.r ⟨l,⟨by omega,hs.2.2⟩,.inl ⟨_,rfl⟩⟩) λ_=>Po.i (λ_=>Po.r ⟨l,⟨by omega,hs.2.2⟩,.inl ⟨_,rfl⟩⟩) λ_=>Po.j (λv:Int=>0<=v/\v<=l.length) (λv hv=> ?_) λg hg=>Po.b (P:=λv:Int=>0<=v/\v<=l.length) ?_ hg
  ·obtain⟨c,rfl⟩:∃c:Nat,v=c:=⟨v.toNat,by omega⟩
   rw[Pe.take_ok (by omega),bO,Int.toNat_natCast,cat_ok (by simp;omega),bO,cat_ok (by simp;omega),bO,drop_ok (by omega),bO]
   refine Po.c (by simp;omega) (hg _ ⟨by simp;omega,λs h=> ?_⟩)
   simp only[List.nil_append,List.mem_append,List.mem_singleton]at h
   rcases h with (h|rfl)|h
   ·exact hs.2.2 s (List.mem_of_mem_take h)
   ·exact hst
   ·exact hs.2.2 s (List.mem_of_mem_drop (List.mem_of_mem_take h))
  ·have key:∀(f:Nat)(v:Int),0<=v->v<=l.length->v<f->Po (s_l15Sessions_l2 N l d f v) λv=>0<=v/\v<=l.length:=by
    intro f
    induction f with
    |zero=>intro v;omega
    |succ f ih=>
     intro v a1 a2 a3
     rw[s_l15Sessions_l2]
     refine Po.i (λc=> ?_) λ_=>Po.r ⟨a1,a2⟩
     rw[w64_id (n:=v-1) (by omega) (by omega)]
     exact Po.a (by omega) (by omega) λ_ _=>Po.i (λ_=>ih _ (by omega) (by omega) (by omega)) λ_=>Po.r ⟨a1,a2⟩
   exact key N _ (by omega) (by omega) (by unfold Big at hN;omega)
 ·rintro _ ⟨l,hl,⟨b,rfl⟩|rfl⟩
  ·exact Po.r hl
  ·exact hg l hl
theorem key_t (N:Nat)(hN:Big N){n:Int}(h0:0<=n)(h1:n<=1000000000):Po (s_l15Key N n) λ_=>True:=Po.b (dec_t N hN h0 (by omega)) λt ht=>Po.s (by show 1+_<=_;omega) (Po.r trivial)
theorem stx_t (N:Nat)(hN:Big N){s:Tl15State}(h1:0<=s.seq/\s.seq<=1000000000)(h2:0<=s.at'/\s.at'<=1000000000)(h3:s.reply.size<=100000):Po (s_l15Text N s) λ_=>True:=by
 have z1:(⟨#[32]⟩:BA).size=1:=rfl
 unfold s_l15Text
 refine Po.b (dec_t N hN h1.1 (by omega)) λt ht=>Po.s (by omega) (Po.b (dec_t N hN h2.1 (by omega)) λu hu=>Po.s (by rw[BZ];omega) (Po.s (by simp only[BZ];omega) (Po.s (by simp only[BZ];omega) (Po.r trivial))))
theorem sz {t:BA}(h:Nat.ble t.size 10000=true):t.size<=10000:=Nat.le_of_ble_eq_true h
theorem op_t (N:Nat)(hN:Big N){m:List Pair}(hm:m.length<=10000)(hp:∀p∈m,PrW p){x:Command}(hx:CmW x):Po (s_l15Op_i1 N m x) λq=>q.1.length<=30000/\q.2.size<=10000:=by
 have hk:=hx.k
 have hl:∀{k:BA}{a:List Pair},a.length<=2*m.length+1->k.size<=10000->a.length<=30000/\k.size<=10000:=λh1 h2=>⟨by omega,h2⟩
 have h0:∀k:BA,k.size<=10000->m.length<=30000/\k.size<=10000:=λk h=>⟨by omega,h⟩
 unfold s_l15Op_i1
 refine Po.s (by show 1+_<=_;omega) (Po.b (at_t N hN (by omega) _) λi hi=>Po.b (get_t N hN (by omega) hp _) λt ht=>Po.i (λ_=>Po.i (λ_=>Po.s (by show 4+_<=_;omega) (Po.r (h0 _ (by rw[BZ];show 4+_<=_;omega)))) λ_=>Po.r (h0 _ (sz rfl))) λ_=>Po.i (λ_=>Po.b (put_t N hN (by omega) _ _) λr hr=>Po.r (hl hr (sz rfl))) λ_=>Po.i (λ_=>Po.i (λ_=>Po.b (cut_t N hN (by omega) _) λr hr=>Po.r (hl (Nat.le_trans hr (by omega)) (sz rfl))) λ_=>Po.r (h0 _ (sz rfl))) λ_=>Po.i (λ_=>Po.r (h0 _ (sz rfl))) λ_=>Po.b (put_t N hN (by omega) _ _) λr hr=>Po.r (hl hr (sz rfl)))
theorem open_t (N:Nat)(hN:Big N){m:List Pair}(hm:m.length<=10000)(hp:∀p∈m,PrW p){ix:Int}(hx:0<=ix/\ix<=100000){all:List Tl15State}(ha:all.length<=10000/\∀s∈all,StW s):Po (s_l15Open_i1 N m ix all) λq=>q.1.length<=100000:=by
 have ha1:=ha.1
 unfold s_l15Open_i1
 refine Po.b (P:=λq=>0<=q.1/\q.1<=1000000000) ?_ λq hq=>Po.i (λ_=>Po.r (by simp only;omega)) λ_=>Po.j (λr=>r.length<=m.length) (λr hr=> ?_) λg hg=>Po.i (λc=>Po.j (λv:Int=>0<=v/\v<all.length) (λv hv=>Po.a hv.1 hv.2 λs hs=>Po.b (key_t N hN (ha.2 s hs).1.1 (ha.2 s hs).1.2) λk _=>Po.b (cut_t N hN (by omega) k) λr hr=>hg r hr) λg hg=>Po.b (Po.l (λf i v=>s_l15Open_i1_l1 N all f v i) all.length (λ_ v=>0<=v/\v<all.length) (by omega) (λf i v h0 hs kk=> ?_) N 1 0 (by omega) ⟨by omega,by omega⟩ (by unfold Big at hN;omega) (by unfold Big at hN;omega)) hg) λ_=>hg _ (Nat.le_refl _)
 ·unfold s_l15Next
  exact Po.b (at_t N hN (by omega) _) λi _=>Po.i (λ_=>Po.r (by simp only;omega)) λ_=>Po.b (get_t N hN (by omega) hp _) λt _=>Po.b (rdec_t N hN t) λd hd=>Po.r hd
 ·rw[w64_id (n:=q.1+1) (by omega) (by omega)]
  refine Po.b (key_t N hN hq.1 hq.2) λk _=>Po.b (stx_t N hN ⟨Int.le_refl 0,by show(0:Int)<=1000000000;omega⟩ ⟨hx.1,by show ix<=_;omega⟩ (Nat.zero_le _)) λt _=>Po.b (put_t N hN (by omega) _ _) λr1 h1=>Po.b (dec_t N hN (n:=q.1+1) (by omega) (by omega)) λd _=>Po.b (put_t N hN (by omega) _ _) λr2 h2=>Po.b (dec_t N hN hq.1 (by omega)) λd hd=>Po.s (by show 5+_<=_;omega) (Po.r (by simp only;omega))
 ·rw[s_l15Open_i1_l1]
  exact Po.i (λq=>Po.j (λv:Int=>0<=v/\v<all.length) (λv hv=>kk q v hv) λg hg=>Po.a h0 q λ_ _=>Po.a hs.1 hs.2 λ_ _=>Po.i (λ_=>hg _ ⟨h0,q⟩) λ_=>hg _ hs) λ_=>Po.r hs
theorem act_t (N:Nat)(hN:Big N){m:List Pair}(hm:m.length<=10000)(ix:Int)(x:Command):Po (s_Act N m ix x) λq=>q.1.length<=100000:=by
 unfold s_Act
 refine Po.b (mapok_t N hN (by omega)) λb hb=>Po.i (λ_=>Po.r (Nat.zero_le _)) λc=>Po.b (cmok_t N x) λb2 hb2=>Po.i (λ_=>Po.r (Nat.zero_le _)) λc2=>Po.n (Nat.zero_le _) λhix=> ?_
 have hp:=hb (by simpa using c)
 have hx:=hb2 (by simpa using c2)
 have h0:m.length<=100000:=by omega
 refine Po.b (ses_t N hN (by omega) hp) λl hl=>Po.i (λ_=>Po.r (Nat.zero_le _)) λ_=>Po.c (by simp;omega) ?_
 rw[List.nil_append]
 refine Po.i (λ_=>Po.b (open_t N hN hm hp hix ⟨by omega,hl.2⟩) λq hq=>Po.i (λ_=>Po.r (Nat.zero_le _)) λ_=>Po.b (mapok_t N hN hq) λ_ _=>Po.i (λ_=>Po.r (Nat.zero_le _)) λ_=>Po.r hq) λ_=>Po.j (λv:Int=> -1<=v/\v<l.1.length) (λv hv=>Po.i (λ_=>Po.r h0) λc3=>Po.a (by omega) hv.2 λs hs=>Po.i (λ_=>Po.r h0) λ_=>Po.i (λ_=>Po.r h0) λ_=>Po.i (λ_=>Po.r h0) λ_=>Po.b (op_t N hN hm hp hx) λo ho=>Po.b (key_t N hN (hl.2 s hs).1.1 (hl.2 s hs).1.2) λk _=>Po.b (stx_t N hN ⟨hx.q.1,by have:=hx.q.2;show x.Seq<=_;omega⟩ ⟨hix.1,by show ix<=_;omega⟩ (by have:=ho.2;show o.2.size<=_;omega)) λt _=>Po.b (put_t N hN (by omega) _ _) λr hr=>Po.b (mapok_t N hN (by omega)) λ_ _=>Po.i (λ_=>Po.r (Nat.zero_le _)) λ_=>Po.r (by simp only;omega)) λg hg=>Po.b (Po.l0 hN (λf i v=>s_Act_l1 N x l f v i) l.1.length (λ_ v=> -1<=v/\v<l.1.length) (by omega) (λf i v a0 hs kk=> ?_) (by omega) ⟨by omega,by omega⟩) hg
 rw[s_Act_l1]
 exact Po.i (λq=>Po.j (λv:Int=> -1<=v/\v<l.1.length) (λv hv=>kk q v hv) λg hg=>Po.a a0 q λ_ _=>Po.i (λ_=>hg _ ⟨by omega,q⟩) λ_=>hg _ hs) λ_=>Po.r hs
theorem acted_t (N:Nat)(hN:Big N){m:List Pair}(hm:m.length<=10000)(ix:Int){e:Entry}(he:e.Data.size<=100000):Po (s_l17Acted N m ix e) λq=>q.1.length<=100000:=by
 have h0:m.length<=100000:=by omega
 exact Po.b (rcm_t N hN (by omega)) λc _=>Po.i (λ_=>Po.r h0) λ_=>Po.i (λ_=>Po.r h0) λ_=>Po.b (act_t N hN hm ix _) λq hq=>Po.i (λ_=>Po.r h0) λ_=>Po.r hq
theorem itoa_pos {x:Int}(h:0<=x):1<=(Lib.itoa x).length:=by
 obtain⟨n,rfl⟩:∃n:Nat,x=n:=⟨x.toNat,by omega⟩
 obtain⟨c,r,h1,_⟩:=dec_head n
 rw[itoa_nat,h1]
 simp
def segNo (t:BA):Option Int:=if(rdec (t.extract 1 t.size)).2=true/\sname (rdec (t.extract 1 t.size)).1=t/\2<=t.size then some (rdec (t.extract 1 t.size)).1 else none
theorem sname_head {x:Int}(h:sname x≠⟨#[]⟩):(0<=x/\x<=999)/\∃u:BA,sname x=(⟨#[103]⟩:BA)++u:=by
 unfold sname at h⊢
 split
 ·exact⟨by assumption,_,rfl⟩
 ·rename_i h1;rw[IQ h1]at h;exact absurd rfl h
theorem segNo_some {t:BA}{n:Int}(h:segNo t=some n):sname n=t/\(0<=n/\n<=999):=by
 unfold segNo at h
 split at h
 ·rename_i h1
  simp only[Option.some.injEq]at h
  subst h
  refine⟨h1.2.1,(sname_head ?_).1⟩
  intro e
  rw[h1.2.1]at e
  have:=h1.2.2
  rw[e]at this
  exact absurd this (by decide)
 ·cases h
theorem l09Seg_ok (N:Nat)(hN:Big N)(t:BA)(ht:t.size<=20000):s_l09Seg N t=some ((segNo t).getD (-1)):=by
 unfold s_l09Seg segNo
 by_cases h:2<=t.size
 ·rw[IQ (by simp;omega),show(1:Int)=((1:Nat):Int)from rfl,sdrop_ok (by omega),bO,rdec_spec N hN,bO,sname_spec N hN]
  cases h1:(rdec (t.extract 1 t.size)).2 with
  |false=>simp
  |true=>
   rw[IQ (by decide),bO]
   by_cases h2:sname (rdec (t.extract 1 t.size)).1=t
   ·rw[IQ (by simp[h2]),IP ⟨rfl,h2,h⟩];rfl
   ·rw[IP (by simp[h2]),IQ (λe=>h2 e.2.1)];rfl
 ·rw[IP (by simp;omega),IQ (λe=>h e.2.2)];rfl
theorem ba_one {t u:BA}(h:t=(⟨#[103]⟩:BA)++u):t.extract 0 1=⟨#[103]⟩:=by
 subst h
 apply ba_ext'
 rw[ext_toList _ 0 1 (by omega) (by rw[BZ];show 1<=1+_;omega)]
 simp[ByteArray.toList_data_append]
theorem isSeg_ok (N:Nat)(hN:Big N)(t:BA)(ht:t.size<=20000):i_isSegName N t=some (segNo t).isSome:=by
 unfold i_isSegName
 have hno:t.extract 0 1≠⟨#[103]⟩\/t.size=0->segNo t=none:=by
  intro h
  cases hs:segNo t with
  |none=>rfl
  |some n=>
   obtain⟨h1,h2⟩:=segNo_some hs
   have h3:t≠⟨#[]⟩:=by
    rintro rfl
    unfold segNo at hs
    rw[IQ (λe=>absurd e.2.2 (by decide))]at hs
    cases hs
   obtain⟨_,u,h4⟩:=sname_head (x:=n) (by rw[h1];exact h3)
   rcases h with h|h
   ·exact absurd (ba_one (h1.symm.trans h4)) h
   ·rw[<-h1,h4,BZ]at h
    exact absurd h (by show ¬(1+_=0);omega)
 have hc:S_CutPrefix N t ⟨#[103]⟩=some (if 1<=t.size/\t.extract 0 1=⟨#[103]⟩then(t.extract 1 t.size,true)else(t,false)):=by
  unfold S_CutPrefix q_CutPrefix q_HasPrefix
  by_cases h:1<=t.size
  ·rw[IP (by simp only[DT];show(t.size:Int)>=((1:Nat):Int);omega),show(((⟨#[103]⟩:BA).size:Nat):Int)=((1:Nat):Int)from rfl,stake_ok h,bO,bO,sdrop_ok h]
   by_cases h2:t.extract 0 1=⟨#[103]⟩
   ·simp[h,h2]
   ·simp[h,h2]
  ·rw[IQ (by simp only[DT];show ¬(t.size:Int)>=((1:Nat):Int);omega),IQ (λe=>h e.1)]
   simp
 rw[hc,bO]
 by_cases hg:1<=t.size/\t.extract 0 1=⟨#[103]⟩
 ·rw[IP hg]
  simp only
  rw[rdec_impl N _ (by rw[ext_size t 1 t.size hg.1 (Nat.le_refl _)];omega),bO,sname_impl N hN]
  unfold segNo
  by_cases h1:(rdec (t.extract 1 t.size)).2=true
  ·by_cases h2:sname (rdec (t.extract 1 t.size)).1=t
   ·have h3:2<=t.size:=by
     rw[<-h2]
     unfold sname
     have hx:=(sname_head (x:=(rdec (t.extract 1 t.size)).1) (by rw[h2];intro e;rw[e]at hg;exact absurd hg.1 (by decide))).1
     rw[IP hx,BZ,show(⟨(Lib.itoa (rdec (t.extract 1 t.size)).1).toArray⟩:BA).size=(Lib.itoa (rdec (t.extract 1 t.size)).1).length from List.size_toArray]
     show 2<=1+_
     have:=itoa_pos hx.1
     omega
    simp[h1,h2,h3]
   ·simp[h1,h2]
  ·simp[h1]
 ·rw[IQ hg,hno (by by_cases h:1<=t.size;exact .inl λe=>hg ⟨h,e⟩;exact .inr (by omega))]
  simp only
  rw[rdec_impl N _ (by omega),bO]
  simp
theorem contains_ok (N:Nat)(hN:Big N)(xs:List Int)(f:File)(hl:xs.length<=1000000):∃b,L_CF_int N xs f=some b/\(b=true↔ ∃n∈xs,sname n=f.Name):=by
 have key:∀(d k m:Nat),xs.length=k+d->d<m->∃o,L_IF_int_l1 N xs f m (k:Int)=some o/\(match o with|.inl i=>0<=i/\∃n∈xs.drop k,sname n=f.Name|.inr _=>¬ ∃n∈xs.drop k,sname n=f.Name):=by
  intro d
  induction d with
  |zero=>
   intro k m hd hm
   obtain⟨m,rfl⟩:∃q,m=q+1:=⟨m-1,by omega⟩
   rw[L_IF_int_l1,IQ (by simp;omega),DN (by omega)]
   exact⟨_,rfl,by simp⟩
  |succ d ih=>
   intro k m hd hm
   obtain⟨m,rfl⟩:∃q,m=q+1:=⟨m-1,by omega⟩
   rw[L_IF_int_l1,IP (by simp;omega),at_lt (by omega),bO,DG (by omega:k<xs.length)]
   unfold i_cleaning_1
   rw[sname_impl N hN,bO,bO]
   by_cases h:sname xs[k]=f.Name
   ·rw[IP (by simp[h])]
    exact⟨_,rfl,by omega,xs[k],List.mem_cons_self,h⟩
   ·rw[IQ (by simp[h]),WS (by omega)]
    obtain⟨o,h1,h2⟩:=ih (k+1) m (by omega) (by omega)
    refine⟨o,h1,?_⟩
    cases o with
    |inl i=>exact⟨h2.1,by obtain⟨n,h3,h4⟩:=h2.2;exact⟨n,List.mem_cons_of_mem _ h3,h4⟩⟩
    |inr u=>rintro⟨n,h3,h4⟩;rcases List.mem_cons.1 h3 with rfl|h3;exact h h4;exact h2 ⟨n,h3,h4⟩
 obtain⟨o,ho,h2⟩:=key xs.length 0 N (by omega) (by unfold Big at hN;omega)
 rw[show((0:Nat):Int)=0 from rfl]at ho
 rw[List.drop_zero]at h2
 unfold L_CF_int L_IF_int
 simp only[joinP]
 rw[ho]
 cases o with
 |inl i=>exact⟨_,rfl,by simp only[DT];exact⟨λ_=>h2.2,λ_=>h2.1⟩⟩
 |inr u=>exact⟨_,rfl,⟨λe=>absurd e (by decide),λe=>absurd e h2⟩⟩
def tidy (segs:List Int)(fs:List File):Prop:=∀f∈fs,∀n,segNo f.Name=some n->∃k∈segs,sname k=f.Name
theorem tidy_cons (segs:List Int)(f:File)(fs:List File):tidy segs (f::fs)↔(∀n,segNo f.Name=some n->∃k∈segs,sname k=f.Name)/\tidy segs fs:=by
 unfold tidy
 simp
theorem cleaning_ok (N:Nat)(hN:Big N)(d:Disk)(hd:diskOk d=true)(m:Manifest)(hm:m.Segs.length<=1000000):∃r,i_cleaning N d m=some r/\r.length<=31/\(r=[]↔fileAt d ⟨#[109,43]⟩=none/\tidy m.Segs d.Files):=by
 have hl:=disk_len hd
 have hf:=disk_file hd
 have key:∀(e k q:Nat)(acc:List Raw),d.Files.length=k+e->e<q->acc.length<=1+k->∃r,i_cleaning_l1 N d m q (k:Int) acc=some r/\r.length<=31/\(r=[]↔acc=[]/\tidy m.Segs (d.Files.drop k)):=by
  intro e
  induction e with
  |zero=>
   intro k q acc hd hm ha
   obtain⟨q,rfl⟩:∃z,q=z+1:=⟨q-1,by omega⟩
   rw[i_cleaning_l1,IQ (by simp;omega),DN (by omega)]
   exact⟨_,rfl,by omega,by simp[tidy]⟩
  |succ e ih=>
   intro k q acc hd hq ha
   obtain⟨q,rfl⟩:∃z,q=z+1:=⟨q-1,by omega⟩
   have hk:k<d.Files.length:=by omega
   obtain⟨c,e2,e3⟩:=contains_ok N hN m.Segs d.Files[k] hm
   rw[i_cleaning_l1,IP (by simp;omega),at_lt hk,bO,isSeg_ok N hN _ (by have:=hf _ (List.getElem_mem hk);omega),bO,e2,bO,cat_le (by simp;omega),bO,WS (by omega),DG hk,tidy_cons]
   cases hs:segNo d.Files[k].Name with
   |none=>
    obtain⟨r,h1,h2,h3⟩:=ih (k+1) q acc (by omega) (by omega) (by omega)
    exact⟨r,h1,h2,by rw[h3];simp⟩
   |some n=>
    simp only[Option.isSome_some,if_true]
    cases c with
    |true=>
     obtain⟨r,h1,h2,h3⟩:=ih (k+1) q acc (by omega) (by omega) (by omega)
     exact⟨r,h1,h2,by rw[h3];simp[e3.1 rfl]⟩
    |false=>
     obtain⟨r,h1,h2,h3⟩:=ih (k+1) q (acc++[_]) (by omega) (by omega) (by simp;omega)
     refine⟨r,h1,h2,?_⟩
     rw[h3]
     constructor
     ·intro h;simp at h
     ·intro h;exact absurd (e3.2 (h.2.1 n rfl)) (by decide)
 unfold i_cleaning
 simp only[joinP]
 rw[fileAt_impl N hN d hd,bO]
 have k2:∀acc:List Raw,acc.length<=1->∃r,((i_cleaning_l1 N d m N 0 acc).bind λv=>some v)=some r/\r.length<=31/\(r=[]↔acc=[]/\tidy m.Segs d.Files):=by
  intro acc ha
  obtain⟨r,e1,e2,e3⟩:=key d.Files.length 0 N acc (by omega) (by unfold Big at hN;omega) (by omega)
  rw[show((0:Nat):Int)=0 from rfl]at e1
  exact⟨r,by rw[e1];rfl,e2,e3⟩
 unfold fileR
 cases hf:fileAt d ⟨#[109,43]⟩with
 |none=>
  obtain⟨r,e1,e2,e3⟩:=k2 [] (by simp)
  exact⟨r,e1,e2,by rw[e3];simp⟩
 |some t=>
  rw[IP rfl,cat_le (by simp),bO]
  obtain⟨r,e1,e2,e3⟩:=k2 ([]++[_]) (by simp)
  exact⟨r,e1,e2,by rw[e3];simp⟩
theorem l1_ok (N:Nat)(hN:Big N)(d:Disk)(hd:diskOk d=true)(y:Shelf×Int×Int)(hm:y.1.Man.Segs.length<=1000000):∀(e k q:Nat)(acc:List Raw),d.Files.length=k+e->e<q->acc.length<=1+k->∃r,s_OpenShelf_l1 N d y q (k:Int) acc=some r/\r.length<=31/\(r=[]↔acc=[]/\∀f∈d.Files.drop k,∀n,segNo f.Name=some n->n∈y.1.Man.Segs):=by
 have hl:=disk_len hd
 have hf:=disk_file hd
 intro e
 induction e with
 |zero=>
  intro k q acc hd hm ha
  obtain⟨q,rfl⟩:∃z,q=z+1:=⟨q-1,by omega⟩
  rw[s_OpenShelf_l1,IQ (by simp;omega),DN (by omega)]
  exact⟨_,rfl,by omega,by simp⟩
 |succ e ih=>
  intro k q acc hd hq ha
  obtain⟨q,rfl⟩:∃z,q=z+1:=⟨q-1,by omega⟩
  have hk:k<d.Files.length:=by omega
  rw[s_OpenShelf_l1,IP (by simp;omega)]
  simp only[joinP,at_lt hk,bO]
  rw[l09Seg_ok N hN _ (by have:=hf _ (List.getElem_mem hk);omega),bO,in_spec N hN y.1.Man.Segs _ (by omega),bO,cat_le (by simp;omega),bO,WS (by omega),DG hk]
  cases hs:segNo d.Files[k].Name with
  |none=>
   obtain⟨r,h1,h2,h3⟩:=ih (k+1) q acc (by omega) (by omega) (by omega)
   exact⟨r,h1,h2,by rw[h3,List.forall_mem_cons];simp[hs]⟩
  |some n=>
   have h0:=(segNo_some hs).2
   simp only[Option.getD_some]
   rw[IP (by simp;omega)]
   by_cases hi:n∈y.1.Man.Segs
   ·obtain⟨r,h1,h2,h3⟩:=ih (k+1) q acc (by omega) (by omega) (by omega)
    rw[IQ (by simp[hi])]
    exact⟨r,h1,h2,by rw[h3,List.forall_mem_cons];simp[hs,hi]⟩
   ·rw[IP (by simp[hi])]
    obtain⟨r,h1,h2,h3⟩:=ih (k+1) q (acc++[_]) (by omega) (by omega) (by simp;omega)
    exact⟨r,h1,h2,by rw[h3,List.forall_mem_cons];simp[hs,hi]⟩
def ftext (d:Disk)(n:BA):BA:=(fileAt d n).getD ⟨#[]⟩
theorem ftext_size {d:Disk}(hd:diskOk d=true)(n:BA):(ftext d n).size<=20000:=by
 unfold ftext
 cases h:fileAt d n with
 |none=>exact Nat.zero_le _
 |some t=>exact fileAt_size hd h
theorem fileR_text (d:Disk)(n:BA):(fileR d n).1=ftext d n:=by
 unfold fileR ftext
 cases fileAt d n<;>rfl
def loadL (N:Nat)(d:Disk):List Int->Int->List Spot->Option (Int×List Spot)
 |[],s,sp=>some (s,sp)
 |n::ns,s,sp=>if(scan N (ftext d (sname n))).2<(ftext d (sname n)).size/\ns≠[]then none else loadL N d ns (imax s (scR N (ftext d (sname n)) n).2.2) (sp++(scR N (ftext d (sname n)) n).1)
theorem bats_rok (N:Nat):∀(ts:List BA)(a:Nat),(∀r∈ts,rok r)->∀p∈(bats N ts a).1,rok p.text
 |[],a,_=>by simp[bats]
 |t::ts,a,h=>by
  rw[bats]
  split
  ·intro p hp
   rcases List.mem_cons.1 hp with rfl|hp
   ·exact h t (by simp)
   ·exact bats_rok N ts _ (λr hr=>h r (by simp[hr])) p hp
  ·simp
theorem scS_len (N:Nat)(hN:Big N)(seg:Int):∀(l:List Tplaced),(∀p∈l,plOk p)->(scS seg l).length<=60*l.length
 |[],_=>Nat.le_refl _
 |p::l,h=>by
  have h1:=(spotsOf_ok N hN seg p (h p (by simp))).2
  have h2:=scS_len N hN seg l (λq hq=>h q (by simp[hq]))
  rw[scS,LA,LC]
  omega
theorem scR_len (N:Nat)(hN:Big N)(t:BA)(ht:t.size<=20000)(seg:Int):(scR N t seg).1.length<=240000:=by
 obtain⟨h1,h2⟩:=scan_ok N hN t ht
 have:=scS_len N hN seg _ h1
 unfold scR
 simp only
 omega
theorem fsum_loop (N:Nat)(hN:Big N)(y:List Spot×List BA×Int)(hy:∀r∈y.2.1,rok r)(hl:y.2.1.length<=4000):∀(d k m a:Nat),y.2.1.length=k+d->d<m->a<=9009*k->s_l09Load_l3 N y m (a:Int) (k:Int)=some ((fsum N (y.2.1.drop k) a:Nat):Int):=by
 intro d
 induction d with
 |zero=>
  intro k m a hd hm ha
  obtain⟨m,rfl⟩:∃q,m=q+1:=⟨m-1,by omega⟩
  rw[s_l09Load_l3,IQ (by simp;omega),DN (by omega),fsum]
 |succ d ih=>
  intro k m a hd hm ha
  obtain⟨m,rfl⟩:∃q,m=q+1:=⟨m-1,by omega⟩
  have hk:k<y.2.1.length:=by omega
  have hr:=hy _ (List.getElem_mem hk)
  have hf:=frm_le N hN hr
  rw[s_l09Load_l3,IP (by simp;omega),at_lt hk,bO,frame_spec N hN _ (by unfold rok at hr;omega),IP hr,bO]
  dsimp only
  rw[w64_nat (by omega),WS (by omega),ih (k+1) m _ (by omega) (by omega) (by omega),DG hk,fsum]
theorem scan_end (N:Nat)(hN:Big N)(t:BA)(ht:t.size<=20000)(seg:Int):s_l09Load_l3 N (scR N t seg) N 0 0=some ((scan N t).2:Int):=by
 obtain⟨h1,h2⟩:=scan_ok N hN t ht
 have h3:=bats_rok N (recs N t).1 0 (recs_ok N t).2
 have:=fsum_loop N hN (scR N t seg) (λr hr=>by
  obtain⟨p,hp,rfl⟩:=List.mem_map.1 (show r∈(scan N t).1.map Tplaced.text from hr)
  exact h3 p hp) (by unfold scR;simpa using h2) (scR N t seg).2.1.length 0 N 0 (by omega) (by have:(scR N t seg).2.1.length<=4000:=(by unfold scR;simpa using h2);unfold Big at hN;omega) (by omega)
 rw[show((0:Nat):Int)=0 from rfl,List.drop_zero]at this
 rw[this]
 congr 2
 exact bats_end N _ 0
theorem puts_append (o a b:List Spot):puts (puts o a) b=puts o (a++b):=by
 unfold puts
 rw[List.foldl_append]
def isCut (N:Nat)(d:Disk)(n:Int):Prop:=(scan N (ftext d (sname n))).2<(ftext d (sname n)).size
instance (N:Nat)(d:Disk)(n:Int):Decidable (isCut N d n):=by unfold isCut;infer_instance
def cutsR (N:Nat)(d:Disk):List Int->List Raw
 |[]=>[]
 |n::ns=>if isCut N d n then⟨1,sname n,⟨#[]⟩,(ftext d (sname n)).extract 0 (scan N (ftext d (sname n))).2⟩::cutsR N d ns else cutsR N d ns
theorem cutsR_nil (N:Nat)(d:Disk):∀l:List Int,cutsR N d l=[]↔ ∀n∈l,¬isCut N d n
 |[]=>by simp[cutsR]
 |n::ns=>by
  rw[cutsR,List.forall_mem_cons,<-cutsR_nil N d ns]
  split<;>simp[*]
def endL (N:Nat)(d:Disk):List Int->Nat->Nat
 |[],e=>e
 |n::ns,_=>endL N d ns (scan N (ftext d (sname n))).2
theorem load_spec (N:Nat)(hN:Big N)(d:Disk)(hd:diskOk d=true)(y:Manifest×Bool)(hy:y.1.Segs.length<=8):∀(e k q end':Nat)(s:Int)(sp:List Spot),y.1.Segs.length=k+e->e<q->sp.length<=240000*k->
  ∃o,s_l09Load_l2 N d y q (end':Int) (k:Int) s (puts [] sp)=some o/\match loadL N d (y.1.Segs.drop k) s sp with
   |none=>o=.inl (⟨man0,[],0⟩,0,4)
   |some (s',sp')=>o=.inr ((endL N d (y.1.Segs.drop k) end':Int),s',puts [] sp')/\sp'.length<=2000000:=by
 have hl:=disk_len hd
 intro e
 induction e with
 |zero=>
  intro k q end' s sp hd hm hsp
  obtain⟨q,rfl⟩:∃z,q=z+1:=⟨q-1,by omega⟩
  rw[s_l09Load_l2,IQ (by simp;omega),DN (by omega)]
  exact⟨_,rfl,rfl,by omega⟩
 |succ e ih=>
  intro k q end' s sp hd2 hq hsp
  obtain⟨q,rfl⟩:∃z,q=z+1:=⟨q-1,by omega⟩
  have hk:k<y.1.Segs.length:=by omega
  have hz:=ftext_size hd (sname y.1.Segs[k])
  have hsl:=scR_len N hN _ hz y.1.Segs[k]
  have hpl:=puts_len sp []
  simp only[List.length_nil,Nat.zero_add]at hpl
  rw[s_l09Load_l2,IP (by simp;omega)]
  simp only[joinP,at_lt hk,bO]
  rw[sname_spec N hN,bO,l03Text_ok N hN d (by omega),bO,show(fileAt d (sname y.1.Segs[k])).getD ⟨#[]⟩=ftext d (sname y.1.Segs[k])from rfl,scan_spec N hN _ hz,bO,scan_end N hN _ hz,bO,l08_ok N hN _ _ (by omega) (by omega),puts_append]
  simp only[bO]
  rw[WS (by omega),DG hk,loadL,endL]
  have hne:(y.1.Segs.drop (k+1)≠[])↔k+1<y.1.Segs.length:=by
   rw[ne_eq,List.drop_eq_nil_iff];omega
  have hmx:∀z:Int->Option ((Shelf×Int×Int)⊕(Int×Int×List Spot)),(if decide ((scR N (ftext d (sname y.1.Segs[k])) y.1.Segs[k]).2.2>s)=true then z (scR N (ftext d (sname y.1.Segs[k])) y.1.Segs[k]).2.2 else z s)=z (imax s (scR N (ftext d (sname y.1.Segs[k])) y.1.Segs[k]).2.2):=by
   intro z
   unfold imax
   by_cases hs:(scR N (ftext d (sname y.1.Segs[k])) y.1.Segs[k]).2.2>s
   ·rw[IP (by simpa using hs),IP hs]
   ·rw[IQ (by simpa using hs),IQ hs]
  have e4:=hmx λv=>s_l09Load_l2 N d y q ((scan N (ftext d (sname y.1.Segs[k]))).2:Int) ((k+1:Nat):Int) v (puts [] (sp++(scR N (ftext d (sname y.1.Segs[k])) y.1.Segs[k]).1))
  rw[e4]
  by_cases h1:(scan N (ftext d (sname y.1.Segs[k]))).2<(ftext d (sname y.1.Segs[k])).size
  ·by_cases h2:k+1<y.1.Segs.length
   ·rw[IP (by simp;omega),IP (by simp;omega),IP ⟨h1,hne.2 h2⟩]
    exact⟨_,rfl,rfl⟩
   ·rw[IP (by simp;omega),IQ (by simp;omega),IQ (λh=>h2 (hne.1 h.2))]
    exact ih (k+1) q _ _ _ (by omega) (by omega) (by rw[LA];omega)
  ·rw[IQ (by simp;omega),IQ (λh=>h1 h.1)]
   exact ih (k+1) q _ _ _ (by omega) (by omega) (by rw[LA];omega)
theorem load_impl (N:Nat)(hN:Big N)(d:Disk)(hd:diskOk d=true)(y:Manifest×Bool)(hy:y.1.Segs.length<=8):∀(e k q:Nat)(s:Int)(raws:List Raw)(sp:List Spot),y.1.Segs.length=k+e->e<q->sp.length<=240000*k->raws.length<=31+k->
  ∃o,i_OpenShelf_l2 N d y q (k:Int) s raws sp=some o/\match loadL N d (y.1.Segs.drop k) s sp with
   |none=>o=.inl (⟨man0,[],0⟩,[],4)
   |some (s',sp')=>o=.inr (s',raws++cutsR N d (y.1.Segs.drop k),sp')/\sp'.length<=2000000:=by
 have hl:=disk_len hd
 intro e
 induction e with
 |zero=>
  intro k q s raws sp hd hm hsp hr
  obtain⟨q,rfl⟩:∃z,q=z+1:=⟨q-1,by omega⟩
  rw[i_OpenShelf_l2,IQ (by simp;omega),DN (by omega)]
  exact⟨_,rfl,by simp[cutsR],by omega⟩
 |succ e ih=>
  intro k q s raws sp hd2 hq hsp hr
  obtain⟨q,rfl⟩:∃z,q=z+1:=⟨q-1,by omega⟩
  have hk:k<y.1.Segs.length:=by omega
  have hz:=ftext_size hd (sname y.1.Segs[k])
  have hsl:=scR_len N hN _ hz y.1.Segs[k]
  rw[i_OpenShelf_l2,IP (by simp;omega)]
  simp only[joinP,at_lt hk,bO]
  rw[sname_impl N hN,bO,fileAt_impl N hN d hd,bO,fileR_text,scan_impl N hN _ hz,bO,batches_impl N hN _ hz]
  simp only[bO]
  rw[WS (by omega),w64_id (n:=(y.1.Segs.length:Int)-1) (by omega) (by omega),DG hk,loadL,cat_le (by omega)]
  simp only[bO]
  have hne:(y.1.Segs.drop (k+1)≠[])↔k+1<y.1.Segs.length:=by
   rw[ne_eq,List.drop_eq_nil_iff];omega
  by_cases h1:(scan N (ftext d (sname y.1.Segs[k]))).2<(ftext d (sname y.1.Segs[k])).size
  ·by_cases h2:k+1<y.1.Segs.length
   ·rw[IP (by simp;omega),IP (by simp;omega),IP ⟨h1,hne.2 h2⟩]
    exact⟨_,rfl,rfl⟩
   ·rw[IP (by simp;omega),IQ (by simp;omega),IP (by simp;omega),stake_ok (by omega),bO,cat_le (by simp;omega),bO,IQ (λh=>h2 (hne.1 h.2))]
    rw[cutsR,IP (show isCut N d y.1.Segs[k]from h1),List.append_cons raws _ (cutsR N d (y.1.Segs.drop (k+1)))]
    exact ih (k+1) q _ _ _ (by omega) (by omega) (by rw[LA];omega) (by simp;omega)
  ·rw[IQ (by simp;omega),IQ (by simp;omega),IQ (λh=>h1 h.1)]
   rw[cutsR,IQ (show ¬isCut N d y.1.Segs[k]from h1)]
   exact ih (k+1) q _ _ _ (by omega) (by omega) (by rw[LA];omega) (by omega)
def sh0:Shelf:=⟨man0,[],0⟩
def mantx:BA:=⟨#[109]⟩
def shelfOf (N:Nat)(d:Disk):Shelf×Int:=if diskOk d=true then
  if(fileAt d mantx).isSome=true/\(manR N (ftext d mantx)).2=true then
   if there d (manR N (ftext d mantx)).1.Segs=true then
    match loadL N d (manR N (ftext d mantx)).1.Segs (manR N (ftext d mantx)).1.Base []with
    |none=>(sh0,4)
    |some (s,sp)=>if dirOk (puts [] sp)=true then(⟨(manR N (ftext d mantx)).1,puts [] sp,s⟩,0)else(sh0,4)
   else(sh0,3)
  else(sh0,2)
 else(sh0,1)
theorem manR_ok {N:Nat}{t:BA}(h:(manR N t).2=true):manOk (manR N t).1=true:=by
 unfold manR at h⊢
 split at h
 ·rename_i h0
  rw[IP h0]
  unfold manF at h⊢
  split at h
  ·rename_i h1
   rw[IP h1]
   simp only[Bool.and_eq_true]at h1
   exact h1.2
  ·cases h
 ·cases h
theorem loadL_cut (N:Nat)(d:Disk):∀(l:List Int)(s:Int)(sp:List Spot){v:Int×List Spot},loadL N d l s sp=some v->(∀n,l.getLast?=some n->¬isCut N d n)->∀n∈l,¬isCut N d n
 |[],_,_,_,_,_,n,hn=>by cases hn
 |[m],_,_,_,_,h,n,hn=>by rcases List.mem_singleton.1 hn with rfl;exact h _ rfl
 |m::p::l,s,sp,v,hv,h,n,hn=>by
  rw[loadL]at hv
  split at hv
  ·cases hv
  ·rename_i h1
   rcases List.mem_cons.1 hn with rfl|hn
   ·exact λhc=>h1 ⟨hc,by simp⟩
   ·exact loadL_cut N d (p::l) _ _ hv (λq hq=>h q (by rw[List.getLast?_cons_cons];exact hq)) n hn
theorem endL_last (N:Nat)(d:Disk):∀(l:List Int)(e:Nat){n:Int},l.getLast?=some n->endL N d l e=(scan N (ftext d (sname n))).2
 |[m],e,n,h=>by simp only[List.getLast?_singleton,Option.some.injEq]at h;subst h;rfl
 |m::p::l,e,n,h=>by rw[List.getLast?_cons_cons]at h;exact endL_last N d (p::l) (scan N (ftext d (sname m))).2 h
def neat (N:Nat)(d:Disk)(segs:List Int):Prop:=fileAt d ⟨#[109,43]⟩=none/\(∀f∈d.Files,∀n,segNo f.Name=some n->n∈segs)/\∀n∈segs,¬isCut N d n
theorem neat_tidy {N:Nat}{d:Disk}{segs:List Int}(h:neat N d segs):tidy segs d.Files:=λf hf n hn=>⟨n,h.2.1 f hf n hn,(segNo_some hn).1⟩
theorem shelf_good {N:Nat}{d:Disk}(h:(shelfOf N d).2=0):diskOk d=true/\manOk (shelfOf N d).1.Man=true/\(shelfOf N d).1.Man=(manR N (ftext d mantx)).1/\(fileAt d mantx).isSome=true/\(manR N (ftext d mantx)).2=true/\there d (manR N (ftext d mantx)).1.Segs=true/\∃s sp,loadL N d (manR N (ftext d mantx)).1.Segs (manR N (ftext d mantx)).1.Base []=some (s,sp)/\dirOk (puts [] sp)=true/\shelfOf N d=(⟨(manR N (ftext d mantx)).1,puts [] sp,s⟩,0):=by
 have e:shelfOf N d=shelfOf N d:=rfl
 unfold shelfOf at h
 split at h
 ·rename_i h0
  split at h
  ·rename_i h1
   split at h
   ·rename_i h2
    split at h
    ·cases h
    ·rename_i s sp h3
     split at h
     ·rename_i h4
      have e2:shelfOf N d=(⟨(manR N (ftext d mantx)).1,puts [] sp,s⟩,0):=by
       unfold shelfOf
       rw[IP h0,IP h1,IP h2,h3]
       simp only
       rw[IP h4]
      exact⟨h0,by rw[e2];exact manR_ok h1.2,by rw[e2],h1.1,h1.2,h2,s,sp,h3,h4,e2⟩
     ·cases h
   ·cases h
  ·cases h
 ·cases h
theorem open_impl (N:Nat)(hN:Big N)(d:Disk)(hl:d.Files.length<=1099511627):∃raws,i_OpenShelf N d=some ((shelfOf N d).1,raws,(shelfOf N d).2)/\((shelfOf N d).2=0->neat N d (shelfOf N d).1.Man.Segs->raws=[]):=by
 unfold i_OpenShelf shelfOf
 rw[diskOk_impl N hN d hl,bO]
 cases hd:diskOk d with
 |false=>exact⟨_,rfl,λe=>by simp at e⟩
 |true=>
  rw[IQ (by decide),IP rfl,fileAt_impl N hN d hd,bO,fileR_text,mani_impl N hN _ (ftext_size hd _),bO]
  have hfr:(fileR d ⟨#[109]⟩).2=(fileAt d mantx).isSome:=by unfold fileR mantx;cases fileAt d ⟨#[109]⟩<;>rfl
  rw[hfr,show ftext d ⟨#[109]⟩=ftext d mantx from rfl]
  cases hs:(fileAt d mantx).isSome with
  |false=>exact⟨[],by simp[sh0,man0],λ_ _=>rfl⟩
  |true=>
   cases hm:(manR N (ftext d mantx)).2 with
   |false=>exact⟨[],by simp[sh0,man0],λ_ _=>rfl⟩
   |true=>
    have hmo:=manR_ok hm
    obtain⟨⟨g1,g2⟩,_⟩:=manOk_ok hmo
    rw[IQ (by decide),IQ (by decide),IP ⟨rfl,rfl⟩]
    simp only[joinP]
    have ht:=there_impl N hN d hd (manR N (ftext d mantx)) g2 (manR N (ftext d mantx)).1.Segs.length 0 N (by omega) (by unfold Big at hN;omega)
    rw[show((0:Nat):Int)=0 from rfl,List.drop_zero]at ht
    rw[ht]
    cases hth:there d (manR N (ftext d mantx)).1.Segs with
    |false=>exact⟨_,rfl,λe=>by simp at e⟩
    |true=>
     obtain⟨r,e1,e2,e3⟩:=cleaning_ok N hN d hd (manR N (ftext d mantx)).1 (by omega)
     rw[IP rfl,IP rfl,bO,Sum.elim_inr,e1,bO]
     obtain⟨o,f1,f2⟩:=load_impl N hN d hd (manR N (ftext d mantx)) g2 (manR N (ftext d mantx)).1.Segs.length 0 N (manR N (ftext d mantx)).1.Base r [] (by omega) (by unfold Big at hN;omega) (by simp) (by omega)
     rw[show((0:Nat):Int)=0 from rfl]at f1
     rw[List.drop_zero]at f2
     rw[f1,bO]
     cases hld:loadL N d (manR N (ftext d mantx)).1.Segs (manR N (ftext d mantx)).1.Base []with
     |none=>rw[hld]at f2;subst f2;exact⟨_,rfl,λe=>by simp at e⟩
     |some v=>
      obtain⟨s,sp⟩:=v
      rw[hld]at f2
      obtain⟨rfl,f3⟩:=f2
      simp only[Sum.elim_inr]
      rw[dirMore_nil N hN sp (by omega),bO]
      cases dirOk (puts [] sp)
      ·exact⟨_,rfl,λe=>by simp at e⟩
      ·exact⟨_,rfl,λ_ h=>by rw[List.append_eq_nil_iff];exact⟨e3.2 ⟨h.1,neat_tidy h⟩,(cutsR_nil N d _).2 h.2.2⟩⟩
theorem open_spec (N:Nat)(hN:Big N)(d:Disk)(hl:d.Files.length<=1099511627):∃raws,s_OpenShelf N d=some ((shelfOf N d).1,raws,(shelfOf N d).2)/\((shelfOf N d).2=0->(raws=[]↔neat N d (shelfOf N d).1.Man.Segs)):=by
 have key:∃e:Nat,s_l09Load N d=some ((shelfOf N d).1,(e:Int),(shelfOf N d).2)/\((shelfOf N d).2=0->e=endL N d (shelfOf N d).1.Man.Segs 0):=by
  unfold s_l09Load shelfOf
  rw[diskOk_spec N hN d hl,bO]
  cases hd:diskOk d with
  |false=>exact⟨0,rfl,λe=>by simp at e⟩
  |true=>
   rw[IQ (by decide),IP rfl,fileAt_spec N hN d hl hd,bO,fileR_text,mani_spec N hN _ (ftext_size hd _),bO]
   have hfr:(fileR d ⟨#[109]⟩).2=(fileAt d mantx).isSome:=by unfold fileR mantx;cases fileAt d ⟨#[109]⟩<;>rfl
   rw[hfr,show ftext d ⟨#[109]⟩=ftext d mantx from rfl]
   cases hs:(fileAt d mantx).isSome with
   |false=>exact⟨0,by simp[sh0,man0],λe=>by simp at e⟩
   |true=>
    cases hm:(manR N (ftext d mantx)).2 with
    |false=>exact⟨0,by simp[sh0,man0],λe=>by simp at e⟩
    |true=>
     have hmo:=manR_ok hm
     obtain⟨⟨g1,g2⟩,_⟩:=manOk_ok hmo
     rw[IQ (by decide),IQ (by decide),IP ⟨rfl,rfl⟩]
     simp only[joinP]
     have ht:=there_spec N hN d hd (manR N (ftext d mantx)) g2 (manR N (ftext d mantx)).1.Segs.length 0 N (by omega) (by unfold Big at hN;omega)
     rw[show((0:Nat):Int)=0 from rfl,List.drop_zero]at ht
     rw[ht]
     cases hth:there d (manR N (ftext d mantx)).1.Segs with
     |false=>exact⟨0,rfl,λe=>by simp at e⟩
     |true=>
      rw[IP rfl,IP rfl,bO,Sum.elim_inr]
      obtain⟨o,f1,f2⟩:=load_spec N hN d hd (manR N (ftext d mantx)) g2 (manR N (ftext d mantx)).1.Segs.length 0 N 0 (manR N (ftext d mantx)).1.Base [] (by omega) (by unfold Big at hN;omega) (by simp)
      rw[show((0:Nat):Int)=0 from rfl,show puts [] []=([]:List Spot)from rfl]at f1
      rw[List.drop_zero]at f2
      rw[f1,bO]
      cases hld:loadL N d (manR N (ftext d mantx)).1.Segs (manR N (ftext d mantx)).1.Base []with
      |none=>rw[hld]at f2;subst f2;exact⟨0,rfl,λe=>by simp at e⟩
      |some v=>
       obtain⟨s,sp⟩:=v
       rw[hld]at f2
       obtain⟨rfl,f3⟩:=f2
       have hpl:=puts_len sp []
       simp only[List.length_nil,Nat.zero_add]at hpl
       simp only[Sum.elim_inr]
       rw[dirOk_spec N hN _ (by omega),bO]
       cases dirOk (puts [] sp)
       ·exact⟨0,rfl,λe=>by simp at e⟩
       ·exact⟨_,rfl,λ_=>rfl⟩
 obtain⟨e,he,hee⟩:=key
 unfold s_OpenShelf
 rw[he,bO]
 by_cases hc:(shelfOf N d).2=0
 ·rw[IQ (by simp[hc])]
  obtain⟨hd,hmo,hm0,_,_,_,s0,sp0,hld,_,_⟩:=shelf_good hc
  obtain⟨⟨g1,g2⟩,_⟩:=manOk_ok hmo
  have hdl:=disk_len hd
  simp only[joinP]
  obtain⟨a,h1,h2⟩:=l03At_ok N hN d (by omega) ⟨#[109,43]⟩
  rw[h1,bO]
  have step:∀acc:List Raw,acc.length<=1->∃raws,((s_OpenShelf_l1 N d ((shelfOf N d).1,(e:Int),(shelfOf N d).2) N 0 acc).bind λv=>(at? (shelfOf N d).1.Man.Segs (w64 (((shelfOf N d).1.Man.Segs.length:Int)-1))).bind λx541=>(s_SegName N x541).bind λy542=>(s_l03Text N d y542).bind λy546=>if decide ((e:Int)<(y546.size:Int))=true then(stake? y546 (e:Int)).bind λx556=>(cat? v [Raw.mk 1 y542 ⟨#[]⟩ x556]).bind λx557=>some ((shelfOf N d).1,x557,(0:Int))else some ((shelfOf N d).1,v,(0:Int)))=some ((shelfOf N d).1,raws,(0:Int))/\(raws=[]↔acc=[]/\(∀f∈d.Files,∀n,segNo f.Name=some n->n∈(shelfOf N d).1.Man.Segs)/\∀n∈(shelfOf N d).1.Man.Segs,¬isCut N d n):=by
   intro acc ha
   obtain⟨r,e1,e2,e3⟩:=l1_ok N hN d hd ((shelfOf N d).1,(e:Int),(shelfOf N d).2) (by simp only;omega) d.Files.length 0 N acc (by omega) (by unfold Big at hN;omega) (by omega)
   rw[show((0:Nat):Int)=0 from rfl]at e1
   rw[List.drop_zero]at e3
   have hlast:(shelfOf N d).1.Man.Segs.getLast?=some ((shelfOf N d).1.Man.Segs[(shelfOf N d).1.Man.Segs.length-1]'(by omega)):=by
    rw[List.getLast?_eq_getElem?,List.getElem?_eq_getElem (by omega)]
   have he2:=hee hc
   rw[endL_last N d _ 0 hlast]at he2
   rw[e1,bO,w64_id (by omega) (by omega),show((shelfOf N d).1.Man.Segs.length:Int)-1=(((shelfOf N d).1.Man.Segs.length-1:Nat):Int) by omega,at_lt (by omega),bO,sname_spec N hN,bO,l03Text_ok N hN d (by omega),bO]
   split
   ·rename_i hlt
    simp only[DT]at hlt
    rw[stake_ok (by omega),bO,cat_le (by simp;omega)]
    refine⟨_,rfl,λh=>by simp at h,λh=>absurd ?_ (h.2.2 _ (List.mem_of_getLast? hlast))⟩
    unfold isCut
    rw[<-he2]
    exact Int.ofNat_lt.1 hlt
   ·rename_i hlt
    simp only[DT]at hlt
    have hall:∀n∈(shelfOf N d).1.Man.Segs,¬isCut N d n:=by
     refine loadL_cut N d _ (shelfOf N d).1.Man.Base [] (by rw[hm0];exact hld) λn hn=> ?_
     rw[hlast,Option.some.injEq]at hn
     subst hn
     unfold isCut
     rw[<-he2]
     exact λh=>hlt (Int.ofNat_lt.2 h)
    exact⟨_,rfl,e3.trans ⟨λh=>⟨h.1,h.2,hall⟩,λh=>⟨h.1,h.2.1⟩⟩⟩
  rw[hc]at step⊢
  have hno:a>=0↔fileAt d ⟨#[109,43]⟩≠none:=by
   rcases h2 with ⟨rfl,h⟩|⟨k,f,rfl,_,_,_,h⟩
   ·simp[h]
   ·simp[h]
  split
  ·rename_i ha
   rw[cat_le (by simp),bO]
   obtain⟨r,h3,h4⟩:=step ([]++[_]) (by simp)
   refine⟨r,h3,λ_=>h4.trans ⟨λh=>by simp at h,λh=>absurd h.1 (hno.1 (by simpa using ha))⟩⟩
  ·rename_i ha
   obtain⟨r,h3,h4⟩:=step [] (by simp)
   refine⟨r,h3,λ_=>h4.trans ⟨λh=>⟨?_,h.2⟩,λh=>⟨rfl,h.2⟩⟩⟩
   cases hf:fileAt d ⟨#[109,43]⟩with
   |none=>rfl
   |some t=>exact absurd (hno.2 (by rw[hf];simp)) (by simpa using ha)
 ·rw[IP (by simpa using hc)]
  refine⟨[],?_,λh=>absurd h hc⟩
  have:(shelfOf N d).1=sh0:=by
   unfold shelfOf at hc⊢
   split
   ·rename_i h0
    rw[IP h0]at hc
    split
    ·rename_i h1
     rw[IP h1]at hc
     split
     ·rename_i h2
      rw[IP h2]at hc
      split
      ·rfl
      ·rename_i s sp h3
       rw[h3]at hc
       simp only at hc
       split
       ·rename_i h4
        rw[IP h4]at hc
        exact absurd rfl hc
       ·rfl
     ·rfl
    ·rfl
   ·rfl
  rw[this]
  rfl
theorem filt_loop {α:Type}(c:α->Bool)(f:List α->Int->List α->Option (List α))(h0:∀i acc,f [] i acc=some acc)
  (h1:∀x xs i acc,f (x::xs) i acc=if c x=true then(cat? acc [x]).bind λz=>f xs (w64 (i+1)) z else f xs (w64 (i+1)) acc):
  ∀(rest acc:List α)(i:Int),acc.length+rest.length<=68719476736->f rest i acc=some (acc++rest.filter c)
 |[],acc,i,_=>by rw[h0];simp
 |x::rest,acc,i,hb=>by
  simp only[LC]at hb
  rw[h1]
  by_cases h:c x=true
  ·rw[IP h,cat_le (by simp;omega),bO,filt_loop c f h0 h1 rest _ _ (by simp;omega),List.filter_cons,IP h]
   simp
  ·rw[IQ h,filt_loop c f h0 h1 rest _ _ (by omega),List.filter_cons,IQ h]
def putF (fs:List File)(n t:BA):List File:=fs.filter (λx=>blt x.Name n)++[⟨n,t⟩]++fs.filter (λx=> !(blt x.Name n||decide (x.Name=n)))
def dropF (fs:List File)(n:BA):List File:=fs.filter (λx=> !decide (x.Name=n))
theorem put_spec (N:Nat)(hN:Big N)(d:Disk)(hl:d.Files.length<=1000000)(f:File):s_l03Put N d f=some ⟨putF d.Files f.Name f.Text⟩:=by
 unfold s_l03Put
 simp only[joinP]
 have hf:(d.Files.filter λx=>blt x.Name f.Name).length<=d.Files.length:=List.length_filter_le _ _
 unfold Big at hN
 rw[s_l03Put_l1_eq d f (by omega) (by omega),filt_loop (λx=>blt x.Name f.Name) (s_l03Put_l1_r N d f) (λ_ _=>rfl) (λ_ _ _ _=>rfl) d.Files [] 0 (by simp;omega),bO,List.nil_append,
  cat_le (by simp;omega),bO,s_l03Put_l2_eq d f (by omega) (by omega),filt_loop (λx=> !(blt x.Name f.Name||decide (x.Name=f.Name))) (s_l03Put_l2_r N d f) (λ_ _=>rfl) (λ_ _ _ _=>rfl) d.Files _ 0 (by simp;omega),bO]
 rfl
theorem drop_spec (N:Nat)(hN:Big N)(d:Disk)(hl:d.Files.length<=1000000)(n:BA):s_l03Drop N d n=some ⟨dropF d.Files n⟩:=by
 unfold s_l03Drop
 simp only[joinP]
 unfold Big at hN
 rw[s_l03Drop_l1_eq d n (by omega) (by omega),filt_loop (λx=> !decide (x.Name=n)) (s_l03Drop_l1_r N d n) (λ_ _=>rfl) (λ_ _ _ _=>rfl) d.Files [] 0 (by simp;omega),bO]
 rfl
theorem find_in {α:Type}{p q:α->Bool}{b:Bool}:∀{l:List α},(∀x∈l,q x=true->p x=b)->(l.filter p).find? q=if b=true then l.find? q else none
 |[],_=>by cases b<;>rfl
 |x::l,h=>by
  have ih:=find_in (p:=p) (q:=q) (b:=b) (l:=l) λy hy=>h y (List.mem_cons_of_mem _ hy)
  have hx:=h x (by simp)
  cases hp:p x<;>cases hq:q x<;>cases b<;>simp_all[List.filter_cons,List.find?_cons]
theorem fileAt_put (fs:List File)(n t m:BA):fileAt ⟨putF fs n t⟩ m=if m=n then some t else fileAt ⟨fs⟩ m:=by
 unfold fileAt putF
 rw[List.find?_append,List.find?_append]
 by_cases h:m=n
 ·subst h
  rw[IP rfl,find_in (b:=false) (λx _ hx=>by simp only[nameIs,DT]at hx;rw[hx];exact blt_irrefl m)]
  simp[nameIs]
 ·rw[IQ h]
  have hs:[(⟨n,t⟩:File)].find? (nameIs m)=none:=by simp[nameIs,Ne.symm h]
  rw[hs]
  cases hb:blt m n with
  |true=>
   rw[find_in (b:=true) (λx _ hx=>by simp only[nameIs,DT]at hx;rw[hx,hb]),find_in (b:=false) (λx _ hx=>by simp only[nameIs,DT]at hx;rw[hx,hb];rfl)]
   simp
  |false=>
   rw[find_in (b:=false) (λx _ hx=>by simp only[nameIs,DT]at hx;rw[hx,hb]),find_in (b:=true) (λx _ hx=>by simp only[nameIs,DT]at hx;rw[hx,hb];simp[h])]
   simp
theorem fileAt_drop (fs:List File)(n m:BA):fileAt ⟨dropF fs n⟩ m=if m=n then none else fileAt ⟨fs⟩ m:=by
 unfold fileAt dropF
 by_cases h:m=n
 ·subst h
  rw[IP rfl,find_in (b:=false) (λx _ hx=>by simp only[nameIs,DT]at hx;rw[hx];simp)]
  rfl
 ·rw[IQ h,find_in (b:=true) (λx _ hx=>by simp only[nameIs,DT]at hx;rw[hx];simp[h])]
  rfl
def rawOut (d:Disk)(r:Raw):List File:=
 if r.Kind=1 then putF d.Files r.Name r.Text else if r.Kind=2 then putF d.Files r.Name (ftext d r.Name++r.Text)
 else if r.Kind=3 then(if r.To=r.Name then d.Files else putF (dropF d.Files r.Name) r.To (ftext d r.Name))else dropF d.Files r.Name
def rawDo (d:Disk)(r:Raw):Option Disk:=
 if(1<=r.Kind/\r.Kind<=4)/\(r.Kind<=2\/fileAt d r.Name≠none)then(if diskOk ⟨rawOut d r⟩=true then some ⟨rawOut d r⟩else none)else none
def rawR (o:Option Disk):Disk×Bool:=match o with
 |some d=>(d,true)
 |none=>(⟨[]⟩,false)
theorem putF_len (fs:List File)(n t:BA):(putF fs n t).length<=2*fs.length+1:=by
 unfold putF
 have h1:=List.length_filter_le (λx:File=>blt x.Name n) fs
 have h2:=List.length_filter_le (λx:File=> !(blt x.Name n||decide (x.Name=n))) fs
 simp only[LA,LC,List.length_nil]
 omega
theorem putRaw_spec (N:Nat)(hN:Big N){d:Disk}(hd:diskOk d=true)(r:Raw)(hr:r.Text.size<=1000000):s_PutRaw N d r=some (rawR (rawDo d r)):=by
 have hl:=disk_len hd
 have hdr:(dropF d.Files r.Name).length<=30:=Nat.le_trans (List.length_filter_le _ _) hl
 have hts:=ftext_size hd r.Name
 obtain⟨a,ha,hat⟩:=l03At_ok N hN d (by omega) r.Name
 unfold s_PutRaw
 rw[ha,bO]
 simp only[joinP]
 rw[diskOk_spec N hN d (by omega),bO,hd,in_eq,bO]
 simp only[BN,BF,if_false]
 have key:∀fs:List File,fs.length<=1000->((s_DiskOk N ⟨fs⟩).bind λy=>if(!y)=true then some ((⟨[]⟩:Disk),false)else some (⟨fs⟩,true))=some (rawR (if diskOk ⟨fs⟩=true then some ⟨fs⟩else none)):=by
  intro fs hfs
  rw[diskOk_spec N hN ⟨fs⟩ (by show fs.length<=_;omega),bO]
  cases diskOk ⟨fs⟩<;>rfl
 have p1:=putF_len d.Files r.Name r.Text
 have p2:=putF_len d.Files r.Name (ftext d r.Name++r.Text)
 have p3:=putF_len (dropF d.Files r.Name) r.To (ftext d r.Name)
 by_cases hk:1<=r.Kind/\r.Kind<=4
 ·rw[IQ (by simp[hk])]
  have hno:a<0↔fileAt d r.Name=none:=by
   rcases hat with ⟨rfl,h⟩|⟨k,f,rfl,_,_,_,h⟩
   ·simp[h]
   ·simp[h]
  by_cases hna:a<0/\3<=r.Kind
  ·rw[IP (by simpa using hna.1),IP (by simpa using hna.2)]
   unfold rawDo
   rw[IQ (by intro h;rcases h.2 with h|h;omega;exact h (hno.1 hna.1))]
   rfl
  ·have hgo:∀z w:Option (Disk×Bool),(if decide (a<0)=true then if decide (r.Kind>=3)=true then z else w else w)=w:=by
    intro z w
    by_cases h1:a<0
    ·rw[IP (by simpa using h1),IQ (by simp;omega)]
    ·rw[IQ (by simpa using h1)]
   rw[hgo]
   have hdo:rawDo d r=if diskOk ⟨rawOut d r⟩=true then some ⟨rawOut d r⟩else none:=by
    unfold rawDo
    rw[IP ⟨hk,by by_cases h:r.Kind<=2;exact .inl h;exact .inr λh2=>hna ⟨hno.2 h2,by omega⟩⟩]
   rw[hdo,cat_le (by simp;omega),bO]
   unfold rawOut
   by_cases h1:r.Kind=1
   ·rw[IP (by simpa using h1),IP h1,put_spec N hN d (by omega),bO]
    exact key _ (Nat.le_trans p1 (by omega))
   rw[IQ (by simpa using h1),IQ h1]
   by_cases h2:r.Kind=2
   ·rw[IP (by simpa using h2),IP h2,l03Text_ok N hN d (by omega),bO,scat_le (by show(ftext d r.Name).size+_<=_;omega),bO,put_spec N hN d (by omega),bO]
    exact key _ (Nat.le_trans p2 (by omega))
   rw[IQ (by simpa using h2),IQ h2]
   by_cases h3:r.Kind=3
   ·rw[IP (by simpa using h3),IP h3]
    by_cases ht:r.To=r.Name
    ·rw[IQ (by simp[ht]),IP ht]
     exact key d.Files (by omega)
    ·rw[IP (by simp[ht]),IQ ht,drop_spec N hN d (by omega),bO]
     rcases hat with ⟨rfl,h⟩|⟨k,f,rfl,_,hf,_,h⟩
     ·exact absurd ⟨by omega,by omega⟩ hna
     ·rw[hf,bO,put_spec N hN _ (by show(dropF d.Files r.Name).length<=_;omega),bO,show f.Text=ftext d r.Name from by unfold ftext;rw[h];rfl]
      exact key _ (Nat.le_trans p3 (by omega))
   rw[IQ (by simpa using h3),IQ h3,IP (by simp;omega),drop_spec N hN d (by omega),bO]
   exact key _ (Nat.le_trans hdr (by omega))
 ·rw[IP (by simp;omega)]
  unfold rawDo
  rw[IQ (λh=>hk h.1)]
  rfl
def rawAt (d:Disk)(r:Raw)(m:BA):Option BA:=
 if r.Kind=1 then(if m=r.Name then some r.Text else fileAt d m)else if r.Kind=2 then(if m=r.Name then some (ftext d r.Name++r.Text)else fileAt d m)
 else if r.Kind=3 then(if r.To=r.Name then fileAt d m else if m=r.To then some (ftext d r.Name)else if m=r.Name then none else fileAt d m)
 else if m=r.Name then none else fileAt d m
theorem rawDo_at {d o:Disk}{r:Raw}(h:rawDo d r=some o):diskOk o=true/\∀m,fileAt o m=rawAt d r m:=by
 unfold rawDo at h
 split at h
 ·split at h
  ·rename_i hd
   simp only[Option.some.injEq]at h
   subst h
   refine⟨hd,λm=> ?_⟩
   unfold rawOut rawAt
   split
   ·exact fileAt_put _ _ _ _
   split
   ·exact fileAt_put _ _ _ _
   split
   ·split
    ·rfl
    ·rw[fileAt_put,fileAt_drop]
   ·exact fileAt_drop _ _ _
  ·cases h
 ·cases h
def rawsDo (d:Disk):List Raw->Option Disk
 |[]=>some d
 |r::rs=>(rawDo d r).bind λo=>rawsDo o rs
theorem rawsDo_ok:∀{rs:List Raw}{d o:Disk},diskOk d=true->rawsDo d rs=some o->diskOk o=true
 |[],d,o,hd,h=>by simp only[rawsDo,Option.some.injEq]at h;exact h▸hd
 |r::rs,d,o,hd,h=>by
  simp only[rawsDo,Option.bind_eq_some_iff]at h
  obtain⟨x,h1,h2⟩:=h
  exact rawsDo_ok (rawDo_at h1).1 h2
theorem rawsDo_frame {m:BA}:∀{rs:List Raw}{d o:Disk},(∀r∈rs,m≠r.Name/\(r.Kind=3->m≠r.To))->rawsDo d rs=some o->fileAt o m=fileAt d m
 |[],d,o,_,h=>by simp only[rawsDo,Option.some.injEq]at h;rw[h]
 |r::rs,d,o,hn,h=>by
  simp only[rawsDo,Option.bind_eq_some_iff]at h
  obtain⟨x,h1,h2⟩:=h
  rw[rawsDo_frame (λq hq=>hn q (List.mem_cons_of_mem _ hq)) h2,(rawDo_at h1).2]
  obtain⟨n1,n2⟩:=hn r (by simp)
  unfold rawAt
  simp only[IQ n1]
  split
  ·rfl
  split
  ·rfl
  split
  ·rename_i h3
   rw[IQ (n2 h3)]
   split<;>rfl
  ·rfl
theorem putRaws_l1 (N:Nat)(hN:Big N)(l:List Raw)(hl:l.length<=1000)(hs:∀r∈l,r.Text.size<=1000000):∀(e k m:Nat)(fs:List File),l.length=k+e->e<m->diskOk ⟨fs⟩=true->
  ∃z,s_PutRaws_l1 N l m (k:Int) fs=some z/\(match rawsDo ⟨fs⟩ (l.drop k)with|some o=>z=.inr o.Files|none=>∃y j,z=.inl (y,(j:Nat))/\j<l.length):=by
 intro e
 induction e with
 |zero=>
  intro k m fs hd hm hok
  obtain⟨m,rfl⟩:∃q,m=q+1:=⟨m-1,by omega⟩
  rw[s_PutRaws_l1,IQ (by simp;omega),DN (by omega)]
  exact⟨_,rfl,rfl⟩
 |succ e ih=>
  intro k m fs hd hm hok
  obtain⟨m,rfl⟩:∃q,m=q+1:=⟨m-1,by omega⟩
  have hk:k<l.length:=by omega
  rw[s_PutRaws_l1,IP (by simp;omega),at_lt hk,bO,putRaw_spec N hN hok _ (hs _ (List.getElem_mem hk)),bO,DG hk,rawsDo]
  cases hr:rawDo ⟨fs⟩ l[k]with
  |none=>exact⟨_,rfl,_,k,rfl,hk⟩
  |some o=>
   simp only[rawR,BN,BF,if_false,bO]
   rw[WS (by omega)]
   exact ih (k+1) m o.Files (by omega) (by omega) (rawDo_at hr).1
theorem putRaws_spec (N:Nat)(hN:Big N){d:Disk}(hd:diskOk d=true)(l:List Raw)(hs:∀r∈l,r.Text.size<=1000000)(hl:l.length<=1000):
  ∃x k,s_PutRaws N d l=some (x,k)/\(k=(l.length:Int)↔l.length<=60/\rawsDo d l≠none)/\(l.length<=60->rawsDo d l≠none->rawsDo d l=some x):=by
 have h30:=disk_len hd
 unfold s_PutRaws
 rw[diskOk_spec N hN d (by omega),bO,hd]
 simp only[BN,BF,if_false,joinP]
 by_cases h60:l.length<=60
 ·rw[IQ (by simp;omega),cat_le (by simp;omega),bO,show([]:List File)++d.Files=d.Files from rfl,show(0:Int)=((0:Nat):Int)from rfl]
  obtain⟨z,h1,h2⟩:=putRaws_l1 N hN l hl hs l.length 0 N d.Files (by omega) (by unfold Big at hN;omega) hd
  rw[h1,bO]
  rw[List.drop_zero]at h2
  cases hr:rawsDo ⟨d.Files⟩ l with
  |none=>
   rw[hr]at h2
   obtain⟨y,j,rfl,hj⟩:=h2
   exact⟨y,j,rfl,⟨λe=>by omega,λe=>absurd rfl e.2⟩,λ_ e=>absurd rfl e⟩
  |some o=>
   rw[hr]at h2
   subst h2
   exact⟨o,l.length,rfl,⟨λ_=>⟨h60,by simp⟩,λ_=>rfl⟩,λ_ _=>rfl⟩
 ·rw[IP (by simp;omega)]
  exact⟨_,_,rfl,⟨λe=>by omega,λe=>absurd e.1 h60⟩,λe=>absurd e h60⟩
abbrev nLog:BA:=⟨#[108,111,103]⟩
abbrev nLogP:BA:=⟨#[108,111,103,43]⟩
abbrev nVote:BA:=⟨#[118,111,116,101]⟩
abbrev nVoteP:BA:=⟨#[118,111,116,101,43]⟩
def logN (n:BA):Prop:=n=nLog\/n=nLogP\/n=nVote\/n=nVoteP
theorem sname_logN (x:Int):¬logN (sname x):=by
 intro h
 by_cases h0:sname x=⟨#[]⟩
 ·rw[h0]at h
  rcases h with h|h|h|h<;>exact absurd h (by decide)
 ·obtain⟨_,u,hu⟩:=sname_head h0
  rw[hu]at h
  have k:∀v:BA,(⟨#[103]⟩:BA)++u=v->v.extract 0 1=⟨#[103]⟩:=λv e=>ba_one e.symm
  rcases h with h|h|h|h<;>exact absurd (k _ h) (by decide)
theorem fileAt_mem {d:Disk}{f:File}(h:f∈d.Files):(fileAt d f.Name).isSome=true:=by
 unfold fileAt
 rw[Option.isSome_map,List.find?_isSome]
 exact⟨f,h,by simp[nameIs]⟩
theorem fileAt_some {d:Disk}{n t:BA}(h:fileAt d n=some t):∃f∈d.Files,f.Name=n/\f.Text=t:=by
 unfold fileAt at h
 simp only[Option.map_eq_some_iff]at h
 obtain⟨f,h1,h2⟩:=h
 exact⟨f,List.mem_of_find?_eq_some h1,by simpa[nameIs]using List.find?_some h1,h2⟩
def Alike (d e:Disk):Prop:=∀n,¬logN n->fileAt e n=fileAt d n
theorem Alike.text {d e:Disk}(h:Alike d e){n:BA}(hn:¬logN n):ftext e n=ftext d n:=by unfold ftext;rw[h n hn]
theorem mantx_logN:¬logN mantx:=by
 intro h
 rcases h with h|h|h|h<;>exact absurd h (by decide)
theorem mplus_logN:¬logN ⟨#[109,43]⟩:=by
 intro h
 rcases h with h|h|h|h<;>exact absurd h (by decide)
theorem Alike.there {d e:Disk}(h:Alike d e)(l:List Int):Pe.FnBoots.there e l=Pe.FnBoots.there d l:=by
 unfold Pe.FnBoots.there
 simp only[h _ (sname_logN _)]
theorem Alike.load {d e:Disk}(h:Alike d e)(N:Nat):∀(l:List Int)(s:Int)(sp:List Spot),loadL N e l s sp=loadL N d l s sp
 |[],_,_=>rfl
 |n::ns,s,sp=>by rw[loadL,loadL,h.text (sname_logN n),h.load N ns]
theorem Alike.shelf {d e:Disk}(h:Alike d e)(hd:diskOk d=true)(he:diskOk e=true)(N:Nat):shelfOf N e=shelfOf N d:=by
 unfold shelfOf
 rw[hd,he,h _ mantx_logN,h.text mantx_logN,h.there,h.load]
theorem Alike.neat {d e:Disk}(h:Alike d e){N:Nat}{segs:List Int}(hn:Pe.FnBoots.neat N d segs):Pe.FnBoots.neat N e segs:=by
 obtain⟨h1,h2,h3⟩:=hn
 refine⟨by rw[h _ mplus_logN];exact h1,λf hf n hs=> ?_,λn hk=> ?_⟩
 ·have h4:=fileAt_mem hf
  rw[h _ (by rw[<-(segNo_some hs).1];exact sname_logN n)]at h4
  obtain⟨t,ht⟩:=Option.isSome_iff_exists.1 h4
  obtain⟨g,g1,g2,_⟩:=fileAt_some ht
  exact h2 g g1 n (by rw[g2];exact hs)
 ·have:=h3 n hk
  unfold isCut at this⊢
  rwa [h.text (sname_logN n)]
def Opens (N:Nat)(d:Disk)(s:Shelf):Prop:=diskOk d=true/\shelfOf N d=(s,0)/\Pe.FnBoots.neat N d s.Man.Segs
theorem Alike.opens {d e:Disk}(h:Alike d e)(he:diskOk e=true){N:Nat}{s:Shelf}(ho:Opens N d s):Opens N e s:=⟨he,by rw[h.shelf ho.1 he,ho.2.1],h.neat ho.2.2⟩
theorem Opens.spec {N:Nat}(hN:Big N){d:Disk}{s:Shelf}(h:Opens N d s):s_OpenShelf N d=some (s,[],0):=by
 obtain⟨r,h1,h2⟩:=open_spec N hN d (by have:=disk_len h.1;omega)
 rw[h.2.1]at h1 h2
 rw[(h2 rfl).2 h.2.2]at h1
 exact h1
theorem Opens.impl {N:Nat}(hN:Big N){d:Disk}{s:Shelf}(h:Opens N d s):i_OpenShelf N d=some (s,[],0):=by
 obtain⟨r,h1,h2⟩:=open_impl N hN d (by have:=disk_len h.1;omega)
 rw[h.2.1]at h1 h2
 rw[h2 rfl h.2.2]at h1
 exact h1
theorem opens_of {N:Nat}(hN:Big N){d:Disk}{s:Shelf}(hd:diskOk d=true)(h:s_OpenShelf N d=some (s,[],0)):Opens N d s:=by
 obtain⟨r,h1,h2⟩:=open_spec N hN d (by have:=disk_len hd;omega)
 rw[h]at h1
 simp only[Option.some.injEq,Prod.mk.injEq]at h1
 obtain⟨e1,e2,e3⟩:=h1
 exact⟨hd,by rw[e1,e3],by rw[e1];exact(h2 e3.symm).1 e2.symm⟩
def eqe (x y:Entry):Bool:=(x.Term==y.Term)&&((x.Kind==y.Kind)&&(decide (x.Data=y.Data)&&true))
theorem eqe_iff {x y:Entry}:eqe x y=true↔x=y:=by
 unfold eqe
 cases x
 cases y
 simp only[Bool.and_true,Bool.and_eq_true,beq_iff_eq,DT,Entry.mk.injEq]
theorem eqe_self (x:Entry):eqe x x=true:=eqe_iff.2 rfl
def cpl:List Entry->List Entry->Nat
 |x::xs,y::ys=>if eqe x y=true then cpl xs ys+1 else 0
 |_,_=>0
theorem cpl_le:∀(a b:List Entry),cpl a b<=a.length/\cpl a b<=b.length
 |[],_=>⟨Nat.zero_le _,Nat.zero_le _⟩
 |x::xs,[]=>⟨Nat.zero_le _,Nat.zero_le _⟩
 |x::xs,y::ys=>by
  have:=cpl_le xs ys
  rw[cpl]
  split<;>simp only[LC]<;>omega
theorem cpl_take:∀(a b:List Entry),a.take (cpl a b)=b.take (cpl a b)
 |[],_=>by simp[cpl]
 |x::xs,[]=>by simp[cpl]
 |x::xs,y::ys=>by
  rw[cpl]
  split
  ·rename_i h
   rw[List.take_succ_cons,List.take_succ_cons,cpl_take xs ys,eqe_iff.1 h]
  ·rfl
def sameE (a b:List Entry):Bool:=decide (a.length=b.length)&&decide (cpl a b=a.length)
theorem sameE_iff {a b:List Entry}:sameE a b=true↔a=b:=by
 unfold sameE
 simp only[Bool.and_eq_true,DT]
 constructor
 ·rintro⟨h1,h2⟩
  have:=cpl_take a b
  rw[h2,List.take_length,h1,List.take_length]at this
  exact this
 ·rintro rfl
  refine⟨rfl,?_⟩
  induction a with
  |nil=>rfl
  |cons x xs ih=>rw[cpl,IP (eqe_self x),ih,LC]
theorem cpl_drop:∀(a b:List Entry)(k:Nat),k<=cpl a b->cpl (a.drop k) (b.drop k)=cpl a b-k
 |a,b,0,_=>by simp
 |[],_,k+1,h=>by simp[cpl]at h
 |x::xs,[],k+1,h=>by simp[cpl]at h
 |x::xs,y::ys,k+1,h=>by
  rw[cpl]at h⊢
  split at h
  ·rename_i he
   rw[IP he,List.drop_succ_cons,List.drop_succ_cons,cpl_drop xs ys k (by omega)]
   omega
  ·omega
theorem cpl_step {a b:List Entry}{k:Nat}(h1:k<a.length)(h2:k<b.length)(hk:k<=cpl a b):if eqe a[k] b[k]=true then k+1<=cpl a b else cpl a b=k:=by
 have h:=cpl_drop a b k hk
 rw[DG h1,DG h2,cpl]at h
 split
 ·rename_i he
  rw[IP he]at h
  omega
 ·rename_i he
  rw[IQ he]at h
  omega
theorem steps_s (N:Nat)(a b:Log)(ha:a.Entries.length<=1000)(hb:b.Entries.length<=1000):∀(d k m:Nat),a.Entries.length+1=k+d->d<m->k<=cpl a.Entries b.Entries->s_LogSteps_l1 N a b m (k:Int)=some (cpl a.Entries b.Entries:Int)
 |0,k,m,hk,hm,hc=>by have:=cpl_le a.Entries b.Entries;omega
 |d+1,k,m,hk,hm,hc=>by
  obtain⟨m,rfl⟩:∃q,m=q+1:=⟨m-1,by omega⟩
  have hle:=cpl_le a.Entries b.Entries
  rw[s_LogSteps_l1]
  by_cases h1:k<a.Entries.length
  ·by_cases h2:k<b.Entries.length
   ·rw[IP (by simp only[DT];omega),IP (by simp only[DT];omega)]
    simp only[at_lt h1,at_lt h2,bO]
    have hs:=cpl_step h1 h2 hc
    have ee:∀x y:Entry,(((x.Term==y.Term)&&((x.Kind==y.Kind)&&(decide (x.Data=y.Data)&&true))) ^^ false)=eqe x y:=λx y=>by rw[Bool.xor_false];rfl
    rw[ee]
    by_cases he:eqe a.Entries[k] b.Entries[k]=true
    ·rw[IP he]at hs
     rw[IP he,WS (by omega)]
     exact steps_s N a b ha hb d (k+1) m (by omega) (by omega) hs
    ·rw[IQ he]at hs
     rw[IQ he,hs]
   ·rw[IP (by simp only[DT];omega),IQ (by simp only[DT];omega),(by omega:cpl a.Entries b.Entries=k)]
  ·rw[IQ (by simp only[DT];omega),(by omega:cpl a.Entries b.Entries=k)]
theorem same_l1 (N:Nat)(a b:List Entry)(ha:a.length<=1000)(hab:a.length=b.length):∀(d k m:Nat),a.length=k+d->d<m->k<=cpl a b->L_Equal_Entry_l1 N a b m (k:Int)=some (ok1 (decide (cpl a b=a.length)))
 |0,k,m,hk,hm,hc=>by
  obtain⟨m,rfl⟩:∃q,m=q+1:=⟨m-1,by omega⟩
  have:=cpl_le a b
  rw[L_Equal_Entry_l1,IQ (by simp only[DT];omega),DE (by omega:cpl a b=a.length)]
  rfl
 |d+1,k,m,hk,hm,hc=>by
  obtain⟨m,rfl⟩:∃q,m=q+1:=⟨m-1,by omega⟩
  have h1:k<a.length:=by omega
  have h2:k<b.length:=by omega
  rw[L_Equal_Entry_l1,IP (by simp only[DT];omega),at_lt h1,at_lt h2]
  simp only[bO]
  have hs:=cpl_step h1 h2 hc
  have ee:∀x y:Entry,(((x.Term==y.Term)&&((x.Kind==y.Kind)&&(decide (x.Data=y.Data)&&true))) ^^ true)= !eqe x y:=λx y=>by rw[Bool.xor_true];rfl
  rw[ee]
  by_cases he:eqe a[k] b[k]=true
  ·rw[IP he]at hs
   rw[IQ (by simp[he]),WS (by omega)]
   exact same_l1 N a b ha hab d (k+1) m (by omega) (by omega) hs
  ·rw[IQ he]at hs
   rw[IP (by simp[he]),DF (by omega)]
   rfl
theorem same_sl1 (N:Nat)(x y:Log)(ha:x.Entries.length<=1000)(hab:x.Entries.length=y.Entries.length):∀(d k m:Nat),x.Entries.length=k+d->d<m->k<=cpl x.Entries y.Entries->s_l12Same_l1 N x y m (k:Int)=some (ok1 (decide (cpl x.Entries y.Entries=x.Entries.length)))/\w_sameLog_l1 N x y m (k:Int)=some (ok1 (decide (cpl x.Entries y.Entries=x.Entries.length)))
 |0,k,m,hk,hm,hc=>by
  obtain⟨m,rfl⟩:∃q,m=q+1:=⟨m-1,by omega⟩
  have:=cpl_le x.Entries y.Entries
  rw[s_l12Same_l1,w_sameLog_l1,IQ (by simp only[DT];omega),IQ (by simp only[DT];omega),DE (by omega:cpl x.Entries y.Entries=x.Entries.length)]
  exact⟨rfl,rfl⟩
 |d+1,k,m,hk,hm,hc=>by
  obtain⟨m,rfl⟩:∃q,m=q+1:=⟨m-1,by omega⟩
  have h1:k<x.Entries.length:=by omega
  have h2:k<y.Entries.length:=by omega
  rw[s_l12Same_l1,w_sameLog_l1,IP (by simp only[DT];omega),IP (by simp only[DT];omega),at_lt h1,at_lt h2]
  simp only[bO]
  have hs:=cpl_step h1 h2 hc
  have ee:∀x y:Entry,(((x.Term==y.Term)&&((x.Kind==y.Kind)&&(decide (x.Data=y.Data)&&true))) ^^ true)= !eqe x y:=λx y=>by rw[Bool.xor_true];rfl
  rw[ee]
  by_cases he:eqe x.Entries[k] y.Entries[k]=true
  ·rw[IP he]at hs
   rw[IQ (by simp[he]),IQ (by simp[he]),WS (by omega)]
   exact same_sl1 N x y ha hab d (k+1) m (by omega) (by omega) hs
  ·rw[IQ he]at hs
   rw[IP (by simp[he]),IP (by simp[he]),DF (by omega)]
   exact⟨rfl,rfl⟩
def sameL (a b:Log):Bool:=(a.Start==b.Start)&&((a.StartTerm==b.StartTerm)&&sameE a.Entries b.Entries)
theorem sameL_iff {a b:Log}:sameL a b=true↔a=b:=by
 unfold sameL
 cases a
 cases b
 simp only[Bool.and_eq_true,beq_iff_eq,sameE_iff,Log.mk.injEq]
theorem same_impl (N:Nat)(hN:Big N)(a b:Log)(ha:a.Entries.length<=1000)(hb:b.Entries.length<=1000):i_sameLog N a b=some (sameL a b):=by
 unfold i_sameLog sameL
 cases h1:a.Start==b.Start with
 |false=>simp
 |true=>
  cases h2:a.StartTerm==b.StartTerm with
  |false=>simp
  |true=>
   simp only[↓reduceIte,Bool.true_and]
   unfold L_Equal_Entry sameE
   by_cases h3:a.Entries.length=b.Entries.length
   ·have hne:((a.Entries.length:Int)!=(b.Entries.length:Int))=false:=by rw[h3];simp
    rw[hne,DE h3]
    simp only[BF,↓reduceIte,joinP,Bool.true_and]
    have:=same_l1 N a.Entries b.Entries ha h3 a.Entries.length 0 N (by omega) (by unfold Big at hN;omega) (Nat.zero_le _)
    rw[show((0:Nat):Int)=0 from rfl]at this
    rw[this,bO]
    cases decide (cpl a.Entries b.Entries=a.Entries.length)<;>rfl
   ·grind
theorem same_both (N:Nat)(hN:Big N)(a b:Log)(ha:a.Entries.length<=1000)(hb:b.Entries.length<=1000):s_l12Same N a b=some (sameL a b)/\w_sameLog N a b=some (sameL a b):=by
 unfold s_l12Same w_sameLog sameL
 cases h1:a.Start==b.Start with
 |false=>
  grind
 |true=>
  have e:(a.Start !=b.Start)=false:=by rw[bne,h1];rfl
  rw[e]
  cases h2:a.StartTerm==b.StartTerm with
  |false=>
   grind
  |true=>
   have e:(a.StartTerm !=b.StartTerm)=false:=by rw[bne,h2];rfl
   rw[e]
   unfold sameE
   by_cases h3:a.Entries.length=b.Entries.length
   ·have hne:((a.Entries.length:Int)!=(b.Entries.length:Int))=false:=by rw[h3];simp
    rw[hne,DE h3]
    simp only[BF,↓reduceIte,joinP,Bool.true_and]
    have:=same_sl1 N a b ha h3 a.Entries.length 0 N (by omega) (by unfold Big at hN;omega) (Nat.zero_le _)
    rw[show((0:Nat):Int)=0 from rfl]at this
    rw[this.1,this.2,bO]
    cases decide (cpl a.Entries b.Entries=a.Entries.length)<;>exact⟨rfl,rfl⟩
   grind
def ens:Nat->List Entry->List (Nat×Entry)
 |_,[]=>[]
 |k,e::es=>(k,e)::ens (k+1) es
theorem ens_len:∀(es:List Entry)(k:Nat),(ens k es).length=es.length
 |[],_=>rfl
 |e::es,k=>by rw[ens,LC,ens_len es,LC]
theorem fold_ens:∀(es pre:List Entry),(ens pre.length es).foldl appE pre=pre++es
 |[],pre=>by simp[ens]
 |e::es,pre=>by
  have h:=fold_ens es (pre++[e])
  grind [LA,List.length_singleton,ens,appE,List.take_length,List.append_assoc,List.singleton_append]
theorem fold_ens_at {es pre:List Entry}{k:Nat}(hk:k<=pre.length)(h0:es≠[]):(ens k es).foldl appE pre=pre.take k++es:=by
 cases es with
 |nil=>exact absurd rfl h0
 |cons e es=>
  rw[ens,List.foldl_cons]
  have h:=fold_ens es (pre.take k++[e])
  grind [LA,List.length_take,Nat.min_eq_left,List.length_singleton,ens,appE,List.append_assoc,List.singleton_append]
theorem okPs_ens (s:Nat):∀(es pre:List Entry)(k:Nat),k<=pre.length->s+k+es.length<=100000->(∀e∈es,entOk e=true)->okPs s pre (ens k es)
 |[],_,_,_,_,_=>trivial
 |e::es,pre,k,hk,hb,h=>by
  simp only[LC]at hb
  refine⟨hk,by simp only;omega,h e (by simp),?_⟩
  have hl:=app_len (es:=pre) (p:=(k,e)) hk
  exact okPs_ens s es (appE pre (k,e)) (k+1) (by omega) (by omega) (λx hx=>h x (by simp[hx]))
theorem okPs_app (s:Nat):∀(ps qs:List (Nat×Entry))(es:List Entry),okPs s es ps->okPs s (ps.foldl appE es) qs->okPs s es (ps++qs)
 |[],qs,es,_,h=>h
 |p::ps,qs,es,h,h2=>⟨h.1,h.2.1,h.2.2.1,okPs_app s ps qs _ h.2.2.2 h2⟩
theorem cats_app (N:Nat)(a b:List BA):cats N (a++b)=cats N a++cats N b:=by
 grind [cats,List.flatten_append]
theorem cats_ens (N:Nat)(s:Nat):∀(es:List Entry)(k:Nat),cats N ((ens k es).map (ertx s))=bs (frs N (s+1+k) es)
 |[],_=>rfl
 |e::es,k=>by
  rw[ens,List.map_cons,cats_cons,cats_ens N s es (k+1),frs,bs_app]
  rfl
theorem bs_lfile (N:Nat)(s t:Nat)(es:List Entry):bs (lfile N s t es)=cats N (htx s t::(ens 0 es).map (ertx s)):=by
 grind [lfile,bs_app,cats_cons,cats_ens]
def LogF (N:Nat)(F:BA)(l:Log):Prop:=∃s t ps,IsFile N F s t ps []/\l=⟨(s:Nat),(t:Nat),ps.foldl appE []⟩
theorem LogF.size {N:Nat}{F:BA}{l:Log}(h:LogF N F l):F.size<=20000:=by obtain⟨s,t,ps,h1,_⟩:=h;exact h1.size
theorem LogF.read (N:Nat)(hN:Big N){F:BA}{l:Log}(h:LogF N F l)(hok:logOk l=true)(hs:smallL l):s_ReadLog N F=some (l,(F.size:Int),true)/\i_ReadLog N F=some (l,(F.size:Int),true):=by
 obtain⟨s,t,ps,h1,rfl⟩:=h
 have hl:lens N (htx s t::ps.map (ertx s))=F.size:=by
  have e:=h1.eq
  grind [lens,bs_len]
 grind [readlog_spec,readlog_impl]
theorem log_nat {l:Log}(h:logOk l=true):l=⟨(l.Start.toNat:Nat),(l.StartTerm.toNat:Nat),l.Entries⟩:=by
 obtain⟨a1,a2,a3,a4,_⟩:=logOk_at h
 cases l
 grind
theorem lfile_is (N:Nat)(hN:Big N){l:Log}(h:logOk l=true):LogF N (lfile N l.Start.toNat l.StartTerm.toNat l.Entries) l:=by
 obtain⟨a1,a2,a3,a4,a5,a6,a7⟩:=logOk_at h
 have hall:=terms_all _ _ a7
 have hsz:=lfile_size N hN (s:=l.Start.toNat) (t:=l.StartTerm.toNat) (es:=l.Entries) (by omega) (by omega) hall
 refine⟨_,_,ens 0 l.Entries,⟨by rw[bs_lfile,List.append_nil],rfl,by omega,okPs_ens _ _ [] 0 (Nat.zero_le _) (by omega) hall,by omega,by omega,by rw[ens_len];omega⟩,?_⟩
 grind [fold_ens,List.length_nil,log_nat]
theorem logfile_any (N:Nat)(hN:Big N){l:Log}(h:smallL l):s_LogFile N l=some (if logOk l=true then(lfile N l.Start.toNat l.StartTerm.toNat l.Entries,true)else(⟨#[]⟩,false)):=by
 unfold s_LogFile s_l12Head
 rw[logOk_spec N hN l h]
 cases hk:logOk l with
 |false=>rfl
 |true=>
  obtain⟨a1,a2,a3,a4,a5,a6,a7⟩:=logOk_at hk
  have hall:=terms_all _ _ a7
  generalize hs:l.Start.toNat=s at*
  generalize ht:l.StartTerm.toNat=t at*
  have es:l.Start=(s:Int):=by omega
  have et:l.StartTerm=(t:Int):=by omega
  simp only[bO,BN,BF,↓reduceIte]
  have y1:=enc_len5 (n:=s) (by omega)
  have y2:=enc_len5 (n:=t) (by omega)
  have z1:=encT_size s
  have z2:=encT_size t
  have z3:(⟨#[83]⟩:BA).size=1:=rfl
  rw[es,et,var_spec N hN s (by omega),bO,scat_le (by omega),bO,var_spec N hN t (by omega),bO,scat_le (by simp only[BZ];omega),bO]
  have hz:=htx_size (s:=s) (t:=t) (by omega) (by omega)
  change((s_Frame N (htx s t)).bind λy139=>some y139.1).bind _=_
  have hf:=lframes_spec N hN l s es (by omega) hall 0 (by omega)
  rw[List.drop_zero,Nat.add_zero,show((0:Nat):Int)=0 from rfl]at hf
  have hsz:=lfile_size N hN (s:=s) (t:=t) (es:=l.Entries) (by omega) (by omega) hall
  have hsz2:=hsz
  unfold lfile at hsz2
  rw[BZ]at hsz2
  rw[frame_spec N hN _ (by omega),IP (by omega),bO,bO,hf,bO,scat_le (by simp only;omega),bO]
  change(if decide (((lfile N s t l.Entries).size:Int)>20000)=true then _ else some (lfile N s t l.Entries,true))=_
  rw[IQ (by simp only[DT];omega)]
theorem cats_len (N:Nat)(hN:Big N):∀rs:List BA,(∀r∈rs,okR r)->6*rs.length<=(cats N rs).length
 |[],_=>by simp[cats]
 |r::rs,h=>by
  have h1:=cats_len N hN rs λx hx=>h x (List.mem_cons_of_mem _ hx)
  grind [frm_size,enc_pos,cats_cons,LA,bs_len,LC]
def StepOk (N:Nat)(F:BA)(old now:Log)(r:List Raw):Prop:=
 (r=[]/\now=old)\/(∃more,r=[⟨2,nLog,⟨#[]⟩,more⟩]/\more.size<=20000/\LogF N (F++more) now)\/∃w,r=[⟨1,nLogP,⟨#[]⟩,w⟩,⟨3,nLogP,nLog,⟨#[]⟩⟩]/\w.size<=20000/\LogF N w now
theorem logsteps_any (N:Nat)(hN:Big N){F:BA}{old now:Log}(hF:LogF N F old)(ho:logOk old=true)(hs:smallL old)(hs2:smallL now):
  ∃r b,s_LogSteps N F old now=some (r,b)/\(b=true->logOk now=true/\StepOk N F old now r)/\(logOk now=true->b=true):=by
 obtain⟨o1,o2,o3,o4,o5,o6,o7⟩:=logOk_at ho
 unfold s_LogSteps
 rw[(hF.read N hN ho hs).1,bO,logfile_any N hN hs2,bO,logOk_spec N hN old hs,bO,ho]
 cases hk:logOk now with
 |false=>exact⟨_,_,rfl,λe=>by simp at e,λe=>by simp at e⟩
 |true=>
  obtain⟨a1,a2,a3,a4,a5,a6,a7⟩:=logOk_at hk
  have hall:=terms_all _ _ a7
  have hFs:=hF.size
  simp only[BN,BF,if_false,if_true,↓reduceIte]
  rw[IQ (by simp),(same_both N hN old old (by omega) (by omega)).1,bO,sameL_iff.2 rfl,IQ (by simp),(same_both N hN old now (by omega) (by omega)).1,bO]
  by_cases hsm:sameL old now=true
  ·rw[IP hsm]
   exact⟨_,_,rfl,λ_=>⟨trivial,.inl ⟨rfl,(sameL_iff.1 hsm).symm⟩⟩,λ_=>rfl⟩
  ·rw[IQ hsm]
   simp only[joinP]
   have hst:=steps_s N old now (by omega) (by omega) (old.Entries.length+1) 0 N (by omega) (by unfold Big at hN;omega) (Nat.zero_le _)
   have hcl:=cpl_le old.Entries now.Entries
   rw[show((0:Nat):Int)=0 from rfl]at hst
   obtain⟨s,es⟩:∃s:Nat,now.Start=(s:Int):=⟨now.Start.toNat,by omega⟩
   rw[hst,bO,lframes_spec N hN now s es (by omega) hall _ hcl.2,bO]
   have hfz:=frs_size N hN (now.Entries.drop (cpl old.Entries now.Entries)) (s+1+cpl old.Entries now.Entries) (by rw[List.length_drop];omega) (λe he=>hall e (List.mem_of_mem_drop he))
   rw[List.length_drop]at hfz
   have hwhole:StepOk N F old now [⟨1,nLogP,⟨#[]⟩,lfile N now.Start.toNat now.StartTerm.toNat now.Entries⟩,⟨3,nLogP,nLog,⟨#[]⟩⟩]:=.inr (.inr ⟨_,rfl,(lfile_is N hN hk).size,lfile_is N hN hk⟩)
   by_cases h1:old.Start=now.Start
   case neg=>rw[IQ (by simpa using h1)];exact⟨_,_,rfl,λ_=>⟨trivial,hwhole⟩,λ_=>rfl⟩
   rw[IP (by simpa using h1)]
   by_cases h2:old.StartTerm=now.StartTerm
   case neg=>rw[IQ (by simpa using h2)];exact⟨_,_,rfl,λ_=>⟨trivial,hwhole⟩,λ_=>rfl⟩
   rw[IP (by simpa using h2)]
   by_cases h3:cpl old.Entries now.Entries<now.Entries.length
   case neg=>rw[IQ (by simp only[DT];omega)];exact⟨_,_,rfl,λ_=>⟨trivial,hwhole⟩,λ_=>rfl⟩
   rw[IP (by simp only[DT];omega),w64_id (by omega) (by omega)]
   by_cases h4:F.size+(frs N (s+1+cpl old.Entries now.Entries) (now.Entries.drop (cpl old.Entries now.Entries))).size<=20000
   case neg=>rw[IQ (by simp only[DT];omega)];exact⟨_,_,rfl,λ_=>⟨trivial,hwhole⟩,λ_=>rfl⟩
   rw[IP (by simp only[DT];omega)]
   refine⟨_,_,rfl,λ_=>⟨trivial,.inr (.inl ⟨_,rfl,by omega,?_⟩)⟩,λ_=>rfl⟩
   obtain⟨s',t,ps,hf,rfl⟩:=hF
   simp only at h1 h2 hcl h3 h4⊢
   obtain rfl:s'=s:=by omega
   generalize hc:cpl (ps.foldl appE []) now.Entries=c at*
   have hne:now.Entries.drop c≠[]:=by intro e;have:=congrArg List.length e;rw[List.length_drop]at this;simp at this;omega
   have hfold:=fold_ens_at (es:=now.Entries.drop c) (pre:=ps.foldl appE []) hcl.1 hne
   have htk:(ps.foldl appE []).take c++now.Entries.drop c=now.Entries:=by
    grind [cpl_take,List.take_append_drop]
   have hokp:=okPs_app s' ps (ens c (now.Entries.drop c)) [] hf.ok (okPs_ens s' _ _ c hcl.1 (by rw[List.length_drop];omega) (λe he=>hall e (List.mem_of_mem_drop he)))
   have heq:bs (F++frs N (s'+1+c) (now.Entries.drop c))=cats N (htx s' t::(ps++ens c (now.Entries.drop c)).map (ertx s')):=by
    have e:=hf.eq
    grind [bs_app,cats_app,cats_ens]
   have hsz:(F++frs N (s'+1+c) (now.Entries.drop c)).size<=20000:=by rw[BZ];omega
   have hrec:∀r∈htx s' t::(ps++ens c (now.Entries.drop c)).map (ertx s'),okR r:=by
    grind [htx_size,okR_ps]
   have hlen:=cats_len N hN _ hrec
   rw[<-heq,bs_len,LC,List.length_map]at hlen
   refine⟨s',t,ps++ens c (now.Entries.drop c),⟨by rw[heq,List.append_nil],rfl,hsz,hokp,hf.s0,hf.t0,by omega⟩,?_⟩
   rw[List.foldl_append,hfold,htk]
   cases now
   grind
def vtx (p:Nat×Nat):BA:=encT p.1++encT p.2
def okV (p:Nat×Nat):Prop:=p.1<=100000/\p.2<=4
theorem vtx_size {p:Nat×Nat}(h:okV p):2<=(vtx p).size/\(vtx p).size<=10:=by
 have h1:=enc_pos p.1
 have h2:=enc_pos p.2
 have h3:=enc_len5 (n:=p.1) (by have:=h.1;omega)
 have h4:=enc_len5 (n:=p.2) (by have:=h.2;omega)
 grind [vtx,BZ,encT_size]
theorem vote_spec (N:Nat)(hN:Big N){t v:Int}:s_VoteText N t v=some (if(0<=t/\t<=100000)/\(0<=v/\v<=4)then(frm N (vtx (t.toNat,v.toNat)),true)else(⟨#[]⟩,false)):=by
 unfold s_VoteText
 rw[in_eq,bO]
 by_cases h1:0<=t/\t<=100000
 case neg=>rw[IP (by simp;omega),IQ (λh=>h1 h.1)]
 rw[IQ (by simp;omega),in_eq,bO]
 by_cases h2:0<=v/\v<=4
 case neg=>rw[IP (by simp;omega),IQ (λh=>h2 h.2)]
 rw[IQ (by simp;omega),IP ⟨h1,h2⟩]
 obtain⟨a,rfl⟩:∃a:Nat,t=a:=⟨t.toNat,by omega⟩
 obtain⟨b,rfl⟩:∃b:Nat,v=b:=⟨v.toNat,by omega⟩
 have hz:=vtx_size (p:=(a,b)) ⟨by omega,by omega⟩
 have hz2:=hz
 unfold vtx at hz2
 rw[BZ]at hz2
 rw[var_spec N hN a (by omega),bO,var_spec N hN b (by omega),bO,scat_le (by simp only at hz2;omega),bO,show encT a++encT b=vtx (a,b)from rfl,frame_spec N hN _ (by omega),IP (by omega)]
 rfl
theorem vote_impl (N:Nat)(hN:Big N){p:Nat×Nat}(h:okV p):i_VoteText N (p.1:Int) (p.2:Int)=some (frm N (vtx p),true):=by
 have hz:=vtx_size h
 unfold i_VoteText
 rw[within_eq,bO,IQ (by have:=h.1;simp;omega),within_eq,bO,IQ (by have:=h.2;simp;omega),vars_impl N hN p.1 p.2 (by have:=h.1;omega) (by have:=h.2;omega),bO]
 simp only
 rw[show encT p.1++encT p.2=vtx p from rfl,frame_impl N hN _ (by omega),IP (by omega)]
 rfl
theorem vtx_read {p:Nat×Nat}(h:okV p):pv (vtx p) 0=some (p.1,(enc p.1).length)/\pv (vtx p) (enc p.1).length=some (p.2,(vtx p).size):=by
 have e:bs (vtx p)=enc p.1++enc p.2:=by unfold vtx;rw[bs_app,bs_enc,bs_enc]
 have h1:=pv_at (t:=vtx p) (a:=0) (n:=p.1) (M:=enc p.2) (by have:=h.1;omega) (by rw[List.drop_zero,e])
 have h2:=pv_at (t:=vtx p) (a:=(enc p.1).length) (n:=p.2) (M:=[]) (by have:=h.2;omega) (by rw[e,List.drop_left,List.append_nil])
 rw[Nat.zero_add]at h1
 refine⟨h1,?_⟩
 rw[h2]
 grind [vtx,BZ,encT_size]
def lastV (vs:List (Nat×Nat)):Nat×Nat:=vs.getLast?.getD (0,0)
def VoteF (N:Nat)(F:BA)(t v:Int):Prop:=∃vs:List (Nat×Nat),(∀p∈vs,okV p)/\bs F=cats N (vs.map vtx)/\F.size<=20000/\t=((lastV vs).1:Nat)/\v=((lastV vs).2:Nat)
theorem vtx_ok {vs:List (Nat×Nat)}(h:∀p∈vs,okV p):∀r∈vs.map vtx,okR r:=by
 grind [vtx_size]
def lastOr (d:Nat×Nat)(vs:List (Nat×Nat)):Nat×Nat:=vs.getLast?.getD d
theorem lastOr_cons (d p:Nat×Nat)(vs:List (Nat×Nat)):lastOr d (p::vs)=lastOr p vs:=by
 grind [lastOr,List.getLast?_cons_cons,List.getLast?_cons]
theorem rv_s (N:Nat)(hN:Big N)(y:List BA×Int)(vs:List (Nat×Nat))(hy:y.1=vs.map vtx)(hv:∀p∈vs,okV p)(hl:vs.length<=5000):∀(e k m:Nat)(d:Nat×Nat),vs.length=k+e->e<m->
  s_ReadVotes_l1 N y m (d.1:Nat) (d.2:Nat) (k:Int)=some (.inr (((lastOr d (vs.drop k)).1:Nat),((lastOr d (vs.drop k)).2:Nat))):=by
 intro e
 have hyl:y.1.length=vs.length:=by rw[hy,List.length_map]
 induction e with
 |zero=>
  intro k m d hd hm
  obtain⟨m,rfl⟩:∃q,m=q+1:=⟨m-1,by omega⟩
  rw[s_ReadVotes_l1,IQ (by simp;omega),DN (by omega)]
  rfl
 |succ e ih=>
  intro k m d hd hm
  obtain⟨m,rfl⟩:∃q,m=q+1:=⟨m-1,by omega⟩
  have hk:k<vs.length:=by omega
  have hp:=hv _ (List.getElem_mem hk)
  have hz:=vtx_size hp
  obtain⟨r1,r2⟩:=vtx_read hp
  have hel:y.1[k]'(by omega)=vtx vs[k]:=by simp only[hy,List.getElem_map]
  have hle:(enc vs[k].1).length<=(vtx vs[k]).size:=by unfold vtx;rw[BZ,encT_size];omega
  rw[s_ReadVotes_l1,IP (by simp;omega),at_lt (by omega),bO,hel,show(⟨vtx vs[k],0,false⟩:Tl05Cur)=⟨vtx vs[k],((0:Nat):Int),false⟩from rfl,sv_ok N hN _ 0 (by omega) (by omega),r1]
  simp only[bO]
  rw[sv_ok N hN _ _ (by omega) hle,r2]
  simp only[bO]
  have hvt:s_VoteText N (vs[k].1:Int) (vs[k].2:Int)=some (frm N (vtx vs[k]),true):=by
   rw[vote_spec N hN,IP (by have h1:=hp.1;have h2:=hp.2;omega)]
   rfl
  have hfr:s_Frame N (vtx vs[k])=some (frm N (vtx vs[k]),true):=by rw[frame_spec N hN _ (by omega),IP (by omega)]
  rw[hvt,bO,hfr,bO]
  simp only[BN,BF,if_false,decide_true]
  rw[WS (by omega),ih (k+1) m vs[k] (by omega) (by omega),DG hk,lastOr_cons]
theorem rv_i (N:Nat)(hN:Big N)(y:List BA×Int)(vs:List (Nat×Nat))(hy:y.1=vs.map vtx)(hv:∀p∈vs,okV p)(hl:vs.length<=5000):∀(e k m:Nat)(d:Nat×Nat)(b:Bool),vs.length=k+e->e<m->
  i_ReadVotes_l1 N y m (d.1:Nat) (d.2:Nat) b (k:Int)=some ((((lastOr d (vs.drop k)).1:Nat):Int),(((lastOr d (vs.drop k)).2:Nat):Int),b||decide (e≠0)):=by
 intro e
 have hyl:y.1.length=vs.length:=by rw[hy,List.length_map]
 induction e with
 |zero=>
  intro k m d b hd hm
  obtain⟨m,rfl⟩:∃q,m=q+1:=⟨m-1,by omega⟩
  rw[i_ReadVotes_l1,IQ (by simp;omega),DN (by omega)]
  simp[lastOr]
 |succ e ih=>
  intro k m d b hd hm
  obtain⟨m,rfl⟩:∃q,m=q+1:=⟨m-1,by omega⟩
  have hk:k<vs.length:=by omega
  have hp:=hv _ (List.getElem_mem hk)
  have hz:=vtx_size hp
  obtain⟨r1,r2⟩:=vtx_read hp
  have hel:y.1[k]'(by omega)=vtx vs[k]:=by simp only[hy,List.getElem_map]
  have hle:(enc vs[k].1).length<=(vtx vs[k]).size:=by unfold vtx;rw[BZ,encT_size];omega
  rw[i_ReadVotes_l1,IP (by simp;omega),at_lt (by omega),bO,hel,show(⟨vtx vs[k],0,false⟩:Treader)=⟨vtx vs[k],((0:Nat):Int),false⟩from rfl,nv_ok N hN _ 0 (by omega) (by omega),r1]
  simp only[bO]
  rw[nv_ok N hN _ _ (by omega) hle,r2]
  simp only[bO]
  rw[vote_impl N hN hp,bO]
  unfold r_done
  simp only[Bool.not_false,if_true,bO,beq_self_eq_true,BN,BF,if_false]
  rw[WS (by omega),ih (k+1) m vs[k] true (by omega) (by omega),DG hk,lastOr_cons]
  simp
theorem VoteF.read (N:Nat)(hN:Big N){F:BA}{t v:Int}(h:VoteF N F t v):s_ReadVotes N F=some (t,v,(F.size:Int))/\i_ReadVotes N F=some (t,v,(F.size:Int)):=by
 obtain⟨vs,h1,h2,h3,rfl,rfl⟩:=h
 have hok:=vtx_ok h1
 have hlen:=cats_len N hN _ hok
 rw[<-h2,bs_len,List.length_map]at hlen
 have hl:lens N (vs.map vtx)=F.size:=by unfold lens;rw[<-h2,bs_len]
 constructor
 ·unfold s_ReadVotes
  rw[unframe_spec N hN F h3 rfl hok (by rw[List.append_nil];exact h2) (by simp;omega),bO]
  simp only[joinP]
  have e:=rv_s N hN (vs.map vtx,(lens N (vs.map vtx):Int)) vs rfl h1 (by omega) vs.length 0 N (0,0) (by omega) (by unfold Big at hN;omega)
  rw[List.drop_zero]at e
  change s_ReadVotes_l1 N _ N 0 0 0=_ at e
  rw[e,hl]
  rfl
 ·unfold i_ReadVotes
  rw[unframe_impl N hN F h3 rfl hok (by rw[List.append_nil];exact h2) (by simp;omega),bO]
  simp only[joinP]
  have e:=rv_i N hN (vs.map vtx,(lens N (vs.map vtx):Int)) vs rfl h1 (by omega) vs.length 0 N (0,0) false (by omega) (by unfold Big at hN;omega)
  rw[List.drop_zero]at e
  change i_ReadVotes_l1 N _ N 0 0 false 0=_ at e
  rw[e,hl,bO]
  cases vs with
  |nil=>
   have:F.size=0:=by rw[<-bs_len,h2];rfl
   rw[this]
   rfl
  |cons p vs=>simp[lastV,lastOr]
theorem VoteF.add (N:Nat)(hN:Big N){F:BA}{t v t' v':Int}(h:VoteF N F t v)(ht:0<=t'/\t'<=100000)(hv:0<=v'/\v'<=4)(hz:(F++frm N (vtx (t'.toNat,v'.toNat))).size<=20000):VoteF N (F++frm N (vtx (t'.toNat,v'.toNat))) t' v':=by
 obtain⟨vs,h1,h2,h3,_,_⟩:=h
 refine⟨vs++[(t'.toNat,v'.toNat)],?_,?_,hz,?_,?_⟩
 ·intro p hp
  rcases List.mem_append.1 hp with hp|hp
  ·exact h1 p hp
  ·rw[List.mem_singleton.1 hp];exact⟨by simp only;omega,by simp only;omega⟩
 ·grind [bs_app,cats_app,cats]
 ·simp[lastV];omega
 ·simp[lastV];omega
theorem VoteF.empty (N:Nat):VoteF N ⟨#[]⟩ 0 0:=⟨[],by simp,rfl,by decide,rfl,rfl⟩
theorem okSpot_all {l:List Spot}(h:dirOk l=true):l.length<=60/\∀x∈l,0<=x.At/\x.At<=20000/\0<=x.Size/\x.Size<=40:=by
 simp only[dirOk,Bool.and_eq_true,DT]at h
 refine⟨h.1,chain_all (λo x hx=> ?_) h.2⟩
 simp only[okSpot,Bool.and_eq_true,DT]at hx
 grind
theorem same_loop {ρ:Type}{n N:Nat}(f:Nat->Int->Option ρ)(r:ρ)(hn:n<N)(hn2:n<=1099511627)(step:∀m k:Nat,k<n->f (m+1) (k:Int)=f m (w64 ((k:Int)+1)))(stop:∀m,f (m+1) (n:Int)=some r):f N 0=some r:=by
 have key:∀(d k m:Nat),n=k+d->d<m->f m (k:Int)=some r:=by
  intro d
  induction d with
  |zero=>
   intro k m hd hm
   obtain⟨m,rfl⟩:∃q,m=q+1:=⟨m-1,by omega⟩
   grind
  |succ d ih=>
   intro k m hd hm
   obtain⟨m,rfl⟩:∃q,m=q+1:=⟨m-1,by omega⟩
   rw[step m k (by omega),WS (by omega)]
   exact ih (k+1) m (by omega) (by omega)
 grind
theorem ints_self (N:Nat)(hN:Big N)(xs:List Int)(h:xs.length<=1000000):s_l09SameInts N xs xs=some true:=by
 unfold s_l09SameInts
 rw[IQ (by simp)]
 simp only[joinP]
 rw[same_loop (n:=xs.length) (s_l09SameInts_l1 N xs xs) (.inr ()) (by unfold Big at hN;omega) (by omega) (λm k hk=>by rw[s_l09SameInts_l1,IP (by simp;omega),at_lt hk];simp) (λm=>by rw[s_l09SameInts_l1,IQ (by simp)])]
 rfl
theorem shelf_self (N:Nat)(hN:Big N)(s:Shelf)(h1:s.Man.Segs.length<=1000000)(h2:s.Man.Conf.length<=1000000)(h3:s.Dir.length<=1000000):s_l09Same N s s=some true:=by
 unfold s_l09Same
 rw[IQ (by simp),ints_self N hN _ h1,bO,IQ (by simp),IQ (by simp),IQ (by simp),IQ (by simp),ints_self N hN _ h2,bO,IQ (by simp),IQ (by simp)]
 simp only[joinP]
 rw[same_loop (n:=s.Dir.length) (s_l09Same_l1 N s s) (.inr ()) (by unfold Big at hN;omega) (by omega) (λm k hk=>by rw[s_l09Same_l1,IP (by simp;omega),at_lt hk];simp) (λm=>by rw[s_l09Same_l1,IQ (by simp)])]
 rfl
theorem map_self (N:Nat)(hN:Big N)(m:List Pair)(h:m.length<=1000000):w_sameMap N m m=some true:=by
 unfold w_sameMap
 rw[IQ (by simp)]
 simp only[joinP]
 rw[same_loop (n:=m.length) (w_sameMap_l1 N m m) (.inr ()) (by unfold Big at hN;omega) (by omega) (λq k hk=>by rw[w_sameMap_l1,IP (by simp;omega),at_lt hk];simp) (λq=>by rw[w_sameMap_l1,IQ (by simp)])]
 rfl
theorem disk_self (N:Nat)(hN:Big N)(d:Disk)(h:d.Files.length<=1000000):w_sameDisk N d d=some true:=by
 unfold w_sameDisk
 rw[IQ (by simp)]
 simp only[joinP]
 rw[same_loop (n:=d.Files.length) (w_sameDisk_l1 N d d) (.inr ()) (by unfold Big at hN;omega) (by omega) (λq k hk=>by rw[w_sameDisk_l1,IP (by simp;omega),at_lt hk];simp) (λq=>by rw[w_sameDisk_l1,IQ (by simp)])]
 rfl
theorem Opens.sizes {N:Nat}{d:Disk}{s:Shelf}(h:Opens N d s):manOk s.Man=true/\dirOk s.Dir=true:=by
 obtain⟨_,h2,h3,h4,h5,h6,s0,sp,h7,h8,h9⟩:=shelf_good (N:=N) (d:=d) (by rw[h.2.1])
 have e:=h.2.1
 grind
theorem Opens.same (N:Nat)(hN:Big N){d:Disk}{s:Shelf}(h:Opens N d s):s_l09Same N s s=some true:=by
 obtain⟨h1,h2⟩:=h.sizes
 grind [manOk_ok,okSpot_all,shelf_self]
theorem Opens.clean (N:Nat)(hN:Big N){d:Disk}{s:Shelf}(h:Opens N d s):s_l09Clean N d s=some true:=by
 unfold s_l09Clean
 rw[h.spec hN,bO,IP (by simp),IP (by simp),h.same N hN]
 rfl
theorem after_spec (N:Nat)(hN:Big N){d:Disk}(hd:diskOk d=true)(l:List Raw)(hs:∀r∈l,r.Text.size<=1000000)(hl:l.length<=1000):
  ∃x b,s_l09After N d l=some (x,b)/\(b=true->l.length<=60/\∃o,rawsDo d l=some o/\Opens N o x):=by
 obtain⟨o,k,p1,p2,p3⟩:=putRaws_spec N hN hd l hs hl
 unfold s_l09After
 rw[p1,bO]
 by_cases hk:k=(l.length:Int)
 case neg=>rw[IP (by simpa using hk)];exact⟨_,_,rfl,λe=>by simp at e⟩
 obtain⟨q1,q2⟩:=p2.1 hk
 have q3:=p3 q1 q2
 have ho:=rawsDo_ok hd q3
 obtain⟨r,o1,o2⟩:=open_spec N hN o (by have:=disk_len ho;omega)
 rw[IQ (by simpa using hk)]
 simp only
 rw[o1,bO]
 by_cases hc:(shelfOf N o).2=0
 case neg=>rw[IQ (by simpa using hc)];exact⟨_,_,rfl,λe=>by simp at e⟩
 rw[IP (by simpa using hc)]
 refine⟨_,_,rfl,λe=>⟨q1,o,q3,ho,?_,?_⟩⟩
 ·rw[<-hc]
 ·refine(o2 hc).1 ?_
  simpa using e
theorem wi_mk {n:Int}(h: -9223372036854775808<=n/\n<=9223372036854775807):WI .i64 n:=by
 simp only[WI,Lit.wf,beq_iff_eq,DT,Bool.and_eq_true]
 exact h
theorem behind_self {l:Log}(h:logOk l=true):behind l l.Start l.StartTerm=l:=by
 unfold behind
 rw[h]
 have h1:termAt l l.Start=l.StartTerm:=by simp[termAt]
 have h2:l.Start<=l.Start+l.Entries.length:=by omega
 simp[h1,h2]
structure SW (N:Nat) (s:Server):Prop where
 id:1<=s.Node.Id/\s.Node.Id<=4
 opens:Opens N s.Disk s.Shelf
 lok:logOk s.Node.Log=true
 log:∃F,fileAt s.Disk nLog=some F/\LogF N F s.Node.Log
 beh:s.Node.Log.Start=s.Shelf.Man.Base/\s.Node.Log.StartTerm=s.Shelf.Man.BaseTerm
 vote:VoteF N (ftext s.Disk nVote) s.Node.Term s.Node.Vote
 noL:fileAt s.Disk nLogP=none
 noV:fileAt s.Disk nVoteP=none
 stamp:s.Shelf.Man.Base<=s.Shelf.Stamp/\s.Shelf.Stamp<=logEnd s.Node.Log
 term:logTerm s.Node.Log<=s.Node.Term/\s.Node.Term<=100000/\0<=s.Node.Vote/\s.Node.Vote<=4
 tot:totNode s.Node<=1000000
 conf:s.Node.Conf=s.Shelf.Man.Conf
 stage:s.Stage.size<=100000
def nodeB (s:Server)(lim:Int):Node:=⟨s.Node.Id,s.Node.Term,s.Node.Vote,0,0,s.Shelf.Man.Conf,s.Node.Log,s.Shelf.Stamp,0,lim,[],[]⟩
def servB (s:Server)(lim:Int):Server:=⟨nodeB s lim,s.Disk,s.Shelf,⟨#[]⟩,0,0⟩
theorem log_small {l:Log}(h:logOk l=true):smallL l:=by
 have h1:=(logOk_at h).2.2.2.2.1
 have h2:=sum_le (f:=totEntry) (B:=120) λe he=>((log_le h).2 e he).1
 show totLog l<=_
 unfold totLog
 simp only[totL]
 omega
theorem man_conf {m:Manifest}(h:manOk m=true):confOk m.Conf=true:=by
 unfold manOk at h
 grind
theorem nok0 (N:Nat)(hN:Big N){i t v cm lim:Int}{c:List Int}{l:Log}(hi:1<=i/\i<=4)(hc:confOk c=true)(hl:logOk l=true)(ht:logTerm l<=t/\t<=100000)(hv:0<=v/\v<=4)(hcm:l.Start<=cm/\cm<=logEnd l)(hlim:1<=lim/\lim<=20):s_NodeOk N ⟨i,t,v,0,0,c,l,cm,0,lim,[],[]⟩=some true/\i_NodeOk N ⟨i,t,v,0,0,c,l,cm,0,lim,[],[]⟩=some true:=by
 have hcl:=confOk_len hc
 have hs:=log_small hl
 have h0:=log_le hl
 have h1:=(logOk_at hl).2.2.1
 obtain⟨q,rfl⟩:∃q,N=q+1:=⟨N-1,by unfold Big at hN;omega⟩
 constructor
 ·unfold s_NodeOk
  simp only[in_eq,bO,confOk_spec _ hN c (by omega),hc,logOk_spec _ hN l hs,hl,logLast_spec _ hl,joinP,rise_eq _ hN [] 1 4 (by simp)]
  simp[hi,hv,hlim,hcm,show ¬t<logTerm l by omega,show 0<=t by omega,ht.2,rise,s_NodeOk_l1]
 ·unfold i_NodeOk
  simp only[within_eq,bO,confOk_impl _ hN c (by omega),hc,logOk_impl _ hN l hs,hl,logLast_impl _ hl,joinP]
  simp[hi,hv,hlim,hcm,ht,i_NodeOk_l1]
theorem SW.nok (N:Nat)(hN:Big N){s:Server}(h:SW N s){lim:Int}(hl:1<=lim/\lim<=20):s_NodeOk N (nodeB s lim)=some true/\i_NodeOk N (nodeB s lim)=some true:=
 nok0 N hN h.id (man_conf h.opens.sizes.1) h.lok ⟨h.term.1,h.term.2.1⟩ h.term.2.2 ⟨by rw[h.beh.1];exact h.stamp.1,h.stamp.2⟩ hl
theorem at_none {N:Nat}(hN:Big N){d:Disk}(hd:diskOk d=true){n:BA}(h:fileAt d n=none):s_l03At N d n=some (-1):=by
 obtain⟨a,h1,h2⟩:=l03At_ok N hN d (by have:=disk_len hd;omega) n
 rcases h2 with ⟨rfl,_⟩|⟨k,f,_,_,_,_,h3⟩
 ·exact h1
 ·rw[h]at h3;cases h3
theorem SW.boot (N:Nat)(hN:Big N){s:Server}(h:SW N s){lim:Int}(hl:1<=lim/\lim<=20):s_Boot N s.Node.Id s.Disk lim=some (servB s lim,[],0):=by
 obtain⟨F,f1,f2⟩:=h.log
 have hd:=h.opens.1
 have hl30:=disk_len hd
 obtain⟨o1,o2,o3,o4,o5,o6,o7⟩:=logOk_at h.lok
 have hcl:=confOk_len (man_conf h.opens.sizes.1)
 unfold s_Boot
 rw[h.opens.spec hN,bO,IQ (by simp),fileAt_spec N hN _ (by omega) hd,bO,show fileR s.Disk ⟨#[108,111,103]⟩=(F,true)from by unfold fileR;rw[show(⟨#[108,111,103]⟩:BA)=nLog from rfl,f1],(f2.read N hN h.lok (log_small h.lok)).1,bO]
 simp only[BN,BF,if_false,joinP]
 rw[<-h.beh.1,<-h.beh.2,behind_spec N hN _ _ _ (log_small h.lok) (wi_mk (by omega)),bO,behind_self h.lok,(same_both N hN _ _ (by omega) (by omega)).1,bO,sameL_iff.2 rfl]
 simp only[BN,BF,if_false]
 rw[IQ (by simp),show(⟨#[108,111,103,43]⟩:BA)=nLogP from rfl,at_none hN hd h.noL,bO,IQ (by decide),l03Text_ok N hN _ (by omega),bO,show(fileAt s.Disk ⟨#[118,111,116,101]⟩).getD ⟨#[]⟩=ftext s.Disk nVote from rfl,(h.vote.read N hN).1,bO]
 simp only
 rw[IQ (by simp),show(⟨#[118,111,116,101,43]⟩:BA)=nVoteP from rfl,at_none hN hd h.noV,bO,IQ (by decide)]
 obtain⟨x,k,p1,p2,p3⟩:=putRaws_spec N hN hd [] (by simp) (by simp)
 have p4:=p3 (by simp) (by simp[rawsDo])
 simp only[rawsDo,Option.some.injEq]at p4
 rw[p1,bO,cat_le (by simp;omega),bO,List.nil_append,show(Node.mk s.Node.Id s.Node.Term s.Node.Vote 0 0 s.Shelf.Man.Conf s.Node.Log s.Shelf.Stamp 0 lim [] [])=Pe.FnBoots.nodeB s lim from rfl,(h.nok N hN hl).1,bO]
 rw[<-p4]
 rfl
theorem SW.boot_impl (N:Nat)(hN:Big N){s:Server}(h:SW N s){lim:Int}(hl:1<=lim/\lim<=20):i_Boot N s.Node.Id s.Disk lim=some (servB s lim,[],0):=by
 obtain⟨F,f1,f2⟩:=h.log
 have hd:=h.opens.1
 have hl30:=disk_len hd
 obtain⟨o1,o2,o3,o4,o5,o6,o7⟩:=logOk_at h.lok
 have hcl:=confOk_len (man_conf h.opens.sizes.1)
 have hno:∀n,fileAt s.Disk n=none->fileR s.Disk n=(⟨#[]⟩,false):=λn e=>by unfold fileR;rw[e]
 unfold i_Boot
 rw[h.opens.impl hN,bO,IQ (by simp),fileAt_impl N hN _ hd,bO,show fileR s.Disk ⟨#[108,111,103]⟩=(F,true)from by unfold fileR;rw[show(⟨#[108,111,103]⟩:BA)=nLog from rfl,f1],(f2.read N hN h.lok (log_small h.lok)).2,bO]
 simp only[BN,BF,if_false,joinP]
 rw[<-h.beh.1,<-h.beh.2,behind_impl N hN _ _ _ (log_small h.lok) (wi_mk (by omega)),bO,behind_self h.lok,fileAt_impl N hN _ hd,bO,fileR_text,show ftext s.Disk ⟨#[118,111,116,101]⟩=ftext s.Disk nVote from rfl,(h.vote.read N hN).2,bO,cat_le (by simp;omega),bO,List.nil_append]
 simp only
 rw[show(Node.mk s.Node.Id s.Node.Term s.Node.Vote 0 0 s.Shelf.Man.Conf s.Node.Log s.Shelf.Stamp 0 lim [] [])=Pe.FnBoots.nodeB s lim from rfl,(h.nok N hN hl).2,bO]
 unfold i_logMended
 rw[same_impl N hN _ _ (by omega) (by omega),sameL_iff.2 rfl]
 simp only[BN,BF,if_false,joinP,bO]
 rw[IQ (by simp),fileAt_impl N hN _ hd,bO,hno _ h.noL]
 simp only[BF,if_false,bO]
 rw[cat_le (by simp),bO,IQ (by simp),fileAt_impl N hN _ hd,bO,hno _ h.noV]
 simp only[BF,if_false,List.append_nil]
 unfold i_PutRaws i_copyDisk
 obtain⟨q,rfl⟩:∃q,N=q+1:=⟨N-1,by unfold Big at hN;omega⟩
 rw[diskOk_impl _ hN _ (by omega),bO,hd]
 simp only[BN,BF,if_false,joinP,i_PutRaws_l1,List.length_nil,cat_le (show([]:List File).length+s.Disk.Files.length<=68719476736 by simp;omega),bO,List.nil_append]
 rfl
theorem gv_at {t:BA}{a n:Nat}{M:List UInt8}(hn:n<=1000000000)(h:(bs t).drop a=enc n++M):gv t (some a)=(n,some (a+(enc n).length))/\(bs t).drop (a+(enc n).length)=M:=by
 refine⟨?_,drop_app h⟩
 simp only[gv,pv_at hn h]
theorem gns_at {t:BA}:∀{xs:List Int}{a:Nat}{M:List UInt8},(∀x∈xs,0<=x/\x<=999)->(bs t).drop a=bs (ncat xs)++M->gns t xs.length (some a)=(xs,some (a+(ncat xs).size))/\(bs t).drop (a+(ncat xs).size)=M
 |[],a,M,_,h=>⟨rfl,h⟩
 |x::xs,a,M,hx,h=>by
  have h0:=hx x (by simp)
  rw[ncat,bs_app,bs_enc,List.append_assoc]at h
  have h1:=pv_at (n:=x.toNat) (by omega) h
  have h2:=gns_at (xs:=xs) (λy hy=>hx y (List.mem_cons_of_mem _ hy)) (drop_app h)
  grind [LC,gns,ncat,BZ,encT_size,Nat.add_assoc,Int.toNat_of_nonneg]
theorem man_back {N:Nat}(hN:Big N){m:Manifest}(h:manOk m=true):manR N (seald N (mtx m))=(m,true):=by
 obtain⟨⟨g1,g2⟩,g3,g4,g5,g6,g7,g8⟩:=manOk_ok h
 have hz1:=ncat_size (xs:=m.Segs) (λx hx=>by have:=g4 x hx;omega)
 have hz2:=ncat_size (xs:=m.Conf) (λx hx=>by have:=g8 x hx;omega)
 have e1:=enc_len5 (n:=m.Segs.length) (by omega)
 have e2:=enc_len5 (n:=m.Next.toNat) (by omega)
 have e3:=enc_len5 (n:=m.Base.toNat) (by omega)
 have e4:=enc_len5 (n:=m.BaseTerm.toNat) (by omega)
 have e5:=enc_len5 (n:=m.Conf.length) (by omega)
 have hsz:(mtx m).size=(enc m.Segs.length).length+(ncat m.Segs).size+(enc m.Next.toNat).length+(enc m.Base.toNat).length+(enc m.BaseTerm.toNat).length+(enc m.Conf.length).length+(ncat m.Conf).size:=by
  grind [mtx,BZ,encT_size]
 have h4:=four_size N hN (mtx m) (by omega)
 have hs4:(seald N (mtx m)).size=(mtx m).size+4:=by unfold seald;rw[BZ,h4]
 have hex:(seald N (mtx m)).extract 0 ((seald N (mtx m)).size-4)=mtx m:=by
  rw[hs4,Nat.add_sub_cancel]
  apply ba_ext'
  rw[ext_toList _ 0 _ (by omega) (by omega),List.drop_zero,Nat.sub_zero]
  show(bs (seald N (mtx m))).take _=bs (mtx m)
  grind [seald,bs_app,List.take_left',bs_len]
 have hun:unsR N (seald N (mtx m))=(mtx m,true):=by
  grind [unsR]
 have hb:bs (mtx m)=enc m.Segs.length++(bs (ncat m.Segs)++(enc m.Next.toNat++(enc m.Base.toNat++(enc m.BaseTerm.toNat++(enc m.Conf.length++(bs (ncat m.Conf)++[])))))):=by
  grind [mtx,bs_app,bs_enc,List.append_assoc]
 have k0:=gv_at (t:=mtx m) (a:=0) (n:=m.Segs.length) (by omega) (by rw[List.drop_zero];exact hb)
 have k1:=gns_at g4 k0.2
 have k2:=gv_at (n:=m.Next.toNat) (by omega) k1.2
 have k3:=gv_at (n:=m.Base.toNat) (by omega) k2.2
 have k4:=gv_at (n:=m.BaseTerm.toNat) (by omega) k3.2
 have k5:=gv_at (n:=m.Conf.length) (by omega) k4.2
 have k6:=gns_at g8 k5.2
 have hr:mread (mtx m) (some 0) (λn=>n) (λn=>n)=(m,some (mtx m).size):=by
  unfold mread
  simp only[k0.1,k1.1,k2.1,k3.1,k4.1,k5.1,k6.1]
  rw[hsz]
  cases m
  grind
 unfold manR
 rw[hun]
 simp only[if_true,hr,h,decide_true,Bool.and_self]
 rfl
theorem unfr_cats (N:Nat)(t:BA):∀(f a:Nat),a<=t.size->(bs t).drop a=cats N (unfr N t f a).1++(bs t).drop (unfr N t f a).2
 |0,a,_=>rfl
 |f+1,a,ha=>by
  rw[unfr]
  cases h:nextF N t a with
  |none=>rfl
  |some q=>
   obtain⟨x,b⟩:=q
   obtain⟨h1,h2,_,h4⟩:=nextF_some ha h
   simp only
   rw[cats_cons,List.append_assoc,<-unfr_cats N t f b h2,h4]
   show(bs t).drop a=(t.extract a b).data.toList++(bs t).drop b
   rw[ext_toList t a b (by omega) h2]
   show(bs t).drop a=((bs t).drop a).take (b-a)++(bs t).drop b
   rw[show(bs t).drop b=((bs t).drop a).drop (b-a)from by rw[List.drop_drop];congr 1;omega,List.take_append_drop]
theorem bats_all (N:Nat)(hN:Big N):∀(ts:List BA)(a:Nat),(∀r∈ts,rok r)->(bats N ts a).2<=a+lens N ts/\((bats N ts a).2=a+lens N ts->∀r∈ts,(rbat r).2=true)
 |[],a,_=>⟨by simp[bats,lens,cats],by simp⟩
 |t::ts,a,h=>by
  have ht:=h t (by simp)
  have hz:=frm_size N hN t (by have:=ht.2;omega)
  obtain⟨h1,h2⟩:=bats_all N hN ts (a+(frm N t).size) (λr hr=>h r (List.mem_cons_of_mem _ hr))
  grind [lens,frm,cats_cons,LA,bs_len,bats]
theorem whole_seg (N:Nat)(hN:Big N){t:BA}(ht:t.size<=20000)(h:¬(scan N t).2<t.size):bs t=cats N (recs N t).1/\(recs N t).2=t.size/\(∀r∈(recs N t).1,rok r)/\∀r∈(recs N t).1,(rbat r).2=true:=by
 have h1:=unfr_cats N t (t.size+1) 0 (Nat.zero_le _)
 have h2:=unfr_ok N t (t.size+1) 0 (Nat.zero_le _)
 rw[List.drop_zero]at h1
 obtain⟨_,hr⟩:=recs_ok N t
 have h3:=bats_all N hN (recs N t).1 0 hr
 have hle:lens N (recs N t).1<=(recs N t).2:=by
  have e:=congrArg List.length h1
  rw[LA,List.length_drop,bs_len]at e
  show(cats N (unfr N t (t.size+1) 0).1).length<=(unfr N t (t.size+1) 0).2
  omega
 have h4:(scan N t).2=(bats N (recs N t).1 0).2:=rfl
 have h5:(recs N t).2<=t.size:=h2.1
 have e2:(recs N t).2=t.size:=by omega
 refine⟨?_,e2,hr,h3.2 (by omega)⟩
 rw[h1]
 show cats N (recs N t).1++(bs t).drop (recs N t).2=_
 grind [DN,bs_len]
theorem bats_app (N:Nat):∀(ts us:List BA)(a:Nat),(∀r∈ts,(rbat r).2=true)->bats N (ts++us) a=((bats N ts a).1++(bats N us (bats N ts a).2).1,(bats N us (bats N ts a).2).2)
 |[],us,a,_=>rfl
 |t::ts,us,a,h=>by
  have h1:=bats_app N ts us (a+(frm N t).size) λr hr=>h r (List.mem_cons_of_mem _ hr)
  grind [bats]
theorem bs_ext (t:BA)(i j:Nat)(hij:i<=j)(hj:j<=t.size):bs (t.extract i j)=((bs t).drop i).take (j-i):=ext_toList t i j hij hj
theorem drop_le {t:BA}{a:Nat}{l M:List UInt8}(h:(bs t).drop a=l++M)(hl:l≠[]):a+l.length+M.length=t.size:=by
 have e:=congrArg List.length h
 rw[List.length_drop,bs_len,LA]at e
 have:1<=l.length:=by cases l with|nil=>exact absurd rfl hl|cons _ _=>simp
 omega
theorem ps_at {t s:BA}{a:Nat}{M:List UInt8}(hs:s.size<=1000)(h:(bs t).drop a=bs (sht s)++M):ps t a=some (s,a+(sht s).size)/\(bs t).drop (a+(sht s).size)=M:=by
 have hz:=sht_size (s:=s) (by omega)
 have h2:(bs t).drop (a+(sht s).size)=M:=by rw[<-bs_len];exact drop_app h
 unfold sht at h
 rw[bs_app,bs_enc,List.append_assoc]at h
 have h1:=pv_at (n:=s.size) (by omega) h
 have h3:=drop_app h
 have hp:=enc_pos s.size
 have hlen:=drop_le h (by intro e;rw[e]at hp;simp at hp)
 rw[LA,bs_len]at hlen
 refine⟨?_,h2⟩
 unfold ps
 rw[h1]
 simp only
 rw[IP (by omega),hz.1]
 congr 2
 ·apply ba_ext'
  show bs _=bs s
  rw[bs_ext _ _ _ (by omega) (by omega),h3,Nat.add_sub_cancel_left,List.take_left' (bs_len s)]
 ·omega
theorem pch_at {t:BA}{c:Change}{a:Nat}{M:List UInt8}(hk:c.Key.size<=10)(hv:c.Value.size<=40)(h:(bs t).drop a=bs (chx c)++M):pch t a=some (c,a+(chx c).size)/\(bs t).drop (a+(chx c).size)=M:=by
 have h2:(bs t).drop (a+(chx c).size)=M:=by rw[<-bs_len];exact drop_app h
 have hcz:(chx c).size=(sht c.Key).size+1+(sht c.Value).size:=by unfold chx;rw[BZ,BZ,flg_size]
 unfold chx at h
 rw[bs_app,bs_app,List.append_assoc,List.append_assoc]at h
 obtain⟨p1,p2⟩:=ps_at (by omega) h
 have hfl:(bs (flg c.Gone)).length=1:=by rw[bs_len,flg_size]
 have hlen:=drop_le p2 (by intro e;rw[e]at hfl;simp at hfl)
 have p3:=drop_app p2
 rw[hfl]at p3 hlen
 obtain⟨p4,p5⟩:=ps_at (by omega) p3
 refine⟨?_,h2⟩
 unfold pch
 rw[p1]
 simp only
 rw[IP (by omega),p4]
 simp only
 have hg:t.extract (a+(sht c.Key).size) (a+(sht c.Key).size+1)=flg c.Gone:=by
  apply ba_ext'
  show bs _=bs _
  grind [bs_ext,Nat.add_sub_cancel_left,List.take_left']
 rw[hg,hcz]
 have hd:decide (flg c.Gone=(⟨#[1]⟩:BA))=c.Gone:=by unfold flg;cases c.Gone<;>decide
 rw[hd]
 congr 2
 omega
theorem pchs_at {t:BA}:∀{cs:List Change}{a f:Nat}{M:List UInt8},(∀c∈cs,c.Key.size<=10/\c.Value.size<=40)->cs.length<=f->(bs t).drop a=bs (chs cs)++M->pchs t f cs.length a=some (cs,a+(chs cs).size)
 |[],a,f,M,_,_,h=>by cases f<;>rfl
 |c::cs,a,f,M,hc,hf,h=>by
  obtain⟨f,rfl⟩:∃q,f=q+1:=⟨f-1,by simp at hf;omega⟩
  have h0:=hc c (by simp)
  rw[chs,bs_app,List.append_assoc]at h
  obtain⟨p1,p2⟩:=pch_at h0.1 h0.2 h
  have p3:=pchs_at (f:=f) (λx hx=>hc x (List.mem_cons_of_mem _ hx)) (by simp at hf;omega) p2
  rw[LC,pchs,p1]
  simp only
  rw[p3,chs,BZ]
  grind
theorem rbat_back {b:Batch}(h:batOk b=true):rbat (btx b)=(b,true):=by
 obtain⟨b1,b2,b3,b4⟩:=batOk_ok h
 have hb:bs (btx b)=enc b.Stamp.toNat++(enc b.Changes.length++(bs (chs b.Changes)++[])):=by
  grind [btx,bs_app,bs_enc,List.append_assoc]
 have k0:=gv_at (t:=btx b) (a:=0) (n:=b.Stamp.toNat) (by omega) (by rw[List.drop_zero];exact hb)
 have p0:=pv_at (t:=btx b) (a:=0) (n:=b.Stamp.toNat) (by omega) (by rw[List.drop_zero];exact hb)
 have p1:=pv_at (n:=b.Changes.length) (by omega) k0.2
 have p2:=drop_app k0.2
 have hlen:=drop_le k0.2 (by intro e;have:=enc_pos b.Changes.length;rw[e]at this;simp at this)
 have hcl:b.Changes.length<=(btx b).size+1:=by
  have:∀cs:List Change,cs.length<=(chs cs).size:=by
   intro cs
   induction cs with
   |nil=>simp
   |cons c cs ih=>
    grind [chs,BZ,LC,chx,flg_size]
  grind [bs_len]
 have p3:=pchs_at (t:=btx b) (f:=(btx b).size+1) (λc hc=>⟨(b4 c hc).2.1,(b4 c hc).2.2⟩) hcl p2
 have he:(⟨(b.Stamp.toNat:Int),b.Changes⟩:Batch)=b:=by cases b;simp only[Batch.mk.injEq,and_true];simp only at b1;omega
 grind [rbat]
theorem scM_app (ps qs:List Tplaced)(s:Int):scM (ps++qs) s=scM qs (scM ps s):=by
 induction ps generalizing s with
 |nil=>rfl
 |cons p ps ih=>exact ih _
theorem scan_add (N:Nat)(hN:Big N){F r:BA}(hF:F.size<=20000)(h:¬(scan N F).2<F.size)(hr:rok r)(hb:(rbat r).2=true)(hz:(F++frm N r).size<=20000):
  ∃p:Tplaced,p.b=(rbat r).1/\scan N (F++frm N r)=((scan N F).1++[p],(F++frm N r).size):=by
 obtain⟨h1,h2,h3,h4⟩:=whole_seg N hN hF h
 have e:bs (F++frm N r)=cats N ((recs N F).1++[r]):=by rw[Pe.FnBoots.bs_app,cats_app,<-h1];simp[cats]
 have hre:=recs_of N hN hz (rs:=(recs N F).1++[r]) (λx hx=>by
  rcases List.mem_append.1 hx with hx|hx
  ·exact h3 x hx
  ·rw[List.mem_singleton.1 hx];exact hr) e
 have hs:(scan N F).2=F.size:=by
  grind [bats_all,recs,lens,bs_len,scan,bats]
 unfold scan
 rw[hre]
 simp only
 rw[bats_app N _ _ 0 h4]
 refine⟨⟨(rbat r).1,r,(((bats N (recs N F).1 0).2+(frm N r).size-r.size:Nat):Int)⟩,rfl,?_⟩
 rw[bats,IP hb,bats]
 have hs2:(bats N (recs N F).1 0).2=F.size:=hs
 rw[hs2,BZ]
theorem spts_in (seg:Int):∀(cs:List Change)(p:Nat),∀x∈spts seg cs p,x.Seg=seg/\(x.Size= -1\/(0<=x.At/\0<=x.Size/\x.At+x.Size<=((p+(chs cs).size:Nat):Int)))
 |[],_,x,hx=>by cases hx
 |c::cs,p,x,hx=>by
  have hv:vpos c p+c.Value.size=p+(chx c).size:=by
   grind [vpos,chx,sht,BZ,flg_size,encT_size]
  rw[spts]at hx
  rw[chs,BZ]
  rcases List.mem_cons.1 hx with rfl|hx
  ·grind [spt]
  ·rw[hv]at hx
   have:=spts_in seg cs _ x hx
   grind
theorem rbat_text {t:BA}(h:(rbat t).2=true):btx (rbat t).1=t:=by
 grind [rbat]
theorem bats_in (N:Nat)(hN:Big N)(seg:Int):∀(ts:List BA)(a:Nat),(∀r∈ts,rok r)->a<=(bats N ts a).2/\∀p∈(bats N ts a).1,∀x∈psp seg p,x.Seg=seg/\(x.Size= -1\/(0<=x.At/\0<=x.Size/\x.At+x.Size<=((bats N ts a).2:Int)))
 |[],a,_=>⟨Nat.le_refl _,by simp[bats]⟩
 |t::ts,a,h=>by
  have ht:=h t (by simp)
  have hz:=frm_size N hN t (by have:=ht.2;omega)
  obtain⟨h1,h2⟩:=bats_in N hN seg ts (a+(frm N t).size) (λr hr=>h r (List.mem_cons_of_mem _ hr))
  rw[bats]
  split
  ·rename_i hb
   refine⟨by simp only;omega,λp hp x hx=> ?_⟩
   rcases List.mem_cons.1 hp with rfl|hp
   ·have h3:=spts_in seg _ _ x hx
    grind [Int.le_trans,ByteArray.size,rbat_text,btx,BZ,encT_size,bhd,Int.toNat_natCast]
   ·exact h2 p hp x hx
  grind
theorem scan_le (N:Nat)(hN:Big N){t:BA}:(scan N t).2<=t.size:=by
 obtain⟨_,hr⟩:=recs_ok N t
 have h1:=(bats_all N hN (recs N t).1 0 hr).1
 have h2:=unfr_cats N t (t.size+1) 0 (Nat.zero_le _)
 have h3:=(unfr_ok N t (t.size+1) 0 (Nat.zero_le _)).1
 grind [List.length,LA,List.length_drop,bs_len,lens,recs,cats,unfr,scan,bats]
theorem put1_in {o:List Spot}{x y:Spot}(h:y∈put1 o x):y∈o\/y=x:=by
 grind [put1,List.mem_singleton]
theorem puts_in:∀{l o:List Spot}{y:Spot},y∈puts o l->y∈o\/y∈l
 |[],_,_,h=>.inl h
 |x::l,o,y,h=>by
  rcases puts_in (l:=l) (o:=put1 o x) h with h|h
  ·grind [put1_in]
  grind
def inText (d:Disk)(x:Spot):Prop:=x.Size= -1\/(0<=x.At/\0<=x.Size/\x.At+x.Size<=((ftext d (sname x.Seg)).size:Int))
theorem loadL_in (N:Nat)(hN:Big N)(d:Disk):∀(l:List Int)(s:Int)(sp:List Spot){v:Int×List Spot},loadL N d l s sp=some v->(∀x∈sp,inText d x)->∀x∈v.2,inText d x
 |[],s,sp,v,h,hs=>by simp only[loadL,Option.some.injEq]at h;subst h;exact hs
 |n::ns,s,sp,v,h,hs=>by
  rw[loadL]at h
  split at h
  ·cases h
  ·refine loadL_in N hN d ns _ _ h λx hx=> ?_
   rcases List.mem_append.1 hx with hx|hx
   ·exact hs x hx
   ·have hr:=(recs_ok N (ftext d (sname n))).2
    have hb:=(bats_in N hN n (recs N (ftext d (sname n))).1 0 hr).2
    have hle:=scan_le N hN (t:=ftext d (sname n))
    have key:∀ps:List Tplaced,(∀p∈ps,∀x∈psp n p,x.Seg=n/\(x.Size= -1\/(0<=x.At/\0<=x.Size/\x.At+x.Size<=((scan N (ftext d (sname n))).2:Int))))->x∈scS n ps->x.Seg=n/\(x.Size= -1\/(0<=x.At/\0<=x.Size/\x.At+x.Size<=((scan N (ftext d (sname n))).2:Int))):=by
     intro ps
     induction ps with
     |nil=>intro _ h;cases h
     |cons p ps ih=>
      intro h hx
      rcases List.mem_append.1 hx with hx|hx
      ·grind
      grind
    obtain⟨k1,k2⟩:=key _ hb hx
    unfold inText
    rw[k1]
    exact k2.imp id λh=>⟨h.1,h.2.1,by omega⟩
theorem Opens.inText {N:Nat}(hN:Big N){d:Disk}{s:Shelf}(h:Opens N d s):∀x∈s.Dir,(0<=x.At/\0<=x.Size)/\x.At+x.Size<=((ftext d (sname x.Seg)).size:Int):=by
 obtain⟨_,_,_,_,_,_,s0,sp,h7,h8,h9⟩:=shelf_good (N:=N) (d:=d) (by rw[h.2.1])
 rw[h.2.1]at h9
 simp only[Prod.mk.injEq,and_true]at h9
 rw[h9]
 intro x hx
 have h1:=(okSpot_all h8).2 x hx
 rcases puts_in hx with hx|hx
 ·cases hx
 ·rcases loadL_in N hN d _ _ _ h7 (by simp) x hx with h2|h2
  ·omega
  grind
def mapD (d:Disk)(l:List Spot):List Pair:=l.map λx=>⟨x.Key,(ftext d (sname x.Seg)).extract x.At.toNat (x.At.toNat+x.Size.toNat)⟩
theorem Opens.map (N:Nat)(hN:Big N){d:Disk}{s:Shelf}(h:Opens N d s):s_ShelfMap N d s=some (mapD d s.Dir,true):=by
 have hd:=h.1
 have hdl:=disk_len hd
 have hs:=h.sizes.2
 have hin:=h.inText hN
 obtain⟨hl,ha⟩:=okSpot_all hs
 have key:∀(e k q:Nat)(acc:List Pair),s.Dir.length=k+e->e<q->acc.length<=k->s_ShelfMap_l1 N d s q (k:Int) acc=some (.inr (acc++mapD d (s.Dir.drop k))):=by
  intro e
  induction e with
  |zero=>
   intro k q acc he hq hc
   obtain⟨q,rfl⟩:∃z,q=z+1:=⟨q-1,by omega⟩
   rw[s_ShelfMap_l1,IQ (by simp;omega),DN (by omega)]
   simp[mapD]
  |succ e ih=>
   intro k q acc he hq hc
   obtain⟨q,rfl⟩:∃z,q=z+1:=⟨q-1,by omega⟩
   have hk:k<s.Dir.length:=by omega
   obtain⟨g1,g2,g3,g4⟩:=ha _ (List.getElem_mem hk)
   have hx:=(hin _ (List.getElem_mem hk)).2
   have hz:=ftext_size hd (sname s.Dir[k].Seg)
   rw[s_ShelfMap_l1,IP (by simp;omega),at_lt hk,bO,sname_spec N hN,bO,l03Text_ok N hN d (by omega),bO,show(fileAt d (sname s.Dir[k].Seg)).getD ⟨#[]⟩=ftext d (sname s.Dir[k].Seg)from rfl,w64_id (by omega) (by omega),IQ (by simp;omega),
    show s.Dir[k].At=((s.Dir[k].At.toNat:Nat):Int) by omega,show((s.Dir[k].At.toNat:Nat):Int)+s.Dir[k].Size=((s.Dir[k].At.toNat+s.Dir[k].Size.toNat:Nat):Int) by omega,scut_ok (by omega) (by omega),bO,cat_le (by simp;omega),bO,WS (by omega),ih (k+1) q _ (by omega) (by omega) (by simp;omega),DG hk]
   grind [mapD,List.append_assoc,List.singleton_append]
 unfold s_ShelfMap
 rw[diskOk_spec N hN d (by omega),bO,hd,IQ (by decide),dirOk_spec N hN _ (by omega),bO,hs,IQ (by decide)]
 simp only[joinP]
 have e:=key s.Dir.length 0 N [] (by omega) (by unfold Big at hN;omega) (by simp)
 grind
theorem rawsDo_append:∀{a b:List Raw}{d:Disk},rawsDo d (a++b)=(rawsDo d a).bind λo=>rawsDo o b
 |[],b,d=>rfl
 |r::a,b,d=>by
  rw[List.cons_append,rawsDo,rawsDo]
  cases rawDo d r with
  |none=>rfl
  |some o=>exact rawsDo_append (a:=a)
def manT (N:Nat)(m:Manifest):BA:=if manOk m=true then seald N (mtx m)else⟨#[]⟩
def manRaws (N:Nat)(m:Manifest):List Raw:=[⟨1,⟨#[109,43]⟩,⟨#[]⟩,manT N m⟩,⟨3,⟨#[109,43]⟩,mantx,⟨#[]⟩⟩]
theorem newman_spec (N:Nat)(hN:Big N)(m:Manifest)(h1:m.Segs.length<=1000000)(h2:m.Conf.length<=1000000):s_l09NewMan N m=some (manRaws N m,manOk m):=by
 unfold s_l09NewMan manRaws manT
 rw[mtext_spec N hN m h1 h2,bO]
 cases manOk m<;>rfl
def shelfRaw (r:Raw):Prop:=¬logN r.Name/\(r.Kind=3->¬logN r.To)/\r.Text.size<=1000000
theorem shelfRaws_log {d o:Disk}{rs:List Raw}(h:∀r∈rs,shelfRaw r)(ho:rawsDo d rs=some o){n:BA}(hn:logN n):fileAt o n=fileAt d n:=
 rawsDo_frame (λr hr=>⟨λe=>(h r hr).1 (e▸hn),λh3 e=>(h r hr).2.1 h3 (e▸hn)⟩) ho
def nodeRaw (r:Raw):Prop:=logN r.Name/\(r.Kind=3->logN r.To)
theorem nodeRaws_alike {d o:Disk}{rs:List Raw}(h:∀r∈rs,nodeRaw r)(ho:rawsDo d rs=some o):Alike d o:=λn hn=>
 rawsDo_frame (λr hr=>⟨λe=>hn (e▸(h r hr).1),λh3 e=>hn (e▸(h r hr).2 h3)⟩) ho
theorem manRaws_at {N:Nat}{m:Manifest}{d o:Disk}(h:rawsDo d (manRaws N m)=some o):fileAt o mantx=some (manT N m)/\∀n,n≠mantx->n≠⟨#[109,43]⟩->fileAt o n=fileAt d n:=by
 unfold manRaws at h
 simp only[rawsDo,Option.bind_eq_some_iff]at h
 obtain⟨d1,h1,d2,h2,h3⟩:=h
 simp only[Option.some.injEq]at h3
 subst h3
 have e1:=(rawDo_at h1).2
 have e2:=(rawDo_at h2).2
 grind [mantx,rawAt,ftext]
theorem fig_inj {a b:Nat}(ha:a<10)(hb:b<10)(h:UInt8.ofNat (48+a)=UInt8.ofNat (48+b)):a=b:=by
 have:=congrArg UInt8.toNat h
 rw[UInt8.toNat_ofNat',UInt8.toNat_ofNat']at this
 omega
theorem dd_inj:∀(n m:Nat),Lib.decDigits n=Lib.decDigits m->n=m:=by
 intro n
 induction n using Nat.strongRecOn with
 |_ n ih=>
  intro m h
  have hp:∀k,1<=(Lib.decDigits k).length:=λk=>by obtain⟨c,r,e,_⟩:=dec_head k;rw[e];simp
  rw[Lib.decDigits,Lib.decDigits.eq_1 m]at h
  by_cases h1:n<10
  ·grind [List.cons.injEq,fig_inj,List.length,LA,LC,List.length_nil]
  ·rw[dif_neg h1]at h
   by_cases h2:m<10
   ·grind [List.length,LA,LC,List.length_nil]
   ·rw[dif_neg h2]at h
    obtain⟨e1,e2⟩:=List.append_inj' h rfl
    have e3:=ih (n/10) (by omega) _ e1
    simp only[List.cons.injEq,and_true]at e2
    have e4:=fig_inj (Nat.mod_lt _ (by omega)) (Nat.mod_lt _ (by omega)) e2
    omega
theorem sname_inj {x y:Int}(hx:0<=x/\x<=999)(hy:0<=y/\y<=999)(h:sname x=sname y):x=y:=by
 unfold sname at h
 rw[IP hx,IP hy]at h
 have e:=congrArg bs h
 rw[bs_app,bs_app]at e
 have e1:=List.append_cancel_left e
 obtain⟨a,rfl⟩:∃a:Nat,x=a:=⟨x.toNat,by omega⟩
 obtain⟨b,rfl⟩:∃b:Nat,y=b:=⟨y.toNat,by omega⟩
 have e2:Lib.itoa (a:Int)=Lib.itoa (b:Int):=by
  grind
 grind [itoa_nat,dd_inj]
theorem sname_man (x:Int):sname x≠mantx/\sname x≠⟨#[109,43]⟩:=by
 by_cases h0:sname x=⟨#[]⟩
 ·rw[h0];decide
 ·obtain⟨_,u,hu⟩:=sname_head h0
  have h1:=ba_one hu
  constructor<;>(intro e;rw[e]at h1;revert h1;decide)
def dropRaws (l:List Int):List Raw:=l.map λn=>⟨4,sname n,⟨#[]⟩,⟨#[]⟩⟩
theorem l10_l1 (N:Nat)(hN:Big N)(s:Shelf)(hs:s.Man.Segs.length<=8):∀(e k m:Nat)(acc:List Raw),s.Man.Segs.length=k+e->e<m->acc.length<=100->s_l10New_l1 N s m (k:Int) acc=some (acc++dropRaws (s.Man.Segs.drop k))\/100<acc.length+e:=by
 intro e
 induction e with
 |zero=>
  intro k m acc he hm ha
  obtain⟨m,rfl⟩:∃q,m=q+1:=⟨m-1,by omega⟩
  rw[s_l10New_l1,IQ (by simp;omega),DN (by omega)]
  grind [dropRaws]
 |succ e ih=>
  intro k m acc he hm ha
  obtain⟨m,rfl⟩:∃q,m=q+1:=⟨m-1,by omega⟩
  have hk:k<s.Man.Segs.length:=by omega
  by_cases hb:acc.length+1<=100
  ·rw[s_l10New_l1,IP (by simp;omega),at_lt hk,bO,sname_spec N hN,bO,cat_le (by simp;omega),bO,WS (by omega)]
   rcases ih (k+1) m (acc++[⟨4,sname s.Man.Segs[k],⟨#[]⟩,⟨#[]⟩⟩]) (by omega) (by omega) (by simp;omega)with h|h
   ·refine .inl ?_
    rw[h,DG hk,List.append_assoc]
    rfl
   grind
  grind
theorem dropRaws_frame {l:List Int}{d o:Disk}(h:rawsDo d (dropRaws l)=some o){n:BA}(hn:∀k∈l,n≠sname k):fileAt o n=fileAt d n:=
 rawsDo_frame (λr hr=>by
  obtain⟨k,hk,rfl⟩:=List.mem_map.1 hr
  exact⟨hn k hk,λe=>absurd e (by simp)⟩) h
theorem l10New_spec (N:Nat)(hN:Big N){d:Disk}{s:Shelf}(h:Opens N d s)(text:BA)(ht:text.size<=1000000)(base term:Int)(conf:List Int)(hc:conf.length<=1000):
  ∃x rs ok,s_l10New N d s text base term conf=some (x,rs,ok)/\(ok=true->rs.length<=60/\(∀r∈rs,shelfRaw r)/\∃o,rawsDo d rs=some o/\Opens N o x/\x.Man=⟨[s.Man.Next],s.Man.Next+1,base,term,conf⟩/\ftext o (sname s.Man.Next)=text):=by
 obtain⟨h1,_⟩:=h.sizes
 obtain⟨⟨g1,g2⟩,g3,g4,_⟩:=manOk_ok h1
 unfold s_l10New
 rw[sname_spec N hN,bO,cat_le (by simp;omega),bO,w64_id (by omega) (by omega),List.nil_append,newman_spec N hN _ (by simp) (by simp only;omega),bO]
 cases hm:manOk ⟨[s.Man.Next],s.Man.Next+1,base,term,conf⟩with
 |false=>exact⟨_,_,_,rfl,λe=>absurd e (by decide)⟩
 |true=>
  simp only[BN,BF,if_false]
  by_cases h0:sname s.Man.Next=⟨#[]⟩
  ·rw[IP (by simpa using h0)];exact⟨_,_,_,rfl,λe=>absurd e (by decide)⟩
  rw[IQ (by simpa using h0),cat_le (by simp[manRaws]),bO]
  simp only[joinP]
  have hnx:=(sname_head h0).1
  rcases l10_l1 N hN s g2 s.Man.Segs.length 0 N ([⟨1,sname s.Man.Next,⟨#[]⟩,text⟩]++manRaws N ⟨[s.Man.Next],s.Man.Next+1,base,term,conf⟩) (by omega) (by unfold Big at hN;omega) (by simp[manRaws])with hl|hl
  case inr=>simp[manRaws]at hl;omega
  rw[List.drop_zero,show((0:Nat):Int)=0 from rfl]at hl
  rw[hl,bO]
  have hmt:(manT N ⟨[s.Man.Next],s.Man.Next+1,base,term,conf⟩).size<=1000000:=by
   unfold manT
   rw[IP hm]
   obtain⟨⟨q1,q2⟩,q3,q4,q5,q6,q7,q8⟩:=manOk_ok hm
   have z1:=ncat_size (xs:=[s.Man.Next]) (λx hx=>by have:=q4 x hx;omega)
   have z2:=ncat_size (xs:=conf) (λx hx=>by have:=q8 x hx;omega)
   grind [enc_len5,mtx,BZ,encT_size,LC,List.length_nil,four_size,seald]
  have hraw:∀r∈([⟨1,sname s.Man.Next,⟨#[]⟩,text⟩]++manRaws N ⟨[s.Man.Next],s.Man.Next+1,base,term,conf⟩)++dropRaws s.Man.Segs,shelfRaw r:=by
   intro r hr
   simp only[manRaws,dropRaws,List.mem_append,List.mem_cons,List.not_mem_nil,or_false,List.mem_map]at hr
   rcases hr with (rfl|rfl|rfl)|⟨k,_,rfl⟩
   ·exact⟨sname_logN _,λe=>absurd e (by simp),ht⟩
   ·exact⟨mplus_logN,λe=>absurd e (by simp),hmt⟩
   ·exact⟨mplus_logN,λ_=>mantx_logN,by show(0:Nat)<=_;omega⟩
   ·exact⟨sname_logN _,λe=>absurd e (by simp),by show(0:Nat)<=_;omega⟩
  obtain⟨x,b,e1,e2⟩:=after_spec N hN h.1 (([⟨1,sname s.Man.Next,⟨#[]⟩,text⟩]++manRaws N ⟨[s.Man.Next],s.Man.Next+1,base,term,conf⟩)++dropRaws s.Man.Segs) (λr hr=>(hraw r hr).2.2) (by simp[manRaws,dropRaws];omega)
  rw[e1,bO]
  cases b with
  |false=>exact⟨_,_,_,rfl,λe=>absurd e (by decide)⟩
  |true=>
   obtain⟨e3,o,e4,e5⟩:=e2 rfl
   refine⟨_,_,_,rfl,λ_=>⟨e3,hraw,o,e4,e5,?_⟩⟩
   rw[rawsDo_append,rawsDo_append]at e4
   simp only[Option.bind_eq_some_iff,rawsDo,Option.some.injEq]at e4
   obtain⟨d2,⟨d1,⟨d0,f1,rfl⟩,f2⟩,f3⟩:=e4
   have hman:=manRaws_at f2
   have hmx:=(dropRaws_frame f3 λk _=>(sname_man k).1.symm).trans hman.1
   constructor
   ·obtain⟨_,_,h3,_⟩:=shelf_good (N:=N) (d:=o) (by rw[e5.2.1])
    rw[e5.2.1]at h3
    rw[h3]
    unfold ftext
    rw[hmx,Option.getD_some]
    unfold manT
    rw[IP hm,man_back hN hm]
   ·have hlt:∀k∈s.Man.Segs,sname s.Man.Next≠sname k:=by
     intro k hk e
     have h5:=sname_inj hnx (g4 k hk) e
     have h6:rise 0 (s.Man.Next-1) none s.Man.Segs=true:=by
      have:=h1
      simp only[manOk,Bool.and_eq_true,DT]at this
      grind
     have:=rise_all h6 k hk
     omega
    unfold ftext
    rw[dropRaws_frame f3 hlt,hman.2 _ (sname_man _).1 (sname_man _).2,(rawDo_at f1).2]
    simp[rawAt]
theorem opens_one {N:Nat}{d:Disk}{s:Shelf}{n:Int}(h:Opens N d s)(hs:s.Man.Segs=[n]):s.Stamp=imax s.Man.Base (scM (scan N (ftext d (sname n))).1 (-1)):=by
 obtain⟨_,_,h3,_,_,_,s0,sp,h7,_,h9⟩:=shelf_good (N:=N) (d:=d) (by rw[h.2.1])
 rw[h.2.1]at h3 h9
 simp only at h3
 rw[<-h3,hs]at h7
 simp only[loadL,ne_eq,not_true_eq_false,and_false,if_false,Option.some.injEq,Prod.mk.injEq]at h7
 simp only[Prod.mk.injEq,and_true]at h9
 have e1:s.Stamp=s0:=by rw[h9]
 rw[e1,<-h7.1]
 rfl
theorem single_spec (N:Nat)(hN:Big N)(t:BA):∃b ok,s_l10Single N t=some (b,ok)/\(ok=true->∃p:Tplaced,p.b=b/\(scan N t).1=[p]):=by
 unfold s_l10Single
 obtain⟨h1,h2⟩:=recs_ok N t
 by_cases ht:t.size<=20000
 case neg=>
  unfold s_Unframe
  rw[IP (by simp;omega),bO,IP (by simp)]
  grind
 rw[unf_spec N hN t ht,bO]
 by_cases c1:(recs N t).1.length=1
 case neg=>rw[IP (by simp;omega)];exact⟨_,_,rfl,λe=>by simp at e⟩
 rw[IQ (by simp;omega)]
 by_cases c2:(recs N t).2=t.size
 case neg=>rw[IP (by simp;omega)];exact⟨_,_,rfl,λe=>by simp at e⟩
 rw[IQ (by simp;omega)]
 obtain⟨r,hr⟩:∃r,(recs N t).1=[r]:=List.length_eq_one_iff.1 c1
 have hrr:=h2 r (by rw[hr];simp)
 simp only
 rw[hr,show(0:Int)=((0:Nat):Int)from rfl,at_lt (by simp),bO]
 simp only[List.getElem_cons_zero]
 rw[rbat_spec N hN r (by have:=hrr.2;omega),bO]
 refine⟨_,_,rfl,λe=> ?_⟩
 unfold scan
 rw[hr,bats,IP e]
 exact⟨⟨(rbat r).1,r,((0+(frm N r).size-r.size:Nat):Int)⟩,rfl,by simp[bats]⟩
theorem install_spec (N:Nat)(hN:Big N){d:Disk}{s:Shelf}(h:Opens N d s)(text:BA)(ht:text.size<=1000000)(base term:Int)(conf:List Int)(hc:conf.length<=1000):
  ∃x rs ok,s_InstallShelf N d s text base term conf=some (x,rs,ok)/\(ok=true->rs.length<=60/\(∀r∈rs,shelfRaw r)/\∃o,rawsDo d rs=some o/\Opens N o x/\x.Man=⟨[s.Man.Next],s.Man.Next+1,base,term,conf⟩/\x.Stamp=imax base (imax (-1) base)/\s.Stamp<=base):=by
 unfold s_InstallShelf
 obtain⟨b,ok,e1,e2⟩:=single_spec N hN text
 rw[e1,bO]
 cases ok with
 |false=>exact⟨_,_,_,rfl,λe=>by simp at e⟩
 |true=>
  obtain⟨p,p1,p2⟩:=e2 rfl
  rw[IQ (by simp)]
  by_cases c1:b.Stamp=base
  case neg=>rw[IP (by simpa using c1)];exact⟨_,_,_,rfl,λe=>by simp at e⟩
  rw[IQ (by simpa using c1)]
  by_cases c2:base<s.Stamp
  case pos=>rw[IP (by simpa using c2)];exact⟨_,_,_,rfl,λe=>by simp at e⟩
  rw[IQ (by simpa using c2),h.clean N hN,bO,IQ (by simp)]
  obtain⟨x,rs,ok,f1,f2⟩:=l10New_spec N hN h text (by omega) base term conf hc
  rw[f1,bO]
  refine⟨_,_,_,rfl,λe=> ?_⟩
  obtain⟨g1,g2,o,g3,g4,g5,g6⟩:=f2 e
  refine⟨g1,g2,o,g3,g4,g5,?_,by omega⟩
  rw[opens_one g4 (n:=s.Man.Next) (by rw[g5]),g6,p2,g5,scM,scM,p1,c1]
theorem chs_le:∀{l:List Change},(∀c∈l,1<=c.Key.size/\c.Key.size<=10/\c.Value.size<=40)->(chs l).size<=61*l.length
 |[],_=>Nat.le_refl _
 |c::cs,h=>by
  have h1:=chs_le (l:=cs) λx hx=>h x (List.mem_cons_of_mem _ hx)
  grind [chx_size,chs,BZ,LC]
theorem btx_le {b:Batch}(h:batOk b=true):(btx b).size<=3670:=by
 obtain⟨b1,b2,b3,b4⟩:=batOk_ok h
 grind [chs_le,enc_len5,btx,BZ,encT_size]
theorem mapbatch_l1 (N:Nat)(m:List Pair)(hm:m.length<=10000):∀(e k f:Nat)(acc:List Change),m.length=k+e->e<f->acc.length=k->∃r,s_MapBatch_l1 N m f (k:Int) acc=some r/\r.length=m.length:=by
 intro e
 induction e with
 |zero=>
  intro k f acc he hf ha
  obtain⟨f,rfl⟩:∃q,f=q+1:=⟨f-1,by omega⟩
  rw[s_MapBatch_l1,IQ (by simp;omega)]
  grind
 |succ e ih=>
  intro k f acc he hf ha
  obtain⟨f,rfl⟩:∃q,f=q+1:=⟨f-1,by omega⟩
  have hk:k<m.length:=by omega
  rw[s_MapBatch_l1,IP (by simp;omega),at_lt hk,bO,bO,cat_le (by simp;omega),bO,WS (by omega)]
  exact ih (k+1) f _ (by omega) (by omega) (by simp;omega)
theorem mapbatch_spec (N:Nat)(hN:Big N)(m:List Pair)(hm:m.length<=10000)(st:Int):∃b ok,s_MapBatch N m st=some (b,ok)/\(b.Stamp=0\/b.Stamp=st)/\b.Changes.length<=10000:=by
 unfold s_MapBatch
 obtain⟨b,e,_⟩:=mapok_t N hN (m:=m) (by omega)
 rw[e,bO]
 split
 ·grind
 ·rw[in_eq,bO]
  split
  ·grind
  ·obtain⟨r,h1,h2⟩:=mapbatch_l1 N m hm m.length 0 N [] (by omega) (by unfold Big at hN;omega) rfl
   rw[show((0:Nat):Int)=0 from rfl]at h1
   rw[h1]
   exact⟨_,_,rfl,.inr rfl,by simp only;omega⟩
theorem scan_empty (N:Nat)(hN:Big N):scan N ⟨#[]⟩=([],0):=by
 have:=recs_of N hN (t:=⟨#[]⟩) (by decide) (rs:=[]) (by simp) rfl
 unfold scan
 rw[this]
 rfl
theorem scan_one (N:Nat)(hN:Big N){b:Batch}(h:batOk b=true)(hr:rok (btx b)):(scM (scan N (frm N (btx b))).1 (-1))=imax (-1) b.Stamp:=by
 have hz:=(frm_le N hN hr).2
 have e:(⟨#[]⟩:BA)++frm N (btx b)=frm N (btx b):=ByteArray.empty_append
 obtain⟨p,h1,h2⟩:=scan_add N hN (F:=⟨#[]⟩) (r:=btx b) (by decide) (by rw[scan_empty N hN];decide) hr (by rw[rbat_back h]) (by rw[e];omega)
 grind [scan_empty,scM,rbat_back]
theorem merge_spec (N:Nat)(hN:Big N){d:Disk}{s:Shelf}(h:Opens N d s)(base term:Int)(hb:0<=base)(conf:List Int)(hc:conf.length<=1000):
  ∃x rs ok,s_MergeShelf N d s base term conf=some (x,rs,ok)/\(ok=true->rs.length<=60/\(∀r∈rs,shelfRaw r)/\∃o,rawsDo d rs=some o/\Opens N o x/\x.Man=⟨[s.Man.Next],s.Man.Next+1,base,term,conf⟩/\x.Stamp=base/\base=s.Stamp):=by
 unfold s_MergeShelf
 rw[h.clean N hN,bO,IQ (by simp)]
 by_cases c1:base=s.Stamp
 case neg=>rw[IP (by simpa using c1)];exact⟨_,_,_,rfl,λe=>by simp at e⟩
 rw[IQ (by simpa using c1),h.map N hN,bO]
 obtain⟨_,h2⟩:=h.sizes
 have h3:=(okSpot_all h2).1
 obtain⟨b,k,e1,e2,e3⟩:=mapbatch_spec N hN (mapD d s.Dir) (by unfold mapD;rw[List.length_map];omega) s.Stamp
 simp only
 rw[e1,bO,btext_spec N hN b (by omega),bO]
 have key:∃t:BA,∃q,s_Frame N (if batOk b then(btx b,true)else(⟨#[]⟩,false)).1=some (t,q)/\t.size<=20000/\imax base (scM (scan N t).1 (-1))=base:=by
  have hem:imax base (scM (scan N ⟨#[]⟩).1 (-1))=base:=by
   grind [scan_empty,scM]
  cases hk:batOk b with
  |false=>exact⟨⟨#[]⟩,false,by rw[IQ (by simp),frame_spec N hN _ (by decide),IQ (by decide)],by decide,hem⟩
  |true=>
   rw[IP rfl]
   have hz:=btx_le hk
   simp only
   rw[frame_spec N hN _ (by omega)]
   split
   ·rename_i hz
    have hr:rok (btx b):=hz
    grind [frm,btx,frm_le,scan_one]
   ·exact⟨_,_,rfl,by decide,hem⟩
 obtain⟨t,q,k1,k2,k3⟩:=key
 rw[k1,bO]
 obtain⟨x,rs,ok,f1,f2⟩:=l10New_spec N hN h t (by omega) base term conf hc
 simp only
 rw[f1,bO]
 refine⟨_,_,_,rfl,λe=> ?_⟩
 obtain⟨g1,g2,o,g3,g4,g5,g6⟩:=f2 e
 refine⟨g1,g2,o,g3,g4,g5,?_,c1⟩
 rw[opens_one g4 (n:=s.Man.Next) (by rw[g5]),g6,g5]
 exact k3
def stampL (N:Nat)(d:Disk):List Int->Int->Int
 |[],s=>s
 |n::ns,s=>stampL N d ns (imax s (scM (scan N (ftext d (sname n))).1 (-1)))
theorem loadL_stamp (N:Nat)(d:Disk):∀(l:List Int)(s:Int)(sp:List Spot){v:Int×List Spot},loadL N d l s sp=some v->v.1=stampL N d l s
 |[],s,sp,v,h=>by simp only[loadL,Option.some.injEq]at h;subst h;rfl
 |n::ns,s,sp,v,h=>by
  rw[loadL]at h
  split at h
  ·cases h
  ·exact loadL_stamp N d ns _ _ h
theorem Opens.stamp {N:Nat}{d:Disk}{s:Shelf}(h:Opens N d s):s.Stamp=stampL N d s.Man.Segs s.Man.Base:=by
 obtain⟨_,_,h3,_,_,_,s0,sp,h7,_,h9⟩:=shelf_good (N:=N) (d:=d) (by rw[h.2.1])
 rw[h.2.1]at h3 h9
 simp only at h3
 rw[<-h3]at h7
 simp only[Prod.mk.injEq,and_true]at h9
 have e1:s.Stamp=s0:=by rw[h9]
 rw[e1]
 exact loadL_stamp N d _ _ _ h7
theorem stampL_app (N:Nat)(d:Disk):∀(l:List Int)(n s:Int),stampL N d (l++[n]) s=imax (stampL N d l s) (scM (scan N (ftext d (sname n))).1 (-1))
 |[],n,s=>rfl
 |m::ms,n,s=>stampL_app N d ms n _
theorem stampL_same (N:Nat){d e:Disk}:∀{l:List Int}{s:Int},(∀n∈l,ftext e (sname n)=ftext d (sname n))->stampL N e l s=stampL N d l s
 |[],_,_=>rfl
 |n::ns,s,h=>by
  rw[stampL,stampL,h n (by simp)]
  exact stampL_same N λk hk=>h k (List.mem_cons_of_mem _ hk)
theorem rise_lt {lo hi:Int}:∀{xs:List Int}{p:Int},rise lo hi (some p) xs=true->∀x∈xs,p<x
 |[],_,_=>by simp
 |x::xs,p,h=>by
  rw[rise_cons]at h
  simp only[Bool.and_eq_true,DT]at h
  intro y hy
  rcases List.mem_cons.1 hy with rfl|hy
  ·exact h.2.1
  ·have:=rise_lt h.2.2 y hy
   omega
theorem rise_init {lo hi:Int}:∀{xs:List Int}{p:Option Int}{y:Int},rise lo hi p (xs++[y])=true->∀x∈xs,x≠y
 |[],_,_,_=>by simp
 |x::xs,p,y,h=>by
  rw[List.cons_append,rise_cons]at h
  simp only[Bool.and_eq_true,DT]at h
  intro z hz
  rcases List.mem_cons.1 hz with rfl|hz
  ·have:=rise_lt h.2.2 y (by simp)
   omega
  ·exact rise_init h.2.2 z hz
theorem rise_more {n:Int}(hn:0<=n):∀{xs:List Int}{p:Option Int},rise 0 (n-1) p xs=true->(∀q,p=some q->q<n)->rise 0 n p (xs++[n])=true
 |[],p,_,hp=>by
  grind [rise_cons,rise]
 |x::xs,p,h,hp=>by
  rw[rise_cons]at h
  simp only[Bool.and_eq_true,DT]at h
  rw[List.cons_append,rise_cons,h.2.1,rise_more hn h.2.2 (λq hq=>by cases hq;omega)]
  simp
  omega
theorem manT_size (N:Nat)(hN:Big N)(m:Manifest):(manT N m).size<=1000000:=by
 unfold manT
 split
 case isFalse=>exact Nat.zero_le _
 rename_i hm
 obtain⟨⟨q1,q2⟩,q3,q4,q5,q6,q7,q8⟩:=manOk_ok hm
 have z1:=ncat_size (xs:=m.Segs) (λx hx=>by have:=q4 x hx;omega)
 have z2:=ncat_size (xs:=m.Conf) (λx hx=>by have:=q8 x hx;omega)
 grind [enc_len5,mtx,BZ,encT_size,four_size,seald]
theorem add_spec (N:Nat)(hN:Big N){d:Disk}{s:Shelf}(h:Opens N d s)(b:Batch)(hl:b.Changes.length<=1000000):
  ∃x rs ok,s_AddBatch N d s b=some (x,rs,ok)/\(ok=true->rs.length<=60/\(∀r∈rs,shelfRaw r)/\∃o,rawsDo d rs=some o/\Opens N o x/\x.Man.Base=s.Man.Base/\x.Man.BaseTerm=s.Man.BaseTerm/\x.Man.Conf=s.Man.Conf/\x.Stamp=imax s.Stamp (imax (-1) b.Stamp)/\s.Stamp<=b.Stamp):=by
 unfold s_AddBatch
 rw[btext_spec N hN b (by omega),bO]
 cases hk:batOk b with
 |false=>exact⟨_,_,_,rfl,λe=>by simp at e⟩
 |true=>
 simp only[if_true,BN,BF,if_false]
 rw[h.clean N hN,bO,IQ (by simp)]
 by_cases c2:b.Stamp<s.Stamp
 case pos=>rw[IP (by simpa using c2)];exact⟨_,_,_,rfl,λe=>by simp at e⟩
 rw[IQ (by simpa using c2)]
 have hz:=btx_le hk
 have hr:rok (btx b):=⟨by unfold btx;rw[BZ,BZ,encT_size];have:=enc_pos b.Stamp.toNat;omega,by omega⟩
 obtain⟨_,hf2⟩:=frm_le N hN hr
 obtain⟨hm,hdi⟩:=h.sizes
 obtain⟨⟨g1,g2⟩,g3,g4,g5,g6,g7,g8⟩:=manOk_ok hm
 have hd:=disk_len h.1
 rw[frame_spec N hN _ (by omega),IP hr,bO]
 have hcp:s_l09CopyMan N s.Man=some s.Man:=by
  unfold s_l09CopyMan
  rw[cat_le (by simp;omega),bO,cat_le (by simp;omega),bO]
  rfl
 obtain⟨init,last,hil⟩:∃init last,s.Man.Segs=init++[last]:=by
  rcases List.eq_nil_or_concat s.Man.Segs with h0|⟨i,l,h0⟩
  ·rw[h0]at g1;simp at g1
  grind
 have hll:s.Man.Segs.length=init.length+1:=by rw[hil];simp
 have hat:at? s.Man.Segs (w64 ((s.Man.Segs.length:Int)-1))=some last:=by
  rw[w64_id (by omega) (by omega),show(s.Man.Segs.length:Int)-1=((init.length:Nat):Int) by omega,at_lt (by omega)]
  simp[hil]
 have hdis:∀n∈init,sname n≠sname last:=by
  intro n hn e
  have h6:rise 0 (s.Man.Next-1) none s.Man.Segs=true:=by
   have:=hm
   simp only[manOk,Bool.and_eq_true,DT]at this
   exact this.2.2.1
  rw[hil]at h6
  exact rise_init h6 n hn (sname_inj (g4 n (by rw[hil];simp[hn])) (g4 last (by rw[hil];simp)) e)
 have hst:s.Stamp=imax (stampL N d init s.Man.Base) (scM (scan N (ftext d (sname last))).1 (-1)):=by
  rw[h.stamp,hil,stampL_app]
 have fin:∀v:List Raw,v.length<=1000->(∀r∈v,shelfRaw r)->(∀o x,rawsDo d v=some o->Opens N o x->x.Man.Base=s.Man.Base/\x.Man.BaseTerm=s.Man.BaseTerm/\x.Man.Conf=s.Man.Conf/\x.Stamp=imax s.Stamp (imax (-1) b.Stamp))->
   ∃x rs ok,((s_l09After N d v).bind λy263=>if(!y263.2)=true then some ((Shelf.mk (Manifest.mk ([]) 0 0 0 ([])) ([]) 0),([]:List Raw),false)else some (y263.1,v,true))=some (x,rs,ok)/\(ok=true->rs.length<=60/\(∀r∈rs,shelfRaw r)/\∃o,rawsDo d rs=some o/\Opens N o x/\x.Man.Base=s.Man.Base/\x.Man.BaseTerm=s.Man.BaseTerm/\x.Man.Conf=s.Man.Conf/\x.Stamp=imax s.Stamp (imax (-1) b.Stamp)/\s.Stamp<=b.Stamp):=by
  intro v hv hr2 hP
  obtain⟨x,k,e1,e2⟩:=after_spec N hN h.1 v (λr hr=>(hr2 r hr).2.2) hv
  rw[e1,bO]
  cases k with
  |false=>exact⟨_,_,_,rfl,λe=>by simp at e⟩
  |true=>
   obtain⟨e3,o,e4,e5⟩:=e2 rfl
   obtain⟨p1,p2,p3,p4⟩:=hP o x e4 e5
   exact⟨_,_,_,rfl,λ_=>⟨e3,hr2,o,e4,e5,p1,p2,p3,p4,by omega⟩⟩
 have mano:∀o x,Opens N o x->x.Man=(manR N (ftext o mantx)).1:=by
  intro o x hx
  obtain⟨_,_,h3,_⟩:=shelf_good (N:=N) (d:=o) (by rw[hx.2.1])
  rw[hx.2.1]at h3
  exact h3
 have wayA:_:=fin [⟨2,sname last,⟨#[]⟩,frm N (btx b)⟩] (by simp) (by
   intro r hr
   rcases List.mem_singleton.1 hr with rfl
   exact⟨sname_logN _,λe=>absurd e (by simp),by show(frm N (btx b)).size<=_;omega⟩) (by
   intro o x ho hx
   simp only[rawsDo,Option.bind_eq_some_iff,Option.some.injEq]at ho
   obtain⟨o',ho,rfl⟩:=ho
   have hat2:=(rawDo_at ho).2
   have hne:mantx≠sname last:=(sname_man last).1.symm
   have hmn:x.Man=s.Man:=by
    grind [ftext,rawAt]
   refine⟨by rw[hmn],by rw[hmn],by rw[hmn],?_⟩
   have hF:=hx.2.2.2.2 last (by rw[hmn,hil];simp)
   have hnew:ftext o' (sname last)=ftext d (sname last)++frm N (btx b):=by
    grind [ftext,sname,fileAt,rawAt]
   have hold:∀n∈init,ftext o' (sname n)=ftext d (sname n):=by
    intro n hn
    rw[show ftext o' (sname n)=(fileAt o' (sname n)).getD ⟨#[]⟩from rfl,hat2]
    simp[rawAt,hdis n hn]
    rfl
   obtain⟨p,p1,p2⟩:=scan_add N hN (F:=ftext d (sname last)) (r:=btx b) (ftext_size h.1 _) (h.2.2.2.2 last (by rw[hil];simp)) hr (by rw[rbat_back hk]) (by rw[<-hnew];exact ftext_size hx.1 _)
   rw[hx.stamp,hmn,hil,stampL_app,stampL_same N hold,hnew,p2,scM_app,scM,scM,p1,rbat_back hk,hst]
   have hb0:=(batOk_ok hk).1
   simp only
   unfold imax
   repeat' split
   all_goals first|rfl|omega)
 rw[hcp,bO,hat,bO,sname_spec N hN,bO]
 simp only[joinP]
 rw[l03Text_ok N hN d (by omega),bO]
 split
 case isFalse=>exact wayA
 split
 case isFalse=>exact wayA
 split
 case isFalse=>exact wayA
 rename_i q1 q2 q3
 simp only[DT]at q2 q3
 rw[sname_spec N hN,bO,cat_le (by simp;omega),bO,w64_id (by omega) (by omega),newman_spec N hN _ (by simp;omega) (by simp only;omega),bO,cat_le (by simp[manRaws]),bO]
 have hrise:rise 0 (s.Man.Next-1) none s.Man.Segs=true:=by
  have:=hm
  simp only[manOk,Bool.and_eq_true,DT]at this
  exact this.2.2.1
 have hmo:manOk { s.Man with Segs:=s.Man.Segs++[s.Man.Next],Next:=s.Man.Next+1 }=true:=by
  have h2:=hm
  simp only[manOk,Bool.and_eq_true,DT]at h2⊢
  grind [rise_more]
 refine fin _ (by simp[manRaws]) (by
  intro r hr
  simp only[manRaws,List.mem_append,List.mem_cons,List.not_mem_nil,or_false]at hr
  rcases hr with rfl|rfl|rfl
  ·exact⟨sname_logN _,λe=>absurd e (by simp),by show(frm N (btx b)).size<=_;omega⟩
  ·exact⟨mplus_logN,λe=>absurd e (by simp),manT_size N hN _⟩
  ·exact⟨mplus_logN,λ_=>mantx_logN,by show(0:Nat)<=_;omega⟩) (by
  intro o x ho hx
  rw[rawsDo_append]at ho
  simp only[Option.bind_eq_some_iff,rawsDo,Option.some.injEq]at ho
  obtain⟨d1,⟨d0,f1,rfl⟩,f2⟩:=ho
  have hman:=manRaws_at f2
  have hmn:x.Man={ s.Man with Segs:=s.Man.Segs++[s.Man.Next],Next:=s.Man.Next+1 }:=by
   grind [ftext,manT,man_back]
  refine⟨by rw[hmn],by rw[hmn],by rw[hmn],?_⟩
  have hnew:ftext o (sname s.Man.Next)=frm N (btx b):=by
   unfold ftext
   rw[hman.2 _ (sname_man _).1 (sname_man _).2,(rawDo_at f1).2]
   simp[rawAt]
  have hold:∀n∈s.Man.Segs,ftext o (sname n)=ftext d (sname n):=by
   intro n hn
   have hne:sname n≠sname s.Man.Next:=by
    intro e
    have h5:=sname_inj (g4 n hn) (by omega) e
    have:=rise_all hrise n hn
    omega
   unfold ftext
   rw[hman.2 _ (sname_man _).1 (sname_man _).2,(rawDo_at f1).2]
   simp[rawAt,hne]
  rw[hx.stamp,hmn,stampL_app,stampL_same N hold,hnew,scan_one N hN hk hr,h.stamp])
theorem tf {p:Prop}(e:true=false):p:=Bool.noConfusion e
def Wrote (r q:Tl17Run)(rs:List Raw):Prop:=∃o,rawsDo r.s.Disk rs=some o/\diskOk o=true/\q=⟨⟨r.s.Node,o,r.s.Shelf,r.s.Stage,r.s.StageAt,r.s.StageTerm⟩,r.raws++rs,r.told,r.done,false⟩
theorem write_t (N:Nat)(hN:Big N){r:Tl17Run}(hd:diskOk r.s.Disk=true)(hr:r.raws.length<=1000){rs:List Raw}(hs:∀x∈rs,x.Text.size<=1000000)(hl:rs.length<=1000)(b:Bool):
  Po (s_l17Write_i1 N r rs b) λq=>(q=⟨r.s,r.raws,r.told,r.done,true⟩/\¬(r.bad=false/\b=true/\rs.length<=60/\rawsDo r.s.Disk rs≠none))\/(r.bad=false/\b=true/\rs.length<=60/\Wrote r q rs):=by
 unfold s_l17Write_i1
 refine Po.i (λh=>Po.r (.inl ⟨rfl,λe=>by rw[h]at e;exact absurd e.1 (by decide)⟩)) λhb=>Po.i (λh=>Po.r (.inl ⟨rfl,λe=>by rw[h]at e;exact absurd e.2.1 (by decide)⟩)) λhb2=> ?_
 obtain⟨o,k,p1,p2,p3⟩:=putRaws_spec N hN hd rs hs hl
 refine Po.e p1 (Po.i (λh=>Po.r (.inl ⟨rfl,λe=>h (p2.2 e.2.2)⟩)) λh=>Po.c (by omega) ?_)
 have q:=p2.1 (Classical.not_not.1 h)
 have q3:=p3 q.1 q.2
 rw[Bool.not_eq_true]at hb
 rw[Bool.not_eq_false]at hb2
 exact Po.r (.inr ⟨hb,hb2,q.1,o,q3,rawsDo_ok hd q3,by rw[hb]⟩)
def Kept (r q:Tl17Run):Prop:=∃d rs b,q=⟨⟨r.s.Node,d,r.s.Shelf,r.s.Stage,r.s.StageAt,r.s.StageTerm⟩,rs,r.told,r.done,b⟩/\diskOk d=true/\Alike r.s.Disk d/\rs.length<=r.raws.length+60
theorem Kept.same {r:Tl17Run}(hd:diskOk r.s.Disk=true)(b:Bool):Kept r ⟨r.s,r.raws,r.told,r.done,b⟩:=⟨r.s.Disk,r.raws,b,rfl,hd,λ_ _=>rfl,by omega⟩
theorem rawDo_some {d o:Disk}{r:Raw}{rs:List Raw}(h:rawsDo d (r::rs)=some o):∃x,rawDo d r=some x/\rawsDo x rs=some o:=by
 grind [rawsDo,Option.bind_eq_some_iff]
theorem rawDo_nil {d o:Disk}(h:rawsDo d []=some o):o=d:=(Option.some.inj h).symm
theorem add_at {d o:Disk}{n t:BA}(h:rawsDo d [⟨2,n,⟨#[]⟩,t⟩]=some o):∀m,fileAt o m=if m=n then some (ftext d n++t)else fileAt d m:=by
 obtain⟨x,h1,h2⟩:=rawDo_some h
 rw[rawDo_nil h2]
 exact(rawDo_at h1).2
theorem move_at {d o:Disk}{n p t:BA}(hne:n≠p)(h:rawsDo d [⟨1,p,⟨#[]⟩,t⟩,⟨3,p,n,⟨#[]⟩⟩]=some o):∀m,fileAt o m=if m=n then some t else if m=p then none else fileAt d m:=by
 obtain⟨x,h1,h2⟩:=rawDo_some h
 obtain⟨y,h3,h4⟩:=rawDo_some h2
 rw[rawDo_nil h4]
 intro m
 have e1:=(rawDo_at h1).2
 rw[(rawDo_at h3).2 m]
 grind [ftext,rawAt]
theorem log_t (N:Nat)(hN:Big N){r:Tl17Run}(hd:diskOk r.s.Disk=true)(hr:r.raws.length<=900){old now:Log}(hs:smallL now)(h:r.bad=false->logOk old=true/\(∃F,fileAt r.s.Disk nLog=some F/\LogF N F old)/\fileAt r.s.Disk nLogP=none):
  Po (s_l17Log N r old now) λq=>Kept r q/\(q.bad=false->r.bad=false/\logOk now=true/\(∃F,fileAt q.s.Disk nLog=some F/\LogF N F now)/\fileAt q.s.Disk nLogP=none/\fileAt q.s.Disk nVote=fileAt r.s.Disk nVote/\fileAt q.s.Disk nVoteP=fileAt r.s.Disk nVoteP):=by
 unfold s_l17Log
 refine Po.i (λc=>Po.r ⟨Kept.same hd r.bad,λe=>by rw[c]at e;exact tf e⟩) λc=>Po.e (l03Text_ok N hN _ (by have:=disk_len hd;omega) _) ?_
 rw[Bool.not_eq_true]at c
 obtain⟨ho,⟨F,f1,f2⟩,h3⟩:=h c
 rw[show(⟨#[108,111,103]⟩:BA)=nLog from rfl,f1]
 obtain⟨rs,b,e1,e2,e3⟩:=logsteps_any N hN f2 ho (log_small ho) hs
 have hsz:b=true->rs.length<=2/\(∀x∈rs,x.Text.size<=1000000)/\∀x∈rs,nodeRaw x:=by
  intro hb
  have k:nodeRaw ⟨2,nLog,⟨#[]⟩,⟨#[]⟩⟩:=⟨.inl rfl,λe=>absurd e (show(2:Int)≠3 by decide)⟩
  rcases(e2 hb).2 with ⟨rfl,_⟩|⟨m,rfl,h1,_⟩|⟨w,rfl,h1,_⟩
  ·simp
  ·refine⟨by simp,λx hx=> ?_,λx hx=> ?_⟩<;>rw[List.mem_singleton]at hx<;>subst hx
   ·show m.size<=_;omega
   ·exact⟨.inl rfl,λe=>absurd e (show(2:Int)≠3 by decide)⟩
  ·refine⟨by simp,λx hx=> ?_,λx hx=> ?_⟩<;>simp only[List.mem_cons,List.not_mem_nil,or_false]at hx<;>rcases hx with rfl|rfl
   ·show w.size<=_;omega
   ·exact Nat.zero_le _
   ·exact⟨.inr (.inl rfl),λe=>absurd e (show(1:Int)≠3 by decide)⟩
   ·exact⟨.inr (.inl rfl),λ_=>.inl rfl⟩
 refine Po.e e1 ?_
 cases b with
 |false=>
  unfold s_l17Write_i1
  refine Po.b (P:=λq=>q=⟨r.s,r.raws,r.told,r.done,true⟩) (Po.i (λ_=>Po.r rfl) λ_=>Po.r rfl) ?_
  rintro _ rfl
  exact Po.r ⟨Kept.same hd true,λe=>tf e⟩
 |true=>
  obtain⟨z1,z2,z3⟩:=hsz rfl
  obtain⟨hk,hst⟩:=e2 rfl
  refine Po.b (write_t N hN hd (by omega) z2 (by omega) true) ?_
  rintro q (⟨rfl,_⟩|⟨_,_,_,o,w1,w2,rfl⟩)
  ·exact Po.r ⟨Kept.same hd true,λe=>tf e⟩
  ·refine Po.r ⟨⟨o,_,false,rfl,w2,nodeRaws_alike z3 w1,by simp;omega⟩,λ_=>⟨c,hk,?_⟩⟩
   show(∃F,fileAt o nLog=some F/\LogF N F now)/\fileAt o nLogP=none/\fileAt o nVote=_/\fileAt o nVoteP=_
   rcases hst with ⟨rfl,rfl⟩|⟨m,rfl,h1,h2⟩|⟨w,rfl,h1,h2⟩
   ·grind [rawDo_nil]
   ·have a:=add_at w1
    have hF:ftext r.s.Disk nLog=F:=by unfold ftext;rw[f1];rfl
    grind
   ·have a:=move_at (by decide) w1
    grind
theorem frm_sz (N:Nat)(hN:Big N){p:Nat×Nat}(h:okV p):(frm N (vtx p)).size<=100:=by
 grind [vtx_size,frm_size,vtx,enc_len5]
theorem vote_t (N:Nat)(hN:Big N){r:Tl17Run}(hd:diskOk r.s.Disk=true)(hr:r.raws.length<=900){old:Node}(h:r.bad=false->VoteF N (ftext r.s.Disk nVote) old.Term old.Vote/\fileAt r.s.Disk nVoteP=none):
  Po (s_l17Vote N r old) λq=>Kept r q/\(q.bad=false->r.bad=false/\VoteF N (ftext q.s.Disk nVote) r.s.Node.Term r.s.Node.Vote/\fileAt q.s.Disk nVoteP=none/\fileAt q.s.Disk nLog=fileAt r.s.Disk nLog/\fileAt q.s.Disk nLogP=fileAt r.s.Disk nLogP/\(old.Term=r.s.Node.Term/\old.Vote=r.s.Node.Vote\/r.s.Node.Vote<=4/\0<=r.s.Node.Vote)):=by
 unfold s_l17Vote
 refine Po.j (λ_=>r.bad=false) (λ_ hb=> ?_) λg hg=>Po.i (λc=>Po.r ⟨Kept.same hd r.bad,λe=>by rw[c]at e;exact tf e⟩) λc=>Po.i (λe1=>Po.i (λe2=>Po.r ⟨Kept.same hd r.bad,λe=>⟨e,by rw[<-e1,<-e2];exact(h e).1,(h e).2,rfl,rfl,.inl ⟨e1,e2⟩⟩⟩) λ_=>hg () (by simpa using c)) λ_=>hg () (by simpa using c)
 obtain⟨h1,h2⟩:=h hb
 refine Po.e (vote_spec N hN) (Po.j (λrs=>∃p,rs=[⟨1,nVoteP,⟨#[]⟩,p⟩,⟨3,nVoteP,nVote,⟨#[]⟩⟩]/\p=_\/rs=[⟨2,nVote,⟨#[]⟩,p⟩]/\p=_/\(ftext r.s.Disk nVote).size<200) ?_ λg hg=>Po.e (l03Text_ok N hN _ (by have:=disk_len hd;omega) _) (Po.i (λ_=>hg _ ⟨_,.inl ⟨rfl,rfl⟩⟩) λc=>hg _ ⟨_,.inr ⟨rfl,rfl,by have c':¬((ftext r.s.Disk nVote).size:Int)>=200:=c;omega⟩⟩))
 intro rs hrs
 by_cases hv:(0<=r.s.Node.Term/\r.s.Node.Term<=100000)/\(0<=r.s.Node.Vote/\r.s.Node.Vote<=4)
 case neg=>
  rw[IQ hv]
  unfold s_l17Write_i1
  refine Po.b (P:=λq=>q=⟨r.s,r.raws,r.told,r.done,true⟩) (Po.i (λ_=>Po.r rfl) λ_=>Po.r rfl) ?_
  rintro _ rfl
  exact Po.r ⟨Kept.same hd true,λe=>tf e⟩
 rw[IP hv]at hrs⊢
 have hok:okV (r.s.Node.Term.toNat,r.s.Node.Vote.toNat):=⟨by simp only;omega,by simp only;omega⟩
 have hz:=frm_sz N hN hok
 obtain⟨p,hrs⟩:=hrs
 have hsz:rs.length<=2/\(∀x∈rs,x.Text.size<=1000000)/\∀x∈rs,nodeRaw x:=by
  rcases hrs with ⟨rfl,rfl⟩|⟨rfl,rfl,_⟩
  ·refine⟨by simp,λx hx=> ?_,λx hx=> ?_⟩<;>simp only[List.mem_cons,List.not_mem_nil,or_false]at hx<;>rcases hx with rfl|rfl
   ·grind
   ·exact Nat.zero_le _
   ·exact⟨.inr (.inr (.inr rfl)),λe=>absurd e (show(1:Int)≠3 by decide)⟩
   ·exact⟨.inr (.inr (.inr rfl)),λ_=>.inr (.inr (.inl rfl))⟩
  ·refine⟨by simp,λx hx=> ?_,λx hx=> ?_⟩<;>rw[List.mem_singleton]at hx<;>subst hx
   ·grind
   ·exact⟨.inr (.inr (.inl rfl)),λe=>absurd e (show(2:Int)≠3 by decide)⟩
 obtain⟨z1,z2,z3⟩:=hsz
 refine Po.b (write_t N hN hd (by omega) z2 (by omega) true) ?_
 rintro q (⟨rfl,_⟩|⟨_,_,_,o,w1,w2,rfl⟩)
 ·exact Po.r ⟨Kept.same hd true,λe=>tf e⟩
 refine Po.r ⟨⟨o,_,false,rfl,w2,nodeRaws_alike z3 w1,by simp;omega⟩,λ_=>⟨hb,?_⟩⟩
 show VoteF N (ftext o nVote) _ _/\fileAt o nVoteP=none/\fileAt o nLog=_/\fileAt o nLogP=_/\_
 rcases hrs with ⟨rfl,rfl⟩|⟨rfl,rfl,hlt⟩
 ·have a:=move_at (by decide) w1
  have e:=VoteF.add N hN (VoteF.empty N) hv.1 hv.2 (by rw[BZ];show 0+_<=_;omega)
  rw[show(⟨#[]⟩:BA)++frm N (vtx (r.s.Node.Term.toNat,r.s.Node.Vote.toNat))=_ from ByteArray.empty_append]at e
  refine⟨by unfold ftext;rw[a,IP rfl];exact e,?_,?_,?_,.inr ⟨hv.2.2,hv.2.1⟩⟩
  ·grind
  ·grind
  grind
 ·have a:=add_at w1
  grind [ftext,VoteF.add,BZ]
structure RI (N:Nat) (k:Nat) (r:Tl17Run):Prop where
 o:Opens N r.s.Disk r.s.Shelf
 told:TL 20 r.told
 raws:r.raws.length<=k
 done:r.done.length<=10
 stage:r.s.Stage.size<=100000
def RG (N:Nat)(id:Int)(r:Tl17Run):Prop:=r.bad=false->SW N r.s/\r.s.Node.Id=id/\r.s.Shelf.Stamp<=r.s.Node.Commit/\r.s.Node.Commit<=logEnd r.s.Node.Log
theorem RI.le {N k l:Nat}{r:Tl17Run}(h:RI N k r)(hl:k<=l):RI N l r:=⟨h.1,h.2,Nat.le_trans h.3 hl,h.4,h.5⟩
theorem write_f (N:Nat)(r:Tl17Run)(rs:List Raw):s_l17Write_i1 N r rs false=some ⟨r.s,r.raws,r.told,r.done,true⟩:=by
 unfold s_l17Write_i1
 split<;>rfl
theorem lterm_le {b t T:Int}{es:List Entry}(ht:t<=T)(he:∀e∈es,e.Term<=T):logTerm ⟨b,t,es⟩<=T:=by
 grind [logTerm,List.mem_of_getLast?]
theorem tot_nw {i t v ro le cm ck li:Int}{c vo:List Int}{l:Log}{ps:List Peer}(hc:c.length<=4)(hl:l.Entries.length<=130/\∀e∈l.Entries,e.Data.size<=120)(hv:vo.length<=5)(hp:ps.length<=4):totNode ⟨i,t,v,ro,le,c,l,cm,ck,li,vo,ps⟩<=1000000:=by
 have h1:=sum_le (f:=totEntry) (B:=120) hl.2
 have h2:=sum0 (f:=λ_:Int=>0) (λ_=>rfl) c
 have h3:=sum0 (f:=λ_:Int=>0) (λ_=>rfl) vo
 have h4:=sum0 (f:=totPeer) (λ_=>rfl) ps
 simp only[totNode,totLog,totL,h2,h3,h4]
 omega
theorem NW.tot {n m:Node}(h:NR n)(w:NW n m):totNode m<=1000000:=tot_nw (h.cw w).1 ⟨by have:=w.len;omega,λe he=>(w.dat e he).1⟩ w.votes w.peers.1
theorem beh_mem {l:Log}{b t:Int}:(behind l b t).Entries.length<=l.Entries.length/\∀e∈(behind l b t).Entries,e∈l.Entries:=by
 grind [behind,List.mem_of_mem_drop]
theorem beh_tot {l:Log}{b t:Int}(h1:l.Entries.length<=130)(h2:∀e∈l.Entries,e.Data.size<=120):smallL (behind l b t):=by
 have h3:=beh_mem (l:=l) (b:=b) (t:=t)
 have:=sum_le (f:=totEntry) (B:=120) (xs:=(behind l b t).Entries) λe he=>h2 e (h3.2 e he)
 show totLog _<=_
 unfold totLog
 simp only[totL]
 omega
theorem SW.behind {N:Nat}{s:Server}(h:SW N s){rs:List Raw}{o:Disk}(hs:∀r∈rs,shelfRaw r)(ho:rawsDo s.Disk rs=some o):(∃F,fileAt o nLog=some F/\LogF N F s.Node.Log)/\fileAt o nLogP=none/\fileAt o nVote=fileAt s.Disk nVote/\fileAt o nVoteP=none:=by
 have k:∀n,logN n->fileAt o n=fileAt s.Disk n:=λn hn=>shelfRaws_log hs ho hn
 rw[k nLog (.inl rfl),k nLogP (.inr (.inl rfl)),k nVote (.inr (.inr (.inl rfl))),k nVoteP (.inr (.inr (.inr rfl)))]
 exact⟨h.log,h.noL,rfl,h.noV⟩
theorem sok_t (N:Nat)(hN:Big N){s:Server}(h:SW N s):Po (s_ServerOk N s) λb=>b=true->s_NodeOk N s.Node=some true/\NK s.Node/\s.Shelf.Stamp<=s.Node.Commit/\s.Stage.size<=20000:=by
 have hll:=(logOk_at h.lok).2.2.2.2.1
 unfold s_ServerOk
 refine Po.e (h.boot N hN (by omega)) (Po.i (λ_=>Po.r (by simp)) λ_=>Po.i (λ_=>Po.r (by simp)) λ_=>Po.e (h.opens.same N hN) (Po.i (λ_=>Po.r (by simp)) λ_=>Po.e (same_both N hN _ _ (by show s.Node.Log.Entries.length<=_;omega) (by omega)).1 (Po.i (λ_=>Po.r (by simp)) λ_=>Po.i (λ_=>Po.r (by simp)) λ_=>Po.i (λ_=>Po.r (by simp)) λ_=>Po.e (a:=true) ?_ (Po.i (λ_=>Po.r (by simp)) λ_=> ?_))))
 ·show s_l09SameInts N s.Shelf.Man.Conf s.Node.Conf=some true
  rw[h.conf]
  exact ints_self N hN _ (by have:=confOk_len (man_conf h.opens.sizes.1);omega)
 ·obtain⟨b,e,hb⟩:=nok_t N hN h.tot
  grind [Po.e,Po.i,Po.r,in_eq]
theorem settle_e (N:Nat)(hN:Big N){n:Node}{i t:Int}{c:List Int}(K:NK n)(hno:s_NodeOk N n=some true)(hc:s_ConfAt N n i=some c)(ht:s_LogTerm N n.Log i=some t)(hi:n.Log.Start<=i/\i<=n.Commit):s_Settle N n i=some (⟨n.Id,n.Term,n.Vote,n.Role,n.Lead,c,behind n.Log i t,n.Commit,n.Clock,n.Limit,n.Votes,n.Peers⟩,true):=by
 have hlw:=K.r.lw K.w
 have h1:=hlw.s
 have h2:=hlw.n
 have h3:=K.w.com
 have h4:=K.r.s
 unfold s_Settle
 rw[hno,bO,IQ (by simp),in_eq,bO,IQ (by simp[hi]),copy_spec N n (by have:=NW.tot K.r K.w;omega),bO,hc,bO,ht,bO,behind_spec N hN _ _ _ (log_small K.log) (wi_mk (by omega)),bO]
theorem merge_t (N:Nat)(hN:Big N){r:Tl17Run}{k:Nat}(hk:k<=200)(h:RI N k r)(K:NK r.s.Node)(hno:s_NodeOk N r.s.Node=some true)(hcm:r.s.Shelf.Stamp<=r.s.Node.Commit)(hg:RG N r.s.Node.Id r):
  Po (s_l17Merge N r) λq=>RI N (k+200) q/\(q.bad=false->SW N q.s/\q.s.Node.Id=r.s.Node.Id):=by
 have hd:=h.o.1
 have hman:=manOk_ok h.o.sizes.1
 have hlw:=K.r.lw K.w
 have hs1:=hlw.s
 have hs2:=hlw.n
 have hs3:=K.w.com
 have hst:=K.r.st
 have hdat:=K.w.dat
 have hraws:=h.raws
 unfold s_l17Merge
 refine Po.i (λ_=>Po.r ⟨h.le (by omega),λe=>⟨(hg e).1,rfl⟩⟩) λhlt=> ?_
 have hb0:0<=r.s.Shelf.Man.Base:=by have:=hman;omega
 obtain⟨t,ht,htt⟩:=lt_t N hlw r.s.Shelf.Stamp (by omega)
 obtain⟨c,hc,hcw⟩:=cat_t N hN r.s.Node r.s.Shelf.Stamp (K.r.cw K.w) hlw
 have htT:t<=r.s.Node.Term:=by
  rcases htt with ⟨rfl,_⟩|rfl|⟨_,e,he,rfl⟩
  ·exact hst.2
  ·omega
  grind
 obtain⟨x,rs,ok,e1,e2⟩:=merge_spec N hN h.o r.s.Shelf.Stamp t (by omega) c (by have:=hcw.1;omega)
 refine Po.e ht (Po.e hc (Po.e e1 ?_))
 have bad:Po (s_Settle N r.s.Node r.s.Shelf.Stamp) λ_=>True:=by
  unfold s_Settle
  rw[hno,bO,IQ (by simp)]
  exact Po.n trivial λ_=>Po.e (copy_spec N _ (by have:=NW.tot K.r K.w;omega)) (Po.e hc (Po.e ht (Po.e (behind_spec N hN _ _ _ (log_small K.log) (wi_mk (by omega))) (Po.r trivial))))
 have toB:∀q:Tl17Run,q=⟨r.s,r.raws,r.told,r.done,true⟩->Po ((s_Settle N q.s.Node r.s.Shelf.Stamp).bind λy=>if q.bad=true then some { q with bad:=true }else if(!y.2)=true then some { q with bad:=true }else(s_l17Log_i1 N { q with s:=⟨q.s.Node,q.s.Disk,x,q.s.Stage,q.s.StageAt,q.s.StageTerm⟩ } q.s.Node.Log y.1.Log).bind λz=>some { z with s:=⟨y.1,z.s.Disk,z.s.Shelf,z.s.Stage,z.s.StageAt,z.s.StageTerm⟩ }) λq=>RI N (k+200) q/\(q.bad=false->SW N q.s/\q.s.Node.Id=r.s.Node.Id):=by
  rintro _ rfl
  exact Po.b bad λy _=>Po.r ⟨⟨h.1,h.2,by show r.raws.length<=_;omega,h.4,h.5⟩,λe=>tf e⟩
 cases ok with
 |false=>exact Po.e (write_f N r rs) (toB _ rfl)
 |true=>
  obtain⟨z1,z2,o,z3,z4,z5,z6,z7⟩:=e2 rfl
  refine Po.b (write_t N hN hd (by omega) (λx hx=>(z2 x hx).2.2) (by omega) true) ?_
  rintro q (⟨rfl,_⟩|⟨w1,_,_,o',w2,w3,rfl⟩)
  ·exact toB _ rfl
  rw[z3]at w2
  simp only[Option.some.injEq]at w2
  subst w2
  obtain⟨g1,g2,g3,g4⟩:=hg w1
  obtain⟨b1,b2,b3,b4⟩:=g1.behind z2 z3
  have hbm:=beh_mem (l:=r.s.Node.Log) (b:=r.s.Shelf.Stamp) (t:=t)
  refine Po.e (settle_e N hN K hno hc ht ⟨Int.le_trans (Int.le_of_eq g1.beh.1) (Int.le_of_lt (Int.not_le.1 hlt)),hcm⟩) (Po.i (λe=>tf e.symm) λ_=>Po.i (λe=>tf e) λ_=>Po.b (log_t N hN (r:=⟨⟨r.s.Node,o,x,r.s.Stage,r.s.StageAt,r.s.StageTerm⟩,r.raws++rs,r.told,r.done,false⟩) w3 (by simp;omega) (beh_tot hs2 hlw.d) λ_=>⟨g1.lok,b1,b2⟩) ?_)
  rintro _ ⟨⟨d,rs',b,rfl,y1,y2,y3⟩,y4⟩
  have hop:Opens N d x:=y2.opens y1 z4
  refine Po.r ⟨⟨hop,h.told,by simp at y3;show rs'.length<=_;omega,h.done,h.stage⟩,λe=> ?_⟩
  obtain⟨_,y5,y6,y7,y8,y9⟩:=y4 e
  refine⟨⟨g1.id,hop,y5,y6,by rw[z5];exact⟨rfl,rfl⟩,?_,y7,y9.trans b4,?_,?_,?_,by rw[z5],h.stage⟩,rfl⟩
  ·have hv:=g1.vote
   show VoteF N (ftext d nVote) _ _
   unfold ftext at hv⊢
   grind
  ·show x.Man.Base<=x.Stamp/\x.Stamp<=_
   rw[z5,z6]
   exact⟨Int.le_refl _,by show r.s.Shelf.Stamp<=r.s.Shelf.Stamp+_;omega⟩
  ·exact⟨lterm_le htT λe he=>(hdat e (hbm.2 e he)).2.2,g1.term.2⟩
  ·exact tot_nw hcw.1 ⟨Nat.le_trans hbm.1 hs2,λe he=>hlw.d e (hbm.2 e he)⟩ K.w.votes K.w.peers.1
theorem install_t (N:Nat)(hN:Big N){r:Tl17Run}{k:Nat}(hk:k<=200)(h:RI N k r){id:Int}(hb:r.bad=false)(hg:RG N id r){n:Node}(hR:NR n)(w:NW n r.s.Node){m:Message}(hm:0<=m.Index/\m.Index<=100000)(hmc:CW m.Conf)(hlt:m.LogTerm<=r.s.Node.Term)(t:Message):
  Po (s_l17Install N r m t) λq=>RI N (k+200) q.1/\RG N id q.1/\q.1.told=r.told/\q.1.done=r.done/\(q.2=t\/q.2={ t with Ok:=true }):=by
 have hd:=h.o.1
 obtain⟨g1,g2,g3,g4⟩:=hg hb
 have hlw:=hR.lw w
 have hs2:=hlw.n
 have hraws:=h.raws
 have hcl:=hmc.1
 unfold s_l17Install
 obtain⟨x,rs,ok,e1,e2⟩:=install_spec N hN h.o r.s.Stage (by have:=h.stage;omega) m.Index m.LogTerm m.Conf (by omega)
 refine Po.e e1 ?_
 cases ok with
 |false=>exact Po.r ⟨⟨h.1,h.2,Nat.le_trans h.3 (by omega),h.4,Nat.zero_le _⟩,λ_=>⟨⟨g1.1,g1.2,g1.3,g1.4,g1.5,g1.6,g1.7,g1.8,g1.9,g1.10,g1.11,g1.12,Nat.zero_le _⟩,g2,g3,g4⟩,rfl,rfl,.inl rfl⟩
 |true=>
  obtain⟨z1,z2,o,z3,z4,z5,z6,z7⟩:=e2 rfl
  refine Po.i (λe=>tf e) λ_=>Po.b (write_t N hN (r:=⟨⟨r.s.Node,r.s.Disk,r.s.Shelf,⟨#[]⟩,r.s.StageAt,r.s.StageTerm⟩,r.raws,r.told,r.done,r.bad⟩) hd (by show r.raws.length<=_;omega) (λx hx=>(z2 x hx).2.2) (by omega) true) ?_
  rintro q (⟨rfl,w0⟩|⟨w1,_,_,o',w2,w3,rfl⟩)
  ·grind
  rw[show rawsDo _ rs=some o from z3]at w2
  simp only[Option.some.injEq]at w2
  subst w2
  obtain⟨b1,b2,b3,b4⟩:=g1.behind z2 z3
  have hbm:=beh_mem (l:=r.s.Node.Log) (b:=m.Index) (t:=m.LogTerm)
  refine Po.e (behind_spec N hN _ _ _ (log_small g1.lok) (wi_mk (by omega))) (Po.b (log_t N hN (r:=⟨⟨r.s.Node,o,x,⟨#[]⟩,r.s.StageAt,r.s.StageTerm⟩,r.raws++rs,r.told,r.done,false⟩) w3 (by simp;omega) (beh_tot hs2 hlw.d) λ_=>⟨g1.lok,b1,b2⟩) ?_)
  rintro _ ⟨⟨d,rs',b,rfl,y1,y2,y3⟩,y4⟩
  have hop:Opens N d x:=y2.opens y1 z4
  have hbl:m.Index<=logEnd (behind r.s.Node.Log m.Index m.LogTerm):=by show m.Index<=m.Index+_;omega
  have hx:x.Stamp=m.Index:=by rw[z6];unfold imax;split<;>split<;>omega
  refine Po.c (by simp;omega) (Po.r ⟨⟨hop,h.told,by simp at y3;show rs'.length<=_;omega,h.done,Nat.zero_le _⟩,λe=> ?_,rfl,rfl,.inr rfl⟩)
  obtain⟨_,y5,y6,y7,y8,y9⟩:=y4 e
  refine⟨⟨g1.id,hop,y5,y6,by rw[z5];exact⟨rfl,rfl⟩,?_,y7,y9.trans b4,?_,?_,?_,by rw[z5];rfl,Nat.zero_le _⟩,g2,Int.le_of_eq hx,hbl⟩
  ·have hv:=g1.vote
   show VoteF N (ftext d nVote) _ _
   unfold ftext at hv⊢
   grind
  ·grind
  ·exact⟨lterm_le hlt λe he=>(w.dat e (hbm.2 e he)).2.2,g1.term.2⟩
  ·exact tot_nw hcl ⟨Nat.le_trans hbm.1 hs2,λe he=>hlw.d e (hbm.2 e he)⟩ w.votes w.peers.1
theorem n65:(6:Int)≠5:=by decide
theorem staged_t (N:Nat)(hN:Big N){r:Tl17Run}{k:Nat}(hk:k<=200)(h:RI N k r)(ht:TL 8 r.told){id:Int}(hb:r.bad=false)(hg:RG N id r){n:Node}(hR:NR n)(w:NW n r.s.Node){m:Message}(hm:MW m)(hmc:CW m.Conf/\m.Data.size<=60)(hlt:m.LogTerm<=r.s.Node.Term)(hs:r.s.Stage.size<=20000):Po (s_l17Staged N r m) λq=>RI N (k+200) q/\RG N id q/\q.done=r.done:=by
 obtain⟨g1,g2,g3,g4⟩:=hg hb
 have htl:=ht.1
 have up:∀{t},TL 9 t->TL 20 t:=λa=>⟨Int.le_trans a.1 (by omega),a.2⟩
 have one:∀{x},TW x->TL 20 (r.told++[x]):=λhx=>up (ht.add hx)
 have sw:∀{st a b},st.size<=100000->SW N ⟨r.s.Node,r.s.Disk,r.s.Shelf,st,a,b⟩:=λe=>⟨g1.1,g1.2,g1.3,g1.4,g1.5,g1.6,g1.7,g1.8,g1.9,g1.10,g1.11,g1.12,e⟩
 unfold s_l17Staged
 refine Po.i (λ_=>Po.c (by simp;omega) (Po.r ⟨⟨h.1,one (tw0 hm.fr n65),Nat.le_trans h.3 (by omega),h.4,h.5⟩,hg,rfl⟩)) λhmt=>Po.i (λ_=>Po.c (by simp;omega) (Po.r ⟨⟨h.1,one (tw0 hm.fr n65),Nat.le_trans h.3 (by omega),h.4,h.5⟩,hg,rfl⟩)) λ_=>Po.j (λv=>v.1.size<=20000) (λv hv=>Po.j (λu=>u.size<=100000) (λu hu=>Po.c (by simp;omega) (Po.r ⟨⟨h.1,one (tw0 hm.fr n65),Nat.le_trans h.3 (by omega),h.4,hu⟩,λ_=>⟨sw hu,g2,g3,g4⟩,rfl⟩)) λg hg2=>Po.i (λ_=>Po.s (by have:=hmc.2;omega) (Po.i (λ_=> ?_) λ_=>hg2 _ ?_)) λ_=>hg2 _ (by omega)) λg hg=>Po.i (λ_=>hg _ (Nat.zero_le _)) λ_=>Po.i (λ_=>hg _ (Nat.zero_le _)) λ_=>hg _ hs
 ·have hz:(v.1++m.Data).size<=100000:=by rw[BZ];have:=hmc.2;omega
  refine Po.b (install_t N hN (r:=⟨⟨r.s.Node,r.s.Disk,r.s.Shelf,v.1++m.Data,v.2.1,v.2.2⟩,r.raws,r.told,r.done,r.bad⟩) hk ⟨h.1,h.2,h.3,h.4,hz⟩ hb (λ_=>⟨sw hz,g2,g3,g4⟩) hR w hm.ix hmc.1 hlt _) ?_
  rintro⟨q,x⟩ ⟨q1,q2,q3,q5,q4⟩
  have hx:TW x:=by
   rcases q4 with rfl|rfl
   ·exact tw0 hm.fr n65
   ·exact tw0 hm.fr n65
  have q3':q.told=r.told:=q3
  refine Po.c (by rw[show(q,x).1.told=r.told from q3];simp;omega) (Po.r ⟨⟨q1.1,by show TL 20 (q.told++[x]);rw[q3'];exact one hx,q1.3,q1.4,q1.5⟩,q2,q5⟩)
 grind
theorem eat_t (N:Nat)(hN:Big N){l:Log}(h:logOk l=true)(i:Int)(hi: -1000000<=i/\i<=1000000):Po (s_EntryAt N l i) λq=>q.1.Data.size<=120:=by
 have hle:=log_le h
 obtain⟨a1,a2,a3,a4,a5,a6,a7⟩:=logOk_at h
 have hlw:LW l:=⟨⟨a1,a2⟩,by omega,λe he=>(hle.2 e he).1⟩
 unfold s_EntryAt
 refine Po.e (logOk_spec N hN l (log_small h)) (Po.i (λ_=>Po.r (Nat.zero_le _)) λ_=>Po.i (λ_=>Po.r (Nat.zero_le _)) λc=>Po.e (last_e N hlw) (Po.i (λ_=>Po.r (Nat.zero_le _)) λc2=> ?_))
 rw[w64_id (n:=i-l.Start) (by omega) (by omega),w64_id (by omega) (by omega)]
 grind [Po.a,Po.r]
theorem apply_t (N:Nat)(hN:Big N){r:Tl17Run}{k:Nat}(hk:k<=500)(h:RI N k r)(h0:r.done.length=0){id:Int}(hg:RG N id r):Po (s_l17Apply N r) λq=>RI N 900 q/\(q.bad=false->SW N q.s/\q.s.Node.Id=id):=by
 unfold s_l17Apply
 refine Po.b (P:=λv=>∃q,(v=.inl q\/v=.inr q)/\RI N 900 q/\(q.bad=false->SW N q.s/\q.s.Node.Id=id)) (Po.l0 hN (λf i r=>s_l17Apply_l1 N f i r) 6 (λi r=>i<=6/\RI N (k+60*i.toNat) r/\RG N id r/\(r.done.length:Int)<=i) (by omega) (λf i r hi hs kk=> ?_) (by omega) ⟨by omega,h,hg,by omega⟩) (by rintro _ ⟨q,rfl|rfl,hq⟩<;>exact Po.r hq)
 obtain⟨hi6,hR,hG,hD⟩:=hs
 have fin:RI N 900 r/\(r.bad=false->SW N r.s/\r.s.Node.Id=id):=⟨hR.le (by omega),λe=>⟨(hG e).1,(hG e).2.1⟩⟩
 rw[s_l17Apply_l1]
 refine Po.i (λq=>Po.i (λhb=>Po.i (λhlt=> ?_) λ_=>Po.r ⟨r,.inr rfl,fin⟩) λ_=>Po.r ⟨r,.inr rfl,fin⟩) λ_=>Po.r ⟨r,.inr rfl,fin⟩
 obtain⟨g1,g2,g3,g4⟩:=hG hb
 have hsz:=hR.o.sizes
 have hman:=manOk_ok hsz.1
 have hdir:=(okSpot_all hsz.2).1
 have hlo:=logOk_at g1.lok
 have hst:=g1.stamp
 have hraws:=hR.raws
 have hstp:0<=r.s.Shelf.Stamp/\r.s.Shelf.Stamp+1<=1000000:=by unfold logEnd at g4;omega
 rw[w64_id (n:=r.s.Shelf.Stamp+1) (by omega) (by omega)]
 refine Po.b (eat_t N hN g1.lok _ (by omega)) λe he=>Po.e (hR.o.map N hN) (Po.b (acted_t N hN (by unfold mapD;rw[List.length_map];omega) _ (by omega)) λac hac=>Po.b (btw_t N hN (by unfold mapD;rw[List.length_map];omega) hac) λch hch=> ?_)
 obtain⟨x,rs,ok,e1,e2⟩:=add_spec N hN hR.o ⟨r.s.Shelf.Stamp+1,ch.1⟩ (by show ch.1.length<=_;omega)
 refine Po.e e1 (Po.j (λv=>v=⟨r.s,r.raws,r.told,r.done,true⟩\/(ok=true/\Wrote r v rs)) (λv hv=> ?_) λg hg=>Po.i (λ_=>Po.i (λ_=> ?_) λ_=>Po.e (write_f N r rs) (hg _ (.inl rfl))) λ_=>Po.e (write_f N r rs) (hg _ (.inl rfl)))
 ·rcases hv with rfl|⟨rfl,o,w2,w3,rfl⟩
  ·exact Po.i (λ_=>Po.r ⟨_,.inl rfl,⟨hR.1,hR.2,by show r.raws.length<=_;omega,hR.4,hR.5⟩,λe=>tf e⟩) λe=>absurd rfl e
  ·obtain⟨z1,z2,o',z3,z4,z5,z6,z7,z8,z9⟩:=e2 rfl
   rw[z3]at w2
   simp only[Option.some.injEq]at w2
   subst w2
   obtain⟨b1,b2,b3,b4⟩:=g1.behind z2 z3
   have hx:x.Stamp=r.s.Shelf.Stamp+1:=by
    grind
   refine Po.i (λe=>tf e.symm) λ_=>Po.c (by simp;omega) (kk q _ ⟨by omega,⟨z4,hR.told,by simp;omega,by simp;omega,hR.stage⟩,λ_=>⟨⟨g1.id,z4,g1.lok,b1,?_,?_,b2,b4,?_,g1.term,g1.tot,?_,hR.stage⟩,g2,?_,g4⟩,by simp;omega⟩)
   ·show _=x.Man.Base/\_=x.Man.BaseTerm
    rw[z5,z6]
    exact g1.beh
   ·have hv:=g1.vote
    show VoteF N (ftext o' nVote) _ _
    grind [ftext]
   ·grind
   ·show r.s.Node.Conf=x.Man.Conf
    rw[z7]
    exact g1.conf
   grind
 ·cases ok with
  |false=>exact Po.e (write_f N r rs) (hg _ (.inl rfl))
  |true=>
   obtain⟨z1,z2,_⟩:=e2 rfl
   refine Po.b (write_t N hN hR.o.1 (by omega) (λx hx=>(z2 x hx).2.2) (by omega) true) λv hv=>hg _ ?_
   grind
theorem snap_t (N:Nat)(hN:Big N){d:Disk}{s:Shelf}(h:Opens N d s):Po (s_SnapText N d s) λq=>q.1.size<=20000:=by
 have hd:=h.1
 have hman:=manOk_ok h.sizes.1
 have hz:=ftext_size hd
 unfold s_SnapText
 refine Po.e (h.spec hN) (Po.i (λ_=>Po.r (Nat.zero_le _)) λ_=>Po.e (h.same N hN) (Po.i (λ_=>Po.r (Nat.zero_le _)) λ_=>Po.i (λ_=>Po.r (Nat.zero_le _)) λ_=>Po.a (Int.le_refl 0) (by omega) λx _=>Po.e (sname_spec N hN x) (Po.e (l03Text_ok N hN _ (by have:=disk_len hd;omega) _) ?_)))
 obtain⟨h1,h2⟩:=recs_ok N (ftext d (sname x))
 have hz1:=hz (sname x)
 refine Po.e (unf_spec N hN (ftext d (sname x)) hz1) (Po.i (λ_=>Po.r (Nat.zero_le _)) λc=>Po.a (Int.le_refl 0) (by simp only at c⊢;omega) λt ht=> ?_)
 have ht2:=(h2 t ht).2
 refine Po.e (rbat_spec N hN t (by omega)) (Po.i (λ_=>Po.r (Nat.zero_le _)) λ_=>Po.i (λ_=>Po.r (Nat.zero_le _)) λ_=>Po.a (Int.le_refl 0) (by simp only at c⊢;omega) λu hu=> ?_)
 grind [frm_le,frame_spec,Po.r,frm]
theorem ship_t (N:Nat)(hN:Big N){r:Tl17Run}{k:Nat}(h:RI N k r):Po (s_l17Ship N r) λq=>∃t,q=⟨r.s,r.raws,t,r.done,r.bad⟩/\TL 20 t:=by
 have htl:=h.told.1
 unfold s_l17Ship
 refine Po.b (snap_t N hN h.o) λy hy=>Po.j (TL 20) (λt ht=>Po.r ⟨t,rfl,ht⟩) λg hg=>Po.b (Po.l0 hN (λf i t=>s_l17Ship_l1 N r y f i t) r.told.length (λi t=>TL i t/\i<=r.told.length) (by omega) (λf i t h0 hs kk=> ?_) (by omega) ⟨⟨Int.le_refl _,by simp⟩,by omega⟩) hg
 have hs1:=hs.1.1
 rw[s_l17Ship_l1]
 refine Po.i (λq=>Po.j (TL (i+1)) (λt ht=>kk q t ⟨ht,by omega⟩) λg hg=>Po.a h0 q λm hm=> ?_) λ_=>Po.r ⟨by omega,hs.1.2⟩
 have w:=h.told.2 m hm
 have same:TL (i+1) t:=⟨by omega,hs.1.2⟩
 refine Po.i (λ_=>Po.c (by simp;omega) (hg _ (hs.1.add w))) λhk=>Po.i (λ_=>hg _ same) λ_=>Po.j (λv:Int=>0<=v/\v<=y.1.size) (λv hv=>Po.j (λu:Int=>v<=u/\u<=y.1.size) (λu hu=> ?_) λg hg=> ?_) λg hg=>Po.i (λ_=>hg _ ⟨Int.le_refl _,by omega⟩) λ_=>hg _ ⟨(w.2.2 (Classical.not_not.1 hk)).2,by omega⟩
 ·obtain⟨a,rfl⟩:∃a:Nat,v=a:=⟨v.toNat,by omega⟩
  obtain⟨b,rfl⟩:∃b:Nat,u=b:=⟨u.toNat,by omega⟩
  rw[scut_ok (by omega) (by omega),bO]
  refine Po.c (by simp;omega) (hg _ (hs.1.add ⟨w.1,⟨?_,Nat.le_trans (show _<=20000 by rw[ByteArray.size_extract];omega) (by omega)⟩,λe=>⟨(w.2.2 e).1,hv.1⟩⟩))
  have:=w.2.1.1
  grind [totMessage]
 ·rw[w64_id (by omega) (by omega)]
  grind
theorem copyS_t (N:Nat)(hN:Big N){s:Server}(h:SW N s):s_l17Copy N s=some s:=by
 have h1:=disk_len h.opens.1
 have hsz:=h.opens.sizes
 have hman:=manOk_ok hsz.1
 have hcl:=confOk_len (man_conf hsz.1)
 have hdir:=(okSpot_all hsz.2).1
 unfold s_l17Copy s_l09CopyMan
 rw[copy_spec N _ (by have:=h.tot;omega),bO,cat_ok (by simp;omega),bO,cat_ok (by simp;omega),bO,cat_ok (by simp;omega),bO,bO,cat_ok (by simp;omega),bO]
 rfl
theorem told_t (N:Nat)(hN:Big N){l:List Message}(h:TL 20 l):Po (s_l17Told_i1 N l) (TL 20):=by
 have hl:=h.1
 unfold s_l17Told_i1
 refine Po.j (TL 20) (λ_ h=>Po.r h) λg hg=>Po.b (Po.l0 hN (λf i t=>s_l17Told_i1_l1 N l f i t) l.length (λi t=>TL i t/\i<=l.length) (by omega) (λf i t h0 hs kk=> ?_) (by omega) ⟨⟨Int.le_refl _,by simp⟩,by omega⟩) hg
 have hs1:=hs.1.1
 rw[s_l17Told_i1_l1]
 refine Po.i (λq=>Po.a h0 q λm hm=> ?_) λ_=>Po.r ⟨by omega,hs.1.2⟩
 have w:=h.2 m hm
 have hz:=w.2.1
 simp only[totMessage,totL]at hz
 exact Po.c (by simp;omega) (Po.c (by simp;omega) (Po.c (by simp;omega) (kk q _ ⟨hs.1.add w,by omega⟩)))
structure InW (x:Input):Prop where
 m:totMessage x.Message<=1000000
 t:x.Message.Kind=5->x.Message.LogTerm<=x.Message.Term
 d:x.Data.size<=100000
theorem serve_t (N:Nat)(hN:Big N){s:Server}(h:SW N s){x:Input}(hx:InW x):Po (s_Serve N s x) λq=>q.2.2.2.2.2=true->SW N q.1/\q.1.Node.Id=s.Node.Id/\TL 20 q.2.2.1:=by
 have hd:=h.opens.1
 unfold s_Serve
 refine Po.j (λv=>v=false->s_NodeOk N s.Node=some true/\NK s.Node/\s.Shelf.Stamp<=s.Node.Commit/\s.Stage.size<=20000) (λv hv=> ?_) λg hg=>Po.b (sok_t N hN h) λb hb=>Po.i (λ_=>hg _ (by simp)) λc=> ?_
 case refine_2=>
  grind [in_eq]
 refine Po.e (copy_spec N _ (by have:=h.tot;omega)) (Po.j (λv=>TL 20 v.2.told/\v.2.raws.length<=1000000/\v.2.done.length<=1000000/\(v.2.bad=false->SW N v.2.s/\v.2.s.Node.Id=s.Node.Id)) (λv hv=> ?_) λg hg=>Po.i (λc=> ?_) λc=>hg _ ⟨⟨by simp,by simp⟩,Nat.zero_le _,Nat.zero_le _,λe=>absurd e c⟩)
 ·refine Po.i (λ_=>Po.r λe=>tf e.symm) λc=>Po.i (λ_=>Po.r λe=>tf e.symm) λ_=> ?_
  grind [Po.e,copyS_t,Po.c,Po.b,told_t,Po.r]
 obtain⟨hno,K,hcm,hst⟩:=hv c
 refine Po.j (λv=>(v.2.1=false/\v.2.2.2=[]/\x.Kind≠4)\/(NW s.Node v.2.2.1/\TL 8 v.2.2.2/\(x.Kind=4->v.2.2.1=s.Node)/\(x.Kind=2->x.Message.Kind=5->MW x.Message/\CW x.Message.Conf/\x.Message.Data.size<=60/\x.Message.Term<=v.2.2.1.Term))) (λv hv=> ?_) λg hg=> ?_
 case refine_2=>
  have ne:∀{a b:Int}{p:Prop},x.Kind=a->a≠b->x.Kind=b->p:=λe1 e2 e3=>absurd (e1.symm.trans e3) e2
  refine Po.i (λq=>Po.b (tick_t N hN h.tot x.Limit) λy hy=>hg _ ?_) λ_=>Po.i (λq=>Po.b (recv_t N hN h.tot hx.m) λy hy=>hg _ ?_) λ_=>Po.i (λq=>Po.b (prop_t N hN h.tot x.Entry hx.d) λy hy=>hg _ ?_) λq3=>hg _ (.inr ⟨K.w,⟨by show(0:Int)<=8;omega,by simp⟩,λ_=>rfl,λe=>by contradiction⟩)
  ·grind
  ·grind
  grind
 obtain⟨idx,ok,n,told⟩:=v
 simp only at hv⊢
 refine Po.b (vote_t N hN (r:=⟨⟨n,s.Disk,s.Shelf,s.Stage,s.StageAt,s.StageTerm⟩,[],told,[],!ok⟩) hd (Nat.zero_le _) (old:=s.Node) λ_=>⟨h.vote,h.noV⟩) ?_
 rintro _ ⟨⟨d1,rs1,b1,rfl,u1,u2,u3⟩,u4⟩
 have hlo:smallL n.Log\/(!ok)=true:=by
  rcases hv with ⟨rfl,_⟩|⟨w,_⟩
  ·exact .inr rfl
  ·have hlw:=K.r.lw w
   have:=sum_le (f:=totEntry) (B:=120) hlw.d
   have:=hlw.n
   refine .inl ?_
   show totLog _<=_
   unfold totLog
   simp only[totL]
   omega
 have hb1:b1=false->ok=true:=λe=>by have:=(u4 e).1;simpa using this
 have logS:Po (s_l17Log N ⟨⟨n,d1,s.Shelf,s.Stage,s.StageAt,s.StageTerm⟩,rs1,told,[],b1⟩ s.Node.Log n.Log) λq=>∃d rs b,q=⟨⟨n,d,s.Shelf,s.Stage,s.StageAt,s.StageTerm⟩,rs,told,[],b⟩/\Opens N d s.Shelf/\rs.length<=120/\(b=false->ok=true/\logOk n.Log=true/\(∃F,fileAt d nLog=some F/\LogF N F n.Log)/\fileAt d nLogP=none/\VoteF N (ftext d nVote) n.Term n.Vote/\fileAt d nVoteP=none/\(n.Vote=s.Node.Vote\/0<=n.Vote/\n.Vote<=4)):=by
  cases b1 with
  |true=>
   exact⟨_,rfl,d1,rs1,true,rfl,u2.opens u1 h.opens,by simp at u3;omega,λe=>tf e⟩
  |false=>
   obtain⟨v0,v1,v2,v3,v4,v5⟩:=u4 rfl
   have hl:smallL n.Log:=hlo.elim id λe=>by have:=hb1 rfl;rw[this]at e;exact tf e.symm
   refine(log_t N hN (r:=⟨⟨n,d1,s.Shelf,s.Stage,s.StageAt,s.StageTerm⟩,rs1,told,[],false⟩) u1 (by simp at u3;show rs1.length<=_;omega) hl λ_=>⟨h.lok,by show(∃F,fileAt d1 nLog=some F/\_)/\_;rw[show fileAt d1 nLog=fileAt s.Disk nLog from v3,show fileAt d1 nLogP=fileAt s.Disk nLogP from v4];exact⟨h.log,h.noL⟩⟩).imp ?_
   rintro _ ⟨⟨d2,rs2,b2,rfl,y1,y2,y3⟩,y4⟩
   refine⟨d2,rs2,b2,rfl,y2.opens y1 (u2.opens u1 h.opens),by simp at u3 y3;omega,λe=> ?_⟩
   obtain⟨_,y5,y6,y7,y8,y9⟩:=y4 e
   refine⟨hb1 rfl,y5,y6,y7,?_,y9.trans v2,v5.elim (λe=>.inl e.2.symm) λe=>.inr ⟨e.2,e.1⟩⟩
   have v1':VoteF N (ftext d1 nVote) n.Term n.Vote:=v1
   unfold ftext at v1'⊢
   grind
 refine Po.b logS ?_
 rintro _ ⟨d,rs,b,rfl,o1,o2,o3⟩
 have t8:TL 8 told:=by
  rcases hv with ⟨_,rfl,_⟩|⟨_,h2,_⟩
  ·exact⟨by simp,by simp⟩
  ·exact h2
 have hG:RG N s.Node.Id ⟨⟨n,d,s.Shelf,s.Stage,s.StageAt,s.StageTerm⟩,rs,told,[],b⟩:=by
  intro e
  obtain⟨p1,p2,p3,p4,p5,p6,p7⟩:=o3 e
  rcases hv with ⟨e2,_⟩|⟨w,_⟩
  ·rw[p1]at e2;exact tf e2
  have hcf:n.Conf=s.Shelf.Man.Conf:=w.conf.trans h.conf
  have hs1:=h.stamp
  have hwc:=w.com
  have htm:=w.term
  have hstt:=K.r.st
  refine⟨⟨by rw[w.id];exact h.id,o1,p2,p3,by rw[w.st.1,w.st.2];exact h.beh,p5,p4,p6,⟨hs1.1,?_⟩,⟨lterm_le (by rw[w.st.2];exact Int.le_trans hstt.2 htm.1) λe he=>(w.dat e he).2.2,htm.2,?_⟩,NW.tot K.r w,hcf,h.stage⟩,w.id,Int.le_trans hcm hwc.1,hwc.2⟩
  ·exact Int.le_trans hcm (Int.le_trans hwc.1 hwc.2)
  ·rcases p7 with p7|p7
   ·show 0<=n.Vote/\n.Vote<=4
    rw[p7];exact h.term.2.2
   ·exact p7
 have t20:∀{t},TL 8 t->TL 20 t:=λa=>⟨Int.le_trans a.1 (by omega),a.2⟩
 have hI:RI N 120 ⟨⟨n,d,s.Shelf,s.Stage,s.StageAt,s.StageTerm⟩,rs,told,[],b⟩:=⟨o1,t20 t8,o2,Nat.zero_le _,h.stage⟩
 refine Po.j (λq=>RI N 320 q/\RG N s.Node.Id q/\q.done.length=0/\(x.Kind=4->q=⟨⟨n,d,s.Shelf,s.Stage,s.StageAt,s.StageTerm⟩,rs,told,[],b⟩)) (λq hq=> ?_) λg hg=> ?_
 ·obtain⟨q1,q2,q3,q4⟩:=hq
  refine Po.i (λk4=> ?_) λ_=>Po.b (apply_t N hN (by omega) q1 q3 q2) λy hy=>Po.b (ship_t N hN hy.1) ?_
  ·rcases hv with ⟨_,_,h3⟩|⟨_,_,h3,_⟩
   ·exact absurd k4 h3
   have hn:n=s.Node:=h3 k4
   subst hn
   obtain rfl:=q4 k4
   refine Po.b (merge_t N hN (by omega) hI K hno hcm hG) λy hy=>Po.b (ship_t N hN hy.1) ?_
   rintro _ ⟨t,rfl,ht⟩
   exact hg _ ⟨ht,by have:=hy.1.raws;show y.raws.length<=_;omega,by have:=hy.1.done;show y.done.length<=_;omega,hy.2⟩
  ·rintro _ ⟨t,rfl,ht⟩
   exact hg _ ⟨ht,by have:=hy.1.raws;show y.raws.length<=_;omega,by have:=hy.1.done;show y.done.length<=_;omega,hy.2⟩
 ·have hI2:=hI.le (show 120<=320 by omega)
  refine Po.i (λhb=>Po.i (λk2=>Po.i (λk5=> ?_) λ_=>hg _ ⟨hI2,hG,rfl,λ_=>rfl⟩) λ_=>hg _ ⟨hI2,hG,rfl,λ_=>rfl⟩) λ_=>hg _ ⟨hI2,hG,rfl,λ_=>rfl⟩
  rcases hv with ⟨e2,_⟩|⟨w,_,_,h4⟩
  ·grind
  obtain⟨m1,m2,m3,m4⟩:=h4 k2 k5
  refine Po.b (staged_t N hN (by omega) hI t8 hb hG K.r w m1 ⟨m2,m3⟩ (Int.le_trans (hx.t k5) m4) hst) λy hy=>hg _ ⟨hy.1.le (by omega),hy.2.1,by rw[hy.2.2];rfl,λe=>by rw[k2]at e;exact absurd e (by decide)⟩
theorem and_lo (a b:Int)(hb:0<=b)(hb':b<=9223372036854775807):∃r,intD .and .i64 a b=some r/\0<=r/\r<=b:=by
 have h1:((BitVec.ofInt 64 a&&& BitVec.ofInt 64 b).toNat:Int)<=b:=by
  rw[BitVec.toNat_and]
  have h2:(BitVec.ofInt 64 a).toNat&&& (BitVec.ofInt 64 b).toNat<=(BitVec.ofInt 64 b).toNat:=Nat.and_le_right
  have h3:((BitVec.ofInt 64 b).toNat:Int)=b:=by
   rw[BitVec.toNat_ofInt]
   omega
  omega
 have h2:intD .and .i64 a b=some (w64 ((BitVec.ofInt 64 a&&& BitVec.ofInt 64 b).toNat:Int)):=rfl
 rw[w64_id (by omega) (by omega)]at h2
 grind
theorem rem_lo (a:Int)(ha:0<=a)(b:Int)(hb:0<b):∃r,intD .rem .i64 a b=some r/\0<=r/\r<b:=by
 refine⟨a.tmod b,?_,Int.tmod_nonneg _ ha,Int.tmod_lt_of_pos _ hb⟩
 unfold intD
 grind
theorem shr_some (a b:Int)(hb:0<=b):∃r,intSh .shr .i64 a b=some r:=by
 unfold intSh
 simp only
 rw[IQ (by omega)]
 exact⟨_,rfl⟩
theorem strOf_size (ns:List Int):(strOf ns).size=ns.length:=by
 have:∀(ns:List Int)(r:BA),(ns.foldl (λr n=>r.push (UInt8.ofNat n.toNat)) r).size=r.size+ns.length:=by
  intro ns
  induction ns with
  |nil=>intro r;rfl
  |cons n ns ih=>
   grind [ByteArray.size_push,LC]
 have h:=this ns ByteArray.empty
 unfold strOf bytesOfRows
 rw[h]
 show 0+ns.length=ns.length
 omega
def Cb (c:Tl01Cur):Prop:=0<=c.i/\c.b.length<=1099511627776
theorem byte_t (N:Nat){c:Tl01Cur}(h:Cb c):Po (s_l01Byte N c) λq=>(0<=q.1/\q.1<=255)/\Cb q.2:=by
 obtain⟨h0,hl⟩:=h
 unfold s_l01Byte
 obtain⟨r1,e1⟩:=shr_some (w64 ((w64 (c.h*(6364136223846793005:Int)))+(1442695040888963407:Int))) 33 (by decide)
 obtain⟨r2,e2⟩:=shr_some (w64 ((w64 (c.h*(6364136223846793005:Int)))+(1442695040888963407:Int))) 45 (by decide)
 obtain⟨r4,e4,l4,u4⟩:=and_lo (w64 ((BitVec.ofInt 64 r1 ^^^ BitVec.ofInt 64 r2).toNat:Int)) 255 (by decide) (by decide)
 refine Po.e e1 (Po.e e2 (Po.e rfl (Po.e e4 (Po.j (λv=>(0<=v.1/\v.1<=255)/\0<=v.2) (λv hv=>Po.r ⟨hv.1,hv.2,hl⟩) λg hg=>Po.i (λq=>Po.a h0 q λx _=> ?_) λ_=>hg _ ⟨⟨l4,u4⟩,h0⟩))))
 obtain⟨r6,e6,l6,u6⟩:=and_lo (w64 (r4+w64 x)) 255 (by decide) (by decide)
 exact Po.e e6 (hg _ ⟨⟨l6,u6⟩,by show 0<=w64 (c.i+1);rw[w64_id (by omega) (by omega)];omega⟩)
theorem below_t (N:Nat){c:Tl01Cur}(h:Cb c)(k:Int):Po (s_l01Below N c k) λq=>(0<=q.1/\(0<k->q.1<k))/\Cb q.2:=by
 unfold s_l01Below
 refine Po.i (λq=>Po.r ⟨⟨Int.le_refl 0,λe=>by omega⟩,h⟩) λq=>Po.i (λ_=>Po.b (byte_t N h) λa ha=> ?_) λ_=>Po.b (byte_t N h) λa ha=>Po.b (byte_t N ha.2) λb hb=>Po.b (byte_t N hb.2) λc hc=>Po.b (byte_t N hc.2) λd hd=> ?_
 ·grind [rem_lo,Po.e,Po.r]
 ·have h1:=ha.1
  have h2:=hb.1
  have h3:=hc.1
  have h4:=hd.1
  rw[w64_id (n:=a.1*16777216) (by omega) (by omega),w64_id (n:=b.1*65536) (by omega) (by omega),w64_id (n:=c.1*256) (by omega) (by omega),w64_id (n:=a.1*16777216+_) (by omega) (by omega),w64_id (n:=_+c.1*256) (by omega) (by omega),w64_id (by omega) (by omega)]
  obtain⟨x,e,lx,ux⟩:=rem_lo (a.1*16777216+b.1*65536+c.1*256+d.1) (by omega) k (by omega)
  grind [Po.e,Po.r]
theorem once_t (N:Nat){c:Tl01Cur}(h:Cb c)(k:Int):Po (s_l01Once N c k) λq=>Cb q.2:=Po.b (below_t N h k) λ_ h=>Po.r h.2
theorem pick_t (N:Nat){c:Tl01Cur}(h:Cb c){l:List BA}(hl:0<l.length):Po (s_l01Pick_i1 N c l) λq=>Cb q.2:=Po.b (below_t N h _) λx h=>Po.a h.1.1 (h.1.2 (by omega)) λ_ _=>Po.r h.2
theorem picki_t (N:Nat){c:Tl01Cur}(h:Cb c){l:List Int}(hl:0<l.length):Po (s_l01PickInt_i1 N c l) λq=>Cb q.2:=Po.b (below_t N h _) λx h=>Po.a h.1.1 (h.1.2 (by omega)) λ_ _=>Po.r h.2
theorem conf_t (N:Nat)(hN:Big N){c:Tl01Cur}(h:Cb c):Po (s_l07Conf N c) λq=>q.1.length<=8/\Cb q.2:=by
 unfold s_l07Conf
 refine Po.j (λv=>Cb ⟨v.1,v.2.1,v.2.2.1⟩/\v.2.2.2.length<=5) (λv hv=>Po.j (λl=>l.length<=8) (λl hl=>Po.r ⟨hl,hv.1⟩) λg hg=>Po.i (λ_=>Po.c (by have:=hv.2;simp;omega) (hg _ (by have:=hv.2;simp;omega))) λ_=>hg _ (by have:=hv.2;omega)) λg hg=>Po.b (Po.l0 hN (λf i (v:List Int×Int×Int×List Int)=>s_l07Conf_l1 N f i v.1 v.2.1 v.2.2.1 v.2.2.2) 5 (λi v=>Cb ⟨v.1,v.2.1,v.2.2.1⟩/\(v.2.2.2.length:Int)<=i/\i<=5) (by omega) (λf i v h0 hv kk=> ?_) (s:=(c.b,c.i,c.h,[])) (by omega) ⟨h,by simp⟩) hg
 rw[s_l07Conf_l1]
 exact Po.i (λq=>Po.j (λv=>Cb ⟨v.1,v.2.1,v.2.2.1⟩/\(v.2.2.2.length:Int)<=i+1) (λv hv=>kk (by omega) v ⟨hv.1,hv.2,by omega⟩) λg hg=>Po.b (once_t N hv.1 2) λy hy=>Po.i (λ_=>Po.c (by have:=hv.2;simp;omega) (hg _ ⟨hy,by have:=hv.2;simp;omega⟩)) λ_=>hg _ ⟨hy,by have:=hv.2;simp only;omega⟩) λ_=>Po.r ⟨hv.1,by have:=hv.2;simp only;omega⟩
theorem ctext_t (N:Nat)(hN:Big N){c:List Int}(h:c.length<=100):Po (s_ConfText N c) λq=>q.1.size<=10000:=by
 unfold s_ConfText
 refine Po.e (confOk_spec N hN c (by omega)) (Po.i (λ_=>Po.r (Nat.zero_le _)) λ_=>Po.j (λl=>l.length<=100) (λl hl=>Po.r (by show(strOf l).size<=_;rw[strOf_size];omega)) λg hg=>Po.b (Po.l0 hN (λf i l=>s_ConfText_l1 N c f i l) c.length (λi l=>(l.length:Int)<=i/\i<=c.length) (by omega) (λf i l h0 hl kk=> ?_) (by omega) (by simp)) hg)
 rw[s_ConfText_l1]
 grind [Po.i,Po.a,Po.c,Po.r]
theorem cmd_t (N:Nat){c:Tl01Cur}(h:Cb c):Po (s_l15Right N c) λq=>Cb q.2:=by
 unfold s_l15Right
 refine Po.b (below_t N h 5) λa ha=>Po.i (λ_=>Po.r ha.2) λ_=>Po.b (below_t N ha.2 4) λb hb=>Po.b (below_t N hb.2 3) λd hd=>Po.b (pick_t N hd.2 (by simp)) λe he=>Po.j (λv=>Cb ⟨v.1,v.2.1,v.2.2.1⟩) (λv hv=>Po.r hv) λg hg=>Po.i (λ_=>Po.b (pick_t N he (by simp)) λy hy=>hg _ hy) λ_=>Po.i (λ_=>Po.b (pick_t N he (by simp)) λy hy=>Po.b (pick_t N hy (by simp)) λz hz=>hg _ hz) λ_=>hg _ he
theorem ent_t (N:Nat)(hN:Big N){c:Tl01Cur}(h:Cb c)(t:Int):Po (s_l11Right N c t) λq=>q.1.Data.size<=10000/\Cb q.2:=by
 unfold s_l11Right
 refine Po.b (picki_t N h (by simp)) λa ha=>Po.j (λv=>Cb ⟨v.1,v.2.1,v.2.2.1⟩/\v.2.2.2.size<=10000) (λv hv=>Po.r ⟨hv.2,hv.1⟩) λg hg=>Po.i (λ_=>Po.b (conf_t N hN ha) λb hb=>Po.b (ctext_t N hN (by have:=hb.1;omega)) λd hd=>hg _ ⟨hb.2,hd⟩) λ_=>Po.i (λ_=>Po.b (cmd_t N ha) λb hb=>Po.b (cmtx_t N hN _) λd hd=>hg _ ⟨hb,hd⟩) λ_=>hg _ ⟨ha,Nat.zero_le _⟩
theorem long_t (N:Nat)(hN:Big N){n v:Int}(h0:0<=n)(h1:n<=10000):Po (s_l01Long N n v) λt=>t.size<=10000:=by
 unfold s_l01Long mk?
 rw[IP (by omega),bO]
 refine Po.j (λl:List Int=>(l.length:Int)=n) (λl hl=>Po.r (by show(strOf l).size<=_;rw[strOf_size];omega)) λg hg=>Po.b (Po.l0 hN (λf i l=>s_l01Long_l1 N n v f i l) n (λi l=>(l.length:Int)=n) (by omega) (λf i l a0 hl kk=> ?_) (by omega) (by simp;omega)) hg
 rw[s_l01Long_l1]
 grind [Po.i,Po.a,Po.r]
theorem eany_t (N:Nat)(hN:Big N){c:Tl01Cur}(h:Cb c):Po (s_l11Any N c) λq=>q.1.Data.size<=10000/\Cb q.2:=by
 unfold s_l11Any
 refine Po.b (below_t N h 9) λa ha=>Po.b (ent_t N hN ha.2 _) λe he=>Po.j (λv=>Cb ⟨v.1,v.2.1,v.2.2.1⟩/\v.2.2.2.2.2.size<=10000) (λv hv=>Po.r ⟨hv.2,hv.1⟩) λg hg=>Po.b (below_t N he.2 30) λb hb=>Po.i (λ_=>Po.b (picki_t N hb.2 (by simp)) λy hy=>hg _ ⟨hy,he.1⟩) λ_=>Po.i (λ_=>Po.b (picki_t N hb.2 (by simp)) λy hy=>hg _ ⟨hy,he.1⟩) λ_=>Po.i (λ_=>Po.b (below_t N hb.2 2) λy hy=> ?_) λ_=>hg _ ⟨hb.2,he.1⟩
 have:=hy.1.2 (by omega)
 have:=hy.1.1
 rw[w64_id (by omega) (by omega)]
 exact Po.b (long_t N hN (by omega) (by omega)) λt ht=>hg _ ⟨hy.2,ht⟩
theorem text_t (N:Nat)(hN:Big N){c:Tl01Cur}(h:Cb c)(n:Int):Po (s_l01Text N c n) λq=>q.1.size<=10000/\Cb q.2:=by
 unfold s_l01Text
 refine Po.j (λv:Int=>v<=5000) (λn hn=>Po.j (λv=>Cb ⟨v.1,v.2.1,v.2.2.1⟩/\v.2.2.2.length<=5000) (λv hv=>Po.r ⟨by show(strOf v.2.2.2).size<=_;rw[strOf_size];exact Nat.le_trans hv.2 (by omega),hv.1⟩) λg hg=>Po.b (Po.l0 hN (λf i (v:List Int×Int×Int×List Int)=>s_l01Text_l1 N n f i v.1 v.2.1 v.2.2.1 v.2.2.2) 5000 (λi v=>Cb ⟨v.1,v.2.1,v.2.2.1⟩/\(v.2.2.2.length:Int)<=i/\i<=5000) (by omega) (λf i v h0 hv kk=> ?_) (s:=(c.b,c.i,c.h,[])) (by omega) ⟨h,by simp⟩) hg) λg hg=>Po.i (λ_=>hg _ (by omega)) λ_=>hg _ (by omega)
 rw[s_l01Text_l1]
 exact Po.i (λq=>Po.b (byte_t N hv.1) λy hy=>Po.c (by have:=hv.2;simp;omega) (kk (by omega) (y.2.b,y.2.i,y.2.h,v.2.2.2++[IntKind.wrap .u8 y.1]) ⟨hy.2,by have:=hv.2;simp;omega⟩)) λ_=>Po.r ⟨hv.1,by have:=hv.2;simp only;omega⟩
theorem mright_t (N:Nat)(hN:Big N){c:Tl01Cur}(h:Cb c):Po (s_l14Right N c) λq=>q.1.Entries.length<=10/\Cb q.2:=by
 unfold s_l14Right
 refine Po.b (below_t N h 6) λa1 h1=>Po.b (below_t N h1.2 4) λa2 h2=>Po.b (below_t N h2.2 8) λa3 h3=>Po.b (below_t N h3.2 12) λa4 h4=>Po.b (below_t N h4.2 5) λa5 h5=>Po.b (below_t N h5.2 9) λa6 h6=>Po.b (once_t N h6.2 2) λa7 h7=> ?_
 have b2:=h2.1.1
 have b3:=h2.1.2 (by omega)
 obtain⟨x,e,_,_⟩:=rem_lo (w64 (1+a2.1)) (by rw[w64_id (by omega) (by omega)];omega) 4 (by omega)
 refine Po.e e (Po.j (λv=>Cb ⟨v.1,v.2.1,v.2.2.1⟩/\v.2.2.2.2.2.2.2.2.2.1.length<=10) (λv hv=>Po.r ⟨hv.2,hv.1⟩) λg hg=>Po.i (λ_=>Po.b (below_t N h7 _) λb hb=>Po.b (P:=λv=>Cb ⟨v.1,v.2.1,v.2.2.1⟩/\v.2.2.2.length<=10) ?_ λv hv=>hg _ hv) λ_=>Po.i (λ_=>Po.b (conf_t N hN h7) λb hb=>Po.b (below_t N hb.2 9) λd hd=>Po.b (text_t N hN hd.2 _) λt ht=>Po.b (once_t N ht.2 2) λz hz=>hg _ ⟨hz,Nat.zero_le _⟩) λ_=>hg _ ⟨h7,Nat.zero_le _⟩)
 refine Po.l0 hN (λf i (v:Int×List Int×Int×Int×List Entry)=>s_l14Right_l1 N a3 f v.1 i v.2.1 v.2.2.1 v.2.2.2.1 v.2.2.2.2) 5 (λi v=>Cb ⟨v.2.1,v.2.2.1,v.2.2.2.1⟩/\(v.2.2.2.2.length:Int)<=i/\i<=5) (by omega) (λf i v h0 hv kk=> ?_) (s:=(b.1,b.2.b,b.2.i,b.2.h,[])) (by omega) ⟨hb.2,by simp⟩
 rw[s_l14Right_l1]
 refine Po.b (below_t N hv.1 5) λy hy=>Po.i (λq=>Po.b (below_t N hy.2 _) λz hz=>Po.b (ent_t N hN hz.2 _) λu hu=>Po.c (by have:=hv.2;simp;omega) (kk (by have:=hy.1.2 (by omega);omega) (w64 (v.1+z.1),u.2.b,u.2.i,u.2.h,v.2.2.2.2++[u.1]) ⟨hu.2,by have:=hv.2;have:=hy.1.2 (by omega);simp;omega⟩)) λ_=>Po.r ⟨hy.2,by have:=hv.2;simp only;omega⟩
theorem many_t (N:Nat)(hN:Big N){c:Tl01Cur}(h:Cb c):Po (s_l14Any N c) λq=>Cb q.2:=by
 unfold s_l14Any
 refine Po.b (mright_t N hN h) λm hm=>Po.j (λv=>Cb ⟨v.1,v.2.1,v.2.2.1⟩) (λv hv=>Po.r hv) λg hg=>Po.b (below_t N hm.2 40) λk hk=> ?_
 have pk:∀{l:List Int}{f:Int×Tl01Cur->Option (Message×Tl01Cur)},0<l.length->(∀y,Cb y.2->Po (f y) λq=>Cb q.2)->Po ((s_l01PickInt_i1 N k.2 l).bind f) λq=>Cb q.2:=λhl hf=>Po.b (picki_t N hk.2 hl) hf
 refine Po.i (λ_=>pk (by simp) λy hy=>hg _ hy) λ_=>Po.i (λ_=>pk (by simp) λy hy=>hg _ hy) λ_=>Po.i (λ_=>pk (by simp) λy hy=>hg _ hy) λ_=>Po.i (λ_=>pk (by simp) λy hy=>hg _ hy) λ_=>Po.i (λ_=>Po.b (eany_t N hN hk.2) λy hy=>Po.c (by have:=hm.1;simp;omega) (hg _ hy.2)) λ_=>Po.i (λ_=>Po.b (below_t N hk.2 2) λy hy=> ?_) λ_=>Po.i (λ_=> ?_) λ_=>Po.i (λ_=>hg _ hk.2) λ_=>hg _ hk.2
 ·have:=hy.1.2 (by omega)
  have:=hy.1.1
  rw[w64_id (by omega) (by omega)]
  exact Po.b (long_t N hN (by omega) (by omega)) λt ht=>hg _ hy.2
 ·refine Po.b (P:=λq:List Int×Tl01Cur=>Cb q.2) ?_ λy hy=>hg _ hy
  unfold s_l07AnyConf
  exact Po.b (conf_t N hN hk.2) λa ha=>Po.j (λv=>Cb ⟨v.1,v.2.1,v.2.2.1⟩) (λv hv=>Po.r hv) λg hg=>Po.b (below_t N ha.2 12) λb hb=>Po.i (λ_=>Po.b (picki_t N hb.2 (by simp)) λd hd=>Po.c (by have:=ha.1;simp;omega) (hg _ hd)) λ_=>Po.i (λ_=>hg _ hb.2) λ_=>hg _ hb.2
theorem drawn_t (N:Nat)(hN:Big N){c:Tl01Cur}(h:Cb c){m:List Pair}(hm:m.length<=100000)(hp:∀p∈m,PrW p):Po (s_l15Drawn_i1 N c m) λq=>Cb q.2:=by
 unfold s_l15Drawn_i1
 refine Po.b (cmd_t N h) λa ha=>Po.b (ses_t N hN hm hp) λl hl=>Po.i (λ_=>Po.r ha) λ_=>Po.i (λ_=>Po.r ha) λhl0=>Po.b (once_t N ha 6) λb hb=>Po.i (λ_=>Po.r hb) λ_=>Po.b (below_t N hb _) λd hd=>Po.a hd.1.1 (hd.1.2 (by omega)) λs _=>Po.j (λv=>Cb ⟨v.1,v.2.1,v.2.2.1⟩) (λv hv=>Po.r hv) λg hg=>Po.b (below_t N hd.2 8) λe he=>Po.i (λ_=>hg _ he.2) λ_=>Po.i (λ_=>hg _ he.2) λ_=>Po.i (λ_=>Po.i (λ_=>hg _ he.2) λ_=>hg _ he.2) λ_=>hg _ he.2
theorem tm0 {k f t T i l c:Int}{a b:Bool}:totMessage ⟨k,f,t,T,i,l,c,a,[],[],⟨#[]⟩,b⟩<=1000000:=by unfold totMessage;simp[totL,z0]
theorem lprop_t (N:Nat)(hN:Big N){c:Tl01Cur}(h:Cb c)(s:Server){m:List Pair}(hm:m.length<=100000)(hp:∀p∈m,PrW p):Po (s_l17Propose_i1 N c s m) λq=>InW q.1/\Cb q.2:=by
 unfold s_l17Propose_i1
 have k:∀{t:BA}{e:Int},t.size<=10000->InW ⟨3,0,⟨0,0,0,0,0,0,0,false,[],[],⟨#[]⟩,false⟩,e,t⟩:=λh=>⟨tm0,λ_=>Int.le_refl 0,Nat.le_trans h (by omega)⟩
 grind [Po.b,once_t,Po.i,conf_t,ctext_t,Po.r,drawn_t,cmtx_t]
theorem input_l1 (N:Nat)(hN:Big N){k:Tl17Live}(hk:k.net.length<=1000)(s:Server){c:Tl01Cur}(h:Cb c)(m:Message):Po (s_l17Input_l1 N k s N 0 c.b c.i c.h m) λv=>Cb ⟨v.1,v.2.1,v.2.2.1⟩:=by
 refine Po.l0 hN (λf i (v:List Int×Int×Int×Message)=>s_l17Input_l1 N k s f i v.1 v.2.1 v.2.2.1 v.2.2.2) k.net.length (λi v=>Cb ⟨v.1,v.2.1,v.2.2.1⟩) (by omega) (λf i v h0 hv kk=> ?_) (s:=(c.b,c.i,c.h,m)) (by omega) h
 rw[s_l17Input_l1]
 exact Po.i (λq=>Po.b (once_t N hv 5) λy hy=>Po.i (λ_=>Po.j (λ_=>True) (λx _=>kk q (y.2.b,y.2.i,y.2.h,x) hy) λg hg=>Po.a h0 q λm _=>Po.i (λ_=>Po.a h0 q λ_ _=>hg _ trivial) λ_=>hg _ trivial) λ_=>Po.r hy) λ_=>Po.r hv
theorem input_t (N:Nat)(hN:Big N){c:Tl01Cur}(h:Cb c){k:Tl17Live}(hk:k.net.length<=1000){s:Server}(hs:SW N s)(hm:(mapD s.Disk s.Shelf.Dir).length<=100000)(hp:∀p∈mapD s.Disk s.Shelf.Dir,PrW p):Po (s_l17Input N c k s) λ_=>True:=by
 unfold s_l17Input
 refine Po.b (below_t N h 4) λa ha=>Po.b (below_t N ha.2 8) λb hb=>Po.e (hs.opens.map N hN) (Po.j (λv=>Cb ⟨v.1,v.2.1,v.2.2.1⟩) (λv hv=> ?_) λg hg=> ?_)
 ·refine Po.j (λ_=>True) (λ_ _=>Po.r trivial) λg hg=>Po.b (once_t N hv 40) λy hy=>Po.i (λ_=>Po.b (picki_t N hy (Nat.succ_pos _)) λz hz=>hg _ trivial) λ_=>hg _ trivial
 ·refine Po.i (λ_=>Po.b (many_t N hN hb.2) λm hm=> ?_) λ_=>Po.i (λ_=>Po.b (lprop_t N hN hb.2 s hm hp) λy hy=>hg _ hy.2) λ_=>hg _ hb.2
  refine Po.j (λv=>Cb ⟨v.1,v.2.1,v.2.2.1⟩) ?_ λg hg=>Po.b (input_l1 N hN hk s hm m.1) λv hv=>hg _ hv
  intro v hv
  refine Po.b (once_t N hv 8) ?_
  intro y hy
  refine Po.i (λ_=> ?_) λ_=> ?_
  ·refine Po.i (λ_=> ?_) λ_=> ?_
   ·obtain⟨x,e,_⟩:=rem_lo s.Node.Id (Int.le_trans (by decide) hs.id.1) 4 (by decide)
    refine Po.e e ?_
    exact hg _ hy
   ·exact hg _ hy
  ·exact hg _ hy
def dsk (t:BA):Disk:=⟨[⟨⟨#[103,48]⟩,⟨#[]⟩⟩,⟨nLog,⟨#[3,150,44,199,116,83,0,0]⟩⟩,⟨⟨#[109]⟩,t⟩]⟩
structure New (N:Nat) (c:List Int) (t:BA):Prop where
 f:s_FormatDisk N c=some (dsk t,true)
 k:diskOk (dsk t)=true
 o:s_OpenShelf N (dsk t)=some (⟨⟨[0],1,0,0,c⟩,[],0⟩,[],0)
 l:lfile N 0 0 []=⟨#[3,150,44,199,116,83,0,0]⟩
 n:fileAt (dsk t) nLog=some ⟨#[3,150,44,199,116,83,0,0]⟩/\fileAt (dsk t) nLogP=none/\fileAt (dsk t) nVote=none/\fileAt (dsk t) nVoteP=none
theorem new1 (K:Nat):New (K+100) [1] ⟨#[1,0,1,0,0,1,1,6,196,171,82]⟩:=⟨by kernel_rfl,by kernel_rfl,by kernel_rfl,by kernel_rfl,⟨by kernel_rfl,by kernel_rfl,by kernel_rfl,by kernel_rfl⟩⟩
theorem new2 (K:Nat):New (K+100) [1,2] ⟨#[1,0,1,0,0,2,1,2,23,192,69,20]⟩:=⟨by kernel_rfl,by kernel_rfl,by kernel_rfl,by kernel_rfl,⟨by kernel_rfl,by kernel_rfl,by kernel_rfl,by kernel_rfl⟩⟩
theorem new3 (K:Nat):New (K+100) [1,2,3] ⟨#[1,0,1,0,0,3,1,2,3,89,230,82,215]⟩:=⟨by kernel_rfl,by kernel_rfl,by kernel_rfl,by kernel_rfl,⟨by kernel_rfl,by kernel_rfl,by kernel_rfl,by kernel_rfl⟩⟩
theorem new_t {N:Nat}(hN:Big N){c:List Int}(h:c=[1]\/c=[1,2]\/c=[1,2,3]):∃t,New N c t:=by
 obtain⟨K,rfl⟩:∃K,N=K+100:=⟨N-100,by unfold Big at hN;omega⟩
 rcases h with rfl|rfl|rfl
 ·exact⟨_,new1 K⟩
 ·exact⟨_,new2 K⟩
 ·exact⟨_,new3 K⟩
theorem New.sw {N:Nat}(hN:Big N){c:List Int}{t:BA}(h:New N c t){i lim:Int}(hi:1<=i/\i<=4)(hl:1<=lim/\lim<=20):Po (s_Boot N i (dsk t) lim) λq=>SW N q.1:=by
 have ho:=opens_of hN h.k h.o
 have hcl:=confOk_len (man_conf ho.sizes.1)
 have w:∀l:Int,SW N ⟨⟨i,0,0,0,0,c,⟨0,0,[]⟩,0,0,l,[],[]⟩,dsk t,⟨⟨[0],1,0,0,c⟩,[],0⟩,⟨#[]⟩,0,0⟩:=λl=>by
  have hv:=h.n.2.2.1
  refine⟨hi,ho,show logOk ⟨0,0,[]⟩=true by decide,⟨_,h.n.1,?_⟩,⟨rfl,rfl⟩,?_,h.n.2.1,h.n.2.2.2,⟨Int.le_refl 0,Int.le_refl 0⟩,⟨Int.le_refl 0,by show(0:Int)<=100000;omega,Int.le_refl 0,by show(0:Int)<=4;omega⟩,tot_nw hcl.2 (by simp) (by simp) (by simp),rfl,Nat.zero_le _⟩
  ·have:=lfile_is N hN (l:=⟨0,0,[]⟩) (by decide)
   rwa [show lfile N (Int.toNat 0) (Int.toNat 0) []=_ from h.l]at this
  grind [ftext,VoteF.empty]
 exact⟨_,(w 1).boot N hN hl,w lim⟩
def MpW (m:List Pair):Prop:=m.length<=100/\∀p∈m,PrW p
theorem SW.map {N:Nat}{s:Server}(h:SW N s):MpW (mapD s.Disk s.Shelf.Dir):=by
 have hd:=h.opens.sizes.2
 have hk:=okSpot_all hd
 simp only[dirOk,Bool.and_eq_true,DT]at hd
 have hc:=chain_all (p:=λx:Spot=>1<=x.Key.size/\x.Key.size<=10) (λo x hx=>by simp only[okSpot,Bool.and_eq_true,DT]at hx;exact hx.1) hd.2
 refine⟨by unfold mapD;rw[List.length_map];omega,λp hp=> ?_⟩
 unfold mapD at hp
 obtain⟨x,hx,rfl⟩:=List.mem_map.1 hp
 have h1:=hc x hx
 have h2:=hk.2 x hx
 exact⟨h1.1,Nat.le_trans h1.2 (by omega),Nat.le_trans (show _<=40 by rw[ByteArray.size_extract];omega) (by omega)⟩
def LsW (N:Nat)(l:List Server):Prop:=l.length=3/\∀s∈l,SW N s
def NtW (k:Int)(l:List Message):Prop:=(l.length:Int)<=k/\∀m∈l,TW m/\m.To<=3
theorem l5_t (N:Nat)(hN:Big N)(y:Server×List Raw×List Message×List Done×Int×Bool)(hy:TL 20 y.2.2.1){net:List Message}(h:NtW 20 net):Po (s_l17Play_l5 N y N 0 net) (NtW 20):=by
 have hyl:=hy.1
 refine Po.l0 hN (λf i l=>s_l17Play_l5 N y f i l) y.2.2.1.length (λi l=>NtW 20 l) (by omega) (λf i l h0 hl kk=> ?_) (by omega) h
 rw[s_l17Play_l5]
 refine Po.i (λq=>Po.i (λc=>Po.j (NtW 20) (λv hv=>kk q v hv) λg hg=>Po.a' h0 q λm hm=>Po.i (λc3=>Po.a' h0 q λm2 hm2=>Po.c (by simp;omega) (hg _ ⟨by simp;omega,λz hz=> ?_⟩)) λ_=>hg _ hl) λ_=>Po.r hl) λ_=>Po.r hl
 rw[hm]at hm2
 simp only[Option.some.injEq]at hm2
 subst hm2
 rcases List.mem_append.1 hz with hz|hz
 ·exact hl.2 z hz
 ·rw[List.mem_singleton]at hz
  subst hz
  exact⟨hy.2 _ (List.mem_of_getElem? hm),c3⟩
theorem l3_t (N:Nat)(hN:Big N){l:List Server}(h:l.length=3){a:Int}(ha:0<=a/\a<3):Po (s_l17Play_l3 N l N a 0) λv=>0<=v/\v<3:=by
 refine Po.l0 hN (λf i v=>s_l17Play_l3 N l f v i) 3 (λi v=>0<=v/\v<3) (by omega) (λf i v h0 hv kk=> ?_) (by omega) ha
 rw[s_l17Play_l3]
 exact Po.i (λq=>Po.j (λv:Int=>0<=v/\v<3) (λv hv=>kk q v hv) λg hg=>Po.a h0 (by omega) λ_ _=>Po.i (λ_=>hg _ ⟨h0,q⟩) λ_=>hg _ hv) λ_=>Po.r hv
theorem l4_t (N:Nat)(hN:Big N){l:List Server}(h:l.length=3){a:Int}(ha:0<=a/\a<3):Po (s_l17Play_l4 N l N a 0) λv=>0<=v/\v<3:=by
 refine Po.l0 hN (λf i v=>s_l17Play_l4 N l f v i) 3 (λi v=>0<=v/\v<3) (by omega) (λf i v h0 hv kk=> ?_) (by omega) ha
 rw[s_l17Play_l4]
 exact Po.i (λq=>Po.j (λv:Int=>0<=v/\v<3) (λv hv=>kk q v hv) λg hg=>Po.a h0 (by omega) λ_ _=>Po.i (λ_=>hg _ ⟨h0,q⟩) λ_=>hg _ hv) λ_=>Po.r hv
structure PS (N:Nat) (v:List Int×Int×Int×List Pair×List Server×List Message):Prop where
 c:Cb ⟨v.1,v.2.1,v.2.2.1⟩
 m:MpW v.2.2.2.1
 l:LsW N v.2.2.2.2.1
 n:NtW 20 v.2.2.2.2.2
theorem play2_t (N:Nat)(hN:Big N)(x:Int)(hx:x<=1000){v:List Int×Int×Int×List Pair×List Server×List Message}(h:PS N v):Po (s_l17Play_l2 N x N 0 v.1 v.2.1 v.2.2.1 v.2.2.2.1 v.2.2.2.2.1 v.2.2.2.2.2) λq=>Cb ⟨q.1,q.2.1,q.2.2.1⟩/\LsW N q.2.2.2.1/\NtW 20 q.2.2.2.2:=by
 refine Po.l0 hN (λf i (v:List Int×Int×Int×List Pair×List Server×List Message)=>s_l17Play_l2 N x f i v.1 v.2.1 v.2.2.1 v.2.2.2.1 v.2.2.2.2.1 v.2.2.2.2.2) x (λ_ v=>PS N v) (by omega) (λf i v h0 hv kk=> ?_) (by omega) h
 obtain⟨hc,hm,hl,hn⟩:=hv
 have hl3:=hl.1
 have hnl:=hn.1
 have in0:∀{k l:Int},InW ⟨k,l,⟨0,0,0,0,0,0,0,false,[],[],⟨#[]⟩,false⟩,0,⟨#[]⟩⟩:=⟨tm0,λ_=>Int.le_refl 0,Nat.zero_le _⟩
 rw[s_l17Play_l2]
 refine Po.i (λq=> ?_) λ_=>Po.r ⟨hc,hl,hn⟩
 refine Po.j (PS N) (λv hv=>kk q v hv) λg hg=>Po.b (below_t N hc 3) λa ha=>Po.b (below_t N ha.2 6) λb hb=> ?_
 have ha3:=ha.1.2 (by decide)
 refine Po.j (λu=>(0<=u.1/\u.1<3)/\Cb ⟨u.2.1,u.2.2.1,u.2.2.2.1⟩/\InW u.2.2.2.2.1/\NtW 20 u.2.2.2.2.2) ?_ ?_
 ·rintro⟨u1,u2,u3,u4,u5,u6⟩ ⟨k1,k2,k3,k4⟩
  refine Po.a k1.1 (by rw[hl3];exact k1.2) λs hs=> ?_
  refine Po.b (serve_t N hN (hl.2 s hs) k3) λy hy=> ?_
  refine Po.i (λ_=>hg _ ⟨k2,hm,hl,k4⟩) λc=> ?_
  obtain⟨y1,_,y3⟩:=hy (by simpa using c)
  refine Po.a k1.1 (by rw[hl3];exact k1.2) λ_ _=>Po.e (y1.opens.map N hN) (Po.b (l5_t N hN y y3 k4) λw hw=> ?_)
  refine hg _ ⟨k2,y1.map,⟨by show(v.2.2.2.2.1.set _ _).length=3;rw[List.length_set];exact hl3,λz hz=> ?_⟩,hw⟩
  exact(List.mem_or_eq_of_mem_set hz).elim (hl.2 z) λe=>e▸y1
 ·intro g2 hg2
  refine Po.b (below_t N hb.2 10) λd hd=> ?_
  have r0:0<=a.1/\a.1<3:=⟨ha.1.1,ha3⟩
  refine Po.i (λ_=>hg2 _ ⟨r0,hd.2,in0,hn⟩) λ_=>Po.i (λ_=>hg2 _ ⟨r0,hd.2,in0,hn⟩) λ_=> ?_
  refine Po.i (λ_=> ?_) λ_=>Po.i (λ_=> ?_) λ_=>Po.i (λ_=>hg2 _ ⟨r0,hd.2,in0,hn⟩) λ_=>Po.i (λ_=>hg _ ⟨hd.2,hm,hl,hn⟩) λhne=> ?_
  ·refine Po.a r0.1 (by rw[hl3];exact r0.2) λs _=> ?_
   refine Po.b (lprop_t N hN hd.2 s (Nat.le_trans hm.1 (by decide)) hm.2) λy hy=> ?_
   refine Po.b (l3_t N hN hl3 r0) λw hw=> ?_
   exact hg2 _ ⟨hw,hy.2,hy.1,hn⟩
  ·refine Po.a r0.1 (by rw[hl3];exact r0.2) λs _=> ?_
   refine Po.b (lprop_t N hN hd.2 s (Nat.le_trans hm.1 (by decide)) hm.2) λy hy=> ?_
   refine Po.b (l4_t N hN hl3 r0) λw hw=> ?_
   exact hg2 _ ⟨hw,hy.2,hy.1,hn⟩
  ·refine Po.b (below_t N hd.2 _) λe he=> ?_
   have he1:=he.1.1
   have he2:=he.1.2 (by omega)
   refine Po.a he1 he2 λm hm2=> ?_
   refine Po.a he1 he2 λm3 hm3=> ?_
   refine Po.b (once_t N he.2 8) λo ho=> ?_
   have w:=hn.2 m hm2
   have w3:=hn.2 m3 hm3
   have ht:=w3.1.1
   have hto:0<=w64 (m3.To-1)/\w64 (m3.To-1)<3:=by rw[w64_id (by omega) (by omega)];have:=w3.2;omega
   have hin:∀{l:Int},InW ⟨2,0,m,l,⟨#[]⟩⟩:=⟨by have:=w.1.2.1;show totMessage m<=_;omega,λe=>(w.1.2.2 e).1,Nat.zero_le _⟩
   refine Po.i (λ_=> ?_) λ_=>hg2 _ ⟨hto,ho,hin,hn⟩
   obtain⟨z,hz⟩:∃z:Nat,e.1=z:=⟨e.1.toNat,by omega⟩
   rw[hz]at he2⊢
   rw[Pe.take_ok (by omega),bO,Int.toNat_natCast,cat_ok (by simp;omega),bO,WS (by omega),drop_ok (by omega),bO]
   refine Po.c (by simp;omega) (hg2 _ ⟨hto,ho,hin,⟨by simp;omega,λp hp=> ?_⟩⟩)
   simp only[List.nil_append,List.mem_append]at hp
   rcases hp with hp|hp
   ·exact hn.2 p (List.mem_of_mem_take hp)
   ·exact hn.2 p (List.mem_of_mem_drop (List.mem_of_mem_take hp))
theorem play_t (N:Nat)(hN:Big N){c:Tl01Cur}(h:Cb c){x:Int}(hx:x<=1000):Po (s_l17Play N c x) λq=>(LsW N q.1.list/\NtW 20 q.1.net)/\Cb q.2:=by
 unfold s_l17Play
 refine Po.j (λv=>Cb ⟨v.1,v.2.1,v.2.2.1⟩/\(v.2.2.2=[1]\/v.2.2.2=[1,2]\/v.2.2.2=[1,2,3])) ?_ λg hg=>Po.b (once_t N h 3) λa ha=>Po.i (λ_=>hg _ ⟨ha,.inr (.inr rfl)⟩) λ_=>hg _ ⟨ha,.inr (.inl rfl)⟩
 intro v hv
 refine Po.j (λv=>Cb ⟨v.1,v.2.1,v.2.2.1⟩/\(v.2.2.2=[1]\/v.2.2.2=[1,2]\/v.2.2.2=[1,2,3])) ?_ λg hg=>Po.b (once_t N hv.1 3) λa ha=>Po.i (λ_=>hg _ ⟨ha,.inl rfl⟩) λ_=>hg _ ⟨ha,hv.2⟩
 intro v hv
 obtain⟨t,ht⟩:=new_t hN hv.2
 refine Po.e ht.f ?_
 refine Po.j (λv=>Cb ⟨v.1,v.2.1,v.2.2.1⟩/\LsW N v.2.2.2) ?_ ?_
 ·intro u hu
  refine Po.j (λq=>Cb ⟨q.1,q.2.1,q.2.2.1⟩/\LsW N q.2.2.2.1/\NtW 20 q.2.2.2.2) ?_ ?_
  ·grind [Po.r]
  ·intro g hg
   refine Po.b (play2_t N hN x hx (v:=(u.1,u.2.1,u.2.2.1,[],u.2.2.2,[])) ⟨hu.1,⟨Nat.zero_le _,by simp⟩,hu.2,⟨by show(0:Int)<=20;omega,by simp⟩⟩) ?_
   grind
 intro g hg
 refine Po.b (Po.l (λf i (v:List Int×Int×Int×List Server)=>s_l17Play_l1 N (dsk t,true) f i v.1 v.2.1 v.2.2.1 v.2.2.2) 4 (λi v=>(1<=i/\i<=4)/\Cb ⟨v.1,v.2.1,v.2.2.1⟩/\(v.2.2.2.length:Int)=i-1/\∀s∈v.2.2.2,SW N s) (by omega) ?_ N 1 (v.1,v.2.1,v.2.2.1,[]) (by omega) ⟨by omega,hv.1,by simp,by simp⟩ (by unfold Big at hN;omega) (by unfold Big at hN;omega)) λq hq=>hg _ hq
 intro f i v h0 hv kk
 obtain⟨h1,h2,h3,h4⟩:=hv
 rw[s_l17Play_l1]
 refine Po.i (λq=>Po.b (below_t N h2 4) λy hy=> ?_) λq=>Po.r ⟨h2,by show v.2.2.2.length=3;omega,h4⟩
 have y1:=hy.1.1
 have y2:=hy.1.2 (by decide)
 rw[w64_id (n:=1+y.1) (by omega) (by omega)]
 refine Po.b (ht.sw hN (i:=i) (lim:=1+y.1) (by omega) (by omega)) λs hs=>Po.c (by simp;omega) (kk (by omega) (y.2.b,y.2.i,y.2.h,v.2.2.2++[s.1]) ⟨by omega,hy.2,by simp;omega,λz hz=> ?_⟩)
 grind
theorem cur_t (N:Nat)(hN:Big N){b:List Int}(h:b.length<=1048576):Po (s_l01New N b) Cb:=by
 unfold s_l01New
 refine Po.j (λ_=>True) (λ_ _=>Po.r ⟨Int.le_refl 0,by show b.length<=_;omega⟩) λg hg=>Po.b (Po.l0 hN (λf i v=>s_l01New_l1 N b f v i) b.length (λ_ _=>True) (by omega) (λf i v h0 _ kk=> ?_) (by omega) trivial) hg
 rw[s_l01New_l1]
 refine Po.i (λq=>Po.i (λ_=>Po.a h0 q λx _=> ?_) λ_=>Po.r trivial) λ_=>Po.r trivial
 obtain⟨r,e,_⟩:=and_lo (w64 (w64 (w64 (v*131)+w64 x)+7)) 1073741823 (by decide) (by decide)
 grind
theorem steps_t (N:Nat){b:List Int}(h:b.length<=1048576):Po (s_l17Steps N b) λx=>x<=1000:=by
 unfold s_l17Steps
 obtain⟨q,e⟩:∃q,intD .quo .i64 (b.length:Int) 6=some q:=by
  unfold intD
  grind
 grind [Po.e,Po.i,Po.r]
theorem server_t (N:Nat)(hN:Big N){b:List Int}(h:b.length<=1048576):Po (s_DrawRightServer N b) λq=>SW N q.1:=by
 unfold s_DrawRightServer
 refine Po.b (cur_t N hN h) λc hc=>Po.b (steps_t N h) λx hx=>Po.b (play_t N hN hc hx) λk hk=>Po.b (below_t N hk.2 3) λa ha=>Po.a ha.1.1 (by rw[hk.1.1.1];exact ha.1.2 (by decide)) λs hs=> ?_
 have w:=hk.1.1.2 s hs
 exact Po.b (input_t N hN ha.2 (by have:=hk.1.2.1;omega) w (Nat.le_trans w.map.1 (by decide)) w.map.2) λ_ _=>Po.r w
theorem law_t (N:Nat)(hN:Big N)(b:List Int):w_FnBoots N b=some true:=by
 unfold w_FnBoots w_big
 rw[bO]
 by_cases hb:b.length<=1048576
 case neg=>rw[IP (by simp;omega)]
 rw[IQ (by simp;omega)]
 obtain⟨q,e,w⟩:=server_t N hN hb
 have hm:=w.map
 have hl:=(logOk_at w.lok).2.2.2.2.1
 rw[e,bO,w.boot_impl N hN (by omega)]
 simp[servB,nodeB,w.opens.map N hN,(same_both N hN q.1.Node.Log q.1.Node.Log (by omega) (by omega)).2,sameL_iff.2 rfl,map_self N hN (mapD q.1.Disk q.1.Shelf.Dir) (by have:=hm.1;omega),disk_self N hN q.1.Disk (by have:=disk_len w.opens.1;omega)]
theorem holds (x0:(List Int))(w0:x0.length<=maxLen/\∀y∈x0,WI .u8 y):∃N,w_FnBoots N x0=some true:=by
 obtain⟨N,hN⟩:∃N,Big N:=⟨1099511627777,by decide⟩
 exact⟨N,law_t N hN x0⟩
end Go.Proofs.YtmcbbifeekhmgaaGreatDoor.Pe.FnBoots
