import Derived.KernelRfl
import Derived.Lib.ItoaNum
import Derived.Lib.ItoaLen
import Derived.Lib.AtoiAll
import Derived.Lib.AtoiTie
import Derived.Test.YtmcbbifeekhmgaaGreatDoorPeHFnBoots
namespace Go.Proofs.YtmcbbifeekhmgaaGreatDoor.Pe.FnBoots
open Go Go.RowKit
set_option linter.unusedVariables false
set_option linter.unusedSimpArgs false
set_option maxHeartbeats 4000000
theorem bO {α β:Type}(a:α)(f:α->Option β):(some a).bind f=f a:=rfl
def totEntry (x:Entry):Nat:=ByteArray.size x.Data
def totLog (x:Log):Nat:=(totL totEntry) x.Entries
def totPeer (x:Peer):Nat:=0
def totNode (x:Node):Nat:=(totL (λ_=>0)) x.Conf+totLog x.Log+(totL (λ_=>0)) x.Votes+(totL totPeer) x.Peers
def totMessage (x:Message):Nat:=(totL totEntry) x.Entries+(totL (λ_=>0)) x.Conf+ByteArray.size x.Data
theorem wi {n:Int}(h:WI .i64 n): -9223372036854775808<=n/\n<=9223372036854775807:=by
 have:=h
 simp only[WI,Lit.wf,beq_iff_eq,DT,Bool.and_eq_true]at this
 exact this
theorem in_eq (N:Nat)(x a b:Int):s_l01In N x a b=some (decide (a<=x/\x<=b)):=by
 unfold s_l01In
 grind
theorem within_eq (N:Nat)(x a b:Int):i_within N x a b=some (decide (a<=x/\x<=b)):=by
 unfold i_within
 grind
def rise (lo hi:Int):Option Int->List Int->Bool
 |_,[]=>true
 |p,x::xs=>decide (lo<=x/\x<=hi)&&((match p with|some q=>decide (q<x)|none=>true)&&rise lo hi (some x) xs)
theorem rise_cons (lo hi:Int)(p:Option Int)(x:Int)(xs:List Int):rise lo hi p (x::xs)=(decide (lo<=x/\x<=hi)&&((match p with|some q=>decide (q<x)|none=>true)&&rise lo hi (some x) xs)):=by
 cases p<;>rfl
def confOk (c:List Int):Bool:=decide (c.length<=4)&&(decide (1<=c.length)&&rise 1 4 none c)
def prev (c:List Int)(k:Nat):Option Int:=if k=0 then none else c[k-1]?
theorem prev_succ {c:List Int}{k:Nat}(h:k<c.length):prev c (k+1)=some c[k]:=by
 simp[prev,h]
theorem rise_drop {c:List Int}{k:Nat}{lo hi:Int}(h:k<c.length):rise lo hi (prev c k) (c.drop k)=(decide (lo<=c[k]/\c[k]<=hi)&&((if k=0 then true else decide (c[k-1]'(by omega)<c[k]))&&rise lo hi (prev c (k+1)) (c.drop (k+1)))):=by
 grind [DG,rise_cons,prev_succ,prev,List.getElem?_eq_getElem]
theorem at_pred {c:List Int}{k:Nat}(h:k<c.length)(h0:k≠0)(hc:c.length<=1099511627776):at? c (w64 ((k:Int)-1))=some (c[k-1]'(by omega)):=by
 rw[w64_id (by omega) (by omega),show(k:Int)-1=((k-1:Nat):Int) by omega,at_lt]
theorem rise_r (N:Nat)(c:List Int)(lo hi:Int)(hc:c.length<=1099511627776):∀(d k:Nat),c.length=k+d->s_l07Rise_l1_r N c lo hi (c.drop k) (k:Int)=some (if rise lo hi (prev c k) (c.drop k)then .inr ()else .inl false)
 |0,k,h=>by rw[DN (by omega),s_l07Rise_l1_r];rfl
 |d+1,k,h=>by
  have hk:k<c.length:=by omega
  rw[rise_drop hk,DG hk,s_l07Rise_l1_r]
  simp only[joinP,bO,in_eq,WS (k:=k) (by omega),rise_r N c lo hi hc d (k+1) (by omega)]
  by_cases h1:lo<=c[k]/\c[k]<=hi
  ·grind [at_pred]
  ·simp[h1]
theorem rise_eq (N:Nat)(hN:Big N)(c:List Int)(lo hi:Int)(hc:c.length<=1099511627776):s_l07Rise N c lo hi=some (rise lo hi none c):=by
 unfold s_l07Rise
 simp only[joinP]
 rw[s_l07Rise_l1_eq c lo hi (by omega) (by omega),show(0:Int)=((0:Nat):Int)from rfl]
 have:=rise_r N c lo hi hc c.length 0 (by omega)
 grind [prev,rise]
theorem confOk_spec (N:Nat)(hN:Big N)(c:List Int)(hc:c.length<=1099511627776):s_ConfOk N c=some (confOk c):=by
 unfold s_ConfOk confOk
 simp only[in_eq,bO,rise_eq N hN c 1 4 hc]
 grind
theorem conf_r (N:Nat)(c:List Int)(hc:c.length<=1099511627776):∀(d k:Nat),c.length=k+d->i_ConfOk_l1_r N c (c.drop k) (k:Int)=some (if rise 1 4 (prev c k) (c.drop k)then .inr ()else .inl false)
 |0,k,h=>by rw[DN (by omega),i_ConfOk_l1_r];rfl
 |d+1,k,h=>by
  have hk:k<c.length:=by omega
  rw[rise_drop hk,DG hk,i_ConfOk_l1_r]
  simp only[joinP,bO,within_eq,WS (k:=k) (by omega),conf_r N c hc d (k+1) (by omega)]
  by_cases h1:(1:Int)<=c[k]/\c[k]<=4
  ·grind [at_pred]
  ·simp[h1]
theorem confOk_impl (N:Nat)(hN:Big N)(c:List Int)(hc:c.length<=1099511627776):i_ConfOk N c=some (confOk c):=by
 unfold i_ConfOk confOk
 simp only[joinP]
 rw[i_ConfOk_l1_eq c (by omega) (by omega),show(0:Int)=((0:Nat):Int)from rfl]
 have:=conf_r N c hc c.length 0 (by omega)
 rw[List.drop_zero]at this
 rw[this]
 simp only[prev,if_true,within_eq]
 cases rise 1 4 none c with
 |false=>simp
 |true=>
  simp only[if_true,bO,Sum.elim_inr,Bool.and_true,Option.some.injEq]
  grind
theorem confOk_len {c:List Int}(h:confOk c=true):1<=c.length/\c.length<=4:=by
 unfold confOk at h
 grind
def ints (t:BA):List Int:=t.data.toList.map λb=>(b.toNat:Int)
theorem ints_len (t:BA):(ints t).length=t.size:=by
 unfold ints
 rw[List.length_map,Array.length_toList]
 rfl
theorem sat_lt {t:BA}{k:Nat}(h:k<t.size):sat? t (k:Int)=some ((ints t)[k]'(by rw[ints_len];exact h)):=by
 unfold sat?
 rw[IP (by omega),Int.toNat_natCast,getElem?_pos t k h]
 simp only[ints,List.getElem_map,Option.map_some]
 rfl
theorem ints_w {t:BA}{k:Nat}(h:k<(ints t).length):w64 ((ints t)[k])=(ints t)[k]:=by
 have:(ints t)[k]=((t.data.toList[k]'(by rw[ints_len]at h;rw[Array.length_toList];exact h)).toNat:Int):=by simp only[ints,List.getElem_map]
 rw[this]
 have h2:=UInt8.toNat_lt (t.data.toList[k]'(by rw[ints_len]at h;rw[Array.length_toList];exact h))
 exact w64_id (by omega) (by omega)
theorem take_one {α:Type}{xs:List α}{k:Nat}(h:k<xs.length):xs.take k++[xs[k]]=xs.take (k+1):=by
 grind [List.take_add_one,List.getElem?_eq_getElem]
def readConf (t:BA):List Int×Bool:=if confOk (ints t)=true then(ints t,true)else([],false)
theorem readConf_r (N:Nat)(t:BA)(ht:t.size<=1099511627):∀(d k m:Nat),t.size=k+d->d<m->i_ReadConf_l1 N t m (k:Int) ((ints t).take k)=some (ints t)
 |0,k,m,h,hm=>by
  obtain⟨m,rfl⟩:∃q,m=q+1:=⟨m-1,by omega⟩
  rw[i_ReadConf_l1,IQ (by simp;omega),List.take_of_length_le (by rw[ints_len];omega)]
 |d+1,k,m,h,hm=>by
  obtain⟨m,rfl⟩:∃q,m=q+1:=⟨m-1,by omega⟩
  have hk:k<(ints t).length:=by rw[ints_len];omega
  rw[i_ReadConf_l1,IP (by simp;omega),sat_lt (by omega)]
  simp only[bO,ints_w hk,WS (k:=k) (by omega)]
  rw[cat_ok (by rw[List.length_take];simp only[LC,List.length_nil];omega),bO,take_one hk]
  exact readConf_r N t ht d (k+1) m (by omega) (by omega)
theorem readConf_impl (N:Nat)(hN:Big N)(t:BA)(ht:t.size<=1099511627):i_ReadConf N t=some (readConf t):=by
 unfold i_ReadConf readConf
 simp only[joinP]
 have:=readConf_r N t ht t.size 0 N (by omega) (by omega)
 grind [ints,confOk_impl,ints_len,confOk]
theorem readConf_s (N:Nat)(t:BA)(ht:t.size<=1099511627):∀(d k m:Nat),t.size=k+d->d<m->k<=5->s_ReadConf_l1 N t m (k:Int) ((ints t).take k)=some ((ints t).take 5)
 |0,k,m,h,hm,h5=>by
  obtain⟨m,rfl⟩:∃q,m=q+1:=⟨m-1,by omega⟩
  rw[s_ReadConf_l1,IQ (by simp;omega),List.take_of_length_le (by rw[ints_len];omega),List.take_of_length_le (by rw[ints_len];omega)]
 |d+1,k,m,h,hm,h5=>by
  obtain⟨m,rfl⟩:∃q,m=q+1:=⟨m-1,by omega⟩
  have hk:k<(ints t).length:=by rw[ints_len];omega
  by_cases h4:k=5
  ·subst h4
   rw[s_ReadConf_l1,IP (by simp;omega),IQ (by simp)]
  rw[s_ReadConf_l1,IP (by simp;omega),IP (by simp;omega),sat_lt (by omega)]
  simp only[bO,ints_w hk,WS (k:=k) (by omega)]
  rw[cat_ok (by rw[List.length_take];simp only[LC,List.length_nil];omega),bO,take_one hk]
  exact readConf_s N t ht d (k+1) m (by omega) (by omega) (by omega)
theorem readConf_spec (N:Nat)(hN:Big N)(t:BA)(ht:t.size<=1099511627):s_ReadConf N t=some (readConf t):=by
 unfold s_ReadConf readConf
 simp only[joinP]
 have:=readConf_s N t ht t.size 0 N (by omega) (by omega) (by omega)
 grind [ints,confOk_spec,List.length_take,List.take_of_length_le,ints_len,confOk,confOk_len]
def entOk (e:Entry):Bool:=decide (0<=e.Term/\e.Term<=100000)&&(if e.Kind=1 then decide (e.Data=(⟨#[]⟩:BA))else if e.Kind=2 then confOk (ints e.Data)else if e.Kind=3 then decide (e.Data.size<=120)else false)
theorem readConf_ok (t:BA):(readConf t).2=confOk (ints t):=by
 grind [readConf,confOk,ints]
theorem entOk_spec (N:Nat)(hN:Big N)(e:Entry)(h:e.Data.size<=1099511627):s_EntryOk N e=some (entOk e):=by
 unfold s_EntryOk entOk
 simp only[in_eq,bO,readConf_spec N hN e.Data h,readConf_ok]
 by_cases h0:0<=e.Term/\e.Term<=100000
 ·by_cases h1:e.Kind=1
  ·simp[h0,h1]
  ·by_cases h2:e.Kind=2
   ·simp[h0,h2]
   ·by_cases h3:e.Kind=3
    ·simp[h0,h3]
     omega
    grind
 ·simp[h0]
theorem entOk_impl (N:Nat)(hN:Big N)(e:Entry)(h:e.Data.size<=1099511627):i_EntryOk N e=some (entOk e):=by
 rw[<-entOk_spec N hN e h]
 unfold s_EntryOk i_EntryOk
 grind [in_eq,within_eq,readConf_spec,readConf_impl]
def termsOk:Int->List Entry->Bool
 |_,[]=>true
 |t,e::es=>entOk e&&(decide (t<=e.Term)&&termsOk e.Term es)
theorem termsOk_cons (t:Int)(e:Entry)(es:List Entry):termsOk t (e::es)=(entOk e&&(decide (t<=e.Term)&&termsOk e.Term es)):=rfl
def logOk (l:Log):Bool:=decide (0<=l.Start/\l.Start<=100000)&&(decide (0<=l.StartTerm/\l.StartTerm<=100000)&&(decide (l.Entries.length<=120)&&(decide (l.Start+l.Entries.length<=100000)&&termsOk l.StartTerm l.Entries)))
theorem logOk_s (N:Nat)(hN:Big N)(c:Log):∀(es:List Entry)(t:Int)(k:Nat),k+es.length<=1099511627->(∀e∈es,e.Data.size<=1099511627)->s_LogOk_l1_r N c es t (k:Int)=some (if termsOk t es then .inr ()else .inl false)
 |[],t,k,hk,h=>rfl
 |e::es,t,k,hk,h=>by
  simp only[LC]at hk
  rw[s_LogOk_l1_r,termsOk_cons]
  simp only[bO,entOk_spec N hN e (h e (by simp)),WS (k:=k) (by omega),logOk_s N hN c es e.Term (k+1) (by omega) (λz hz=>h z (by simp[hz]))]
  grind
theorem logOk_i (N:Nat)(hN:Big N)(c:Log):∀(es:List Entry)(t:Int)(k:Nat),k+es.length<=1099511627->(∀e∈es,e.Data.size<=1099511627)->i_LogOk_l1_r N c es t (k:Int)=some (if termsOk t es then .inr ()else .inl false)
 |[],t,k,hk,h=>rfl
 |e::es,t,k,hk,h=>by
  simp only[LC]at hk
  rw[i_LogOk_l1_r,termsOk_cons]
  simp only[bO,entOk_impl N hN e (h e (by simp)),WS (k:=k) (by omega),logOk_i N hN c es e.Term (k+1) (by omega) (λz hz=>h z (by simp[hz]))]
  grind
theorem data_le {l:Log}(h:totLog l<=1099511627):l.Entries.length<=1099511627/\∀e∈l.Entries,e.Data.size<=1099511627:=by
 simp only[totLog,totL]at h
 refine⟨by omega,λe he=> ?_⟩
 have:=le_sum (f:=totEntry) he
 grind [totEntry]
theorem logOk_spec (N:Nat)(hN:Big N)(l:Log)(h:totLog l<=1099511627):s_LogOk N l=some (logOk l):=by
 obtain⟨hl,hd⟩:=data_le h
 unfold s_LogOk logOk
 simp only[in_eq,bO,joinP]
 rw[s_LogOk_l1_eq l (by omega) (by omega),show(0:Int)=((0:Nat):Int)from rfl,logOk_s N hN l l.Entries l.StartTerm 0 (by omega) hd]
 by_cases h1:0<=l.Start/\l.Start<=100000
 ·by_cases h2:0<=l.StartTerm/\l.StartTerm<=100000
  ·by_cases h3:l.Entries.length<=120
   ·rw[w64_id (by omega) (by omega)]
    grind
   grind
  ·simp[h1,h2]
 ·simp[h1]
theorem logOk_impl (N:Nat)(hN:Big N)(l:Log)(h:totLog l<=1099511627):i_LogOk N l=some (logOk l):=by
 rw[<-logOk_spec N hN l h]
 obtain⟨hl,hd⟩:=data_le h
 unfold s_LogOk i_LogOk
 simp only[in_eq,within_eq,joinP]
 rw[s_LogOk_l1_eq l (by omega) (by omega),i_LogOk_l1_eq l (by omega) (by omega),show(0:Int)=((0:Nat):Int)from rfl,logOk_s N hN l l.Entries l.StartTerm 0 (by omega) hd,logOk_i N hN l l.Entries l.StartTerm 0 (by omega) hd]
theorem logOk_at {l:Log}(h:logOk l=true):0<=l.Start/\l.Start<=100000/\0<=l.StartTerm/\l.StartTerm<=100000/\l.Entries.length<=120/\l.Start+l.Entries.length<=100000/\termsOk l.StartTerm l.Entries=true:=by
 unfold logOk at h
 grind
def termAt (l:Log)(i:Int):Int:=if i=l.Start then l.StartTerm else match decide (l.Start<i/\i<=l.Start+l.Entries.length),l.Entries[(i-l.Start-1).toNat]? with
 |true,some e=>e.Term
 |_,_=> -1
theorem termAt_spec (N:Nat){l:Log}(hl:logOk l=true){i:Int}(hi:WI .i64 i):s_LogTerm N l i=some (termAt l i):=by
 obtain⟨a1,a2,a3,a4,a5,a6,a7⟩:=logOk_at hl
 have hw:=wi hi
 unfold s_LogTerm s_l12Last termAt
 by_cases h0:i=l.Start
 ·grind
 rw[IQ (by simpa using h0),IQ h0]
 simp only[bO]
 rw[w64_id (n:=l.Start+l.Entries.length) (by omega) (by omega)]
 by_cases h1:i<l.Start
 ·have h2:¬(l.Start<i/\i<=l.Start+l.Entries.length):=by omega
  grind
 ·rw[IQ (by simpa using h1)]
  by_cases h3:i>l.Start+l.Entries.length
  ·grind
  ·have h2:l.Start<i/\i<=l.Start+l.Entries.length:=by omega
   have h4:(i-l.Start-1).toNat<l.Entries.length:=by omega
   rw[IQ (by simpa using h3),w64_id (n:=i-l.Start) (by omega) (by omega),w64_id (by omega) (by omega),DE h2,show i-l.Start-1=(((i-l.Start-1).toNat:Nat):Int) by omega,at_lt h4]
   simp only[bO,Int.toNat_natCast,List.getElem?_eq_getElem h4]
theorem termAt_impl (N:Nat){l:Log}(hl:logOk l=true){i:Int}(hi:WI .i64 i):i_LogTerm N l i=some (termAt l i):=by
 obtain⟨a1,a2,a3,a4,a5,a6,a7⟩:=logOk_at hl
 have hw:=wi hi
 unfold i_LogTerm i_hasEntry termAt
 by_cases h0:i=l.Start
 ·grind
 rw[IQ (by simpa using h0),IQ h0]
 simp only[within_eq,bO]
 by_cases h1:i>l.Start
 ·rw[IP (by simpa using h1),bO,w64_id (n:=i-l.Start) (by omega) (by omega)]
  by_cases h3:i>l.Start+l.Entries.length
  ·grind
  ·have h2:l.Start<i/\i<=l.Start+l.Entries.length:=by omega
   have h4:(i-l.Start-1).toNat<l.Entries.length:=by omega
   rw[IP (by simp;omega),w64_id (by omega) (by omega),DE h2,show i-l.Start-1=(((i-l.Start-1).toNat:Nat):Int) by omega,at_lt h4]
   simp only[bO,Int.toNat_natCast,List.getElem?_eq_getElem h4]
 grind
def logEnd (l:Log):Int:=l.Start+l.Entries.length
def logTerm (l:Log):Int:=match l.Entries.getLast? with|some e=>e.Term|none=>l.StartTerm
theorem logLast_gen {l:Log}(hl:logOk l=true):(if((l.Entries.length:Int)==(0:Int))=true then some (l.Start,l.StartTerm)else(at? l.Entries (w64 ((l.Entries.length:Int)-(1:Int)))).bind λx=>some (w64 (l.Start+(l.Entries.length:Int)),x.Term))=some (logEnd l,logTerm l):=by
 obtain⟨a1,a2,a3,a4,a5,a6,a7⟩:=logOk_at hl
 unfold logEnd logTerm
 by_cases h:l.Entries.length=0
 ·grind
 ·rw[IQ (by simp;intro hh;rw[hh]at h;simp at h),w64_id (by omega) (by omega),w64_id (by omega) (by omega),show(l.Entries.length:Int)-1=((l.Entries.length-1:Nat):Int) by omega,at_lt (by omega),List.getLast?_eq_getElem?,List.getElem?_eq_getElem (by omega)]
  rfl
theorem logLast_spec (N:Nat){l:Log}(hl:logOk l=true):s_LogLast N l=some (logEnd l,logTerm l):=logLast_gen hl
theorem logLast_impl (N:Nat){l:Log}(hl:logOk l=true):i_LogLast N l=some (logEnd l,logTerm l):=logLast_gen hl
theorem entOk_term {e:Entry}(h:entOk e=true):0<=e.Term/\e.Term<=100000:=by
 unfold entOk at h
 grind
theorem in_sr (N:Nat)(c:List Int)(y:Int):∀(xs:List Int)(k:Nat),k+xs.length<=1099511627776->s_l09In_l1_r N c y xs (k:Int)=some (if y∈xs then .inl true else .inr ()):=by
 intro xs
 induction xs with
 |nil=>intro k _;rfl
 |cons x xs ih=>
  intro k hk
  simp only[LC]at hk
  rw[s_l09In_l1_r,bO]
  by_cases h:x=y
  ·subst h
   simp
  ·rw[IQ (by simpa using h),WS (by omega),ih (k+1) (by omega)]
   grind
theorem in_spec (N:Nat)(hN:Big N)(c:List Int)(y:Int)(h:c.length<=1099511627):s_l09In N c y=some (decide (y∈c)):=by
 unfold s_l09In joinP
 rw[s_l09In_l1_eq c y (by omega) (by have:=hN;unfold Big at this;omega)]
 have:=in_sr N c y c 0 (by omega)
 grind
theorem ent_small {e:Entry}(h:entOk e=true):e.Data.size<=120:=by
 unfold entOk at h
 simp only[Bool.and_eq_true,DT]at h
 have h2:=h.2
 by_cases k1:e.Kind=1
 ·rw[IP k1]at h2
  simp only[DT]at h2
  rw[h2]
  exact Nat.zero_le _
 grind [confOk_len,ints_len]
theorem rise_len:∀{xs:List Int}{lo hi:Int}{p:Int},rise lo hi (some p) xs=true->p<=hi->(xs.length:Int)<=hi-p
 |[],lo,hi,p,_,hp=>by simp only[List.length_nil];omega
 |x::xs,lo,hi,p,h,hp=>by
  rw[rise_cons]at h
  simp only[Bool.and_eq_true,DT]at h
  have:=rise_len h.2.2 h.1.2
  grind
theorem votes_len {xs:List Int}(h:rise 1 4 none xs=true):xs.length<=4:=by
 cases xs with
 |nil=>exact Nat.zero_le _
 |cons x xs=>
  rw[rise_cons]at h
  simp only[Bool.and_eq_true,DT]at h
  have:=rise_len h.2.2 h.1.2
  grind
theorem sum_le {α:Type}{f:α->Nat}{B:Nat}:∀{xs:List α},(∀x∈xs,f x<=B)->(xs.map f).sum<=B*xs.length
 |[],_=>by simp
 |x::xs,h=>by
  have h1:=sum_le (xs:=xs) λy hy=>h y (by simp[hy])
  have h2:=h x (by simp)
  grind [LC,Nat.mul_add]
theorem sum0 {α:Type}{f:α->Nat}(h:∀x,f x=0)(xs:List α):(xs.map f).sum=0:=by
 have:=sum_le (f:=f) (B:=0) (xs:=xs) λx _=>Nat.le_of_eq (h x)
 omega
theorem copy_spec (N:Nat)(n:Node)(h:totNode n<=1099511627):s_l16Copy N n=some n:=by
 simp only[totNode,totLog,totL]at h
 unfold s_l16Copy
 rw[cat_ok (by simp only[List.length_nil];omega),cat_ok (by simp only[List.length_nil];omega),cat_ok (by simp only[List.length_nil];omega),cat_ok (by simp only[List.length_nil];omega)]
 rfl
def behind (l:Log)(b t:Int):Log:=⟨b,t,if(logOk l&&(decide (l.Start<=b/\b<=l.Start+l.Entries.length)&&(termAt l b==t)))=true then l.Entries.drop (b-l.Start).toNat else[]⟩
theorem behind_spec (N:Nat)(hN:Big N)(l:Log)(b t:Int)(h:totLog l<=1099511627)(hb:WI .i64 b):s_LogBehind N l b t=some (behind l b t):=by
 unfold s_LogBehind behind
 simp only[joinP,logOk_spec N hN l h,bO,in_eq]
 cases hl:logOk l with
 |false=>simp
 |true=>
  obtain⟨a1,a2,a3,a4,a5,a6,a7⟩:=logOk_at hl
  rw[IP rfl]
  unfold s_l12Last
  rw[bO,w64_id (n:=l.Start+l.Entries.length) (by omega) (by omega)]
  by_cases h1:l.Start<=b/\b<=l.Start+l.Entries.length
  ·rw[IP (by simpa using h1),termAt_spec N hl hb,bO]
   by_cases h2:termAt l b=t
   ·rw[IP (by simpa using h2),w64_id (by omega) (by omega),show b-l.Start=(((b-l.Start).toNat:Nat):Int) by omega,drop_ok (by omega),bO,cat_ok (by simp only[List.length_nil,List.length_drop];omega)]
    grind
   grind
  grind
theorem behind_impl (N:Nat)(hN:Big N)(l:Log)(b t:Int)(h:totLog l<=1099511627)(hb:WI .i64 b):i_LogBehind N l b t=some (behind l b t):=by
 unfold i_LogBehind behind
 simp only[joinP,logOk_impl N hN l h,bO,within_eq]
 cases hl:logOk l with
 |false=>simp
 |true=>
  obtain⟨a1,a2,a3,a4,a5,a6,a7⟩:=logOk_at hl
  rw[IP rfl,termAt_impl N hl hb,bO]
  unfold i_last
  rw[bO,w64_id (n:=l.Start+l.Entries.length) (by omega) (by omega)]
  by_cases h2:termAt l b=t
  ·rw[IP (by simpa using h2)]
   by_cases h1:l.Start<=b/\b<=l.Start+l.Entries.length
   ·rw[IP (by simpa using h1),w64_id (by omega) (by omega),show b-l.Start=(((b-l.Start).toNat:Nat):Int) by omega,drop_ok (by omega),bO,cat_ok (by simp only[List.length_nil,List.length_drop];omega)]
    grind
   grind
  grind
def dd (u:Nat):List UInt8:=if u=0 then[]else Lib.decDigits u
theorem dd_step {u:Nat}(h:u≠0):dd u=dd (u/10)++[UInt8.ofNat (48+u%10)]:=by
 unfold dd
 rw[IQ h,Lib.decDigits]
 grind
theorem bytesRows_one (n:Int):strOf [n]=⟨#[UInt8.ofNat n.toNat]⟩:=rfl
theorem ba_cat (a b:List UInt8):(⟨a.toArray⟩:BA)++⟨b.toArray⟩=⟨(a++b).toArray⟩:=by
 apply ByteArray.ext
 simp
theorem fig_ok (N d:Nat)(h:d<10):s_l01Figure N (d:Int)=some ((48+d:Nat):Int):=by
 unfold s_l01Figure
 rw[IP (by simp;omega),w64_id (by omega) (by omega),IntKind.wrap_u8]
 congr 1
 omega
theorem dec_loop (N:Nat):∀(k m:Nat)(n:Int)(acc:List UInt8),n.natAbs<10 ^ k->k<=m-> -9223372036854775808<=n->n<=9223372036854775807->acc.length+k<=1000->s_Decimal_l1 N (m+1) n ⟨acc.toArray⟩=some ⟨(dd n.natAbs++acc).toArray⟩
 |k,m,n,acc,hm,hk,h0,h1,ha=>by
  rw[s_Decimal_l1]
  by_cases hz:n=0
  ·subst hz
   rw[IQ (by simp)]
   rfl
  rw[IP (by simpa using hz)]
  obtain⟨k,rfl⟩:∃q,k=q+1:=by
   cases k with
   |zero=>exact absurd hm (by simp;omega)
   |succ q=>exact⟨q,rfl⟩
  obtain⟨m,rfl⟩:∃q,m=q+1:=⟨m-1,by omega⟩
  obtain⟨d,hd⟩:∃d,d=n.natAbs%10:=⟨_,rfl⟩
  have hd10:d<10:=by omega
  have ht:n.tmod 10=if n<0 then-(d:Int)else d:=by
   grind
  have hq:(n.tdiv 10).natAbs=n.natAbs/10/\ -9223372036854775808<=n.tdiv 10/\n.tdiv 10<=9223372036854775807:=by
   grind
  simp only[intD]
  rw[IQ (by decide),IQ (by decide)]
  simp only[bO,joinP]
  have hw:IntKind.i64.wrap (n.tdiv 10)=n.tdiv 10:=w64_id (by omega) (by omega)
  have hwt:(if(decide (n.tmod 10<0))=true then w64 (-(n.tmod 10))else n.tmod 10)=(d:Int):=by
   rw[ht]
   by_cases hn:n<0
   ·rw[IP hn]
    by_cases h0': -(d:Int)<0
    ·rw[IP (by simpa using h0'),w64_id (by omega) (by omega)]
     omega
    grind
   grind
  have ih:=dec_loop N k m (n.tdiv 10) (UInt8.ofNat (48+d)::acc) (by rw[hq.1];rw[Nat.pow_succ]at hm;omega) (by omega) hq.2.1 hq.2.2 (by simp only[LC];omega)
  rw[hq.1]at ih
  have key:∀v:Int,v=(d:Int)->(s_l01Figure N v).bind (λy=>(scat? (strOf ([y]:List Int)) ⟨acc.toArray⟩).bind λx=>some (IntKind.i64.wrap (n.tdiv 10))|>.bind λz=>s_Decimal_l1 N (m+1) z x)=some ⟨(dd n.natAbs++acc).toArray⟩:=by
   intro v hv
   subst hv
   rw[fig_ok N d hd10,bO,bytesRows_one,Int.toNat_natCast,scat_ok (by simp only[ByteArray.size,List.size_toArray];show 1+acc.length<=_;omega),bO,bO,hw]
   grind [ba_cat,dd_step]
  by_cases hn:n.tmod 10<0
  ·rw[IP (by simpa using hn)]at hwt⊢
   exact key _ hwt
  ·rw[IQ (by simpa using hn)]at hwt⊢
   exact key _ hwt
theorem dec_spec (N:Nat)(hN:Big N)(n:Int)(h0: -9223372036854775808<=n)(h1:n<=9223372036854775807):s_Decimal N n=some ⟨(Lib.itoa n).toArray⟩:=by
 unfold s_Decimal
 by_cases hz:n=0
 ·subst hz
  rw[IP (by simp)]
  simp[Lib.itoa,Lib.decDigits]
 rw[IQ (by simpa using hz)]
 simp only[joinP]
 obtain⟨q,hq⟩:∃q,N=q+1:=⟨N-1,by unfold Big at hN;omega⟩
 have hl:=dec_loop N 20 q n [] (by omega) (by unfold Big at hN;omega) h0 h1 (by simp)
 rw[<-hq]at hl
 have e0:(⟨([]:List UInt8).toArray⟩:BA)=⟨#[]⟩:=rfl
 rw[e0]at hl
 have hd:dd n.natAbs=Lib.decDigits n.natAbs:=by unfold dd;rw[IQ (by omega)]
 rw[hl,bO,hd,List.append_nil]
 unfold Lib.itoa
 by_cases hn:n<0
 ·rw[IP (by simpa using hn),IP hn]
  have hlen:=Lib.decDigits_length n.natAbs
  have hlen2:=Lib.itoa_length_le n h0 h1
  unfold Lib.itoa at hlen2
  rw[IP hn,LC]at hlen2
  rw[scat_ok (by simp only[ByteArray.size,List.size_toArray];show 1+_<=_;omega),bO]
  grind [ba_cat]
 grind
def blt (a b:BA):Bool:=Op.bytesLess a.toList b.toList
theorem bl_irrefl:∀l:List UInt8,Op.bytesLess l l=false
 |[]=>rfl
 |a::l=>by
  have:=bl_irrefl l
  simp[Op.bytesLess,this]
theorem bl_trans:∀x y z:List UInt8,Op.bytesLess x y=true->Op.bytesLess y z=true->Op.bytesLess x z=true
 |x,y,[],h1,h2=>by cases y<;>simp[Op.bytesLess]at h2
 |x,[],c::z,h1,h2=>by cases x<;>simp[Op.bytesLess]at h1
 |[],b::y,c::z,h1,h2=>rfl
 |a::x,b::y,c::z,h1,h2=>by
  have ih:=bl_trans x y z
  simp only[Op.bytesLess,Bool.or_eq_true,DT,Bool.and_eq_true,beq_iff_eq]at h1 h2⊢
  grind
theorem bl_tri:∀x y:List UInt8,Op.bytesLess x y=true\/x=y\/Op.bytesLess y x=true
 |[],[]=>.inr (.inl rfl)
 |[],_::_=>.inl rfl
 |_::_,[]=>.inr (.inr rfl)
 |a::x,b::y=>by
  have ih:=bl_tri x y
  simp only[Op.bytesLess,Bool.or_eq_true,DT,Bool.and_eq_true,beq_iff_eq,List.cons.injEq]
  grind
theorem ba_ext {a b:BA}(h:a.toList=b.toList):a=b:=by
 grind [ByteArray.toList_eq,ByteArray.ext,Array.toList_inj]
theorem blt_irrefl (a:BA):blt a a=false:=bl_irrefl _
theorem blt_trans {a b c:BA}(h1:blt a b=true)(h2:blt b c=true):blt a c=true:=bl_trans _ _ _ h1 h2
theorem blt_tri (a b:BA):blt a b=true\/a=b\/blt b a=true:=by
 rcases bl_tri a.toList b.toList with h|h|h
 ·exact .inl h
 ·exact .inr (.inl (ba_ext h))
 ·exact .inr (.inr h)
theorem blt_asymm {a b:BA}(h:blt a b=true):blt b a=false:=by
 grind [blt,blt_trans,blt_irrefl]
theorem blt_ne {a b:BA}(h:blt a b=true):a≠b:=by
 rintro rfl
 grind [blt_irrefl]
theorem cmp_val:∀x y:List UInt8,Lib.compareBytes x y=if Op.bytesLess x y=true then-1 else if x=y then 0 else 1
 |[],[]=>rfl
 |[],_::_=>rfl
 |_::_,[]=>rfl
 |a::x,b::y=>by
  have ih:=cmp_val x y
  simp only[Lib.compareBytes,Op.bytesLess,Bool.or_eq_true,DT,Bool.and_eq_true,beq_iff_eq,List.cons.injEq]
  grind
theorem cmp_blt (a b:BA):Lib.compareBytes a.data.toList b.data.toList=if blt a b=true then-1 else if a=b then 0 else 1:=by
 grind [cmp_val,blt,ByteArray.toList_eq,ByteArray.ext,Array.toList_inj]
theorem dec_head (n:Nat):∃c r,Lib.decDigits n=c::r/\48<=c.toNat/\c.toNat<=57:=by
 induction n using Nat.strongRecOn with
 |_ n ih=>
  rw[Lib.decDigits]
  by_cases h:n<10
  ·rw[dif_pos h]
   refine⟨_,_,rfl,?_,?_⟩<;>(rw[UInt8.toNat_ofNat'];omega)
  ·rw[dif_neg h]
   obtain⟨c,r,e,h1,h2⟩:=ih (n/10) (by omega)
   grind
theorem pu_snoc:∀(l:List UInt8)(acc u:Nat)(c:UInt8),Lib.parseUint10 acc l=.ok u->48<=c.toNat->c.toNat<=57->u<=1000000000->Lib.parseUint10 acc (l++[c])=.ok (u*10+(c.toNat-48))
 |[],acc,u,c,h,h1,h2,h3=>by
  simp only[Lib.parseUint10]at h
  injection h with h
  subst h
  simp only[List.nil_append,Lib.parseUint10]
  grind
 |d::l,acc,u,c,h,h1,h2,h3=>by
  simp only[List.cons_append,Lib.parseUint10]at h⊢
  split at h
  ·rename_i hd
   rw[IP hd]
   split at h
   ·cases h
   ·rename_i h4
    rw[IQ h4]
    split at h
    ·cases h
    ·rename_i h5
     rw[IQ h5]
     exact pu_snoc l _ u c h h1 h2 h3
  ·cases h
theorem pu_dec (n:Nat)(hn:n<=1000000000):Lib.parseUint10 0 (Lib.decDigits n)=.ok n:=by
 induction n using Nat.strongRecOn with
 |_ n ih=>
  rw[Lib.decDigits]
  by_cases h:n<10
  ·rw[dif_pos h]
   simp only[Lib.parseUint10]
   have:(UInt8.ofNat (48+n)).toNat=48+n:=by rw[UInt8.toNat_ofNat'];omega
   grind
  ·rw[dif_neg h]
   have:(UInt8.ofNat (48+n%10)).toNat=48+n%10:=by rw[UInt8.toNat_ofNat'];omega
   rw[pu_snoc _ 0 (n/10) _ (ih (n/10) (by omega) (by omega)) (by omega) (by omega) (by omega),this]
   congr 1
   omega
theorem atoi_dec (n:Nat)(hn:n<=1000000000):Lib.atoiAll (Lib.decDigits n)=.ok (n:Int):=by
 obtain⟨c,r,e,h1,h2⟩:=dec_head n
 have hp:=pu_dec n hn
 rw[e]at hp⊢
 rw[Lib.atoiAll_plain c r (by omega) (by omega)]
 unfold Lib.parseMag
 rw[IQ (by simp),hp]
 unfold Lib.signless
 grind
def rdN (t:BA):Option Nat:=match Lib.atoiAll t.data.toList with
 |.ok v=>if 0<=v/\v<=1000000000/\Lib.decDigits v.toNat=t.data.toList then some v.toNat else none
 |_=>none
theorem rdN_some {t:BA}{n:Nat}:rdN t=some n↔n<=1000000000/\t=⟨(Lib.decDigits n).toArray⟩:=by
 unfold rdN
 constructor
 ·intro h
  split at h
  ·split at h
   ·rename_i v _ hv
    cases h
    refine⟨by omega,?_⟩
    apply ByteArray.ext
    rw[hv.2.2]
   ·cases h
  ·cases h
 ·rintro⟨h1,rfl⟩
  show(match Lib.atoiAll (Lib.decDigits n).toArray.toList with|.ok v=>_|_=>_)=_
  rw[List.toList_toArray,atoi_dec n h1]
  grind
def rdec (t:BA):Int×Bool:=match rdN t with
 |some n=>((n:Int),true)
 |none=>(0,false)
structure Spl (m:List Pair) (k:BA) (A B:List Pair):Prop where
 eq:m=A++B
 lo:∀p∈A,blt p.Key k=true
 hi:∀p∈B,blt p.Key k=false
 up:∀p∈B.tail,blt k p.Key=true
theorem filt_all {α:Type}{f:α->Bool}{l:List α}(h:∀x∈l,f x=true):l.filter f=l:=List.filter_eq_self.2 h
theorem filt_none {α:Type}{f:α->Bool}{l:List α}(h:∀x∈l,f x=false):l.filter f=[]:=List.filter_eq_nil_iff.2 λx hx=>by simp[h x hx]
def ok1 (b:Bool):Bool⊕Unit:=match b with|true=>.inr ()|false=>.inl false
theorem key_spec (N:Nat)(t:BA):s_l05Key N t=some (decide (1<=t.size/\t.size<=10)):=by
 unfold s_l05Key s_l01In
 by_cases h:1<=t.size
 ·rw[IP (by simp;omega),bO]
  congr 1
  grind
 grind
theorem key_impl (N:Nat)(t:BA):i_keyOk N t=some (decide (1<=t.size/\t.size<=10)):=by
 unfold i_keyOk i_within
 by_cases h:1<=t.size
 ·rw[IP (by simp;omega),bO]
  congr 1
  grind
 grind
def dgt:List UInt8->Nat->Option Nat
 |[],n=>some n
 |c::r,n=>if 48<=c.toNat/\c.toNat<=57 then dgt r (10*n+(c.toNat-48))else none
theorem dgt_snoc:∀(l:List UInt8)(c:UInt8)(a u:Nat),dgt l a=some u->48<=c.toNat->c.toNat<=57->dgt (l++[c]) a=some (10*u+(c.toNat-48))
 |[],c,a,u,h,h1,h2=>by
  cases h
  simp[dgt,h1,h2]
 |d::l,c,a,u,h,h1,h2=>by
  rw[dgt]at h
  rw[List.cons_append,dgt]
  split at h
  ·rename_i hd
   rw[IP hd]
   exact dgt_snoc l c _ u h h1 h2
  ·cases h
theorem dgt_dec (n:Nat):dgt (Lib.decDigits n) 0=some n:=by
 induction n using Nat.strongRecOn with
 |_ n ih=>
  rw[Lib.decDigits]
  by_cases h:n<10
  ·rw[dif_pos h]
   have:(UInt8.ofNat (48+n)).toNat=48+n:=by rw[UInt8.toNat_ofNat'];omega
   grind [dgt]
  ·rw[dif_neg h]
   have:(UInt8.ofNat (48+n%10)).toNat=48+n%10:=by rw[UInt8.toNat_ofNat'];omega
   rw[dgt_snoc _ _ _ _ (ih (n/10) (by omega)) (by omega) (by omega),this]
   congr 1
   omega
theorem dec_len:∀(k n:Nat),n<10 ^ (k+1)->(Lib.decDigits n).length<=k+1
 |0,n,h=>by
  rw[Lib.decDigits,dif_pos (by omega)]
  simp
 |k+1,n,h=>by
  rw[Lib.decDigits]
  split
  ·simp
  ·have:=dec_len k (n/10) (by rw[Nat.pow_succ]at h;omega)
   grind
theorem dec_len10 {n:Nat}(h:n<=1000000000):(Lib.decDigits n).length<=10:=dec_len 9 n (by omega)
theorem itoa_nat (n:Nat):Lib.itoa (n:Int)=Lib.decDigits n:=by
 unfold Lib.itoa
 grind
theorem dgt_lt:∀(l:List UInt8)(k n v:Nat),dgt l n=some v->n<10 ^ k->v<10 ^ (k+l.length)
 |[],k,n,v,h,hn=>by
  cases h
  simpa using hn
 |c::l,k,n,v,h,hn=>by
  rw[dgt]at h
  split at h
  ·rename_i hd
   have:=dgt_lt l (k+1) _ v h (by rw[Nat.pow_succ];omega)
   grind
  ·cases h
theorem sat_at {t:BA}{k:Nat}{c:UInt8}{r:List UInt8}(h:t.data.toList.drop k=c::r):sat? t (k:Int)=some (c.toNat:Int):=by
 unfold sat?
 rw[IP (by omega),Int.toNat_natCast]
 have hk:k<t.data.toList.length:=by
  grind [Nat.lt_or_ge,DN]
 have h1:t.data.toList[k]? =some c:=by
  have:(t.data.toList.drop k)[0]? =some c:=by rw[h];rfl
  grind
 have hs:k<t.size:=by
  rw[Array.length_toList]at hk
  exact hk
 rw[getElem?_pos t k hs]
 have h2:t.data[k]'hs=c:=by
  grind
 have h3:t[k]=c:=h2
 rw[h3]
 rfl
theorem rd_loop (N:Nat)(t:BA)(ht:t.size<=10):∀(d k n m:Nat),t.size=k+d->d<m->n<10 ^ k->s_ReadDecimal_l1 N t m (n:Int) (k:Int)=some (match dgt (t.data.toList.drop k) n with|none=>.inl (0,false)|some v=>.inr (v:Int))
 |0,k,n,m,hk,hm,hn=>by
  obtain⟨m,rfl⟩:∃q,m=q+1:=⟨m-1,by omega⟩
  rw[s_ReadDecimal_l1,IQ (by simp;omega),DN (by rw[Array.length_toList];show t.size<=k;omega)]
  rfl
 |d+1,k,n,m,hk,hm,hn=>by
  obtain⟨m,rfl⟩:∃q,m=q+1:=⟨m-1,by omega⟩
  have hlt:k<t.data.toList.length:=by rw[Array.length_toList];show k<t.size;omega
  obtain⟨c,r,hc⟩:∃c r,t.data.toList.drop k=c::r:=⟨_,_,DG hlt⟩
  have hr:r=t.data.toList.drop (k+1):=by
   grind [DG,List.cons.injEq]
  have hp:(10:Nat) ^ k<=10 ^ 9:=Nat.pow_le_pow_right (by decide) (by omega)
  have hc8:c.toNat<256:=c.toNat_lt
  rw[s_ReadDecimal_l1,IP (by simp;omega)]
  simp only[sat_at hc,bO]
  rw[hc,dgt]
  by_cases h1:48<=c.toNat
  ·by_cases h2:c.toNat<=57
   ·rw[IQ (by simp;omega),IQ (by simp;omega),IP ⟨h1,h2⟩]
    have e:w64 (w64 (w64 (10*(n:Int))+w64 (c.toNat:Int))-48)=((10*n+(c.toNat-48):Nat):Int):=by
     rw[w64_id (n:=10*(n:Int)) (by omega) (by omega),w64_id (n:=(c.toNat:Int)) (by omega) (by omega),w64_id (n:=10*(n:Int)+c.toNat) (by omega) (by omega),w64_id (by omega) (by omega)]
     omega
    rw[e,WS (by omega),rd_loop N t ht d (k+1) _ m (by omega) (by omega) (by rw[Nat.pow_succ];omega),hr]
   grind
  grind
theorem rdec_spec (N:Nat)(hN:Big N)(t:BA):s_ReadDecimal N t=some (rdec t):=by
 unfold s_ReadDecimal rdec
 by_cases hs:t.size<=10
 ·rw[IQ (by simp;omega)]
  simp only[joinP]
  have e:=rd_loop N t hs t.size 0 0 N (by omega) (by unfold Big at hN;omega) (by decide)
  rw[List.drop_zero]at e
  rw[show(0:Int)=((0:Nat):Int)from rfl,e]
  cases hr:rdN t with
  |some n=>
   obtain⟨h1,rfl⟩:=rdN_some.1 hr
   have:dgt (ByteArray.mk (Lib.decDigits n).toArray).data.toList 0=some n:=by
    show dgt (Lib.decDigits n).toArray.toList 0=_
    rw[List.toList_toArray,dgt_dec]
   grind [dec_spec,itoa_nat]
  |none=>
   grind [dgt,dgt_lt,Nat.pow_le_pow_right,Array.length_toList,dec_spec,itoa_nat,rdN_some]
 ·rw[IP (by simp;omega)]
  cases hr:rdN t with
  |none=>rfl
  |some n=>
   obtain⟨h1,rfl⟩:=rdN_some.1 hr
   have:=dec_len10 h1
   have hz:(ByteArray.mk (Lib.decDigits n).toArray).size=(Lib.decDigits n).length:=List.size_toArray
   omega
theorem rdec_impl (N:Nat)(t:BA)(ht:t.size<=1099511627):i_ReadDecimal N t=some (rdec t):=by
 unfold i_ReadDecimal rdec?
 rw[IP (by omega)]
 congr 1
 unfold rdecN rdec rdN
 simp only[itoaL_eq]
 cases h:Lib.atoiAll t.data.toList with
 |ok v=>
  simp only
  by_cases h0:0<=v
  ·obtain⟨n,rfl⟩:∃n:Nat,v=n:=⟨v.toNat,by omega⟩
   rw[itoa_nat,Int.toNat_natCast]
   by_cases h1:(n:Int)<=1000000000
   ·by_cases h2:Lib.decDigits n=t.data.toList
    ·have h3:(⟨(Lib.decDigits n).toArray⟩:BA)=t:=by
      rw[h2]
     grind
    grind
   grind
  grind
 |range=>rfl
 |_=>rfl
theorem ext_toList (t:BA)(i j:Nat)(hij:i<=j)(hj:j<=t.size):(t.extract i j).data.toList=(t.data.toList.drop i).take (j-i):=by
 grind [ByteArray.data_extract,Array.toList_extract]
theorem ext_size (t:BA)(i j:Nat)(hij:i<=j)(hj:j<=t.size):(t.extract i j).size=j-i:=by
 grind [ByteArray.size_extract]
theorem ba_ext' {a b:BA}(h:a.data.toList=b.data.toList):a=b:=ByteArray.ext (Array.toList_inj.1 h)
theorem stake_ok {t:BA}{k:Nat}(h:k<=t.size):stake? t (k:Int)=some (t.extract 0 k):=by
 unfold stake?
 grind
theorem sdrop_ok {t:BA}{k:Nat}(h:k<=t.size):sdrop? t (k:Int)=some (t.extract k t.size):=by
 unfold sdrop?
 grind
theorem scut_ok {t:BA}{i j:Nat}(h:i<=j)(h2:j<=t.size):scut? t (i:Int) (j:Int)=some (t.extract i j):=by
 unfold scut?
 grind
structure Tsession where
 number:Int
 seq:Int
 index:Int
 reply:BA
theorem ext_full (t:BA):t.extract 0 t.size=t:=by
 apply ba_ext'
 rw[ext_toList t 0 t.size (by omega) (Nat.le_refl _),List.drop_zero,List.take_of_length_le (by rw[Array.length_toList];exact Nat.le_refl _)]
theorem scat_le {t u:BA}(h:t.size+u.size<=9223372036854775807):scat? t u=some (t++u):=IP h
theorem rows_push (ns:List Int)(acc:BA):ns.foldl (λr n=>r.push (UInt8.ofNat n.toNat)) acc=⟨acc.data++(ns.map λn=>UInt8.ofNat n.toNat).toArray⟩:=by
 induction ns generalizing acc with
 |nil=>simp
 |cons n ns ih=>
  rw[List.foldl_cons,ih]
  apply ByteArray.ext
  simp[ByteArray.push]
theorem strOf_data (ns:List Int):strOf ns=⟨(ns.map λn=>UInt8.ofNat n.toNat).toArray⟩:=by
 show ns.foldl _ _=_
 rw[rows_push]
 apply ByteArray.ext
 simp
theorem strOf_cat (a b:List Int):strOf (a++b)=strOf a++strOf b:=by
 grind [strOf_data,ba_cat]
theorem strOf_ints (t:BA):strOf (intsOf t)=t:=by
 rw[strOf_data]
 unfold intsOf
 apply ByteArray.ext
 rw[List.map_map]
 have:∀l:List UInt8,l.map ((λn:Int=>UInt8.ofNat n.toNat)∘λb:UInt8=>(b.toNat:Int))=l:=by
  intro l
  induction l with
  |nil=>rfl
  |cons x l ih=>
   rw[List.map_cons,ih]
   congr 1
   show UInt8.ofNat ((x.toNat:Int)).toNat=x
   rw[Int.toNat_natCast]
   exact UInt8.ofNat_toNat
 rw[this]
def enc (n:Nat):List UInt8:=if h:n<128 then[UInt8.ofNat n]else UInt8.ofNat (n%128+128)::enc (n/128)
termination_by n
decreasing_by omega
theorem enc_lo {n:Nat}(h:n<128):enc n=[UInt8.ofNat n]:=by rw[enc,dif_pos h]
theorem enc_hi {n:Nat}(h:¬n<128):enc n=UInt8.ofNat (n%128+128)::enc (n/128):=by rw[enc,dif_neg h]
theorem enc_pos (n:Nat):1<=(enc n).length:=by
 rw[enc]
 split<;>simp
theorem enc_len:∀(k n:Nat),n<128 ^ (k+1)->(enc n).length<=k+1
 |0,n,h=>by rw[enc_lo (by omega)];simp
 |k+1,n,h=>by
  by_cases h1:n<128
  ·rw[enc_lo h1];simp
  ·rw[enc_hi h1,LC]
   have:=enc_len k (n/128) (by rw[Nat.pow_succ]at h;omega)
   omega
theorem enc_len5 {n:Nat}(h:n<=1000000000):(enc n).length<=5:=enc_len 4 n (by omega)
def rv:List UInt8->Nat->Nat->Option (Nat×Nat)
 |[],_,_=>none
 |c::r,j,n=>if 5<=j then none else if c.toNat<128 then some (n+c.toNat%128*128 ^ j,j+1)else rv r (j+1) (n+c.toNat%128*128 ^ j)
def valB:List UInt8->Nat
 |[]=>0
 |c::r=>c.toNat%128+128*valB r
def whl:List UInt8->Prop
 |[]=>False
 |[c]=>c.toNat<128
 |c::r=>128<=c.toNat/\whl r
theorem whl_cons {c:UInt8}{r:List UInt8}(hr:r≠[]):whl (c::r)↔128<=c.toNat/\whl r:=by
 cases r with
 |nil=>exact absurd rfl hr
 |cons d r=>rfl
theorem whl_ne {d:List UInt8}(h:whl d):d≠[]:=by
 rintro rfl
 exact h
theorem rv_whl:∀(l:List UInt8)(j n m k:Nat),rv l j n=some (m,k)->j<k/\k<=5/\k-j<=l.length/\whl (l.take (k-j))/\m=n+128 ^ j*valB (l.take (k-j))
 |[],j,n,m,k,h=>by cases h
 |c::r,j,n,m,k,h=>by
  rw[rv]at h
  split at h
  ·cases h
  ·split at h
   ·rename_i h1 h2
    simp only[Option.some.injEq,Prod.mk.injEq]at h
    obtain⟨rfl,rfl⟩:=h
    rw[show j+1-j=1 by omega,List.take_succ_cons,List.take_zero]
    refine⟨by omega,by omega,by simp,h2,?_⟩
    simp only[valB]
    grind
   ·rename_i h1 h2
    obtain⟨a,b,c1,d,e⟩:=rv_whl r (j+1) _ m k h
    have hk:k-j=(k-(j+1))+1:=by omega
    grind [LC,whl_cons,whl_ne,valB,Nat.pow_succ,Nat.mul_add,Nat.mul_comm,Nat.add_assoc,Nat.mul_assoc]
theorem enc_val:∀d:List UInt8,whl d->(enc (valB d)).length=d.length->enc (valB d)=d
 |[],h,_=>by cases h
 |[c],h,_=>by
  have hc:c.toNat<128:=h
  simp only[valB]
  rw[Nat.mul_zero,Nat.add_zero,Nat.mod_eq_of_lt hc,enc_lo hc,UInt8.ofNat_toNat]
 |c::d::r,h,hl=>by
  have h1:128<=c.toNat:=h.1
  have h2:whl (d::r):=h.2
  rw[valB]at hl⊢
  have hc:=c.toNat_lt
  by_cases h3:c.toNat%128+128*valB (d::r)<128
  ·grind [enc_lo]
  ·rw[enc_hi h3]at hl⊢
   have e1:(c.toNat%128+128*valB (d::r))%128=c.toNat%128:=by omega
   have e2:(c.toNat%128+128*valB (d::r))/128=valB (d::r):=by omega
   rw[e1,e2]at hl⊢
   rw[enc_val (d::r) h2 (by simpa using hl)]
   congr 1
   apply UInt8.toNat_inj.1
   rw[UInt8.toNat_ofNat']
   omega
theorem whl_enc:∀n:Nat,whl (enc n)/\valB (enc n)=n:=by
 intro n
 induction n using Nat.strongRecOn with
 |_ n ih=>
  by_cases h:n<128
  ·rw[enc_lo h]
   have:(UInt8.ofNat n).toNat=n:=by rw[UInt8.toNat_ofNat'];omega
   exact⟨by show(UInt8.ofNat n).toNat<128;omega,by simp only[valB,this];omega⟩
  ·rw[enc_hi h]
   obtain⟨a,b⟩:=ih (n/128) (by omega)
   have:(UInt8.ofNat (n%128+128)).toNat=n%128+128:=by rw[UInt8.toNat_ofNat'];omega
   grind [whl_cons,whl_ne,valB]
theorem rv_of_whl:∀(d r:List UInt8)(j n:Nat),whl d->j+d.length<=5->rv (d++r) j n=some (n+128 ^ j*valB d,j+d.length)
 |[],r,j,n,h,_=>by cases h
 |[c],r,j,n,h,hl=>by
  have hc:c.toNat<128:=h
  grind [LC,List.length_nil,rv,valB,Nat.mul_comm]
 |c::d::r',r,j,n,h,hl=>by
  have h1:128<=c.toNat:=h.1
  have h2:whl (d::r'):=h.2
  rw[LC]at hl
  rw[List.cons_append,rv,IQ (by simp only[LC]at hl;omega),IQ (by omega),rv_of_whl (d::r') r (j+1) _ h2 (by omega)]
  grind [valB,Nat.pow_succ,Nat.mul_add,Nat.mul_comm,Nat.mul_assoc,LC]
theorem rv_enc (n:Nat)(r:List UInt8)(h:n<=1000000000):rv (enc n++r) 0 0=some (n,(enc n).length):=by
 grind [whl_enc,rv_of_whl,enc_len5]
def rdv (l:List UInt8):Option (Nat×Nat):=match rv l 0 0 with
 |some (n,k)=>if n<=1000000000/\(enc n).length=k then some (n,k)else none
 |none=>none
theorem rdv_some {l:List UInt8}{n k:Nat}:rdv l=some (n,k)↔n<=1000000000/\k=(enc n).length/\l.take k=enc n/\k<=l.length:=by
 unfold rdv
 constructor
 ·intro h
  split at h
  ·rename_i m k' hr
   split at h
   ·rename_i h1
    simp only[Option.some.injEq,Prod.mk.injEq]at h
    obtain⟨rfl,rfl⟩:=h
    obtain⟨a,b,c,d,e⟩:=rv_whl l 0 0 m k' hr
    rw[Nat.sub_zero]at c d e
    rw[Nat.pow_zero,Nat.one_mul,Nat.zero_add]at e
    grind [enc_val,List.length_take]
   ·cases h
  ·cases h
 grind [enc,List.length_take,Nat.min_eq_left,List.take_append_drop,rv_enc]
def encI (n:Nat):List Int:=(enc n).map λc=>(c.toNat:Int)
abbrev encT (n:Nat):BA:=⟨(enc n).toArray⟩
theorem strOf_encI (n:Nat):strOf (encI n)=encT n:=by
 rw[strOf_data]
 congr 1
 unfold encI
 rw[List.map_map]
 congr 1
 have:∀l:List UInt8,l.map ((λn:Int=>UInt8.ofNat n.toNat)∘λc:UInt8=>(c.toNat:Int))=l:=by
  intro l
  induction l with
  |nil=>rfl
  |cons a l ih=>rw[List.map_cons,ih];congr 1;simp
 exact this _
theorem encT_size (n:Nat):(encT n).size=(enc n).length:=List.size_toArray
theorem s_l01Var_loop (N:Nat):∀(k m n:Nat)(acc:List Int),n<128 ^ (k+1)->k<m->acc.length+k<=1000->n<=1099511627776->
  ∃(v:Int)(l:List Int),s_l01Var_l1 N m (n:Int) acc=some (v,l)/\cat? l [IntKind.wrap .u8 v]=some (acc++encI n)
 |k,m,n,acc,hn,hm,ha,hb=>by
  obtain⟨m,rfl⟩:∃q,m=q+1:=⟨m-1,by omega⟩
  rw[s_l01Var_l1]
  by_cases h:n<128
  ·rw[IQ (by simp;omega)]
   refine⟨_,_,rfl,?_⟩
   have e:IntKind.wrap .u8 (n:Int)=(n:Int):=by rw[IntKind.wrap_u8];omega
   rw[e,show cat? acc [(n:Int)]=some (acc++[(n:Int)])from IP (by simp;omega)]
   unfold encI
   rw[enc_lo h]
   have:(UInt8.ofNat n).toNat=n:=by rw[UInt8.toNat_ofNat'];omega
   grind
  ·obtain⟨k,rfl⟩:∃q,k=q+1:=by
    cases k with
    |zero=>exact absurd hn (by simp;omega)
    |succ q=>exact⟨q,rfl⟩
   rw[IP (by simp;omega)]
   have e1:intD .rem .i64 (n:Int) 128=some ((n%128:Nat):Int):=by
    simp only[intD]
    grind
   have e2:intD .quo .i64 (n:Int) 128=some ((n/128:Nat):Int):=by
    simp only[intD]
    rw[IQ (by decide),Int.tdiv_eq_ediv_of_nonneg (by omega),IntKind.wrap_i64]
    grind
   have e3:IntKind.wrap .u8 (w64 (((n%128:Nat):Int)+128))=((n%128+128:Nat):Int):=by
    rw[w64_id (by omega) (by omega),IntKind.wrap_u8]
    omega
   rw[e1,bO,e3,show cat? acc [((n%128+128:Nat):Int)]=some (acc++[((n%128+128:Nat):Int)])from IP (by simp;omega),bO,e2,bO]
   obtain⟨v,l,h1,h2⟩:=s_l01Var_loop N k m (n/128) (acc++[((n%128+128:Nat):Int)]) (by rw[Nat.pow_succ]at hn;omega) (by omega) (by simp;omega) (by omega)
   refine⟨v,l,h1,?_⟩
   rw[h2]
   unfold encI
   rw[enc_hi h]
   have:(UInt8.ofNat (n%128+128)).toNat=n%128+128:=by rw[UInt8.toNat_ofNat'];omega
   grind
theorem i_VarText_loop (N:Nat):∀(k m n:Nat)(acc:List Int),n<128 ^ (k+1)->k<m->acc.length+k<=1000->n<=1099511627776->
  ∃(v:Int)(l:List Int),i_VarText_l1 N m (n:Int) acc=some (v,l)/\cat? l [IntKind.wrap .u8 v]=some (acc++encI n)
 |k,m,n,acc,hn,hm,ha,hb=>by
  obtain⟨m,rfl⟩:∃q,m=q+1:=⟨m-1,by omega⟩
  rw[i_VarText_l1]
  by_cases h:n<128
  ·rw[IQ (by simp;omega)]
   refine⟨_,_,rfl,?_⟩
   have e:IntKind.wrap .u8 (n:Int)=(n:Int):=by rw[IntKind.wrap_u8];omega
   rw[e,show cat? acc [(n:Int)]=some (acc++[(n:Int)])from IP (by simp;omega)]
   unfold encI
   rw[enc_lo h]
   have:(UInt8.ofNat n).toNat=n:=by rw[UInt8.toNat_ofNat'];omega
   grind
  ·obtain⟨k,rfl⟩:∃q,k=q+1:=by
    cases k with
    |zero=>exact absurd hn (by simp;omega)
    |succ q=>exact⟨q,rfl⟩
   rw[IP (by simp;omega)]
   have e1:intD .rem .i64 (n:Int) 128=some ((n%128:Nat):Int):=by
    simp only[intD]
    grind
   have e2:intD .quo .i64 (n:Int) 128=some ((n/128:Nat):Int):=by
    simp only[intD]
    rw[IQ (by decide),Int.tdiv_eq_ediv_of_nonneg (by omega),IntKind.wrap_i64]
    grind
   have e3:IntKind.wrap .u8 (w64 (((n%128:Nat):Int)+128))=((n%128+128:Nat):Int):=by
    rw[w64_id (by omega) (by omega),IntKind.wrap_u8]
    omega
   rw[e1,bO,e3,show cat? acc [((n%128+128:Nat):Int)]=some (acc++[((n%128+128:Nat):Int)])from IP (by simp;omega),bO,e2,bO]
   obtain⟨v,l,h1,h2⟩:=i_VarText_loop N k m (n/128) (acc++[((n%128+128:Nat):Int)]) (by rw[Nat.pow_succ]at hn;omega) (by omega) (by simp;omega) (by omega)
   refine⟨v,l,h1,?_⟩
   rw[h2]
   unfold encI
   rw[enc_hi h]
   have:(UInt8.ofNat (n%128+128)).toNat=n%128+128:=by rw[UInt8.toNat_ofNat'];omega
   grind
theorem var_spec (N:Nat)(hN:Big N)(n:Nat)(h:n<=1099511627776):s_l01Var N (n:Int)=some (encT n):=by
 unfold s_l01Var
 simp only[joinP]
 obtain⟨v,l,h1,h2⟩:=s_l01Var_loop N 9 N n [] (by omega) (by unfold Big at hN;omega) (by simp) h
 grind [strOf_encI]
theorem var_impl (N:Nat)(hN:Big N)(n:Nat)(h:n<=1099511627776):i_VarText N (n:Int)=some (if n<=1000000000 then(encT n,true)else(⟨#[]⟩,false)):=by
 unfold i_VarText
 rw[within_eq,bO]
 by_cases h1:n<=1000000000
 ·have e:decide (0<=(n:Int)/\(n:Int)<=1000000000)=true:=by simp;omega
  rw[e,IP h1,IQ (by decide)]
  simp only[joinP]
  obtain⟨v,l,h1,h2⟩:=i_VarText_loop N 9 N n [] (by omega) (by unfold Big at hN;omega) (by simp) h
  grind [strOf_encI]
 grind
def rdvT (t:BA)(a:Nat):Option (Nat×Nat):=rdv (t.data.toList.drop a)
def rdR (t:BA)(a:Nat):Int×Int×Bool:=match rdvT t a with
 |some (n,k)=>((n:Int),((a+k:Nat):Int),true)
 |none=>(0,0,false)
def outR (a:Nat):Option (Nat×Nat)->(Int×Int×Bool)⊕Unit
 |none=>.inr ()
 |some (n,k)=>.inl (if n<=1000000000/\(enc n).length=k then((n:Int),((a+k:Nat):Int),true)else(0,0,false))
theorem outR_ok (t:BA)(a:Nat):(match outR a (rv (t.data.toList.drop a) 0 0)with|.inl x=>x|.inr ()=>(0,0,false))=rdR t a:=by
 grind [rdR,rdvT,rdv,outR,rv,enc]
theorem take_eq {t:BA}{a n k:Nat}(h:rv (t.data.toList.drop a) 0 0=some (n,k)):a+k<=t.size/\(encT n=t.extract a (a+k)↔(enc n).length=k):=by
 obtain⟨_,b,c,d,e⟩:=rv_whl _ 0 0 n k h
 rw[Nat.sub_zero]at c d e
 rw[Nat.pow_zero,Nat.one_mul,Nat.zero_add]at e
 have hlen:t.data.toList.length=t.size:=Array.length_toList
 rw[List.length_drop,hlen]at c
 have hk:0<k:=by omega
 have hs:a+k<=t.size:=by omega
 have hx:(t.extract a (a+k)).data.toList=(t.data.toList.drop a).take k:=by
  grind [ext_toList]
 have hl:((t.data.toList.drop a).take k).length=k:=by rw[List.length_take,List.length_drop,hlen];omega
 refine⟨hs,λh=> ?_,λh=> ?_⟩
 ·grind
 ·apply ba_ext'
  rw[hx]
  show(enc n).toArray.toList=_
  rw[List.toList_toArray]
  grind [enc_val]
theorem rv_step {t:BA}{i j acc:Nat}(hi:i<t.size):∃c:UInt8,sat? t (i:Int)=some (c.toNat:Int)/\(j<5->rv (t.data.toList.drop i) j acc=if c.toNat<128 then some (acc+c.toNat%128*128 ^ j,j+1)else rv (t.data.toList.drop (i+1)) (j+1) (acc+c.toNat%128*128 ^ j)):=by
 have hlt:i<t.data.toList.length:=by rw[Array.length_toList];exact hi
 have hc:=DG hlt
 generalize t.data.toList[i]=c at hc
 exact⟨c,sat_at hc,λhj=>by rw[hc,rv,IQ (by omega)]⟩
theorem rv_end {t:BA}{i j acc:Nat}(hi:t.size<=i):rv (t.data.toList.drop i) j acc=none:=by
 rw[DN (by rw[Array.length_toList];exact hi)]
 rfl
theorem rv_five {l:List UInt8}{acc:Nat}:rv l 5 acc=none:=by
 cases l with
 |nil=>rfl
 |cons c r=>rw[rv,IP (by omega)]
theorem rem128 (c:Nat):intD .rem .i64 (c:Int) 128=some ((c%128:Nat):Int):=by
 simp only[intD]
 grind
theorem rvS_loop (N:Nat)(hN:Big N)(t:BA)(a:Nat)(ht:t.size<=1099511627)(ha:a<=t.size):∀(d j m acc:Nat),5=j+d->d<m->acc<128 ^ j->a+j<=t.size->rv (t.data.toList.drop a) 0 0=rv (t.data.toList.drop (a+j)) j acc->
  s_ReadVar_l1 N t (a:Int) m (acc:Int) ((128 ^ j:Nat):Int) ((a+j:Nat):Int)=some (outR a (rv (t.data.toList.drop a) 0 0))
 |0,j,m,acc,hj,hm,hacc,has,hr=>by
  obtain⟨m,rfl⟩:∃q,m=q+1:=⟨m-1,by omega⟩
  have:j=5:=by omega
  subst this
  rw[hr,rv_five,s_ReadVar_l1,w64_id (n:=(a:Int)+5) (by omega) (by omega)]
  split
  ·rw[IQ (by simp only[DT];omega)];rfl
  ·rfl
 |d+1,j,m,acc,hj,hm,hacc,has,hr=>by
  obtain⟨m,rfl⟩:∃q,m=q+1:=⟨m-1,by omega⟩
  have hp:(128:Nat) ^ j<=128 ^ 4:=Nat.pow_le_pow_right (by decide) (by omega)
  have hp0:0<(128:Nat) ^ j:=Nat.pow_pos (by decide)
  rw[s_ReadVar_l1,w64_id (n:=(a:Int)+5) (by omega) (by omega)]
  by_cases hs:a+j<t.size
  ·obtain⟨c,hc,hst⟩:=rv_step (j:=j) (acc:=acc) hs
   have hc8:c.toNat<256:=c.toNat_lt
   have hst:=hst (by omega)
   rw[IP (by simp only[DT];omega),IP (by simp only[DT];omega)]
   simp only[hc,bO]
   rw[w64_id (n:=(c.toNat:Int)) (by omega) (by omega),rem128]
   simp only[bO]
   have hmul:c.toNat%128*128 ^ j+128 ^ j<=128*128 ^ j:=by
    have:=Nat.mul_le_mul_right (128 ^ j) (show c.toNat%128+1<=128 by omega)
    grind
   generalize hP:(128:Nat) ^ j=P at*
   have e1:((c.toNat%128:Nat):Int)*((P:Nat):Int)=((c.toNat%128*P:Nat):Int):=by rw[Int.natCast_mul]
   have e2:w64 ((acc:Int)+w64 (((c.toNat%128:Nat):Int)*((P:Nat):Int)))=((acc+c.toNat%128*P:Nat):Int):=by
    rw[e1,w64_id (n:=((c.toNat%128*P:Nat):Int)) (by omega) (by omega),w64_id (by omega) (by omega)]
    omega
   rw[e2,WS (by omega)]
   by_cases hlo:c.toNat<128
   ·rw[IP (by simp only[DT];omega)]
    rw[IP hlo]at hst
    rw[hr,hst]
    have hz:=take_eq (hr.trans hst)
    simp only[outR]
    by_cases hbig:acc+c.toNat%128*P<=1000000000
    ·rw[IQ (by simp only[DT];omega),var_spec N hN _ (by omega),bO,scut_ok (by omega) (by omega),bO]
     grind
    grind
   ·rw[IQ (by simp only[DT];omega)]
    rw[IQ hlo]at hst
    have e3:w64 (((P:Nat):Int)*128)=((128 ^ (j+1):Nat):Int):=by
     rw[w64_id (by omega) (by omega),Nat.pow_succ,hP,Int.natCast_mul]
     rfl
    rw[e3]
    exact rvS_loop N hN t a ht ha d (j+1) m _ (by omega) (by omega) (by rw[Nat.pow_succ,hP];omega) (by omega) (hr.trans (by rw[hst,Nat.add_assoc]))
  ·rw[IQ (by simp only[DT];omega),hr,rv_end (by omega)]
   rfl
theorem rvI_loop (N:Nat)(hN:Big N)(t:BA)(a:Nat)(ht:t.size<=1099511627)(ha:a<=t.size):∀(d j m acc:Nat),5=j+d->d<m->acc<128 ^ j->a+j<=t.size->rv (t.data.toList.drop a) 0 0=rv (t.data.toList.drop (a+j)) j acc->
  i_ReadVar_l1 N t (a:Int) m (acc:Int) (j:Int)=some (outR a (rv (t.data.toList.drop a) 0 0))
 |0,j,m,acc,hj,hm,hacc,has,hr=>by
  obtain⟨m,rfl⟩:∃q,m=q+1:=⟨m-1,by omega⟩
  have:j=5:=by omega
  subst this
  rw[hr,rv_five,i_ReadVar_l1,IQ (by decide)]
  rfl
 |d+1,j,m,acc,hj,hm,hacc,has,hr=>by
  obtain⟨m,rfl⟩:∃q,m=q+1:=⟨m-1,by omega⟩
  have hp:(128:Nat) ^ j<=128 ^ 4:=Nat.pow_le_pow_right (by decide) (by omega)
  have hp0:0<(128:Nat) ^ j:=Nat.pow_pos (by decide)
  rw[i_ReadVar_l1,IP (by simp only[DT];omega)]
  have ew:w64 ((a:Int)+(j:Int))=((a+j:Nat):Int):=by rw[w64_id (by omega) (by omega)];omega
  rw[ew]
  by_cases hs:a+j<t.size
  ·obtain⟨c,hc,hst⟩:=rv_step (j:=j) (acc:=acc) hs
   have hc8:c.toNat<256:=c.toNat_lt
   have hst:=hst (by omega)
   rw[IP (by simp only[DT];omega)]
   simp only[hc,bO]
   rw[w64_id (n:=(c.toNat:Int)) (by omega) (by omega),rem128]
   simp only[bO]
   have hsh:intSh .shl .i64 ((c.toNat%128:Nat):Int) (w64 (7*(j:Int)))=some ((c.toNat%128*128 ^ j:Nat):Int):=by
    have hj5:j=0\/j=1\/j=2\/j=3\/j=4:=by omega
    have hx:c.toNat%128<128:=by omega
    generalize c.toNat%128=x at hx
    rcases hj5 with rfl|rfl|rfl|rfl|rfl
    ·simp only[intSh]
     rw[w64_id (by decide) (by decide),IQ (by decide),show(min (7*((0:Nat):Int)).toNat IntKind.i64.bits)=0 from rfl,IntKind.wrap_i64]
     refine congrArg some ?_
     omega
    ·simp only[intSh]
     rw[w64_id (by decide) (by decide),IQ (by decide),show(min (7*((1:Nat):Int)).toNat IntKind.i64.bits)=7 from rfl,IntKind.wrap_i64]
     grind
    ·simp only[intSh]
     rw[w64_id (by decide) (by decide),IQ (by decide),show(min (7*((2:Nat):Int)).toNat IntKind.i64.bits)=14 from rfl,IntKind.wrap_i64]
     grind
    ·simp only[intSh]
     rw[w64_id (by decide) (by decide),IQ (by decide),show(min (7*((3:Nat):Int)).toNat IntKind.i64.bits)=21 from rfl,IntKind.wrap_i64]
     grind
    ·simp only[intSh]
     rw[w64_id (by decide) (by decide),IQ (by decide),show(min (7*((4:Nat):Int)).toNat IntKind.i64.bits)=28 from rfl,IntKind.wrap_i64]
     grind
   rw[hsh]
   simp only[bO]
   have hmul:c.toNat%128*128 ^ j+128 ^ j<=128*128 ^ j:=by
    have:=Nat.mul_le_mul_right (128 ^ j) (show c.toNat%128+1<=128 by omega)
    grind
   generalize hP:(128:Nat) ^ j=P at*
   have e2:w64 ((acc:Int)+((c.toNat%128*P:Nat):Int))=((acc+c.toNat%128*P:Nat):Int):=by
    rw[w64_id (by omega) (by omega)]
    omega
   rw[e2]
   by_cases hlo:c.toNat<128
   ·rw[IP (by simp only[DT];omega),var_impl N hN _ (by omega),bO]
    rw[IP hlo]at hst
    rw[hr,hst]
    simp only[outR]
    rw[WS (k:=j) (by omega),WS (k:=a+j) (by omega)]
    grind [BN,BF,enc,encT_size]
   ·rw[IQ (by simp only[DT];omega),WS (k:=j) (by omega)]
    rw[IQ hlo]at hst
    exact rvI_loop N hN t a ht ha d (j+1) m _ (by omega) (by omega) (by rw[Nat.pow_succ,hP];omega) (by omega) (hr.trans (by rw[hst,Nat.add_assoc]))
  ·rw[IQ (by simp only[DT];omega),hr,rv_end (by omega)]
   rfl
theorem rvar_spec (N:Nat)(hN:Big N)(t:BA)(a:Nat)(ht:t.size<=1099511627)(ha:a<=t.size):s_ReadVar N t (a:Int)=some (rdR t a):=by
 unfold s_ReadVar
 rw[in_eq,bO]
 have e:decide (0<=(a:Int)/\(a:Int)<=(t.size:Int))=true:=by simp;omega
 rw[e,IQ (by decide)]
 simp only[joinP]
 have:=rvS_loop N hN t a ht ha 5 0 N 0 rfl (by unfold Big at hN;omega) (by decide) (by omega) rfl
 rw[Nat.pow_zero,Nat.add_zero]at this
 grind [outR_ok,outR,rv]
theorem rvar_impl (N:Nat)(hN:Big N)(t:BA)(a:Nat)(ht:t.size<=1099511627)(ha:a<=t.size):i_ReadVar N t (a:Int)=some (rdR t a):=by
 unfold i_ReadVar
 rw[within_eq,bO]
 have e:decide (0<=(a:Int)/\(a:Int)<=(t.size:Int))=true:=by simp;omega
 rw[e,IQ (by decide)]
 simp only[joinP]
 have:=rvI_loop N hN t a ht ha 5 0 N 0 rfl (by unfold Big at hN;omega) (by decide) (by omega) rfl
 grind [outR_ok,outR,rv]
def pv (t:BA)(a:Nat):Option (Nat×Nat):=match rdvT t a with
 |some (n,k)=>some (n,a+k)
 |none=>none
def ps (t:BA)(a:Nat):Option (BA×Nat):=match pv t a with
 |some (n,b)=>if n<=t.size-b then some (t.extract b (b+n),b+n)else none
 |none=>none
theorem pv_some {t:BA}{a n b:Nat}(ha:a<=t.size)(h:pv t a=some (n,b)):n<=1000000000/\a<=b/\b<=t.size/\encT n=t.extract a b:=by
 unfold pv rdvT at h
 cases hr:rdv (t.data.toList.drop a)with
 |none=>rw[hr]at h;cases h
 |some q=>
  obtain⟨m,k⟩:=q
  rw[hr]at h
  simp only[Option.some.injEq,Prod.mk.injEq]at h
  obtain⟨rfl,rfl⟩:=h
  obtain⟨h1,h2,h3,h4⟩:=rdv_some.1 hr
  have hlen:t.data.toList.length=t.size:=Array.length_toList
  rw[List.length_drop,hlen]at h4
  refine⟨h1,by omega,by omega,?_⟩
  apply ba_ext'
  grind [ext_toList,Nat.add_sub_cancel_left]
theorem ext_app (t:BA)(a b c:Nat)(h1:a<=b)(h2:b<=c)(h3:c<=t.size):t.extract a b++t.extract b c=t.extract a c:=by
 apply ba_ext'
 rw[ByteArray.data_append,Array.toList_append,ext_toList t a b h1 (by omega),ext_toList t b c h2 h3,ext_toList t a c (by omega) h3]
 have:c-a=(b-a)+(c-b):=by omega
 grind [List.drop_drop]
theorem ps_some {t s:BA}{a b:Nat}(ha:a<=t.size)(h:ps t a=some (s,b)):a<=b/\b<=t.size/\encT s.size++s=t.extract a b/\s.size<=t.size:=by
 unfold ps at h
 cases hr:pv t a with
 |none=>rw[hr]at h;cases h
 |some q=>
  obtain⟨n,c⟩:=q
  rw[hr]at h
  simp only at h
  split at h
  ·rename_i h5
   simp only[Option.some.injEq,Prod.mk.injEq]at h
   obtain⟨rfl,rfl⟩:=h
   obtain⟨h1,h2,h3,h4⟩:=pv_some ha hr
   grind [ext_size,ext_app]
  ·cases h
theorem sv_ok (N:Nat)(hN:Big N)(t:BA)(a:Nat)(ht:t.size<=1099511627)(ha:a<=t.size):s_l05Var N ⟨t,a,false⟩=some (match pv t a with|some (n,b)=>((n:Int),⟨t,b,false⟩)|none=>(0,⟨t,a,true⟩)):=by
 unfold s_l05Var
 grind [rvar_spec,pv,rdR,rdvT]
theorem sv_bad (N:Nat)(hN:Big N)(t:BA)(a:Nat)(ht:t.size<=1099511627)(ha:a<=t.size):s_l05Var N ⟨t,a,true⟩=some (0,⟨t,a,true⟩):=by
 unfold s_l05Var
 grind [rvar_spec]
theorem nv_ok (N:Nat)(hN:Big N)(t:BA)(a:Nat)(ht:t.size<=1099511627)(ha:a<=t.size):r_num N ⟨t,a,false⟩=some (match pv t a with|some (n,b)=>((n:Int),⟨t,b,false⟩)|none=>(0,⟨t,a,true⟩)):=by
 unfold r_num
 grind [rvar_impl,pv,rdR,rdvT]
theorem nv_bad (N:Nat)(hN:Big N)(t:BA)(a:Nat)(ht:t.size<=1099511627)(ha:a<=t.size):r_num N ⟨t,a,true⟩=some (0,⟨t,a,true⟩):=by
 unfold r_num
 grind [rvar_impl]
theorem take_ok (N:Nat)(t:BA)(a n:Nat)(ht:t.size<=1099511627)(ha:a<=t.size)(hn:n<=1000000000):s_l05Take N ⟨t,a,false⟩ (n:Int)=some (if n<=t.size-a then(t.extract a (a+n),⟨t,(a+n:Nat),false⟩)else(⟨#[]⟩,⟨t,a,true⟩)):=by
 unfold s_l05Take
 simp only[BF,↓reduceIte]
 rw[w64_id (n:=(t.size:Int)-(a:Int)) (by omega) (by omega)]
 by_cases h:n<=t.size-a
 ·have e1:w64 ((a:Int)+(n:Int))=((a+n:Nat):Int):=by rw[w64_id (by omega) (by omega)];omega
  have e2:w64 (((a+n:Nat):Int)-(n:Int))=(a:Int):=by rw[w64_id (by omega) (by omega)];omega
  rw[IQ (by simp only[DT];omega),e1,e2,scut_ok (by omega) (by omega),bO,IP h]
 grind
theorem take_bad (N:Nat)(t:BA)(a:Int)(n:Int):s_l05Take N ⟨t,a,true⟩ n=some (⟨#[]⟩,⟨t,a,true⟩):=rfl
theorem ss_ok (N:Nat)(hN:Big N)(t:BA)(a:Nat)(ht:t.size<=1099511627)(ha:a<=t.size):∃x,s_l05ReadShort N ⟨t,a,false⟩=some x/\match ps t a with|some (s,b)=>x=(s,⟨t,b,false⟩)|none=>∃b:Nat,b<=t.size/\x=(⟨#[]⟩,⟨t,b,true⟩):=by
 unfold s_l05ReadShort
 rw[sv_ok N hN t a ht ha,bO]
 unfold ps
 cases hp:pv t a with
 |none=>exact⟨_,rfl,a,ha,rfl⟩
 |some q=>
  obtain⟨n,b⟩:=q
  obtain⟨h1,h2,h3,h4⟩:=pv_some ha hp
  simp only
  rw[take_ok N t b n ht h3 h1,bO]
  grind
theorem ss_bad (N:Nat)(hN:Big N)(t:BA)(a:Nat)(ht:t.size<=1099511627)(ha:a<=t.size):s_l05ReadShort N ⟨t,a,true⟩=some (⟨#[]⟩,⟨t,a,true⟩):=by
 unfold s_l05ReadShort
 rw[sv_bad N hN t a ht ha]
 rfl
theorem tx_ok (N:Nat)(hN:Big N)(t:BA)(a:Nat)(ht:t.size<=1099511627)(ha:a<=t.size):∃x,r_text N ⟨t,a,false⟩=some x/\match ps t a with|some (s,b)=>if s.size<=20000 then x=(s,⟨t,b,false⟩)else x=(⟨#[]⟩,⟨t,a,true⟩)|none=>x=(⟨#[]⟩,⟨t,a,true⟩):=by
 unfold r_text i_ReadShort
 simp only
 rw[rvar_impl N hN t a ht ha,bO]
 unfold ps
 cases hp:pv t a with
 |none=>
  grind [rdR,pv,rdvT]
 |some q=>
  obtain⟨n,b⟩:=q
  obtain⟨h1,h2,h3,h4⟩:=pv_some ha hp
  have hr:rdR t a=((n:Int),(b:Int),true):=by
   grind [pv,rdR,rdvT,Option.some.injEq,Prod.mk.injEq]
  rw[hr]
  simp only[BN,BF,↓reduceIte]
  rw[w64_id (n:=(t.size:Int)-(b:Int)) (by omega) (by omega)]
  by_cases h:n<=t.size-b
  ·rw[IP h]
   simp only
   rw[ext_size t b (b+n) (by omega) (by omega),show b+n-b=n by omega]
   by_cases h5:n<=20000
   ·have e1:w64 ((b:Int)+(n:Int))=((b+n:Nat):Int):=by rw[w64_id (by omega) (by omega)];omega
    rw[IQ (by simp only[DT];omega),IQ (by simp only[DT];omega),e1,scut_ok (by omega) (by omega)]
    exact⟨_,rfl,by rw[IP h5]⟩
   ·rw[IP (by simp only[DT];omega)]
    exact⟨_,rfl,by rw[IQ h5]⟩
  ·rw[IQ h]
   grind
theorem tx_bad (N:Nat)(hN:Big N)(t:BA)(a:Nat)(ht:t.size<=1099511627)(ha:a<=t.size):r_text N ⟨t,a,true⟩=some (⟨#[]⟩,⟨t,a,true⟩):=by
 have h:∃x,i_ReadShort N t a=some x:=by
  unfold i_ReadShort
  rw[rvar_impl N hN t a ht ha,bO]
  cases hb:(rdR t a).2.2 with
  |false=>exact⟨_,rfl⟩
  |true=>
   simp only[BN,BF,↓reduceIte]
   obtain⟨n,b,e⟩:∃n b,pv t a=some (n,b):=by
    grind [rdR,pv,rdvT]
   obtain⟨h1,h2,h3,h4⟩:=pv_some ha e
   have hr:rdR t a=((n:Int),(b:Int),true):=by
    grind [pv,rdR,rdvT,Option.some.injEq,Prod.mk.injEq]
   rw[hr]
   simp only
   split
   ·exact⟨_,rfl⟩
   ·rw[w64_id (n:=(t.size:Int)-(b:Int)) (by omega) (by omega)]
    split
    ·exact⟨_,rfl⟩
    ·rename_i h6
     simp only[DT]at h6
     have e1:w64 ((b:Int)+(n:Int))=((b+n:Nat):Int):=by rw[w64_id (by omega) (by omega)];omega
     rw[e1,scut_ok (by omega) (by omega)]
     exact⟨_,rfl⟩
 obtain⟨x,hx⟩:=h
 unfold r_text
 grind
theorem short_ok (N:Nat)(hN:Big N)(s:BA)(h:s.size<=1000):s_l05Short N s=some (encT s.size++s):=by
 unfold s_l05Short
 grind [enc_len5,encT_size,var_spec,scat_le]
theorem xor_u32 (a b:Int):∃r,intD .xor .u32 a b=some r/\0<=r/\r<4294967296:=by
 refine⟨_,rfl,?_,?_⟩<;>(rw[IntKind.wrap_u32];omega)
theorem sum8 (N:Nat):∀(d k m:Nat)(s:Int),8=k+d->d<m->0<=s->s<4294967296->∃r,s_SumMore_l2 N m s (k:Int)=some r/\i_SumMore_l2 N m s (k:Int)=some r/\0<=r/\r<4294967296
 |0,k,m,s,hk,hm,h0,h1=>by
  obtain⟨m,rfl⟩:∃q,m=q+1:=⟨m-1,by omega⟩
  rw[s_SumMore_l2,i_SumMore_l2,IQ (by simp only[DT];omega),IQ (by simp only[DT];omega)]
  grind
 |d+1,k,m,s,hk,hm,h0,h1=>by
  obtain⟨m,rfl⟩:∃q,m=q+1:=⟨m-1,by omega⟩
  rw[s_SumMore_l2,i_SumMore_l2,IP (by simp only[DT];omega),IP (by simp only[DT];omega)]
  have e1:intD .rem .u32 s 2=some (s.tmod 2):=rfl
  have e2:intD .quo .u32 s 2=some (s/2):=by
   simp only[intD]
   rw[IQ (by decide),Int.tdiv_eq_ediv_of_nonneg h0,IntKind.wrap_u32]
   refine congrArg some ?_
   omega
  obtain⟨x,e3,x0,x1⟩:=xor_u32 (s/2) 3558460437
  simp only[joinP,e1,e2,e3,bO,WS (show k<9223372036854775807 by omega)]
  by_cases h:(s.tmod 2==1)=true
  ·rw[IP h,IP h]
   exact sum8 N d (k+1) m x (by omega) (by omega) x0 x1
  ·rw[IQ h,IQ h]
   exact sum8 N d (k+1) m (s/2) (by omega) (by omega) (by omega) (by omega)
theorem sum_loop (N:Nat)(hN:Big N)(t:BA)(ht:t.size<=1099511627):∀(d k m:Nat)(s:Int),t.size=k+d->d<m->0<=s->s<4294967296->∃r,s_SumMore_l1 N t m s (k:Int)=some r/\i_SumMore_l1 N t m s (k:Int)=some r/\0<=r/\r<4294967296
 |0,k,m,s,hk,hm,h0,h1=>by
  obtain⟨m,rfl⟩:∃q,m=q+1:=⟨m-1,by omega⟩
  rw[s_SumMore_l1,i_SumMore_l1,IQ (by simp only[DT];omega),IQ (by simp only[DT];omega)]
  grind
 |d+1,k,m,s,hk,hm,h0,h1=>by
  obtain⟨m,rfl⟩:∃q,m=q+1:=⟨m-1,by omega⟩
  rw[s_SumMore_l1,i_SumMore_l1,IP (by simp only[DT];omega),IP (by simp only[DT];omega)]
  obtain⟨c,hc,_⟩:=rv_step (t:=t) (i:=k) (j:=0) (acc:=0) (by omega)
  obtain⟨x,e3,x0,x1⟩:=xor_u32 s (IntKind.wrap .u32 (c.toNat:Int))
  obtain⟨y,f1,f2,y0,y1⟩:=sum8 N 8 0 N x rfl (by unfold Big at hN;omega) x0 x1
  rw[show((0:Nat):Int)=0 from rfl]at f1 f2
  simp only[joinP,hc,e3,f1,f2,bO,WS (show k<9223372036854775807 by omega)]
  exact sum_loop N hN t ht d (k+1) m y (by omega) (by omega) y0 y1
theorem sum_ok (N:Nat)(hN:Big N)(t:BA)(ht:t.size<=1099511627):∃s,s_SumOf N t=some s/\i_SumOf N t=some s/\0<=s/\s<4294967296:=by
 obtain⟨r,e1,e2,h0,h1⟩:=sum_loop N hN t ht t.size 0 N 4294967295 (by omega) (by unfold Big at hN;omega) (by decide) (by decide)
 rw[show((0:Nat):Int)=0 from rfl]at e1 e2
 refine⟨r,?_,?_,h0,h1⟩
 ·unfold s_SumOf s_SumMore
  simp only[joinP,e1,bO]
 ·unfold i_SumOf i_SumMore
  simp only[joinP,e2,bO]
theorem shr_ok (s:Int)(k:Int)(hk:0<=k):∃r,intSh .shr .u32 s k=some r:=by
 simp only[intSh]
 rw[IQ (by omega)]
 exact⟨_,rfl⟩
def fourN (N:Nat)(t:BA):BA:=match s_SumOf N t with
 |some s=>(match s_l02Four N s with|some b=>b|none=>⟨#[]⟩)
 |none=>⟨#[]⟩
theorem four_ok (N:Nat)(hN:Big N)(t:BA)(ht:t.size<=1099511627):∃s a b c,s_SumOf N t=some s/\i_SumOf N t=some s/\s_l02Four N s=some (fourN N t)/\(fourN N t).size=4/\
  intSh .shr .u32 s 24=some a/\intSh .shr .u32 s 16=some b/\intSh .shr .u32 s 8=some c/\strOf ([IntKind.wrap .u8 a,IntKind.wrap .u8 b,IntKind.wrap .u8 c,IntKind.wrap .u8 s]:List Int)=fourN N t:=by
 obtain⟨s,e1,e2,_,_⟩:=sum_ok N hN t ht
 obtain⟨a,ea⟩:=shr_ok s 24 (by decide)
 obtain⟨b,eb⟩:=shr_ok s 16 (by decide)
 obtain⟨c,ec⟩:=shr_ok s 8 (by decide)
 have e3:s_l02Four N s=some (strOf ([IntKind.wrap .u8 a,IntKind.wrap .u8 b,IntKind.wrap .u8 c,IntKind.wrap .u8 s]:List Int)):=by
  unfold s_l02Four
  grind
 have e4:fourN N t=strOf ([IntKind.wrap .u8 a,IntKind.wrap .u8 b,IntKind.wrap .u8 c,IntKind.wrap .u8 s]:List Int):=by
  grind [fourN]
 refine⟨s,a,b,c,e1,e2,by rw[e3,e4],by rw[e4,strOf_data];rfl,ea,eb,ec,e4.symm⟩
def frm (N:Nat)(t:BA):BA:=encT t.size++fourN N t++t
theorem four_size (N:Nat)(hN:Big N)(t:BA)(ht:t.size<=1099511627):(fourN N t).size=4:=by
 grind [four_ok]
theorem frm_size (N:Nat)(hN:Big N)(t:BA)(ht:t.size<=1099511627):(frm N t).size=(enc t.size).length+4+t.size:=by
 grind [frm,BZ,encT_size,four_size]
theorem frame_spec (N:Nat)(hN:Big N)(t:BA)(ht:t.size<=1099511627):s_Frame N t=some (if 1<=t.size/\t.size<=9000 then(frm N t,true)else(⟨#[]⟩,false)):=by
 unfold s_Frame
 rw[in_eq,bO]
 by_cases h:1<=t.size/\t.size<=9000
 ·have e:decide ((1:Int)<=(t.size:Int)/\(t.size:Int)<=9000)=true:=by simp only[DT];omega
  obtain⟨s,a,b,c,e1,_,e3,e4,_⟩:=four_ok N hN t ht
  have z:=encT_size t.size
  have y:=enc_len5 (n:=t.size) (by omega)
  rw[e,IP h]
  simp only[BN,BF,↓reduceIte]
  rw[var_spec N hN t.size (by omega),bO,e1,bO,e3,bO,scat_le (by omega),bO,scat_le (by rw[BZ];omega),bO]
  rfl
 grind
theorem frame_impl (N:Nat)(hN:Big N)(t:BA)(ht:t.size<=1099511627):i_Frame N t=some (if 1<=t.size/\t.size<=9000 then(frm N t,true)else(⟨#[]⟩,false)):=by
 unfold i_Frame
 rw[within_eq,bO]
 by_cases h:1<=t.size/\t.size<=9000
 ·have e:decide ((1:Int)<=(t.size:Int)/\(t.size:Int)<=9000)=true:=by simp only[DT];omega
  obtain⟨s,a,b,c,_,e1,_,e4,ea,eb,ec,e5⟩:=four_ok N hN t ht
  have z:=encT_size t.size
  have y:=enc_len5 (n:=t.size) (by omega)
  rw[e,IP h]
  simp only[BN,BF,↓reduceIte]
  rw[var_impl N hN t.size (by omega),IP (by omega)]
  simp only[e1,ea,eb,ec,bO,e5]
  rw[scat_le (by omega),bO,scat_le (by rw[BZ];omega),bO]
  rfl
 grind
def chain {α:Type}(ok:Option α->α->Bool):Option α->List α->Bool
 |_,[]=>true
 |o,x::xs=>ok o x&&chain ok (some x) xs
def oks (b:Bool):Bool⊕Unit:=match b with|true=>.inr ()|false=>.inl false
theorem take_last {α:Type}{xs:List α}{k:Nat}(hk:k<xs.length):(xs.take (k+1)).getLast?=some xs[k]:=by
 grind [List.take_succ_eq_append_getElem,List.getLast?_append]
theorem at_prev {α:Type}{xs:List α}{k:Nat}(h0:0<k)(hk:k<=xs.length)(hl:xs.length<=1099511627776):at? xs (w64 ((k:Int)-1))=(xs.take k).getLast?:=by
 obtain⟨k,rfl⟩:∃q,k=q+1:=⟨k-1,by omega⟩
 rw[take_last (by omega),w64_id (by omega) (by omega),show((k+1:Nat):Int)-1=(k:Int) by omega,at_lt (by omega)]
theorem chain_loop {α:Type}(ok:Option α->α->Bool)(f:Nat->Int->Option (Bool⊕Unit))(xs:List α)
  (hstep:∀(m k:Nat)(hk:k<xs.length),f (m+1) (k:Int)=if ok (xs.take k).getLast? xs[k]=true then f m ((k+1:Nat):Int)else some (.inl false))
  (hend:∀m,f (m+1) (xs.length:Int)=some (.inr ())):∀(d k m:Nat),xs.length=k+d->d<m->f m (k:Int)=some (oks (chain ok (xs.take k).getLast? (xs.drop k)))
 |0,k,m,hd,hm=>by
  obtain⟨m,rfl⟩:∃q,m=q+1:=⟨m-1,by omega⟩
  rw[show k=xs.length by omega,hend,List.drop_length]
  rfl
 |d+1,k,m,hd,hm=>by
  obtain⟨m,rfl⟩:∃q,m=q+1:=⟨m-1,by omega⟩
  have hk:k<xs.length:=by omega
  have ih:=chain_loop ok f xs hstep hend d (k+1) m (by omega) (by omega)
  rw[hstep m k hk,DG hk]
  by_cases h:ok (xs.take k).getLast? xs[k]=true
  ·rw[IP h,ih,take_last hk]
   simp only[chain,h,Bool.true_and]
  ·rw[IQ h]
   simp only[chain,Bool.not_eq_true]at h⊢
   rw[h]
   rfl
theorem chain_start {α:Type}(ok:Option α->α->Bool)(f:Nat->Int->Option (Bool⊕Unit))(xs:List α){N:Nat}(hN:xs.length<N)
  (hstep:∀(m k:Nat)(hk:k<xs.length),f (m+1) (k:Int)=if ok (xs.take k).getLast? xs[k]=true then f m ((k+1:Nat):Int)else some (.inl false))
  (hend:∀m,f (m+1) (xs.length:Int)=some (.inr ())):f N 0=some (oks (chain ok none xs)):=by
 have:=chain_loop ok f xs hstep hend xs.length 0 N (by omega) hN
 simpa using this
def okFile (o:Option File)(x:File):Bool:=decide (1<=(x.Name.size:Int)/\(x.Name.size:Int)<=12)&&decide (x.Text.size<=20000)&&(match o with|none=>true|some q=>blt q.Name x.Name)
def diskOk (d:Disk):Bool:=decide (d.Files.length<=30)&&chain okFile none d.Files
theorem take_none {α:Type}{xs:List α}{k:Nat}(h0:0<k)(hk:k<xs.length)(h:(xs.take k).getLast?=none):False:=by
 grind
theorem diskOk_impl_step (N:Nat)(d:Disk)(hl:d.Files.length<=1099511627)(m k:Nat)(hk:k<d.Files.length):i_DiskOk_l1 N d (m+1) (k:Int)=if okFile (d.Files.take k).getLast? d.Files[k]=true then i_DiskOk_l1 N d m ((k+1:Nat):Int)else some (.inl false):=by
 rw[i_DiskOk_l1,IP (by simp;omega),at_lt hk]
 simp only[bO,within_eq]
 rw[WS (by omega)]
 simp only[okFile]
 by_cases h1:1<=(d.Files[k].Name.size:Int)/\(d.Files[k].Name.size:Int)<=12
 case neg=>simp only[DF h1];rfl
 simp only[DE h1,BN,BF,if_false,Bool.true_and]
 by_cases h2:d.Files[k].Text.size<=20000
 case neg=>rw[IP (by simp;omega),DF h2];rfl
 rw[IQ (by simp;omega),DE h2]
 by_cases h0:0<k
 ·rw[IP (by simpa using h0),at_prev h0 (by omega) (by omega)]
  cases hq:(d.Files.take k).getLast? with
  |none=>exact(take_none h0 hk hq).elim
  |some q=>
   simp only[bO,Bool.true_and]
   grind [blt]
 grind
theorem diskOk_impl (N:Nat)(hN:Big N)(d:Disk)(hl:d.Files.length<=1099511627):i_DiskOk N d=some (diskOk d):=by
 unfold i_DiskOk diskOk
 rw[chain_start okFile (i_DiskOk_l1 N d) d.Files (by unfold Big at hN;omega) (diskOk_impl_step N d hl) (λm=>by rw[i_DiskOk_l1,IQ (by simp)])]
 cases chain okFile none d.Files
 ·simp[oks,joinP]
 ·simp only[joinP,oks,bO,Sum.elim_inr,Bool.and_true]
  congr 1
  grind
theorem diskOk_spec_step (N:Nat)(d:Disk)(hl:d.Files.length<=1099511627)(m k:Nat)(hk:k<d.Files.length):s_DiskOk_l1 N d (m+1) (k:Int)=if okFile (d.Files.take k).getLast? d.Files[k]=true then s_DiskOk_l1 N d m ((k+1:Nat):Int)else some (.inl false):=by
 rw[s_DiskOk_l1,IP (by simp;omega),at_lt hk]
 simp only[bO,in_eq,joinP]
 rw[WS (by omega)]
 simp only[okFile]
 by_cases h1:1<=(d.Files[k].Name.size:Int)/\(d.Files[k].Name.size:Int)<=12
 case neg=>simp only[DF h1];rfl
 simp only[DE h1,BN,BF,if_false,Bool.true_and]
 by_cases h2:d.Files[k].Text.size<=20000
 case neg=>rw[IP (by simp;omega),DF h2];rfl
 rw[IQ (by simp;omega),DE h2]
 by_cases h0:0<k
 ·rw[IP (by simpa using h0),at_prev h0 (by omega) (by omega)]
  cases hq:(d.Files.take k).getLast? with
  |none=>exact(take_none h0 hk hq).elim
  |some q=>
   simp only[bO,Bool.true_and]
   grind [blt]
 grind
theorem diskOk_spec (N:Nat)(hN:Big N)(d:Disk)(hl:d.Files.length<=1099511627):s_DiskOk N d=some (diskOk d):=by
 unfold s_DiskOk diskOk
 by_cases h:d.Files.length<=30
 ·rw[IQ (by simp;omega),chain_start okFile (s_DiskOk_l1 N d) d.Files (by unfold Big at hN;omega) (diskOk_spec_step N d hl) (λm=>by rw[s_DiskOk_l1,IQ (by simp)])]
  rw[DE h]
  cases chain okFile none d.Files<;>rfl
 grind
theorem mid_eq {i j:Nat}(h:i+j<=9223372036854775807):intSh .shr .u64 (IntKind.wrap .u64 (w64 ((i:Int)+(j:Int)))) 1=some (((i+j)/2:Nat):Int):=by
 have e1:w64 ((i:Int)+(j:Int))=((i+j:Nat):Int):=w64_id (by omega) (by omega)
 have e2:IntKind.wrap .u64 ((i+j:Nat):Int)=((i+j:Nat):Int):=by rw[IntKind.wrap_u64];omega
 rw[e1,e2]
 have e5:min 1 IntKind.u64.bits=1:=rfl
 simp only[intSh,e5]
 grind
theorem bs_gen {α:Type}(key:α->BA)(m:List α)(k:BA)(F:Nat->Int->Int->Option Int)(c:Nat)
  (hc:∀q (hq:q<m.length),(blt (key (m[q]'hq)) k=true↔q<c))
  (h0:∀f (i j:Nat),¬i<j->F (f+1) (i:Int) (j:Int)=some (i:Int))
  (h1:∀f (i j:Nat) (hlt:(i+j)/2<m.length),i<j->F (f+1) (i:Int) (j:Int)=if blt (key (m[(i+j)/2]'hlt)) k=true then F f (((i+j)/2+1:Nat):Int) (j:Int)else F f (i:Int) (((i+j)/2:Nat):Int)):
  ∀(f i j:Nat),i<=c->c<=j->j<=m.length->j-i<f->F f (i:Int) (j:Int)=some (c:Int)
 |0,i,j,_,_,_,h4=>by omega
 |f+1,i,j,g1,g2,g3,h4=>by
  by_cases hij:i<j
  ·have hlt:(i+j)/2<m.length:=by omega
   have hq:=hc _ hlt
   rw[h1 f i j hlt hij]
   by_cases hb:blt (key (m[(i+j)/2]'hlt)) k=true
   ·rw[IP hb]
    exact bs_gen key m k F c hc h0 h1 f _ j (by have:=hq.1 hb;omega) g2 g3 (by omega)
   ·have:¬(i+j)/2<c:=λh=>hb (hq.2 h)
    rw[IQ hb]
    exact bs_gen key m k F c hc h0 h1 f i _ g1 (by omega) (by omega) (by omega)
  grind
theorem place_of {α:Type}(key:α->BA)(k:BA):∀(m:List α),m.Pairwise (λa b=>blt (key a) (key b)=true)->∃c,c<=m.length/\(∀q (hq:q<m.length),(blt (key (m[q]'hq)) k=true↔q<c))/\(∀q (hq:q<m.length),key (m[q]'hq)=k->q=c)
 |[],_=>⟨0,Nat.le_refl _,λq hq=>absurd hq (by simp),λq hq=>absurd hq (by simp)⟩
 |x::m,h=>by
  obtain⟨hx,hm⟩:=List.pairwise_cons.1 h
  obtain⟨c,c1,c2,c3⟩:=place_of key k m hm
  cases hb:blt (key x) k with
  |true=>
   refine⟨c+1,by simp;omega,λq hq=> ?_,λq hq=> ?_⟩
   ·grind
   grind [blt_irrefl]
  |false=>
   have hall:∀y∈m,blt k (key y)=true:=by
    grind [blt_tri,blt_trans]
   refine⟨0,Nat.zero_le _,λq hq=> ?_,λq hq=> ?_⟩
   ·grind [blt_asymm,List.getElem_mem]
   grind
theorem chain_sorted {α:Type}{key:α->BA}{ok:Option α->α->Bool}(h:∀q x,ok (some q) x=true->blt (key q) (key x)=true):∀{xs:List α}{o:Option α},chain ok o xs=true->xs.Pairwise (λa b=>blt (key a) (key b)=true)/\∀q,o=some q->∀x∈xs,blt (key q) (key x)=true
 |[],o,_=>⟨.nil,λ_ _ x hx=>by simp at hx⟩
 |x::xs,o,hc=>by
  simp only[chain,Bool.and_eq_true]at hc
  obtain⟨h1,h2⟩:=chain_sorted h hc.2
  refine⟨.cons (h2 x rfl) h1,λq hq y hy=> ?_⟩
  grind [blt_trans]
theorem chain_all {α:Type}{ok:Option α->α->Bool}{p:α->Prop}(h:∀o x,ok o x=true->p x):∀{xs:List α}{o:Option α},chain ok o xs=true->∀x∈xs,p x
 |[],o,_=>λx hx=>by simp at hx
 |x::xs,o,hc=>by
  simp only[chain,Bool.and_eq_true]at hc
  intro y hy
  rcases List.mem_cons.1 hy with rfl|hy
  ·exact h o _ hc.1
  ·exact chain_all h hc.2 y hy
def nameIs (n:BA)(f:File):Bool:=decide (f.Name=n)
def fileAt (d:Disk)(n:BA):Option BA:=(d.Files.find? (nameIs n)).map File.Text
theorem l03At_r (N:Nat)(d:Disk)(n:BA):∀(l:List File)(i:Nat),i+l.length<=1099511627776->s_l03At_l1_r N d n l (i:Int)=some (match l.findIdx? (nameIs n)with|some k=>.inl ((i+k:Nat):Int)|none=>.inr ())
 |[],i,_=>rfl
 |f::l,i,hi=>by
  simp only[LC]at hi
  rw[s_l03At_l1_r,bO,List.findIdx?_cons]
  by_cases h:f.Name=n
  ·grind [nameIs]
  ·have:nameIs n f=false:=by simp[nameIs,h]
   rw[IQ (by simpa using h),this,WS (by omega),l03At_r N d n l (i+1) (by omega)]
   grind
theorem findIdx_find {α:Type}(p:α->Bool):∀l:List α,match l.findIdx? p with|some k=>∃x,l[k]? =some x/\p x=true/\l.find? p=some x|none=>l.find? p=none
 |[]=>rfl
 |x::l=>by
  have ih:=findIdx_find p l
  grind
theorem l03At_ok (N:Nat)(hN:Big N)(d:Disk)(hl:d.Files.length<=1099511627)(n:BA):∃a,s_l03At N d n=some a/\((a= -1/\fileAt d n=none)\/∃(k:Nat)(f:File),a=(k:Int)/\k<d.Files.length/\at? d.Files (k:Int)=some f/\f.Name=n/\fileAt d n=some f.Text):=by
 unfold s_l03At
 simp only[joinP]
 rw[s_l03At_l1_eq d n (by omega) (by unfold Big at hN;omega),show(0:Int)=((0:Nat):Int)from rfl,l03At_r N d n d.Files 0 (by omega)]
 have h:=findIdx_find (nameIs n) d.Files
 unfold fileAt
 cases hk:d.Files.findIdx? (nameIs n)with
 |none=>
  grind
 |some k=>
  rw[hk]at h
  obtain⟨x,h1,h2,h3⟩:=h
  refine⟨_,rfl,.inr ⟨k,x,by rw[Nat.zero_add],(List.getElem?_eq_some_iff.1 h1).1,?_,by simpa[nameIs]using h2,by rw[h3];rfl⟩⟩
  unfold at?
  grind
theorem l03Text_ok (N:Nat)(hN:Big N)(d:Disk)(hl:d.Files.length<=1099511627)(n:BA):s_l03Text N d n=some ((fileAt d n).getD ⟨#[]⟩):=by
 unfold s_l03Text
 obtain⟨a,h1,h2⟩:=l03At_ok N hN d hl n
 grind
def fileR (d:Disk)(n:BA):BA×Bool:=match fileAt d n with
 |some t=>(t,true)
 |none=>(⟨#[]⟩,false)
theorem fileAt_spec (N:Nat)(hN:Big N)(d:Disk)(hl:d.Files.length<=1099511627)(hd:diskOk d=true)(n:BA):s_FileAt N d n=some (fileR d n):=by
 unfold s_FileAt fileR
 obtain⟨a,h1,h2⟩:=l03At_ok N hN d hl n
 grind [diskOk_spec]
theorem okFile_lt (q x:File)(h:okFile (some q) x=true):blt q.Name x.Name=true:=by
 simp only[okFile,Bool.and_eq_true]at h
 exact h.2
theorem disk_sorted {d:Disk}(hd:diskOk d=true):d.Files.Pairwise (λa b=>blt a.Name b.Name=true):=by
 simp only[diskOk,Bool.and_eq_true]at hd
 exact(chain_sorted (key:=File.Name) okFile_lt hd.2).1
theorem disk_len {d:Disk}(hd:diskOk d=true):d.Files.length<=30:=by
 simp only[diskOk,Bool.and_eq_true,DT]at hd
 exact hd.1
theorem disk_file {d:Disk}(hd:diskOk d=true):∀f∈d.Files,1<=f.Name.size/\f.Name.size<=12/\f.Text.size<=20000:=by
 simp only[diskOk,Bool.and_eq_true]at hd
 refine chain_all (λo x h=> ?_) hd.2
 simp only[okFile,Bool.and_eq_true,DT]at h
 omega
theorem fileAt_size {d:Disk}(hd:diskOk d=true){n t:BA}(h:fileAt d n=some t):t.size<=20000:=by
 unfold fileAt at h
 obtain⟨f,h1,rfl⟩:=Option.map_eq_some_iff.1 h
 exact(disk_file hd f (List.mem_of_find?_eq_some h1)).2.2
theorem bsF (N:Nat)(hN:Big N)(xs:List File)(hl:xs.length<=1099511627)(k:BA)(c:Nat)(hc:c<=xs.length)(hq:∀q (hq:q<xs.length),(blt (xs[q]'hq).Name k=true↔q<c)):L_BF_string_l1 N xs k N 0 (xs.length:Int)=some (c:Int):=by
 have:=bs_gen File.Name xs k (L_BF_string_l1 N xs k) c hq (λf i j h=> ?_) (λf i j hlt hij=> ?_) N 0 xs.length (by omega) hc (Nat.le_refl _) (by unfold Big at hN;omega)
 ·exact this
 ·rw[L_BF_string_l1,IQ (by simp;omega)]
 ·rw[L_BF_string_l1,IP (by simp;omega),mid_eq (by omega),bO,w64_id (by omega) (by omega),at_lt hlt,bO]
  unfold i_fileNo_1 S_Compare
  simp only[bO,cmp_blt]
  rw[WS (by omega)]
  cases blt (xs[(i+j)/2]'hlt).Name k
  ·grind
  ·rfl
theorem fileNo_ok (N:Nat)(hN:Big N)(d:Disk)(hd:diskOk d=true)(n:BA):∃c b,i_fileNo N d n=some (c,b)/\((b=false/\fileAt d n=none)\/(b=true/\∃f,at? d.Files c=some f/\fileAt d n=some f.Text)):=by
 have hl:=disk_len hd
 obtain⟨c,c1,c2,c3⟩:=place_of File.Name n d.Files (disk_sorted hd)
 unfold i_fileNo L_BF_string
 simp only[joinP]
 rw[bsF N hN d.Files (by omega) n c c1 c2,bO]
 have hnone:(∀f∈d.Files,f.Name≠n)->fileAt d n=none:=by
  grind [fileAt,List.find?_eq_none,nameIs]
 by_cases h:c<d.Files.length
 ·rw[IP (by simp;omega),at_lt h,bO]
  unfold i_fileNo_1 S_Compare
  simp only[bO,cmp_blt]
  have hb:blt (d.Files[c]'h).Name n=false:=by
   grind
  rw[hb,IQ (by decide)]
  by_cases he:(d.Files[c]'h).Name=n
  ·refine⟨_,_,rfl,.inr ⟨by rw[IP he];rfl,d.Files[c]'h,at_lt h,?_⟩⟩
   unfold fileAt
   cases hf:d.Files.find? (nameIs n)with
   |none=>
    grind [List.find?_eq_none,List.getElem_mem,nameIs]
   |some f=>
    grind [List.getElem_of_mem,List.mem_of_find?_eq_some,nameIs]
  grind [List.getElem_of_mem]
 ·rw[IQ (by simp;omega)]
  refine⟨_,_,rfl,.inl ⟨rfl,hnone λf hf hn=> ?_⟩⟩
  grind [List.getElem_of_mem]
theorem fileAt_impl (N:Nat)(hN:Big N)(d:Disk)(hd:diskOk d=true)(n:BA):i_FileAt N d n=some (fileR d n):=by
 unfold i_FileAt fileR
 have hl:=disk_len hd
 obtain⟨c,b,h1,h2⟩:=fileNo_ok N hN d hd n
 grind [diskOk_impl]
abbrev rok (r:BA):Prop:=1<=r.size/\r.size<=9000
def nextF (N:Nat)(t:BA)(a:Nat):Option (BA×Nat):=match rdvT t a with
 |some (n,k)=>if a+k+4+n<=t.size then
   if rok (t.extract (a+k+4) (a+k+4+n))/\frm N (t.extract (a+k+4) (a+k+4+n))=t.extract a (a+k+4+n)then some (t.extract (a+k+4) (a+k+4+n),a+k+4+n)else none
  else none
 |none=>none
def unfr (N:Nat)(t:BA):Nat->Nat->List BA×Nat
 |0,a=>([],a)
 |f+1,a=>match nextF N t a with
  |some (x,b)=>(x::(unfr N t f b).1,(unfr N t f b).2)
  |none=>([],a)
theorem rdvT_some {t:BA}{a n k:Nat}(ha:a<=t.size)(h:rdvT t a=some (n,k)):n<=1000000000/\1<=k/\a+k<=t.size:=by
 unfold rdvT at h
 obtain⟨h1,h2,h3,h4⟩:=rdv_some.1 h
 have hlen:t.data.toList.length=t.size:=Array.length_toList
 grind [List.length_drop,enc_pos]
theorem rdvT_end {t:BA}{a:Nat}(ha:t.size<=a):rdvT t a=none:=by
 unfold rdvT rdv
 rw[rv_end ha]
theorem nextF_some {N:Nat}{t x:BA}{a b:Nat}(ha:a<=t.size)(h:nextF N t a=some (x,b)):a+6<=b/\b<=t.size/\rok x/\frm N x=t.extract a b:=by
 unfold nextF at h
 cases hr:rdvT t a with
 |none=>rw[hr]at h;cases h
 |some q=>
  obtain⟨n,k⟩:=q
  rw[hr]at h
  obtain⟨h1,h2,h3⟩:=rdvT_some ha hr
  simp only at h
  split at h<;>try cases h
  rename_i h4
  split at h<;>try cases h
  rename_i h5
  have hz:=ext_size t (a+k+4) (a+k+4+n) (by omega) (by omega)
  have:=h5.1.1
  exact⟨by omega,h4,h5.1,h5.2⟩
theorem unfr_ok (N:Nat)(t:BA):∀(f a:Nat),a<=t.size->(unfr N t f a).2<=t.size/\a+6*(unfr N t f a).1.length<=(unfr N t f a).2/\∀r∈(unfr N t f a).1,rok r
 |0,a,ha=>⟨ha,by simp[unfr],by simp[unfr]⟩
 |f+1,a,ha=>by
  rw[unfr]
  cases h:nextF N t a with
  |none=>exact⟨ha,by simp,by simp⟩
  |some q=>
   obtain⟨x,b⟩:=q
   obtain⟨h1,h2,h3,_⟩:=nextF_some ha h
   obtain⟨h5,h6,h7⟩:=unfr_ok N t f b h2
   refine⟨h5,by simp only[LC];omega,λr hr=> ?_⟩
   rcases List.mem_cons.1 hr with rfl|hr
   ·exact h3
   ·exact h7 r hr
theorem unf_impl_l (N:Nat)(hN:Big N)(t:BA)(ht:t.size<=20000):∀(f a m:Nat)(acc:List BA),a<=t.size->t.size<a+f->f<m->acc.length+f<=1000000->i_Unframe_l1 N t m (a:Int) acc=some (acc++(unfr N t f a).1,((unfr N t f a).2:Int))
 |0,a,m,acc,ha,hf,hm,hb=>by omega
 |f+1,a,m,acc,ha,hf,hm,hb=>by
  obtain⟨m,rfl⟩:∃q,m=q+1:=⟨m-1,by omega⟩
  rw[i_Unframe_l1,rvar_impl N hN t a (by omega) ha,bO,unfr]
  unfold rdR
  cases hr:rdvT t a with
  |none=>simp[nextF,hr]
  |some q=>
   obtain⟨n,k⟩:=q
   obtain⟨h1,h2,h3⟩:=rdvT_some ha hr
   simp only[BN,BF,↓reduceIte]
   have e1:w64 ((t.size:Int)-((a+k:Nat):Int))=(t.size:Int)-((a+k:Nat):Int):=w64_id (by omega) (by omega)
   have e2:w64 (((a+k:Nat):Int)+4)=((a+k+4:Nat):Int):=by rw[w64_id (by omega) (by omega)];omega
   have e3:w64 (((a+k+4:Nat):Int)+(n:Int))=((a+k+4+n:Nat):Int):=by rw[w64_id (by omega) (by omega)];omega
   rw[e1,w64_id (n:=(t.size:Int)-((a+k:Nat):Int)-4) (by omega) (by omega),e2,e3]
   by_cases h4:a+k+4+n<=t.size
   ·rw[IQ (by simp only[DT];omega),scut_ok (by omega) h4,bO,scut_ok (by omega) h4]
    have hz:=ext_size t (a+k+4) (a+k+4+n) (by omega) (by omega)
    have hnx:nextF N t a=if rok (t.extract (a+k+4) (a+k+4+n))/\frm N (t.extract (a+k+4) (a+k+4+n))=t.extract a (a+k+4+n)then some (t.extract (a+k+4) (a+k+4+n),a+k+4+n)else none:=by
     grind [nextF]
    generalize t.extract (a+k+4) (a+k+4+n)=x at hz hnx⊢
    rw[frame_impl N hN x (by omega),bO]
    by_cases h5:rok x
    ·rw[IP h5]
     simp only[BN,BF,↓reduceIte,bO]
     by_cases h6:frm N x=t.extract a (a+k+4+n)
     ·rw[IQ (by simpa using h6),show cat? acc [x]=some (acc++[x])from IP (by simp;omega),bO,hnx,IP ⟨h5,h6⟩,unf_impl_l N hN t ht f _ m _ h4 (by omega) (by omega) (by simp;omega),List.append_assoc,List.singleton_append]
     grind
    grind
   grind [nextF]
theorem unf_spec_l (N:Nat)(hN:Big N)(t:BA)(ht:t.size<=20000):∀(f a m:Nat)(acc:List BA),a<=t.size->t.size<a+f->f<m->acc.length+f<=1000000->s_Unframe_l1 N t m (a:Int) acc=some (.inl (acc++(unfr N t f a).1,((unfr N t f a).2:Int)))\/s_Unframe_l1 N t m (a:Int) acc=some (.inr (((unfr N t f a).2:Int),acc++(unfr N t f a).1))
 |0,a,m,acc,ha,hf,hm,hb=>by omega
 |f+1,a,m,acc,ha,hf,hm,hb=>by
  obtain⟨m,rfl⟩:∃q,m=q+1:=⟨m-1,by omega⟩
  rw[s_Unframe_l1,unfr]
  by_cases hlt:a<t.size
  ·rw[IP (by simp only[DT];omega),rvar_spec N hN t a (by omega) ha,bO]
   unfold rdR
   cases hr:rdvT t a with
   |none=>left;simp[nextF,hr]
   |some q=>
    obtain⟨n,k⟩:=q
    obtain⟨h1,h2,h3⟩:=rdvT_some ha hr
    simp only[BN,BF,↓reduceIte]
    have e1:w64 ((t.size:Int)-((a+k:Nat):Int))=(t.size:Int)-((a+k:Nat):Int):=w64_id (by omega) (by omega)
    have e2:w64 (((a+k:Nat):Int)+4)=((a+k+4:Nat):Int):=by rw[w64_id (by omega) (by omega)];omega
    have e3:w64 (((a+k+4:Nat):Int)+(n:Int))=((a+k+4+n:Nat):Int):=by rw[w64_id (by omega) (by omega)];omega
    rw[e1,w64_id (n:=(t.size:Int)-((a+k:Nat):Int)-4) (by omega) (by omega),e2,e3]
    by_cases h4:a+k+4+n<=t.size
    ·rw[IQ (by simp only[DT];omega),scut_ok (by omega) h4,bO,scut_ok (by omega) h4]
     have hz:=ext_size t (a+k+4) (a+k+4+n) (by omega) (by omega)
     have hnx:nextF N t a=if rok (t.extract (a+k+4) (a+k+4+n))/\frm N (t.extract (a+k+4) (a+k+4+n))=t.extract a (a+k+4+n)then some (t.extract (a+k+4) (a+k+4+n),a+k+4+n)else none:=by
      grind [nextF]
     generalize t.extract (a+k+4) (a+k+4+n)=x at hz hnx⊢
     rw[frame_spec N hN x (by omega),bO]
     by_cases h5:rok x
     ·rw[IP h5]
      simp only[BN,BF,↓reduceIte,bO]
      by_cases h6:frm N x=t.extract a (a+k+4+n)
      ·rw[IQ (by simpa using h6),show cat? acc [x]=some (acc++[x])from IP (by simp;omega),bO,hnx,IP ⟨h5,h6⟩]
       have:=unf_spec_l N hN t ht f _ m (acc++[x]) h4 (by omega) (by omega) (by simp;omega)
       grind [List.append_assoc,List.singleton_append]
      grind
     grind
    grind [nextF]
  grind [nextF,rdvT_end]
def recs (N:Nat)(t:BA):List BA×Nat:=unfr N t (t.size+1) 0
theorem unf_impl (N:Nat)(hN:Big N)(t:BA)(ht:t.size<=20000):i_Unframe N t=some ((recs N t).1,((recs N t).2:Int)):=by
 unfold i_Unframe
 rw[IQ (by simp only[DT];omega)]
 have:=unf_impl_l N hN t ht (t.size+1) 0 N [] (by omega) (by omega) (by unfold Big at hN;omega) (by simp;omega)
 rw[show((0:Nat):Int)=0 from rfl]at this
 rw[this]
 rfl
theorem unf_spec (N:Nat)(hN:Big N)(t:BA)(ht:t.size<=20000):s_Unframe N t=some ((recs N t).1,((recs N t).2:Int)):=by
 unfold s_Unframe
 rw[IQ (by simp only[DT];omega)]
 simp only[joinP]
 have:=unf_spec_l N hN t ht (t.size+1) 0 N [] (by omega) (by omega) (by unfold Big at hN;omega) (by simp;omega)
 rw[show((0:Nat):Int)=0 from rfl]at this
 rcases this with e|e<;>rw[e]<;>rfl
theorem recs_ok (N:Nat)(t:BA):6*(recs N t).1.length<=t.size/\∀r∈(recs N t).1,rok r:=by
 grind [unfr_ok,recs]
def okCh (o:Option Change)(x:Change):Bool:=decide (1<=x.Key.size/\x.Key.size<=10)&&(decide (x.Value.size<=40)&&((!x.Gone||decide (x.Value=⟨#[]⟩))&&(match o with|none=>true|some q=>blt q.Key x.Key)))
def batOk (b:Batch):Bool:=decide (0<=b.Stamp/\b.Stamp<=100000)&&(decide (b.Changes.length<=60)&&chain okCh none b.Changes)
theorem batOk_impl_step (N:Nat)(b:Batch)(hl:b.Changes.length<=1099511627)(m k:Nat)(hk:k<b.Changes.length):i_BatchOk_l1 N b (m+1) (k:Int)=if okCh (b.Changes.take k).getLast? b.Changes[k]=true then i_BatchOk_l1 N b m ((k+1:Nat):Int)else some (.inl false):=by
 rw[i_BatchOk_l1,IP (by simp;omega),at_lt hk]
 simp only[bO,key_impl]
 rw[WS (by omega)]
 simp only[okCh]
 by_cases h1:1<=b.Changes[k].Key.size/\b.Changes[k].Key.size<=10
 case neg=>simp only[DF h1];rfl
 simp only[DE h1,BN,BF,if_false,Bool.true_and]
 by_cases h2:b.Changes[k].Value.size<=40
 case neg=>rw[IP (by simp;omega),DF h2];rfl
 rw[IQ (by simp;omega),DE h2]
 have prv:(if decide ((k:Int)>0)=true then(at? b.Changes (w64 ((k:Int)-1))).bind λx=>if(!Op.bytesLess x.Key.toList b.Changes[k].Key.toList)=true then some (Sum.inl false)else i_BatchOk_l1 N b m ((k+1:Nat):Int)else i_BatchOk_l1 N b m ((k+1:Nat):Int))=if(match(b.Changes.take k).getLast? with|none=>true|some q=>blt q.Key b.Changes[k].Key)=true then i_BatchOk_l1 N b m ((k+1:Nat):Int)else some (.inl false):=by
  grind [at_prev,take_none,blt]
 grind
theorem batOk_impl (N:Nat)(hN:Big N)(b:Batch)(hl:b.Changes.length<=1099511627):i_BatchOk N b=some (batOk b):=by
 unfold i_BatchOk batOk
 rw[chain_start okCh (i_BatchOk_l1 N b) b.Changes (by unfold Big at hN;omega) (batOk_impl_step N b hl) (λm=>by rw[i_BatchOk_l1,IQ (by simp)])]
 cases chain okCh none b.Changes
 ·simp[oks,joinP]
 ·simp only[joinP,oks,bO,Sum.elim_inr,Bool.and_true,within_eq]
  by_cases h:0<=b.Stamp/\b.Stamp<=100000
  ·rw[DE h,IP rfl,Bool.true_and]
   congr 1
   grind
  grind
theorem batOk_spec_step (N:Nat)(b:Batch)(hl:b.Changes.length<=1099511627)(m k:Nat)(hk:k<b.Changes.length):s_BatchOk_l1 N b (m+1) (k:Int)=if okCh (b.Changes.take k).getLast? b.Changes[k]=true then s_BatchOk_l1 N b m ((k+1:Nat):Int)else some (.inl false):=by
 rw[s_BatchOk_l1,IP (by simp;omega),at_lt hk]
 simp only[bO,key_spec,joinP]
 rw[WS (by omega)]
 simp only[okCh]
 by_cases h1:1<=b.Changes[k].Key.size/\b.Changes[k].Key.size<=10
 case neg=>simp only[DF h1];rfl
 simp only[DE h1,BN,BF,if_false,Bool.true_and]
 grind [at_prev,take_none,blt]
theorem batOk_spec (N:Nat)(hN:Big N)(b:Batch)(hl:b.Changes.length<=1099511627):s_BatchOk N b=some (batOk b):=by
 unfold s_BatchOk batOk
 rw[in_eq,bO]
 by_cases h:0<=b.Stamp/\b.Stamp<=100000
 case neg=>rw[DF h];rfl
 rw[DE h,IQ (by decide),Bool.true_and]
 by_cases h2:b.Changes.length<=60
 ·rw[IQ (by simp;omega),chain_start okCh (s_BatchOk_l1 N b) b.Changes (by unfold Big at hN;omega) (batOk_spec_step N b hl) (λm=>by rw[s_BatchOk_l1,IQ (by simp)])]
  rw[DE h2]
  cases chain okCh none b.Changes<;>rfl
 grind
theorem batOk_ok {b:Batch}(h:batOk b=true):0<=b.Stamp/\b.Stamp<=100000/\b.Changes.length<=60/\∀c∈b.Changes,1<=c.Key.size/\c.Key.size<=10/\c.Value.size<=40:=by
 simp only[batOk,Bool.and_eq_true,DT]at h
 refine⟨h.1.1,h.1.2,h.2.1,chain_all (λo x hx=> ?_) h.2.2⟩
 simp only[okCh,Bool.and_eq_true,DT]at hx
 grind
def sht (s:BA):BA:=encT s.size++s
def flg (g:Bool):BA:=if g then⟨#[1]⟩else⟨#[0]⟩
def chx (c:Change):BA:=sht c.Key++flg c.Gone++sht c.Value
def chs:List Change->BA
 |[]=>ByteArray.empty
 |c::cs=>chx c++chs cs
def btx (b:Batch):BA:=encT b.Stamp.toNat++encT b.Changes.length++chs b.Changes
theorem sht_size {s:BA}(h:s.size<=1000000000):(sht s).size=(enc s.size).length+s.size/\(enc s.size).length<=5:=by
 grind [sht,BZ,encT_size,enc_len5]
theorem flg_size (g:Bool):(flg g).size=1:=by cases g<;>rfl
theorem chx_size {c:Change}(h:c.Key.size<=10/\c.Value.size<=40):(chx c).size<=61:=by
 grind [chx,sht_size,BZ,flg_size]
theorem short_spec (N:Nat)(hN:Big N)(s:BA)(h:s.size<=1000):s_l05Short N s=some (sht s):=short_ok N hN s h
theorem short_impl (N:Nat)(hN:Big N)(s:BA)(h:s.size<=1000):i_short N s=some (sht s):=by
 unfold i_short i_ShortText
 rw[IQ (by simp;omega),var_impl N hN s.size (by omega),IP (by omega)]
 simp only[bO]
 have:=sht_size (s:=s) (by omega)
 rw[scat_le (by rw[encT_size];omega)]
 rfl
theorem vars_two (N:Nat)(hN:Big N)(a b:Nat)(ha:a<=1000000000)(hb:b<=1000000000):i_vars N [(a:Int),(b:Int)]=some (encT a++encT b,true):=by
 have hl:=enc_len5 ha
 have hl2:=enc_len5 hb
 unfold i_vars
 simp only[joinP]
 obtain⟨K,rfl⟩:∃K,N=K+3:=⟨N-3,by unfold Big at hN;omega⟩
 have e1:=var_impl (K+3) hN a (by omega)
 have e2:=var_impl (K+3) hN b (by omega)
 rw[IP ha]at e1
 rw[IP hb]at e2
 have c1:cat? ([]:List Int) (intsOf (encT a))=some ([]++intsOf (encT a)):=IP (by rw[show(intsOf (encT a)).length=(encT a).size by unfold intsOf;rw[List.length_map,Array.length_toList];rfl,encT_size];simp;omega)
 have c2:cat? ([]++intsOf (encT a)) (intsOf (encT b))=some ([]++intsOf (encT a)++intsOf (encT b)):=IP (by
  rw[List.nil_append,show(intsOf (encT b)).length=(encT b).size by unfold intsOf;rw[List.length_map,Array.length_toList];rfl,show(intsOf (encT a)).length=(encT a).size by unfold intsOf;rw[List.length_map,Array.length_toList];rfl,encT_size,encT_size];omega)
 rw[show i_vars_l1 (K+3) [(a:Int),(b:Int)] (K+3) 0 []=some (.inr ([]++intsOf (encT a)++intsOf (encT b)))from ?_]
 ·grind [strOf_cat,strOf_ints]
 ·rw[i_vars_l1,IP (by simp),show at? [(a:Int),(b:Int)] 0=some (a:Int)from rfl,bO,e1,bO]
  simp only[BN,BF,↓reduceIte]
  rw[c1,bO,show w64 (0+1)=1 from by decide,i_vars_l1,IP (by simp),show at? [(a:Int),(b:Int)] 1=some (b:Int)from rfl,bO,e2,bO]
  simp only[BN,BF,↓reduceIte]
  rw[c2,bO,show w64 (1+1)=2 from by decide,i_vars_l1,IQ (by simp)]
theorem btext_impl (N:Nat)(hN:Big N)(b:Batch)(hl:b.Changes.length<=1099511627):i_BatchText N b=some (if batOk b then(btx b,true)else(⟨#[]⟩,false)):=by
 unfold i_BatchText
 rw[batOk_impl N hN b hl,bO]
 cases hb:batOk b with
 |false=>rfl
 |true=>
  obtain⟨h1,h2,h3,h4⟩:=batOk_ok hb
  obtain⟨s,hs⟩:∃s:Nat,b.Stamp=s:=⟨b.Stamp.toNat,by omega⟩
  simp only[BN,BF,↓reduceIte]
  rw[hs,vars_two N hN s _ (by omega) (by omega),bO]
  simp only[joinP]
  have key:∀(d k m:Nat)(acc:BA),b.Changes.length=k+d->d<m->acc.size<=10+61*k->i_BatchText_l1 N b m acc (k:Int)=some (acc++chs (b.Changes.drop k)):=by
   intro d
   induction d with
   |zero=>
    intro k m acc hd hm ha
    obtain⟨m,rfl⟩:∃q,m=q+1:=⟨m-1,by omega⟩
    rw[i_BatchText_l1,IQ (by simp;omega),DN (by omega),chs,ByteArray.append_empty]
   |succ d ih=>
    intro k m acc hd hm ha
    obtain⟨m,rfl⟩:∃q,m=q+1:=⟨m-1,by omega⟩
    have hk:k<b.Changes.length:=by omega
    obtain⟨g1,g2,g3⟩:=h4 _ (List.getElem_mem hk)
    have hz:=chx_size (c:=b.Changes[k]) ⟨g2,g3⟩
    have z1:=sht_size (s:=b.Changes[k].Key) (by omega)
    have z2:=sht_size (s:=b.Changes[k].Value) (by omega)
    have hf:i_flag N b.Changes[k].Gone=some (flg b.Changes[k].Gone):=by unfold i_flag flg;split<;>rfl
    rw[i_BatchText_l1,IP (by simp;omega),at_lt hk]
    simp only[bO]
    rw[short_impl N hN _ (by omega),hf]
    simp only[bO]
    rw[scat_le (by rw[flg_size];omega),bO,short_impl N hN _ (by omega),bO,scat_le (by rw[BZ,flg_size];omega),bO]
    have hx:sht b.Changes[k].Key++flg b.Changes[k].Gone++sht b.Changes[k].Value=chx b.Changes[k]:=rfl
    rw[hx,scat_le (by omega),bO,WS (by omega),ih (k+1) m _ (by omega) (by omega) (by rw[BZ];omega),DG hk,chs,ByteArray.append_assoc]
  have z1:=enc_len5 (n:=s) (by omega)
  have z2:=enc_len5 (n:=b.Changes.length) (by omega)
  have:=key b.Changes.length 0 N (encT s++encT b.Changes.length) (by omega) (by unfold Big at hN;omega) (by rw[BZ,encT_size,encT_size];omega)
  grind [btx]
theorem btext_spec (N:Nat)(hN:Big N)(b:Batch)(hl:b.Changes.length<=1099511627):s_BatchText N b=some (if batOk b then(btx b,true)else(⟨#[]⟩,false)):=by
 unfold s_BatchText
 rw[batOk_spec N hN b hl,bO]
 cases hb:batOk b with
 |false=>rfl
 |true=>
  obtain⟨h1,h2,h3,h4⟩:=batOk_ok hb
  obtain⟨s,hs⟩:∃s:Nat,b.Stamp=s:=⟨b.Stamp.toNat,by omega⟩
  simp only[BN,BF,↓reduceIte]
  have z1:=enc_len5 (n:=s) (by omega)
  have z2:=enc_len5 (n:=b.Changes.length) (by omega)
  rw[hs,var_spec N hN s (by omega),bO,var_spec N hN _ (by omega),bO,scat_le (by rw[encT_size,encT_size];omega),bO]
  simp only[joinP]
  have key:∀(d k m:Nat)(acc:BA),b.Changes.length=k+d->d<m->acc.size<=10+61*k->s_BatchText_l1 N b m acc (k:Int)=some (acc++chs (b.Changes.drop k)):=by
   intro d
   induction d with
   |zero=>
    intro k m acc hd hm ha
    obtain⟨m,rfl⟩:∃q,m=q+1:=⟨m-1,by omega⟩
    rw[s_BatchText_l1,IQ (by simp;omega),DN (by omega),chs,ByteArray.append_empty]
   |succ d ih=>
    intro k m acc hd hm ha
    obtain⟨m,rfl⟩:∃q,m=q+1:=⟨m-1,by omega⟩
    have hk:k<b.Changes.length:=by omega
    obtain⟨g1,g2,g3⟩:=h4 _ (List.getElem_mem hk)
    have hz:=chx_size (c:=b.Changes[k]) ⟨g2,g3⟩
    have z1:=sht_size (s:=b.Changes[k].Key) (by omega)
    have z2:=sht_size (s:=b.Changes[k].Value) (by omega)
    rw[s_BatchText_l1,IP (by simp;omega)]
    simp only[joinP,at_lt hk,bO]
    rw[short_spec N hN _ (by omega),short_spec N hN _ (by omega)]
    simp only[bO]
    have step:∀g:BA,g.size=1->((scat? acc (sht b.Changes[k].Key)).bind λx=>(scat? x g).bind λx=>(scat? x (sht b.Changes[k].Value)).bind λx=>s_BatchText_l1 N b m x (w64 ((k:Int)+1)))=s_BatchText_l1 N b m (acc++(sht b.Changes[k].Key++g++sht b.Changes[k].Value)) ((k+1:Nat):Int):=by
     intro g hg
     rw[scat_le (by omega),bO,scat_le (by rw[BZ];omega),bO,scat_le (by rw[BZ,BZ];omega),bO,WS (by omega)]
     simp only[ByteArray.append_assoc]
    rw[step _ rfl,step _ rfl]
    have hfl:∀z:BA->Option BA,(if b.Changes[k].Gone=true then z ⟨#[1]⟩else z ⟨#[0]⟩)=z (flg b.Changes[k].Gone):=by
     intro z;cases b.Changes[k].Gone<;>rfl
    rw[hfl λg=>s_BatchText_l1 N b m (acc++(sht b.Changes[k].Key++g++sht b.Changes[k].Value)) ((k+1:Nat):Int)]
    have hx:sht b.Changes[k].Key++flg b.Changes[k].Gone++sht b.Changes[k].Value=chx b.Changes[k]:=rfl
    rw[hx,ih (k+1) m _ (by omega) (by omega) (by rw[BZ];omega),DG hk,chs,ByteArray.append_assoc]
  have:=key b.Changes.length 0 N (encT s++encT b.Changes.length) (by omega) (by unfold Big at hN;omega) (by rw[BZ,encT_size,encT_size];omega)
  grind [btx]
def pch (t:BA)(a:Nat):Option (Change×Nat):=match ps t a with
 |some (k,b)=>if b<t.size then
   match ps t (b+1)with
   |some (v,c)=>some (⟨k,v,decide (t.extract b (b+1)=⟨#[1]⟩)⟩,c)
   |none=>none
  else none
 |none=>none
def pchs (t:BA):Nat->Nat->Nat->Option (List Change×Nat)
 |_,0,a=>some ([],a)
 |0,_+1,_=>none
 |f+1,n+1,a=>match pch t a with
  |some (c,b)=>match pchs t f n b with
   |some (cs,e)=>some (c::cs,e)
   |none=>none
  |none=>none
theorem ps_pos {t s:BA}{a b:Nat}(ha:a<=t.size)(h:ps t a=some (s,b)):a<b/\b<=t.size:=by
 obtain⟨h1,h2,h3,h4⟩:=ps_some ha h
 refine⟨?_,h2⟩
 have:=congrArg ByteArray.size h3
 rw[BZ,encT_size,ext_size t a b h1 h2]at this
 have:=enc_pos s.size
 omega
theorem pch_pos {t:BA}{c:Change}{a b:Nat}(ha:a<=t.size)(h:pch t a=some (c,b)):a<b/\b<=t.size:=by
 unfold pch at h
 split at h<;>try cases h
 rename_i k e h1
 obtain⟨h2,h3⟩:=ps_pos ha h1
 split at h<;>try cases h
 rename_i h4
 split at h<;>try cases h
 rename_i v e2 h5
 have:=ps_pos (by omega) h5
 omega
theorem pchs_pos {t:BA}:∀{f n a e:Nat}{cs:List Change},a<=t.size->pchs t f n a=some (cs,e)->a+cs.length<=e/\e<=t.size
 |f,0,a,e,cs,ha,h=>by
  grind [pchs,Option.some.injEq,Prod.mk.injEq]
 |0,n+1,a,e,cs,ha,h=>by simp[pchs]at h
 |f+1,n+1,a,e,cs,ha,h=>by
  simp only[pchs]at h
  split at h<;>try cases h
  rename_i c b h1
  obtain⟨h2,h3⟩:=pch_pos ha h1
  split at h<;>try cases h
  rename_i cs' e' h4
  obtain⟨h5,h6⟩:=pchs_pos h3 h4
  grind
theorem tx_any (N:Nat)(hN:Big N)(t:BA)(a:Nat)(ht:t.size<=20000)(ha:a<=t.size):∃x,r_text N ⟨t,a,false⟩=some x/\match ps t a with|some (s,b)=>x=(s,⟨t,b,false⟩)|none=>x=(⟨#[]⟩,⟨t,a,true⟩):=by
 obtain⟨x,h1,h2⟩:=tx_ok N hN t a (by omega) ha
 refine⟨x,h1,?_⟩
 cases h:ps t a with
 |none=>rw[h]at h2;exact h2
 |some q=>
  obtain⟨s,b⟩:=q
  rw[h]at h2
  have:=(ps_some ha h).2.2.2
  grind
theorem byte_ok (N:Nat)(t:BA)(a:Nat)(ht:t.size<=1099511627)(ha:a<=t.size):∃x:Int×Treader,r_byte N ⟨t,a,false⟩=some x/\if a<t.size then x.2=⟨t,((a+1:Nat):Int),false⟩/\(x.1==1)=decide (t.extract a (a+1)=⟨#[1]⟩)else x=(0,⟨t,a,true⟩):=by
 unfold r_byte
 simp only[BF,↓reduceIte]
 by_cases h:a<t.size
 ·rw[IQ (by simp;omega),WS (by omega),w64_id (by omega) (by omega),show((a+1:Nat):Int)-1=(a:Int) by omega]
  have hlt:a<t.data.toList.length:=by rw[Array.length_toList];exact h
  have hc:=DG hlt
  generalize t.data.toList[a]=c at hc
  have hx:(t.extract a (a+1)).data.toList=[c]:=by
   rw[ext_toList t a (a+1) (by omega) (by omega),hc]
   simp
  rw[sat_at hc,bO]
  refine⟨_,rfl,?_⟩
  rw[IP h]
  refine⟨rfl,?_⟩
  have hc8:=c.toNat_lt
  rw[w64_id (by omega) (by omega)]
  have e:(t.extract a (a+1)=⟨#[1]⟩)↔c.toNat=1:=by
   constructor
   ·intro h
    rw[h]at hx
    have:(1:UInt8)=c:=by simpa using hx
    rw[<-this]
    rfl
   ·intro h
    apply ba_ext'
    rw[hx]
    have:c=1:=UInt8.toNat_inj.1 (by rw[h];rfl)
    rw[this]
  grind
 ·rw[IP (by simp;omega)]
  grind
theorem byte_bad (N:Nat)(t:BA)(a:Int):r_byte N ⟨t,a,true⟩=some (0,⟨t,a,true⟩):=rfl
theorem sch_ok (N:Nat)(hN:Big N)(t:BA)(a:Nat)(ht:t.size<=20000)(ha:a<=t.size):∃y1 y2 y3,s_l05ReadShort N ⟨t,a,false⟩=some y1/\s_l05Take N y1.2 1=some y2/\s_l05ReadShort N y2.2=some y3/\
  match pch t a with
  |some (c,b)=>y3.2=⟨t,(b:Int),false⟩/\Change.mk y1.1 y3.1 (decide (y2.1=(⟨#[1]⟩:BA)))=c
  |none=>∃b:Nat,b<=t.size/\y3.2=⟨t,(b:Int),true⟩:=by
 obtain⟨y1,h1,g1⟩:=ss_ok N hN t a (by omega) ha
 unfold pch
 cases hp:ps t a with
 |none=>
  grind [take_bad,ss_bad]
 |some q=>
  obtain⟨k,b⟩:=q
  rw[hp]at g1
  simp only at g1
  subst g1
  obtain⟨h2,h3⟩:=ps_pos ha hp
  have h4:=take_ok N t b 1 (by omega) h3 (by omega)
  simp only
  by_cases hb:b<t.size
  ·grind [ss_ok,ps]
  grind [ss_bad]
theorem ich_ok (N:Nat)(hN:Big N)(t:BA)(a:Nat)(ht:t.size<=20000)(ha:a<=t.size)(s:Int)(acc:List Change)(hl:acc.length<=1000000):∃y,i_ReadBatch_1 N ⟨t,a,false⟩ ⟨s,acc⟩=some y/\
  match pch t a with
  |some (c,b)=>y=(⟨s,acc++[c]⟩,⟨t,(b:Int),false⟩)
  |none=>∃(b:Nat)(c:Change),b<=t.size/\y=(⟨s,acc++[c]⟩,⟨t,(b:Int),true⟩):=by
 obtain⟨y1,h1,g1⟩:=tx_any N hN t a ht ha
 have hcat:∀c:Change,cat? acc [c]=some (acc++[c]):=λc=>IP (by simp;omega)
 unfold i_ReadBatch_1 pch
 rw[h1,bO]
 cases hp:ps t a with
 |none=>
  rw[hp]at g1
  simp only at g1
  subst g1
  simp only[byte_bad,bO,tx_bad N hN t a (by omega) ha,hcat]
  exact⟨_,rfl,a,_,ha,rfl⟩
 |some q=>
  obtain⟨k,b⟩:=q
  rw[hp]at g1
  simp only at g1
  subst g1
  obtain⟨h2,h3⟩:=ps_pos ha hp
  obtain⟨y2,h4,g2⟩:=byte_ok N t b (by omega) h3
  simp only
  rw[h4,bO]
  by_cases hb:b<t.size
  ·rw[IP hb]at g2⊢
   obtain⟨y3,h5,g3⟩:=tx_any N hN t (b+1) ht (by omega)
   rw[g2.1,h5,bO,g2.2]
   cases hp2:ps t (b+1)with
   |none=>
    rw[hp2]at g3
    simp only at g3
    subst g3
    simp only[hcat,bO]
    exact⟨_,rfl,b+1,_,by omega,rfl⟩
   |some q2=>
    grind
  ·rw[IQ hb]at g2⊢
   subst g2
   simp only[tx_bad N hN t b (by omega) h3,bO,hcat]
   grind
def chRes (t:BA)(acc:List Change)(r:Option (List Change×Nat))(at':Int)(bad:Bool)(l:List Change):Prop:=match r with
 |some (cs,e)=>at'=(e:Int)/\bad=false/\l=acc++cs
 |none=>bad=true/\l.length<=1000000
theorem sch_loop (N:Nat)(hN:Big N)(t:BA)(ht:t.size<=20000)(y:Int×Tl05Cur)(n:Nat)(hy:y.1=(n:Int))(hn:n<=1000000000):∀(d a i m:Nat)(acc:List Change),a<=t.size->t.size<=a+d->i<=n->d+1<m->acc.length+d<=100000->∃at' bad l,s_ReadBatch_l1 N y m (i:Int) t (a:Int) false acc=some (t,at',bad,l)/\chRes t acc (pchs t (d+1) (n-i) a) at' bad l:=by
 intro d
 induction d with
 |zero=>
  intro a i m acc ha had hi hm hacc
  obtain⟨m,rfl⟩:∃q,m=q+1:=⟨m-1,by omega⟩
  rw[s_ReadBatch_l1,hy]
  by_cases hlt:i<n
  ·rw[IP (by simp;omega),IP (show(!false)=true from rfl)]
   obtain⟨y1,y2,y3,e1,e2,e3,g⟩:=sch_ok N hN t a ht ha
   obtain⟨k,hk⟩:∃k,n-i=k+1:=⟨n-i-1,by omega⟩
   have hcat:∀c:Change,cat? acc [c]=some (acc++[c]):=λc=>IP (by simp;omega)
   simp only[e1,e2,e3,bO,hcat]
   rw[hk,pchs]
   cases hp:pch t a with
   |some q=>have:=pch_pos ha (c:=q.1) (b:=q.2) hp;omega
   |none=>
    rw[hp]at g
    obtain⟨b,hb,g⟩:=g
    rw[g]
    obtain⟨m,rfl⟩:∃q,m=q+1:=⟨m-1,by omega⟩
    simp only
    generalize (Change.mk y1.1 y3.1 (decide (y2.1=(⟨#[1]⟩:BA))))=ch
    rw[s_ReadBatch_l1]
    have hl:∀c:Change,(acc++[c]).length<=1000000:=λc=>by rw[LA,List.length_singleton];omega
    refine⟨(b:Int),true,acc++[ch],?_,rfl,hl ch⟩
    split<;>rfl
  ·rw[IQ (by simp;omega),show n-i=0 by omega]
   exact⟨_,_,_,rfl,rfl,rfl,by simp⟩
 |succ d ih=>
  intro a i m acc ha had hi hm hacc
  obtain⟨m,rfl⟩:∃q,m=q+1:=⟨m-1,by omega⟩
  rw[s_ReadBatch_l1,hy]
  by_cases hlt:i<n
  ·rw[IP (by simp;omega),IP (show(!false)=true from rfl)]
   obtain⟨y1,y2,y3,e1,e2,e3,g⟩:=sch_ok N hN t a ht ha
   obtain⟨k,hk⟩:∃k,n-i=k+1:=⟨n-i-1,by omega⟩
   have hcat:∀c:Change,cat? acc [c]=some (acc++[c]):=λc=>IP (by simp;omega)
   simp only[e1,e2,e3,bO,hcat]
   rw[hk,pchs]
   cases hp:pch t a with
   |some q=>
    obtain⟨c,b⟩:=q
    obtain⟨p1,p2⟩:=pch_pos ha hp
    rw[hp]at g
    obtain⟨g1,g2⟩:=g
    rw[g1,g2]
    simp only
    rw[WS (by omega)]
    obtain⟨at',bad,l,f1,f2⟩:=ih b (i+1) m (acc++[c]) p2 (by omega) (by omega) (by omega) (by simp;omega)
    refine⟨at',bad,l,f1,?_⟩
    rw[show n-(i+1)=k by omega]at f2
    cases hq:pchs t (d+1) k b with
    |none=>rw[hq]at f2;exact f2
    |some q=>
     obtain⟨cs,e⟩:=q
     rw[hq]at f2
     obtain⟨f3,f4,f5⟩:=f2
     exact⟨f3,f4,by rw[f5,List.append_assoc];rfl⟩
   |none=>
    rw[hp]at g
    obtain⟨b,hb,g⟩:=g
    rw[g]
    obtain⟨m,rfl⟩:∃q,m=q+1:=⟨m-1,by omega⟩
    simp only
    generalize (Change.mk y1.1 y3.1 (decide (y2.1=(⟨#[1]⟩:BA))))=ch
    rw[s_ReadBatch_l1]
    have hl:∀c:Change,(acc++[c]).length<=1000000:=λc=>by rw[LA,List.length_singleton];omega
    refine⟨(b:Int),true,acc++[ch],?_,rfl,hl ch⟩
    split<;>rfl
  ·rw[IQ (by simp;omega),show n-i=0 by omega]
   exact⟨_,_,_,rfl,rfl,rfl,by simp⟩
theorem ich_loop (N:Nat)(hN:Big N)(t:BA)(ht:t.size<=20000)(y:Int×Treader)(n:Nat)(hy:y.1=(n:Int))(hn:n<=1000000000)(s:Int):∀(d a i m:Nat)(acc:List Change),a<=t.size->t.size<=a+d->i<=n->d+1<m->acc.length+d<=100000->∃at' bad l,r_each_i2_l1 N y m (i:Int) t (a:Int) false s acc=some (t,at',bad,s,l)/\chRes t acc (pchs t (d+1) (n-i) a) at' bad l:=by
 intro d
 induction d with
 |zero=>
  intro a i m acc ha had hi hm hacc
  obtain⟨m,rfl⟩:∃q,m=q+1:=⟨m-1,by omega⟩
  rw[r_each_i2_l1,hy]
  by_cases hlt:i<n
  ·rw[IP (by simp;omega),IP (show(!false)=true from rfl)]
   obtain⟨z,e1,g⟩:=ich_ok N hN t a ht ha s acc (by omega)
   obtain⟨k,hk⟩:∃k,n-i=k+1:=⟨n-i-1,by omega⟩
   rw[e1,bO,hk,pchs]
   cases hp:pch t a with
   |some q=>have:=pch_pos ha (c:=q.1) (b:=q.2) hp;omega
   |none=>
    rw[hp]at g
    obtain⟨b,c,hb,rfl⟩:=g
    obtain⟨m,rfl⟩:∃q,m=q+1:=⟨m-1,by omega⟩
    simp only
    rw[r_each_i2_l1]
    have hl:∀c:Change,(acc++[c]).length<=1000000:=λc=>by rw[LA,List.length_singleton];omega
    refine⟨(b:Int),true,acc++[c],?_,rfl,hl c⟩
    split<;>rfl
  ·rw[IQ (by simp;omega),show n-i=0 by omega]
   exact⟨_,_,_,rfl,rfl,rfl,by simp⟩
 |succ d ih=>
  intro a i m acc ha had hi hm hacc
  obtain⟨m,rfl⟩:∃q,m=q+1:=⟨m-1,by omega⟩
  rw[r_each_i2_l1,hy]
  by_cases hlt:i<n
  ·rw[IP (by simp;omega),IP (show(!false)=true from rfl)]
   obtain⟨z,e1,g⟩:=ich_ok N hN t a ht ha s acc (by omega)
   obtain⟨k,hk⟩:∃k,n-i=k+1:=⟨n-i-1,by omega⟩
   rw[e1,bO,hk,pchs]
   cases hp:pch t a with
   |some q=>
    obtain⟨c,b⟩:=q
    obtain⟨p1,p2⟩:=pch_pos ha hp
    rw[hp]at g
    simp only at g
    subst g
    simp only
    rw[WS (by omega)]
    obtain⟨at',bad,l,f1,f2⟩:=ih b (i+1) m (acc++[c]) p2 (by omega) (by omega) (by omega) (by simp;omega)
    refine⟨at',bad,l,f1,?_⟩
    rw[show n-(i+1)=k by omega]at f2
    cases hq:pchs t (d+1) k b with
    |none=>rw[hq]at f2;exact f2
    |some q=>
     obtain⟨cs,e⟩:=q
     rw[hq]at f2
     obtain⟨f3,f4,f5⟩:=f2
     exact⟨f3,f4,by rw[f5,List.append_assoc];rfl⟩
   |none=>
    rw[hp]at g
    obtain⟨b,c,hb,rfl⟩:=g
    obtain⟨m,rfl⟩:∃q,m=q+1:=⟨m-1,by omega⟩
    simp only
    rw[r_each_i2_l1]
    have hl:∀c:Change,(acc++[c]).length<=1000000:=λc=>by rw[LA,List.length_singleton];omega
    refine⟨(b:Int),true,acc++[c],?_,rfl,hl c⟩
    split<;>rfl
  ·rw[IQ (by simp;omega),show n-i=0 by omega]
   exact⟨_,_,_,rfl,rfl,rfl,by simp⟩
def rbat (t:BA):Batch×Bool:=match pv t 0 with
 |some (s,a)=>match pv t a with
  |some (n,b)=>match pchs t (t.size+1) n b with
   |some (cs,_)=>if batOk ⟨s,cs⟩=true/\btx ⟨s,cs⟩=t then(⟨s,cs⟩,true)else(⟨0,[]⟩,false)
   |none=>(⟨0,[]⟩,false)
  |none=>(⟨0,[]⟩,false)
 |none=>(⟨0,[]⟩,false)
theorem rbat_ok {t:BA}(h:(rbat t).2=true):batOk (rbat t).1=true:=by
 grind [rbat]
theorem bat_end (N:Nat)(t:BA)(b:Batch)(f:Option (BA×Bool))(hf:f=some (if batOk b then(btx b,true)else(⟨#[]⟩,false))):(f.bind λy=>if(!y.2)=true then some ((⟨0,[]⟩:Batch),false)else if(!decide (y.1=t))=true then some (⟨0,[]⟩,false)else some (b,true))=some (if batOk b=true/\btx b=t then(b,true)else(⟨0,[]⟩,false)):=by
 grind
theorem rbat_impl (N:Nat)(hN:Big N)(t:BA)(ht:t.size<=20000):i_ReadBatch N t=some (rbat t):=by
 unfold i_ReadBatch rbat
 rw[show(0:Int)=((0:Nat):Int)from rfl,nv_ok N hN t 0 (by omega) (by omega),bO]
 have hbt:∀b:Batch,b.Changes.length<=1000000->∃r,i_BatchText N b=some r:=λb hb=>⟨_,btext_impl N hN b (by omega)⟩
 obtain⟨K,hK⟩:∃K,N=K+1:=⟨N-1,by unfold Big at hN;omega⟩
 cases h1:pv t 0 with
 |none=>
  simp only
  unfold r_each_i2
  rw[show((0:Nat):Int)=0 from rfl]at*
  rw[show(0:Int)=((0:Nat):Int)from rfl,nv_bad N hN t 0 (by omega) (by omega),bO]
  simp only
  rw[hK,r_each_i2_l1,IQ (by simp),<-hK]
  obtain⟨r,e⟩:=hbt ⟨((0:Nat):Int),[]⟩ (by simp)
  grind
 |some q=>
  obtain⟨s,a⟩:=q
  obtain⟨p1,p2,p3,_⟩:=pv_some (Nat.zero_le _) h1
  simp only
  unfold r_each_i2
  rw[nv_ok N hN t a (by omega) p3,bO]
  cases h2:pv t a with
  |none=>
   simp only
   rw[hK,r_each_i2_l1,IQ (by simp),<-hK]
   obtain⟨r,e⟩:=hbt ⟨(s:Int),[]⟩ (by simp)
   grind
  |some q2=>
   obtain⟨n,b⟩:=q2
   obtain⟨p4,p5,p6,_⟩:=pv_some p3 h2
   simp only
   obtain⟨at',bad,l,f1,f2⟩:=ich_loop N hN t ht ((n:Int),⟨t,(b:Int),false⟩) n rfl p4 (s:Int) t.size b 0 N [] p6 (by omega) (by omega) (by unfold Big at hN;omega) (by simp;omega)
   rw[show((0:Nat):Int)=0 from rfl]at f1
   rw[f1]
   simp only[bO]
   rw[Nat.sub_zero]at f2
   cases h3:pchs t (t.size+1) n b with
   |none=>
    rw[h3]at f2
    obtain⟨rfl,f3⟩:=f2
    obtain⟨r,e⟩:=hbt ⟨(s:Int),l⟩ f3
    rw[e]
    rfl
   |some q3=>
    obtain⟨cs,e⟩:=q3
    rw[h3]at f2
    obtain⟨_,rfl,f4⟩:=f2
    rw[List.nil_append]at f4
    subst f4
    have hz:=(pchs_pos p6 h3).1
    have:=(pchs_pos p6 h3).2
    simp only[BF,↓reduceIte]
    exact bat_end N t ⟨s,l⟩ _ (btext_impl N hN ⟨s,l⟩ (by simp only;omega))
theorem rbat_spec (N:Nat)(hN:Big N)(t:BA)(ht:t.size<=20000):s_ReadBatch N t=some (rbat t):=by
 unfold s_ReadBatch rbat
 rw[show(0:Int)=((0:Nat):Int)from rfl,sv_ok N hN t 0 (by omega) (by omega),bO]
 have hbt:∀b:Batch,b.Changes.length<=1000000->∃r,s_BatchText N b=some r:=λb hb=>⟨_,btext_spec N hN b (by omega)⟩
 obtain⟨K,hK⟩:∃K,N=K+1:=⟨N-1,by unfold Big at hN;omega⟩
 cases h1:pv t 0 with
 |none=>
  simp only
  rw[sv_bad N hN t 0 (by omega) (by omega),bO]
  simp only[joinP]
  rw[hK,s_ReadBatch_l1,IQ (by simp),<-hK]
  obtain⟨r,e⟩:=hbt ⟨0,[]⟩ (by simp)
  grind
 |some q=>
  obtain⟨s,a⟩:=q
  obtain⟨p1,p2,p3,_⟩:=pv_some (Nat.zero_le _) h1
  simp only
  rw[sv_ok N hN t a (by omega) p3,bO]
  simp only[joinP]
  cases h2:pv t a with
  |none=>
   simp only
   rw[hK,s_ReadBatch_l1,IQ (by simp),<-hK]
   obtain⟨r,e⟩:=hbt ⟨(s:Int),[]⟩ (by simp)
   grind
  |some q2=>
   obtain⟨n,b⟩:=q2
   obtain⟨p4,p5,p6,_⟩:=pv_some p3 h2
   simp only
   obtain⟨at',bad,l,f1,f2⟩:=sch_loop N hN t ht ((n:Int),⟨t,(b:Int),false⟩) n rfl p4 t.size b 0 N [] p6 (by omega) (by omega) (by unfold Big at hN;omega) (by simp;omega)
   rw[f1]
   simp only[bO]
   rw[Nat.sub_zero]at f2
   cases h3:pchs t (t.size+1) n b with
   |none=>
    rw[h3]at f2
    obtain⟨rfl,f3⟩:=f2
    obtain⟨r,e⟩:=hbt ⟨(s:Int),l⟩ f3
    rw[e]
    rfl
   |some q3=>
    obtain⟨cs,e⟩:=q3
    rw[h3]at f2
    obtain⟨_,rfl,f4⟩:=f2
    rw[List.nil_append]at f4
    subst f4
    have hz:=(pchs_pos p6 h3).1
    have:=(pchs_pos p6 h3).2
    simp only[BF,↓reduceIte]
    exact bat_end N t ⟨s,l⟩ _ (btext_spec N hN ⟨s,l⟩ (by simp only;omega))
theorem w64_nat {a b:Nat}(h:a+b<=4611686018427387904):w64 ((a:Int)+(b:Int))=((a+b:Nat):Int):=by
 rw[w64_id (by omega) (by omega)]
 omega
theorem cat_le {α:Type}{x y:List α}(h:x.length+y.length<=68719476736):cat? x y=some (x++y):=IP h
def chOkS (c:Change):Prop:=1<=c.Key.size/\c.Key.size<=10/\c.Value.size<=40
def vpos (c:Change)(p:Nat):Nat:=p+(sht c.Key).size+1+(enc c.Value.size).length
def spt (seg:Int)(c:Change)(p:Nat):Spot:=if c.Gone=true then⟨c.Key,seg,0,-1⟩else⟨c.Key,seg,(vpos c p:Int),(c.Value.size:Int)⟩
def spts (seg:Int):List Change->Nat->List Spot
 |[],_=>[]
 |c::cs,p=>spt seg c p::spts seg cs (vpos c p+c.Value.size)
theorem vpos_le {c:Change}(h:chOkS c)(p:Nat):vpos c p+c.Value.size<=p+61:=by
 unfold vpos
 obtain⟨h1,h2,h3⟩:=h
 grind [sht_size,enc,enc_len]
theorem spts_len (seg:Int):∀(cs:List Change)(p:Nat),(spts seg cs p).length=cs.length
 |[],_=>rfl
 |c::cs,p=>by rw[spts,LC,LC,spts_len seg cs]
theorem spots_spec (N:Nat)(hN:Big N)(seg:Int)(y:Batch×Bool)(hy:∀c∈y.1.Changes,chOkS c)(hl:y.1.Changes.length<=60):∀(d k m p:Nat)(acc:List Spot),y.1.Changes.length=k+d->d<m->p<=100000000+61*k->acc.length<=100000000+k->
  s_ScanSeg_l2 N seg y m (p:Int) (k:Int) acc=some (acc++spts seg (y.1.Changes.drop k) p):=by
 intro d
 induction d with
 |zero=>
  intro k m p acc hd hm hp ha
  obtain⟨m,rfl⟩:∃q,m=q+1:=⟨m-1,by omega⟩
  rw[s_ScanSeg_l2,IQ (by simp;omega),DN (by omega),spts,List.append_nil]
 |succ d ih=>
  intro k m p acc hd hm hp ha
  obtain⟨m,rfl⟩:∃q,m=q+1:=⟨m-1,by omega⟩
  have hk:k<y.1.Changes.length:=by omega
  have hc:=hy _ (List.getElem_mem hk)
  have hv:=vpos_le hc p
  obtain⟨g1,g2,g3⟩:=hc
  have z1:=sht_size (s:=y.1.Changes[k].Key) (by omega)
  have z2:=enc_len5 (n:=y.1.Changes[k].Value.size) (by omega)
  rw[s_ScanSeg_l2,IP (by simp;omega),at_lt hk]
  simp only[joinP,bO]
  rw[short_spec N hN _ (by omega),bO,var_spec N hN _ (by omega),bO,encT_size,w64_nat (by omega),WS (by omega),w64_nat (by omega)]
  have hvp:p+(sht y.1.Changes[k].Key).size+1+(enc y.1.Changes[k].Value.size).length=vpos y.1.Changes[k] p:=rfl
  rw[hvp,w64_nat (by omega),WS (by omega)]
  have hsp:∀f:Spot->Option (List Spot),(if y.1.Changes[k].Gone=true then f ⟨y.1.Changes[k].Key,seg,0,-1⟩else f ⟨y.1.Changes[k].Key,seg,(vpos y.1.Changes[k] p:Int),(y.1.Changes[k].Value.size:Int)⟩)=f (spt seg y.1.Changes[k] p):=by
   grind [spt]
  have:=hsp λs=>(cat? acc [s]).bind λx=>s_ScanSeg_l2 N seg y m ((vpos y.1.Changes[k] p+y.1.Changes[k].Value.size:Nat):Int) ((k+1:Nat):Int) x
  rw[this,cat_le (by simp;omega),bO,ih (k+1) m _ _ (by omega) (by omega) (by omega) (by simp;omega),DG hk,spts,List.append_assoc]
  rfl
theorem spots_impl (N:Nat)(hN:Big N)(seg:Int)(y:Tplaced)(hy:∀c∈y.b.Changes,chOkS c)(hl:y.b.Changes.length<=60):∀(d k m p:Nat)(acc:List Spot),y.b.Changes.length=k+d->d<m->p<=100000000+61*k->acc.length<=100000000+k->
  i_spotsOf_l1 N y seg m (p:Int) (k:Int) acc=some (acc++spts seg (y.b.Changes.drop k) p):=by
 intro d
 induction d with
 |zero=>
  intro k m p acc hd hm hp ha
  obtain⟨m,rfl⟩:∃q,m=q+1:=⟨m-1,by omega⟩
  rw[i_spotsOf_l1,IQ (by simp;omega),DN (by omega),spts,List.append_nil]
 |succ d ih=>
  intro k m p acc hd hm hp ha
  obtain⟨m,rfl⟩:∃q,m=q+1:=⟨m-1,by omega⟩
  have hk:k<y.b.Changes.length:=by omega
  have hc:=hy _ (List.getElem_mem hk)
  have hv:=vpos_le hc p
  obtain⟨g1,g2,g3⟩:=hc
  have z1:=sht_size (s:=y.b.Changes[k].Key) (by omega)
  have z2:=sht_size (s:=y.b.Changes[k].Value) (by omega)
  rw[i_spotsOf_l1,IP (by simp;omega),at_lt hk]
  simp only[bO]
  rw[short_impl N hN _ (by omega),bO,short_impl N hN _ (by omega),bO,WS (by omega),w64_nat (by omega),w64_nat (by omega),WS (by omega)]
  have hvp:p+((sht y.b.Changes[k].Key).size+1+(sht y.b.Changes[k].Value).size)=vpos y.b.Changes[k] p+y.b.Changes[k].Value.size:=by unfold vpos;omega
  rw[hvp,w64_id (n:=((vpos y.b.Changes[k] p+y.b.Changes[k].Value.size:Nat):Int)-_) (by omega) (by omega),show((vpos y.b.Changes[k] p+y.b.Changes[k].Value.size:Nat):Int)-(y.b.Changes[k].Value.size:Int)=(vpos y.b.Changes[k] p:Int) by omega]
  have hsp:∀f:Spot->Option (List Spot),(if y.b.Changes[k].Gone=true then f ⟨y.b.Changes[k].Key,seg,0,-1⟩else f ⟨y.b.Changes[k].Key,seg,(vpos y.b.Changes[k] p:Int),(y.b.Changes[k].Value.size:Int)⟩)=f (spt seg y.b.Changes[k] p):=by
   grind [spt]
  have:=hsp λs=>(cat? acc [s]).bind λx=>i_spotsOf_l1 N y seg m ((vpos y.b.Changes[k] p+y.b.Changes[k].Value.size:Nat):Int) ((k+1:Nat):Int) x
  rw[this,cat_le (by simp;omega),bO,ih (k+1) m _ _ (by omega) (by omega) (by omega) (by simp;omega),DG hk,spts,List.append_assoc]
  rfl
def bhd (b:Batch)(a:Nat):Nat:=a+(enc b.Stamp.toNat).length+(enc b.Changes.length).length
def psp (seg:Int)(p:Tplaced):List Spot:=spts seg p.b.Changes (bhd p.b p.at'.toNat)
def plOk (p:Tplaced):Prop:=batOk p.b=true/\0<=p.at'/\p.at'<=90000000
theorem bat_ch {b:Batch}(h:batOk b=true):∀c∈b.Changes,chOkS c:=(batOk_ok h).2.2.2
theorem bhd_le {b:Batch}(h:batOk b=true)(a:Nat):bhd b a<=a+10:=by
 obtain⟨h1,h2,h3,_⟩:=batOk_ok h
 grind [bhd,enc_len5]
theorem spotsOf_ok (N:Nat)(hN:Big N)(seg:Int)(p:Tplaced)(hp:plOk p):i_spotsOf N p seg=some (psp seg p)/\(psp seg p).length<=60:=by
 obtain⟨h1,h2,h3⟩:=hp
 obtain⟨g1,g2,g3,_⟩:=batOk_ok h1
 have hb:=bhd_le h1 p.at'.toNat
 refine⟨?_,by unfold psp;rw[spts_len];omega⟩
 unfold i_spotsOf psp
 rw[show p.b.Stamp=((p.b.Stamp.toNat:Nat):Int) by omega,vars_two N hN _ _ (by omega) (by omega),bO]
 simp only[joinP]
 rw[BZ,encT_size,encT_size,show p.at'=((p.at'.toNat:Nat):Int) by omega]
 unfold bhd at hb⊢
 rw[w64_nat (by omega),<-Nat.add_assoc]
 have:=spots_impl N hN seg p (bat_ch h1) g3 p.b.Changes.length 0 N (p.at'.toNat+(enc p.b.Stamp.toNat).length+(enc p.b.Changes.length).length) [] (by omega) (by unfold Big at hN;omega) (by omega) (by simp)
 grind
def bats (N:Nat):List BA->Nat->List Tplaced×Nat
 |[],a=>([],a)
 |t::ts,a=>if(rbat t).2=true then(⟨(rbat t).1,t,((a+(frm N t).size-t.size:Nat):Int)⟩::(bats N ts (a+(frm N t).size)).1,(bats N ts (a+(frm N t).size)).2)else([],a)
theorem frm_le (N:Nat)(hN:Big N){t:BA}(h:rok t):t.size<=(frm N t).size/\(frm N t).size<=9009:=by
 grind [frm_size,enc_len5]
theorem bats_ok (N:Nat)(hN:Big N):∀(ts:List BA)(a:Nat),(∀r∈ts,rok r)->a+9009*ts.length<=90000000->(∀p∈(bats N ts a).1,plOk p)/\(bats N ts a).2<=a+9009*ts.length/\(bats N ts a).1.length<=ts.length
 |[],a,_,_=>⟨by simp[bats],by simp[bats],by simp[bats]⟩
 |t::ts,a,h,ha=>by
  have hf:=frm_le N hN (h t (by simp))
  rw[LC]at ha
  obtain⟨h1,h2,h3⟩:=bats_ok N hN ts (a+(frm N t).size) (λr hr=>h r (by simp[hr])) (by omega)
  rw[bats]
  split
  ·rename_i hb
   refine⟨λp hp=> ?_,by simp only[LC];omega,by simp only[LC];omega⟩
   rcases List.mem_cons.1 hp with rfl|hp
   ·exact⟨rbat_ok hb,by simp,by simp only;omega⟩
   ·exact h1 p hp
  ·grind
theorem bats_impl_l (N:Nat)(hN:Big N)(y:List BA×Int)(hy:∀r∈y.1,rok r)(hl:y.1.length<=4000):∀(d k m a:Nat)(acc:List Tplaced),y.1.length=k+d->d<m->a<=9009*k->acc.length<=k->
  i_batchesOf_l1 N y m (a:Int) (k:Int) acc=some (((bats N (y.1.drop k) a).2:Int),acc++(bats N (y.1.drop k) a).1):=by
 intro d
 induction d with
 |zero=>
  intro k m a acc hd hm ha hc
  obtain⟨m,rfl⟩:∃q,m=q+1:=⟨m-1,by omega⟩
  rw[i_batchesOf_l1,IQ (by simp;omega),DN (by omega),bats,List.append_nil]
 |succ d ih=>
  intro k m a acc hd hm ha hc
  obtain⟨m,rfl⟩:∃q,m=q+1:=⟨m-1,by omega⟩
  have hk:k<y.1.length:=by omega
  have hr:=hy _ (List.getElem_mem hk)
  have hf:=frm_le N hN hr
  rw[i_batchesOf_l1,IP (by simp;omega),at_lt hk]
  simp only[bO]
  rw[rbat_impl N hN _ (by unfold rok at hr;omega),bO,DG hk,bats]
  by_cases hb:(rbat y.1[k]).2=true
  ·rw[IQ (by simp[hb]),frame_impl N hN _ (by unfold rok at hr;omega),IP hr,bO,IP hb]
   simp only[]
   rw[w64_nat (by omega),w64_id (n:=((a+(frm N y.1[k]).size:Nat):Int)-_) (by omega) (by omega),show((a+(frm N y.1[k]).size:Nat):Int)-(y.1[k].size:Int)=((a+(frm N y.1[k]).size-y.1[k].size:Nat):Int) by omega,cat_le (by simp;omega),bO,WS (by omega),ih (k+1) m _ _ (by omega) (by omega) (by omega) (by simp;omega),List.append_assoc]
   rfl
  grind
def scan (N:Nat)(t:BA):List Tplaced×Nat:=bats N (recs N t).1 0
theorem scan_ok (N:Nat)(hN:Big N)(t:BA)(ht:t.size<=20000):(∀p∈(scan N t).1,plOk p)/\(scan N t).1.length<=4000:=by
 obtain⟨h1,h2⟩:=recs_ok N t
 obtain⟨g1,g2,g3⟩:=bats_ok N hN (recs N t).1 0 h2 (by omega)
 exact⟨g1,by unfold scan;omega⟩
theorem batches_impl (N:Nat)(hN:Big N)(t:BA)(ht:t.size<=20000):i_batchesOf N t=some ((scan N t).1,((scan N t).2:Int)):=by
 unfold i_batchesOf
 obtain⟨h1,h2⟩:=recs_ok N t
 rw[unf_impl N hN t ht,bO]
 simp only[joinP]
 have:=bats_impl_l N hN ((recs N t).1,((recs N t).2:Int)) h2 (by simp only;omega) (recs N t).1.length 0 N 0 [] (by simp) (by unfold Big at hN;omega) (by omega) (by simp)
 rw[show((0:Nat):Int)=0 from rfl]at this
 rw[this]
 rfl
def scS (seg:Int):List Tplaced->List Spot
 |[]=>[]
 |p::ps=>psp seg p++scS seg ps
def scM:List Tplaced->Int->Int
 |[],s=>s
 |p::ps,s=>scM ps (imax s p.b.Stamp)
def scR (N:Nat)(t:BA)(seg:Int):List Spot×List BA×Int:=(scS seg (scan N t).1,(scan N t).1.map Tplaced.text,scM (scan N t).1 (-1))
theorem scan_impl_l (N:Nat)(hN:Big N)(seg:Int)(y:List Tplaced×Int)(hy:∀p∈y.1,plOk p)(hl:y.1.length<=4000):∀(d k m:Nat)(s:Int)(a1:List Spot)(a2:List BA),y.1.length=k+d->d<m->a1.length<=60*k->a2.length<=k->
  i_ScanSeg_l1 N seg y m s (k:Int) a1 a2=some (scM (y.1.drop k) s,a1++scS seg (y.1.drop k),a2++(y.1.drop k).map Tplaced.text):=by
 intro d
 induction d with
 |zero=>
  intro k m s a1 a2 hd hm h1 h2
  obtain⟨m,rfl⟩:∃q,m=q+1:=⟨m-1,by omega⟩
  rw[i_ScanSeg_l1,IQ (by simp;omega),DN (by omega),scM,scS,List.map_nil,List.append_nil,List.append_nil]
 |succ d ih=>
  intro k m s a1 a2 hd hm h1 h2
  obtain⟨m,rfl⟩:∃q,m=q+1:=⟨m-1,by omega⟩
  have hk:k<y.1.length:=by omega
  obtain⟨e1,e2⟩:=spotsOf_ok N hN seg _ (hy _ (List.getElem_mem hk))
  rw[i_ScanSeg_l1,IP (by simp;omega),at_lt hk]
  simp only[bO]
  rw[e1,bO,cat_le (by omega),bO,cat_le (by simp;omega),bO,WS (by omega),ih (k+1) m _ _ _ (by omega) (by omega) (by simp;omega) (by simp;omega),DG hk,scM,scS,List.map_cons,List.append_assoc,List.append_assoc]
  rfl
theorem scan_impl (N:Nat)(hN:Big N)(t:BA)(ht:t.size<=20000)(seg:Int):i_ScanSeg N t seg=some (scR N t seg):=by
 unfold i_ScanSeg
 obtain⟨h1,h2⟩:=scan_ok N hN t ht
 rw[batches_impl N hN t ht,bO]
 simp only[joinP]
 have:=scan_impl_l N hN seg ((scan N t).1,((scan N t).2:Int)) h1 h2 (scan N t).1.length 0 N (-1) [] [] (by simp) (by unfold Big at hN;omega) (by simp) (by simp)
 rw[show((0:Nat):Int)=0 from rfl]at this
 rw[this]
 rfl
theorem scan_spec_l (N:Nat)(hN:Big N)(seg:Int)(y:List BA×Int)(hy:∀r∈y.1,rok r)(hl:y.1.length<=4000):∀(d k m a:Nat)(s:Int)(a1:List Spot)(a2:List BA),y.1.length=k+d->d<m->a<=9009*k->a1.length<=60*k->a2.length<=k->
  ∃o,s_ScanSeg_l1 N seg y m s (a:Int) (k:Int) a1 a2=some o/\Sum.elim (λv=>some v) (λv:Int×List Spot×List BA=>some (v.2.1,v.2.2,v.1)) o=some (a1++scS seg (bats N (y.1.drop k) a).1,a2++(bats N (y.1.drop k) a).1.map Tplaced.text,scM (bats N (y.1.drop k) a).1 s):=by
 intro d
 induction d with
 |zero=>
  intro k m a s a1 a2 hd hm ha h1 h2
  obtain⟨m,rfl⟩:∃q,m=q+1:=⟨m-1,by omega⟩
  rw[s_ScanSeg_l1,IQ (by simp;omega),DN (by omega),bats,scM,scS,List.map_nil,List.append_nil,List.append_nil]
  exact⟨_,rfl,rfl⟩
 |succ d ih=>
  intro k m a s a1 a2 hd hm ha h1 h2
  obtain⟨m,rfl⟩:∃q,m=q+1:=⟨m-1,by omega⟩
  have hk:k<y.1.length:=by omega
  have hr:=hy _ (List.getElem_mem hk)
  have hf:=frm_le N hN hr
  rw[s_ScanSeg_l1,IP (by simp;omega)]
  simp only[joinP,at_lt hk,bO]
  rw[rbat_spec N hN _ (by unfold rok at hr;omega),bO,DG hk,bats]
  by_cases hb:(rbat y.1[k]).2=true
  ·have hbo:=rbat_ok hb
   obtain⟨g1,g2,g3,_⟩:=batOk_ok hbo
   have hbh:=bhd_le hbo (a+(frm N y.1[k]).size-y.1[k].size)
   rw[IQ (by simp[hb]),frame_spec N hN _ (by unfold rok at hr;omega),IP hr,bO,IP hb]
   rw[show(rbat y.1[k]).1.Stamp=(((rbat y.1[k]).1.Stamp.toNat:Nat):Int) by omega,var_spec N hN _ (by omega),bO,var_spec N hN _ (by omega),bO,encT_size,encT_size]
   simp only[]
   have e1:w64 ((w64 ((w64 ((w64 ((a:Int)+((frm N y.1[k]).size:Int)))-(y.1[k].size:Int)))+((enc (rbat y.1[k]).1.Stamp.toNat).length:Int)))+((enc (rbat y.1[k]).1.Changes.length).length:Int))=((bhd (rbat y.1[k]).1 (a+(frm N y.1[k]).size-y.1[k].size):Nat):Int):=by
    unfold bhd at hbh⊢
    rw[w64_nat (by omega),w64_id (n:=((a+(frm N y.1[k]).size:Nat):Int)-_) (by omega) (by omega),show((a+(frm N y.1[k]).size:Nat):Int)-(y.1[k].size:Int)=((a+(frm N y.1[k]).size-y.1[k].size:Nat):Int) by omega,w64_nat (by omega),w64_nat (by omega)]
   rw[e1]
   have e2:=spots_spec N hN seg (rbat y.1[k]) (bat_ch hbo) g3 (rbat y.1[k]).1.Changes.length 0 N (bhd (rbat y.1[k]).1 (a+(frm N y.1[k]).size-y.1[k].size)) a1 (by omega) (by unfold Big at hN;omega) (by omega) (by omega)
   rw[show((0:Nat):Int)=0 from rfl]at e2
   rw[e2,bO,List.drop_zero,w64_nat (by omega),WS (by omega),cat_le (by simp;omega)]
   simp only[bO]
   have e3:∀z:Int->Option ((List Spot×List BA×Int)⊕(Int×List Spot×List BA)),(if decide ((((rbat y.1[k]).1.Stamp.toNat:Nat):Int)>s)=true then z (((rbat y.1[k]).1.Stamp.toNat:Nat):Int)else z s)=z (imax s (rbat y.1[k]).1.Stamp):=by
    intro z
    rw[show(((rbat y.1[k]).1.Stamp.toNat:Nat):Int)=(rbat y.1[k]).1.Stamp by omega]
    unfold imax
    by_cases hs:(rbat y.1[k]).1.Stamp>s
    ·rw[IP (by simp;omega)];congr 1;omega
    ·grind
   have e4:=e3 λv=>s_ScanSeg_l1 N seg y m v ((a+(frm N y.1[k]).size:Nat):Int) ((k+1:Nat):Int) (a1++spts seg (rbat y.1[k]).1.Changes (bhd (rbat y.1[k]).1 (a+(frm N y.1[k]).size-y.1[k].size))) (a2++[y.1[k]])
   rw[e4]
   obtain⟨o,f1,f2⟩:=ih (k+1) m (a+(frm N y.1[k]).size) (imax s (rbat y.1[k]).1.Stamp) (a1++spts seg (rbat y.1[k]).1.Changes (bhd (rbat y.1[k]).1 (a+(frm N y.1[k]).size-y.1[k].size))) (a2++[y.1[k]]) (by omega) (by omega) (by omega) (by rw[LA,spts_len];omega) (by simp;omega)
   refine⟨o,f1,?_⟩
   rw[f2,scM,scS,List.map_cons,List.append_assoc,List.append_assoc]
   rfl
  ·rw[IP (by simp[hb]),IQ hb,scM,scS,List.map_nil,List.append_nil,List.append_nil]
   exact⟨_,rfl,rfl⟩
theorem scan_spec (N:Nat)(hN:Big N)(t:BA)(ht:t.size<=20000)(seg:Int):s_ScanSeg N t seg=some (scR N t seg):=by
 unfold s_ScanSeg
 obtain⟨h1,h2⟩:=recs_ok N t
 rw[unf_spec N hN t ht,bO]
 simp only[joinP]
 obtain⟨o,e1,e2⟩:=scan_spec_l N hN seg ((recs N t).1,((recs N t).2:Int)) h2 (by simp only;omega) (recs N t).1.length 0 N 0 (-1) [] [] (by simp) (by unfold Big at hN;omega) (by omega) (by simp) (by simp)
 rw[show((0:Nat):Int)=0 from rfl]at e1
 rw[e1,bO]
 exact e2
def fsum (N:Nat):List BA->Nat->Nat
 |[],a=>a
 |t::ts,a=>fsum N ts (a+(frm N t).size)
theorem bats_end (N:Nat):∀(ts:List BA)(a:Nat),fsum N ((bats N ts a).1.map Tplaced.text) a=(bats N ts a).2
 |[],a=>rfl
 |t::ts,a=>by
  rw[bats]
  split
  ·simp only[List.map_cons,fsum]
   exact bats_end N ts _
  ·rfl
theorem ifs1 {α:Type}(x:Bool)(z e:α):(if(!x)=true then e else z)=if x=true then z else e:=by cases x<;>rfl
def okSpot (o:Option Spot)(x:Spot):Bool:=decide (1<=x.Key.size/\x.Key.size<=10)&&(decide (0<=x.Seg/\x.Seg<=999)&&(decide (0<=x.At/\x.At<=20000)&&(decide (0<=x.Size/\x.Size<=40)&&(match o with|none=>true|some q=>blt q.Key x.Key))))
def dirOk (l:List Spot):Bool:=decide (l.length<=60)&&chain okSpot none l
theorem dirOk_impl_step (N:Nat)(l:List Spot)(hl:l.length<=1099511627)(m k:Nat)(hk:k<l.length):i_DirOk_l1 N l (m+1) (k:Int)=if okSpot (l.take k).getLast? l[k]=true then i_DirOk_l1 N l m ((k+1:Nat):Int)else some (.inl false):=by
 rw[i_DirOk_l1,IP (by simp;omega),at_lt hk]
 simp only[bO,key_impl,within_eq]
 rw[WS (by omega)]
 simp only[okSpot]
 by_cases h1:1<=l[k].Key.size/\l[k].Key.size<=10
 case neg=>simp only[DF h1];rfl
 by_cases h2:0<=l[k].Seg/\l[k].Seg<=999
 case neg=>simp only[DE h1,DF h2];rfl
 by_cases h3:0<=l[k].At/\l[k].At<=20000
 case neg=>simp only[DE h1,DE h2,DF h3];rfl
 by_cases h4:0<=l[k].Size/\l[k].Size<=40
 case neg=>simp only[DE h1,DE h2,DE h3,DF h4];rfl
 simp only[DE h1,DE h2,DE h3,DE h4,BN,BF,if_false,Bool.true_and]
 by_cases h0:0<k
 ·rw[IP (by simpa using h0),at_prev h0 (by omega) (by omega)]
  cases hq:(l.take k).getLast? with
  |none=>exact(take_none h0 hk hq).elim
  |some q=>
   simp only[bO]
   rw[show Op.bytesLess q.Key.toList l[k].Key.toList=blt q.Key l[k].Key from rfl]
   exact ifs1 _ _ _
 grind
theorem dirOk_impl (N:Nat)(hN:Big N)(l:List Spot)(hl:l.length<=1099511627):i_DirOk N l=some (dirOk l):=by
 unfold i_DirOk dirOk
 rw[chain_start okSpot (i_DirOk_l1 N l) l (by unfold Big at hN;omega) (dirOk_impl_step N l hl) (λm=>by rw[i_DirOk_l1,IQ (by simp)])]
 cases chain okSpot none l
 ·simp[oks,joinP]
 ·simp only[joinP,oks,bO,Sum.elim_inr,Bool.and_true]
  congr 1
  grind
theorem dirOk_spec_step (N:Nat)(l:List Spot)(hl:l.length<=1099511627)(m k:Nat)(hk:k<l.length):s_DirOk_l1 N l (m+1) (k:Int)=if okSpot (l.take k).getLast? l[k]=true then s_DirOk_l1 N l m ((k+1:Nat):Int)else some (.inl false):=by
 rw[s_DirOk_l1,IP (by simp;omega),at_lt hk]
 simp only[bO,key_spec,in_eq,joinP]
 rw[WS (by omega)]
 simp only[okSpot]
 by_cases h1:1<=l[k].Key.size/\l[k].Key.size<=10
 case neg=>simp only[DF h1];rfl
 have key:∀z:Option (Bool⊕Unit),(if(!decide (0<=l[k].Seg/\l[k].Seg<=999))=true then some (Sum.inl false)else if(!decide (0<=l[k].At/\l[k].At<=20000))=true then some (Sum.inl false)else if(!decide (0<=l[k].Size/\l[k].Size<=40))=true then some (Sum.inl false)else z)=if(decide (0<=l[k].Seg/\l[k].Seg<=999)&&(decide (0<=l[k].At/\l[k].At<=20000)&&decide (0<=l[k].Size/\l[k].Size<=40)))=true then z else some (Sum.inl false):=by
  grind
 simp only[DE h1,BN,BF,if_false,Bool.true_and,key]
 by_cases h0:0<k
 ·rw[IP (by simpa using h0),at_prev h0 (by omega) (by omega)]
  cases hq:(l.take k).getLast? with
  |none=>exact(take_none h0 hk hq).elim
  |some q=>
   simp only[bO]
   rw[show Op.bytesLess q.Key.toList l[k].Key.toList=blt q.Key l[k].Key from rfl]
   grind
 grind
theorem dirOk_spec (N:Nat)(hN:Big N)(l:List Spot)(hl:l.length<=1099511627):s_DirOk N l=some (dirOk l):=by
 unfold s_DirOk dirOk
 by_cases h:l.length<=60
 case neg=>rw[IP (by simp;omega),DF h];rfl
 rw[IQ (by simp;omega),DE h,chain_start okSpot (s_DirOk_l1 N l) l (by unfold Big at hN;omega) (dirOk_spec_step N l hl) (λm=>by rw[s_DirOk_l1,IQ (by simp)])]
 cases chain okSpot none l<;>simp[oks,joinP]
def put1 (o:List Spot)(x:Spot):List Spot:=(o.filter λy=>blt y.Key x.Key)++(if x.Size= -1 then[]else[x])++o.filter λy=> !(blt y.Key x.Key||decide (y.Key=x.Key))
def puts (o l:List Spot):List Spot:=l.foldl put1 o
theorem two_filter {α:Type}{p q:α->Bool}(h:∀x,p x=true->q x=false):∀l:List α,(l.filter p).length+(l.filter q).length<=l.length
 |[]=>Nat.le_refl _
 |x::l=>by
  have ih:=two_filter h l
  have hx:=h x
  rw[List.filter_cons,List.filter_cons,LC]
  cases hp:p x
  ·grind
  ·rw[hx hp];simp;omega
theorem put1_len (o:List Spot)(x:Spot):(put1 o x).length<=o.length+1:=by
 have:=two_filter (p:=λy:Spot=>blt y.Key x.Key) (q:=λy=> !(blt y.Key x.Key||decide (y.Key=x.Key))) (λy hy=>by simp[hy]) o
 grind [put1,LA,List.length_nil,List.length_singleton]
theorem l08a (N:Nat)(o:List Spot)(x:Spot)(ho:o.length<=1000000000):∀(d k m:Nat)(acc:List Spot),o.length=k+d->d<m->acc.length<=k->s_l08More_l2 N o x m (k:Int) acc=some (acc++(o.drop k).filter λy=>blt y.Key x.Key):=by
 intro d
 induction d with
 |zero=>
  intro k m acc hd hm ha
  obtain⟨m,rfl⟩:∃q,m=q+1:=⟨m-1,by omega⟩
  rw[s_l08More_l2,IQ (by simp;omega),DN (by omega),List.filter_nil,List.append_nil]
 |succ d ih=>
  intro k m acc hd hm ha
  obtain⟨m,rfl⟩:∃q,m=q+1:=⟨m-1,by omega⟩
  have hk:k<o.length:=by omega
  rw[s_l08More_l2,IP (by simp;omega)]
  simp only[joinP,at_lt hk,bO]
  rw[show Op.bytesLess o[k].Key.toList x.Key.toList=blt o[k].Key x.Key from rfl,cat_le (by simp;omega),WS (by omega),DG hk,List.filter_cons]
  cases hb:blt o[k].Key x.Key
  ·rw[IQ (by decide),IQ (by decide),ih (k+1) m _ (by omega) (by omega) (by omega)]
  ·rw[IP rfl,IP rfl,bO,ih (k+1) m _ (by omega) (by omega) (by simp;omega),List.append_assoc]
   rfl
theorem l08b (N:Nat)(o:List Spot)(x:Spot)(ho:o.length<=1000000000)(b:Nat)(hb:b<=1000000001):∀(d k m:Nat)(acc:List Spot),o.length=k+d->d<m->acc.length<=b+k->s_l08More_l3 N o x m (k:Int) acc=some (acc++(o.drop k).filter λy=> !(blt y.Key x.Key||decide (y.Key=x.Key))):=by
 intro d
 induction d with
 |zero=>
  intro k m acc hd hm ha
  obtain⟨m,rfl⟩:∃q,m=q+1:=⟨m-1,by omega⟩
  rw[s_l08More_l3,IQ (by simp;omega),DN (by omega),List.filter_nil,List.append_nil]
 |succ d ih=>
  intro k m acc hd hm ha
  obtain⟨m,rfl⟩:∃q,m=q+1:=⟨m-1,by omega⟩
  have hk:k<o.length:=by omega
  rw[s_l08More_l3,IP (by simp;omega)]
  simp only[joinP,at_lt hk,bO]
  rw[show Op.bytesLess o[k].Key.toList x.Key.toList=blt o[k].Key x.Key from rfl,cat_le (by simp;omega),WS (by omega),DG hk,List.filter_cons]
  cases hb:(!(blt o[k].Key x.Key||decide (o[k].Key=x.Key)))
  ·rw[IQ (by decide),IQ (by decide),ih (k+1) m _ (by omega) (by omega) (by omega)]
  ·rw[IP rfl,IP rfl,bO,ih (k+1) m _ (by omega) (by omega) (by simp;omega),List.append_assoc]
   rfl
theorem l08_loop (N:Nat)(hN:Big N)(l:List Spot)(hl:l.length<=100000000):∀(d k m:Nat)(o:List Spot),l.length=k+d->d<m->o.length<=100000000+k->s_l08More_l1 N l m (k:Int) o=some (puts o (l.drop k)):=by
 intro d
 induction d with
 |zero=>
  intro k m acc hd hm ha
  obtain⟨m,rfl⟩:∃q,m=q+1:=⟨m-1,by omega⟩
  rw[s_l08More_l1,IQ (by simp;omega),DN (by omega)]
  rfl
 |succ d ih=>
  intro k m o hd hm ha
  obtain⟨m,rfl⟩:∃q,m=q+1:=⟨m-1,by omega⟩
  have hk:k<l.length:=by omega
  have h1:=l08a N o l[k] (by omega) o.length 0 N [] (by omega) (by unfold Big at hN;omega) (by simp)
  have h2:=λacc (ha:acc.length<=o.length+1)=>l08b N o l[k] (by omega) (o.length+1) (by omega) o.length 0 N acc (by omega) (by unfold Big at hN;omega) (by omega)
  have hf:=List.length_filter_le (λy:Spot=>blt y.Key l[k].Key) o
  rw[show((0:Nat):Int)=0 from rfl,List.drop_zero]at h1 h2
  rw[s_l08More_l1,IP (by simp;omega)]
  simp only[joinP,at_lt hk,bO]
  rw[h1,bO,List.nil_append,cat_le (by simp;omega),WS (by omega),DG hk]
  have hp:=put1_len o l[k]
  have e:∀z:List Spot->Option (List Spot),(if(l[k].Size != -1)=true then(some ((o.filter λy=>blt y.Key l[k].Key)++[l[k]])).bind z else z (o.filter λy=>blt y.Key l[k].Key))=z ((o.filter λy=>blt y.Key l[k].Key)++if l[k].Size= -1 then[]else[l[k]]):=by
   grind
  rw[e λv=>(s_l08More_l3 N o l[k] N 0 v).bind λv=>s_l08More_l1 N l m ((k+1:Nat):Int) v,h2 _ (by rw[LA];split<;>simp<;>omega),bO,show(_:List Spot)++_++_=put1 o l[k]from rfl,ih (k+1) m _ (by omega) (by omega) (by omega)]
  rfl
theorem l08_ok (N:Nat)(hN:Big N)(o l:List Spot)(ho:o.length<=100000000)(hl:l.length<=100000000):s_l08More N o l=some (puts o l):=by
 unfold s_l08More
 rw[cat_le (by simp;omega),bO]
 simp only[joinP]
 have:=l08_loop N hN l hl l.length 0 N o (by omega) (by unfold Big at hN;omega) (by omega)
 grind
theorem puts_len:∀(l o:List Spot),(puts o l).length<=o.length+l.length
 |[],o=>Nat.le_refl _
 |x::l,o=>by
  have h1:=put1_len o x
  have h2:=puts_len l (put1 o x)
  rw[LC]
  exact Nat.le_trans h2 (by omega)
abbrev srt (o:List Spot):Prop:=o.Pairwise λa b=>blt a.Key b.Key=true
theorem not_lt {a b:BA}(h:(!(blt a b||decide (a=b)))=true):blt b a=true:=by
 rcases blt_tri a b with h1|h1|h1
 ·simp[h1]at h
 ·simp[h1]at h
 ·exact h1
theorem put1_srt {o:List Spot}(h:srt o)(x:Spot):srt (put1 o x):=by
 unfold put1
 have hA:∀a∈o.filter λy=>blt y.Key x.Key,blt a.Key x.Key=true:=λa ha=>(List.mem_filter.1 ha).2
 have hB:∀b∈o.filter λy=> !(blt y.Key x.Key||decide (y.Key=x.Key)),blt x.Key b.Key=true:=λb hb=>not_lt (List.mem_filter.1 hb).2
 refine List.pairwise_append.2 ⟨List.pairwise_append.2 ⟨h.filter _,?_,?_⟩,h.filter _,?_⟩
 ·split
  ·exact .nil
  grind
 ·grind
 grind [blt_trans,List.mem_singleton]
theorem cut_at (k:BA):∀{m:List Spot},srt m->∃A B,m=A++B/\(∀a∈A,blt a.Key k=true)/\((∀b∈B,blt k b.Key=true)\/∃y R,B=y::R/\y.Key=k/\∀b∈R,blt k b.Key=true)
 |[],_=>⟨[],[],rfl,by simp,.inl (by simp)⟩
 |x::m,h=>by
  obtain⟨hx,hm⟩:=List.pairwise_cons.1 h
  rcases blt_tri x.Key k with h1|h1|h1
  ·obtain⟨A,B,e,h2,h3⟩:=cut_at k hm
   refine⟨x::A,B,by rw[e];rfl,λa ha=> ?_,h3⟩
   rcases List.mem_cons.1 ha with rfl|ha
   ·exact h1
   ·exact h2 a ha
  ·exact⟨[],x::m,rfl,by simp,.inr ⟨x,m,rfl,h1,λb hb=>h1▸hx b hb⟩⟩
  ·refine⟨[],x::m,rfl,by simp,.inl λb hb=> ?_⟩
   rcases List.mem_cons.1 hb with rfl|hb
   ·exact h1
   ·exact blt_trans h1 (hx b hb)
theorem bsS (N:Nat)(hN:Big N)(xs:List Spot)(hl:xs.length<=1099511627)(k:BA)(c:Nat)(hc:c<=xs.length)(hq:∀q (hq:q<xs.length),(blt (xs[q]'hq).Key k=true↔q<c)):L_BF_string_i1_l1 N xs k N 0 (xs.length:Int)=some (c:Int):=by
 have:=bs_gen Spot.Key xs k (L_BF_string_i1_l1 N xs k) c hq (λf i j h=> ?_) (λf i j hlt hij=> ?_) N 0 xs.length (by omega) hc (Nat.le_refl _) (by unfold Big at hN;omega)
 ·exact this
 ·rw[L_BF_string_i1_l1,IQ (by simp;omega)]
 ·rw[L_BF_string_i1_l1,IP (by simp;omega),mid_eq (by omega),bO,w64_id (by omega) (by omega),at_lt hlt,bO]
  unfold i_DirMore_1 S_Compare
  simp only[bO,cmp_blt]
  rw[WS (by omega)]
  cases blt (xs[(i+j)/2]'hlt).Key k
  ·grind
  ·rfl
theorem gt_ne {a k:BA}(h:blt k a=true):blt a k=false/\a≠k:=⟨blt_asymm h,λe=>blt_ne h e.symm⟩
def hdK (k:BA):List Spot->Bool
 |[]=>false
 |y::_=>decide (y.Key=k)
theorem bsS_ok (N:Nat)(hN:Big N){A B:List Spot}{k:BA}(hl:(A++B).length<=1099511627)(h1:∀a∈A,blt a.Key k=true)(h2:∀b∈B,blt b.Key k=false):L_BF_string_i1 N (A++B) k=some ((A.length:Int),hdK k B):=by
 unfold L_BF_string_i1
 simp only[joinP]
 rw[bsS N hN (A++B) hl k A.length (by simp) (λq hq=> ?_),bO]
 ·cases B with
  |nil=>rw[IQ (by simp)];rfl
  |cons y R=>
   rw[IP (by simp;omega),at_lt (by simp),bO]
   unfold i_DirMore_1 S_Compare
   simp only[bO,cmp_blt]
   rw[List.getElem_append_right (Nat.le_refl _)]
   simp only[Nat.sub_self,List.getElem_cons_zero]
   rw[h2 y (by simp),IQ (by decide)]
   by_cases he:y.Key=k
   ·rw[IP he,hdK,DE he];rfl
   ·rw[IQ he,hdK,DF he];rfl
 grind
theorem dm_step (N:Nat)(hN:Big N)(l:List Spot)(m k:Nat)(hk:k<l.length)(hl:l.length<=100000000)(o:List Spot)(ho:o.length<=200000000)(hs:srt o):i_DirMore_l1 N l (m+1) (k:Int) o=i_DirMore_l1 N l m ((k+1:Nat):Int) (put1 o l[k]):=by
 obtain⟨A,B,rfl,h1,h2⟩:=cut_at l[k].Key hs
 have hAf:A.filter (λy=>blt y.Key l[k].Key)=A:=filt_all h1
 have hAg:A.filter (λy=> !(blt y.Key l[k].Key||decide (y.Key=l[k].Key)))=[]:=filt_none λa ha=>by simp[h1 a ha]
 rw[LA]at ho
 rw[i_DirMore_l1,IP (by simp;omega),at_lt hk,bO]
 rcases h2 with h2|⟨y,R,rfl,hy,h2⟩
 ·rw[bsS_ok N hN (by rw[LA];omega) h1 (λb hb=>(gt_ne (h2 b hb)).1),bO]
  have hf:hdK l[k].Key B=false:=by
   cases B with
   |nil=>rfl
   |cons y R=>exact DF (gt_ne (h2 y (by simp))).2
  have hBf:B.filter (λy=>blt y.Key l[k].Key)=[]:=filt_none λb hb=>(gt_ne (h2 b hb)).1
  have hBg:B.filter (λy=> !(blt y.Key l[k].Key||decide (y.Key=l[k].Key)))=B:=filt_all λb hb=>by simp[(gt_ne (h2 b hb)).1,(gt_ne (h2 b hb)).2]
  rw[hf]
  dsimp only
  rw[WS (k:=k) (by omega)]
  unfold put1
  rw[List.filter_append,List.filter_append,hAf,hAg,hBf,hBg,List.append_nil,List.nil_append]
  by_cases hz:l[k].Size= -1
  ·grind
  ·rw[IQ (by simp[hz]),IQ (by decide),IQ hz]
   unfold L_Insert_Spot ins?
   dsimp only
   rw[IP (by simp;omega),bO]
   simp
 ·rw[bsS_ok N hN (by rw[LA];omega) h1 (λb hb=>by
   rcases List.mem_cons.1 hb with rfl|hb
   ·rw[hy];exact blt_irrefl _
   ·exact(gt_ne (h2 b hb)).1),bO]
  have hBf:(y::R).filter (λy=>blt y.Key l[k].Key)=[]:=filt_none λb hb=>by
   grind [blt_irrefl,gt_ne]
  have hBg:(y::R).filter (λy=> !(blt y.Key l[k].Key||decide (y.Key=l[k].Key)))=R:=by
   rw[List.filter_cons,IQ (by simp[hy])]
   grind [filt_all,gt_ne]
  simp only[hdK,DE hy]
  rw[WS (k:=k) (by omega),WS (k:=A.length) (by rw[LC]at ho;omega)]
  unfold put1
  rw[List.filter_append,List.filter_append,hAf,hAg,hBf,hBg,List.append_nil,List.nil_append]
  by_cases hz:l[k].Size= -1
  ·rw[IP (by simp[hz]),IP trivial,IP hz,List.append_nil]
   unfold L_Delete_Spot del?
   rw[IP (by simp;omega),bO]
   congr 1
   simp
  ·rw[IQ (by simp[hz]),IP trivial,IQ hz,at_lt (by simp),bO]
   congr 1
   simp
theorem dm_loop (N:Nat)(hN:Big N)(l:List Spot)(hl:l.length<=100000000):∀(d k m:Nat)(o:List Spot),l.length=k+d->d<m->o.length<=100000000+k->srt o->i_DirMore_l1 N l m (k:Int) o=some (puts o (l.drop k)):=by
 intro d
 induction d with
 |zero=>
  intro k m acc hd hm ha hs
  obtain⟨m,rfl⟩:∃q,m=q+1:=⟨m-1,by omega⟩
  rw[i_DirMore_l1,IQ (by simp;omega),DN (by omega)]
  rfl
 |succ d ih=>
  intro k m o hd hm ha hs
  obtain⟨m,rfl⟩:∃q,m=q+1:=⟨m-1,by omega⟩
  have hk:k<l.length:=by omega
  have hp:=put1_len o l[k]
  rw[dm_step N hN l m k hk hl o (by omega) hs,ih (k+1) m _ (by omega) (by omega) (by omega) (put1_srt hs _),DG hk]
  rfl
theorem dirMore_nil (N:Nat)(hN:Big N)(l:List Spot)(hl:l.length<=100000000):i_DirMore N [] l=some (if dirOk (puts [] l)=true then(puts [] l,true)else([],false)):=by
 unfold i_DirMore
 rw[dirOk_impl N hN [] (by simp),bO,show dirOk []=true from rfl,IQ (by decide),cat_le (by simp),bO]
 simp only[joinP]
 have:=dm_loop N hN l hl l.length 0 N [] (by omega) (by unfold Big at hN;omega) (by simp) .nil
 grind [puts_len,dirOk_impl,dirOk,puts]
def seald (N:Nat)(t:BA):BA:=t++fourN N t
theorem seal_spec (N:Nat)(hN:Big N)(t:BA)(ht:t.size<=20000):s_Sealed N t=some (seald N t,true):=by
 obtain⟨s,a,b,c,e1,e2,e3,e4,_⟩:=four_ok N hN t (by omega)
 unfold s_Sealed
 rw[IQ (by simp;omega),e1,bO,e3,bO,scat_le (by omega)]
 rfl
theorem seal_impl (N:Nat)(hN:Big N)(t:BA)(ht:t.size<=20000):i_Sealed N t=some (seald N t,true):=by
 obtain⟨s,a,b,c,e1,e2,e3,e4,e5,e6,e7,e8⟩:=four_ok N hN t (by omega)
 unfold i_Sealed
 rw[IQ (by simp;omega),e2,bO,e5,bO,e6,bO,e7,bO,e8,scat_le (by omega)]
 rfl
def unsR (N:Nat)(t:BA):BA×Bool:=if 4<=t.size/\seald N (t.extract 0 (t.size-4))=t then(t.extract 0 (t.size-4),true)else(⟨#[]⟩,false)
theorem ext_two {t:BA}{k:Nat}(h:k<=t.size):t=t.extract 0 k++t.extract k t.size:=by
 rw[ext_app t 0 k t.size (by omega) h (Nat.le_refl _),ext_full]
theorem unseal_impl (N:Nat)(hN:Big N)(t:BA)(ht:t.size<=20000):i_Unsealed N t=some (unsR N t):=by
 unfold i_Unsealed unsR
 by_cases h:4<=t.size
 case neg=>rw[IP (by simp;omega),IQ (λq=>h q.1)]
 rw[IQ (by simp;omega),w64_id (by omega) (by omega),show(t.size:Int)-4=((t.size-4:Nat):Int) by omega,stake_ok (by omega),bO,seal_impl N hN _ (by rw[ext_size t 0 (t.size-4) (by omega) (by omega)];omega),bO,IQ (by simp)]
 grind
theorem unseal_spec (N:Nat)(hN:Big N)(t:BA)(ht:t.size<=20000):s_Unsealed N t=some (unsR N t):=by
 unfold s_Unsealed unsR
 rw[w64_id (by omega) (by omega)]
 grind [ext_size,four_ok,sdrop_ok,stake_ok,seald,fourN,ext_two,ByteArray.append_right_inj]
def manOk (m:Manifest):Bool:=decide (1<=m.Segs.length/\m.Segs.length<=8)&&(decide (0<=m.Next/\m.Next<=1000)&&(rise 0 (m.Next-1) none m.Segs&&(decide (0<=m.Base/\m.Base<=100000)&&(decide (0<=m.BaseTerm/\m.BaseTerm<=100000)&&confOk m.Conf))))
theorem manOk_spec (N:Nat)(hN:Big N)(m:Manifest)(h1:m.Segs.length<=1000000)(h2:m.Conf.length<=1000000):s_ManifestOk N m=some (manOk m):=by
 unfold s_ManifestOk manOk
 rw[in_eq,bO]
 by_cases g1:1<=m.Segs.length/\m.Segs.length<=8
 case neg=>rw[DF g1,IQ (by simp;omega)];rfl
 rw[DE g1,IP (by simp;omega),in_eq,bO]
 by_cases g2:0<=m.Next/\m.Next<=1000
 case neg=>rw[DF g2];rfl
 rw[DE g2,IP rfl,w64_id (by omega) (by omega),rise_eq N hN _ _ _ (by omega),bO]
 cases rise 0 (m.Next-1) none m.Segs
 ·rfl
 grind [in_eq,confOk_spec]
def okSeg (n:Int)(o:Option Int)(x:Int):Bool:=decide (0<=x/\x<=999)&&(decide (x<n)&&(match o with|none=>true|some q=>decide (q<x)))
theorem seg_step (N:Nat)(m:Manifest)(hl:m.Segs.length<=1099511627)(f k:Nat)(hk:k<m.Segs.length):i_ManifestOk_l1 N m (f+1) (k:Int)=if okSeg m.Next (m.Segs.take k).getLast? m.Segs[k]=true then i_ManifestOk_l1 N m f ((k+1:Nat):Int)else some (.inl false):=by
 rw[i_ManifestOk_l1,IP (by simp;omega),at_lt hk]
 simp only[bO,within_eq]
 rw[WS (by omega)]
 simp only[okSeg]
 by_cases h1:0<=m.Segs[k]/\m.Segs[k]<=999
 case neg=>simp only[DF h1];rfl
 simp only[DE h1,BN,BF,if_false,Bool.true_and]
 by_cases h2:m.Segs[k]<m.Next
 case neg=>simp only[DF h2];rw[IP (by simp;omega)];rfl
 simp only[DE h2,Bool.true_and]
 rw[IQ (by simp;omega)]
 by_cases h0:0<k
 ·rw[IP (by simpa using h0),at_prev h0 (by omega) (by omega)]
  cases hq:(m.Segs.take k).getLast? with
  |none=>exact(take_none h0 hk hq).elim
  |some q=>
   grind
 ·grind
theorem seg_rise (n:Int)(hn:n<=1000):∀(xs:List Int)(o:Option Int),chain (okSeg n) o xs=rise 0 (n-1) o xs
 |[],o=>by cases o<;>rfl
 |x::xs,o=>by
  rw[chain,rise_cons,seg_rise n hn xs,show okSeg n o x=(decide (0<=x/\x<=999)&&(decide (x<n)&&(match o with|none=>true|some q=>decide (q<x))))from rfl]
  grind
theorem manOk_impl (N:Nat)(hN:Big N)(m:Manifest)(h1:m.Segs.length<=1000000)(h2:m.Conf.length<=1000000)(h0:0<=m.Next):i_ManifestOk N m=some (manOk m):=by
 unfold i_ManifestOk manOk
 rw[chain_start (okSeg m.Next) (i_ManifestOk_l1 N m) m.Segs (by unfold Big at hN;omega) (seg_step N m (by omega)) (λf=>by rw[i_ManifestOk_l1,IQ (by simp)])]
 simp only[joinP,bO]
 by_cases g2:m.Next<=1000
 ·rw[seg_rise _ g2,DE (p:=0<=m.Next/\m.Next<=1000) ⟨h0,g2⟩]
  cases rise 0 (m.Next-1) none m.Segs
  ·simp[oks]
  ·simp only[oks,Sum.elim_inr,within_eq,bO]
   by_cases g1:1<=m.Segs.length/\m.Segs.length<=8
   case neg=>rw[DF g1,IQ (by simp;omega)];rfl
   rw[DE g1,IP (by simp;omega),IP (by simpa using g2)]
   by_cases g3:0<=m.Base/\m.Base<=100000
   case neg=>rw[DF g3];rfl
   rw[DE g3,IP rfl]
   by_cases g4:0<=m.BaseTerm/\m.BaseTerm<=100000
   case neg=>rw[DF g4];rfl
   rw[DE g4,IP rfl,confOk_impl N hN _ (by omega)]
   rfl
 ·rw[DF (p:=0<=m.Next/\m.Next<=1000) (λq=>g2 q.2)]
  cases chain (okSeg m.Next) none m.Segs
  ·simp[oks]
  grind [oks,within_eq]
def ncat:List Int->BA
 |[]=>ByteArray.empty
 |x::xs=>encT x.toNat++ncat xs
theorem ncat_size:∀{xs:List Int},(∀x∈xs,0<=x/\x<=1000000000)->(ncat xs).size<=5*xs.length
 |[],_=>by simp[ncat]
 |x::xs,h=>by
  have h1:=ncat_size (xs:=xs) (λy hy=>h y (by simp[hy]))
  have h2:=enc_len5 (n:=x.toNat) (by have:=h x (by simp);omega)
  grind [ncat,BZ,encT_size,LC]
theorem rise_all {lo hi:Int}:∀{xs:List Int}{o:Option Int},rise lo hi o xs=true->∀x∈xs,lo<=x/\x<=hi
 |[],_,_=>by simp
 |x::xs,o,h=>by
  rw[rise_cons]at h
  simp only[Bool.and_eq_true,DT]at h
  intro y hy
  rcases List.mem_cons.1 hy with rfl|hy
  ·exact h.1
  ·exact rise_all h.2.2 y hy
def mtx (m:Manifest):BA:=encT m.Segs.length++ncat m.Segs++encT m.Next.toNat++encT m.Base.toNat++encT m.BaseTerm.toNat++encT m.Conf.length++ncat m.Conf
theorem manOk_ok {m:Manifest}(h:manOk m=true):(1<=m.Segs.length/\m.Segs.length<=8)/\(0<=m.Next/\m.Next<=1000)/\(∀x∈m.Segs,0<=x/\x<=999)/\(0<=m.Base/\m.Base<=100000)/\(0<=m.BaseTerm/\m.BaseTerm<=100000)/\m.Conf.length<=4/\∀x∈m.Conf,0<=x/\x<=999:=by
 simp only[manOk,confOk,Bool.and_eq_true,DT]at h
 obtain⟨h1,h2,h3,h4,h5,h6,h7,h8⟩:=h
 exact⟨h1,h2,λx hx=>by have:=rise_all h3 x hx;omega,h4,h5,h6,λx hx=>by have:=rise_all h8 x hx;omega⟩
theorem numloop (N:Nat)(hN:Big N)(xs:List Int)(hx:∀x∈xs,0<=x/\x<=999)(hl:xs.length<=8)(f:Nat->BA->Int->Option BA)(hf:∀m t i,f (m+1) t i=if(decide (i<(xs.length:Int)))=true then(at? xs i).bind λx=>(s_l01Var N x).bind λy=>(scat? t y).bind λz=>f m z (w64 (i+1))else some t):∀(d k m:Nat)(t:BA),xs.length=k+d->d<m->t.size<=100+5*k->f m t (k:Int)=some (t++ncat (xs.drop k)):=by
 intro d
 induction d with
 |zero=>
  intro k m t hd hm ht
  obtain⟨m,rfl⟩:∃q,m=q+1:=⟨m-1,by omega⟩
  rw[hf,IQ (by simp;omega),DN (by omega),ncat,ByteArray.append_empty]
 |succ d ih=>
  intro k m t hd hm ht
  obtain⟨m,rfl⟩:∃q,m=q+1:=⟨m-1,by omega⟩
  have hk:k<xs.length:=by omega
  obtain⟨g1,g2⟩:=hx _ (List.getElem_mem hk)
  obtain⟨n,hn⟩:∃n:Nat,xs[k]=(n:Int):=⟨xs[k].toNat,by omega⟩
  have he:=enc_len5 (n:=n) (by omega)
  rw[hf,IP (by simp;omega),at_lt hk,bO,hn,var_spec N hN n (by omega),bO,scat_le (by rw[encT_size];omega),bO,WS (by omega),ih (k+1) m _ (by omega) (by omega) (by rw[BZ,encT_size];omega),DG hk,ncat,hn,ByteArray.append_assoc]
  rfl
theorem mtext_spec (N:Nat)(hN:Big N)(m:Manifest)(h1:m.Segs.length<=1000000)(h2:m.Conf.length<=1000000):s_ManifestText N m=some (if manOk m=true then(seald N (mtx m),true)else(⟨#[]⟩,false)):=by
 unfold s_ManifestText
 rw[manOk_spec N hN m h1 h2,bO]
 cases hm:manOk m with
 |false=>rfl
 |true=>
  obtain⟨g1,g2,g3,g4,g5,g6,g7⟩:=manOk_ok hm
  rw[IQ (by decide),IP rfl]
  simp only[joinP]
  have e1:=enc_len5 (n:=m.Segs.length) (by omega)
  have e2:=enc_len5 (n:=m.Next.toNat) (by omega)
  have e3:=enc_len5 (n:=m.Base.toNat) (by omega)
  have e4:=enc_len5 (n:=m.BaseTerm.toNat) (by omega)
  have e5:=enc_len5 (n:=m.Conf.length) (by omega)
  have s1:=ncat_size (xs:=m.Segs) (λx hx=>by have:=g3 x hx;omega)
  have s2:=ncat_size (xs:=m.Conf) (λx hx=>by have:=g7 x hx;omega)
  have l1:=numloop N hN m.Segs g3 (by omega) (s_ManifestText_l1 N m) (λf t i=>by rw[s_ManifestText_l1]) m.Segs.length 0 N (encT m.Segs.length) (by omega) (by unfold Big at hN;omega) (by rw[encT_size];omega)
  have l2:=λt ht=>numloop N hN m.Conf g7 (by omega) (s_ManifestText_l2 N m) (λf t i=>by rw[s_ManifestText_l2]) m.Conf.length 0 N t (by omega) (by unfold Big at hN;omega) ht
  rw[show((0:Nat):Int)=0 from rfl,List.drop_zero]at l1 l2
  rw[var_spec N hN _ (by omega),bO,l1,bO]
  obtain⟨a,ha⟩:∃n:Nat,m.Next=n:=⟨m.Next.toNat,by omega⟩
  obtain⟨b,hb⟩:∃n:Nat,m.Base=n:=⟨m.Base.toNat,by omega⟩
  obtain⟨c,hc⟩:∃n:Nat,m.BaseTerm=n:=⟨m.BaseTerm.toNat,by omega⟩
  rw[ha,Int.toNat_natCast]at e2
  rw[hb,Int.toNat_natCast]at e3
  rw[hc,Int.toNat_natCast]at e4
  have z:=encT_size
  rw[ha,hb,hc,var_spec N hN _ (by omega),bO,scat_le (by simp only[BZ,encT_size];omega),bO,var_spec N hN _ (by omega),bO,scat_le (by simp only[BZ,encT_size];omega),bO,var_spec N hN _ (by omega),bO,scat_le (by simp only[BZ,encT_size];omega),bO,var_spec N hN _ (by omega),bO,scat_le (by simp only[BZ,encT_size];omega),bO,l2 _ (by simp only[BZ,encT_size];omega),bO]
  have hmt:encT m.Segs.length++ncat m.Segs++encT a++encT b++encT c++encT m.Conf.length++ncat m.Conf=mtx m:=by
   unfold mtx
   rw[ha,hb,hc]
   rfl
  rw[hmt,seal_spec N hN _ (by unfold mtx;rw[ha,hb,hc];simp only[BZ,encT_size,Int.toNat_natCast];omega)]
  rfl
def gv (t:BA):Option Nat->Nat×Option Nat
 |none=>(0,none)
 |some a=>match pv t a with
  |some (n,b)=>(n,some b)
  |none=>(0,none)
def gns (t:BA):Nat->Option Nat->List Int×Option Nat
 |0,o=>([],o)
 |_+1,none=>([],none)
 |n+1,some a=>match pv t a with
  |some (x,b)=>((x:Int)::(gns t n (some b)).1,(gns t n (some b)).2)
  |none=>([0],none)
theorem gns_none (t:BA)(n:Nat):gns t n none=([],none):=by cases n<;>rfl
def StS (t:BA)(o:Option Nat)(c:Tl05Cur):Prop:=match o with
 |some a=>a<=t.size/\c=⟨t,(a:Int),false⟩
 |none=>∃b:Nat,b<=t.size/\c=⟨t,(b:Int),true⟩
def StI (t:BA)(o:Option Nat)(c:Treader):Prop:=match o with
 |some a=>a<=t.size/\c=⟨t,(a:Int),false⟩
 |none=>∃b:Nat,b<=t.size/\c=⟨t,(b:Int),true⟩
theorem stS (N:Nat)(hN:Big N){t:BA}(ht:t.size<=20000){o:Option Nat}{c:Tl05Cur}(h:StS t o c):∃x,s_l05Var N c=some x/\x.1=((gv t o).1:Int)/\StS t (gv t o).2 x.2:=by
 cases o with
 |none=>
  obtain⟨b,hb,rfl⟩:=h
  exact⟨_,sv_bad N hN t b (by omega) hb,rfl,b,hb,rfl⟩
 |some a=>
  obtain⟨ha,rfl⟩:=h
  refine⟨_,sv_ok N hN t a (by omega) ha,?_⟩
  cases hp:pv t a with
  |none=>simp only[gv,hp];exact⟨rfl,a,ha,rfl⟩
  |some q=>
   obtain⟨n,b⟩:=q
   simp only[gv,hp]
   exact⟨trivial,(pv_some ha hp).2.2.1,rfl⟩
theorem stI (N:Nat)(hN:Big N){t:BA}(ht:t.size<=20000){o:Option Nat}{c:Treader}(h:StI t o c):∃x,r_num N c=some x/\x.1=((gv t o).1:Int)/\StI t (gv t o).2 x.2:=by
 cases o with
 |none=>
  obtain⟨b,hb,rfl⟩:=h
  exact⟨_,nv_bad N hN t b (by omega) hb,rfl,b,hb,rfl⟩
 |some a=>
  obtain⟨ha,rfl⟩:=h
  refine⟨_,nv_ok N hN t a (by omega) ha,?_⟩
  cases hp:pv t a with
  |none=>simp only[gv,hp];exact⟨rfl,a,ha,rfl⟩
  |some q=>
   obtain⟨n,b⟩:=q
   simp only[gv,hp]
   exact⟨trivial,(pv_some ha hp).2.2.1,rfl⟩
def gap (t:BA):Option Nat->Nat
 |some a=>t.size+1-a
 |none=>0
theorem pv_pos {t:BA}{a n b:Nat}(ha:a<=t.size)(h:pv t a=some (n,b)):a<b/\b<=t.size:=by
 unfold pv at h
 cases hr:rdvT t a with
 |none=>rw[hr]at h;cases h
 |some q=>
  obtain⟨x,k⟩:=q
  rw[hr]at h
  simp only[Option.some.injEq,Prod.mk.injEq]at h
  have:=rdvT_some ha hr
  omega
theorem gns_gap (t:BA):∀(n:Nat)(o:Option Nat),(∀a,o=some a->a<=t.size)->(gns t n o).1.length<=gap t o
 |0,o,_=>Nat.zero_le _
 |n+1,none,_=>Nat.le_refl _
 |n+1,some a,h=>by
  have ha:=h a rfl
  rw[gns]
  cases hp:pv t a with
  |none=>simp only[gap,List.length_singleton];omega
  |some q=>
   obtain⟨x,b⟩:=q
   obtain⟨h1,h2⟩:=pv_pos ha hp
   have:=gns_gap t n (some b) (λa h=>by cases h;exact h2)
   simp only[gap,LC]at this⊢
   omega
theorem gnsS (N:Nat)(hN:Big N){t:BA}(ht:t.size<=20000)(n B:Nat)(hB:B<=8)(f:Nat->Int->BA->Int->Bool->List Int->Option (BA×Int×Bool×List Int))
  (hf:∀m i x a b acc,f (m+1) i x a b acc=if(decide (i<(n:Int)))=true then(if(!b)=true then(if(decide (i<=(B:Int)))=true then(s_l05Var N ⟨x,a,b⟩).bind λy=>(cat? acc [y.1]).bind λz=>f m (w64 (i+1)) y.2.text y.2.at' y.2.bad z else some (x,a,b,acc))else some (x,a,b,acc))else some (x,a,b,acc)):
  ∀(d k m:Nat)(o:Option Nat)(c:Tl05Cur)(acc:List Int),min n (B+1)=k+d->d<m->acc.length<=k->StS t o c->∃c',f m (k:Int) c.text c.at' c.bad acc=some (c'.text,c'.at',c'.bad,acc++(gns t d o).1)/\StS t (gns t d o).2 c':=by
 intro d
 induction d with
 |zero=>
  intro k m o c acc hd hm ha hc
  obtain⟨m,rfl⟩:∃q,m=q+1:=⟨m-1,by omega⟩
  refine⟨c,?_,hc⟩
  rw[hf,gns,List.append_nil]
  by_cases h1:k<n
  ·rw[IP (by simp;omega)]
   cases c.bad
   ·rw[IP (by rfl),IQ (by simp;omega)]
   ·rfl
  ·rw[IQ (by simp;omega)]
 |succ d ih=>
  intro k m o c acc hd hm ha hc
  obtain⟨m,rfl⟩:∃q,m=q+1:=⟨m-1,by omega⟩
  rw[hf,IP (by simp;omega)]
  cases o with
  |none=>
   refine⟨c,?_,hc⟩
   obtain⟨b,hb,rfl⟩:=hc
   rw[gns,List.append_nil]
   rfl
  |some a=>
   obtain⟨x,h1,h2,h3⟩:=stS N hN ht hc
   obtain⟨ha',rfl⟩:=hc
   rw[IP (by rfl),IP (by simp;omega),h1,bO,cat_le (by simp;omega),bO,WS (by omega)]
   obtain⟨c',e1,e2⟩:=ih (k+1) m _ x.2 (acc++[x.1]) (by omega) (by omega) (by simp;omega) h3
   refine⟨c',?_,?_⟩
   ·rw[e1,gns,h2]
    cases hp:pv t a with
    |none=>simp only[gv,hp,gns_none,List.append_assoc];rfl
    |some q=>simp only[gv,hp,List.append_assoc];rfl
   ·rw[gns]
    cases hp:pv t a with
    |none=>simpa only[gv,hp,gns_none]using e2
    |some q=>simpa only[gv,hp]using e2
theorem gnsI {ρ:Type}(N:Nat)(hN:Big N){t:BA}(ht:t.size<=20000)(n:Nat)(g:BA->Int->Bool->List Int->ρ)(f:Nat->Int->BA->Int->Bool->List Int->Option ρ)
  (hf:∀m i x a b acc,f (m+1) i x a b acc=if(decide (i<(n:Int)))=true then(if(!b)=true then(r_num N ⟨x,a,b⟩).bind λy=>(cat? acc [y.1]).bind λz=>f m (w64 (i+1)) y.2.s y.2.at' y.2.bad z else some (g x a b acc))else some (g x a b acc)) (hn:n<=1000000000):
  ∀(d k m:Nat)(o:Option Nat)(c:Treader)(acc:List Int),n=k+d->gap t o<m->acc.length+gap t o<=1000000->StI t o c->∃c',f m (k:Int) c.s c.at' c.bad acc=some (g c'.s c'.at' c'.bad (acc++(gns t d o).1))/\StI t (gns t d o).2 c':=by
 intro d
 induction d with
 |zero=>
  intro k m o c acc hd hm ha hc
  obtain⟨m,rfl⟩:∃q,m=q+1:=⟨m-1,by omega⟩
  refine⟨c,?_,hc⟩
  rw[hf,gns,List.append_nil,IQ (by simp;omega)]
 |succ d ih=>
  intro k m o c acc hd hm ha hc
  obtain⟨m,rfl⟩:∃q,m=q+1:=⟨m-1,by omega⟩
  rw[hf,IP (by simp;omega)]
  cases o with
  |none=>
   refine⟨c,?_,hc⟩
   obtain⟨b,hb,rfl⟩:=hc
   rw[gns,List.append_nil]
   rfl
  |some a=>
   obtain⟨x,h1,h2,h3⟩:=stI N hN ht hc
   obtain⟨ha',rfl⟩:=hc
   simp only[gap]at hm ha
   have hg:gap t (gv t (some a)).2+1<=t.size+1-a:=by
    cases hp:pv t a with
    |none=>simp only[gv,hp,gap];omega
    |some q=>
     obtain⟨y,b⟩:=q
     obtain⟨g1,g2⟩:=pv_pos ha' hp
     simp only[gv,hp,gap]
     omega
   rw[IP (by rfl),h1,bO,cat_le (by simp;omega),bO,WS (by omega)]
   obtain⟨c',e1,e2⟩:=ih (k+1) m _ x.2 (acc++[x.1]) (by omega) (by omega) (by simp;omega) h3
   refine⟨c',?_,?_⟩
   ·rw[e1,gns,h2]
    cases hp:pv t a with
    |none=>simp only[gv,hp,gns_none,List.append_assoc];rfl
    |some q=>simp only[gv,hp,List.append_assoc];rfl
   ·rw[gns]
    cases hp:pv t a with
    |none=>simpa only[gv,hp,gns_none]using e2
    |some q=>simpa only[gv,hp]using e2
theorem gv_some {t:BA}{o:Option Nat}{b:Nat}(h:(gv t o).2=some b):∃a,o=some a/\pv t a=some ((gv t o).1,b):=by
 cases o with
 |none=>cases h
 |some a=>
  refine⟨a,rfl,?_⟩
  cases hp:pv t a with
  |none=>simp[gv,hp]at h
  |some q=>
   obtain⟨x,c⟩:=q
   simp only[gv,hp,Option.some.injEq]at h⊢
   rw[h]
theorem gns_some {t:BA}:∀{n:Nat}{o:Option Nat}{e:Nat},(∀a,o=some a->a<=t.size)->(gns t n o).2=some e->∃a,o=some a/\a<=e/\e<=t.size/\(gns t n o).1.length=n/\ncat (gns t n o).1=t.extract a e
 |0,o,e,ha,h=>by
  rw[gns]at h
  simp only at h
  have:=ha e h
  refine⟨e,h,Nat.le_refl _,this,rfl,?_⟩
  rw[gns]
  simp[ncat]
 |n+1,none,e,ha,h=>by cases h
 |n+1,some a,e,ha,h=>by
  have ha':=ha a rfl
  rw[gns]at h⊢
  cases hp:pv t a with
  |none=>rw[hp]at h;cases h
  |some q=>
   obtain⟨x,b⟩:=q
   rw[hp]at h
   simp only at h⊢
   obtain⟨g1,g2,g3,g4⟩:=pv_some ha' hp
   obtain⟨a2,e1,e2,e3,e4,e5⟩:=gns_some (λa h=>by cases h;exact g3) h
   cases e1
   refine⟨a,rfl,by omega,e3,by rw[LC,e4],?_⟩
   rw[ncat,e5,Int.toNat_natCast,g4,ext_app t a b e g2 e2 e3]
def mread (t:BA)(o:Option Nat)(p q:Nat->Nat):Manifest×Option Nat:=
 let r0:=gv t o
 let r1:=gns t (p r0.1) r0.2
 let r2:=gv t r1.2
 let r3:=gv t r2.2
 let r4:=gv t r3.2
 let r5:=gv t r4.2
 let r6:=gns t (q r5.1) r5.2
 (⟨r1.1,(r2.1:Int),(r3.1:Int),(r4.1:Int),r6.1⟩,r6.2)
theorem gv_le {t:BA}{o:Option Nat}(h:∀a,o=some a->a<=t.size):∀b,(gv t o).2=some b->b<=t.size:=by
 intro b hb
 obtain⟨a,rfl,hp⟩:=gv_some hb
 exact(pv_pos (h a rfl) hp).2
theorem gns_le {t:BA}{n:Nat}{o:Option Nat}(h:∀a,o=some a->a<=t.size):∀b,(gns t n o).2=some b->b<=t.size:=by
 intro b hb
 exact(gns_some h hb).choose_spec.2.2.1
theorem gv_le9 {t:BA}{o:Option Nat}(h:∀a,o=some a->a<=t.size):(gv t o).1<=1000000000:=by
 cases o with
 |none=>exact Nat.zero_le _
 |some a=>
  cases hp:pv t a with
  |none=>simp[gv,hp]
  |some q=>
   obtain⟨x,b⟩:=q
   simp only[gv,hp]
   exact(pv_some (h a rfl) hp).1
theorem mread_some {t:BA}{o:Option Nat}(ho:∀a,o=some a->a<=t.size){p q:Nat->Nat}{e:Nat}(h:(mread t o p q).2=some e):(mread t o p q).1.Segs.length=p (gv t o).1/\(mread t o p q).1.Conf.length=q (gv t (gv t (gv t (gv t (gns t (p (gv t o).1) (gv t o).2).2).2).2).2).1/\e<=t.size/\
  (p (gv t o).1=(gv t o).1->q (gv t (gv t (gv t (gv t (gns t (p (gv t o).1) (gv t o).2).2).2).2).2).1=(gv t (gv t (gv t (gv t (gns t (p (gv t o).1) (gv t o).2).2).2).2).2).1->∃a,o=some a/\mtx (mread t o p q).1=t.extract a e):=by
 unfold mread at h⊢
 simp only at h⊢
 have h0:=gv_le ho
 have h1:=gns_le (n:=p (gv t o).1) h0
 have h2:=gv_le h1
 have h3:=gv_le h2
 have h4:=gv_le h3
 have h5:=gv_le h4
 obtain⟨a5,e5,l5,u5,n5,t5⟩:=gns_some h5 h
 obtain⟨a4,e4,p4⟩:=gv_some e5
 obtain⟨a3,e3,p3⟩:=gv_some e4
 obtain⟨a2,e2,p2⟩:=gv_some e3
 obtain⟨a1,e1,p1⟩:=gv_some e2
 obtain⟨a0,e0,l0,u0,n0,t0⟩:=gns_some h0 e1
 obtain⟨a,ea,pa⟩:=gv_some e0
 refine⟨n0,n5,u5,λhp hq=>⟨a,ea,?_⟩⟩
 unfold mtx
 simp only[Int.toNat_natCast]
 rw[n0,n5,t0,t5,congrArg encT hq,congrArg encT hp]
 have q0:=pv_some (ho a ea) pa
 have q1:=pv_some (h1 a1 e1) p1
 have q2:=pv_some (h2 a2 e2) p2
 have q3:=pv_some (h3 a3 e3) p3
 have q4:=pv_some (h4 a4 e4) p4
 rw[q0.2.2.2,q1.2.2.2,q2.2.2.2,q3.2.2.2,q4.2.2.2]
 rw[ext_app t a a0 a1 (by omega) (by omega) (by omega),ext_app t a a1 a2 (by omega) (by omega) (by omega),ext_app t a a2 a3 (by omega) (by omega) (by omega),ext_app t a a3 a4 (by omega) (by omega) (by omega),ext_app t a a4 a5 (by omega) (by omega) (by omega),ext_app t a a5 e (by omega) (by omega) (by omega)]
theorem manOk_segs {m:Manifest}(h:8<m.Segs.length):manOk m=false:=by
 simp only[manOk]
 rw[DF (by omega)]
 rfl
theorem manOk_conf {m:Manifest}(h:4<m.Conf.length):manOk m=false:=by
 cases hm:manOk m with
 |false=>rfl
 |true=>have:=(manOk_ok hm).2.2.2.2.2.1;omega
theorem mread_two {t:BA}{o:Option Nat}(ho:∀a,o=some a->a<=t.size):(mread t o (λn=>min n 9) (λn=>min n 5)=mread t o (λn=>n) (λn=>n)/\∀e,(mread t o (λn=>n) (λn=>n)).2=some e->∃a,o=some a/\mtx (mread t o (λn=>n) (λn=>n)).1=t.extract a e)\/
  ((∀e,(mread t o (λn=>min n 9) (λn=>min n 5)).2=some e->manOk (mread t o (λn=>min n 9) (λn=>min n 5)).1=false)/\∀e,(mread t o (λn=>n) (λn=>n)).2=some e->manOk (mread t o (λn=>n) (λn=>n)).1=false):=by
 by_cases h1:(gv t o).1<=9
 ·have e1:min (gv t o).1 9=(gv t o).1:=by omega
  by_cases h2:(gv t (gv t (gv t (gv t (gns t (gv t o).1 (gv t o).2).2).2).2).2).1<=5
  ·have e2:min (gv t (gv t (gv t (gv t (gns t (gv t o).1 (gv t o).2).2).2).2).2).1 5=(gv t (gv t (gv t (gv t (gns t (gv t o).1 (gv t o).2).2).2).2).2).1:=by omega
   refine .inl ⟨?_,λe he=>(mread_some ho he).2.2.2 rfl rfl⟩
   unfold mread
   simp only[e1,e2]
  ·refine .inr ⟨λe he=>manOk_conf ?_,λe he=>manOk_conf ?_⟩
   ·have:=(mread_some ho he).2.1
    simp only[e1]at this
    omega
   ·have:=(mread_some ho he).2.1
    omega
 ·refine .inr ⟨λe he=>manOk_segs ?_,λe he=>manOk_segs ?_⟩
  ·have:=(mread_some ho he).1
   omega
  ·have:=(mread_some ho he).1
   omega
def man0:Manifest:=⟨[],0,0,0,[]⟩
def manF (m:Manifest)(b:Bool):Manifest×Bool:=if b=true then(m,true)else(man0,false)
def manR (N:Nat)(t:BA):Manifest×Bool:=if(unsR N t).2=true then
  manF (mread (unsR N t).1 (some 0) (λn=>n) (λn=>n)).1 (decide ((mread (unsR N t).1 (some 0) (λn=>n) (λn=>n)).2=some (unsR N t).1.size)&&manOk (mread (unsR N t).1 (some 0) (λn=>n) (λn=>n)).1)
 else(man0,false)
theorem uns_size {N:Nat}{t:BA}(ht:t.size<=20000):(unsR N t).1.size<=20000:=by
 unfold unsR
 split
 ·rename_i h
  rw[ext_size t 0 (t.size-4) (by omega) (by omega)]
  omega
 ·exact Nat.zero_le _
theorem mread_len {t:BA}(ht:t.size<=20000){o:Option Nat}(ho:∀a,o=some a->a<=t.size)(p q:Nat->Nat):(mread t o p q).1.Segs.length<=20001/\(mread t o p q).1.Conf.length<=20001/\0<=(mread t o p q).1.Next:=by
 have hg:∀o:Option Nat,gap t o<=20001:=by intro o;cases o<;>simp only[gap]<;>omega
 unfold mread
 simp only
 refine⟨Nat.le_trans (gns_gap t _ _ (gv_le ho)) (hg _),Nat.le_trans (gns_gap t _ _ (gv_le (gv_le (gv_le (gv_le (gns_le (gv_le ho))))))) (hg _),by omega⟩
theorem mani_impl (N:Nat)(hN:Big N)(t:BA)(ht:t.size<=20000):i_ReadManifest N t=some (manR N t):=by
 unfold i_ReadManifest manR
 rw[unseal_impl N hN t ht,bO]
 have hs:=uns_size (N:=N) ht
 generalize unsR N t=u at hs
 obtain⟨s,b⟩:=u
 cases b with
 |false=>rfl
 |true=>
  simp only[BN,BF,if_false,if_true]at hs⊢
  have ho:∀a,some 0=some a->a<=s.size:=λa h=>by cases h;exact Nat.zero_le _
  obtain⟨hl1,hl2,hl3⟩:=mread_len hs ho (λn=>n) (λn=>n)
  have hg:∀o:Option Nat,gap s o<=20001:=by intro o;cases o<;>simp only[gap]<;>omega
  unfold r_each
  have hi:StI s (some 0) ⟨s,0,false⟩:=⟨Nat.zero_le _,rfl⟩
  obtain⟨x0,a0,b0,c0⟩:=stI N hN hs hi
  rw[a0,bO]
  obtain⟨c1,d1,f1⟩:=gnsI N hN hs (gv s (some 0)).1 (λx a b l=>(x,a,b,(0:Int),(0:Int),(0:Int),l)) (λm i x a b l=>r_each_l1 N x0 m i x a b 0 0 0 l) (λm i x a b acc=>by
   rw[r_each_l1,b0]
   unfold i_ReadManifest_1
   simp only[Option.bind_assoc,bO]) (gv_le9 ho) (gv s (some 0)).1 0 N _ x0.2 [] (by omega) (by have:=hg (gv s (some 0)).2;unfold Big at hN;omega) (by have:=hg (gv s (some 0)).2;simp;omega) c0
  simp only[show((0:Nat):Int)=0 from rfl,List.nil_append]at d1
  rw[d1]
  simp only[bO]
  obtain⟨x2,a2,b2,c2⟩:=stI N hN hs f1
  rw[show(⟨c1.s,c1.at',c1.bad⟩:Treader)=c1 from rfl,a2,bO]
  obtain⟨x3,a3,b3,c3⟩:=stI N hN hs c2
  rw[a3,bO]
  obtain⟨x4,a4,b4,c4⟩:=stI N hN hs c3
  rw[a4,bO]
  unfold r_each_i1
  obtain⟨x5,a5,b5,c5⟩:=stI N hN hs c4
  rw[a5]
  simp only[bO]
  obtain⟨c6,d6,f6⟩:=gnsI N hN hs (gv s (gv s (gv s (gv s (gns s (gv s (some 0)).1 (gv s (some 0)).2).2).2).2).2).1 (λx a b l=>(x,a,b,x2.1,x3.1,x4.1,l)) (λm i x a b l=>r_each_i1_l1 N ⟨(gns s (gv s (some 0)).1 (gv s (some 0)).2).1,x2.1,x3.1,x4.1,[]⟩ x5 m i x a b x2.1 x3.1 x4.1 l) (λm i x a b acc=>by
   rw[r_each_i1_l1,b5]
   unfold i_ReadManifest_2
   simp only[Option.bind_assoc,bO]) (gv_le9 (gv_le (gv_le (gv_le (gns_le (gv_le ho)))))) (gv s (gv s (gv s (gv s (gns s (gv s (some 0)).1 (gv s (some 0)).2).2).2).2).2).1 0 N _ x5.2 [] (by omega) (by have:=hg (gv s (gv s (gv s (gv s (gns s (gv s (some 0)).1 (gv s (some 0)).2).2).2).2).2).2;unfold Big at hN;omega) (by have:=hg (gv s (gv s (gv s (gv s (gns s (gv s (some 0)).1 (gv s (some 0)).2).2).2).2).2).2;simp;omega) c5
  simp only[show((0:Nat):Int)=0 from rfl,List.nil_append]at d6
  rw[d6]
  simp only[bO]
  have hm:(⟨(gns s (gv s (some 0)).1 (gv s (some 0)).2).1,x2.1,x3.1,x4.1,(gns s (gv s (gv s (gv s (gv s (gns s (gv s (some 0)).1 (gv s (some 0)).2).2).2).2).2).1 (gv s (gv s (gv s (gv s (gns s (gv s (some 0)).1 (gv s (some 0)).2).2).2).2).2).2).1⟩:Manifest)=(mread s (some 0) (λn=>n) (λn=>n)).1:=by
   unfold mread
   simp only[b2,b3,b4]
  have hr:(gns s (gv s (gv s (gv s (gv s (gns s (gv s (some 0)).1 (gv s (some 0)).2).2).2).2).2).1 (gv s (gv s (gv s (gv s (gns s (gv s (some 0)).1 (gv s (some 0)).2).2).2).2).2).2).2=(mread s (some 0) (λn=>n) (λn=>n)).2:=by
   unfold mread
   rfl
  rw[hm]
  rw[hr]at f6
  generalize mread s (some 0) (λn=>n) (λn=>n)=r at hl1 hl2 hl3 f6
  obtain⟨m,o⟩:=r
  simp only at hl1 hl2 hl3 f6⊢
  rw[manOk_impl N hN m (by omega) (by omega) hl3]
  simp only[bO]
  unfold r_done manF
  cases o with
  |none=>
   obtain⟨b,hb,rfl⟩:=f6
   rfl
  |some a=>
   obtain⟨ha,rfl⟩:=f6
   by_cases he:a=s.size
   ·subst he
    cases manOk m<;>simp[man0]
   ·have:¬(a:Int)=(s.size:Int):=by omega
    simp[he,this,man0]
theorem mread_none (t:BA)(p q:Nat->Nat):(mread t none p q).2=none:=by
 unfold mread
 simp only[gv,gns_none]
theorem mread_len9 {t:BA}(o:Option Nat):(mread t o (λn=>min n 9) (λn=>min n 5)).1.Segs.length<=9/\(mread t o (λn=>min n 9) (λn=>min n 5)).1.Conf.length<=5:=by
 have h:∀(n:Nat)(o:Option Nat),(gns t n o).1.length<=n:=by
  intro n
  induction n with
  |zero=>intro o;exact Nat.le_refl _
  |succ n ih=>
   intro o
   cases o with
   |none=>exact Nat.zero_le _
   |some a=>
    rw[gns]
    cases pv t a with
    |none=>simp
    |some q=>simp only[LC];exact Nat.succ_le_succ (ih _)
 unfold mread
 simp only
 exact⟨Nat.le_trans (h _ _) (Nat.min_le_right _ _),Nat.le_trans (h _ _) (Nat.min_le_right _ _)⟩
theorem seal_inj {N:Nat}(hN:Big N){s:BA}(hs:s.size<=20000){e:Nat}(he:e<=s.size):seald N (s.extract 0 e)=seald N s↔e=s.size:=by
 constructor
 ·intro h
  have:=congrArg ByteArray.size h
  unfold seald at this
  rw[BZ,BZ,four_size N hN _ (by rw[ext_size s 0 e (by omega) he];omega),four_size N hN _ (by omega),ext_size s 0 e (by omega) he]at this
  omega
 ·rintro rfl
  rw[ext_full]
theorem mani_spec (N:Nat)(hN:Big N)(t:BA)(ht:t.size<=20000):s_ReadManifest N t=some (manR N t):=by
 unfold s_ReadManifest manR
 rw[unseal_spec N hN t ht,bO]
 have hs:=uns_size (N:=N) ht
 have hu:(unsR N t).2=true->seald N (unsR N t).1=t:=by
  unfold unsR
  split
  ·rename_i h;exact λ_=>h.2
  ·intro h;cases h
 generalize unsR N t=u at hs hu
 obtain⟨s,b⟩:=u
 obtain⟨o,hb,ho,hi⟩:∃o:Option Nat,o=(if b=true then some 0 else none)/\(∀a,o=some a->a<=s.size)/\StS s o ⟨s,0,!b⟩:=by
  cases b
  ·exact⟨none,rfl,(λa h=>by cases h),0,Nat.zero_le _,rfl⟩
  ·exact⟨some 0,rfl,(λa h=>by cases h;exact Nat.zero_le _),Nat.zero_le _,rfl⟩
 obtain⟨hl1,hl2⟩:=mread_len9 (t:=s) o
 simp only at hs hu⊢
 obtain⟨x0,a0,b0,c0⟩:=stS N hN hs hi
 rw[a0]
 simp only[bO,joinP]
 obtain⟨c1,d1,f1⟩:=gnsS N hN hs (gv s o).1 8 (by omega) (s_ReadManifest_l1 N x0) (λm i x a b acc=>by rw[s_ReadManifest_l1,b0];rfl) (min (gv s o).1 9) 0 N _ x0.2 [] (by omega) (by unfold Big at hN;omega) (by simp) c0
 simp only[show((0:Nat):Int)=0 from rfl,List.nil_append]at d1
 rw[d1]
 simp only[bO]
 obtain⟨x2,a2,b2,c2⟩:=stS N hN hs f1
 rw[show(⟨c1.text,c1.at',c1.bad⟩:Tl05Cur)=c1 from rfl,a2,bO]
 obtain⟨x3,a3,b3,c3⟩:=stS N hN hs c2
 rw[a3,bO]
 obtain⟨x4,a4,b4,c4⟩:=stS N hN hs c3
 rw[a4,bO]
 obtain⟨x5,a5,b5,c5⟩:=stS N hN hs c4
 rw[a5]
 simp only[bO]
 obtain⟨c6,d6,f6⟩:=gnsS N hN hs (gv s (gv s (gv s (gv s (gns s (min (gv s o).1 9) (gv s o).2).2).2).2).2).1 4 (by omega) (s_ReadManifest_l2 N x5) (λm i x a b acc=>by rw[s_ReadManifest_l2,b5];rfl) (min (gv s (gv s (gv s (gv s (gns s (min (gv s o).1 9) (gv s o).2).2).2).2).2).1 5) 0 N _ x5.2 [] (by omega) (by unfold Big at hN;omega) (by simp) c5
 simp only[show((0:Nat):Int)=0 from rfl,List.nil_append]at d6
 rw[d6]
 simp only[bO]
 have hm:(⟨(gns s (min (gv s o).1 9) (gv s o).2).1,x2.1,x3.1,x4.1,(gns s (min (gv s (gv s (gv s (gv s (gns s (min (gv s o).1 9) (gv s o).2).2).2).2).2).1 5) (gv s (gv s (gv s (gv s (gns s (min (gv s o).1 9) (gv s o).2).2).2).2).2).2).1⟩:Manifest)=(mread s o (λn=>min n 9) (λn=>min n 5)).1:=by
  unfold mread
  simp only[b2,b3,b4]
 have hr:(gns s (min (gv s (gv s (gv s (gv s (gns s (min (gv s o).1 9) (gv s o).2).2).2).2).2).1 5) (gv s (gv s (gv s (gv s (gns s (min (gv s o).1 9) (gv s o).2).2).2).2).2).2).2=(mread s o (λn=>min n 9) (λn=>min n 5)).2:=by
  unfold mread
  rfl
 rw[hm]
 rw[hr]at f6
 rw[mtext_spec N hN _ (by omega) (by omega),bO]
 cases b with
 |false=>
  subst hb
  rw[IQ (by decide),mread_none]at f6
  obtain⟨b,hb,rfl⟩:=f6
  rfl
 |true=>
  rw[IP rfl]at hb
  subst hb
  rw[IP rfl]
  have hst:=hu rfl
  rcases mread_two ho with ⟨h1,h2⟩|⟨h1,h2⟩
  ·rw[h1]at f6⊢
   cases ho2:(mread s (some 0) (λn=>n) (λn=>n)).2 with
   |none=>
    rw[ho2]at f6
    obtain⟨b,hb,rfl⟩:=f6
    rfl
   |some e=>
    rw[ho2]at f6
    obtain⟨he,rfl⟩:=f6
    obtain⟨a,ea,hmt⟩:=h2 e ho2
    cases ea
    have hinj:=seal_inj (N:=N) hN hs he
    cases hmo:manOk (mread s (some 0) (λn=>n) (λn=>n)).1 with
    |false=>simp[manF,man0]
    |true=>
     rw[hmt]
     by_cases hes:e=s.size
     ·have:=hinj.2 hes
      rw[hst]at this
      rw[this,hes]
      simp[manF]
     ·have h3:¬seald N (s.extract 0 e)=t:=by rw[<-hst];exact λh=>hes (hinj.1 h)
      simp[manF,man0,h3,hes]
  ·have g1:(if c6.bad=true then(some (man0,false):Option (Manifest×Bool))else if(!(if manOk (mread s (some 0) (λn=>min n 9) (λn=>min n 5)).1=true then(seald N (mtx (mread s (some 0) (λn=>min n 9) (λn=>min n 5)).1),true)else((⟨#[]⟩:BA),false)).2)=true then some (man0,false)else if(!decide ((if manOk (mread s (some 0) (λn=>min n 9) (λn=>min n 5)).1=true then(seald N (mtx (mread s (some 0) (λn=>min n 9) (λn=>min n 5)).1),true)else((⟨#[]⟩:BA),false)).1=t))=true then some (man0,false)else some ((mread s (some 0) (λn=>min n 9) (λn=>min n 5)).1,true))=some (man0,false):=by
    cases ho2:(mread s (some 0) (λn=>min n 9) (λn=>min n 5)).2 with
    |none=>
     rw[ho2]at f6
     obtain⟨b,hb,rfl⟩:=f6
     rfl
    |some e=>
     rw[h1 e ho2]
     split<;>rfl
   refine g1.trans ?_
   cases ho2:(mread s (some 0) (λn=>n) (λn=>n)).2 with
   |none=>simp[manF]
   |some e=>rw[h2 e ho2];simp[manF]
def sname (x:Int):BA:=if 0<=x/\x<=999 then(⟨#[103]⟩:BA)++⟨(Lib.itoa x).toArray⟩else⟨#[]⟩
theorem itoa_len {x:Int}(h:0<=x/\x<=999):(Lib.itoa x).length<=10:=by
 obtain⟨n,rfl⟩:∃n:Nat,x=n:=⟨x.toNat,by omega⟩
 rw[itoa_nat]
 exact dec_len10 (by omega)
theorem sname_spec (N:Nat)(hN:Big N)(x:Int):s_SegName N x=some (sname x):=by
 unfold s_SegName sname
 rw[in_eq,bO]
 by_cases h:0<=x/\x<=999
 ·have hl:=itoa_len h
  rw[DE h,IQ (by decide),dec_spec N hN x (by omega) (by omega),bO,scat_le (by rw[show(⟨(Lib.itoa x).toArray⟩:BA).size=(Lib.itoa x).length from List.size_toArray];show 1+_<=_;omega),IP h]
  rfl
 ·rw[DF h,IQ h];rfl
theorem sname_impl (N:Nat)(hN:Big N)(x:Int):i_SegName N x=some (sname x):=by
 unfold i_SegName sname i_Decimal Q_Itoa
 rw[within_eq,bO]
 by_cases h:0<=x/\x<=999
 ·have hl:=itoa_len h
  rw[DE h,IQ (by decide)]
  unfold itoa?
  rw[IP (by omega),itoaL_eq,bO,bO,scat_le (by rw[show(⟨(Lib.itoa x).toArray⟩:BA).size=(Lib.itoa x).length from List.size_toArray];show 1+_<=_;omega),IP h]
  rfl
 ·rw[DF h,IQ h];rfl
def there (d:Disk)(l:List Int):Bool:=l.all λn=>(fileAt d (sname n)).isSome
theorem there_spec (N:Nat)(hN:Big N)(d:Disk)(hd:diskOk d=true)(y:Manifest×Bool)(hy:y.1.Segs.length<=8):∀(e k q:Nat),y.1.Segs.length=k+e->e<q->s_l09Load_l1 N d y q (k:Int)=some (if there d (y.1.Segs.drop k)=true then .inr ()else .inl (⟨man0,[],0⟩,0,3)):=by
 have hl:=disk_len hd
 intro e
 induction e with
 |zero=>
  intro k q hd hm
  obtain⟨q,rfl⟩:∃z,q=z+1:=⟨q-1,by omega⟩
  rw[s_l09Load_l1,IQ (by simp;omega),DN (by omega)]
  rfl
 |succ e ih=>
  intro k q hd hq
  obtain⟨q,rfl⟩:∃z,q=z+1:=⟨q-1,by omega⟩
  have hk:k<y.1.Segs.length:=by omega
  obtain⟨a,h1,h2⟩:=l03At_ok N hN d (by omega) (sname y.1.Segs[k])
  rw[s_l09Load_l1,IP (by simp;omega),at_lt hk,bO,sname_spec N hN,bO,h1,bO,WS (by omega),DG hk,there,List.all_cons]
  rcases h2 with ⟨rfl,h2⟩|⟨z,f,rfl,h3,h4,h5,h6⟩
  ·rw[h2];rfl
  ·rw[IQ (by simp),ih (k+1) q (by omega) (by omega)]
   have:(fileAt d (sname y.1.Segs[k])).isSome=true:=by first|(rw[h6];rfl)|(rw[h5];rfl)|simp_all
   rw[this,Bool.true_and]
   rfl
theorem there_impl (N:Nat)(hN:Big N)(d:Disk)(hd:diskOk d=true)(y:Manifest×Bool)(hy:y.1.Segs.length<=8):∀(e k q:Nat),y.1.Segs.length=k+e->e<q->i_OpenShelf_l1 N d y q (k:Int)=some (if there d (y.1.Segs.drop k)=true then .inr ()else .inl (⟨man0,[],0⟩,[],3)):=by
 have hl:=disk_len hd
 intro e
 induction e with
 |zero=>
  intro k q hd hm
  obtain⟨q,rfl⟩:∃z,q=z+1:=⟨q-1,by omega⟩
  rw[i_OpenShelf_l1,IQ (by simp;omega),DN (by omega)]
  rfl
 |succ e ih=>
  intro k q hd2 hq
  obtain⟨q,rfl⟩:∃z,q=z+1:=⟨q-1,by omega⟩
  have hk:k<y.1.Segs.length:=by omega
  rw[i_OpenShelf_l1,IP (by simp;omega),at_lt hk,bO,sname_impl N hN,bO,fileAt_impl N hN d hd,bO,WS (by omega),DG hk,there,List.all_cons]
  unfold fileR
  cases hf:fileAt d (sname y.1.Segs[k])with
  |none=>rfl
  |some t=>
   rw[IQ (by simp),ih (k+1) q (by omega) (by omega)]
   rfl
abbrev smallL (l:Log):Prop:=totLog l<=1099511627
abbrev bs (t:BA):List UInt8:=t.data.toList
theorem bs_len (t:BA):(bs t).length=t.size:=Array.length_toList
theorem bs_app (a b:BA):bs (a++b)=bs a++bs b:=by
 unfold bs
 rw[ByteArray.data_append,Array.toList_append]
theorem bs_enc (n:Nat):bs (encT n)=enc n:=List.toList_toArray
theorem bs_frm (N:Nat)(r:BA):bs (frm N r)=enc r.size++(bs (fourN N r)++bs r):=by
 unfold frm
 rw[bs_app,bs_app,bs_enc,List.append_assoc]
abbrev okR (r:BA):Prop:=1<=r.size/\r.size<=9000
theorem drop_len {t:BA}{a:Nat}{l:List UInt8}(h:(bs t).drop a=l)(hl:l≠[]):t.size=a+l.length:=by
 have h1:((bs t).drop a).length=l.length:=by rw[h]
 rw[List.length_drop,bs_len]at h1
 have:0<l.length:=List.length_pos_iff.2 hl
 omega
theorem at_frame (N:Nat)(hN:Big N){t r:BA}{a:Nat}{M:List UInt8}(hr:okR r)(h:(bs t).drop a=bs (frm N r)++M):
  a+(frm N r).size<=t.size/\rdvT t a=some (r.size,(enc r.size).length)/\t.extract (a+(enc r.size).length+4) (a+(enc r.size).length+4+r.size)=r/\t.extract a (a+(enc r.size).length+4+r.size)=frm N r:=by
 have h4:=four_size N hN r (by omega)
 have hf:=frm_size N hN r (by omega)
 have hk:=enc_pos r.size
 have hsz:=drop_len h (by
  intro e
  have:(bs (frm N r)++M).length=0:=by rw[e];rfl
  rw[LA,bs_len]at this
  omega)
 rw[LA,bs_len]at hsz
 have hd:=h
 rw[bs_frm,List.append_assoc]at hd
 have hle:a+(frm N r).size<=t.size:=by omega
 refine⟨hle,?_,?_,?_⟩
 ·unfold rdvT
  rw[show t.data.toList.drop a=_ from hd]
  exact rdv_some.2 ⟨by omega,rfl,by rw[List.take_left],by rw[LA];omega⟩
 ·apply ba_ext'
  rw[ext_toList t _ _ (by omega) (by omega)]
  have e1:a+(enc r.size).length+4+r.size-(a+(enc r.size).length+4)=(bs r).length:=by rw[bs_len];omega
  have e2:t.data.toList.drop (a+(enc r.size).length+4)=bs r++M:=by
   rw[Nat.add_assoc,<-List.drop_drop,show t.data.toList.drop a=_ from hd,<-List.drop_drop,List.drop_left,List.append_assoc]
   have:4=(bs (fourN N r)).length:=by rw[bs_len,h4]
   rw[this,List.drop_left]
  rw[e2,e1,List.take_left]
 ·apply ba_ext'
  rw[ext_toList t _ _ (by omega) (by omega)]
  have e1:a+(enc r.size).length+4+r.size-a=(bs (frm N r)).length:=by rw[bs_len];omega
  rw[show t.data.toList.drop a=_ from h,e1,List.take_left]
def torn (N:Nat)(p:List UInt8):Prop:=p=[]
def cats (N:Nat)(rs:List BA):List UInt8:=(rs.map λr=>bs (frm N r)).flatten
def lens (N:Nat)(rs:List BA):Nat:=(cats N rs).length
theorem cats_cons (N:Nat)(r:BA)(rs:List BA):cats N (r::rs)=bs (frm N r)++cats N rs:=rfl
theorem unfr_of (N:Nat)(hN:Big N)(t:BA):∀(rs:List BA)(f a:Nat),(∀r∈rs,okR r)->a<=t.size->(bs t).drop a=cats N rs->t.size<a+f->unfr N t f a=(rs,t.size)
 |_,0,a,_,ha,_,hf=>by omega
 |[],f+1,a,_,ha,h,_=>by
  have h1:=congrArg List.length h
  rw[List.length_drop,bs_len]at h1
  have h2:t.size<=a:=by simp[cats]at h1;omega
  rw[unfr,nextF,rdvT_end h2,show a=t.size by omega]
 |r::rs,f+1,a,hr,ha,h,hf=>by
  have hro:=hr r (by simp)
  rw[cats_cons]at h
  obtain⟨h1,h2,h3,h4⟩:=at_frame N hN hro h
  have hz:=frm_size N hN r (by have:=hro.2;omega)
  have e:a+(enc r.size).length+4+r.size=a+(frm N r).size:=by omega
  rw[unfr,nextF,h2]
  simp only[h3,h4]
  rw[e,IP h1,IP ⟨hro,trivial⟩]
  simp only
  rw[unfr_of N hN t rs f (a+(frm N r).size) (λx hx=>hr x (List.mem_cons_of_mem _ hx)) h1 (by rw[<-List.drop_drop,h,<-bs_len,List.drop_left]) (by have:=hro.1;omega)]
theorem recs_of (N:Nat)(hN:Big N){t:BA}(ht:t.size<=20000){rs:List BA}(hr:∀r∈rs,okR r)(h:bs t=cats N rs):recs N t=(rs,t.size):=unfr_of N hN t rs _ 0 hr (Nat.zero_le _) h (by omega)
theorem unframe_impl (N:Nat)(hN:Big N)(t:BA)(ht:t.size<=20000){rs:List BA}{p:List UInt8}(hp:torn N p)(hr:∀r∈rs,okR r)(h:bs t=cats N rs++p)(hl:rs.length<=5000):i_Unframe N t=some (rs,(lens N rs:Int)):=by
 rw[hp,List.append_nil]at h
 rw[unf_impl N hN t ht,recs_of N hN ht hr h,lens,<-h,bs_len]
theorem unframe_spec (N:Nat)(hN:Big N)(t:BA)(ht:t.size<=20000){rs:List BA}{p:List UInt8}(hp:torn N p)(hr:∀r∈rs,okR r)(h:bs t=cats N rs++p)(hl:rs.length<=5000):s_Unframe N t=some (rs,(lens N rs:Int)):=by
 rw[hp,List.append_nil]at h
 rw[unf_spec N hN t ht,recs_of N hN ht hr h,lens,<-h,bs_len]
def etx (idx:Nat)(e:Entry):BA:=(⟨#[69]⟩:BA)++encT idx++encT e.Term.toNat++(⟨#[UInt8.ofNat e.Kind.toNat]⟩:BA)++e.Data
theorem ent_in {e:Entry}(h:entOk e=true):(0<=e.Term/\e.Term<=100000)/\(1<=e.Kind/\e.Kind<=3)/\e.Data.size<=120:=by
 unfold entOk at h
 simp only[Bool.and_eq_true,DT]at h
 refine⟨h.1,?_⟩
 have h2:=h.2
 split at h2
 ·rename_i hk
  simp only[DT]at h2
  rw[h2]
  exact⟨by omega,by decide⟩
 ·split at h2
  ·rename_i hk
   have:=confOk_len h2
   rw[ints_len]at this
   exact⟨by omega,by omega⟩
  ·split at h2
   ·rename_i hk
    simp only[DT]at h2
    exact⟨by omega,h2⟩
   ·cases h2
theorem etx_size {idx:Nat}{e:Entry}(hi:idx<=100000)(h:entOk e=true):1<=(etx idx e).size/\(etx idx e).size<=140:=by
 obtain⟨h1,h2,h3⟩:=ent_in h
 unfold etx
 have y1:=enc_len5 (n:=idx) (by omega)
 have y2:=enc_len5 (n:=e.Term.toNat) (by omega)
 have z1:=encT_size idx
 have z2:=encT_size e.Term.toNat
 have z3:(⟨#[69]⟩:BA).size=1:=rfl
 have z4:(⟨#[UInt8.ofNat e.Kind.toNat]⟩:BA).size=1:=rfl
 simp only[BZ]
 omega
theorem kind_str {k:Int}(h:1<=k/\k<=3):strOf ([IntKind.wrap .u8 k]:List Int)=⟨#[UInt8.ofNat k.toNat]⟩:=by
 have e:IntKind.wrap .u8 k=k:=by rw[IntKind.wrap_u8];omega
 rw[e,strOf_data]
 simp
theorem etext_spec (N:Nat)(hN:Big N)(idx:Nat)(e:Entry)(hi:1<=idx/\idx<=100000)(h:entOk e=true):s_EntryText N (idx:Int) e=some (etx idx e,true):=by
 obtain⟨h1,h2,h3⟩:=ent_in h
 have y1:=enc_len5 (n:=idx) (by omega)
 have y2:=enc_len5 (n:=e.Term.toNat) (by omega)
 have z1:=encT_size idx
 have z2:=encT_size e.Term.toNat
 have z3:(⟨#[69]⟩:BA).size=1:=rfl
 have z4:(⟨#[UInt8.ofNat e.Kind.toNat]⟩:BA).size=1:=rfl
 have ed:decide ((1:Int)<=(idx:Int)/\(idx:Int)<=100000)=true:=by simp only[DT];omega
 have et:e.Term=((e.Term.toNat:Nat):Int):=by omega
 have v2:=var_spec N hN e.Term.toNat (by omega)
 rw[<-et]at v2
 unfold s_EntryText
 rw[entOk_spec N hN e (by omega),h,in_eq,ed]
 simp only[bO,BN,BF,↓reduceIte]
 rw[var_spec N hN idx (by omega),bO,scat_le (by omega),bO,v2,bO,scat_le (by simp only[BZ];omega),bO,kind_str h2,scat_le (by simp only[BZ];omega),bO,scat_le (by simp only[BZ];omega),bO]
 rfl
theorem vars_impl (N:Nat)(hN:Big N)(a b:Nat)(ha:a<=1000000000)(hb:b<=1000000000):i_vars N [(a:Int),(b:Int)]=some (encT a++encT b,true):=by
 unfold i_vars
 simp only[joinP]
 rw[i_vars_l1_eq [(a:Int),(b:Int)] (by show(2:Nat)<=_;decide) (by unfold Big at hN;show(2:Nat)<N;omega)]
 have y1:=enc_len5 ha
 have y2:=enc_len5 hb
 have z1:=encT_size a
 have z2:=encT_size b
 have l1:(intsOf (encT a)).length=(encT a).size:=by unfold intsOf;rw[List.length_map,Array.length_toList];rfl
 have l2:(intsOf (encT b)).length=(encT b).size:=by unfold intsOf;rw[List.length_map,Array.length_toList];rfl
 simp only[i_vars_l1_r,bO,var_impl N hN a (by omega),var_impl N hN b (by omega),IP ha,IP hb,BN,BF,↓reduceIte]
 rw[show cat? ([]:List Int) (intsOf (encT a))=some (intsOf (encT a))from IP (by simp only[List.length_nil];omega),bO,show cat? (intsOf (encT a)) (intsOf (encT b))=some (intsOf (encT a)++intsOf (encT b))from IP (by omega),bO]
 simp only[bO,Sum.elim_inr]
 rw[strOf_cat,strOf_ints,strOf_ints]
def frs (N:Nat):Nat->List Entry->BA
 |_,[]=>⟨#[]⟩
 |i,e::es=>frm N (etx i e)++frs N (i+1) es
theorem frs_size (N:Nat)(hN:Big N):∀(es:List Entry)(i:Nat),i+es.length<=100001->(∀e∈es,entOk e=true)->(frs N i es).size<=150*es.length
 |[],_,_,_=>Nat.zero_le _
 |e::es,i,hi,h=>by
  simp only[LC]at hi⊢
  have h1:=etx_size (idx:=i) (by omega) (h e (by simp))
  have h2:=frm_size N hN (etx i e) (by omega)
  have h3:=enc_len5 (n:=(etx i e).size) (by omega)
  have h4:=frs_size N hN es (i+1) (by omega) (λx hx=>h x (by simp[hx]))
  rw[frs,BZ]
  omega
theorem ints_cat (a b:BA):intsOf (a++b)=intsOf a++intsOf b:=by
 unfold intsOf
 rw[ByteArray.data_append,Array.toList_append,List.map_append]
theorem ints_size (t:BA):(intsOf t).length=t.size:=by unfold intsOf;rw[List.length_map,Array.length_toList];rfl
theorem frames_s (N:Nat)(hN:Big N)(l:Log)(s:Nat)(hs:l.Start=s)(hl:s+l.Entries.length<=100000)(h:∀e∈l.Entries,entOk e=true):∀(d k m:Nat)(acc:List Int),l.Entries.length=k+d->d<m->acc.length+200*d<=100000000->
  s_l12Frames_l1 N l m (k:Int) acc=some (acc++intsOf (frs N (s+1+k) (l.Entries.drop k)))
 |0,k,m,acc,hk,hm,ha=>by
  obtain⟨m,rfl⟩:∃q,m=q+1:=⟨m-1,by omega⟩
  rw[s_l12Frames_l1,IQ (by simp only[DT];omega),DN (by omega),frs]
  simp[intsOf]
 |d+1,k,m,acc,hk,hm,ha=>by
  obtain⟨m,rfl⟩:∃q,m=q+1:=⟨m-1,by omega⟩
  have hlt:k<l.Entries.length:=by omega
  have he:=h _ (List.getElem_mem hlt)
  rw[s_l12Frames_l1,IP (by simp only[DT];omega),at_lt hlt,bO]
  have ei:w64 (w64 (l.Start+1)+(k:Int))=((s+1+k:Nat):Int):=by
   rw[hs,w64_id (n:=(s:Int)+1) (by omega) (by omega),w64_id (by omega) (by omega)]
   omega
  have hsz:=etx_size (idx:=s+1+k) (by omega) he
  rw[ei,etext_spec N hN _ _ (by omega) he,bO,frame_spec N hN _ (by simp only;omega),IP (by simp only;omega),bO]
  have hf:=frm_size N hN (etx (s+1+k) l.Entries[k]) (by omega)
  have hy:=enc_len5 (n:=(etx (s+1+k) l.Entries[k]).size) (by omega)
  simp only
  rw[show cat? acc (intsOf (frm N (etx (s+1+k) l.Entries[k])))=some (acc++intsOf (frm N (etx (s+1+k) l.Entries[k])))from IP (by rw[ints_size];omega),bO,WS (by omega)]
  rw[frames_s N hN l s hs hl h d (k+1) m _ (by omega) (by omega) (by rw[LA,ints_size];omega),DG hlt,frs,ints_cat,List.append_assoc,Nat.add_assoc (s+1) k 1]
theorem lframes_spec (N:Nat)(hN:Big N)(l:Log)(s:Nat)(hs:l.Start=s)(hl:s+l.Entries.length<=100000)(h:∀e∈l.Entries,entOk e=true)(k:Nat)(hk:k<=l.Entries.length):s_l12Frames N l (k:Int)=some (frs N (s+1+k) (l.Entries.drop k)):=by
 unfold s_l12Frames
 simp only[joinP]
 rw[frames_s N hN l s hs hl h (l.Entries.length-k) k N [] (by omega) (by unfold Big at hN;omega) (by simp only[List.length_nil];omega),bO,List.nil_append,strOf_ints]
def htx (s t:Nat):BA:=(⟨#[83]⟩:BA)++encT s++encT t
theorem htx_size {s t:Nat}(hs:s<=100000)(ht:t<=100000):1<=(htx s t).size/\(htx s t).size<=11:=by
 unfold htx
 have y1:=enc_len5 (n:=s) (by omega)
 have y2:=enc_len5 (n:=t) (by omega)
 have z1:=encT_size s
 have z2:=encT_size t
 have z3:(⟨#[83]⟩:BA).size=1:=rfl
 simp only[BZ]
 omega
def lfile (N:Nat)(s t:Nat)(es:List Entry):BA:=frm N (htx s t)++frs N (s+1) es
theorem lfile_size (N:Nat)(hN:Big N){s t:Nat}{es:List Entry}(hs:s+es.length<=100000)(ht:t<=100000)(h:∀e∈es,entOk e=true):(lfile N s t es).size<=30+150*es.length:=by
 have h1:=htx_size (s:=s) (t:=t) (by omega) ht
 have h2:=frm_size N hN (htx s t) (by omega)
 have h3:=enc_len5 (n:=(htx s t).size) (by omega)
 have h4:=frs_size N hN es (s+1) (by omega) h
 unfold lfile
 rw[BZ]
 omega
theorem terms_all:∀(es:List Entry)(t:Int),termsOk t es=true->∀e∈es,entOk e=true
 |[],_,_,e,he=>by cases he
 |x::es,t,h,e,he=>by
  rw[termsOk_cons]at h
  simp only[Bool.and_eq_true]at h
  rcases List.mem_cons.1 he with rfl|he
  ·exact h.1
  ·exact terms_all es _ h.2.2 e he
theorem pv_at {t:BA}{a n:Nat}{M:List UInt8}(hn:n<=1000000000)(h:(bs t).drop a=enc n++M):pv t a=some (n,a+(enc n).length):=by
 unfold pv rdvT
 rw[show t.data.toList.drop a=_ from h,rdv_some.2 ⟨hn,rfl,by rw[List.take_left],by rw[LA];omega⟩]
theorem byte_okL (N:Nat){t:BA}{a:Nat}{c:UInt8}{M:List UInt8}(ht:t.size<=1099511627)(h:(bs t).drop a=c::M):r_byte N ⟨t,a,false⟩=some ((c.toNat:Int),⟨t,((a+1:Nat):Int),false⟩):=by
 have hs:=drop_len h (by simp)
 simp only[LC]at hs
 have hc:=c.toNat_lt
 unfold r_byte
 simp only[BF,↓reduceIte]
 rw[IQ (by simp only[DT];omega),WS (by omega)]
 have e3:w64 (((a+1:Nat):Int)-1)=(a:Int):=by rw[w64_id (by omega) (by omega)];omega
 rw[e3,sat_at (r:=M) h,bO,w64_id (n:=(c.toNat:Int)) (by omega) (by omega)]
theorem bs_etx (i:Nat)(e:Entry):bs (etx i e)=69::(enc i++(enc e.Term.toNat++(UInt8.ofNat e.Kind.toNat::bs e.Data))):=by
 unfold etx
 rw[bs_app,bs_app,bs_app,bs_app,bs_enc,bs_enc,List.append_assoc,List.append_assoc,List.append_assoc]
 rfl
theorem bs_htx (s t:Nat):bs (htx s t)=83::(enc s++enc t):=by
 unfold htx
 rw[bs_app,bs_app,bs_enc,bs_enc,List.append_assoc]
 rfl
theorem drop_cons {l:List UInt8}{c:UInt8}{M:List UInt8}(h:l=c::M):l.drop 1=M:=by rw[h];rfl
theorem drop_app {l A M:List UInt8}{a:Nat}(h:l.drop a=A++M):l.drop (a+A.length)=M:=by
 rw[<-List.drop_drop,h,List.drop_left]
theorem start_head (N:Nat)(hN:Big N){s t:Nat}(hs:s<=100000)(ht:t<=100000):i_readStart N (htx s t)=some (⟨s,t,[]⟩,true):=by
 have hz:=htx_size (s:=s) (t:=t) hs ht
 have h0:=bs_htx s t
 have h1:=drop_cons h0
 have h2:=drop_app h1
 have p1:=pv_at (t:=htx s t) (a:=1) (by omega) h1
 have p2:=pv_at (t:=htx s t) (a:=1+(enc s).length) (n:=t) (M:=[]) (by omega) (by rw[List.append_nil];exact h2)
 have hsz:(htx s t).size=1+(enc s).length+(enc t).length:=by
  rw[<-bs_len,h0]
  simp only[LC,LA]
  omega
 unfold i_readStart
 have b:=byte_okL N (t:=htx s t) (a:=0) (c:=83) (by omega) (by rw[List.drop_zero];exact h0)
 rw[show((0:Nat):Int)=0 from rfl]at b
 rw[b,bO]
 simp only[Nat.zero_add]
 rw[nv_ok N hN _ 1 (by omega) (by omega),p1,bO]
 simp only
 rw[nv_ok N hN _ (1+(enc s).length) (by omega) (by omega),p2,bO]
 simp only
 rw[IP (by decide)]
 unfold r_done
 simp only[Bool.not_false,↓reduceIte,bO]
 have:(((1+(enc s).length+(enc t).length:Nat):Int)==((htx s t).size:Int))=true:=by rw[hsz];simp
 rw[this]
theorem start_ent (N:Nat)(hN:Big N){i:Nat}{e:Entry}(hi:i<=100000)(h:entOk e=true):∃l,i_readStart N (etx i e)=some (l,false):=by
 have hz:=etx_size hi h
 obtain⟨g1,g2,g3⟩:=ent_in h
 have h0:=bs_etx i e
 have h1:=drop_cons h0
 have h2:=drop_app h1
 have p1:=pv_at (t:=etx i e) (a:=1) (by omega) h1
 have p2:=pv_at (t:=etx i e) (a:=1+(enc i).length) (n:=e.Term.toNat) (by omega) h2
 have hsz:(etx i e).size=1+(enc i).length+(enc e.Term.toNat).length+1+e.Data.size:=by
  rw[<-bs_len,h0]
  simp only[LC,LA,bs_len]
  omega
 unfold i_readStart
 have b:=byte_okL N (t:=etx i e) (a:=0) (c:=69) (by omega) (by rw[List.drop_zero];exact h0)
 rw[show((0:Nat):Int)=0 from rfl]at b
 rw[b,bO]
 simp only[Nat.zero_add]
 rw[nv_ok N hN _ 1 (by omega) (by omega),p1,bO]
 simp only
 rw[nv_ok N hN _ (1+(enc i).length) (by omega) (by omega),p2,bO]
 simp only
 rw[IQ (by decide)]
 exact⟨_,rfl⟩
theorem kind_byte {k:Int}(h:1<=k/\k<=3):((UInt8.ofNat k.toNat).toNat:Int)=k:=by
 have:(UInt8.ofNat k.toNat).toNat=k.toNat:=by rw[UInt8.toNat_ofNat'];omega
 rw[this]
 omega
theorem data_tail {i:Nat}{e:Entry}:sdrop? (etx i e) ((1+(enc i).length+(enc e.Term.toNat).length+1:Nat):Int)=some e.Data:=by
 have h0:=bs_etx i e
 have h3:=drop_app (drop_app (drop_cons h0))
 have h4:(bs (etx i e)).drop (1+(enc i).length+(enc e.Term.toNat).length+1)=bs e.Data:=by rw[<-List.drop_drop,h3];rfl
 have hsz:(etx i e).size=1+(enc i).length+(enc e.Term.toNat).length+1+e.Data.size:=by
  rw[<-bs_len,h0]
  simp only[LC,LA,bs_len]
  omega
 rw[sdrop_ok (by omega)]
 congr 1
 apply ba_ext'
 rw[ext_toList _ _ _ (by omega) (Nat.le_refl _),show(etx i e).data.toList.drop _=_ from h4,List.take_of_length_le (by rw[bs_len];omega)]
theorem ent_eq {e:Entry}(h:entOk e=true):(⟨((e.Term.toNat:Nat):Int),((UInt8.ofNat e.Kind.toNat).toNat:Int),e.Data⟩:Entry)=e:=by
 obtain⟨g1,g2,g3⟩:=ent_in h
 rw[kind_byte g2,Int.toNat_of_nonneg g1.1]
theorem rent_impl (N:Nat)(hN:Big N){i:Nat}{e:Entry}(hi:1<=i/\i<=100000)(h:entOk e=true):i_ReadEntry N (etx i e)=some ((i:Int),e,true):=by
 have hz:=etx_size hi.2 h
 obtain⟨g1,g2,g3⟩:=ent_in h
 have h0:=bs_etx i e
 have h1:=drop_cons h0
 have h2:=drop_app h1
 have h3:=drop_app h2
 have p1:=pv_at (t:=etx i e) (a:=1) (by omega) h1
 have p2:=pv_at (t:=etx i e) (a:=1+(enc i).length) (n:=e.Term.toNat) (by omega) h2
 have hsz:(etx i e).size=1+(enc i).length+(enc e.Term.toNat).length+1+e.Data.size:=by
  rw[<-bs_len,h0]
  simp only[LC,LA,bs_len]
  omega
 unfold i_ReadEntry
 have b:=byte_okL N (t:=etx i e) (a:=0) (c:=69) (by omega) (by rw[List.drop_zero];exact h0)
 rw[show((0:Nat):Int)=0 from rfl]at b
 rw[b,bO]
 simp only[Nat.zero_add]
 rw[nv_ok N hN _ 1 (by omega) (by omega),p1,bO]
 simp only
 rw[nv_ok N hN _ (1+(enc i).length) (by omega) (by omega),p2,bO]
 simp only
 rw[byte_okL N (by omega) h3,bO]
 simp only[BF,↓reduceIte]
 rw[IQ (by decide),data_tail,bO,ent_eq h,entOk_impl N hN e (by omega),h,within_eq]
 have ed:decide ((1:Int)<=(i:Int)/\(i:Int)<=100000)=true:=by simp only[DT];omega
 simp only[bO,ed,BN,BF,↓reduceIte]
theorem take1 (N:Nat){t:BA}{a:Nat}{c:UInt8}{M:List UInt8}(ht:t.size<=1099511627)(h:(bs t).drop a=c::M):s_l05Take N ⟨t,a,false⟩ 1=some (⟨#[c]⟩,⟨t,((a+1:Nat):Int),false⟩):=by
 have hs:=drop_len h (by simp)
 simp only[LC]at hs
 have e:=take_ok N t a 1 ht (by omega) (by decide)
 rw[show((1:Nat):Int)=1 from rfl]at e
 rw[e,IP (by omega)]
 have:t.extract a (a+1)=⟨#[c]⟩:=by
  apply ba_ext'
  rw[ext_toList t a (a+1) (by omega) (by omega),show t.data.toList.drop a=_ from h,Nat.add_sub_cancel_left]
  rfl
 rw[this]
theorem rent_spec (N:Nat)(hN:Big N){i:Nat}{e:Entry}(hi:1<=i/\i<=100000)(h:entOk e=true):s_ReadEntry N (etx i e)=some ((i:Int),e,true):=by
 have hz:=etx_size hi.2 h
 obtain⟨g1,g2,g3⟩:=ent_in h
 have h0:=bs_etx i e
 have h1:=drop_cons h0
 have h2:=drop_app h1
 have h3:=drop_app h2
 have p1:=pv_at (t:=etx i e) (a:=1) (by omega) h1
 have p2:=pv_at (t:=etx i e) (a:=1+(enc i).length) (n:=e.Term.toNat) (by omega) h2
 have hsz:(etx i e).size=1+(enc i).length+(enc e.Term.toNat).length+1+e.Data.size:=by
  rw[<-bs_len,h0]
  simp only[LC,LA,bs_len]
  omega
 have hc:=(UInt8.ofNat e.Kind.toNat).toNat_lt
 unfold s_ReadEntry
 have b:=take1 N (t:=etx i e) (a:=0) (c:=69) (by omega) (by rw[List.drop_zero];exact h0)
 rw[show((0:Nat):Int)=0 from rfl]at b
 rw[b,bO]
 simp only[Nat.zero_add]
 rw[sv_ok N hN _ 1 (by omega) (by omega),p1,bO]
 simp only
 rw[sv_ok N hN _ (1+(enc i).length) (by omega) (by omega),p2,bO]
 simp only
 rw[take1 N (by omega) h3,bO]
 simp only[BF,↓reduceIte]
 have e2:sat? (⟨#[UInt8.ofNat e.Kind.toNat]⟩:BA) 0=some ((UInt8.ofNat e.Kind.toNat).toNat:Int):=sat_at (t:=⟨#[UInt8.ofNat e.Kind.toNat]⟩) (k:=0) (r:=[]) rfl
 rw[e2,bO,w64_id (n:=((UInt8.ofNat e.Kind.toNat).toNat:Int)) (by omega) (by omega),data_tail,bO,ent_eq h,etext_spec N hN i e hi h,bO]
 simp
theorem sstart_head (N:Nat)(hN:Big N){s t:Nat}(hs:s<=100000)(ht:t<=100000):s_l12Start N (htx s t)=some (⟨s,t,[]⟩,true):=by
 have hz:=htx_size (s:=s) (t:=t) hs ht
 have h0:=bs_htx s t
 have h1:=drop_cons h0
 have h2:=drop_app h1
 have p1:=pv_at (t:=htx s t) (a:=1) (by omega) h1
 have p2:=pv_at (t:=htx s t) (a:=1+(enc s).length) (n:=t) (M:=[]) (by omega) (by rw[List.append_nil];exact h2)
 have hsz:(htx s t).size=1+(enc s).length+(enc t).length:=by
  rw[<-bs_len,h0]
  simp only[LC,LA]
  omega
 have z1:=encT_size s
 have z2:=encT_size t
 have z3:(⟨#[83]⟩:BA).size=1:=rfl
 unfold s_l12Start
 have b:=take1 N (t:=htx s t) (a:=0) (c:=83) (by omega) (by rw[List.drop_zero];exact h0)
 rw[show((0:Nat):Int)=0 from rfl]at b
 rw[b,bO]
 simp only[Nat.zero_add]
 rw[sv_ok N hN _ 1 (by omega) (by omega),p1,bO]
 simp only
 rw[sv_ok N hN _ (1+(enc s).length) (by omega) (by omega),p2,bO]
 simp only[BF,↓reduceIte]
 rw[var_spec N hN s (by omega),bO,scat_le (by omega),bO,var_spec N hN t (by omega),bO,scat_le (by simp only[BZ];omega),bO]
 change(if(!decide (htx s t=htx s t))=true then _ else _)=_
 simp
theorem sstart_ent (N:Nat)(hN:Big N){i:Nat}{e:Entry}(hi:i<=100000)(h:entOk e=true):∃l,s_l12Start N (etx i e)=some (l,false):=by
 have hz:=etx_size hi h
 obtain⟨g1,g2,g3⟩:=ent_in h
 have h0:=bs_etx i e
 have h1:=drop_cons h0
 have h2:=drop_app h1
 have p1:=pv_at (t:=etx i e) (a:=1) (by omega) h1
 have p2:=pv_at (t:=etx i e) (a:=1+(enc i).length) (n:=e.Term.toNat) (by omega) h2
 have hsz:(etx i e).size=1+(enc i).length+(enc e.Term.toNat).length+1+e.Data.size:=by
  rw[<-bs_len,h0]
  simp only[LC,LA,bs_len]
  omega
 have y1:=enc_len5 (n:=i) (by omega)
 have y2:=enc_len5 (n:=e.Term.toNat) (by omega)
 have z1:=encT_size i
 have z2:=encT_size e.Term.toNat
 have z3:(⟨#[83]⟩:BA).size=1:=rfl
 unfold s_l12Start
 have b:=take1 N (t:=etx i e) (a:=0) (c:=69) (by omega) (by rw[List.drop_zero];exact h0)
 rw[show((0:Nat):Int)=0 from rfl]at b
 rw[b,bO]
 simp only[Nat.zero_add]
 rw[sv_ok N hN _ 1 (by omega) (by omega),p1,bO]
 simp only
 rw[sv_ok N hN _ (1+(enc i).length) (by omega) (by omega),p2,bO]
 simp only[BF,↓reduceIte]
 rw[var_spec N hN i (by omega),bO,scat_le (by omega),bO,var_spec N hN e.Term.toNat (by omega),bO,scat_le (by simp only[BZ];omega),bO]
 have hne:¬(⟨#[83]⟩:BA)++encT i++encT e.Term.toNat=etx i e:=by
  intro hq
  have:bs ((⟨#[83]⟩:BA)++encT i++encT e.Term.toNat)=bs (etx i e):=by rw[hq]
  rw[h0,bs_app,bs_app,show bs (⟨#[83]⟩:BA)=[83]from rfl]at this
  have h5:(83:UInt8)=69:=by
   have:=congrArg List.head? this
   simp at this
  cases h5
 rw[IP (by simpa using hne)]
 exact⟨_,rfl⟩
def appE (es:List Entry)(p:Nat×Entry):List Entry:=es.take p.1++[p.2]
def okPs (s:Nat):List Entry->List (Nat×Entry)->Prop
 |_,[]=>True
 |es,p::ps=>p.1<=es.length/\s+1+p.1<=100000/\entOk p.2=true/\okPs s (appE es p) ps
def ertx (s:Nat)(p:Nat×Entry):BA:=etx (s+1+p.1) p.2
theorem app_len {es:List Entry}{p:Nat×Entry}(h:p.1<=es.length):(appE es p).length=p.1+1:=by
 unfold appE
 rw[LA,List.length_take,List.length_singleton]
 omega
theorem cat_e (es:List Entry)(e:Entry)(h:es.length<=1000000):cat? es [e]=some (es++[e]):=by
 unfold cat?
 rw[IP (by simp;omega)]
theorem take_e {es:List Entry}{k:Nat}(h:k<=es.length):take? es (k:Int)=some (es.take k):=by
 unfold take?
 rw[IP (by omega),Int.toNat_natCast]
theorem rl_i (N:Nat)(hN:Big N)(y:List BA×Int)(s t:Nat)(hs:s<=100000)(hl:y.1.length<=5000):∀(ps:List (Nat×Entry))(pre:List BA)(m:Nat)(es:List Entry),y.1=pre++ps.map (ertx s)->1<=pre.length->ps.length<m->okPs s es ps->es.length+ps.length<=100000->
  i_ReadLog_l1 N y m (pre.length:Int) (s:Int) (t:Int) es=some (.inr ((s:Int),(t:Int),ps.foldl appE es))
 |[],pre,m,es,hy,hp,hm,hk,hb=>by
  obtain⟨m,rfl⟩:∃q,m=q+1:=⟨m-1,by simp at hm;omega⟩
  have:y.1.length=pre.length:=by rw[hy];simp
  rw[i_ReadLog_l1,IQ (by simp only[DT];omega)]
  rfl
 |p::ps,pre,m,es,hy,hp,hm,hk,hb=>by
  simp only[LC]at hm hb
  obtain⟨m,rfl⟩:∃q,m=q+1:=⟨m-1,by omega⟩
  obtain⟨k1,k2,k3,k4⟩:=hk
  have hyl:y.1.length=pre.length+(ps.length+1):=by rw[hy];simp
  have hat:at? y.1 (pre.length:Int)=some (ertx s p):=by
   rw[hy]
   unfold at?
   rw[IP (by omega),Int.toNat_natCast,List.getElem?_append_right (Nat.le_refl _)]
   simp
  obtain⟨l0,e0⟩:=start_ent N hN (i:=s+1+p.1) (e:=p.2) k2 k3
  rw[i_ReadLog_l1,IP (by simp only[DT];omega),hat,bO]
  unfold ertx
  rw[e0,bO]
  simp only[BF,↓reduceIte]
  rw[rent_impl N hN ⟨by omega,k2⟩ k3,bO]
  simp only[BN,BF,↓reduceIte]
  have hne:((pre.length:Int)==0)=false:=by rw[beq_eq_false_iff_ne];omega
  rw[hne]
  simp only[BF,↓reduceIte]
  have e1:w64 (((s+1+p.1:Nat):Int)-(s:Int))=((p.1+1:Nat):Int):=by rw[w64_id (by omega) (by omega)];omega
  have e2:w64 (((es.length:Nat):Int)+1)=((es.length+1:Nat):Int):=WS (by omega)
  have e3:w64 (((p.1+1:Nat):Int)-1)=(p.1:Int):=by rw[w64_id (by omega) (by omega)];omega
  have ed:decide ((1:Int)<=((p.1+1:Nat):Int)/\((p.1+1:Nat):Int)<=((es.length+1:Nat):Int))=true:=by simp only[DT];omega
  rw[e1,e2,within_eq,ed,bO]
  simp only[BN,BF,↓reduceIte]
  rw[e3,take_e k1,bO,Int.toNat_natCast,cat_e _ _ (by rw[List.length_take];omega),bO,WS (by omega)]
  have hal:=app_len k1
  have:=rl_i N hN y s t hs hl ps (pre++[ertx s p]) m (appE es p) (by rw[hy];simp) (by simp) (by omega) k4 (by omega)
  rw[LA,List.length_singleton]at this
  exact this
theorem rl_s (N:Nat)(hN:Big N)(y:List BA×Int)(s t:Nat)(hs:s<=100000)(hl:y.1.length<=5000):∀(ps:List (Nat×Entry))(pre:List BA)(m:Nat)(es:List Entry),y.1=pre++ps.map (ertx s)->1<=pre.length->ps.length<m->okPs s es ps->es.length+ps.length<=100000->
  s_ReadLog_l1 N y m (pre.length:Int) (s:Int) (t:Int) es=some (.inr ((s:Int),(t:Int),ps.foldl appE es))
 |[],pre,m,es,hy,hp,hm,hk,hb=>by
  obtain⟨m,rfl⟩:∃q,m=q+1:=⟨m-1,by simp at hm;omega⟩
  have:y.1.length=pre.length:=by rw[hy];simp
  rw[s_ReadLog_l1,IQ (by simp only[DT];omega)]
  rfl
 |p::ps,pre,m,es,hy,hp,hm,hk,hb=>by
  simp only[LC]at hm hb
  obtain⟨m,rfl⟩:∃q,m=q+1:=⟨m-1,by omega⟩
  obtain⟨k1,k2,k3,k4⟩:=hk
  have hyl:y.1.length=pre.length+(ps.length+1):=by rw[hy];simp
  have hat:at? y.1 (pre.length:Int)=some (ertx s p):=by
   rw[hy]
   unfold at?
   rw[IP (by omega),Int.toNat_natCast,List.getElem?_append_right (Nat.le_refl _)]
   simp
  obtain⟨l0,e0⟩:=sstart_ent N hN (i:=s+1+p.1) (e:=p.2) k2 k3
  rw[s_ReadLog_l1,IP (by simp only[DT];omega)]
  simp only[joinP,hat,bO]
  have e0':s_l12Start N (ertx s p)=some (l0,false):=e0
  have r0:s_ReadEntry N (ertx s p)=some (((s+1+p.1:Nat):Int),p.2,true):=rent_spec N hN ⟨by omega,k2⟩ k3
  rw[e0',bO]
  simp only[BF,↓reduceIte]
  rw[r0,bO]
  have hne:((pre.length:Int)==0)=false:=by rw[beq_eq_false_iff_ne];omega
  rw[hne]
  simp only[BN,BF,↓reduceIte]
  rw[IQ (by simp only[DT];omega)]
  have e1:w64 (((s+1+p.1:Nat):Int)-(s:Int))=((p.1+1:Nat):Int):=by rw[w64_id (by omega) (by omega)];omega
  have e3:w64 (((p.1+1:Nat):Int)-1)=(p.1:Int):=by rw[w64_id (by omega) (by omega)];omega
  have el:s_l12Last N (Log.mk (s:Int) (t:Int) es)=some (((s+es.length:Nat)):Int):=by
   unfold s_l12Last
   simp only
   rw[w64_id (by omega) (by omega)]
   rfl
  rw[el,bO,WS (by omega),IQ (by simp only[DT];omega),e1,e3,take_e k1,bO,Int.toNat_natCast]
  have c1:cat? ([]:List Entry) (es.take p.1)=some (es.take p.1):=by
   unfold cat?
   rw[IP (by rw[List.length_take];simp;omega),List.nil_append]
  rw[c1,bO,cat_e _ _ (by rw[List.length_take];omega),bO,WS (by omega)]
  have hal:=app_len k1
  have:=rl_s N hN y s t hs hl ps (pre++[ertx s p]) m (appE es p) (by rw[hy];simp) (by simp) (by omega) k4 (by omega)
  rw[LA,List.length_singleton]at this
  exact this
structure IsFile (N:Nat) (F:BA) (s t:Nat) (ps:List (Nat×Entry)) (p:List UInt8):Prop where
 eq:bs F=cats N (htx s t::ps.map (ertx s))++p
 torn:torn N p
 size:F.size<=20000
 ok:okPs s [] ps
 s0:s<=100000
 t0:t<=100000
 len:ps.length<=4000
theorem okR_ps {s:Nat}:∀{ps:List (Nat×Entry)}{es:List Entry},okPs s es ps->∀r∈ps.map (ertx s),okR r
 |[],_,_,r,hr=>by cases hr
 |p::ps,es,h,r,hr=>by
  obtain⟨h1,h2,h3,h4⟩:=h
  rcases List.mem_cons.1 hr with rfl|hr
  ·have:=etx_size (idx:=s+1+p.1) h2 h3
   exact⟨this.1,by have:=this.2;unfold ertx;omega⟩
  ·exact okR_ps h4 r hr
theorem IsFile.recs {N:Nat}{F:BA}{s t:Nat}{ps:List (Nat×Entry)}{p:List UInt8}(h:IsFile N F s t ps p):∀r∈htx s t::ps.map (ertx s),okR r:=by
 intro r hr
 have s0:=h.s0
 have t0:=h.t0
 rcases List.mem_cons.1 hr with rfl|hr
 ·have:=htx_size (s:=s) (t:=t) (by omega) (by omega)
  exact⟨this.1,by omega⟩
 ·exact okR_ps h.ok r hr
theorem readlog_impl (N:Nat)(hN:Big N){F:BA}{s t:Nat}{ps:List (Nat×Entry)}{p:List UInt8}(h:IsFile N F s t ps p)(hok:logOk ⟨s,t,ps.foldl appE []⟩=true)(hsm:smallL ⟨s,t,ps.foldl appE []⟩):
  i_ReadLog N F=some (⟨s,t,ps.foldl appE []⟩,(lens N (htx s t::ps.map (ertx s)):Int),true):=by
 have s0:=h.s0
 have t0:=h.t0
 have hl:=h.len
 unfold i_ReadLog
 rw[unframe_impl N hN F h.size h.torn h.recs h.eq (by simp;omega),bO]
 simp only[joinP]
 obtain⟨q,hq⟩:∃q,N=q+1:=⟨N-1,by unfold Big at hN;omega⟩
 have e1:i_ReadLog_l1 N (htx s t::ps.map (ertx s),(lens N (htx s t::ps.map (ertx s)):Int)) N 0 0 0 []=some (.inr ((s:Int),(t:Int),ps.foldl appE [])):=by
  conv=>lhs;arg 3;rw[hq]
  rw[i_ReadLog_l1,IP (by simp)]
  have a0:at? (htx s t::ps.map (ertx s)) 0=some (htx s t):=rfl
  simp only
  rw[a0,bO,start_head N hN (by omega) (by omega),bO]
  simp only[↓reduceIte]
  have:=rl_i N hN (htx s t::ps.map (ertx s),(lens N (htx s t::ps.map (ertx s)):Int)) s t (by omega) (by simp;omega) ps [htx s t] q [] rfl (by simp) (by unfold Big at hN;omega) h.ok (by simp;omega)
  exact this
 rw[e1,bO]
 simp only[Sum.elim_inr]
 rw[IQ (by simp;omega),logOk_impl N hN _ hsm,hok,bO]
 rfl
theorem readlog_spec (N:Nat)(hN:Big N){F:BA}{s t:Nat}{ps:List (Nat×Entry)}{p:List UInt8}(h:IsFile N F s t ps p)(hok:logOk ⟨s,t,ps.foldl appE []⟩=true)(hsm:smallL ⟨s,t,ps.foldl appE []⟩):
  s_ReadLog N F=some (⟨s,t,ps.foldl appE []⟩,(lens N (htx s t::ps.map (ertx s)):Int),true):=by
 have s0:=h.s0
 have t0:=h.t0
 have hl:=h.len
 unfold s_ReadLog
 rw[unframe_spec N hN F h.size h.torn h.recs h.eq (by simp;omega),bO]
 simp only[joinP]
 obtain⟨q,hq⟩:∃q,N=q+1:=⟨N-1,by unfold Big at hN;omega⟩
 have e1:s_ReadLog_l1 N (htx s t::ps.map (ertx s),(lens N (htx s t::ps.map (ertx s)):Int)) N 0 0 0 []=some (.inr ((s:Int),(t:Int),ps.foldl appE [])):=by
  conv=>lhs;arg 3;rw[hq]
  rw[s_ReadLog_l1,IP (by simp)]
  have a0:at? (htx s t::ps.map (ertx s)) 0=some (htx s t):=rfl
  simp only[joinP]
  rw[a0,bO,sstart_head N hN (by omega) (by omega),bO]
  simp only[↓reduceIte]
  have:=rl_s N hN (htx s t::ps.map (ertx s),(lens N (htx s t::ps.map (ertx s)):Int)) s t (by omega) (by simp;omega) ps [htx s t] q [] rfl (by simp) (by unfold Big at hN;omega) h.ok (by simp;omega)
  exact this
 rw[e1,bO]
 simp only[Sum.elim_inr]
 rw[IQ (by simp;omega),logOk_spec N hN _ hsm,hok,bO]
 rfl
def Po {α:Type}(x:Option α)(P:α->Prop):Prop:=∃a,x=some a/\P a
class Cd (b:Bool) (P:outParam Prop):Prop where
 c:b=true↔P
instance (b:Bool):Cd b (b=true):=⟨Iff.rfl⟩
instance {p:Prop}[Decidable p]:Cd (decide p) p:=⟨decide_eq_true_iff⟩
instance {b:Bool}:Cd (!b) (b=false):=⟨by simp⟩
instance {x y:Int}:Cd (x==y) (x=y):=⟨beq_iff_eq⟩
instance {x y:Int}:Cd (x !=y) (x≠y):=⟨bne_iff_ne⟩
theorem Po.r {α:Type}{P:α->Prop}{a:α}(h:P a):Po (some a) P:=⟨a,rfl,h⟩
theorem Po.b {α β:Type}{P:α->Prop}{Q:β->Prop}{x:Option α}{f:α->Option β}(h:Po x P)(k:∀a,P a->Po (f a) Q):Po (x.bind f) Q:=by
 obtain⟨a,rfl,ha⟩:=h;exact k a ha
theorem Po.e {α β:Type}{Q:β->Prop}{x:Option α}{a:α}{f:α->Option β}(h:x=some a)(k:Po (f a) Q):Po (x.bind f) Q:=by rw[h];exact k
theorem Po.imp {α:Type}{P:α->Prop}{x:Option α}{R:α->Prop}(h:Po x P)(k:∀a,P a->R a):Po x R:=by
 obtain⟨a,h,ha⟩:=h;exact⟨a,h,k a ha⟩
theorem Po.i {α:Type}{P:α->Prop}{c:Bool}{p:Prop}[h:Cd c p]{x y:Option α}(h1:p->Po x P)(h2:¬p->Po y P):Po (if c=true then x else y) P:=by
 split
 ·exact h1 (h.c.1 (by assumption))
 ·rename_i hn;exact h2 λe=>hn (h.c.2 e)
theorem Po.j {β γ:Type}{Q:β->Prop}(R:γ->Prop){f:γ->Option β}{k:(γ->Option β)->Option β}(h:∀v,R v->Po (f v) Q)(h2:∀g:γ->Option β,(∀v,R v->Po (g v) Q)->Po (k g) Q):Po (joinP f k) Q:=h2 f h
theorem Po.a {α β:Type}{Q:β->Prop}{xs:List α}{i:Int}(h0:0<=i)(h:i<xs.length){f:α->Option β}(k:∀a,a∈xs->Po (f a) Q):Po ((at? xs i).bind f) Q:=by
 obtain⟨n,rfl⟩:∃n:Nat,i=n:=⟨i.toNat,by omega⟩
 rw[at_lt (by omega)]
 exact k _ (List.getElem_mem _)
theorem Po.a' {α β:Type}{Q:β->Prop}{xs:List α}{i:Int}(h0:0<=i)(h:i<xs.length){f:α->Option β}(k:∀a,xs[i.toNat]? =some a->Po (f a) Q):Po ((at? xs i).bind f) Q:=by
 obtain⟨n,rfl⟩:∃n:Nat,i=n:=⟨i.toNat,by omega⟩
 rw[at_lt (by omega)]
 exact k _ (List.getElem?_eq_getElem _)
theorem Po.c {α β:Type}{Q:β->Prop}{xs ys:List α}(h:xs.length+ys.length<=1000000){f:List α->Option β}(k:Po (f (xs++ys)) Q):Po ((cat? xs ys).bind f) Q:=by
 rw[cat_ok (by omega)];exact k
theorem Po.n {β:Type}{Q:β->Prop}{N:Nat}{x a b:Int}{z:β}{f:Option β}(hz:Q z)(k:a<=x/\x<=b->Po f Q):Po ((s_l01In N x a b).bind λy=>if(!y)=true then some z else f) Q:=by
 rw[in_eq]
 by_cases h:a<=x/\x<=b
 ·rw[DE h];exact k h
 ·rw[DF h];exact⟨z,rfl,hz⟩
theorem Po.l {β γ:Type}{Q:β->Prop}(f:Nat->Int->γ->Option β)(n:Int)(I:Int->γ->Prop)(hn:n<=1000000000)(body:∀m i s,0<=i->I i s->(i<n->∀s',I (i+1) s'->Po (f m (w64 (i+1)) s') Q)->Po (f (m+1) i s) Q):∀(m:Nat)(i:Int)(s:γ),0<=i->I i s->0<m->n-i<m->Po (f m i s) Q:=by
 intro m
 induction m with
 |zero=>intro i s _ _ h;omega
 |succ m ih=>
  intro i s h0 hs _ hm
  refine body m i s h0 hs λhl s' h'=> ?_
  rw[w64_id (by omega) (by omega)]
  exact ih (i+1) s' (by omega) h' (by omega) (by omega)
theorem Po.l0 {β γ:Type}{Q:β->Prop}{N:Nat}(hN:Big N)(f:Nat->Int->γ->Option β)(n:Int)(I:Int->γ->Prop)(hn:n<=1000000000)(body:∀m i s,0<=i->I i s->(i<n->∀s',I (i+1) s'->Po (f m (w64 (i+1)) s') Q)->Po (f (m+1) i s) Q){i:Int}{s:γ}(h0:0<=i)(h:I i s):Po (f N i s) Q:=
 Po.l f n I hn body N i s h0 h (by have:=hN;unfold Big at this;omega) (by have:=hN;unfold Big at this;omega)
theorem Po.s {β:Type}{Q:β->Prop}{t u:BA}(h:t.size+u.size<=1000000000){f:BA->Option β}(k:Po (f (t++u)) Q):Po ((scat? t u).bind f) Q:=by
 rw[scat_ok (by omega)];exact k
def CW (c:List Int):Prop:=c.length<=4/\∀x∈c,1<=x/\x<=4
structure LW (l:Log):Prop where
 s:0<=l.Start/\l.Start<=100000
 n:l.Entries.length<=130
 d:∀e∈l.Entries,e.Data.size<=120
theorem rise_in:∀{c:List Int}{lo hi:Int}{p:Option Int},rise lo hi p c=true->∀x∈c,lo<=x/\x<=hi
 |y::c,lo,hi,p,h,x,hx=>by
  rw[rise_cons]at h
  simp only[Bool.and_eq_true,DT]at h
  rcases List.mem_cons.1 hx with rfl|hx
  ·exact h.1
  ·exact rise_in h.2.2 x hx
theorem conf_cw {c:List Int}(h:confOk c=true):CW c:=by
 refine⟨(confOk_len h).2,?_⟩
 unfold confOk at h
 simp only[Bool.and_eq_true]at h
 exact rise_in h.2.2
theorem oth_t (N:Nat)(hN:Big N)(c:List Int)(id:Int)(h:CW c):Po (s_l16Others N c id) CW:=by
 have hl:=h.1
 unfold s_l16Others
 refine Po.j CW (λ_ h=>Po.r h) λg hg=>Po.b (Po.l0 hN (λm i s=>s_l16Others_l1 N c id m i s) c.length (λi s=>(s.length:Int)<=i/\i<=c.length/\∀x∈s,x∈c) (by omega) (λm i s h0 hs k=> ?_) (by omega) (by simp)) hg
 rw[s_l16Others_l1]
 refine Po.i (λq=>Po.j (λv=>(v.length:Int)<=i+1/\∀x∈v,x∈c) (λv hv=>k q v ⟨hv.1,by omega,hv.2⟩) λg hg=>Po.a h0 q λa ha=>Po.i (λ_=>Po.a h0 q λb hb=>Po.c (by simp;omega) (hg _ ⟨by simp;omega,?_⟩)) λ_=>hg _ ⟨by omega,hs.2.2⟩) λq=>Po.r ⟨by omega,λx hx=>h.2 x (hs.2.2 x hx)⟩
 intro x hx
 rcases List.mem_append.1 hx with hx|hx
 ·exact hs.2.2 x hx
 ·rw[List.mem_singleton]at hx;exact hx▸hb
theorem cat_t (N:Nat)(hN:Big N)(n:Node)(x:Int)(hc:CW n.Conf)(h:LW n.Log):Po (s_ConfAt N n x) CW:=by
 have hl:=h.n
 have hcl:=hc.1
 unfold s_ConfAt
 refine Po.c (by simp;omega) (Po.j CW (λ_ h=>Po.r h) λg hg=>Po.b (Po.l0 hN (λm i s=>s_ConfAt_l1 N n x m i s) n.Log.Entries.length (λi s=>CW s) (by omega) (λm i s h0 hs k=> ?_) (by omega) (by simpa using hc)) hg)
 rw[s_ConfAt_l1]
 refine Po.i (λq=>Po.i (λ_=>Po.j CW (λv hv=>k q v hv) λg hg=>Po.a h0 q λa ha=>Po.i (λ_=>Po.a h0 q λb hb=>Po.e (readConf_spec N hN _ (by have:=h.d b hb;omega)) (Po.i (λe=>hg _ ?_) λ_=>hg _ hs)) λ_=>hg _ hs) λ_=>Po.r hs) λ_=>Po.r hs
 rw[readConf_ok]at e
 unfold readConf
 rw[IP e]
 exact conf_cw e
theorem cof_t (N:Nat)(hN:Big N)(n:Node)(hc:CW n.Conf)(h:LW n.Log):Po (s_ConfOf N n) CW:=Po.b (cat_t N hN n _ hc h) λ_ h=>Po.r h
theorem most_t (N:Nat)(hN:Big N)(c v:List Int)(hc:CW c)(hv:v.length<=1000):Po (s_Most N c v) λ_=>True:=by
 have hl:=hc.1
 unfold s_Most
 refine Po.j (λ_=>True) (λv _=>Po.e (confOk_spec N hN c (by omega)) (Po.i (λ_=>Po.r trivial) λ_=>Po.r trivial)) λg hg=>Po.b (Po.l0 hN (λm i s=>s_Most_l1 N c v m s i) c.length (λ_ _=>True) (by omega) (λm i s h0 _ k=> ?_) (by omega) trivial) hg
 rw[s_Most_l1]
 exact Po.i (λq=>Po.j (λ_=>True) (k q) λg hg=>Po.a h0 q λa ha=>Po.e (in_spec N hN v a (by omega)) (Po.i (λ_=>hg _ trivial) λ_=>hg _ trivial)) λ_=>Po.r trivial
theorem last_e (N:Nat){l:Log}(h:LW l):s_l12Last N l=some (l.Start+l.Entries.length):=by
 have:=h.s
 have:=h.n
 unfold s_l12Last
 rw[w64_id (by omega) (by omega)]
theorem lt_t (N:Nat){l:Log}(h:LW l)(i:Int)(hi: -1000000000<=i/\i<=1000000000):Po (s_LogTerm N l i) λt=>t=l.StartTerm/\i=l.Start\/t= -1\/(l.Start<i/\i<=l.Start+l.Entries.length)/\∃e∈l.Entries,t=e.Term:=by
 have hs:=h.s
 have hn:=h.n
 unfold s_LogTerm
 refine Po.i (λq=>Po.r (.inl ⟨rfl,q⟩)) λq=>Po.i (λ_=>Po.r (.inr (.inl rfl))) λq2=>Po.e (last_e N h) (Po.i (λ_=>Po.r (.inr (.inl rfl))) λq3=> ?_)
 rw[w64_id (n:=i-l.Start) (by omega) (by omega),w64_id (by omega) (by omega)]
 exact Po.a (by omega) (by omega) λe he=>Po.r (.inr (.inr ⟨⟨by omega,by omega⟩,e,he,rfl⟩))
theorem cix_t (N:Nat)(hN:Big N)(n:Node)(h:LW n.Log):Po (s_l16ConfIndex N n) λ_=>True:=by
 have hl:=h.n
 unfold s_l16ConfIndex
 refine Po.j (λ_=>True) (λ_ _=>Po.r trivial) λg hg=>Po.b (Po.l0 hN (λm i s=>s_l16ConfIndex_l1 N n m s i) n.Log.Entries.length (λ_ _=>True) (by omega) (λm i s h0 _ k=> ?_) (by omega) trivial) hg
 rw[s_l16ConfIndex_l1]
 exact Po.i (λq=>Po.j (λ_=>True) (k q) λg hg=>Po.a h0 q λa ha=>Po.i (λ_=>hg _ trivial) λ_=>hg _ trivial) λ_=>Po.r trivial
def PW (p:Peer):Prop:=(1<=p.Id/\p.Id<=4)/\(-1000000<=p.Next/\p.Next<=1000000)/\(-1000000<=p.Match/\p.Match<=900000)/\0<=p.Sent/\p.Sent<=20000
structure NW (n m:Node):Prop where
 id:m.Id=n.Id
 conf:m.Conf=n.Conf
 st:m.Log.Start=n.Log.Start/\m.Log.StartTerm=n.Log.StartTerm
 len:m.Log.Entries.length<=121
 dat:∀e∈m.Log.Entries,e.Data.size<=120/\0<=e.Term/\e.Term<=m.Term
 term:n.Term<=m.Term/\m.Term<=100000
 com:n.Commit<=m.Commit/\m.Commit<=m.Log.Start+m.Log.Entries.length
 peers:m.Peers.length<=4/\∀p∈m.Peers,PW p
 votes:m.Votes.length<=5
structure NR (n:Node):Prop where
 id:1<=n.Id/\n.Id<=4
 conf:CW n.Conf
 s:0<=n.Log.Start/\n.Log.Start<=100000
 st:0<=n.Log.StartTerm/\n.Log.StartTerm<=n.Term
 com:n.Log.Start<=n.Commit
theorem NR.lw {n m:Node}(h:NR n)(w:NW n m):LW m.Log:=⟨by rw[w.st.1];exact h.s,by have:=w.len;omega,λe he=>(w.dat e he).1⟩
theorem NR.cw {n m:Node}(h:NR n)(w:NW n m):CW m.Conf:=by rw[w.conf];exact h.conf
def TW (m:Message):Prop:=(1<=m.To/\m.To<=4)/\(totMessage m<=10000+m.Data.size/\m.Data.size<=100000)/\(m.Kind=5->m.LogTerm<=m.Term/\0<=m.Commit)
def TL (k:Int)(t:List Message):Prop:=(t.length:Int)<=k/\∀m∈t,TW m
theorem TL.add {k:Int}{t:List Message}(h:TL k t){m:Message}(hm:TW m):TL (k+1) (t++[m]):=by
 refine⟨by have:=h.1;simp;omega,λx hx=> ?_⟩
 rcases List.mem_append.1 hx with hx|hx
 ·exact h.2 x hx
 ·rw[List.mem_singleton]at hx;exact hx▸hm
theorem tell_e (N:Nat)(r:Tl16Run)(m:Message)(h:r.told.length<=1000):s_l16Tell N r m=some ⟨r.n,r.told++[{ m with From:=r.n.Id,Term:=r.n.Term }]⟩:=by
 unfold s_l16Tell
 rw[cat_ok (by simp;omega)]
 rfl
theorem z0:(⟨#[]⟩:BA).size=0:=rfl
theorem tw0 {k f t T i:Int}{b:Bool}{l c:Int}(h:1<=t/\t<=4)(hk:k≠5):TW ⟨k,f,t,T,i,l,c,b,[],[],⟨#[]⟩,false⟩:=⟨h,⟨by unfold totMessage;simp[totL,z0],Nat.zero_le _⟩,λe=>absurd e hk⟩
theorem send_t (N:Nat)(hN:Big N){n:Node}(h:NR n){r:Tl16Run}(w:NW n r.n){k:Int}(hk:k<=1000)(ht:TL k r.told){p:Peer}(hp:PW p):Po (s_l16Send N r p) λq=>q.n=r.n/\TL (k+1) q.told:=by
 obtain⟨p1,p2,p3,p4⟩:=hp
 have hc:=(h.cw w).1
 have hlw:=h.lw w
 have hl:=w.len
 have hs:=hlw.s
 have htl:=ht.1
 unfold s_l16Send
 refine Po.i (λq=>Po.c (by simp;omega) ?_) λq=> ?_
 ·unfold s_l16Tell_i1
  rw[cat_ok (by simp;omega)]
  refine Po.r ⟨rfl,ht.add ⟨p1,⟨?_,Nat.zero_le _⟩,λ_=>⟨?_,p4.1⟩⟩⟩
  ·have:=sum0 (f:=λ_:Int=>0) (λ_=>rfl) r.n.Conf
   unfold totMessage
   simp[totL,z0]
   omega
  ·show r.n.Log.StartTerm<=r.n.Term
   have:=h.st
   have:=w.term
   have:=w.st
   omega
 ·rw[w64_id (n:=p.Next-1) (by omega) (by omega)]
  refine Po.b (lt_t N hlw _ (by omega)) λt _=>Po.j (λv=>v.length<=4/\∀e∈v,e.Data.size<=120) (λv hv=>Po.e (tell_e N _ _ (by omega)) (Po.r ⟨rfl,ht.add ⟨p1,⟨?_,Nat.zero_le _⟩,λe=>absurd (show(3:Int)=5 from e) (by decide)⟩⟩)) λg hg=> ?_
  ·have:=sum_le (f:=totEntry) (B:=120) hv.2
   unfold totMessage
   simp[totL,z0]
   omega
  rw[w64_id (n:=p.Next-_) (by omega) (by omega),w64_id (by omega) (by omega)]
  refine Po.b (Po.l0 hN (λm i s=>s_l16Send_l1 N r m i s) r.n.Log.Entries.length (λi v=>v.length<=4/\∀e∈v,e.Data.size<=120) (by omega) (λm i s h0 hs k=> ?_) (by omega) (by simp)) hg
  rw[s_l16Send_l1]
  refine Po.i (λq=>Po.i (λq2=>Po.a h0 q λe he=>Po.c (by simp;omega) (k q _ ⟨by simp;omega,λx hx=> ?_⟩)) λ_=>Po.r hs) λ_=>Po.r hs
  rcases List.mem_append.1 hx with hx|hx
  ·exact hs.2 x hx
  ·rw[List.mem_singleton]at hx;exact hx▸(w.dat e he).1
theorem sends_t (N:Nat)(hN:Big N){n:Node}(h:NR n){r:Tl16Run}(w:NW n r.n){k:Int}(hk:k<=900)(ht:TL k r.told):Po (s_l16SendAll_i1 N r) λq=>q.n=r.n/\TL (k+4) q.told:=by
 have hl:=w.peers
 unfold s_l16SendAll_i1
 refine Po.b (P:=λv=>∃t,v=(r.n.Id,r.n.Term,r.n.Vote,r.n.Role,r.n.Lead,r.n.Log.Start,r.n.Log.StartTerm,r.n.Commit,r.n.Clock,r.n.Limit,t)/\TL (k+4) t) (Po.l0 hN (λm i t=>s_l16SendAll_i1_l1 N r m i r.n.Id r.n.Term r.n.Vote r.n.Role r.n.Lead r.n.Log.Start r.n.Log.StartTerm r.n.Commit r.n.Clock r.n.Limit t) r.n.Peers.length (λi t=>TL (k+i) t/\i<=r.n.Peers.length) (by omega) (λm i t h0 hs kk=> ?_) (by omega) ⟨by simpa using ht,by omega⟩) ?_
 ·rw[s_l16SendAll_i1_l1]
  refine Po.i (λq=>Po.a h0 q λp hp=>Po.b (send_t N hN h (r:=⟨r.n,t⟩) w (by omega) hs.1 (hl.2 p hp)) ?_) λq=>Po.r ⟨t,rfl,⟨by have:=hs.1.1;omega,hs.1.2⟩⟩
  rintro⟨y,t'⟩ ⟨rfl,h2⟩
  exact kk q _ ⟨by rw[<-Int.add_assoc];exact h2,by omega⟩
 ·rintro _ ⟨t,rfl,h2⟩
  exact Po.r ⟨rfl,h2⟩
theorem sa_l1:s_l16SendAll_l1=s_l16SendAll_i1_l1:=by
 funext N x m
 induction m with
 |zero=>rfl
 |succ m ih=>funext a b c d e f g h i j k l;rw[s_l16SendAll_l1,s_l16SendAll_i1_l1];simp only[ih]
theorem sa_eq (N:Nat)(n:Node):s_l16SendAll N ⟨n,[]⟩=s_l16SendAll_i1 N ⟨n,[]⟩:=by
 unfold s_l16SendAll s_l16SendAll_i1
 rw[sa_l1]
theorem commit_t (N:Nat)(hN:Big N){n:Node}(h:NR n){r:Tl16Run}(w:NW n r.n):Po (s_l16Commit N r) λq=>NW n q.n/\q.told=r.told:=by
 have hlw:=h.lw w
 have hl:=w.len
 have hs:=hlw.s
 have hp:=w.peers
 have hcm:=w.com
 have hlo:=h.com
 have hst:=w.st
 unfold s_l16Commit
 refine Po.b (cof_t N hN _ (h.cw w) hlw) λc hc=>Po.e (last_e N hlw) (Po.j (λv=>r.n.Commit<=v/\v<=r.n.Log.Start+r.n.Log.Entries.length) (λv hv=> ?_) λg hg=>Po.b ?_ hg)
 ·have w2:∀ro le vo ps,vo.length<=5->(ps.length<=4/\∀p∈ps,PW p)->NW n ⟨r.n.Id,r.n.Term,r.n.Vote,ro,le,r.n.Conf,r.n.Log,v,r.n.Clock,r.n.Limit,vo,ps⟩:=λro le vo ps a1 a2=>⟨w.id,w.conf,w.st,w.len,w.dat,w.term,⟨Int.le_trans hcm.1 hv.1,hv.2⟩,a2,a1⟩
  have w3:=w2 r.n.Role r.n.Lead _ _ w.votes w.peers
  refine Po.i (λ_=>Po.e (in_spec N hN c _ (by have:=hc.1;omega)) (Po.i (λ_=>Po.b (cix_t N hN _ hlw) λx _=>Po.i (λ_=>Po.e rfl (Po.r ⟨w2 _ _ _ _ (Nat.zero_le _) (by simp),rfl⟩)) λ_=>Po.r ⟨w3,rfl⟩) λ_=>Po.r ⟨w3,rfl⟩)) λ_=>Po.r ⟨w3,rfl⟩
 ·have key:∀(m:Nat)(i v:Int),0<m->i-v<m->i<=r.n.Log.Start+r.n.Log.Entries.length->r.n.Commit<=v->v<=r.n.Log.Start+r.n.Log.Entries.length->Po (s_l16Commit_l1 N r c m i v) λv=>r.n.Commit<=v/\v<=r.n.Log.Start+r.n.Log.Entries.length:=by
   intro m
   induction m with
   |zero=>intro i v a0;omega
   |succ m ih=>
    intro i v _ a1 a2 a3 a4
    rw[s_l16Commit_l1]
    refine Po.i (λq=> ?_) λ_=>Po.r ⟨a3,a4⟩
    rw[w64_id (n:=i-1) (by omega) (by omega)]
    refine Po.j (λx=>v<=x/\x<=r.n.Log.Start+r.n.Log.Entries.length/\(x=v\/x=i)) (λx hx=> ?_) λg hg=>Po.j (λl=>l.length<=10) (λl hl=>Po.b (lt_t N hlw i (by omega)) λt _=>Po.i (λ_=>Po.b (most_t N hN c l hc (by omega)) λb _=>Po.i (λ_=>hg _ ⟨by omega,a2,.inr rfl⟩) λ_=>hg _ ⟨by omega,a4,.inl rfl⟩) λ_=>hg _ ⟨by omega,a4,.inl rfl⟩) λg hg=>Po.b (Po.l0 hN (λm k s=>s_l16Commit_l2 N r i m k s) r.n.Peers.length (λk s=>(s.length:Int)<=k+1/\k<=r.n.Peers.length) (by omega) (λm k s h0 hs kk=> ?_) (by omega) (by simp)) hg
    ·rcases Nat.eq_zero_or_pos m with rfl|hm
     ·omega
     ·exact ih _ _ hm (by omega) (by omega) (by omega) hx.2.1
    ·rw[s_l16Commit_l2]
     exact Po.i (λq=>Po.j (λv=>(v.length:Int)<=k+2) (λv hv=>kk q v ⟨by omega,by omega⟩) λg hg=>Po.a h0 q λp hp=>Po.i (λ_=>Po.a h0 q λp2 _=>Po.c (by simp;omega) (hg _ (by simp;omega))) λ_=>hg _ (by omega)) λ_=>Po.r (by omega)
  exact key N _ _ (by have:=hN;unfold Big at this;omega) (by have:=hN;unfold Big at this;omega) (by omega) (by omega) (by omega)
theorem room_t (N:Nat){n:Node}(h:LW n.Log):Po (s_l16Room N n) λb=>b=true->n.Log.Entries.length<120:=by
 unfold s_l16Room
 exact Po.i (λq=>Po.e (last_e N h) (Po.r λ_=>by omega)) λ_=>Po.r (by simp)
theorem NW.put {n m:Node}(w:NW n m)(hr:NR n)(ro le:Int){vo:List Int}{ps:List Peer}(h1:vo.length<=5)(h2:ps.length<=4/\∀p∈ps,PW p):NW n ⟨m.Id,m.Term,m.Vote,ro,le,m.Conf,m.Log,m.Commit,m.Clock,m.Limit,vo,ps⟩:=⟨w.1,w.2,w.3,w.4,w.5,w.6,w.7,h2,h1⟩
theorem NW.add {n m:Node}(w:NW n m)(hr:NR n)(hl:m.Log.Entries.length<121){e:Entry}(h1:e.Data.size<=120)(h2:0<=e.Term/\e.Term<=m.Term)(ro le:Int){vo:List Int}{ps:List Peer}(h3:vo.length<=5)(h4:ps.length<=4/\∀p∈ps,PW p):NW n ⟨m.Id,m.Term,m.Vote,ro,le,m.Conf,⟨m.Log.Start,m.Log.StartTerm,m.Log.Entries++[e]⟩,m.Commit,m.Clock,m.Limit,vo,ps⟩:=by
 refine⟨w.1,w.2,w.3,?_,λx hx=> ?_,w.6,⟨w.7.1,?_⟩,h4,h3⟩
 ·simp;omega
 ·rcases List.mem_append.1 hx with hx|hx
  ·exact w.5 x hx
  ·rw[List.mem_singleton]at hx;subst hx;exact⟨h1,h2⟩
 ·have:=w.7.2;simp;omega
theorem lead_t (N:Nat)(hN:Big N){n:Node}(h:NR n){r:Tl16Run}(w:NW n r.n){k:Int}(hk:k<=900)(ht:TL k r.told):Po (s_l16Lead N r) λq=>NW n q.n/\TL (k+4) q.told:=by
 have hlw:=h.lw w
 have hl:=w.len
 have hs:=hlw.s
 have hp:=w.peers
 have htm:=w.term
 have hst:=h.st
 unfold s_l16Lead
 refine Po.e (last_e N hlw) (Po.j (λv=>∀ps:List Peer,(ps.length<=4/\∀p∈ps,PW p)->NW n ⟨r.n.Id,r.n.Term,r.n.Vote,2,r.n.Id,r.n.Conf,⟨r.n.Log.Start,r.n.Log.StartTerm,v⟩,r.n.Commit,r.n.Clock,r.n.Limit,[],ps⟩) (λv hv=> ?_) λg hg=>Po.b (room_t N hlw) λb hb=>Po.i (λc=>Po.c (by simp;omega) (hg _ λps hps=>w.add h (by have:r.n.Log.Entries.length<120:=hb c;omega) (Nat.zero_le _) ⟨by show 0<=r.n.Term;omega,Int.le_refl _⟩ _ _ (Nat.zero_le _) hps)) λ_=>hg _ λps hps=>w.put h _ _ (Nat.zero_le _) hps)
 have w2:=hv _ w.peers
 refine Po.b (cof_t N hN _ (h.cw w2) (h.lw w2)) λc hc=>Po.b (oth_t N hN c _ hc) λo ho=>Po.j (λv=>v.length<=4/\∀p∈v,PW p) (λps hps=>Po.b (commit_t N hN h (hv ps hps)) λq hq=>Po.b (sends_t N hN h hq.1 hk (by rw[hq.2];exact ht)) λz hz=>Po.r ⟨by rw[hz.1];exact hq.1,hz.2⟩) λg hg=>Po.b (Po.l0 hN (λm i s=>s_l16Lead_l1 N _ o m i s) o.length (λi s=>(s.length:Int)<=i/\i<=o.length/\∀p∈s,PW p) (by have:=ho.1;omega) (λm i s h0 hs k=> ?_) (by omega) (by simp)) hg
 have:=ho.1
 rw[s_l16Lead_l1]
 refine Po.i (λq=>Po.a h0 q λx hx=>Po.c (by simp;omega) (k q _ ⟨by simp;omega,by omega,λp hp=> ?_⟩)) λ_=>Po.r ⟨by omega,hs.2.2⟩
 rcases List.mem_append.1 hp with hp|hp
 ·exact hs.2.2 p hp
 ·rw[List.mem_singleton]at hp
  subst hp
  refine⟨ho.2 x hx,?_,⟨by show-1000000<=(0:Int);omega,by show(0:Int)<=900000;omega⟩,⟨Int.le_refl 0,by show(0:Int)<=20000;omega⟩⟩
  show-1000000<=w64 _/\w64 _<=1000000
  rw[w64_id (by omega) (by omega)]
  omega
theorem ll_t (N:Nat){l:Log}(h:LW l):Po (s_LogLast N l) λ_=>True:=by
 have:=h.n
 unfold s_LogLast
 refine Po.i (λ_=>Po.r trivial) λq=> ?_
 rw[w64_id (by omega) (by omega)]
 exact Po.a (by omega) (by omega) λe _=>Po.r trivial
theorem el_t (N:Nat)(hN:Big N){n:Node}(h:NR n){r:Tl16Run}(w:NW n r.n):Po (s_l16Elected N r) λq=>q.2=⟨r.n,[]⟩:=Po.b (cof_t N hN _ (h.cw w) (h.lw w)) λc hc=>Po.b (most_t N hN c _ hc (by have:=w.votes;omega)) λb _=>Po.r rfl
theorem el1_t (N:Nat)(hN:Big N){n:Node}(h:NR n){r:Tl16Run}(w:NW n r.n):Po (s_l16Elected_i1 N r) λ_=>True:=Po.b (cof_t N hN _ (h.cw w) (h.lw w)) λc hc=>Po.b (most_t N hN c _ hc (by have:=w.votes;omega)) λb _=>Po.r trivial
theorem terms_le:∀{es:List Entry}{t:Int},termsOk t es=true->0<=t->∀z,es.getLast?=some z->t<=z.Term/\∀e∈es,e.Data.size<=120/\0<=e.Term/\e.Term<=z.Term
 |e::es,t,h,h0,z,hz=>by
  rw[termsOk_cons]at h
  simp only[Bool.and_eq_true,DT]at h
  have he:=ent_small h.1
  cases es with
  |nil=>
   simp only[List.getLast?_singleton,Option.some.injEq]at hz
   subst hz
   exact⟨h.2.1,λx hx=>by rw[List.mem_singleton]at hx;subst hx;exact⟨he,by omega,Int.le_refl _⟩⟩
  |cons f es=>
   rw[List.getLast?_cons_cons]at hz
   have ih:=terms_le h.2.2 (by omega) z hz
   refine⟨by omega,λx hx=> ?_⟩
   rcases List.mem_cons.1 hx with rfl|hx
   ·exact⟨he,by omega,ih.1⟩
   ·exact ih.2 x hx
end Go.Proofs.YtmcbbifeekhmgaaGreatDoor.Pe.FnBoots
