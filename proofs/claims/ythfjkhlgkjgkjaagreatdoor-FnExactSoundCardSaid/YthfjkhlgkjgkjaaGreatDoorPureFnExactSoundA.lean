import Derived.Test.YthfjkhlgkjgkjaaGreatDoorPeHFnExactSound
import Derived.KernelRfl
import Derived.Lib.ItoaNum
import Derived.Lib.ItoaLen
import Derived.Lib.AtoiAll
import Derived.Lib.AtoiTie
namespace Go.Proofs.YthfjkhlgkjgkjaaGreatDoor.Pe.FnExactSound
open Go Go.RowKit
set_option linter.unusedVariables false
set_option linter.unusedSimpArgs false
set_option maxHeartbeats 4000000
theorem bO {α β:Type}(a:α)(f:α→Option β):(some a).bind f=f a:=rfl
theorem wi {n:Int}(h:WI .i64 n): -9223372036854775808≤n∧n≤9223372036854775807:=by
 have:=h
 simp only[WI,Lit.wf,beq_iff_eq,DT,Bool.and_eq_true]at this
 exact this
theorem in_eq (N:Nat)(x a b:Int):s_l01In N x a b=some (decide (a≤x∧x≤b)):=by
 unfold s_l01In
 by_cases h:a≤x<;>simp[h]
theorem within_eq (N:Nat)(x a b:Int):i_within N x a b=some (decide (a≤x∧x≤b)):=by
 unfold i_within
 by_cases h:a≤x<;>simp[h]
def rise (lo hi:Int):Option Int→List Int→Bool
 |_,[]=>true
 |p,x::xs=>decide (lo≤x∧x≤hi)&&((match p with|some q=>decide (q<x)|none=>true)&&rise lo hi (some x) xs)
theorem rise_cons (lo hi:Int)(p:Option Int)(x:Int)(xs:List Int):rise lo hi p (x::xs)=(decide (lo≤x∧x≤hi)&&((match p with|some q=>decide (q<x)|none=>true)&&rise lo hi (some x) xs)):=by
 cases p<;>rfl
def confOk (c:List Int):Bool:=decide (c.length≤4)&&(decide (1≤c.length)&&rise 1 4 none c)
def prev (c:List Int)(k:Nat):Option Int:=if k=0 then none else c[k-1]?
theorem prev_succ {c:List Int}{k:Nat}(h:k<c.length):prev c (k+1)=some c[k]:=by
 simp[prev,h]
theorem rise_drop {c:List Int}{k:Nat}{lo hi:Int}(h:k<c.length):rise lo hi (prev c k) (c.drop k)=(decide (lo≤c[k]∧c[k]≤hi)&&((if k=0 then true else decide (c[k-1]'(by omega)<c[k]))&&rise lo hi (prev c (k+1)) (c.drop (k+1)))):=by
 rw[DG h,rise_cons,prev_succ h]
 by_cases h0:k=0
 ·simp[prev,h0]
 ·simp only[prev,h0,if_false]
  rw[List.getElem?_eq_getElem (by omega)]
theorem at_pred {c:List Int}{k:Nat}(h:k<c.length)(h0:k≠0)(hc:c.length≤1099511627776):at? c (w64 ((k:Int)-1))=some (c[k-1]'(by omega)):=by
 rw[w64_id (by omega) (by omega),show(k:Int)-1=((k-1:Nat):Int) by omega,at_lt]
theorem rise_r (N:Nat)(c:List Int)(lo hi:Int)(hc:c.length≤1099511627776):∀(d k:Nat),c.length=k+d→s_l07Rise_l1_r N c lo hi (c.drop k) (k:Int)=some (if rise lo hi (prev c k) (c.drop k)then .inr ()else .inl false)
 |0,k,h=>by rw[DN (by omega),s_l07Rise_l1_r];rfl
 |d+1,k,h=>by
  have hk:k<c.length:=by omega
  rw[rise_drop hk,DG hk,s_l07Rise_l1_r]
  simp only[joinP,bO,in_eq,WS (k:=k) (by omega),rise_r N c lo hi hc d (k+1) (by omega)]
  by_cases h1:lo≤c[k]∧c[k]≤hi
  ·by_cases h0:k=0
   ·subst h0
    simp[h1]
   ·rw[at_pred hk h0 hc]
    have:(0:Int)<k:=by omega
    by_cases h2:c[k-1]<c[k]
    ·have h3:¬c[k]≤c[k-1]:=by omega
     simp[h1,h0,h2,h3]
    ·have h3:c[k]≤c[k-1]:=by omega
     simp[h1,h0,h2,h3]
  ·simp[h1]
theorem rise_eq (N:Nat)(hN:Big N)(c:List Int)(lo hi:Int)(hc:c.length≤1099511627776):s_l07Rise N c lo hi=some (rise lo hi none c):=by
 unfold s_l07Rise
 simp only[joinP]
 rw[s_l07Rise_l1_eq c lo hi (by omega) (by omega),show(0:Int)=((0:Nat):Int)from rfl]
 have:=rise_r N c lo hi hc c.length 0 (by omega)
 rw[List.drop_zero]at this
 rw[this]
 simp only[prev,if_true]
 cases rise lo hi none c<;>rfl
theorem confOk_spec (N:Nat)(hN:Big N)(c:List Int)(hc:c.length≤1099511627776):s_ConfOk N c=some (confOk c):=by
 unfold s_ConfOk confOk
 simp only[in_eq,bO,rise_eq N hN c 1 4 hc]
 by_cases h1:c.length≤4
 ·by_cases h2:1≤c.length
  ·have h3:(1:Int)≤c.length∧(c.length:Int)≤4:=by omega
   simp[h1,h2,h3]
  ·have h3:¬((1:Int)≤c.length∧(c.length:Int)≤4):=by omega
   simp only[h3,if_false,h2,decide_false,Bool.false_and,Bool.and_false,BF]
 ·have h3:¬((1:Int)≤c.length∧(c.length:Int)≤4):=by omega
  simp only[h3,if_false,h1,decide_false,Bool.false_and,Bool.and_false,BF]
theorem conf_r (N:Nat)(c:List Int)(hc:c.length≤1099511627776):∀(d k:Nat),c.length=k+d→i_ConfOk_l1_r N c (c.drop k) (k:Int)=some (if rise 1 4 (prev c k) (c.drop k)then .inr ()else .inl false)
 |0,k,h=>by rw[DN (by omega),i_ConfOk_l1_r];rfl
 |d+1,k,h=>by
  have hk:k<c.length:=by omega
  rw[rise_drop hk,DG hk,i_ConfOk_l1_r]
  simp only[joinP,bO,within_eq,WS (k:=k) (by omega),conf_r N c hc d (k+1) (by omega)]
  by_cases h1:(1:Int)≤c[k]∧c[k]≤4
  ·by_cases h0:k=0
   ·subst h0
    simp[h1]
   ·rw[at_pred hk h0 hc]
    have:(0:Int)<k:=by omega
    by_cases h2:c[k-1]<c[k]
    ·have h3:¬c[k]≤c[k-1]:=by omega
     simp[h1,h0,h2,h3]
    ·have h3:c[k]≤c[k-1]:=by omega
     simp[h1,h0,h2,h3]
  ·simp[h1]
theorem confOk_impl (N:Nat)(hN:Big N)(c:List Int)(hc:c.length≤1099511627776):i_ConfOk N c=some (confOk c):=by
 unfold i_ConfOk confOk
 simp only[joinP]
 rw[i_ConfOk_l1_eq c (by omega) (by omega),show(0:Int)=((0:Nat):Int)from rfl]
 have:=conf_r N c hc c.length 0 (by omega)
 rw[List.drop_zero]at this
 rw[this]
 simp only[prev,if_true,within_eq]
 cases rise 1 4 none c with
 |false=>simp
 |true=>
  simp only[if_true,bO,Sum.elim_inr,Bool.and_true,Option.some.injEq]
  rw[←Bool.decide_and]
  simp only[decide_eq_decide]
  omega
theorem confOk_len {c:List Int}(h:confOk c=true):1≤c.length∧c.length≤4:=by
 unfold confOk at h
 simp only[Bool.and_eq_true,DT]at h
 exact⟨h.2.1,h.1⟩
theorem emp_size {t:BA}(h:t=(⟨#[]⟩:BA)):t.size=0:=by subst h;rfl
def cmdOk (x:Command):Bool:=decide ((1≤x.Op∧x.Op≤5)∧(0≤x.Session∧x.Session≤100000)∧(0≤x.Seq∧x.Seq≤100000)∧(x.Value.size≤12∧x.Old.size≤12)∧
  (if x.Op=1 then x.Session=0∧x.Seq=0∧x.Key=(⟨#[]⟩:BA)∧x.Value=(⟨#[]⟩:BA)∧x.Old=(⟨#[]⟩:BA)
   else(1≤x.Key.size∧x.Key.size≤9)∧(x.Op=2∨x.Op=4→x.Value=(⟨#[]⟩:BA))∧(x.Op=2∨x.Op=3∨x.Op=4→x.Old=(⟨#[]⟩:BA))))
theorem iff_b {b:Bool}{p:Prop}[Decidable p](h:b=true↔p):b=decide p:=by
 cases b with
 |true=>exact(DE (h.1 rfl)).symm
 |false=>exact(DF (fun hp=>by cases h.2 hp)).symm
theorem cmdOk_spec (N:Nat)(x:Command):s_CommandOk N x=some (cmdOk x):=by
 unfold s_CommandOk cmdOk
 simp only[in_eq,bO]
 repeat' split
 all_goals (refine congrArg some (iff_b ?_))
 all_goals simp only[Bool.not_eq_true',decide_eq_false_iff_not,DT,beq_iff_eq,Bool.and_eq_true,Bool.bne_false,Bool.xor_false,BF,false_iff,true_iff,Bool.and_true]at*
 all_goals grind
theorem cmdOk_impl (N:Nat)(x:Command):i_CommandOk N x=some (cmdOk x):=by
 unfold i_CommandOk cmdOk
 simp only[within_eq,bO,joinP]
 have e0:= @emp_size
 repeat' split
 all_goals (refine congrArg some (iff_b ?_))
 all_goals simp only[Bool.not_eq_true',decide_eq_false_iff_not,DT,beq_iff_eq,Bool.and_eq_true,Bool.bne_false,Bool.xor_false,BF,false_iff,true_iff,Bool.and_true]at*
 all_goals grind
def dd (u:Nat):List UInt8:=if u=0 then[]else Lib.decDigits u
theorem dd_step {u:Nat}(h:u≠0):dd u=dd (u/10)++[UInt8.ofNat (48+u%10)]:=by
 unfold dd
 rw[IQ h,Lib.decDigits]
 by_cases h1:u<10
 ·rw[dif_pos h1,IP (by omega),Nat.mod_eq_of_lt h1,List.nil_append]
 ·rw[dif_neg h1,IQ (by omega)]
theorem bytesRows_one (n:Int):strOf [n]=⟨#[UInt8.ofNat n.toNat]⟩:=rfl
theorem ba_cat (a b:List UInt8):(⟨a.toArray⟩:BA)++⟨b.toArray⟩=⟨(a++b).toArray⟩:=by
 apply ByteArray.ext
 simp
theorem fig_ok (N d:Nat)(h:d<10):s_l01Figure N (d:Int)=some ((48+d:Nat):Int):=by
 unfold s_l01Figure
 rw[IP (by simp;omega),w64_id (by omega) (by omega),IntKind.wrap_u8]
 congr 1
 omega
theorem dec_loop (N:Nat):∀(k m:Nat)(n:Int)(acc:List UInt8),n.natAbs<10 ^ k→k≤m→ -9223372036854775808≤n→n≤9223372036854775807→acc.length+k≤1000→s_Decimal_l1 N (m+1) n ⟨acc.toArray⟩=some ⟨(dd n.natAbs++acc).toArray⟩
 |k,m,n,acc,hm,hk,h0,h1,ha=>by
  rw[s_Decimal_l1]
  by_cases hz:n=0
  ·subst hz
   rw[IQ (by simp)]
   rfl
  rw[IP (by simpa using hz)]
  obtain⟨k,rfl⟩:∃q,k=q+1:=by
   cases k with
   |zero=>exact absurd hm (by simp;omega)
   |succ q=>exact⟨q,rfl⟩
  obtain⟨m,rfl⟩:∃q,m=q+1:=⟨m-1,by omega⟩
  obtain⟨d,hd⟩:∃d,d=n.natAbs%10:=⟨_,rfl⟩
  have hd10:d<10:=by omega
  have ht:n.tmod 10=if n<0 then-(d:Int)else d:=by
   rcases Int.natAbs_eq n with e|e
   ·rw[IQ (by omega),e,Int.tmod_eq_emod_of_nonneg (by omega)]
    omega
   ·rw[e,Int.neg_tmod,Int.tmod_eq_emod_of_nonneg (by omega)]
    by_cases hn: -(n.natAbs:Int)<0
    ·rw[IP hn];omega
    ·omega
  have hq:(n.tdiv 10).natAbs=n.natAbs/10∧ -9223372036854775808≤n.tdiv 10∧n.tdiv 10≤9223372036854775807:=by
   rcases Int.natAbs_eq n with e|e
   ·rw[e,Int.tdiv_eq_ediv_of_nonneg (by omega)]
    omega
   ·rw[e,Int.neg_tdiv,Int.tdiv_eq_ediv_of_nonneg (by omega)]
    omega
  simp only[intD]
  rw[IQ (by decide),IQ (by decide)]
  simp only[bO,joinP]
  have hw:IntKind.i64.wrap (n.tdiv 10)=n.tdiv 10:=w64_id (by omega) (by omega)
  have hwt:(if(decide (n.tmod 10<0))=true then w64 (-(n.tmod 10))else n.tmod 10)=(d:Int):=by
   rw[ht]
   by_cases hn:n<0
   ·rw[IP hn]
    by_cases h0': -(d:Int)<0
    ·rw[IP (by simpa using h0'),w64_id (by omega) (by omega)]
     omega
    ·rw[IQ (by simpa using h0')]
     omega
   ·rw[IQ hn,IQ (by simp)]
  have ih:=dec_loop N k m (n.tdiv 10) (UInt8.ofNat (48+d)::acc) (by rw[hq.1];rw[Nat.pow_succ]at hm;omega) (by omega) hq.2.1 hq.2.2 (by simp only[LC];omega)
  rw[hq.1]at ih
  have key:∀v:Int,v=(d:Int)→(s_l01Figure N v).bind (fun y=>(scat? (strOf ([y]:List Int)) ⟨acc.toArray⟩).bind fun x=>some (IntKind.i64.wrap (n.tdiv 10))|>.bind fun z=>s_Decimal_l1 N (m+1) z x)=some ⟨(dd n.natAbs++acc).toArray⟩:=by
   intro v hv
   subst hv
   rw[fig_ok N d hd10,bO,bytesRows_one,Int.toNat_natCast,scat_ok (by simp only[ByteArray.size,List.size_toArray];show 1+acc.length≤_;omega),bO,bO,hw]
   have e1:(⟨#[UInt8.ofNat (48+d)]⟩:BA)++⟨acc.toArray⟩=⟨(UInt8.ofNat (48+d)::acc).toArray⟩:=ba_cat [_] acc
   rw[e1,ih,dd_step (u:=n.natAbs) (by omega),←hd]
   simp
  by_cases hn:n.tmod 10<0
  ·rw[IP (by simpa using hn)]at hwt⊢
   exact key _ hwt
  ·rw[IQ (by simpa using hn)]at hwt⊢
   exact key _ hwt
theorem dec_spec (N:Nat)(hN:Big N)(n:Int)(h0: -9223372036854775808≤n)(h1:n≤9223372036854775807):s_Decimal N n=some ⟨(Lib.itoa n).toArray⟩:=by
 unfold s_Decimal
 by_cases hz:n=0
 ·subst hz
  rw[IP (by simp)]
  simp[Lib.itoa,Lib.decDigits]
 rw[IQ (by simpa using hz)]
 simp only[joinP]
 obtain⟨q,hq⟩:∃q,N=q+1:=⟨N-1,by unfold Big at hN;omega⟩
 have hl:=dec_loop N 20 q n [] (by omega) (by unfold Big at hN;omega) h0 h1 (by simp)
 rw[←hq]at hl
 have e0:(⟨([]:List UInt8).toArray⟩:BA)=⟨#[]⟩:=rfl
 rw[e0]at hl
 have hd:dd n.natAbs=Lib.decDigits n.natAbs:=by unfold dd;rw[IQ (by omega)]
 rw[hl,bO,hd,List.append_nil]
 unfold Lib.itoa
 by_cases hn:n<0
 ·rw[IP (by simpa using hn),IP hn]
  have hlen:=Lib.decDigits_length n.natAbs
  have hlen2:=Lib.itoa_length_le n h0 h1
  unfold Lib.itoa at hlen2
  rw[IP hn,LC]at hlen2
  rw[scat_ok (by simp only[ByteArray.size,List.size_toArray];show 1+_≤_;omega),bO]
  exact congrArg some (ba_cat [45] _)
 ·rw[IQ (by simpa using hn),IQ hn]
  rw[show n.toNat=n.natAbs by omega]
def blt (a b:BA):Bool:=Op.bytesLess a.toList b.toList
theorem bl_irrefl:∀l:List UInt8,Op.bytesLess l l=false
 |[]=>rfl
 |a::l=>by
  have:=bl_irrefl l
  simp[Op.bytesLess,this]
theorem bl_trans:∀x y z:List UInt8,Op.bytesLess x y=true→Op.bytesLess y z=true→Op.bytesLess x z=true
 |x,y,[],h1,h2=>by cases y<;>simp[Op.bytesLess]at h2
 |x,[],c::z,h1,h2=>by cases x<;>simp[Op.bytesLess]at h1
 |[],b::y,c::z,h1,h2=>rfl
 |a::x,b::y,c::z,h1,h2=>by
  have ih:=bl_trans x y z
  simp only[Op.bytesLess,Bool.or_eq_true,DT,Bool.and_eq_true,beq_iff_eq]at h1 h2⊢
  rcases h1 with h1|⟨rfl,h1⟩
  ·rcases h2 with h2|⟨rfl,h2⟩
   ·exact .inl (UInt8.lt_trans h1 h2)
   ·exact .inl h1
  ·rcases h2 with h2|⟨rfl,h2⟩
   ·exact .inl h2
   ·exact .inr ⟨rfl,ih h1 h2⟩
theorem bl_tri:∀x y:List UInt8,Op.bytesLess x y=true∨x=y∨Op.bytesLess y x=true
 |[],[]=>.inr (.inl rfl)
 |[],_::_=>.inl rfl
 |_::_,[]=>.inr (.inr rfl)
 |a::x,b::y=>by
  have ih:=bl_tri x y
  simp only[Op.bytesLess,Bool.or_eq_true,DT,Bool.and_eq_true,beq_iff_eq,List.cons.injEq]
  by_cases h:a<b
  ·exact .inl (.inl h)
  ·by_cases h2:b<a
   ·exact .inr (.inr (.inl h2))
   ·have:a=b:=by
     apply UInt8.toNat_inj.1
     rw[UInt8.lt_iff_toNat_lt]at h h2
     omega
    subst this
    rcases ih with ih|rfl|ih
    ·exact .inl (.inr ⟨rfl,ih⟩)
    ·exact .inr (.inl ⟨rfl,rfl⟩)
    ·exact .inr (.inr (.inr ⟨rfl,ih⟩))
theorem ba_ext {a b:BA}(h:a.toList=b.toList):a=b:=by
 rw[ByteArray.toList_eq,ByteArray.toList_eq]at h
 exact ByteArray.ext (Array.toList_inj.1 h)
theorem blt_irrefl (a:BA):blt a a=false:=bl_irrefl _
theorem blt_trans {a b c:BA}(h1:blt a b=true)(h2:blt b c=true):blt a c=true:=bl_trans _ _ _ h1 h2
theorem blt_tri (a b:BA):blt a b=true∨a=b∨blt b a=true:=by
 rcases bl_tri a.toList b.toList with h|h|h
 ·exact .inl h
 ·exact .inr (.inl (ba_ext h))
 ·exact .inr (.inr h)
theorem blt_asymm {a b:BA}(h:blt a b=true):blt b a=false:=by
 cases h2:blt b a with
 |false=>rfl
 |true=>have:=blt_trans h h2;rw[blt_irrefl]at this;cases this
theorem blt_ne {a b:BA}(h:blt a b=true):a≠b:=by
 rintro rfl
 rw[blt_irrefl]at h
 cases h
theorem cmp_val:∀x y:List UInt8,Lib.compareBytes x y=if Op.bytesLess x y=true then-1 else if x=y then 0 else 1
 |[],[]=>rfl
 |[],_::_=>rfl
 |_::_,[]=>rfl
 |a::x,b::y=>by
  have ih:=cmp_val x y
  simp only[Lib.compareBytes,Op.bytesLess,Bool.or_eq_true,DT,Bool.and_eq_true,beq_iff_eq,List.cons.injEq]
  by_cases h:a<b
  ·simp[h]
  ·by_cases h2:b<a
   ·have:a≠b:=by rintro rfl;exact absurd h2 h
    simp[h,h2,this]
   ·have:a=b:=by
     apply UInt8.toNat_inj.1
     rw[UInt8.lt_iff_toNat_lt]at h h2
     omega
    subst this
    simp[ih]
theorem cmp_blt (a b:BA):Lib.compareBytes a.data.toList b.data.toList=if blt a b=true then-1 else if a=b then 0 else 1:=by
 rw[cmp_val]
 unfold blt
 rw[ByteArray.toList_eq,ByteArray.toList_eq]
 by_cases h:a=b
 ·subst h;simp
 ·have:a.data.toList≠b.data.toList:=fun e=>h (ByteArray.ext (Array.toList_inj.1 e))
  simp[h,this]
theorem dec_head (n:Nat):∃c r,Lib.decDigits n=c::r∧48≤c.toNat∧c.toNat≤57:=by
 induction n using Nat.strongRecOn with
 |_ n ih=>
  rw[Lib.decDigits]
  by_cases h:n<10
  ·rw[dif_pos h]
   refine⟨_,_,rfl,?_,?_⟩<;>(rw[UInt8.toNat_ofNat'];omega)
  ·rw[dif_neg h]
   obtain⟨c,r,e,h1,h2⟩:=ih (n/10) (by omega)
   exact⟨c,r++[_],by rw[e];rfl,h1,h2⟩
theorem pu_snoc:∀(l:List UInt8)(acc u:Nat)(c:UInt8),Lib.parseUint10 acc l=.ok u→48≤c.toNat→c.toNat≤57→u≤1000000000→Lib.parseUint10 acc (l++[c])=.ok (u*10+(c.toNat-48))
 |[],acc,u,c,h,h1,h2,h3=>by
  simp only[Lib.parseUint10]at h
  injection h with h
  subst h
  simp only[List.nil_append,Lib.parseUint10]
  rw[IP ⟨h1,h2⟩,IQ (by omega),IQ (by omega)]
 |d::l,acc,u,c,h,h1,h2,h3=>by
  simp only[List.cons_append,Lib.parseUint10]at h⊢
  split at h
  ·rename_i hd
   rw[IP hd]
   split at h
   ·cases h
   ·rename_i h4
    rw[IQ h4]
    split at h
    ·cases h
    ·rename_i h5
     rw[IQ h5]
     exact pu_snoc l _ u c h h1 h2 h3
  ·cases h
theorem pu_dec (n:Nat)(hn:n≤1000000000):Lib.parseUint10 0 (Lib.decDigits n)=.ok n:=by
 induction n using Nat.strongRecOn with
 |_ n ih=>
  rw[Lib.decDigits]
  by_cases h:n<10
  ·rw[dif_pos h]
   simp only[Lib.parseUint10]
   have:(UInt8.ofNat (48+n)).toNat=48+n:=by rw[UInt8.toNat_ofNat'];omega
   rw[this,IP (by omega),IQ (by omega),IQ (by omega)]
   congr 1
   omega
  ·rw[dif_neg h]
   have:(UInt8.ofNat (48+n%10)).toNat=48+n%10:=by rw[UInt8.toNat_ofNat'];omega
   rw[pu_snoc _ 0 (n/10) _ (ih (n/10) (by omega) (by omega)) (by omega) (by omega) (by omega),this]
   congr 1
   omega
theorem atoi_dec (n:Nat)(hn:n≤1000000000):Lib.atoiAll (Lib.decDigits n)=.ok (n:Int):=by
 obtain⟨c,r,e,h1,h2⟩:=dec_head n
 have hp:=pu_dec n hn
 rw[e]at hp⊢
 rw[Lib.atoiAll_plain c r (by omega) (by omega)]
 unfold Lib.parseMag
 rw[IQ (by simp),hp]
 unfold Lib.signless
 simp only
 rw[IQ (by omega)]
def rdN (t:BA):Option Nat:=match Lib.atoiAll t.data.toList with
 |.ok v=>if 0≤v∧v≤1000000000∧Lib.decDigits v.toNat=t.data.toList then some v.toNat else none
 |_=>none
theorem rdN_some {t:BA}{n:Nat}:rdN t=some n↔n≤1000000000∧t=⟨(Lib.decDigits n).toArray⟩:=by
 unfold rdN
 constructor
 ·intro h
  split at h
  ·split at h
   ·rename_i v _ hv
    cases h
    refine⟨by omega,?_⟩
    apply ByteArray.ext
    rw[hv.2.2]
   ·cases h
  ·cases h
 ·rintro⟨h1,rfl⟩
  show(match Lib.atoiAll (Lib.decDigits n).toArray.toList with|.ok v=>_|_=>_)=_
  rw[List.toList_toArray,atoi_dec n h1]
  simp only
  rw[IP ⟨by omega,by omega,by simp⟩]
  simp
def rdec (t:BA):Int×Bool:=match rdN t with
 |some n=>((n:Int),true)
 |none=>(0,false)
def Sorted:List Pair→Prop
 |[]=>True
 |p::m=>(∀q∈m,blt p.Key q.Key=true)∧Sorted m
structure Spl (m:List Pair) (k:BA) (A B:List Pair):Prop where
 eq:m=A++B
 lo:∀p∈A,blt p.Key k=true
 hi:∀p∈B,blt p.Key k=false
 up:∀p∈B.tail,blt k p.Key=true
def found (B:List Pair)(k:BA):Bool:=match B with
 |p::_=>decide (p.Key=k)
 |[]=>false
def restOf (B:List Pair)(k:BA):List Pair:=if found B k then B.tail else B
theorem spl_of {k:BA}:∀{m:List Pair},Sorted m→∃A B,Spl m k A B
 |[],_=>⟨[],[],rfl,by simp,by simp,by simp⟩
 |p::m,h=>by
  cases hp:blt p.Key k with
  |true=>
   obtain⟨A,B,e,h1,h2,h3⟩:=spl_of (k:=k) h.2
   exact⟨p::A,B,by rw[e];rfl,by
    intro q hq
    rcases List.mem_cons.1 hq with rfl|hq
    ·exact hp
    ·exact h1 q hq,h2,h3⟩
  |false=>
   have key:∀q∈m,blt k q.Key=true:=by
    intro q hq
    have h1:=h.1 q hq
    rcases blt_tri p.Key k with h2|rfl|h2
    ·rw[hp]at h2;cases h2
    ·exact h1
    ·exact blt_trans h2 h1
   refine⟨[],p::m,rfl,by simp,?_,by simpa using key⟩
   intro q hq
   rcases List.mem_cons.1 hq with rfl|hq
   ·exact hp
   ·exact blt_asymm (key q hq)
theorem found_head {m A B:List Pair}{k:BA}(h:Spl m k A B):found B k=false→∀p∈B,blt k p.Key=true:=by
 intro hf p hp
 cases B with
 |nil=>cases hp
 |cons q B=>
  rcases List.mem_cons.1 hp with rfl|hp
  ·have h1:=h.hi p (by simp)
   simp only[found,decide_eq_false_iff_not]at hf
   rcases blt_tri p.Key k with h2|h2|h2
   ·rw[h1]at h2;cases h2
   ·exact absurd h2 hf
   ·exact h2
  ·exact h.up p hp
theorem rest_hi {m A B:List Pair}{k:BA}(h:Spl m k A B):∀p∈restOf B k,blt k p.Key=true:=by
 intro p hp
 unfold restOf at hp
 cases hf:found B k with
 |true=>rw[hf,IP rfl]at hp;exact h.up p hp
 |false=>rw[hf,IQ (by decide)]at hp;exact found_head h hf p hp
theorem sorted_append:∀{a b:List Pair},Sorted (a++b)↔Sorted a∧Sorted b∧∀p∈a,∀q∈b,blt p.Key q.Key=true
 |[],b=>by simp[Sorted]
 |p::a,b=>by
  have ih:=sorted_append (a:=a) (b:=b)
  simp only[List.cons_append,Sorted,List.mem_append,List.mem_cons]
  rw[ih]
  constructor
  ·rintro⟨h1,h2,h3,h4⟩
   exact⟨⟨fun q hq=>h1 q (.inl hq),h2⟩,h3,fun x hx q hq=>by
    rcases hx with rfl|hx
    ·exact h1 q (.inr hq)
    ·exact h4 x hx q hq⟩
  ·rintro⟨⟨h1,h2⟩,h3,h4⟩
   exact⟨fun q hq=>by
    rcases hq with hq|hq
    ·exact h1 q hq
    ·exact h4 p (.inl rfl) q hq,h2,h3,fun x hx q hq=>h4 x (.inr hx) q hq⟩
theorem sorted_tail {B:List Pair}(h:Sorted B):Sorted B.tail:=by
 cases B with
 |nil=>trivial
 |cons p B=>exact h.2
theorem sorted_rest {m A B:List Pair}{k:BA}(hs:Sorted m)(h:Spl m k A B):Sorted A∧Sorted (restOf B k)∧∀p∈A,∀q∈restOf B k,blt p.Key q.Key=true:=by
 rw[h.eq]at hs
 obtain⟨h1,h2,h3⟩:=sorted_append.1 hs
 refine⟨h1,?_,?_⟩
 ·unfold restOf
  split
  ·exact sorted_tail h2
  ·exact h2
 ·intro p hp q hq
  refine h3 p hp q ?_
  unfold restOf at hq
  split at hq
  ·exact List.mem_of_mem_tail hq
  ·exact hq
def putM (A B:List Pair)(k v:BA):List Pair:=A++⟨k,v⟩::restOf B k
def cutM (A B:List Pair)(k:BA):List Pair:=A++restOf B k
theorem putM_sorted {m A B:List Pair}{k v:BA}(hs:Sorted m)(h:Spl m k A B):Sorted (putM A B k v):=by
 obtain⟨h1,h2,h3⟩:=sorted_rest hs h
 refine sorted_append.2 ⟨h1,⟨fun q hq=>rest_hi h q hq,h2⟩,?_⟩
 intro p hp q hq
 rcases List.mem_cons.1 hq with rfl|hq
 ·exact h.lo p hp
 ·exact h3 p hp q hq
theorem cutM_sorted {m A B:List Pair}{k:BA}(hs:Sorted m)(h:Spl m k A B):Sorted (cutM A B k):=by
 obtain⟨h1,h2,h3⟩:=sorted_rest hs h
 exact sorted_append.2 ⟨h1,h2,h3⟩
theorem rest_len (B:List Pair)(k:BA):(restOf B k).length≤B.length:=by
 unfold restOf
 split
 ·simp
 ·exact Nat.le_refl _
theorem bs_loop (N:Nat)(m:List Pair)(k:BA)(c:Nat)(hc:∀q (hq:q<m.length),(blt (m[q]'hq).Key k=true↔q<c))(hl:m.length≤1099511627776):
  ∀(f i j:Nat),i≤c→c≤j→j≤m.length→j-i<f→L_BF_string_i2_l1 N m k f (i:Int) (j:Int)=some (c:Int)
 |0,i,j,h1,h2,h3,h4=>by omega
 |f+1,i,j,h1,h2,h3,h4=>by
  rw[L_BF_string_i2_l1]
  by_cases hij:i<j
  ·have hlt:(i+j)/2<m.length:=by omega
   have e1:w64 ((i:Int)+(j:Int))=((i+j:Nat):Int):=w64_id (by omega) (by omega)
   have e2:IntKind.wrap .u64 ((i+j:Nat):Int)=((i+j:Nat):Int):=by rw[IntKind.wrap_u64];omega
   have hsh:intSh .shr .u64 (IntKind.wrap .u64 (w64 ((i:Int)+(j:Int)))) 1=some (((i+j)/2:Nat):Int):=by
    rw[e1,e2]
    have e5:min 1 IntKind.u64.bits=1:=rfl
    simp only[intSh,e5]
    rw[IQ (by decide)]
    congr 1
    show Int.fdiv _ 2=_
    rw[Int.fdiv_eq_ediv_of_nonneg _ (by decide)]
    omega
   have e3:w64 (((i+j)/2:Nat):Int)=(((i+j)/2:Nat):Int):=w64_id (by omega) (by omega)
   have e4:w64 ((((i+j)/2:Nat):Int)+1)=(((i+j)/2+1:Nat):Int):=WS (by omega)
   rw[IP (by simpa using hij)]
   simp only[hsh,bO,e3,at_lt hlt,i_pairNo_1,S_Compare,cmp_blt,e4]
   have hq:=hc _ hlt
   by_cases hb:blt m[(i+j)/2].Key k=true
   ·rw[IP hb,IP (by decide)]
    exact bs_loop N m k c hc hl f _ j (by have:=hq.1 hb;omega) h2 h3 (by omega)
   ·have:¬(i+j)/2<c:=fun h=>hb (hq.2 h)
    rw[IQ hb,IQ (by split<;>decide)]
    exact bs_loop N m k c hc hl f i _ h1 (by omega) (by omega) (by omega)
  ·rw[IQ (by simpa using hij)]
   congr 1
   omega
theorem spl_at {m A B:List Pair}{k:BA}(h:Spl m k A B):∀q (hq:q<m.length),(blt (m[q]'hq).Key k=true↔q<A.length):=by
 intro q hq
 have he:=h.eq
 subst he
 constructor
 ·intro hb
  rcases Nat.lt_or_ge q A.length with h1|h1
  ·exact h1
  ·rw[List.getElem_append_right h1]at hb
   have:=h.hi _ (List.getElem_mem (by rw[LA]at hq;omega:q-A.length<B.length))
   rw[this]at hb
   cases hb
 ·intro h1
  rw[List.getElem_append_left h1]
  exact h.lo _ (List.getElem_mem h1)
theorem pairNo_ok (N:Nat)(hN:Big N){m A B:List Pair}{k:BA}(h:Spl m k A B)(hl:m.length≤1099511627):i_pairNo N m k=some ((A.length:Int),found B k):=by
 have hml:m.length=A.length+B.length:=by rw[h.eq,LA]
 have hb:=bs_loop N m k A.length (spl_at h) (by omega) N 0 m.length (by omega) (by omega) (Nat.le_refl _) (by unfold Big at hN;omega)
 unfold i_pairNo L_BF_string_i2
 simp only[joinP]
 rw[show(0:Int)=((0:Nat):Int)from rfl,hb,bO]
 cases B with
 |nil=>
  rw[IQ (by simp;simp at hml;omega)]
  rfl
 |cons p B=>
  have hlt:A.length<m.length:=by simp at hml;omega
  have hp:m[A.length]=p:=by
   have he:=h.eq
   subst he
   rw[List.getElem_append_right (Nat.le_refl _)]
   simp
  rw[IP (by simpa using hlt),at_lt hlt,hp]
  simp only[bO,i_pairNo_1,S_Compare,cmp_blt]
  have h1:=h.hi p (by simp)
  rw[IQ (by rw[h1];decide)]
  simp only[found]
  by_cases e:p.Key=k
  ·simp[e]
  ·simp[e]
theorem at_skip (N:Nat)(c:List Pair)(k:BA):∀(A rest:List Pair)(i:Nat),(∀p∈A,p.Key≠k)→i+A.length≤1099511627776→s_l06At_l1_r N c k (A++rest) (i:Int)=s_l06At_l1_r N c k rest ((i+A.length:Nat):Int)
 |[],rest,i,_,_=>by simp
 |p::A,rest,i,h,hb=>by
  rw[List.cons_append,s_l06At_l1_r,bO,IQ (by simpa using h p (by simp))]
  simp only[LC]at hb
  rw[WS (by omega),at_skip N c k A rest (i+1) (fun q hq=>h q (by simp[hq])) (by omega),LC]
  congr 2
  omega
theorem spl_neA {m A B:List Pair}{k:BA}(h:Spl m k A B):∀p∈A,p.Key≠k:=fun p hp=>blt_ne (h.lo p hp)
theorem spl_neT {m A B:List Pair}{k:BA}(h:Spl m k A B):∀p∈restOf B k,p.Key≠k:=fun p hp e=>blt_ne (rest_hi h p hp) e.symm
theorem at_ok (N:Nat)(hN:Big N){m A B:List Pair}{k:BA}(h:Spl m k A B)(hl:m.length≤1099511627):s_l06At N m k=some (if found B k then(A.length:Int)else-1):=by
 have hml:m.length=A.length+B.length:=by rw[h.eq,LA]
 unfold s_l06At
 simp only[joinP]
 rw[s_l06At_l1_eq m k (by omega) (by unfold Big at hN;omega)]
 have e:=at_skip N m k A B 0 (spl_neA h) (by omega)
 rw[←h.eq]at e
 rw[show((0:Nat):Int)=0 from rfl]at e
 rw[e]
 cases B with
 |nil=>simp[s_l06At_l1_r,found]
 |cons p B=>
  cases hf:found (p::B) k with
  |true=>
   rw[s_l06At_l1_r,bO,IP (show decide (p.Key=k)=true from hf)]
   simp
  |false=>
   have hT:=spl_neT h
   unfold restOf at hT
   rw[hf,IQ (by decide)]at hT
   have e2:=at_skip N m k (p::B) [] (0+A.length) hT (by omega)
   rw[List.append_nil]at e2
   rw[e2]
   simp[s_l06At_l1_r]
theorem put1_r (N:Nat)(c:List Pair)(k:BA):∀(rest acc:List Pair)(i:Int),acc.length+rest.length≤1099511627→s_l06Put_l1_r N c k rest i acc=some (acc++rest.filter fun p=>blt p.Key k)
 |[],acc,i,_=>by simp[s_l06Put_l1_r]
 |p::rest,acc,i,hb=>by
  simp only[LC]at hb
  rw[s_l06Put_l1_r]
  simp only[joinP,bO]
  by_cases h:blt p.Key k=true
  ·rw[IP (show Op.bytesLess p.Key.toList k.toList=true from h),show cat? acc [p]=some (acc++[p])from IP (by simp;omega),bO,put1_r N c k rest _ _ (by simp;omega),List.filter_cons,IP h]
   simp
  ·rw[IQ (show ¬Op.bytesLess p.Key.toList k.toList=true from h),put1_r N c k rest _ _ (by omega),List.filter_cons,IQ h]
theorem put2_r (N:Nat)(c:List Pair)(k:BA):∀(rest acc:List Pair)(i:Int),acc.length+rest.length≤1099511627→s_l06Put_l2_r N c k rest i acc=some (acc++rest.filter fun p=> !(blt p.Key k||decide (p.Key=k)))
 |[],acc,i,_=>by simp[s_l06Put_l2_r]
 |p::rest,acc,i,hb=>by
  simp only[LC]at hb
  rw[s_l06Put_l2_r]
  simp only[joinP,bO]
  by_cases h:(!(blt p.Key k||decide (p.Key=k)))=true
  ·rw[IP (show(!(Op.bytesLess p.Key.toList k.toList||decide (p.Key=k)))=true from h),show cat? acc [p]=some (acc++[p])from IP (by simp;omega),bO,put2_r N c k rest _ _ (by simp;omega),List.filter_cons,IP h]
   simp
  ·rw[IQ (show ¬(!(Op.bytesLess p.Key.toList k.toList||decide (p.Key=k)))=true from h),put2_r N c k rest _ _ (by omega),List.filter_cons,IQ h]
theorem cut_r (N:Nat)(c:List Pair)(k:BA):∀(rest acc:List Pair)(i:Int),acc.length+rest.length≤1099511627→s_l06Cut_l1_r N c k rest i acc=some (acc++rest.filter fun p=> !decide (p.Key=k))
 |[],acc,i,_=>by simp[s_l06Cut_l1_r]
 |p::rest,acc,i,hb=>by
  simp only[LC]at hb
  rw[s_l06Cut_l1_r]
  simp only[joinP,bO]
  by_cases h:(!decide (p.Key=k))=true
  ·rw[IP h,show cat? acc [p]=some (acc++[p])from IP (by simp;omega),bO,cut_r N c k rest _ _ (by simp;omega),List.filter_cons,IP h]
   simp
  ·rw[IQ h,cut_r N c k rest _ _ (by omega),List.filter_cons,IQ h]
theorem filt_all {α:Type}{f:α→Bool}{l:List α}(h:∀x∈l,f x=true):l.filter f=l:=List.filter_eq_self.2 h
theorem filt_none {α:Type}{f:α→Bool}{l:List α}(h:∀x∈l,f x=false):l.filter f=[]:=List.filter_eq_nil_iff.2 fun x hx=>by simp[h x hx]
theorem filt_rest {m A B:List Pair}{k:BA}(h:Spl m k A B){f:Pair→Bool}(hk:∀p,p.Key=k→f p=false)(hr:∀p∈restOf B k,f p=true):B.filter f=restOf B k:=by
 unfold restOf at hr⊢
 cases hf:found B k with
 |true=>
  rw[hf,IP rfl]at hr
  rw[IP rfl]
  cases B with
  |nil=>rfl
  |cons p B=>
   simp only[found,DT]at hf
   rw[List.filter_cons,IQ (by simp[hk p hf])]
   exact filt_all hr
 |false=>
  rw[hf,IQ (by decide)]at hr
  rw[IQ (by decide)]
  exact filt_all hr
theorem put_ok (N:Nat)(hN:Big N){m A B:List Pair}{k v:BA}(h:Spl m k A B)(hl:m.length≤1000):s_l06Put N m k v=some (putM A B k v):=by
 have hml:m.length=A.length+B.length:=by rw[h.eq,LA]
 unfold s_l06Put
 simp only[joinP]
 have e1:(A++B).filter (fun p=>blt p.Key k)=A:=by
  rw[List.filter_append,filt_all h.lo,filt_none h.hi,List.append_nil]
 have e2:(A++B).filter (fun p=> !(blt p.Key k||decide (p.Key=k)))=restOf B k:=by
  rw[List.filter_append,filt_none (l:=A) (fun p hp=>by simp[h.lo p hp]),List.nil_append]
  refine filt_rest h (fun p hp=>by simp[hp]) (fun p hp=> ?_)
  have h1:=blt_asymm (rest_hi h p hp)
  have h2:=spl_neT h p hp
  simp[h1,h2]
 rw[s_l06Put_l1_eq m k (by omega) (by unfold Big at hN;omega),put1_r N m k m [] 0 (by simp;omega),List.nil_append,bO,h.eq,e1]
 rw[show cat? A [Pair.mk k v]=some (A++[Pair.mk k v])from IP (by simp;omega),bO]
 rw[s_l06Put_l2_eq (A++B) k (by simp;omega) (by unfold Big at hN;simp;omega),put2_r N (A++B) k (A++B) _ 0 (by simp;omega),e2,bO]
 simp[putM]
theorem cut_ok (N:Nat)(hN:Big N){m A B:List Pair}{k:BA}(h:Spl m k A B)(hl:m.length≤1000):s_l06Cut N m k=some (cutM A B k):=by
 have hml:m.length=A.length+B.length:=by rw[h.eq,LA]
 unfold s_l06Cut
 simp only[joinP]
 have e1:(A++B).filter (fun p=> !decide (p.Key=k))=A++restOf B k:=by
  rw[List.filter_append,filt_all (l:=A) (fun p hp=>by simp[spl_neA h p hp])]
  rw[filt_rest h (fun p hp=>by simp[hp]) (fun p hp=>by simp[spl_neT h p hp])]
 rw[s_l06Cut_l1_eq m k (by omega) (by unfold Big at hN;omega),cut_r N m k m [] 0 (by simp;omega),List.nil_append,bO,h.eq,e1]
 rfl
def valOf (B:List Pair)(k:BA):BA:=match B with
 |p::_=>if p.Key=k then p.Value else⟨#[]⟩
 |[]=>⟨#[]⟩
theorem found_cons {B:List Pair}{k:BA}(h:found B k=true):∃p R,B=p::R∧p.Key=k:=by
 cases B with
 |nil=>simp[found]at h
 |cons p R=>exact⟨p,R,rfl,by simpa[found]using h⟩
theorem valOf_none {B:List Pair}{k:BA}(h:found B k=false):valOf B k=⟨#[]⟩:=by
 cases B with
 |nil=>rfl
 |cons p R=>simp only[found,decide_eq_false_iff_not]at h;simp[valOf,h]
theorem at_found {m A B:List Pair}{k:BA}(h:Spl m k A B)(hf:found B k=true):∃p,at? m (A.length:Int)=some p∧p.Key=k∧p.Value=valOf B k∧p∈m:=by
 obtain⟨p,R,rfl,hk⟩:=found_cons hf
 refine⟨p,?_,hk,by simp[valOf,hk],by rw[h.eq];simp⟩
 rw[h.eq]
 unfold at?
 rw[IP (by omega),Int.toNat_natCast,List.getElem?_append_right (Nat.le_refl _)]
 simp
theorem get_ok (N:Nat)(hN:Big N){m A B:List Pair}{k:BA}(h:Spl m k A B)(hl:m.length≤1000):s_l06Get N m k=some (valOf B k):=by
 unfold s_l06Get
 rw[at_ok N hN h (by omega),bO]
 cases hf:found B k with
 |false=>
  have e:(if false=true then(A.length:Int)else-1)= -1:=rfl
  rw[e,IP (by decide),valOf_none hf]
 |true=>
  obtain⟨p,h1,h2,h3,_⟩:=at_found h hf
  rw[IP rfl,IQ (by simp),h1,bO,h3]
theorem withKey_ok (N:Nat)(hN:Big N){m A B:List Pair}{k v:BA}(h:Spl m k A B)(hl:m.length≤1000):i_withKey N m k v=some (putM A B k v):=by
 have hml:m.length=A.length+B.length:=by rw[h.eq,LA]
 unfold i_withKey
 rw[show cat? ([]:List Pair) m=some m from IP (by simp;omega),bO,pairNo_ok N hN h (by omega),bO]
 cases hf:found B k with
 |true=>
  obtain⟨p,h1,h2,h3,_⟩:=at_found h hf
  obtain⟨q,R,rfl,hk⟩:=found_cons hf
  rw[IP rfl,h1,bO,h2,Int.toNat_natCast,h.eq]
  simp only[putM,restOf,hf,if_true,List.tail_cons]
  rw[List.set_append_right _ _ (Nat.le_refl _)]
  simp
 |false=>
  rw[IQ (show ¬false=true by decide)]
  unfold L_Insert_Pair ins?
  simp only
  rw[IP ⟨by omega,by omega,by omega⟩,bO]
  simp only[putM,restOf,hf,Int.toNat_natCast]
  rw[h.eq]
  simp
theorem withoutKey_ok (N:Nat)(hN:Big N){m A B:List Pair}{k:BA}(h:Spl m k A B)(hl:m.length≤1000):i_withoutKey N m k=some (cutM A B k):=by
 have hml:m.length=A.length+B.length:=by rw[h.eq,LA]
 unfold i_withoutKey
 rw[show cat? ([]:List Pair) m=some m from IP (by simp;omega),bO,pairNo_ok N hN h (by omega),bO]
 cases hf:found B k with
 |true=>
  obtain⟨q,R,rfl,hk⟩:=found_cons hf
  simp only[LC]at hml
  rw[IP rfl,WS (by omega)]
  unfold L_Delete_Pair del?
  rw[IP (by omega),bO]
  simp only[cutM,restOf,hf,if_true,List.tail_cons,Int.toNat_natCast]
  rw[h.eq]
  simp
 |false=>
  rw[IQ (show ¬false=true by decide)]
  simp only[cutM,restOf,hf]
  rw[h.eq]
  rfl
def okP (p:Pair):Bool:=decide (1≤p.Key.size∧p.Key.size≤10)&&decide (p.Value.size≤40)
def chL:Option Pair→List Pair→Bool
 |_,[]=>true
 |o,p::m=>okP p&&((match o with|none=>true|some q=>blt q.Key p.Key)&&chL (some p) m)
def mok (m:List Pair):Bool:=chL none m&&decide (m.length≤60)
def ok1 (b:Bool):Bool⊕Unit:=match b with|true=>.inr ()|false=>.inl false
theorem key_spec (N:Nat)(t:BA):s_l05Key N t=some (decide (1≤t.size∧t.size≤10)):=by
 unfold s_l05Key s_l01In
 by_cases h:1≤t.size
 ·rw[IP (by simp;omega),bO]
  congr 1
  apply decide_eq_decide.2
  omega
 ·rw[IQ (by simp;omega),bO]
  congr 1
  apply Eq.symm
  apply DF
  omega
theorem key_impl (N:Nat)(t:BA):i_keyOk N t=some (decide (1≤t.size∧t.size≤10)):=by
 unfold i_keyOk i_within
 by_cases h:1≤t.size
 ·rw[IP (by simp;omega),bO]
  congr 1
  apply decide_eq_decide.2
  omega
 ·rw[IQ (by simp;omega),bO]
  congr 1
  apply Eq.symm
  apply DF
  omega
theorem at_last {pre rest:List Pair}{q:Pair}:at? ((pre++[q])++rest) (w64 (((pre++[q]).length:Int)-1))=if(pre++[q]).length<9223372036854775807 then some q else at? ((pre++[q])++rest) (w64 (((pre++[q]).length:Int)-1)):=by
 split
 ·rename_i h
  rw[LA,List.length_singleton]at h
  have e:w64 (((pre++[q]).length:Int)-1)=(pre.length:Int):=by
   rw[LA,List.length_singleton,w64_id (by omega) (by omega)]
   omega
  rw[e,at_lt (by simp)]
  congr 1
  rw[List.getElem_append_left (by simp),List.getElem_append_right (Nat.le_refl _)]
  simp
 ·rfl
theorem mapok_spec_r (N:Nat):∀(rest pre:List Pair),(pre++rest).length≤1099511627→s_MapOk_l1_r N (pre++rest) rest (pre.length:Int)=some (ok1 (chL pre.getLast? rest))
 |[],pre,_=>by simp[s_MapOk_l1_r,chL,ok1]
 |p::rest,pre,hl=>by
  have ih:=mapok_spec_r N rest (pre++[p]) (by simpa using hl)
  rw[List.append_assoc,List.singleton_append,List.getLast?_append,List.getLast?_singleton]at ih
  simp only[LA,LC]at hl
  rw[s_MapOk_l1_r]
  simp only[joinP,bO,key_spec]
  rw[WS (by omega),show pre.length+1=(pre++[p]).length by simp,ih]
  simp only[chL,okP]
  cases h1:decide (1≤p.Key.size∧p.Key.size≤10)
  case false=>rw[IP (show(!false)=true from rfl)];rfl
  ·rw[IQ (show ¬(!true)=true by decide)]
   by_cases h2:p.Value.size≤40
   ·rw[IQ (by simp;omega)]
    rcases List.eq_nil_or_concat pre with rfl|⟨pre',q,rfl⟩
    ·simp[h2,ok1]
    ·rw[IP (by simp)]
     have e:=at_last (pre:=pre') (rest:=p::rest) (q:=q)
     rw[IP (by simp only[LA,LC,List.length_nil,List.concat_eq_append]at hl⊢;omega)]at e
     simp only[List.concat_eq_append]at hl⊢
     rw[e,bO]
     have e2:Op.bytesLess q.Key.toList p.Key.toList=blt q.Key p.Key:=rfl
     rw[e2]
     cases hb:blt q.Key p.Key<;>simp[h2,hb,ok1]
   ·rw[IP (by simp;omega)]
    simp[h2,ok1]
theorem mapok_impl_r (N:Nat):∀(rest pre:List Pair),(pre++rest).length≤1099511627→i_MapOk_l1_r N (pre++rest) rest (pre.length:Int)=some (ok1 (chL pre.getLast? rest))
 |[],pre,_=>by simp[i_MapOk_l1_r,chL,ok1]
 |p::rest,pre,hl=>by
  have ih:=mapok_impl_r N rest (pre++[p]) (by simpa using hl)
  rw[List.append_assoc,List.singleton_append,List.getLast?_append,List.getLast?_singleton]at ih
  simp only[LA,LC]at hl
  rw[i_MapOk_l1_r]
  simp only[joinP,bO,key_impl]
  rw[WS (by omega),show pre.length+1=(pre++[p]).length by simp,ih]
  simp only[chL,okP]
  cases h1:decide (1≤p.Key.size∧p.Key.size≤10)
  case false=>rw[IP (show(!false)=true from rfl)];rfl
  ·rw[IQ (show ¬(!true)=true by decide)]
   by_cases h2:p.Value.size≤40
   ·rw[IQ (by simp;omega)]
    rcases List.eq_nil_or_concat pre with rfl|⟨pre',q,rfl⟩
    ·simp[h2,ok1]
    ·rw[IP (by simp)]
     have e:=at_last (pre:=pre') (rest:=p::rest) (q:=q)
     rw[IP (by simp only[LA,LC,List.length_nil,List.concat_eq_append]at hl⊢;omega)]at e
     simp only[List.concat_eq_append]at hl⊢
     rw[e,bO]
     have e2:Op.bytesLess q.Key.toList p.Key.toList=blt q.Key p.Key:=rfl
     rw[e2]
     cases hb:blt q.Key p.Key<;>simp[h2,hb,ok1]
   ·rw[IP (by simp;omega)]
    simp[h2,ok1]
theorem mapok_spec (N:Nat)(hN:Big N)(m:List Pair)(hl:m.length≤1099511627):s_MapOk N m=some (mok m):=by
 unfold s_MapOk mok
 simp only[joinP]
 have e:s_MapOk_l1_r N m m 0=some (ok1 (chL none m)):=mapok_spec_r N m [] (by simpa using hl)
 by_cases h:m.length≤60
 ·rw[IQ (by simp;omega),s_MapOk_l1_eq m (by omega) (by unfold Big at hN;omega)]
  rw[e]
  cases chL none m<;>simp[h,ok1]
 ·rw[IP (by simp;omega)]
  simp[h]
theorem mapok_impl (N:Nat)(hN:Big N)(m:List Pair)(hl:m.length≤1099511627):i_MapOk N m=some (mok m):=by
 unfold i_MapOk mok
 simp only[joinP]
 have e:i_MapOk_l1_r N m m 0=some (ok1 (chL none m)):=mapok_impl_r N m [] (by simpa using hl)
 rw[i_MapOk_l1_eq m (by omega) (by unfold Big at hN;omega)]
 rw[e]
 cases chL none m
 ·simp[ok1]
 ·simp[ok1]
  omega
theorem ch_sorted:∀(m:List Pair)(o:Option Pair),chL o m=true→Sorted m∧(∀p∈m,okP p=true)∧∀q,o=some q→∀p∈m,blt q.Key p.Key=true
 |[],o,_=>⟨trivial,by simp,by simp⟩
 |p::m,o,h=>by
  simp only[chL,Bool.and_eq_true]at h
  obtain⟨h1,h2,h3⟩:=h
  obtain⟨a,b,c⟩:=ch_sorted m (some p) h3
  refine⟨⟨c p rfl,a⟩,?_,?_⟩
  ·intro q hq
   rcases List.mem_cons.1 hq with rfl|hq
   ·exact h1
   ·exact b q hq
  ·rintro q rfl x hx
   rcases List.mem_cons.1 hx with rfl|hx
   ·exact h2
   ·exact blt_trans h2 (c p rfl x hx)
theorem mok_ok {m:List Pair}(h:mok m=true):Sorted m∧(∀p∈m,okP p=true)∧m.length≤60:=by
 unfold mok at h
 simp only[Bool.and_eq_true,DT]at h
 obtain⟨a,b,_⟩:=ch_sorted m none h.1
 exact⟨a,b,h.2⟩
def dgt:List UInt8→Nat→Option Nat
 |[],n=>some n
 |c::r,n=>if 48≤c.toNat∧c.toNat≤57 then dgt r (10*n+(c.toNat-48))else none
theorem dgt_snoc:∀(l:List UInt8)(c:UInt8)(a u:Nat),dgt l a=some u→48≤c.toNat→c.toNat≤57→dgt (l++[c]) a=some (10*u+(c.toNat-48))
 |[],c,a,u,h,h1,h2=>by
  cases h
  simp[dgt,h1,h2]
 |d::l,c,a,u,h,h1,h2=>by
  rw[dgt]at h
  rw[List.cons_append,dgt]
  split at h
  ·rename_i hd
   rw[IP hd]
   exact dgt_snoc l c _ u h h1 h2
  ·cases h
theorem dgt_dec (n:Nat):dgt (Lib.decDigits n) 0=some n:=by
 induction n using Nat.strongRecOn with
 |_ n ih=>
  rw[Lib.decDigits]
  by_cases h:n<10
  ·rw[dif_pos h]
   have:(UInt8.ofNat (48+n)).toNat=48+n:=by rw[UInt8.toNat_ofNat'];omega
   simp only[dgt,this]
   rw[IP (by omega)]
   congr 1
   omega
  ·rw[dif_neg h]
   have:(UInt8.ofNat (48+n%10)).toNat=48+n%10:=by rw[UInt8.toNat_ofNat'];omega
   rw[dgt_snoc _ _ _ _ (ih (n/10) (by omega)) (by omega) (by omega),this]
   congr 1
   omega
theorem dec_len:∀(k n:Nat),n<10 ^ (k+1)→(Lib.decDigits n).length≤k+1
 |0,n,h=>by
  rw[Lib.decDigits,dif_pos (by omega)]
  simp
 |k+1,n,h=>by
  rw[Lib.decDigits]
  split
  ·simp
  ·have:=dec_len k (n/10) (by rw[Nat.pow_succ]at h;omega)
   simp only[LA,List.length_singleton]
   omega
theorem dec_len10 {n:Nat}(h:n≤1000000000):(Lib.decDigits n).length≤10:=dec_len 9 n (by omega)
theorem itoa_nat (n:Nat):Lib.itoa (n:Int)=Lib.decDigits n:=by
 unfold Lib.itoa
 rw[IQ (by omega),Int.toNat_natCast]
theorem dgt_lt:∀(l:List UInt8)(k n v:Nat),dgt l n=some v→n<10 ^ k→v<10 ^ (k+l.length)
 |[],k,n,v,h,hn=>by
  cases h
  simpa using hn
 |c::l,k,n,v,h,hn=>by
  rw[dgt]at h
  split at h
  ·rename_i hd
   have:=dgt_lt l (k+1) _ v h (by rw[Nat.pow_succ];omega)
   rw[LC,show k+(l.length+1)=k+1+l.length by omega]
   exact this
  ·cases h
theorem sat_at {t:BA}{k:Nat}{c:UInt8}{r:List UInt8}(h:t.data.toList.drop k=c::r):sat? t (k:Int)=some (c.toNat:Int):=by
 unfold sat?
 rw[IP (by omega),Int.toNat_natCast]
 have hk:k<t.data.toList.length:=by
  rcases Nat.lt_or_ge k t.data.toList.length with h1|h1
  ·exact h1
  ·rw[DN h1]at h
   cases h
 have h1:t.data.toList[k]? =some c:=by
  have:(t.data.toList.drop k)[0]? =some c:=by rw[h];rfl
  rw[List.getElem?_drop,Nat.add_zero]at this
  exact this
 have hs:k<t.size:=by
  rw[Array.length_toList]at hk
  exact hk
 rw[getElem?_pos t k hs]
 have h2:t.data[k]'hs=c:=by
  rw[Array.getElem?_toList]at h1
  have:=Array.getElem?_eq_some_iff.1 h1
  exact this.2
 have h3:t[k]=c:=h2
 rw[h3]
 rfl
theorem rd_loop (N:Nat)(t:BA)(ht:t.size≤10):∀(d k n m:Nat),t.size=k+d→d<m→n<10 ^ k→s_ReadDecimal_l1 N t m (n:Int) (k:Int)=some (match dgt (t.data.toList.drop k) n with|none=>.inl (0,false)|some v=>.inr (v:Int))
 |0,k,n,m,hk,hm,hn=>by
  obtain⟨m,rfl⟩:∃q,m=q+1:=⟨m-1,by omega⟩
  rw[s_ReadDecimal_l1,IQ (by simp;omega),DN (by rw[Array.length_toList];show t.size≤k;omega)]
  rfl
 |d+1,k,n,m,hk,hm,hn=>by
  obtain⟨m,rfl⟩:∃q,m=q+1:=⟨m-1,by omega⟩
  have hlt:k<t.data.toList.length:=by rw[Array.length_toList];show k<t.size;omega
  obtain⟨c,r,hc⟩:∃c r,t.data.toList.drop k=c::r:=⟨_,_,DG hlt⟩
  have hr:r=t.data.toList.drop (k+1):=by
   rw[DG hlt]at hc
   exact((List.cons.injEq _ _ _ _).mp hc).2.symm
  have hp:(10:Nat) ^ k≤10 ^ 9:=Nat.pow_le_pow_right (by decide) (by omega)
  have hc8:c.toNat<256:=c.toNat_lt
  rw[s_ReadDecimal_l1,IP (by simp;omega)]
  simp only[sat_at hc,bO]
  rw[hc,dgt]
  by_cases h1:48≤c.toNat
  ·by_cases h2:c.toNat≤57
   ·rw[IQ (by simp;omega),IQ (by simp;omega),IP ⟨h1,h2⟩]
    have e:w64 (w64 (w64 (10*(n:Int))+w64 (c.toNat:Int))-48)=((10*n+(c.toNat-48):Nat):Int):=by
     rw[w64_id (n:=10*(n:Int)) (by omega) (by omega),w64_id (n:=(c.toNat:Int)) (by omega) (by omega),w64_id (n:=10*(n:Int)+c.toNat) (by omega) (by omega),w64_id (by omega) (by omega)]
     omega
    rw[e,WS (by omega),rd_loop N t ht d (k+1) _ m (by omega) (by omega) (by rw[Nat.pow_succ];omega),hr]
   ·rw[IQ (by simp;omega),IP (by simp;omega),IQ (by omega)]
  ·rw[IP (by simp;omega),IQ (by omega)]
theorem rdec_spec (N:Nat)(hN:Big N)(t:BA):s_ReadDecimal N t=some (rdec t):=by
 unfold s_ReadDecimal rdec
 by_cases hs:t.size≤10
 ·rw[IQ (by simp;omega)]
  simp only[joinP]
  have e:=rd_loop N t hs t.size 0 0 N (by omega) (by unfold Big at hN;omega) (by decide)
  rw[List.drop_zero]at e
  rw[show(0:Int)=((0:Nat):Int)from rfl,e]
  cases hr:rdN t with
  |some n=>
   obtain⟨h1,rfl⟩:=rdN_some.1 hr
   have:dgt (ByteArray.mk (Lib.decDigits n).toArray).data.toList 0=some n:=by
    show dgt (Lib.decDigits n).toArray.toList 0=_
    rw[List.toList_toArray,dgt_dec]
   simp only[this,bO,Sum.elim_inr]
   rw[IQ (by simp;omega),dec_spec N hN n (by omega) (by omega),bO,itoa_nat,IQ (by simp)]
  |none=>
   cases hd:dgt t.data.toList 0 with
   |none=>rfl
   |some v=>
    have hv:=dgt_lt _ 0 0 v hd (by decide)
    have:(10:Nat) ^ (0+t.data.toList.length)≤10 ^ 10:=Nat.pow_le_pow_right (by decide) (by rw[Array.length_toList];show 0+t.size≤10;omega)
    simp only[bO,Sum.elim_inr]
    by_cases h1:v≤1000000000
    ·rw[IQ (by simp;omega),dec_spec N hN v (by omega) (by omega),bO,itoa_nat]
     by_cases h2:(⟨(Lib.decDigits v).toArray⟩:BA)=t
     ·have:=rdN_some.2 ⟨h1,h2.symm⟩
      rw[hr]at this
      cases this
     ·rw[IP (by simpa using h2)]
    ·rw[IP (by simp;omega)]
 ·rw[IP (by simp;omega)]
  cases hr:rdN t with
  |none=>rfl
  |some n=>
   obtain⟨h1,rfl⟩:=rdN_some.1 hr
   have:=dec_len10 h1
   have hz:(ByteArray.mk (Lib.decDigits n).toArray).size=(Lib.decDigits n).length:=List.size_toArray
   omega
theorem rdec_impl (N:Nat)(t:BA)(ht:t.size≤1099511627):i_ReadDecimal N t=some (rdec t):=by
 unfold i_ReadDecimal rdec?
 rw[IP (by omega)]
 congr 1
 unfold rdecN rdec rdN
 simp only[itoaL_eq]
 cases h:Lib.atoiAll t.data.toList with
 |ok v=>
  simp only
  by_cases h0:0≤v
  ·obtain⟨n,rfl⟩:∃n:Nat,v=n:=⟨v.toNat,by omega⟩
   rw[itoa_nat,Int.toNat_natCast]
   by_cases h1:(n:Int)≤1000000000
   ·by_cases h2:Lib.decDigits n=t.data.toList
    ·have h3:(⟨(Lib.decDigits n).toArray⟩:BA)=t:=by
      rw[h2]
     rw[IP ⟨h0,h1,h3⟩,IP ⟨h0,h1,h2⟩]
    ·have h3:¬(⟨(Lib.decDigits n).toArray⟩:BA)=t:=by
      rintro rfl
      exact h2 (by simp)
     rw[IQ (fun h=>h3 h.2.2),IQ (fun h=>h2 h.2.2)]
   ·rw[IQ (fun h=>h1 h.2.1),IQ (fun h=>h1 h.2.1)]
  ·rw[IQ (fun h=>h0 h.1),IQ (fun h=>h0 h.1)]
 | «syntax» =>rfl
 |range=>rfl
theorem rdec_nat {t:BA}(h:(rdec t).2=true):∃n:Nat,n≤1000000000∧(rdec t).1=n∧t=⟨(Lib.decDigits n).toArray⟩:=by
 unfold rdec at h⊢
 cases hr:rdN t with
 |none=>rw[hr]at h;cases h
 |some n=>
  obtain⟨h1,h2⟩:=rdN_some.1 hr
  exact⟨n,h1,rfl,h2⟩
def fi (l:List UInt8):Nat:=(l.takeWhile fun c=>c !=32).length
theorem fi_le (l:List UInt8):fi l≤l.length:=(List.takeWhile_sublist _).length_le
theorem fi_cons (c:UInt8)(l:List UInt8):fi (c::l)=if c=32 then 0 else fi l+1:=by
 unfold fi
 rw[List.takeWhile_cons]
 by_cases h:c=32<;>simp[h]
theorem index_fi:∀l:List UInt8,Lib.indexByte l 32=if fi l<l.length then(fi l:Int)else-1
 |[]=>rfl
 |c::l=>by
  have ih:=index_fi l
  have hl:=fi_le l
  rw[Lib.indexByte,fi_cons,ih]
  by_cases h:c=32
  ·simp[h]
  ·rw[IQ (by simpa using h),IQ h,LC]
   by_cases h2:fi l<l.length
   ·simp[h2]
   ·simp[h2]
theorem ext_toList (t:BA)(i j:Nat)(hij:i≤j)(hj:j≤t.size):(t.extract i j).data.toList=(t.data.toList.drop i).take (j-i):=by
 have:(t.extract i j).data=t.data.extract i j:=by
  rw[ByteArray.data_extract]
 rw[this,Array.toList_extract]
theorem ext_size (t:BA)(i j:Nat)(hij:i≤j)(hj:j≤t.size):(t.extract i j).size=j-i:=by
 rw[ByteArray.size_extract]
 omega
theorem ba_ext' {a b:BA}(h:a.data.toList=b.data.toList):a=b:=ByteArray.ext (Array.toList_inj.1 h)
theorem ext_ext (t:BA)(i j p q:Nat)(hij:i≤j)(hj:j≤t.size)(hpq:p≤q)(hq:q≤j-i):(t.extract i j).extract p q=t.extract (i+p) (i+q):=by
 apply ba_ext'
 rw[ext_toList _ p q hpq (by rw[ext_size t i j hij hj];exact hq),ext_toList t i j hij hj,ext_toList t (i+p) (i+q) (by omega) (by omega),List.drop_take,List.drop_drop,List.take_take]
 congr 1
 omega
theorem rd1_loop (N:Nat)(v:BA)(hv:v.size≤1099511627):∀(d k m:Nat),v.size=k+d→d<m→s_l15Read_l1 N v m (k:Int)=some ((k+fi (v.data.toList.drop k):Nat):Int)
 |0,k,m,hk,hm=>by
  obtain⟨m,rfl⟩:∃q,m=q+1:=⟨m-1,by omega⟩
  rw[s_l15Read_l1,IQ (by simp;omega),DN (by rw[Array.length_toList];show v.size≤k;omega)]
  rfl
 |d+1,k,m,hk,hm=>by
  obtain⟨m,rfl⟩:∃q,m=q+1:=⟨m-1,by omega⟩
  have hlt:k<v.data.toList.length:=by rw[Array.length_toList];show k<v.size;omega
  have hc:=DG hlt
  generalize v.data.toList[k]=c at hc
  rw[s_l15Read_l1,IP (by simp;omega),sat_at hc,bO,hc,fi_cons]
  by_cases h:c=32
  ·subst h
   rw[IQ (by decide),IP rfl,Nat.add_zero]
  ·have h2:¬c.toNat=32:=fun e=>h (UInt8.toNat_inj.1 e)
   rw[IP (by simp;omega),IQ h,WS (by omega),rd1_loop N v hv d (k+1) m (by omega) (by omega)]
   congr 2
   omega
theorem rd2_loop (N:Nat)(v:BA)(hv:v.size≤1099511627):∀(d k m:Nat),v.size=k+d→d<m→s_l15Read_l2 N v m (k:Int)=some ((k+fi (v.data.toList.drop k):Nat):Int)
 |0,k,m,hk,hm=>by
  obtain⟨m,rfl⟩:∃q,m=q+1:=⟨m-1,by omega⟩
  rw[s_l15Read_l2,IQ (by simp;omega),DN (by rw[Array.length_toList];show v.size≤k;omega)]
  rfl
 |d+1,k,m,hk,hm=>by
  obtain⟨m,rfl⟩:∃q,m=q+1:=⟨m-1,by omega⟩
  have hlt:k<v.data.toList.length:=by rw[Array.length_toList];show k<v.size;omega
  have hc:=DG hlt
  generalize v.data.toList[k]=c at hc
  rw[s_l15Read_l2,IP (by simp;omega),sat_at hc,bO,hc,fi_cons]
  by_cases h:c=32
  ·subst h
   rw[IQ (by decide),IP rfl,Nat.add_zero]
  ·have h2:¬c.toNat=32:=fun e=>h (UInt8.toNat_inj.1 e)
   rw[IP (by simp;omega),IQ h,WS (by omega),rd2_loop N v hv d (k+1) m (by omega) (by omega)]
   congr 2
   omega
theorem stake_ok {t:BA}{k:Nat}(h:k≤t.size):stake? t (k:Int)=some (t.extract 0 k):=by
 unfold stake?
 rw[IP (by omega),Int.toNat_natCast]
theorem sdrop_ok {t:BA}{k:Nat}(h:k≤t.size):sdrop? t (k:Int)=some (t.extract k t.size):=by
 unfold sdrop?
 rw[IP (by omega),Int.toNat_natCast]
theorem scut_ok {t:BA}{i j:Nat}(h:i≤j)(h2:j≤t.size):scut? t (i:Int) (j:Int)=some (t.extract i j):=by
 unfold scut?
 rw[IP (by omega),Int.toNat_natCast,Int.toNat_natCast]
def spv (v:BA):Option (BA×BA×BA):=
 let a:=fi v.data.toList
 if a<v.size then
  let r:=v.extract (a+1) v.size
  let b:=fi r.data.toList
  if b<r.size then some (v.extract 0 a,r.extract 0 b,r.extract (b+1) r.size)else none
 else none
theorem read_ok (N:Nat)(hN:Big N)(id:Int)(v:BA)(hv:v.size≤1099511627):
  ∃s,s_l15Read N id v=some s∧match spv v with
   |none=>s.2=false
   |some (x,y,z)=>s=(⟨id,(rdec x).1,(rdec y).1,z⟩,(rdec x).2&&(rdec y).2):=by
 have hlen:v.data.toList.length=v.size:=Array.length_toList
 unfold s_l15Read
 simp only[joinP]
 have e1:=rd1_loop N v hv v.size 0 N (by omega) (by unfold Big at hN;omega)
 rw[List.drop_zero,Nat.zero_add,show((0:Nat):Int)=0 from rfl]at e1
 rw[e1,bO]
 have ha:=fi_le v.data.toList
 rw[hlen]at ha
 unfold spv
 simp only
 generalize hA:fi v.data.toList=a at ha
 rw[WS (by omega)]
 by_cases h1:a<v.size
 ·have e2:=rd2_loop N v hv (v.size-(a+1)) (a+1) N (by omega) (by unfold Big at hN;omega)
  rw[e2,bO,IP h1]
  have hx:(v.extract (a+1) v.size).data.toList=v.data.toList.drop (a+1):=by
   rw[ext_toList v (a+1) v.size (by omega) (Nat.le_refl _),List.take_of_length_le (by rw[List.length_drop,hlen];exact Nat.le_refl _)]
  have hz:(v.extract (a+1) v.size).size=v.size-(a+1):=ext_size v _ _ (by omega) (Nat.le_refl _)
  have hb:=fi_le (v.data.toList.drop (a+1))
  rw[List.length_drop,hlen]at hb
  rw[hx,hz]
  generalize fi (v.data.toList.drop (a+1))=b at hb
  by_cases h2:b<v.size-(a+1)
  ·rw[IQ (by simp;omega),IP h2,WS (by omega),stake_ok (by omega),scut_ok (by omega) (by omega),sdrop_ok (by omega)]
   simp only[bO,rdec_spec N hN]
   rw[ext_ext v (a+1) v.size 0 b (by omega) (Nat.le_refl _) (by omega) (by omega),ext_ext v (a+1) v.size (b+1) (v.size-(a+1)) (by omega) (Nat.le_refl _) (by omega) (by omega)]
   rw[show a+1+(b+1)=a+1+b+1 by omega,show a+1+(v.size-(a+1))=v.size by omega,Nat.add_zero]
   cases h3:(rdec (v.extract 0 a)).2
   ·exact⟨_,rfl,by simp⟩
   ·exact⟨_,rfl,by simp⟩
  ·rw[IP (by simp;omega),IQ h2]
   exact⟨_,rfl,rfl⟩
 ·rw[IQ h1]
  have hm:∃q,N=q+1:=⟨N-1,by unfold Big at hN;omega⟩
  obtain⟨q,rfl⟩:=hm
  rw[s_l15Read_l2,IQ (by simp;omega),bO,IP (by simp;omega)]
  exact⟨_,rfl,rfl⟩
theorem index1_ok (N:Nat)(v:BA):S_Index N v ⟨#[32]⟩=some (if fi v.data.toList<v.size then(fi v.data.toList:Int)else-1):=by
 have hlen:v.data.toList.length=v.size:=Array.length_toList
 unfold S_Index
 show some (Lib.indexByte v.data.toList 32)=_
 rw[index_fi,hlen]
theorem gs_stop (N:Nat)(v:BA)(i m:Nat)(s:BA)(l:List BA)(hv:v.size≤1099511627)(hi:min 3 (v.size+1)≤i+1):S_genSplit_l1 N v ⟨#[32]⟩ 0 3 (m+1) s (i:Int) l=some (s,(i:Int),l):=by
 rw[S_genSplit_l1]
 have e:w64 (imin 3 (w64 ((v.size:Int)+1))-1)=((min 3 (v.size+1)-1:Nat):Int):=by
  rw[WS (by omega)]
  unfold imin
  split<;>rw[w64_id (by omega) (by omega)]<;>omega
 rw[e,IQ (by simp only[DT];omega)]
theorem gs_none (N:Nat)(v:BA)(i m:Nat)(s:BA)(l:List BA)(hs:¬fi s.data.toList<s.size):S_genSplit_l1 N v ⟨#[32]⟩ 0 3 (m+1) s (i:Int) l=some (s,(i:Int),l):=by
 rw[S_genSplit_l1]
 split
 ·rw[index1_ok,IQ hs,bO,IP (by decide)]
 ·rfl
theorem gs_one (N:Nat)(v:BA)(i m:Nat)(s:BA)(l:List BA)(hv:v.size≤1099511627)(hsz:s.size≤1099511627)(hi:i+1<min 3 (v.size+1))(hl:i<l.length)(hs:fi s.data.toList<s.size):
  S_genSplit_l1 N v ⟨#[32]⟩ 0 3 (m+1) s (i:Int) l=S_genSplit_l1 N v ⟨#[32]⟩ 0 3 m (s.extract (fi s.data.toList+1) s.size) ((i+1:Nat):Int) (l.set i (s.extract 0 (fi s.data.toList))):=by
 rw[S_genSplit_l1]
 have e:w64 (imin 3 (w64 ((v.size:Int)+1))-1)=((min 3 (v.size+1)-1:Nat):Int):=by
  rw[WS (by omega)]
  unfold imin
  split<;>rw[w64_id (by omega) (by omega)]<;>omega
 rw[e,IP (by simp only[DT];omega),index1_ok,IP hs,bO,IQ (by simp)]
 generalize fi s.data.toList=a at hs
 rw[Int.add_zero,w64_id (n:=(a:Int)) (by omega) (by omega),stake_ok (by omega),bO,at_lt hl,bO]
 have e2:w64 ((a:Int)+((ByteArray.mk #[32]).size:Int))=((a+1:Nat):Int):=WS (by omega)
 rw[e2,sdrop_ok (by omega),bO,WS (by omega),Int.toNat_natCast]
theorem split_ok (N:Nat)(hN:Big N)(v:BA)(hv:v.size≤1099511627):
  ∃c l,S_SplitN N v ⟨#[32]⟩ 3=some (c,l)∧match spv v with
   |none=>c<3
   |some (x,y,z)=>c=3∧l=[x,y,z]:=by
 have hlen:v.data.toList.length=v.size:=Array.length_toList
 obtain⟨q,hq⟩:∃q,N=q+1+1+1:=⟨N-3,by unfold Big at hN;omega⟩
 have key:∀(i:Nat)(s:BA)(l:List BA),i<3→i<l.length→S_genSplit_l1 N v ⟨#[32]⟩ 0 3 N v 0 (List.replicate (min 3 (v.size+1)) ⟨#[]⟩)=some (s,(i:Int),l)→S_SplitN N v ⟨#[32]⟩ 3=some (i+1,l.set i s):=by
  intro i s l hi hl h
  unfold S_SplitN S_genSplit
  rw[IQ (by decide),IQ (by decide),IQ (by decide)]
  have e:imin 3 (w64 ((v.size:Int)+1))=((min 3 (v.size+1):Nat):Int):=by
   rw[WS (by omega)]
   unfold imin
   split<;>omega
  rw[e]
  have e2:mk? (⟨#[]⟩:BA) ((min 3 (v.size+1):Nat):Int)=some (List.replicate (min 3 (v.size+1)) ⟨#[]⟩):=by
   unfold mk?
   rw[IP (by omega),Int.toNat_natCast]
  rw[e2,bO]
  simp only[joinP]
  rw[h,bO]
  simp only
  rw[at_lt hl,bO,WS (by omega),Int.toNat_natCast,Int.toNat_natCast]
  have e3:take? (l.set i s) ((i+1:Nat):Int)=some ((l.set i s).take (i+1)):=by
   unfold take?
   rw[IP (by rw[List.length_set];omega),Int.toNat_natCast]
  rw[e3]
  rfl
 have hr0:∀n,(List.replicate n (⟨#[]⟩:BA)).length=n:=fun n=>List.length_replicate
 unfold spv
 simp only
 by_cases h1:fi v.data.toList<v.size
 ·rw[IP h1]
  have hz:(v.extract (fi v.data.toList+1) v.size).size=v.size-(fi v.data.toList+1):=ext_size v _ _ (by omega) (Nat.le_refl _)
  have s1:=gs_one N v 0 (q+1+1) v (List.replicate (min 3 (v.size+1)) ⟨#[]⟩) hv (by omega) (by omega) (by rw[hr0];omega) h1
  by_cases h2:fi (v.extract (fi v.data.toList+1) v.size).data.toList<(v.extract (fi v.data.toList+1) v.size).size
  ·rw[IP h2]
   have hz2:=hz▸h2
   have s2:=gs_one N v (0+1) (q+1) (v.extract (fi v.data.toList+1) v.size) ((List.replicate (min 3 (v.size+1)) ⟨#[]⟩).set 0 (v.extract 0 (fi v.data.toList))) hv (by omega) (by omega) (by rw[List.length_set,hr0];omega) h2
   have s3:=gs_stop N v (0+1+1) q ((v.extract (fi v.data.toList+1) v.size).extract (fi (v.extract (fi v.data.toList+1) v.size).data.toList+1) (v.extract (fi v.data.toList+1) v.size).size) (((List.replicate (min 3 (v.size+1)) ⟨#[]⟩).set 0 (v.extract 0 (fi v.data.toList))).set (0+1) ((v.extract (fi v.data.toList+1) v.size).extract 0 (fi (v.extract (fi v.data.toList+1) v.size).data.toList))) hv (by omega)
   have hm:min 3 (v.size+1)=3:=by omega
   refine⟨_,_,key _ _ _ (by omega) ?_ (Eq.trans (by rw[hq];rfl) (s1.trans (s2.trans s3))),?_,?_⟩
   ·rw[List.length_set,List.length_set,hr0];omega
   ·rfl
   ·rw[hm]
    rfl
  ·rw[IQ h2]
   have s2:=gs_none N v (0+1) (q+1) (v.extract (fi v.data.toList+1) v.size) ((List.replicate (min 3 (v.size+1)) ⟨#[]⟩).set 0 (v.extract 0 (fi v.data.toList))) h2
   refine⟨_,_,key _ _ _ (by omega) ?_ (Eq.trans (by rw[hq];rfl) (s1.trans s2)),by omega⟩
   rw[List.length_set,hr0];omega
 ·rw[IQ h1]
  have s1:=gs_none N v 0 (q+1+1) v (List.replicate (min 3 (v.size+1)) ⟨#[]⟩) h1
  refine⟨_,_,key _ _ _ (by omega) ?_ (Eq.trans (by rw[hq];rfl) s1),by omega⟩
  rw[hr0];omega
def isS (p:Pair):Bool:=decide (p.Key.data.toList.head?=some 115)
def rdV (v:BA):Option (Int×Int×BA):=match spv v with
 |none=>none
 |some (x,y,z)=>if((rdec x).2&&(rdec y).2)=true then some ((rdec x).1,(rdec y).1,z)else none
def sesP (p:Pair):Option Tsession:=match rdec (p.Key.extract 1 p.Key.size),rdV p.Value with
 |(n,true),some (a,b,z)=>some ⟨n,a,b,z⟩
 |_,_=>none
def sesL:List Pair→Option (List Tsession)
 |[]=>some []
 |p::m=>if isS p=true then(match sesP p with|none=>none|some s=>(sesL m).map (s:: ·))else sesL m
abbrev smallP (p:Pair):Prop:=p.Key.size≤1099511627∧p.Value.size≤1099511627
theorem ext_full (t:BA):t.extract 0 t.size=t:=by
 apply ba_ext'
 rw[ext_toList t 0 t.size (by omega) (Nat.le_refl _),List.drop_zero,List.take_of_length_le (by rw[Array.length_toList];exact Nat.le_refl _)]
theorem cutS (N:Nat)(t:BA):S_CutPrefix N t ⟨#[115]⟩=some (if decide (t.data.toList.head?=some 115)=true then(t.extract 1 t.size,true)else(t,false)):=by
 have hlen:t.data.toList.length=t.size:=Array.length_toList
 unfold S_CutPrefix q_CutPrefix q_HasPrefix
 have h1:((ByteArray.mk #[115]).size:Int)=((1:Nat):Int):=rfl
 rw[h1]
 by_cases hs:1≤t.size
 ·rw[IP (by simp only[DT];omega),stake_ok hs,bO,bO,sdrop_ok hs]
  have e:(t.extract 0 1=⟨#[115]⟩)↔t.data.toList.head?=some 115:=by
   have h2:(t.extract 0 1).data.toList=t.data.toList.take 1:=by
    rw[ext_toList t 0 1 (by omega) hs,List.drop_zero]
   constructor
   ·intro h
    rw[h]at h2
    cases hd:t.data.toList with
    |nil=>rw[hd]at hlen;simp at hlen;omega
    |cons c r=>
     rw[hd]at h2
     simp at h2
     simp[←h2]
   ·intro h
    apply ba_ext'
    rw[h2]
    cases hd:t.data.toList with
    |nil=>rw[hd]at h;cases h
    |cons c r=>
     rw[hd]at h
     simp at h
     simp[h]
  by_cases h:t.data.toList.head?=some 115
  ·have hd:decide (t.data.toList.head?=some 115)=true:=DE h
   have hx:decide (t.extract 0 1=⟨#[115]⟩)=true:=DE (e.2 h)
   rw[hd,hx]
   rfl
  ·have hd:decide (t.data.toList.head?=some 115)=false:=DF h
   have hx:decide (t.extract 0 1=⟨#[115]⟩)=false:=DF fun q=>h (e.1 q)
   rw[hd,hx]
   rfl
 ·rw[IQ (by simp only[DT];omega),bO,IP (by decide)]
  have:t.data.toList=[]:=List.eq_nil_of_length_eq_zero (by omega)
  rw[this]
  simp
theorem readS_ok (N:Nat)(hN:Big N)(p:Pair)(hp:smallP p):∃r,i_readSession N p=some r∧
  (if isS p=true then(match sesP p with|none=>r.2.2=false|some s=>r=(s,true,true))else(r.2.1=false∧r.2.2=true)):=by
 unfold i_readSession
 rw[cutS,bO]
 unfold isS
 by_cases h:p.Key.data.toList.head?=some 115
 ·have hk:1≤p.Key.size:=by
   rcases Nat.eq_zero_or_pos p.Key.size with h0|h0
   ·have:p.Key.data.toList=[]:=List.eq_nil_of_length_eq_zero (by rw[Array.length_toList];exact h0)
    rw[this]at h
    cases h
   ·exact h0
  have hd:decide (p.Key.data.toList.head?=some 115)=true:=DE h
  simp only[hd,↓reduceIte]
  have hz:=ext_size p.Key 1 p.Key.size hk (Nat.le_refl _)
  rw[rdec_impl N _ (by rw[hz];omega),bO]
  simp only[BN,BF,↓reduceIte]
  unfold sesP rdV
  cases hr:rdec (p.Key.extract 1 p.Key.size)with
  |mk n b=>
   cases b with
   |false=>exact⟨_,rfl,rfl⟩
   |true=>
    simp only[BN,BF,↓reduceIte]
    obtain⟨c,l,e,hsp⟩:=split_ok N hN p.Value hp.2
    rw[e,bO]
    cases hv:spv p.Value with
    |none=>
     rw[hv]at hsp
     simp only at hsp⊢
     rw[IP (by simp;omega)]
     exact⟨_,rfl,rfl⟩
    |some q=>
     obtain⟨x,y,z⟩:=q
     rw[hv]at hsp
     simp only at hsp⊢
     obtain⟨rfl,rfl⟩:=hsp
     rw[IQ (show ¬decide (((3:Nat):Int)<3)=true by decide)]
     have hb:x.size≤1099511627∧y.size≤1099511627:=by
      unfold spv at hv
      simp only at hv
      split at hv
      ·split at hv
       ·injection hv with hv
        injection hv with h1 h2
        injection h2 with h2 h3
        subst h1 h2
        constructor
        ·rw[ByteArray.size_extract];omega
        ·rw[ByteArray.size_extract,ByteArray.size_extract];omega
       ·cases hv
      ·cases hv
     have a0:at? (([x,y,z]:List BA).take 3) 0=some x:=rfl
     have a1:at? (([x,y,z]:List BA).take 3) 1=some y:=rfl
     have a2:at? (([x,y,z]:List BA).take 3) 2=some z:=rfl
     rw[a0,a1,a2]
     simp only[bO,rdec_impl N x hb.1,rdec_impl N y hb.2]
     cases h3:(rdec x).2
     ·exact⟨_,rfl,rfl⟩
     ·cases h4:(rdec y).2
      ·exact⟨_,rfl,rfl⟩
      ·exact⟨_,rfl,rfl⟩
 ·have hd:decide (p.Key.data.toList.head?=some 115)=false:=DF h
  simp only[hd,BF,↓reduceIte]
  rw[rdec_impl N _ hp.1,bO]
  exact⟨_,rfl,rfl,rfl⟩
theorem sesOf_r (N:Nat)(hN:Big N)(c:List Pair):∀(rest:List Pair)(acc:List Tsession)(i:Int),(∀p∈rest,smallP p)→acc.length+rest.length≤1099511627→
  i_sessionsOf_l1_r N c rest i acc=some (match sesL rest with|none=>.inl ([],false)|some l=>.inr (acc++l))
 |[],acc,i,_,_=>by simp[i_sessionsOf_l1_r,sesL]
 |p::rest,acc,i,hs,hb=>by
  simp only[LC]at hb
  obtain⟨r,e,h⟩:=readS_ok N hN p (hs p (by simp))
  have ih:=fun acc i hb=>sesOf_r N hN c rest acc i (fun q hq=>hs q (by simp[hq])) hb
  rw[i_sessionsOf_l1_r,bO,e,bO,sesL]
  by_cases h1:isS p=true
  ·rw[IP h1]at h⊢
   cases h2:sesP p with
   |none=>
    rw[h2]at h
    simp only at h
    rw[IP (by simp[h])]
   |some s=>
    rw[h2]at h
    simp only at h
    subst h
    simp only[BN,BF,↓reduceIte]
    rw[show cat? acc [s]=some (acc++[s])from IP (by simp;omega),bO,ih _ _ (by simp;omega)]
    cases sesL rest with
    |none=>rfl
    |some l=>simp
  ·rw[IQ h1]at h⊢
   rw[IQ (by simp[h.2]),IQ (by simp[h.1]),ih _ _ (by omega)]
theorem sesOf_ok (N:Nat)(hN:Big N)(m:List Pair)(hs:∀p∈m,smallP p)(hb:m.length≤1099511627):i_sessionsOf N m=some (match sesL m with|none=>([],false)|some l=>(l,true)):=by
 unfold i_sessionsOf
 simp only[joinP]
 rw[i_sessionsOf_l1_eq m (by omega) (by unfold Big at hN;omega),sesOf_r N hN m m [] 0 hs (by simp;omega)]
 cases sesL m<;>rfl
def conv (s:Tsession):Tl15State:=⟨s.number,s.seq,s.index,s.reply⟩
def insK (acc:List Tl15State)(id:Int):Nat→Nat
 |0=>0
 |k+1=>match acc[k]? with
  |some x=>if x.id>id then insK acc id k else k+1
  |none=>k+1
theorem insK_le (acc:List Tl15State)(id:Int):∀k,insK acc id k≤k
 |0=>Nat.le_refl _
 |k+1=>by
  rw[insK]
  split
  ·split
   ·exact Nat.le_succ_of_le (insK_le acc id k)
   ·exact Nat.le_refl _
  ·exact Nat.le_refl _
def insS (acc:List Tl15State)(s:Tl15State):List Tl15State:=acc.take (insK acc s.id acc.length)++s::acc.drop (insK acc s.id acc.length)
theorem insK_hi (acc:List Tl15State)(id:Int):∀k,k≤acc.length→∀j x,insK acc id k≤j→j<k→acc[j]? =some x→x.id>id
 |0,_,j,x,h1,h2,_=>by omega
 |k+1,hk,j,x,h1,h2,hx=>by
  rw[insK]at h1
  rw[List.getElem?_eq_getElem (by omega)]at h1
  simp only at h1
  split at h1
  ·rename_i hgt
   by_cases hj:j=k
   ·subst hj
    rw[List.getElem?_eq_getElem (by omega)]at hx
    cases hx
    exact hgt
   ·exact insK_hi acc id k (by omega) j x h1 (by omega) hx
  ·omega
theorem insK_lo (acc:List Tl15State)(id:Int):∀k,k≤acc.length→∀x,0<insK acc id k→acc[insK acc id k-1]? =some x→x.id≤id
 |0,_,x,h1,_=>by rw[insK]at h1;omega
 |k+1,hk,x,h1,hx=>by
  rw[insK]at h1 hx
  rw[List.getElem?_eq_getElem (by omega:k<acc.length)]at h1 hx
  simp only at h1 hx
  split at h1
  ·rename_i hgt
   rw[IP hgt]at hx
   exact insK_lo acc id k (by omega) x h1 hx
  ·rename_i hgt
   rw[IQ hgt,Nat.add_sub_cancel,List.getElem?_eq_getElem (by omega)]at hx
   cases hx
   omega
abbrev Up (l:List Tl15State):Prop:=l.Pairwise fun a b=>a.id≤b.id
theorem insS_up {acc:List Tl15State}{s:Tl15State}(h:Up acc):Up (insS acc s):=by
 have hle:=insK_le acc s.id acc.length
 unfold insS
 generalize hk:insK acc s.id acc.length=k at hle
 have hlow:∀x∈acc.take k,x.id≤s.id:=by
  intro x hx
  obtain⟨i,hi,rfl⟩:=List.getElem_of_mem hx
  rw[List.length_take]at hi
  have hk1:k-1<acc.length:=by omega
  have h1:=insK_lo acc s.id acc.length (Nat.le_refl _) (acc[k-1]) (by omega) (by rw[hk,List.getElem?_eq_getElem hk1])
  rw[List.getElem_take]
  by_cases hik:i=k-1
  ·subst hik
   exact h1
  ·exact Int.le_trans (List.pairwise_iff_getElem.1 h i (k-1) (by omega) hk1 (by omega)) h1
 have hhigh:∀x∈acc.drop k,s.id≤x.id:=by
  intro x hx
  obtain⟨i,hi,rfl⟩:=List.getElem_of_mem hx
  rw[List.length_drop]at hi
  rw[List.getElem_drop]
  exact Int.le_of_lt (insK_hi acc s.id acc.length (Nat.le_refl _) (k+i) _ (by omega) (by omega) (List.getElem?_eq_getElem (by omega)))
 have h2:=h
 rw[←List.take_append_drop k acc]at h2
 obtain⟨a,b,c⟩:=List.pairwise_append.1 h2
 refine List.pairwise_append.2 ⟨a,List.pairwise_cons.2 ⟨hhigh,b⟩,?_⟩
 intro x hx y hy
 rcases List.mem_cons.1 hy with rfl|hy
 ·exact hlow x hx
 ·exact c x hx y hy
theorem insS_mem {acc:List Tl15State}{s x:Tl15State}:x∈insS acc s↔x=s∨x∈acc:=by
 unfold insS
 generalize insK acc s.id acc.length=k
 constructor
 ·intro h
  rcases List.mem_append.1 h with h|h
  ·exact .inr (List.mem_of_mem_take h)
  ·rcases List.mem_cons.1 h with h|h
   ·exact .inl h
   ·exact .inr (List.mem_of_mem_drop h)
 ·rintro(rfl|h)
  ·simp
  ·rw[←List.take_append_drop k acc]at h
   rcases List.mem_append.1 h with h|h
   ·exact List.mem_append_left _ h
   ·exact List.mem_append_right _ (List.mem_cons_of_mem _ h)
theorem insS_len {acc:List Tl15State}{s:Tl15State}:(insS acc s).length=acc.length+1:=by
 have:=insK_le acc s.id acc.length
 unfold insS
 rw[LA,LC,List.length_take,List.length_drop]
 omega
theorem l2_ok (N:Nat)(acc:List Tl15State)(y:Int×Bool)(hb:acc.length≤1099511627):∀(k m:Nat),k≤acc.length→k<m→s_l15Sessions_l2 N acc y m (k:Int)=some ((insK acc y.1 k:Nat):Int)
 |0,m,_,hm=>by
  obtain⟨m,rfl⟩:∃q,m=q+1:=⟨m-1,by omega⟩
  rw[s_l15Sessions_l2,IQ (by decide)]
  rfl
 |k+1,m,hk,hm=>by
  obtain⟨m,rfl⟩:∃q,m=q+1:=⟨m-1,by omega⟩
  have e:w64 (((k+1:Nat):Int)-1)=(k:Int):=by rw[w64_id (by omega) (by omega)];omega
  rw[s_l15Sessions_l2,IP (by simp only[DT];omega),e,at_lt (by omega:k<acc.length),bO,insK,List.getElem?_eq_getElem (by omega:k<acc.length)]
  simp only
  by_cases h:acc[k].id>y.1
  ·rw[IP (by simpa using h),IP h,l2_ok N acc y hb k m (by omega) (by omega)]
  ·rw[IQ (by simpa using h),IQ h]
theorem s_ses_r (N:Nat)(hN:Big N)(c:List Pair):∀(rest:List Pair)(acc:List Tl15State)(i:Int),(∀p∈rest,okP p=true)→acc.length+rest.length≤1000000→
  ∃r,s_l15Sessions_l1_r N c rest i acc=some r∧match sesL rest with|none=>∃x,r=.inl (x,false)|some l=>r=.inr ((l.map conv).foldl insS acc)
 |[],acc,i,_,_=>⟨_,rfl,rfl⟩
 |p::rest,acc,i,hs,hb=>by
  simp only[LC]at hb
  have ih:=fun acc i hb=>s_ses_r N hN c rest acc i (fun q hq=>hs q (by simp[hq])) hb
  have hp:=hs p (by simp)
  simp only[okP,Bool.and_eq_true,DT]at hp
  have hlen:p.Key.data.toList.length=p.Key.size:=Array.length_toList
  obtain⟨ch,tl,hk⟩:∃ch tl,p.Key.data.toList=ch::tl:=by
   cases h:p.Key.data.toList with
   |nil=>rw[h]at hlen;simp at hlen;omega
   |cons a b=>exact⟨a,b,rfl⟩
  have e0:sat? p.Key 0=some (ch.toNat:Int):=sat_at (t:=p.Key) (k:=0) (r:=tl) (by rw[List.drop_zero];exact hk)
  rw[s_l15Sessions_l1_r]
  simp only[joinP,bO,e0]
  rw[sesL]
  by_cases h:ch=115
  ·subst h
   have hS:isS p=true:=by unfold isS;rw[hk];rfl
   rw[IQ (by decide),IP hS]
   rw[show(1:Int)=((1:Nat):Int)from rfl,sdrop_ok hp.1.1,bO,rdec_spec N hN,bO]
   obtain⟨s,e,hsv⟩:=read_ok N hN (rdec (p.Key.extract 1 p.Key.size)).1 p.Value (by omega)
   rw[e,bO]
   unfold sesP rdV
   cases hr:rdec (p.Key.extract 1 p.Key.size)with
   |mk n b=>
    rw[hr]at hsv
    simp only at hsv⊢
    cases b with
    |false=>exact⟨_,rfl,_,rfl⟩
    |true=>
     simp only[BN,BF,↓reduceIte]
     cases hv:spv p.Value with
     |none=>
      rw[hv]at hsv
      simp only at hsv⊢
      rw[IP (by simp[hsv])]
      exact⟨_,rfl,_,rfl⟩
     |some q=>
      obtain⟨x,y,z⟩:=q
      rw[hv]at hsv
      simp only at hsv⊢
      subst hsv
      cases h3:((rdec x).2&&(rdec y).2)with
      |false=>
       simp only[Bool.not_false,BF,↓reduceIte]
       exact⟨_,rfl,_,rfl⟩
      |true=>
       simp only[BN,BF,↓reduceIte]
       rw[l2_ok N acc (n,true) (by omega) acc.length N (Nat.le_refl _) (by unfold Big at hN;omega),bO]
       have hle:=insK_le acc n acc.length
       have t1:take? acc ((insK acc n acc.length:Nat):Int)=some (acc.take (insK acc n acc.length)):=by
        unfold take?
        rw[IP (by omega),Int.toNat_natCast]
       have t2:drop? acc ((insK acc n acc.length:Nat):Int)=some (acc.drop (insK acc n acc.length)):=by
        unfold drop?
        rw[IP (by omega),Int.toNat_natCast]
       simp only[t1,t2,bO,Int.toNat_natCast]
       have hc1:∀(a b:List Tl15State),a.length+b.length≤68719476736→cat? a b=some (a++b):=fun a b h=>IP h
       rw[hc1 _ _ (by simp;omega),bO,hc1 _ _ (by simp;omega),bO,List.take_of_length_le (l:=acc.drop _) (by rw[List.length_drop];omega),hc1 _ _ (by simp;omega),bO]
       have hins:([]++acc.take (insK acc n acc.length)++[(⟨n,(rdec x).1,(rdec y).1,z⟩:Tl15State)])++acc.drop (insK acc n acc.length)=insS acc (conv ⟨n,(rdec x).1,(rdec y).1,z⟩):=by
        simp[insS,conv]
       rw[hins]
       obtain⟨r,e1,e2⟩:=ih (insS acc (conv ⟨n,(rdec x).1,(rdec y).1,z⟩)) (w64 (i+1)) (by rw[insS_len];omega)
       refine⟨r,e1,?_⟩
       cases hl:sesL rest with
       |none=>rw[hl]at e2;exact e2
       |some l=>rw[hl]at e2;exact e2
  ·have h2:¬ch.toNat=115:=fun e=>h (UInt8.toNat_inj.1 e)
   have hS:¬isS p=true:=by unfold isS;rw[hk];simpa using h
   rw[IP (by simp;omega),IQ hS]
   exact ih acc _ (by omega)
theorem s_ses (N:Nat)(hN:Big N)(m:List Pair)(hs:∀p∈m,okP p=true)(hb:m.length≤1000000):
  ∃r,s_l15Sessions N m=some r∧match sesL m with|none=>r.2=false|some l=>r=((l.map conv).foldl insS [],true):=by
 unfold s_l15Sessions
 simp only[joinP]
 rw[s_l15Sessions_l1_eq m (by omega) (by unfold Big at hN;omega)]
 obtain⟨r,e,h⟩:=s_ses_r N hN m m [] 0 hs (by simp;omega)
 rw[e,bO]
 cases hl:sesL m with
 |none=>
  rw[hl]at h
  obtain⟨x,rfl⟩:=h
  exact⟨_,rfl,rfl⟩
 |some l=>
  rw[hl]at h
  simp only at h
  subst h
  exact⟨_,rfl,rfl⟩
theorem fold_ins:∀(l acc:List Tl15State),Up acc→Up (l.foldl insS acc)∧(l.foldl insS acc).length=acc.length+l.length∧∀x,x∈l.foldl insS acc↔x∈acc∨x∈l
 |[],acc,h=>⟨h,by simp,by simp⟩
 |s::l,acc,h=>by
  obtain⟨a,b,c⟩:=fold_ins l (insS acc s) (insS_up h)
  rw[List.foldl_cons]
  refine⟨a,?_,fun x=> ?_⟩
  ·rw[b,insS_len,LC];omega
  ·rw[c x,insS_mem,List.mem_cons]
   constructor
   ·rintro((h1|h1)|h1)
    ·exact .inr (.inl h1)
    ·exact .inl h1
    ·exact .inr (.inr h1)
   ·rintro(h1|h1|h1)
    ·exact .inl (.inr h1)
    ·exact .inl (.inl h1)
    ·exact .inr h1
theorem ses_from:∀{m:List Pair}{l:List Tsession},sesL m=some l→∀s∈l,∃p∈m,isS p=true∧sesP p=some s
 |[],l,h,s,hs=>by cases h;cases hs
 |p::m,l,h,s,hs=>by
  rw[sesL]at h
  split at h
  ·rename_i h1
   split at h
   ·cases h
   ·rename_i q hq
    cases hr:sesL m with
    |none=>rw[hr]at h;cases h
    |some l'=>
     rw[hr]at h
     simp only[Option.map_some,Option.some.injEq]at h
     subst h
     rcases List.mem_cons.1 hs with rfl|hs
     ·exact⟨p,by simp,h1,hq⟩
     ·obtain⟨p',h2,h3,h4⟩:=ses_from hr s hs
      exact⟨p',by simp[h2],h3,h4⟩
  ·obtain⟨p',h2,h3,h4⟩:=ses_from h s hs
   exact⟨p',by simp[h2],h3,h4⟩
theorem sorted_uniq:∀{m:List Pair},Sorted m→∀p∈m,∀q∈m,p.Key=q.Key→p=q
 |[],_,p,hp,_,_,_=>by cases hp
 |r::m,h,p,hp,q,hq,e=>by
  rcases List.mem_cons.1 hp with h1|h1
  ·rcases List.mem_cons.1 hq with h2|h2
   ·rw[h1,h2]
   ·rw[h1]at e
    exact absurd e (blt_ne (h.1 q h2))
  ·rcases List.mem_cons.1 hq with h2|h2
   ·rw[h2]at e
    exact absurd e.symm (blt_ne (h.1 p h1))
   ·exact sorted_uniq h.2 p h1 q h2 e
theorem sesP_num {p:Pair}{s:Tsession}(hS:isS p=true)(h:sesP p=some s):∃n a b:Nat,n≤1000000000∧a≤1000000000∧b≤1000000000∧s.number=n∧s.seq=a∧s.index=b∧p.Key=(⟨#[115]⟩:BA)++⟨(Lib.decDigits n).toArray⟩∧s.reply.size≤p.Value.size:=by
 unfold sesP at h
 cases hr:rdec (p.Key.extract 1 p.Key.size)with
 |mk n b=>
  rw[hr]at h
  cases b with
  |false=>simp at h
  |true=>
   unfold rdV at h
   cases hv:spv p.Value with
   |none=>rw[hv]at h;simp at h
   |some q=>
    obtain⟨x,y,z⟩:=q
    rw[hv]at h
    simp only at h
    cases h3:((rdec x).2&&(rdec y).2)with
    |false=>rw[h3]at h;simp at h
    |true=>
     rw[h3]at h
     simp only[↓reduceIte,Option.some.injEq]at h
     subst h
     simp only[Bool.and_eq_true]at h3
     obtain⟨n',h4,h5,h6⟩:=rdec_nat (t:=p.Key.extract 1 p.Key.size) (by rw[hr])
     obtain⟨a,a1,a2,_⟩:=rdec_nat h3.1
     obtain⟨c,c1,c2,_⟩:=rdec_nat h3.2
     rw[hr]at h5
     refine⟨n',a,c,h4,a1,c1,h5,a2,c2,?_,?_⟩
     ·rw[←h6]
      have hlen:p.Key.data.toList.length=p.Key.size:=Array.length_toList
      unfold isS at hS
      simp only[DT]at hS
      cases hk:p.Key.data.toList with
      |nil=>rw[hk]at hS;cases hS
      |cons ch tl=>
       rw[hk]at hS hlen
       simp only[List.head?_cons,Option.some.injEq]at hS
       subst hS
       simp only[LC]at hlen
       apply ba_ext'
       rw[ByteArray.data_append,Array.toList_append,ext_toList _ 1 _ (by omega) (Nat.le_refl _),hk,List.drop_one,List.tail_cons,List.take_of_length_le (by omega)]
       rfl
     ·unfold spv at hv
      simp only at hv
      split at hv
      ·split at hv
       ·injection hv with hv
        injection hv with h1 h2
        injection h2 with h2 h3
        subst h3
        simp only
        rw[ByteArray.size_extract,ByteArray.size_extract]
        omega
       ·cases hv
      ·cases hv
theorem ses_uniq {m:List Pair}{l:List Tsession}(hm:Sorted m)(h:sesL m=some l):∀s∈l,∀t∈l,s.number=t.number→s=t:=by
 intro s hs t ht e
 obtain⟨p,p1,p2,p3⟩:=ses_from h s hs
 obtain⟨q,q1,q2,q3⟩:=ses_from h t ht
 obtain⟨n,_,_,_,_,_,n1,_,_,n2,_⟩:=sesP_num p2 p3
 obtain⟨n',_,_,_,_,_,n1',_,_,n2',_⟩:=sesP_num q2 q3
 have:n=n':=by omega
 subst this
 have:=sorted_uniq hm p p1 q q1 (n2.trans n2'.symm)
 subst this
 rw[p3]at q3
 exact Option.some.inj q3
abbrev lexlt (a b:Tsession):Prop:=a.index<b.index∨a.index=b.index∧a.number<b.number
theorem cmp_ok (N:Nat)(a b:Int):cmp_Compare_int N a b=some (if a<b then-1 else if b<a then 1 else 0):=by
 unfold cmp_Compare_int cmp_isNaN_int
 simp only[bO]
 rw[IQ (by simp),IQ (by simp)]
 by_cases h:a<b
 ·rw[IP (by simpa using h),IP h]
 ·rw[IQ (by simpa using h),IQ h]
  by_cases h2:b<a
  ·rw[IP (by simpa using h2),IP h2]
  ·rw[IQ (by simpa using h2),IQ h2]
theorem or_ok (N:Nat)(hN:Big N)(a b:Int):cmp_Or_int N [a,b]=some (if a=0 then b else a):=by
 unfold cmp_Or_int
 simp only[joinP]
 rw[cmp_Or_int_l1_eq [a,b] (by show(2:Nat)≤_;decide) (by unfold Big at hN;show(2:Nat)<N;omega)]
 simp only[cmp_Or_int_l1_r,bO]
 by_cases h:a=0
 ·subst h
  by_cases h2:b=0
  ·subst h2;rfl
  ·simp[h2]
 ·simp[h]
theorem less_ok (N:Nat)(hN:Big N)(a b:Tsession):∃c,i_opened_1 N a b=some c∧(c<0↔lexlt a b):=by
 unfold i_opened_1
 rw[cmp_ok,cmp_ok,bO,bO,or_ok N hN,bO]
 refine⟨_,rfl,?_⟩
 unfold lexlt
 split<;>split<;>(try split)<;>(try split)<;>omega
theorem min_loop (N:Nat)(hN:Big N)(l:List Tsession)(hl:l.length≤1000000):∀(d i m:Nat)(e:Tsession),l.length=i+d→d<m→e∈l→(∀j x,j<i→l[j]? =some x→¬lexlt x e)→
  ∃e',L_MinFunc_session_l1 N l m (i:Int) e.number e.seq e.index e.reply=some (e'.number,e'.seq,e'.index,e'.reply)∧e'∈l∧∀x∈l,¬lexlt x e'
 |0,i,m,e,hi,hm,he,hx=>by
  obtain⟨m,rfl⟩:∃q,m=q+1:=⟨m-1,by omega⟩
  rw[L_MinFunc_session_l1,IQ (by simp;omega)]
  refine⟨e,rfl,he,fun x hx'=> ?_⟩
  obtain⟨j,hj,rfl⟩:=List.getElem_of_mem hx'
  exact hx j _ (by omega) (List.getElem?_eq_getElem hj)
 |d+1,i,m,e,hi,hm,he,hx=>by
  obtain⟨m,rfl⟩:∃q,m=q+1:=⟨m-1,by omega⟩
  rw[L_MinFunc_session_l1,IP (by simp;omega)]
  simp only[joinP]
  rw[at_lt (by omega:i<l.length),bO]
  obtain⟨c,hc,hcl⟩:=less_ok N hN l[i] ⟨e.number,e.seq,e.index,e.reply⟩
  rw[hc,bO,WS (by omega)]
  by_cases h:c<0
  ·rw[IP (by simpa using h)]
   refine min_loop N hN l hl d (i+1) m l[i] (by omega) (by omega) (List.getElem_mem _) ?_
   intro j x hj hjx hlt
   have hle:=hcl.1 h
   by_cases hji:j=i
   ·subst hji
    rw[List.getElem?_eq_getElem (by omega)]at hjx
    cases hjx
    unfold lexlt at hlt
    omega
   ·have:=hx j x (by omega) hjx
    unfold lexlt at*
    simp only at hle
    omega
  ·rw[IQ (by simpa using h)]
   refine min_loop N hN l hl d (i+1) m e (by omega) (by omega) he ?_
   intro j x hj hjx
   by_cases hji:j=i
   ·subst hji
    rw[List.getElem?_eq_getElem (by omega)]at hjx
    cases hjx
    exact fun hlt=>h (hcl.2 hlt)
   ·exact hx j x (by omega) hjx
theorem min_ok (N:Nat)(hN:Big N)(l:List Tsession)(hl:l.length≤1000000)(h0:0<l.length):∃e,L_MinFunc_session N l=some e∧e∈l∧∀x∈l,¬lexlt x e:=by
 unfold L_MinFunc_session
 rw[IQ (by simp;omega)]
 simp only[joinP]
 have a0:at? l 0=some l[0]:=at_lt (k:=0) h0
 rw[a0,bO]
 obtain⟨e,h1,h2,h3⟩:=min_loop N hN l hl (l.length-1) 1 N l[0] (by omega) (by unfold Big at hN;omega) (List.getElem_mem _) (by
  intro j x hj hjx
  have:j=0:=by omega
  subst this
  rw[List.getElem?_eq_getElem h0]at hjx
  cases hjx
  unfold lexlt
  omega)
 rw[show(1:Int)=((1:Nat):Int)from rfl,h1]
 exact⟨e,rfl,h2,h3⟩
theorem least_loop (N:Nat)(l:List Tl15State)(hl:l.length≤1000000)(hu:Up l):∀(d i m b:Nat),l.length=i+d→d<m→(hb:b<i)→(hbl:b<l.length)→(∀j (hj:j<l.length),j<i→l[b].at'<l[j].at'∨l[b].at'=l[j].at'∧b≤j)→
  ∃b':Nat,s_l15Open_i1_l1 N l m (b:Int) (i:Int)=some (b':Int)∧∃hb':b'<l.length,∀j (hj:j<l.length),l[b'].at'<l[j].at'∨l[b'].at'=l[j].at'∧b'≤j
 |0,i,m,b,hi,hm,hb,hbl,hx=>by
  obtain⟨m,rfl⟩:∃q,m=q+1:=⟨m-1,by omega⟩
  rw[s_l15Open_i1_l1,IQ (by simp;omega)]
  exact⟨b,rfl,hbl,fun j hj=>hx j hj (by omega)⟩
 |d+1,i,m,b,hi,hm,hb,hbl,hx=>by
  obtain⟨m,rfl⟩:∃q,m=q+1:=⟨m-1,by omega⟩
  rw[s_l15Open_i1_l1,IP (by simp;omega)]
  simp only[joinP]
  have hil:i<l.length:=by omega
  rw[at_lt hil,at_lt hbl,bO,bO,WS (by omega)]
  by_cases h:l[i].at'<l[b].at'
  ·rw[IP (by simpa using h)]
   refine least_loop N l hl hu d (i+1) m i (by omega) (by omega) (by omega) hil ?_
   intro j hj hji
   by_cases e:j=i
   ·subst e
    omega
   ·have:=hx j hj (by omega)
    omega
  ·rw[IQ (by simpa using h)]
   refine least_loop N l hl hu d (i+1) m b (by omega) (by omega) (by omega) hbl ?_
   intro j hj hji
   by_cases e:j=i
   ·subst e
    omega
   ·exact hx j hj (by omega)
theorem gone_same (N:Nat)(hN:Big N){l:List Tsession}{all:List Tl15State}(hl:l.length≤1000000)(h3:0<l.length)(hu:Up all)(hlen:all.length=l.length)(hmem:∀x,x∈all↔ ∃s∈l,conv s=x):
  ∃(e:Tsession)(b:Nat)(x:Tl15State),L_MinFunc_session N l=some e∧e∈l∧s_l15Open_i1_l1 N all N 0 1=some (b:Int)∧at? all (b:Int)=some x∧x.id=e.number:=by
 obtain⟨e,h1,h2,hmin⟩:=min_ok N hN l hl h3
 obtain⟨b,e1,hb,e2⟩:=least_loop N all (by omega) hu (all.length-1) 1 N 0 (by omega) (by unfold Big at hN;omega) (by omega) (by omega) (by
  intro j hj hj1
  have:j=0:=by omega
  subst this
  exact .inr ⟨rfl,Nat.le_refl _⟩)
 refine⟨e,b,all[b],h1,h2,e1,at_lt hb,?_⟩
 obtain⟨s,hs,hc⟩:=(hmem all[b]).1 (List.getElem_mem _)
 have m1:=hmin s hs
 obtain⟨j,hj,hje⟩:=List.getElem_of_mem ((hmem (conv e)).2 ⟨e,h2,rfl⟩)
 have m2:=e2 j hj
 rw[hje,←hc]at m2
 have m3:b≤j→all[b].id≤all[j].id:=by
  intro hbj
  by_cases h:b=j
  ·subst h;exact Int.le_refl _
  ·exact List.pairwise_iff_getElem.1 hu b j hb hj (by omega)
 rw[hje,←hc]at m3
 rw[←hc]
 unfold lexlt at m1
 simp only[conv]at m2 m3⊢
 omega
theorem find_loop (N:Nat)(c:Command)(all:List Tl15State×Bool)(hl:all.1.length≤1000000):∀(d i m:Nat)(a:Int),all.1.length=i+d→d<m→
  (a= -1∧(∀j x,j<i→all.1[j]? =some x→x.id≠c.Session)∨∃(k:Nat)(x:Tl15State),a=k∧all.1[k]? =some x∧x.id=c.Session)→
  ∃a',s_Act_l1 N c all m a (i:Int)=some a'∧(a'= -1∧(∀x∈all.1,x.id≠c.Session)∨∃(k:Nat)(x:Tl15State),a'=k∧all.1[k]? =some x∧x.id=c.Session)
 |0,i,m,a,hi,hm,ha=>by
  obtain⟨m,rfl⟩:∃q,m=q+1:=⟨m-1,by omega⟩
  rw[s_Act_l1,IQ (by simp;omega)]
  refine⟨a,rfl,?_⟩
  rcases ha with ⟨h1,h2⟩|h
  ·refine .inl ⟨h1,fun x hx=> ?_⟩
   obtain⟨j,hj,rfl⟩:=List.getElem_of_mem hx
   exact h2 j _ (by omega) (List.getElem?_eq_getElem hj)
  ·exact .inr h
 |d+1,i,m,a,hi,hm,ha=>by
  obtain⟨m,rfl⟩:∃q,m=q+1:=⟨m-1,by omega⟩
  rw[s_Act_l1,IP (by simp;omega)]
  simp only[joinP]
  have hil:i<all.1.length:=by omega
  rw[at_lt hil,bO,WS (by omega)]
  by_cases h:all.1[i].id=c.Session
  ·rw[IP (by simpa using h)]
   exact find_loop N c all hl d (i+1) m i (by omega) (by omega) (.inr ⟨i,_,rfl,List.getElem?_eq_getElem hil,h⟩)
  ·rw[IQ (by simpa using h)]
   refine find_loop N c all hl d (i+1) m a (by omega) (by omega) ?_
   rcases ha with ⟨h1,h2⟩|h1
   ·refine .inl ⟨h1,fun j x hj hx=> ?_⟩
    by_cases e:j=i
    ·subst e
     rw[List.getElem?_eq_getElem hil]at hx
     cases hx
     exact h
    ·exact h2 j x (by omega) hx
   ·exact .inr h1
theorem idx_loop (N:Nat)(c:Command)(l:List Tsession):∀(rest pre:List Tsession),l=pre++rest→l.length≤1000000→(∀x∈pre,x.number≠c.Session)→
  ∃r,L_IF_session_l1_r N l c rest (pre.length:Int)=some r∧(r=.inr ()∧(∀x∈l,x.number≠c.Session)∨∃(k:Nat)(x:Tsession),r=.inl (k:Int)∧l[k]? =some x∧x.number=c.Session)
 |[],pre,he,hl,hp=>⟨_,rfl,.inl ⟨rfl,by rw[he,List.append_nil];exact hp⟩⟩
 |s::rest,pre,he,hl,hp=>by
  rw[L_IF_session_l1_r,bO]
  unfold i_acted_1
  rw[bO]
  have hl2:=hl
  rw[he,LA,LC]at hl2
  by_cases h:s.number=c.Session
  ·rw[IP (by simpa using h)]
   refine⟨_,rfl,.inr ⟨pre.length,s,rfl,?_,h⟩⟩
   rw[he,List.getElem?_append_right (Nat.le_refl _)]
   simp
  ·rw[IQ (by simpa using h),WS (by omega)]
   have:=idx_loop N c l rest (pre++[s]) (by rw[he];simp) hl (by
    intro x hx
    rcases List.mem_append.1 hx with hx|hx
    ·exact hp x hx
    ·rw[List.mem_singleton.1 hx];exact h)
   rw[LA,List.length_singleton]at this
   exact this
theorem find_same (N:Nat)(hN:Big N)(c:Command){l:List Tsession}{all:List Tl15State}(hl:l.length≤1000000)(hlen:all.length=l.length)(hmem:∀x,x∈all↔ ∃s∈l,conv s=x)(huq:∀s∈l,∀t∈l,s.number=t.number→s=t):
  (s_Act_l1 N c (all,true) N (-1) 0=some (-1)∧L_IF_session N l c=some (-1))∨
  ∃(k j:Nat)(s:Tsession),s∈l∧s.number=c.Session∧s_Act_l1 N c (all,true) N (-1) 0=some (k:Int)∧at? all (k:Int)=some (conv s)∧L_IF_session N l c=some (j:Int)∧at? l (j:Int)=some s:=by
 obtain⟨a,e1,ha⟩:=find_loop N c (all,true) (by show all.length≤_;omega) all.length 0 N (-1) (by show all.length=_;omega) (by unfold Big at hN;omega) (.inl ⟨rfl,fun j x h=>by omega⟩)
 obtain⟨r,e2,hr⟩:=idx_loop N c l l [] (by simp) hl (by simp)
 have e3:L_IF_session N l c=r.elim some (fun _=>some (-1)):=by
  unfold L_IF_session
  simp only[joinP]
  rw[L_IF_session_l1_eq l c (by omega) (by unfold Big at hN;omega)]
  rw[show((([]:List Tsession).length:Nat):Int)=0 from rfl]at e2
  rw[e2]
  cases r<;>rfl
 rw[show((0:Nat):Int)=0 from rfl]at e1
 simp only at ha
 rcases ha with ⟨rfl,h1⟩|⟨k,x,rfl,h1,h2⟩
 ·rcases hr with ⟨rfl,h2⟩|⟨j,s,rfl,h2,h3⟩
  ·exact .inl ⟨e1,e3⟩
  ·have:=h1 (conv s) ((hmem _).2 ⟨s,List.mem_of_getElem? h2,rfl⟩)
   exact absurd h3 this
 ·obtain⟨s,hs,rfl⟩:=(hmem x).1 (List.mem_of_getElem? h1)
  rcases hr with ⟨rfl,h3⟩|⟨j,t,rfl,h3,h4⟩
  ·exact absurd h2 (h3 s hs)
  ·have:s=t:=huq s hs t (List.mem_of_getElem? h3) (h2.trans h4.symm)
   subst this
   have at1:∀{α:Type}(l:List α)(k:Nat)(x:α),l[k]? =some x→at? l (k:Int)=some x:=by
    intro α l k x h
    unfold at?
    rw[IP (by omega),Int.toNat_natCast,h]
   exact .inr ⟨k,j,s,hs,h4,e1,at1 _ _ _ h1,e3,at1 _ _ _ h3⟩
theorem scat_le {t u:BA}(h:t.size+u.size≤9223372036854775807):scat? t u=some (t++u):=IP h
abbrev dtx (n:Int):BA:=⟨(Lib.itoa n).toArray⟩
theorem dtx_size {n:Int}(h0: -9223372036854775808≤n)(h1:n≤9223372036854775807):(dtx n).size≤21:=by
 have:(dtx n).size=(Lib.itoa n).length:=List.size_toArray
 have:=Lib.itoa_length_le n h0 h1
 omega
theorem dec_dtx (N:Nat)(hN:Big N){n:Int}(h0: -9223372036854775808≤n)(h1:n≤9223372036854775807):s_Decimal N n=some (dtx n):=dec_spec N hN n h0 h1
theorem decim_impl (N:Nat){n:Int}(h0: -9223372036854775808≤n)(h1:n≤9223372036854775807):i_Decimal N n=some (dtx n):=by
 unfold i_Decimal Q_Itoa itoa?
 rw[IP ⟨h0,h1⟩,itoaL_eq]
 rfl
def skey (n:Int):BA:=(⟨#[115]⟩:BA)++dtx n
def stx (a b:Int)(r:BA):BA:=dtx a++⟨#[32]⟩++dtx b++⟨#[32]⟩++r
abbrev small (n:Int):Prop:=0≤n∧n≤1000000001
theorem skey_spec (N:Nat)(hN:Big N){n:Int}(h:small n):s_l15Key N n=some (skey n):=by
 unfold s_l15Key
 have z:=dtx_size (n:=n) (by omega) (by omega)
 have z1:(⟨#[115]⟩:BA).size=1:=rfl
 rw[dec_dtx N hN (n:=n) (by omega) (by omega),bO,scat_le (by omega)]
 rfl
theorem skey_impl (N:Nat){n:Int}(h:small n):i_sessionKey N n=some (skey n):=by
 unfold i_sessionKey
 have z:=dtx_size (n:=n) (by omega) (by omega)
 have z1:(⟨#[115]⟩:BA).size=1:=rfl
 rw[decim_impl N (by omega) (by omega),bO,scat_le (by omega)]
 rfl
theorem stx_spec (N:Nat)(hN:Big N)(id:Int){a b:Int}{r:BA}(ha:small a)(hb:small b)(hr:r.size≤1099511627):s_l15Text N ⟨id,a,b,r⟩=some (stx a b r):=by
 unfold s_l15Text
 have y1:=dtx_size (n:=a) (by omega) (by omega)
 have y2:=dtx_size (n:=b) (by omega) (by omega)
 have z1:(⟨#[32]⟩:BA).size=1:=rfl
 simp only[dec_dtx N hN (n:=a) (by omega) (by omega),dec_dtx N hN (n:=b) (by omega) (by omega),bO]
 rw[scat_le (by omega),bO,scat_le (by simp only[BZ];omega),bO,scat_le (by simp only[BZ];omega),bO,scat_le (by simp only[BZ];omega),bO]
 rfl
theorem withS_impl (N:Nat)(hN:Big N)(m:List Pair){n a b:Int}{r:BA}(hn:small n)(ha:small a)(hb:small b)(hr:r.size≤1099511627):i_withSession N m ⟨n,a,b,r⟩=(i_withKey N m (skey n) (stx a b r)).bind some:=by
 unfold i_withSession
 have y1:=dtx_size (n:=a) (by omega) (by omega)
 have y2:=dtx_size (n:=b) (by omega) (by omega)
 have z1:(⟨#[32]⟩:BA).size=1:=rfl
 simp only[skey_impl N hn,decim_impl N (n:=a) (by omega) (by omega),decim_impl N (n:=b) (by omega) (by omega),bO]
 rw[scat_le (by omega),bO,scat_le (by simp only[BZ];omega),bO,scat_le (by simp only[BZ];omega),bO,scat_le (by simp only[BZ];omega),bO]
 rfl
theorem put_len {m A B:List Pair}{k v:BA}(h:Spl m k A B):(putM A B k v).length≤m.length+1:=by
 have:=rest_len B k
 rw[h.eq]
 simp only[putM,LA,LC]
 omega
theorem cut_len {m A B:List Pair}{k:BA}(h:Spl m k A B):(cutM A B k).length≤m.length:=by
 have:=rest_len B k
 rw[h.eq]
 simp only[cutM,LA]
 omega
theorem put_both (N:Nat)(hN:Big N){m:List Pair}(hs:Sorted m)(hl:m.length≤900)(k v:BA):∃m',s_l06Put N m k v=some m'∧i_withKey N m k v=some m'∧Sorted m'∧m'.length≤m.length+1:=by
 obtain⟨A,B,h⟩:=spl_of (k:=k) hs
 exact⟨_,put_ok N hN h (by omega),withKey_ok N hN h (by omega),putM_sorted hs h,put_len h⟩
theorem cut_both (N:Nat)(hN:Big N){m:List Pair}(hs:Sorted m)(hl:m.length≤900)(k:BA):∃m',s_l06Cut N m k=some m'∧i_withoutKey N m k=some m'∧Sorted m'∧m'.length≤m.length:=by
 obtain⟨A,B,h⟩:=spl_of (k:=k) hs
 exact⟨_,cut_ok N hN h (by omega),withoutKey_ok N hN h (by omega),cutM_sorted hs h,cut_len h⟩
theorem val_size {m A B:List Pair}{k:BA}(h:Spl m k A B)(hp:∀p∈m,okP p=true):(valOf B k).size≤40:=by
 cases hf:found B k with
 |false=>rw[valOf_none hf];decide
 |true=>
  obtain⟨p,_,_,h3,h4⟩:=at_found h hf
  rw[←h3]
  have:=hp p h4
  simp only[okP,Bool.and_eq_true,DT]at this
  omega
theorem rdec_small (t:BA):0≤(rdec t).1∧(rdec t).1≤1000000000:=by
 unfold rdec
 cases h:rdN t with
 |none=>simp
 |some n=>
  have:=(rdN_some.1 h).1
  simp only
  omega
def opK (N:Nat)(x1:List Pair)(x2:Int)(x3:List Tsession)(v:Int×Bool):Option (List Pair×BA×Bool):=
  (if(!v.2)=true then some ([],(⟨#[]⟩:BA),false)
   else joinP (fun(v186:(List Pair))=>
     (i_withSession N v186 (Tsession.mk v.1 0 x2 (⟨#[]⟩:BA))).bind fun y199=>
     (i_Decimal N (w64 (v.1+1))).bind fun y206=>
     (i_withKey N y199 (⟨#[110]⟩:BA) y206).bind fun y207=>
     (i_Decimal N v.1).bind fun y210=>
     (scat? (⟨#[111,112,101,110,32]⟩:BA) y210).bind fun x211=>
     some (y207,x211,true)) fun j186=>
     (if(decide ((x3.length:Int)≥3))=true then
      (L_MinFunc_session N x3).bind fun y191=>
      (i_sessionKey N y191.number).bind fun y194=>
      (i_withoutKey N x1 y194).bind fun y195=>
      j186 y195
      else j186 x1))
theorem opened_K (N:Nat)(m:List Pair)(idx:Int)(l:List Tsession):i_opened N m idx l=((i_pairNo N m (⟨#[110]⟩:BA)).bind fun y169=>(if y169.2=true then(at? m y169.1).bind fun x173=>(i_ReadDecimal N x173.Value).bind fun y174=>opK N m idx l (y174.1,y174.2)else opK N m idx l (1,true))):=rfl
theorem open_same (N:Nat)(hN:Big N){m:List Pair}(hs:Sorted m)(hp:∀p∈m,okP p=true)(hl:m.length≤60)(idx:Int)(hi:0≤idx∧idx≤100000){l:List Tsession}{all:List Tl15State}(hu:Up all)(hlen:all.length=l.length)(hll:l.length≤60)
  (hmem:∀x,x∈all↔ ∃s∈l,conv s=x) (hnum:∀s∈l,small s.number):
  ∃r r',s_l15Open_i1 N m idx all=some r∧i_opened N m idx l=some r'∧(r.2.2=false∧r'.2.2=false∨r=r'∧r.1.length≤62):=by
 obtain⟨A,B,h⟩:=spl_of (k:=(⟨#[110]⟩:BA)) hs
 obtain⟨n,ok,hn,hnx,him⟩:∃n ok,(0≤n∧n≤1000000000)∧s_l15Next N m=some (n,ok)∧
   ∀(K:Int×Bool→Option (List Pair×BA×Bool)),((i_pairNo N m (⟨#[110]⟩:BA)).bind fun y169=>(if y169.2=true then(at? m y169.1).bind fun x173=>(i_ReadDecimal N x173.Value).bind fun y174=>K (y174.1,y174.2)else K (1,true)))=K (n,ok):=by
  unfold s_l15Next
  rw[at_ok N hN h (by omega),bO]
  cases hf:found B ⟨#[110]⟩with
  |false=>
   refine⟨1,true,by omega,?_,fun K=> ?_⟩
   ·have e:(if false=true then(A.length:Int)else-1)= -1:=rfl
    rw[e,IP (by decide)]
   ·rw[pairNo_ok N hN h (by omega),hf]
    rfl
  |true=>
   obtain⟨p,h1,h2,h3,h4⟩:=at_found h hf
   have hv:=val_size h hp
   refine⟨(rdec (valOf B ⟨#[110]⟩)).1,(rdec (valOf B ⟨#[110]⟩)).2,rdec_small _,?_,fun K=> ?_⟩
   ·rw[IP rfl,IQ (by simp),get_ok N hN h (by omega),bO,rdec_spec N hN,bO]
   ·rw[pairNo_ok N hN h (by omega),hf,bO]
    simp only[↓reduceIte]
    rw[h1,bO,h3,rdec_impl N _ (by omega),bO]
 rw[opened_K,him]
 unfold s_l15Open_i1 opK
 simp only[joinP]
 rw[hnx,bO]
 simp only
 cases ok with
 |false=>exact⟨_,_,rfl,rfl,.inl ⟨rfl,rfl⟩⟩
 |true=>
  simp only[BN,BF,↓reduceIte]
  have hn1:w64 (n+1)=n+1:=w64_id (by omega) (by omega)
  have y1:=dtx_size (n:=n) (by omega) (by omega)
  have z1:(⟨#[111,112,101,110,32]⟩:BA).size=5:=rfl
  have he:(⟨#[]⟩:BA).size≤1099511627:=by decide
  have tail:∀m1:List Pair,Sorted m1→m1.length≤60→∃r,((s_l15Key N n).bind fun y451=>(s_l15Text N (Tl15State.mk 0 0 idx (⟨#[]⟩:BA))).bind fun y452=>(s_l06Put N m1 y451 y452).bind fun y453=>(s_Decimal N (w64 (n+1))).bind fun y460=>(s_l06Put N y453 (⟨#[110]⟩:BA) y460).bind fun y461=>(s_Decimal N n).bind fun y464=>(scat? (⟨#[111,112,101,110,32]⟩:BA) y464).bind fun x465=>some (y461,x465,true))=some r∧
    ((i_withSession N m1 (Tsession.mk n 0 idx (⟨#[]⟩:BA))).bind fun y199=>(i_Decimal N (w64 (n+1))).bind fun y206=>(i_withKey N y199 (⟨#[110]⟩:BA) y206).bind fun y207=>(i_Decimal N n).bind fun y210=>(scat? (⟨#[111,112,101,110,32]⟩:BA) y210).bind fun x211=>some (y207,x211,true))=some r∧r.1.length≤62:=by
   intro m1 s1 l1
   obtain⟨m2,a1,a2,s2,l2⟩:=put_both N hN s1 (by omega) (skey n) (stx 0 idx ⟨#[]⟩)
   obtain⟨m3,b1,b2,s3,l3⟩:=put_both N hN s2 (by omega) ⟨#[110]⟩ (dtx (n+1))
   rw[skey_spec N hN ⟨by omega,by omega⟩,bO,stx_spec N hN 0 ⟨by omega,by omega⟩ ⟨by omega,by omega⟩ he,bO,a1,bO,hn1,dec_dtx N hN (n:=n+1) (by omega) (by omega),bO,b1,bO,dec_dtx N hN (n:=n) (by omega) (by omega),bO,scat_le (by omega)]
   have d1:=decim_impl N (n:=n+1) (by omega) (by omega)
   have d2:=decim_impl N (n:=n) (by omega) (by omega)
   rw[withS_impl N hN m1 ⟨by omega,by omega⟩ ⟨by omega,by omega⟩ ⟨by omega,by omega⟩ he]
   simp only[a2,d1,d2,b2,bO]
   rw[scat_le (by omega)]
   simp only[bO]
   exact⟨_,rfl,rfl,by simp only;omega⟩
  by_cases h3:3≤l.length
  ·rw[IP (by simp;omega),IP (by simp;omega)]
   obtain⟨e,b,x,g1,g2,g3,g4,g5⟩:=gone_same N hN (by omega) (by omega) hu hlen hmem
   obtain⟨m1,c1,c2,s1,l1⟩:=cut_both N hN hs (by omega) (skey e.number)
   obtain⟨r,r1,r2,r3⟩:=tail m1 s1 (by omega)
   refine⟨r,r,?_,?_,.inr ⟨rfl,r3⟩⟩
   ·rw[g3,bO,g4,bO,g5,skey_spec N hN (hnum e g2),bO,c1,bO]
    exact r1
   ·rw[g1,bO,skey_impl N (hnum e g2),bO,c2,bO]
    exact r2
  ·rw[IQ (by simp;omega),IQ (by simp;omega)]
   obtain⟨r,r1,r2,r3⟩:=tail m hs hl
   exact⟨r,r,r1,r2,.inr ⟨rfl,r3⟩⟩
theorem op_same (N:Nat)(hN:Big N){m:List Pair}(hs:Sorted m)(hp:∀p∈m,okP p=true)(hl:m.length≤60)(c:Command)(hk:c.Key.size≤1099511627):
  ∃r,s_l15Op_i1 N m c=some r∧i_operated N m c=some r∧Sorted r.1∧r.1.length≤61∧r.2.size≤44:=by
 have z1:(⟨#[107]⟩:BA).size=1:=rfl
 have z2:(⟨#[103,111,116,32]⟩:BA).size=4:=rfl
 unfold s_l15Op_i1 i_operated
 rw[scat_le (by omega)]
 simp only[bO,joinP]
 generalize (⟨#[107]⟩:BA)++c.Key=k
 obtain⟨A,B,h⟩:=spl_of (k:=k) hs
 have hv:=val_size h hp
 obtain⟨m1,a1,a2,s1,l1⟩:=put_both N hN hs (by omega) k c.Value
 obtain⟨m2,b1,b2,s2,l2⟩:=cut_both N hN hs (by omega) k
 rw[at_ok N hN h (by omega),get_ok N hN h (by omega),pairNo_ok N hN h (by omega)]
 simp only[bO]
 cases hf:found B k with
 |true=>
  obtain⟨p,h1,h2,h3,h4⟩:=at_found h hf
  have e1:decide ((if true=true then(A.length:Int)else-1)≥0)=true:=by simp
  simp only[↓reduceIte,h1,bO,h3,e1,a1,a2,b1,b2,BN,BF]
  rw[scat_le (by omega)]
  simp only[bO]
  split
  ·exact⟨_,rfl,rfl,hs,by simp only;omega,by simp only[BZ];omega⟩
  ·split
   ·exact⟨_,rfl,rfl,s1,by simp only;omega,by simp only;decide⟩
   ·split
    ·exact⟨_,rfl,rfl,s2,by simp only;omega,by simp only;decide⟩
    ·split
     ·exact⟨_,rfl,rfl,hs,by simp only;omega,by simp only;decide⟩
     ·exact⟨_,rfl,rfl,s1,by simp only;omega,by simp only;decide⟩
 |false=>
  have e1:decide ((if false=true then(A.length:Int)else-1)≥0)=false:=by simp
  simp only[e1,valOf_none hf,a1,a2,b1,b2,Bool.not_false,BF,↓reduceIte,bO]
  split
  ·exact⟨_,rfl,rfl,hs,by simp only;omega,by simp only;decide⟩
  ·split
   ·exact⟨_,rfl,rfl,s1,by simp only;omega,by simp only;decide⟩
   ·split
    ·exact⟨_,rfl,rfl,hs,by simp only;omega,by simp only;decide⟩
    ·split
     ·exact⟨_,rfl,rfl,hs,by simp only;omega,by simp only;decide⟩
     ·exact⟨_,rfl,rfl,s1,by simp only;omega,by simp only;decide⟩
theorem cat_nil {m:List Pair}(h:m.length≤2000000):cat? ([]:List Pair) m=some m:=by
 unfold cat?
 rw[IP (by simp;omega),List.nil_append]
theorem act_same (N:Nat)(hN:Big N)(m:List Pair)(idx:Int)(c:Command)(hm:∀p∈m,smallP p)(hl:m.length≤2000000)(hk:c.Key.size≤1099511627):
  ∃r,s_Act N m idx c=some r∧i_Act N m idx c=some r∧r.1.length≤62∧∀p∈r.1,okP p=true:=by
 have none_ok:(([]:List Pair),(⟨#[]⟩:BA),false).1.length≤62∧∀p∈(([]:List Pair),(⟨#[]⟩:BA),false).1,okP p=true:=⟨by decide,by simp⟩
 unfold s_Act i_Act
 rw[sesOf_ok N hN m hm (by omega),mapok_spec N hN m (by omega),mapok_impl N hN m (by omega),cmdOk_spec,cmdOk_impl,in_eq,within_eq]
 simp only[bO]
 cases h1:mok m with
 |false=>exact⟨_,rfl,rfl,none_ok⟩
 |true=>
  obtain⟨hs,hp,h60⟩:=mok_ok h1
  cases h2:cmdOk c with
  |false=>exact⟨_,rfl,rfl,none_ok⟩
  |true=>
   cases h3:decide (0≤idx∧idx≤100000)with
   |false=>exact⟨_,rfl,rfl,none_ok⟩
   |true=>
    simp only[DT]at h3
    simp only[BN,BF,↓reduceIte]
    obtain⟨r,e1,e2⟩:=s_ses N hN m hp (by omega)
    rw[e1,bO]
    cases hsl:sesL m with
    |none=>
     rw[hsl]at e2
     simp only at e2
     rw[e2]
     exact⟨_,rfl,rfl,none_ok⟩
    |some l=>
     rw[hsl]at e2
     simp only at e2
     subst e2
     simp only[BN,BF,↓reduceIte]
     obtain⟨f1,f2,f3⟩:=fold_ins (l.map conv) [] List.Pairwise.nil
     generalize (l.map conv).foldl insS []=all at f1 f2 f3⊢
     have hlen:all.length=l.length:=by rw[f2];simp
     have hmem:∀x,x∈all↔ ∃s∈l,conv s=x:=fun x=>by rw[f3 x,List.mem_map];simp
     have hll:l.length≤m.length:=by
      have:∀(m:List Pair)(l:List Tsession),sesL m=some l→l.length≤m.length:=by
       intro m
       induction m with
       |nil=>intro l h;cases h;exact Nat.le_refl _
       |cons p m ih=>
        intro l h
        rw[sesL]at h
        split at h
        ·split at h
         ·cases h
         ·cases hr:sesL m with
          |none=>rw[hr]at h;cases h
          |some l'=>
           rw[hr]at h
           simp only[Option.map_some,Option.some.injEq]at h
           subst h
           have:=ih l' hr
           simp only[LC]
           omega
        ·have:=ih l h
         simp only[LC]
         omega
      exact this m l hsl
     have hnum:∀s∈l,small s.number∧small s.seq∧small s.index:=by
      intro s hs'
      obtain⟨p,_,p2,p3⟩:=ses_from hsl s hs'
      obtain⟨n,a,b,n1,a1,b1,n2,a2,b2,_⟩:=sesP_num p2 p3
      refine⟨⟨?_,?_⟩,⟨?_,?_⟩,⟨?_,?_⟩⟩<;>omega
     rw[cat_nil hl]
     unfold i_acted_i1
     simp only[bO]
     by_cases ho:(c.Op==1)=true
     ·rw[IP ho,IP ho]
      obtain⟨r,r',g1,g2,g3⟩:=open_same N hN hs hp h60 idx h3 f1 hlen (by omega) hmem (fun s hs'=>(hnum s hs').1)
      rw[g1,g2]
      simp only[bO]
      rcases g3 with ⟨q1,q2⟩|⟨rfl,q⟩
      ·rw[q1,q2]
       exact⟨_,rfl,rfl,none_ok⟩
      ·obtain⟨m',t,ok⟩:=r
       simp only at q⊢
       cases ok with
       |false=>exact⟨_,rfl,rfl,none_ok⟩
       |true=>
        simp only[BN,BF,↓reduceIte]
        rw[mapok_spec N hN m' (by omega),mapok_impl N hN m' (by omega),cat_nil (by omega)]
        simp only[bO]
        cases hq:mok m' with
        |false=>exact⟨_,rfl,rfl,none_ok⟩
        |true=>exact⟨_,rfl,rfl,q,(mok_ok hq).2.1⟩
     ·rw[IQ ho,IQ ho]
      simp only[joinP]
      have same:∀t:BA,((i_MapOk N m).bind fun y188=>if(!y188)=true then some (([]:List Pair),(⟨#[]⟩:BA),false)else(cat? ([]:List Pair) m).bind fun x191=>some (x191,t,true))=some (m,t,true):=by
       intro t
       rw[mapok_impl N hN m (by omega),h1,cat_nil hl]
       rfl
      rcases find_same N hN c (by omega) hlen hmem (ses_uniq hs hsl)with ⟨q1,q2⟩|⟨k,j,s,hs1,hs2,q1,q2,q3,q4⟩
      ·rw[q1,q2]
       simp only[bO]
       rw[IP (by decide),IP (by decide)]
       simp only[bO,BN,BF,↓reduceIte]
       rw[same]
       exact⟨_,rfl,rfl,by simp only;omega,hp⟩
      ·rw[q1,q3]
       simp only[bO]
       rw[IQ (by simp),IQ (by simp),q2,q4]
       simp only[bO,conv]
       by_cases c1:decide (c.Seq<s.seq)=true
       ·rw[IP c1,IP c1]
        simp only[bO,BN,BF,↓reduceIte]
        rw[same]
        exact⟨_,rfl,rfl,by simp only;omega,hp⟩
       ·rw[IQ c1,IQ c1]
        by_cases c2:(c.Seq==s.seq)=true
        ·rw[IP c2,IP c2]
         simp only[bO,BN,BF,↓reduceIte]
         rw[same]
         exact⟨_,rfl,rfl,by simp only;omega,hp⟩
        ·rw[IQ c2,IQ c2]
         by_cases c3:decide (c.Seq>w64 (s.seq+1))=true
         ·rw[IP c3,IP c3]
          simp only[bO,BN,BF,↓reduceIte]
          rw[same]
          exact⟨_,rfl,rfl,by simp only;omega,hp⟩
         ·rw[IQ c3,IQ c3]
          obtain⟨⟨m1,t⟩,o1,o2,o3,o4,o5⟩:=op_same N hN hs hp h60 c hk
          have hn:=hnum s hs1
          have hsq:small c.Seq:=by
           have h4:=h2
           unfold cmdOk at h4
           simp only[DT]at h4
           omega
          simp only at o3 o4 o5
          obtain⟨m2,b1,b2,b3,b4⟩:=put_both N hN o3 (by omega) (skey s.number) (stx c.Seq idx t)
          rw[o1,o2]
          simp only[bO]
          rw[skey_spec N hN hn.1,stx_spec N hN s.number hsq ⟨h3.1,by omega⟩ (by omega),←hs2,withS_impl N hN m1 hn.1 hsq ⟨h3.1,by omega⟩ (by omega),b2]
          simp only[bO,b1]
          rw[mapok_spec N hN m2 (by omega)]
          simp only[BN,BF,↓reduceIte]
          rw[mapok_impl N hN m2 (by omega),cat_nil (by omega)]
          simp only[bO]
          cases hq:mok m2 with
          |false=>exact⟨_,rfl,rfl,none_ok⟩
          |true=>exact⟨_,rfl,rfl,by simp only;omega,(mok_ok hq).2.1⟩
theorem rows_push (ns:List Int)(acc:BA):ns.foldl (fun r n=>r.push (UInt8.ofNat n.toNat)) acc=⟨acc.data++(ns.map fun n=>UInt8.ofNat n.toNat).toArray⟩:=by
 induction ns generalizing acc with
 |nil=>simp
 |cons n ns ih=>
  rw[List.foldl_cons,ih]
  apply ByteArray.ext
  simp[ByteArray.push]
theorem strOf_data (ns:List Int):strOf ns=⟨(ns.map fun n=>UInt8.ofNat n.toNat).toArray⟩:=by
 show ns.foldl _ _=_
 rw[rows_push]
 apply ByteArray.ext
 simp
theorem strOf_cat (a b:List Int):strOf (a++b)=strOf a++strOf b:=by
 rw[strOf_data,strOf_data,strOf_data,ba_cat,List.map_append]
theorem strOf_ints (t:BA):strOf (intsOf t)=t:=by
 rw[strOf_data]
 unfold intsOf
 apply ByteArray.ext
 rw[List.map_map]
 have:∀l:List UInt8,l.map ((fun n:Int=>UInt8.ofNat n.toNat)∘fun b:UInt8=>(b.toNat:Int))=l:=by
  intro l
  induction l with
  |nil=>rfl
  |cons x l ih=>
   rw[List.map_cons,ih]
   congr 1
   show UInt8.ofNat ((x.toNat:Int)).toNat=x
   rw[Int.toNat_natCast]
   exact UInt8.ofNat_toNat
 rw[this]
def enc (n:Nat):List UInt8:=if h:n<128 then[UInt8.ofNat n]else UInt8.ofNat (n%128+128)::enc (n/128)
termination_by n
decreasing_by omega
theorem enc_lo {n:Nat}(h:n<128):enc n=[UInt8.ofNat n]:=by rw[enc,dif_pos h]
theorem enc_hi {n:Nat}(h:¬n<128):enc n=UInt8.ofNat (n%128+128)::enc (n/128):=by rw[enc,dif_neg h]
theorem enc_pos (n:Nat):1≤(enc n).length:=by
 rw[enc]
 split<;>simp
theorem enc_len:∀(k n:Nat),n<128 ^ (k+1)→(enc n).length≤k+1
 |0,n,h=>by rw[enc_lo (by omega)];simp
 |k+1,n,h=>by
  by_cases h1:n<128
  ·rw[enc_lo h1];simp
  ·rw[enc_hi h1,LC]
   have:=enc_len k (n/128) (by rw[Nat.pow_succ]at h;omega)
   omega
theorem enc_len5 {n:Nat}(h:n≤1000000000):(enc n).length≤5:=enc_len 4 n (by omega)
def rv:List UInt8→Nat→Nat→Option (Nat×Nat)
 |[],_,_=>none
 |c::r,j,n=>if 5≤j then none else if c.toNat<128 then some (n+c.toNat%128*128 ^ j,j+1)else rv r (j+1) (n+c.toNat%128*128 ^ j)
def valB:List UInt8→Nat
 |[]=>0
 |c::r=>c.toNat%128+128*valB r
def whl:List UInt8→Prop
 |[]=>False
 |[c]=>c.toNat<128
 |c::r=>128≤c.toNat∧whl r
theorem whl_cons {c:UInt8}{r:List UInt8}(hr:r≠[]):whl (c::r)↔128≤c.toNat∧whl r:=by
 cases r with
 |nil=>exact absurd rfl hr
 |cons d r=>rfl
theorem whl_ne {d:List UInt8}(h:whl d):d≠[]:=by
 rintro rfl
 exact h
theorem rv_whl:∀(l:List UInt8)(j n m k:Nat),rv l j n=some (m,k)→j<k∧k≤5∧k-j≤l.length∧whl (l.take (k-j))∧m=n+128 ^ j*valB (l.take (k-j))
 |[],j,n,m,k,h=>by cases h
 |c::r,j,n,m,k,h=>by
  rw[rv]at h
  split at h
  ·cases h
  ·split at h
   ·rename_i h1 h2
    simp only[Option.some.injEq,Prod.mk.injEq]at h
    obtain⟨rfl,rfl⟩:=h
    rw[show j+1-j=1 by omega,List.take_succ_cons,List.take_zero]
    refine⟨by omega,by omega,by simp,h2,?_⟩
    simp only[valB]
    rw[Nat.mul_zero,Nat.add_zero,Nat.mul_comm]
   ·rename_i h1 h2
    obtain⟨a,b,c1,d,e⟩:=rv_whl r (j+1) _ m k h
    have hk:k-j=(k-(j+1))+1:=by omega
    rw[hk,List.take_succ_cons,LC]
    refine⟨by omega,b,by omega,(whl_cons (whl_ne d)).2 ⟨by omega,d⟩,?_⟩
    rw[e,valB,Nat.pow_succ,Nat.mul_add,Nat.mul_comm (c.toNat%128),Nat.add_assoc,Nat.mul_assoc]
theorem enc_val:∀d:List UInt8,whl d→(enc (valB d)).length=d.length→enc (valB d)=d
 |[],h,_=>by cases h
 |[c],h,_=>by
  have hc:c.toNat<128:=h
  simp only[valB]
  rw[Nat.mul_zero,Nat.add_zero,Nat.mod_eq_of_lt hc,enc_lo hc,UInt8.ofNat_toNat]
 |c::d::r,h,hl=>by
  have h1:128≤c.toNat:=h.1
  have h2:whl (d::r):=h.2
  rw[valB]at hl⊢
  have hc:=c.toNat_lt
  by_cases h3:c.toNat%128+128*valB (d::r)<128
  ·rw[enc_lo h3]at hl
   simp at hl
  ·rw[enc_hi h3]at hl⊢
   have e1:(c.toNat%128+128*valB (d::r))%128=c.toNat%128:=by omega
   have e2:(c.toNat%128+128*valB (d::r))/128=valB (d::r):=by omega
   rw[e1,e2]at hl⊢
   rw[enc_val (d::r) h2 (by simpa using hl)]
   congr 1
   apply UInt8.toNat_inj.1
   rw[UInt8.toNat_ofNat']
   omega
theorem whl_enc:∀n:Nat,whl (enc n)∧valB (enc n)=n:=by
 intro n
 induction n using Nat.strongRecOn with
 |_ n ih=>
  by_cases h:n<128
  ·rw[enc_lo h]
   have:(UInt8.ofNat n).toNat=n:=by rw[UInt8.toNat_ofNat'];omega
   exact⟨by show(UInt8.ofNat n).toNat<128;omega,by simp only[valB,this];omega⟩
  ·rw[enc_hi h]
   obtain⟨a,b⟩:=ih (n/128) (by omega)
   have:(UInt8.ofNat (n%128+128)).toNat=n%128+128:=by rw[UInt8.toNat_ofNat'];omega
   refine⟨(whl_cons (whl_ne a)).2 ⟨by omega,a⟩,?_⟩
   rw[valB,b,this]
   omega
theorem rv_of_whl:∀(d r:List UInt8)(j n:Nat),whl d→j+d.length≤5→rv (d++r) j n=some (n+128 ^ j*valB d,j+d.length)
 |[],r,j,n,h,_=>by cases h
 |[c],r,j,n,h,hl=>by
  have hc:c.toNat<128:=h
  simp only[LC,List.length_nil]at hl⊢
  rw[List.cons_append,rv,IQ (by omega),IP hc]
  have e:valB [c]=c.toNat%128:=by simp[valB]
  rw[e,Nat.mul_comm]
 |c::d::r',r,j,n,h,hl=>by
  have h1:128≤c.toNat:=h.1
  have h2:whl (d::r'):=h.2
  rw[LC]at hl
  rw[List.cons_append,rv,IQ (by simp only[LC]at hl;omega),IQ (by omega),rv_of_whl (d::r') r (j+1) _ h2 (by omega)]
  have e:valB (c::d::r')=c.toNat%128+128*valB (d::r'):=rfl
  rw[e]
  generalize valB (d::r')=V
  rw[Nat.pow_succ,Nat.mul_add,Nat.mul_comm (c.toNat%128),←Nat.mul_assoc (128 ^ j) 128 V,LC (a:=c)]
  congr 2
  ·omega
  ·omega
theorem rv_enc (n:Nat)(r:List UInt8)(h:n≤1000000000):rv (enc n++r) 0 0=some (n,(enc n).length):=by
 obtain⟨a,b⟩:=whl_enc n
 rw[rv_of_whl _ _ _ _ a (by have:=enc_len5 h;omega),b]
 simp
def rdv (l:List UInt8):Option (Nat×Nat):=match rv l 0 0 with
 |some (n,k)=>if n≤1000000000∧(enc n).length=k then some (n,k)else none
 |none=>none
theorem rdv_some {l:List UInt8}{n k:Nat}:rdv l=some (n,k)↔n≤1000000000∧k=(enc n).length∧l.take k=enc n∧k≤l.length:=by
 unfold rdv
 constructor
 ·intro h
  split at h
  ·rename_i m k' hr
   split at h
   ·rename_i h1
    simp only[Option.some.injEq,Prod.mk.injEq]at h
    obtain⟨rfl,rfl⟩:=h
    obtain⟨a,b,c,d,e⟩:=rv_whl l 0 0 m k' hr
    rw[Nat.sub_zero]at c d e
    rw[Nat.pow_zero,Nat.one_mul,Nat.zero_add]at e
    refine⟨h1.1,h1.2.symm,?_,c⟩
    have:=enc_val _ d (by rw[←e,h1.2,List.length_take];omega)
    rw[←e]at this
    exact this.symm
   ·cases h
  ·cases h
 ·rintro⟨h1,rfl,h3,h4⟩
  have e:l=enc n++l.drop (enc n).length:=by
   rw[←h3,List.length_take,Nat.min_eq_left h4,List.take_append_drop]
  rw[e,rv_enc n _ h1]
  simp only
  rw[IP ⟨h1,trivial⟩]
def encI (n:Nat):List Int:=(enc n).map fun c=>(c.toNat:Int)
abbrev encT (n:Nat):BA:=⟨(enc n).toArray⟩
theorem strOf_encI (n:Nat):strOf (encI n)=encT n:=by
 rw[strOf_data]
 congr 1
 unfold encI
 rw[List.map_map]
 congr 1
 have:∀l:List UInt8,l.map ((fun n:Int=>UInt8.ofNat n.toNat)∘fun c:UInt8=>(c.toNat:Int))=l:=by
  intro l
  induction l with
  |nil=>rfl
  |cons a l ih=>rw[List.map_cons,ih];congr 1;simp
 exact this _
theorem encT_size (n:Nat):(encT n).size=(enc n).length:=List.size_toArray
theorem s_l01Var_loop (N:Nat):∀(k m n:Nat)(acc:List Int),n<128 ^ (k+1)→k<m→acc.length+k≤1000→n≤1099511627776→
  ∃(v:Int)(l:List Int),s_l01Var_l1 N m (n:Int) acc=some (v,l)∧cat? l [IntKind.wrap .u8 v]=some (acc++encI n)
 |k,m,n,acc,hn,hm,ha,hb=>by
  obtain⟨m,rfl⟩:∃q,m=q+1:=⟨m-1,by omega⟩
  rw[s_l01Var_l1]
  by_cases h:n<128
  ·rw[IQ (by simp;omega)]
   refine⟨_,_,rfl,?_⟩
   have e:IntKind.wrap .u8 (n:Int)=(n:Int):=by rw[IntKind.wrap_u8];omega
   rw[e,show cat? acc [(n:Int)]=some (acc++[(n:Int)])from IP (by simp;omega)]
   unfold encI
   rw[enc_lo h]
   have:(UInt8.ofNat n).toNat=n:=by rw[UInt8.toNat_ofNat'];omega
   rw[List.map_cons,List.map_nil,this]
  ·obtain⟨k,rfl⟩:∃q,k=q+1:=by
    cases k with
    |zero=>exact absurd hn (by simp;omega)
    |succ q=>exact⟨q,rfl⟩
   rw[IP (by simp;omega)]
   have e1:intD .rem .i64 (n:Int) 128=some ((n%128:Nat):Int):=by
    simp only[intD]
    rw[IQ (by decide),Int.tmod_eq_emod_of_nonneg (by omega)]
    rfl
   have e2:intD .quo .i64 (n:Int) 128=some ((n/128:Nat):Int):=by
    simp only[intD]
    rw[IQ (by decide),Int.tdiv_eq_ediv_of_nonneg (by omega),IntKind.wrap_i64]
    refine congrArg some ?_
    omega
   have e3:IntKind.wrap .u8 (w64 (((n%128:Nat):Int)+128))=((n%128+128:Nat):Int):=by
    rw[w64_id (by omega) (by omega),IntKind.wrap_u8]
    omega
   rw[e1,bO,e3,show cat? acc [((n%128+128:Nat):Int)]=some (acc++[((n%128+128:Nat):Int)])from IP (by simp;omega),bO,e2,bO]
   obtain⟨v,l,h1,h2⟩:=s_l01Var_loop N k m (n/128) (acc++[((n%128+128:Nat):Int)]) (by rw[Nat.pow_succ]at hn;omega) (by omega) (by simp;omega) (by omega)
   refine⟨v,l,h1,?_⟩
   rw[h2]
   unfold encI
   rw[enc_hi h]
   have:(UInt8.ofNat (n%128+128)).toNat=n%128+128:=by rw[UInt8.toNat_ofNat'];omega
   rw[List.map_cons,this,List.append_assoc,List.singleton_append]
theorem i_VarText_loop (N:Nat):∀(k m n:Nat)(acc:List Int),n<128 ^ (k+1)→k<m→acc.length+k≤1000→n≤1099511627776→
  ∃(v:Int)(l:List Int),i_VarText_l1 N m (n:Int) acc=some (v,l)∧cat? l [IntKind.wrap .u8 v]=some (acc++encI n)
 |k,m,n,acc,hn,hm,ha,hb=>by
  obtain⟨m,rfl⟩:∃q,m=q+1:=⟨m-1,by omega⟩
  rw[i_VarText_l1]
  by_cases h:n<128
  ·rw[IQ (by simp;omega)]
   refine⟨_,_,rfl,?_⟩
   have e:IntKind.wrap .u8 (n:Int)=(n:Int):=by rw[IntKind.wrap_u8];omega
   rw[e,show cat? acc [(n:Int)]=some (acc++[(n:Int)])from IP (by simp;omega)]
   unfold encI
   rw[enc_lo h]
   have:(UInt8.ofNat n).toNat=n:=by rw[UInt8.toNat_ofNat'];omega
   rw[List.map_cons,List.map_nil,this]
  ·obtain⟨k,rfl⟩:∃q,k=q+1:=by
    cases k with
    |zero=>exact absurd hn (by simp;omega)
    |succ q=>exact⟨q,rfl⟩
   rw[IP (by simp;omega)]
   have e1:intD .rem .i64 (n:Int) 128=some ((n%128:Nat):Int):=by
    simp only[intD]
    rw[IQ (by decide),Int.tmod_eq_emod_of_nonneg (by omega)]
    rfl
   have e2:intD .quo .i64 (n:Int) 128=some ((n/128:Nat):Int):=by
    simp only[intD]
    rw[IQ (by decide),Int.tdiv_eq_ediv_of_nonneg (by omega),IntKind.wrap_i64]
    refine congrArg some ?_
    omega
   have e3:IntKind.wrap .u8 (w64 (((n%128:Nat):Int)+128))=((n%128+128:Nat):Int):=by
    rw[w64_id (by omega) (by omega),IntKind.wrap_u8]
    omega
   rw[e1,bO,e3,show cat? acc [((n%128+128:Nat):Int)]=some (acc++[((n%128+128:Nat):Int)])from IP (by simp;omega),bO,e2,bO]
   obtain⟨v,l,h1,h2⟩:=i_VarText_loop N k m (n/128) (acc++[((n%128+128:Nat):Int)]) (by rw[Nat.pow_succ]at hn;omega) (by omega) (by simp;omega) (by omega)
   refine⟨v,l,h1,?_⟩
   rw[h2]
   unfold encI
   rw[enc_hi h]
   have:(UInt8.ofNat (n%128+128)).toNat=n%128+128:=by rw[UInt8.toNat_ofNat'];omega
   rw[List.map_cons,this,List.append_assoc,List.singleton_append]
theorem var_spec (N:Nat)(hN:Big N)(n:Nat)(h:n≤1099511627776):s_l01Var N (n:Int)=some (encT n):=by
 unfold s_l01Var
 simp only[joinP]
 obtain⟨v,l,h1,h2⟩:=s_l01Var_loop N 9 N n [] (by omega) (by unfold Big at hN;omega) (by simp) h
 rw[h1,bO]
 simp only
 rw[h2,bO,List.nil_append,strOf_encI]
theorem var_impl (N:Nat)(hN:Big N)(n:Nat)(h:n≤1099511627776):i_VarText N (n:Int)=some (if n≤1000000000 then(encT n,true)else(⟨#[]⟩,false)):=by
 unfold i_VarText
 rw[within_eq,bO]
 by_cases h1:n≤1000000000
 ·have e:decide (0≤(n:Int)∧(n:Int)≤1000000000)=true:=by simp;omega
  rw[e,IP h1,IQ (by decide)]
  simp only[joinP]
  obtain⟨v,l,h1,h2⟩:=i_VarText_loop N 9 N n [] (by omega) (by unfold Big at hN;omega) (by simp) h
  rw[h1,bO]
  simp only
  rw[h2,bO,List.nil_append,strOf_encI]
 ·have e:decide (0≤(n:Int)∧(n:Int)≤1000000000)=false:=by simp;omega
  rw[e,IQ h1,IP (by decide)]
def rdvT (t:BA)(a:Nat):Option (Nat×Nat):=rdv (t.data.toList.drop a)
def rdR (t:BA)(a:Nat):Int×Int×Bool:=match rdvT t a with
 |some (n,k)=>((n:Int),((a+k:Nat):Int),true)
 |none=>(0,0,false)
def outR (a:Nat):Option (Nat×Nat)→(Int×Int×Bool)⊕Unit
 |none=>.inr ()
 |some (n,k)=>.inl (if n≤1000000000∧(enc n).length=k then((n:Int),((a+k:Nat):Int),true)else(0,0,false))
theorem outR_ok (t:BA)(a:Nat):(match outR a (rv (t.data.toList.drop a) 0 0)with|.inl x=>x|.inr ()=>(0,0,false))=rdR t a:=by
 unfold rdR rdvT rdv outR
 cases rv (t.data.toList.drop a) 0 0 with
 |none=>rfl
 |some q=>
  obtain⟨n,k⟩:=q
  simp only
  by_cases h:n≤1000000000∧(enc n).length=k
  ·rw[IP h,IP h]
  ·rw[IQ h,IQ h]
theorem take_eq {t:BA}{a n k:Nat}(h:rv (t.data.toList.drop a) 0 0=some (n,k)):a+k≤t.size∧(encT n=t.extract a (a+k)↔(enc n).length=k):=by
 obtain⟨_,b,c,d,e⟩:=rv_whl _ 0 0 n k h
 rw[Nat.sub_zero]at c d e
 rw[Nat.pow_zero,Nat.one_mul,Nat.zero_add]at e
 have hlen:t.data.toList.length=t.size:=Array.length_toList
 rw[List.length_drop,hlen]at c
 have hk:0<k:=by omega
 have hs:a+k≤t.size:=by omega
 have hx:(t.extract a (a+k)).data.toList=(t.data.toList.drop a).take k:=by
  rw[ext_toList t a (a+k) (by omega) hs]
  congr 1
  omega
 have hl:((t.data.toList.drop a).take k).length=k:=by rw[List.length_take,List.length_drop,hlen];omega
 refine⟨hs,fun h=> ?_,fun h=> ?_⟩
 ·have:(encT n).size=k:=by rw[h,ext_size t a (a+k) (by omega) hs];omega
  rw[encT_size]at this
  exact this
 ·apply ba_ext'
  rw[hx]
  show(enc n).toArray.toList=_
  rw[List.toList_toArray]
  have:=enc_val _ d (by rw[←e,h,hl])
  rw[←e]at this
  exact this
theorem rv_step {t:BA}{i j acc:Nat}(hi:i<t.size):∃c:UInt8,sat? t (i:Int)=some (c.toNat:Int)∧(j<5→rv (t.data.toList.drop i) j acc=if c.toNat<128 then some (acc+c.toNat%128*128 ^ j,j+1)else rv (t.data.toList.drop (i+1)) (j+1) (acc+c.toNat%128*128 ^ j)):=by
 have hlt:i<t.data.toList.length:=by rw[Array.length_toList];exact hi
 have hc:=DG hlt
 generalize t.data.toList[i]=c at hc
 exact⟨c,sat_at hc,fun hj=>by rw[hc,rv,IQ (by omega)]⟩
theorem rv_end {t:BA}{i j acc:Nat}(hi:t.size≤i):rv (t.data.toList.drop i) j acc=none:=by
 rw[DN (by rw[Array.length_toList];exact hi)]
 rfl
theorem rv_five {l:List UInt8}{acc:Nat}:rv l 5 acc=none:=by
 cases l with
 |nil=>rfl
 |cons c r=>rw[rv,IP (by omega)]
theorem rem128 (c:Nat):intD .rem .i64 (c:Int) 128=some ((c%128:Nat):Int):=by
 simp only[intD]
 rw[IQ (by decide),Int.tmod_eq_emod_of_nonneg (by omega)]
 rfl
theorem rvS_loop (N:Nat)(hN:Big N)(t:BA)(a:Nat)(ht:t.size≤1099511627)(ha:a≤t.size):∀(d j m acc:Nat),5=j+d→d<m→acc<128 ^ j→a+j≤t.size→rv (t.data.toList.drop a) 0 0=rv (t.data.toList.drop (a+j)) j acc→
  s_ReadVar_l1 N t (a:Int) m (acc:Int) ((128 ^ j:Nat):Int) ((a+j:Nat):Int)=some (outR a (rv (t.data.toList.drop a) 0 0))
 |0,j,m,acc,hj,hm,hacc,has,hr=>by
  obtain⟨m,rfl⟩:∃q,m=q+1:=⟨m-1,by omega⟩
  have:j=5:=by omega
  subst this
  rw[hr,rv_five,s_ReadVar_l1,w64_id (n:=(a:Int)+5) (by omega) (by omega)]
  split
  ·rw[IQ (by simp only[DT];omega)];rfl
  ·rfl
 |d+1,j,m,acc,hj,hm,hacc,has,hr=>by
  obtain⟨m,rfl⟩:∃q,m=q+1:=⟨m-1,by omega⟩
  have hp:(128:Nat) ^ j≤128 ^ 4:=Nat.pow_le_pow_right (by decide) (by omega)
  have hp0:0<(128:Nat) ^ j:=Nat.pow_pos (by decide)
  rw[s_ReadVar_l1,w64_id (n:=(a:Int)+5) (by omega) (by omega)]
  by_cases hs:a+j<t.size
  ·obtain⟨c,hc,hst⟩:=rv_step (j:=j) (acc:=acc) hs
   have hc8:c.toNat<256:=c.toNat_lt
   have hst:=hst (by omega)
   rw[IP (by simp only[DT];omega),IP (by simp only[DT];omega)]
   simp only[hc,bO]
   rw[w64_id (n:=(c.toNat:Int)) (by omega) (by omega),rem128]
   simp only[bO]
   have hmul:c.toNat%128*128 ^ j+128 ^ j≤128*128 ^ j:=by
    have:=Nat.mul_le_mul_right (128 ^ j) (show c.toNat%128+1≤128 by omega)
    rw[Nat.add_mul,Nat.one_mul]at this
    exact this
   generalize hP:(128:Nat) ^ j=P at*
   have e1:((c.toNat%128:Nat):Int)*((P:Nat):Int)=((c.toNat%128*P:Nat):Int):=by rw[Int.natCast_mul]
   have e2:w64 ((acc:Int)+w64 (((c.toNat%128:Nat):Int)*((P:Nat):Int)))=((acc+c.toNat%128*P:Nat):Int):=by
    rw[e1,w64_id (n:=((c.toNat%128*P:Nat):Int)) (by omega) (by omega),w64_id (by omega) (by omega)]
    omega
   rw[e2,WS (by omega)]
   by_cases hlo:c.toNat<128
   ·rw[IP (by simp only[DT];omega)]
    rw[IP hlo]at hst
    rw[hr,hst]
    have hz:=take_eq (hr.trans hst)
    simp only[outR]
    by_cases hbig:acc+c.toNat%128*P≤1000000000
    ·rw[IQ (by simp only[DT];omega),var_spec N hN _ (by omega),bO,scut_ok (by omega) (by omega),bO]
     by_cases hq:(enc (acc+c.toNat%128*P)).length=j+1
     ·rw[IQ (by simpa[Nat.add_assoc]using hz.2.2 hq),IP ⟨hbig,hq⟩]
      rfl
     ·rw[IP (by simpa[Nat.add_assoc]using fun h=>hq (hz.2.1 h)),IQ (fun h=>hq h.2)]
    ·rw[IP (by simp only[DT];omega),IQ (fun h=>hbig h.1)]
   ·rw[IQ (by simp only[DT];omega)]
    rw[IQ hlo]at hst
    have e3:w64 (((P:Nat):Int)*128)=((128 ^ (j+1):Nat):Int):=by
     rw[w64_id (by omega) (by omega),Nat.pow_succ,hP,Int.natCast_mul]
     rfl
    rw[e3]
    exact rvS_loop N hN t a ht ha d (j+1) m _ (by omega) (by omega) (by rw[Nat.pow_succ,hP];omega) (by omega) (hr.trans (by rw[hst,Nat.add_assoc]))
  ·rw[IQ (by simp only[DT];omega),hr,rv_end (by omega)]
   rfl
theorem rvI_loop (N:Nat)(hN:Big N)(t:BA)(a:Nat)(ht:t.size≤1099511627)(ha:a≤t.size):∀(d j m acc:Nat),5=j+d→d<m→acc<128 ^ j→a+j≤t.size→rv (t.data.toList.drop a) 0 0=rv (t.data.toList.drop (a+j)) j acc→
  i_ReadVar_l1 N t (a:Int) m (acc:Int) (j:Int)=some (outR a (rv (t.data.toList.drop a) 0 0))
 |0,j,m,acc,hj,hm,hacc,has,hr=>by
  obtain⟨m,rfl⟩:∃q,m=q+1:=⟨m-1,by omega⟩
  have:j=5:=by omega
  subst this
  rw[hr,rv_five,i_ReadVar_l1,IQ (by decide)]
  rfl
 |d+1,j,m,acc,hj,hm,hacc,has,hr=>by
  obtain⟨m,rfl⟩:∃q,m=q+1:=⟨m-1,by omega⟩
  have hp:(128:Nat) ^ j≤128 ^ 4:=Nat.pow_le_pow_right (by decide) (by omega)
  have hp0:0<(128:Nat) ^ j:=Nat.pow_pos (by decide)
  rw[i_ReadVar_l1,IP (by simp only[DT];omega)]
  have ew:w64 ((a:Int)+(j:Int))=((a+j:Nat):Int):=by rw[w64_id (by omega) (by omega)];omega
  rw[ew]
  by_cases hs:a+j<t.size
  ·obtain⟨c,hc,hst⟩:=rv_step (j:=j) (acc:=acc) hs
   have hc8:c.toNat<256:=c.toNat_lt
   have hst:=hst (by omega)
   rw[IP (by simp only[DT];omega)]
   simp only[hc,bO]
   rw[w64_id (n:=(c.toNat:Int)) (by omega) (by omega),rem128]
   simp only[bO]
   have hsh:intSh .shl .i64 ((c.toNat%128:Nat):Int) (w64 (7*(j:Int)))=some ((c.toNat%128*128 ^ j:Nat):Int):=by
    have hj5:j=0∨j=1∨j=2∨j=3∨j=4:=by omega
    have hx:c.toNat%128<128:=by omega
    generalize c.toNat%128=x at hx
    rcases hj5 with rfl|rfl|rfl|rfl|rfl
    ·simp only[intSh]
     rw[w64_id (by decide) (by decide),IQ (by decide),show(min (7*((0:Nat):Int)).toNat IntKind.i64.bits)=0 from rfl,IntKind.wrap_i64]
     refine congrArg some ?_
     omega
    ·simp only[intSh]
     rw[w64_id (by decide) (by decide),IQ (by decide),show(min (7*((1:Nat):Int)).toNat IntKind.i64.bits)=7 from rfl,IntKind.wrap_i64]
     refine congrArg some ?_
     omega
    ·simp only[intSh]
     rw[w64_id (by decide) (by decide),IQ (by decide),show(min (7*((2:Nat):Int)).toNat IntKind.i64.bits)=14 from rfl,IntKind.wrap_i64]
     refine congrArg some ?_
     omega
    ·simp only[intSh]
     rw[w64_id (by decide) (by decide),IQ (by decide),show(min (7*((3:Nat):Int)).toNat IntKind.i64.bits)=21 from rfl,IntKind.wrap_i64]
     refine congrArg some ?_
     omega
    ·simp only[intSh]
     rw[w64_id (by decide) (by decide),IQ (by decide),show(min (7*((4:Nat):Int)).toNat IntKind.i64.bits)=28 from rfl,IntKind.wrap_i64]
     refine congrArg some ?_
     omega
   rw[hsh]
   simp only[bO]
   have hmul:c.toNat%128*128 ^ j+128 ^ j≤128*128 ^ j:=by
    have:=Nat.mul_le_mul_right (128 ^ j) (show c.toNat%128+1≤128 by omega)
    rw[Nat.add_mul,Nat.one_mul]at this
    exact this
   generalize hP:(128:Nat) ^ j=P at*
   have e2:w64 ((acc:Int)+((c.toNat%128*P:Nat):Int))=((acc+c.toNat%128*P:Nat):Int):=by
    rw[w64_id (by omega) (by omega)]
    omega
   rw[e2]
   by_cases hlo:c.toNat<128
   ·rw[IP (by simp only[DT];omega),var_impl N hN _ (by omega),bO]
    rw[IP hlo]at hst
    rw[hr,hst]
    simp only[outR]
    rw[WS (k:=j) (by omega),WS (k:=a+j) (by omega)]
    by_cases hbig:acc+c.toNat%128*P≤1000000000
    ·rw[IP hbig]
     simp only[BN,BF,↓reduceIte]
     by_cases hq:(enc (acc+c.toNat%128*P)).length=j+1
     ·rw[IQ (by rw[encT_size,hq];simp),IP ⟨hbig,hq⟩]
      rfl
     ·rw[IP (by rw[encT_size];simp only[bne_iff_ne,ne_eq];omega),IQ (fun h=>hq h.2)]
    ·rw[IQ hbig,IP (by decide),IQ (fun h=>hbig h.1)]
   ·rw[IQ (by simp only[DT];omega),WS (k:=j) (by omega)]
    rw[IQ hlo]at hst
    exact rvI_loop N hN t a ht ha d (j+1) m _ (by omega) (by omega) (by rw[Nat.pow_succ,hP];omega) (by omega) (hr.trans (by rw[hst,Nat.add_assoc]))
  ·rw[IQ (by simp only[DT];omega),hr,rv_end (by omega)]
   rfl
theorem rvar_spec (N:Nat)(hN:Big N)(t:BA)(a:Nat)(ht:t.size≤1099511627)(ha:a≤t.size):s_ReadVar N t (a:Int)=some (rdR t a):=by
 unfold s_ReadVar
 rw[in_eq,bO]
 have e:decide (0≤(a:Int)∧(a:Int)≤(t.size:Int))=true:=by simp;omega
 rw[e,IQ (by decide)]
 simp only[joinP]
 have:=rvS_loop N hN t a ht ha 5 0 N 0 rfl (by unfold Big at hN;omega) (by decide) (by omega) rfl
 rw[Nat.pow_zero,Nat.add_zero]at this
 rw[show(0:Int)=((0:Nat):Int)from rfl,show(1:Int)=((1:Nat):Int)from rfl,this,bO,←outR_ok t a]
 cases outR a (rv (t.data.toList.drop a) 0 0)<;>rfl
theorem rvar_impl (N:Nat)(hN:Big N)(t:BA)(a:Nat)(ht:t.size≤1099511627)(ha:a≤t.size):i_ReadVar N t (a:Int)=some (rdR t a):=by
 unfold i_ReadVar
 rw[within_eq,bO]
 have e:decide (0≤(a:Int)∧(a:Int)≤(t.size:Int))=true:=by simp;omega
 rw[e,IQ (by decide)]
 simp only[joinP]
 have:=rvI_loop N hN t a ht ha 5 0 N 0 rfl (by unfold Big at hN;omega) (by decide) (by omega) rfl
 rw[show(0:Int)=((0:Nat):Int)from rfl,this,bO,←outR_ok t a]
 cases outR a (rv (t.data.toList.drop a) 0 0)<;>rfl
def pv (t:BA)(a:Nat):Option (Nat×Nat):=match rdvT t a with
 |some (n,k)=>some (n,a+k)
 |none=>none
def ps (t:BA)(a:Nat):Option (BA×Nat):=match pv t a with
 |some (n,b)=>if n≤t.size-b then some (t.extract b (b+n),b+n)else none
 |none=>none
theorem pv_some {t:BA}{a n b:Nat}(ha:a≤t.size)(h:pv t a=some (n,b)):n≤1000000000∧a≤b∧b≤t.size∧encT n=t.extract a b:=by
 unfold pv rdvT at h
 cases hr:rdv (t.data.toList.drop a)with
 |none=>rw[hr]at h;cases h
 |some q=>
  obtain⟨m,k⟩:=q
  rw[hr]at h
  simp only[Option.some.injEq,Prod.mk.injEq]at h
  obtain⟨rfl,rfl⟩:=h
  obtain⟨h1,h2,h3,h4⟩:=rdv_some.1 hr
  have hlen:t.data.toList.length=t.size:=Array.length_toList
  rw[List.length_drop,hlen]at h4
  refine⟨h1,by omega,by omega,?_⟩
  apply ba_ext'
  rw[ext_toList t a (a+k) (by omega) (by omega),Nat.add_sub_cancel_left,h3]
theorem ext_app (t:BA)(a b c:Nat)(h1:a≤b)(h2:b≤c)(h3:c≤t.size):t.extract a b++t.extract b c=t.extract a c:=by
 apply ba_ext'
 rw[ByteArray.data_append,Array.toList_append,ext_toList t a b h1 (by omega),ext_toList t b c h2 h3,ext_toList t a c (by omega) h3]
 have:c-a=(b-a)+(c-b):=by omega
 rw[this,List.take_add,List.drop_drop]
 congr 3<;>omega
theorem ps_some {t s:BA}{a b:Nat}(ha:a≤t.size)(h:ps t a=some (s,b)):a≤b∧b≤t.size∧encT s.size++s=t.extract a b∧s.size≤t.size:=by
 unfold ps at h
 cases hr:pv t a with
 |none=>rw[hr]at h;cases h
 |some q=>
  obtain⟨n,c⟩:=q
  rw[hr]at h
  simp only at h
  split at h
  ·rename_i h5
   simp only[Option.some.injEq,Prod.mk.injEq]at h
   obtain⟨rfl,rfl⟩:=h
   obtain⟨h1,h2,h3,h4⟩:=pv_some ha hr
   have hz:=ext_size t c (c+n) (by omega) (by omega)
   rw[show c+n-c=n by omega]at hz
   refine⟨by omega,by omega,?_,by omega⟩
   rw[hz,h4,ext_app t a c (c+n) h2 (by omega) (by omega)]
  ·cases h
theorem sv_ok (N:Nat)(hN:Big N)(t:BA)(a:Nat)(ht:t.size≤1099511627)(ha:a≤t.size):s_l05Var N ⟨t,a,false⟩=some (match pv t a with|some (n,b)=>((n:Int),⟨t,b,false⟩)|none=>(0,⟨t,a,true⟩)):=by
 unfold s_l05Var
 simp only
 rw[rvar_spec N hN t a ht ha,bO]
 unfold pv rdR
 cases rdvT t a<;>rfl
theorem sv_bad (N:Nat)(hN:Big N)(t:BA)(a:Nat)(ht:t.size≤1099511627)(ha:a≤t.size):s_l05Var N ⟨t,a,true⟩=some (0,⟨t,a,true⟩):=by
 unfold s_l05Var
 simp only
 rw[rvar_spec N hN t a ht ha,bO]
 rfl
theorem nv_ok (N:Nat)(hN:Big N)(t:BA)(a:Nat)(ht:t.size≤1099511627)(ha:a≤t.size):r_num N ⟨t,a,false⟩=some (match pv t a with|some (n,b)=>((n:Int),⟨t,b,false⟩)|none=>(0,⟨t,a,true⟩)):=by
 unfold r_num
 simp only
 rw[rvar_impl N hN t a ht ha,bO]
 unfold pv rdR
 cases rdvT t a<;>rfl
theorem nv_bad (N:Nat)(hN:Big N)(t:BA)(a:Nat)(ht:t.size≤1099511627)(ha:a≤t.size):r_num N ⟨t,a,true⟩=some (0,⟨t,a,true⟩):=by
 unfold r_num
 simp only
 rw[rvar_impl N hN t a ht ha,bO]
 rfl
theorem take_ok (N:Nat)(t:BA)(a n:Nat)(ht:t.size≤1099511627)(ha:a≤t.size)(hn:n≤1000000000):s_l05Take N ⟨t,a,false⟩ (n:Int)=some (if n≤t.size-a then(t.extract a (a+n),⟨t,(a+n:Nat),false⟩)else(⟨#[]⟩,⟨t,a,true⟩)):=by
 unfold s_l05Take
 simp only[BF,↓reduceIte]
 rw[w64_id (n:=(t.size:Int)-(a:Int)) (by omega) (by omega)]
 by_cases h:n≤t.size-a
 ·have e1:w64 ((a:Int)+(n:Int))=((a+n:Nat):Int):=by rw[w64_id (by omega) (by omega)];omega
  have e2:w64 (((a+n:Nat):Int)-(n:Int))=(a:Int):=by rw[w64_id (by omega) (by omega)];omega
  rw[IQ (by simp only[DT];omega),e1,e2,scut_ok (by omega) (by omega),bO,IP h]
 ·rw[IP (by simp only[DT];omega),IQ h]
theorem take_bad (N:Nat)(t:BA)(a:Int)(n:Int):s_l05Take N ⟨t,a,true⟩ n=some (⟨#[]⟩,⟨t,a,true⟩):=rfl
theorem ss_ok (N:Nat)(hN:Big N)(t:BA)(a:Nat)(ht:t.size≤1099511627)(ha:a≤t.size):∃x,s_l05ReadShort N ⟨t,a,false⟩=some x∧match ps t a with|some (s,b)=>x=(s,⟨t,b,false⟩)|none=>∃b:Nat,b≤t.size∧x=(⟨#[]⟩,⟨t,b,true⟩):=by
 unfold s_l05ReadShort
 rw[sv_ok N hN t a ht ha,bO]
 unfold ps
 cases hp:pv t a with
 |none=>exact⟨_,rfl,a,ha,rfl⟩
 |some q=>
  obtain⟨n,b⟩:=q
  obtain⟨h1,h2,h3,h4⟩:=pv_some ha hp
  simp only
  rw[take_ok N t b n ht h3 h1,bO]
  by_cases h:n≤t.size-b
  ·rw[IP h,IP h]
   exact⟨_,rfl,rfl⟩
  ·rw[IQ h,IQ h]
   exact⟨_,rfl,b,h3,rfl⟩
theorem ss_bad (N:Nat)(hN:Big N)(t:BA)(a:Nat)(ht:t.size≤1099511627)(ha:a≤t.size):s_l05ReadShort N ⟨t,a,true⟩=some (⟨#[]⟩,⟨t,a,true⟩):=by
 unfold s_l05ReadShort
 rw[sv_bad N hN t a ht ha]
 rfl
theorem tx_ok (N:Nat)(hN:Big N)(t:BA)(a:Nat)(ht:t.size≤1099511627)(ha:a≤t.size):∃x,r_text N ⟨t,a,false⟩=some x∧match ps t a with|some (s,b)=>if s.size≤20000 then x=(s,⟨t,b,false⟩)else x=(⟨#[]⟩,⟨t,a,true⟩)|none=>x=(⟨#[]⟩,⟨t,a,true⟩):=by
 unfold r_text i_ReadShort
 simp only
 rw[rvar_impl N hN t a ht ha,bO]
 unfold ps
 cases hp:pv t a with
 |none=>
  have hr:rdR t a=(0,0,false):=by
   unfold pv at hp
   unfold rdR
   cases h:rdvT t a with
   |none=>rfl
   |some q=>rw[h]at hp;cases hp
  rw[hr]
  exact⟨_,rfl,rfl⟩
 |some q=>
  obtain⟨n,b⟩:=q
  obtain⟨h1,h2,h3,h4⟩:=pv_some ha hp
  have hr:rdR t a=((n:Int),(b:Int),true):=by
   unfold pv at hp
   unfold rdR
   cases h:rdvT t a with
   |none=>rw[h]at hp;cases hp
   |some q=>
    obtain⟨m,k⟩:=q
    rw[h]at hp
    simp only[Option.some.injEq,Prod.mk.injEq]at hp
    obtain⟨rfl,rfl⟩:=hp
    rfl
  rw[hr]
  simp only[BN,BF,↓reduceIte]
  rw[w64_id (n:=(t.size:Int)-(b:Int)) (by omega) (by omega)]
  by_cases h:n≤t.size-b
  ·rw[IP h]
   simp only
   rw[ext_size t b (b+n) (by omega) (by omega),show b+n-b=n by omega]
   by_cases h5:n≤20000
   ·have e1:w64 ((b:Int)+(n:Int))=((b+n:Nat):Int):=by rw[w64_id (by omega) (by omega)];omega
    rw[IQ (by simp only[DT];omega),IQ (by simp only[DT];omega),e1,scut_ok (by omega) (by omega)]
    exact⟨_,rfl,by rw[IP h5]⟩
   ·rw[IP (by simp only[DT];omega)]
    exact⟨_,rfl,by rw[IQ h5]⟩
  ·rw[IQ h]
   by_cases h5:n≤20000
   ·rw[IQ (by simp only[DT];omega),IP (by simp only[DT];omega)]
    exact⟨_,rfl,rfl⟩
   ·rw[IP (by simp only[DT];omega)]
    exact⟨_,rfl,rfl⟩
theorem tx_bad (N:Nat)(hN:Big N)(t:BA)(a:Nat)(ht:t.size≤1099511627)(ha:a≤t.size):r_text N ⟨t,a,true⟩=some (⟨#[]⟩,⟨t,a,true⟩):=by
 have h:∃x,i_ReadShort N t a=some x:=by
  unfold i_ReadShort
  rw[rvar_impl N hN t a ht ha,bO]
  cases hb:(rdR t a).2.2 with
  |false=>exact⟨_,rfl⟩
  |true=>
   simp only[BN,BF,↓reduceIte]
   obtain⟨n,b,e⟩:∃n b,pv t a=some (n,b):=by
    unfold rdR at hb
    unfold pv
    cases h:rdvT t a with
    |none=>rw[h]at hb;cases hb
    |some q=>exact⟨_,_,rfl⟩
   obtain⟨h1,h2,h3,h4⟩:=pv_some ha e
   have hr:rdR t a=((n:Int),(b:Int),true):=by
    unfold pv at e
    unfold rdR
    cases h:rdvT t a with
    |none=>rw[h]at e;cases e
    |some q=>
     obtain⟨m,k⟩:=q
     rw[h]at e
     simp only[Option.some.injEq,Prod.mk.injEq]at e
     obtain⟨rfl,rfl⟩:=e
     rfl
   rw[hr]
   simp only
   split
   ·exact⟨_,rfl⟩
   ·rw[w64_id (n:=(t.size:Int)-(b:Int)) (by omega) (by omega)]
    split
    ·exact⟨_,rfl⟩
    ·rename_i h6
     simp only[DT]at h6
     have e1:w64 ((b:Int)+(n:Int))=((b+n:Nat):Int):=by rw[w64_id (by omega) (by omega)];omega
     rw[e1,scut_ok (by omega) (by omega)]
     exact⟨_,rfl⟩
 obtain⟨x,hx⟩:=h
 unfold r_text
 simp only
 rw[hx]
 rfl
def txt (op:UInt8)(a b:Nat)(k v o:BA):BA:=(⟨#[op]⟩:BA)++encT a++encT b++(encT k.size++k)++(encT v.size++v)++(encT o.size++o)
theorem short_ok (N:Nat)(hN:Big N)(s:BA)(h:s.size≤1000):s_l05Short N s=some (encT s.size++s):=by
 unfold s_l05Short
 have:=enc_len5 (n:=s.size) (by omega)
 have z:=encT_size s.size
 rw[var_spec N hN s.size (by omega),bO,scat_le (by omega)]
 rfl
theorem ctext_ok (N:Nat)(hN:Big N)(op:UInt8)(a b:Nat)(k v o:BA):s_CommandText N ⟨(op.toNat:Int),a,b,k,v,o⟩=some (if cmdOk ⟨(op.toNat:Int),a,b,k,v,o⟩=true then(txt op a b k v o,true)else(⟨#[]⟩,false)):=by
 unfold s_CommandText
 rw[cmdOk_spec,bO]
 cases hc:cmdOk ⟨(op.toNat:Int),a,b,k,v,o⟩with
 |false=>rfl
 |true=>
  have h:=hc
  unfold cmdOk at h
  simp only[DT]at h
  obtain⟨h1,h2,h3,h4,h5⟩:=h
  have hk:k.size≤9:=by
   split at h5
   ·have:=emp_size h5.2.2.1;omega
   ·exact h5.1.2
  simp only[BN,BF,↓reduceIte]
  have z1:=encT_size a
  have z2:=encT_size b
  have y1:=enc_len5 (n:=a) (by omega)
  have y2:=enc_len5 (n:=b) (by omega)
  have y3:=enc_len5 (n:=k.size) (by omega)
  have y4:=enc_len5 (n:=v.size) (by omega)
  have y5:=enc_len5 (n:=o.size) (by omega)
  have z3:=encT_size k.size
  have z4:=encT_size v.size
  have z5:=encT_size o.size
  have e0:strOf ([IntKind.wrap .u8 (op.toNat:Int)]:List Int)=⟨#[op]⟩:=by
   have:=op.toNat_lt
   have e:IntKind.wrap .u8 (op.toNat:Int)=(op.toNat:Int):=by rw[IntKind.wrap_u8];omega
   rw[e,strOf_data]
   simp
  have z0:(⟨#[op]⟩:BA).size=1:=rfl
  rw[var_spec N hN a (by omega),bO,e0,scat_le (by omega),bO,var_spec N hN b (by omega),bO,scat_le (by simp only[BZ];omega),bO,short_ok N hN k (by omega),bO,scat_le (by simp only[BZ];omega),bO,short_ok N hN v (by omega),bO,scat_le (by simp only[BZ];omega),bO,short_ok N hN o (by omega),bO,scat_le (by simp only[BZ];omega),bO]
  rfl
abbrev noCmd:Command×Bool:=(⟨0,0,0,⟨#[]⟩,⟨#[]⟩,⟨#[]⟩⟩,false)
def cmdOf (t:BA):Command×Bool:=match t.data.toList with
 |[]=>noCmd
 |op::_=>match pv t 1 with
  |none=>noCmd
  |some (s,a1)=>match pv t a1 with
   |none=>noCmd
   |some (q,a2)=>match ps t a2 with
    |none=>noCmd
    |some (k,a3)=>match ps t a3 with
     |none=>noCmd
     |some (v,a4)=>match ps t a4 with
      |none=>noCmd
      |some (o,a5)=>if a5=t.size∧cmdOk ⟨(op.toNat:Int),s,q,k,v,o⟩=true then(⟨(op.toNat:Int),s,q,k,v,o⟩,true)else noCmd
theorem size_pos {t:BA}{op:UInt8}{r:List UInt8}(h:t.data.toList=op::r):1≤t.size∧t.extract 0 1=⟨#[op]⟩:=by
 have hlen:t.data.toList.length=t.size:=Array.length_toList
 have hs:1≤t.size:=by rw[h]at hlen;simp at hlen;omega
 refine⟨hs,?_⟩
 apply ba_ext'
 rw[ext_toList t 0 1 (by omega) hs,List.drop_zero,h]
 rfl
theorem txt_eq {t:BA}{op:UInt8}{r:List UInt8}{s q a1 a2 a3 a4 a5:Nat}{k v o:BA}(h:t.data.toList=op::r)(h1:pv t 1=some (s,a1))(h2:pv t a1=some (q,a2))(h3:ps t a2=some (k,a3))(h4:ps t a3=some (v,a4))(h5:ps t a4=some (o,a5)):
  txt op s q k v o=t.extract 0 a5∧a5≤t.size:=by
 obtain⟨z,e0⟩:=size_pos h
 obtain⟨_,b1,b2,b3⟩:=pv_some z h1
 obtain⟨_,c1,c2,c3⟩:=pv_some b2 h2
 obtain⟨d1,d2,d3,_⟩:=ps_some c2 h3
 obtain⟨f1,f2,f3,_⟩:=ps_some d2 h4
 obtain⟨g1,g2,g3,_⟩:=ps_some f2 h5
 refine⟨?_,g2⟩
 unfold txt
 rw[←e0,b3,c3,d3,f3,g3,ext_app t 0 1 a1 (by omega) b1 b2,ext_app t 0 a1 a2 (by omega) c1 c2,ext_app t 0 a2 a3 (by omega) d1 d2,ext_app t 0 a3 a4 (by omega) f1 f2,ext_app t 0 a4 a5 (by omega) g1 g2]
theorem ext_all {t:BA}{a:Nat}(h:a≤t.size):(t.extract 0 a=t)↔a=t.size:=by
 constructor
 ·intro e
  have:=ext_size t 0 a (by omega) h
  rw[e]at this
  omega
 ·rintro rfl
  exact ext_full t
theorem cmd_spec (N:Nat)(hN:Big N)(t:BA)(ht:t.size≤1099511627):s_ReadCommand N t=some (cmdOf t):=by
 unfold s_ReadCommand cmdOf
 have e0:s_l05Take N ⟨t,0,false⟩ 1=some (if 1≤t.size-0 then(t.extract 0 (0+1),⟨t,((0+1:Nat):Int),false⟩)else(⟨#[]⟩,⟨t,((0:Nat):Int),true⟩)):=take_ok N t 0 1 ht (by omega) (by decide)
 cases hd:t.data.toList with
 |nil=>
  have hlen:t.data.toList.length=t.size:=Array.length_toList
  rw[hd]at hlen
  simp at hlen
  rw[IQ (by omega)]at e0
  rw[e0]
  rfl
 |cons op r=>
  obtain⟨z,e1⟩:=size_pos hd
  rw[IP (by omega)]at e0
  rw[e0,bO]
  simp only[Nat.zero_add,BF,↓reduceIte]
  have e2:sat? (t.extract 0 1) 0=some (op.toNat:Int):=by
   rw[e1]
   exact sat_at (t:=⟨#[op]⟩) (k:=0) (r:=[]) rfl
  have hop:=op.toNat_lt
  rw[e2,bO,w64_id (n:=(op.toNat:Int)) (by omega) (by omega)]
  have bad1:∀(s q:Nat)(k v o:BA)(a:Int),((s_CommandText N ⟨(op.toNat:Int),s,q,k,v,o⟩).bind fun y177=>if(Tl05Cur.mk t a true).bad=true then some ((Command.mk 0 0 0 (⟨#[]⟩:BA) (⟨#[]⟩:BA) (⟨#[]⟩:BA)),false)else if(!y177.2)=true then some ((Command.mk 0 0 0 (⟨#[]⟩:BA) (⟨#[]⟩:BA) (⟨#[]⟩:BA)),false)else if(!decide (y177.1=t))=true then some ((Command.mk 0 0 0 (⟨#[]⟩:BA) (⟨#[]⟩:BA) (⟨#[]⟩:BA)),false)else some (⟨(op.toNat:Int),s,q,k,v,o⟩,true))=some noCmd:=by
   intro s q k v o a
   rw[ctext_ok N hN]
   rfl
  have z0:((0:Nat):Int)=0:=rfl
  rw[sv_ok N hN t 1 ht z]
  cases h1:pv t 1 with
  |none=>
   simp only[bO]
   rw[sv_bad N hN t 1 ht z,bO]
   simp only[ss_bad N hN t 1 ht z,bO]
   have:=bad1 0 0 ⟨#[]⟩ ⟨#[]⟩ ⟨#[]⟩ ((1:Nat):Int)
   rw[z0]at this
   exact this
  |some x1=>
   obtain⟨s,a1⟩:=x1
   obtain⟨_,b1,b2,b3⟩:=pv_some z h1
   simp only[bO]
   rw[sv_ok N hN t a1 ht b2]
   cases h2:pv t a1 with
   |none=>
    simp only[bO,ss_bad N hN t a1 ht b2]
    have:=bad1 s 0 ⟨#[]⟩ ⟨#[]⟩ ⟨#[]⟩ (a1:Int)
    rw[z0]at this
    exact this
   |some x2=>
    obtain⟨q,a2⟩:=x2
    obtain⟨_,c1,c2,c3⟩:=pv_some b2 h2
    simp only[bO]
    obtain⟨y3,f3,g3⟩:=ss_ok N hN t a2 ht c2
    rw[f3]
    cases h3:ps t a2 with
    |none=>
     rw[h3]at g3
     obtain⟨b,hb,rfl⟩:=g3
     simp only[bO,ss_bad N hN t b ht hb]
     exact bad1 s q ⟨#[]⟩ ⟨#[]⟩ ⟨#[]⟩ (b:Int)
    |some x3=>
     obtain⟨k,a3⟩:=x3
     rw[h3]at g3
     simp only at g3
     subst g3
     obtain⟨d1,d2,d3,_⟩:=ps_some c2 h3
     simp only[bO]
     obtain⟨y4,f4,g4⟩:=ss_ok N hN t a3 ht d2
     rw[f4]
     cases h4:ps t a3 with
     |none=>
      rw[h4]at g4
      obtain⟨b,hb,rfl⟩:=g4
      simp only[bO,ss_bad N hN t b ht hb]
      exact bad1 s q k ⟨#[]⟩ ⟨#[]⟩ (b:Int)
     |some x4=>
      obtain⟨v,a4⟩:=x4
      rw[h4]at g4
      simp only at g4
      subst g4
      obtain⟨i1,i2,i3,_⟩:=ps_some d2 h4
      simp only[bO]
      obtain⟨y5,f5,g5⟩:=ss_ok N hN t a4 ht i2
      rw[f5]
      cases h5:ps t a4 with
      |none=>
       rw[h5]at g5
       obtain⟨b,hb,rfl⟩:=g5
       simp only[bO]
       exact bad1 s q k v ⟨#[]⟩ (b:Int)
      |some x5=>
       obtain⟨o,a5⟩:=x5
       rw[h5]at g5
       simp only at g5
       subst g5
       obtain⟨t1,t2⟩:=txt_eq hd h1 h2 h3 h4 h5
       simp only[bO]
       rw[ctext_ok N hN,bO,t1]
       cases hc:cmdOk ⟨(op.toNat:Int),s,q,k,v,o⟩with
       |false=>simp
       |true=>
        simp only[BN,BF,↓reduceIte,and_true]
        by_cases he:a5=t.size
        ·rw[IP he,IQ (by simp[(ext_all t2).2 he])]
        ·rw[IQ he,IP (by simp;exact fun e=>he ((ext_all t2).1 e))]
theorem cmd_impl (N:Nat)(hN:Big N)(t:BA)(ht:t.size≤1099511627):i_ReadCommand N t=some (cmdOf t):=by
 unfold i_ReadCommand cmdOf
 cases hd:t.data.toList with
 |nil=>
  have hlen:t.data.toList.length=t.size:=Array.length_toList
  rw[hd]at hlen
  simp at hlen
  have e:r_byte N ⟨t,0,false⟩=some (0,⟨t,((0:Nat):Int),true⟩):=by
   unfold r_byte
   simp only[BF,↓reduceIte]
   rw[IP (by simp only[DT];omega)]
   rfl
  rw[e]
  simp only[bO,nv_bad N hN t 0 ht (by omega),tx_bad N hN t 0 ht (by omega)]
  rfl
 |cons op r=>
  obtain⟨z,e1⟩:=size_pos hd
  have hop:=op.toNat_lt
  have e:r_byte N ⟨t,0,false⟩=some ((op.toNat:Int),⟨t,((1:Nat):Int),false⟩):=by
   unfold r_byte
   simp only[BF,↓reduceIte]
   rw[IQ (by simp only[DT];omega)]
   have e3:w64 (w64 ((0:Int)+1)-1)=((0:Nat):Int):=by decide
   have e4:sat? t ((0:Nat):Int)=some (op.toNat:Int):=sat_at (r:=r) (by rw[List.drop_zero];exact hd)
   rw[e3,e4,bO,w64_id (n:=(op.toNat:Int)) (by omega) (by omega)]
   rfl
  rw[e]
  have bad1:∀(c:Command)(a:Int),((r_done N (Treader.mk t a true)).bind fun y172=>if(!y172)=true then some ((Command.mk 0 0 0 (⟨#[]⟩:BA) (⟨#[]⟩:BA) (⟨#[]⟩:BA)),false)else(i_CommandOk N c).bind fun y174=>if(!y174)=true then some ((Command.mk 0 0 0 (⟨#[]⟩:BA) (⟨#[]⟩:BA) (⟨#[]⟩:BA)),false)else some (c,true))=some noCmd:=fun c a=>rfl
  simp only[bO]
  rw[nv_ok N hN t 1 ht z]
  cases h1:pv t 1 with
  |none=>
   simp only[bO,nv_bad N hN t 1 ht z,tx_bad N hN t 1 ht z]
   exact bad1 _ _
  |some x1=>
   obtain⟨s,a1⟩:=x1
   obtain⟨_,b1,b2,b3⟩:=pv_some z h1
   simp only[bO]
   rw[nv_ok N hN t a1 ht b2]
   cases h2:pv t a1 with
   |none=>
    simp only[bO,tx_bad N hN t a1 ht b2]
    exact bad1 _ _
   |some x2=>
    obtain⟨q,a2⟩:=x2
    obtain⟨_,c1,c2,c3⟩:=pv_some b2 h2
    simp only[bO]
    obtain⟨y3,f3,g3⟩:=tx_ok N hN t a2 ht c2
    rw[f3]
    have big:∀(k v o:BA),¬(k.size≤20000∧v.size≤20000∧o.size≤20000)→cmdOk ⟨(op.toNat:Int),s,q,k,v,o⟩=false:=by
     intro k v o hb
     cases hc:cmdOk ⟨(op.toNat:Int),s,q,k,v,o⟩with
     |false=>rfl
     |true=>
      exfalso
      apply hb
      unfold cmdOk at hc
      simp only[DT]at hc
      obtain⟨_,_,_,h4,h5⟩:=hc
      have hk:k.size≤9:=by
       split at h5
       ·have:=emp_size h5.2.2.1;omega
       ·exact h5.1.2
      exact⟨by omega,by omega,by omega⟩
    cases h3:ps t a2 with
    |none=>
     rw[h3]at g3
     simp only at g3
     subst g3
     simp only[bO,tx_bad N hN t a2 ht c2]
     exact bad1 _ _
    |some x3=>
     obtain⟨k,a3⟩:=x3
     rw[h3]at g3
     simp only at g3
     obtain⟨d1,d2,d3,_⟩:=ps_some c2 h3
     by_cases k1:k.size≤20000
     ·rw[IP k1]at g3
      subst g3
      simp only[bO]
      obtain⟨y4,f4,g4⟩:=tx_ok N hN t a3 ht d2
      rw[f4]
      cases h4:ps t a3 with
      |none=>
       rw[h4]at g4
       simp only at g4
       subst g4
       simp only[bO,tx_bad N hN t a3 ht d2]
       exact bad1 _ _
      |some x4=>
       obtain⟨v,a4⟩:=x4
       rw[h4]at g4
       simp only at g4
       obtain⟨i1,i2,i3,_⟩:=ps_some d2 h4
       by_cases k2:v.size≤20000
       ·rw[IP k2]at g4
        subst g4
        simp only[bO]
        obtain⟨y5,f5,g5⟩:=tx_ok N hN t a4 ht i2
        rw[f5]
        cases h5:ps t a4 with
        |none=>
         rw[h5]at g5
         simp only at g5
         subst g5
         simp only[bO]
         exact bad1 _ _
        |some x5=>
         obtain⟨o,a5⟩:=x5
         rw[h5]at g5
         simp only at g5
         by_cases k3:o.size≤20000
         ·rw[IP k3]at g5
          subst g5
          simp only[bO,cmdOk_impl]
          unfold r_done
          simp only[Bool.not_false,↓reduceIte,bO]
          by_cases he:a5=t.size
          ·subst he
           simp only[BEq.rfl,BN,BF,↓reduceIte,true_and]
           cases cmdOk ⟨(op.toNat:Int),s,q,k,v,o⟩<;>rfl
          ·have:((a5:Int)==(t.size:Int))=false:=by simp;omega
           rw[this,IP (show(!false)=true from rfl),IQ (fun h=>he h.1)]
         ·rw[IQ k3]at g5
          subst g5
          simp only[bO]
          rw[IQ (fun h=>by rw[big k v o (fun h=>k3 h.2.2)]at h;cases h.2)]
          exact bad1 _ _
       ·rw[IQ k2]at g4
        subst g4
        simp only[bO,tx_bad N hN t a3 ht d2]
        cases h5:ps t a4 with
        |none=>exact bad1 _ _
        |some x5=>
         obtain⟨o,a5⟩:=x5
         simp only
         rw[IQ (fun h=>by rw[big k v o (fun h=>k2 h.2.1)]at h;cases h.2)]
         exact bad1 _ _
     ·rw[IQ k1]at g3
      subst g3
      simp only[bO,tx_bad N hN t a2 ht c2]
      cases h4:ps t a3 with
      |none=>exact bad1 _ _
      |some x4=>
       obtain⟨v,a4⟩:=x4
       simp only
       cases h5:ps t a4 with
       |none=>exact bad1 _ _
       |some x5=>
        obtain⟨o,a5⟩:=x5
        simp only
        rw[IQ (fun h=>by rw[big k v o (fun h=>k1 h.1)]at h;cases h.2)]
        exact bad1 _ _
theorem cmdOf_key {t:BA}(h:(cmdOf t).2=true):(cmdOf t).1.Key.size≤9:=by
 have key:∀c:Command,cmdOk c=true→c.Key.size≤9:=by
  intro c hc
  unfold cmdOk at hc
  simp only[DT]at hc
  obtain⟨_,_,_,h4,h5⟩:=hc
  split at h5
  ·have:=emp_size h5.2.2.1;omega
  ·exact h5.1.2
 unfold cmdOf at h⊢
 repeat' split at h
 all_goals first
  |(cases h;done)
  |(simp_all;rename_i hh;exact key _ hh.2)
theorem findA (N:Nat)(l:List Applied)(x:Int)(hl:l.length≤1000000):∀(k m:Nat)(a:Int),k≤l.length→k<m→
  ∃a',s_Fold_l2 N l x m a (w64 ((k:Int)-1))=some a'∧(a'=a∧(∀j (h:j<l.length),j<k→l[j].Index≠x)∨∃j,∃h:j<l.length,a'=(j:Int)∧j<k∧l[j].Index=x∧∀i (h:i<l.length),i<j→l[i].Index≠x)
 |0,m,a,hk,hm=>by
  obtain⟨m,rfl⟩:∃q,m=q+1:=⟨m-1,by omega⟩
  rw[w64_id (by omega) (by omega),s_Fold_l2,IQ (by simp only[DT];omega)]
  exact⟨a,rfl,.inl ⟨rfl,fun j _ h=>by omega⟩⟩
 |k+1,m,a,hk,hm=>by
  obtain⟨m,rfl⟩:∃q,m=q+1:=⟨m-1,by omega⟩
  have e:w64 (((k+1:Nat):Int)-1)=(k:Int):=by rw[w64_id (by omega) (by omega)];omega
  rw[e,s_Fold_l2,IP (by simp only[DT];omega)]
  simp only[joinP]
  rw[at_lt (by omega:k<l.length),bO]
  by_cases h:l[k].Index=x
  ·rw[IP (by simpa using h)]
   obtain⟨a',e1,e2⟩:=findA N l x hl k m (k:Int) (by omega) (by omega)
   refine⟨a',e1,.inr ?_⟩
   rcases e2 with ⟨rfl,h2⟩|⟨j,hj,h2,h3,h4⟩
   ·exact⟨k,by omega,rfl,by omega,h,fun i hi hik=>h2 i hi hik⟩
   ·exact⟨j,hj,h2,by omega,h4⟩
  ·rw[IQ (by simpa using h)]
   obtain⟨a',e1,e2⟩:=findA N l x hl k m a (by omega) (by omega)
   refine⟨a',e1,?_⟩
   rcases e2 with ⟨rfl,h2⟩|⟨j,hj,h2,h3,h4⟩
   ·refine .inl ⟨rfl,fun j hj hjk=> ?_⟩
    by_cases hjk2:j=k
    ·subst hjk2;exact h
    ·exact h2 j hj (by omega)
   ·exact .inr ⟨j,hj,h2,by omega,h4⟩
theorem idxA (N:Nat)(x:Int)(l:List Applied):∀(rest pre:List Applied),l=pre++rest→l.length≤1000000→(∀y∈pre,y.Index≠x)→
  ∃r,L_IF_Applied_i1_l1_r N l x rest (pre.length:Int)=some r∧(r=.inr ()∧(∀y∈l,y.Index≠x)∨∃j,∃h:j<l.length,r=.inl (j:Int)∧l[j].Index=x∧∀i (h:i<l.length),i<j→l[i].Index≠x)
 |[],pre,he,hl,hp=>⟨_,rfl,.inl ⟨rfl,by rw[he,List.append_nil];exact hp⟩⟩
 |s::rest,pre,he,hl,hp=>by
  rw[L_IF_Applied_i1_l1_r,bO]
  unfold i_Fold_1
  rw[bO]
  have hl2:=hl
  rw[he,LA,LC]at hl2
  by_cases h:s.Index=x
  ·rw[IP (by simpa using h)]
   subst he
   refine⟨_,rfl,.inr ⟨pre.length,by simp,rfl,?_,?_⟩⟩
   ·rw[List.getElem_append_right (Nat.le_refl _)]
    simpa using h
   ·intro i hi hij
    rw[List.getElem_append_left hij]
    exact hp _ (List.getElem_mem _)
  ·rw[IQ (by simpa using h),WS (by omega)]
   have:=idxA N x l rest (pre++[s]) (by rw[he];simp) hl (by
    intro y hy
    rcases List.mem_append.1 hy with hy|hy
    ·exact hp y hy
    ·rw[List.mem_singleton.1 hy];exact h)
   rw[LA,List.length_singleton]at this
   exact this
theorem place_same (N:Nat)(hN:Big N)(l:List Applied)(x:Int)(hl:l.length≤1000000):∃a,s_Fold_l2 N l x N (-1) (w64 ((l.length:Int)-1))=some a∧L_IF_Applied_i1 N l x=some a∧(a= -1∨∃e,at? l a=some e∧e∈l∧0≤a):=by
 obtain⟨a,e1,h1⟩:=findA N l x hl l.length N (-1) (Nat.le_refl _) (by unfold Big at hN;omega)
 obtain⟨r,e2,h2⟩:=idxA N x l l [] (by simp) hl (by simp)
 have e3:L_IF_Applied_i1 N l x=r.elim some (fun _=>some (-1)):=by
  unfold L_IF_Applied_i1
  simp only[joinP]
  rw[L_IF_Applied_i1_l1_eq l x (by omega) (by unfold Big at hN;omega)]
  rw[show((([]:List Applied).length:Nat):Int)=0 from rfl]at e2
  rw[e2]
  cases r<;>rfl
 refine⟨a,e1,?_,?_⟩
 ·rw[e3]
  rcases h1 with ⟨rfl,h1⟩|⟨j,hj,rfl,_,h3,h4⟩
  ·rcases h2 with ⟨rfl,h2⟩|⟨i,hi,rfl,h5,h6⟩
   ·rfl
   ·exact absurd h5 (h1 i hi hi)
  ·rcases h2 with ⟨rfl,h2⟩|⟨i,hi,rfl,h5,h6⟩
   ·exact absurd h3 (h2 _ (List.getElem_mem hj))
   ·have:i=j:=by
     rcases Nat.lt_trichotomy i j with h|h|h
     ·exact absurd h5 (h4 i hi h)
     ·exact h
     ·exact absurd h3 (h6 j hj h)
    subst this
    rfl
 ·rcases h1 with ⟨rfl,h1⟩|⟨j,hj,rfl,_,h3,h4⟩
  ·exact .inl rfl
  ·exact .inr ⟨l[j],at_lt hj,List.getElem_mem _,by omega⟩
abbrev Inv (m:List Pair):Prop:=m.length≤62∧∀p∈m,okP p=true
theorem inv_small {m:List Pair}(h:Inv m):∀p∈m,smallP p:=fun p hp=>by
 have:=h.2 p hp
 simp only[okP,Bool.and_eq_true,DT]at this
 exact⟨by omega,by omega⟩
theorem made_same (N:Nat)(hN:Big N){m:List Pair}(hm:Inv m)(idx:Int)(e:Entry)(he:e.Data.size≤1099511627):∃r,s_l17Acted N m idx e=some r∧i_made_i1 N m idx e=some r∧Inv r.1:=by
 unfold s_l17Acted i_made_i1
 rw[cmd_spec N hN e.Data he,cmd_impl N hN e.Data he]
 simp only[bO]
 by_cases h1:(e.Kind !=3)=true
 ·rw[IP h1,IP h1]
  exact⟨_,rfl,rfl,hm⟩
 ·rw[IQ h1,IQ h1]
  cases h2:(cmdOf e.Data).2 with
  |false=>exact⟨_,rfl,rfl,hm⟩
  |true=>
   simp only[BN,BF,↓reduceIte]
   have:=cmdOf_key h2
   obtain⟨⟨m',t,ok⟩,a1,a2,a3,a4⟩:=act_same N hN m idx (cmdOf e.Data).1 (inv_small hm) (by omega) (by omega)
   rw[a1,a2]
   simp only[bO]
   cases ok with
   |false=>exact⟨_,rfl,rfl,hm⟩
   |true=>exact⟨_,rfl,rfl,a3,a4⟩
theorem fold_loop (N:Nat)(hN:Big N)(l:List Applied)(hl:l.length≤1000000)(hd:∀y∈l,y.Entry.Data.size≤1099511627)(st:Nat)(hst:st≤100000):∀(d i q:Nat)(m:List Pair),st+1=i+d→d<q→Inv m→
  ∃r,s_Fold_l1 N l (st:Int) q m (i:Int)=some r∧i_Fold_l1 N l (st:Int) q m (i:Int)=some r∧(r=.inl ([],false)∨∃m',r=.inr m'∧Inv m')
 |0,i,q,m,hi,hq,hm=>by
  obtain⟨q,rfl⟩:∃z,q=z+1:=⟨q-1,by omega⟩
  rw[s_Fold_l1,i_Fold_l1,IQ (by simp only[DT];omega),IQ (by simp only[DT];omega)]
  exact⟨_,rfl,rfl,.inr ⟨m,rfl,hm⟩⟩
 |d+1,i,q,m,hi,hq,hm=>by
  obtain⟨q,rfl⟩:∃z,q=z+1:=⟨q-1,by omega⟩
  rw[s_Fold_l1,i_Fold_l1,IP (by simp only[DT];omega),IP (by simp only[DT];omega)]
  simp only[joinP]
  obtain⟨a,e1,e2,h⟩:=place_same N hN l (i:Int) hl
  rw[e1,e2,bO,bO]
  rcases h with rfl|⟨e,h1,h2,h3⟩
  ·rw[IP (by decide),IP (by decide)]
   exact⟨_,rfl,rfl,.inl rfl⟩
  ·rw[IQ (by simp only[DT];omega),IQ (by simp only[DT];omega),h1,bO,bO]
   obtain⟨r,g1,g2,g3⟩:=made_same N hN hm (i:Int) e.Entry (hd e h2)
   rw[g1,g2,bO,bO,WS (by omega)]
   exact fold_loop N hN l hl hd st hst d (i+1) q r.1 (by omega) (by omega) g3
theorem fold_same (N:Nat)(hN:Big N)(l:List Applied)(hl:l.length≤1000000000)(hd:∀y∈l,y.Entry.Data.size≤1099511627)(st:Int):∃r,s_Fold N l st=some r∧i_Fold N l st=some r∧Inv r.1:=by
 have none_ok:Inv (([]:List Pair),false).1:=⟨by decide,by simp⟩
 unfold s_Fold i_Fold
 rw[in_eq,within_eq]
 simp only[bO]
 cases h1:decide (0≤st∧st≤100000)with
 |false=>exact⟨_,rfl,rfl,none_ok⟩
 |true=>
  simp only[DT]at h1
  simp only[BN,BF,↓reduceIte]
  obtain⟨s,rfl⟩:∃s:Nat,st=s:=⟨st.toNat,by omega⟩
  by_cases h2:decide ((l.length:Int)>400)=true
  ·rw[IP h2,IP h2]
   exact⟨_,rfl,rfl,none_ok⟩
  ·rw[IQ h2,IQ h2]
   simp only[DT]at h2
   simp only[joinP]
   obtain⟨r,e1,e2,e3⟩:=fold_loop N hN l (by omega) hd s (by omega) s 1 N [] (by omega) (by unfold Big at hN;omega) ⟨by decide,by simp⟩
   rw[show(1:Int)=((1:Nat):Int)from rfl,e1,e2,bO,bO]
   rcases e3 with rfl|⟨m,rfl,hm⟩
   ·exact⟨_,rfl,rfl,none_ok⟩
   ·simp only[Sum.elim_inr]
    rw[cat_nil (by omega)]
    exact⟨_,rfl,rfl,hm⟩
theorem xor_u32 (a b:Int):∃r,intD .xor .u32 a b=some r∧0≤r∧r<4294967296:=by
 refine⟨_,rfl,?_,?_⟩<;>(rw[IntKind.wrap_u32];omega)
theorem sum8 (N:Nat):∀(d k m:Nat)(s:Int),8=k+d→d<m→0≤s→s<4294967296→∃r,s_SumMore_l2 N m s (k:Int)=some r∧i_SumMore_l2 N m s (k:Int)=some r∧0≤r∧r<4294967296
 |0,k,m,s,hk,hm,h0,h1=>by
  obtain⟨m,rfl⟩:∃q,m=q+1:=⟨m-1,by omega⟩
  rw[s_SumMore_l2,i_SumMore_l2,IQ (by simp only[DT];omega),IQ (by simp only[DT];omega)]
  exact⟨s,rfl,rfl,h0,h1⟩
 |d+1,k,m,s,hk,hm,h0,h1=>by
  obtain⟨m,rfl⟩:∃q,m=q+1:=⟨m-1,by omega⟩
  rw[s_SumMore_l2,i_SumMore_l2,IP (by simp only[DT];omega),IP (by simp only[DT];omega)]
  have e1:intD .rem .u32 s 2=some (s.tmod 2):=rfl
  have e2:intD .quo .u32 s 2=some (s/2):=by
   simp only[intD]
   rw[IQ (by decide),Int.tdiv_eq_ediv_of_nonneg h0,IntKind.wrap_u32]
   refine congrArg some ?_
   omega
  obtain⟨x,e3,x0,x1⟩:=xor_u32 (s/2) 3558460437
  simp only[joinP,e1,e2,e3,bO,WS (show k<9223372036854775807 by omega)]
  by_cases h:(s.tmod 2==1)=true
  ·rw[IP h,IP h]
   exact sum8 N d (k+1) m x (by omega) (by omega) x0 x1
  ·rw[IQ h,IQ h]
   exact sum8 N d (k+1) m (s/2) (by omega) (by omega) (by omega) (by omega)
theorem sum_loop (N:Nat)(hN:Big N)(t:BA)(ht:t.size≤1099511627):∀(d k m:Nat)(s:Int),t.size=k+d→d<m→0≤s→s<4294967296→∃r,s_SumMore_l1 N t m s (k:Int)=some r∧i_SumMore_l1 N t m s (k:Int)=some r∧0≤r∧r<4294967296
 |0,k,m,s,hk,hm,h0,h1=>by
  obtain⟨m,rfl⟩:∃q,m=q+1:=⟨m-1,by omega⟩
  rw[s_SumMore_l1,i_SumMore_l1,IQ (by simp only[DT];omega),IQ (by simp only[DT];omega)]
  exact⟨s,rfl,rfl,h0,h1⟩
 |d+1,k,m,s,hk,hm,h0,h1=>by
  obtain⟨m,rfl⟩:∃q,m=q+1:=⟨m-1,by omega⟩
  rw[s_SumMore_l1,i_SumMore_l1,IP (by simp only[DT];omega),IP (by simp only[DT];omega)]
  obtain⟨c,hc,_⟩:=rv_step (t:=t) (i:=k) (j:=0) (acc:=0) (by omega)
  obtain⟨x,e3,x0,x1⟩:=xor_u32 s (IntKind.wrap .u32 (c.toNat:Int))
  obtain⟨y,f1,f2,y0,y1⟩:=sum8 N 8 0 N x rfl (by unfold Big at hN;omega) x0 x1
  rw[show((0:Nat):Int)=0 from rfl]at f1 f2
  simp only[joinP,hc,e3,f1,f2,bO,WS (show k<9223372036854775807 by omega)]
  exact sum_loop N hN t ht d (k+1) m y (by omega) (by omega) y0 y1
theorem sum_ok (N:Nat)(hN:Big N)(t:BA)(ht:t.size≤1099511627):∃s,s_SumOf N t=some s∧i_SumOf N t=some s∧0≤s∧s<4294967296:=by
 obtain⟨r,e1,e2,h0,h1⟩:=sum_loop N hN t ht t.size 0 N 4294967295 (by omega) (by unfold Big at hN;omega) (by decide) (by decide)
 rw[show((0:Nat):Int)=0 from rfl]at e1 e2
 refine⟨r,?_,?_,h0,h1⟩
 ·unfold s_SumOf s_SumMore
  simp only[joinP,e1,bO]
 ·unfold i_SumOf i_SumMore
  simp only[joinP,e2,bO]
theorem shr_ok (s:Int)(k:Int)(hk:0≤k):∃r,intSh .shr .u32 s k=some r:=by
 simp only[intSh]
 rw[IQ (by omega)]
 exact⟨_,rfl⟩
def fourN (N:Nat)(t:BA):BA:=match s_SumOf N t with
 |some s=>(match s_l02Four N s with|some b=>b|none=>⟨#[]⟩)
 |none=>⟨#[]⟩
theorem four_ok (N:Nat)(hN:Big N)(t:BA)(ht:t.size≤1099511627):∃s a b c,s_SumOf N t=some s∧i_SumOf N t=some s∧s_l02Four N s=some (fourN N t)∧(fourN N t).size=4∧
  intSh .shr .u32 s 24=some a∧intSh .shr .u32 s 16=some b∧intSh .shr .u32 s 8=some c∧strOf ([IntKind.wrap .u8 a,IntKind.wrap .u8 b,IntKind.wrap .u8 c,IntKind.wrap .u8 s]:List Int)=fourN N t:=by
 obtain⟨s,e1,e2,_,_⟩:=sum_ok N hN t ht
 obtain⟨a,ea⟩:=shr_ok s 24 (by decide)
 obtain⟨b,eb⟩:=shr_ok s 16 (by decide)
 obtain⟨c,ec⟩:=shr_ok s 8 (by decide)
 have e3:s_l02Four N s=some (strOf ([IntKind.wrap .u8 a,IntKind.wrap .u8 b,IntKind.wrap .u8 c,IntKind.wrap .u8 s]:List Int)):=by
  unfold s_l02Four
  simp only[ea,eb,ec,bO]
 have e4:fourN N t=strOf ([IntKind.wrap .u8 a,IntKind.wrap .u8 b,IntKind.wrap .u8 c,IntKind.wrap .u8 s]:List Int):=by
  unfold fourN
  rw[e1]
  simp only
  rw[e3]
 refine⟨s,a,b,c,e1,e2,by rw[e3,e4],by rw[e4,strOf_data];rfl,ea,eb,ec,e4.symm⟩
def frm (N:Nat)(t:BA):BA:=encT t.size++fourN N t++t
theorem four_size (N:Nat)(hN:Big N)(t:BA)(ht:t.size≤1099511627):(fourN N t).size=4:=by
 obtain⟨_,_,_,_,_,_,_,h,_⟩:=four_ok N hN t ht
 exact h
theorem frm_size (N:Nat)(hN:Big N)(t:BA)(ht:t.size≤1099511627):(frm N t).size=(enc t.size).length+4+t.size:=by
 unfold frm
 rw[BZ,BZ,encT_size,four_size N hN t ht]
theorem frame_spec (N:Nat)(hN:Big N)(t:BA)(ht:t.size≤1099511627):s_Frame N t=some (if 1≤t.size∧t.size≤9000 then(frm N t,true)else(⟨#[]⟩,false)):=by
 unfold s_Frame
 rw[in_eq,bO]
 by_cases h:1≤t.size∧t.size≤9000
 ·have e:decide ((1:Int)≤(t.size:Int)∧(t.size:Int)≤9000)=true:=by simp only[DT];omega
  obtain⟨s,a,b,c,e1,_,e3,e4,_⟩:=four_ok N hN t ht
  have z:=encT_size t.size
  have y:=enc_len5 (n:=t.size) (by omega)
  rw[e,IP h]
  simp only[BN,BF,↓reduceIte]
  rw[var_spec N hN t.size (by omega),bO,e1,bO,e3,bO,scat_le (by omega),bO,scat_le (by rw[BZ];omega),bO]
  rfl
 ·have e:decide ((1:Int)≤(t.size:Int)∧(t.size:Int)≤9000)=false:=by simp only[decide_eq_false_iff_not];omega
  rw[e,IQ h]
  rfl
theorem frame_impl (N:Nat)(hN:Big N)(t:BA)(ht:t.size≤1099511627):i_Frame N t=some (if 1≤t.size∧t.size≤9000 then(frm N t,true)else(⟨#[]⟩,false)):=by
 unfold i_Frame
 rw[within_eq,bO]
 by_cases h:1≤t.size∧t.size≤9000
 ·have e:decide ((1:Int)≤(t.size:Int)∧(t.size:Int)≤9000)=true:=by simp only[DT];omega
  obtain⟨s,a,b,c,_,e1,_,e4,ea,eb,ec,e5⟩:=four_ok N hN t ht
  have z:=encT_size t.size
  have y:=enc_len5 (n:=t.size) (by omega)
  rw[e,IP h]
  simp only[BN,BF,↓reduceIte]
  rw[var_impl N hN t.size (by omega),IP (by omega)]
  simp only[e1,ea,eb,ec,bO,e5]
  rw[scat_le (by omega),bO,scat_le (by rw[BZ];omega),bO]
  rfl
 ·have e:decide ((1:Int)≤(t.size:Int)∧(t.size:Int)≤9000)=false:=by simp only[decide_eq_false_iff_not];omega
  rw[e,IQ h]
  rfl
def chain {α:Type}(ok:Option α→α→Bool):Option α→List α→Bool
 |_,[]=>true
 |o,x::xs=>ok o x&&chain ok (some x) xs
def oks (b:Bool):Bool⊕Unit:=match b with|true=>.inr ()|false=>.inl false
theorem take_last {α:Type}{xs:List α}{k:Nat}(hk:k<xs.length):(xs.take (k+1)).getLast?=some xs[k]:=by
 rw[List.take_succ_eq_append_getElem hk,List.getLast?_append]
 simp
theorem at_prev {α:Type}{xs:List α}{k:Nat}(h0:0<k)(hk:k≤xs.length)(hl:xs.length≤1099511627776):at? xs (w64 ((k:Int)-1))=(xs.take k).getLast?:=by
 obtain⟨k,rfl⟩:∃q,k=q+1:=⟨k-1,by omega⟩
 rw[take_last (by omega),w64_id (by omega) (by omega),show((k+1:Nat):Int)-1=(k:Int) by omega,at_lt (by omega)]
theorem chain_loop {α:Type}(ok:Option α→α→Bool)(f:Nat→Int→Option (Bool⊕Unit))(xs:List α)
  (hstep:∀(m k:Nat)(hk:k<xs.length),f (m+1) (k:Int)=if ok (xs.take k).getLast? xs[k]=true then f m ((k+1:Nat):Int)else some (.inl false))
  (hend:∀m,f (m+1) (xs.length:Int)=some (.inr ())):∀(d k m:Nat),xs.length=k+d→d<m→f m (k:Int)=some (oks (chain ok (xs.take k).getLast? (xs.drop k)))
 |0,k,m,hd,hm=>by
  obtain⟨m,rfl⟩:∃q,m=q+1:=⟨m-1,by omega⟩
  rw[show k=xs.length by omega,hend,List.drop_length]
  rfl
 |d+1,k,m,hd,hm=>by
  obtain⟨m,rfl⟩:∃q,m=q+1:=⟨m-1,by omega⟩
  have hk:k<xs.length:=by omega
  have ih:=chain_loop ok f xs hstep hend d (k+1) m (by omega) (by omega)
  rw[hstep m k hk,DG hk]
  by_cases h:ok (xs.take k).getLast? xs[k]=true
  ·rw[IP h,ih,take_last hk]
   simp only[chain,h,Bool.true_and]
  ·rw[IQ h]
   simp only[chain,Bool.not_eq_true]at h⊢
   rw[h]
   rfl
theorem chain_start {α:Type}(ok:Option α→α→Bool)(f:Nat→Int→Option (Bool⊕Unit))(xs:List α){N:Nat}(hN:xs.length<N)
  (hstep:∀(m k:Nat)(hk:k<xs.length),f (m+1) (k:Int)=if ok (xs.take k).getLast? xs[k]=true then f m ((k+1:Nat):Int)else some (.inl false))
  (hend:∀m,f (m+1) (xs.length:Int)=some (.inr ())):f N 0=some (oks (chain ok none xs)):=by
 have:=chain_loop ok f xs hstep hend xs.length 0 N (by omega) hN
 simpa using this
def okFile (o:Option File)(x:File):Bool:=decide (1≤(x.Name.size:Int)∧(x.Name.size:Int)≤12)&&decide (x.Text.size≤20000)&&(match o with|none=>true|some q=>blt q.Name x.Name)
def diskOk (d:Disk):Bool:=decide (d.Files.length≤30)&&chain okFile none d.Files
theorem take_none {α:Type}{xs:List α}{k:Nat}(h0:0<k)(hk:k<xs.length)(h:(xs.take k).getLast?=none):False:=by
 rw[List.getLast?_eq_none_iff,List.take_eq_nil_iff]at h
 rcases h with h|h
 ·omega
 ·rw[h]at hk;exact absurd hk (by simp)
theorem diskOk_impl_step (N:Nat)(d:Disk)(hl:d.Files.length≤1099511627)(m k:Nat)(hk:k<d.Files.length):i_DiskOk_l1 N d (m+1) (k:Int)=if okFile (d.Files.take k).getLast? d.Files[k]=true then i_DiskOk_l1 N d m ((k+1:Nat):Int)else some (.inl false):=by
 rw[i_DiskOk_l1,IP (by simp;omega),at_lt hk]
 simp only[bO,within_eq]
 rw[WS (by omega)]
 simp only[okFile]
 by_cases h1:1≤(d.Files[k].Name.size:Int)∧(d.Files[k].Name.size:Int)≤12
 case neg=>simp only[DF h1];rfl
 simp only[DE h1,BN,BF,if_false,Bool.true_and]
 by_cases h2:d.Files[k].Text.size≤20000
 case neg=>rw[IP (by simp;omega),DF h2];rfl
 rw[IQ (by simp;omega),DE h2]
 by_cases h0:0<k
 ·rw[IP (by simpa using h0),at_prev h0 (by omega) (by omega)]
  cases hq:(d.Files.take k).getLast? with
  |none=>exact(take_none h0 hk hq).elim
  |some q=>
   simp only[bO,Bool.true_and]
   rw[show Op.bytesLess q.Name.toList d.Files[k].Name.toList=blt q.Name d.Files[k].Name from rfl]
   cases blt q.Name d.Files[k].Name<;>rfl
 ·have:k=0:=by omega
  subst this
  rw[IQ (by decide)]
  rfl
theorem diskOk_impl (N:Nat)(hN:Big N)(d:Disk)(hl:d.Files.length≤1099511627):i_DiskOk N d=some (diskOk d):=by
 unfold i_DiskOk diskOk
 rw[chain_start okFile (i_DiskOk_l1 N d) d.Files (by unfold Big at hN;omega) (diskOk_impl_step N d hl) (fun m=>by rw[i_DiskOk_l1,IQ (by simp)])]
 cases chain okFile none d.Files
 ·simp[oks,joinP]
 ·simp only[joinP,oks,bO,Sum.elim_inr,Bool.and_true]
  congr 1
  exact decide_eq_decide.2 (by omega)
theorem diskOk_spec_step (N:Nat)(d:Disk)(hl:d.Files.length≤1099511627)(m k:Nat)(hk:k<d.Files.length):s_DiskOk_l1 N d (m+1) (k:Int)=if okFile (d.Files.take k).getLast? d.Files[k]=true then s_DiskOk_l1 N d m ((k+1:Nat):Int)else some (.inl false):=by
 rw[s_DiskOk_l1,IP (by simp;omega),at_lt hk]
 simp only[bO,in_eq,joinP]
 rw[WS (by omega)]
 simp only[okFile]
 by_cases h1:1≤(d.Files[k].Name.size:Int)∧(d.Files[k].Name.size:Int)≤12
 case neg=>simp only[DF h1];rfl
 simp only[DE h1,BN,BF,if_false,Bool.true_and]
 by_cases h2:d.Files[k].Text.size≤20000
 case neg=>rw[IP (by simp;omega),DF h2];rfl
 rw[IQ (by simp;omega),DE h2]
 by_cases h0:0<k
 ·rw[IP (by simpa using h0),at_prev h0 (by omega) (by omega)]
  cases hq:(d.Files.take k).getLast? with
  |none=>exact(take_none h0 hk hq).elim
  |some q=>
   simp only[bO,Bool.true_and]
   rw[show Op.bytesLess q.Name.toList d.Files[k].Name.toList=blt q.Name d.Files[k].Name from rfl]
   cases blt q.Name d.Files[k].Name<;>rfl
 ·have:k=0:=by omega
  subst this
  rw[IQ (by decide)]
  rfl
theorem diskOk_spec (N:Nat)(hN:Big N)(d:Disk)(hl:d.Files.length≤1099511627):s_DiskOk N d=some (diskOk d):=by
 unfold s_DiskOk diskOk
 by_cases h:d.Files.length≤30
 ·rw[IQ (by simp;omega),chain_start okFile (s_DiskOk_l1 N d) d.Files (by unfold Big at hN;omega) (diskOk_spec_step N d hl) (fun m=>by rw[s_DiskOk_l1,IQ (by simp)])]
  rw[DE h]
  cases chain okFile none d.Files<;>rfl
 ·rw[IP (by simp;omega),DF h]
  rfl
theorem mid_eq {i j:Nat}(h:i+j≤9223372036854775807):intSh .shr .u64 (IntKind.wrap .u64 (w64 ((i:Int)+(j:Int)))) 1=some (((i+j)/2:Nat):Int):=by
 have e1:w64 ((i:Int)+(j:Int))=((i+j:Nat):Int):=w64_id (by omega) (by omega)
 have e2:IntKind.wrap .u64 ((i+j:Nat):Int)=((i+j:Nat):Int):=by rw[IntKind.wrap_u64];omega
 rw[e1,e2]
 have e5:min 1 IntKind.u64.bits=1:=rfl
 simp only[intSh,e5]
 rw[IQ (by decide)]
 congr 1
 show Int.fdiv _ 2=_
 rw[Int.fdiv_eq_ediv_of_nonneg _ (by decide)]
 omega
theorem bs_gen {α:Type}(key:α→BA)(m:List α)(k:BA)(F:Nat→Int→Int→Option Int)(c:Nat)
  (hc:∀q (hq:q<m.length),(blt (key (m[q]'hq)) k=true↔q<c))
  (h0:∀f (i j:Nat),¬i<j→F (f+1) (i:Int) (j:Int)=some (i:Int))
  (h1:∀f (i j:Nat) (hlt:(i+j)/2<m.length),i<j→F (f+1) (i:Int) (j:Int)=if blt (key (m[(i+j)/2]'hlt)) k=true then F f (((i+j)/2+1:Nat):Int) (j:Int)else F f (i:Int) (((i+j)/2:Nat):Int)):
  ∀(f i j:Nat),i≤c→c≤j→j≤m.length→j-i<f→F f (i:Int) (j:Int)=some (c:Int)
 |0,i,j,_,_,_,h4=>by omega
 |f+1,i,j,g1,g2,g3,h4=>by
  by_cases hij:i<j
  ·have hlt:(i+j)/2<m.length:=by omega
   have hq:=hc _ hlt
   rw[h1 f i j hlt hij]
   by_cases hb:blt (key (m[(i+j)/2]'hlt)) k=true
   ·rw[IP hb]
    exact bs_gen key m k F c hc h0 h1 f _ j (by have:=hq.1 hb;omega) g2 g3 (by omega)
   ·have:¬(i+j)/2<c:=fun h=>hb (hq.2 h)
    rw[IQ hb]
    exact bs_gen key m k F c hc h0 h1 f i _ g1 (by omega) (by omega) (by omega)
  ·rw[h0 f i j hij]
   congr 1
   omega
theorem place_of {α:Type}(key:α→BA)(k:BA):∀(m:List α),m.Pairwise (fun a b=>blt (key a) (key b)=true)→∃c,c≤m.length∧(∀q (hq:q<m.length),(blt (key (m[q]'hq)) k=true↔q<c))∧(∀q (hq:q<m.length),key (m[q]'hq)=k→q=c)
 |[],_=>⟨0,Nat.le_refl _,fun q hq=>absurd hq (by simp),fun q hq=>absurd hq (by simp)⟩
 |x::m,h=>by
  obtain⟨hx,hm⟩:=List.pairwise_cons.1 h
  obtain⟨c,c1,c2,c3⟩:=place_of key k m hm
  cases hb:blt (key x) k with
  |true=>
   refine⟨c+1,by simp;omega,fun q hq=> ?_,fun q hq=> ?_⟩
   ·cases q with
    |zero=>simp[hb]
    |succ q=>simp only[List.getElem_cons_succ];rw[c2 q (by simpa using hq)];omega
   ·cases q with
    |zero=>intro e;simp only[List.getElem_cons_zero]at e;rw[e,blt_irrefl]at hb;cases hb
    |succ q=>intro e;simp only[List.getElem_cons_succ]at e;have:=c3 q (by simpa using hq) e;omega
  |false=>
   have hall:∀y∈m,blt k (key y)=true:=by
    intro y hy
    have h1:=hx y hy
    rcases blt_tri (key x) k with h2|h2|h2
    ·rw[hb]at h2;cases h2
    ·rw[←h2];exact h1
    ·exact blt_trans h2 h1
   refine⟨0,Nat.zero_le _,fun q hq=> ?_,fun q hq=> ?_⟩
   ·cases q with
    |zero=>simp[hb]
    |succ q=>
     simp only[List.getElem_cons_succ]
     have:=blt_asymm (hall (m[q]'(by simpa using hq)) (List.getElem_mem _))
     simp[this]
   ·cases q with
    |zero=>intro _;rfl
    |succ q=>
     intro e
     simp only[List.getElem_cons_succ]at e
     have:=hall (m[q]'(by simpa using hq)) (List.getElem_mem _)
     rw[e,blt_irrefl]at this
     cases this
def ints (t:BA):List Int:=t.data.toList.map fun b=>(b.toNat:Int)
theorem ints_len (t:BA):(ints t).length=t.size:=by
 unfold ints
 rw[List.length_map,Array.length_toList]
 rfl
theorem sat_lt {t:BA}{k:Nat}(h:k<t.size):sat? t (k:Int)=some ((ints t)[k]'(by rw[ints_len];exact h)):=by
 unfold sat?
 rw[IP (by omega),Int.toNat_natCast,getElem?_pos t k h]
 simp only[ints,List.getElem_map,Option.map_some]
 rfl
theorem ints_w {t:BA}{k:Nat}(h:k<(ints t).length):w64 ((ints t)[k])=(ints t)[k]:=by
 have:(ints t)[k]=((t.data.toList[k]'(by rw[ints_len]at h;rw[Array.length_toList];exact h)).toNat:Int):=by simp only[ints,List.getElem_map]
 rw[this]
 have h2:=UInt8.toNat_lt (t.data.toList[k]'(by rw[ints_len]at h;rw[Array.length_toList];exact h))
 exact w64_id (by omega) (by omega)
theorem take_one {α:Type}{xs:List α}{k:Nat}(h:k<xs.length):xs.take k++[xs[k]]=xs.take (k+1):=by
 rw[List.take_add_one,List.getElem?_eq_getElem h]
 rfl
def readConf (t:BA):List Int×Bool:=if confOk (ints t)=true then(ints t,true)else([],false)
theorem readConf_r (N:Nat)(t:BA)(ht:t.size≤1099511627):∀(d k m:Nat),t.size=k+d→d<m→i_ReadConf_l1 N t m (k:Int) ((ints t).take k)=some (ints t)
 |0,k,m,h,hm=>by
  obtain⟨m,rfl⟩:∃q,m=q+1:=⟨m-1,by omega⟩
  rw[i_ReadConf_l1,IQ (by simp;omega),List.take_of_length_le (by rw[ints_len];omega)]
 |d+1,k,m,h,hm=>by
  obtain⟨m,rfl⟩:∃q,m=q+1:=⟨m-1,by omega⟩
  have hk:k<(ints t).length:=by rw[ints_len];omega
  rw[i_ReadConf_l1,IP (by simp;omega),sat_lt (by omega)]
  simp only[bO,ints_w hk,WS (k:=k) (by omega)]
  rw[cat_ok (by rw[List.length_take];simp only[LC,List.length_nil];omega),bO,take_one hk]
  exact readConf_r N t ht d (k+1) m (by omega) (by omega)
theorem readConf_impl (N:Nat)(hN:Big N)(t:BA)(ht:t.size≤1099511627):i_ReadConf N t=some (readConf t):=by
 unfold i_ReadConf readConf
 simp only[joinP]
 have:=readConf_r N t ht t.size 0 N (by omega) (by omega)
 rw[show(0:Int)=((0:Nat):Int)from rfl,show([]:List Int)=(ints t).take 0 from rfl,this]
 simp only[bO,confOk_impl N hN (ints t) (by rw[ints_len];omega)]
 cases confOk (ints t)<;>rfl
theorem readConf_s (N:Nat)(t:BA)(ht:t.size≤1099511627):∀(d k m:Nat),t.size=k+d→d<m→k≤5→s_ReadConf_l1 N t m (k:Int) ((ints t).take k)=some ((ints t).take 5)
 |0,k,m,h,hm,h5=>by
  obtain⟨m,rfl⟩:∃q,m=q+1:=⟨m-1,by omega⟩
  rw[s_ReadConf_l1,IQ (by simp;omega),List.take_of_length_le (by rw[ints_len];omega),List.take_of_length_le (by rw[ints_len];omega)]
 |d+1,k,m,h,hm,h5=>by
  obtain⟨m,rfl⟩:∃q,m=q+1:=⟨m-1,by omega⟩
  have hk:k<(ints t).length:=by rw[ints_len];omega
  by_cases h4:k=5
  ·subst h4
   rw[s_ReadConf_l1,IP (by simp;omega),IQ (by simp)]
  rw[s_ReadConf_l1,IP (by simp;omega),IP (by simp;omega),sat_lt (by omega)]
  simp only[bO,ints_w hk,WS (k:=k) (by omega)]
  rw[cat_ok (by rw[List.length_take];simp only[LC,List.length_nil];omega),bO,take_one hk]
  exact readConf_s N t ht d (k+1) m (by omega) (by omega) (by omega)
end Go.Proofs.YthfjkhlgkjgkjaaGreatDoor.Pe.FnExactSound
