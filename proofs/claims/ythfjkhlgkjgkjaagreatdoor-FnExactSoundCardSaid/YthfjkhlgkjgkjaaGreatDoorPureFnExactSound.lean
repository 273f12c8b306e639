import Derived.Test.YthfjkhlgkjgkjaaGreatDoorPureFnExactSoundA
import Derived.KernelRfl
import Derived.Lib.ItoaNum
import Derived.Lib.ItoaLen
import Derived.Lib.AtoiAll
import Derived.Lib.AtoiTie
namespace Go.Proofs.YthfjkhlgkjgkjaaGreatDoor.Pe.FnExactSound
open Go Go.RowKit
set_option linter.unusedVariables false
set_option linter.unusedSimpArgs false
set_option maxHeartbeats 4000000
theorem readConf_spec (N:Nat)(hN:Big N)(t:BA)(ht:t.size≤1099511627):s_ReadConf N t=some (readConf t):=by
 unfold s_ReadConf readConf
 simp only[joinP]
 have:=readConf_s N t ht t.size 0 N (by omega) (by omega) (by omega)
 rw[show(0:Int)=((0:Nat):Int)from rfl,show([]:List Int)=(ints t).take 0 from rfl,this]
 simp only[bO,confOk_spec N hN ((ints t).take 5) (by rw[List.length_take];omega)]
 by_cases h5:t.size≤5
 ·rw[List.take_of_length_le (by rw[ints_len];exact h5),IQ (by simp[ints_len])]
  cases confOk (ints t)<;>rfl
 ·have hf:confOk (ints t)=false:=by
   cases hc:confOk (ints t)with
   |false=>rfl
   |true=>have:=confOk_len hc;rw[ints_len]at this;omega
  rw[IP (by rw[List.length_take,ints_len];simp;omega),hf]
  rfl
def entOk (e:Entry):Bool:=decide (0≤e.Term∧e.Term≤100000)&&(if e.Kind=1 then decide (e.Data=(⟨#[]⟩:BA))else if e.Kind=2 then confOk (ints e.Data)else if e.Kind=3 then decide (e.Data.size≤120)else false)
theorem readConf_ok (t:BA):(readConf t).2=confOk (ints t):=by
 unfold readConf
 cases confOk (ints t)<;>rfl
theorem entOk_spec (N:Nat)(hN:Big N)(e:Entry)(h:e.Data.size≤1099511627):s_EntryOk N e=some (entOk e):=by
 unfold s_EntryOk entOk
 simp only[in_eq,bO,readConf_spec N hN e.Data h,readConf_ok]
 by_cases h0:0≤e.Term∧e.Term≤100000
 ·by_cases h1:e.Kind=1
  ·simp[h0,h1]
  ·by_cases h2:e.Kind=2
   ·simp[h0,h2]
   ·by_cases h3:e.Kind=3
    ·simp[h0,h3]
     omega
    ·simp[h1,h2,h3]
 ·simp[h0]
theorem entOk_impl (N:Nat)(hN:Big N)(e:Entry)(h:e.Data.size≤1099511627):i_EntryOk N e=some (entOk e):=by
 rw[←entOk_spec N hN e h]
 unfold s_EntryOk i_EntryOk
 simp only[in_eq,within_eq,readConf_spec N hN e.Data h,readConf_impl N hN e.Data h]
def termsOk:Int→List Entry→Bool
 |_,[]=>true
 |t,e::es=>entOk e&&(decide (t≤e.Term)&&termsOk e.Term es)
theorem termsOk_cons (t:Int)(e:Entry)(es:List Entry):termsOk t (e::es)=(entOk e&&(decide (t≤e.Term)&&termsOk e.Term es)):=rfl
def logOk (l:Log):Bool:=decide (0≤l.Start∧l.Start≤100000)&&(decide (0≤l.StartTerm∧l.StartTerm≤100000)&&(decide (l.Entries.length≤120)&&(decide (l.Start+l.Entries.length≤100000)&&termsOk l.StartTerm l.Entries)))
theorem logOk_s (N:Nat)(hN:Big N)(c:Log):∀(es:List Entry)(t:Int)(k:Nat),k+es.length≤1099511627→(∀e∈es,e.Data.size≤1099511627)→s_LogOk_l1_r N c es t (k:Int)=some (if termsOk t es then .inr ()else .inl false)
 |[],t,k,hk,h=>rfl
 |e::es,t,k,hk,h=>by
  simp only[LC]at hk
  rw[s_LogOk_l1_r,termsOk_cons]
  simp only[bO,entOk_spec N hN e (h e (by simp)),WS (k:=k) (by omega),logOk_s N hN c es e.Term (k+1) (by omega) (fun z hz=>h z (by simp[hz]))]
  cases entOk e with
  |false=>simp
  |true=>
   by_cases ht:e.Term<t
   ·have:¬t≤e.Term:=by omega
    simp[ht,this]
   ·have:t≤e.Term:=by omega
    simp[ht,this]
theorem logOk_i (N:Nat)(hN:Big N)(c:Log):∀(es:List Entry)(t:Int)(k:Nat),k+es.length≤1099511627→(∀e∈es,e.Data.size≤1099511627)→i_LogOk_l1_r N c es t (k:Int)=some (if termsOk t es then .inr ()else .inl false)
 |[],t,k,hk,h=>rfl
 |e::es,t,k,hk,h=>by
  simp only[LC]at hk
  rw[i_LogOk_l1_r,termsOk_cons]
  simp only[bO,entOk_impl N hN e (h e (by simp)),WS (k:=k) (by omega),logOk_i N hN c es e.Term (k+1) (by omega) (fun z hz=>h z (by simp[hz]))]
  cases entOk e with
  |false=>simp
  |true=>
   by_cases ht:e.Term<t
   ·have:¬t≤e.Term:=by omega
    simp[ht,this]
   ·have:t≤e.Term:=by omega
    simp[ht,this]
theorem data_le {l:Log}(h:totLog l≤1099511627):l.Entries.length≤1099511627∧∀e∈l.Entries,e.Data.size≤1099511627:=by
 simp only[totLog,totL]at h
 refine⟨by omega,fun e he=> ?_⟩
 have:=le_sum (f:=totEntry) he
 simp only[totEntry]at this
 omega
theorem logOk_spec (N:Nat)(hN:Big N)(l:Log)(h:totLog l≤1099511627):s_LogOk N l=some (logOk l):=by
 obtain⟨hl,hd⟩:=data_le h
 unfold s_LogOk logOk
 simp only[in_eq,bO,joinP]
 rw[s_LogOk_l1_eq l (by omega) (by omega),show(0:Int)=((0:Nat):Int)from rfl,logOk_s N hN l l.Entries l.StartTerm 0 (by omega) hd]
 by_cases h1:0≤l.Start∧l.Start≤100000
 ·by_cases h2:0≤l.StartTerm∧l.StartTerm≤100000
  ·by_cases h3:l.Entries.length≤120
   ·rw[w64_id (by omega) (by omega)]
    have h3':¬(l.Entries.length:Int)>120:=by omega
    by_cases h4:l.Start+l.Entries.length≤100000
    ·have h4':¬l.Start+l.Entries.length>100000:=by omega
     simp only[Int.natCast_zero,h1,h2,h3,h3',h4,h4',decide_true,BN,BF,if_false,decide_false,Bool.true_and,and_self]
     cases termsOk l.StartTerm l.Entries<;>rfl
    ·have h4':l.Start+l.Entries.length>100000:=by omega
     simp[h1,h2,h3',h4,h4']
   ·have h3':(l.Entries.length:Int)>120:=by omega
    simp[h1,h2,h3,h3']
  ·simp[h1,h2]
 ·simp[h1]
theorem logOk_impl (N:Nat)(hN:Big N)(l:Log)(h:totLog l≤1099511627):i_LogOk N l=some (logOk l):=by
 rw[←logOk_spec N hN l h]
 obtain⟨hl,hd⟩:=data_le h
 unfold s_LogOk i_LogOk
 simp only[in_eq,within_eq,joinP]
 rw[s_LogOk_l1_eq l (by omega) (by omega),i_LogOk_l1_eq l (by omega) (by omega),show(0:Int)=((0:Nat):Int)from rfl,logOk_s N hN l l.Entries l.StartTerm 0 (by omega) hd,logOk_i N hN l l.Entries l.StartTerm 0 (by omega) hd]
theorem logOk_at {l:Log}(h:logOk l=true):0≤l.Start∧l.Start≤100000∧0≤l.StartTerm∧l.StartTerm≤100000∧l.Entries.length≤120∧l.Start+l.Entries.length≤100000∧termsOk l.StartTerm l.Entries=true:=by
 unfold logOk at h
 simp only[Bool.and_eq_true,DT]at h
 obtain⟨⟨h1,h2⟩,⟨h3,h4⟩,h5,h6,h7⟩:=h
 exact⟨h1,h2,h3,h4,h5,h6,h7⟩
def entryAt (l:Log)(i:Int):Entry×Bool:=match logOk l&&decide (l.Start<i∧i≤l.Start+l.Entries.length),l.Entries[(i-l.Start-1).toNat]? with
 |true,some e=>(e,true)
 |_,_=>(⟨0,0,⟨#[]⟩⟩,false)
theorem entryAt_spec (N:Nat)(hN:Big N)(l:Log)(i:Int)(h:totLog l≤1099511627)(hi:WI .i64 i):s_EntryAt N l i=some (entryAt l i):=by
 unfold s_EntryAt s_l12Last entryAt
 simp only[logOk_spec N hN l h,bO]
 cases ho:logOk l with
 |false=>simp
 |true=>
  obtain⟨a1,a2,a3,a4,a5,a6,a7⟩:=logOk_at ho
  have hw:=wi hi
  rw[w64_id (by omega) (by omega)]
  by_cases h1:i≤l.Start
  ·have:¬(l.Start<i∧i≤l.Start+l.Entries.length):=by omega
   simp[h1,this]
  ·by_cases h2:i>l.Start+l.Entries.length
   ·have:¬(l.Start<i∧i≤l.Start+l.Entries.length):=by omega
    simp[h1,h2,this]
   ·have h3:l.Start<i∧i≤l.Start+l.Entries.length:=by omega
    have h4:(i-l.Start-1).toNat<l.Entries.length:=by omega
    rw[w64_id (n:=i-l.Start) (by omega) (by omega),w64_id (by omega) (by omega),show i-l.Start-1=(((i-l.Start-1).toNat:Nat):Int) by omega,at_lt h4]
    simp only[h1,h2,h3,decide_true,decide_false,BN,BF,if_false,bO,Bool.true_and,Int.toNat_natCast,List.getElem?_eq_getElem h4,and_self]
theorem entryAt_impl (N:Nat)(hN:Big N)(l:Log)(i:Int)(h:totLog l≤1099511627)(hi:WI .i64 i):i_EntryAt N l i=some (entryAt l i):=by
 unfold i_EntryAt i_hasEntry entryAt
 simp only[logOk_impl N hN l h,within_eq,bO]
 cases ho:logOk l with
 |false=>simp
 |true=>
  obtain⟨a1,a2,a3,a4,a5,a6,a7⟩:=logOk_at ho
  have hw:=wi hi
  by_cases h1:i≤l.Start
  ·have h1':¬i>l.Start:=by omega
   have:¬(l.Start<i∧i≤l.Start+l.Entries.length):=by omega
   simp[h1',this]
  ·have h1':i>l.Start:=by omega
   rw[w64_id (n:=i-l.Start) (by omega) (by omega)]
   by_cases h2:i>l.Start+l.Entries.length
   ·have:¬(l.Start<i∧i≤l.Start+l.Entries.length):=by omega
    have h2':¬(1≤i-l.Start∧i-l.Start≤l.Entries.length):=by omega
    simp[h1',h2',show ¬i≤l.Start+l.Entries.length by omega]
   ·have h3:l.Start<i∧i≤l.Start+l.Entries.length:=by omega
    have h2':1≤i-l.Start∧i-l.Start≤l.Entries.length:=by omega
    have h4:(i-l.Start-1).toNat<l.Entries.length:=by omega
    rw[w64_id (by omega) (by omega),show i-l.Start-1=(((i-l.Start-1).toNat:Nat):Int) by omega,at_lt h4]
    simp only[h1',h2',h3,decide_true,decide_false,BN,BF,if_false,if_true,bO,Bool.true_and,Int.toNat_natCast,List.getElem?_eq_getElem h4,and_self]
def sameE (a b:Entry):Bool:=((a.Term==b.Term)&&((a.Kind==b.Kind)&&(decide (a.Data=b.Data)&&true))) ^^ true
def lacks (a:Applied)(x:Leader):Bool:=decide (x.Term>a.Term)&&(decide (x.Log.Start<a.Index)&&(!(entryAt x.Log a.Index).2||sameE (entryAt x.Log a.Index).1 a.Entry))
theorem lacks_impl (N:Nat)(hN:Big N)(a:Applied)(x:Leader)(h:totLeader x≤1099511627)(ha:WI .i64 a.Index):i_Whole_1 N x a=some (lacks a x):=by
 unfold i_Whole_1 lacks sameE
 rw[entryAt_impl N hN x.Log a.Index (by simpa[totLeader]using h) ha]
 simp only[bO]
 by_cases h1:x.Term>a.Term
 ·by_cases h2:x.Log.Start<a.Index
  ·cases(entryAt x.Log a.Index).2<;>simp[h1,h2]
  ·simp[h2]
 ·simp[h1]
theorem chain_sorted {α:Type}{key:α→BA}{ok:Option α→α→Bool}(h:∀q x,ok (some q) x=true→blt (key q) (key x)=true):∀{xs:List α}{o:Option α},chain ok o xs=true→xs.Pairwise (fun a b=>blt (key a) (key b)=true)∧∀q,o=some q→∀x∈xs,blt (key q) (key x)=true
 |[],o,_=>⟨.nil,fun _ _ x hx=>by simp at hx⟩
 |x::xs,o,hc=>by
  simp only[chain,Bool.and_eq_true]at hc
  obtain⟨h1,h2⟩:=chain_sorted h hc.2
  refine⟨.cons (h2 x rfl) h1,fun q hq y hy=> ?_⟩
  subst hq
  have h3:=h q x hc.1
  rcases List.mem_cons.1 hy with rfl|hy
  ·exact h3
  ·exact blt_trans h3 (h2 x rfl y hy)
theorem chain_all {α:Type}{ok:Option α→α→Bool}{p:α→Prop}(h:∀o x,ok o x=true→p x):∀{xs:List α}{o:Option α},chain ok o xs=true→∀x∈xs,p x
 |[],o,_=>fun x hx=>by simp at hx
 |x::xs,o,hc=>by
  simp only[chain,Bool.and_eq_true]at hc
  intro y hy
  rcases List.mem_cons.1 hy with rfl|hy
  ·exact h o _ hc.1
  ·exact chain_all h hc.2 y hy
def nameIs (n:BA)(f:File):Bool:=decide (f.Name=n)
def fileAt (d:Disk)(n:BA):Option BA:=(d.Files.find? (nameIs n)).map File.Text
theorem l03At_r (N:Nat)(d:Disk)(n:BA):∀(l:List File)(i:Nat),i+l.length≤1099511627776→s_l03At_l1_r N d n l (i:Int)=some (match l.findIdx? (nameIs n)with|some k=>.inl ((i+k:Nat):Int)|none=>.inr ())
 |[],i,_=>rfl
 |f::l,i,hi=>by
  simp only[LC]at hi
  rw[s_l03At_l1_r,bO,List.findIdx?_cons]
  by_cases h:f.Name=n
  ·have:nameIs n f=true:=by simp[nameIs,h]
   rw[IP (by simpa using h),this]
   rfl
  ·have:nameIs n f=false:=by simp[nameIs,h]
   rw[IQ (by simpa using h),this,WS (by omega),l03At_r N d n l (i+1) (by omega)]
   cases l.findIdx? (nameIs n)with
   |none=>rfl
   |some k=>simp only[BF,if_false,Option.map_some];congr 3;omega
theorem findIdx_find {α:Type}(p:α→Bool):∀l:List α,match l.findIdx? p with|some k=>∃x,l[k]? =some x∧p x=true∧l.find? p=some x|none=>l.find? p=none
 |[]=>rfl
 |x::l=>by
  have ih:=findIdx_find p l
  rw[List.findIdx?_cons,List.find?_cons]
  cases h:p x with
  |true=>exact⟨x,rfl,h,rfl⟩
  |false=>
   simp only[BF,if_false]
   cases hk:l.findIdx? p with
   |none=>rw[hk]at ih;exact ih
   |some k=>rw[hk]at ih;simpa using ih
theorem l03At_ok (N:Nat)(hN:Big N)(d:Disk)(hl:d.Files.length≤1099511627)(n:BA):∃a,s_l03At N d n=some a∧((a= -1∧fileAt d n=none)∨∃(k:Nat)(f:File),a=(k:Int)∧k<d.Files.length∧at? d.Files (k:Int)=some f∧f.Name=n∧fileAt d n=some f.Text):=by
 unfold s_l03At
 simp only[joinP]
 rw[s_l03At_l1_eq d n (by omega) (by unfold Big at hN;omega),show(0:Int)=((0:Nat):Int)from rfl,l03At_r N d n d.Files 0 (by omega)]
 have h:=findIdx_find (nameIs n) d.Files
 unfold fileAt
 cases hk:d.Files.findIdx? (nameIs n)with
 |none=>
  rw[hk]at h
  simp only at h
  exact⟨_,rfl,.inl ⟨rfl,by rw[h];rfl⟩⟩
 |some k=>
  rw[hk]at h
  obtain⟨x,h1,h2,h3⟩:=h
  refine⟨_,rfl,.inr ⟨k,x,by rw[Nat.zero_add],(List.getElem?_eq_some_iff.1 h1).1,?_,by simpa[nameIs]using h2,by rw[h3];rfl⟩⟩
  unfold at?
  rw[IP (by omega),Int.toNat_natCast,h1]
theorem l03Text_ok (N:Nat)(hN:Big N)(d:Disk)(hl:d.Files.length≤1099511627)(n:BA):s_l03Text N d n=some ((fileAt d n).getD ⟨#[]⟩):=by
 unfold s_l03Text
 obtain⟨a,h1,h2⟩:=l03At_ok N hN d hl n
 rw[h1,bO]
 rcases h2 with ⟨rfl,h2⟩|⟨k,f,rfl,_,h3,_,h5⟩
 ·rw[h2];rfl
 ·rw[IQ (by simp),h3,h5];rfl
def fileR (d:Disk)(n:BA):BA×Bool:=match fileAt d n with
 |some t=>(t,true)
 |none=>(⟨#[]⟩,false)
theorem fileAt_spec (N:Nat)(hN:Big N)(d:Disk)(hl:d.Files.length≤1099511627)(hd:diskOk d=true)(n:BA):s_FileAt N d n=some (fileR d n):=by
 unfold s_FileAt fileR
 obtain⟨a,h1,h2⟩:=l03At_ok N hN d hl n
 rw[h1,bO,diskOk_spec N hN d hl,hd,bO,IQ (by decide)]
 rcases h2 with ⟨rfl,h2⟩|⟨k,f,rfl,_,h3,_,h5⟩
 ·rw[h2];rfl
 ·rw[IQ (by simp),h3,h5];rfl
theorem okFile_lt (q x:File)(h:okFile (some q) x=true):blt q.Name x.Name=true:=by
 simp only[okFile,Bool.and_eq_true]at h
 exact h.2
theorem disk_sorted {d:Disk}(hd:diskOk d=true):d.Files.Pairwise (fun a b=>blt a.Name b.Name=true):=by
 simp only[diskOk,Bool.and_eq_true]at hd
 exact(chain_sorted (key:=File.Name) okFile_lt hd.2).1
theorem disk_len {d:Disk}(hd:diskOk d=true):d.Files.length≤30:=by
 simp only[diskOk,Bool.and_eq_true,DT]at hd
 exact hd.1
theorem disk_file {d:Disk}(hd:diskOk d=true):∀f∈d.Files,1≤f.Name.size∧f.Name.size≤12∧f.Text.size≤20000:=by
 simp only[diskOk,Bool.and_eq_true]at hd
 refine chain_all (fun o x h=> ?_) hd.2
 simp only[okFile,Bool.and_eq_true,DT]at h
 omega
theorem fileAt_size {d:Disk}(hd:diskOk d=true){n t:BA}(h:fileAt d n=some t):t.size≤20000:=by
 unfold fileAt at h
 obtain⟨f,h1,rfl⟩:=Option.map_eq_some_iff.1 h
 exact(disk_file hd f (List.mem_of_find?_eq_some h1)).2.2
theorem bsF (N:Nat)(hN:Big N)(xs:List File)(hl:xs.length≤1099511627)(k:BA)(c:Nat)(hc:c≤xs.length)(hq:∀q (hq:q<xs.length),(blt (xs[q]'hq).Name k=true↔q<c)):L_BF_string_l1 N xs k N 0 (xs.length:Int)=some (c:Int):=by
 have:=bs_gen File.Name xs k (L_BF_string_l1 N xs k) c hq (fun f i j h=> ?_) (fun f i j hlt hij=> ?_) N 0 xs.length (by omega) hc (Nat.le_refl _) (by unfold Big at hN;omega)
 ·exact this
 ·rw[L_BF_string_l1,IQ (by simp;omega)]
 ·rw[L_BF_string_l1,IP (by simp;omega),mid_eq (by omega),bO,w64_id (by omega) (by omega),at_lt hlt,bO]
  unfold i_fileNo_1 S_Compare
  simp only[bO,cmp_blt]
  rw[WS (by omega)]
  cases blt (xs[(i+j)/2]'hlt).Name k
  ·simp only[BF,if_false]
   split<;>rfl
  ·rfl
theorem fileNo_ok (N:Nat)(hN:Big N)(d:Disk)(hd:diskOk d=true)(n:BA):∃c b,i_fileNo N d n=some (c,b)∧((b=false∧fileAt d n=none)∨(b=true∧∃f,at? d.Files c=some f∧fileAt d n=some f.Text)):=by
 have hl:=disk_len hd
 obtain⟨c,c1,c2,c3⟩:=place_of File.Name n d.Files (disk_sorted hd)
 unfold i_fileNo L_BF_string
 simp only[joinP]
 rw[bsF N hN d.Files (by omega) n c c1 c2,bO]
 have hnone:(∀f∈d.Files,f.Name≠n)→fileAt d n=none:=by
  intro h
  unfold fileAt
  rw[List.find?_eq_none.2 (fun f hf=>by simpa[nameIs]using h f hf)]
  rfl
 by_cases h:c<d.Files.length
 ·rw[IP (by simp;omega),at_lt h,bO]
  unfold i_fileNo_1 S_Compare
  simp only[bO,cmp_blt]
  have hb:blt (d.Files[c]'h).Name n=false:=by
   cases hq:blt (d.Files[c]'h).Name n with
   |false=>rfl
   |true=>exact absurd ((c2 c h).1 hq) (by omega)
  rw[hb,IQ (by decide)]
  by_cases he:(d.Files[c]'h).Name=n
  ·refine⟨_,_,rfl,.inr ⟨by rw[IP he];rfl,d.Files[c]'h,at_lt h,?_⟩⟩
   unfold fileAt
   cases hf:d.Files.find? (nameIs n)with
   |none=>
    have:=List.find?_eq_none.1 hf _ (List.getElem_mem h)
    simp[nameIs,he]at this
   |some f=>
    have h1:=List.find?_some hf
    obtain⟨q,hq,h2⟩:=List.getElem_of_mem (List.mem_of_find?_eq_some hf)
    have h3:=c3 q hq (by rw[h2];simpa[nameIs]using h1)
    subst h3
    rw[←h2]
    rfl
  ·refine⟨_,_,rfl,.inl ⟨by rw[IQ he];rfl,hnone fun f hf hn=> ?_⟩⟩
   obtain⟨q,hq,h2⟩:=List.getElem_of_mem hf
   have h3:=c3 q hq (by rw[h2];exact hn)
   subst h3
   exact he (by rw[h2];exact hn)
 ·rw[IQ (by simp;omega)]
  refine⟨_,_,rfl,.inl ⟨rfl,hnone fun f hf hn=> ?_⟩⟩
  obtain⟨q,hq,h2⟩:=List.getElem_of_mem hf
  have h3:=c3 q hq (by rw[h2];exact hn)
  omega
theorem fileAt_impl (N:Nat)(hN:Big N)(d:Disk)(hd:diskOk d=true)(n:BA):i_FileAt N d n=some (fileR d n):=by
 unfold i_FileAt fileR
 have hl:=disk_len hd
 obtain⟨c,b,h1,h2⟩:=fileNo_ok N hN d hd n
 rw[diskOk_impl N hN d (by omega),hd,bO,IQ (by decide),h1,bO]
 rcases h2 with ⟨rfl,h2⟩|⟨rfl,f,h2,h3⟩
 ·rw[h2];rfl
 ·rw[IQ (by simp),h2,h3];rfl
abbrev rok (r:BA):Prop:=1≤r.size∧r.size≤9000
def nextF (N:Nat)(t:BA)(a:Nat):Option (BA×Nat):=match rdvT t a with
 |some (n,k)=>if a+k+4+n≤t.size then
   if rok (t.extract (a+k+4) (a+k+4+n))∧frm N (t.extract (a+k+4) (a+k+4+n))=t.extract a (a+k+4+n)then some (t.extract (a+k+4) (a+k+4+n),a+k+4+n)else none
  else none
 |none=>none
def unfr (N:Nat)(t:BA):Nat→Nat→List BA×Nat
 |0,a=>([],a)
 |f+1,a=>match nextF N t a with
  |some (x,b)=>(x::(unfr N t f b).1,(unfr N t f b).2)
  |none=>([],a)
theorem rdvT_some {t:BA}{a n k:Nat}(ha:a≤t.size)(h:rdvT t a=some (n,k)):n≤1000000000∧1≤k∧a+k≤t.size:=by
 unfold rdvT at h
 obtain⟨h1,h2,h3,h4⟩:=rdv_some.1 h
 have hlen:t.data.toList.length=t.size:=Array.length_toList
 rw[List.length_drop,hlen]at h4
 have:=enc_pos n
 omega
theorem rdvT_end {t:BA}{a:Nat}(ha:t.size≤a):rdvT t a=none:=by
 unfold rdvT rdv
 rw[rv_end ha]
theorem nextF_some {N:Nat}{t x:BA}{a b:Nat}(ha:a≤t.size)(h:nextF N t a=some (x,b)):a+6≤b∧b≤t.size∧rok x∧frm N x=t.extract a b:=by
 unfold nextF at h
 cases hr:rdvT t a with
 |none=>rw[hr]at h;cases h
 |some q=>
  obtain⟨n,k⟩:=q
  rw[hr]at h
  obtain⟨h1,h2,h3⟩:=rdvT_some ha hr
  simp only at h
  split at h<;>try cases h
  rename_i h4
  split at h<;>try cases h
  rename_i h5
  have hz:=ext_size t (a+k+4) (a+k+4+n) (by omega) (by omega)
  have:=h5.1.1
  exact⟨by omega,h4,h5.1,h5.2⟩
theorem unfr_ok (N:Nat)(t:BA):∀(f a:Nat),a≤t.size→(unfr N t f a).2≤t.size∧a+6*(unfr N t f a).1.length≤(unfr N t f a).2∧∀r∈(unfr N t f a).1,rok r
 |0,a,ha=>⟨ha,by simp[unfr],by simp[unfr]⟩
 |f+1,a,ha=>by
  rw[unfr]
  cases h:nextF N t a with
  |none=>exact⟨ha,by simp,by simp⟩
  |some q=>
   obtain⟨x,b⟩:=q
   obtain⟨h1,h2,h3,_⟩:=nextF_some ha h
   obtain⟨h5,h6,h7⟩:=unfr_ok N t f b h2
   refine⟨h5,by simp only[LC];omega,fun r hr=> ?_⟩
   rcases List.mem_cons.1 hr with rfl|hr
   ·exact h3
   ·exact h7 r hr
theorem unf_impl_l (N:Nat)(hN:Big N)(t:BA)(ht:t.size≤20000):∀(f a m:Nat)(acc:List BA),a≤t.size→t.size<a+f→f<m→acc.length+f≤1000000→i_Unframe_l1 N t m (a:Int) acc=some (acc++(unfr N t f a).1,((unfr N t f a).2:Int))
 |0,a,m,acc,ha,hf,hm,hb=>by omega
 |f+1,a,m,acc,ha,hf,hm,hb=>by
  obtain⟨m,rfl⟩:∃q,m=q+1:=⟨m-1,by omega⟩
  rw[i_Unframe_l1,rvar_impl N hN t a (by omega) ha,bO,unfr]
  unfold rdR
  cases hr:rdvT t a with
  |none=>simp[nextF,hr]
  |some q=>
   obtain⟨n,k⟩:=q
   obtain⟨h1,h2,h3⟩:=rdvT_some ha hr
   simp only[BN,BF,↓reduceIte]
   have e1:w64 ((t.size:Int)-((a+k:Nat):Int))=(t.size:Int)-((a+k:Nat):Int):=w64_id (by omega) (by omega)
   have e2:w64 (((a+k:Nat):Int)+4)=((a+k+4:Nat):Int):=by rw[w64_id (by omega) (by omega)];omega
   have e3:w64 (((a+k+4:Nat):Int)+(n:Int))=((a+k+4+n:Nat):Int):=by rw[w64_id (by omega) (by omega)];omega
   rw[e1,w64_id (n:=(t.size:Int)-((a+k:Nat):Int)-4) (by omega) (by omega),e2,e3]
   by_cases h4:a+k+4+n≤t.size
   ·rw[IQ (by simp only[DT];omega),scut_ok (by omega) h4,bO,scut_ok (by omega) h4]
    have hz:=ext_size t (a+k+4) (a+k+4+n) (by omega) (by omega)
    have hnx:nextF N t a=if rok (t.extract (a+k+4) (a+k+4+n))∧frm N (t.extract (a+k+4) (a+k+4+n))=t.extract a (a+k+4+n)then some (t.extract (a+k+4) (a+k+4+n),a+k+4+n)else none:=by
     unfold nextF
     rw[hr]
     simp only
     rw[IP h4]
    generalize t.extract (a+k+4) (a+k+4+n)=x at hz hnx⊢
    rw[frame_impl N hN x (by omega),bO]
    by_cases h5:rok x
    ·rw[IP h5]
     simp only[BN,BF,↓reduceIte,bO]
     by_cases h6:frm N x=t.extract a (a+k+4+n)
     ·rw[IQ (by simpa using h6),show cat? acc [x]=some (acc++[x])from IP (by simp;omega),bO,hnx,IP ⟨h5,h6⟩,unf_impl_l N hN t ht f _ m _ h4 (by omega) (by omega) (by simp;omega),List.append_assoc,List.singleton_append]
     ·rw[IP (by simpa using h6),hnx,IQ (fun h=>h6 h.2)]
      simp
    ·rw[IQ h5,IP (show(!((⟨#[]⟩:BA),false).2)=true from rfl),hnx,IQ (fun h=>h5 h.1)]
     simp
   ·rw[IP (by simp only[DT];omega)]
    have hnx:nextF N t a=none:=by
     unfold nextF
     rw[hr]
     simp only
     rw[IQ h4]
    rw[hnx]
    simp
theorem unf_spec_l (N:Nat)(hN:Big N)(t:BA)(ht:t.size≤20000):∀(f a m:Nat)(acc:List BA),a≤t.size→t.size<a+f→f<m→acc.length+f≤1000000→s_Unframe_l1 N t m (a:Int) acc=some (.inl (acc++(unfr N t f a).1,((unfr N t f a).2:Int)))∨s_Unframe_l1 N t m (a:Int) acc=some (.inr (((unfr N t f a).2:Int),acc++(unfr N t f a).1))
 |0,a,m,acc,ha,hf,hm,hb=>by omega
 |f+1,a,m,acc,ha,hf,hm,hb=>by
  obtain⟨m,rfl⟩:∃q,m=q+1:=⟨m-1,by omega⟩
  rw[s_Unframe_l1,unfr]
  by_cases hlt:a<t.size
  ·rw[IP (by simp only[DT];omega),rvar_spec N hN t a (by omega) ha,bO]
   unfold rdR
   cases hr:rdvT t a with
   |none=>left;simp[nextF,hr]
   |some q=>
    obtain⟨n,k⟩:=q
    obtain⟨h1,h2,h3⟩:=rdvT_some ha hr
    simp only[BN,BF,↓reduceIte]
    have e1:w64 ((t.size:Int)-((a+k:Nat):Int))=(t.size:Int)-((a+k:Nat):Int):=w64_id (by omega) (by omega)
    have e2:w64 (((a+k:Nat):Int)+4)=((a+k+4:Nat):Int):=by rw[w64_id (by omega) (by omega)];omega
    have e3:w64 (((a+k+4:Nat):Int)+(n:Int))=((a+k+4+n:Nat):Int):=by rw[w64_id (by omega) (by omega)];omega
    rw[e1,w64_id (n:=(t.size:Int)-((a+k:Nat):Int)-4) (by omega) (by omega),e2,e3]
    by_cases h4:a+k+4+n≤t.size
    ·rw[IQ (by simp only[DT];omega),scut_ok (by omega) h4,bO,scut_ok (by omega) h4]
     have hz:=ext_size t (a+k+4) (a+k+4+n) (by omega) (by omega)
     have hnx:nextF N t a=if rok (t.extract (a+k+4) (a+k+4+n))∧frm N (t.extract (a+k+4) (a+k+4+n))=t.extract a (a+k+4+n)then some (t.extract (a+k+4) (a+k+4+n),a+k+4+n)else none:=by
      unfold nextF
      rw[hr]
      simp only
      rw[IP h4]
     generalize t.extract (a+k+4) (a+k+4+n)=x at hz hnx⊢
     rw[frame_spec N hN x (by omega),bO]
     by_cases h5:rok x
     ·rw[IP h5]
      simp only[BN,BF,↓reduceIte,bO]
      by_cases h6:frm N x=t.extract a (a+k+4+n)
      ·rw[IQ (by simpa using h6),show cat? acc [x]=some (acc++[x])from IP (by simp;omega),bO,hnx,IP ⟨h5,h6⟩]
       have:=unf_spec_l N hN t ht f _ m (acc++[x]) h4 (by omega) (by omega) (by simp;omega)
       rw[List.append_assoc,List.singleton_append]at this
       exact this
      ·rw[IP (by simpa using h6),hnx,IQ (fun h=>h6 h.2)]
       left;simp
     ·rw[IQ h5,IP (show(!((⟨#[]⟩:BA),false).2)=true from rfl),hnx,IQ (fun h=>h5 h.1)]
      left;simp
    ·rw[IP (by simp only[DT];omega)]
     have hnx:nextF N t a=none:=by
      unfold nextF
      rw[hr]
      simp only
      rw[IQ h4]
     rw[hnx]
     left;simp
  ·rw[IQ (by simp only[DT];omega)]
   have hnx:nextF N t a=none:=by
    unfold nextF
    rw[rdvT_end (by omega)]
   rw[hnx]
   right;simp
def recs (N:Nat)(t:BA):List BA×Nat:=unfr N t (t.size+1) 0
theorem unf_impl (N:Nat)(hN:Big N)(t:BA)(ht:t.size≤20000):i_Unframe N t=some ((recs N t).1,((recs N t).2:Int)):=by
 unfold i_Unframe
 rw[IQ (by simp only[DT];omega)]
 have:=unf_impl_l N hN t ht (t.size+1) 0 N [] (by omega) (by omega) (by unfold Big at hN;omega) (by simp;omega)
 rw[show((0:Nat):Int)=0 from rfl]at this
 rw[this]
 rfl
theorem unf_spec (N:Nat)(hN:Big N)(t:BA)(ht:t.size≤20000):s_Unframe N t=some ((recs N t).1,((recs N t).2:Int)):=by
 unfold s_Unframe
 rw[IQ (by simp only[DT];omega)]
 simp only[joinP]
 have:=unf_spec_l N hN t ht (t.size+1) 0 N [] (by omega) (by omega) (by unfold Big at hN;omega) (by simp;omega)
 rw[show((0:Nat):Int)=0 from rfl]at this
 rcases this with e|e<;>rw[e]<;>rfl
theorem recs_ok (N:Nat)(t:BA):6*(recs N t).1.length≤t.size∧∀r∈(recs N t).1,rok r:=by
 obtain⟨h1,h2,h3⟩:=unfr_ok N t (t.size+1) 0 (by omega)
 exact⟨by unfold recs;omega,h3⟩
def okCh (o:Option Change)(x:Change):Bool:=decide (1≤x.Key.size∧x.Key.size≤10)&&(decide (x.Value.size≤40)&&((!x.Gone||decide (x.Value=⟨#[]⟩))&&(match o with|none=>true|some q=>blt q.Key x.Key)))
def batOk (b:Batch):Bool:=decide (0≤b.Stamp∧b.Stamp≤100000)&&(decide (b.Changes.length≤60)&&chain okCh none b.Changes)
theorem batOk_impl_step (N:Nat)(b:Batch)(hl:b.Changes.length≤1099511627)(m k:Nat)(hk:k<b.Changes.length):i_BatchOk_l1 N b (m+1) (k:Int)=if okCh (b.Changes.take k).getLast? b.Changes[k]=true then i_BatchOk_l1 N b m ((k+1:Nat):Int)else some (.inl false):=by
 rw[i_BatchOk_l1,IP (by simp;omega),at_lt hk]
 simp only[bO,key_impl]
 rw[WS (by omega)]
 simp only[okCh]
 by_cases h1:1≤b.Changes[k].Key.size∧b.Changes[k].Key.size≤10
 case neg=>simp only[DF h1];rfl
 simp only[DE h1,BN,BF,if_false,Bool.true_and]
 by_cases h2:b.Changes[k].Value.size≤40
 case neg=>rw[IP (by simp;omega),DF h2];rfl
 rw[IQ (by simp;omega),DE h2]
 have prv:(if decide ((k:Int)>0)=true then(at? b.Changes (w64 ((k:Int)-1))).bind fun x=>if(!Op.bytesLess x.Key.toList b.Changes[k].Key.toList)=true then some (Sum.inl false)else i_BatchOk_l1 N b m ((k+1:Nat):Int)else i_BatchOk_l1 N b m ((k+1:Nat):Int))=if(match(b.Changes.take k).getLast? with|none=>true|some q=>blt q.Key b.Changes[k].Key)=true then i_BatchOk_l1 N b m ((k+1:Nat):Int)else some (.inl false):=by
  by_cases h0:0<k
  ·rw[IP (by simpa using h0),at_prev h0 (by omega) (by omega)]
   cases hq:(b.Changes.take k).getLast? with
   |none=>exact(take_none h0 hk hq).elim
   |some q=>
    simp only[bO]
    rw[show Op.bytesLess q.Key.toList b.Changes[k].Key.toList=blt q.Key b.Changes[k].Key from rfl]
    by_cases hz:blt q.Key b.Changes[k].Key=true<;>simp[hz]
  ·have:k=0:=by omega
   subst this
   rw[IQ (by decide)]
   rfl
 rw[prv]
 cases b.Changes[k].Gone
 ·simp
 ·by_cases h3:b.Changes[k].Value=⟨#[]⟩<;>simp[h3]
theorem batOk_impl (N:Nat)(hN:Big N)(b:Batch)(hl:b.Changes.length≤1099511627):i_BatchOk N b=some (batOk b):=by
 unfold i_BatchOk batOk
 rw[chain_start okCh (i_BatchOk_l1 N b) b.Changes (by unfold Big at hN;omega) (batOk_impl_step N b hl) (fun m=>by rw[i_BatchOk_l1,IQ (by simp)])]
 cases chain okCh none b.Changes
 ·simp[oks,joinP]
 ·simp only[joinP,oks,bO,Sum.elim_inr,Bool.and_true,within_eq]
  by_cases h:0≤b.Stamp∧b.Stamp≤100000
  ·rw[DE h,IP rfl,Bool.true_and]
   congr 1
   exact decide_eq_decide.2 (by omega)
  ·rw[DF h];rfl
theorem batOk_spec_step (N:Nat)(b:Batch)(hl:b.Changes.length≤1099511627)(m k:Nat)(hk:k<b.Changes.length):s_BatchOk_l1 N b (m+1) (k:Int)=if okCh (b.Changes.take k).getLast? b.Changes[k]=true then s_BatchOk_l1 N b m ((k+1:Nat):Int)else some (.inl false):=by
 rw[s_BatchOk_l1,IP (by simp;omega),at_lt hk]
 simp only[bO,key_spec,joinP]
 rw[WS (by omega)]
 simp only[okCh]
 by_cases h1:1≤b.Changes[k].Key.size∧b.Changes[k].Key.size≤10
 case neg=>simp only[DF h1];rfl
 simp only[DE h1,BN,BF,if_false,Bool.true_and]
 have rest:∀z:Option (Bool⊕Unit),(if decide ((b.Changes[k].Value.size:Int)>40)=true then some (.inl false)else if b.Changes[k].Gone=true then(if(!decide (b.Changes[k].Value=(⟨#[]⟩:BA)))=true then some (.inl false)else z)else z)=if(decide (b.Changes[k].Value.size≤40)&&(!b.Changes[k].Gone||decide (b.Changes[k].Value=⟨#[]⟩)))=true then z else some (.inl false):=by
  intro z
  by_cases h2:b.Changes[k].Value.size≤40
  ·rw[IQ (by simp;omega),DE h2]
   cases b.Changes[k].Gone
   ·simp
   ·by_cases h3:b.Changes[k].Value=⟨#[]⟩<;>simp[h3]
  ·rw[IP (by simp;omega),DF h2]
   rfl
 rw[rest]
 by_cases h0:0<k
 ·rw[IP (by simpa using h0),at_prev h0 (by omega) (by omega)]
  cases hq:(b.Changes.take k).getLast? with
  |none=>exact(take_none h0 hk hq).elim
  |some q=>
   simp only[bO]
   rw[show Op.bytesLess q.Key.toList b.Changes[k].Key.toList=blt q.Key b.Changes[k].Key from rfl]
   by_cases hz:blt q.Key b.Changes[k].Key=true<;>simp[hz]
 ·have:k=0:=by omega
  subst this
  rw[IQ (by decide)]
  simp
theorem batOk_spec (N:Nat)(hN:Big N)(b:Batch)(hl:b.Changes.length≤1099511627):s_BatchOk N b=some (batOk b):=by
 unfold s_BatchOk batOk
 rw[in_eq,bO]
 by_cases h:0≤b.Stamp∧b.Stamp≤100000
 case neg=>rw[DF h];rfl
 rw[DE h,IQ (by decide),Bool.true_and]
 by_cases h2:b.Changes.length≤60
 ·rw[IQ (by simp;omega),chain_start okCh (s_BatchOk_l1 N b) b.Changes (by unfold Big at hN;omega) (batOk_spec_step N b hl) (fun m=>by rw[s_BatchOk_l1,IQ (by simp)])]
  rw[DE h2]
  cases chain okCh none b.Changes<;>rfl
 ·rw[IP (by simp;omega),DF h2]
  rfl
theorem batOk_ok {b:Batch}(h:batOk b=true):0≤b.Stamp∧b.Stamp≤100000∧b.Changes.length≤60∧∀c∈b.Changes,1≤c.Key.size∧c.Key.size≤10∧c.Value.size≤40:=by
 simp only[batOk,Bool.and_eq_true,DT]at h
 refine⟨h.1.1,h.1.2,h.2.1,chain_all (fun o x hx=> ?_) h.2.2⟩
 simp only[okCh,Bool.and_eq_true,DT]at hx
 exact⟨hx.1.1,hx.1.2,hx.2.1⟩
def sht (s:BA):BA:=encT s.size++s
def flg (g:Bool):BA:=if g then⟨#[1]⟩else⟨#[0]⟩
def chx (c:Change):BA:=sht c.Key++flg c.Gone++sht c.Value
def chs:List Change→BA
 |[]=>ByteArray.empty
 |c::cs=>chx c++chs cs
def btx (b:Batch):BA:=encT b.Stamp.toNat++encT b.Changes.length++chs b.Changes
theorem sht_size {s:BA}(h:s.size≤1000000000):(sht s).size=(enc s.size).length+s.size∧(enc s.size).length≤5:=by
 refine⟨by unfold sht;rw[BZ,encT_size],enc_len5 h⟩
theorem flg_size (g:Bool):(flg g).size=1:=by cases g<;>rfl
theorem chx_size {c:Change}(h:c.Key.size≤10∧c.Value.size≤40):(chx c).size≤61:=by
 unfold chx
 have h1:=sht_size (s:=c.Key) (by omega)
 have h2:=sht_size (s:=c.Value) (by omega)
 rw[BZ,BZ,flg_size]
 omega
theorem short_spec (N:Nat)(hN:Big N)(s:BA)(h:s.size≤1000):s_l05Short N s=some (sht s):=short_ok N hN s h
theorem short_impl (N:Nat)(hN:Big N)(s:BA)(h:s.size≤1000):i_short N s=some (sht s):=by
 unfold i_short i_ShortText
 rw[IQ (by simp;omega),var_impl N hN s.size (by omega),IP (by omega)]
 simp only[bO]
 have:=sht_size (s:=s) (by omega)
 rw[scat_le (by rw[encT_size];omega)]
 rfl
theorem vars_two (N:Nat)(hN:Big N)(a b:Nat)(ha:a≤1000000000)(hb:b≤1000000000):i_vars N [(a:Int),(b:Int)]=some (encT a++encT b,true):=by
 have hl:=enc_len5 ha
 have hl2:=enc_len5 hb
 unfold i_vars
 simp only[joinP]
 obtain⟨K,rfl⟩:∃K,N=K+3:=⟨N-3,by unfold Big at hN;omega⟩
 have e1:=var_impl (K+3) hN a (by omega)
 have e2:=var_impl (K+3) hN b (by omega)
 rw[IP ha]at e1
 rw[IP hb]at e2
 have c1:cat? ([]:List Int) (intsOf (encT a))=some ([]++intsOf (encT a)):=IP (by rw[show(intsOf (encT a)).length=(encT a).size by unfold intsOf;rw[List.length_map,Array.length_toList];rfl,encT_size];simp;omega)
 have c2:cat? ([]++intsOf (encT a)) (intsOf (encT b))=some ([]++intsOf (encT a)++intsOf (encT b)):=IP (by
  rw[List.nil_append,show(intsOf (encT b)).length=(encT b).size by unfold intsOf;rw[List.length_map,Array.length_toList];rfl,show(intsOf (encT a)).length=(encT a).size by unfold intsOf;rw[List.length_map,Array.length_toList];rfl,encT_size,encT_size];omega)
 rw[show i_vars_l1 (K+3) [(a:Int),(b:Int)] (K+3) 0 []=some (.inr ([]++intsOf (encT a)++intsOf (encT b)))from ?_]
 ·simp only[bO,Sum.elim_inr,List.nil_append]
  rw[strOf_cat,strOf_ints,strOf_ints]
 ·rw[i_vars_l1,IP (by simp),show at? [(a:Int),(b:Int)] 0=some (a:Int)from rfl,bO,e1,bO]
  simp only[BN,BF,↓reduceIte]
  rw[c1,bO,show w64 (0+1)=1 from by decide,i_vars_l1,IP (by simp),show at? [(a:Int),(b:Int)] 1=some (b:Int)from rfl,bO,e2,bO]
  simp only[BN,BF,↓reduceIte]
  rw[c2,bO,show w64 (1+1)=2 from by decide,i_vars_l1,IQ (by simp)]
theorem btext_impl (N:Nat)(hN:Big N)(b:Batch)(hl:b.Changes.length≤1099511627):i_BatchText N b=some (if batOk b then(btx b,true)else(⟨#[]⟩,false)):=by
 unfold i_BatchText
 rw[batOk_impl N hN b hl,bO]
 cases hb:batOk b with
 |false=>rfl
 |true=>
  obtain⟨h1,h2,h3,h4⟩:=batOk_ok hb
  obtain⟨s,hs⟩:∃s:Nat,b.Stamp=s:=⟨b.Stamp.toNat,by omega⟩
  simp only[BN,BF,↓reduceIte]
  rw[hs,vars_two N hN s _ (by omega) (by omega),bO]
  simp only[joinP]
  have key:∀(d k m:Nat)(acc:BA),b.Changes.length=k+d→d<m→acc.size≤10+61*k→i_BatchText_l1 N b m acc (k:Int)=some (acc++chs (b.Changes.drop k)):=by
   intro d
   induction d with
   |zero=>
    intro k m acc hd hm ha
    obtain⟨m,rfl⟩:∃q,m=q+1:=⟨m-1,by omega⟩
    rw[i_BatchText_l1,IQ (by simp;omega),DN (by omega),chs,ByteArray.append_empty]
   |succ d ih=>
    intro k m acc hd hm ha
    obtain⟨m,rfl⟩:∃q,m=q+1:=⟨m-1,by omega⟩
    have hk:k<b.Changes.length:=by omega
    obtain⟨g1,g2,g3⟩:=h4 _ (List.getElem_mem hk)
    have hz:=chx_size (c:=b.Changes[k]) ⟨g2,g3⟩
    have z1:=sht_size (s:=b.Changes[k].Key) (by omega)
    have z2:=sht_size (s:=b.Changes[k].Value) (by omega)
    have hf:i_flag N b.Changes[k].Gone=some (flg b.Changes[k].Gone):=by unfold i_flag flg;split<;>rfl
    rw[i_BatchText_l1,IP (by simp;omega),at_lt hk]
    simp only[bO]
    rw[short_impl N hN _ (by omega),hf]
    simp only[bO]
    rw[scat_le (by rw[flg_size];omega),bO,short_impl N hN _ (by omega),bO,scat_le (by rw[BZ,flg_size];omega),bO]
    have hx:sht b.Changes[k].Key++flg b.Changes[k].Gone++sht b.Changes[k].Value=chx b.Changes[k]:=rfl
    rw[hx,scat_le (by omega),bO,WS (by omega),ih (k+1) m _ (by omega) (by omega) (by rw[BZ];omega),DG hk,chs,ByteArray.append_assoc]
  have z1:=enc_len5 (n:=s) (by omega)
  have z2:=enc_len5 (n:=b.Changes.length) (by omega)
  have:=key b.Changes.length 0 N (encT s++encT b.Changes.length) (by omega) (by unfold Big at hN;omega) (by rw[BZ,encT_size,encT_size];omega)
  rw[show((0:Nat):Int)=0 from rfl]at this
  rw[this,bO,List.drop_zero]
  unfold btx
  rw[hs]
  rfl
theorem btext_spec (N:Nat)(hN:Big N)(b:Batch)(hl:b.Changes.length≤1099511627):s_BatchText N b=some (if batOk b then(btx b,true)else(⟨#[]⟩,false)):=by
 unfold s_BatchText
 rw[batOk_spec N hN b hl,bO]
 cases hb:batOk b with
 |false=>rfl
 |true=>
  obtain⟨h1,h2,h3,h4⟩:=batOk_ok hb
  obtain⟨s,hs⟩:∃s:Nat,b.Stamp=s:=⟨b.Stamp.toNat,by omega⟩
  simp only[BN,BF,↓reduceIte]
  have z1:=enc_len5 (n:=s) (by omega)
  have z2:=enc_len5 (n:=b.Changes.length) (by omega)
  rw[hs,var_spec N hN s (by omega),bO,var_spec N hN _ (by omega),bO,scat_le (by rw[encT_size,encT_size];omega),bO]
  simp only[joinP]
  have key:∀(d k m:Nat)(acc:BA),b.Changes.length=k+d→d<m→acc.size≤10+61*k→s_BatchText_l1 N b m acc (k:Int)=some (acc++chs (b.Changes.drop k)):=by
   intro d
   induction d with
   |zero=>
    intro k m acc hd hm ha
    obtain⟨m,rfl⟩:∃q,m=q+1:=⟨m-1,by omega⟩
    rw[s_BatchText_l1,IQ (by simp;omega),DN (by omega),chs,ByteArray.append_empty]
   |succ d ih=>
    intro k m acc hd hm ha
    obtain⟨m,rfl⟩:∃q,m=q+1:=⟨m-1,by omega⟩
    have hk:k<b.Changes.length:=by omega
    obtain⟨g1,g2,g3⟩:=h4 _ (List.getElem_mem hk)
    have hz:=chx_size (c:=b.Changes[k]) ⟨g2,g3⟩
    have z1:=sht_size (s:=b.Changes[k].Key) (by omega)
    have z2:=sht_size (s:=b.Changes[k].Value) (by omega)
    rw[s_BatchText_l1,IP (by simp;omega)]
    simp only[joinP,at_lt hk,bO]
    rw[short_spec N hN _ (by omega),short_spec N hN _ (by omega)]
    simp only[bO]
    have step:∀g:BA,g.size=1→((scat? acc (sht b.Changes[k].Key)).bind fun x=>(scat? x g).bind fun x=>(scat? x (sht b.Changes[k].Value)).bind fun x=>s_BatchText_l1 N b m x (w64 ((k:Int)+1)))=s_BatchText_l1 N b m (acc++(sht b.Changes[k].Key++g++sht b.Changes[k].Value)) ((k+1:Nat):Int):=by
     intro g hg
     rw[scat_le (by omega),bO,scat_le (by rw[BZ];omega),bO,scat_le (by rw[BZ,BZ];omega),bO,WS (by omega)]
     simp only[ByteArray.append_assoc]
    rw[step _ rfl,step _ rfl]
    have hfl:∀z:BA→Option BA,(if b.Changes[k].Gone=true then z ⟨#[1]⟩else z ⟨#[0]⟩)=z (flg b.Changes[k].Gone):=by
     intro z;cases b.Changes[k].Gone<;>rfl
    rw[hfl fun g=>s_BatchText_l1 N b m (acc++(sht b.Changes[k].Key++g++sht b.Changes[k].Value)) ((k+1:Nat):Int)]
    have hx:sht b.Changes[k].Key++flg b.Changes[k].Gone++sht b.Changes[k].Value=chx b.Changes[k]:=rfl
    rw[hx,ih (k+1) m _ (by omega) (by omega) (by rw[BZ];omega),DG hk,chs,ByteArray.append_assoc]
  have:=key b.Changes.length 0 N (encT s++encT b.Changes.length) (by omega) (by unfold Big at hN;omega) (by rw[BZ,encT_size,encT_size];omega)
  rw[show((0:Nat):Int)=0 from rfl]at this
  rw[this,bO,List.drop_zero]
  unfold btx
  rw[hs]
  rfl
def pch (t:BA)(a:Nat):Option (Change×Nat):=match ps t a with
 |some (k,b)=>if b<t.size then
   match ps t (b+1)with
   |some (v,c)=>some (⟨k,v,decide (t.extract b (b+1)=⟨#[1]⟩)⟩,c)
   |none=>none
  else none
 |none=>none
def pchs (t:BA):Nat→Nat→Nat→Option (List Change×Nat)
 |_,0,a=>some ([],a)
 |0,_+1,_=>none
 |f+1,n+1,a=>match pch t a with
  |some (c,b)=>match pchs t f n b with
   |some (cs,e)=>some (c::cs,e)
   |none=>none
  |none=>none
theorem ps_pos {t s:BA}{a b:Nat}(ha:a≤t.size)(h:ps t a=some (s,b)):a<b∧b≤t.size:=by
 obtain⟨h1,h2,h3,h4⟩:=ps_some ha h
 refine⟨?_,h2⟩
 have:=congrArg ByteArray.size h3
 rw[BZ,encT_size,ext_size t a b h1 h2]at this
 have:=enc_pos s.size
 omega
theorem pch_pos {t:BA}{c:Change}{a b:Nat}(ha:a≤t.size)(h:pch t a=some (c,b)):a<b∧b≤t.size:=by
 unfold pch at h
 split at h<;>try cases h
 rename_i k e h1
 obtain⟨h2,h3⟩:=ps_pos ha h1
 split at h<;>try cases h
 rename_i h4
 split at h<;>try cases h
 rename_i v e2 h5
 have:=ps_pos (by omega) h5
 omega
theorem pchs_pos {t:BA}:∀{f n a e:Nat}{cs:List Change},a≤t.size→pchs t f n a=some (cs,e)→a+cs.length≤e∧e≤t.size
 |f,0,a,e,cs,ha,h=>by
  cases f<;>(simp only[pchs,Option.some.injEq,Prod.mk.injEq]at h;obtain⟨rfl,rfl⟩:=h;exact⟨by simp,ha⟩)
 |0,n+1,a,e,cs,ha,h=>by simp[pchs]at h
 |f+1,n+1,a,e,cs,ha,h=>by
  simp only[pchs]at h
  split at h<;>try cases h
  rename_i c b h1
  obtain⟨h2,h3⟩:=pch_pos ha h1
  split at h<;>try cases h
  rename_i cs' e' h4
  obtain⟨h5,h6⟩:=pchs_pos h3 h4
  simp only[LC]
  omega
theorem tx_any (N:Nat)(hN:Big N)(t:BA)(a:Nat)(ht:t.size≤20000)(ha:a≤t.size):∃x,r_text N ⟨t,a,false⟩=some x∧match ps t a with|some (s,b)=>x=(s,⟨t,b,false⟩)|none=>x=(⟨#[]⟩,⟨t,a,true⟩):=by
 obtain⟨x,h1,h2⟩:=tx_ok N hN t a (by omega) ha
 refine⟨x,h1,?_⟩
 cases h:ps t a with
 |none=>rw[h]at h2;exact h2
 |some q=>
  obtain⟨s,b⟩:=q
  rw[h]at h2
  have:=(ps_some ha h).2.2.2
  simp only at h2⊢
  rw[IP (by omega)]at h2
  exact h2
theorem byte_ok (N:Nat)(t:BA)(a:Nat)(ht:t.size≤1099511627)(ha:a≤t.size):∃x:Int×Treader,r_byte N ⟨t,a,false⟩=some x∧if a<t.size then x.2=⟨t,((a+1:Nat):Int),false⟩∧(x.1==1)=decide (t.extract a (a+1)=⟨#[1]⟩)else x=(0,⟨t,a,true⟩):=by
 unfold r_byte
 simp only[BF,↓reduceIte]
 by_cases h:a<t.size
 ·rw[IQ (by simp;omega),WS (by omega),w64_id (by omega) (by omega),show((a+1:Nat):Int)-1=(a:Int) by omega]
  have hlt:a<t.data.toList.length:=by rw[Array.length_toList];exact h
  have hc:=DG hlt
  generalize t.data.toList[a]=c at hc
  have hx:(t.extract a (a+1)).data.toList=[c]:=by
   rw[ext_toList t a (a+1) (by omega) (by omega),hc]
   simp
  rw[sat_at hc,bO]
  refine⟨_,rfl,?_⟩
  rw[IP h]
  refine⟨rfl,?_⟩
  have hc8:=c.toNat_lt
  rw[w64_id (by omega) (by omega)]
  have e:(t.extract a (a+1)=⟨#[1]⟩)↔c.toNat=1:=by
   constructor
   ·intro h
    rw[h]at hx
    have:(1:UInt8)=c:=by simpa using hx
    rw[←this]
    rfl
   ·intro h
    apply ba_ext'
    rw[hx]
    have:c=1:=UInt8.toNat_inj.1 (by rw[h];rfl)
    rw[this]
  by_cases h1:c.toNat=1
  ·rw[DE (e.2 h1),h1];rfl
  ·rw[DF (fun h=>h1 (e.1 h))]
   simp only[beq_eq_false_iff_ne,ne_eq]
   omega
 ·rw[IP (by simp;omega)]
  exact⟨_,rfl,by rw[IQ h]⟩
theorem byte_bad (N:Nat)(t:BA)(a:Int):r_byte N ⟨t,a,true⟩=some (0,⟨t,a,true⟩):=rfl
theorem sch_ok (N:Nat)(hN:Big N)(t:BA)(a:Nat)(ht:t.size≤20000)(ha:a≤t.size):∃y1 y2 y3,s_l05ReadShort N ⟨t,a,false⟩=some y1∧s_l05Take N y1.2 1=some y2∧s_l05ReadShort N y2.2=some y3∧
  match pch t a with
  |some (c,b)=>y3.2=⟨t,(b:Int),false⟩∧Change.mk y1.1 y3.1 (decide (y2.1=(⟨#[1]⟩:BA)))=c
  |none=>∃b:Nat,b≤t.size∧y3.2=⟨t,(b:Int),true⟩:=by
 obtain⟨y1,h1,g1⟩:=ss_ok N hN t a (by omega) ha
 unfold pch
 cases hp:ps t a with
 |none=>
  rw[hp]at g1
  obtain⟨b,hb,rfl⟩:=g1
  exact⟨_,_,_,h1,take_bad N t b 1,ss_bad N hN t b (by omega) hb,b,hb,rfl⟩
 |some q=>
  obtain⟨k,b⟩:=q
  rw[hp]at g1
  simp only at g1
  subst g1
  obtain⟨h2,h3⟩:=ps_pos ha hp
  have h4:=take_ok N t b 1 (by omega) h3 (by omega)
  simp only
  by_cases hb:b<t.size
  ·rw[IP (by omega)]at h4
   rw[IP hb]
   obtain⟨y3,h5,g3⟩:=ss_ok N hN t (b+1) (by omega) (by omega)
   cases hp2:ps t (b+1)with
   |none=>
    rw[hp2]at g3
    obtain⟨e,he,rfl⟩:=g3
    exact⟨_,_,_,h1,h4,h5,e,he,rfl⟩
   |some q2=>
    obtain⟨v,e⟩:=q2
    rw[hp2]at g3
    simp only at g3
    subst g3
    exact⟨_,_,_,h1,h4,h5,rfl,rfl⟩
  ·rw[IQ (by omega)]at h4
   rw[IQ hb]
   exact⟨_,_,_,h1,h4,ss_bad N hN t b (by omega) h3,b,h3,rfl⟩
theorem ich_ok (N:Nat)(hN:Big N)(t:BA)(a:Nat)(ht:t.size≤20000)(ha:a≤t.size)(s:Int)(acc:List Change)(hl:acc.length≤1000000):∃y,i_ReadBatch_1 N ⟨t,a,false⟩ ⟨s,acc⟩=some y∧
  match pch t a with
  |some (c,b)=>y=(⟨s,acc++[c]⟩,⟨t,(b:Int),false⟩)
  |none=>∃(b:Nat)(c:Change),b≤t.size∧y=(⟨s,acc++[c]⟩,⟨t,(b:Int),true⟩):=by
 obtain⟨y1,h1,g1⟩:=tx_any N hN t a ht ha
 have hcat:∀c:Change,cat? acc [c]=some (acc++[c]):=fun c=>IP (by simp;omega)
 unfold i_ReadBatch_1 pch
 rw[h1,bO]
 cases hp:ps t a with
 |none=>
  rw[hp]at g1
  simp only at g1
  subst g1
  simp only[byte_bad,bO,tx_bad N hN t a (by omega) ha,hcat]
  exact⟨_,rfl,a,_,ha,rfl⟩
 |some q=>
  obtain⟨k,b⟩:=q
  rw[hp]at g1
  simp only at g1
  subst g1
  obtain⟨h2,h3⟩:=ps_pos ha hp
  obtain⟨y2,h4,g2⟩:=byte_ok N t b (by omega) h3
  simp only
  rw[h4,bO]
  by_cases hb:b<t.size
  ·rw[IP hb]at g2⊢
   obtain⟨y3,h5,g3⟩:=tx_any N hN t (b+1) ht (by omega)
   rw[g2.1,h5,bO,g2.2]
   cases hp2:ps t (b+1)with
   |none=>
    rw[hp2]at g3
    simp only at g3
    subst g3
    simp only[hcat,bO]
    exact⟨_,rfl,b+1,_,by omega,rfl⟩
   |some q2=>
    obtain⟨v,e⟩:=q2
    rw[hp2]at g3
    simp only at g3
    subst g3
    simp only[hcat,bO]
    exact⟨_,rfl,rfl⟩
  ·rw[IQ hb]at g2⊢
   subst g2
   simp only[tx_bad N hN t b (by omega) h3,bO,hcat]
   exact⟨_,rfl,b,_,h3,rfl⟩
def chRes (t:BA)(acc:List Change)(r:Option (List Change×Nat))(at':Int)(bad:Bool)(l:List Change):Prop:=match r with
 |some (cs,e)=>at'=(e:Int)∧bad=false∧l=acc++cs
 |none=>bad=true∧l.length≤1000000
theorem sch_loop (N:Nat)(hN:Big N)(t:BA)(ht:t.size≤20000)(y:Int×Tl05Cur)(n:Nat)(hy:y.1=(n:Int))(hn:n≤1000000000):∀(d a i m:Nat)(acc:List Change),a≤t.size→t.size≤a+d→i≤n→d+1<m→acc.length+d≤100000→∃at' bad l,s_ReadBatch_l1 N y m (i:Int) t (a:Int) false acc=some (t,at',bad,l)∧chRes t acc (pchs t (d+1) (n-i) a) at' bad l:=by
 intro d
 induction d with
 |zero=>
  intro a i m acc ha had hi hm hacc
  obtain⟨m,rfl⟩:∃q,m=q+1:=⟨m-1,by omega⟩
  rw[s_ReadBatch_l1,hy]
  by_cases hlt:i<n
  ·rw[IP (by simp;omega),IP (show(!false)=true from rfl)]
   obtain⟨y1,y2,y3,e1,e2,e3,g⟩:=sch_ok N hN t a ht ha
   obtain⟨k,hk⟩:∃k,n-i=k+1:=⟨n-i-1,by omega⟩
   have hcat:∀c:Change,cat? acc [c]=some (acc++[c]):=fun c=>IP (by simp;omega)
   simp only[e1,e2,e3,bO,hcat]
   rw[hk,pchs]
   cases hp:pch t a with
   |some q=>have:=pch_pos ha (c:=q.1) (b:=q.2) hp;omega
   |none=>
    rw[hp]at g
    obtain⟨b,hb,g⟩:=g
    rw[g]
    obtain⟨m,rfl⟩:∃q,m=q+1:=⟨m-1,by omega⟩
    simp only
    generalize (Change.mk y1.1 y3.1 (decide (y2.1=(⟨#[1]⟩:BA))))=ch
    rw[s_ReadBatch_l1]
    have hl:∀c:Change,(acc++[c]).length≤1000000:=fun c=>by rw[LA,List.length_singleton];omega
    refine⟨(b:Int),true,acc++[ch],?_,rfl,hl ch⟩
    split<;>rfl
  ·rw[IQ (by simp;omega),show n-i=0 by omega]
   exact⟨_,_,_,rfl,rfl,rfl,by simp⟩
 |succ d ih=>
  intro a i m acc ha had hi hm hacc
  obtain⟨m,rfl⟩:∃q,m=q+1:=⟨m-1,by omega⟩
  rw[s_ReadBatch_l1,hy]
  by_cases hlt:i<n
  ·rw[IP (by simp;omega),IP (show(!false)=true from rfl)]
   obtain⟨y1,y2,y3,e1,e2,e3,g⟩:=sch_ok N hN t a ht ha
   obtain⟨k,hk⟩:∃k,n-i=k+1:=⟨n-i-1,by omega⟩
   have hcat:∀c:Change,cat? acc [c]=some (acc++[c]):=fun c=>IP (by simp;omega)
   simp only[e1,e2,e3,bO,hcat]
   rw[hk,pchs]
   cases hp:pch t a with
   |some q=>
    obtain⟨c,b⟩:=q
    obtain⟨p1,p2⟩:=pch_pos ha hp
    rw[hp]at g
    obtain⟨g1,g2⟩:=g
    rw[g1,g2]
    simp only
    rw[WS (by omega)]
    obtain⟨at',bad,l,f1,f2⟩:=ih b (i+1) m (acc++[c]) p2 (by omega) (by omega) (by omega) (by simp;omega)
    refine⟨at',bad,l,f1,?_⟩
    rw[show n-(i+1)=k by omega]at f2
    cases hq:pchs t (d+1) k b with
    |none=>rw[hq]at f2;exact f2
    |some q=>
     obtain⟨cs,e⟩:=q
     rw[hq]at f2
     obtain⟨f3,f4,f5⟩:=f2
     exact⟨f3,f4,by rw[f5,List.append_assoc];rfl⟩
   |none=>
    rw[hp]at g
    obtain⟨b,hb,g⟩:=g
    rw[g]
    obtain⟨m,rfl⟩:∃q,m=q+1:=⟨m-1,by omega⟩
    simp only
    generalize (Change.mk y1.1 y3.1 (decide (y2.1=(⟨#[1]⟩:BA))))=ch
    rw[s_ReadBatch_l1]
    have hl:∀c:Change,(acc++[c]).length≤1000000:=fun c=>by rw[LA,List.length_singleton];omega
    refine⟨(b:Int),true,acc++[ch],?_,rfl,hl ch⟩
    split<;>rfl
  ·rw[IQ (by simp;omega),show n-i=0 by omega]
   exact⟨_,_,_,rfl,rfl,rfl,by simp⟩
theorem ich_loop (N:Nat)(hN:Big N)(t:BA)(ht:t.size≤20000)(y:Int×Treader)(n:Nat)(hy:y.1=(n:Int))(hn:n≤1000000000)(s:Int):∀(d a i m:Nat)(acc:List Change),a≤t.size→t.size≤a+d→i≤n→d+1<m→acc.length+d≤100000→∃at' bad l,r_each_i2_l1 N y m (i:Int) t (a:Int) false s acc=some (t,at',bad,s,l)∧chRes t acc (pchs t (d+1) (n-i) a) at' bad l:=by
 intro d
 induction d with
 |zero=>
  intro a i m acc ha had hi hm hacc
  obtain⟨m,rfl⟩:∃q,m=q+1:=⟨m-1,by omega⟩
  rw[r_each_i2_l1,hy]
  by_cases hlt:i<n
  ·rw[IP (by simp;omega),IP (show(!false)=true from rfl)]
   obtain⟨z,e1,g⟩:=ich_ok N hN t a ht ha s acc (by omega)
   obtain⟨k,hk⟩:∃k,n-i=k+1:=⟨n-i-1,by omega⟩
   rw[e1,bO,hk,pchs]
   cases hp:pch t a with
   |some q=>have:=pch_pos ha (c:=q.1) (b:=q.2) hp;omega
   |none=>
    rw[hp]at g
    obtain⟨b,c,hb,rfl⟩:=g
    obtain⟨m,rfl⟩:∃q,m=q+1:=⟨m-1,by omega⟩
    simp only
    rw[r_each_i2_l1]
    have hl:∀c:Change,(acc++[c]).length≤1000000:=fun c=>by rw[LA,List.length_singleton];omega
    refine⟨(b:Int),true,acc++[c],?_,rfl,hl c⟩
    split<;>rfl
  ·rw[IQ (by simp;omega),show n-i=0 by omega]
   exact⟨_,_,_,rfl,rfl,rfl,by simp⟩
 |succ d ih=>
  intro a i m acc ha had hi hm hacc
  obtain⟨m,rfl⟩:∃q,m=q+1:=⟨m-1,by omega⟩
  rw[r_each_i2_l1,hy]
  by_cases hlt:i<n
  ·rw[IP (by simp;omega),IP (show(!false)=true from rfl)]
   obtain⟨z,e1,g⟩:=ich_ok N hN t a ht ha s acc (by omega)
   obtain⟨k,hk⟩:∃k,n-i=k+1:=⟨n-i-1,by omega⟩
   rw[e1,bO,hk,pchs]
   cases hp:pch t a with
   |some q=>
    obtain⟨c,b⟩:=q
    obtain⟨p1,p2⟩:=pch_pos ha hp
    rw[hp]at g
    simp only at g
    subst g
    simp only
    rw[WS (by omega)]
    obtain⟨at',bad,l,f1,f2⟩:=ih b (i+1) m (acc++[c]) p2 (by omega) (by omega) (by omega) (by simp;omega)
    refine⟨at',bad,l,f1,?_⟩
    rw[show n-(i+1)=k by omega]at f2
    cases hq:pchs t (d+1) k b with
    |none=>rw[hq]at f2;exact f2
    |some q=>
     obtain⟨cs,e⟩:=q
     rw[hq]at f2
     obtain⟨f3,f4,f5⟩:=f2
     exact⟨f3,f4,by rw[f5,List.append_assoc];rfl⟩
   |none=>
    rw[hp]at g
    obtain⟨b,c,hb,rfl⟩:=g
    obtain⟨m,rfl⟩:∃q,m=q+1:=⟨m-1,by omega⟩
    simp only
    rw[r_each_i2_l1]
    have hl:∀c:Change,(acc++[c]).length≤1000000:=fun c=>by rw[LA,List.length_singleton];omega
    refine⟨(b:Int),true,acc++[c],?_,rfl,hl c⟩
    split<;>rfl
  ·rw[IQ (by simp;omega),show n-i=0 by omega]
   exact⟨_,_,_,rfl,rfl,rfl,by simp⟩
def rbat (t:BA):Batch×Bool:=match pv t 0 with
 |some (s,a)=>match pv t a with
  |some (n,b)=>match pchs t (t.size+1) n b with
   |some (cs,_)=>if batOk ⟨s,cs⟩=true∧btx ⟨s,cs⟩=t then(⟨s,cs⟩,true)else(⟨0,[]⟩,false)
   |none=>(⟨0,[]⟩,false)
  |none=>(⟨0,[]⟩,false)
 |none=>(⟨0,[]⟩,false)
theorem rbat_ok {t:BA}(h:(rbat t).2=true):batOk (rbat t).1=true:=by
 unfold rbat at h⊢
 split at h<;>try cases h
 split at h<;>try cases h
 split at h<;>try cases h
 split at h<;>try cases h
 rename_i h1
 rw[IP h1]
 exact h1.1
theorem bat_end (N:Nat)(t:BA)(b:Batch)(f:Option (BA×Bool))(hf:f=some (if batOk b then(btx b,true)else(⟨#[]⟩,false))):(f.bind fun y=>if(!y.2)=true then some ((⟨0,[]⟩:Batch),false)else if(!decide (y.1=t))=true then some (⟨0,[]⟩,false)else some (b,true))=some (if batOk b=true∧btx b=t then(b,true)else(⟨0,[]⟩,false)):=by
 rw[hf,bO]
 cases hb:batOk b with
 |false=>rfl
 |true=>
  by_cases h:btx b=t
  ·simp[h]
  ·simp[h]
theorem rbat_impl (N:Nat)(hN:Big N)(t:BA)(ht:t.size≤20000):i_ReadBatch N t=some (rbat t):=by
 unfold i_ReadBatch rbat
 rw[show(0:Int)=((0:Nat):Int)from rfl,nv_ok N hN t 0 (by omega) (by omega),bO]
 have hbt:∀b:Batch,b.Changes.length≤1000000→∃r,i_BatchText N b=some r:=fun b hb=>⟨_,btext_impl N hN b (by omega)⟩
 obtain⟨K,hK⟩:∃K,N=K+1:=⟨N-1,by unfold Big at hN;omega⟩
 cases h1:pv t 0 with
 |none=>
  simp only
  unfold r_each_i2
  rw[show((0:Nat):Int)=0 from rfl]at*
  rw[show(0:Int)=((0:Nat):Int)from rfl,nv_bad N hN t 0 (by omega) (by omega),bO]
  simp only
  rw[hK,r_each_i2_l1,IQ (by simp),←hK]
  obtain⟨r,e⟩:=hbt ⟨((0:Nat):Int),[]⟩ (by simp)
  simp only[bO]at e⊢
  rw[show((0:Nat):Int)=0 from rfl]at e⊢
  rw[e]
  rfl
 |some q=>
  obtain⟨s,a⟩:=q
  obtain⟨p1,p2,p3,_⟩:=pv_some (Nat.zero_le _) h1
  simp only
  unfold r_each_i2
  rw[nv_ok N hN t a (by omega) p3,bO]
  cases h2:pv t a with
  |none=>
   simp only
   rw[hK,r_each_i2_l1,IQ (by simp),←hK]
   obtain⟨r,e⟩:=hbt ⟨(s:Int),[]⟩ (by simp)
   simp only[bO]
   rw[e]
   rfl
  |some q2=>
   obtain⟨n,b⟩:=q2
   obtain⟨p4,p5,p6,_⟩:=pv_some p3 h2
   simp only
   obtain⟨at',bad,l,f1,f2⟩:=ich_loop N hN t ht ((n:Int),⟨t,(b:Int),false⟩) n rfl p4 (s:Int) t.size b 0 N [] p6 (by omega) (by omega) (by unfold Big at hN;omega) (by simp;omega)
   rw[show((0:Nat):Int)=0 from rfl]at f1
   rw[f1]
   simp only[bO]
   rw[Nat.sub_zero]at f2
   cases h3:pchs t (t.size+1) n b with
   |none=>
    rw[h3]at f2
    obtain⟨rfl,f3⟩:=f2
    obtain⟨r,e⟩:=hbt ⟨(s:Int),l⟩ f3
    rw[e]
    rfl
   |some q3=>
    obtain⟨cs,e⟩:=q3
    rw[h3]at f2
    obtain⟨_,rfl,f4⟩:=f2
    rw[List.nil_append]at f4
    subst f4
    have hz:=(pchs_pos p6 h3).1
    have:=(pchs_pos p6 h3).2
    simp only[BF,↓reduceIte]
    exact bat_end N t ⟨s,l⟩ _ (btext_impl N hN ⟨s,l⟩ (by simp only;omega))
theorem rbat_spec (N:Nat)(hN:Big N)(t:BA)(ht:t.size≤20000):s_ReadBatch N t=some (rbat t):=by
 unfold s_ReadBatch rbat
 rw[show(0:Int)=((0:Nat):Int)from rfl,sv_ok N hN t 0 (by omega) (by omega),bO]
 have hbt:∀b:Batch,b.Changes.length≤1000000→∃r,s_BatchText N b=some r:=fun b hb=>⟨_,btext_spec N hN b (by omega)⟩
 obtain⟨K,hK⟩:∃K,N=K+1:=⟨N-1,by unfold Big at hN;omega⟩
 cases h1:pv t 0 with
 |none=>
  simp only
  rw[sv_bad N hN t 0 (by omega) (by omega),bO]
  simp only[joinP]
  rw[hK,s_ReadBatch_l1,IQ (by simp),←hK]
  obtain⟨r,e⟩:=hbt ⟨0,[]⟩ (by simp)
  simp only[bO]
  rw[e]
  rfl
 |some q=>
  obtain⟨s,a⟩:=q
  obtain⟨p1,p2,p3,_⟩:=pv_some (Nat.zero_le _) h1
  simp only
  rw[sv_ok N hN t a (by omega) p3,bO]
  simp only[joinP]
  cases h2:pv t a with
  |none=>
   simp only
   rw[hK,s_ReadBatch_l1,IQ (by simp),←hK]
   obtain⟨r,e⟩:=hbt ⟨(s:Int),[]⟩ (by simp)
   simp only[bO]
   rw[e]
   rfl
  |some q2=>
   obtain⟨n,b⟩:=q2
   obtain⟨p4,p5,p6,_⟩:=pv_some p3 h2
   simp only
   obtain⟨at',bad,l,f1,f2⟩:=sch_loop N hN t ht ((n:Int),⟨t,(b:Int),false⟩) n rfl p4 t.size b 0 N [] p6 (by omega) (by omega) (by unfold Big at hN;omega) (by simp;omega)
   rw[f1]
   simp only[bO]
   rw[Nat.sub_zero]at f2
   cases h3:pchs t (t.size+1) n b with
   |none=>
    rw[h3]at f2
    obtain⟨rfl,f3⟩:=f2
    obtain⟨r,e⟩:=hbt ⟨(s:Int),l⟩ f3
    rw[e]
    rfl
   |some q3=>
    obtain⟨cs,e⟩:=q3
    rw[h3]at f2
    obtain⟨_,rfl,f4⟩:=f2
    rw[List.nil_append]at f4
    subst f4
    have hz:=(pchs_pos p6 h3).1
    have:=(pchs_pos p6 h3).2
    simp only[BF,↓reduceIte]
    exact bat_end N t ⟨s,l⟩ _ (btext_spec N hN ⟨s,l⟩ (by simp only;omega))
theorem w64_nat {a b:Nat}(h:a+b≤4611686018427387904):w64 ((a:Int)+(b:Int))=((a+b:Nat):Int):=by
 rw[w64_id (by omega) (by omega)]
 omega
theorem cat_le {α:Type}{x y:List α}(h:x.length+y.length≤68719476736):cat? x y=some (x++y):=IP h
def chOkS (c:Change):Prop:=1≤c.Key.size∧c.Key.size≤10∧c.Value.size≤40
def vpos (c:Change)(p:Nat):Nat:=p+(sht c.Key).size+1+(enc c.Value.size).length
def spt (seg:Int)(c:Change)(p:Nat):Spot:=if c.Gone=true then⟨c.Key,seg,0,-1⟩else⟨c.Key,seg,(vpos c p:Int),(c.Value.size:Int)⟩
def spts (seg:Int):List Change→Nat→List Spot
 |[],_=>[]
 |c::cs,p=>spt seg c p::spts seg cs (vpos c p+c.Value.size)
theorem vpos_le {c:Change}(h:chOkS c)(p:Nat):vpos c p+c.Value.size≤p+61:=by
 unfold vpos
 obtain⟨h1,h2,h3⟩:=h
 have e1:=sht_size (s:=c.Key) (by omega)
 have e2:(enc c.Key.size).length≤1:=enc_len 0 _ (by omega)
 have e3:(enc c.Value.size).length≤1:=enc_len 0 _ (by omega)
 omega
theorem spts_len (seg:Int):∀(cs:List Change)(p:Nat),(spts seg cs p).length=cs.length
 |[],_=>rfl
 |c::cs,p=>by rw[spts,LC,LC,spts_len seg cs]
theorem spots_spec (N:Nat)(hN:Big N)(seg:Int)(y:Batch×Bool)(hy:∀c∈y.1.Changes,chOkS c)(hl:y.1.Changes.length≤60):∀(d k m p:Nat)(acc:List Spot),y.1.Changes.length=k+d→d<m→p≤100000000+61*k→acc.length≤100000000+k→
  s_ScanSeg_l2 N seg y m (p:Int) (k:Int) acc=some (acc++spts seg (y.1.Changes.drop k) p):=by
 intro d
 induction d with
 |zero=>
  intro k m p acc hd hm hp ha
  obtain⟨m,rfl⟩:∃q,m=q+1:=⟨m-1,by omega⟩
  rw[s_ScanSeg_l2,IQ (by simp;omega),DN (by omega),spts,List.append_nil]
 |succ d ih=>
  intro k m p acc hd hm hp ha
  obtain⟨m,rfl⟩:∃q,m=q+1:=⟨m-1,by omega⟩
  have hk:k<y.1.Changes.length:=by omega
  have hc:=hy _ (List.getElem_mem hk)
  have hv:=vpos_le hc p
  obtain⟨g1,g2,g3⟩:=hc
  have z1:=sht_size (s:=y.1.Changes[k].Key) (by omega)
  have z2:=enc_len5 (n:=y.1.Changes[k].Value.size) (by omega)
  rw[s_ScanSeg_l2,IP (by simp;omega),at_lt hk]
  simp only[joinP,bO]
  rw[short_spec N hN _ (by omega),bO,var_spec N hN _ (by omega),bO,encT_size,w64_nat (by omega),WS (by omega),w64_nat (by omega)]
  have hvp:p+(sht y.1.Changes[k].Key).size+1+(enc y.1.Changes[k].Value.size).length=vpos y.1.Changes[k] p:=rfl
  rw[hvp,w64_nat (by omega),WS (by omega)]
  have hsp:∀f:Spot→Option (List Spot),(if y.1.Changes[k].Gone=true then f ⟨y.1.Changes[k].Key,seg,0,-1⟩else f ⟨y.1.Changes[k].Key,seg,(vpos y.1.Changes[k] p:Int),(y.1.Changes[k].Value.size:Int)⟩)=f (spt seg y.1.Changes[k] p):=by
   intro f
   unfold spt
   split<;>rfl
  have:=hsp fun s=>(cat? acc [s]).bind fun x=>s_ScanSeg_l2 N seg y m ((vpos y.1.Changes[k] p+y.1.Changes[k].Value.size:Nat):Int) ((k+1:Nat):Int) x
  rw[this,cat_le (by simp;omega),bO,ih (k+1) m _ _ (by omega) (by omega) (by omega) (by simp;omega),DG hk,spts,List.append_assoc]
  rfl
theorem spots_impl (N:Nat)(hN:Big N)(seg:Int)(y:Tplaced)(hy:∀c∈y.b.Changes,chOkS c)(hl:y.b.Changes.length≤60):∀(d k m p:Nat)(acc:List Spot),y.b.Changes.length=k+d→d<m→p≤100000000+61*k→acc.length≤100000000+k→
  i_spotsOf_l1 N y seg m (p:Int) (k:Int) acc=some (acc++spts seg (y.b.Changes.drop k) p):=by
 intro d
 induction d with
 |zero=>
  intro k m p acc hd hm hp ha
  obtain⟨m,rfl⟩:∃q,m=q+1:=⟨m-1,by omega⟩
  rw[i_spotsOf_l1,IQ (by simp;omega),DN (by omega),spts,List.append_nil]
 |succ d ih=>
  intro k m p acc hd hm hp ha
  obtain⟨m,rfl⟩:∃q,m=q+1:=⟨m-1,by omega⟩
  have hk:k<y.b.Changes.length:=by omega
  have hc:=hy _ (List.getElem_mem hk)
  have hv:=vpos_le hc p
  obtain⟨g1,g2,g3⟩:=hc
  have z1:=sht_size (s:=y.b.Changes[k].Key) (by omega)
  have z2:=sht_size (s:=y.b.Changes[k].Value) (by omega)
  rw[i_spotsOf_l1,IP (by simp;omega),at_lt hk]
  simp only[bO]
  rw[short_impl N hN _ (by omega),bO,short_impl N hN _ (by omega),bO,WS (by omega),w64_nat (by omega),w64_nat (by omega),WS (by omega)]
  have hvp:p+((sht y.b.Changes[k].Key).size+1+(sht y.b.Changes[k].Value).size)=vpos y.b.Changes[k] p+y.b.Changes[k].Value.size:=by unfold vpos;omega
  rw[hvp,w64_id (n:=((vpos y.b.Changes[k] p+y.b.Changes[k].Value.size:Nat):Int)-_) (by omega) (by omega),show((vpos y.b.Changes[k] p+y.b.Changes[k].Value.size:Nat):Int)-(y.b.Changes[k].Value.size:Int)=(vpos y.b.Changes[k] p:Int) by omega]
  have hsp:∀f:Spot→Option (List Spot),(if y.b.Changes[k].Gone=true then f ⟨y.b.Changes[k].Key,seg,0,-1⟩else f ⟨y.b.Changes[k].Key,seg,(vpos y.b.Changes[k] p:Int),(y.b.Changes[k].Value.size:Int)⟩)=f (spt seg y.b.Changes[k] p):=by
   intro f
   unfold spt
   split<;>rfl
  have:=hsp fun s=>(cat? acc [s]).bind fun x=>i_spotsOf_l1 N y seg m ((vpos y.b.Changes[k] p+y.b.Changes[k].Value.size:Nat):Int) ((k+1:Nat):Int) x
  rw[this,cat_le (by simp;omega),bO,ih (k+1) m _ _ (by omega) (by omega) (by omega) (by simp;omega),DG hk,spts,List.append_assoc]
  rfl
def bhd (b:Batch)(a:Nat):Nat:=a+(enc b.Stamp.toNat).length+(enc b.Changes.length).length
def psp (seg:Int)(p:Tplaced):List Spot:=spts seg p.b.Changes (bhd p.b p.at'.toNat)
def plOk (p:Tplaced):Prop:=batOk p.b=true∧0≤p.at'∧p.at'≤90000000
theorem bat_ch {b:Batch}(h:batOk b=true):∀c∈b.Changes,chOkS c:=(batOk_ok h).2.2.2
theorem bhd_le {b:Batch}(h:batOk b=true)(a:Nat):bhd b a≤a+10:=by
 obtain⟨h1,h2,h3,_⟩:=batOk_ok h
 unfold bhd
 have e1:=enc_len5 (n:=b.Stamp.toNat) (by omega)
 have e2:=enc_len5 (n:=b.Changes.length) (by omega)
 omega
theorem spotsOf_ok (N:Nat)(hN:Big N)(seg:Int)(p:Tplaced)(hp:plOk p):i_spotsOf N p seg=some (psp seg p)∧(psp seg p).length≤60:=by
 obtain⟨h1,h2,h3⟩:=hp
 obtain⟨g1,g2,g3,_⟩:=batOk_ok h1
 have hb:=bhd_le h1 p.at'.toNat
 refine⟨?_,by unfold psp;rw[spts_len];omega⟩
 unfold i_spotsOf psp
 rw[show p.b.Stamp=((p.b.Stamp.toNat:Nat):Int) by omega,vars_two N hN _ _ (by omega) (by omega),bO]
 simp only[joinP]
 rw[BZ,encT_size,encT_size,show p.at'=((p.at'.toNat:Nat):Int) by omega]
 unfold bhd at hb⊢
 rw[w64_nat (by omega),←Nat.add_assoc]
 have:=spots_impl N hN seg p (bat_ch h1) g3 p.b.Changes.length 0 N (p.at'.toNat+(enc p.b.Stamp.toNat).length+(enc p.b.Changes.length).length) [] (by omega) (by unfold Big at hN;omega) (by omega) (by simp)
 rw[show((0:Nat):Int)=0 from rfl]at this
 rw[this]
 rfl
def bats (N:Nat):List BA→Nat→List Tplaced×Nat
 |[],a=>([],a)
 |t::ts,a=>if(rbat t).2=true then(⟨(rbat t).1,t,((a+(frm N t).size-t.size:Nat):Int)⟩::(bats N ts (a+(frm N t).size)).1,(bats N ts (a+(frm N t).size)).2)else([],a)
theorem frm_le (N:Nat)(hN:Big N){t:BA}(h:rok t):t.size≤(frm N t).size∧(frm N t).size≤9009:=by
 obtain⟨h1,h2⟩:=h
 have:=frm_size N hN t (by omega)
 have:=enc_len5 (n:=t.size) (by omega)
 omega
theorem bats_ok (N:Nat)(hN:Big N):∀(ts:List BA)(a:Nat),(∀r∈ts,rok r)→a+9009*ts.length≤90000000→(∀p∈(bats N ts a).1,plOk p)∧(bats N ts a).2≤a+9009*ts.length∧(bats N ts a).1.length≤ts.length
 |[],a,_,_=>⟨by simp[bats],by simp[bats],by simp[bats]⟩
 |t::ts,a,h,ha=>by
  have hf:=frm_le N hN (h t (by simp))
  rw[LC]at ha
  obtain⟨h1,h2,h3⟩:=bats_ok N hN ts (a+(frm N t).size) (fun r hr=>h r (by simp[hr])) (by omega)
  rw[bats]
  split
  ·rename_i hb
   refine⟨fun p hp=> ?_,by simp only[LC];omega,by simp only[LC];omega⟩
   rcases List.mem_cons.1 hp with rfl|hp
   ·exact⟨rbat_ok hb,by simp,by simp only;omega⟩
   ·exact h1 p hp
  ·exact⟨by simp,by simp,by simp⟩
theorem bats_impl_l (N:Nat)(hN:Big N)(y:List BA×Int)(hy:∀r∈y.1,rok r)(hl:y.1.length≤4000):∀(d k m a:Nat)(acc:List Tplaced),y.1.length=k+d→d<m→a≤9009*k→acc.length≤k→
  i_batchesOf_l1 N y m (a:Int) (k:Int) acc=some (((bats N (y.1.drop k) a).2:Int),acc++(bats N (y.1.drop k) a).1):=by
 intro d
 induction d with
 |zero=>
  intro k m a acc hd hm ha hc
  obtain⟨m,rfl⟩:∃q,m=q+1:=⟨m-1,by omega⟩
  rw[i_batchesOf_l1,IQ (by simp;omega),DN (by omega),bats,List.append_nil]
 |succ d ih=>
  intro k m a acc hd hm ha hc
  obtain⟨m,rfl⟩:∃q,m=q+1:=⟨m-1,by omega⟩
  have hk:k<y.1.length:=by omega
  have hr:=hy _ (List.getElem_mem hk)
  have hf:=frm_le N hN hr
  rw[i_batchesOf_l1,IP (by simp;omega),at_lt hk]
  simp only[bO]
  rw[rbat_impl N hN _ (by unfold rok at hr;omega),bO,DG hk,bats]
  by_cases hb:(rbat y.1[k]).2=true
  ·rw[IQ (by simp[hb]),frame_impl N hN _ (by unfold rok at hr;omega),IP hr,bO,IP hb]
   simp only[]
   rw[w64_nat (by omega),w64_id (n:=((a+(frm N y.1[k]).size:Nat):Int)-_) (by omega) (by omega),show((a+(frm N y.1[k]).size:Nat):Int)-(y.1[k].size:Int)=((a+(frm N y.1[k]).size-y.1[k].size:Nat):Int) by omega,cat_le (by simp;omega),bO,WS (by omega),ih (k+1) m _ _ (by omega) (by omega) (by omega) (by simp;omega),List.append_assoc]
   rfl
  ·rw[IP (by simp[hb]),IQ hb,List.append_nil]
def scan (N:Nat)(t:BA):List Tplaced×Nat:=bats N (recs N t).1 0
theorem scan_ok (N:Nat)(hN:Big N)(t:BA)(ht:t.size≤20000):(∀p∈(scan N t).1,plOk p)∧(scan N t).1.length≤4000:=by
 obtain⟨h1,h2⟩:=recs_ok N t
 obtain⟨g1,g2,g3⟩:=bats_ok N hN (recs N t).1 0 h2 (by omega)
 exact⟨g1,by unfold scan;omega⟩
theorem batches_impl (N:Nat)(hN:Big N)(t:BA)(ht:t.size≤20000):i_batchesOf N t=some ((scan N t).1,((scan N t).2:Int)):=by
 unfold i_batchesOf
 obtain⟨h1,h2⟩:=recs_ok N t
 rw[unf_impl N hN t ht,bO]
 simp only[joinP]
 have:=bats_impl_l N hN ((recs N t).1,((recs N t).2:Int)) h2 (by simp only;omega) (recs N t).1.length 0 N 0 [] (by simp) (by unfold Big at hN;omega) (by omega) (by simp)
 rw[show((0:Nat):Int)=0 from rfl]at this
 rw[this]
 rfl
def scS (seg:Int):List Tplaced→List Spot
 |[]=>[]
 |p::ps=>psp seg p++scS seg ps
def scM:List Tplaced→Int→Int
 |[],s=>s
 |p::ps,s=>scM ps (imax s p.b.Stamp)
def scR (N:Nat)(t:BA)(seg:Int):List Spot×List BA×Int:=(scS seg (scan N t).1,(scan N t).1.map Tplaced.text,scM (scan N t).1 (-1))
theorem scan_impl_l (N:Nat)(hN:Big N)(seg:Int)(y:List Tplaced×Int)(hy:∀p∈y.1,plOk p)(hl:y.1.length≤4000):∀(d k m:Nat)(s:Int)(a1:List Spot)(a2:List BA),y.1.length=k+d→d<m→a1.length≤60*k→a2.length≤k→
  i_ScanSeg_l1 N seg y m s (k:Int) a1 a2=some (scM (y.1.drop k) s,a1++scS seg (y.1.drop k),a2++(y.1.drop k).map Tplaced.text):=by
 intro d
 induction d with
 |zero=>
  intro k m s a1 a2 hd hm h1 h2
  obtain⟨m,rfl⟩:∃q,m=q+1:=⟨m-1,by omega⟩
  rw[i_ScanSeg_l1,IQ (by simp;omega),DN (by omega),scM,scS,List.map_nil,List.append_nil,List.append_nil]
 |succ d ih=>
  intro k m s a1 a2 hd hm h1 h2
  obtain⟨m,rfl⟩:∃q,m=q+1:=⟨m-1,by omega⟩
  have hk:k<y.1.length:=by omega
  obtain⟨e1,e2⟩:=spotsOf_ok N hN seg _ (hy _ (List.getElem_mem hk))
  rw[i_ScanSeg_l1,IP (by simp;omega),at_lt hk]
  simp only[bO]
  rw[e1,bO,cat_le (by omega),bO,cat_le (by simp;omega),bO,WS (by omega),ih (k+1) m _ _ _ (by omega) (by omega) (by simp;omega) (by simp;omega),DG hk,scM,scS,List.map_cons,List.append_assoc,List.append_assoc]
  rfl
theorem scan_impl (N:Nat)(hN:Big N)(t:BA)(ht:t.size≤20000)(seg:Int):i_ScanSeg N t seg=some (scR N t seg):=by
 unfold i_ScanSeg
 obtain⟨h1,h2⟩:=scan_ok N hN t ht
 rw[batches_impl N hN t ht,bO]
 simp only[joinP]
 have:=scan_impl_l N hN seg ((scan N t).1,((scan N t).2:Int)) h1 h2 (scan N t).1.length 0 N (-1) [] [] (by simp) (by unfold Big at hN;omega) (by simp) (by simp)
 rw[show((0:Nat):Int)=0 from rfl]at this
 rw[this]
 rfl
theorem scan_spec_l (N:Nat)(hN:Big N)(seg:Int)(y:List BA×Int)(hy:∀r∈y.1,rok r)(hl:y.1.length≤4000):∀(d k m a:Nat)(s:Int)(a1:List Spot)(a2:List BA),y.1.length=k+d→d<m→a≤9009*k→a1.length≤60*k→a2.length≤k→
  ∃o,s_ScanSeg_l1 N seg y m s (a:Int) (k:Int) a1 a2=some o∧Sum.elim (fun v=>some v) (fun v:Int×List Spot×List BA=>some (v.2.1,v.2.2,v.1)) o=some (a1++scS seg (bats N (y.1.drop k) a).1,a2++(bats N (y.1.drop k) a).1.map Tplaced.text,scM (bats N (y.1.drop k) a).1 s):=by
 intro d
 induction d with
 |zero=>
  intro k m a s a1 a2 hd hm ha h1 h2
  obtain⟨m,rfl⟩:∃q,m=q+1:=⟨m-1,by omega⟩
  rw[s_ScanSeg_l1,IQ (by simp;omega),DN (by omega),bats,scM,scS,List.map_nil,List.append_nil,List.append_nil]
  exact⟨_,rfl,rfl⟩
 |succ d ih=>
  intro k m a s a1 a2 hd hm ha h1 h2
  obtain⟨m,rfl⟩:∃q,m=q+1:=⟨m-1,by omega⟩
  have hk:k<y.1.length:=by omega
  have hr:=hy _ (List.getElem_mem hk)
  have hf:=frm_le N hN hr
  rw[s_ScanSeg_l1,IP (by simp;omega)]
  simp only[joinP,at_lt hk,bO]
  rw[rbat_spec N hN _ (by unfold rok at hr;omega),bO,DG hk,bats]
  by_cases hb:(rbat y.1[k]).2=true
  ·have hbo:=rbat_ok hb
   obtain⟨g1,g2,g3,_⟩:=batOk_ok hbo
   have hbh:=bhd_le hbo (a+(frm N y.1[k]).size-y.1[k].size)
   rw[IQ (by simp[hb]),frame_spec N hN _ (by unfold rok at hr;omega),IP hr,bO,IP hb]
   rw[show(rbat y.1[k]).1.Stamp=(((rbat y.1[k]).1.Stamp.toNat:Nat):Int) by omega,var_spec N hN _ (by omega),bO,var_spec N hN _ (by omega),bO,encT_size,encT_size]
   simp only[]
   have e1:w64 ((w64 ((w64 ((w64 ((a:Int)+((frm N y.1[k]).size:Int)))-(y.1[k].size:Int)))+((enc (rbat y.1[k]).1.Stamp.toNat).length:Int)))+((enc (rbat y.1[k]).1.Changes.length).length:Int))=((bhd (rbat y.1[k]).1 (a+(frm N y.1[k]).size-y.1[k].size):Nat):Int):=by
    unfold bhd at hbh⊢
    rw[w64_nat (by omega),w64_id (n:=((a+(frm N y.1[k]).size:Nat):Int)-_) (by omega) (by omega),show((a+(frm N y.1[k]).size:Nat):Int)-(y.1[k].size:Int)=((a+(frm N y.1[k]).size-y.1[k].size:Nat):Int) by omega,w64_nat (by omega),w64_nat (by omega)]
   rw[e1]
   have e2:=spots_spec N hN seg (rbat y.1[k]) (bat_ch hbo) g3 (rbat y.1[k]).1.Changes.length 0 N (bhd (rbat y.1[k]).1 (a+(frm N y.1[k]).size-y.1[k].size)) a1 (by omega) (by unfold Big at hN;omega) (by omega) (by omega)
   rw[show((0:Nat):Int)=0 from rfl]at e2
   rw[e2,bO,List.drop_zero,w64_nat (by omega),WS (by omega),cat_le (by simp;omega)]
   simp only[bO]
   have e3:∀z:Int→Option ((List Spot×List BA×Int)⊕(Int×List Spot×List BA)),(if decide ((((rbat y.1[k]).1.Stamp.toNat:Nat):Int)>s)=true then z (((rbat y.1[k]).1.Stamp.toNat:Nat):Int)else z s)=z (imax s (rbat y.1[k]).1.Stamp):=by
    intro z
    rw[show(((rbat y.1[k]).1.Stamp.toNat:Nat):Int)=(rbat y.1[k]).1.Stamp by omega]
    unfold imax
    by_cases hs:(rbat y.1[k]).1.Stamp>s
    ·rw[IP (by simp;omega)];congr 1;omega
    ·rw[IQ (by simp;omega)];congr 1;omega
   have e4:=e3 fun v=>s_ScanSeg_l1 N seg y m v ((a+(frm N y.1[k]).size:Nat):Int) ((k+1:Nat):Int) (a1++spts seg (rbat y.1[k]).1.Changes (bhd (rbat y.1[k]).1 (a+(frm N y.1[k]).size-y.1[k].size))) (a2++[y.1[k]])
   rw[e4]
   obtain⟨o,f1,f2⟩:=ih (k+1) m (a+(frm N y.1[k]).size) (imax s (rbat y.1[k]).1.Stamp) (a1++spts seg (rbat y.1[k]).1.Changes (bhd (rbat y.1[k]).1 (a+(frm N y.1[k]).size-y.1[k].size))) (a2++[y.1[k]]) (by omega) (by omega) (by omega) (by rw[LA,spts_len];omega) (by simp;omega)
   refine⟨o,f1,?_⟩
   rw[f2,scM,scS,List.map_cons,List.append_assoc,List.append_assoc]
   rfl
  ·rw[IP (by simp[hb]),IQ hb,scM,scS,List.map_nil,List.append_nil,List.append_nil]
   exact⟨_,rfl,rfl⟩
theorem scan_spec (N:Nat)(hN:Big N)(t:BA)(ht:t.size≤20000)(seg:Int):s_ScanSeg N t seg=some (scR N t seg):=by
 unfold s_ScanSeg
 obtain⟨h1,h2⟩:=recs_ok N t
 rw[unf_spec N hN t ht,bO]
 simp only[joinP]
 obtain⟨o,e1,e2⟩:=scan_spec_l N hN seg ((recs N t).1,((recs N t).2:Int)) h2 (by simp only;omega) (recs N t).1.length 0 N 0 (-1) [] [] (by simp) (by unfold Big at hN;omega) (by omega) (by simp) (by simp)
 rw[show((0:Nat):Int)=0 from rfl]at e1
 rw[e1,bO]
 exact e2
def fsum (N:Nat):List BA→Nat→Nat
 |[],a=>a
 |t::ts,a=>fsum N ts (a+(frm N t).size)
theorem bats_end (N:Nat):∀(ts:List BA)(a:Nat),fsum N ((bats N ts a).1.map Tplaced.text) a=(bats N ts a).2
 |[],a=>rfl
 |t::ts,a=>by
  rw[bats]
  split
  ·simp only[List.map_cons,fsum]
   exact bats_end N ts _
  ·rfl
theorem ifs1 {α:Type}(x:Bool)(z e:α):(if(!x)=true then e else z)=if x=true then z else e:=by cases x<;>rfl
theorem ifs3 {α:Type}(a b c:Bool)(z e:α):(if(a&&(b&&c))=true then z else e)=if(a&&(b&&(c&&true)))=true then z else e:=by cases a<;>cases b<;>cases c<;>rfl
theorem ifs4 {α:Type}(a b c x:Bool)(z e:α):(if(!x)=true then e else if(a&&(b&&c))=true then z else e)=if(a&&(b&&(c&&x)))=true then z else e:=by cases a<;>cases b<;>cases c<;>cases x<;>rfl
def okSpot (o:Option Spot)(x:Spot):Bool:=decide (1≤x.Key.size∧x.Key.size≤10)&&(decide (0≤x.Seg∧x.Seg≤999)&&(decide (0≤x.At∧x.At≤20000)&&(decide (0≤x.Size∧x.Size≤40)&&(match o with|none=>true|some q=>blt q.Key x.Key))))
def dirOk (l:List Spot):Bool:=decide (l.length≤60)&&chain okSpot none l
theorem dirOk_impl_step (N:Nat)(l:List Spot)(hl:l.length≤1099511627)(m k:Nat)(hk:k<l.length):i_DirOk_l1 N l (m+1) (k:Int)=if okSpot (l.take k).getLast? l[k]=true then i_DirOk_l1 N l m ((k+1:Nat):Int)else some (.inl false):=by
 rw[i_DirOk_l1,IP (by simp;omega),at_lt hk]
 simp only[bO,key_impl,within_eq]
 rw[WS (by omega)]
 simp only[okSpot]
 by_cases h1:1≤l[k].Key.size∧l[k].Key.size≤10
 case neg=>simp only[DF h1];rfl
 by_cases h2:0≤l[k].Seg∧l[k].Seg≤999
 case neg=>simp only[DE h1,DF h2];rfl
 by_cases h3:0≤l[k].At∧l[k].At≤20000
 case neg=>simp only[DE h1,DE h2,DF h3];rfl
 by_cases h4:0≤l[k].Size∧l[k].Size≤40
 case neg=>simp only[DE h1,DE h2,DE h3,DF h4];rfl
 simp only[DE h1,DE h2,DE h3,DE h4,BN,BF,if_false,Bool.true_and]
 by_cases h0:0<k
 ·rw[IP (by simpa using h0),at_prev h0 (by omega) (by omega)]
  cases hq:(l.take k).getLast? with
  |none=>exact(take_none h0 hk hq).elim
  |some q=>
   simp only[bO]
   rw[show Op.bytesLess q.Key.toList l[k].Key.toList=blt q.Key l[k].Key from rfl]
   exact ifs1 _ _ _
 ·have:k=0:=by omega
  subst this
  rw[IQ (by decide)]
  rfl
theorem dirOk_impl (N:Nat)(hN:Big N)(l:List Spot)(hl:l.length≤1099511627):i_DirOk N l=some (dirOk l):=by
 unfold i_DirOk dirOk
 rw[chain_start okSpot (i_DirOk_l1 N l) l (by unfold Big at hN;omega) (dirOk_impl_step N l hl) (fun m=>by rw[i_DirOk_l1,IQ (by simp)])]
 cases chain okSpot none l
 ·simp[oks,joinP]
 ·simp only[joinP,oks,bO,Sum.elim_inr,Bool.and_true]
  congr 1
  exact decide_eq_decide.2 (by omega)
theorem dirOk_spec_step (N:Nat)(l:List Spot)(hl:l.length≤1099511627)(m k:Nat)(hk:k<l.length):s_DirOk_l1 N l (m+1) (k:Int)=if okSpot (l.take k).getLast? l[k]=true then s_DirOk_l1 N l m ((k+1:Nat):Int)else some (.inl false):=by
 rw[s_DirOk_l1,IP (by simp;omega),at_lt hk]
 simp only[bO,key_spec,in_eq,joinP]
 rw[WS (by omega)]
 simp only[okSpot]
 by_cases h1:1≤l[k].Key.size∧l[k].Key.size≤10
 case neg=>simp only[DF h1];rfl
 have key:∀z:Option (Bool⊕Unit),(if(!decide (0≤l[k].Seg∧l[k].Seg≤999))=true then some (Sum.inl false)else if(!decide (0≤l[k].At∧l[k].At≤20000))=true then some (Sum.inl false)else if(!decide (0≤l[k].Size∧l[k].Size≤40))=true then some (Sum.inl false)else z)=if(decide (0≤l[k].Seg∧l[k].Seg≤999)&&(decide (0≤l[k].At∧l[k].At≤20000)&&decide (0≤l[k].Size∧l[k].Size≤40)))=true then z else some (Sum.inl false):=by
  intro z
  cases decide (0≤l[k].Seg∧l[k].Seg≤999)<;>cases decide (0≤l[k].At∧l[k].At≤20000)<;>cases decide (0≤l[k].Size∧l[k].Size≤40)<;>rfl
 simp only[DE h1,BN,BF,if_false,Bool.true_and,key]
 by_cases h0:0<k
 ·rw[IP (by simpa using h0),at_prev h0 (by omega) (by omega)]
  cases hq:(l.take k).getLast? with
  |none=>exact(take_none h0 hk hq).elim
  |some q=>
   simp only[bO]
   rw[show Op.bytesLess q.Key.toList l[k].Key.toList=blt q.Key l[k].Key from rfl]
   exact ifs4 _ _ _ _ _ _
 ·have:k=0:=by omega
  subst this
  rw[IQ (by decide)]
  exact ifs3 _ _ _ _ _
theorem dirOk_spec (N:Nat)(hN:Big N)(l:List Spot)(hl:l.length≤1099511627):s_DirOk N l=some (dirOk l):=by
 unfold s_DirOk dirOk
 by_cases h:l.length≤60
 case neg=>rw[IP (by simp;omega),DF h];rfl
 rw[IQ (by simp;omega),DE h,chain_start okSpot (s_DirOk_l1 N l) l (by unfold Big at hN;omega) (dirOk_spec_step N l hl) (fun m=>by rw[s_DirOk_l1,IQ (by simp)])]
 cases chain okSpot none l<;>simp[oks,joinP]
def put1 (o:List Spot)(x:Spot):List Spot:=(o.filter fun y=>blt y.Key x.Key)++(if x.Size= -1 then[]else[x])++o.filter fun y=> !(blt y.Key x.Key||decide (y.Key=x.Key))
def puts (o l:List Spot):List Spot:=l.foldl put1 o
theorem two_filter {α:Type}{p q:α→Bool}(h:∀x,p x=true→q x=false):∀l:List α,(l.filter p).length+(l.filter q).length≤l.length
 |[]=>Nat.le_refl _
 |x::l=>by
  have ih:=two_filter h l
  have hx:=h x
  rw[List.filter_cons,List.filter_cons,LC]
  cases hp:p x
  ·cases hq:q x<;>simp<;>omega
  ·rw[hx hp];simp;omega
theorem put1_len (o:List Spot)(x:Spot):(put1 o x).length≤o.length+1:=by
 have:=two_filter (p:=fun y:Spot=>blt y.Key x.Key) (q:=fun y=> !(blt y.Key x.Key||decide (y.Key=x.Key))) (fun y hy=>by simp[hy]) o
 unfold put1
 rw[LA,LA]
 split<;>simp only[List.length_nil,List.length_singleton]<;>omega
theorem l08a (N:Nat)(o:List Spot)(x:Spot)(ho:o.length≤1000000000):∀(d k m:Nat)(acc:List Spot),o.length=k+d→d<m→acc.length≤k→s_l08More_l2 N o x m (k:Int) acc=some (acc++(o.drop k).filter fun y=>blt y.Key x.Key):=by
 intro d
 induction d with
 |zero=>
  intro k m acc hd hm ha
  obtain⟨m,rfl⟩:∃q,m=q+1:=⟨m-1,by omega⟩
  rw[s_l08More_l2,IQ (by simp;omega),DN (by omega),List.filter_nil,List.append_nil]
 |succ d ih=>
  intro k m acc hd hm ha
  obtain⟨m,rfl⟩:∃q,m=q+1:=⟨m-1,by omega⟩
  have hk:k<o.length:=by omega
  rw[s_l08More_l2,IP (by simp;omega)]
  simp only[joinP,at_lt hk,bO]
  rw[show Op.bytesLess o[k].Key.toList x.Key.toList=blt o[k].Key x.Key from rfl,cat_le (by simp;omega),WS (by omega),DG hk,List.filter_cons]
  cases hb:blt o[k].Key x.Key
  ·rw[IQ (by decide),IQ (by decide),ih (k+1) m _ (by omega) (by omega) (by omega)]
  ·rw[IP rfl,IP rfl,bO,ih (k+1) m _ (by omega) (by omega) (by simp;omega),List.append_assoc]
   rfl
theorem l08b (N:Nat)(o:List Spot)(x:Spot)(ho:o.length≤1000000000)(b:Nat)(hb:b≤1000000001):∀(d k m:Nat)(acc:List Spot),o.length=k+d→d<m→acc.length≤b+k→s_l08More_l3 N o x m (k:Int) acc=some (acc++(o.drop k).filter fun y=> !(blt y.Key x.Key||decide (y.Key=x.Key))):=by
 intro d
 induction d with
 |zero=>
  intro k m acc hd hm ha
  obtain⟨m,rfl⟩:∃q,m=q+1:=⟨m-1,by omega⟩
  rw[s_l08More_l3,IQ (by simp;omega),DN (by omega),List.filter_nil,List.append_nil]
 |succ d ih=>
  intro k m acc hd hm ha
  obtain⟨m,rfl⟩:∃q,m=q+1:=⟨m-1,by omega⟩
  have hk:k<o.length:=by omega
  rw[s_l08More_l3,IP (by simp;omega)]
  simp only[joinP,at_lt hk,bO]
  rw[show Op.bytesLess o[k].Key.toList x.Key.toList=blt o[k].Key x.Key from rfl,cat_le (by simp;omega),WS (by omega),DG hk,List.filter_cons]
  cases hb:(!(blt o[k].Key x.Key||decide (o[k].Key=x.Key)))
  ·rw[IQ (by decide),IQ (by decide),ih (k+1) m _ (by omega) (by omega) (by omega)]
  ·rw[IP rfl,IP rfl,bO,ih (k+1) m _ (by omega) (by omega) (by simp;omega),List.append_assoc]
   rfl
theorem l08_loop (N:Nat)(hN:Big N)(l:List Spot)(hl:l.length≤100000000):∀(d k m:Nat)(o:List Spot),l.length=k+d→d<m→o.length≤100000000+k→s_l08More_l1 N l m (k:Int) o=some (puts o (l.drop k)):=by
 intro d
 induction d with
 |zero=>
  intro k m acc hd hm ha
  obtain⟨m,rfl⟩:∃q,m=q+1:=⟨m-1,by omega⟩
  rw[s_l08More_l1,IQ (by simp;omega),DN (by omega)]
  rfl
 |succ d ih=>
  intro k m o hd hm ha
  obtain⟨m,rfl⟩:∃q,m=q+1:=⟨m-1,by omega⟩
  have hk:k<l.length:=by omega
  have h1:=l08a N o l[k] (by omega) o.length 0 N [] (by omega) (by unfold Big at hN;omega) (by simp)
  have h2:=fun acc (ha:acc.length≤o.length+1)=>l08b N o l[k] (by omega) (o.length+1) (by omega) o.length 0 N acc (by omega) (by unfold Big at hN;omega) (by omega)
  have hf:=List.length_filter_le (fun y:Spot=>blt y.Key l[k].Key) o
  rw[show((0:Nat):Int)=0 from rfl,List.drop_zero]at h1 h2
  rw[s_l08More_l1,IP (by simp;omega)]
  simp only[joinP,at_lt hk,bO]
  rw[h1,bO,List.nil_append,cat_le (by simp;omega),WS (by omega),DG hk]
  have hp:=put1_len o l[k]
  have e:∀z:List Spot→Option (List Spot),(if(l[k].Size != -1)=true then(some ((o.filter fun y=>blt y.Key l[k].Key)++[l[k]])).bind z else z (o.filter fun y=>blt y.Key l[k].Key))=z ((o.filter fun y=>blt y.Key l[k].Key)++if l[k].Size= -1 then[]else[l[k]]):=by
   intro z
   by_cases hs:l[k].Size= -1
   ·rw[IQ (by simp[hs]),IP hs,List.append_nil]
   ·rw[IP (by simp[hs]),IQ hs];rfl
  rw[e fun v=>(s_l08More_l3 N o l[k] N 0 v).bind fun v=>s_l08More_l1 N l m ((k+1:Nat):Int) v,h2 _ (by rw[LA];split<;>simp<;>omega),bO,show(_:List Spot)++_++_=put1 o l[k]from rfl,ih (k+1) m _ (by omega) (by omega) (by omega)]
  rfl
theorem l08_ok (N:Nat)(hN:Big N)(o l:List Spot)(ho:o.length≤100000000)(hl:l.length≤100000000):s_l08More N o l=some (puts o l):=by
 unfold s_l08More
 rw[cat_le (by simp;omega),bO]
 simp only[joinP]
 have:=l08_loop N hN l hl l.length 0 N o (by omega) (by unfold Big at hN;omega) (by omega)
 rw[show((0:Nat):Int)=0 from rfl,List.drop_zero]at this
 rw[List.nil_append,this]
 rfl
theorem puts_len:∀(l o:List Spot),(puts o l).length≤o.length+l.length
 |[],o=>Nat.le_refl _
 |x::l,o=>by
  have h1:=put1_len o x
  have h2:=puts_len l (put1 o x)
  rw[LC]
  exact Nat.le_trans h2 (by omega)
abbrev srt (o:List Spot):Prop:=o.Pairwise fun a b=>blt a.Key b.Key=true
theorem not_lt {a b:BA}(h:(!(blt a b||decide (a=b)))=true):blt b a=true:=by
 rcases blt_tri a b with h1|h1|h1
 ·simp[h1]at h
 ·simp[h1]at h
 ·exact h1
theorem put1_srt {o:List Spot}(h:srt o)(x:Spot):srt (put1 o x):=by
 unfold put1
 have hA:∀a∈o.filter fun y=>blt y.Key x.Key,blt a.Key x.Key=true:=fun a ha=>(List.mem_filter.1 ha).2
 have hB:∀b∈o.filter fun y=> !(blt y.Key x.Key||decide (y.Key=x.Key)),blt x.Key b.Key=true:=fun b hb=>not_lt (List.mem_filter.1 hb).2
 refine List.pairwise_append.2 ⟨List.pairwise_append.2 ⟨h.filter _,?_,?_⟩,h.filter _,?_⟩
 ·split
  ·exact .nil
  ·exact List.pairwise_singleton _ _
 ·intro a ha b hb
  split at hb
  ·simp at hb
  ·rw[List.mem_singleton.1 hb];exact hA a ha
 ·intro a ha b hb
  rcases List.mem_append.1 ha with ha|ha
  ·exact blt_trans (hA a ha) (hB b hb)
  ·split at ha
   ·simp at ha
   ·rw[List.mem_singleton.1 ha];exact hB b hb
theorem cut_at (k:BA):∀{m:List Spot},srt m→∃A B,m=A++B∧(∀a∈A,blt a.Key k=true)∧((∀b∈B,blt k b.Key=true)∨∃y R,B=y::R∧y.Key=k∧∀b∈R,blt k b.Key=true)
 |[],_=>⟨[],[],rfl,by simp,.inl (by simp)⟩
 |x::m,h=>by
  obtain⟨hx,hm⟩:=List.pairwise_cons.1 h
  rcases blt_tri x.Key k with h1|h1|h1
  ·obtain⟨A,B,e,h2,h3⟩:=cut_at k hm
   refine⟨x::A,B,by rw[e];rfl,fun a ha=> ?_,h3⟩
   rcases List.mem_cons.1 ha with rfl|ha
   ·exact h1
   ·exact h2 a ha
  ·exact⟨[],x::m,rfl,by simp,.inr ⟨x,m,rfl,h1,fun b hb=>h1▸hx b hb⟩⟩
  ·refine⟨[],x::m,rfl,by simp,.inl fun b hb=> ?_⟩
   rcases List.mem_cons.1 hb with rfl|hb
   ·exact h1
   ·exact blt_trans h1 (hx b hb)
theorem bsS (N:Nat)(hN:Big N)(xs:List Spot)(hl:xs.length≤1099511627)(k:BA)(c:Nat)(hc:c≤xs.length)(hq:∀q (hq:q<xs.length),(blt (xs[q]'hq).Key k=true↔q<c)):L_BF_string_i1_l1 N xs k N 0 (xs.length:Int)=some (c:Int):=by
 have:=bs_gen Spot.Key xs k (L_BF_string_i1_l1 N xs k) c hq (fun f i j h=> ?_) (fun f i j hlt hij=> ?_) N 0 xs.length (by omega) hc (Nat.le_refl _) (by unfold Big at hN;omega)
 ·exact this
 ·rw[L_BF_string_i1_l1,IQ (by simp;omega)]
 ·rw[L_BF_string_i1_l1,IP (by simp;omega),mid_eq (by omega),bO,w64_id (by omega) (by omega),at_lt hlt,bO]
  unfold i_DirMore_1 S_Compare
  simp only[bO,cmp_blt]
  rw[WS (by omega)]
  cases blt (xs[(i+j)/2]'hlt).Key k
  ·simp only[BF,if_false]
   split<;>rfl
  ·rfl
theorem gt_ne {a k:BA}(h:blt k a=true):blt a k=false∧a≠k:=⟨blt_asymm h,fun e=>blt_ne h e.symm⟩
def hdK (k:BA):List Spot→Bool
 |[]=>false
 |y::_=>decide (y.Key=k)
theorem bsS_ok (N:Nat)(hN:Big N){A B:List Spot}{k:BA}(hl:(A++B).length≤1099511627)(h1:∀a∈A,blt a.Key k=true)(h2:∀b∈B,blt b.Key k=false):L_BF_string_i1 N (A++B) k=some ((A.length:Int),hdK k B):=by
 unfold L_BF_string_i1
 simp only[joinP]
 rw[bsS N hN (A++B) hl k A.length (by simp) (fun q hq=> ?_),bO]
 ·cases B with
  |nil=>rw[IQ (by simp)];rfl
  |cons y R=>
   rw[IP (by simp;omega),at_lt (by simp),bO]
   unfold i_DirMore_1 S_Compare
   simp only[bO,cmp_blt]
   rw[List.getElem_append_right (Nat.le_refl _)]
   simp only[Nat.sub_self,List.getElem_cons_zero]
   rw[h2 y (by simp),IQ (by decide)]
   by_cases he:y.Key=k
   ·rw[IP he,hdK,DE he];rfl
   ·rw[IQ he,hdK,DF he];rfl
 ·by_cases h:q<A.length
  ·rw[List.getElem_append_left h]
   simp[h,h1 _ (List.getElem_mem h)]
  ·rw[List.getElem_append_right (by omega),h2 _ (List.getElem_mem _)]
   simp[h]
theorem dm_step (N:Nat)(hN:Big N)(l:List Spot)(m k:Nat)(hk:k<l.length)(hl:l.length≤100000000)(o:List Spot)(ho:o.length≤200000000)(hs:srt o):i_DirMore_l1 N l (m+1) (k:Int) o=i_DirMore_l1 N l m ((k+1:Nat):Int) (put1 o l[k]):=by
 obtain⟨A,B,rfl,h1,h2⟩:=cut_at l[k].Key hs
 have hAf:A.filter (fun y=>blt y.Key l[k].Key)=A:=filt_all h1
 have hAg:A.filter (fun y=> !(blt y.Key l[k].Key||decide (y.Key=l[k].Key)))=[]:=filt_none fun a ha=>by simp[h1 a ha]
 rw[LA]at ho
 rw[i_DirMore_l1,IP (by simp;omega),at_lt hk,bO]
 rcases h2 with h2|⟨y,R,rfl,hy,h2⟩
 ·rw[bsS_ok N hN (by rw[LA];omega) h1 (fun b hb=>(gt_ne (h2 b hb)).1),bO]
  have hf:hdK l[k].Key B=false:=by
   cases B with
   |nil=>rfl
   |cons y R=>exact DF (gt_ne (h2 y (by simp))).2
  have hBf:B.filter (fun y=>blt y.Key l[k].Key)=[]:=filt_none fun b hb=>(gt_ne (h2 b hb)).1
  have hBg:B.filter (fun y=> !(blt y.Key l[k].Key||decide (y.Key=l[k].Key)))=B:=filt_all fun b hb=>by simp[(gt_ne (h2 b hb)).1,(gt_ne (h2 b hb)).2]
  rw[hf]
  dsimp only
  rw[WS (k:=k) (by omega)]
  unfold put1
  rw[List.filter_append,List.filter_append,hAf,hAg,hBf,hBg,List.append_nil,List.nil_append]
  by_cases hz:l[k].Size= -1
  ·rw[IP (by simp[hz]),IQ (by decide),IP hz,List.append_nil]
  ·rw[IQ (by simp[hz]),IQ (by decide),IQ hz]
   unfold L_Insert_Spot ins?
   dsimp only
   rw[IP (by simp;omega),bO]
   simp
 ·rw[bsS_ok N hN (by rw[LA];omega) h1 (fun b hb=>by
   rcases List.mem_cons.1 hb with rfl|hb
   ·rw[hy];exact blt_irrefl _
   ·exact(gt_ne (h2 b hb)).1),bO]
  have hBf:(y::R).filter (fun y=>blt y.Key l[k].Key)=[]:=filt_none fun b hb=>by
   rcases List.mem_cons.1 hb with rfl|hb
   ·rw[hy];exact blt_irrefl _
   ·exact(gt_ne (h2 b hb)).1
  have hBg:(y::R).filter (fun y=> !(blt y.Key l[k].Key||decide (y.Key=l[k].Key)))=R:=by
   rw[List.filter_cons,IQ (by simp[hy])]
   exact filt_all fun b hb=>by simp[(gt_ne (h2 b hb)).1,(gt_ne (h2 b hb)).2]
  simp only[hdK,DE hy]
  rw[WS (k:=k) (by omega),WS (k:=A.length) (by rw[LC]at ho;omega)]
  unfold put1
  rw[List.filter_append,List.filter_append,hAf,hAg,hBf,hBg,List.append_nil,List.nil_append]
  by_cases hz:l[k].Size= -1
  ·rw[IP (by simp[hz]),IP trivial,IP hz,List.append_nil]
   unfold L_Delete_Spot del?
   rw[IP (by simp;omega),bO]
   congr 1
   simp
  ·rw[IQ (by simp[hz]),IP trivial,IQ hz,at_lt (by simp),bO]
   congr 1
   simp
theorem dm_loop (N:Nat)(hN:Big N)(l:List Spot)(hl:l.length≤100000000):∀(d k m:Nat)(o:List Spot),l.length=k+d→d<m→o.length≤100000000+k→srt o→i_DirMore_l1 N l m (k:Int) o=some (puts o (l.drop k)):=by
 intro d
 induction d with
 |zero=>
  intro k m acc hd hm ha hs
  obtain⟨m,rfl⟩:∃q,m=q+1:=⟨m-1,by omega⟩
  rw[i_DirMore_l1,IQ (by simp;omega),DN (by omega)]
  rfl
 |succ d ih=>
  intro k m o hd hm ha hs
  obtain⟨m,rfl⟩:∃q,m=q+1:=⟨m-1,by omega⟩
  have hk:k<l.length:=by omega
  have hp:=put1_len o l[k]
  rw[dm_step N hN l m k hk hl o (by omega) hs,ih (k+1) m _ (by omega) (by omega) (by omega) (put1_srt hs _),DG hk]
  rfl
theorem dirMore_nil (N:Nat)(hN:Big N)(l:List Spot)(hl:l.length≤100000000):i_DirMore N [] l=some (if dirOk (puts [] l)=true then(puts [] l,true)else([],false)):=by
 unfold i_DirMore
 rw[dirOk_impl N hN [] (by simp),bO,show dirOk []=true from rfl,IQ (by decide),cat_le (by simp),bO]
 simp only[joinP]
 have:=dm_loop N hN l hl l.length 0 N [] (by omega) (by unfold Big at hN;omega) (by simp) .nil
 have hp:=puts_len l []
 rw[show((0:Nat):Int)=0 from rfl,List.drop_zero]at this
 rw[List.append_nil,this,bO,dirOk_impl N hN _ (by simp at hp;omega),bO]
 cases dirOk (puts [] l)<;>rfl
def seald (N:Nat)(t:BA):BA:=t++fourN N t
theorem seal_spec (N:Nat)(hN:Big N)(t:BA)(ht:t.size≤20000):s_Sealed N t=some (seald N t,true):=by
 obtain⟨s,a,b,c,e1,e2,e3,e4,_⟩:=four_ok N hN t (by omega)
 unfold s_Sealed
 rw[IQ (by simp;omega),e1,bO,e3,bO,scat_le (by omega)]
 rfl
theorem seal_impl (N:Nat)(hN:Big N)(t:BA)(ht:t.size≤20000):i_Sealed N t=some (seald N t,true):=by
 obtain⟨s,a,b,c,e1,e2,e3,e4,e5,e6,e7,e8⟩:=four_ok N hN t (by omega)
 unfold i_Sealed
 rw[IQ (by simp;omega),e2,bO,e5,bO,e6,bO,e7,bO,e8,scat_le (by omega)]
 rfl
def unsR (N:Nat)(t:BA):BA×Bool:=if 4≤t.size∧seald N (t.extract 0 (t.size-4))=t then(t.extract 0 (t.size-4),true)else(⟨#[]⟩,false)
theorem ext_two {t:BA}{k:Nat}(h:k≤t.size):t=t.extract 0 k++t.extract k t.size:=by
 rw[ext_app t 0 k t.size (by omega) h (Nat.le_refl _),ext_full]
theorem unseal_impl (N:Nat)(hN:Big N)(t:BA)(ht:t.size≤20000):i_Unsealed N t=some (unsR N t):=by
 unfold i_Unsealed unsR
 by_cases h:4≤t.size
 case neg=>rw[IP (by simp;omega),IQ (fun q=>h q.1)]
 rw[IQ (by simp;omega),w64_id (by omega) (by omega),show(t.size:Int)-4=((t.size-4:Nat):Int) by omega,stake_ok (by omega),bO,seal_impl N hN _ (by rw[ext_size t 0 (t.size-4) (by omega) (by omega)];omega),bO,IQ (by simp)]
 by_cases h2:seald N (t.extract 0 (t.size-4))=t
 ·rw[IQ (by simp[h2]),IP ⟨h,h2⟩]
 ·rw[IP (by simp[h2]),IQ (fun q=>h2 q.2)]
theorem unseal_spec (N:Nat)(hN:Big N)(t:BA)(ht:t.size≤20000):s_Unsealed N t=some (unsR N t):=by
 unfold s_Unsealed unsR
 rw[w64_id (by omega) (by omega)]
 by_cases h:4≤t.size
 case neg=>rw[IP (by simp;omega),IQ (fun q=>h q.1)]
 have hs:=ext_size t 0 (t.size-4) (by omega) (by omega)
 obtain⟨s,a,b,c,e1,e2,e3,e4,_⟩:=four_ok N hN (t.extract 0 (t.size-4)) (by omega)
 rw[IQ (by simp;omega),IQ (by simp;omega),show(t.size:Int)-4=((t.size-4:Nat):Int) by omega,sdrop_ok (by omega),bO,stake_ok (by omega),bO,e1,bO,e3,bO]
 have key:seald N (t.extract 0 (t.size-4))=t↔t.extract (t.size-4) t.size=fourN N (t.extract 0 (t.size-4)):=by
  have h1:=ext_two (t:=t) (k:=t.size-4) (by omega)
  unfold seald
  constructor
  ·intro h2
   rw[←h2]at h1
   have h3:t.extract 0 (t.size-4)++fourN N (t.extract 0 (t.size-4))=t.extract 0 (t.size-4)++t.extract (t.size-4) t.size:=by rw[h2];exact ext_two (by omega)
   exact((ByteArray.append_right_inj _).1 h3).symm
  ·intro h2
   rw[←h2]
   exact h1.symm
 by_cases h2:t.extract (t.size-4) t.size=fourN N (t.extract 0 (t.size-4))
 ·rw[IQ (by simp[h2]),IP ⟨h,key.2 h2⟩]
  rfl
 ·rw[IP (by simp[h2]),IQ (fun q=>h2 (key.1 q.2))]
def manOk (m:Manifest):Bool:=decide (1≤m.Segs.length∧m.Segs.length≤8)&&(decide (0≤m.Next∧m.Next≤1000)&&(rise 0 (m.Next-1) none m.Segs&&(decide (0≤m.Base∧m.Base≤100000)&&(decide (0≤m.BaseTerm∧m.BaseTerm≤100000)&&confOk m.Conf))))
theorem manOk_spec (N:Nat)(hN:Big N)(m:Manifest)(h1:m.Segs.length≤1000000)(h2:m.Conf.length≤1000000):s_ManifestOk N m=some (manOk m):=by
 unfold s_ManifestOk manOk
 rw[in_eq,bO]
 by_cases g1:1≤m.Segs.length∧m.Segs.length≤8
 case neg=>rw[DF g1,IQ (by simp;omega)];rfl
 rw[DE g1,IP (by simp;omega),in_eq,bO]
 by_cases g2:0≤m.Next∧m.Next≤1000
 case neg=>rw[DF g2];rfl
 rw[DE g2,IP rfl,w64_id (by omega) (by omega),rise_eq N hN _ _ _ (by omega),bO]
 cases rise 0 (m.Next-1) none m.Segs
 ·rfl
 rw[IP rfl,in_eq,bO]
 by_cases g3:0≤m.Base∧m.Base≤100000
 case neg=>rw[DF g3];rfl
 rw[DE g3,IP rfl,in_eq,bO]
 by_cases g4:0≤m.BaseTerm∧m.BaseTerm≤100000
 case neg=>rw[DF g4];rfl
 rw[DE g4,IP rfl,confOk_spec N hN _ (by omega)]
 rfl
def okSeg (n:Int)(o:Option Int)(x:Int):Bool:=decide (0≤x∧x≤999)&&(decide (x<n)&&(match o with|none=>true|some q=>decide (q<x)))
theorem seg_step (N:Nat)(m:Manifest)(hl:m.Segs.length≤1099511627)(f k:Nat)(hk:k<m.Segs.length):i_ManifestOk_l1 N m (f+1) (k:Int)=if okSeg m.Next (m.Segs.take k).getLast? m.Segs[k]=true then i_ManifestOk_l1 N m f ((k+1:Nat):Int)else some (.inl false):=by
 rw[i_ManifestOk_l1,IP (by simp;omega),at_lt hk]
 simp only[bO,within_eq]
 rw[WS (by omega)]
 simp only[okSeg]
 by_cases h1:0≤m.Segs[k]∧m.Segs[k]≤999
 case neg=>simp only[DF h1];rfl
 simp only[DE h1,BN,BF,if_false,Bool.true_and]
 by_cases h2:m.Segs[k]<m.Next
 case neg=>simp only[DF h2];rw[IP (by simp;omega)];rfl
 simp only[DE h2,Bool.true_and]
 rw[IQ (by simp;omega)]
 by_cases h0:0<k
 ·rw[IP (by simpa using h0),at_prev h0 (by omega) (by omega)]
  cases hq:(m.Segs.take k).getLast? with
  |none=>exact(take_none h0 hk hq).elim
  |some q=>
   simp only[bO,Bool.true_and,DT]
   by_cases h3:q<m.Segs[k]
   ·rw[IQ (by omega),IP h3]
   ·rw[IP (by omega),IQ h3]
 ·have:k=0:=by omega
  subst this
  rw[IQ (by decide)]
  rfl
theorem seg_rise (n:Int)(hn:n≤1000):∀(xs:List Int)(o:Option Int),chain (okSeg n) o xs=rise 0 (n-1) o xs
 |[],o=>by cases o<;>rfl
 |x::xs,o=>by
  rw[chain,rise_cons,seg_rise n hn xs,show okSeg n o x=(decide (0≤x∧x≤999)&&(decide (x<n)&&(match o with|none=>true|some q=>decide (q<x))))from rfl]
  have h:(decide (0≤x∧x≤999)&&decide (x<n))=decide (0≤x∧x≤n-1):=by
   rw[←Bool.decide_and]
   exact decide_eq_decide.2 (by omega)
  rw[←h,Bool.and_assoc,Bool.and_assoc,Bool.and_assoc]
  cases o<;>rfl
theorem manOk_impl (N:Nat)(hN:Big N)(m:Manifest)(h1:m.Segs.length≤1000000)(h2:m.Conf.length≤1000000)(h0:0≤m.Next):i_ManifestOk N m=some (manOk m):=by
 unfold i_ManifestOk manOk
 rw[chain_start (okSeg m.Next) (i_ManifestOk_l1 N m) m.Segs (by unfold Big at hN;omega) (seg_step N m (by omega)) (fun f=>by rw[i_ManifestOk_l1,IQ (by simp)])]
 simp only[joinP,bO]
 by_cases g2:m.Next≤1000
 ·rw[seg_rise _ g2,DE (p:=0≤m.Next∧m.Next≤1000) ⟨h0,g2⟩]
  cases rise 0 (m.Next-1) none m.Segs
  ·simp[oks]
  ·simp only[oks,Sum.elim_inr,within_eq,bO]
   by_cases g1:1≤m.Segs.length∧m.Segs.length≤8
   case neg=>rw[DF g1,IQ (by simp;omega)];rfl
   rw[DE g1,IP (by simp;omega),IP (by simpa using g2)]
   by_cases g3:0≤m.Base∧m.Base≤100000
   case neg=>rw[DF g3];rfl
   rw[DE g3,IP rfl]
   by_cases g4:0≤m.BaseTerm∧m.BaseTerm≤100000
   case neg=>rw[DF g4];rfl
   rw[DE g4,IP rfl,confOk_impl N hN _ (by omega)]
   rfl
 ·rw[DF (p:=0≤m.Next∧m.Next≤1000) (fun q=>g2 q.2)]
  cases chain (okSeg m.Next) none m.Segs
  ·simp[oks]
  ·simp only[oks,Sum.elim_inr,within_eq,bO]
   by_cases g1:1≤m.Segs.length∧m.Segs.length≤8
   case neg=>rw[DF g1,IQ (by simp;omega)];rfl
   rw[DE g1,IP (by simp;omega),IQ (by simpa using g2)]
   rfl
def ncat:List Int→BA
 |[]=>ByteArray.empty
 |x::xs=>encT x.toNat++ncat xs
theorem ncat_size:∀{xs:List Int},(∀x∈xs,0≤x∧x≤1000000000)→(ncat xs).size≤5*xs.length
 |[],_=>by simp[ncat]
 |x::xs,h=>by
  have h1:=ncat_size (xs:=xs) (fun y hy=>h y (by simp[hy]))
  have h2:=enc_len5 (n:=x.toNat) (by have:=h x (by simp);omega)
  rw[ncat,BZ,encT_size,LC]
  omega
theorem rise_all {lo hi:Int}:∀{xs:List Int}{o:Option Int},rise lo hi o xs=true→∀x∈xs,lo≤x∧x≤hi
 |[],_,_=>by simp
 |x::xs,o,h=>by
  rw[rise_cons]at h
  simp only[Bool.and_eq_true,DT]at h
  intro y hy
  rcases List.mem_cons.1 hy with rfl|hy
  ·exact h.1
  ·exact rise_all h.2.2 y hy
def mtx (m:Manifest):BA:=encT m.Segs.length++ncat m.Segs++encT m.Next.toNat++encT m.Base.toNat++encT m.BaseTerm.toNat++encT m.Conf.length++ncat m.Conf
theorem manOk_ok {m:Manifest}(h:manOk m=true):(1≤m.Segs.length∧m.Segs.length≤8)∧(0≤m.Next∧m.Next≤1000)∧(∀x∈m.Segs,0≤x∧x≤999)∧(0≤m.Base∧m.Base≤100000)∧(0≤m.BaseTerm∧m.BaseTerm≤100000)∧m.Conf.length≤4∧∀x∈m.Conf,0≤x∧x≤999:=by
 simp only[manOk,confOk,Bool.and_eq_true,DT]at h
 obtain⟨h1,h2,h3,h4,h5,h6,h7,h8⟩:=h
 exact⟨h1,h2,fun x hx=>by have:=rise_all h3 x hx;omega,h4,h5,h6,fun x hx=>by have:=rise_all h8 x hx;omega⟩
theorem numloop (N:Nat)(hN:Big N)(xs:List Int)(hx:∀x∈xs,0≤x∧x≤999)(hl:xs.length≤8)(f:Nat→BA→Int→Option BA)(hf:∀m t i,f (m+1) t i=if(decide (i<(xs.length:Int)))=true then(at? xs i).bind fun x=>(s_l01Var N x).bind fun y=>(scat? t y).bind fun z=>f m z (w64 (i+1))else some t):∀(d k m:Nat)(t:BA),xs.length=k+d→d<m→t.size≤100+5*k→f m t (k:Int)=some (t++ncat (xs.drop k)):=by
 intro d
 induction d with
 |zero=>
  intro k m t hd hm ht
  obtain⟨m,rfl⟩:∃q,m=q+1:=⟨m-1,by omega⟩
  rw[hf,IQ (by simp;omega),DN (by omega),ncat,ByteArray.append_empty]
 |succ d ih=>
  intro k m t hd hm ht
  obtain⟨m,rfl⟩:∃q,m=q+1:=⟨m-1,by omega⟩
  have hk:k<xs.length:=by omega
  obtain⟨g1,g2⟩:=hx _ (List.getElem_mem hk)
  obtain⟨n,hn⟩:∃n:Nat,xs[k]=(n:Int):=⟨xs[k].toNat,by omega⟩
  have he:=enc_len5 (n:=n) (by omega)
  rw[hf,IP (by simp;omega),at_lt hk,bO,hn,var_spec N hN n (by omega),bO,scat_le (by rw[encT_size];omega),bO,WS (by omega),ih (k+1) m _ (by omega) (by omega) (by rw[BZ,encT_size];omega),DG hk,ncat,hn,ByteArray.append_assoc]
  rfl
theorem mtext_spec (N:Nat)(hN:Big N)(m:Manifest)(h1:m.Segs.length≤1000000)(h2:m.Conf.length≤1000000):s_ManifestText N m=some (if manOk m=true then(seald N (mtx m),true)else(⟨#[]⟩,false)):=by
 unfold s_ManifestText
 rw[manOk_spec N hN m h1 h2,bO]
 cases hm:manOk m with
 |false=>rfl
 |true=>
  obtain⟨g1,g2,g3,g4,g5,g6,g7⟩:=manOk_ok hm
  rw[IQ (by decide),IP rfl]
  simp only[joinP]
  have e1:=enc_len5 (n:=m.Segs.length) (by omega)
  have e2:=enc_len5 (n:=m.Next.toNat) (by omega)
  have e3:=enc_len5 (n:=m.Base.toNat) (by omega)
  have e4:=enc_len5 (n:=m.BaseTerm.toNat) (by omega)
  have e5:=enc_len5 (n:=m.Conf.length) (by omega)
  have s1:=ncat_size (xs:=m.Segs) (fun x hx=>by have:=g3 x hx;omega)
  have s2:=ncat_size (xs:=m.Conf) (fun x hx=>by have:=g7 x hx;omega)
  have l1:=numloop N hN m.Segs g3 (by omega) (s_ManifestText_l1 N m) (fun f t i=>by rw[s_ManifestText_l1]) m.Segs.length 0 N (encT m.Segs.length) (by omega) (by unfold Big at hN;omega) (by rw[encT_size];omega)
  have l2:=fun t ht=>numloop N hN m.Conf g7 (by omega) (s_ManifestText_l2 N m) (fun f t i=>by rw[s_ManifestText_l2]) m.Conf.length 0 N t (by omega) (by unfold Big at hN;omega) ht
  rw[show((0:Nat):Int)=0 from rfl,List.drop_zero]at l1 l2
  rw[var_spec N hN _ (by omega),bO,l1,bO]
  obtain⟨a,ha⟩:∃n:Nat,m.Next=n:=⟨m.Next.toNat,by omega⟩
  obtain⟨b,hb⟩:∃n:Nat,m.Base=n:=⟨m.Base.toNat,by omega⟩
  obtain⟨c,hc⟩:∃n:Nat,m.BaseTerm=n:=⟨m.BaseTerm.toNat,by omega⟩
  rw[ha,Int.toNat_natCast]at e2
  rw[hb,Int.toNat_natCast]at e3
  rw[hc,Int.toNat_natCast]at e4
  have z:=encT_size
  rw[ha,hb,hc,var_spec N hN _ (by omega),bO,scat_le (by simp only[BZ,encT_size];omega),bO,var_spec N hN _ (by omega),bO,scat_le (by simp only[BZ,encT_size];omega),bO,var_spec N hN _ (by omega),bO,scat_le (by simp only[BZ,encT_size];omega),bO,var_spec N hN _ (by omega),bO,scat_le (by simp only[BZ,encT_size];omega),bO,l2 _ (by simp only[BZ,encT_size];omega),bO]
  have hmt:encT m.Segs.length++ncat m.Segs++encT a++encT b++encT c++encT m.Conf.length++ncat m.Conf=mtx m:=by
   unfold mtx
   rw[ha,hb,hc]
   rfl
  rw[hmt,seal_spec N hN _ (by unfold mtx;rw[ha,hb,hc];simp only[BZ,encT_size,Int.toNat_natCast];omega)]
  rfl
def gv (t:BA):Option Nat→Nat×Option Nat
 |none=>(0,none)
 |some a=>match pv t a with
  |some (n,b)=>(n,some b)
  |none=>(0,none)
def gns (t:BA):Nat→Option Nat→List Int×Option Nat
 |0,o=>([],o)
 |_+1,none=>([],none)
 |n+1,some a=>match pv t a with
  |some (x,b)=>((x:Int)::(gns t n (some b)).1,(gns t n (some b)).2)
  |none=>([0],none)
theorem gns_none (t:BA)(n:Nat):gns t n none=([],none):=by cases n<;>rfl
def StS (t:BA)(o:Option Nat)(c:Tl05Cur):Prop:=match o with
 |some a=>a≤t.size∧c=⟨t,(a:Int),false⟩
 |none=>∃b:Nat,b≤t.size∧c=⟨t,(b:Int),true⟩
def StI (t:BA)(o:Option Nat)(c:Treader):Prop:=match o with
 |some a=>a≤t.size∧c=⟨t,(a:Int),false⟩
 |none=>∃b:Nat,b≤t.size∧c=⟨t,(b:Int),true⟩
theorem stS (N:Nat)(hN:Big N){t:BA}(ht:t.size≤20000){o:Option Nat}{c:Tl05Cur}(h:StS t o c):∃x,s_l05Var N c=some x∧x.1=((gv t o).1:Int)∧StS t (gv t o).2 x.2:=by
 cases o with
 |none=>
  obtain⟨b,hb,rfl⟩:=h
  exact⟨_,sv_bad N hN t b (by omega) hb,rfl,b,hb,rfl⟩
 |some a=>
  obtain⟨ha,rfl⟩:=h
  refine⟨_,sv_ok N hN t a (by omega) ha,?_⟩
  cases hp:pv t a with
  |none=>simp only[gv,hp];exact⟨rfl,a,ha,rfl⟩
  |some q=>
   obtain⟨n,b⟩:=q
   simp only[gv,hp]
   exact⟨trivial,(pv_some ha hp).2.2.1,rfl⟩
theorem stI (N:Nat)(hN:Big N){t:BA}(ht:t.size≤20000){o:Option Nat}{c:Treader}(h:StI t o c):∃x,r_num N c=some x∧x.1=((gv t o).1:Int)∧StI t (gv t o).2 x.2:=by
 cases o with
 |none=>
  obtain⟨b,hb,rfl⟩:=h
  exact⟨_,nv_bad N hN t b (by omega) hb,rfl,b,hb,rfl⟩
 |some a=>
  obtain⟨ha,rfl⟩:=h
  refine⟨_,nv_ok N hN t a (by omega) ha,?_⟩
  cases hp:pv t a with
  |none=>simp only[gv,hp];exact⟨rfl,a,ha,rfl⟩
  |some q=>
   obtain⟨n,b⟩:=q
   simp only[gv,hp]
   exact⟨trivial,(pv_some ha hp).2.2.1,rfl⟩
def gap (t:BA):Option Nat→Nat
 |some a=>t.size+1-a
 |none=>0
theorem pv_pos {t:BA}{a n b:Nat}(ha:a≤t.size)(h:pv t a=some (n,b)):a<b∧b≤t.size:=by
 unfold pv at h
 cases hr:rdvT t a with
 |none=>rw[hr]at h;cases h
 |some q=>
  obtain⟨x,k⟩:=q
  rw[hr]at h
  simp only[Option.some.injEq,Prod.mk.injEq]at h
  have:=rdvT_some ha hr
  omega
theorem gns_gap (t:BA):∀(n:Nat)(o:Option Nat),(∀a,o=some a→a≤t.size)→(gns t n o).1.length≤gap t o
 |0,o,_=>Nat.zero_le _
 |n+1,none,_=>Nat.le_refl _
 |n+1,some a,h=>by
  have ha:=h a rfl
  rw[gns]
  cases hp:pv t a with
  |none=>simp only[gap,List.length_singleton];omega
  |some q=>
   obtain⟨x,b⟩:=q
   obtain⟨h1,h2⟩:=pv_pos ha hp
   have:=gns_gap t n (some b) (fun a h=>by cases h;exact h2)
   simp only[gap,LC]at this⊢
   omega
theorem gnsS (N:Nat)(hN:Big N){t:BA}(ht:t.size≤20000)(n B:Nat)(hB:B≤8)(f:Nat→Int→BA→Int→Bool→List Int→Option (BA×Int×Bool×List Int))
  (hf:∀m i x a b acc,f (m+1) i x a b acc=if(decide (i<(n:Int)))=true then(if(!b)=true then(if(decide (i≤(B:Int)))=true then(s_l05Var N ⟨x,a,b⟩).bind fun y=>(cat? acc [y.1]).bind fun z=>f m (w64 (i+1)) y.2.text y.2.at' y.2.bad z else some (x,a,b,acc))else some (x,a,b,acc))else some (x,a,b,acc)):
  ∀(d k m:Nat)(o:Option Nat)(c:Tl05Cur)(acc:List Int),min n (B+1)=k+d→d<m→acc.length≤k→StS t o c→∃c',f m (k:Int) c.text c.at' c.bad acc=some (c'.text,c'.at',c'.bad,acc++(gns t d o).1)∧StS t (gns t d o).2 c':=by
 intro d
 induction d with
 |zero=>
  intro k m o c acc hd hm ha hc
  obtain⟨m,rfl⟩:∃q,m=q+1:=⟨m-1,by omega⟩
  refine⟨c,?_,hc⟩
  rw[hf,gns,List.append_nil]
  by_cases h1:k<n
  ·rw[IP (by simp;omega)]
   cases c.bad
   ·rw[IP (by rfl),IQ (by simp;omega)]
   ·rfl
  ·rw[IQ (by simp;omega)]
 |succ d ih=>
  intro k m o c acc hd hm ha hc
  obtain⟨m,rfl⟩:∃q,m=q+1:=⟨m-1,by omega⟩
  rw[hf,IP (by simp;omega)]
  cases o with
  |none=>
   refine⟨c,?_,hc⟩
   obtain⟨b,hb,rfl⟩:=hc
   rw[gns,List.append_nil]
   rfl
  |some a=>
   obtain⟨x,h1,h2,h3⟩:=stS N hN ht hc
   obtain⟨ha',rfl⟩:=hc
   rw[IP (by rfl),IP (by simp;omega),h1,bO,cat_le (by simp;omega),bO,WS (by omega)]
   obtain⟨c',e1,e2⟩:=ih (k+1) m _ x.2 (acc++[x.1]) (by omega) (by omega) (by simp;omega) h3
   refine⟨c',?_,?_⟩
   ·rw[e1,gns,h2]
    cases hp:pv t a with
    |none=>simp only[gv,hp,gns_none,List.append_assoc];rfl
    |some q=>simp only[gv,hp,List.append_assoc];rfl
   ·rw[gns]
    cases hp:pv t a with
    |none=>simpa only[gv,hp,gns_none]using e2
    |some q=>simpa only[gv,hp]using e2
theorem gnsI {ρ:Type}(N:Nat)(hN:Big N){t:BA}(ht:t.size≤20000)(n:Nat)(g:BA→Int→Bool→List Int→ρ)(f:Nat→Int→BA→Int→Bool→List Int→Option ρ)
  (hf:∀m i x a b acc,f (m+1) i x a b acc=if(decide (i<(n:Int)))=true then(if(!b)=true then(r_num N ⟨x,a,b⟩).bind fun y=>(cat? acc [y.1]).bind fun z=>f m (w64 (i+1)) y.2.s y.2.at' y.2.bad z else some (g x a b acc))else some (g x a b acc)) (hn:n≤1000000000):
  ∀(d k m:Nat)(o:Option Nat)(c:Treader)(acc:List Int),n=k+d→gap t o<m→acc.length+gap t o≤1000000→StI t o c→∃c',f m (k:Int) c.s c.at' c.bad acc=some (g c'.s c'.at' c'.bad (acc++(gns t d o).1))∧StI t (gns t d o).2 c':=by
 intro d
 induction d with
 |zero=>
  intro k m o c acc hd hm ha hc
  obtain⟨m,rfl⟩:∃q,m=q+1:=⟨m-1,by omega⟩
  refine⟨c,?_,hc⟩
  rw[hf,gns,List.append_nil,IQ (by simp;omega)]
 |succ d ih=>
  intro k m o c acc hd hm ha hc
  obtain⟨m,rfl⟩:∃q,m=q+1:=⟨m-1,by omega⟩
  rw[hf,IP (by simp;omega)]
  cases o with
  |none=>
   refine⟨c,?_,hc⟩
   obtain⟨b,hb,rfl⟩:=hc
   rw[gns,List.append_nil]
   rfl
  |some a=>
   obtain⟨x,h1,h2,h3⟩:=stI N hN ht hc
   obtain⟨ha',rfl⟩:=hc
   simp only[gap]at hm ha
   have hg:gap t (gv t (some a)).2+1≤t.size+1-a:=by
    cases hp:pv t a with
    |none=>simp only[gv,hp,gap];omega
    |some q=>
     obtain⟨y,b⟩:=q
     obtain⟨g1,g2⟩:=pv_pos ha' hp
     simp only[gv,hp,gap]
     omega
   rw[IP (by rfl),h1,bO,cat_le (by simp;omega),bO,WS (by omega)]
   obtain⟨c',e1,e2⟩:=ih (k+1) m _ x.2 (acc++[x.1]) (by omega) (by omega) (by simp;omega) h3
   refine⟨c',?_,?_⟩
   ·rw[e1,gns,h2]
    cases hp:pv t a with
    |none=>simp only[gv,hp,gns_none,List.append_assoc];rfl
    |some q=>simp only[gv,hp,List.append_assoc];rfl
   ·rw[gns]
    cases hp:pv t a with
    |none=>simpa only[gv,hp,gns_none]using e2
    |some q=>simpa only[gv,hp]using e2
theorem gv_some {t:BA}{o:Option Nat}{b:Nat}(h:(gv t o).2=some b):∃a,o=some a∧pv t a=some ((gv t o).1,b):=by
 cases o with
 |none=>cases h
 |some a=>
  refine⟨a,rfl,?_⟩
  cases hp:pv t a with
  |none=>simp[gv,hp]at h
  |some q=>
   obtain⟨x,c⟩:=q
   simp only[gv,hp,Option.some.injEq]at h⊢
   rw[h]
theorem gns_some {t:BA}:∀{n:Nat}{o:Option Nat}{e:Nat},(∀a,o=some a→a≤t.size)→(gns t n o).2=some e→∃a,o=some a∧a≤e∧e≤t.size∧(gns t n o).1.length=n∧ncat (gns t n o).1=t.extract a e
 |0,o,e,ha,h=>by
  rw[gns]at h
  simp only at h
  have:=ha e h
  refine⟨e,h,Nat.le_refl _,this,rfl,?_⟩
  rw[gns]
  simp[ncat]
 |n+1,none,e,ha,h=>by cases h
 |n+1,some a,e,ha,h=>by
  have ha':=ha a rfl
  rw[gns]at h⊢
  cases hp:pv t a with
  |none=>rw[hp]at h;cases h
  |some q=>
   obtain⟨x,b⟩:=q
   rw[hp]at h
   simp only at h⊢
   obtain⟨g1,g2,g3,g4⟩:=pv_some ha' hp
   obtain⟨a2,e1,e2,e3,e4,e5⟩:=gns_some (fun a h=>by cases h;exact g3) h
   cases e1
   refine⟨a,rfl,by omega,e3,by rw[LC,e4],?_⟩
   rw[ncat,e5,Int.toNat_natCast,g4,ext_app t a b e g2 e2 e3]
def mread (t:BA)(o:Option Nat)(p q:Nat→Nat):Manifest×Option Nat:=
 let r0:=gv t o
 let r1:=gns t (p r0.1) r0.2
 let r2:=gv t r1.2
 let r3:=gv t r2.2
 let r4:=gv t r3.2
 let r5:=gv t r4.2
 let r6:=gns t (q r5.1) r5.2
 (⟨r1.1,(r2.1:Int),(r3.1:Int),(r4.1:Int),r6.1⟩,r6.2)
theorem gv_le {t:BA}{o:Option Nat}(h:∀a,o=some a→a≤t.size):∀b,(gv t o).2=some b→b≤t.size:=by
 intro b hb
 obtain⟨a,rfl,hp⟩:=gv_some hb
 exact(pv_pos (h a rfl) hp).2
theorem gns_le {t:BA}{n:Nat}{o:Option Nat}(h:∀a,o=some a→a≤t.size):∀b,(gns t n o).2=some b→b≤t.size:=by
 intro b hb
 exact(gns_some h hb).choose_spec.2.2.1
theorem gv_le9 {t:BA}{o:Option Nat}(h:∀a,o=some a→a≤t.size):(gv t o).1≤1000000000:=by
 cases o with
 |none=>exact Nat.zero_le _
 |some a=>
  cases hp:pv t a with
  |none=>simp[gv,hp]
  |some q=>
   obtain⟨x,b⟩:=q
   simp only[gv,hp]
   exact(pv_some (h a rfl) hp).1
theorem mread_some {t:BA}{o:Option Nat}(ho:∀a,o=some a→a≤t.size){p q:Nat→Nat}{e:Nat}(h:(mread t o p q).2=some e):(mread t o p q).1.Segs.length=p (gv t o).1∧(mread t o p q).1.Conf.length=q (gv t (gv t (gv t (gv t (gns t (p (gv t o).1) (gv t o).2).2).2).2).2).1∧e≤t.size∧
  (p (gv t o).1=(gv t o).1→q (gv t (gv t (gv t (gv t (gns t (p (gv t o).1) (gv t o).2).2).2).2).2).1=(gv t (gv t (gv t (gv t (gns t (p (gv t o).1) (gv t o).2).2).2).2).2).1→∃a,o=some a∧mtx (mread t o p q).1=t.extract a e):=by
 unfold mread at h⊢
 simp only at h⊢
 have h0:=gv_le ho
 have h1:=gns_le (n:=p (gv t o).1) h0
 have h2:=gv_le h1
 have h3:=gv_le h2
 have h4:=gv_le h3
 have h5:=gv_le h4
 obtain⟨a5,e5,l5,u5,n5,t5⟩:=gns_some h5 h
 obtain⟨a4,e4,p4⟩:=gv_some e5
 obtain⟨a3,e3,p3⟩:=gv_some e4
 obtain⟨a2,e2,p2⟩:=gv_some e3
 obtain⟨a1,e1,p1⟩:=gv_some e2
 obtain⟨a0,e0,l0,u0,n0,t0⟩:=gns_some h0 e1
 obtain⟨a,ea,pa⟩:=gv_some e0
 refine⟨n0,n5,u5,fun hp hq=>⟨a,ea,?_⟩⟩
 unfold mtx
 simp only[Int.toNat_natCast]
 rw[n0,n5,t0,t5,congrArg encT hq,congrArg encT hp]
 have q0:=pv_some (ho a ea) pa
 have q1:=pv_some (h1 a1 e1) p1
 have q2:=pv_some (h2 a2 e2) p2
 have q3:=pv_some (h3 a3 e3) p3
 have q4:=pv_some (h4 a4 e4) p4
 rw[q0.2.2.2,q1.2.2.2,q2.2.2.2,q3.2.2.2,q4.2.2.2]
 rw[ext_app t a a0 a1 (by omega) (by omega) (by omega),ext_app t a a1 a2 (by omega) (by omega) (by omega),ext_app t a a2 a3 (by omega) (by omega) (by omega),ext_app t a a3 a4 (by omega) (by omega) (by omega),ext_app t a a4 a5 (by omega) (by omega) (by omega),ext_app t a a5 e (by omega) (by omega) (by omega)]
theorem manOk_segs {m:Manifest}(h:8<m.Segs.length):manOk m=false:=by
 simp only[manOk]
 rw[DF (by omega)]
 rfl
theorem manOk_conf {m:Manifest}(h:4<m.Conf.length):manOk m=false:=by
 cases hm:manOk m with
 |false=>rfl
 |true=>have:=(manOk_ok hm).2.2.2.2.2.1;omega
theorem mread_two {t:BA}{o:Option Nat}(ho:∀a,o=some a→a≤t.size):(mread t o (fun n=>min n 9) (fun n=>min n 5)=mread t o (fun n=>n) (fun n=>n)∧∀e,(mread t o (fun n=>n) (fun n=>n)).2=some e→∃a,o=some a∧mtx (mread t o (fun n=>n) (fun n=>n)).1=t.extract a e)∨
  ((∀e,(mread t o (fun n=>min n 9) (fun n=>min n 5)).2=some e→manOk (mread t o (fun n=>min n 9) (fun n=>min n 5)).1=false)∧∀e,(mread t o (fun n=>n) (fun n=>n)).2=some e→manOk (mread t o (fun n=>n) (fun n=>n)).1=false):=by
 by_cases h1:(gv t o).1≤9
 ·have e1:min (gv t o).1 9=(gv t o).1:=by omega
  by_cases h2:(gv t (gv t (gv t (gv t (gns t (gv t o).1 (gv t o).2).2).2).2).2).1≤5
  ·have e2:min (gv t (gv t (gv t (gv t (gns t (gv t o).1 (gv t o).2).2).2).2).2).1 5=(gv t (gv t (gv t (gv t (gns t (gv t o).1 (gv t o).2).2).2).2).2).1:=by omega
   refine .inl ⟨?_,fun e he=>(mread_some ho he).2.2.2 rfl rfl⟩
   unfold mread
   simp only[e1,e2]
  ·refine .inr ⟨fun e he=>manOk_conf ?_,fun e he=>manOk_conf ?_⟩
   ·have:=(mread_some ho he).2.1
    simp only[e1]at this
    omega
   ·have:=(mread_some ho he).2.1
    omega
 ·refine .inr ⟨fun e he=>manOk_segs ?_,fun e he=>manOk_segs ?_⟩
  ·have:=(mread_some ho he).1
   omega
  ·have:=(mread_some ho he).1
   omega
def man0:Manifest:=⟨[],0,0,0,[]⟩
def manF (m:Manifest)(b:Bool):Manifest×Bool:=if b=true then(m,true)else(man0,false)
def manR (N:Nat)(t:BA):Manifest×Bool:=if(unsR N t).2=true then
  manF (mread (unsR N t).1 (some 0) (fun n=>n) (fun n=>n)).1 (decide ((mread (unsR N t).1 (some 0) (fun n=>n) (fun n=>n)).2=some (unsR N t).1.size)&&manOk (mread (unsR N t).1 (some 0) (fun n=>n) (fun n=>n)).1)
 else(man0,false)
theorem uns_size {N:Nat}{t:BA}(ht:t.size≤20000):(unsR N t).1.size≤20000:=by
 unfold unsR
 split
 ·rename_i h
  rw[ext_size t 0 (t.size-4) (by omega) (by omega)]
  omega
 ·exact Nat.zero_le _
theorem mread_len {t:BA}(ht:t.size≤20000){o:Option Nat}(ho:∀a,o=some a→a≤t.size)(p q:Nat→Nat):(mread t o p q).1.Segs.length≤20001∧(mread t o p q).1.Conf.length≤20001∧0≤(mread t o p q).1.Next:=by
 have hg:∀o:Option Nat,gap t o≤20001:=by intro o;cases o<;>simp only[gap]<;>omega
 unfold mread
 simp only
 refine⟨Nat.le_trans (gns_gap t _ _ (gv_le ho)) (hg _),Nat.le_trans (gns_gap t _ _ (gv_le (gv_le (gv_le (gv_le (gns_le (gv_le ho))))))) (hg _),by omega⟩
theorem mani_impl (N:Nat)(hN:Big N)(t:BA)(ht:t.size≤20000):i_ReadManifest N t=some (manR N t):=by
 unfold i_ReadManifest manR
 rw[unseal_impl N hN t ht,bO]
 have hs:=uns_size (N:=N) ht
 generalize unsR N t=u at hs
 obtain⟨s,b⟩:=u
 cases b with
 |false=>rfl
 |true=>
  simp only[BN,BF,if_false,if_true]at hs⊢
  have ho:∀a,some 0=some a→a≤s.size:=fun a h=>by cases h;exact Nat.zero_le _
  obtain⟨hl1,hl2,hl3⟩:=mread_len hs ho (fun n=>n) (fun n=>n)
  have hg:∀o:Option Nat,gap s o≤20001:=by intro o;cases o<;>simp only[gap]<;>omega
  unfold r_each
  have hi:StI s (some 0) ⟨s,0,false⟩:=⟨Nat.zero_le _,rfl⟩
  obtain⟨x0,a0,b0,c0⟩:=stI N hN hs hi
  rw[a0,bO]
  obtain⟨c1,d1,f1⟩:=gnsI N hN hs (gv s (some 0)).1 (fun x a b l=>(x,a,b,(0:Int),(0:Int),(0:Int),l)) (fun m i x a b l=>r_each_l1 N x0 m i x a b 0 0 0 l) (fun m i x a b acc=>by
   rw[r_each_l1,b0]
   unfold i_ReadManifest_1
   simp only[Option.bind_assoc,bO]) (gv_le9 ho) (gv s (some 0)).1 0 N _ x0.2 [] (by omega) (by have:=hg (gv s (some 0)).2;unfold Big at hN;omega) (by have:=hg (gv s (some 0)).2;simp;omega) c0
  simp only[show((0:Nat):Int)=0 from rfl,List.nil_append]at d1
  rw[d1]
  simp only[bO]
  obtain⟨x2,a2,b2,c2⟩:=stI N hN hs f1
  rw[show(⟨c1.s,c1.at',c1.bad⟩:Treader)=c1 from rfl,a2,bO]
  obtain⟨x3,a3,b3,c3⟩:=stI N hN hs c2
  rw[a3,bO]
  obtain⟨x4,a4,b4,c4⟩:=stI N hN hs c3
  rw[a4,bO]
  unfold r_each_i1
  obtain⟨x5,a5,b5,c5⟩:=stI N hN hs c4
  rw[a5]
  simp only[bO]
  obtain⟨c6,d6,f6⟩:=gnsI N hN hs (gv s (gv s (gv s (gv s (gns s (gv s (some 0)).1 (gv s (some 0)).2).2).2).2).2).1 (fun x a b l=>(x,a,b,x2.1,x3.1,x4.1,l)) (fun m i x a b l=>r_each_i1_l1 N ⟨(gns s (gv s (some 0)).1 (gv s (some 0)).2).1,x2.1,x3.1,x4.1,[]⟩ x5 m i x a b x2.1 x3.1 x4.1 l) (fun m i x a b acc=>by
   rw[r_each_i1_l1,b5]
   unfold i_ReadManifest_2
   simp only[Option.bind_assoc,bO]) (gv_le9 (gv_le (gv_le (gv_le (gns_le (gv_le ho)))))) (gv s (gv s (gv s (gv s (gns s (gv s (some 0)).1 (gv s (some 0)).2).2).2).2).2).1 0 N _ x5.2 [] (by omega) (by have:=hg (gv s (gv s (gv s (gv s (gns s (gv s (some 0)).1 (gv s (some 0)).2).2).2).2).2).2;unfold Big at hN;omega) (by have:=hg (gv s (gv s (gv s (gv s (gns s (gv s (some 0)).1 (gv s (some 0)).2).2).2).2).2).2;simp;omega) c5
  simp only[show((0:Nat):Int)=0 from rfl,List.nil_append]at d6
  rw[d6]
  simp only[bO]
  have hm:(⟨(gns s (gv s (some 0)).1 (gv s (some 0)).2).1,x2.1,x3.1,x4.1,(gns s (gv s (gv s (gv s (gv s (gns s (gv s (some 0)).1 (gv s (some 0)).2).2).2).2).2).1 (gv s (gv s (gv s (gv s (gns s (gv s (some 0)).1 (gv s (some 0)).2).2).2).2).2).2).1⟩:Manifest)=(mread s (some 0) (fun n=>n) (fun n=>n)).1:=by
   unfold mread
   simp only[b2,b3,b4]
  have hr:(gns s (gv s (gv s (gv s (gv s (gns s (gv s (some 0)).1 (gv s (some 0)).2).2).2).2).2).1 (gv s (gv s (gv s (gv s (gns s (gv s (some 0)).1 (gv s (some 0)).2).2).2).2).2).2).2=(mread s (some 0) (fun n=>n) (fun n=>n)).2:=by
   unfold mread
   rfl
  rw[hm]
  rw[hr]at f6
  generalize mread s (some 0) (fun n=>n) (fun n=>n)=r at hl1 hl2 hl3 f6
  obtain⟨m,o⟩:=r
  simp only at hl1 hl2 hl3 f6⊢
  rw[manOk_impl N hN m (by omega) (by omega) hl3]
  simp only[bO]
  unfold r_done manF
  cases o with
  |none=>
   obtain⟨b,hb,rfl⟩:=f6
   rfl
  |some a=>
   obtain⟨ha,rfl⟩:=f6
   by_cases he:a=s.size
   ·subst he
    cases manOk m<;>simp[man0]
   ·have:¬(a:Int)=(s.size:Int):=by omega
    simp[he,this,man0]
theorem mread_none (t:BA)(p q:Nat→Nat):(mread t none p q).2=none:=by
 unfold mread
 simp only[gv,gns_none]
theorem mread_len9 {t:BA}(o:Option Nat):(mread t o (fun n=>min n 9) (fun n=>min n 5)).1.Segs.length≤9∧(mread t o (fun n=>min n 9) (fun n=>min n 5)).1.Conf.length≤5:=by
 have h:∀(n:Nat)(o:Option Nat),(gns t n o).1.length≤n:=by
  intro n
  induction n with
  |zero=>intro o;exact Nat.le_refl _
  |succ n ih=>
   intro o
   cases o with
   |none=>exact Nat.zero_le _
   |some a=>
    rw[gns]
    cases pv t a with
    |none=>simp
    |some q=>simp only[LC];exact Nat.succ_le_succ (ih _)
 unfold mread
 simp only
 exact⟨Nat.le_trans (h _ _) (Nat.min_le_right _ _),Nat.le_trans (h _ _) (Nat.min_le_right _ _)⟩
theorem seal_inj {N:Nat}(hN:Big N){s:BA}(hs:s.size≤20000){e:Nat}(he:e≤s.size):seald N (s.extract 0 e)=seald N s↔e=s.size:=by
 constructor
 ·intro h
  have:=congrArg ByteArray.size h
  unfold seald at this
  rw[BZ,BZ,four_size N hN _ (by rw[ext_size s 0 e (by omega) he];omega),four_size N hN _ (by omega),ext_size s 0 e (by omega) he]at this
  omega
 ·rintro rfl
  rw[ext_full]
theorem mani_spec (N:Nat)(hN:Big N)(t:BA)(ht:t.size≤20000):s_ReadManifest N t=some (manR N t):=by
 unfold s_ReadManifest manR
 rw[unseal_spec N hN t ht,bO]
 have hs:=uns_size (N:=N) ht
 have hu:(unsR N t).2=true→seald N (unsR N t).1=t:=by
  unfold unsR
  split
  ·rename_i h;exact fun _=>h.2
  ·intro h;cases h
 generalize unsR N t=u at hs hu
 obtain⟨s,b⟩:=u
 obtain⟨o,hb,ho,hi⟩:∃o:Option Nat,o=(if b=true then some 0 else none)∧(∀a,o=some a→a≤s.size)∧StS s o ⟨s,0,!b⟩:=by
  cases b
  ·exact⟨none,rfl,(fun a h=>by cases h),0,Nat.zero_le _,rfl⟩
  ·exact⟨some 0,rfl,(fun a h=>by cases h;exact Nat.zero_le _),Nat.zero_le _,rfl⟩
 obtain⟨hl1,hl2⟩:=mread_len9 (t:=s) o
 simp only at hs hu⊢
 obtain⟨x0,a0,b0,c0⟩:=stS N hN hs hi
 rw[a0]
 simp only[bO,joinP]
 obtain⟨c1,d1,f1⟩:=gnsS N hN hs (gv s o).1 8 (by omega) (s_ReadManifest_l1 N x0) (fun m i x a b acc=>by rw[s_ReadManifest_l1,b0];rfl) (min (gv s o).1 9) 0 N _ x0.2 [] (by omega) (by unfold Big at hN;omega) (by simp) c0
 simp only[show((0:Nat):Int)=0 from rfl,List.nil_append]at d1
 rw[d1]
 simp only[bO]
 obtain⟨x2,a2,b2,c2⟩:=stS N hN hs f1
 rw[show(⟨c1.text,c1.at',c1.bad⟩:Tl05Cur)=c1 from rfl,a2,bO]
 obtain⟨x3,a3,b3,c3⟩:=stS N hN hs c2
 rw[a3,bO]
 obtain⟨x4,a4,b4,c4⟩:=stS N hN hs c3
 rw[a4,bO]
 obtain⟨x5,a5,b5,c5⟩:=stS N hN hs c4
 rw[a5]
 simp only[bO]
 obtain⟨c6,d6,f6⟩:=gnsS N hN hs (gv s (gv s (gv s (gv s (gns s (min (gv s o).1 9) (gv s o).2).2).2).2).2).1 4 (by omega) (s_ReadManifest_l2 N x5) (fun m i x a b acc=>by rw[s_ReadManifest_l2,b5];rfl) (min (gv s (gv s (gv s (gv s (gns s (min (gv s o).1 9) (gv s o).2).2).2).2).2).1 5) 0 N _ x5.2 [] (by omega) (by unfold Big at hN;omega) (by simp) c5
 simp only[show((0:Nat):Int)=0 from rfl,List.nil_append]at d6
 rw[d6]
 simp only[bO]
 have hm:(⟨(gns s (min (gv s o).1 9) (gv s o).2).1,x2.1,x3.1,x4.1,(gns s (min (gv s (gv s (gv s (gv s (gns s (min (gv s o).1 9) (gv s o).2).2).2).2).2).1 5) (gv s (gv s (gv s (gv s (gns s (min (gv s o).1 9) (gv s o).2).2).2).2).2).2).1⟩:Manifest)=(mread s o (fun n=>min n 9) (fun n=>min n 5)).1:=by
  unfold mread
  simp only[b2,b3,b4]
 have hr:(gns s (min (gv s (gv s (gv s (gv s (gns s (min (gv s o).1 9) (gv s o).2).2).2).2).2).1 5) (gv s (gv s (gv s (gv s (gns s (min (gv s o).1 9) (gv s o).2).2).2).2).2).2).2=(mread s o (fun n=>min n 9) (fun n=>min n 5)).2:=by
  unfold mread
  rfl
 rw[hm]
 rw[hr]at f6
 rw[mtext_spec N hN _ (by omega) (by omega),bO]
 cases b with
 |false=>
  subst hb
  rw[IQ (by decide),mread_none]at f6
  obtain⟨b,hb,rfl⟩:=f6
  rfl
 |true=>
  rw[IP rfl]at hb
  subst hb
  rw[IP rfl]
  have hst:=hu rfl
  rcases mread_two ho with ⟨h1,h2⟩|⟨h1,h2⟩
  ·rw[h1]at f6⊢
   cases ho2:(mread s (some 0) (fun n=>n) (fun n=>n)).2 with
   |none=>
    rw[ho2]at f6
    obtain⟨b,hb,rfl⟩:=f6
    rfl
   |some e=>
    rw[ho2]at f6
    obtain⟨he,rfl⟩:=f6
    obtain⟨a,ea,hmt⟩:=h2 e ho2
    cases ea
    have hinj:=seal_inj (N:=N) hN hs he
    cases hmo:manOk (mread s (some 0) (fun n=>n) (fun n=>n)).1 with
    |false=>simp[manF,man0]
    |true=>
     rw[hmt]
     by_cases hes:e=s.size
     ·have:=hinj.2 hes
      rw[hst]at this
      rw[this,hes]
      simp[manF]
     ·have h3:¬seald N (s.extract 0 e)=t:=by rw[←hst];exact fun h=>hes (hinj.1 h)
      simp[manF,man0,h3,hes]
  ·have g1:(if c6.bad=true then(some (man0,false):Option (Manifest×Bool))else if(!(if manOk (mread s (some 0) (fun n=>min n 9) (fun n=>min n 5)).1=true then(seald N (mtx (mread s (some 0) (fun n=>min n 9) (fun n=>min n 5)).1),true)else((⟨#[]⟩:BA),false)).2)=true then some (man0,false)else if(!decide ((if manOk (mread s (some 0) (fun n=>min n 9) (fun n=>min n 5)).1=true then(seald N (mtx (mread s (some 0) (fun n=>min n 9) (fun n=>min n 5)).1),true)else((⟨#[]⟩:BA),false)).1=t))=true then some (man0,false)else some ((mread s (some 0) (fun n=>min n 9) (fun n=>min n 5)).1,true))=some (man0,false):=by
    cases ho2:(mread s (some 0) (fun n=>min n 9) (fun n=>min n 5)).2 with
    |none=>
     rw[ho2]at f6
     obtain⟨b,hb,rfl⟩:=f6
     rfl
    |some e=>
     rw[h1 e ho2]
     split<;>rfl
   refine g1.trans ?_
   cases ho2:(mread s (some 0) (fun n=>n) (fun n=>n)).2 with
   |none=>simp[manF]
   |some e=>rw[h2 e ho2];simp[manF]
def sname (x:Int):BA:=if 0≤x∧x≤999 then(⟨#[103]⟩:BA)++⟨(Lib.itoa x).toArray⟩else⟨#[]⟩
theorem itoa_len {x:Int}(h:0≤x∧x≤999):(Lib.itoa x).length≤10:=by
 obtain⟨n,rfl⟩:∃n:Nat,x=n:=⟨x.toNat,by omega⟩
 rw[itoa_nat]
 exact dec_len10 (by omega)
theorem sname_spec (N:Nat)(hN:Big N)(x:Int):s_SegName N x=some (sname x):=by
 unfold s_SegName sname
 rw[in_eq,bO]
 by_cases h:0≤x∧x≤999
 ·have hl:=itoa_len h
  rw[DE h,IQ (by decide),dec_spec N hN x (by omega) (by omega),bO,scat_le (by rw[show(⟨(Lib.itoa x).toArray⟩:BA).size=(Lib.itoa x).length from List.size_toArray];show 1+_≤_;omega),IP h]
  rfl
 ·rw[DF h,IQ h];rfl
theorem sname_impl (N:Nat)(hN:Big N)(x:Int):i_SegName N x=some (sname x):=by
 unfold i_SegName sname i_Decimal Q_Itoa
 rw[within_eq,bO]
 by_cases h:0≤x∧x≤999
 ·have hl:=itoa_len h
  rw[DE h,IQ (by decide)]
  unfold itoa?
  rw[IP (by omega),itoaL_eq,bO,bO,scat_le (by rw[show(⟨(Lib.itoa x).toArray⟩:BA).size=(Lib.itoa x).length from List.size_toArray];show 1+_≤_;omega),IP h]
  rfl
 ·rw[DF h,IQ h];rfl
theorem isSeg_tot (N:Nat)(hN:Big N)(t:BA)(ht:t.size≤20000):∃b,i_isSegName N t=some b:=by
 unfold i_isSegName
 have hc:∃u:BA×Bool,S_CutPrefix N t ⟨#[103]⟩=some u∧u.1.size≤20000:=by
  unfold S_CutPrefix q_CutPrefix q_HasPrefix
  by_cases h:1≤t.size
  ·rw[IP (by simp only[DT];show(t.size:Int)≥((1:Nat):Int);omega),show(((⟨#[103]⟩:BA).size:Nat):Int)=((1:Nat):Int)from rfl,stake_ok h,bO,bO,sdrop_ok h]
   split
   ·exact⟨_,rfl,ht⟩
   ·refine⟨_,rfl,?_⟩
    show(t.extract 1 t.size).size≤20000
    rw[ext_size t 1 t.size h (Nat.le_refl _)]
    omega
  ·rw[IQ (by simp only[DT];show ¬(t.size:Int)≥((1:Nat):Int);omega)]
   exact⟨_,rfl,ht⟩
 obtain⟨u,e1,e2⟩:=hc
 rw[e1,bO,rdec_impl N _ (by omega),bO,sname_impl N hN]
 split
 ·split
  ·exact⟨_,rfl⟩
  ·exact⟨_,rfl⟩
 ·exact⟨_,rfl⟩
theorem l09Seg_tot (N:Nat)(hN:Big N)(t:BA)(ht:t.size≤20000):∃b,s_l09Seg N t=some b:=by
 unfold s_l09Seg
 by_cases h:2≤t.size
 ·rw[IQ (by simp;omega),show(1:Int)=((1:Nat):Int)from rfl,sdrop_ok (by omega),bO,rdec_spec N hN,bO,sname_spec N hN]
  split
  ·exact⟨_,rfl⟩
  ·rw[bO];split<;>exact⟨_,rfl⟩
 ·rw[IP (by simp;omega)];exact⟨_,rfl⟩
theorem l09In_tot (N:Nat)(xs:List Int)(x:Int)(hl:xs.length≤1000000)(hN:Big N):∃b,s_l09In N xs x=some b:=by
 have key:∀(d k m:Nat),xs.length=k+d→d<m→∃o,s_l09In_l1 N xs x m (k:Int)=some o:=by
  intro d
  induction d with
  |zero=>
   intro k m hd hm
   obtain⟨m,rfl⟩:∃q,m=q+1:=⟨m-1,by omega⟩
   rw[s_l09In_l1,IQ (by simp;omega)]
   exact⟨_,rfl⟩
  |succ d ih=>
   intro k m hd hm
   obtain⟨m,rfl⟩:∃q,m=q+1:=⟨m-1,by omega⟩
   rw[s_l09In_l1,IP (by simp;omega),at_lt (by omega),bO]
   split
   ·exact⟨_,rfl⟩
   ·rw[WS (by omega)];exact ih (k+1) m (by omega) (by omega)
 obtain⟨o,ho⟩:=key xs.length 0 N (by omega) (by unfold Big at hN;omega)
 rw[show((0:Nat):Int)=0 from rfl]at ho
 unfold s_l09In
 simp only[joinP]
 rw[ho]
 cases o<;>exact⟨_,rfl⟩
theorem contains_tot (N:Nat)(hN:Big N)(xs:List Int)(f:File)(hl:xs.length≤1000000):∃b,L_CF_int N xs f=some b:=by
 have key:∀(d k m:Nat),xs.length=k+d→d<m→∃o,L_IF_int_l1 N xs f m (k:Int)=some o:=by
  intro d
  induction d with
  |zero=>
   intro k m hd hm
   obtain⟨m,rfl⟩:∃q,m=q+1:=⟨m-1,by omega⟩
   rw[L_IF_int_l1,IQ (by simp;omega)]
   exact⟨_,rfl⟩
  |succ d ih=>
   intro k m hd hm
   obtain⟨m,rfl⟩:∃q,m=q+1:=⟨m-1,by omega⟩
   rw[L_IF_int_l1,IP (by simp;omega),at_lt (by omega),bO]
   unfold i_cleaning_1
   rw[sname_impl N hN,bO,bO]
   split
   ·exact⟨_,rfl⟩
   ·rw[WS (by omega)];exact ih (k+1) m (by omega) (by omega)
 obtain⟨o,ho⟩:=key xs.length 0 N (by omega) (by unfold Big at hN;omega)
 rw[show((0:Nat):Int)=0 from rfl]at ho
 unfold L_CF_int L_IF_int
 simp only[joinP]
 rw[ho]
 cases o<;>exact⟨_,rfl⟩
theorem cleaning_tot (N:Nat)(hN:Big N)(d:Disk)(hd:diskOk d=true)(m:Manifest)(hm:m.Segs.length≤1000000):∃r,i_cleaning N d m=some r∧r.length≤31:=by
 have hl:=disk_len hd
 have hf:=disk_file hd
 have key:∀(e k q:Nat)(acc:List Raw),d.Files.length=k+e→e<q→acc.length≤1+k→∃r,i_cleaning_l1 N d m q (k:Int) acc=some r∧r.length≤31:=by
  intro e
  induction e with
  |zero=>
   intro k q acc hd hm ha
   obtain⟨q,rfl⟩:∃z,q=z+1:=⟨q-1,by omega⟩
   rw[i_cleaning_l1,IQ (by simp;omega)]
   exact⟨_,rfl,by omega⟩
  |succ e ih=>
   intro k q acc hd hq ha
   obtain⟨q,rfl⟩:∃z,q=z+1:=⟨q-1,by omega⟩
   have hk:k<d.Files.length:=by omega
   obtain⟨b,e1⟩:=isSeg_tot N hN d.Files[k].Name (by have:=hf _ (List.getElem_mem hk);omega)
   obtain⟨c,e2⟩:=contains_tot N hN m.Segs d.Files[k] hm
   rw[i_cleaning_l1,IP (by simp;omega),at_lt hk,bO,e1,bO,e2,bO,cat_le (by simp;omega),bO,WS (by omega)]
   split
   ·split
    ·exact ih (k+1) q _ (by omega) (by omega) (by simp;omega)
    ·exact ih (k+1) q _ (by omega) (by omega) (by omega)
   ·exact ih (k+1) q _ (by omega) (by omega) (by omega)
 unfold i_cleaning
 simp only[joinP]
 rw[fileAt_impl N hN d hd,bO]
 have k2:∀acc:List Raw,acc.length≤1→∃r,((i_cleaning_l1 N d m N 0 acc).bind fun v=>some v)=some r∧r.length≤31:=by
  intro acc ha
  obtain⟨r,e1,e2⟩:=key d.Files.length 0 N acc (by omega) (by unfold Big at hN;omega) (by omega)
  rw[show((0:Nat):Int)=0 from rfl]at e1
  exact⟨r,by rw[e1];rfl,e2⟩
 split
 ·rw[cat_le (by simp),bO]
  exact k2 _ (by simp)
 ·exact k2 _ (by simp)
theorem l1_tot (N:Nat)(hN:Big N)(d:Disk)(hd:diskOk d=true)(y:Shelf×Int×Int)(hm:y.1.Man.Segs.length≤1000000):∀(e k q:Nat)(acc:List Raw),d.Files.length=k+e→e<q→acc.length≤1+k→∃r,s_OpenShelf_l1 N d y q (k:Int) acc=some r∧r.length≤31:=by
 have hl:=disk_len hd
 have hf:=disk_file hd
 intro e
 induction e with
 |zero=>
  intro k q acc hd hm ha
  obtain⟨q,rfl⟩:∃z,q=z+1:=⟨q-1,by omega⟩
  rw[s_OpenShelf_l1,IQ (by simp;omega)]
  exact⟨_,rfl,by omega⟩
 |succ e ih=>
  intro k q acc hd hq ha
  obtain⟨q,rfl⟩:∃z,q=z+1:=⟨q-1,by omega⟩
  have hk:k<d.Files.length:=by omega
  obtain⟨b,e1⟩:=l09Seg_tot N hN d.Files[k].Name (by have:=hf _ (List.getElem_mem hk);omega)
  obtain⟨c,e2⟩:=l09In_tot N y.1.Man.Segs b hm hN
  rw[s_OpenShelf_l1,IP (by simp;omega)]
  simp only[joinP,at_lt hk,bO]
  rw[e1,bO,e2,bO,cat_le (by simp;omega),bO,WS (by omega)]
  split
  ·split
   ·exact ih (k+1) q _ (by omega) (by omega) (by simp;omega)
   ·exact ih (k+1) q _ (by omega) (by omega) (by omega)
  ·exact ih (k+1) q _ (by omega) (by omega) (by omega)
def there (d:Disk)(l:List Int):Bool:=l.all fun n=>(fileAt d (sname n)).isSome
theorem there_spec (N:Nat)(hN:Big N)(d:Disk)(hd:diskOk d=true)(y:Manifest×Bool)(hy:y.1.Segs.length≤8):∀(e k q:Nat),y.1.Segs.length=k+e→e<q→s_l09Load_l1 N d y q (k:Int)=some (if there d (y.1.Segs.drop k)=true then .inr ()else .inl (⟨man0,[],0⟩,0,3)):=by
 have hl:=disk_len hd
 intro e
 induction e with
 |zero=>
  intro k q hd hm
  obtain⟨q,rfl⟩:∃z,q=z+1:=⟨q-1,by omega⟩
  rw[s_l09Load_l1,IQ (by simp;omega),DN (by omega)]
  rfl
 |succ e ih=>
  intro k q hd hq
  obtain⟨q,rfl⟩:∃z,q=z+1:=⟨q-1,by omega⟩
  have hk:k<y.1.Segs.length:=by omega
  obtain⟨a,h1,h2⟩:=l03At_ok N hN d (by omega) (sname y.1.Segs[k])
  rw[s_l09Load_l1,IP (by simp;omega),at_lt hk,bO,sname_spec N hN,bO,h1,bO,WS (by omega),DG hk,there,List.all_cons]
  rcases h2 with ⟨rfl,h2⟩|⟨z,f,rfl,h3,h4,h5,h6⟩
  ·rw[h2];rfl
  ·rw[IQ (by simp),ih (k+1) q (by omega) (by omega)]
   have:(fileAt d (sname y.1.Segs[k])).isSome=true:=by first|(rw[h6];rfl)|(rw[h5];rfl)|simp_all
   rw[this,Bool.true_and]
   rfl
theorem there_impl (N:Nat)(hN:Big N)(d:Disk)(hd:diskOk d=true)(y:Manifest×Bool)(hy:y.1.Segs.length≤8):∀(e k q:Nat),y.1.Segs.length=k+e→e<q→i_OpenShelf_l1 N d y q (k:Int)=some (if there d (y.1.Segs.drop k)=true then .inr ()else .inl (⟨man0,[],0⟩,[],3)):=by
 have hl:=disk_len hd
 intro e
 induction e with
 |zero=>
  intro k q hd hm
  obtain⟨q,rfl⟩:∃z,q=z+1:=⟨q-1,by omega⟩
  rw[i_OpenShelf_l1,IQ (by simp;omega),DN (by omega)]
  rfl
 |succ e ih=>
  intro k q hd2 hq
  obtain⟨q,rfl⟩:∃z,q=z+1:=⟨q-1,by omega⟩
  have hk:k<y.1.Segs.length:=by omega
  rw[i_OpenShelf_l1,IP (by simp;omega),at_lt hk,bO,sname_impl N hN,bO,fileAt_impl N hN d hd,bO,WS (by omega),DG hk,there,List.all_cons]
  unfold fileR
  cases hf:fileAt d (sname y.1.Segs[k])with
  |none=>rfl
  |some t=>
   rw[IQ (by simp),ih (k+1) q (by omega) (by omega)]
   rfl
def ftext (d:Disk)(n:BA):BA:=(fileAt d n).getD ⟨#[]⟩
theorem ftext_size {d:Disk}(hd:diskOk d=true)(n:BA):(ftext d n).size≤20000:=by
 unfold ftext
 cases h:fileAt d n with
 |none=>exact Nat.zero_le _
 |some t=>exact fileAt_size hd h
theorem fileR_text (d:Disk)(n:BA):(fileR d n).1=ftext d n:=by
 unfold fileR ftext
 cases fileAt d n<;>rfl
def loadL (N:Nat)(d:Disk):List Int→Int→List Spot→Option (Int×List Spot)
 |[],s,sp=>some (s,sp)
 |n::ns,s,sp=>if(scan N (ftext d (sname n))).2<(ftext d (sname n)).size∧ns≠[]then none else loadL N d ns (imax s (scR N (ftext d (sname n)) n).2.2) (sp++(scR N (ftext d (sname n)) n).1)
theorem bats_rok (N:Nat):∀(ts:List BA)(a:Nat),(∀r∈ts,rok r)→∀p∈(bats N ts a).1,rok p.text
 |[],a,_=>by simp[bats]
 |t::ts,a,h=>by
  rw[bats]
  split
  ·intro p hp
   rcases List.mem_cons.1 hp with rfl|hp
   ·exact h t (by simp)
   ·exact bats_rok N ts _ (fun r hr=>h r (by simp[hr])) p hp
  ·simp
theorem scS_len (N:Nat)(hN:Big N)(seg:Int):∀(l:List Tplaced),(∀p∈l,plOk p)→(scS seg l).length≤60*l.length
 |[],_=>Nat.le_refl _
 |p::l,h=>by
  have h1:=(spotsOf_ok N hN seg p (h p (by simp))).2
  have h2:=scS_len N hN seg l (fun q hq=>h q (by simp[hq]))
  rw[scS,LA,LC]
  omega
theorem scR_len (N:Nat)(hN:Big N)(t:BA)(ht:t.size≤20000)(seg:Int):(scR N t seg).1.length≤240000:=by
 obtain⟨h1,h2⟩:=scan_ok N hN t ht
 have:=scS_len N hN seg _ h1
 unfold scR
 simp only
 omega
theorem fsum_loop (N:Nat)(hN:Big N)(y:List Spot×List BA×Int)(hy:∀r∈y.2.1,rok r)(hl:y.2.1.length≤4000):∀(d k m a:Nat),y.2.1.length=k+d→d<m→a≤9009*k→s_l09Load_l3 N y m (a:Int) (k:Int)=some ((fsum N (y.2.1.drop k) a:Nat):Int):=by
 intro d
 induction d with
 |zero=>
  intro k m a hd hm ha
  obtain⟨m,rfl⟩:∃q,m=q+1:=⟨m-1,by omega⟩
  rw[s_l09Load_l3,IQ (by simp;omega),DN (by omega),fsum]
 |succ d ih=>
  intro k m a hd hm ha
  obtain⟨m,rfl⟩:∃q,m=q+1:=⟨m-1,by omega⟩
  have hk:k<y.2.1.length:=by omega
  have hr:=hy _ (List.getElem_mem hk)
  have hf:=frm_le N hN hr
  rw[s_l09Load_l3,IP (by simp;omega),at_lt hk,bO,frame_spec N hN _ (by unfold rok at hr;omega),IP hr,bO]
  dsimp only
  rw[w64_nat (by omega),WS (by omega),ih (k+1) m _ (by omega) (by omega) (by omega),DG hk,fsum]
theorem scan_end (N:Nat)(hN:Big N)(t:BA)(ht:t.size≤20000)(seg:Int):s_l09Load_l3 N (scR N t seg) N 0 0=some ((scan N t).2:Int):=by
 obtain⟨h1,h2⟩:=scan_ok N hN t ht
 have h3:=bats_rok N (recs N t).1 0 (recs_ok N t).2
 have:=fsum_loop N hN (scR N t seg) (fun r hr=>by
  obtain⟨p,hp,rfl⟩:=List.mem_map.1 (show r∈(scan N t).1.map Tplaced.text from hr)
  exact h3 p hp) (by unfold scR;simpa using h2) (scR N t seg).2.1.length 0 N 0 (by omega) (by have:(scR N t seg).2.1.length≤4000:=(by unfold scR;simpa using h2);unfold Big at hN;omega) (by omega)
 rw[show((0:Nat):Int)=0 from rfl,List.drop_zero]at this
 rw[this]
 congr 2
 exact bats_end N _ 0
theorem puts_append (o a b:List Spot):puts (puts o a) b=puts o (a++b):=by
 unfold puts
 rw[List.foldl_append]
theorem load_spec (N:Nat)(hN:Big N)(d:Disk)(hd:diskOk d=true)(y:Manifest×Bool)(hy:y.1.Segs.length≤8):∀(e k q end':Nat)(s:Int)(sp:List Spot),y.1.Segs.length=k+e→e<q→sp.length≤240000*k→
  ∃o,s_l09Load_l2 N d y q (end':Int) (k:Int) s (puts [] sp)=some o∧match loadL N d (y.1.Segs.drop k) s sp with
   |none=>o=.inl (⟨man0,[],0⟩,0,4)
   |some (s',sp')=>∃e':Nat,o=.inr ((e':Int),s',puts [] sp')∧sp'.length≤2000000:=by
 have hl:=disk_len hd
 intro e
 induction e with
 |zero=>
  intro k q end' s sp hd hm hsp
  obtain⟨q,rfl⟩:∃z,q=z+1:=⟨q-1,by omega⟩
  rw[s_l09Load_l2,IQ (by simp;omega),DN (by omega)]
  exact⟨_,rfl,end',rfl,by omega⟩
 |succ e ih=>
  intro k q end' s sp hd2 hq hsp
  obtain⟨q,rfl⟩:∃z,q=z+1:=⟨q-1,by omega⟩
  have hk:k<y.1.Segs.length:=by omega
  have hz:=ftext_size hd (sname y.1.Segs[k])
  have hsl:=scR_len N hN _ hz y.1.Segs[k]
  have hpl:=puts_len sp []
  simp only[List.length_nil,Nat.zero_add]at hpl
  rw[s_l09Load_l2,IP (by simp;omega)]
  simp only[joinP,at_lt hk,bO]
  rw[sname_spec N hN,bO,l03Text_ok N hN d (by omega),bO,show(fileAt d (sname y.1.Segs[k])).getD ⟨#[]⟩=ftext d (sname y.1.Segs[k])from rfl,scan_spec N hN _ hz,bO,scan_end N hN _ hz,bO,l08_ok N hN _ _ (by omega) (by omega),puts_append]
  simp only[bO]
  rw[WS (by omega),DG hk,loadL]
  have hne:(y.1.Segs.drop (k+1)≠[])↔k+1<y.1.Segs.length:=by
   rw[ne_eq,List.drop_eq_nil_iff];omega
  have hmx:∀z:Int→Option ((Shelf×Int×Int)⊕(Int×Int×List Spot)),(if decide ((scR N (ftext d (sname y.1.Segs[k])) y.1.Segs[k]).2.2>s)=true then z (scR N (ftext d (sname y.1.Segs[k])) y.1.Segs[k]).2.2 else z s)=z (imax s (scR N (ftext d (sname y.1.Segs[k])) y.1.Segs[k]).2.2):=by
   intro z
   unfold imax
   by_cases hs:(scR N (ftext d (sname y.1.Segs[k])) y.1.Segs[k]).2.2>s
   ·rw[IP (by simpa using hs),IP hs]
   ·rw[IQ (by simpa using hs),IQ hs]
  have e4:=hmx fun v=>s_l09Load_l2 N d y q ((scan N (ftext d (sname y.1.Segs[k]))).2:Int) ((k+1:Nat):Int) v (puts [] (sp++(scR N (ftext d (sname y.1.Segs[k])) y.1.Segs[k]).1))
  rw[e4]
  by_cases h1:(scan N (ftext d (sname y.1.Segs[k]))).2<(ftext d (sname y.1.Segs[k])).size
  ·by_cases h2:k+1<y.1.Segs.length
   ·rw[IP (by simp;omega),IP (by simp;omega),IP ⟨h1,hne.2 h2⟩]
    exact⟨_,rfl,rfl⟩
   ·rw[IP (by simp;omega),IQ (by simp;omega),IQ (fun h=>h2 (hne.1 h.2))]
    exact ih (k+1) q _ _ _ (by omega) (by omega) (by rw[LA];omega)
  ·rw[IQ (by simp;omega),IQ (fun h=>h1 h.1)]
   exact ih (k+1) q _ _ _ (by omega) (by omega) (by rw[LA];omega)
theorem load_impl (N:Nat)(hN:Big N)(d:Disk)(hd:diskOk d=true)(y:Manifest×Bool)(hy:y.1.Segs.length≤8):∀(e k q:Nat)(s:Int)(raws:List Raw)(sp:List Spot),y.1.Segs.length=k+e→e<q→sp.length≤240000*k→raws.length≤31+k→
  ∃o,i_OpenShelf_l2 N d y q (k:Int) s raws sp=some o∧match loadL N d (y.1.Segs.drop k) s sp with
   |none=>o=.inl (⟨man0,[],0⟩,[],4)
   |some (s',sp')=>∃r,o=.inr (s',r,sp')∧sp'.length≤2000000:=by
 have hl:=disk_len hd
 intro e
 induction e with
 |zero=>
  intro k q s raws sp hd hm hsp hr
  obtain⟨q,rfl⟩:∃z,q=z+1:=⟨q-1,by omega⟩
  rw[i_OpenShelf_l2,IQ (by simp;omega),DN (by omega)]
  exact⟨_,rfl,_,rfl,by omega⟩
 |succ e ih=>
  intro k q s raws sp hd2 hq hsp hr
  obtain⟨q,rfl⟩:∃z,q=z+1:=⟨q-1,by omega⟩
  have hk:k<y.1.Segs.length:=by omega
  have hz:=ftext_size hd (sname y.1.Segs[k])
  have hsl:=scR_len N hN _ hz y.1.Segs[k]
  rw[i_OpenShelf_l2,IP (by simp;omega)]
  simp only[joinP,at_lt hk,bO]
  rw[sname_impl N hN,bO,fileAt_impl N hN d hd,bO,fileR_text,scan_impl N hN _ hz,bO,batches_impl N hN _ hz]
  simp only[bO]
  rw[WS (by omega),w64_id (n:=(y.1.Segs.length:Int)-1) (by omega) (by omega),DG hk,loadL,cat_le (by omega)]
  simp only[bO]
  have hne:(y.1.Segs.drop (k+1)≠[])↔k+1<y.1.Segs.length:=by
   rw[ne_eq,List.drop_eq_nil_iff];omega
  by_cases h1:(scan N (ftext d (sname y.1.Segs[k]))).2<(ftext d (sname y.1.Segs[k])).size
  ·by_cases h2:k+1<y.1.Segs.length
   ·rw[IP (by simp;omega),IP (by simp;omega),IP ⟨h1,hne.2 h2⟩]
    exact⟨_,rfl,rfl⟩
   ·rw[IP (by simp;omega),IQ (by simp;omega),IP (by simp;omega),stake_ok (by omega),bO,cat_le (by simp;omega),bO,IQ (fun h=>h2 (hne.1 h.2))]
    exact ih (k+1) q _ _ _ (by omega) (by omega) (by rw[LA];omega) (by simp;omega)
  ·rw[IQ (by simp;omega),IQ (by simp;omega),IQ (fun h=>h1 h.1)]
   exact ih (k+1) q _ _ _ (by omega) (by omega) (by rw[LA];omega) (by omega)
def sh0:Shelf:=⟨man0,[],0⟩
def mantx:BA:=⟨#[109]⟩
def shelfOf (N:Nat)(d:Disk):Shelf×Int:=if diskOk d=true then
  if(fileAt d mantx).isSome=true∧(manR N (ftext d mantx)).2=true then
   if there d (manR N (ftext d mantx)).1.Segs=true then
    match loadL N d (manR N (ftext d mantx)).1.Segs (manR N (ftext d mantx)).1.Base []with
    |none=>(sh0,4)
    |some (s,sp)=>if dirOk (puts [] sp)=true then(⟨(manR N (ftext d mantx)).1,puts [] sp,s⟩,0)else(sh0,4)
   else(sh0,3)
  else(sh0,2)
 else(sh0,1)
theorem manR_ok {N:Nat}{t:BA}(h:(manR N t).2=true):manOk (manR N t).1=true:=by
 unfold manR at h⊢
 split at h
 ·rename_i h0
  rw[IP h0]
  unfold manF at h⊢
  split at h
  ·rename_i h1
   rw[IP h1]
   simp only[Bool.and_eq_true]at h1
   exact h1.2
  ·cases h
 ·cases h
theorem open_impl (N:Nat)(hN:Big N)(d:Disk)(hl:d.Files.length≤1099511627):∃raws,i_OpenShelf N d=some ((shelfOf N d).1,raws,(shelfOf N d).2):=by
 unfold i_OpenShelf shelfOf
 rw[diskOk_impl N hN d hl,bO]
 cases hd:diskOk d with
 |false=>exact⟨_,rfl⟩
 |true=>
  rw[IQ (by decide),IP rfl,fileAt_impl N hN d hd,bO,fileR_text,mani_impl N hN _ (ftext_size hd _),bO]
  have hfr:(fileR d ⟨#[109]⟩).2=(fileAt d mantx).isSome:=by unfold fileR mantx;cases fileAt d ⟨#[109]⟩<;>rfl
  rw[hfr,show ftext d ⟨#[109]⟩=ftext d mantx from rfl]
  cases hs:(fileAt d mantx).isSome with
  |false=>exact⟨[],by simp[sh0,man0]⟩
  |true=>
   cases hm:(manR N (ftext d mantx)).2 with
   |false=>exact⟨[],by simp[sh0,man0]⟩
   |true=>
    have hmo:=manR_ok hm
    obtain⟨⟨g1,g2⟩,_⟩:=manOk_ok hmo
    rw[IQ (by decide),IQ (by decide),IP ⟨rfl,rfl⟩]
    simp only[joinP]
    have ht:=there_impl N hN d hd (manR N (ftext d mantx)) g2 (manR N (ftext d mantx)).1.Segs.length 0 N (by omega) (by unfold Big at hN;omega)
    rw[show((0:Nat):Int)=0 from rfl,List.drop_zero]at ht
    rw[ht]
    cases hth:there d (manR N (ftext d mantx)).1.Segs with
    |false=>exact⟨_,rfl⟩
    |true=>
     obtain⟨r,e1,e2⟩:=cleaning_tot N hN d hd (manR N (ftext d mantx)).1 (by omega)
     rw[IP rfl,IP rfl,bO,Sum.elim_inr,e1,bO]
     obtain⟨o,f1,f2⟩:=load_impl N hN d hd (manR N (ftext d mantx)) g2 (manR N (ftext d mantx)).1.Segs.length 0 N (manR N (ftext d mantx)).1.Base r [] (by omega) (by unfold Big at hN;omega) (by simp) (by omega)
     rw[show((0:Nat):Int)=0 from rfl]at f1
     rw[List.drop_zero]at f2
     rw[f1,bO]
     cases hld:loadL N d (manR N (ftext d mantx)).1.Segs (manR N (ftext d mantx)).1.Base []with
     |none=>rw[hld]at f2;subst f2;exact⟨_,rfl⟩
     |some v=>
      obtain⟨s,sp⟩:=v
      rw[hld]at f2
      obtain⟨r',rfl,f3⟩:=f2
      simp only[Sum.elim_inr]
      rw[dirMore_nil N hN sp (by omega),bO]
      cases dirOk (puts [] sp)<;>exact⟨_,rfl⟩
theorem open_spec (N:Nat)(hN:Big N)(d:Disk)(hl:d.Files.length≤1099511627):∃raws,s_OpenShelf N d=some ((shelfOf N d).1,raws,(shelfOf N d).2):=by
 have key:∃e:Nat,s_l09Load N d=some ((shelfOf N d).1,(e:Int),(shelfOf N d).2):=by
  unfold s_l09Load shelfOf
  rw[diskOk_spec N hN d hl,bO]
  cases hd:diskOk d with
  |false=>exact⟨0,rfl⟩
  |true=>
   rw[IQ (by decide),IP rfl,fileAt_spec N hN d hl hd,bO,fileR_text,mani_spec N hN _ (ftext_size hd _),bO]
   have hfr:(fileR d ⟨#[109]⟩).2=(fileAt d mantx).isSome:=by unfold fileR mantx;cases fileAt d ⟨#[109]⟩<;>rfl
   rw[hfr,show ftext d ⟨#[109]⟩=ftext d mantx from rfl]
   cases hs:(fileAt d mantx).isSome with
   |false=>exact⟨0,by simp[sh0,man0]⟩
   |true=>
    cases hm:(manR N (ftext d mantx)).2 with
    |false=>exact⟨0,by simp[sh0,man0]⟩
    |true=>
     have hmo:=manR_ok hm
     obtain⟨⟨g1,g2⟩,_⟩:=manOk_ok hmo
     rw[IQ (by decide),IQ (by decide),IP ⟨rfl,rfl⟩]
     simp only[joinP]
     have ht:=there_spec N hN d hd (manR N (ftext d mantx)) g2 (manR N (ftext d mantx)).1.Segs.length 0 N (by omega) (by unfold Big at hN;omega)
     rw[show((0:Nat):Int)=0 from rfl,List.drop_zero]at ht
     rw[ht]
     cases hth:there d (manR N (ftext d mantx)).1.Segs with
     |false=>exact⟨0,rfl⟩
     |true=>
      rw[IP rfl,IP rfl,bO,Sum.elim_inr]
      obtain⟨o,f1,f2⟩:=load_spec N hN d hd (manR N (ftext d mantx)) g2 (manR N (ftext d mantx)).1.Segs.length 0 N 0 (manR N (ftext d mantx)).1.Base [] (by omega) (by unfold Big at hN;omega) (by simp)
      rw[show((0:Nat):Int)=0 from rfl,show puts [] []=([]:List Spot)from rfl]at f1
      rw[List.drop_zero]at f2
      rw[f1,bO]
      cases hld:loadL N d (manR N (ftext d mantx)).1.Segs (manR N (ftext d mantx)).1.Base []with
      |none=>rw[hld]at f2;subst f2;exact⟨0,rfl⟩
      |some v=>
       obtain⟨s,sp⟩:=v
       rw[hld]at f2
       obtain⟨e',rfl,f3⟩:=f2
       have hpl:=puts_len sp []
       simp only[List.length_nil,Nat.zero_add]at hpl
       simp only[Sum.elim_inr]
       rw[dirOk_spec N hN _ (by omega),bO]
       cases dirOk (puts [] sp)
       ·exact⟨0,rfl⟩
       ·exact⟨e',rfl⟩
 obtain⟨e,he⟩:=key
 unfold s_OpenShelf
 rw[he,bO]
 by_cases hc:(shelfOf N d).2=0
 ·rw[IQ (by simp[hc])]
  have hgood:diskOk d=true∧manOk (shelfOf N d).1.Man=true:=by
   unfold shelfOf at hc⊢
   split at hc
   ·rename_i h0
    rw[IP h0]
    split at hc
    ·rename_i h1
     rw[IP h1]
     split at hc
     ·rename_i h2
      rw[IP h2]
      split at hc
      ·cases hc
      ·split at hc
       ·rename_i s sp h3 h4
        rw[IP h4]
        exact⟨h0,manR_ok h1.2⟩
       ·cases hc
     ·cases hc
    ·cases hc
   ·cases hc
  obtain⟨hd,hmo⟩:=hgood
  obtain⟨⟨g1,g2⟩,_⟩:=manOk_ok hmo
  have hdl:=disk_len hd
  simp only[joinP]
  obtain⟨a,h1,h2⟩:=l03At_ok N hN d (by omega) ⟨#[109,43]⟩
  rw[h1,bO]
  have step:∀acc:List Raw,acc.length≤1→∃raws,((s_OpenShelf_l1 N d ((shelfOf N d).1,(e:Int),(shelfOf N d).2) N 0 acc).bind fun v=>(at? (shelfOf N d).1.Man.Segs (w64 (((shelfOf N d).1.Man.Segs.length:Int)-1))).bind fun x541=>(s_SegName N x541).bind fun y542=>(s_l03Text N d y542).bind fun y546=>if decide ((e:Int)<(y546.size:Int))=true then(stake? y546 (e:Int)).bind fun x556=>(cat? v [Raw.mk 1 y542 ⟨#[]⟩ x556]).bind fun x557=>some ((shelfOf N d).1,x557,(0:Int))else some ((shelfOf N d).1,v,(0:Int)))=some ((shelfOf N d).1,raws,(0:Int)):=by
   intro acc ha
   obtain⟨r,e1,e2⟩:=l1_tot N hN d hd ((shelfOf N d).1,(e:Int),(shelfOf N d).2) (by simp only;omega) d.Files.length 0 N acc (by omega) (by unfold Big at hN;omega) (by omega)
   rw[show((0:Nat):Int)=0 from rfl]at e1
   rw[e1,bO,w64_id (by omega) (by omega),show((shelfOf N d).1.Man.Segs.length:Int)-1=(((shelfOf N d).1.Man.Segs.length-1:Nat):Int) by omega,at_lt (by omega),bO,sname_spec N hN,bO,l03Text_ok N hN d (by omega),bO]
   split
   ·rename_i hlt
    simp only[DT]at hlt
    rw[stake_ok (by omega),bO,cat_le (by simp;omega)]
    exact⟨_,rfl⟩
   ·exact⟨_,rfl⟩
  rw[hc]at step⊢
  split
  ·rw[cat_le (by simp),bO]
   exact step _ (by simp)
  ·exact step _ (by simp)
 ·rw[IP (by simpa using hc)]
  refine⟨[],?_⟩
  have:(shelfOf N d).1=sh0:=by
   unfold shelfOf at hc⊢
   split
   ·rename_i h0
    rw[IP h0]at hc
    split
    ·rename_i h1
     rw[IP h1]at hc
     split
     ·rename_i h2
      rw[IP h2]at hc
      split
      ·rfl
      ·rename_i s sp h3
       rw[h3]at hc
       simp only at hc
       split
       ·rename_i h4
        rw[IP h4]at hc
        exact absurd rfl hc
       ·rfl
     ·rfl
    ·rfl
   ·rfl
  rw[this]
  rfl
theorem okSpot_all {l:List Spot}(h:dirOk l=true):l.length≤60∧∀x∈l,0≤x.At∧x.At≤20000∧0≤x.Size∧x.Size≤40:=by
 simp only[dirOk,Bool.and_eq_true,DT]at h
 refine⟨h.1,chain_all (fun o x hx=> ?_) h.2⟩
 simp only[okSpot,Bool.and_eq_true,DT]at hx
 obtain⟨h1,h2,h3,h4,h5⟩:=hx
 omega
theorem smap_loop (N:Nat)(hN:Big N)(d:Disk)(hd:diskOk d=true)(s:Shelf)(hs:dirOk s.Dir=true):∀(e k q:Nat)(acc:List Pair),s.Dir.length=k+e→e<q→acc.length≤k→
  ∃o,s_ShelfMap_l1 N d s q (k:Int) acc=some o∧i_ShelfMap_l1 N d s q (k:Int) acc=some o∧(o=.inl ([],false)∨∃r,o=.inr r∧r.length≤60):=by
 obtain⟨hl,ha⟩:=okSpot_all hs
 have hdl:=disk_len hd
 intro e
 induction e with
 |zero=>
  intro k q acc he hq hc
  obtain⟨q,rfl⟩:∃z,q=z+1:=⟨q-1,by omega⟩
  rw[s_ShelfMap_l1,i_ShelfMap_l1,IQ (by simp;omega),IQ (by simp;omega)]
  exact⟨_,rfl,rfl,.inr ⟨_,rfl,by omega⟩⟩
 |succ e ih=>
  intro k q acc he hq hc
  obtain⟨q,rfl⟩:∃z,q=z+1:=⟨q-1,by omega⟩
  have hk:k<s.Dir.length:=by omega
  obtain⟨g1,g2,g3,g4⟩:=ha _ (List.getElem_mem hk)
  have hz:=ftext_size hd (sname s.Dir[k].Seg)
  obtain⟨a,ea⟩:∃a:Nat,s.Dir[k].At=a:=⟨s.Dir[k].At.toNat,by omega⟩
  obtain⟨b,eb⟩:∃b:Nat,s.Dir[k].Size=b:=⟨s.Dir[k].Size.toNat,by omega⟩
  rw[s_ShelfMap_l1,i_ShelfMap_l1,IP (by simp;omega),IP (by simp;omega),at_lt hk,bO,bO,sname_spec N hN,sname_impl N hN,bO,bO,l03Text_ok N hN d (by omega),fileAt_impl N hN d hd,bO,bO,fileR_text,show(fileAt d (sname s.Dir[k].Seg)).getD ⟨#[]⟩=ftext d (sname s.Dir[k].Seg)from rfl,ea,eb,w64_nat (by omega),WS (by omega)]
  by_cases h:a+b≤(ftext d (sname s.Dir[k].Seg)).size
  ·rw[IQ (by simp;omega),IQ (by simp;omega),scut_ok (by omega) h,bO,bO,cat_le (by simp;omega),bO,bO]
   exact ih (k+1) q _ (by omega) (by omega) (by simp;omega)
  ·rw[IP (by simp;omega),IP (by simp;omega)]
   exact⟨_,rfl,rfl,.inl rfl⟩
theorem smap_same (N:Nat)(hN:Big N)(d:Disk)(hl:d.Files.length≤1099511627)(s:Shelf)(hs:s.Dir.length≤1099511627):∃r,s_ShelfMap N d s=some r∧i_ShelfMap N d s=some r∧r.1.length≤60:=by
 unfold s_ShelfMap i_ShelfMap
 rw[diskOk_spec N hN d hl,diskOk_impl N hN d hl,bO,bO,dirOk_spec N hN _ hs,dirOk_impl N hN _ hs,bO,bO]
 cases hd:diskOk d with
 |false=>exact⟨_,rfl,rfl,by decide⟩
 |true=>
  cases hr:dirOk s.Dir with
  |false=>exact⟨_,rfl,rfl,by decide⟩
  |true=>
   have hll:=(okSpot_all hr).1
   obtain⟨o,e1,e2,e3⟩:=smap_loop N hN d hd s hr s.Dir.length 0 N [] (by omega) (by unfold Big at hN;omega) (by simp)
   rw[show((0:Nat):Int)=0 from rfl]at e1 e2
   rw[IQ (by decide),IQ (by decide),IQ (by decide),IQ (by decide)]
   simp only[joinP]
   rw[e1,e2]
   rcases e3 with rfl|⟨r,rfl,e4⟩
   ·exact⟨_,rfl,rfl,by decide⟩
   ·exact⟨_,rfl,rfl,e4⟩
theorem eqp_same (N:Nat)(a b:List Pair×Bool):∀(m:Nat)(i:Int),s_Folded_l1 N a b m i=L_Equal_Pair_l1 N a.1 b.1 m i
 |0,i=>rfl
 |m+1,i=>by
  rw[s_Folded_l1,L_Equal_Pair_l1]
  simp only[eqp_same N a b m]
theorem eqp_tot (N:Nat)(a b:List Pair)(h:a.length=b.length)(hl:a.length≤1000000):∀(e k q:Nat),a.length=k+e→e<q→∃o,L_Equal_Pair_l1 N a b q (k:Int)=some o:=by
 intro e
 induction e with
 |zero=>
  intro k q he hq
  obtain⟨q,rfl⟩:∃z,q=z+1:=⟨q-1,by omega⟩
  rw[L_Equal_Pair_l1,IQ (by simp;omega)]
  exact⟨_,rfl⟩
 |succ e ih=>
  intro k q he hq
  obtain⟨q,rfl⟩:∃z,q=z+1:=⟨q-1,by omega⟩
  rw[L_Equal_Pair_l1,IP (by simp;omega),at_lt (by omega),at_lt (by omega),bO,bO]
  split
  ·exact⟨_,rfl⟩
  ·rw[WS (by omega)];exact ih (k+1) q (by omega) (by omega)
theorem dirOf_len (N:Nat)(hN:Big N)(d:Disk):(shelfOf N d).1.Dir.length≤60:=by
 unfold shelfOf
 split
 ·split
  ·split
   ·split
    ·exact Nat.zero_le _
    ·split
     ·rename_i h;exact(okSpot_all h).1
     ·exact Nat.zero_le _
   ·exact Nat.zero_le _
  ·exact Nat.zero_le _
 ·exact Nat.zero_le _
theorem folded_same (N:Nat)(hN:Big N)(w:World)(n:Int)(h1:w.Servers.length≤1048576)(h2:∀s∈w.Servers,s.Disk.Files.length≤1048576)(h3:w.Applied.length≤1048576)(h4:∀y∈w.Applied,y.Entry.Data.size≤1099511627):∃b,s_Folded N w n=some b∧i_Folded N w n=some b:=by
 unfold s_Folded i_Folded
 rw[in_eq,within_eq,bO,bO]
 by_cases hn:1≤n∧n≤(w.Servers.length:Int)
 case neg=>rw[DF hn];exact⟨_,rfl,rfl⟩
 rw[DE hn,IQ (by decide),IQ (by decide),w64_id (by omega) (by omega),show n-1=(((n-1).toNat:Nat):Int) by omega,at_lt (by omega),bO,bO]
 have hd:=h2 _ (List.getElem_mem (l:=w.Servers) (n:=(n-1).toNat) (by omega))
 generalize w.Servers[(n-1).toNat]=sv at hd
 obtain⟨ra,ea⟩:=open_spec N hN sv.Disk (by omega)
 obtain⟨rb,eb⟩:=open_impl N hN sv.Disk (by omega)
 rw[ea,eb,bO,bO]
 by_cases hc:(shelfOf N sv.Disk).2=0
 case neg=>rw[IP (by simpa using hc),IP (by simpa using hc)];exact⟨_,rfl,rfl⟩
 rw[IQ (by simp[hc]),IQ (by simp[hc])]
 have hdl:=dirOf_len N hN sv.Disk
 obtain⟨⟨m,mk⟩,e1,e2,e3⟩:=smap_same N hN sv.Disk (by omega) (shelfOf N sv.Disk).1 (by omega)
 obtain⟨⟨f,fk⟩,f1,f2,f3⟩:=fold_same N hN w.Applied (by omega) h4 (shelfOf N sv.Disk).1.Stamp
 simp only at e3 f3
 rw[e1,e2,bO,bO,f1,f2,bO,bO]
 cases mk with
 |false=>exact⟨_,rfl,rfl⟩
 |true=>
  cases fk with
  |false=>exact⟨_,rfl,rfl⟩
  |true=>
   unfold L_Equal_Pair
   simp only[joinP,eqp_same]
   by_cases hl:m.length=f.length
   ·obtain⟨o,eo⟩:=eqp_tot N m f hl (by omega) m.length 0 N (by omega) (by unfold Big at hN;omega)
    rw[show((0:Nat):Int)=0 from rfl]at eo
    have hne:((m.length:Int)!=(f.length:Int))=false:=by simp[hl]
    simp only[hne,eo,bO]
    cases o<;>exact⟨_,rfl,rfl⟩
   ·have hne:((m.length:Int)!=(f.length:Int))=true:=by simp;omega
    simp only[hne]
    exact⟨_,rfl,rfl⟩
theorem all_loop (b:Nat→Bool)(n:Nat)(f:Nat→Int→Option (Bool⊕Unit))(hs:∀m k,k<n→f (m+1) (k:Int)=if b k=true then some (.inl false)else f m ((k+1:Nat):Int))(he:∀m,f (m+1) (n:Int)=some (.inr ())):∀(d k m:Nat),n=k+d→d<m→f m (k:Int)=some (oks ((List.range' k d).all fun q=> !b q)):=by
 intro d
 induction d with
 |zero=>
  intro k m hd hm
  obtain⟨m,rfl⟩:∃q,m=q+1:=⟨m-1,by omega⟩
  rw[show k=n by omega,he]
  rfl
 |succ d ih=>
  intro k m hd hm
  obtain⟨m,rfl⟩:∃q,m=q+1:=⟨m-1,by omega⟩
  rw[hs m k (by omega),List.range'_succ,List.all_cons]
  cases b k with
  |true=>rfl
  |false=>rw[IQ (by decide),ih (k+1) m (by omega) (by omega)];rfl
theorem all_start (b:Nat→Bool){n N:Nat}(hN:n<N)(f:Nat→Int→Option (Bool⊕Unit))(hs:∀m k,k<n→f (m+1) (k:Int)=if b k=true then some (.inl false)else f m ((k+1:Nat):Int))(he:∀m,f (m+1) (n:Int)=some (.inr ())):f N 0=some (oks ((List.range' 0 n).all fun q=> !b q)):=all_loop b n f hs he n 0 N (by omega) hN
theorem ix_loop (b:Nat→Bool)(n:Nat)(f:Nat→Int→Option (Int⊕Unit))(hs:∀m k,k<n→f (m+1) (k:Int)=if b k=true then some (.inl (k:Int))else f m ((k+1:Nat):Int))(he:∀m,f (m+1) (n:Int)=some (.inr ())):∀(d k m:Nat),n=k+d→d<m→∃o,f m (k:Int)=some o∧match o with
  |.inl v=>0≤v∧((List.range' k d).all fun q=> !b q)=false
  |.inr _=>((List.range' k d).all fun q=> !b q)=true:=by
 intro d
 induction d with
 |zero=>
  intro k m hd hm
  obtain⟨m,rfl⟩:∃q,m=q+1:=⟨m-1,by omega⟩
  rw[show k=n by omega,he]
  exact⟨_,rfl,rfl⟩
 |succ d ih=>
  intro k m hd hm
  obtain⟨m,rfl⟩:∃q,m=q+1:=⟨m-1,by omega⟩
  rw[hs m k (by omega),List.range'_succ,List.all_cons]
  cases b k with
  |true=>exact⟨_,rfl,by omega,rfl⟩
  |false=>
   obtain⟨o,e1,e2⟩:=ih (k+1) m (by omega) (by omega)
   rw[IQ (by decide),e1]
   exact⟨o,rfl,by simpa using e2⟩
theorem ix_start (b:Nat→Bool){n N:Nat}(hN:n<N)(f:Nat→Int→Option (Int⊕Unit))(hs:∀m k,k<n→f (m+1) (k:Int)=if b k=true then some (.inl (k:Int))else f m ((k+1:Nat):Int))(he:∀m,f (m+1) (n:Int)=some (.inr ())):(((f N 0).bind (Sum.elim (fun v=>some v) (fun _=>some (-1:Int)))).bind fun y=>some (decide (y≥0)))=some (!((List.range' 0 n).all fun q=> !b q)):=by
 obtain⟨o,e1,e2⟩:=ix_loop b n f hs he n 0 N (by omega) hN
 rw[show((0:Nat):Int)=0 from rfl]at e1
 rw[e1,bO]
 cases o with
 |inl v=>rw[e2.2,Sum.elim_inl,bO,DE e2.1];rfl
 |inr u=>rw[e2,Sum.elim_inr,bO];rfl
def ce {α:Type}(xs:List α)(cl:α→α→Bool)(k q:Nat):Bool:=match xs[k]?,xs[q]? with
 |some a,some b=>cl a b
 |_,_=>false
theorem ce_eq {α:Type}{xs:List α}{cl:α→α→Bool}{k q:Nat}(hk:k<xs.length)(hq:q<xs.length):ce xs cl k q=cl xs[k] xs[q]:=by
 unfold ce
 rw[List.getElem?_eq_getElem hk,List.getElem?_eq_getElem hq]
def pairs {α:Type}(cl:α→α→Bool)(xs:List α):Bool:=(List.range' 0 xs.length).all fun k=> !!((List.range' 0 k).all fun q=> !ce xs cl k q)
theorem take_okN {α:Type}{xs:List α}{k:Nat}(h:k≤xs.length):take? xs (k:Int)=some (xs.take k):=by
 unfold take?
 rw[IP ⟨by omega,by omega⟩]
 rfl
theorem pairs_spec {α:Type}(cl:α→α→Bool)(xs:List α){N:Nat}(hN:xs.length<N)(F:Nat→Int→Option (Bool⊕Unit))(G:Int→Nat→Int→Option (Bool⊕Unit))
  (h1:∀m k,k<xs.length→F (m+1) (k:Int)=(G (k:Int) N 0).bind (Sum.elim (fun v=>some (.inl v)) (fun _=>F m ((k+1:Nat):Int)))) (h2:∀m,F (m+1) (xs.length:Int)=some (.inr ()))
  (h3:∀k m q (hk:k<xs.length) (hq:q<k),G (k:Int) (m+1) (q:Int)=if cl xs[k] (xs[q]'(by omega))=true then some (.inl false)else G (k:Int) m ((q+1:Nat):Int)) (h4:∀k m,G (k:Int) (m+1) (k:Int)=some (.inr ())):
  (F N 0).bind (Sum.elim (fun v=>some v) (fun _=>some true))=some (pairs cl xs):=by
 rw[all_start (fun k=> !((List.range' 0 k).all fun q=> !ce xs cl k q)) hN F (fun m k hk=> ?_) h2,bO]
 ·unfold pairs
  cases(List.range' 0 xs.length).all fun k=> !!((List.range' 0 k).all fun q=> !ce xs cl k q)<;>rfl
 ·rw[h1 m k hk,all_start (ce xs cl k) (n:=k) (by omega) (G k) (fun m q hq=>by rw[h3 k m q hk hq,ce_eq hk (by omega)]) (h4 k),bO]
  cases(List.range' 0 k).all fun q=> !ce xs cl k q<;>rfl
theorem pairs_impl {α:Type}(cl:α→α→Bool)(xs:List α){N:Nat}(hN:xs.length<N)(F:Nat→Int→Option (Bool⊕Unit))
  (h1:∀m k (hk:k<xs.length),F (m+1) (k:Int)=if(!((List.range' 0 k).all fun q=> !ce xs cl k q))=true then some (.inl false)else F m ((k+1:Nat):Int)) (h2:∀m,F (m+1) (xs.length:Int)=some (.inr ())):
  (F N 0).bind (Sum.elim (fun v=>some v) (fun _=>some true))=some (pairs cl xs):=by
 rw[all_start (fun k=> !((List.range' 0 k).all fun q=> !ce xs cl k q)) hN F h1 h2,bO]
 unfold pairs
 cases(List.range' 0 xs.length).all fun k=> !!((List.range' 0 k).all fun q=> !ce xs cl k q)<;>rfl
theorem ce_take {α:Type}{xs:List α}{cl:α→α→Bool}{k q:Nat}(hk:k<xs.length)(hq:q<(xs.take k).length):ce xs cl k q=cl xs[k] (xs.take k)[q]:=by
 rw[List.length_take]at hq
 rw[ce_eq hk (by omega),List.getElem_take]
theorem tk_len {α:Type}{xs:List α}{k:Nat}(hk:k<xs.length):(xs.take k).length=k:=by rw[List.length_take];omega
def clL (a b:Leader):Bool:=(a.Term==b.Term)&&(a.Node !=b.Node)
theorem clL_eq (N:Nat)(a b:Leader):i_OneLeader_1 N b a=some (clL a b):=by
 unfold i_OneLeader_1 clL
 by_cases h:(a.Term==b.Term)=true
 ·rw[IP h,h,Bool.true_and]
 ·rw[IQ h,Bool.eq_false_iff.2 h,Bool.false_and]
theorem one_same (N:Nat)(hN:Big N)(xs:List Leader)(hl:xs.length≤1048576):s_OneLeader N xs=some (pairs clL xs)∧i_OneLeader N xs=some (pairs clL xs):=by
 constructor
 ·refine pairs_spec clL xs (by omega) (s_OneLeader_l1 N xs) (s_OneLeader_l2 N xs) (fun m k hk=> ?_) (fun m=> ?_) (fun k m q hk hq=> ?_) (fun k m=> ?_)
  ·rw[s_OneLeader_l1,IP (by simpa using hk),WS (by omega)];rfl
  ·rw[s_OneLeader_l1,IQ (by simp)]
  ·rw[s_OneLeader_l2,IP (by simpa using hq),WS (by omega)]
   simp only[joinP,at_lt hk,at_lt (show q<xs.length by omega),bO,clL]
   by_cases a1:(xs[k].Term==xs[q].Term)=true<;>by_cases a2:(xs[k].Node !=xs[q].Node)=true<;>simp[a1,a2]
  ·rw[s_OneLeader_l2,IQ (by simp)]
 ·refine pairs_impl clL xs (by omega) (i_OneLeader_l1 N xs) (fun m k hk=> ?_) (fun m=> ?_)
  ·have:=ix_start (ce xs clL k) (n:=(xs.take k).length) (N:=N) (by rw[tk_len hk];omega) (L_IF_Leader_l1 N (xs.take k) xs[k]) (fun m q hq=>by
    rw[L_IF_Leader_l1,IP (by simpa using hq),at_lt hq,bO,WS (by rw[tk_len hk]at hq;omega),ce_take hk hq]
    rw[clL_eq,bO]) (fun m=>by rw[L_IF_Leader_l1,IQ (by simp)])
   rw[tk_len hk]at this
   rw[i_OneLeader_l1,IP (by simpa using hk),at_lt hk,bO,take_okN (by omega),bO,show L_CF_Leader N (xs.take k) xs[k]=_ from this,bO,WS (by omega)]
  ·rw[i_OneLeader_l1,IQ (by simp)]
def sameE2 (a b:Entry):Bool:=((a.Term==b.Term)&&((a.Kind==b.Kind)&&(decide (a.Data=b.Data)&&true))) ^^ true
def clA (a b:Applied):Bool:=(a.Index==b.Index)&&sameE2 a.Entry b.Entry
theorem clA_eq (N:Nat)(a b:Applied):i_SameApplied_1 N b a=some (clA a b):=by
 unfold i_SameApplied_1 clA
 by_cases h:(a.Index==b.Index)=true
 ·rw[IP h,h,Bool.true_and];rfl
 ·rw[IQ h,Bool.eq_false_iff.2 h,Bool.false_and]
theorem app_same (N:Nat)(hN:Big N)(xs:List Applied)(hl:xs.length≤1048576):s_SameApplied N xs=some (pairs clA xs)∧i_SameApplied N xs=some (pairs clA xs):=by
 constructor
 ·refine pairs_spec clA xs (by omega) (s_SameApplied_l1 N xs) (s_SameApplied_l2 N xs) (fun m k hk=> ?_) (fun m=> ?_) (fun k m q hk hq=> ?_) (fun k m=> ?_)
  ·rw[s_SameApplied_l1,IP (by simpa using hk),WS (by omega)];rfl
  ·rw[s_SameApplied_l1,IQ (by simp)]
  ·rw[s_SameApplied_l2,IP (by simpa using hq),WS (by omega)]
   simp only[joinP,at_lt hk,at_lt (show q<xs.length by omega),bO,clA]
   rw[show(((xs[k].Entry.Term==xs[q].Entry.Term)&&((xs[k].Entry.Kind==xs[q].Entry.Kind)&&(decide (xs[k].Entry.Data=xs[q].Entry.Data)&&true))) ^^ true)=sameE2 xs[k].Entry xs[q].Entry from rfl]
   by_cases a1:(xs[k].Index==xs[q].Index)=true<;>by_cases a2:sameE2 xs[k].Entry xs[q].Entry=true<;>simp[a1,a2]
  ·rw[s_SameApplied_l2,IQ (by simp)]
 ·refine pairs_impl clA xs (by omega) (i_SameApplied_l1 N xs) (fun m k hk=> ?_) (fun m=> ?_)
  ·have:=ix_start (ce xs clA k) (n:=(xs.take k).length) (N:=N) (by rw[tk_len hk];omega) (L_IF_Applied_l1 N (xs.take k) xs[k]) (fun m q hq=>by
    rw[L_IF_Applied_l1,IP (by simpa using hq),at_lt hq,bO,WS (by rw[tk_len hk]at hq;omega),ce_take hk hq]
    rw[clA_eq,bO]) (fun m=>by rw[L_IF_Applied_l1,IQ (by simp)])
   rw[tk_len hk]at this
   rw[i_SameApplied_l1,IP (by simpa using hk),at_lt hk,bO,take_okN (by omega),bO,show L_CF_Applied N (xs.take k) xs[k]=_ from this,bO,WS (by omega)]
  ·rw[i_SameApplied_l1,IQ (by simp)]
def resu (t:BA):Bool:=(!decide (t=(⟨#[101,120,112,105,114,101,100]⟩:BA)))&&((!decide (t=(⟨#[115,116,97,108,101]⟩:BA)))&&(!decide (t=(⟨#[103,97,112]⟩:BA))))
def cnt (x:Reply):Bool:=decide (x.Command.Session>0)&&resu x.Text
def clR (a b:Reply):Bool:=cnt a&&(cnt b&&((a.Command.Session==b.Command.Session)&&((a.Command.Seq==b.Command.Seq)&&(!decide (a.Text=b.Text)))))
theorem resu_eq (N:Nat)(t:BA):s_l19Result N t=some (resu t):=by
 unfold s_l19Result resu
 by_cases a1:(!decide (t=(⟨#[101,120,112,105,114,101,100]⟩:BA)))=true<;>by_cases a2:(!decide (t=(⟨#[115,116,97,108,101]⟩:BA)))=true<;>simp[a1,a2]
theorem cnt_eq (N:Nat)(x:Reply):i_counts N x=some (cnt x):=by
 unfold i_counts cnt resu
 by_cases a0:x.Command.Session>0<;>by_cases a1:(!decide (x.Text=(⟨#[101,120,112,105,114,101,100]⟩:BA)))=true<;>by_cases a2:(!decide (x.Text=(⟨#[115,116,97,108,101]⟩:BA)))=true<;>simp[a0,a1,a2]
theorem clR_eq (N:Nat)(a b:Reply)(ha:cnt a=true):i_Once_1 N b a=some (clR a b):=by
 unfold i_Once_1 clR
 rw[cnt_eq,bO,ha]
 by_cases a1:cnt b=true<;>by_cases a2:a.Command.Session=b.Command.Session<;>by_cases a3:a.Command.Seq=b.Command.Seq<;>by_cases a4:a.Text=b.Text<;>simp[a1,a2,a3,a4]
theorem once_same (N:Nat)(hN:Big N)(xs:List Reply)(hl:xs.length≤1048576):s_Once N xs=some (pairs clR xs)∧i_Once N xs=some (pairs clR xs):=by
 constructor
 ·refine pairs_spec clR xs (by omega) (s_Once_l1 N xs) (s_Once_l2 N xs) (fun m k hk=> ?_) (fun m=> ?_) (fun k m q hk hq=> ?_) (fun k m=> ?_)
  ·rw[s_Once_l1,IP (by simpa using hk),WS (by omega)];rfl
  ·rw[s_Once_l1,IQ (by simp)]
  ·rw[s_Once_l2,IP (by simpa using hq),WS (by omega)]
   simp only[joinP,at_lt hk,at_lt (show q<xs.length by omega),bO,resu_eq,clR,cnt]
   by_cases a0:xs[k].Command.Session>0
   ·by_cases a1:xs[k].Command.Session=xs[q].Command.Session
    ·have a2:xs[q].Command.Session>0:=by omega
     by_cases a3:xs[k].Command.Seq=xs[q].Command.Seq<;>by_cases a4:resu xs[k].Text=true<;>by_cases a5:resu xs[q].Text=true<;>by_cases a6:xs[k].Text=xs[q].Text<;>simp[a0,a1,a2,a3,a4,a5,a6]
    ·simp[a0,a1]
   ·simp[a0]
  ·rw[s_Once_l2,IQ (by simp)]
 ·refine pairs_impl clR xs (by omega) (i_Once_l1 N xs) (fun m k hk=> ?_) (fun m=> ?_)
  ·rw[i_Once_l1,IP (by simpa using hk),at_lt hk,bO,cnt_eq,bO,WS (by omega)]
   by_cases hc:cnt xs[k]=true
   ·have:=ix_start (ce xs clR k) (n:=(xs.take k).length) (N:=N) (by rw[tk_len hk];omega) (L_IF_Reply_l1 N (xs.take k) xs[k]) (fun m q hq=>by
     rw[L_IF_Reply_l1,IP (by simpa using hq),at_lt hq,bO,WS (by rw[tk_len hk]at hq;omega),ce_take hk hq]
     rw[clR_eq N _ _ hc,bO]) (fun m=>by rw[L_IF_Reply_l1,IQ (by simp)])
    rw[tk_len hk]at this
    rw[IQ (by simp[hc]),take_okN (by omega),bO,show L_CF_Reply N (xs.take k) xs[k]=_ from this,bO]
   ·have hz:((List.range' 0 k).all fun q=> !ce xs clR k q)=true:=by
     refine List.all_eq_true.2 fun q hq=> ?_
     have hq':q<k:=by have:=List.mem_range'_1.1 hq;omega
     rw[ce_eq hk (by omega)]
     simp[clR,hc]
    rw[IP (by simp[hc]),hz,IQ (by decide)]
  ·rw[i_Once_l1,IQ (by simp)]
theorem whole_same (N:Nat)(hN:Big N)(xs:List Leader)(a:Applied)(hl:xs.length≤1048576)(hx:∀x∈xs,totLeader x≤1099511627)(ha:WI .i64 a.Index):∃b,s_Whole N xs a=some b∧i_Whole N xs a=some b:=by
 refine⟨(List.range' 0 xs.length).all fun q=> !((xs[q]?.map (lacks a)).getD false),?_,?_⟩
 ·unfold s_Whole
  simp only[joinP]
  rw[all_start (fun q=>(xs[q]?.map (lacks a)).getD false) (n:=xs.length) (by unfold Big at hN;omega) (s_Whole_l1 N xs a) (fun m k hk=> ?_) (fun m=>by rw[s_Whole_l1,IQ (by simp)]),bO]
  ·cases(List.range' 0 xs.length).all fun q=> !((xs[q]?.map (lacks a)).getD false)<;>rfl
  ·have ht:=hx _ (List.getElem_mem hk)
   have ht2:totLog xs[k].Log≤1099511627:=by simp only[totLeader]at ht;omega
   rw[s_Whole_l1,IP (by simpa using hk),WS (by omega),List.getElem?_eq_getElem hk]
   simp only[joinP,at_lt hk,bO,Option.map_some,Option.getD_some]
   rw[entryAt_spec N hN _ _ ht2 ha,bO]
   unfold lacks
   rw[show(((entryAt xs[k].Log a.Index).1.Term==a.Entry.Term)&&(((entryAt xs[k].Log a.Index).1.Kind==a.Entry.Kind)&&(decide ((entryAt xs[k].Log a.Index).1.Data=a.Entry.Data)&&true)) ^^ true)=sameE (entryAt xs[k].Log a.Index).1 a.Entry from rfl]
   by_cases a1:xs[k].Term≤a.Term
   ·have:¬xs[k].Term>a.Term:=by omega
    simp[a1,this]
   ·have b1:xs[k].Term>a.Term:=by omega
    by_cases a2:xs[k].Log.Start≥a.Index
    ·have:¬xs[k].Log.Start<a.Index:=by omega
     simp[a1,a2,b1,this]
    ·have b2:xs[k].Log.Start<a.Index:=by omega
     by_cases a3:(entryAt xs[k].Log a.Index).2=true<;>by_cases a4:sameE (entryAt xs[k].Log a.Index).1 a.Entry=true<;>simp[a1,a2,b1,b2,a3,a4]
 ·have:=ix_start (fun q=>(xs[q]?.map (lacks a)).getD false) (n:=xs.length) (N:=N) (by unfold Big at hN;omega) (L_IF_Leader_i1_l1 N xs a) (fun m k hk=>by
   rw[L_IF_Leader_i1_l1,IP (by simpa using hk),at_lt hk,bO,WS (by omega),lacks_impl N hN a _ (hx _ (List.getElem_mem hk)) ha,bO,List.getElem?_eq_getElem hk]
   rfl) (fun m=>by rw[L_IF_Leader_i1_l1,IQ (by simp)])
  unfold i_Whole
  rw[show L_CF_Leader_i1 N xs a=_ from this,bO,Bool.not_not]
theorem ok_loop (g:Nat→Bool)(n:Nat)(f:Nat→Bool→Int→Option Bool)(hs:∀m v k,k<n→f (m+1) v (k:Int)=if v=true then f m (g k) ((k+1:Nat):Int)else some v)(he:∀m v,f (m+1) v (n:Int)=some v):∀(d k m:Nat)(v:Bool),n=k+d→d<m→f m v (k:Int)=some (v&&(List.range' k d).all g):=by
 intro d
 induction d with
 |zero=>
  intro k m v hd hm
  obtain⟨m,rfl⟩:∃q,m=q+1:=⟨m-1,by omega⟩
  rw[show k=n by omega,he]
  simp
 |succ d ih=>
  intro k m v hd hm
  obtain⟨m,rfl⟩:∃q,m=q+1:=⟨m-1,by omega⟩
  rw[hs m v k (by omega),List.range'_succ,List.all_cons]
  cases v with
  |false=>rfl
  |true=>rw[IP rfl,ih (k+1) m _ (by omega) (by omega)];rfl
theorem sound_same (N:Nat)(hN:Big N)(w:World)(h1:w.Servers.length≤1048576)(h2:∀s∈w.Servers,s.Disk.Files.length≤1048576)(h3:w.Applied.length≤1048576)(h4:∀y∈w.Applied,y.Entry.Data.size≤1099511627)(h5:w.Leaders.length≤1048576)(h6:∀x∈w.Leaders,totLeader x≤1099511627)(h7:w.Replies.length≤1048576)(h8:∀y∈w.Applied,WI .i64 y.Index):∃b,s_Sound N w=some b∧i_Sound N w=some b:=by
 obtain⟨a1,a2⟩:=one_same N hN w.Leaders h5
 obtain⟨b1,b2⟩:=app_same N hN w.Applied h3
 obtain⟨c1,c2⟩:=once_same N hN w.Replies h7
 obtain⟨wh,hw⟩:∃wh:Nat→Bool,∀k (hk:k<w.Applied.length),s_Whole N w.Leaders w.Applied[k]=some (wh k)∧i_Whole N w.Leaders w.Applied[k]=some (wh k):=by
  refine⟨fun k=>((w.Applied[k]?).bind (s_Whole N w.Leaders)).getD false,fun k hk=> ?_⟩
  obtain⟨b,e1,e2⟩:=whole_same N hN w.Leaders w.Applied[k] h5 h6 (h8 _ (List.getElem_mem hk))
  dsimp only
  rw[List.getElem?_eq_getElem hk,bO,e1,e2]
  exact⟨rfl,rfl⟩
 obtain⟨fo,hf⟩:∃fo:Nat→Bool,∀k:Nat,s_Folded N w (k:Int)=some (fo k)∧i_Folded N w (k:Int)=some (fo k):=by
  refine⟨fun k=>(s_Folded N w (k:Int)).getD false,fun k=> ?_⟩
  obtain⟨b,e1,e2⟩:=folded_same N hN w (k:Int) h1 h2 h3 h4
  dsimp only
  rw[e1,e2]
  exact⟨rfl,rfl⟩
 have s1:=fun v=>ok_loop wh w.Applied.length (s_Sound_l1 N w) (fun m v k hk=>by
  rw[s_Sound_l1,IP (by simpa using hk),at_lt hk,bO,(hw k hk).1,bO,WS (by omega)]) (fun m v=>by rw[s_Sound_l1,IQ (by simp)]) w.Applied.length 0 N v (by omega) (by unfold Big at hN;omega)
 have s2:=fun v=>ok_loop (fun k=>fo (k+1)) w.Servers.length (s_Sound_l2 N w) (fun m v k hk=>by
  rw[s_Sound_l2,IP (by simpa using hk),WS (by omega),(hf (k+1)).1,bO]) (fun m v=>by rw[s_Sound_l2,IQ (by simp)]) w.Servers.length 0 N v (by omega) (by unfold Big at hN;omega)
 have i1:=all_start (fun k=> !wh k) (n:=w.Applied.length) (N:=N) (by unfold Big at hN;omega) (i_Sound_l1 N w) (fun m k hk=>by
  rw[i_Sound_l1,IP (by simpa using hk),at_lt hk,bO,(hw k hk).2,bO,WS (by omega)]) (fun m=>by rw[i_Sound_l1,IQ (by simp)])
 have i2:=all_start (fun k=> !fo (k+1)) (n:=w.Servers.length) (N:=N) (by unfold Big at hN;omega) (i_Sound_l2 N w) (fun m k hk=>by
  rw[i_Sound_l2,IP (by simpa using hk),WS (by omega),(hf (k+1)).2,bO]) (fun m=>by rw[i_Sound_l2,IQ (by simp)])
 simp only[Bool.not_not]at i1 i2
 rw[show((0:Nat):Int)=0 from rfl]at s1 s2
 unfold s_Sound i_Sound
 simp only[joinP,a1,a2,b1,b2,c1,c2,s1,s2,i1,i2,bO]
 generalize pairs clL w.Leaders=x1
 generalize pairs clA w.Applied=x2
 generalize pairs clR w.Replies=x3
 generalize ((List.range' 0 w.Applied.length).all fun q=>wh q)=x4
 generalize ((List.range' 0 w.Servers.length).all fun q=>fo (q+1))=x5
 cases x1<;>cases x2<;>cases x3<;>cases x4<;>cases x5<;>exact⟨_,rfl,rfl⟩
theorem holds (x0:World)(w0:wfWorld x0):∃N,w_FnExactSound N x0=some true:=by
 refine⟨1099511627777,?_⟩
 generalize hM:1099511627777=M
 have hN:Big M:=by unfold Big;omega
 clear hM
 unfold w_FnExactSound
 rw[sz_World M x0 1048576 (by decide) (by decide) w0 hN,bO]
 by_cases h:(totWorld x0:Int)≤1048576
 ·rw[IP h,IQ (by simp;omega)]
  have ht:totWorld x0≤1048576:=by omega
  have b1:=to_World M x0 (by omega) hN
  have b3:=eq_World M x0 (by omega) hN
  simp only[totWorld]at ht
  have t1:totL totServer x0.Servers≤1048576:=by omega
  have t2:totL totApplied x0.Applied≤1048576:=by omega
  have t3:totL totLeader x0.Leaders≤1048576:=by omega
  have t4:totL totReply x0.Replies≤1048576:=by omega
  simp only[totL]at t1 t2 t3 t4
  obtain⟨b,e1,e2⟩:=sound_same M hN x0 (by omega) (fun s hs=>by
   have h1:=le_sum (f:=totServer) hs
   have h2:totDisk s.Disk≤totServer s:=by simp only[totServer];omega
   simp only[totDisk,totL]at h2
   omega) (by omega) (fun y hy=>by
   have h1:=le_sum (f:=totApplied) hy
   have h2:totApplied y=y.Entry.Data.size:=rfl
   omega) (by omega) (fun x hx=>by
   have h1:=le_sum (f:=totLeader) hx
   omega) (by omega) (fun y hy=>(w0.2.2.2.2.2.1.2 y hy).2.2.1)
  simp only[b1,e1,e2,b3,bO]
  cases b<;>rfl
 ·rw[IQ h,IP (by decide)]
end Go.Proofs.YthfjkhlgkjgkjaaGreatDoor.Pe.FnExactSound
