import Derived.Test.YtmcbbifeekhmgaaGreatDoorPeEnd
namespace Go.Proofs.YtmcbbifeekhmgaaGreatDoor.Pe
open Go Go.RowKit
def nN (n:Nat):Option Nat:=match n with
 |0=>some 0
 |k+1=>some (Nat.succ k)
theorem nN_eq {n m:Nat}(h:nN n=some m):m=n:=by
 cases n<;>simp only[nN,Option.some.injEq]at h<;>exact h.symm
def nB (b:Bool):Option Bool:=match b with
 |true=>some true
 |false=>some false
theorem nB_eq {n m:Bool}(h:nB n=some m):m=n:=by
 cases n<;>simp only[nB,Option.some.injEq]at h<;>exact h.symm
def nL {α:Type}(f:α->Option α):List α->Option (List α)
 |[]=>some []
 |x::xs=>match f x,nL f xs with
  |some y,some ys=>some (y::ys)
  |_,_=>none
theorem nL_eq {α:Type}{f:α->Option α}(hf:∀{x y},f x=some y->y=x):∀{l m:List α},nL f l=some m->m=l
 |[],m,h=>by simp only[nL,Option.some.injEq]at h;exact h.symm
 |x::xs,m,h=>by
  simp only[nL]at h
  split at h<;>simp only[Option.some.injEq,reduceCtorEq]at h
  rename_i y ys hy hys
  rw[<-h,hf hy,nL_eq hf hys]
def nC (c:C):Option C:=match c with
 |.row o e []=>match nN e with
  |some e=>some (.row o e [])
  |none=>none
 |c=>some c
theorem nC_eq {c d:C}(h:nC c=some d):d=c:=by
 unfold nC at h
 split at h
 ·split at h<;>simp only[Option.some.injEq,reduceCtorEq]at h
  rename_i e' he
  rw[<-h,nN_eq he]
 ·exact(Option.some.inj h).symm
def nP (p:Nat×Nat×A):Option (Nat×Nat×A):=match p with
 |(a,b,x)=>match nN a,nN b with
  |some a,some b=>some (a,b,x)
  |_,_=>none
theorem nP_eq {c d:Nat×Nat×A}(h:nP c=some d):d=c:=by
 unfold nP at h
 split at h
 split at h<;>simp only[Option.some.injEq,reduceCtorEq]at h
 rename_i a b ha hb
 rw[<-h,nN_eq ha,nN_eq hb]
def nO (o:O):Option O:=match o with
 |.al z=>match nL nC z with|some z=>some (.al z)|none=>none
 |.bd z ps=>match nL nC z,nL nP ps with|some z,some ps=>some (.bd z ps)|_,_=>none
 |.bs e n z ps=>match nN e,nN n,nL nC z,nL nP ps with|some e,some n,some z,some ps=>some (.bs e n z ps)|_,_,_,_=>none
 |.ld n ag x=>match nN n,nB ag with|some n,some ag=>some (.ld n ag x)|_,_=>none
 |.sto n x v=>match nN n with|some n=>some (.sto n x v)|none=>none
 |.eqs ne ks x y=>match nB ne,nL nN ks with|some ne,some ks=>some (.eqs ne ks x y)|_,_=>none
 |.ms e z l c=>match nN e,nL nC z with|some e,some z=>some (.ms e z l c)|_,_=>none
 |.fa n x=>match nN n with|some n=>some (.fa n x)|none=>none
 |.fd o n ag x=>match nN o,nN n,nB ag with|some o,some n,some ag=>some (.fd o n ag x)|_,_,_=>none
 |.ia e x i=>match nN e with|some e=>some (.ia e x i)|none=>none
 |.ap e x y=>match nN e with|some e=>some (.ap e x y)|none=>none
 |.clr e z x=>match nN e,nL nC z with|some e,some z=>some (.clr e z x)|_,_=>none
 |.apz e z x n=>match nN e,nL nC z with|some e,some z=>some (.apz e z x n)|_,_=>none
 |o=>some o
theorem nO_eq {c d:O}(h:nO c=some d):d=c:=by
 unfold nO at h
 split at h<;>try split at h
 all_goals simp only[Option.some.injEq,reduceCtorEq]at h
 all_goals rw[<-h]
 ·rename_i h1;rw[nL_eq nC_eq h1]
 ·rename_i h1 h2;rw[nL_eq nC_eq h1,nL_eq nP_eq h2]
 ·rename_i h1 h2 h3 h4;rw[nN_eq h1,nN_eq h2,nL_eq nC_eq h3,nL_eq nP_eq h4]
 ·rename_i h1 h2;rw[nN_eq h1,nB_eq h2]
 ·rename_i h1;rw[nN_eq h1]
 ·rename_i h1 h2;rw[nB_eq h1,nL_eq nN_eq h2]
 ·rename_i h1 h2;rw[nN_eq h1,nL_eq nC_eq h2]
 ·rename_i h1;rw[nN_eq h1]
 ·rename_i h1 h2 h3;rw[nN_eq h1,nN_eq h2,nB_eq h3]
 ·rename_i h1;rw[nN_eq h1]
 ·rename_i h1;rw[nN_eq h1]
 ·rename_i h1 h2;rw[nN_eq h1,nL_eq nC_eq h2]
 ·rename_i h1 h2;rw[nN_eq h1,nL_eq nC_eq h2]
def nD (d:Option Nat):Option (Option Nat):=match d with
 |none=>some none
 |some n=>some (some n)
theorem nD_eq {c d:Option Nat}(h:nD c=some d):d=c:=by
 cases c<;>simp only[nD,Option.some.injEq]at h<;>exact h.symm
def n1 (x:Op1):Option Op1:=match x with
 |⟨d,g,a,o⟩=>match nD d,nL nN a,nO o with
  |some d,some a,some o=>some ⟨d,g,a,o⟩
  |_,_,_=>none
theorem n1_eq {c d:Op1}(h:n1 c=some d):d=c:=by
 unfold n1 at h
 split at h
 split at h<;>simp only[Option.some.injEq,reduceCtorEq]at h
 rename_i h1 h2 h3
 rw[<-h,nD_eq h1,nL_eq nN_eq h2,nO_eq h3]
def nK:K->Option K
 |.skip=>some .skip
 |.ops s d l=>match nL n1 l with
  |some l=>some (.ops s d l)
  |none=>none
 |.seq a b=>match nK a,nK b with
  |some a,some b=>some (.seq a b)
  |_,_=>none
 |.cond c a b=>match nK a,nK b with
  |some a,some b=>some (.cond c a b)
  |_,_=>none
 |.block n a=>match nK a with
  |some a=>some (.block n a)
  |none=>none
 |.loop a=>match nK a with
  |some a=>some (.loop a)
  |none=>none
 |.exit n=>some (.exit n)
 |.ret=>some .ret
theorem nK_eq:∀{c d:K},nK c=some d->d=c
 |.skip,d,h=>by simp only[nK,Option.some.injEq]at h;exact h.symm
 |.exit n,d,h=>by simp only[nK,Option.some.injEq]at h;exact h.symm
 |.ret,d,h=>by simp only[nK,Option.some.injEq]at h;exact h.symm
 |.ops s q l,d,h=>by
  simp only[nK]at h
  split at h<;>simp only[Option.some.injEq,reduceCtorEq]at h
  rename_i h1
  rw[<-h,nL_eq n1_eq h1]
 |.seq a b,d,h=>by
  simp only[nK]at h
  split at h<;>simp only[Option.some.injEq,reduceCtorEq]at h
  rename_i h1 h2
  rw[<-h,nK_eq h1,nK_eq h2]
 |.cond c a b,d,h=>by
  simp only[nK]at h
  split at h<;>simp only[Option.some.injEq,reduceCtorEq]at h
  rename_i h1 h2
  rw[<-h,nK_eq h1,nK_eq h2]
 |.block n a,d,h=>by
  simp only[nK]at h
  split at h<;>simp only[Option.some.injEq,reduceCtorEq]at h
  rename_i h1
  rw[<-h,nK_eq h1]
 |.loop a,d,h=>by
  simp only[nK]at h
  split at h<;>simp only[Option.some.injEq,reduceCtorEq]at h
  rename_i h1
  rw[<-h,nK_eq h1]
def nR (p:Nat×Option (Nat×Bool)):Option (Nat×Option (Nat×Bool)):=match p with
 |(a,none)=>some (a,none)
 |(a,some (n,b))=>match nN n,nB b with
  |some n,some b=>some (a,some (n,b))
  |_,_=>none
theorem nR_eq {c d:Nat×Option (Nat×Bool)}(h:nR c=some d):d=c:=by
 unfold nR at h
 split at h
 ·exact(Option.some.inj h).symm
 ·split at h<;>simp only[Option.some.injEq,reduceCtorEq]at h
  rename_i h1 h2
  rw[<-h,nN_eq h1,nB_eq h2]
def nF (x:F):Option F:=match x with
 |⟨p,s,r,b⟩=>match nN p,nN s,nL nR r,nK b with
  |some p,some s,some r,some b=>some ⟨p,s,r,b⟩
  |_,_,_,_=>none
theorem nF_eq {c d:F}(h:nF c=some d):d=c:=by
 unfold nF at h
 split at h
 split at h<;>simp only[Option.some.injEq,reduceCtorEq]at h
 rename_i h1 h2 h3 h4
 rw[<-h,nN_eq h1,nN_eq h2,nL_eq nR_eq h3,nK_eq h4]
theorem Says.of_norm {P:Program}{f:Nat}{F:F}{vs:List V}{m:Nat}{σ σo:St}{vo:V}(hF:(fOf P f).bind nF=some F)(hen:∀args w,(callFunc f args).run P w=.ok (.enter f args) w)(hl:vs.length=F.params)
  (hrun:∀B:Begin,B.m=m->Run ⟨P,B,F.slots⟩ F.body (framed 0 vs) σ (Ends P B F vo σo)):Says P f vs m σ vo σo:=by
 cases h:fOf P f with
 |none=>rw[h]at hF;cases hF
 |some G=>
  rw[h]at hF
  have:=nF_eq (c:=G) hF
  subst this
  exact Says.of_run h hen hl hrun
end Go.Proofs.YtmcbbifeekhmgaaGreatDoor.Pe
