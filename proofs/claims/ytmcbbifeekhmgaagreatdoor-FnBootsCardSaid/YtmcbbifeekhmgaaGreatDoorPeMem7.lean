import Derived.Test.YtmcbbifeekhmgaaGreatDoorPeMem6
import Derived.Laws.BytesString
import Derived.Laws.Concat
namespace Go.Proofs.YtmcbbifeekhmgaaGreatDoor.Pe
open Go Go.RowKit
inductive Bnd (fr:Fr):Option A->Nat->Nat->Prop
 |none (d:Nat):Bnd fr none d d
 |some {x:A} {k:IntKind} {n:Int} (h:val fr x=.c (.i k n)) (h0:0<=n) (d:Nat):Bnd fr (some x) d n.toNat
def bytesOfRows (ns:List Int):ByteArray:=ns.foldl (λr n=>r.push (UInt8.ofNat n.toNat)) ByteArray.empty
section
variable {P:Program} {B:Begin} {N:Nat} {fr:Fr} {σ:St} {j:Nat->Hd} {L:Nat->List Nat} {S:Nat->Prop} {a:Act} {w w':World} {o:Oper}
theorem bnd_run (h:Rel P B N fr σ j L S a w){x:Option Operand}{x':Option A}(hx:optOf P x=some x'){d n:Nat}(hb:Bnd fr x' d n){m:Nat}(hm:n<=m)(code:BoundsCode):
  (match x.map a.eval with|some v=>Instr.sliceBound v m code|none=>pure d:Sem Nat).run P w=.ok n w:=by
 cases hb with
 |none=>
  cases x with
  |none=>simp
  |some x=>simp only[optOf]at hx;split at hx<;>simp at hx
 | @some x0 k i h0 hi=>
  cases x with
  |none=>simp[optOf]at hx
  |some x=>
   simp only[optOf]at hx
   split at hx<;>simp only[Option.some.injEq,reduceCtorEq]at hx
   rename_i b hb
   subst hx
   have hv:=aOf_rel h hb
   rw[h0]at hv
   simp only[VRel]at hv
   generalize hax:a.eval x=vx at*
   cases hv
   have:i<=(m:Int):=by omega
   simp[hax,Instr.sliceBound,asIntOf,hi,this]
theorem run_sliceBounds (h:Rel P B N fr σ j L S a w){lo hi:Option Operand}{lo' hi':Option A}(hlo:optOf P lo=some lo')(hhi:optOf P hi=some hi'){len cap l q:Nat}(b:Bool)(hq:Bnd fr hi' len q)(hl:Bnd fr lo' 0 l)(h1:l<=q)(h2:q<=cap):
  (Instr.sliceBounds b len cap (lo.map a.eval) (hi.map a.eval) none).run P w=.ok (l,q,cap) w:=by
 have e1:=bnd_run h hlo hl h1 (if false=true then BoundsCode.slice3C else .sliceB)
 have e2:=bnd_run h hhi hq h2 (if b=true then BoundsCode.sliceAcap else .sliceAlen)
 unfold Instr.sliceBounds
 simp only[Sem.run_bind,Sem.run_pure,Result.andThen_ok,Option.isSome_none]
 cases hi<;>cases lo<;>simp_all
theorem do_sl (h:Rel P B N fr σ j L S a w){t:TypeId}{x:Operand}{lo hi:Option Operand}(ho:o.op=.slice t x lo hi none){e:Nat}(ht:P.underlying t=some (.slice e)){n:Nat}(hn:sizeAt P e=some n){x':A}(hx:aOf P t x=some x'){lo' hi':Option A}(hlo:optOf P lo=some lo')(hhi:optOf P hi=some hi')
  {r off len l q:Nat} (hv:val fr x'=.sl r e off len) (hq:Bnd fr hi' len q) (hl:Bnd fr lo' 0 l) (h1:l<=q) (h2:q<=len):Does P B N fr σ a w o (.sl r e (off+l) (q-l)):=by
 have hvx:=aOf_rel h hx
 rw[hv]at hvx
 simp only[VRel]at hvx
 obtain⟨hd,hj,hs⟩:=hvx
 have hu:(underlying t).run P w=.ok (.slice e) w:=by simp[underlying,ht]
 rcases hs with ⟨rfl,rfl,rfl,hax⟩|⟨g,m,c,A,cc,rfl,hm,hax,hlc,hcc,hA,h0⟩
 ·obtain rfl:q=0:=by omega
  obtain rfl:l=0:=by omega
  have hb:=run_sliceBounds (cap:=0) h hlo hhi true hq hl (Nat.le_refl _) (Nat.le_refl _)
  refine Does.value (j':=j) (L':=L) (S':=S) (u:=.slice none 0 0) ?_ h ?_
  ·simp only[execOp,ho,Instr.sliceAt,Instr.slice,Sem.run_bind,hu,hax,Result.andThen_ok,hb,(sizeAt_some hn).1,Sem.run_pure,Option.map_none]
   simp
  ·simp only[VRel]
   exact⟨_,hj,.inl ⟨rfl,rfl,rfl,rfl⟩⟩
 ·have hb:=run_sliceBounds (cap:=cc) h hlo hhi true hq hl h1 (by omega)
  have hsz:=(sizeAt_some (w:=w) hn).2
  refine Does.value (j':=j) (L':=L) (S':=S) (u:=.slice (if cc=l then some A else some (A.add (l*n))) (q-l) (cc-l)) ?_ h ?_
  ·simp only[execOp,ho,Instr.sliceAt,Instr.slice,Sem.run_bind,hu,hax,Result.andThen_ok,hb,(sizeAt_some hn).1,Sem.run_pure,Option.map_none,Option.map_some]
  ·simp only[VRel]
   refine⟨_,hj,.inr ⟨g,m,c,if cc=l then A else A.add (l*n),cc-l,rfl,by omega,by split<;>rfl,by omega,by omega,?_,?_⟩⟩
   ·grind [add_off,Nat.add_mul]
   ·intro h3
    obtain rfl:off=0:=by omega
    obtain rfl:l=0:=by omega
    obtain⟨rfl,rfl⟩:=h0 rfl
    constructor
    ·split
     ·rfl
     ·simp[Addr.add]
    ·rfl
theorem run_sliceBounds3 (h:Rel P B N fr σ j L S a w){q m:Operand}{q' m':A}(hq:aOf P 0 q=some q')(hm:aOf P 0 m=some m'){k k':IntKind}{n:Int}(hqv:val fr q'=.c (.i k n))(hmv:val fr m'=.c (.i k' n))(h0:0<=n){len cap:Nat}(h1:n<=cap):
  (Instr.sliceBounds true len cap none (some (a.eval q)) (some (a.eval m))).run P w=.ok (0,n.toNat,n.toNat) w:=by
 have hvq:=aOf_rel h hq
 have hvm:=aOf_rel h hm
 rw[hqv]at hvq
 rw[hmv]at hvm
 simp only[VRel]at hvq hvm
 generalize hax:a.eval q=vq at*
 generalize hay:a.eval m=vm at*
 cases hvq
 cases hvm
 obtain⟨i,rfl⟩:∃i:Nat,n=i:=⟨n.toNat,by omega⟩
 have h2:i<=cap:=by omega
 unfold Instr.sliceBounds
 simp[Instr.sliceBound,asIntOf,h2]
theorem do_s3 (h:Rel P B N fr σ j L S a w){t:TypeId}{x q m:Operand}(ho:o.op=.slice t x none (some q) (some m)){e:Nat}(ht:P.underlying t=some (.slice e)){z:Nat}(hn:sizeAt P e=some z){x' q' m':A}(hx:aOf P t x=some x')(hq:aOf P 0 q=some q')(hm:aOf P 0 m=some m')
  {r len:Nat} (hv:val fr x'=.sl r e 0 len) {k k':IntKind} {n:Int} (hqv:val fr q'=.c (.i k n)) (hmv:val fr m'=.c (.i k' n)) (h0:0<=n) (h1:n<=len):Does P B N fr σ a w o (.s3 r e n.toNat):=by
 have hvx:=aOf_rel h hx
 rw[hv]at hvx
 simp only[VRel]at hvx
 obtain⟨hd,hj,hs⟩:=hvx
 have hu:(underlying t).run P w=.ok (.slice e) w:=by simp[underlying,ht]
 rcases hs with ⟨rfl,_,rfl,hax⟩|⟨g,c0,c,A,cc,rfl,hle,hax,hlc,hcc,hA,hz⟩
 ·obtain rfl:n=0:=by omega
  have hb:=run_sliceBounds3 (len:=0) (cap:=0) h hq hm hqv hmv h0 (by omega)
  refine Does.value (j':=j) (L':=L) (S':=S) (u:=.slice none 0 0) ?_ h ?_
  ·simp only[execOp,ho,Instr.sliceAt,Instr.slice,Sem.run_bind,hu,hax,Result.andThen_ok,Option.map_none,Option.map_some,hb,(sizeAt_some hn).1,Sem.run_pure]
   simp
  ·simp only[VRel]
   exact⟨_,hj,.inr ⟨rfl,rfl,rfl⟩⟩
 ·obtain⟨rfl,rfl⟩:=hz rfl
  have hb:=run_sliceBounds3 (len:=len) (cap:=cc) h hq hm hqv hmv h0 (by omega)
  refine Does.value (j':=j) (L':=L) (S':=S) (u:=.slice (some ⟨g,0,none⟩) n.toNat n.toNat) ?_ h ?_
  ·simp only[execOp,ho,Instr.sliceAt,Instr.slice,Sem.run_bind,hu,hax,Result.andThen_ok,Option.map_none,Option.map_some,hb,(sizeAt_some hn).1,Sem.run_pure,Nat.zero_mul,Nat.sub_zero]
   have:(⟨g,0,none⟩:Addr).add 0=⟨g,0,none⟩:=rfl
   rw[this,ite_self]
  ·simp only[VRel]
   exact⟨_,hj,.inl ⟨g,c0,cc,rfl,by omega,by omega,rfl⟩⟩
theorem do_s3N (h:Rel P B N fr σ j L S a w){t:TypeId}{x q m:Operand}(ho:o.op=.slice t x none (some q) (some m)){e:Nat}(ht:P.underlying t=some (.slice e)){z:Nat}(hn:sizeAt P e=some z){x' q' m':A}(hx:aOf P t x=some x')(hq:aOf P 0 q=some q')(hm:aOf P 0 m=some m')
  {e':Nat} (hv:val fr x'=.c (.row true e' [])) {k k':IntKind} (hqv:val fr q'=.c (.i k 0)) (hmv:val fr m'=.c (.i k' 0)):Does P B N fr σ a w o (.c (.row true e' [])):=by
 have hvx:=aOf_rel h hx
 rw[hv]at hvx
 simp only[VRel]at hvx
 have hax:=nil_own hvx
 have hu:(underlying t).run P w=.ok (.slice e) w:=by simp[underlying,ht]
 have hb:=run_sliceBounds3 (len:=0) (cap:=0) h hq hm hqv hmv (Int.le_refl _) (Int.le_refl _)
 refine Does.value (j':=j) (L':=L) (S':=S) (u:=.slice none 0 0) ?_ h ?_
 ·simp only[execOp,ho,Instr.sliceAt,Instr.slice,Sem.run_bind,hu,hax,Result.andThen_ok,Option.map_none,Option.map_some,hb,(sizeAt_some hn).1,Sem.run_pure]
  simp
 ·grind [VRel,own_nil]
theorem do_slN (h:Rel P B N fr σ j L S a w){t:TypeId}{x:Operand}{lo hi:Option Operand}(ho:o.op=.slice t x lo hi none){e:Nat}(ht:P.underlying t=some (.slice e)){n:Nat}(hn:sizeAt P e=some n){x':A}(hx:aOf P t x=some x'){lo' hi':Option A}(hlo:optOf P lo=some lo')(hhi:optOf P hi=some hi')
  {e':Nat} (hv:val fr x'=.c (.row true e' [])) (hq:Bnd fr hi' 0 0) (hl:Bnd fr lo' 0 0):Does P B N fr σ a w o (.c (.row true e' [])):=by
 have hvx:=aOf_rel h hx
 rw[hv]at hvx
 simp only[VRel]at hvx
 have hax:=nil_own hvx
 have hu:(underlying t).run P w=.ok (.slice e) w:=by simp[underlying,ht]
 have hb:=run_sliceBounds (len:=0) (cap:=0) h hlo hhi true hq hl (Nat.le_refl _) (Nat.le_refl _)
 refine Does.value (j':=j) (L':=L) (S':=S) (u:=.slice none 0 0) ?_ h ?_
 ·simp only[execOp,ho,Instr.sliceAt,Instr.slice,Sem.run_bind,hu,hax,Result.andThen_ok,hb,(sizeAt_some hn).1,Sem.run_pure,Option.map_none]
  simp
 ·grind [VRel,own_nil]
theorem do_sl_ro (h:Rel P B N fr σ j L S a w){t:TypeId}{x:Operand}{lo hi:Option Operand}(ho:o.op=.slice t x lo hi none){e:Nat}(ht:P.underlying t=some (.slice e)){n:Nat}(hn:sizeAt P e=some n){x':A}(hx:aOf P t x=some x'){lo' hi':Option A}(hlo:optOf P lo=some lo')(hhi:optOf P hi=some hi')
  {rows:List (List C)} {l q:Nat} (hv:val fr x'=.c (.row false e rows)) (hq:Bnd fr hi' rows.length q) (hl:Bnd fr lo' 0 l) (h1:l<=q) (h2:q<=rows.length):Does P B N fr σ a w o (.c (.row false e ((rows.drop l).take (q-l)))):=by
 have hvx:=aOf_rel h hx
 rw[hv]at hvx
 simp only[VRel]at hvx
 have hu:(underlying t).run P w=.ok (.slice e) w:=by simp[underlying,ht]
 obtain⟨A,cc,vals,hax,_,hcl,h0,hvl,hz,hA,hcs⟩:=ro_open hvx
 have hb:=run_sliceBounds (cap:=cc) h hlo hhi true hq hl h1 (by omega)
 have hsz:=(sizeAt_some (w:=w) hn).2
 refine Does.value (j':=j) (L':=L) (S':=S) (u:=.slice (if cc=l then A else A.map (·.add (l*n))) (q-l) (cc-l)) ?_ h ?_
 ·simp only[execOp,ho,Instr.sliceAt,Instr.slice,Sem.run_bind,hu,hax,Result.andThen_ok,hb,(sizeAt_some hn).1,Sem.run_pure,Option.map_none]
 ·simp only[VRel]
  have hlen:((rows.drop l).take (q-l)).length=q-l:=by rw[List.length_take,List.length_drop];omega
  have hz':∀x∈(rows.drop l).take (q-l),x.length=P.cellsOf e:=λx hx=>hz x (List.mem_of_mem_drop (List.mem_of_mem_take hx))
  have hfl:rows.flatten=(rows.take l).flatten++(((rows.drop l).take (q-l)).flatten++((rows.drop l).drop (q-l)).flatten):=by
   grind [List.flatten_append,List.take_append_drop]
  rw[hfl]at hcs
  obtain⟨v1,v2,L1,L2,rfl,hL,g1,g2⟩:=hcs.split
  obtain⟨v3,v4,L3,L4,rfl,hL2,g3,g4⟩:=g2.split
  have e1:L1=[]/\L2=[]:=by simpa using hL.symm
  obtain⟨rfl,rfl⟩:=e1
  have e2:L3=[]/\L4=[]:=by simpa using hL2.symm
  obtain⟨rfl,rfl⟩:=e2
  have hv1:v1.length=l*P.cellsOf e:=by
   rw[g1.len,flat_len (λx hx=>hz x (List.mem_of_mem_take hx)),List.length_take]
   congr 1
   omega
  have hv3:v3.length=(q-l)*P.cellsOf e:=by rw[g3.len,flat_len hz',hlen]
  refine CRel.ro e _ _ (q-l) (cc-l) v3 hz' hlen.symm (by omega) ?_ hv3 ?_ g3
  ·intro hn0
   split at hn0
   ·omega
   ·have:A=none:=by
     cases A with
     |none=>rfl
     |some _=>cases hn0
    grind
  ·intro hp
   obtain⟨ad,rfl,hS,hcell⟩:=hA (by omega)
   have hne:cc≠l:=by omega
   refine⟨ad.add (l*n),by rw[if_neg hne];rfl,?_,?_⟩
   ·have:(ad.add (l*n)).block=ad.block:=by unfold Addr.add;split<;>rfl
    grind
   ·intro k u hk
    rw[add_add',<-hsz]
    grind
theorem do_ss (h:Rel P B N fr σ j L S a w){t:TypeId}{x:Operand}{lo hi:Option Operand}(ho:o.op=.slice t x lo hi none)(ht:P.underlying t=some .string){x':A}(hx:aOf P t x=some x'){lo' hi':Option A}(hlo:optOf P lo=some lo')(hhi:optOf P hi=some hi')
  {s:ByteArray} {l q:Nat} (hv:val fr x'=.c (.s s)) (hq:Bnd fr hi' s.size q) (hl:Bnd fr lo' 0 l) (h1:l<=q) (h2:q<=s.size):Does P B N fr σ a w o (.c (.s (s.extract l q))):=by
 have hvx:=aOf_rel h hx
 rw[hv]at hvx
 simp only[VRel]at hvx
 generalize hax:a.eval x=vx at*
 cases hvx
 have hu:(underlying t).run P w=.ok .string w:=by simp[underlying,ht]
 have hb:=run_sliceBounds (cap:=s.size) h hlo hhi false hq hl h1 h2
 refine Does.value (j':=j) (L':=L) (S':=S) (u:=.string (s.extract l q)) ?_ h (by simp only[VRel];exact .s _)
 simp only[execOp,ho,Instr.sliceAt,Instr.slice,Sem.run_bind,hu,hax,Result.andThen_ok,Option.map_none,Option.isSome_none,Bool.false_eq_true,if_false,Sem.run_pure,hb]
theorem do_ix (h:Rel P B N fr σ j L S a w){t:TypeId}{x y:Operand}(ho:o.op=.index t x y)(ht:P.underlying t=some .string){x' y':A}(hx:aOf P t x=some x')(hy:aOf P 0 y=some y')
  {s:ByteArray} (hv:val fr x'=.c (.s s)) {k:IntKind} {i:Int} (hi:val fr y'=.c (.i k i)) (h0:0<=i) {b:UInt8} (hb:s[i.toNat]? =some b):Does P B N fr σ a w o (.c (.i .u8 b.toNat)):=by
 have hvx:=aOf_rel h hx
 have hvy:=aOf_rel h hy
 rw[hv]at hvx
 rw[hi]at hvy
 simp only[VRel]at hvx hvy
 generalize hax:a.eval x=vx at*
 generalize hay:a.eval y=vy at*
 cases hvx
 cases hvy
 have hu:(underlying t).run P w=.ok .string w:=by simp[underlying,ht]
 refine Does.value (j':=j) (L':=L) (S':=S) (u:=.int .u8 b.toNat) ?_ h (by simp only[VRel];exact .i _ _)
 simp only[execOp,ho,Instr.index,asIntOf,Sem.run_bind,hu,hax,hay,Result.andThen_ok,Sem.run_pure,h0,if_true,hb]
theorem do_add (h:Rel P B N fr σ j L S a w){t u:TypeId}{x y:Operand}(ho:o.op=.binOp .add t x y u){x' y':A}(hx:aOf P t x=some x')(hy:aOf P u y=some y')
  {s s':ByteArray} (hv:val fr x'=.c (.s s)) (hv':val fr y'=.c (.s s')) (hb:s.size+s'.size<=9223372036854775807):Does P B N fr σ a w o (.c (.s (s++s'))):=by
 have hvx:=aOf_rel h hx
 have hvy:=aOf_rel h hy
 rw[hv]at hvx
 rw[hv']at hvy
 simp only[VRel]at hvx hvy
 generalize hax:a.eval x=vx at*
 generalize hay:a.eval y=vy at*
 cases hvx
 cases hvy
 refine Does.value (j':=j) (L':=L) (S':=S) (u:=.string (s++s')) ?_ h (by simp only[VRel];exact .s _)
 have hg:(eqGuard .add t x y (.string s) (.string s')).run P w=.ok () w:=by
  unfold eqGuard
  rfl
 simp only[execOp,ho,hax,hay,Sem.run_bind,hg,Result.andThen_ok,binOp_string_add,run_string_add_sum w s s' hb,Sem.run_pure]
end
end Go.Proofs.YtmcbbifeekhmgaaGreatDoor.Pe
