import Derived.Test.YtmcbbifeekhmgaaGreatDoorPeMem8
import Derived.Laws.BytesString
import Derived.Lib.ConvBytes
import Derived.Laws.IdiomStrings
import Derived.Lib.AppendStr
namespace Go.Proofs.YtmcbbifeekhmgaaGreatDoor.Pe
open Go Go.RowKit
set_option linter.unusedVariables false
set_option linter.unusedSimpArgs false
def intD (op:BinOp)(k:IntKind)(m n:Int):Option Int:=match op with
 |.quo=>if n=0 then none else some (k.wrap (m.tdiv n))
 |.rem=>if n=0 then none else some (m.tmod n)
 |.and=>some (k.wrap ((BitVec.ofInt k.bits m&&& BitVec.ofInt k.bits n).toNat))
 |.or=>some (k.wrap ((BitVec.ofInt k.bits m|||BitVec.ofInt k.bits n).toNat))
 |.xor=>some (k.wrap ((BitVec.ofInt k.bits m ^^^ BitVec.ofInt k.bits n).toNat))
 |_=>none
def intSh (op:BinOp)(k:IntKind)(m n:Int):Option Int:=match op with
 |.shl=>if n<0 then none else some (k.wrap (m*2 ^ (min n.toNat k.bits)))
 |.shr=>if n<0 then none else some (m.fdiv (2 ^ (min n.toNat k.bits)))
 |_=>none
section
variable {P:Program} {B:Begin} {N:Nat} {fr:Fr} {σ:St} {j:Nat->Hd} {L:Nat->List Nat} {S:Nat->Prop} {a:Act} {w:World} {o:Oper}
theorem do_bin (h:Rel P B N fr σ j L S a w){op:BinOp}{t u:TypeId}{x y:Operand}(ho:o.op=.binOp op t x y u){x' y':A}(hx:aOf P t x=some x')(hy:aOf P u y=some y')
  {k:IntKind} {m n r:Int} (hv:val fr x'=.c (.i k m)) (hv':val fr y'=.c (.i k n)) (hr:intD op k m n=some r):Does P B N fr σ a w o (.c (.i k r)):=by
 have hvx:=aOf_rel h hx
 have hvy:=aOf_rel h hy
 rw[hv]at hvx
 rw[hv']at hvy
 simp only[VRel]at hvx hvy
 generalize hax:a.eval x=vx at*
 generalize hay:a.eval y=vy at*
 cases hvx
 cases hvy
 refine Does.value (j':=j) (L':=L) (S':=S) (u:=.int k r) ?_ h (by simp only[VRel];exact .i _ _)
 have hb:(binOp op t (.int k m) (.int k n)).run P w=.ok (.int k r) w:=by
  cases op<;>simp only[intD,reduceCtorEq,Option.some.injEq]at hr
  case quo=>
   split at hr<;>simp only[reduceCtorEq,Option.some.injEq]at hr
   rename_i hn
   subst hr
   simp[binOp,Op.intDiv,hn]
  case rem=>
   split at hr<;>simp only[reduceCtorEq,Option.some.injEq]at hr
   rename_i hn
   subst hr
   simp[binOp,Op.intDiv,hn]
  all_goals (subst hr;simp[binOp,Op.intBits])
 have hg:(eqGuard op t x y (.int k m) (.int k n)).run P w=.ok () w:=by
  unfold eqGuard
  cases op<;>simp[intD]at hr⊢
 simp only[execOp,ho,hax,hay,Sem.run_bind,hg,Result.andThen_ok,hb,Sem.run_pure]
theorem do_sh (h:Rel P B N fr σ j L S a w){op:BinOp}{t u:TypeId}{x y:Operand}(ho:o.op=.binOp op t x y u){x' y':A}(hx:aOf P t x=some x')(hy:aOf P u y=some y')
  {k k':IntKind} {m n r:Int} (hv:val fr x'=.c (.i k m)) (hv':val fr y'=.c (.i k' n)) (hr:intSh op k m n=some r):Does P B N fr σ a w o (.c (.i k r)):=by
 have hvx:=aOf_rel h hx
 have hvy:=aOf_rel h hy
 rw[hv]at hvx
 rw[hv']at hvy
 simp only[VRel]at hvx hvy
 generalize hax:a.eval x=vx at*
 generalize hay:a.eval y=vy at*
 cases hvx
 cases hvy
 refine Does.value (j':=j) (L':=L) (S':=S) (u:=.int k r) ?_ h (by simp only[VRel];exact .i _ _)
 have hb:(binOp op t (.int k m) (.int k' n)).run P w=.ok (.int k r) w:=by
  cases op<;>simp only[intSh,reduceCtorEq]at hr
  all_goals
   split at hr<;>simp only[reduceCtorEq,Option.some.injEq]at hr
   rename_i hn
   subst hr
   simp[binOp,Op.shift,hn]
 have hg:(eqGuard op t x y (.int k m) (.int k' n)).run P w=.ok () w:=by
  unfold eqGuard
  cases op<;>simp[intSh]at hr⊢
 simp only[execOp,ho,hax,hay,Sem.run_bind,hg,Result.andThen_ok,hb,Sem.run_pure]
theorem cs_bytes:∀{ns:List Int}{vals:List Value}{L0:List Nat},CsRel P w S (ns.map λn=>[C.i .u8 n]).flatten vals L0->vals=ns.map (Value.int .u8)
 |[],vals,L0,h=>by simp only[List.map_nil,List.flatten_nil]at h;cases h;rfl
 |n::ns,vals,L0,h=>by
  simp only[List.map_cons,List.flatten_cons,List.cons_append,List.nil_append]at h
  cases h with
  |cons _ _ v vs L1 L2 h1 h2=>
   cases h1
   rw[cs_bytes h2]
   rfl
theorem do_sb (h:Rel P B N fr σ j L S a w){t u:TypeId}{x:Operand}(ho:o.op=.convert t u x){e0:Nat}(ht:P.underlying t=some (.slice e0))(he:P.underlying e0=some (.int .u8))(hu:P.underlying u=some .string){x':A}(hx:aOf P t x=some x')
  {e:Nat} {ns:List Int} (ha:Adds fr σ x' e (ns.map λn=>[C.i .u8 n]) []):Does P B N fr σ a w o (.c (.s (bytesOfRows ns))):=by
 obtain⟨Ad,cc,vals,Ly,q1,q2,q3,q4,q5,_⟩:=ha.rel h (aOf_rel h hx)
 obtain rfl:=cs_bytes q4
 refine Does.value (j':=j) (L':=L) (S':=S) (u:=.string (bytesOfRows ns)) ?_ h (by simp only[VRel];exact .s _)
 have hcv:=run_convert_bytes_string (P:=P) w t u e0 Ad (ns.map λn=>[C.i .u8 n]).length cc ht he hu
 have hbs:(Conv.bytesToString (.slice Ad (ns.map λn=>[C.i .u8 n]).length cc)).run P w=.ok (.string (bytesOfRows ns)) w:=by
  cases Ad with
  |none=>
   have:ns=[]:=by
    grind
   subst this
   simp[Conv.bytesToString,bytesOfRows]
  |some ad=>
   refine run_bytesToString w ad _ cc ns ?_
   have:=run_loadCells_list (P:=P) (w:=w) ad (ns.map (Value.int .u8)) (λk v hk=>q3 ad rfl k v hk)
   simpa using this
 simp only[execOp,ho,q1,Sem.run_bind,hcv,hbs,Result.andThen_ok,Sem.run_pure]
def intsOf (t:ByteArray):List Int:=t.data.toList.map λb=>(b.toNat:Int)
theorem cs_of_bytes:∀l:List UInt8,CsRel P w S ((l.map λb=>(b.toNat:Int)).map λn=>[C.i .u8 n]).flatten (l.map λb=>Value.int .u8 (b.toNat:Int)) []
 |[]=>.nil
 |b::l=>.cons _ _ _ _ [] [] (.i _ _) (cs_of_bytes l)
theorem do_bs_ (h:Rel P B N fr σ j L S a w){t u:TypeId}{x:Operand}(ho:o.op=.convert t u x)(ht:P.underlying t=some .string){e:Nat}(hu:P.underlying u=some (.slice e))(he:P.underlying e=some (.int .u8))(hs1:sizeAt P e=some 1){x':A}(hx:aOf P t x=some x')
  {s:ByteArray} (hv:val fr x'=.c (.s s)):Does P B N fr σ a w o (.c (.row false e ((intsOf s).map λn=>[C.i .u8 n]))):=by
 have hvx:=aOf_rel h hx
 rw[hv]at hvx
 simp only[VRel]at hvx
 generalize hax:a.eval x=vx at hvx
 cases hvx
 have hr:=run_bytes_of_string (P:=P) w t u e s ht hu he
 have hce:P.cellsOf e=1:=(sizeAt_some (w:=w) hs1).2
 generalize hcap:grownCap w s.size 0 e=cap at hr
 have hge:s.size<=cap:=by rw[<-hcap];exact grownCap_ge w s.size 0 e
 generalize hw':w.drew.alloc (.cells (bytesRow s cap) e ((bytesRow s cap).size,(bytesRow s cap).size+1))=w' at hr
 have hold:∀b,b<w.heap.size->w'.heap[b]? =w.heap[b]? :=λb hb=>by rw[<-hw'];exact heap_alloc_old w.drew _ b hb
 have hnew:w'.heap[w.heap.size]? =some (.cells (bytesRow s cap) e ((bytesRow s cap).size,(bytesRow s cap).size+1)):=by rw[<-hw'];exact heap_alloc_new w.drew _
 have hsz:w'.heap.size=w.heap.size+1:=by
  rw[<-hw']
  show(w.heap.push _).size=_
  simp
 have hS:∀b,S b->(S b\/b=w.heap.size)/\w'.heap[b]? =w.heap[b]? :=λb hb=>⟨.inl hb,hold b (h.mem.stab b hb)⟩
 have h4:Rel P B N fr σ j L (λb=>S b\/b=w.heap.size) a w':={
  size:=h.size
  defers:=h.defers
  slots:=λt=>(h.slots t).same hS (λ_ _=>rfl)
  mem:=h.mem.turn (λ_=>False) (λ_ _=>rfl) (λ_ _=>rfl) (λ_ _=>rfl) (λ_ _=>rfl)
   (λr b _ hb=>⟨hold b (h.mem.owned r b hb).1,λhh=>hh.elim (h.mem.owned r b hb).2 (λe=>by have:=(h.mem.owned r b hb).1;omega)⟩)
   hS (λ_ h=>h.elim) (λ_ h=>h.elim) (λ_ _ h=>h.elim) (λb hb=>hb.elim (λhb=>by have:=h.mem.stab b hb;omega) (λe=>by omega)) (by omega)
  since:={
   mine:=h.since.mine
   came:=λb hb=>hb.elim (h.since.came b) (λe=>.inr (.inr (by have:=h.since.heap;omega)))
   grow:=λb hb=>.inl (h.since.grow b hb)
   same:=h.since.same
   os:=by rw[<-hw'];exact h.since.os
   tape:=by rw[<-hw'];exact h.since.tape
   output:=by rw[<-hw'];exact h.since.output
   heap:=by have:=h.since.heap;omega
   frame:=λb hb hn=>(hold b (by have:=h.since.heap;omega)).trans (h.since.frame b hb hn) } }
 refine Does.value (u:=.slice (some ⟨w.heap.size,0,none⟩) s.size cap) ?_ h4 ?_
 ·simp only[execOp,ho,hax,Sem.run_bind,hr,Result.andThen_ok,Sem.run_pure]
 ·simp only[VRel]
  refine .ro e _ (some ⟨w.heap.size,0,none⟩) s.size cap (s.data.toList.map λb=>Value.int .u8 (b.toNat:Int)) ?_ ?_ hge (λh=>by cases h) ?_ ?_ (cs_of_bytes _)
  ·grind
  ·simp only[intsOf,List.length_map,Array.length_toList]
   rfl
  ·simp only[List.length_map,Array.length_toList,hce,Nat.mul_one]
   rfl
  ·intro _
   refine⟨_,rfl,.inr rfl,λk u hk=> ?_⟩
   rw[List.getElem?_map]at hk
   have hkl:k<s.size:=by
    cases hq:s.data.toList[k]? with
    |none=>rw[hq]at hk;cases hk
    |some b=>
     have:=(List.getElem?_eq_some_iff.1 hq).1
     simpa using this
   have hadd:(⟨w.heap.size,0,none⟩:Addr).add k=⟨w.heap.size,k,none⟩:=by cases k<;>simp[Addr.add]
   rw[hadd]
   simp only[World.cell?,hnew,bytesRow]
   grind
theorem run_append_at_string (t u ty e:TypeId)(i:TypeInfo)(ht:P.underlying t=some (.slice e))(hu:P.underlying u=some .string)(hi:P.info? e=some i)(hz:i.zero=some (.int .u8 0))(hsize:i.size=1)(hby:i.bytes=1)
  (v:Value) (n:Nat) (xs:List Value) (hown:w.ownsRow 0 e 1 v n xs) (s:ByteArray) (h63:n+s.size<=maxLen) (hbytes:n+s.size<=140737488355328):
  ∃v' w',(Builtin.append_ #[t,u] ty #[v,.string s]).run P w=.ok v' w'/\w'.ownsRow 0 e 1 v' (n+s.size) (xs++Go.Lib.strCells s)/\w.grownBy w' v.ownBlock/\(v'.ownBlock=v.ownBlock\/v'.ownBlock=some w.heap.size):=by
 obtain⟨v',w',q1,q2,q3,q4⟩:=Go.Lib.run_append_own_string (P:=P) w 0 t u ty e i ht hu hi hz hsize hby v n xs hown s h63 hbytes (Nat.zero_le _)
 refine⟨v',w',q1,q2,q3,?_⟩
 have hsmall:n+s.size<=9223372036854775807:=by simp only[maxLen]at h63;omega
 have hxl:xs.length=n:=by simpa using hown.1
 rcases hown.2 with ⟨rfl,rfl⟩|⟨g,cap,cur,rfl,hbg,hg,hnc,hcm,hcs,htake⟩
 ·by_cases hm:s.size=0
  ·grind
  ·have hr:=run_append_nil_string (P:=P) w t u ty e i (.int .u8 0) ht hu hi hz s (by omega) (by omega) (by rw[hby];omega)
   rw[hr]at q1
   cases q1
   exact .inr rfl
 ·by_cases hroom:n+s.size<=cap
  ·have hcs':cur.size=cap:=by simpa using hcs
   have hr:=Go.Lib.run_append_room_string (P:=P) w t u ty e i ht hu hi hsize g n cap cur hg s hroom (by omega)
   rw[hr]at q1
   cases q1
   exact .inl rfl
  ·have holds:∀j u,xs[j]? =some u->w.cell? ((⟨g,0,none⟩:Addr).add j)=some u:=hown.cells (g:=g) rfl
   have hr:=Go.Lib.run_append_grow_string (P:=P) w t u ty e i (.int .u8 0) ht hu hi hz ⟨g,0,none⟩ n cap xs (by rw[hsize];simpa using hxl) holds s (by omega) (by omega) (by rw[hby];exact growslice_fits (by omega) (by omega))
   rw[hr]at q1
   cases q1
   exact .inr rfl
theorem do_aps (h:Rel P B N fr σ j L S a w){c:Call}{t u:TypeId}{x y:Operand}(ho:o.op=.call c)(hc1:c.callee=.builtin .append)(hc2:c.args=#[x,y])(hc3:c.argTypes=#[t,u]){e:Nat}(he:elemOf P t=some e)(hu:P.underlying u=some .string)
  {i:TypeInfo} (hi:P.info? e=some i) (hiz:i.zero=some (.int .u8 0)) (hi1:i.size=1) (hi2:i.bytes=1) {x' y':A} (hx:aOf P t x=some x') (hy:aOf P u y=some y') {rx:List (List C)} {Mx:List Nat} (hox:Onto fr σ x' e rx Mx) {s0:ByteArray} (hv:val fr y'=.c (.s s0)) (hM:Mx.Nodup)
  (h63:rx.length+s0.size<=maxLen) (hb:rx.length+s0.size<=140737488355328) {s:Nat} (hs:root σ s=.no) (hm:B.m<=s):Does P B N fr ((s,.vec e (rx++(intsOf s0).map λn=>[C.i .u8 n]))::gones Mx σ) a w o (.sl s e 0 (rx++(intsOf s0).map λn=>[C.i .u8 n]).length):=by
 obtain⟨Lx,p1,p2,p3,p4⟩:=hox.rel h (aOf_rel h hx)
 have hvy:=aOf_rel h hy
 rw[hv]at hvy
 simp only[VRel]at hvy
 generalize hay:a.eval y=vy at hvy
 cases hvy
 have hce:P.cellsOf e=1:=by simp[Program.cellsOf,hi,hi1]
 have hlen:((intsOf s0).map λn=>[C.i .u8 n]).length=s0.size:=by
  simp only[intsOf,List.length_map,Array.length_toList]
  rfl
 rw[List.length_append]
 generalize hvx:a.eval x=v at p1
 cases p1 with
 |own _ _ _ xs L0 hzx ho1 hcx=>
  rw[hce]at ho1
  have hnew:=run_append_at_string (P:=P) (w:=w) t u o.type e i (elemOf_some he) hu hi hiz hi1 hi2 v rx.length xs ho1 s0 h63 hb
  refine do_ap_key (ry:=(intsOf s0).map λn=>[C.i .u8 n]) (Ly:=[]) (vals:=Go.Lib.strCells s0) h ho hc1 hc2 hc3 hvx hay hzx hcx (by rw[hlen,hce];exact hnew) (cs_of_bytes _) ?_ ?_ ?_ hs hm ?_
  ·grind
  ·grind
  ·grind
  ·exact p4 s hs
end
end Go.Proofs.YtmcbbifeekhmgaaGreatDoor.Pe
