import Derived.Test.YtmcbbifeekhmgaaGreatDoorPePure
import Derived.Deep.Slices
import Derived.Laws.Strings
import Derived.Laws.StructEq
namespace Go.Proofs.YtmcbbifeekhmgaaGreatDoor.Pe
open Go Go.RowKit
section
variable {P:Program} {B:Begin} {N:Nat} {fr:Fr} {σ:St} {j:Nat->Hd} {L:Nat->List Nat} {S:Nat->Prop} {a:Act} {w:World}
theorem Mem.boxAt (h:Mem P σ j L S w){r:Nat}{cells:List V}(hr:root σ r=.box cells):∃g cur e,j r=.blk g/\w.heap[g]? =some (.cells cur e (0,0))/\VsRel P j w S cells cur.toList/\(∀u∈cur.toList,u.oneCell'=true)/\L r=[g]:=by
 have:=h.roots r
 rw[hr]at this
 exact this
theorem Mem.vecAt (h:Mem P σ j L S w){r e:Nat}{rows:List (List C)}(hr:root σ r=.vec e rows):∃v,j r=.hdr v/\CRel P w S (.row true e rows) v (L r):=by
 have:=h.roots r
 rw[hr]at this
 exact this
theorem Mem.roAt (h:Mem P σ j L S w){r e:Nat}{rows:List (List C)}(hr:root σ r=.ro e rows):∃v,j r=.hdr v/\CRel P w S (.row false e rows) v []/\L r=[]:=by
 have:=h.roots r
 rw[hr]at this
 exact this
theorem bytes_eq (x y:ByteArray):(x.toList==y.toList)=decide (x=y):=by
 rw[Bool.eq_iff_iff,beq_iff_eq,decide_eq_true_iff]
 constructor
 ·intro h
  rw[ByteArray.toList_eq,ByteArray.toList_eq]at h
  cases x;cases y
  simpa using h
 ·rintro rfl;rfl
theorem int_binOp {op:BinOp}{k:IntKind}{x y:Int}{v:V}(h:binV op (.c (.i k x)) (.c (.i k y))=some v){t:TypeId}:
  ∃u,(binOp op t (.int k x) (.int k y)).run P w=.ok u w/\VRel P j w S v u:=by
 unfold binV at h
 simp only[if_true]at h
 cases op<;>simp only[Option.some.injEq,reduceCtorEq]at h<;>subst h<;>refine⟨_,by simp only[binOp,Op.intArith,Op.intCmp,ne_eq,not_true_eq_false,if_false];rfl,?_⟩<;>simp only[VRel]<;>first|exact .b _|exact .i _ _
theorem string_binOp {op:BinOp}{x y:ByteArray}{v:V}(h:binV op (.c (.s x)) (.c (.s y))=some v){t:TypeId}:
  ∃u,(binOp op t (.string x) (.string y)).run P w=.ok u w/\VRel P j w S v u:=by
 unfold binV at h
 cases op<;>simp only[Option.some.injEq,reduceCtorEq]at h<;>subst h
 ·exact⟨.bool (decide (x=y)),by simp[binOp,Op.stringOp,bytes_eq],by simp only[VRel];exact .b _⟩
 ·exact⟨.bool (!decide (x=y)),by simp[binOp,Op.stringOp,bytes_eq],by simp only[VRel];exact .b _⟩
 ·exact⟨.bool (Op.bytesLess x.toList y.toList),by simp[binOp,Op.stringOp],by simp only[VRel];exact .b _⟩
 ·exact⟨.bool (Op.bytesLess x.toList y.toList||decide (x=y)),by simp[binOp,Op.stringOp,bytes_eq],by simp only[VRel];exact .b _⟩
 ·exact⟨.bool (!(Op.bytesLess x.toList y.toList||decide (x=y))),by simp[binOp,Op.stringOp,bytes_eq],by simp only[VRel];exact .b _⟩
 ·exact⟨.bool (!Op.bytesLess x.toList y.toList),by simp[binOp,Op.stringOp],by simp only[VRel];exact .b _⟩
theorem run_equal_bool {t:TypeId}(ht:P.underlying t=some .bool)(x y:Bool):(Op.equal t (.bool x) (.bool y)).run P w=.ok (x==y) w:=by
 have h:∀d,(Op.equalIn (d+1) t (.bool x) (.bool y)).run P w=.ok (x==y) w:=by
  intro d
  simp[Op.equalIn,underlying,ht]
 exact h 9999
theorem bool_binOp (ne x y:Bool){t:TypeId}(ht:P.underlying t=some .bool):
  (binOp (if ne then .neq else .eql) t (.bool x) (.bool y)).run P w=.ok (.bool (x==y ^^ ne)) w:=by
 cases ne
 ·show((do pure (.bool (<-Op.equal t (.bool x) (.bool y)))):Sem Value).run P w=_
  simp only[Sem.run_bind,run_equal_bool ht,Result.andThen_ok,Sem.run_pure,Bool.bne_false]
 ·show((do pure (.bool (!(<-Op.equal t (.bool x) (.bool y))))):Sem Value).run P w=_
  simp only[Sem.run_bind,run_equal_bool ht,Result.andThen_ok,Sem.run_pure,Bool.bne_true]
theorem run_max2 {x y:Int}:(Builtin.max2 (.int .i64 x) (.int .i64 y)).run P w=.ok (.int .i64 (if x<y then y else x)) w:=by
 unfold Builtin.max2
 simp
theorem run_min2 {x y:Int}:(Builtin.min2 (.int .i64 x) (.int .i64 y)).run P w=.ok (.int .i64 (if y<x then y else x)) w:=by
 unfold Builtin.min2
 simp
theorem eqC_0 {ks:List Nat}{us vs:List V}{b:Bool}(h:eqC (0::ks) us vs=some b):∃k x y us' vs' r,us=.c (.i k x)::us'/\vs=.c (.i k y)::vs'/\eqC ks us' vs'=some r/\b=((x==y)&&r):=by
 match us,vs,h with
 |.c (.i k x)::us',.c (.i k' y)::vs',h=>
  simp only[eqC]at h
  split at h<;>simp only[Option.some.injEq,reduceCtorEq]at h
  rename_i r hk hr
  simp only[decide_eq_true_eq]at hk
  subst hk
  grind
theorem eqC_1 {ks:List Nat}{us vs:List V}{b:Bool}(h:eqC (1::ks) us vs=some b):∃x y us' vs' r,us=.c (.s x)::us'/\vs=.c (.s y)::vs'/\eqC ks us' vs'=some r/\b=(decide (x=y)&&r):=by
 match us,vs,h with
 |.c (.s x)::us',.c (.s y)::vs',h=>
  grind [eqC,Option.some.injEq]
theorem eqC_2 {ks:List Nat}{us vs:List V}{b:Bool}(h:eqC (2::ks) us vs=some b):∃x y us' vs' r,us=.c (.b x)::us'/\vs=.c (.b y)::vs'/\eqC ks us' vs'=some r/\b=((x==y)&&r):=by
 match us,vs,h with
 |.c (.b x)::us',.c (.b y)::vs',h=>
  grind [eqC,Option.some.injEq]
theorem eqFields_run {d:Nat}{xs ys:Array Value}:∀{fs:List Field}{i:Nat}{ks:List Nat}{us vs:List V}{b:Bool}{as bs:List Value},kindsOf P fs i=some ks->eqC ks us vs=some b->VsRel P j w S us as->VsRel P j w S vs bs->(∀q u,as[q]? =some u->xs[i+q]? =some u)->(∀q u,bs[q]? =some u->ys[i+q]? =some u)->
  (Op.eqFields (d+1) xs ys fs).run P w=.ok b w
 |[],i,ks,us,vs,b,as,bs,hk,he,_,_,_,_=>by
  simp only[kindsOf,Option.some.injEq]at hk
  subst hk
  cases us<;>cases vs<;>simp only[eqC,Option.some.injEq,reduceCtorEq]at he
  subst he
  simp[Op.eqFields]
 |f::fs,i,ks,us,vs,b,as,bs,hk,he,hu,hv,hx,hy=>by
  simp only[kindsOf]at hk
  split at hk<;>try simp only[reduceCtorEq]at hk
  rename_i ks' hf hks
  simp only[Bool.and_eq_true,bne_iff_ne,beq_iff_eq]at hf
  obtain⟨hname,hoff⟩:=hf
  have agg:∀{e:TypeDesc},P.underlying f.type=some e->(∀fs,e≠ .struct fs)->(∀n q,e≠ .array n q)->∀{zs:Array Value}{u:Value},zs[i]? =some u->(part f.type zs f.offset).run P w=.ok u w:=by
   intro e he h1 h2 zs u hz
   have hu:(underlying f.type).run P w=.ok e w:=by simp[underlying,he]
   have ha:(isAgg f.type).run P w=.ok false w:=by
    simp only[isAgg,Sem.run_bind,hu,Result.andThen_ok]
    cases e<;>first|rfl|(exact absurd rfl (h1 _))|(exact absurd rfl (h2 _ _))
   unfold part
   rw[Sem.run_bind,ha,Result.andThen_ok,hoff]
   simp only[Bool.false_eq_true,if_false,hz,Sem.run_pure]
  have step:∀{u0 v0:Value}{as' bs':List Value}{us' vs':List V}{e:TypeDesc}{r q:Bool},P.underlying f.type=some e->(∀fs,e≠ .struct fs)->(∀n q,e≠ .array n q)->as=u0::as'->bs=v0::bs'->VsRel P j w S us' as'->VsRel P j w S vs' bs'->eqC ks' us' vs'=some r->(Op.equalIn (d+1) f.type u0 v0).run P w=.ok q w->b=(q&&r)->(Op.eqFields (d+1) xs ys (f::fs)).run P w=.ok b w:=by
   rintro u0 v0 as' bs' us' vs' e r q hty h1 h2 rfl rfl hu' hv' hr hq rfl
   have ih:=eqFields_run (d:=d) (xs:=xs) (ys:=ys) hks hr hu' hv' (λq u hq=>by have:=hx (q+1) u (by simpa using hq);rwa [show i+(q+1)=i+1+q by omega]at this) (λq u hq=>by have:=hy (q+1) u (by simpa using hq);rwa [show i+(q+1)=i+1+q by omega]at this)
   have e1:=agg hty h1 h2 (zs:=xs) (u:=u0) (by simpa using hx 0 u0 rfl)
   have e2:=agg hty h1 h2 (zs:=ys) (u:=v0) (by simpa using hy 0 v0 rfl)
   unfold Op.eqFields
   rw[if_pos hname]
   simp only[Sem.run_bind,e1,Result.andThen_ok,e2,hq]
   cases q with
   |true=>simpa using ih
   |false=>simp
  split at hk<;>simp only[Option.some.injEq,reduceCtorEq]at hk<;>subst hk
  ·rename_i kk hty
   obtain⟨k0,x,y,us',vs',r,rfl,rfl,hr,hb⟩:=eqC_0 he
   simp only[VsRel,VRel]at hu hv
   obtain⟨u0,as',ha,hu1,hu2⟩:=hu
   obtain⟨v0,bs',hb',hv1,hv2⟩:=hv
   cases hu1
   cases hv1
   exact step hty (by simp) (by simp) ha hb' hu2 hv2 hr (run_equalIn_int w d f.type k0 kk x y hty) hb
  ·rename_i hty
   obtain⟨x,y,us',vs',r,rfl,rfl,hr,hb⟩:=eqC_1 he
   simp only[VsRel,VRel]at hu hv
   obtain⟨u0,as',ha,hu1,hu2⟩:=hu
   obtain⟨v0,bs',hb',hv1,hv2⟩:=hv
   cases hu1
   cases hv1
   exact step hty (by simp) (by simp) ha hb' hu2 hv2 hr (by rw[run_equalIn_string w d f.type x y hty,bytes_eq]) hb
  ·rename_i hty
   obtain⟨x,y,us',vs',r,rfl,rfl,hr,hb⟩:=eqC_2 he
   simp only[VsRel,VRel]at hu hv
   obtain⟨u0,as',ha,hu1,hu2⟩:=hu
   obtain⟨v0,bs',hb',hv1,hv2⟩:=hv
   cases hu1
   cases hv1
   exact step hty (by simp) (by simp) ha hb' hu2 hv2 hr (run_equalIn_bool' w d f.type x y hty) hb
theorem vals_add {a0:Addr}{w:World}{vals:List Value}(h:∀k u,vals[k]? =some u->w.cell? (a0.add k)=some u)(n:Nat):∀k u,(vals.drop n)[k]? =some u->w.cell? ((a0.add n).add k)=some u:=by
 grind [add_add']
end
end Go.Proofs.YtmcbbifeekhmgaaGreatDoor.Pe
