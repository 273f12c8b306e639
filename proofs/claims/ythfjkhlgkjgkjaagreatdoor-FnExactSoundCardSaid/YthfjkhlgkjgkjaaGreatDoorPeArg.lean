import Derived.Deep.Slices
import Derived.Deep.Fields
import Derived.ChangeArms
import Derived.OpenShut
import Derived.DataReads
import Derived.Below
import Derived.Test.YthfjkhlgkjgkjaaGreatDoorPeTy
namespace Go.Proofs.YthfjkhlgkjgkjaaGreatDoor.Pe
open Go Go.RowKit Go.Deep Go.ChangeShapes Go.WideShapes
abbrev old (w:World)(b:Nat):Prop:=b<w.heap.size
abbrev WI (k:IntKind)(n:Int):Prop:=(Lit.int k n).wf=true
structure Opn {α:Type} (P:Program) (t:TypeId) (f:α→List C) (wf:α→Prop):Prop where
 at_:∀{H:Type}(enc:TypeId×Value→H)(w:World)(fuel:Nat)(cs:List Value)(x:DataW H×List MemPlace),
  DataW.trod enc P w 0 (fun _=>true) true fuel t cs=some x→∃a,CsRel P w (old w) (f a) cs []∧wf a
theorem cs_one {P:Program}{w:World}{S:Nat→Prop}{c:C}{v:Value}(h:CRel P w S c v []):CsRel P w S [c] [v] []:=by
 simpa using CsRel.cons c [] v [] [] [] h .nil
theorem opn_int {P:Program}{t:TypeId}{k:IntKind}(ht:P.underlying t=some (.int k)):Opn P t (fun n=>[.i k n]) (fun n=>WI k n):=
 ⟨fun enc w fuel cs x h=>by
  obtain⟨n,rfl,_,hw⟩:=DataW.trod_int ht h
  exact⟨n,cs_one (.i k n),hw⟩⟩
theorem opn_bool {P:Program}{t:TypeId}(ht:P.underlying t=some .bool):Opn P t (fun n=>[.b n]) (fun _=>True):=
 ⟨fun enc w fuel cs x h=>by
  obtain⟨n,rfl,_⟩:=DataW.trod_bool ht h
  exact⟨n,cs_one (.b n),trivial⟩⟩
theorem opn_string {P:Program}{t:TypeId}(ht:P.underlying t=some .string):Opn P t (fun n=>[.s n]) (fun s=>s.size≤maxLen):=
 ⟨fun enc w fuel cs x h=>by
  obtain⟨s,rfl,_,hs⟩:=DataW.trod_string ht h
  exact⟨s,cs_one (.s s),hs⟩⟩
theorem opn_slice {α:Type}{P:Program}{t e:TypeId}{f:α→List C}{wf:α→Prop}(ht:P.underlying t=some (.slice e))(hp:0<P.cellsOf e)(he:Opn P e f wf):
  Opn P t (fun xs:List α=>[.row false e (xs.map f)]) (fun xs=>xs.length≤maxLen∧∀x∈xs,wf x):=
 ⟨fun enc w fuel cs x h=>by
  rcases open_slice ht h with ⟨rfl,_⟩|⟨a,len,cap,m,n,D,Pl,rfl,_,hl,hm,hmm,_,hi⟩
  ·refine⟨[],cs_one ?_,by simp,by simp⟩
   exact .ro e [] none 0 0 [] (by simp) rfl (Nat.le_refl _) (fun _=>rfl) (by simp) (fun h=>absurd h (by simp)) (by simpa using CsRel.nil)
  ·have hmc:m=cap:=by simpa using hmm
   have key:∀q,q≤len→∃(xs:List α)(vals:List Value),xs.length=q∧vals.length=q*P.cellsOf e∧(∀k u,vals[k]? =some u→w.cell? (a.add k)=some u)∧CsRel P w (old w) (xs.map f).flatten vals []∧(∀x∈xs,wf x)∧∀x∈xs.map f,x.length=P.cellsOf e:=by
    intro q
    induction q with
    |zero=>exact fun _=>⟨[],[],rfl,by simp,by simp,.nil,by simp,by simp⟩
    |succ q ih=>
     intro hq
     obtain⟨xs,vals,h1,h2,h3,h4,h5,h6⟩:=ih (by omega)
     obtain⟨cs',hc,hd⟩:=hi q (by omega)
     obtain⟨y,hy,hw⟩:=he.at_ enc w _ _ _ hd
     obtain⟨_,hcl,hat⟩:=World.cells?_some hc
     have hfl:(f y).length=P.cellsOf e:=by rw[←hy.len,hcl]
     refine⟨xs++[y],vals++cs',by simp[h1],by rw[List.length_append,h2,hcl,Nat.succ_mul],fun k u hk=> ?_,?_,?_,?_⟩
     ·rw[List.getElem?_append]at hk
      split at hk
      ·exact h3 k u hk
      ·rename_i hge
       have hlt:k-vals.length<P.cellsOf e:=by
        have:=(List.getElem?_eq_some_iff.1 hk).1
        omega
       have h7:=hat _ hlt
       rw[Go.Deep.add_add,←h2,show vals.length+(k-vals.length)=k by omega]at h7
       rw[h7]
       exact hk
     ·rw[List.map_append,List.flatten_append]
      have:=CsRel.append hy h4
      simpa using this
     ·intro x hx
      rcases List.mem_append.1 hx with hx|hx
      ·exact h5 x hx
      ·simp only[List.mem_singleton]at hx;subst hx;exact hw
     ·intro x hx
      rw[List.map_append]at hx
      rcases List.mem_append.1 hx with hx|hx
      ·exact h6 x hx
      ·simp only[List.map_cons,List.map_nil,List.mem_singleton]at hx;subst hx;exact hfl
   obtain⟨xs,vals,h1,h2,h3,h4,h5,h6⟩:=key len (Nat.le_refl _)
   refine⟨xs,cs_one ?_,by omega,h5⟩
   refine .ro e (xs.map f) (some a) len cap vals h6 (by simp[h1]) hl (by simp) h2 (fun hpos=>⟨a,rfl,?_,h3⟩) h4
   have hv:0<vals.length:=by rw[h2];exact Nat.mul_pos hpos hp
   have:=h3 0 _ (List.getElem?_eq_getElem hv)
   have hb:(a.add 0).block=a.block:=by unfold Addr.add;split<;>rfl
   unfold World.cell? at this
   rw[hb]at this
   cases hh:w.heap[a.block]? with
   |none=>simp[hh]at this
   |some z=>exact(Array.getElem?_eq_some_iff.1 hh).1⟩
structure OpnF {α:Type} (P:Program) (fs:List Field) (off z:Nat) (f:α→List C) (wf:α→Prop):Prop where
 at_:∀{H:Type}(enc:TypeId×Value→H)(w:World)(fuel:Nat)(cs:List Value),
  (∀f∈fs,∃y,DataW.trod enc P w 0 (fun _=>true) true fuel f.type ((cs.drop f.offset).take (P.cellsOf f.type))=some y)→off+z≤cs.length→∃a,CsRel P w (old w) (f a) ((cs.drop off).take z) []∧wf a
theorem opnF_one {α:Type}{P:Program}{g:Field}{off z:Nat}{f:α→List C}{wf:α→Prop}(ho:g.offset=off)(hz:P.cellsOf g.type=z)(h:Opn P g.type f wf):OpnF P [g] off z f wf:=by
 refine⟨fun{H} enc w fuel cs hf _=> ?_⟩
 obtain⟨y,hy⟩:=hf g (by simp)
 rw[ho,hz]at hy
 exact h.at_ enc w fuel _ y hy
theorem opnF_cons {α β:Type}{P:Program}{g:Field}{fs:List Field}{off z z':Nat}{f:α→List C}{f':β→List C}{wf:α→Prop}{wf':β→Prop}(ho:g.offset=off)(hz:P.cellsOf g.type=z)(h:Opn P g.type f wf)(hs:OpnF P fs (off+z) z' f' wf'):
  OpnF P (g::fs) off (z+z') (fun x:α×β=>f x.1++f' x.2) (fun x=>wf x.1∧wf' x.2):=by
 refine⟨fun{H} enc w fuel cs hf hl=> ?_⟩
 obtain⟨y,hy⟩:=hf g (by simp)
 rw[ho,hz]at hy
 obtain⟨a,ha,hwa⟩:=h.at_ enc w fuel _ y hy
 obtain⟨b,hb,hwb⟩:=hs.at_ enc w fuel cs (fun g hg=>hf g (by simp[hg])) (by omega)
 refine⟨(a,b),?_,hwa,hwb⟩
 rw[List.take_add,List.drop_drop]
 simpa using CsRel.append hb ha
theorem opn_struct {α β:Type}{P:Program}{t:TypeId}{fs:Array Field}{l:List Field}{z:Nat}{f:α→List C}{wf:α→Prop}{f':β→List C}{wf':β→Prop}(ht:P.underlying t=some (.struct fs))(hl:fs.toList=l)(hC:P.cellsOf t=z)(h:OpnF P l 0 z f wf)(gi:α→β)(hf:∀a,f' (gi a)=f a)(hw:∀a,wf a→wf' (gi a)):
  Opn P t f' wf':=
 ⟨fun enc w fuel cs x hx=>by
  obtain⟨xs,n,_,_,hcl,hxl,hi⟩:=DataW.trod_struct ht hx
  have hfl:∀f∈l,∃y,DataW.trod enc P w 0 (fun _=>true) true n f.type ((cs.drop f.offset).take (P.cellsOf f.type))=some y:=by
   intro f hf
   rw[←hl]at hf
   obtain⟨i,hi',hif⟩:=List.getElem_of_mem hf
   have h1:fs[i]? =some f:=by
    rw[Array.getElem?_eq_some_iff]
    exact⟨by simpa using hi',by simpa using hif⟩
   have h2:=hi i f h1
   rw[List.getElem?_eq_getElem (by rw[hxl];simpa using hi')]at h2
   exact⟨_,h2⟩
  obtain⟨a,ha,hwa⟩:=h.at_ enc w n cs hfl (by omega)
  have hall:(cs.drop 0).take z=cs:=by
   rw[List.drop_zero,List.take_of_length_le (by omega)]
  rw[hall]at ha
  exact⟨gi a,by rw[hf];exact ha,hw a hwa⟩⟩
theorem opn_arg {α:Type}{P:Program}{t:TypeId}{f:α→List C}{wf:α→Prop}(h:Opn P t f wf){H:Type}{enc:TypeId×Value→H}{w:World}{v:Value}{x:DataW H}{p:List MemPlace}
  (hv:DataW.Trod enc P w 0 (fun _=>true) true t v x p):∃a,CsRel P w (old w) (f a) v.cells.toList []∧wf a:=by
 obtain⟨fuel,hf⟩:=hv
 exact h.at_ enc w fuel _ _ hf
theorem cs_vs {P:Program}{j:Nat→Hd}{w:World}{S:Nat→Prop}:∀{cs:List C}{vs:List Value},CsRel P w S cs vs []→VsRel P j w S (cs.map .c) vs
 |[],vs,h=>by cases h;simp only[List.map_nil,VsRel]
 |c::cs,vs,h=>by
  generalize hL:([]:List Nat)=L0 at h
  cases h with
  |cons _ _ v vs' L L' h hs=>
   obtain⟨rfl,rfl⟩:=List.append_eq_nil_iff.1 hL.symm
   simp only[List.map_cons,VsRel,VRel]
   exact⟨v,vs',rfl,h,cs_vs hs⟩
theorem arg_agg {P:Program}{j:Nat→Hd}{w:World}{S:Nat→Prop}{cs:List C}{us:Array Value}(h:CsRel P w S cs (Value.agg us).cells.toList []){vs:List V}(hv:cs.map .c=vs):VRel P j w S (.agg vs) (.agg us):=by
 subst hv
 simp only[VRel]
 exact⟨us.toList,by simp,cs_vs h⟩
theorem law_calls {P:Program}{f:Nat}{vs:List V}{b:Bool}(h:Says P f vs 0 [] (.c (.b b)) []){w:World}(hg:GlbOk w fun _=>False){args:Array Value}(ha:VsRel P (fun _=>.no) w (old w) vs args.toList):Calls P f args w fun e w'=>e=.returned (.bool b)∧Below w.heap.size w w':=by
 have hm:Mem P [] (fun _=>.no) (fun _=>[]) (old w) w:=⟨fun r=>⟨rfl,rfl⟩,fun _=>.nil,fun _ _ _ h=>by simp at h,fun _ _ h=>by simp at h,fun b hb=>hb⟩
 have:=h.2 (fun _=>.no) (fun _=>[]) (old w) w args.toList hm (fun _ _=>⟨rfl,rfl⟩) ha (fun t ht=>⟨fun hr=>by obtain⟨r,hr⟩:=hr;simp at hr,(hg t ht).2⟩)
 rw[show args.toList.toArray=args by simp]at this
 refine this.mono ?_
 rintro e w' ⟨v,j',L',S',rfl,hv,_,hs⟩
 simp only[VRel]at hv
 cases hv
 exact⟨rfl,hs.os,hs.tape,hs.output,hs.heap,fun k hk=>hs.frame k hk (by rintro⟨r,hr⟩;simp at hr)⟩
end Go.Proofs.YthfjkhlgkjgkjaaGreatDoor.Pe
