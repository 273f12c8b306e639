import Derived.Deep.Slices
import Derived.Deep.Fields
import Derived.ChangeArms
import Derived.OpenShut
import Derived.DataReads
import Derived.Below
import Derived.Test.YtmcbbifeekhmgaaGreatDoorPeTy
namespace Go.Proofs.YtmcbbifeekhmgaaGreatDoor.Pe
open Go Go.RowKit Go.Deep Go.ChangeShapes Go.WideShapes
abbrev old (w:World)(b:Nat):Prop:=b<w.heap.size
abbrev WI (k:IntKind)(n:Int):Prop:=(Lit.int k n).wf=true
structure Opn {α:Type} (P:Program) (t:TypeId) (f:α->List C) (wf:α->Prop):Prop where
 at_:∀{H:Type}(enc:TypeId×Value->H)(w:World)(fuel:Nat)(cs:List Value)(x:DataW H×List MemPlace),
  DataW.trod enc P w 0 (λ_=>true) true fuel t cs=some x->∃a,CsRel P w (old w) (f a) cs []/\wf a
theorem cs_one {P:Program}{w:World}{S:Nat->Prop}{c:C}{v:Value}(h:CRel P w S c v []):CsRel P w S [c] [v] []:=by
 simpa using CsRel.cons c [] v [] [] [] h .nil
theorem opn_int {P:Program}{t:TypeId}{k:IntKind}(ht:P.underlying t=some (.int k)):Opn P t (λn=>[.i k n]) (λn=>WI k n):=
 ⟨λenc w fuel cs x h=>by
  obtain⟨n,rfl,_,hw⟩:=DataW.trod_int ht h
  exact⟨n,cs_one (.i k n),hw⟩⟩
theorem opn_slice {α:Type}{P:Program}{t e:TypeId}{f:α->List C}{wf:α->Prop}(ht:P.underlying t=some (.slice e))(hp:0<P.cellsOf e)(he:Opn P e f wf):
  Opn P t (λxs:List α=>[.row false e (xs.map f)]) (λxs=>xs.length<=maxLen/\∀x∈xs,wf x):=
 ⟨λenc w fuel cs x h=>by
  rcases open_slice ht h with ⟨rfl,_⟩|⟨a,len,cap,m,n,D,Pl,rfl,_,hl,hm,hmm,_,hi⟩
  ·refine⟨[],cs_one ?_,by simp,by simp⟩
   exact .ro e [] none 0 0 [] (by simp) rfl (Nat.le_refl _) (λ_=>rfl) (by simp) (λh=>absurd h (by simp)) (by simpa using CsRel.nil)
  ·have hmc:m=cap:=by simpa using hmm
   have key:∀q,q<=len->∃(xs:List α)(vals:List Value),xs.length=q/\vals.length=q*P.cellsOf e/\(∀k u,vals[k]? =some u->w.cell? (a.add k)=some u)/\CsRel P w (old w) (xs.map f).flatten vals []/\(∀x∈xs,wf x)/\∀x∈xs.map f,x.length=P.cellsOf e:=by
    intro q
    induction q with
    |zero=>exact λ_=>⟨[],[],rfl,by simp,by simp,.nil,by simp,by simp⟩
    |succ q ih=>
     intro hq
     obtain⟨xs,vals,h1,h2,h3,h4,h5,h6⟩:=ih (by omega)
     obtain⟨cs',hc,hd⟩:=hi q (by omega)
     obtain⟨y,hy,hw⟩:=he.at_ enc w _ _ _ hd
     obtain⟨_,hcl,hat⟩:=World.cells?_some hc
     have hfl:(f y).length=P.cellsOf e:=by rw[<-hy.len,hcl]
     refine⟨xs++[y],vals++cs',by simp[h1],by rw[List.length_append,h2,hcl,Nat.succ_mul],λk u hk=> ?_,?_,?_,?_⟩
     ·rw[List.getElem?_append]at hk
      split at hk
      ·exact h3 k u hk
      ·rename_i hge
       have hlt:k-vals.length<P.cellsOf e:=by
        have:=(List.getElem?_eq_some_iff.1 hk).1
        omega
       have h7:=hat _ hlt
       rw[Go.Deep.add_add,<-h2,show vals.length+(k-vals.length)=k by omega]at h7
       rw[h7]
       exact hk
     ·rw[List.map_append,List.flatten_append]
      have:=CsRel.append hy h4
      simpa using this
     ·intro x hx
      rcases List.mem_append.1 hx with hx|hx
      ·exact h5 x hx
      ·simp only[List.mem_singleton]at hx;subst hx;exact hw
     ·intro x hx
      rw[List.map_append]at hx
      rcases List.mem_append.1 hx with hx|hx
      ·exact h6 x hx
      ·simp only[List.map_cons,List.map_nil,List.mem_singleton]at hx;subst hx;exact hfl
   obtain⟨xs,vals,h1,h2,h3,h4,h5,h6⟩:=key len (Nat.le_refl _)
   refine⟨xs,cs_one ?_,by omega,h5⟩
   refine .ro e (xs.map f) (some a) len cap vals h6 (by simp[h1]) hl (by simp) h2 (λhpos=>⟨a,rfl,?_,h3⟩) h4
   have hv:0<vals.length:=by rw[h2];exact Nat.mul_pos hpos hp
   have:=h3 0 _ (List.getElem?_eq_getElem hv)
   have hb:(a.add 0).block=a.block:=by unfold Addr.add;split<;>rfl
   unfold World.cell? at this
   rw[hb]at this
   cases hh:w.heap[a.block]? with
   |none=>simp[hh]at this
   |some z=>exact(Array.getElem?_eq_some_iff.1 hh).1⟩
theorem opn_arg {α:Type}{P:Program}{t:TypeId}{f:α->List C}{wf:α->Prop}(h:Opn P t f wf){H:Type}{enc:TypeId×Value->H}{w:World}{v:Value}{x:DataW H}{p:List MemPlace}
  (hv:DataW.Trod enc P w 0 (λ_=>true) true t v x p):∃a,CsRel P w (old w) (f a) v.cells.toList []/\wf a:=by
 obtain⟨fuel,hf⟩:=hv
 exact h.at_ enc w fuel _ _ hf
structure OpnF {α:Type} (P:Program) (fs:List Field) (off z:Nat) (f:α->List C) (wf:α->Prop):Prop where
 at_:∀{H:Type}(enc:TypeId×Value->H)(w:World)(fuel:Nat)(cs:List Value),
  (∀f∈fs,∃y,DataW.trod enc P w 0 (λ_=>true) true fuel f.type ((cs.drop f.offset).take (P.cellsOf f.type))=some y)->off+z<=cs.length->∃a,CsRel P w (old w) (f a) ((cs.drop off).take z) []/\wf a
theorem law_calls {P:Program}{f:Nat}{vs:List V}{b:Bool}(h:Says P f vs 0 [] (.c (.b b)) []){w:World}(hg:GlbOk w λ_=>False){args:Array Value}(ha:VsRel P (λ_=>.no) w (old w) vs args.toList):Calls P f args w λe w'=>e=.returned (.bool b)/\Below w.heap.size w w':=by
 have hm:Mem P [] (λ_=>.no) (λ_=>[]) (old w) w:=⟨λr=>⟨rfl,rfl⟩,λ_=>.nil,λ_ _ _ h=>by simp at h,λ_ _ h=>by simp at h,λb hb=>hb⟩
 have:=h.2 (λ_=>.no) (λ_=>[]) (old w) w args.toList hm (λ_ _=>⟨rfl,rfl⟩) ha (λt ht=>⟨λhr=>by obtain⟨r,hr⟩:=hr;simp at hr,(hg t ht).2⟩)
 rw[show args.toList.toArray=args by simp]at this
 refine this.mono ?_
 rintro e w' ⟨v,j',L',S',rfl,hv,_,hs⟩
 simp only[VRel]at hv
 cases hv
 exact⟨rfl,hs.os,hs.tape,hs.output,hs.heap,λk hk=>hs.frame k hk (by rintro⟨r,hr⟩;simp at hr)⟩
end Go.Proofs.YtmcbbifeekhmgaaGreatDoor.Pe
