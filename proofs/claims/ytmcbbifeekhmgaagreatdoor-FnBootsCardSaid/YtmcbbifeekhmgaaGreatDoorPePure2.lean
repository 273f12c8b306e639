import Derived.Test.YtmcbbifeekhmgaaGreatDoorPePure1
namespace Go.Proofs.YtmcbbifeekhmgaaGreatDoor.Pe
open Go Go.RowKit
section
variable {P:Program} {B:Begin} {N:Nat} {fr:Fr} {σ:St} {j:Nat->Hd} {L:Nat->List Nat} {S:Nat->Prop} {a:Act} {w:World}
theorem load_run {t n:Nat}{ag:Bool}(hs:shapeOf P t=some (n,ag)){ad:Addr}{v:Value}(hv:v=.pointer (some ad)){vals:List Value}{vs:List V}{x:V}(hm:mkV ag vs=some x)(hr:VsRel P j w S vs vals)(hl:vals.length=n)(hc:∀k u,vals[k]? =some u->w.cell? (ad.add k)=some u):
  ∃u,(Instr.loadAt t v).run P w=.ok u w/\VRel P j w S x u:=by
 obtain⟨hmr,hm1⟩:=mkV_rel hm hr
 refine⟨_,?_,hmr⟩
 rcases run_loadVar (w:=w) hs (x:=ad) (vals:=vals) hl hc with hrun|⟨hag,hn1⟩
 ·simp[Instr.loadAt,hv,Instr.sureAddr,hrun]
 ·grind
theorem drop_take_at {α:Type}{l cs:List α}{o n:Nat}(h:takeN n (l.drop o)=some cs):∃pre post,l=pre++(cs++post)/\(pre.length=o\/cs=[])/\cs.length=n:=by
 obtain⟨hsp,hln⟩:=takeN_some h
 refine⟨l.take o,(l.drop o).drop n,?_,?_,hln⟩
 ·grind [List.take_append_drop]
 grind [Nat.le_total,List.length_take,List.drop_eq_nil_of_le,List.append_eq_nil_iff]
theorem box_cells {g:Nat}{cur:Array Value}{e:TypeId}(hh:w.heap[g]? =some (.cells cur e (0,0))){v1 v3 v4:List Value}{o:Nat}(hcur:cur.toList=v1++(v3++v4))(ho:v1.length=o\/v3=[]):∀k u,v3[k]? =some u->w.cell? ((⟨g,o,none⟩:Addr).add k)=some u:=by
 intro k u hk
 have hkl:k<v3.length:=(List.getElem?_eq_some_iff.1 hk).1
 have ho':v1.length=o:=ho.resolve_right (by rintro rfl;simp at hkl)
 have:cur.toList[o+k]? =some u:=by
  grind
 have:cur[o+k]? =some u:=by simpa using this
 rw[add_off]
 simp[World.cell?,hh,this]
theorem pure1_run (h:Rel P B N fr σ j L S a w){o:Oper}{o':O}(ho:oOf P o=some o'){x:V}(hx:pure1 fr σ o'=some x):
  ∃v,Yields1 P a w o v/\VRel P j w S x v:=by
 rcases oOf_some ho with ho|rfl
 rotate_left
 ·simp only[pure1,reduceCtorEq]at hx
 unfold Yields1 execOp
 unfold oOf0 at ho
 cases hop:o.op<;>simp only[hop]at ho
 case move y=>
  simp only[Option.map_eq_some_iff]at ho
  obtain⟨y',hy,rfl⟩:=ho
  simp only[pure1]at hx
  obtain rfl:=nf_some hx
  exact⟨_,rfl,aOf_rel h hy⟩
 case assign y=>
  simp only[Option.map_eq_some_iff]at ho
  obtain⟨y',hy,rfl⟩:=ho
  simp only[pure1]at hx
  obtain rfl:=nf_some hx
  exact⟨_,rfl,aOf_rel h hy⟩
 case pick c y z=>
  split at ho<;>simp only[Option.some.injEq,reduceCtorEq]at ho
  rename_i c' y' z' hc hy hz
  subst ho
  have hc':=aOf_rel h hc
  simp only[pure1]at hx
  split at hx<;>try simp only[reduceCtorEq]at hx
  ·rename_i e
   rw[e]at hc'
   simp only[VRel]at hc'
   generalize hac:a.eval c=vc at*
   cases hc'
   obtain rfl:=nf_some hx
   exact⟨a.eval y,by simp[hac,asBool],aOf_rel h hy⟩
  ·rename_i e
   rw[e]at hc'
   simp only[VRel]at hc'
   generalize hac:a.eval c=vc at*
   cases hc'
   obtain rfl:=nf_some hx
   exact⟨a.eval z,by simp[hac,asBool],aOf_rel h hz⟩
 case nilCheck y=>
  simp only[Option.map_eq_some_iff]at ho
  obtain⟨y',hy,rfl⟩:=ho
  have hv:=aOf_rel h hy
  simp only[pure1]at hx
  split at hx<;>simp only[Option.some.injEq,reduceCtorEq]at hx<;>subst hx<;>rename_i e<;>rw[e]at hv<;>have hv0:=hv<;>simp only[VRel]at hv
  ·obtain⟨g,_,hv⟩:=hv
   exact⟨a.eval y,by simp[hv],hv0⟩
  ·obtain⟨g,n,c,_,_,hv⟩:=hv
   exact⟨a.eval y,by simp[hv],hv0⟩
  ·obtain⟨ad,vals,hv,_⟩:=hv
   exact⟨a.eval y,by simp[hv],hv0⟩
  ·obtain⟨us,hv,_⟩:=hv
   exact⟨a.eval y,by simp[hv],hv0⟩
 case binOp op t y z u=>
  split at ho<;>try simp only[reduceCtorEq]at ho
  rename_i y' z' hy hz
  have hy':=aOf_rel h hy
  have hz':=aOf_rel h hz
  split at ho
  ·rename_i fs0 hfs0
   have key:∀ne ks,(op=if ne then .neq else .eql)->plainOf P t=some ks->o'=.eqs ne ks y' z'->∃v,(do eqGuard op t y z (a.eval y) (a.eval z);let r <-binOp op t (a.eval y) (a.eval z);pure (.value r):Sem Next).run P w=.ok (.value v) w/\VRel P j w S x v:=by
    rintro ne ks rfl hpl rfl
    simp only[pure1]at hx
    split at hx<;>try simp only[reduceCtorEq]at hx
    rename_i us vs e1 e2
    split at hx<;>simp only[Option.some.injEq,reduceCtorEq]at hx
    rename_i r hr
    subst hx
    rw[e1]at hy'
    rw[e2]at hz'
    simp only[VRel]at hy' hz'
    obtain⟨as,hay,h1⟩:=hy'
    obtain⟨bs,haz,h2⟩:=hz'
    unfold plainOf at hpl
    simp only[hfs0]at hpl
    split at hpl<;>try (simp only[reduceCtorEq]at hpl;done)
    rename_i hpg
    simp only[Bool.or_eq_false_iff]at hpg
    have hfo:P.fieldsOf t=fs0:=by simp[Program.fieldsOf,hfs0]
    have hrun:(Op.equalIn 10000 t (.agg as.toArray) (.agg bs.toArray)).run P w=.ok r w:=by
     rw[run_equalIn_struct w 9999 t _ _ (by rw[hfo];exact hfs0) hpg.1,hfo]
     exact eqFields_run (d:=9998) (xs:=as.toArray) (ys:=bs.toArray) hpl hr h1 h2 (λq u hq=>by simpa using hq) (λq u hq=>by simpa using hq)
    refine⟨.bool (r ^^ ne),?_,by simp only[VRel];exact .b _⟩
    rw[hay,haz]
    simp only[Sem.run_bind,run_eqGuard_agg w _ t y z _ _ hpg.2,Result.andThen_ok]
    cases ne
    ·simp only[Bool.false_eq_true,if_false,run_eql_struct,hrun,Result.andThen_ok,Sem.run_pure,Bool.bne_false]
    ·simp only[if_true,run_neq_struct,hrun,Result.andThen_ok,Sem.run_pure,Bool.bne_true]
   split at ho<;>simp only[Option.some.injEq,reduceCtorEq]at ho
   ·rename_i ks hks
    obtain⟨v,h1,h2⟩:=key false ks rfl hks ho.symm
    exact⟨v,by simpa using h1,h2⟩
   ·rename_i ks hks
    obtain⟨v,h1,h2⟩:=key true ks rfl hks ho.symm
    exact⟨v,by simpa using h1,h2⟩
  ·rename_i hub
   have key:∀ne,(op=if ne then .neq else .eql)->o'=.bb ne y' z'->∃v,(do eqGuard op t y z (a.eval y) (a.eval z);let r <-binOp op t (a.eval y) (a.eval z);pure (.value r):Sem Next).run P w=.ok (.value v) w/\VRel P j w S x v:=by
    rintro ne rfl rfl
    simp only[pure1]at hx
    split at hx<;>simp only[Option.some.injEq,reduceCtorEq]at hx
    rename_i b1 b2 e1 e2
    subst hx
    rw[e1]at hy'
    rw[e2]at hz'
    simp only[VRel]at hy' hz'
    generalize hay:a.eval y=vy at*
    generalize haz:a.eval z=vz at*
    cases hy'
    cases hz'
    refine⟨_,?_,by simp only[VRel];exact .b _⟩
    have hg:(eqGuard (if ne then .neq else .eql) t y z (.bool b1) (.bool b2)).run P w=.ok () w:=by
     unfold eqGuard
     split<;>rfl
    simp only[Sem.run_bind,hg,Result.andThen_ok,bool_binOp ne b1 b2 hub,Sem.run_pure]
   split at ho<;>simp only[Option.some.injEq,reduceCtorEq]at ho
   ·obtain⟨v,h1,h2⟩:=key false rfl ho.symm
    exact⟨v,by simpa using h1,h2⟩
   ·obtain⟨v,h1,h2⟩:=key true rfl ho.symm
    exact⟨v,by simpa using h1,h2⟩
  ·simp only[Option.some.injEq]at ho
   subst ho
   simp only[pure1]at hx
   unfold binV at hx
   split at hx
   ·rename_i k m k' n e1 e2
    split at hx
    ·rename_i hk
     subst hk
     rw[e1]at hy'
     rw[e2]at hz'
     simp only[VRel]at hy' hz'
     generalize hay:a.eval y=vy at*
     generalize haz:a.eval z=vz at*
     cases hy'
     cases hz'
     obtain⟨v,hv,hr⟩:=int_binOp (P:=P) (j:=j) (w:=w) (S:=S) (op:=op) (k:=k) (x:=m) (y:=n) (v:=x) (t:=t) (by unfold binV;simp only[if_true];exact hx)
     refine⟨v,?_,hr⟩
     have hg:(eqGuard op t y z (.int k m) (.int k n)).run P w=.ok () w:=by
      unfold eqGuard
      split<;>rfl
     simp[hay,haz,hg,hv]
    ·simp at hx
   ·rename_i m n e1 e2
    rw[e1]at hy'
    rw[e2]at hz'
    simp only[VRel]at hy' hz'
    generalize hay:a.eval y=vy at*
    generalize haz:a.eval z=vz at*
    cases hy'
    cases hz'
    obtain⟨v,hv,hr⟩:=string_binOp (P:=P) (j:=j) (w:=w) (S:=S) (op:=op) (x:=m) (y:=n) (v:=x) (t:=t) (by unfold binV;exact hx)
    refine⟨v,?_,hr⟩
    have hg:(eqGuard op t y z (.string m) (.string n)).run P w=.ok () w:=by
     unfold eqGuard
     split<;>rfl
    simp[hay,haz,hg,hv]
   ·simp at hx
 case unOp op t y=>
  simp only[Option.map_eq_some_iff]at ho
  obtain⟨y',hy,rfl⟩:=ho
  have hv:=aOf_rel h hy
  cases op<;>simp only[pure1,reduceCtorEq]at hx
  all_goals
   split at hx<;>simp only[Option.some.injEq,reduceCtorEq]at hx
   subst hx
   rename_i e
   rw[e]at hv
   simp only[VRel]at hv
   generalize hay:a.eval y=vy at*
   cases hv
   exact⟨_,by simp[hay,Op.unary,Op.intArith];rfl,by simp only[VRel];first|exact .b _|exact .i _ _⟩
 case convert s d y=>
  split at ho
  ·rename_i k1 k2 y' hs hd hy
   simp only[Option.some.injEq]at ho
   subst ho
   have hv:=aOf_rel h hy
   simp only[pure1]at hx
   split at hx<;>simp only[Option.some.injEq,reduceCtorEq]at hx
   subst hx
   rename_i e
   rw[e]at hv
   simp only[VRel]at hv
   generalize hay:a.eval y=vy at*
   cases hv
   refine⟨_,by simp[hay,convert,underlying,hs,hd,Conv.intToInt];rfl,by simp only[VRel];exact .i _ _⟩
  ·split at ho<;>simp only[Option.some.injEq,reduceCtorEq]at ho
   subst ho
   simp[pure1]at hx
  ·split at ho<;>try simp only[reduceCtorEq]at ho
   split at ho<;>simp only[Option.some.injEq,reduceCtorEq]at ho
   subst ho
   simp[pure1]at hx
  ·simp at ho
 case fieldAddr s y f=>
  split at ho<;>try simp only[reduceCtorEq]at ho
  rename_i fd y' hf hy
  split at ho<;>try simp only[reduceCtorEq]at ho
  rename_i n ag hs
  split at ho<;>simp only[Option.some.injEq,reduceCtorEq]at ho
  rename_i hn
  subst ho
  have hv:=aOf_rel h hy
  unfold fieldOf at hf
  split at hf<;>try simp only[reduceCtorEq]at hf
  rename_i fs hfs
  obtain⟨i,d,hi,hin,_,_⟩:=shapeOf_some hs
  have hrun:∀ad:Addr,a.eval y=.pointer (some ad)->(Instr.fieldAt s (a.eval y) f).run P w=.ok (.pointer (some (ad.add fd.offset))) w:=by
   intro ad hy
   simp[Instr.fieldAt,hy,underlying,hfs,hf,Instr.sureAddr,fieldPlace,sizeOf,typeInfo,hi,hin]
   exact λh0=>(hn h0).elim
  simp only[pure1]at hx
  split at hx<;>simp only[Option.some.injEq,reduceCtorEq]at hx<;>subst hx<;>rename_i e<;>rw[e]at hv<;>simp only[VRel]at hv
  ·obtain⟨g,hg,hv⟩:=hv
   exact⟨_,by simp[hrun _ hv];rfl,by simp only[VRel];exact⟨g,hg,by rw[add_off]⟩⟩
  ·obtain⟨g,n,c,hh,hlt,hv⟩:=hv
   exact⟨_,by simp[hrun _ hv];rfl,by simp only[VRel];exact⟨g,n,c,hh,hlt,by rw[add_off,Nat.add_assoc]⟩⟩
  ·obtain⟨ad,vals,hv,hs,hc,hcs⟩:=hv
   refine⟨_,by simp[hrun _ hv];rfl,?_⟩
   simp only[VRel]
   refine⟨_,vals.drop fd.offset,rfl,?_,vals_add hc _,drop_rel hcs _⟩
   have:(ad.add fd.offset).block=ad.block:=by unfold Addr.add;split<;>rfl
   rw[this]
   exact hs
 case field t y f=>
  split at ho<;>simp only[reduceCtorEq,Option.map_eq_some_iff]at ho
  rename_i fd y' hf hy
  obtain⟨⟨n,ag⟩,hs,rfl⟩:=ho
  have hv:=aOf_rel h hy
  unfold fieldOf at hf
  split at hf<;>try simp only[reduceCtorEq]at hf
  rename_i fs hfs
  simp only[pure1]at hx
  split at hx<;>try simp only[reduceCtorEq]at hx
  rename_i vs e
  rw[e]at hv
  simp only[VRel]at hv
  obtain⟨us,hv,hvs⟩:=hv
  split at hx<;>try simp only[reduceCtorEq]at hx
  rename_i l htk
  obtain⟨pre,post,rfl,hpre,hln⟩:=drop_take_at htk
  obtain⟨u1,u2,rfl,h1,h2⟩:=hvs.split
  obtain⟨u3,u4,rfl,h3,h4⟩:=h2.split
  obtain⟨i,d,hi,hin,hd,hag⟩:=shapeOf_some hs
  have hu1:u1.length=pre.length:=h1.len
  have hu3:u3.length=n:=h3.len.trans hln
  obtain⟨hmr,hm1⟩:=mkV_rel hx h3
  have hpo:u1.length=fd.offset\/u3=[]:=by
   rcases hpre with hp|hp
   ·exact .inl (by omega)
   ·right;rw[hp]at hln;exact List.eq_nil_of_length_eq_zero (hu3.trans hln.symm)
  refine⟨if ag then .agg u3.toArray else u3.headD undef,?_,hmr⟩
  rcases hag with ⟨rfl,fs',rfl⟩|⟨rfl,h6,h7⟩
  ·have:(u1++(u3++u4)).toArray.extract fd.offset (fd.offset+n)=u3.toArray:=by
    apply Array.ext'
    simp only[List.extract_toArray,List.extract_eq_take_drop]
    rcases hpo with hp|hp
    ·rw[<-hp,List.drop_left]
     have:u1.length+n-u1.length=u3.length:=by omega
     rw[this,List.take_left]
    ·subst hp
     simp at hu3
     subst hu3
     simp
   simp[Instr.field,underlying,hfs,hf,hv,asAgg,part,isAgg,hd,sizeOf,typeInfo,hi,hin]
   simpa using this
  ·have hn1:u3.length=1:=hm1 rfl
   obtain⟨u,rfl⟩:∃u,u3=[u]:=by
    match u3,hn1 with
    |[v],_=>exact⟨v,rfl⟩
   have ho1:u1.length=fd.offset:=hpo.resolve_right (by simp)
   have hget:(u1++([u]++u4))[fd.offset]? =some u:=by
    rw[<-ho1,List.getElem?_append_right (Nat.le_refl _),Nat.sub_self,List.getElem?_append_left (by simp),List.getElem?_cons_zero]
   have ha:(isAgg fd.type).run P w=.ok false w:=by
    simp only[isAgg,Sem.run_bind,underlying,program,Sem.run,hd,Sem.run_pure,Result.andThen_ok]
   have hget':((u1++([u]++u4)).toArray)[fd.offset]? =some u:=by simpa using hget
   have hp:(part fd.type (u1++([u]++u4)).toArray fd.offset).run P w=.ok u w:=by
    unfold part
    rw[Sem.run_bind,ha,Result.andThen_ok]
    simp only[Bool.false_eq_true,if_false,hget',Sem.run_pure]
   have hfd:(Instr.field t (a.eval y) f).run P w=.ok u w:=by
    have hu:(underlying t).run P w=.ok (.struct fs) w:=by simp[underlying,hfs]
    unfold Instr.field
    simp only[Sem.run_bind,hu,Result.andThen_ok,hf,hv,asAgg,Sem.run_pure,hp]
   simp[hfd]
 case load t y=>
  split at ho<;>simp only[Option.some.injEq,reduceCtorEq]at ho
  rename_i n ag y' hs hy
  subst ho
  have hv:=aOf_rel h hy
  simp only[pure1]at hx
  split at hx<;>try simp only[reduceCtorEq]at hx
  ·rename_i r o e
   rw[e]at hv
   simp only[VRel]at hv
   obtain⟨g,hg,hv⟩:=hv
   split at hx<;>try simp only[reduceCtorEq]at hx
   rename_i cells hcells
   split at hx<;>try simp only[reduceCtorEq]at hx
   rename_i l htk
   obtain⟨g',cur,e',hg',hh,hvs,_,_⟩:=h.mem.boxAt hcells
   obtain rfl:g'=g:=by rw[hg]at hg';cases hg';rfl
   obtain⟨pre,post,rfl,hpre,hln⟩:=drop_take_at htk
   obtain⟨v1,v2,hcur,h1,h2⟩:=hvs.split
   obtain⟨v3,v4,rfl,h3,h4⟩:=h2.split
   have ho1:v1.length=o\/v3=[]:=by
    rcases hpre with hp|hp
    ·exact .inl (h1.len.trans hp)
    ·right;subst hp;simp only[VsRel]at h3;exact h3
   obtain⟨u,hu,hr⟩:=load_run hs hv hx h3 (h3.len.trans hln) (box_cells hh hcur ho1)
   exact⟨u,by simp[hu],hr⟩
  ·rename_i cs0 e
   rw[e]at hv
   simp only[VRel]at hv
   obtain⟨ad,vals,hv,hS,hc,hcs⟩:=hv
   split at hx<;>try simp only[reduceCtorEq]at hx
   rename_i cs htk
   split at hx<;>try simp only[reduceCtorEq]at hx
   rename_i vs hlk
   obtain⟨hsp,hln⟩:=takeN_some htk
   rw[hsp]at hcs
   obtain⟨v1,v2,L1,L2,rfl,hL,h1,h2⟩:=hcs.split
   have hvr:VsRel P j w S vs v1:=reads_rel hlk h1
   obtain⟨u,hu,hr⟩:=load_run hs hv hx hvr (h1.len.trans hln) (λk u hk=>hc k u (by rw[List.getElem?_append_left (List.getElem?_eq_some_iff.1 hk).1];exact hk))
   exact⟨u,by simp[hu],hr⟩
 case extract y k=>
  simp only[Option.map_eq_some_iff]at ho
  obtain⟨y',hy,rfl⟩:=ho
  have hv:=aOf_rel h hy
  simp only[pure1]at hx
  split at hx<;>try simp only[reduceCtorEq]at hx
  rename_i vs e
  rw[e]at hv
  simp only[VRel]at hv
  obtain⟨us,hv,hs⟩:=hv
  obtain⟨u,hu,hr⟩:=hs.at hx
  exact⟨u,by simp[Instr.extract,hv,hu],hr⟩
 case makeFunc fn first caps=>
  split at ho<;>simp only[reduceCtorEq,Option.map_eq_some_iff]at ho
  rename_i f hf0
  have hf1:first=#[]:=by cases hc:first;simp_all
  subst hf1
  obtain⟨ys,hys,rfl⟩:=ho
  simp only[pure1,Option.some.injEq]at hx
  subst hx
  have:=asOf_rel h hys
  refine⟨.func (.func f) #[] (caps.map a.eval),by simp only[Instr.makeFunc,Sem.run_bind,Sem.run_pure,Result.andThen_ok,Array.map_empty],?_⟩
  simp only[VRel]
  exact⟨caps.toList.map a.eval,congrArg (Value.func (.func f) #[]) (Array.ext' (by simp)),this⟩
 case call c=>
  split at ho
  ·rename_i hcal
   split at ho<;>try simp only[reduceCtorEq]at ho
   rename_i y t hca hct
   have hargs:c.args=#[y]:=by cases hc:c.args;simp_all
   have hts:c.argTypes=#[t]:=by cases hc:c.argTypes;simp_all
   split at ho<;>simp only[Option.map_eq_some_iff,reduceCtorEq]at ho
   ·rename_i e0 hu
    obtain⟨y',hy,rfl⟩:=ho
    have hv:=aOf_rel h hy
    simp only[pure1]at hx
    split at hx<;>simp only[Option.some.injEq,reduceCtorEq]at hx<;>subst hx<;>rename_i e<;>rw[e]at hv<;>simp only[VRel]at hv
    ·rename_i r e off len
     obtain⟨hd,_,hs⟩:=hv
     have hl:∃A cc,a.eval y=.slice A len cc:=by
      rcases hs with ⟨_,_,rfl,h4⟩|⟨g,n,c,A,cc,_,_,h4,_⟩
      ·exact⟨none,0,h4⟩
      ·exact⟨_,cc,h4⟩
     obtain⟨A,cc,hv⟩:=hl
     exact⟨.int .i64 len,by simp[hcal,resolve,invoke,hargs,hts,hv,builtin,Builtin.len_,underlying,hu,goInt],by simp only[VRel];exact .i _ _⟩
    ·generalize hay:a.eval y=vy at*
     cases hv with
     |ro _ rows A n c vals hz hn hc h0 hv hA hcs=>
      exact⟨.int .i64 n,by simp[hcal,resolve,invoke,hargs,hts,hay,builtin,Builtin.len_,underlying,hu,goInt],by simp only[VRel];rw[<-hn];exact .i _ _⟩
    ·have hay:=nil_own hv
     exact⟨.int .i64 0,by simp[hcal,resolve,invoke,hargs,hts,hay,builtin,Builtin.len_,underlying,hu,goInt],by simp only[VRel];exact .i _ _⟩
   ·rename_i hu
    obtain⟨y',hy,rfl⟩:=ho
    have hv:=aOf_rel h hy
    simp only[pure1]at hx
    split at hx<;>simp only[Option.some.injEq,reduceCtorEq]at hx
    subst hx
    rename_i e
    rw[e]at hv
    simp only[VRel]at hv
    generalize hay:a.eval y=vy at*
    cases hv
    exact⟨_,by simp[hcal,resolve,invoke,hargs,hts,hay,builtin,Builtin.len_,underlying,hu,goInt];rfl,by simp only[VRel];exact .i _ _⟩
  ·split at ho<;>try simp only[reduceCtorEq]at ho
   split at ho
   ·split at ho<;>simp only[Option.some.injEq,reduceCtorEq]at ho
    subst ho
    simp[pure1]at hx
   ·split at ho<;>try simp only[reduceCtorEq]at ho
    ·split at ho<;>try simp only[reduceCtorEq]at ho
     split at ho<;>try simp only[reduceCtorEq]at ho
     split at ho<;>simp only[Option.some.injEq,reduceCtorEq]at ho
     subst ho
     simp[pure1]at hx
    ·split at ho<;>simp only[Option.some.injEq,reduceCtorEq]at ho
     subst ho
     simp[pure1]at hx
  ·rename_i hcal
   split at ho<;>try simp only[reduceCtorEq]at ho
   rename_i y t hca hct
   have hargs:c.args=#[y]:=by cases hc:c.args;simp_all
   have hts:c.argTypes=#[t]:=by cases hc:c.argTypes;simp_all
   split at ho<;>simp only[Option.map_eq_some_iff,reduceCtorEq]at ho
   rename_i e0 hu
   obtain⟨y',hy,rfl⟩:=ho
   have hv:=aOf_rel h hy
   simp only[pure1]at hx
   split at hx<;>simp only[Option.some.injEq,reduceCtorEq]at hx
   subst hx
   rename_i e
   rw[e]at hv
   simp only[VRel]at hv
   have hay:=nil_own hv
   exact⟨.int .i64 0,by simp[hcal,resolve,invoke,hargs,hts,hay,builtin,Builtin.cap_,underlying,hu,goInt],by simp only[VRel];exact .i _ _⟩
  ·rename_i hcal
   split at ho<;>try simp only[reduceCtorEq]at ho
   rename_i y z hca
   have hargs:c.args=#[y,z]:=by cases hc:c.args;simp_all
   split at ho<;>simp only[Option.some.injEq,reduceCtorEq]at ho
   rename_i y' z' hy hz
   subst ho
   have hy':=aOf_rel h hy
   have hz':=aOf_rel h hz
   simp only[pure1]at hx
   split at hx<;>simp only[Option.some.injEq,reduceCtorEq]at hx
   subst hx
   rename_i m n e1 e2
   rw[e1]at hy'
   rw[e2]at hz'
   simp only[VRel]at hy' hz'
   generalize hay:a.eval y=vy at*
   generalize haz:a.eval z=vz at*
   cases hy'
   cases hz'
   exact⟨_,by simp[hcal,resolve,invoke,hargs,hay,haz,builtin,Builtin.max_,run_max2];rfl,by simp only[VRel];exact .i _ _⟩
  ·rename_i hcal
   split at ho<;>try simp only[reduceCtorEq]at ho
   rename_i y z hca
   have hargs:c.args=#[y,z]:=by cases hc:c.args;simp_all
   split at ho<;>simp only[Option.some.injEq,reduceCtorEq]at ho
   rename_i y' z' hy hz
   subst ho
   have hy':=aOf_rel h hy
   have hz':=aOf_rel h hz
   simp only[pure1]at hx
   split at hx<;>simp only[Option.some.injEq,reduceCtorEq]at hx
   subst hx
   rename_i m n e1 e2
   rw[e1]at hy'
   rw[e2]at hz'
   simp only[VRel]at hy' hz'
   generalize hay:a.eval y=vy at*
   generalize haz:a.eval z=vz at*
   cases hy'
   cases hz'
   exact⟨_,by simp[hcal,resolve,invoke,hargs,hay,haz,builtin,Builtin.min_,run_min2];rfl,by simp only[VRel];exact .i _ _⟩
  ·split at ho<;>try simp only[reduceCtorEq]at ho
   split at ho<;>try simp only[reduceCtorEq]at ho
   split at ho<;>simp only[Option.some.injEq,reduceCtorEq]at ho
   subst ho
   simp[pure1]at hx
  ·simp only[Option.map_eq_some_iff]at ho
   obtain⟨_,_,rfl⟩:=ho
   simp[pure1]at hx
  ·simp only[Option.map_eq_some_iff]at ho
   obtain⟨_,_,rfl⟩:=ho
   simp[pure1]at hx
  ·simp at ho
 case alloc t=>
  simp only[Option.map_eq_some_iff]at ho
  obtain⟨_,_,rfl⟩:=ho
  simp[pure1]at hx
 case box t y=>
  simp only[Option.map_eq_some_iff]at ho
  obtain⟨_,_,rfl⟩:=ho
  simp[pure1]at hx
 case build t ps=>
  split at ho<;>try simp only[reduceCtorEq]at ho
  split at ho<;>simp only[reduceCtorEq,Option.map_eq_some_iff]at ho
  obtain⟨_,_,rfl⟩:=ho
  simp[pure1]at hx
 case buildSlice t n ps=>
  split at ho<;>try simp only[reduceCtorEq]at ho
  split at ho<;>try simp only[reduceCtorEq]at ho
  split at ho<;>simp only[reduceCtorEq,Option.map_eq_some_iff]at ho
  obtain⟨_,_,rfl⟩:=ho
  simp[pure1]at hx
 case store t y z=>
  split at ho<;>simp only[Option.some.injEq,reduceCtorEq]at ho
  subst ho
  simp[pure1]at hx
 case makeSlice t l c=>
  split at ho<;>simp only[reduceCtorEq,Option.map_eq_some_iff]at ho
  obtain⟨_,_,rfl⟩:=ho
  simp[pure1]at hx
 case slice t y lo hi mx=>
  split at ho
  ·split at ho<;>simp only[reduceCtorEq,Option.map_eq_some_iff,Option.some.injEq]at ho
   ·subst ho;simp[pure1]at hx
   ·obtain⟨_,_,rfl⟩:=ho
    simp[pure1]at hx
  ·split at ho<;>try simp only[reduceCtorEq]at ho
   split at ho<;>simp only[reduceCtorEq,Option.map_eq_some_iff]at ho
   obtain⟨_,_,rfl⟩:=ho
   simp[pure1]at hx
 case indexAddr t y z=>
  split at ho<;>simp only[reduceCtorEq,Option.map_eq_some_iff]at ho
  obtain⟨_,_,rfl⟩:=ho
  simp[pure1]at hx
 case index t y z=>
  split at ho<;>simp only[Option.some.injEq,reduceCtorEq]at ho
  subst ho
  simp[pure1]at hx
 case makeMap t r=>
  split at ho<;>try simp only[reduceCtorEq]at ho
  split at ho<;>simp only[Option.some.injEq,reduceCtorEq]at ho
  subst ho
  simp[pure1]at hx
 case mapUpdate t m y z=>
  split at ho<;>try simp only[reduceCtorEq]at ho
  split at ho<;>simp only[Option.some.injEq,reduceCtorEq]at ho
  subst ho
  simp[pure1]at hx
 case insert t m y z=>
  split at ho<;>try simp only[reduceCtorEq]at ho
  split at ho<;>simp only[Option.some.injEq,reduceCtorEq]at ho
  subst ho
  simp[pure1]at hx
 case lookup t m y ok=>
  split at ho<;>try simp only[reduceCtorEq]at ho
  split at ho<;>try simp only[reduceCtorEq]at ho
  split at ho<;>simp only[Option.some.injEq,reduceCtorEq]at ho
  subst ho
  simp[pure1]at hx
 all_goals (first|(simp only[reduceCtorEq]at ho;done)|exact absurd ho (by simp))
end
end Go.Proofs.YtmcbbifeekhmgaaGreatDoor.Pe
