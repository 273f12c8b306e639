import Derived.Test.YtmcbbifeekhmgaaGreatDoorPeSpec
import Derived.WalkKit
import Derived.Lib.Walk
import Derived.Lib.AppendZerosOnto
import Derived.Lib.Overlaps
import Derived.Laws.Externs
import Derived.Laws.IdiomCopy
import Derived.Shelf.RegionOpenPlain
import Derived.Maps.AppendAt
import Derived.Lib.Fields
import Derived.Lib.Space
import Derived.KernelRfl
namespace Go.Proofs.YtmcbbifeekhmgaaGreatDoor.Pe
open Go Go.RowKit
theorem wp_copyR {P:Program}(w:World){o:Oper}{a:Act}{K:Act->World->Prop}{Q:Exit->Act->World->Prop}(d s:Operand)(t t':TypeId)
  (ho:o.op=.call { callee:=.builtin .copy,args:=#[d,s],argTypes:=#[t,t'] }) (v u:Value) (hd:a.eval d=v) (hs:a.eval s=u) {v':Value} {w':World}
  (hr:(Builtin.copy_ #[t,t'] o.type #[v,u]).run P w=.ok v' w') (h:K (a.put o.dst v') w'):o.wp P a w K Q:=by
 unfold Oper.wp execOp
 simp only[ho,resolve,invoke,builtin,Sem.run_bind,Sem.run_pure,Result.andThen_ok,List.map_toArray,List.map_cons,List.map_nil,hd,hs,hr]
 exact h
theorem wpList_copyR {P:Program}(w:World){ops:Array Oper}{rest:List Oper}{o:Oper}{a:Act}{Q:Exit->Act->World->Prop}(hgd:o.guard=none)(d s:Operand)(t t':TypeId)
  (ho:o.op=.call { callee:=.builtin .copy,args:=#[d,s],argTypes:=#[t,t'] }) (v u:Value) (hd:a.eval d=v) (hs:a.eval s=u) {v':Value} {w':World}
  (hr:(Builtin.copy_ #[t,t'] o.type #[v,u]).run P w=.ok v' w') (h:wpList P ops Q rest (a.put o.dst v') w'):wpList P ops Q (o::rest) a w:=
 wpList_plain hgd λ_ hK=>wp_copyR w d s t t' ho v u hd hs hr (hK _ _ h)
theorem step_copyR {P:Program}{ops:Array Oper}{o:Oper}{a:Act}{w:World}{K:Act->World->Prop}{Q:Exit->Act->World->Prop}{E:Prop}
  (hg:o.guard=none) (d x:Operand) (dT sT:TypeId) (hop:o.op=Op.call { callee:=Callee.builtin Builtin.copy,args:=#[d,x],argTypes:=#[dT,sT] })
  (v u:Value) (hd:a.eval d=v) (hx:a.eval x=u) {v':Value} {w':World} (hr:(Builtin.copy_ #[dT,sT] o.type #[v,u]).run P w=.ok v' w') (hK:K (a.put o.dst v') w'):
  if Region.wanted o (yielded ops a.tmps)=true then Oper.wp P o a w K Q else E:=by
 have hw:Region.wanted o (yielded ops a.tmps)=true:=by simp[Region.wanted,hg]
 rw[if_pos hw]
 unfold Oper.wp
 simp[execOp,hop,resolve,invoke,builtin,hd,hx,hr,Result.andThen]
 exact hK
theorem step_appendR {P:Program}{ops:Array Oper}{o:Oper}{a:Act}{w:World}{K:Act->World->Prop}{Q:Exit->Act->World->Prop}{E:Prop}
  (hg:o.guard=none) (d x:Operand) (dT sT:TypeId) (hop:o.op=Op.call { callee:=Callee.builtin Builtin.append,args:=#[d,x],argTypes:=#[dT,sT] })
  (v u:Value) (hd:a.eval d=v) (hx:a.eval x=u) {v':Value} {w':World} (hr:(Builtin.append_ #[dT,sT] o.type #[v,u]).run P w=.ok v' w') (hK:K (a.put o.dst v') w'):
  if Region.wanted o (yielded ops a.tmps)=true then Oper.wp P o a w K Q else E:=by
 have hw:Region.wanted o (yielded ops a.tmps)=true:=by simp[Region.wanted,hg]
 rw[if_pos hw]
 unfold Oper.wp
 simp[execOp,hop,resolve,invoke,builtin,hd,hx,hr,Result.andThen]
 exact hK
theorem run_copyZ {P:Program}(w:World)(dT sT ty elem:TypeId)(z:Nat)(g o dLen dCap:Nat)(a:Addr)(sLen sCap:Nat)(cur:Array Value)(t:TypeId)(cs:List Value)
  (hu:P.underlying dT=some (.slice elem)) (hs:(P.info? elem).map (·.size)=some z)
  (hg:w.heap[g]? =some (.cells cur t (0,0))) (hn:cs.length=Nat.min sLen dLen*z)
  (hsrc:∀j v,cs[j]? =some v->w.cell? (a.add j)=some v) (hfit:o+cs.length<=cur.size) (h1:∀v∈cs,v.oneCell'=true):
  (Builtin.copy_ #[dT,sT] ty #[.slice (some ⟨g,o,none⟩) dLen dCap,.slice (some a) sLen sCap]).run P w=
   .ok (goInt (Nat.min sLen dLen)) (w.setRow g (cur.toList.take o++cs++cur.toList.drop (o+cs.length)).toArray):=by
 have hl:=run_firstCells_some (P:=P) w z (Nat.min sLen dLen) a sLen sCap cs hn hsrc
 have hst:=run_storeCells_at P g o t cs 0 cur w hg (by simpa using hfit) h1
 cases hq:P.info? elem with
 |none=>simp[hq]at hs
 |some i=>
  have hi:i.size=z:=by simpa[hq]using hs
  simp[Builtin.copy_,run_underlying hu,Builtin.lenOf,sizeOf,typeInfo,hq,hi,hl,hst]
theorem cells_at {w:World}{g:Nat}{cur:Array Value}{t:TypeId}(hg:w.heap[g]? =some (.cells cur t (0,0))){o:Nat}{cs:List Value}(h:∀j v,cs[j]? =some v->cur.toList[o+j]? =some v):∀j v,cs[j]? =some v->w.cell? ((⟨g,o,none⟩:Addr).add j)=some v:=by
 intro j v hj
 have:=h j v hj
 rw[add_off]
 simp[World.cell?,hg]
 simpa using this
theorem setRow_size (w:World)(g:Nat)(cs:Array Value):(w.setRow g cs).heap.size=w.heap.size:=by simp[World.setRow]
theorem setRow_ne (w:World)(g:Nat)(cs:Array Value){k:Nat}(h:g≠k):(w.setRow g cs).heap[k]? =w.heap[k]? :=by
 unfold World.setRow
 simp only
 rw[Array.getElem?_modify,if_neg h]
theorem wpList_clearR {P:Program}(w:World){ops:Array Oper}{rest:List Oper}{o:Oper}{a:Act}{Q:Exit->Act->World->Prop}(hgd:o.guard=none)(s:Operand)(t:TypeId)
  (ho:o.op=.call { callee:=.builtin .clear,args:=#[s],argTypes:=#[t] }) (v:Value) (hs:a.eval s=v) {v':Value} {w':World}
  (hr:(Builtin.clear_ #[t] o.type #[v]).run P w=.ok v' w') (h:wpList P ops Q rest (a.put o.dst v') w'):wpList P ops Q (o::rest) a w:=
 wpList_plain hgd λ_ hK=>by
  unfold Oper.wp execOp
  simp only[ho,resolve,invoke,builtin,Sem.run_bind,Sem.run_pure,Result.andThen_ok,List.map_toArray,List.map_cons,List.map_nil,hs,hr]
  exact hK _ _ h
theorem run_clearZ {P:Program}(t e:TypeId)(z:Value)(ht:P.underlying t=some (.slice e))(hv:∀w,(zeroValue e).run P w=.ok z w)(h1:∀u∈z.cells.toList,u.oneCell'=true)(g o n:Nat)(cur:Array Value)(te:TypeId)(hn:0<n)
  (hfit:o+n*z.cells.size<=cur.size):
  ∃zs:List Value,zs.length=n*z.cells.size/\∀w:World,w.heap[g]? =some (.cells cur te (0,0))->∀ty c,(Builtin.clear_ #[t] ty #[.slice (some ⟨g,o,none⟩) n c]).run P w=.ok (.tuple #[]) (w.setRow g (cur.toList.take o++zs++cur.toList.drop (o+zs.length)).toArray):=by
 have hl:(Builtin.zeroCells z.cells n).toList.length=n*z.cells.size:=by rw[Array.length_toList,size_zeroCells]
 refine⟨(Builtin.zeroCells z.cells n).toList,hl,λw hg ty c=> ?_⟩
 have hst:=run_storeCells_at P g o te (Builtin.zeroCells z.cells n).toList 0 cur w hg (by rw[hl];omega) (by
  intro v hv'
  have hq:(Builtin.zeroCells z.cells n).toList=repl z.cells.toList n:=toList_madeCells z.cells n
  rw[hq]at hv'
  have:∀m:Nat,∀u∈repl z.cells.toList m,u∈z.cells.toList:=by
   intro m
   induction m with
   |zero=>intro u hu;simp[repl]at hu
   |succ m ih=>
    intro u hu
    simp only[repl,List.mem_append]at hu
    rcases hu with hu|hu
    ·exact hu
    ·exact ih u hu
  exact h1 v (this n v hv'))
 obtain⟨m,rfl⟩:∃m,n=m+1:=⟨n-1,by omega⟩
 simp only[Nat.add_zero]at hst
 simp[Builtin.clear_,run_underlying ht,hv,hst]
def InsC (P:Program)(f e z:Nat):Prop:=∀(w:World)(v:Value)(n i:Nat)(xs vals:List Value)(vb vc:Nat)(vcur:Array Value),w.ownsRow 0 e z v n xs->w.heap[vb]? =some (.cells vcur e (0,0))->vcur.toList.take z=vals->vals.length=1*z->v.ownBlock≠some vb->
 (∀u∈xs,u.oneCell'=true)->(∀u∈vals,u.oneCell'=true)->i<=n->n+1<=1073741824->
 Calls P f #[v,.int .i64 i,.slice (some ⟨vb,0,none⟩) 1 vc] w λe' w'=>∃v',e'=.returned v'/\w'.ownsRow 0 e z v' (n+1) (xs.take (i*z)++vals++xs.drop (i*z))/\w.grownBy w' v.ownBlock/\(v'.ownBlock=v.ownBlock\/v'.ownBlock=some w.heap.size)
def ins? {α:Type}(xs:List α)(i:Int)(vs:List α):Option (List α):=match vs with
 |[x]=>if 0<=i/\i<=xs.length/\xs.length+1<=1073741824 then some (xs.take i.toNat++x::xs.drop i.toNat)else none
 |_=>none
theorem own1_nodup (v:Value):(own1 v).Nodup:=by
 unfold own1
 split<;>simp
theorem own_flat {P:Program}{w:World}{S:Nat->Prop}{e:Nat}{rows:List (List C)}{v:Value}{L:List Nat}(h:CRel P w S (.row true e rows) v L)(hf:∀x∈rows,∀c∈x,flatC c=true):
  ∃vals,(∀x∈rows,x.length=P.cellsOf e)/\w.ownsRow 0 e (P.cellsOf e) v rows.length vals/\CsRel P w S rows.flatten vals []/\L=own1 v:=by
 cases h with
 |own _ _ _ vals L hz ho h=>
  obtain rfl:=flat_none h (by
   intro c hc
   obtain⟨x,hx,hc⟩:=List.mem_flatten.1 hc
   exact hf x hx c hc)
  exact⟨vals,hz,ho,h,by simp⟩
theorem vs3 {P:Program}{w:World}{S:Nat->Prop}{j:Nat->Hd}{x y u:V}{args:List Value}(h:VsRel P j w S [x,y,u] args):∃a b c,args=[a,b,c]/\VRel P j w S x a/\VRel P j w S y b/\VRel P j w S u c:=by
 simp only[VsRel]at h
 obtain⟨a,us,rfl,h1,b,vs,rfl,h2,c,ws,rfl,h3,rfl⟩:=h
 exact⟨a,b,c,rfl,h1,h2,h3⟩
theorem owns_block {w:World}{e z:Nat}{v:Value}{n:Nat}{xs:List Value}(h:w.ownsRow 0 e z v n xs){b:Nat}(hb:b∈own1 v):b<w.heap.size:=by
 rw[mem_own1]at hb
 exact(h.lt b hb).2
theorem sl_whole {w:World}{e z:Nat}{v:Value}{n:Nat}{xs:List Value}(h:w.ownsRow 0 e z v n xs):SlRel z v v 0 n:=by
 rcases h.2 with ⟨rfl,rfl⟩|⟨g,cap,cur,rfl,_,hh,hn,_⟩
 ·exact .inl ⟨rfl,rfl,rfl,rfl⟩
 ·exact .inr ⟨g,n,cap,⟨g,0,none⟩,cap,rfl,by omega,rfl,hn,by omega,.inl (by simp),λ_=>⟨rfl,rfl⟩⟩
theorem row_left {P:Program}{j:Nat->Hd}{L:Nat->List Nat}{S:Nat->Prop}{w w':World}{σ σo:St}{m e:Nat}{v v':Value}{rows:List (List C)}{vals:List Value}(hm:Mem P σ j L S w)(hj:∀r,m<=r->j r=.no/\L r=[])
  (hv:∀b∈own1 v,∃r,b∈L r) (hg:w.grownBy w' v.ownBlock) (hb:v'.ownBlock=v.ownBlock\/v'.ownBlock=some w.heap.size) (ho:w'.ownsRow 0 e (P.cellsOf e) v' rows.length vals) (hz:∀x∈rows,x.length=P.cellsOf e) (hcs:CsRel P w S rows.flatten vals [])
  (hσ:∀r,root σo r=if r<m then .gone else if r=m then .vec e rows else .no) (gk:GlbOk w λb=>∃r,b∈L r):
  ∃j' L' S',VRel P j' w' S' (.sl m e 0 rows.length) v'/\Mem P σo j' L' S' w'/\Since ⟨w,λb=>∃r,b∈L r,S,m,j,gk⟩ j' L' S' w':=by
 have hS:∀b,S b->w'.heap[b]? =w.heap[b]? :=λb hb2=>hg.block b (hm.stab b hb2) (λe=>by
  obtain⟨r,hr⟩:=hv b (mem_own1.2 e.symm)
  exact(hm.owned r b hr).2 hb2)
 have hown:∀b∈own1 v',(∃r,b∈L r)\/b=w.heap.size:=by
  intro b hb2
  rw[mem_own1]at hb2
  rcases hb with hq|hq
  ·left;exact hv b (by rw[mem_own1,<-hq];exact hb2)
  ·right;rw[hq]at hb2;cases hb2;rfl
 refine⟨λr=>if r=m then .hdr v' else j r,λr=>if r=m then own1 v' else[],S,?_,⟨λr=> ?_,λr=> ?_,λr r' b h1 h2=> ?_,λr b h1=> ?_,λb hb2=>Nat.lt_of_lt_of_le (hm.stab b hb2) hg.size⟩,⟨λr b h1=> ?_,λb hb2=>.inl hb2,λb hb2=>hb2,λr hr=> ?_,hg.os,hg.tape,hg.output,hg.size,λb h1 h2=>hg.block b h1 (λe=>h2 (hv b (mem_own1.2 e.symm)))⟩⟩
 ·unfold VRel
  exact⟨v',if_pos rfl,sl_whole ho⟩
 ·rw[hσ]
  by_cases h1:r<m
  ·rw[if_pos h1,if_neg (by omega)]
   rfl
  ·rw[if_neg h1]
   by_cases h2:r=m
   ·rw[if_pos h2,if_pos h2]
    have hc:CRel P w' S (.row true e rows) v' (own1 v'):=by
     have:=CRel.own (P:=P) (w:=w') (S:=S) e rows v' vals [] hz ho (hcs.stays (λb hb2=>⟨hb2,hS b hb2⟩) (by simp))
     simpa using this
    exact⟨v',if_pos h2,hc⟩
   ·rw[if_neg h2,if_neg h2]
    exact⟨(if_neg h2).trans (hj r (by omega)).1,rfl⟩
 ·split
  ·exact own1_nodup v'
  ·simp
 ·by_cases e1:r=m<;>by_cases e2:r'=m
  ·rw[e1,e2]
  ·rw[if_neg e2]at h2;cases h2
  ·rw[if_neg e1]at h1;cases h1
  ·rw[if_neg e1]at h1;cases h1
 ·split at h1
  ·refine⟨owns_block ho h1,λhb2=> ?_⟩
   rcases hown b h1 with ⟨r,hr⟩|rfl
   ·exact(hm.owned r b hr).2 hb2
   ·have:=hm.stab _ hb2
    omega
  ·cases h1
 ·split at h1
  ·rcases hown b h1 with hr|rfl
   ·exact .inl hr
   ·exact .inr (Nat.le_refl _)
  ·cases h1
 ·exact if_neg (by simp only at hr;omega)
theorem split_vals {P:Program}{w:World}{S:Nat->Prop}{z:Nat}{rows:List (List C)}{vals:List Value}(h:CsRel P w S rows.flatten vals [])(hz:∀x∈rows,x.length=z){i:Nat}(hi:i<=rows.length):
  CsRel P w S (rows.take i).flatten (vals.take (i*z)) []/\CsRel P w S (rows.drop i).flatten (vals.drop (i*z)) []:=by
 have hfl:rows.flatten=(rows.take i).flatten++(rows.drop i).flatten:=by rw[<-List.flatten_append,List.take_append_drop]
 rw[hfl]at h
 obtain⟨v1,v2,L1,L2,rfl,hL,g1,g2⟩:=h.split
 obtain⟨rfl,rfl⟩:L1=[]/\L2=[]:=by simpa using hL.symm
 have hl:v1.length=i*z:=by
  rw[g1.len,flat_len (λx hx=>hz x (List.mem_of_mem_take hx)),List.length_take,Nat.min_eq_left hi]
 rw[<-hl,List.take_left,List.drop_left]
 exact⟨g1,g2⟩
theorem says_ins {P:Program}{α:Type}{F:α->List C}{e f:Nat}(hen:∀args w,(callFunc f args).run P w=.ok (.enter f args) w)(hc:InsC P f e (P.cellsOf e))(hF:∀a,(F a).all flatC=true){xs vs r:List α}{i:Int}(h:ins? xs i vs=some r):
  Says P f [.sl 0 e 0 xs.length,VI i,.sl 1 e 0 vs.length] 2 [(0,.vec e (xs.map F)),(1,.vec e (vs.map F))] (.sl 2 e 0 r.length) [(0,.gone),(1,.gone),(2,.vec e (r.map F))]:=by
 unfold ins? at h
 split at h
 ·rename_i x
  split at h
  ·rename_i hb
   obtain rfl:=someO h
   obtain⟨k,rfl⟩:∃k:Nat,i=k:=⟨i.toNat,by omega⟩
   have hk:k<=xs.length:=by omega
   refine⟨hen,λj L S w args hm hj ha hg=> ?_⟩
   obtain⟨a,b,c,rfl,h1,h2,h3⟩:=vs3 ha
   simp only[VRel]at h2
   cases h2
   have hfx:∀ys:List α,∀r∈ys.map F,∀c∈r,flatC c=true:=λys r hr c hc=>by
    obtain⟨a,_,rfl⟩:=List.mem_map.1 hr
    exact List.all_eq_true.1 (hF a) c hc
   have own:∀(q:Nat)(ys:List α)(u:Value),root [(0,Rt.vec e (xs.map F)),(1,.vec e ([x].map F))] q=.vec e (ys.map F)->VRel P j w S (.sl q e 0 ys.length) u->
     ∃vals,(∀x∈ys.map F,x.length=P.cellsOf e)/\w.ownsRow 0 e (P.cellsOf e) u ys.length vals/\CsRel P w S (ys.map F).flatten vals []/\∀b∈own1 u,b∈L q:=by
    intro q ys u hr hu
    obtain⟨hd,hjq,hcr⟩:=hm.vecAt hr
    simp only[VRel]at hu
    obtain⟨hd',hj',hs⟩:=hu
    rw[hjq]at hj'
    cases hj'
    obtain⟨L1,g1,_,g3⟩:=own_take hcr (len:=ys.length) (by simp) hs
    rw[List.take_of_length_le (by simp)]at g1
    obtain⟨vals,q1,q2,q3,rfl⟩:=own_flat g1 (hfx ys)
    exact⟨vals,q1,by simpa using q2,q3,g3⟩
   obtain⟨A,a1,a2,a3,a4⟩:=own 0 xs a rfl h1
   obtain⟨C',c1,c2,c3,c4⟩:=own 1 [x] c rfl h3
   obtain⟨vb,cap,cur,rfl,hh,hcur⟩:∃vb cap cur,c=.slice (some ⟨vb,0,none⟩) 1 cap/\w.heap[vb]? =some (.cells cur e (0,0))/\cur.toList.take (P.cellsOf e)=C':=by
    rcases c2.2 with ⟨_,h0⟩|⟨g,cap,cur,h5,_,h6,_,_,_,h7⟩
    ·simp at h0
    ·exact⟨g,cap,cur,by simpa using h5,h6,by simpa using h7⟩
   have hne:a.ownBlock≠some vb:=by
    intro e1
    have:=hm.disj 0 1 vb (a4 vb (mem_own1.2 e1)) (c4 vb (by rw[mem_own1];rfl))
    cases this
   have hkz:∀y∈xs.map F,y.length=P.cellsOf e:=a1
   obtain⟨s1,s2⟩:=split_vals a3 hkz (i:=k) (by simpa using hk)
   refine(hc w a xs.length k A C' vb cap cur a2 hh hcur (by simpa using c2.1) hne a3.one c3.one hk (by omega)).mono ?_
   rintro e' w' ⟨v',rfl,o1,o2,o3⟩
   have hrows:(xs.take k++x::xs.drop k).map F=(xs.map F).take k++[F x]++(xs.map F).drop k:=by simp[List.map_take,List.map_drop]
   have hlen:(xs.take k++x::xs.drop k).length=xs.length+1:=by rw[List.length_append,List.length_cons,List.length_take,List.length_drop];omega
   have hcs:CsRel P w S ((xs.take k++x::xs.drop k).map F).flatten (A.take (k*P.cellsOf e)++C'++A.drop (k*P.cellsOf e)) []:=by
    rw[hrows,List.flatten_append,List.flatten_append]
    exact CsRel.append s2 (CsRel.append c3 s1)
   obtain⟨j',L',S',t1,t2,t3⟩:=row_left (P:=P) (v:=a) (m:=2) (e:=e) (rows:=(xs.take k++x::xs.drop k).map F) (σo:=[(0,.gone),(1,.gone),(2,.vec e ((xs.take k++x::xs.drop k).map F))]) hm hj (λb hb2=>⟨0,a4 b hb2⟩) o2 o3
    (by rw[List.length_map,hlen];exact o1) (by
     intro y hy
     rw[hrows]at hy
     simp only[List.mem_append,List.mem_singleton]at hy
     rcases hy with (hy|rfl)|hy
     ·exact hkz y (List.mem_of_mem_take hy)
     ·exact c1 _ (by simp)
     ·exact hkz y (List.mem_of_mem_drop hy)) hcs (by
     intro r
     match r with
     |0=>rfl
     |1=>rfl
     |2=>rfl
     |r+3=>rw[if_neg (by omega),if_neg (by omega)];rfl) hg
   rw[List.length_map]at t1
   exact⟨v',j',L',S',rfl,by simpa using t1,by simpa using t2,t3⟩
  ·cases h
 ·cases h
def DelC (P:Program)(f e z:Nat):Prop:=∀(w:World)(v:Value)(n i q:Nat)(xs:List Value),w.ownsRow 0 e z v n xs->(∀u∈xs,u.oneCell'=true)->i<q->q<=n->
 Calls P f #[v,.int .i64 i,.int .i64 q] w λe' w'=>∃v',e'=.returned v'/\w'.ownsRow 0 e z v' (n-(q-i)) (xs.take (i*z)++xs.drop (q*z))/\w.grownBy w' v.ownBlock/\(v'.ownBlock=v.ownBlock\/v'.ownBlock=some w.heap.size)
def del? {α:Type}(xs:List α)(i q:Int):Option (List α):=if 0<=i/\i<q/\q<=xs.length then some (xs.take i.toNat++xs.drop q.toNat)else none
theorem says_del {P:Program}{α:Type}{F:α->List C}{e f:Nat}(hen:∀args w,(callFunc f args).run P w=.ok (.enter f args) w)(hc:DelC P f e (P.cellsOf e))(hF:∀a,(F a).all flatC=true){xs r:List α}{i q:Int}(h:del? xs i q=some r):
  Says P f [.sl 0 e 0 xs.length,VI i,VI q] 1 [(0,.vec e (xs.map F))] (.sl 1 e 0 r.length) [(0,.gone),(1,.vec e (r.map F))]:=by
 unfold del? at h
 split at h
 ·rename_i hb
  obtain rfl:=someO h
  obtain⟨k,rfl⟩:∃k:Nat,i=k:=⟨i.toNat,by omega⟩
  obtain⟨m,rfl⟩:∃m:Nat,q=m:=⟨q.toNat,by omega⟩
  simp only[Int.toNat_natCast]
  refine⟨hen,λj L S w args hm hj ha hg=> ?_⟩
  obtain⟨a,b,c,rfl,h1,h2,h3⟩:=vs3 ha
  simp only[VRel]at h2 h3
  cases h2
  cases h3
  obtain⟨hd,hjq,hcr⟩:=hm.vecAt (r:=0) (e:=e) (rows:=xs.map F) rfl
  simp only[VRel]at h1
  obtain⟨hd',hj',hs⟩:=h1
  rw[hjq]at hj'
  cases hj'
  obtain⟨L1,g1,_,a4⟩:=own_take hcr (len:=xs.length) (by simp) hs
  rw[List.take_of_length_le (by simp)]at g1
  obtain⟨A,a1,a2,a3,rfl⟩:=own_flat g1 (λr hr c hc=>by
   obtain⟨a,_,rfl⟩:=List.mem_map.1 hr
   exact List.all_eq_true.1 (hF a) c hc)
  rw[List.length_map]at a2
  refine(hc w a xs.length k m A a2 a3.one (by omega) (by omega)).mono ?_
  rintro e' w' ⟨v',rfl,o1,o2,o3⟩
  have hrows:(xs.take k++xs.drop m).map F=(xs.map F).take k++(xs.map F).drop m:=by simp[List.map_take,List.map_drop]
  have hlen:(xs.take k++xs.drop m).length=xs.length-(m-k):=by rw[List.length_append,List.length_take,List.length_drop];omega
  have s1:=(split_vals a3 a1 (i:=k) (by rw[List.length_map];omega)).1
  have s2:=(split_vals a3 a1 (i:=m) (by rw[List.length_map];omega)).2
  have hcs:CsRel P w S ((xs.take k++xs.drop m).map F).flatten (A.take (k*P.cellsOf e)++A.drop (m*P.cellsOf e)) []:=by
   rw[hrows,List.flatten_append]
   exact CsRel.append s2 s1
  obtain⟨j',L',S',t1,t2,t3⟩:=row_left (P:=P) (v:=a) (m:=1) (e:=e) (rows:=(xs.take k++xs.drop m).map F) (σo:=[(0,.gone),(1,.vec e ((xs.take k++xs.drop m).map F))]) hm hj (λb hb2=>⟨0,a4 b hb2⟩) o2 o3
   (by rw[List.length_map,hlen];exact o1) (by
    intro y hy
    rw[hrows]at hy
    rcases List.mem_append.1 hy with hy|hy
    ·exact a1 y (List.mem_of_mem_take hy)
    ·exact a1 y (List.mem_of_mem_drop hy)) hcs (by
    intro r
    match r with
    |0=>rfl
    |1=>rfl
    |r+2=>rw[if_neg (by omega),if_neg (by omega)];rfl) hg
  rw[List.length_map]at t1
  exact⟨v',j',L',S',rfl,t1,t2,t3⟩
 ·cases h
end Go.Proofs.YtmcbbifeekhmgaaGreatDoor.Pe
