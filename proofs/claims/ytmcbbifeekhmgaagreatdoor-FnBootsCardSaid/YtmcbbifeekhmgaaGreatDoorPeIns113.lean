import Derived.Test.YtmcbbifeekhmgaaGreatDoorPeRow
import Derived.Test.YtmcbbifeekhmgaaGreatDoorProg
namespace Go.Proofs.YtmcbbifeekhmgaaGreatDoor.Pe
open Go Go.RowKit
set_option linter.unusedVariables false
set_option linter.unusedSimpArgs false
set_option maxHeartbeats 4000000
set_option maxRecDepth 100000
theorem del113_go (w:World)(g n c i q:Nat)(cur:Array Value)(xs:List Value)(hh:w.heap[g]? =some (.cells cur 85 (0,0)))(hsz:cur.size=c*4)(hx:cur.toList.take (n*4)=xs)(hcm:c<=maxLen)(hnc:n<=c)
  (h1x:∀u∈xs,u.oneCell'=true) (hiq:i<q) (hqn:q<=n):
  Calls Tryz.prog 113 #[.slice (some ⟨g,0,none⟩) n c,.int .i64 i,.int .i64 q] w λe w'=>∃v',e=.returned v'/\w'.ownsRow 0 85 4 v' (n-(q-i)) (xs.take (i*4)++xs.drop (q*4))/\w.grownBy w' (some g)/\v'.ownBlock=some g:=by
 have t0:=Tryz.underlying0;have a0:=Tryz.isAgg0;have z0:=Tryz.sizeOf0;have v0:=Tryz.zeroValue0;have t3:=Tryz.underlying3;have a3:=Tryz.isAgg3;have z3:=Tryz.sizeOf3;have v3:=Tryz.zeroValue3;have t4:=Tryz.underlying4;have a4:=Tryz.isAgg4;have z4:=Tryz.sizeOf4;have v4:=Tryz.zeroValue4
 have tT:=Tryz.underlying36;have aT:=Tryz.isAgg36;have zT:=Tryz.sizeOf36;have vT:=Tryz.zeroValue36;have tE:=Tryz.underlying85;have aE:=Tryz.isAgg85;have zE:=Tryz.sizeOf85;have vE:=Tryz.zeroValue85
 have u0:=run_underlying Tryz.underlying0;have u3:=run_underlying Tryz.underlying3;have u4:=run_underlying Tryz.underlying4;have uT:=run_underlying Tryz.underlying36
 have mixed:Tryz.prog.follows .mixedOrders=true:=by kernel_rfl
 obtain⟨i0,hi0,hz0,hzs⟩:∃i:TypeInfo,Tryz.prog.info? 85=some i/\i.zero=some (.agg #[.string ⟨#[]⟩,.int .i64 0,.int .i64 0,.int .i64 0])/\i.size=4:=⟨_,rfl,rfl,rfl⟩
 have hc63:c<=9223372036854775807:=by simp only[maxLen]at hcm;omega
 have hxl:xs.length=n*4:=by rw[<-hx,List.length_take,Array.length_toList];omega
 have hxc:∀(j:Nat)(u:Value),xs[j]? =some u->cur.toList[j]? =some u:=by
  intro j u hj
  rw[<-hx,List.getElem?_take]at hj
  split at hj
  ·exact hj
  ·cases hj
 have hdl:(xs.drop (q*4)).length=(n-q)*4:=by rw[List.length_drop];omega
 obtain⟨R1,hR1⟩:∃R1:Array Value,R1=(cur.toList.take (i*i0.size)++xs.drop (q*4)++cur.toList.drop (i*i0.size+(xs.drop (q*4)).length)).toArray:=⟨_,rfl⟩
 have hR1s:R1.size=c*4:=by rw[hR1,hzs,List.size_toArray,List.length_append,List.length_append,List.length_take,List.length_drop,List.length_drop,Array.length_toList,hsz];omega
 have hR1t:R1.toList.take ((n-(q-i))*4)=xs.take (i*4)++xs.drop (q*4):=by
  have e1:cur.toList.take (i*4)=xs.take (i*4):=by rw[<-hx,List.take_take,Nat.min_eq_left (by omega)]
  rw[hR1,hzs,e1]
  have:(xs.take (i*4)++xs.drop (q*4)).length=(n-(q-i))*4:=by rw[List.length_append,List.length_take,hdl];omega
  exact List.take_left' this
 have hap:∀(W:World),W.heap=w.heap->∀(A:Addr),(c=q\/A=⟨g,q*4,none⟩)->∀ty sc,(Builtin.append_ #[36,36] ty #[.slice (some ⟨g,0,none⟩) i c,.slice (some A) (n-q) sc]).run Tryz.prog W=.ok (.slice (some ⟨g,0,none⟩) (i+(n-q)) c) (W.setRow g R1):=by
  intro W hW A hA ty sc
  have hh':W.heap[g]? =some (.cells cur 85 (0,0)):=by rw[hW];exact hh
  have:=run_append_room (P:=Tryz.prog) W 36 ty 85 i0 Tryz.underlying36 hi0 g i c cur hh' A (n-q) sc (xs.drop (q*4)) (by rw[hdl,hzs]) (λj u hj=>by
   rcases hA with hA|rfl
   ·have:(xs.drop (q*4))=[]:=List.eq_nil_of_length_eq_zero (by rw[hdl];omega)
    rw[this]at hj
    cases hj
   ·exact cells_at hh' (λq u hq=>by rw[List.getElem?_drop]at hq;exact hxc _ _ hq) j u hj) (λu hu=>h1x u (List.mem_of_mem_drop hu)) (by omega) (by rw[hdl,hzs,hsz];omega)
  rw[<-hR1]at this
  exact this
 have hg1:(w.setRow g R1).heap[g]? =some (.cells R1 85 (0,0)):=setRow_heap _ _ cur _ _ _ hh
 have hzc:((.agg #[.string ⟨#[]⟩,.int .i64 0,.int .i64 0,.int .i64 0]):Value).cells.size=4:=rfl
 have hcl0:∃zs:List Value,zs.length=(n-(i+(n-q)))*4/\∀(W:World),W.heap=(w.setRow g R1).heap->∀ty sc,(Builtin.clear_ #[36] ty #[.slice (some ⟨g,(i+(n-q))*4,none⟩) (n-(i+(n-q))) sc]).run Tryz.prog W=.ok (.tuple #[]) (W.setRow g (R1.toList.take ((i+(n-q))*4)++zs++R1.toList.drop ((i+(n-q))*4+zs.length)).toArray):=by
  obtain⟨zs,hzl,hr⟩:=run_clearZ (P:=Tryz.prog) 36 85 (.agg #[.string ⟨#[]⟩,.int .i64 0,.int .i64 0,.int .i64 0]) Tryz.underlying36 Tryz.zeroValue85 (by decide) g ((i+(n-q))*4) (n-(i+(n-q))) R1 85 (by omega) (by rw[hzc,hR1s];omega)
  rw[hzc]at hzl
  exact⟨zs,hzl,λW hW ty sc=>hr W (by rw[hW];exact hg1) ty sc⟩
 obtain⟨R2,hR2s,hR2t,hcl'⟩:∃R2:Array Value,R2.size=c*4/\R2.toList.take ((n-(q-i))*4)=R1.toList.take ((n-(q-i))*4)/\∀(W:World),W.heap=(w.setRow g R1).heap->∀ty sc,(Builtin.clear_ #[36] ty #[.slice (some ⟨g,(i+(n-q))*4,none⟩) (n-(i+(n-q))) sc]).run Tryz.prog W=.ok (.tuple #[]) (W.setRow g R2):=by
  obtain⟨zs,hzl,hr⟩:=hcl0
  refine⟨_,?_,?_,hr⟩
  ·rw[List.size_toArray,List.length_append,List.length_append,List.length_take,List.length_drop,Array.length_toList,hR1s,hzl];omega
  ·simp only[List.toList_toArray]
   rw[show(i+(n-q))=n-(q-i) by omega,List.append_assoc,List.take_append_of_le_length (by rw[List.length_take,Array.length_toList,hR1s];omega),List.take_take,Nat.min_self]
 rw[hR1t]at hR2t
 have fin:∀(W:World),W.heap=(w.setRow g R1).heap->W.os=w.os->W.tape=w.tape->W.output=w.output->(W.setRow g R2).ownsRow 0 85 4 (.slice (some ⟨g,0,none⟩) (n-(q-i)) c) (n-(q-i)) (xs.take (i*4)++xs.drop (q*4))/\w.grownBy (W.setRow g R2) (some g):=by
  intro W hW h1 h2 h3
  have e2:(W.setRow g R2).heap[g]? =some (.cells R2 85 (0,0)):=setRow_heap _ _ R1 _ _ _ (by rw[hW];exact hg1)
  refine⟨⟨by rw[List.length_append,List.length_take,hdl];omega,.inr ⟨g,c,R2,rfl,Nat.zero_le _,e2,by omega,hcm,hR2s,hR2t⟩⟩,h1,h2,h3,?_,λk hk hk2=> ?_⟩
  ·rw[setRow_size,hW,setRow_size]
   exact Nat.le_refl _
  ·have:g≠k:=λe=>hk2 (by rw[e])
   rw[setRow_ne _ _ _ this,hW,setRow_ne _ _ _ this]
 have hin:i<=n:=by omega
 have hne:¬((i:Int)=(q:Int)):=by omega
 have h63:(n:Int)<=9223372036854775807:=by omega
 have hlt:i+(n-q)<=n:=by omega
 have hb1:(i:Int)+((n-q:Nat):Int)<=(n:Int):=by omega
 have hb2:(i:Int)<=(q:Int):=by omega
 have hb3:(q:Int)<=(n:Int):=by omega
 have hb4:¬(c=i+(n-q)):=by omega
 have hib:i<=c:=by omega
 have hci:¬(c=i):=by omega
 clear hR1 hcl0 hR1t hR2t hxc
 by_cases hcq:c=q
 ·obtain rfl:n=q:=by omega
  obtain rfl:c=n:=hcq
  have hap':∀(W:World),W.heap=w.heap->∀ty,(Builtin.append_ #[36,36] ty #[.slice (some ⟨g,0,none⟩) i c,.slice (some ⟨g,0,none⟩) 0 0]).run Tryz.prog W=.ok (.slice (some ⟨g,0,none⟩) i c) (W.setRow g R1):=λW hW ty=>by
   have:=hap W hW ⟨g,0,none⟩ (.inl rfl) ty 0
   rw[Nat.sub_self,Nat.add_zero]at this
   exact this
  rw[Nat.sub_self,Nat.add_zero]at hcl'
  rw[show c-(c-i)=i by omega]at fin
  go_enter Tryz.func113,Tryz.ntmps113
  go_wp2
  go_region_law_o (refine step_appendR rfl _ _ 36 36 rfl (.slice (some ⟨g,0,none⟩) i c) (.slice (some ⟨g,0,none⟩) 0 0) (by simp[Act.eval,Act.put]) (by simp[Act.eval,Act.put]) (hap' _ (by rfl) _) ?_)
  go_wp2_with (refine wpList_clearR _ rfl _ 36 rfl _ rfl (hcl' _ (by rfl) _ _) ?_)
  go_ret
  refine⟨.slice (some ⟨g,0,none⟩) i c,rfl,?_,(fin _ (by rfl) (by rfl) (by rfl) (by rfl)).2,rfl⟩
  rw[show c-(c-i)=i by omega]
  exact(fin _ (by rfl) (by rfl) (by rfl) (by rfl)).1
 ·go_enter Tryz.func113,Tryz.ntmps113
  go_wp2
  go_region_law_o (refine step_appendR rfl _ _ 36 36 rfl (.slice (some ⟨g,0,none⟩) i c) (.slice (some ⟨g,q*4,none⟩) (n-q) (c-q)) (by simp[Act.eval,Act.put]) (by simp[Act.eval,Act.put]) (hap _ (by rfl) ⟨g,q*4,none⟩ (.inr rfl) _ _) ?_)
  go_wp2_with (refine wpList_clearR _ rfl _ 36 rfl _ rfl (hcl' _ (by rfl) _ _) ?_)
  go_ret
  refine⟨.slice (some ⟨g,0,none⟩) (i+(n-q)) c,rfl,?_,(fin _ (by rfl) (by rfl) (by rfl) (by rfl)).2,rfl⟩
  rw[show i+(n-q)=n-(q-i) by omega]
  exact(fin _ (by rfl) (by rfl) (by rfl) (by rfl)).1
theorem ins113:DelC Tryz.prog 113 85 (Tryz.prog.cellsOf 85):=by
 intro w v n i q xs ho h1x hiq hqn
 have hz:Tryz.prog.cellsOf 85=4:=rfl
 rw[hz]at ho⊢
 rcases ho.2 with ⟨_,rfl⟩|⟨g,cap,cur,rfl,_,hh,hcap,hcm,hsz,ht⟩
 ·omega
 ·refine(del113_go w g n cap i q cur xs hh hsz ht hcm hcap h1x hiq hqn).mono ?_
  rintro e' w' ⟨v',h1,h2,h3,h4⟩
  exact⟨v',h1,h2,h3,.inl h4⟩
end Go.Proofs.YtmcbbifeekhmgaaGreatDoor.Pe
