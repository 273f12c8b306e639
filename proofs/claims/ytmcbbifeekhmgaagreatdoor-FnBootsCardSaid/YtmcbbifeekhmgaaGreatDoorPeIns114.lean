import Derived.Test.YtmcbbifeekhmgaaGreatDoorPeRow
import Derived.Test.YtmcbbifeekhmgaaGreatDoorProg
namespace Go.Proofs.YtmcbbifeekhmgaaGreatDoor.Pe
open Go Go.RowKit
set_option linter.unusedVariables false
set_option linter.unusedSimpArgs false
set_option maxHeartbeats 4000000
set_option maxRecDepth 100000
theorem ins114_end (w:World)(v:Value)(n:Nat)(xs vals:List Value)(vb vc:Nat)(ho:w.ownsRow 0 85 4 v n xs)(hvc:∀j u,vals[j]? =some u->w.cell? ((⟨vb,0,none⟩:Addr).add j)=some u)(hvl:vals.length=1*4)
  (h1v:∀u∈vals,u.oneCell'=true) (hb:n+1<=1073741824):
  Calls Tryz.prog 114 #[v,.int .i64 n,.slice (some ⟨vb,0,none⟩) 1 vc] w λe w'=>∃v',e=.returned v'/\w'.ownsRow 0 85 4 v' (n+1) (xs++vals)/\w.grownBy w' v.ownBlock/\(v'.ownBlock=v.ownBlock\/v'.ownBlock=some w.heap.size):=by
 have t0:=Tryz.underlying0;have a0:=Tryz.isAgg0;have z0:=Tryz.sizeOf0;have v0:=Tryz.zeroValue0;have t3:=Tryz.underlying3;have a3:=Tryz.isAgg3;have z3:=Tryz.sizeOf3;have v3:=Tryz.zeroValue3;have t4:=Tryz.underlying4;have a4:=Tryz.isAgg4;have z4:=Tryz.sizeOf4;have v4:=Tryz.zeroValue4
 have tT:=Tryz.underlying36;have aT:=Tryz.isAgg36;have zT:=Tryz.sizeOf36;have vT:=Tryz.zeroValue36;have tE:=Tryz.underlying85;have aE:=Tryz.isAgg85;have zE:=Tryz.sizeOf85;have vE:=Tryz.zeroValue85
 have u0:=run_underlying Tryz.underlying0;have u3:=run_underlying Tryz.underlying3;have u4:=run_underlying Tryz.underlying4;have uT:=run_underlying Tryz.underlying36
 have mixed:Tryz.prog.follows .mixedOrders=true:=by kernel_rfl
 obtain⟨i0,hi0,hz0,hzs,hzb⟩:∃i:TypeInfo,Tryz.prog.info? 85=some i/\i.zero=some (.agg #[.string ⟨#[]⟩,.int .i64 0,.int .i64 0,.int .i64 0])/\i.size=4/\i.bytes<=4096:=⟨_,rfl,rfl,rfl,by decide⟩
 have hrun:∀ty,∃v' w',(Builtin.append_ #[36,36] ty #[v,.slice (some ⟨vb,0,none⟩) 1 vc]).run Tryz.prog w=.ok v' w'/\w'.ownsRow 0 85 4 v' (n+1) (xs++vals)/\w.grownBy w' v.ownBlock/\(v'=.slice none 0 0↔v=.slice none 0 0/\1=0)/\(v'.ownBlock=v.ownBlock\/v'.ownBlock=some w.heap.size):=λty=>
  run_append_own_at (P:=Tryz.prog) w 0 36 ty 85 i0 _ 4 _ Tryz.underlying36 hi0 hz0 hzs rfl rfl (by decide) v n xs ho ⟨vb,0,none⟩ 1 vc vals hvl hvc h1v (by simp only[maxLen];omega) (by have:=Nat.mul_le_mul hb hzb;omega) (Nat.zero_le _)
 obtain⟨v',w',hr,h2,h3,_,h4⟩:=hrun 36
 clear hrun
 have hz1:¬((1:Int)=0):=by omega
 have hn63:(n:Int)<=9223372036854775807:=by omega
 rcases ho.2 with ⟨rfl,rfl⟩|⟨g,cap,cur,rfl,_,hh,hcap,hcm,_,_⟩
 ·go_enter Tryz.func114,Tryz.ntmps114
  go_wp2_with (at_builtin;refine Lib.wpList_append_run _ rfl _ _ _ _ rfl _ _ rfl rfl _ _ hr ?_)
  go_ret
  exact⟨_,rfl,h2,h3,h4⟩
 ·have hcm':cap<=9223372036854775807:=by simp only[maxLen]at hcm;omega
  go_enter Tryz.func114,Tryz.ntmps114
  go_wp2_with (at_builtin;refine Lib.wpList_append_run _ rfl _ _ _ _ rfl _ _ rfl rfl _ _ hr ?_)
  all_goals (go_ret;exact⟨_,rfl,h2,h3,h4⟩)
theorem ins114_grow (w:World)(g n i:Nat)(cur:Array Value)(xs vals:List Value)(vb vc:Nat)(hh:w.heap[g]? =some (.cells cur 85 (0,0)))(hsz:cur.size=n*4)(hx:cur.toList.take (n*4)=xs)
  (hvb:vb<w.heap.size) (hvc:∀j u,vals[j]? =some u->w.cell? ((⟨vb,0,none⟩:Addr).add j)=some u) (hvl:vals.length=1*4) (h1x:∀u∈xs,u.oneCell'=true) (h1v:∀u∈vals,u.oneCell'=true) (hi:i<n) (hb:n+1<=1073741824):
  Calls Tryz.prog 114 #[.slice (some ⟨g,0,none⟩) n n,.int .i64 i,.slice (some ⟨vb,0,none⟩) 1 vc] w λe w'=>∃v',e=.returned v'/\w'.ownsRow 0 85 4 v' (n+1) (xs.take (i*4)++vals++xs.drop (i*4))/\w.grownBy w' (some g)/\v'.ownBlock=some w.heap.size:=by
 have t0:=Tryz.underlying0;have a0:=Tryz.isAgg0;have z0:=Tryz.sizeOf0;have v0:=Tryz.zeroValue0;have t3:=Tryz.underlying3;have a3:=Tryz.isAgg3;have z3:=Tryz.sizeOf3;have v3:=Tryz.zeroValue3;have t4:=Tryz.underlying4;have a4:=Tryz.isAgg4;have z4:=Tryz.sizeOf4;have v4:=Tryz.zeroValue4
 have tT:=Tryz.underlying36;have aT:=Tryz.isAgg36;have zT:=Tryz.sizeOf36;have vT:=Tryz.zeroValue36;have tE:=Tryz.underlying85;have aE:=Tryz.isAgg85;have zE:=Tryz.sizeOf85;have vE:=Tryz.zeroValue85
 have u0:=run_underlying Tryz.underlying0;have u3:=run_underlying Tryz.underlying3;have u4:=run_underlying Tryz.underlying4;have uT:=run_underlying Tryz.underlying36
 have mixed:Tryz.prog.follows .mixedOrders=true:=by kernel_rfl
 obtain⟨i0,hi0,hz0,hzs,hzb⟩:∃i:TypeInfo,Tryz.prog.info? 85=some i/\i.zero=some (.agg #[.string ⟨#[]⟩,.int .i64 0,.int .i64 0,.int .i64 0])/\i.size=4/\i.bytes<=4096:=⟨_,rfl,rfl,rfl,by decide⟩
 have hgw:g<w.heap.size:=(Array.getElem?_eq_some_iff.1 hh).1
 have hxl:xs.length=n*4:=by rw[<-hx,List.length_take,Array.length_toList];omega
 have hsz1:(Tryz.prog.info? 85).map (·.size)=some 4:=by rw[hi0];simp[hzs]
 have hxc:∀(j:Nat)(u:Value),xs[j]? =some u->cur.toList[j]? =some u:=by
  intro j u hj
  rw[<-hx,List.getElem?_take]at hj
  split at hj
  ·exact hj
  ·cases hj
 have hold:(Builtin.firstCells i0.size i (.slice (some ⟨g,0,none⟩) i n)).run Tryz.prog w.drew=.ok (xs.take (i*4)).toArray w.drew:=by
  rw[hzs]
  refine run_firstCells_some w.drew 4 i ⟨g,0,none⟩ i n (xs.take (i*4)) (by rw[List.length_take];omega) (cells_at (w:=w.drew) hh (o:=0) λj u hj=> ?_)
  rw[Nat.zero_add]
  rw[List.getElem?_take]at hj
  split at hj
  ·exact hxc j u hj
  ·cases hj
 obtain⟨G,hG⟩:∃G,G=grownCap w (n+1) n 85:=⟨_,rfl⟩
 obtain⟨R1,hR1⟩:∃R1:Array Value,R1=(xs.take (i*4)).toArray++Builtin.zeroCells ((.agg #[.string ⟨#[]⟩,.int .i64 0,.int .i64 0,.int .i64 0]):Value).cells (n+1-i)++Builtin.zeroCells ((.agg #[.string ⟨#[]⟩,.int .i64 0,.int .i64 0,.int .i64 0]):Value).cells (G-(n+1)):=⟨_,rfl⟩
 have hGn:n+1<=G:=by rw[hG];exact grownCap_ge w _ _ _
 have hGm:G<=maxLen:=by rw[hG];exact grownCap_le_maxLen w _ _ _ (by simp only[maxLen];omega)
 have hzc:((.agg #[.string ⟨#[]⟩,.int .i64 0,.int .i64 0,.int .i64 0]):Value).cells.size=4:=rfl
 have hR1s:R1.size=G*4:=by rw[hR1,Array.size_append,Array.size_append,size_zeroCells,size_zeroCells,hzc,List.size_toArray,List.length_take];omega
 have hrz:∀ty,(Builtin.append_ #[36,3] ty #[.slice (some ⟨g,0,none⟩) i n,.int .i64 ((n:Int)+1-(i:Int))]).run Tryz.prog w=
   .ok (.slice (some ⟨w.heap.size,0,none⟩) (n+1) G) (w.drew.alloc (.cells R1 85)):=by
  intro ty
  have h:=Lib.run_append_grow_zeros (P:=Tryz.prog) w 36 3 ty 85 i0 _ .i64 .i64 Tryz.underlying36 Tryz.underlying3 hi0 hz0 (some ⟨g,0,none⟩) i n (xs.take (i*4)) hold (n+1-i) (by omega) (by omega) (by omega) (by omega) (by have:=Nat.mul_le_mul (show n+1-i<=1073741824 by omega) hzb;omega) (by rw[show i+(n+1-i)=n+1 by omega];exact growslice_fits (by omega) (by have:=Nat.mul_le_mul hb hzb;omega))
  rw[show i+(n+1-i)=n+1 by omega,<-hG,<-hR1]at h
  rw[show(n:Int)+1-(i:Int)=((n+1-i:Nat):Int) by omega]
  exact h
 have hnew:∀(W:World),W.heap=(w.drew.alloc (.cells R1 85)).heap->W.heap[w.heap.size]? =some (.cells R1 85 (0,0)):=λW hW=>by rw[hW];exact heap_alloc_new w.drew _
 have hold2:∀(W:World),W.heap=(w.drew.alloc (.cells R1 85)).heap->∀b,b<w.heap.size->W.heap[b]? =w.heap[b]? :=λW hW b hb=>by rw[hW];exact heap_alloc_old (w:=w.drew) _ hb
 have hmin:Nat.min 1 (n+1-i)=1:=Nat.min_eq_left (by omega)
 have hcpA:∀(W:World),W.heap=(w.drew.alloc (.cells R1 85)).heap->∀ty dc,(Builtin.copy_ #[36,36] ty #[.slice (some ⟨w.heap.size,i*4,none⟩) (n+1-i) dc,.slice (some ⟨vb,0,none⟩) 1 vc]).run Tryz.prog W=.ok (goInt 1) (W.setRow w.heap.size (R1.toList.take (i*4)++vals++R1.toList.drop (i*4+vals.length)).toArray):=by
  intro W hW ty dc
  have:=run_copyZ (P:=Tryz.prog) W 36 36 ty 85 4 w.heap.size (i*4) (n+1-i) dc ⟨vb,0,none⟩ 1 vc R1 85 vals Tryz.underlying36 hsz1 (hnew W hW) (by rw[hvl,hmin]) (λj u hj=>by
   rw[<-hvc j u hj]
   refine World.cell?_of_block ?_
   have hab:((⟨vb,0,none⟩:Addr).add j).block=vb:=by unfold Addr.add;split<;>rfl
   rw[hab]
   exact hold2 W hW vb hvb) (by rw[hR1s,hvl];omega) h1v
  rw[hmin]at this
  exact this
 obtain⟨R2,hR2⟩:∃R2:Array Value,R2=(R1.toList.take (i*4)++vals++R1.toList.drop (i*4+vals.length)).toArray:=⟨_,rfl⟩
 rw[<-hR2]at hcpA
 have hR2s:R2.size=G*4:=by rw[hR2,List.size_toArray,List.length_append,List.length_append,List.length_take,List.length_drop,Array.length_toList,hR1s,hvl];omega
 have hR1t:R1.toList.take (i*4)=xs.take (i*4):=by
  rw[hR1,Array.toList_append,Array.toList_append,List.append_assoc]
  have:(xs.take (i*4)).length=i*4:=by rw[List.length_take];omega
  exact List.take_left' this
 obtain⟨R3,hR3⟩:∃R3:Array Value,R3=(R2.toList.take ((i+1)*4)++xs.drop (i*4)++R2.toList.drop ((i+1)*4+(xs.drop (i*4)).length)).toArray:=⟨_,rfl⟩
 have hR3s:R3.size=G*4:=by rw[hR3,List.size_toArray,List.length_append,List.length_append,List.length_take,List.length_drop,List.length_drop,Array.length_toList,hR2s];omega
 have hR3t:R3.toList.take ((n+1)*4)=xs.take (i*4)++vals++xs.drop (i*4):=by
  have e1:R2.toList.take ((i+1)*4)=xs.take (i*4)++vals:=by
   rw[hR2,hR1t]
   have:(xs.take (i*4)++vals).length=(i+1)*4:=by rw[List.length_append,List.length_take,hvl];omega
   exact List.take_left' this
  rw[hR3,e1]
  have:(xs.take (i*4)++vals++xs.drop (i*4)).length=(n+1)*4:=by rw[List.length_append,List.length_append,List.length_take,List.length_drop,hvl];omega
  exact List.take_left' this
 have hmin2:Nat.min (n-i) (n-i)=n-i:=Nat.min_self _
 have hcpB:∀(W:World),W.heap=((w.drew.alloc (.cells R1 85)).setRow w.heap.size R2).heap->∀ty dc sc,(Builtin.copy_ #[36,36] ty #[.slice (some ⟨w.heap.size,(i+1)*4,none⟩) (n-i) dc,.slice (some ⟨g,i*4,none⟩) (n-i) sc]).run Tryz.prog W=.ok (goInt (n-i:Nat)) (W.setRow w.heap.size R3):=by
  intro W hW ty dc sc
  have h1:W.heap[w.heap.size]? =some (.cells R2 85 (0,0)):=by rw[hW];exact setRow_heap _ _ R1 _ _ _ (heap_alloc_new w.drew _)
  have:=run_copyZ (P:=Tryz.prog) W 36 36 ty 85 4 w.heap.size ((i+1)*4) (n-i) dc ⟨g,i*4,none⟩ (n-i) sc R2 85 (xs.drop (i*4)) Tryz.underlying36 hsz1 h1 (by rw[hmin2,List.length_drop];omega) (λj u hj=>by
   have hg:W.heap[g]? =w.heap[g]? :=by
    rw[hW]
    show((w.drew.alloc (.cells R1 85)).heap.modify _ _)[g]? =_
    rw[Array.getElem?_modify,if_neg (by omega)]
    exact heap_alloc_old (w:=w.drew) _ hgw
   exact cells_at (hg.trans hh) (λq u hq=>by rw[List.getElem?_drop]at hq;exact hxc _ _ hq) j u hj) (by rw[hR2s,List.length_drop];omega) (λu hu=>h1x u (List.mem_of_mem_drop hu))
  rw[hmin2,<-hR3]at this
  exact this
 have hG63:G<=9223372036854775807:=by simp only[maxLen]at hGm;omega
 have hin:i<=n:=by omega
 have hz2:¬((i:Int)=(n:Int)):=by omega
 have hz3:(n:Int)<(n:Int)+1:=by omega
 have hw1:IntKind.i64.wrap ((i:Int)+1)=(i:Int)+1:=by rw[IntKind.wrap_i64];omega
 have hw2:IntKind.i64.wrap ((n:Int)+1)=(n:Int)+1:=by rw[IntKind.wrap_i64];omega
 have hw3:IntKind.i64.wrap ((n:Int)+1-(i:Int))=(n:Int)+1-(i:Int):=by rw[IntKind.wrap_i64];omega
 have htn:((i:Int)+1).toNat=i+1:=by omega
 have hb1:(0:Int)<=(i:Int)+1:=by omega
 have hGi:¬(G=i):=by omega
 have hGim:¬(G=i+1):=by omega
 have hci:¬(n=i):=by omega
 have hn63:(n:Int)<=9223372036854775807:=by omega
 have hsub:n+1-(i+1)=n-i:=by omega
 clear hold hR1 hG hR2 hR3 hR1t
 go_enter Tryz.func114,Tryz.ntmps114
 go_wp2_with (first
  |(at_builtin;refine Lib.wpList_append_run _ rfl _ _ _ _ rfl _ _ rfl rfl _ _ (hrz _) ?_)
  |(refine wpList_copyR _ rfl _ _ 36 36 rfl _ _ rfl rfl (hcpA _ (by rfl) _ _) ?_))
 go_region_law_o (refine step_copyR rfl _ _ 36 36 rfl (.slice (some ⟨w.heap.size,(i+1)*4,none⟩) (n-i) (G-(i+1))) (.slice (some ⟨g,i*4,none⟩) (n-i) (n-i)) (by simp[Act.eval,Act.put,hsub]) (by simp[Act.eval,Act.put]) (hcpB _ (by rfl) 3 (G-(i+1)) (n-i)) ?_)
 go_wp2
 go_ret
 refine⟨.slice (some ⟨w.heap.size,0,none⟩) (n+1) G,rfl,?_,?_,rfl⟩
 ·have e1:((w.alloc (.cells R1 85)).setRow w.heap.size R2).heap[w.heap.size]? =some (.cells R2 85 (0,0)):=setRow_heap _ _ R1 _ _ _ (heap_alloc_new w _)
  have e2:(((w.alloc (.cells R1 85)).setRow w.heap.size R2).setRow w.heap.size R3).heap[w.heap.size]? =some (.cells R3 85 (0,0)):=setRow_heap _ _ R2 _ _ _ e1
  exact⟨by rw[List.length_append,List.length_append,List.length_take,List.length_drop,hvl];omega,.inr ⟨w.heap.size,G,R3,rfl,Nat.zero_le _,e2,by omega,hGm,hR3s,hR3t⟩⟩
 ·refine⟨rfl,rfl,rfl,?_,λk hk _=> ?_⟩
  ·rw[setRow_size]
   show w.heap.size<=((w.alloc (.cells R1 85)).setRow w.heap.size R2).heap.size
   rw[setRow_size]
   show w.heap.size<=(w.heap.push _).size
   simp
  ·rw[setRow_ne _ _ _ (by omega)]
   show((w.alloc (.cells R1 85)).setRow w.heap.size R2).heap[k]? =_
   rw[setRow_ne _ _ _ (by omega)]
   exact heap_alloc_old w _ hk
theorem ins114_shift (w:World)(g n c i:Nat)(cur:Array Value)(xs vals:List Value)(vb vc:Nat)(vcur:Array Value)(hh:w.heap[g]? =some (.cells cur 85 (0,0)))(hsz:cur.size=c*4)(hx:cur.toList.take (n*4)=xs)(hcm:c<=maxLen)
  (hvh:w.heap[vb]? =some (.cells vcur 85 (0,0))) (hne:vb≠g) (hvc:∀j u,vals[j]? =some u->w.cell? ((⟨vb,0,none⟩:Addr).add j)=some u) (hvl:vals.length=1*4) (h1x:∀u∈xs,u.oneCell'=true) (h1v:∀u∈vals,u.oneCell'=true) (hi:i<n) (hroom:n+1<=c):
  Calls Tryz.prog 114 #[.slice (some ⟨g,0,none⟩) n c,.int .i64 i,.slice (some ⟨vb,0,none⟩) 1 vc] w λe w'=>∃v',e=.returned v'/\w'.ownsRow 0 85 4 v' (n+1) (xs.take (i*4)++vals++xs.drop (i*4))/\w.grownBy w' (some g)/\v'.ownBlock=some g:=by
 have t0:=Tryz.underlying0;have a0:=Tryz.isAgg0;have z0:=Tryz.sizeOf0;have v0:=Tryz.zeroValue0;have t3:=Tryz.underlying3;have a3:=Tryz.isAgg3;have z3:=Tryz.sizeOf3;have v3:=Tryz.zeroValue3;have t4:=Tryz.underlying4;have a4:=Tryz.isAgg4;have z4:=Tryz.sizeOf4;have v4:=Tryz.zeroValue4
 have tT:=Tryz.underlying36;have aT:=Tryz.isAgg36;have zT:=Tryz.sizeOf36;have vT:=Tryz.zeroValue36;have tE:=Tryz.underlying85;have aE:=Tryz.isAgg85;have zE:=Tryz.sizeOf85;have vE:=Tryz.zeroValue85
 have u0:=run_underlying Tryz.underlying0;have u3:=run_underlying Tryz.underlying3;have u4:=run_underlying Tryz.underlying4;have uT:=run_underlying Tryz.underlying36
 have mixed:Tryz.prog.follows .mixedOrders=true:=by kernel_rfl
 have hc63:c<=9223372036854775807:=by simp only[maxLen]at hcm;omega
 have hxl:xs.length=n*4:=by rw[<-hx,List.length_take,Array.length_toList];omega
 have hsz1:(Tryz.prog.info? 85).map (·.size)=some 4:=rfl
 have hxc:∀(j:Nat)(u:Value),xs[j]? =some u->cur.toList[j]? =some u:=by
  intro j u hj
  rw[<-hx,List.getElem?_take]at hj
  split at hj
  ·exact hj
  ·cases hj
 have hov:∀lb cb,(callFunc 201 #[.slice (some ⟨vb,0,none⟩) 1 vc,.slice (some ⟨g,(i+1)*4,none⟩) lb cb]).run Tryz.prog w=.ok (.value (.bool false)) w:=λlb cb=>by
  rw[run_callFunc_extern Tryz.func201 (by kernel_rfl) (by kernel_rfl) (by kernel_rfl) (e:=Extern.SlicesOverlaps.overlaps #[36,36] #[4]) (by kernel_rfl),
   Lib.run_overlaps_apart w 36 4 85 Tryz.underlying36 4 Tryz.sizeOf85 ⟨vb,0,none⟩ ⟨g,(i+1)*4,none⟩ 1 vc lb cb hne 85 85 vcur.size cur.size (by simp[World.shape?,hvh]) (by simp[World.shape?,hh]) (by omega) (by simp[World.frozen?,hvh]) (by simp[World.frozen?,hvh])]
  rfl
 have hmin1:Nat.min (n+1-i) (n-i)=n-i:=Nat.min_eq_right (by omega)
 have hdl:(xs.drop (i*4)).length=(n-i)*4:=by rw[List.length_drop];omega
 obtain⟨R1,hR1⟩:∃R1:Array Value,R1=(cur.toList.take ((i+1)*4)++xs.drop (i*4)++cur.toList.drop ((i+1)*4+(xs.drop (i*4)).length)).toArray:=⟨_,rfl⟩
 have hR1s:R1.size=c*4:=by rw[hR1,List.size_toArray,List.length_append,List.length_append,List.length_take,List.length_drop,List.length_drop,Array.length_toList,hsz];omega
 have hcp1:∀(W:World),W.heap=w.heap->∀ty dc sc,(Builtin.copy_ #[36,36] ty #[.slice (some ⟨g,(i+1)*4,none⟩) (n-i) dc,.slice (some ⟨g,i*4,none⟩) (n+1-i) sc]).run Tryz.prog W=.ok (goInt (n-i:Nat)) (W.setRow g R1):=by
  intro W hW ty dc sc
  have:=run_copyZ (P:=Tryz.prog) W 36 36 ty 85 4 g ((i+1)*4) (n-i) dc ⟨g,i*4,none⟩ (n+1-i) sc cur 85 (xs.drop (i*4)) Tryz.underlying36 hsz1 (by rw[hW];exact hh) (by rw[hmin1,hdl]) (cells_at (by rw[hW];exact hh) (λq u hq=>by rw[List.getElem?_drop]at hq;exact hxc _ _ hq)) (by rw[hdl,hsz];omega) (λu hu=>h1x u (List.mem_of_mem_drop hu))
  rw[hmin1,<-hR1]at this
  exact this
 have hR1t:R1.toList.take (i*4)=xs.take (i*4)/\∃rest,R1.toList.drop ((i+1)*4)=xs.drop (i*4)++rest:=by
  have hlt:(cur.toList.take ((i+1)*4)).length=(i+1)*4:=by rw[List.length_take,Array.length_toList];omega
  rw[hR1,List.append_assoc]
  constructor
  ·show((cur.toList.take ((i+1)*4))++_).take (i*4)=_
   rw[List.take_append_of_le_length (by omega),List.take_take,Nat.min_eq_left (by omega),<-hx,List.take_take,Nat.min_eq_left (by omega)]
  ·exact⟨cur.toList.drop ((i+1)*4+(xs.drop (i*4)).length),List.drop_left' hlt⟩
 have hmin:Nat.min 1 (n+1-i)=1:=Nat.min_eq_left (by omega)
 obtain⟨R2,hR2⟩:∃R2:Array Value,R2=(R1.toList.take (i*4)++vals++R1.toList.drop (i*4+vals.length)).toArray:=⟨_,rfl⟩
 have hR2s:R2.size=c*4:=by rw[hR2,List.size_toArray,List.length_append,List.length_append,List.length_take,List.length_drop,Array.length_toList,hR1s,hvl];omega
 have hcp2:∀(W:World),W.heap=(w.setRow g R1).heap->∀ty dc,(Builtin.copy_ #[36,36] ty #[.slice (some ⟨g,i*4,none⟩) (n+1-i) dc,.slice (some ⟨vb,0,none⟩) 1 vc]).run Tryz.prog W=.ok (goInt 1) (W.setRow g R2):=by
  intro W hW ty dc
  have h1:W.heap[g]? =some (.cells R1 85 (0,0)):=by rw[hW];exact setRow_heap _ _ cur _ _ _ hh
  have:=run_copyZ (P:=Tryz.prog) W 36 36 ty 85 4 g (i*4) (n+1-i) dc ⟨vb,0,none⟩ 1 vc R1 85 vals Tryz.underlying36 hsz1 h1 (by rw[hvl,hmin]) (λj u hj=>by
   rw[<-hvc j u hj]
   refine World.cell?_of_block ?_
   have hab:((⟨vb,0,none⟩:Addr).add j).block=vb:=by unfold Addr.add;split<;>rfl
   rw[hab,hW]
   exact setRow_ne _ _ _ (Ne.symm hne)) (by rw[hR1s,hvl];omega) h1v
  rw[hmin,<-hR2]at this
  exact this
 have hR2t:R2.toList.take ((n+1)*4)=xs.take (i*4)++vals++xs.drop (i*4):=by
  obtain⟨q1,rest,q2⟩:=hR1t
  rw[hR2,q1,show i*4+vals.length=(i+1)*4 by omega,q2,<-List.append_assoc]
  have:(xs.take (i*4)++vals++xs.drop (i*4)).length=(n+1)*4:=by rw[List.length_append,List.length_append,List.length_take,hdl,hvl];omega
  exact List.take_left' this
 have hin:i<=n:=by omega
 have hz2:¬((i:Int)=(n:Int)):=by omega
 have hz3:¬((c:Int)<(n:Int)+1):=by omega
 have hw1:IntKind.i64.wrap ((i:Int)+1)=(i:Int)+1:=by rw[IntKind.wrap_i64];omega
 have hw2:IntKind.i64.wrap ((n:Int)+1)=(n:Int)+1:=by rw[IntKind.wrap_i64];omega
 have htn:((i:Int)+1).toNat=i+1:=by omega
 have htn2:((n:Int)+1).toNat=n+1:=by omega
 have hb1:(0:Int)<=(i:Int)+1:=by omega
 have hb2:¬(c=i+1):=by omega
 have hb3:(i:Int)<=(n:Int)+1:=by omega
 have hb4:¬(c=i):=by omega
 have hn63:(n:Int)<=9223372036854775807:=by omega
 have hsub:n+1-(i+1)=n-i:=by omega
 clear hR1 hR2 hR1t
 go_enter Tryz.func114,Tryz.ntmps114
 go_wp2_with (simp only[hov])
 go_region_law_o (refine step_copyR rfl _ _ 36 36 rfl (.slice (some ⟨g,(i+1)*4,none⟩) (n-i) (c-(i+1))) (.slice (some ⟨g,i*4,none⟩) (n+1-i) (c-i)) (by simp[Act.eval,Act.put,hsub]) (by simp[Act.eval,Act.put]) (hcp1 _ (by rfl) 3 (c-(i+1)) (c-i)) ?_)
 go_wp2_with (refine wpList_copyR _ rfl _ _ 36 36 rfl _ _ rfl rfl (hcp2 _ (by rfl) _ _) ?_)
 go_ret
 refine⟨.slice (some ⟨g,0,none⟩) (n+1) c,rfl,?_,?_,rfl⟩
 ·have e2:((w.setRow g R1).setRow g R2).heap[g]? =some (.cells R2 85 (0,0)):=setRow_heap _ _ R1 _ _ _ (setRow_heap _ _ cur _ _ _ hh)
  exact⟨by rw[List.length_append,List.length_append,List.length_take,hdl,hvl];omega,.inr ⟨g,c,R2,rfl,Nat.zero_le _,e2,hroom,hcm,hR2s,hR2t⟩⟩
 ·refine⟨rfl,rfl,rfl,?_,λk hk hk2=> ?_⟩
  ·rw[setRow_size]
   show w.heap.size<=(w.setRow g R1).heap.size
   rw[setRow_size]
   exact Nat.le_refl _
  ·have:g≠k:=λe=>hk2 (by rw[e])
   rw[setRow_ne _ _ _ this]
   show(w.setRow g R1).heap[k]? =_
   rw[setRow_ne _ _ _ this]
theorem ins114:InsC Tryz.prog 114 85 (Tryz.prog.cellsOf 85):=by
 intro w v n i xs vals vb vc vcur ho hvh hvt hvl hne h1x h1v hi hb
 have hz:Tryz.prog.cellsOf 85=4:=rfl
 rw[hz]at ho hvt hvl⊢
 have hvc:∀(j:Nat)(u:Value),vals[j]? =some u->w.cell? ((⟨vb,0,none⟩:Addr).add j)=some u:=cells_at hvh (λj u hj=>by
  rw[<-hvt,List.getElem?_take]at hj
  split at hj
  ·rw[Nat.zero_add];exact hj
  ·cases hj)
 have hvb:vb<w.heap.size:=(Array.getElem?_eq_some_iff.1 hvh).1
 by_cases e:i=n
 ·subst e
  have hl:=ho.1
  rw[List.take_of_length_le (by omega),List.drop_eq_nil_of_le (by omega),List.append_nil]
  exact ins114_end w v i xs vals vb vc ho hvc hvl h1v hb
 ·rcases ho.2 with ⟨_,rfl⟩|⟨g,cap,cur,rfl,_,hh,hcap,hcm,hsz,ht⟩
  ·omega
  ·by_cases hr:cap=n
   ·subst hr
    refine(ins114_grow w g cap i cur xs vals vb vc hh hsz ht hvb hvc hvl h1x h1v (by omega) hb).mono ?_
    rintro e' w' ⟨v',h1,h2,h3,h4⟩
    exact⟨v',h1,h2,h3,.inr h4⟩
   ·refine(ins114_shift w g n cap i cur xs vals vb vc vcur hh hsz ht hcm hvh (λe1=>hne (by rw[e1];rfl)) hvc hvl h1x h1v (by omega) (by omega)).mono ?_
    rintro e' w' ⟨v',h1,h2,h3,h4⟩
    exact⟨v',h1,h2,h3,.inl h4⟩
end Go.Proofs.YtmcbbifeekhmgaaGreatDoor.Pe
