/- Functions,as pure functions; and that Go does just that. -/
import Derived.Test.YtlkdjdfcihjplaaGreatDoorPeFFnExactFold3
namespace Go.Proofs.YtlkdjdfcihjplaaGreatDoor.Pe.FnExactFold
open Go Go.RowKit
set_option linter.unusedVariables false
set_option linter.unusedSimpArgs false
set_option maxHeartbeats 40000000
set_option maxRecDepth 100000
def impl_acted_i1 (N : Nat) (x1 : (List Pair)) (x2 : Int) (x3 : Command) (x4 : (List Tsession)) : Option ((List Pair) × ByteArray × Bool) :=
 (if (x3.Op == 1) = true then
 (impl_opened N x1 x2 x4).bind fun y145 =>
 some (y145.1,y145.2.1,y145.2.2)
 else
 (slices_IndexFunc_session N x4 x3).bind fun y149 =>
 (if (decide (y149 < 0)) = true then
 some (x1,(⟨#[101,120,112,105,114,101,100]⟩ : ByteArray),true)
 else
 (at? x4 y149).bind fun x164 =>
 (if (decide (x3.Seq < x164.seq)) = true then
 some (x1,(⟨#[115,116,97,108,101]⟩ : ByteArray),true)
 else
 (at? x4 y149).bind fun x167 =>
 (if (x3.Seq == x167.seq) = true then
 (at? x4 y149).bind fun x170 =>
 some (x1,x170.reply,true)
 else
 (at? x4 y149).bind fun x172 =>
 (if (decide (x3.Seq > (w64 (x172.seq + 1)))) = true then
 some (x1,(⟨#[103,97,112]⟩ : ByteArray),true)
 else
 (impl_operated N x1 x3).bind fun y177 =>
 (impl_withSession N y177.1 (Tsession.mk x3.Session x3.Seq x2 y177.2)).bind fun y179 =>
 some (y179,y177.2,true))))))
theorem sem_impl_acted_i1 (N : Nat) (x1 : (List Pair)) (x2 : Int) (x3 : Command) (x4 : (List Tsession)) (r : (List Pair) × ByteArray × Bool) (h : impl_acted_i1 N x1 x2 x3 x4 = some r) : Says Tryz.prog 50 [RO 50 (x1.map encPair),VI x2,.agg [VI x3.Op,VI x3.Session,VI x3.Seq,VS x3.Key,VS x3.Value,VS x3.Old],.sl 0 107 0 x4.length] 1 [(0,.vec 107 (x4.map encTsession))] (.tup [RO 50 (r.1.map encPair),VS r.2.1,VB r.2.2]) [(0,.vec 107 (x4.map encTsession))] := by
 unfold impl_acted_i1 at h
 refine Says.of_norm e Tryz.call50 e fun B hB => ?_
 have hm : B.m ≤ 1000 := by omega
 refine Run.so hm (.z 1000 (.bx e e) e e (.p3 e e e (.nil (.seq (.so hm (.p3 e e e (.nil (.condO e h (fun g143 h => ?_) (fun g143 h => ?_)))))))))
 ·refine Run.so hm (.p3 e e e ?_)
  obtain ⟨y145,hy145,h⟩ := bindO h
  refine Ops.z 9240 (Ev.call [] [0] 1 (sem_impl_opened _ _ _ _ _ hy145) e e (.d2 (.cons (.borrow e (by decide) (lendW (fun _ => e) _ e)) .nil)) e (.inr ⟨e,ownL_root ⟨own_rows (fun _ => e) _,trivial⟩⟩) e e) e e ?_
  refine Ops.p e (.p3 e e e (.p2 e e (.nil (.ret ?_))))
  obtain rfl := someO h
  exact Ends.mkG (.inl e) e (Gh.trans (Gh.trans (Gh.trans ((Gh.frz (f := encPair) (g := encPair) (xs := y145.1) 9240 (fun _ => e) e)) (gh_prn [0,1,2] [0,9240] hB e)) (gh_ro [0,1,2] [] [9240] [0] e)) (gh_pk [0,1,2] [0] hB e e e e)) (by first | rfl | (simp only [List.length_set,takeMap,List.drop_zero,List.map_nil]; done) | (simp only [List.length_set,takeMap,List.drop_zero,List.map_nil]; rfl)) (by first | rfl | (simp only [List.length_set,takeMap,List.drop_zero,List.map_nil]; done) | (simp only [List.length_set,takeMap,List.drop_zero,List.map_nil]; rfl))
 ·refine Run.skip (.so hm (.p2 e e ?_))
  obtain ⟨y149,hy149,h⟩ := bindO h
  refine Ops.z 13320 (Ev.call [1000] [0] 0 (sem_slices_IndexFunc_session _ _ _ _ hy149) e e (.cons (.borrow e (by decide) (lendW (fun _ => e) _ e)) (.cons (.fn (.cons (.ptr e) .nil)) .nil)) e (.inr ⟨e,ownL_root ⟨e,trivial⟩⟩) e e) e e ?_
  refine Ops.p e (.nil (.seq (.block (.so hm (.p3 e e e (.nil (.condO e h (fun g162 h => ?_) (fun g162 h => ?_))))))))
  ·refine Run.so hm (.p3 e e e (.p e (.nil (.ret ?_))))
   obtain rfl := someO h
   exact Ends.mkG (.inl e) e (Gh.trans (Gh.trans (gh_prn [0,1,2] [0] hB e) (gh_ro [0,1,2] [] [] [0] e)) (gh_pk [0,1,2] [0] hB e e e e)) (by first | rfl | (simp only [List.length_set,takeMap,List.drop_zero,List.map_nil]; done) | (simp only [List.length_set,takeMap,List.drop_zero,List.map_nil]; rfl)) (by first | rfl | (simp only [List.length_set,takeMap,List.drop_zero,List.map_nil]; done) | (simp only [List.length_set,takeMap,List.drop_zero,List.map_nil]; rfl))
  ·refine Run.seq (.draw hm hmix (.p e (.p e (.p e (.p e ?_)))))
   obtain ⟨x164,hx164,h⟩ := bindO h
   refine OpsD.z 25640 (Ev.iaW e e e hx164) e e (.p e (.z 25672 (Ev.ldE (f := encTsession) e e (at_some hx164).2 e e e) e e (.p e (.p e (.nil ⟨by kernel_rfl,?_⟩)))))
   refine Run.condO e h (fun g165 h => ?_) (fun g165 h => ?_)
   ·refine Run.so hm (.p3 e e e (.p e (.nil (.ret ?_))))
    obtain rfl := someO h
    exact Ends.mkG (.inl e) e (Gh.trans (Gh.trans (gh_prn [0,1,2] [0] hB e) (gh_ro [0,1,2] [] [] [0] e)) (gh_pk [0,1,2] [0] hB e e e e)) (by first | rfl | (simp only [List.length_set,takeMap,List.drop_zero,List.map_nil]; done) | (simp only [List.length_set,takeMap,List.drop_zero,List.map_nil]; rfl)) (by first | rfl | (simp only [List.length_set,takeMap,List.drop_zero,List.map_nil]; done) | (simp only [List.length_set,takeMap,List.drop_zero,List.map_nil]; rfl))
   ·refine Run.seq (.draw hm hmix (.p e (.p e (.p e (.p e ?_)))))
    obtain ⟨x167,hx167,h⟩ := bindO h
    refine OpsD.z 33832 (Ev.iaW e e e hx167) e e (.p e (.z 33864 (Ev.ldE (f := encTsession) e e (at_some hx167).2 e e e) e e (.p e (.p e (.nil ⟨by kernel_rfl,?_⟩)))))
    refine Run.condO e h (fun g168 h => ?_) (fun g168 h => ?_)
    ·refine Run.seq (.draw hm hmix (.p e (.p e (.p e ?_))))
     obtain ⟨x170,hx170,h⟩ := bindO h
     refine OpsD.z 37912 (Ev.iaW e e e hx170) e e (.p e (.z 37944 (Ev.ldE (f := encTsession) e e (at_some hx170).2 e e e) e e (.p e (.p e (.p e (.nil ⟨by kernel_rfl,?_⟩))))))
     refine Run.ret ?_
     obtain rfl := someO h
     exact Ends.mkG (.inl e) e (Gh.trans (Gh.trans (gh_prn [0,1,2] [0] hB e) (gh_ro [0,1,2] [] [] [0] e)) (gh_pk [0,1,2] [0] hB e e e e)) (by first | rfl | (simp only [List.length_set,takeMap,List.drop_zero,List.map_nil]; done) | (simp only [List.length_set,takeMap,List.drop_zero,List.map_nil]; rfl)) (by first | rfl | (simp only [List.length_set,takeMap,List.drop_zero,List.map_nil]; done) | (simp only [List.length_set,takeMap,List.drop_zero,List.map_nil]; rfl))
    ·refine Run.seq (.draw hm hmix (.p e (.p e (.p e (.p e ?_)))))
     obtain ⟨x172,hx172,h⟩ := bindO h
     refine OpsD.z 42024 (Ev.iaW e e e hx172) e e (.p e (.z 42056 (Ev.ldE (f := encTsession) e e (at_some hx172).2 e e e) e e (.p e (.p e (.p e (.nil ⟨by kernel_rfl,?_⟩))))))
     refine Run.condO e h (fun g173 h => ?_) (fun g173 h => ?_)
     ·refine Run.so hm (.p3 e e e (.p e (.nil (.ret ?_))))
      obtain rfl := someO h
      exact Ends.mkG (.inl e) e (Gh.trans (Gh.trans (gh_prn [0,1,2] [0] hB e) (gh_ro [0,1,2] [] [] [0] e)) (gh_pk [0,1,2] [0] hB e e e e)) (by first | rfl | (simp only [List.length_set,takeMap,List.drop_zero,List.map_nil]; done) | (simp only [List.length_set,takeMap,List.drop_zero,List.map_nil]; rfl)) (by first | rfl | (simp only [List.length_set,takeMap,List.drop_zero,List.map_nil]; done) | (simp only [List.length_set,takeMap,List.drop_zero,List.map_nil]; rfl))
     ·refine Run.skip (.so hm (.p2 e e ?_))
      obtain ⟨y177,hy177,h⟩ := bindO h
      refine Ops.z 50184 (Ev.call [] [] 0 (sem_impl_operated _ _ _ _ hy177) e e (.d1 (.cons (.agg (.d4 (.d2 .nil))) .nil)) e (.inl e) e e) e e (.p3 e e e (.p2 e e (.nil (.so hm (.p3 e e e (.p3 e e e (.p e (.z 54360 (.bd e e) e e ?_))))))))
      obtain ⟨y179,hy179,h⟩ := bindO h
      refine Ops.z 54376 (Ev.call [] [] 1 (sem_impl_withSession _ _ _ _ hy179) e e (.d1 (.cons (.agg (.d4 .nil)) .nil)) e (.inl e) e e) e e (.p3 e e e (.p e (.nil (.ret ?_))))
      obtain rfl := someO h
      exact Ends.mkG (.inl e) e (Gh.trans (Gh.trans (Gh.trans ((Gh.frz (f := encPair) (g := encPair) (xs := y179) 54376 (fun _ => e) e)) (gh_prn [0,1,2] [0,54376] hB e)) (gh_ro [0,1,2] [] [54376] [0] e)) (gh_pk [0,1,2] [0] hB e e e e)) (by first | rfl | (simp only [List.length_set,takeMap,List.drop_zero,List.map_nil]; done) | (simp only [List.length_set,takeMap,List.drop_zero,List.map_nil]; rfl)) (by first | rfl | (simp only [List.length_set,takeMap,List.drop_zero,List.map_nil]; done) | (simp only [List.length_set,takeMap,List.drop_zero,List.map_nil]; rfl))
def impl_Act (N : Nat) (x1 : (List Pair)) (x2 : Int) (x3 : Command) : Option ((List Pair) × ByteArray × Bool) :=
 (impl_sessionsOf N x1).bind fun y149 =>
 (impl_MapOk N x1).bind fun y169 =>
 (if (!y169) = true then
 some ([],(⟨#[]⟩ : ByteArray),false)
 else
 (impl_CommandOk N x3).bind fun y171 =>
 (if (!y171) = true then
 some ([],(⟨#[]⟩ : ByteArray),false)
 else
 (impl_within N x2 0 100000).bind fun y173 =>
 (if (!y173) = true then
 some ([],(⟨#[]⟩ : ByteArray),false)
 else
 (if (!y149.2) = true then
 some ([],(⟨#[]⟩ : ByteArray),false)
 else
 (impl_acted_i1 N x1 x2 x3 y149.1).bind fun y179 =>
 (if (!y179.2.2) = true then
 some ([],(⟨#[]⟩ : ByteArray),false)
 else
 (impl_MapOk N y179.1).bind fun y188 =>
 (if (!y188) = true then
 some ([],(⟨#[]⟩ : ByteArray),false)
 else
 (cat? ([] : List Pair) y179.1).bind fun x191 =>
 some (x191,y179.2.1,true)))))))
theorem sem_impl_Act (N : Nat) (x1 : (List Pair)) (x2 : Int) (x3 : Command) (r : (List Pair) × ByteArray × Bool) (h : impl_Act N x1 x2 x3 = some r) : Says Tryz.prog 29 [RO 50 (x1.map encPair),VI x2,.agg [VI x3.Op,VI x3.Session,VI x3.Seq,VS x3.Key,VS x3.Value,VS x3.Old]] 0 [] (.tup [.sl 0 50 0 r.1.length,VS r.2.1,VB r.2.2]) [(0,.vec 50 (r.1.map encPair))] := by
 unfold impl_Act at h
 refine Says.of_norm e Tryz.call29 e fun B hB => ?_
 have hm : B.m ≤ 1000 := by omega
 refine Run.so hm (.z 1000 (.bx e e) e e (.p3 e e e (.nil (.so hm (.p e ?_)))))
 obtain ⟨y149,hy149,h⟩ := bindO h
 refine Ops.z 5112 (Ev.call [] [] 1 (sem_impl_sessionsOf _ _ _ hy149) e e (.d1 .nil) e (.inl e) e e) e e (.p3 e e e (.p2 e e (.nil (.seq (.so hm (.p e ?_))))))
 obtain ⟨y169,hy169,h⟩ := bindO h
 refine Ops.z 9208 (Ev.call [] [] 0 (sem_impl_MapOk _ _ _ hy169) e e (.d1 .nil) e (.inl e) e e) e e (.p2 e e (.askO (x := .t 22) e h (fun g170 h => ?_) (fun g170 h => ?_)))
 ·refine Ops.gn e g170 (.gn e g170 (.gn e g170 (.z 9304 (.pkT e g170 e) e e (.p e (.gn e e (.gn e e (.gn e e (.z 9384 (.pkT e e e) e e (.p e (.gn e e (.gn e e (.z 9448 (.pkT e e e) e e (.nil (.condT e e (.so hm (.p3 e e e (.nil (.ret ?_))))))))))))))))))
  obtain rfl := someO h
  exact Ends.mkG (.inl e) e (Gh.trans (Gh.trans (gh_prn [0,1,2] [] hB e) (gh_nil [0] [] hB e e e)) (gh_pk [0,1,2] [10000000] hB e e e e)) e e
 ·refine Ops.gp e g170 e ?_
  obtain ⟨y171,hy171,h⟩ := bindO h
  refine Ops.gs (s := 9272) e g170 (Ev.call [] [] 0 (sem_impl_CommandOk _ _ _ hy171) e e (.cons (.agg (.d4 (.d2 .nil))) .nil) e (.inl e) e e) e e (.gp e g170 e (.z 9304 (.pkF e g170 e) e e (.p e (.askO (x := .t 27) e h (fun g172 h => ?_) (fun g172 h => ?_)))))
  ·refine Ops.gn e g172 (.gn e g172 (.gn e g172 (.z 9384 (.pkT e g172 e) e e (.p e (.gn e e (.gn e e (.z 9448 (.pkT e e e) e e (.nil (.condT e e (.so hm (.p3 e e e (.nil (.ret ?_)))))))))))))
   obtain rfl := someO h
   exact Ends.mkG (.inl e) e (Gh.trans (Gh.trans (gh_prn [0,1,2] [] hB e) (gh_nil [0] [] hB e e e)) (gh_pk [0,1,2] [10000000] hB e e e e)) e e
  ·refine Ops.gp e g172 e ?_
   obtain ⟨y173,hy173,h⟩ := bindO h
   refine Ops.gs (s := 9352) e g172 (Ev.call [] [] 0 (sem_impl_within _ _ _ _ _ hy173) e e (.d2 (.d1 .nil)) e (.inl e) e e) e e (.gp e g172 e (.z 9384 (.pkF e g172 e) e e (.p e (.askO (x := .t 32) e h (fun g174 h => ?_) (fun g174 h => ?_)))))
   ·refine Ops.gn e g174 (.gn e g174 (.z 9448 (.pkT e g174 e) e e (.nil (.condT e e (.so hm (.p3 e e e (.nil (.ret ?_))))))))
    obtain rfl := someO h
    exact Ends.mkG (.inl e) e (Gh.trans (Gh.trans (gh_prn [0,1,2] [] hB e) (gh_nil [0] [] hB e e e)) (gh_pk [0,1,2] [10000000] hB e e e e)) e e
   ·refine Ops.gp e g174 e (.gp e g174 e (.z 9448 (.pkF e g174 e) e e (.nil (.condO e h (fun g175 h => ?_) (fun g175 h => ?_)))))
    ·refine Run.so hm (.p3 e e e (.nil (.ret ?_)))
     obtain rfl := someO h
     exact Ends.mkG (.inl e) e (Gh.trans (Gh.trans (gh_prn [0,1,2] [] hB e) (gh_nil [0] [] hB e e e)) (gh_pk [0,1,2] [10000000] hB e e e e)) e e
    ·refine Run.skip (.so hm (.p3 e e e (.p e ?_)))
     obtain ⟨y179,hy179,h⟩ := bindO h
     refine Ops.z 17448 (Ev.call [5112] [] 0 (sem_impl_acted_i1 _ _ _ _ _ _ hy179) e e (.d2 (.cons (.agg (.d4 (.d2 .nil))) (.cons (.sl e) .nil))) e (.inl e) e e) e e (.p3 e e e (.p3 e e e (.p e (.nil (.seq (.so hm (.p3 e e e (.askO (x := .t 47) e h (fun g187 h => ?_) (fun g187 h => ?_)))))))))
     ·refine Ops.gn e g187 (.gn e g187 (.gn e g187 (.z 21576 (.pkT e g187 e) e e (.nil (.condT e e (.so hm (.p3 e e e (.nil (.ret ?_)))))))))
      obtain rfl := someO h
      exact Ends.mkG (.inl e) e (Gh.trans (Gh.trans (gh_prn [0,1,2] [] hB e) (gh_nil [0] [] hB e e e)) (gh_pk [0,1,2] [10000000] hB e e e e)) e e
     ·refine Ops.gp e g187 e ?_
      obtain ⟨y188,hy188,h⟩ := bindO h
      refine Ops.gs (s := 21544) e g187 (Ev.call [] [] 0 (sem_impl_MapOk _ _ _ hy188) e e (.d1 .nil) e (.inl e) e e) e e (.gp e g187 e (.z 21576 (.pkF e g187 e) e e (.nil (.condO e h (fun g189 h => ?_) (fun g189 h => ?_)))))
      ·refine Run.so hm (.p3 e e e (.nil (.ret ?_)))
       obtain rfl := someO h
       exact Ends.mkG (.inl e) e (Gh.trans (Gh.trans (gh_prn [0,1,2] [] hB e) (gh_nil [0] [] hB e e e)) (gh_pk [0,1,2] [10000000] hB e e e e)) e e
      ·refine Run.skip (.so hm (.p e ?_))
       obtain ⟨x191,hx191,h⟩ := bindO h
       refine Ops.z 29688 (Ev.apW (f := encPair) (ontoN (f := encPair) e) (addsF e) e bt50 e hx191) e e (.p3 e e e (.p e (.nil (.ret ?_))))
       obtain rfl := someO h
       exact Ends.mkG (.inl e) e (gh_pk [0,1,2] [29688] hB e e e e) e e
def impl_made (N : Nat) (x1 : (List Pair)) (x2 : Int) (x3 : Entry) : Option ((List Pair) × ByteArray) :=
 (impl_ReadCommand N x3.Data).bind fun y119 =>
 (if (x3.Kind != 3) = true then
 some (x1,(⟨#[]⟩ : ByteArray))
 else
 (if (!y119.2) = true then
 some (x1,(⟨#[]⟩ : ByteArray))
 else
 (impl_Act N x1 x2 y119.1).bind fun y129 =>
 (if (!y129.2.2) = true then
 some (x1,(⟨#[]⟩ : ByteArray))
 else
 some (y129.1,y129.2.1))))
theorem sem_impl_made (N : Nat) (x1 : (List Pair)) (x2 : Int) (x3 : Entry) (r : (List Pair) × ByteArray) (h : impl_made N x1 x2 x3 = some r) : Says Tryz.prog 20 [RO 50 (x1.map encPair),VI x2,.agg [VI x3.Term,VI x3.Kind,VS x3.Data]] 0 [] (.tup [RO 50 (r.1.map encPair),VS r.2]) [] := by
 unfold impl_made at h
 refine Says.of_norm e Tryz.call20 e fun B hB => ?_
 have hm : B.m ≤ 1000 := by omega
 refine Run.so hm (.z 1000 (.bx e e) e e (.p2 e e (.nil (.so hm (.p2 e e ?_)))))
 obtain ⟨y119,hy119,h⟩ := bindO h
 refine Ops.z 5128 (Ev.call [] [] 0 (sem_impl_ReadCommand _ _ _ hy119) e e (.d1 .nil) e (.inl e) e e) e e (.p3 e e e (.z 5192 (.al e e) e e (.y 5208 (.sto e e e e e e) e e (.p e (.nil (.seq (.so hm (.p3 e e e (.p e (.askO (x := .t 22) e h (fun g124 h => ?_) (fun g124 h => ?_)))))))))))
 ·refine Ops.gn e g124 (.gn e g124 (.z 9288 (.pkT e g124 e) e e (.nil (.condT e e (.so hm (.p3 e e e (.nil (.ret ?_))))))))
  obtain rfl := someO h
  exact Ends.mkG (.inl e) e (Gh.trans (Gh.trans (gh_prn [0,1] [] hB e) (gh_ro [0,1] [] [] [0] e)) (gh_pk [0,1] [] hB e e e e)) (by first | rfl | (simp only [List.length_set,takeMap,List.drop_zero,List.map_nil]; done) | (simp only [List.length_set,takeMap,List.drop_zero,List.map_nil]; rfl)) (by first | rfl | (simp only [List.length_set,takeMap,List.drop_zero,List.map_nil]; done) | (simp only [List.length_set,takeMap,List.drop_zero,List.map_nil]; rfl))
 ·refine Ops.gp e g124 e (.gp e g124 e (.z 9288 (.pkF e g124 e) e e (.nil (.condO e h (fun g125 h => ?_) (fun g125 h => ?_)))))
  ·refine Run.so hm (.p3 e e e (.nil (.ret ?_)))
   obtain rfl := someO h
   exact Ends.mkG (.inl e) e (Gh.trans (Gh.trans (gh_prn [0,1] [] hB e) (gh_ro [0,1] [] [] [0] e)) (gh_pk [0,1] [] hB e e e e)) (by first | rfl | (simp only [List.length_set,takeMap,List.drop_zero,List.map_nil]; done) | (simp only [List.length_set,takeMap,List.drop_zero,List.map_nil]; rfl)) (by first | rfl | (simp only [List.length_set,takeMap,List.drop_zero,List.map_nil]; done) | (simp only [List.length_set,takeMap,List.drop_zero,List.map_nil]; rfl))
  ·refine Run.skip (.so hm (.p3 e e e ?_))
   obtain ⟨y129,hy129,h⟩ := bindO h
   refine Ops.z 17432 (Ev.call [] [] 1 (sem_impl_Act _ _ _ _ _ hy129) e e (.d2 (.cons (.agg (.d4 (.d2 .nil))) .nil)) e (.inl e) e e) e e (.p3 e e e (.p3 e e e (.p e (.nil (.seq (.so hm (.p2 e e (.nil (.condO e h (fun g131 h => ?_) (fun g131 h => ?_))))))))))
   ·refine Run.so hm (.p3 e e e (.nil (.ret ?_)))
    obtain rfl := someO h
    exact Ends.mkG (.inl e) e (Gh.trans (Gh.trans (gh_prn [0,1] [] hB e) (gh_ro [0,1] [] [] [0] e)) (gh_pk [0,1] [] hB e e e e)) (by first | rfl | (simp only [List.length_set,takeMap,List.drop_zero,List.map_nil]; done) | (simp only [List.length_set,takeMap,List.drop_zero,List.map_nil]; rfl)) (by first | rfl | (simp only [List.length_set,takeMap,List.drop_zero,List.map_nil]; done) | (simp only [List.length_set,takeMap,List.drop_zero,List.map_nil]; rfl))
   ·refine Run.skip (.so hm (.p3 e e e (.p e (.nil (.ret ?_)))))
    obtain rfl := someO h
    exact Ends.mkG (.inl e) e (Gh.trans (Gh.trans (Gh.trans ((Gh.frz (f := encPair) (g := encPair) (xs := y129.1) 17432 (fun _ => e) e)) (gh_prn [0,1] [17432] hB e)) (gh_ro [0,1] [] [17432] [0] e)) (gh_pk [0,1] [] hB e e e e)) (by first | rfl | (simp only [List.length_set,takeMap,List.drop_zero,List.map_nil]; done) | (simp only [List.length_set,takeMap,List.drop_zero,List.map_nil]; rfl)) (by first | rfl | (simp only [List.length_set,takeMap,List.drop_zero,List.map_nil]; done) | (simp only [List.length_set,takeMap,List.drop_zero,List.map_nil]; rfl))
def impl_made_i1 (N : Nat) (x1 : (List Pair)) (x2 : Int) (x3 : Entry) : Option ((List Pair) × ByteArray) :=
 (impl_ReadCommand N x3.Data).bind fun y119 =>
 (if (x3.Kind != 3) = true then
 some (x1,(⟨#[]⟩ : ByteArray))
 else
 (if (!y119.2) = true then
 some (x1,(⟨#[]⟩ : ByteArray))
 else
 (impl_Act N x1 x2 y119.1).bind fun y129 =>
 (if (!y129.2.2) = true then
 some (x1,(⟨#[]⟩ : ByteArray))
 else
 some (y129.1,y129.2.1))))
theorem sem_impl_made_i1 (N : Nat) (x1 : (List Pair)) (x2 : Int) (x3 : Entry) (r : (List Pair) × ByteArray) (h : impl_made_i1 N x1 x2 x3 = some r) : Says Tryz.prog 20 [.sl 0 50 0 x1.length,VI x2,.agg [VI x3.Term,VI x3.Kind,VS x3.Data]] 1 [(0,.vec 50 (x1.map encPair))] (.tup [.sl 1 50 0 r.1.length,VS r.2]) [(0,.gone),(1,.vec 50 (r.1.map encPair))] := by
 unfold impl_made_i1 at h
 refine Says.of_norm e Tryz.call20 e fun B hB => ?_
 have hm : B.m ≤ 1000 := by omega
 refine Run.so hm (.z 1000 (.bx e e) e e (.p2 e e (.nil (.so hm (.p2 e e ?_)))))
 obtain ⟨y119,hy119,h⟩ := bindO h
 refine Ops.z 5128 (Ev.call [] [] 0 (sem_impl_ReadCommand _ _ _ hy119) e e (.d1 .nil) e (.inl e) e e) e e (.p3 e e e (.z 5192 (.al e e) e e (.y 5208 (.sto e e e e e e) e e (.p e (.nil (.seq (.so hm (.p3 e e e (.p e (.askO (x := .t 22) e h (fun g124 h => ?_) (fun g124 h => ?_)))))))))))
 ·refine Ops.gn e g124 (.gn e g124 (.z 9288 (.pkT e g124 e) e e (.nil (.condT e e (.so hm (.p3 e e e (.nil (.ret ?_))))))))
  obtain rfl := someO h
  exact Ends.mkG (.inl e) e (Gh.trans (Gh.trans (gh_prn [0,1] [0] hB e) (gh_mvE [0,1] [0] hB e e)) (gh_pk [0,1] [0,30000000] hB e e e e)) e e
 ·refine Ops.gp e g124 e (.gp e g124 e (.z 9288 (.pkF e g124 e) e e (.nil (.condO e h (fun g125 h => ?_) (fun g125 h => ?_)))))
  ·refine Run.so hm (.p3 e e e (.nil (.ret ?_)))
   obtain rfl := someO h
   exact Ends.mkG (.inl e) e (Gh.trans (Gh.trans (gh_prn [0,1] [0] hB e) (gh_mvE [0,1] [0] hB e e)) (gh_pk [0,1] [0,30000000] hB e e e e)) e e
  ·refine Run.skip (.so hm (.p3 e e e ?_))
   obtain ⟨y129,hy129,h⟩ := bindO h
   refine Ops.z 17432 (Ev.call [] [0] 1 (sem_impl_Act _ _ _ _ _ hy129) e e (.cons (.borrow e (by decide) (lendW (fun _ => e) _ e)) (.d1 (.cons (.agg (.d4 (.d2 .nil))) .nil))) e (.inr ⟨e,ownL_root ⟨own_rows (fun _ => e) _,trivial⟩⟩) e e) e e ?_
   refine Ops.p e (.p3 e e e (.p3 e e e (.nil (.seq (.so hm (.p2 e e (.nil (.condO e h (fun g131 h => ?_) (fun g131 h => ?_)))))))))
   ·refine Run.so hm (.p3 e e e (.nil (.ret ?_)))
    obtain rfl := someO h
    exact Ends.mkG (.inl e) e (Gh.trans (Gh.trans (gh_prn [0,1] [0] hB e) (gh_mvE [0,1] [0] hB e e)) (gh_pk [0,1] [0,30000000] hB e e e e)) e e
   ·refine Run.skip (.so hm (.p3 e e e (.p e (.nil (.ret ?_)))))
    obtain rfl := someO h
    exact Ends.mkG (.inl e) e (Gh.trans (Gh.trans (gh_prn [0,1] [0,17432] hB e) (gh_mvE [0,1] [0] hB e e)) (gh_pk [0,1] [0,17432] hB e e e e)) e e
def impl_Fold_l1 (N : Nat) (x1 : (List Applied)) (x2 : Int) : Nat → (List Pair) → Int → Option (((List Pair) × Bool) ⊕ ((List Pair)))
 | 0,_,_ => none
 | m + 1,x277,x278 =>
 (if (decide (x278 ≤ x2)) = true then
 (slices_IndexFunc_Applied N x1 x278).bind fun y319 =>
 (if (decide (y319 < 0)) = true then
 some (Sum.inl ([],false))
 else
 (at? x1 y319).bind fun x324 =>
 (impl_made_i1 N x277 x278 x324.Entry).bind fun y325 =>
 impl_Fold_l1 N x1 x2 m y325.1 (w64 (x278 + 1)))
 else
 some (Sum.inr x277))
def impl_Fold (N : Nat) (x1 : (List Applied)) (x2 : Int) : Option ((List Pair) × Bool) :=
 (impl_within N x2 0 100000).bind fun y220 =>
 (if (!y220) = true then
 some ([],false)
 else
 (if (decide ((x1.length : Int) > 400)) = true then
 some ([],false)
 else
 joinP (fun (v274 : (List Pair)) =>
 some (v274,true)) fun j274 =>
 (impl_Fold_l1 N x1 x2 N ([] : (List Pair)) 1).bind (Sum.elim (fun v301 => some v301) (fun (v302 : (List Pair)) => j274 v302))))
theorem sem_impl_Fold (N : Nat) (x1 : (List Applied)) (x2 : Int) (r : (List Pair) × Bool) (h : impl_Fold N x1 x2 = some r) : Says Tryz.prog 7 [RO 42 (x1.map encApplied),VI x2] 0 [] (.tup [.sl 0 50 0 r.1.length,VB r.2]) [(0,.vec 50 (r.1.map encPair))] := by
 unfold impl_Fold at h
 refine Says.of_norm e Tryz.call7 e fun B hB => ?_
 have hm : B.m ≤ 1000 := by omega
 refine Run.so hm (.p2 e e (.nil (.seq (.so hm (.p e ?_)))))
 obtain ⟨y220,hy220,h⟩ := bindO h
 refine Ops.z 5112 (Ev.call [] [] 0 (sem_impl_within _ _ _ _ _ hy220) e e (.d2 (.d1 .nil)) e (.inl e) e e) e e (.p2 e e (.askO (x := .t 12) e h (fun g221 h => ?_) (fun g221 h => ?_)))
 ·refine Ops.gn e g221 (.gn e g221 (.gn e g221 (.z 5208 (.pkT e g221 e) e e (.nil (.condT e e (.so hm (.p2 e e (.nil (.ret ?_)))))))))
  obtain rfl := someO h
  exact Ends.mkG (.inl e) e (Gh.trans (Gh.trans (gh_prn [0,1] [] hB e) (gh_nil [0] [] hB e e e)) (gh_pk [0,1] [10000000] hB e e e e)) e e
 ·refine Ops.gp e g221 e (.gs (s := 5176) e g221 (Ev.lnF e) e e (.gp e g221 e (.z 5208 (.pkF e g221 e) e e (.nil (.condO e h (fun g222 h => ?_) (fun g222 h => ?_))))))
  ·refine Run.so hm (.p2 e e (.nil (.ret ?_)))
   obtain rfl := someO h
   exact Ends.mkG (.inl e) e (Gh.trans (Gh.trans (gh_prn [0,1] [] hB e) (gh_nil [0] [] hB e e e)) (gh_pk [0,1] [10000000] hB e e e e)) e e
  ·refine Run.skip (.so hm (.p e (.nil (.seqO h (fun v274 => [(6,.sl 0 50 0 v274.length)]) (fun (v274 : (List Pair)) => [(0,.vec 50 (v274.map encPair))]) (fun h => ?_) (fun v274 h => ?_)))))
   ·refine Run.so hm (.z 17384 (.al e e) e e (.y 17400 (.sto e e e e e e) e e (.nil (.block ?_))))
    obtain ⟨res302,h,hk302⟩ := bindO h
    refine Run.loop (n := N) (fun m302 fr σ => ∃ (x277 : (List Pair)),∃ (x278 : Int),impl_Fold_l1 N x1 x2 m302 x277 x278 = some res302 ∧ fr = [(0,RO 42 (x1.map encApplied)),(1,VI x2),(6,.sl 0 50 0 x277.length),(7,.ptr 1 0)] ∧ σ = [(0,.vec 50 (x277.map encPair)),(1,.box [VI x278])]) (Gh.trans (Gh.trans (gh_prn [0,1,6,7] [17384] hB e) (gh_nil [6] [] hB e e e)) (gh_pk [0,1,6,7] [10000000,17384] hB e e e e)) ⟨_,_,h,e,e⟩ ?_
    rintro m302 fr σ ⟨x277,x278,h,rfl,rfl⟩
    obtain _ | m302 := m302
    ·rw [impl_Fold_l1] at h; cases h
    rw [impl_Fold_l1] at h
    refine Run.seq (.so hm (.p3 e e e (.nil (.condO e h (fun g305 h => ?_) (fun g305 h => ?_)))))
    ·refine Run.skip (.seq (.block (.so hm (.p2 e e ?_))))
     obtain ⟨y319,hy319,h⟩ := bindO h
     refine Ops.z 29704 (Ev.call [1] [] 0 (sem_slices_IndexFunc_Applied _ _ _ _ hy319) e e (.d1 (.cons (.fn (.cons (.ptr e) .nil)) .nil)) e (.inl e) e e) e e (.p e (.nil (.seq (.so hm (.p2 e e (.nil (.condO e h (fun g321 h => ?_) (fun g321 h => ?_))))))))
     ·refine Run.so hm (.p2 e e (.nil (.ret ?_)))
      obtain rfl := someO h
      have h := hk302
      replace h := inlO h
      obtain rfl := someO h
      exact Ends.mkG (.inl e) e (Gh.trans (Gh.trans (gh_prn [0,1] [] hB e) (gh_nil [0] [] hB e e e)) (gh_pk [0,1] [10000000] hB e e e e)) e e
     ·refine Run.skip (.draw hm hmix (.p e (.p e (.p e (.p e ?_)))))
      obtain ⟨x324,hx324,h⟩ := bindO h
      refine OpsD.z 42024 (Ev.iaF e e hx324) e e (.p e (.p e ?_))
      obtain ⟨y325,hy325,h⟩ := bindO h
      refine OpsD.z 42072 (Ev.call [0] [] 1 (sem_impl_made_i1 _ _ _ _ _ hy325) e e (.cons (.sl e) (.d1 (.cons (.agg (.d2 (.d1 .nil))) .nil))) e (.inl e) e e) e e (.p e (.p e (.p e (.p e (.nil ⟨by kernel_rfl,?_⟩)))))
      exact Run.seq (.so hm (.p e (.nil (.ops hm (.z 50152 (.al e e) e e (.y 50168 (.sto e e e e e e) e e (.nil (.ops hm (.p2 e e (.y 25608 (.sto e e e e e e) e e (.nil (⟨m302,Nat.lt_succ_self m302,_,_,(gh_pk [0,1,6,7] [42072,50152] hB e e e e),_,_,h,e,e⟩))))))))))))
    ·refine Run.exit ?_
     obtain rfl := someO h
     have h := hk302
     replace h := inrO h
     exact ⟨_,_,(gh_pk [6] [0] hB e e e e),_,h,e,e⟩
   ·refine Run.so hm (.p3 e e e (.nil (.ret ?_)))
    obtain rfl := someO h
    exact Ends.mkG (.inl e) e (gh_pk [0,1] [0] hB e e e e) e e
def laws_eqPair (N : Nat) (x1 : Pair) (x2 : Pair) : Option (Bool) :=
 (if (!decide (x1.Key = x2.Key)) = true then
 some false
 else
 (if (!decide (x1.Value = x2.Value)) = true then
 some false
 else
 some true))
theorem sem_laws_eqPair (N : Nat) (x1 : Pair) (x2 : Pair) (r : Bool) (h : laws_eqPair N x1 x2 = some r) : Says Tryz.prog 21 [.agg [VS x1.Key,VS x1.Value],.agg [VS x2.Key,VS x2.Value]] 0 [] (VB r) [] := by
 unfold laws_eqPair at h
 refine Says.of_norm e Tryz.call21 e fun B hB => ?_
 have hm : B.m ≤ 1000 := by omega
 refine Run.so hm (.z 1000 (.bx e e) e e (.z 1016 (.bx e e) e e (.p e (.nil (.seq (.so hm (.p3 e e e (.p2 e e (.nil (.condO e h (fun g104 h => ?_) (fun g104 h => ?_)))))))))))
 ·refine Run.so hm (.p e (.nil (.ret ?_)))
  obtain rfl := someO h
  exact Ends.mkG (.inl e) e (gh_pk [0] [] hB e e e e) e e
 ·refine Run.skip (.seq (.so hm (.p3 e e e (.p2 e e (.nil (.condO e h (fun g105 h => ?_) (fun g105 h => ?_)))))))
  ·refine Run.so hm (.p e (.nil (.ret ?_)))
   obtain rfl := someO h
   exact Ends.mkG (.inl e) e (gh_pk [0] [] hB e e e e) e e
  ·refine Run.skip (.so hm (.p e (.nil (.ret ?_))))
   obtain rfl := someO h
   exact Ends.mkG (.inl e) e (gh_pk [0] [] hB e e e e) e e
def laws_eqPairS_l1 (N : Nat) (x1 : (List Pair)) (x2 : (List Pair)) : Nat → Int → Option ((Bool) ⊕ (Unit))
 | 0,_ => none
 | m + 1,x222 =>
 (if (decide (x222 < (x1.length : Int))) = true then
 (at? x1 x222).bind fun x254 =>
 (at? x2 x222).bind fun x255 =>
 (laws_eqPair N x254 x255).bind fun y256 =>
 (if (!y256) = true then
 some (Sum.inl false)
 else
 laws_eqPairS_l1 N x1 x2 m (w64 (x222 + 1)))
 else
 some (Sum.inr ()))
def laws_eqPairS_l1_r (N : Nat) (x1 : (List Pair)) (x2 : (List Pair)) : (List Pair) → Int → Option ((Bool) ⊕ (Unit))
 | [],x222 =>
 some (Sum.inr ())
 | hd :: tl,x222 =>
 (some hd).bind fun x254 =>
 (at? x2 x222).bind fun x255 =>
 (laws_eqPair N x254 x255).bind fun y256 =>
 (if (!y256) = true then
 some (Sum.inl false)
 else
 laws_eqPairS_l1_r N x1 x2 tl (w64 (x222 + 1)))
theorem laws_eqPairS_l1_rng (N : Nat) (x1 : (List Pair)) (x2 : (List Pair)) (hx : x1.length ≤ 1099511627776) : ∀ (d k m : Nat),x1.length = k + d → d < m → laws_eqPairS_l1 N x1 x2 m (k : Int) = laws_eqPairS_l1_r N x1 x2 (x1.drop k) (k : Int) := by
 intro d
 induction d with
 | zero =>
  intro k m hd hm
  obtain ⟨m,rfl⟩ : ∃ q,m = q + 1 := ⟨m - 1,by omega⟩
  rw [laws_eqPairS_l1,if_neg (by simp; omega),List.drop_eq_nil_of_le (by omega),laws_eqPairS_l1_r]
 | succ d ih =>
  intro k m hd hm
  obtain ⟨m,rfl⟩ : ∃ q,m = q + 1 := ⟨m - 1,by omega⟩
  have hk : k < x1.length := by omega
  rw [laws_eqPairS_l1,if_pos (by simp; omega),List.drop_eq_getElem_cons hk,laws_eqPairS_l1_r]
  have h1 := at_lt hk
  have h2 := w64_succ (k := k) (by omega)
  have h3 := ih (k + 1) m
  simp only [h1,h2,h3 (by omega) (by omega)]
theorem laws_eqPairS_l1_eq {N : Nat} (x1 : (List Pair)) (x2 : (List Pair)) (hx : x1.length ≤ 1099511627776) (hN : x1.length < N) : laws_eqPairS_l1 N x1 x2 N 0 = laws_eqPairS_l1_r N x1 x2 x1 0 := laws_eqPairS_l1_rng N x1 x2 hx x1.length 0 N (by omega) hN
def laws_eqPairS (N : Nat) (x1 : (List Pair)) (x2 : (List Pair)) : Option (Bool) :=
 (if ((x1.length : Int) != (x2.length : Int)) = true then
 some false
 else
 joinP (fun (v219 : Unit) =>
 some true) fun j219 =>
 (laws_eqPairS_l1 N x1 x2 N 0).bind (Sum.elim (fun v239 => some v239) (fun (v240 : Unit) => j219 ())))
theorem sem_laws_eqPairS (N : Nat) (x1 : (List Pair)) (x2 : (List Pair)) (r : Bool) (h : laws_eqPairS N x1 x2 = some r) : Says Tryz.prog 8 [RO 50 (x1.map encPair),RO 50 (x2.map encPair)] 0 [] (VB r) [] := by
 unfold laws_eqPairS at h
 refine Says.of_norm e Tryz.call8 e fun B hB => ?_
 have hm : B.m ≤ 1000 := by omega
 refine Run.so hm (.p e (.nil (.seq (.so hm (.p e (.z 5112 (Ev.lnF e) e e (.p e (.z 5144 (Ev.lnF e) e e (.p e (.nil (.condO e h (fun g180 h => ?_) (fun g180 h => ?_))))))))))))
 ·refine Run.so hm (.p e (.nil (.ret ?_)))
  obtain rfl := someO h
  exact Ends.mkG (.inl e) e (gh_pk [0] [] hB e e e e) e e
 ·refine Run.skip (.seqO h (fun v219 => []) (fun (v219 : Unit) => []) (fun h => ?_) (fun v219 h => ?_))
  ·refine Run.so hm (.p e (.nil (.block ?_)))
   obtain ⟨res240,h,hk240⟩ := bindO h
   refine Run.loop (n := N) (fun m240 fr σ => ∃ (x222 : Int),laws_eqPairS_l1 N x1 x2 m240 x222 = some res240 ∧ fr = [(0,RO 50 (x1.map encPair)),(1,RO 50 (x2.map encPair)),(5,VI x222)] ∧ σ = []) (gh_pk [0,1,5] [] hB e e e e) ⟨_,h,e,e⟩ ?_
   rintro m240 fr σ ⟨x222,h,rfl,rfl⟩
   obtain _ | m240 := m240
   ·rw [laws_eqPairS_l1] at h; cases h
   rw [laws_eqPairS_l1] at h
   refine Run.seq (.so hm (.p2 e e (.z 17416 (Ev.lnF e) e e (.p e (.nil (.condO e h (fun g243 h => ?_) (fun g243 h => ?_)))))))
   ·refine Run.skip (.seq (.block (.seq (.draw hm hmix (.p e (.p e ?_))))))
    obtain ⟨x254,hx254,h⟩ := bindO h
    refine OpsD.z 25608 (Ev.iaF e e hx254) e e (.p e (.p e (.p e ?_)))
    obtain ⟨x255,hx255,h⟩ := bindO h
    refine OpsD.z 25672 (Ev.iaF e e hx255) e e (.p e ?_)
    obtain ⟨y256,hy256,h⟩ := bindO h
    refine OpsD.z 25704 (Ev.call [] [] 0 (sem_laws_eqPair _ _ _ _ hy256) e e (.cons (.agg (.d2 .nil)) (.cons (.agg (.d2 .nil)) .nil)) e (.inl e) e e) e e (.p e (.nil ⟨by kernel_rfl,?_⟩))
    refine Run.condO e h (fun g257 h => ?_) (fun g257 h => ?_)
    ·refine Run.so hm (.p e (.nil (.ret ?_)))
     obtain rfl := someO h
     have h := hk240
     replace h := inlO h
     obtain rfl := someO h
     exact Ends.mkG (.inl e) e (gh_pk [0] [] hB e e e e) e e
    ·exact Run.skip (.ops hm (.p3 e e e (.nil (⟨m240,Nat.lt_succ_self m240,_,_,(gh_pk [0,1,5] [] hB e e e e),_,h,e,e⟩))))
   ·refine Run.exit ?_
    obtain rfl := someO h
    have h := hk240
    replace h := inrO h
    exact ⟨_,_,(gh_pk [] [] hB e e e e),(),h,e,e⟩
  ·refine Run.so hm (.p e (.nil (.ret ?_)))
   obtain rfl := someO h
   exact Ends.mkG (.inl e) e (gh_pk [0] [] hB e e e e) e e
def laws_eqEntry (N : Nat) (x1 : Entry) (x2 : Entry) : Option (Bool) :=
 (if (x1.Term != x2.Term) = true then
 some false
 else
 (if (x1.Kind != x2.Kind) = true then
 some false
 else
 (if (!decide (x1.Data = x2.Data)) = true then
 some false
 else
 some true)))
theorem sem_laws_eqEntry (N : Nat) (x1 : Entry) (x2 : Entry) (r : Bool) (h : laws_eqEntry N x1 x2 = some r) : Says Tryz.prog 30 [.agg [VI x1.Term,VI x1.Kind,VS x1.Data],.agg [VI x2.Term,VI x2.Kind,VS x2.Data]] 0 [] (VB r) [] := by
 unfold laws_eqEntry at h
 refine Says.of_norm e Tryz.call30 e fun B hB => ?_
 have hm : B.m ≤ 1000 := by omega
 refine Run.so hm (.z 1000 (.bx e e) e e (.z 1016 (.bx e e) e e (.p e (.nil (.seq (.so hm (.p3 e e e (.p2 e e (.nil (.condO e h (fun g106 h => ?_) (fun g106 h => ?_)))))))))))
 ·refine Run.so hm (.p e (.nil (.ret ?_)))
  obtain rfl := someO h
  exact Ends.mkG (.inl e) e (gh_pk [0] [] hB e e e e) e e
 ·refine Run.skip (.seq (.so hm (.p3 e e e (.p2 e e (.nil (.condO e h (fun g108 h => ?_) (fun g108 h => ?_)))))))
  ·refine Run.so hm (.p e (.nil (.ret ?_)))
   obtain rfl := someO h
   exact Ends.mkG (.inl e) e (gh_pk [0] [] hB e e e e) e e
  ·refine Run.skip (.seq (.so hm (.p3 e e e (.p2 e e (.nil (.condO e h (fun g109 h => ?_) (fun g109 h => ?_)))))))
   ·refine Run.so hm (.p e (.nil (.ret ?_)))
    obtain rfl := someO h
    exact Ends.mkG (.inl e) e (gh_pk [0] [] hB e e e e) e e
   ·refine Run.skip (.so hm (.p e (.nil (.ret ?_))))
    obtain rfl := someO h
    exact Ends.mkG (.inl e) e (gh_pk [0] [] hB e e e e) e e
def laws_eqApplied (N : Nat) (x1 : Applied) (x2 : Applied) : Option (Bool) :=
 (if (x1.Node != x2.Node) = true then
 some false
 else
 (if (x1.Term != x2.Term) = true then
 some false
 else
 (if (x1.Index != x2.Index) = true then
 some false
 else
 (laws_eqEntry N x1.Entry x2.Entry).bind fun y116 =>
 (if (!y116) = true then
 some false
 else
 some true))))
theorem sem_laws_eqApplied (N : Nat) (x1 : Applied) (x2 : Applied) (r : Bool) (h : laws_eqApplied N x1 x2 = some r) : Says Tryz.prog 22 [.agg [VI x1.Node,VI x1.Term,VI x1.Index,VI x1.Entry.Term,VI x1.Entry.Kind,VS x1.Entry.Data],.agg [VI x2.Node,VI x2.Term,VI x2.Index,VI x2.Entry.Term,VI x2.Entry.Kind,VS x2.Entry.Data]] 0 [] (VB r) [] := by
 unfold laws_eqApplied at h
 refine Says.of_norm e Tryz.call22 e fun B hB => ?_
 have hm : B.m ≤ 1000 := by omega
 refine Run.so hm (.z 1000 (.bx e e) e e (.z 1016 (.bx e e) e e (.p e (.nil (.seq (.so hm (.p3 e e e (.p2 e e (.nil (.condO e h (fun g110 h => ?_) (fun g110 h => ?_)))))))))))
 ·refine Run.so hm (.p e (.nil (.ret ?_)))
  obtain rfl := someO h
  exact Ends.mkG (.inl e) e (gh_pk [0] [] hB e e e e) e e
 ·refine Run.skip (.seq (.so hm (.p3 e e e (.p2 e e (.nil (.condO e h (fun g112 h => ?_) (fun g112 h => ?_)))))))
  ·refine Run.so hm (.p e (.nil (.ret ?_)))
   obtain rfl := someO h
   exact Ends.mkG (.inl e) e (gh_pk [0] [] hB e e e e) e e
  ·refine Run.skip (.seq (.so hm (.p3 e e e (.p2 e e (.nil (.condO e h (fun g114 h => ?_) (fun g114 h => ?_)))))))
   ·refine Run.so hm (.p e (.nil (.ret ?_)))
    obtain rfl := someO h
    exact Ends.mkG (.inl e) e (gh_pk [0] [] hB e e e e) e e
   ·refine Run.skip (.seq (.so hm (.p3 e e e (.p e ?_))))
    obtain ⟨y116,hy116,h⟩ := bindO h
    refine Ops.z 29736 (Ev.call [] [] 0 (sem_laws_eqEntry _ _ _ _ hy116) e e (.cons (.agg (.d2 (.d1 .nil))) (.cons (.agg (.d2 (.d1 .nil))) .nil)) e (.inl e) e e) e e (.p e (.nil (.condO e h (fun g117 h => ?_) (fun g117 h => ?_))))
    ·refine Run.so hm (.p e (.nil (.ret ?_)))
     obtain rfl := someO h
     exact Ends.mkG (.inl e) e (gh_pk [0] [] hB e e e e) e e
    ·refine Run.skip (.so hm (.p e (.nil (.ret ?_))))
     obtain rfl := someO h
     exact Ends.mkG (.inl e) e (gh_pk [0] [] hB e e e e) e e
def laws_eqAppliedS_l1 (N : Nat) (x1 : (List Applied)) (x2 : (List Applied)) : Nat → Int → Option ((Bool) ⊕ (Unit))
 | 0,_ => none
 | m + 1,x222 =>
 (if (decide (x222 < (x1.length : Int))) = true then
 (at? x1 x222).bind fun x254 =>
 (at? x2 x222).bind fun x255 =>
 (laws_eqApplied N x254 x255).bind fun y256 =>
 (if (!y256) = true then
 some (Sum.inl false)
 else
 laws_eqAppliedS_l1 N x1 x2 m (w64 (x222 + 1)))
 else
 some (Sum.inr ()))
def laws_eqAppliedS_l1_r (N : Nat) (x1 : (List Applied)) (x2 : (List Applied)) : (List Applied) → Int → Option ((Bool) ⊕ (Unit))
 | [],x222 =>
 some (Sum.inr ())
 | hd :: tl,x222 =>
 (some hd).bind fun x254 =>
 (at? x2 x222).bind fun x255 =>
 (laws_eqApplied N x254 x255).bind fun y256 =>
 (if (!y256) = true then
 some (Sum.inl false)
 else
 laws_eqAppliedS_l1_r N x1 x2 tl (w64 (x222 + 1)))
theorem laws_eqAppliedS_l1_rng (N : Nat) (x1 : (List Applied)) (x2 : (List Applied)) (hx : x1.length ≤ 1099511627776) : ∀ (d k m : Nat),x1.length = k + d → d < m → laws_eqAppliedS_l1 N x1 x2 m (k : Int) = laws_eqAppliedS_l1_r N x1 x2 (x1.drop k) (k : Int) := by
 intro d
 induction d with
 | zero =>
  intro k m hd hm
  obtain ⟨m,rfl⟩ : ∃ q,m = q + 1 := ⟨m - 1,by omega⟩
  rw [laws_eqAppliedS_l1,if_neg (by simp; omega),List.drop_eq_nil_of_le (by omega),laws_eqAppliedS_l1_r]
 | succ d ih =>
  intro k m hd hm
  obtain ⟨m,rfl⟩ : ∃ q,m = q + 1 := ⟨m - 1,by omega⟩
  have hk : k < x1.length := by omega
  rw [laws_eqAppliedS_l1,if_pos (by simp; omega),List.drop_eq_getElem_cons hk,laws_eqAppliedS_l1_r]
  have h1 := at_lt hk
  have h2 := w64_succ (k := k) (by omega)
  have h3 := ih (k + 1) m
  simp only [h1,h2,h3 (by omega) (by omega)]
theorem laws_eqAppliedS_l1_eq {N : Nat} (x1 : (List Applied)) (x2 : (List Applied)) (hx : x1.length ≤ 1099511627776) (hN : x1.length < N) : laws_eqAppliedS_l1 N x1 x2 N 0 = laws_eqAppliedS_l1_r N x1 x2 x1 0 := laws_eqAppliedS_l1_rng N x1 x2 hx x1.length 0 N (by omega) hN
def laws_eqAppliedS (N : Nat) (x1 : (List Applied)) (x2 : (List Applied)) : Option (Bool) :=
 (if ((x1.length : Int) != (x2.length : Int)) = true then
 some false
 else
 joinP (fun (v219 : Unit) =>
 some true) fun j219 =>
 (laws_eqAppliedS_l1 N x1 x2 N 0).bind (Sum.elim (fun v239 => some v239) (fun (v240 : Unit) => j219 ())))
theorem sem_laws_eqAppliedS (N : Nat) (x1 : (List Applied)) (x2 : (List Applied)) (r : Bool) (h : laws_eqAppliedS N x1 x2 = some r) : Says Tryz.prog 9 [RO 42 (x1.map encApplied),RO 42 (x2.map encApplied)] 0 [] (VB r) [] := by
 unfold laws_eqAppliedS at h
 refine Says.of_norm e Tryz.call9 e fun B hB => ?_
 have hm : B.m ≤ 1000 := by omega
 refine Run.so hm (.p e (.nil (.seq (.so hm (.p e (.z 5112 (Ev.lnF e) e e (.p e (.z 5144 (Ev.lnF e) e e (.p e (.nil (.condO e h (fun g180 h => ?_) (fun g180 h => ?_))))))))))))
 ·refine Run.so hm (.p e (.nil (.ret ?_)))
  obtain rfl := someO h
  exact Ends.mkG (.inl e) e (gh_pk [0] [] hB e e e e) e e
 ·refine Run.skip (.seqO h (fun v219 => []) (fun (v219 : Unit) => []) (fun h => ?_) (fun v219 h => ?_))
  ·refine Run.so hm (.p e (.nil (.block ?_)))
   obtain ⟨res240,h,hk240⟩ := bindO h
   refine Run.loop (n := N) (fun m240 fr σ => ∃ (x222 : Int),laws_eqAppliedS_l1 N x1 x2 m240 x222 = some res240 ∧ fr = [(0,RO 42 (x1.map encApplied)),(1,RO 42 (x2.map encApplied)),(5,VI x222)] ∧ σ = []) (gh_pk [0,1,5] [] hB e e e e) ⟨_,h,e,e⟩ ?_
   rintro m240 fr σ ⟨x222,h,rfl,rfl⟩
   obtain _ | m240 := m240
   ·rw [laws_eqAppliedS_l1] at h; cases h
   rw [laws_eqAppliedS_l1] at h
   refine Run.seq (.so hm (.p2 e e (.z 17416 (Ev.lnF e) e e (.p e (.nil (.condO e h (fun g243 h => ?_) (fun g243 h => ?_)))))))
   ·refine Run.skip (.seq (.block (.seq (.draw hm hmix (.p e (.p e ?_))))))
    obtain ⟨x254,hx254,h⟩ := bindO h
    refine OpsD.z 25608 (Ev.iaF e e hx254) e e (.p e (.p e (.p e ?_)))
    obtain ⟨x255,hx255,h⟩ := bindO h
    refine OpsD.z 25672 (Ev.iaF e e hx255) e e (.p e ?_)
    obtain ⟨y256,hy256,h⟩ := bindO h
    refine OpsD.z 25704 (Ev.call [] [] 0 (sem_laws_eqApplied _ _ _ _ hy256) e e (.cons (.agg (.d4 (.d2 .nil))) (.cons (.agg (.d4 (.d2 .nil))) .nil)) e (.inl e) e e) e e (.p e (.nil ⟨by kernel_rfl,?_⟩))
    refine Run.condO e h (fun g257 h => ?_) (fun g257 h => ?_)
    ·refine Run.so hm (.p e (.nil (.ret ?_)))
     obtain rfl := someO h
     have h := hk240
     replace h := inlO h
     obtain rfl := someO h
     exact Ends.mkG (.inl e) e (gh_pk [0] [] hB e e e e) e e
    ·exact Run.skip (.ops hm (.p3 e e e (.nil (⟨m240,Nat.lt_succ_self m240,_,_,(gh_pk [0,1,5] [] hB e e e e),_,h,e,e⟩))))
   ·refine Run.exit ?_
    obtain rfl := someO h
    have h := hk240
    replace h := inrO h
    exact ⟨_,_,(gh_pk [] [] hB e e e e),(),h,e,e⟩
  ·refine Run.so hm (.p e (.nil (.ret ?_)))
   obtain rfl := someO h
   exact Ends.mkG (.inl e) e (gh_pk [0] [] hB e e e e) e e
def laws_markText_l1 (N : Nat) : Nat → Int → ByteArray → Option (ByteArray)
 | 0,_,_ => none
 | m + 1,x192,x193 =>
 (if (decide (x192 > 0)) = true then
 (intD .rem .i64 x192 10).bind fun x216 =>
 (scat? (strOf ([IntKind.wrap .u8 (w64 (48 + x216))] : List Int)) x193).bind fun x217 =>
 (intD .quo .i64 x192 10).bind fun x219 =>
 laws_markText_l1 N m x219 x217
 else
 some x193)
def laws_markText (N : Nat) (x1 : Int) : Option (ByteArray) :=
 (if (decide (x1 ≤ 0)) = true then
 some (⟨#[109,48]⟩ : ByteArray)
 else
 joinP (fun (v191 : ByteArray) =>
 (scat? (⟨#[109]⟩ : ByteArray) v191).bind fun x221 =>
 some x221) fun j191 =>
 (laws_markText_l1 N N x1 (⟨#[]⟩ : ByteArray)).bind (fun v206 => j191 v206))
theorem sem_laws_markText (N : Nat) (x1 : Int) (r : ByteArray) (h : laws_markText N x1 = some r) : Says Tryz.prog 23 [VI x1] 0 [] (VS r) [] := by
 unfold laws_markText at h
 refine Says.of_norm e Tryz.call23 e fun B hB => ?_
 have hm : B.m ≤ 1000 := by omega
 refine Run.so hm (.p e (.nil (.seq (.so hm (.p2 e e (.nil (.condO e h (fun g162 h => ?_) (fun g162 h => ?_))))))))
 ·refine Run.so hm (.p e (.nil (.ret ?_)))
  obtain rfl := someO h
  exact Ends.mkG (.inl e) e (gh_pk [0] [] hB e e e e) e e
 ·refine Run.skip (.so hm (.p e (.nil (.seqO h (fun v191 => [(3,VS v191)]) (fun (v191 : ByteArray) => []) (fun h => ?_) (fun v191 h => ?_)))))
  ·refine Run.block ?_
   obtain ⟨res206,h,hk206⟩ := bindO h
   refine Run.loop (n := N) (fun m206 fr σ => ∃ (x192 : Int),∃ (x193 : ByteArray),laws_markText_l1 N m206 x192 x193 = some res206 ∧ fr = [(0,VI x192),(3,VS x193)] ∧ σ = []) (gh_pk [0,3] [] hB e e e e) ⟨_,_,h,e,e⟩ ?_
   rintro m206 fr σ ⟨x192,x193,h,rfl,rfl⟩
   obtain _ | m206 := m206
   ·rw [laws_markText_l1] at h; cases h
   rw [laws_markText_l1] at h
   refine Run.seq (.so hm (.p2 e e (.nil (.condO e h (fun g209 h => ?_) (fun g209 h => ?_)))))
   ·refine Run.skip (.block (.so hm (.p e ?_)))
    obtain ⟨x216,hx216,h⟩ := bindO h
    refine Ops.z 21496 (.bin e e hx216) e e (.p2 e e (.z 21544 (Ev.bsW (ys := ([IntKind.wrap .u8 (w64 (48 + x216))] : List Int)) (f := encU) e (.d1 .nil) e e e e e) e e (.z 21560 (.sbC (addsW (f := encU) e e e (fun _ => e))) e e (.p e ?_))))
    obtain ⟨x217,hx217,h⟩ := bindO h
    refine Ops.z 21592 (Ev.addS e e hx217) e e (.p e (.nil (.ops hm (.p e ?_))))
    obtain ⟨x219,hx219,h⟩ := bindO h
    exact Ops.z 25592 (.bin e e hx219) e e (.p e (.nil (⟨m206,Nat.lt_succ_self m206,_,_,(gh_pk [0,3] [] hB e e e e),_,_,h,e,e⟩)))
   ·refine Run.exit ?_
    obtain rfl := someO h
    have h := hk206
    exact ⟨_,_,(gh_pk [3] [] hB e e e e),_,h,e,e⟩
  ·refine Run.so hm (.p e ?_)
   obtain ⟨x221,hx221,h⟩ := bindO h
   refine Ops.z 29688 (Ev.addS e e hx221) e e (.p e (.nil (.ret ?_)))
   obtain rfl := someO h
   exact Ends.mkG (.inl e) e (gh_pk [0] [] hB e e e e) e e
def laws_markAppliedS_l1 (N : Nat) : Nat → Int → Int → (List Applied) → Option (Int × (List Applied))
 | 0,_,_,_ => none
 | m + 1,x465,x466,x467 =>
 (if (decide (x466 < ((x467.length : Nat) : Int))) = true then
 (at? x467 x466).bind fun x561 =>
 (at? (x467.set x466.toNat (Applied.mk x465 x561.Term x561.Index x561.Entry)) x466).bind fun x565 =>
 (at? ((x467.set x466.toNat (Applied.mk x465 x561.Term x561.Index x561.Entry)).set x466.toNat (Applied.mk x565.Node (w64 (x465 + 1)) x565.Index x565.Entry)) x466).bind fun x569 =>
 (at? (((x467.set x466.toNat (Applied.mk x465 x561.Term x561.Index x561.Entry)).set x466.toNat (Applied.mk x565.Node (w64 (x465 + 1)) x565.Index x565.Entry)).set x466.toNat (Applied.mk x569.Node x569.Term (w64 ((w64 (x465 + 1)) + 1)) x569.Entry)) x466).bind fun x573 =>
 (at? ((((x467.set x466.toNat (Applied.mk x465 x561.Term x561.Index x561.Entry)).set x466.toNat (Applied.mk x565.Node (w64 (x465 + 1)) x565.Index x565.Entry)).set x466.toNat (Applied.mk x569.Node x569.Term (w64 ((w64 (x465 + 1)) + 1)) x569.Entry)).set x466.toNat (Applied.mk x573.Node x573.Term x573.Index (Entry.mk (w64 ((w64 ((w64 (x465 + 1)) + 1)) + 1)) x573.Entry.Kind x573.Entry.Data))) x466).bind fun x577 =>
 (laws_markText N (w64 ((w64 ((w64 ((w64 ((w64 (x465 + 1)) + 1)) + 1)) + 1)) + 1))).bind fun y584 =>
 (at? (((((x467.set x466.toNat (Applied.mk x465 x561.Term x561.Index x561.Entry)).set x466.toNat (Applied.mk x565.Node (w64 (x465 + 1)) x565.Index x565.Entry)).set x466.toNat (Applied.mk x569.Node x569.Term (w64 ((w64 (x465 + 1)) + 1)) x569.Entry)).set x466.toNat (Applied.mk x573.Node x573.Term x573.Index (Entry.mk (w64 ((w64 ((w64 (x465 + 1)) + 1)) + 1)) x573.Entry.Kind x573.Entry.Data))).set x466.toNat (Applied.mk x577.Node x577.Term x577.Index (Entry.mk x577.Entry.Term (w64 ((w64 ((w64 ((w64 (x465 + 1)) + 1)) + 1)) + 1)) x577.Entry.Data))) x466).bind fun x585 =>
 laws_markAppliedS_l1 N m (w64 ((w64 ((w64 ((w64 ((w64 ((w64 (x465 + 1)) + 1)) + 1)) + 1)) + 1)) + 1)) (w64 (x466 + 1)) ((((((x467.set x466.toNat (Applied.mk x465 x561.Term x561.Index x561.Entry)).set x466.toNat (Applied.mk x565.Node (w64 (x465 + 1)) x565.Index x565.Entry)).set x466.toNat (Applied.mk x569.Node x569.Term (w64 ((w64 (x465 + 1)) + 1)) x569.Entry)).set x466.toNat (Applied.mk x573.Node x573.Term x573.Index (Entry.mk (w64 ((w64 ((w64 (x465 + 1)) + 1)) + 1)) x573.Entry.Kind x573.Entry.Data))).set x466.toNat (Applied.mk x577.Node x577.Term x577.Index (Entry.mk x577.Entry.Term (w64 ((w64 ((w64 ((w64 (x465 + 1)) + 1)) + 1)) + 1)) x577.Entry.Data))).set x466.toNat (Applied.mk x585.Node x585.Term x585.Index (Entry.mk x585.Entry.Term x585.Entry.Kind y584)))
 else
 some (x465,x467))
def laws_markAppliedS (N : Nat) (x1 : (List Applied)) (x2 : Int) : Option (Int × (List Applied)) :=
 joinP (fun (v464 : Int × (List Applied)) =>
 some (v464.1,v464.2)) fun j464 =>
 (laws_markAppliedS_l1 N N x2 0 x1).bind (fun v526 => j464 (v526.1,v526.2))
theorem sem_laws_markAppliedS (N : Nat) (x1 : (List Applied)) (x2 : Int) (r : Int × (List Applied)) (h : laws_markAppliedS N x1 x2 = some r) : Says Tryz.prog 10 [.sl 0 42 0 x1.length,VI x2] 1 [(0,.vec 42 (x1.map encApplied))] (VI r.1) [(0,.vec 42 (r.2.map encApplied))] := by
 unfold laws_markAppliedS at h
 refine Says.of_norm e Tryz.call10 e fun B hB => ?_
 have hm : B.m ≤ 1000 := by omega
 refine Run.so hm (.p e (.nil (.seqO h (fun v464 => [(1,VI v464.1)]) (fun (v464 : Int × (List Applied)) => [(0,.vec 42 (v464.2.map encApplied))]) (fun h => ?_) (fun v464 h => ?_))))
 ·refine Run.so hm (.p e (.nil (.block ?_)))
  obtain ⟨res526,h,hk526⟩ := bindO h
  refine Run.loop (n := N) (fun m526 fr σ => ∃ (x465 : Int),∃ (x466 : Int),∃ (x467 : (List Applied)),laws_markAppliedS_l1 N m526 x465 x466 x467 = some res526 ∧ fr = [(0,.sl 0 42 0 x467.length),(1,VI x465),(5,VI x466)] ∧ σ = [(0,.vec 42 (x467.map encApplied))]) (gh_pk [0,1,5] [0] hB e e e e) ⟨_,_,_,h,e,e⟩ ?_
  rintro m526 fr σ ⟨x465,x466,x467,h,rfl,rfl⟩
  obtain _ | m526 := m526
  ·rw [laws_markAppliedS_l1] at h; cases h
  rw [laws_markAppliedS_l1] at h
  refine Run.seq (.so hm (.p3 e e e (.p e (.nil (.condO e h (fun g529 h => ?_) (fun g529 h => ?_))))))
  ·refine Run.skip (.seq (.block (.so hm (.p3 e e e ?_))))
   obtain ⟨x561,hx561,h⟩ := bindO h
   refine Ops.z 17432 (Ev.iaW e e e hx561) e e (.p e (.y 17464 (Ev.stE (f := encApplied) (v' := (Applied.mk x465 x561.Term x561.Index x561.Entry)) e e (at_some hx561).2 e (.d1 .nil) e e e e e) e e (.nil (.so hm (.p3 e e e (.nil (.so hm (.p3 e e e ?_))))))))
   obtain ⟨x565,hx565,h⟩ := bindO h
   refine Ops.z 25624 (Ev.iaW e (by simp) e hx565) e e ?_
   refine Ops.p e (.y 25656 (Ev.stE (f := encApplied) (v' := (Applied.mk x565.Node (w64 (x465 + 1)) x565.Index x565.Entry)) e e (at_some hx565).2 e (.d1 .nil) e e e e e) e e (.nil (.so hm (.p3 e e e (.nil (.so hm (.p3 e e e ?_)))))))
   obtain ⟨x569,hx569,h⟩ := bindO h
   refine Ops.z 33816 (Ev.iaW e (by simp) e hx569) e e ?_
   refine Ops.p e (.y 33848 (Ev.stE (f := encApplied) (v' := (Applied.mk x569.Node x569.Term (w64 ((w64 (x465 + 1)) + 1)) x569.Entry)) e e (at_some hx569).2 e (.d1 .nil) e e e e e) e e (.nil (.so hm (.p3 e e e (.nil (.so hm (.p3 e e e ?_)))))))
   obtain ⟨x573,hx573,h⟩ := bindO h
   refine Ops.z 42008 (Ev.iaW e (by simp) e hx573) e e ?_
   refine Ops.p e (.p e (.y 42056 (Ev.stE (f := encApplied) (v' := (Applied.mk x573.Node x573.Term x573.Index (Entry.mk (w64 ((w64 ((w64 (x465 + 1)) + 1)) + 1)) x573.Entry.Kind x573.Entry.Data))) e e (at_some hx573).2 e (.d1 .nil) e e e e e) e e (.nil (.so hm (.p3 e e e (.nil (.so hm (.p3 e e e ?_))))))))
   obtain ⟨x577,hx577,h⟩ := bindO h
   refine Ops.z 50200 (Ev.iaW e (by simp) e hx577) e e ?_
   refine Ops.p e (.p e (.y 50248 (Ev.stE (f := encApplied) (v' := (Applied.mk x577.Node x577.Term x577.Index (Entry.mk x577.Entry.Term (w64 ((w64 ((w64 ((w64 (x465 + 1)) + 1)) + 1)) + 1)) x577.Entry.Data))) e e (at_some hx577).2 e (.d1 .nil) e e e e e) e e (.nil (.so hm (.p3 e e e (.nil (.so hm (.p3 e e e ?_))))))))
   obtain ⟨y584,hy584,h⟩ := bindO h
   refine Ops.z 58392 (Ev.call [] [] 0 (sem_laws_markText _ _ _ hy584) e e (.d1 .nil) e (.inl e) e e) e e ?_
   obtain ⟨x585,hx585,h⟩ := bindO h
   refine Ops.z 58408 (Ev.iaW e (by simp) e hx585) e e ?_
   exact Ops.p e (.p e (.y 58456 (Ev.stE (f := encApplied) (v' := (Applied.mk x585.Node x585.Term x585.Index (Entry.mk x585.Entry.Term x585.Entry.Kind y584))) e e (at_some hx585).2 e (.d1 .nil) e e e e e) e e (.nil (.ops hm (.p3 e e e (.nil (.ops hm (.p3 e e e (.nil (⟨m526,Nat.lt_succ_self m526,_,_,(gh_pk [0,1,5] [0] hB e e (by first | rfl | (simp only [List.length_set]; done) | (simp only [List.length_set]; rfl)) (by first | rfl | (simp only [List.length_set]; done) | (simp only [List.length_set]; rfl))),_,_,_,h,e,e⟩))))))))))
  ·refine Run.exit ?_
   obtain rfl := someO h
   have h := hk526
   exact ⟨_,_,(gh_pk [1] [0] hB e e e e),_,h,e,e⟩
 ·refine Run.so hm (.p2 e e (.nil (.ret ?_)))
  obtain rfl := someO h
  exact Ends.mkG (.inl e) e (gh_pk [0] [0] hB e e e e) e e
def laws_markPairS_l1 (N : Nat) : Nat → Int → Int → (List Pair) → Option (Int × (List Pair))
 | 0,_,_,_ => none
 | m + 1,x321,x322,x323 =>
 (if (decide (x322 < ((x323.length : Nat) : Int))) = true then
 (laws_markText N x321).bind fun y384 =>
 (at? x323 x322).bind fun x385 =>
 (laws_markText N (w64 (x321 + 1))).bind fun y392 =>
 (at? (x323.set x322.toNat (Pair.mk y384 x385.Value)) x322).bind fun x393 =>
 laws_markPairS_l1 N m (w64 ((w64 (x321 + 1)) + 1)) (w64 (x322 + 1)) ((x323.set x322.toNat (Pair.mk y384 x385.Value)).set x322.toNat (Pair.mk x393.Key y392))
 else
 some (x321,x323))
def laws_markPairS (N : Nat) (x1 : (List Pair)) (x2 : Int) : Option (Int × (List Pair)) :=
 joinP (fun (v320 : Int × (List Pair)) =>
 some (v320.1,v320.2)) fun j320 =>
 (laws_markPairS_l1 N N x2 0 x1).bind (fun v358 => j320 (v358.1,v358.2))
theorem sem_laws_markPairS (N : Nat) (x1 : (List Pair)) (x2 : Int) (r : Int × (List Pair)) (h : laws_markPairS N x1 x2 = some r) : Says Tryz.prog 11 [.sl 0 50 0 x1.length,VI x2] 1 [(0,.vec 50 (x1.map encPair))] (VI r.1) [(0,.vec 50 (r.2.map encPair))] := by
 unfold laws_markPairS at h
 refine Says.of_norm e Tryz.call11 e fun B hB => ?_
 have hm : B.m ≤ 1000 := by omega
 refine Run.so hm (.p e (.nil (.seqO h (fun v320 => [(1,VI v320.1)]) (fun (v320 : Int × (List Pair)) => [(0,.vec 50 (v320.2.map encPair))]) (fun h => ?_) (fun v320 h => ?_))))
 ·refine Run.so hm (.p e (.nil (.block ?_)))
  obtain ⟨res358,h,hk358⟩ := bindO h
  refine Run.loop (n := N) (fun m358 fr σ => ∃ (x321 : Int),∃ (x322 : Int),∃ (x323 : (List Pair)),laws_markPairS_l1 N m358 x321 x322 x323 = some res358 ∧ fr = [(0,.sl 0 50 0 x323.length),(1,VI x321),(5,VI x322)] ∧ σ = [(0,.vec 50 (x323.map encPair))]) (gh_pk [0,1,5] [0] hB e e e e) ⟨_,_,_,h,e,e⟩ ?_
  rintro m358 fr σ ⟨x321,x322,x323,h,rfl,rfl⟩
  obtain _ | m358 := m358
  ·rw [laws_markPairS_l1] at h; cases h
  rw [laws_markPairS_l1] at h
  refine Run.seq (.so hm (.p3 e e e (.p e (.nil (.condO e h (fun g361 h => ?_) (fun g361 h => ?_))))))
  ·refine Run.skip (.seq (.block (.so hm (.p3 e e e ?_))))
   obtain ⟨y384,hy384,h⟩ := bindO h
   refine Ops.z 17432 (Ev.call [] [] 0 (sem_laws_markText _ _ _ hy384) e e (.d1 .nil) e (.inl e) e e) e e ?_
   obtain ⟨x385,hx385,h⟩ := bindO h
   refine Ops.z 17448 (Ev.iaW e e e hx385) e e (.p e (.y 17480 (Ev.stE (f := encPair) (v' := (Pair.mk y384 x385.Value)) e e (at_some hx385).2 e (.d1 .nil) e e e e e) e e (.nil (.so hm (.p3 e e e (.nil (.so hm (.p3 e e e ?_))))))))
   obtain ⟨y392,hy392,h⟩ := bindO h
   refine Ops.z 25624 (Ev.call [] [] 0 (sem_laws_markText _ _ _ hy392) e e (.d1 .nil) e (.inl e) e e) e e ?_
   obtain ⟨x393,hx393,h⟩ := bindO h
   refine Ops.z 25640 (Ev.iaW e (by simp) e hx393) e e ?_
   exact Ops.p e (.y 25672 (Ev.stE (f := encPair) (v' := (Pair.mk x393.Key y392)) e e (at_some hx393).2 e (.d1 .nil) e e e e e) e e (.nil (.ops hm (.p3 e e e (.nil (.ops hm (.p3 e e e (.nil (⟨m358,Nat.lt_succ_self m358,_,_,(gh_pk [0,1,5] [0] hB e e (by first | rfl | (simp only [List.length_set]; done) | (simp only [List.length_set]; rfl)) (by first | rfl | (simp only [List.length_set]; done) | (simp only [List.length_set]; rfl))),_,_,_,h,e,e⟩)))))))))
  ·refine Run.exit ?_
   obtain rfl := someO h
   have h := hk358
   exact ⟨_,_,(gh_pk [1] [0] hB e e e e),_,h,e,e⟩
 ·refine Run.so hm (.p2 e e (.nil (.ret ?_)))
  obtain rfl := someO h
  exact Ends.mkG (.inl e) e (gh_pk [0] [0] hB e e e e) e e
def laws_heldPairS_l1 (N : Nat) (x1 : (List Pair)) : Nat → Int → Int → Option ((Int) ⊕ (Int))
 | 0,_,_ => none
 | m + 1,x373,x374 =>
 (if (decide (x374 < (x1.length : Int))) = true then
 (at? x1 x374).bind fun x449 =>
 (laws_markText N x373).bind fun y450 =>
 (if (!decide (x449.Key = y450)) = true then
 some (Sum.inl (-1 : Int))
 else
 (at? x1 x374).bind fun x459 =>
 (laws_markText N (w64 (x373 + 1))).bind fun y460 =>
 (if (!decide (x459.Value = y460)) = true then
 some (Sum.inl (-1 : Int))
 else
 laws_heldPairS_l1 N x1 m (w64 ((w64 (x373 + 1)) + 1)) (w64 (x374 + 1))))
 else
 some (Sum.inr x373))
def laws_heldPairS_l1_r (N : Nat) (x1 : (List Pair)) : (List Pair) → Int → Int → Option ((Int) ⊕ (Int))
 | [],x373,x374 =>
 some (Sum.inr x373)
 | hd :: tl,x373,x374 =>
 (some hd).bind fun x449 =>
 (laws_markText N x373).bind fun y450 =>
 (if (!decide (x449.Key = y450)) = true then
 some (Sum.inl (-1 : Int))
 else
 (some hd).bind fun x459 =>
 (laws_markText N (w64 (x373 + 1))).bind fun y460 =>
 (if (!decide (x459.Value = y460)) = true then
 some (Sum.inl (-1 : Int))
 else
 laws_heldPairS_l1_r N x1 tl (w64 ((w64 (x373 + 1)) + 1)) (w64 (x374 + 1))))
theorem laws_heldPairS_l1_rng (N : Nat) (x1 : (List Pair)) (hx : x1.length ≤ 1099511627776) : ∀ (d k m : Nat) (x373 : Int),x1.length = k + d → d < m → laws_heldPairS_l1 N x1 m x373 (k : Int) = laws_heldPairS_l1_r N x1 (x1.drop k) x373 (k : Int) := by
 intro d
 induction d with
 | zero =>
  intro k m x373 hd hm
  obtain ⟨m,rfl⟩ : ∃ q,m = q + 1 := ⟨m - 1,by omega⟩
  rw [laws_heldPairS_l1,if_neg (by simp; omega),List.drop_eq_nil_of_le (by omega),laws_heldPairS_l1_r]
 | succ d ih =>
  intro k m x373 hd hm
  obtain ⟨m,rfl⟩ : ∃ q,m = q + 1 := ⟨m - 1,by omega⟩
  have hk : k < x1.length := by omega
  rw [laws_heldPairS_l1,if_pos (by simp; omega),List.drop_eq_getElem_cons hk,laws_heldPairS_l1_r]
  have h1 := at_lt hk
  have h2 := w64_succ (k := k) (by omega)
  have h3 := ih (k + 1) m
  simp only [h1,h2,h3 _ (by omega) (by omega)]
theorem laws_heldPairS_l1_eq {N : Nat} (x1 : (List Pair)) (hx : x1.length ≤ 1099511627776) (hN : x1.length < N) (x373 : Int) : laws_heldPairS_l1 N x1 N x373 0 = laws_heldPairS_l1_r N x1 x1 x373 0 := laws_heldPairS_l1_rng N x1 hx x1.length 0 N x373 (by omega) hN
def laws_heldPairS (N : Nat) (x1 : (List Pair)) (x2 : Int) : Option (Int) :=
 joinP (fun (v371 : Int) =>
 some v371) fun j371 =>
 (laws_heldPairS_l1 N x1 N x2 0).bind (Sum.elim (fun v417 => some v417) (fun (v418 : Int) => j371 v418))
theorem sem_laws_heldPairS (N : Nat) (x1 : (List Pair)) (x2 : Int) (r : Int) (h : laws_heldPairS N x1 x2 = some r) : Says Tryz.prog 12 [RO 50 (x1.map encPair),VI x2] 0 [] (VI r) [] := by
 unfold laws_heldPairS at h
 refine Says.of_norm e Tryz.call12 e fun B hB => ?_
 have hm : B.m ≤ 1000 := by omega
 refine Run.so hm (.p e (.nil (.seqO h (fun v371 => [(1,VI v371)]) (fun (v371 : Int) => []) (fun h => ?_) (fun v371 h => ?_))))
 ·refine Run.so hm (.p e (.nil (.block ?_)))
  obtain ⟨res418,h,hk418⟩ := bindO h
  refine Run.loop (n := N) (fun m418 fr σ => ∃ (x373 : Int),∃ (x374 : Int),laws_heldPairS_l1 N x1 m418 x373 x374 = some res418 ∧ fr = [(0,RO 50 (x1.map encPair)),(1,VI x373),(5,VI x374)] ∧ σ = []) (gh_pk [0,1,5] [] hB e e e e) ⟨_,_,h,e,e⟩ ?_
  rintro m418 fr σ ⟨x373,x374,h,rfl,rfl⟩
  obtain _ | m418 := m418
  ·rw [laws_heldPairS_l1] at h; cases h
  rw [laws_heldPairS_l1] at h
  refine Run.seq (.so hm (.p2 e e (.z 9224 (Ev.lnF e) e e (.p e (.nil (.condO e h (fun g421 h => ?_) (fun g421 h => ?_)))))))
  ·refine Run.skip (.seq (.block (.seq (.seq (.draw hm hmix (.p e (.p e ?_)))))))
   obtain ⟨x449,hx449,h⟩ := bindO h
   refine OpsD.z 17416 (Ev.iaF e e hx449) e e (.p e (.p e (.p e ?_)))
   obtain ⟨y450,hy450,h⟩ := bindO h
   refine OpsD.z 17480 (Ev.call [] [] 0 (sem_laws_markText _ _ _ hy450) e e (.d1 .nil) e (.inl e) e e) e e (.p e (.nil ⟨by kernel_rfl,?_⟩))
   refine Run.condO e h (fun g451 h => ?_) (fun g451 h => ?_)
   ·refine Run.so hm (.p e (.nil (.ret ?_)))
    obtain rfl := someO h
    have h := hk418
    replace h := inlO h
    obtain rfl := someO h
    exact Ends.mkG (.inl e) e (gh_pk [0] [] hB e e e e) e e
   ·refine Run.skip (.so hm (.p3 e e e (.nil (.seq (.seq (.draw hm hmix (.p e (.p e ?_))))))))
    obtain ⟨x459,hx459,h⟩ := bindO h
    refine OpsD.z 29704 (Ev.iaF e e hx459) e e (.p e (.p e (.p e ?_)))
    obtain ⟨y460,hy460,h⟩ := bindO h
    refine OpsD.z 29768 (Ev.call [] [] 0 (sem_laws_markText _ _ _ hy460) e e (.d1 .nil) e (.inl e) e e) e e (.p e (.nil ⟨by kernel_rfl,?_⟩))
    refine Run.condO e h (fun g461 h => ?_) (fun g461 h => ?_)
    ·refine Run.so hm (.p e (.nil (.ret ?_)))
     obtain rfl := someO h
     have h := hk418
     replace h := inlO h
     obtain rfl := someO h
     exact Ends.mkG (.inl e) e (gh_pk [0] [] hB e e e e) e e
    ·exact Run.skip (.ops hm (.p3 e e e (.nil (.ops hm (.p3 e e e (.nil (⟨m418,Nat.lt_succ_self m418,_,_,(gh_pk [0,1,5] [] hB e e e e),_,_,h,e,e⟩)))))))
  ·refine Run.exit ?_
   obtain rfl := someO h
   have h := hk418
   replace h := inrO h
   exact ⟨_,_,(gh_pk [1] [] hB e e e e),_,h,e,e⟩
 ·refine Run.so hm (.p2 e e (.nil (.ret ?_)))
  obtain rfl := someO h
  exact Ends.mkG (.inl e) e (gh_pk [0] [] hB e e e e) e e
def laws_FnExactFold (N : Nat) (x1 : (List Applied)) (x2 : Int) : Option (Bool) :=
 (laws_szAppliedS N x1 1048576).bind fun y206 =>
 (if (decide (y206 < 0)) = true then
 some true
 else
 (laws_toAppliedS N x1).bind fun y215 =>
 (spec_Fold N y215 x2).bind fun y216 =>
 (laws_toAppliedS N x1).bind fun y220 =>
 (impl_Fold N y220 x2).bind fun y224 =>
 (laws_eqPairS N y224.1 y216.1).bind fun y232 =>
 (if (!y232) = true then
 some false
 else
 (if ((y224.2 == y216.2) ^^ true) = true then
 some false
 else
 (laws_toAppliedS N x1).bind fun y242 =>
 (laws_eqAppliedS N y220 y242).bind fun y243 =>
 (if (!y243) = true then
 some false
 else
 (laws_markAppliedS N y220 1).bind fun y251 =>
 (len? y220 y251.2).bind fun y252 =>
 (if (decide (y251.1 < 0)) = true then
 some false
 else
 (laws_eqPairS N y224.1 y216.1).bind fun y263 =>
 (if (!y263) = true then
 some false
 else
 (laws_markPairS N y224.1 1).bind fun y271 =>
 (len? y224.1 y271.2).bind fun y272 =>
 (laws_heldPairS N y271.2 1).bind fun y276 =>
 (if (decide (y276 < 0)) = true then
 some false
 else
 (if (y276 != y271.1) = true then
 some false
 else
 (laws_toAppliedS N x1).bind fun y287 =>
 (impl_Fold N y287 x2).bind fun y288 =>
 (laws_eqPairS N y288.1 y216.1).bind fun y296 =>
 (if (!y296) = true then
 some false
 else
 (if ((y288.2 == y216.2) ^^ true) = true then
 some false
 else
 (laws_heldPairS N y271.2 1).bind fun y302 =>
 (if (decide (y302 < 0)) = true then
 some false
 else
 (if (y302 != y271.1) = true then
 some false
 else
 some true))))))))))))
theorem sem_laws_FnExactFold (N : Nat) (x1 : (List Applied)) (x2 : Int) (r : Bool) (h : laws_FnExactFold N x1 x2 = some r) : Says Tryz.prog 3 [RO 38 (x1.map encApplied),VI x2] 0 [] (VB r) [] := by
 unfold laws_FnExactFold at h
 refine Says.of_norm e Tryz.call3 e fun B hB => ?_
 have hm : B.m ≤ 1000 := by omega
 refine Run.so hm (.p e (.nil (.so hm (.p e (.nil (.so hm (.p2 e e ?_)))))))
 obtain ⟨y206,hy206,h⟩ := bindO h
 refine Ops.z 9224 (Ev.call [] [] 0 (sem_laws_szAppliedS _ _ _ _ hy206) e e (.d2 .nil) e (.inl e) e e) e e (.p e (.nil (.seq (.so hm (.p2 e e (.nil (.condO e h (fun g208 h => ?_) (fun g208 h => ?_))))))))
 ·refine Run.so hm (.p e (.nil (.ret ?_)))
  obtain rfl := someO h
  exact Ends.mkG (.inl e) e (gh_pk [0] [] hB e e e e) e e
 ·refine Run.skip (.so hm (.p e ?_))
  obtain ⟨y215,hy215,h⟩ := bindO h
  refine Ops.z 21496 (Ev.call [] [] 1 (sem_laws_toAppliedS _ _ _ hy215) e e (.d1 .nil) e (.inl e) e e) e e (.p e ?_)
  obtain ⟨y216,hy216,h⟩ := bindO h
  refine Ops.z 21528 (Ev.call [] [21496] 1 (sem_spec_Fold _ _ _ _ hy216) e e (.cons (.borrow e (by decide) (lendW (fun _ => e) _ e)) (.d1 .nil)) e (.inr ⟨e,ownL_root ⟨own_rows (fun _ => e) _,trivial⟩⟩) e e) e e ?_
  refine Ops.p e (.p3 e e e (.p e (.nil (.so hm (.p e ?_)))))
  obtain ⟨y220,hy220,h⟩ := bindO h
  refine Ops.z 25592 (Ev.call [] [] 1 (sem_laws_toAppliedS _ _ _ hy220) e e (.d1 .nil) e (.inl e) e e) e e (.p e (.nil (.so hm (.p2 e e ?_))))
  obtain ⟨y224,hy224,h⟩ := bindO h
  refine Ops.z 29704 (Ev.call [] [25592] 1 (sem_impl_Fold _ _ _ _ hy224) e e (.cons (.borrow e (by decide) (lendW (fun _ => e) _ e)) (.d1 .nil)) e (.inr ⟨e,ownL_root ⟨own_rows (fun _ => e) _,trivial⟩⟩) e e) e e ?_
  refine Ops.p e (.p3 e e e (.p e (.nil (.seq (.so hm (.p2 e e ?_))))))
  obtain ⟨y232,hy232,h⟩ := bindO h
  refine Ops.z 33800 (Ev.call [] [29704,21528] 0 (sem_laws_eqPairS _ _ _ _ hy232) e e (.cons (.borrow e (by decide) (lendW (fun _ => e) _ e)) (.cons (.borrow e (by decide) (lendW (fun _ => e) _ e)) .nil)) e (.inr ⟨e,ownL_root trivial⟩) e e) e e ?_
  refine Ops.p e (.p e (.askO (x := .t 40) e h (fun g233 h => ?_) (fun g233 h => ?_)))
  ·refine Ops.gn e g233 (.gn e g233 (.gn e g233 (.z 33896 (.pkT e g233 e) e e (.nil (.condT e e (.so hm (.p e (.nil (.ret ?_)))))))))
   obtain rfl := someO h
   exact Ends.mkG (.inl e) e (gh_pk [0] [] hB e e e e) e e
  ·refine Ops.gp e g233 e (.gp e g233 e (.gp e g233 e (.z 33896 (.pkF e g233 e) e e (.nil (.condO e h (fun g234 h => ?_) (fun g234 h => ?_))))))
   ·refine Run.so hm (.p e (.nil (.ret ?_)))
    obtain rfl := someO h
    exact Ends.mkG (.inl e) e (gh_pk [0] [] hB e e e e) e e
   ·refine Run.skip (.seq (.so hm (.p2 e e ?_)))
    obtain ⟨y242,hy242,h⟩ := bindO h
    refine Ops.z 41992 (Ev.call [] [] 1 (sem_laws_toAppliedS _ _ _ hy242) e e (.d1 .nil) e (.inl e) e e) e e ?_
    obtain ⟨y243,hy243,h⟩ := bindO h
    refine Ops.z 42008 (Ev.call [] [25592,41992] 0 (sem_laws_eqAppliedS _ _ _ _ hy243) e e (.cons (.borrow e (by decide) (lendW (fun _ => e) _ e)) (.cons (.borrow e (by decide) (lendW (fun _ => e) _ e)) .nil)) e (.inr ⟨e,ownL_root trivial⟩) e e) e e ?_
    refine Ops.p e (.nil (.condO e h (fun g244 h => ?_) (fun g244 h => ?_)))
    ·refine Run.so hm (.p e (.nil (.ret ?_)))
     obtain rfl := someO h
     exact Ends.mkG (.inl e) e (gh_pk [0] [] hB e e e e) e e
    ·refine Run.skip (.so hm (.p e (.nil (.so hm (.p2 e e ?_)))))
     obtain ⟨y251,hy251,h⟩ := bindO h
     obtain ⟨y252,hy252,h⟩ := bindO h
     refine Ops.z 54280 (Ev.call [25592] [] 0 (sem_laws_markAppliedS _ _ _ _ hy251) e e (.cons (.sl e) (.d1 .nil)) e (.inl e) e e) e e (.p e (.nil (.seq (.so hm (.p3 e e e (.askO (x := .t 55) e h (fun g262 h => ?_) (fun g262 h => ?_)))))))
     ·refine Ops.gn e g262 (.gn e g262 (.gn e g262 (.gn e g262 (.z 58456 (.pkT e g262 e) e e (.p e (.gn e e (.gn e e (.gn e e (.z 58536 (.pkT e e e) e e (.nil (.condT e e (.so hm (.p e (.nil (.ret ?_)))))))))))))))
      obtain rfl := someO h
      exact Ends.mkG (.inl e) e (gh_pk [0] [] hB e e e e) e e
     ·refine Ops.gp e g262 e (.gp e g262 e ?_)
      obtain ⟨y263,hy263,h⟩ := bindO h
      refine Ops.gs (s := 58424) e g262 (Ev.call [] [29704,21528] 0 (sem_laws_eqPairS _ _ _ _ hy263) e e (.cons (.borrow e (by decide) (lendW (fun _ => e) _ e)) (.cons (.borrow e (by decide) (lendW (fun _ => e) _ e)) .nil)) e (.inr ⟨e,ownL_root trivial⟩) e e) e e ?_
      refine Ops.gp e g262 e (.z 58456 (.pkF e g262 e) e e (.p e (.askO (x := .t 61) e h (fun g264 h => ?_) (fun g264 h => ?_))))
      ·refine Ops.gn e g264 (.gn e g264 (.gn e g264 (.z 58536 (.pkT e g264 e) e e (.nil (.condT e e (.so hm (.p e (.nil (.ret ?_)))))))))
       obtain rfl := someO h
       exact Ends.mkG (.inl e) e (gh_pk [0] [] hB e e e e) e e
      ·refine Ops.gp e g264 e (.gp e g264 e (.gp e g264 e (.z 58536 (.pkF e g264 e) e e (.nil (.condF e g234 (.skip (.so hm (.p e (.nil (.so hm (.p2 e e ?_)))))))))))
       obtain ⟨y271,hy271,h⟩ := bindO h
       obtain ⟨y272,hy272,h⟩ := bindO h
       refine Ops.z 70664 (Ev.call [29704] [] 0 (sem_laws_markPairS _ _ _ _ hy271) e e (.cons (.sl e) (.d1 .nil)) e (.inl e) e e) e e (.p e (.nil (.so hm (.p e (.nil (.so hm (.p2 e e ?_)))))))
       obtain ⟨y276,hy276,h⟩ := bindO h
       refine Ops.z 78856 (Ev.call [] [29704] 0 (sem_laws_heldPairS _ _ _ _ hy276) e e (.cons (.borrow e (by decide) (lendW (fun _ => e) _ (len_some hy272))) (.d1 .nil)) e (.inr ⟨e,ownL_root trivial⟩) e e) e e ?_
       refine Ops.p e (.nil (.seq (.so hm (.p2 e e (.nil (.condO e h (fun g278 h => ?_) (fun g278 h => ?_)))))))
       ·refine Run.so hm (.p e (.nil (.ret ?_)))
        obtain rfl := someO h
        exact Ends.mkG (.inl e) e (gh_pk [0] [] hB e e e e) e e
       ·refine Run.skip (.seq (.so hm (.p3 e e e (.nil (.condO e h (fun g280 h => ?_) (fun g280 h => ?_))))))
        ·refine Run.so hm (.p e (.nil (.ret ?_)))
         obtain rfl := someO h
         exact Ends.mkG (.inl e) e (gh_pk [0] [] hB e e e e) e e
        ·refine Run.skip (.so hm (.p e ?_))
         obtain ⟨y287,hy287,h⟩ := bindO h
         refine Ops.z 99320 (Ev.call [] [] 1 (sem_laws_toAppliedS _ _ _ hy287) e e (.d1 .nil) e (.inl e) e e) e e (.p e ?_)
         obtain ⟨y288,hy288,h⟩ := bindO h
         refine Ops.z 99352 (Ev.call [] [99320] 1 (sem_impl_Fold _ _ _ _ hy288) e e (.cons (.borrow e (by decide) (lendW (fun _ => e) _ e)) (.d1 .nil)) e (.inr ⟨e,ownL_root ⟨own_rows (fun _ => e) _,trivial⟩⟩) e e) e e ?_
         refine Ops.p e (.p3 e e e (.p e (.nil (.seq (.so hm (.p2 e e ?_))))))
         obtain ⟨y296,hy296,h⟩ := bindO h
         refine Ops.z 103432 (Ev.call [] [99352,21528] 0 (sem_laws_eqPairS _ _ _ _ hy296) e e (.cons (.borrow e (by decide) (lendW (fun _ => e) _ e)) (.cons (.borrow e (by decide) (lendW (fun _ => e) _ e)) .nil)) e (.inr ⟨e,ownL_root trivial⟩) e e) e e ?_
         refine Ops.p e (.p e (.askO (x := .t 88) e h (fun g297 h => ?_) (fun g297 h => ?_)))
         ·refine Ops.gn e g297 (.gn e g297 (.gn e g297 (.z 103528 (.pkT e g297 e) e e (.nil (.condT e e (.so hm (.p e (.nil (.ret ?_)))))))))
          obtain rfl := someO h
          exact Ends.mkG (.inl e) e (gh_pk [0] [] hB e e e e) e e
         ·refine Ops.gp e g297 e (.gp e g297 e (.gp e g297 e (.z 103528 (.pkF e g297 e) e e (.nil (.condO e h (fun g298 h => ?_) (fun g298 h => ?_))))))
          ·refine Run.so hm (.p e (.nil (.ret ?_)))
           obtain rfl := someO h
           exact Ends.mkG (.inl e) e (gh_pk [0] [] hB e e e e) e e
          ·refine Run.skip (.so hm (.p e (.nil (.so hm (.p2 e e ?_)))))
           obtain ⟨y302,hy302,h⟩ := bindO h
           refine Ops.z 115720 (Ev.call [] [29704] 0 (sem_laws_heldPairS _ _ _ _ hy302) e e (.cons (.borrow e (by decide) (lendW (fun _ => e) _ (len_some hy272))) (.d1 .nil)) e (.inr ⟨e,ownL_root trivial⟩) e e) e e ?_
           refine Ops.p e (.nil (.seq (.so hm (.p2 e e (.nil (.condO e h (fun g304 h => ?_) (fun g304 h => ?_)))))))
           ·refine Run.so hm (.p e (.nil (.ret ?_)))
            obtain rfl := someO h
            exact Ends.mkG (.inl e) e (gh_pk [0] [] hB e e e e) e e
           ·refine Run.skip (.seq (.so hm (.p3 e e e (.nil (.condO e h (fun g305 h => ?_) (fun g305 h => ?_))))))
            ·refine Run.so hm (.p e (.nil (.ret ?_)))
             obtain rfl := someO h
             exact Ends.mkG (.inl e) e (gh_pk [0] [] hB e e e e) e e
            ·refine Run.skip (.so hm (.p e (.nil (.ret ?_))))
             obtain rfl := someO h
             exact Ends.mkG (.inl e) e (gh_pk [0] [] hB e e e e) e e
end Go.Proofs.YtlkdjdfcihjplaaGreatDoor.Pe.FnExactFold
