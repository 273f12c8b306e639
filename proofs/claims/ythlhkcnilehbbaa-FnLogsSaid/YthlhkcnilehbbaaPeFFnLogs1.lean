/- Functions,as pure functions; and that Go does just that. -/
import Derived.Test.YthlhkcnilehbbaaPeFFnLogs0
namespace Go.Proofs.Ythlhkcnilehbbaa.Pe.FnLogs
open Go Go.RowKit
set_option linter.unusedVariables false
set_option linter.unusedSimpArgs false
set_option maxHeartbeats 40000000
set_option maxRecDepth 100000
def spec_l01Var_l1 (N : Nat) : Nat → Int → (List Int) → Option (Int × (List Int))
 | 0,_,_ => none
 | m + 1,x188,x189 =>
 (if (decide (x188 > 127)) = true then
 (intD .rem .i64 x188 128).bind fun x212 =>
 (cat? x189 ([IntKind.wrap .u8 (w64 (x212 + 128))] : List Int)).bind fun x213 =>
 (intD .quo .i64 x188 128).bind fun x215 =>
 spec_l01Var_l1 N m x215 x213
 else
 some (x188,x189))
def spec_l01Var (N : Nat) (x1 : Int) : Option (ByteArray) :=
 joinP (fun (v187 : Int × (List Int)) =>
 (cat? v187.2 ([IntKind.wrap .u8 (v187.1)] : List Int)).bind fun x217 =>
 some (strOf x217)) fun j187 =>
 (spec_l01Var_l1 N N x1 ([] : List Int)).bind (fun v202 => j187 (v202.1,v202.2))
theorem sem_spec_l01Var (N : Nat) (x1 : Int) (r : ByteArray) (h : spec_l01Var N x1 = some r) : Says Try.prog 72 [VI x1] 0 [] (VS r) [] := by
 unfold spec_l01Var at h
 refine Says.of_norm e Try.call72 e fun B hB => ?_
 have hm : B.m ≤ 1000 := by omega
 refine Run.so hm (.p e (.nil (.so hm (.z 5096 (Ev.bsW (ys := ([] : List Int)) (f := encU) e .nil e e e e e) e e (.p e (.nil (.seqO h (fun v187 => [(0,VI v187.1),(3,.sl 0 5 0 v187.2.length)]) (fun (v187 : Int × (List Int)) => [(0,.vec 5 (v187.2.map encU))]) (fun h => ?_) (fun v187 h => ?_))))))))
 ·refine Run.block ?_
  obtain ⟨res202,h,hk202⟩ := bindO h
  refine Run.loop (n := N) (fun m202 fr σ => ∃ (x188 : Int),∃ (x189 : (List Int)),spec_l01Var_l1 N m202 x188 x189 = some res202 ∧ fr = [(0,VI x188),(3,.sl 0 5 0 x189.length)] ∧ σ = [(0,.vec 5 (x189.map encU))]) (gh_pk [0,3] [5096] hB e e e e) ⟨_,_,h,e,e⟩ ?_
  rintro m202 fr σ ⟨x188,x189,h,rfl,rfl⟩
  obtain _ | m202 := m202
  ·rw [spec_l01Var_l1] at h; cases h
  rw [spec_l01Var_l1] at h
  refine Run.seq (.so hm (.p2 e e (.nil (.condO e h (fun g205 h => ?_) (fun g205 h => ?_)))))
  ·refine Run.skip (.block (.so hm (.p2 e e ?_)))
   obtain ⟨x212,hx212,h⟩ := bindO h
   refine Ops.z 13320 (.bin e e hx212) e e (.p2 e e (.z 13368 (Ev.bsW (ys := ([IntKind.wrap .u8 (w64 (x212 + 128))] : List Int)) (f := encU) e (.d1 .nil) e e e e e) e e ?_))
   obtain ⟨x213,hx213,h⟩ := bindO h
   refine Ops.z 13384 (Ev.apW (f := encU) (ontoW e e e) (addsW e e e (fun _ => e)) e bt5 e hx213) e e (.p e (.nil (.ops hm (.p e ?_))))
   obtain ⟨x215,hx215,h⟩ := bindO h
   exact Ops.z 17400 (.bin e e hx215) e e (.p e (.nil (⟨m202,Nat.lt_succ_self m202,_,_,(gh_pk [0,3] [13384] hB e e e e),_,_,h,e,e⟩)))
  ·refine Run.exit ?_
   obtain rfl := someO h
   have h := hk202
   exact ⟨_,_,(gh_pk [0,3] [0] hB e e e e),_,h,e,e⟩
 ·refine Run.so hm (.p3 e e e (.z 21528 (Ev.bsW (ys := ([IntKind.wrap .u8 (v187.1)] : List Int)) (f := encU) e (.d1 .nil) e e e e e) e e ?_))
  obtain ⟨x217,hx217,h⟩ := bindO h
  refine Ops.z 21544 (Ev.apW (f := encU) (ontoW e e e) (addsW e e e (fun _ => e)) e bt5 e hx217) e e (.z 21560 (.sbC (addsW (f := encU) e e e (fun _ => e))) e e (.p e (.nil (.ret ?_))))
  obtain rfl := someO h
  exact Ends.mkG (.inl e) e (gh_pk [0] [] hB e e e e) e e
def spec_l05Short (N : Nat) (x1 : ByteArray) : Option (ByteArray) :=
 (spec_l01Var N (x1.size : Int)).bind fun y106 =>
 (scat? y106 x1).bind fun x107 =>
 some x107
theorem sem_spec_l05Short (N : Nat) (x1 : ByteArray) (r : ByteArray) (h : spec_l05Short N x1 = some r) : Says Try.prog 82 [VS x1] 0 [] (VS r) [] := by
 unfold spec_l05Short at h
 refine Says.of_norm e Try.call82 e fun B hB => ?_
 have hm : B.m ≤ 1000 := by omega
 refine Run.so hm (.p e (.nil (.so hm (.p2 e e ?_))))
 obtain ⟨y106,hy106,h⟩ := bindO h
 refine Ops.z 5128 (Ev.call [] [] 0 (sem_spec_l01Var _ _ _ hy106) e e (.d1 .nil) e (.inl e) e e) e e (.p e ?_)
 obtain ⟨x107,hx107,h⟩ := bindO h
 refine Ops.z 5160 (Ev.addS e e hx107) e e (.p e (.nil (.ret ?_)))
 obtain rfl := someO h
 exact Ends.mkG (.inl e) e (gh_pk [0] [] hB e e e e) e e
def spec_CommandText (N : Nat) (x1 : Command) : Option (ByteArray × Bool) :=
 (spec_CommandOk N x1).bind fun y130 =>
 (if (!y130) = true then
 some ((⟨#[]⟩ : ByteArray),false)
 else
 (spec_l01Var N x1.Session).bind fun y142 =>
 (scat? (strOf ([IntKind.wrap .u8 (x1.Op)] : List Int)) y142).bind fun x143 =>
 (spec_l01Var N x1.Seq).bind fun y144 =>
 (scat? x143 y144).bind fun x145 =>
 (spec_l05Short N x1.Key).bind fun y146 =>
 (scat? x145 y146).bind fun x147 =>
 (spec_l05Short N x1.Value).bind fun y148 =>
 (scat? x147 y148).bind fun x149 =>
 (spec_l05Short N x1.Old).bind fun y150 =>
 (scat? x149 y150).bind fun x151 =>
 some (x151,true))
theorem sem_spec_CommandText (N : Nat) (x1 : Command) (r : ByteArray × Bool) (h : spec_CommandText N x1 = some r) : Says Try.prog 70 [.agg [VI x1.Op,VI x1.Session,VI x1.Seq,VS x1.Key,VS x1.Value,VS x1.Old]] 0 [] (.tup [VS r.1,VB r.2]) [] := by
 unfold spec_CommandText at h
 refine Says.of_norm e Try.call70 e fun B hB => ?_
 have hm : B.m ≤ 1000 := by omega
 refine Run.so hm (.z 1000 (.bx e e) e e (.p2 e e (.nil (.seq (.so hm (.p e ?_))))))
 obtain ⟨y130,hy130,h⟩ := bindO h
 refine Ops.z 5112 (Ev.call [] [] 0 (sem_spec_CommandOk _ _ _ hy130) e e (.cons (.agg (.d4 (.d2 .nil))) .nil) e (.inl e) e e) e e (.p e (.nil (.condO e h (fun g131 h => ?_) (fun g131 h => ?_))))
 ·refine Run.so hm (.p2 e e (.nil (.ret ?_)))
  obtain rfl := someO h
  exact Ends.mkG (.inl e) e (gh_pk [0,1] [] hB e e e e) e e
 ·refine Run.skip (.seq (.draw hm hmix (.p e (.p e (.p e (.z 13336 (Ev.bsW (ys := ([IntKind.wrap .u8 (x1.Op)] : List Int)) (f := encU) e (.d1 .nil) e e e e e) e e (.z 13352 (.sbC (addsW (f := encU) e e e (fun _ => e))) e e (.p e (.p e ?_)))))))))
  obtain ⟨y142,hy142,h⟩ := bindO h
  refine OpsD.z 13400 (Ev.call [] [] 0 (sem_spec_l01Var _ _ _ hy142) e e (.d1 .nil) e (.inl e) e e) e e ?_
  obtain ⟨x143,hx143,h⟩ := bindO h
  refine OpsD.z 13416 (Ev.addS e e hx143) e e (.p e (.p e ?_))
  obtain ⟨y144,hy144,h⟩ := bindO h
  refine OpsD.z 13464 (Ev.call [] [] 0 (sem_spec_l01Var _ _ _ hy144) e e (.d1 .nil) e (.inl e) e e) e e ?_
  obtain ⟨x145,hx145,h⟩ := bindO h
  refine OpsD.z 13480 (Ev.addS e e hx145) e e (.p e (.p e ?_))
  obtain ⟨y146,hy146,h⟩ := bindO h
  refine OpsD.z 13528 (Ev.call [] [] 0 (sem_spec_l05Short _ _ _ hy146) e e (.d1 .nil) e (.inl e) e e) e e ?_
  obtain ⟨x147,hx147,h⟩ := bindO h
  refine OpsD.z 13544 (Ev.addS e e hx147) e e (.p e (.p e ?_))
  obtain ⟨y148,hy148,h⟩ := bindO h
  refine OpsD.z 13592 (Ev.call [] [] 0 (sem_spec_l05Short _ _ _ hy148) e e (.d1 .nil) e (.inl e) e e) e e ?_
  obtain ⟨x149,hx149,h⟩ := bindO h
  refine OpsD.z 13608 (Ev.addS e e hx149) e e (.p e (.p e ?_))
  obtain ⟨y150,hy150,h⟩ := bindO h
  refine OpsD.z 13656 (Ev.call [] [] 0 (sem_spec_l05Short _ _ _ hy150) e e (.d1 .nil) e (.inl e) e e) e e ?_
  obtain ⟨x151,hx151,h⟩ := bindO h
  refine OpsD.z 13672 (Ev.addS e e hx151) e e (.p e (.p e (.nil ⟨by kernel_rfl,?_⟩)))
  refine Run.ret ?_
  obtain rfl := someO h
  exact Ends.mkG (.inl e) e (gh_pk [0,1] [] hB e e e e) e e
def spec_l11Right (N : Nat) (x1 : Tl01Cur) (x2 : Int) : Option (Entry × Tl01Cur) :=
 (spec_l01PickInt_i1 N x1 ([1,2,3,3,3] : List Int)).bind fun y128 =>
 joinP (fun (v139 : (List Int) × Int × Int × ByteArray) =>
 some ((Entry.mk x2 y128.1 v139.2.2.2),(Tl01Cur.mk v139.1 v139.2.1 v139.2.2.1))) fun j139 =>
 (if (y128.1 == 2) = true then
 (spec_l07Conf N y128.2).bind fun y143 =>
 (spec_ConfText N y143.1).bind fun y144 =>
 j139 (y143.2.b,y143.2.i,y143.2.h,y144.1)
 else
 (if (y128.1 == 3) = true then
 (spec_l15Right N y128.2).bind fun y148 =>
 (spec_CommandText N y148.1).bind fun y149 =>
 j139 (y148.2.b,y148.2.i,y148.2.h,y149.1)
 else
 j139 (y128.2.b,y128.2.i,y128.2.h,(⟨#[]⟩ : ByteArray))))
theorem sem_spec_l11Right (N : Nat) (x1 : Tl01Cur) (x2 : Int) (r : Entry × Tl01Cur) (h : spec_l11Right N x1 x2 = some r) : Says Try.prog 43 [.ptr 0 0,VI x2] 1 [(0,.box [RO 5 (x1.b.map encU),VI x1.i,VI x1.h])] (.agg [VI r.1.Term,VI r.1.Kind,VS r.1.Data]) [(0,.box [RO 5 (r.2.b.map encU),VI r.2.i,VI r.2.h])] := by
 unfold spec_l11Right at h
 refine Says.of_norm e Try.call43 e fun B hB => ?_
 have hm : B.m ≤ 1000 := by omega
 refine Run.so hm (.z 1000 (.al e e) e e (.nil (.so hm (.p2 e e (.z 5128 (Ev.bsW (ys := ([1,2,3,3,3] : List Int)) (f := encI) e (.d4 (.d1 .nil)) e e e e e) e e ?_)))))
 obtain ⟨y128,hy128,h⟩ := bindO h
 refine Ops.z 5144 (Ev.call [0,5128] [] 0 (sem_spec_l01PickInt_i1 _ _ _ _ hy128) e e (.cons (.ptr e) (.cons (.sl e) .nil)) e (.inl e) e e) e e (.z 5160 (.bd e e) e e (.z 5176 (.al e e) e e (.y 5192 (.sto e e e e e e) e e (.nil (.seqO h (fun v139 => [(4,.ptr 1 0),(5,.ptr 2 0)]) (fun (v139 : (List Int) × Int × Int × ByteArray) => [(0,.box [RO 5 (v139.1.map encU),VI v139.2.1,VI v139.2.2.1]),(1,.box [VI 0,VI 0,VS (⟨#[]⟩ : ByteArray)]),(2,.box [VI x2,VI y128.1,VS v139.2.2.2])]) (fun h => ?_) (fun v139 h => ?_))))))
 ·refine Run.so hm (.p2 e e (.nil (.block (.so hm (.p2 e e (.nil (.condO e h (fun g140 h => ?_) (fun g140 h => ?_))))))))
  ·refine Run.ops hm (.p e ?_)
   obtain ⟨y143,hy143,h⟩ := bindO h
   refine Ops.z 17400 (Ev.call [0] [] 1 (sem_spec_l07Conf _ _ _ hy143) e e (.cons (.ptr e) .nil) e (.inl e) e e) e e ?_
   obtain ⟨y144,hy144,h⟩ := bindO h
   refine Ops.z 17416 (Ev.call [] [17400] 0 (sem_spec_ConfText _ _ _ hy144) e e (.cons (.borrow e (by decide) (lendW (fun _ => e) _ e)) .nil) e (.inr ⟨e,ownL_root trivial⟩) e e) e e ?_
   exact Ops.p e (.p3 e e e (.y 17496 (.sto e e e e e e) e e (.nil (⟨_,_,(gh_pk [4,5] [0,1000,5176] hB e e e e),_,h,e,e⟩))))
  ·refine Run.so hm (.p2 e e (.nil (.condO e h (fun g145 h => ?_) (fun g145 h => ?_))))
   ·refine Run.ops hm (.p e ?_)
    obtain ⟨y148,hy148,h⟩ := bindO h
    refine Ops.z 25592 (Ev.call [0] [] 0 (sem_spec_l15Right _ _ _ hy148) e e (.cons (.ptr e) .nil) e (.inl e) e e) e e ?_
    obtain ⟨y149,hy149,h⟩ := bindO h
    exact Ops.z 25608 (Ev.call [] [] 0 (sem_spec_CommandText _ _ _ hy149) e e (.cons (.agg (.d4 (.d2 .nil))) .nil) e (.inl e) e e) e e (.p3 e e e (.p e (.y 25688 (.sto e e e e e e) e e (.nil (⟨_,_,(gh_pk [4,5] [0,1000,5176] hB e e e e),_,h,e,e⟩)))))
   ·exact Run.skip (⟨_,_,(gh_pk [4,5] [0,1000,5176] hB e e e e),_,h,e,e⟩)
 ·refine Run.so hm (.p e (.y 29688 (.sto e e e e e e) e e (.nil (.ret ?_))))
  obtain rfl := someO h
  exact Ends.mkG (.inl e) e (gh_pk [0] [0] hB e e e e) e e
def spec_l12Right_l1 (N : Nat) : Nat → Int → Int → (List Int) → Int → Int → (List Entry) → Option ((List Int) × Int × Int × (List Entry))
 | 0,_,_,_,_,_,_ => none
 | m + 1,x381,x382,x383,x384,x385,x391 =>
 (spec_l01Below N (Tl01Cur.mk x383 x384 x385) 8).bind fun y434 =>
 (if (decide (x382 < y434.1)) = true then
 joinP (fun (v456 : Int × (List Int) × Int × Int) =>
 (spec_l11Right N (Tl01Cur.mk v456.2.1 v456.2.2.1 v456.2.2.2) v456.1).bind fun y464 =>
 (cat? x391 ([y464.1] : List Entry)).bind fun x465 =>
 spec_l12Right_l1 N m v456.1 (w64 (x382 + 1)) y464.2.b y464.2.i y464.2.h x465) fun j456 =>
 (spec_l01Once N y434.2 3).bind fun y458 =>
 (if y458.1 = true then
 (spec_l01Below N y458.2 2).bind fun y461 =>
 j456 (w64 ((w64 (x381 + 1)) + y461.1),y461.2.b,y461.2.i,y461.2.h)
 else
 j456 (x381,y458.2.b,y458.2.i,y458.2.h))
 else
 some (y434.2.b,y434.2.i,y434.2.h,x391))
def spec_l12Right (N : Nat) (x1 : Tl01Cur) : Option (Log × Tl01Cur) :=
 (spec_l01Below N x1 3).bind fun y292 =>
 (spec_l01Below N y292.2 4).bind fun y293 =>
 (spec_l01Below N y293.2 3).bind fun y294 =>
 joinP (fun (v380 : (List Int) × Int × Int × (List Entry)) =>
 some ((Log.mk (w64 (y292.1 * y293.1)) y294.1 v380.2.2.2),(Tl01Cur.mk v380.1 v380.2.1 v380.2.2.1))) fun j380 =>
 (spec_l12Right_l1 N N y294.1 0 y294.2.b y294.2.i y294.2.h ([] : (List Entry))).bind (fun v428 => j380 (v428.1,v428.2.1,v428.2.2.1,v428.2.2.2))
theorem sem_spec_l12Right (N : Nat) (x1 : Tl01Cur) (r : Log × Tl01Cur) (h : spec_l12Right N x1 = some r) : Says Try.prog 18 [.ptr 0 0] 1 [(0,.box [RO 5 (x1.b.map encU),VI x1.i,VI x1.h])] (.agg [VI r.1.Start,VI r.1.StartTerm,.sl 1 51 0 r.1.Entries.length]) [(0,.box [RO 5 (r.2.b.map encU),VI r.2.i,VI r.2.h]),(1,.vec 51 (r.1.Entries.map encEntry))] := by
 unfold spec_l12Right at h
 refine Says.of_norm e Try.call18 e fun B hB => ?_
 have hm : B.m ≤ 1000 := by omega
 refine Run.so hm (.z 1000 (.al e e) e e (.nil (.so hm (.p e ?_))))
 obtain ⟨y292,hy292,h⟩ := bindO h
 refine Ops.z 5112 (Ev.call [0] [] 0 (sem_spec_l01Below _ _ _ _ hy292) e e (.cons (.ptr e) (.d1 .nil)) e (.inl e) e e) e e (.p e ?_)
 obtain ⟨y293,hy293,h⟩ := bindO h
 refine Ops.z 5144 (Ev.call [0] [] 0 (sem_spec_l01Below _ _ _ _ hy293) e e (.cons (.ptr e) (.d1 .nil)) e (.inl e) e e) e e (.p2 e e ?_)
 obtain ⟨y294,hy294,h⟩ := bindO h
 refine Ops.z 5192 (Ev.call [0] [] 0 (sem_spec_l01Below _ _ _ _ hy294) e e (.cons (.ptr e) (.d1 .nil)) e (.inl e) e e) e e (.z 5208 (.bd e e) e e (.z 5224 (.al e e) e e (.y 5240 (.sto e e e e e e) e e (.nil (.so hm (.p3 e e e (.nil (.seqO h (fun v380 => [(2,.ptr 1 0),(3,.ptr 2 0)]) (fun (v380 : (List Int) × Int × Int × (List Entry)) => [(0,.box [RO 5 (v380.1.map encU),VI v380.2.1,VI v380.2.2.1]),(1,.box [VI 0,VI 0,.sl 3 51 0 (([] : (List Entry)).length)]),(2,.box [VI (w64 (y292.1 * y293.1)),VI y294.1,.sl 4 51 0 v380.2.2.2.length]),(3,.vec 51 (([] : (List Entry)).map encEntry)),(4,.vec 51 (v380.2.2.2.map encEntry))]) (fun h => ?_) (fun v380 h => ?_)))))))))
 ·refine Run.so hm (.p e (.nil (.block ?_)))
  obtain ⟨res428,h,hk428⟩ := bindO h
  refine Run.loop (n := N) (fun m428 fr σ => ∃ (x381 : Int),∃ (x382 : Int),∃ (x383 : (List Int)),∃ (x384 : Int),∃ (x385 : Int),∃ (x391 : (List Entry)),spec_l12Right_l1 N m428 x381 x382 x383 x384 x385 x391 = some res428 ∧ fr = [(0,.ptr 0 0),(2,.ptr 1 0),(3,.ptr 2 0),(4,VI x381),(5,VI x382)] ∧ σ = [(0,.box [RO 5 (x383.map encU),VI x384,VI x385]),(1,.box [VI 0,VI 0,.sl 3 51 0 (([] : (List Entry)).length)]),(2,.box [VI (w64 (y292.1 * y293.1)),VI y294.1,.sl 4 51 0 x391.length]),(3,.vec 51 (([] : (List Entry)).map encEntry)),(4,.vec 51 (x391.map encEntry))]) (Gh.trans (Gh.trans (gh_prn [0,2,3,4,5] [0,1000,5224] hB e) (gh_nil [] [1000,5224] hB e e e)) (gh_pk [0,2,3,4,5] [0,1000,5224,20000000,20000064] hB e e e e)) ⟨_,_,_,_,_,_,h,e,e⟩ ?_
  rintro m428 fr σ ⟨x381,x382,x383,x384,x385,x391,h,rfl,rfl⟩
  obtain _ | m428 := m428
  ·rw [spec_l12Right_l1] at h; cases h
  rw [spec_l12Right_l1] at h
  refine Run.seq (.so hm (.p2 e e ?_))
  obtain ⟨y434,hy434,h⟩ := bindO h
  refine Ops.z 17416 (Ev.call [0] [] 0 (sem_spec_l01Below _ _ _ _ hy434) e e (.cons (.ptr e) (.d1 .nil)) e (.inl e) e e) e e (.p e (.nil (.condO e h (fun g435 h => ?_) (fun g435 h => ?_))))
  ·refine Run.skip (.seq (.block (.seqO h (fun v456 => [(0,.ptr 0 0),(2,.ptr 1 0),(3,.ptr 2 0),(4,VI v456.1),(5,VI x382)]) (fun (v456 : Int × (List Int) × Int × Int) => [(0,.box [RO 5 (v456.2.1.map encU),VI v456.2.2.1,VI v456.2.2.2]),(1,.box [VI 0,VI 0,.sl 3 51 0 (([] : (List Entry)).length)]),(2,.box [VI (w64 (y292.1 * y293.1)),VI y294.1,.sl 4 51 0 x391.length]),(3,.vec 51 (([] : (List Entry)).map encEntry)),(4,.vec 51 (x391.map encEntry))]) (fun h => ?_) (fun v456 h => ?_))))
   ·refine Run.so hm (.p e ?_)
    obtain ⟨y458,hy458,h⟩ := bindO h
    refine Ops.z 25592 (Ev.call [0] [] 0 (sem_spec_l01Once _ _ _ _ hy458) e e (.cons (.ptr e) (.d1 .nil)) e (.inl e) e e) e e (.nil (.condO e h (fun g459 h => ?_) (fun g459 h => ?_)))
    ·refine Run.ops hm (.p3 e e e ?_)
     obtain ⟨y461,hy461,h⟩ := bindO h
     exact Ops.z 29720 (Ev.call [0] [] 0 (sem_spec_l01Below _ _ _ _ hy461) e e (.cons (.ptr e) (.d1 .nil)) e (.inl e) e e) e e (.p2 e e (.nil (⟨_,_,(gh_pk [0,2,3,4,5] [0,1,2,3,4] hB e e e e),_,h,e,e⟩)))
    ·exact Run.skip (⟨_,_,(gh_pk [0,2,3,4,5] [0,1,2,3,4] hB e e e e),_,h,e,e⟩)
   ·refine Run.draw hm hmix (.p e (.p e (.p e (.p e ?_))))
    obtain ⟨y464,hy464,h⟩ := bindO h
    refine OpsD.z 33832 (Ev.call [0] [] 0 (sem_spec_l11Right _ _ _ _ hy464) e e (.cons (.ptr e) (.d1 .nil)) e (.inl e) e e) e e (.z 33848 (Ev.bsW (ys := ([y464.1] : List Entry)) (f := encEntry) e (.d2 (.d1 .nil)) e e e e e) e e ?_)
    obtain ⟨x465,hx465,h⟩ := bindO h
    refine OpsD.z 33864 (Ev.apW (f := encEntry) (ontoW e e e) (addsW e e e (fun _ => e)) e bt51 e hx465) e e (.p e (.y 33896 (.sto e e e e e e) e e (.nil ⟨by kernel_rfl,?_⟩)))
    exact Run.ops hm (.p3 e e e (.nil (⟨m428,Nat.lt_succ_self m428,_,_,(gh_pk [0,2,3,4,5] [0,1,2,3,33864] hB e e e e),_,_,_,_,_,_,h,e,e⟩)))
  ·refine Run.exit ?_
   obtain rfl := someO h
   have h := hk428
   exact ⟨_,_,(gh_pk [2,3] [0,1,2,3,4] hB e e e e),_,h,e,e⟩
 ·refine Run.so hm (.p e (.y 37880 (.sto e e e e e e) e e (.nil (.ret ?_))))
  obtain rfl := someO h
  exact Ends.mkG (.inl e) e (gh_pk [0] [0,4] hB e e e e) e e
def spec_ReadConf_l1 (N : Nat) (x1 : ByteArray) : Nat → Int → (List Int) → Option ((List Int))
 | 0,_,_ => none
 | m + 1,x212,x213 =>
 (if (decide (x212 < (x1.size : Int))) = true then
 (if (decide (x212 ≤ 4)) = true then
 (sat? x1 x212).bind fun x242 =>
 (cat? x213 ([w64 (x242)] : List Int)).bind fun x243 =>
 spec_ReadConf_l1 N x1 m (w64 (x212 + 1)) x243
 else
 some x213)
 else
 some x213)
def spec_ReadConf (N : Nat) (x1 : ByteArray) : Option ((List Int) × Bool) :=
 joinP (fun (v210 : (List Int)) =>
 (if (((v210.length : Nat) : Int) != (x1.size : Int)) = true then
 some (([] : List Int),false)
 else
 (spec_ConfOk N v210).bind fun y252 =>
 (if (!y252) = true then
 some (([] : List Int),false)
 else
 some (v210,true)))) fun j210 =>
 (spec_ReadConf_l1 N x1 N 0 ([] : List Int)).bind (fun v228 => j210 v228)
theorem sem_spec_ReadConf (N : Nat) (x1 : ByteArray) (r : (List Int) × Bool) (h : spec_ReadConf N x1 = some r) : Says Try.prog 66 [VS x1] 0 [] (.tup [.sl 0 3 0 r.1.length,VB r.2]) [(0,.vec 3 (r.1.map encI))] := by
 unfold spec_ReadConf at h
 refine Says.of_norm e Try.call66 e fun B hB => ?_
 have hm : B.m ≤ 1000 := by omega
 refine Run.so hm (.p2 e e (.nil (.so hm (.z 5096 (Ev.bsW (ys := ([] : List Int)) (f := encI) e .nil e e e e e) e e (.p e (.nil (.seqO h (fun v210 => [(0,VS x1),(4,.sl 0 3 0 v210.length)]) (fun (v210 : (List Int)) => [(0,.vec 3 (v210.map encI))]) (fun h => ?_) (fun v210 h => ?_))))))))
 ·refine Run.so hm (.p e (.nil (.block ?_)))
  obtain ⟨res228,h,hk228⟩ := bindO h
  refine Run.loop (n := N) (fun m228 fr σ => ∃ (x212 : Int),∃ (x213 : (List Int)),spec_ReadConf_l1 N x1 m228 x212 x213 = some res228 ∧ fr = [(0,VS x1),(4,.sl 0 3 0 x213.length),(5,VI x212)] ∧ σ = [(0,.vec 3 (x213.map encI))]) (gh_pk [0,4,5] [5096] hB e e e e) ⟨_,_,h,e,e⟩ ?_
  rintro m228 fr σ ⟨x212,x213,h,rfl,rfl⟩
  obtain _ | m228 := m228
  ·rw [spec_ReadConf_l1] at h; cases h
  rw [spec_ReadConf_l1] at h
  refine Run.seq (.so hm (.p3 e e e (.p2 e e (.askO (x := .t 11) e h (fun g234 h => ?_) (fun g234 h => ?_)))))
  ·refine Ops.gp e g234 e (.gp e g234 e (.z 13400 (.pkT e g234 e) e e (.nil (.condO e h (fun g235 h => ?_) (fun g235 h => ?_)))))
   ·refine Run.skip (.seq (.block (.ops hm (.p3 e e e ?_))))
    obtain ⟨x242,hx242,h⟩ := bindO h
    refine Ops.z 21528 (Ev.ixS e e hx242) e e (.p e (.z 21560 (Ev.bsW (ys := ([w64 (x242)] : List Int)) (f := encI) e (.d1 .nil) e e e e e) e e ?_))
    obtain ⟨x243,hx243,h⟩ := bindO h
    exact Ops.z 21576 (Ev.apW (f := encI) (ontoW e e e) (addsW e e e (fun _ => e)) e bt3 e hx243) e e (.p e (.nil (.ops hm (.p3 e e e (.nil (⟨m228,Nat.lt_succ_self m228,_,_,(gh_pk [0,4,5] [21576] hB e e e e),_,_,h,e,e⟩))))))
   ·refine Run.exit ?_
    obtain rfl := someO h
    have h := hk228
    exact ⟨_,_,(gh_pk [0,4] [0] hB e e e e),_,h,e,e⟩
  ·refine Ops.gn e g234 (.gn e g234 (.z 13400 (.pkF e g234 e) e e (.nil (.condF e e (.exit ?_)))))
   obtain rfl := someO h
   have h := hk228
   exact ⟨_,_,(gh_pk [0,4] [0] hB e e e e),_,h,e,e⟩
 ·refine Run.seq (.so hm (.p3 e e e (.p3 e e e (.askO (x := .t 29) e h (fun g251 h => ?_) (fun g251 h => ?_)))))
  ·refine Ops.gn e g251 (.gn e g251 (.gn e g251 (.z 25720 (.pkT e g251 e) e e (.nil (.condT e e (.so hm (.z 29672 (Ev.bsW (ys := ([] : List Int)) (f := encI) e .nil e e e e e) e e (.p2 e e (.nil (.ret ?_))))))))))
   obtain rfl := someO h
   exact Ends.mkG (.inl e) e (gh_pk [0,1] [29672] hB e e e e) e e
  ·refine Ops.gp e g251 e ?_
   obtain ⟨y252,hy252,h⟩ := bindO h
   refine Ops.gs (s := 25688) e g251 (Ev.call [] [0] 0 (sem_spec_ConfOk _ _ _ hy252) e e (.cons (.borrow e (by decide) (lendW (fun _ => e) _ e)) .nil) e (.inr ⟨e,ownL_root trivial⟩) e e) e e ?_
   refine Ops.gp e g251 e (.z 25720 (.pkF e g251 e) e e (.nil (.condO e h (fun g253 h => ?_) (fun g253 h => ?_))))
   ·refine Run.so hm (.z 29672 (Ev.bsW (ys := ([] : List Int)) (f := encI) e .nil e e e e e) e e (.p2 e e (.nil (.ret ?_))))
    obtain rfl := someO h
    exact Ends.mkG (.inl e) e (gh_pk [0,1] [29672] hB e e e e) e e
   ·refine Run.skip (.so hm (.p3 e e e (.nil (.ret ?_))))
    obtain rfl := someO h
    exact Ends.mkG (.inl e) e (gh_pk [0,1] [0] hB e e e e) e e
def spec_EntryOk (N : Nat) (x1 : Entry) : Option (Bool) :=
 (spec_l01In N x1.Term 0 100000).bind fun y117 =>
 (if (!y117) = true then
 some false
 else
 (if (x1.Kind == 1) = true then
 some (decide (x1.Data = (⟨#[]⟩ : ByteArray)))
 else
 (if (x1.Kind == 2) = true then
 (spec_ReadConf N x1.Data).bind fun y124 =>
 some y124.2
 else
 (if (x1.Kind == 3) = true then
 some (decide ((x1.Data.size : Int) ≤ 120))
 else
 some false))))
theorem sem_spec_EntryOk (N : Nat) (x1 : Entry) (r : Bool) (h : spec_EntryOk N x1 = some r) : Says Try.prog 40 [.agg [VI x1.Term,VI x1.Kind,VS x1.Data]] 0 [] (VB r) [] := by
 unfold spec_EntryOk at h
 refine Says.of_norm e Try.call40 e fun B hB => ?_
 have hm : B.m ≤ 1000 := by omega
 refine Run.so hm (.z 1000 (.bx e e) e e (.p e (.nil (.seq (.so hm (.p2 e e ?_))))))
 obtain ⟨y117,hy117,h⟩ := bindO h
 refine Ops.z 5128 (Ev.call [] [] 0 (sem_spec_l01In _ _ _ _ _ hy117) e e (.d2 (.d1 .nil)) e (.inl e) e e) e e (.p e (.nil (.condO e h (fun g118 h => ?_) (fun g118 h => ?_))))
 ·refine Run.so hm (.p e (.nil (.ret ?_)))
  obtain rfl := someO h
  exact Ends.mkG (.inl e) e (gh_pk [0] [] hB e e e e) e e
 ·refine Run.skip (.seq (.so hm (.p2 e e (.nil (.block (.so hm (.p2 e e (.nil (.condO e h (fun g119 h => ?_) (fun g119 h => ?_))))))))))
  ·refine Run.so hm (.p3 e e e (.p e (.nil (.ret ?_))))
   obtain rfl := someO h
   exact Ends.mkG (.inl e) e (gh_pk [0] [] hB e e e e) e e
  ·refine Run.so hm (.p2 e e (.nil (.condO e h (fun g120 h => ?_) (fun g120 h => ?_))))
   ·refine Run.so hm (.p2 e e ?_)
    obtain ⟨y124,hy124,h⟩ := bindO h
    refine Ops.z 29704 (Ev.call [] [] 1 (sem_spec_ReadConf _ _ _ hy124) e e (.d1 .nil) e (.inl e) e e) e e (.p3 e e e (.p2 e e (.nil (.so hm (.p2 e e (.nil (.ret ?_)))))))
    obtain rfl := someO h
    exact Ends.mkG (.inl e) e (gh_pk [0] [] hB e e e e) e e
   ·refine Run.so hm (.p2 e e (.nil (.condO e h (fun g125 h => ?_) (fun g125 h => ?_))))
    ·refine Run.so hm (.p3 e e e (.p2 e e (.nil (.ret ?_))))
     obtain rfl := someO h
     exact Ends.mkG (.inl e) e (gh_pk [0] [] hB e e e e) e e
    ·refine Run.skip (.so hm (.p e (.nil (.ret ?_))))
     obtain rfl := someO h
     exact Ends.mkG (.inl e) e (gh_pk [0] [] hB e e e e) e e
def spec_LogOk_l1 (N : Nat) (x1 : Log) : Nat → Int → Int → Option ((Bool) ⊕ (Unit))
 | 0,_,_ => none
 | m + 1,x422,x423 =>
 (if (decide (x423 < (x1.Entries.length : Int))) = true then
 (at? x1.Entries x423).bind fun x507 =>
 (spec_EntryOk N x507).bind fun y508 =>
 (if (!y508) = true then
 some (Sum.inl false)
 else
 (at? x1.Entries x423).bind fun x510 =>
 (if (decide (x510.Term < x422)) = true then
 some (Sum.inl false)
 else
 (at? x1.Entries x423).bind fun x513 =>
 spec_LogOk_l1 N x1 m x513.Term (w64 (x423 + 1))))
 else
 some (Sum.inr ()))
def spec_LogOk_l1_r (N : Nat) (x1 : Log) : (List Entry) → Int → Int → Option ((Bool) ⊕ (Unit))
 | [],x422,x423 =>
 some (Sum.inr ())
 | hd :: tl,x422,x423 =>
 (some hd).bind fun x507 =>
 (spec_EntryOk N x507).bind fun y508 =>
 (if (!y508) = true then
 some (Sum.inl false)
 else
 (some hd).bind fun x510 =>
 (if (decide (x510.Term < x422)) = true then
 some (Sum.inl false)
 else
 (some hd).bind fun x513 =>
 spec_LogOk_l1_r N x1 tl x513.Term (w64 (x423 + 1))))
theorem spec_LogOk_l1_rng (N : Nat) (x1 : Log) (hx : x1.Entries.length ≤ 1099511627776) : ∀ (d k m : Nat) (x422 : Int),x1.Entries.length = k + d → d < m → spec_LogOk_l1 N x1 m x422 (k : Int) = spec_LogOk_l1_r N x1 (x1.Entries.drop k) x422 (k : Int) := by
 intro d
 induction d with
 | zero =>
  intro k m x422 hd hm
  obtain ⟨m,rfl⟩ : ∃ q,m = q + 1 := ⟨m - 1,by omega⟩
  rw [spec_LogOk_l1,if_neg (by simp; omega),List.drop_eq_nil_of_le (by omega),spec_LogOk_l1_r]
 | succ d ih =>
  intro k m x422 hd hm
  obtain ⟨m,rfl⟩ : ∃ q,m = q + 1 := ⟨m - 1,by omega⟩
  have hk : k < x1.Entries.length := by omega
  rw [spec_LogOk_l1,if_pos (by simp; omega),List.drop_eq_getElem_cons hk,spec_LogOk_l1_r]
  have h1 := at_lt hk
  have h2 := w64_succ (k := k) (by omega)
  have h3 := ih (k + 1) m
  simp only [h1,h2,h3 _ (by omega) (by omega)]
theorem spec_LogOk_l1_eq {N : Nat} (x1 : Log) (hx : x1.Entries.length ≤ 1099511627776) (hN : x1.Entries.length < N) (x422 : Int) : spec_LogOk_l1 N x1 N x422 0 = spec_LogOk_l1_r N x1 x1.Entries x422 0 := spec_LogOk_l1_rng N x1 hx x1.Entries.length 0 N x422 (by omega) hN
def spec_LogOk (N : Nat) (x1 : Log) : Option (Bool) :=
 (spec_l01In N x1.Start 0 100000).bind fun y323 =>
 (if (!y323) = true then
 some false
 else
 (spec_l01In N x1.StartTerm 0 100000).bind fun y325 =>
 (if (!y325) = true then
 some false
 else
 (if (decide ((x1.Entries.length : Int) > 120)) = true then
 some false
 else
 (if (decide ((w64 (x1.Start + (x1.Entries.length : Int))) > 100000)) = true then
 some false
 else
 joinP (fun (v421 : Unit) =>
 some true) fun j421 =>
 (spec_LogOk_l1 N x1 N x1.StartTerm 0).bind (Sum.elim (fun v469 => some v469) (fun (v470 : Unit) => j421 ()))))))
theorem sem_spec_LogOk (N : Nat) (x1 : Log) (r : Bool) (h : spec_LogOk N x1 = some r) : Says Try.prog 15 [.agg [VI x1.Start,VI x1.StartTerm,RO 51 (x1.Entries.map encEntry)]] 0 [] (VB r) [] := by
 unfold spec_LogOk at h
 refine Says.of_norm e Try.call15 e fun B hB => ?_
 have hm : B.m ≤ 1000 := by omega
 refine Run.so hm (.z 1000 (.bx e e) e e (.p e (.nil (.seq (.so hm (.p2 e e ?_))))))
 obtain ⟨y323,hy323,h⟩ := bindO h
 refine Ops.z 5128 (Ev.call [] [] 0 (sem_spec_l01In _ _ _ _ _ hy323) e e (.d2 (.d1 .nil)) e (.inl e) e e) e e (.p2 e e (.askO (x := .t 9) e h (fun g324 h => ?_) (fun g324 h => ?_)))
 ·refine Ops.gn e g324 (.gn e g324 (.gn e g324 (.gn e g324 (.z 5240 (.pkT e g324 e) e e (.p e (.gn e e (.gn e e (.gn e e (.gn e e (.z 5336 (.pkT e e e) e e (.p e (.gn e e (.gn e e (.gn e e (.gn e e (.gn e e (.gn e e (.gn e e (.z 5480 (.pkT e e e) e e (.nil (.condT e e (.so hm (.p e (.nil (.ret ?_)))))))))))))))))))))))))
  obtain rfl := someO h
  exact Ends.mkG (.inl e) e (gh_pk [0] [] hB e e e e) e e
 ·refine Ops.gp e g324 e (.gp e g324 e ?_)
  obtain ⟨y325,hy325,h⟩ := bindO h
  refine Ops.gs (s := 5208) e g324 (Ev.call [] [] 0 (sem_spec_l01In _ _ _ _ _ hy325) e e (.d2 (.d1 .nil)) e (.inl e) e e) e e (.gp e g324 e (.z 5240 (.pkF e g324 e) e e (.p e (.askO (x := .t 15) e h (fun g326 h => ?_) (fun g326 h => ?_)))))
  ·refine Ops.gn e g326 (.gn e g326 (.gn e g326 (.gn e g326 (.z 5336 (.pkT e g326 e) e e (.p e (.gn e e (.gn e e (.gn e e (.gn e e (.gn e e (.gn e e (.gn e e (.z 5480 (.pkT e e e) e e (.nil (.condT e e (.so hm (.p e (.nil (.ret ?_)))))))))))))))))))
   obtain rfl := someO h
   exact Ends.mkG (.inl e) e (gh_pk [0] [] hB e e e e) e e
  ·refine Ops.gp e g326 e (.gp e g326 e (.gs (s := 5304) e g326 (Ev.lnF e) e e (.gp e g326 e (.z 5336 (.pkF e g326 e) e e (.p e (.askO (x := .t 21) e h (fun g327 h => ?_) (fun g327 h => ?_)))))))
   ·refine Ops.gn e g327 (.gn e g327 (.gn e g327 (.gn e g327 (.gn e g327 (.gn e g327 (.gn e g327 (.z 5480 (.pkT e g327 e) e e (.nil (.condT e e (.so hm (.p e (.nil (.ret ?_)))))))))))))
    obtain rfl := someO h
    exact Ends.mkG (.inl e) e (gh_pk [0] [] hB e e e e) e e
   ·refine Ops.gp e g327 e (.gp e g327 e (.gp e g327 e (.gp e g327 e (.gs (s := 5432) e g327 (Ev.lnF e) e e (.gp e g327 e (.gp e g327 e (.z 5480 (.pkF e g327 e) e e (.nil (.condO e h (fun g328 h => ?_) (fun g328 h => ?_))))))))))
    ·refine Run.so hm (.p e (.nil (.ret ?_)))
     obtain rfl := someO h
     exact Ends.mkG (.inl e) e (gh_pk [0] [] hB e e e e) e e
    ·refine Run.skip (.so hm (.p3 e e e (.nil (.seqO h (fun v421 => []) (fun (v421 : Unit) => []) (fun h => ?_) (fun v421 h => ?_)))))
     ·refine Run.so hm (.p e (.nil (.block ?_)))
      obtain ⟨res470,h,hk470⟩ := bindO h
      refine Run.loop (n := N) (fun m470 fr σ => ∃ (x422 : Int),∃ (x423 : Int),spec_LogOk_l1 N x1 m470 x422 x423 = some res470 ∧ fr = [(1,.ptr 0 0),(3,VI x422),(4,VI x423)] ∧ σ = [(0,.box [VI x1.Start,VI x1.StartTerm,RO 51 (x1.Entries.map encEntry)])]) (gh_pk [1,3,4] [1000] hB e e e e) ⟨_,_,h,e,e⟩ ?_
      rintro m470 fr σ ⟨x422,x423,h,rfl,rfl⟩
      obtain _ | m470 := m470
      ·rw [spec_LogOk_l1] at h; cases h
      rw [spec_LogOk_l1] at h
      refine Run.seq (.so hm (.p3 e e e (.z 21528 (Ev.lnF e) e e (.p e (.nil (.condO e h (fun g473 h => ?_) (fun g473 h => ?_)))))))
      ·refine Run.skip (.seq (.block (.seq (.so hm (.p3 e e e ?_)))))
       obtain ⟨x507,hx507,h⟩ := bindO h
       refine Ops.z 29720 (Ev.iaF e e hx507) e e (.p e ?_)
       obtain ⟨y508,hy508,h⟩ := bindO h
       refine Ops.z 29752 (Ev.call [] [] 0 (sem_spec_EntryOk _ _ _ hy508) e e (.cons (.agg (.d2 (.d1 .nil))) .nil) e (.inl e) e e) e e (.p2 e e (.askO (x := .t 46) e h (fun g509 h => ?_) (fun g509 h => ?_)))
       ·refine Ops.gn e g509 (.gn e g509 (.gn e g509 (.gn e g509 (.gn e g509 (.gn e g509 (.gn e g509 (.gn e g509 (.z 29928 (.pkT e g509 e) e e (.nil (.condT e e (.so hm (.p e (.nil (.ret ?_))))))))))))))
        obtain rfl := someO h
        have h := hk470
        replace h := inlO h
        obtain rfl := someO h
        exact Ends.mkG (.inl e) e (gh_pk [0] [] hB e e e e) e e
       ·refine Ops.gp e g509 e (.gp e g509 e (.gp e g509 e ?_))
        obtain ⟨x510,hx510,h⟩ := bindO h
        refine Ops.gs (s := 29848) e g509 (Ev.iaF e e hx510) e e (.gp e g509 e (.gp e g509 e (.gp e g509 e (.gp e g509 e (.z 29928 (.pkF e g509 e) e e (.nil (.condO e h (fun g511 h => ?_) (fun g511 h => ?_))))))))
        ·refine Run.so hm (.p e (.nil (.ret ?_)))
         obtain rfl := someO h
         have h := hk470
         replace h := inlO h
         obtain rfl := someO h
         exact Ends.mkG (.inl e) e (gh_pk [0] [] hB e e e e) e e
        ·refine Run.skip (.ops hm (.p3 e e e ?_))
         obtain ⟨x513,hx513,h⟩ := bindO h
         exact Ops.z 37912 (Ev.iaF e e hx513) e e (.p3 e e e (.nil (.ops hm (.p3 e e e (.nil (⟨m470,Nat.lt_succ_self m470,_,_,(gh_pk [1,3,4] [0] hB e e e e),_,_,h,e,e⟩))))))
      ·refine Run.exit ?_
       obtain rfl := someO h
       have h := hk470
       replace h := inrO h
       exact ⟨_,_,(gh_pk [] [] hB e e e e),(),h,e,e⟩
     ·refine Run.so hm (.p e (.nil (.ret ?_)))
      obtain rfl := someO h
      exact Ends.mkG (.inl e) e (gh_pk [0] [] hB e e e e) e e
def spec_SumMore_l2 (N : Nat) : Nat → Int → Int → Option (Int)
 | 0,_,_ => none
 | m + 1,x1114,x1117 =>
 (if (decide (x1117 < 8)) = true then
 joinP (fun (v1158 : Int) =>
 spec_SumMore_l2 N m v1158 (w64 (x1117 + 1))) fun j1158 =>
 (intD .rem .u32 x1114 2).bind fun x1162 =>
 (intD .quo .u32 x1114 2).bind fun x1166 =>
 (if (x1162 == 1) = true then
 (intD .xor .u32 x1166 3558460437).bind fun x1169 =>
 j1158 x1169
 else
 j1158 x1166)
 else
 some x1114)
def spec_SumMore_l1 (N : Nat) (x2 : ByteArray) : Nat → Int → Int → Option (Int)
 | 0,_,_ => none
 | m + 1,x903,x905 =>
 (if (decide (x905 < (x2.size : Int))) = true then
 joinP (fun (v1105 : Int) =>
 spec_SumMore_l1 N x2 m v1105 (w64 (x905 + 1))) fun j1105 =>
 (sat? x2 x905).bind fun x1112 =>
 (intD .xor .u32 x903 (IntKind.wrap .u32 (x1112))).bind fun x1113 =>
 (spec_SumMore_l2 N N x1113 0).bind (fun v1143 => j1105 v1143)
 else
 some x903)
def spec_SumMore (N : Nat) (x1 : Int) (x2 : ByteArray) : Option (Int) :=
 joinP (fun (v902 : Int) =>
 some v902) fun j902 =>
 (spec_SumMore_l1 N x2 N x1 0).bind (fun v1037 => j902 v1037)
theorem sem_spec_SumMore (N : Nat) (x1 : Int) (x2 : ByteArray) (r : Int) (h : spec_SumMore N x1 x2 = some r) : Says Try.prog 86 [.c (.i .u32 x1),VS x2] 0 [] (.c (.i .u32 r)) [] := by
 unfold spec_SumMore at h
 refine Says.of_norm e Try.call86 e fun B hB => ?_
 have hm : B.m ≤ 1000 := by omega
 refine Run.so hm (.p e (.nil (.seqO h (fun v902 => [(0,.c (.i .u32 v902))]) (fun (v902 : Int) => []) (fun h => ?_) (fun v902 h => ?_))))
 ·refine Run.so hm (.p e (.nil (.block ?_)))
  obtain ⟨res1037,h,hk1037⟩ := bindO h
  refine Run.loop (n := N) (fun m1037 fr σ => ∃ (x903 : Int),∃ (x905 : Int),spec_SumMore_l1 N x2 m1037 x903 x905 = some res1037 ∧ fr = [(0,.c (.i .u32 x903)),(1,VS x2),(5,VI x905)] ∧ σ = []) (gh_pk [0,1,5] [] hB e e e e) ⟨_,_,h,e,e⟩ ?_
  rintro m1037 fr σ ⟨x903,x905,h,rfl,rfl⟩
  obtain _ | m1037 := m1037
  ·rw [spec_SumMore_l1] at h; cases h
  rw [spec_SumMore_l1] at h
  refine Run.seq (.so hm (.p3 e e e (.p e (.nil (.condO e h (fun g1040 h => ?_) (fun g1040 h => ?_))))))
  ·refine Run.skip (.seqO h (fun v1105 => [(0,.c (.i .u32 v1105)),(1,VS x2),(5,VI x905)]) (fun (v1105 : Int) => []) (fun h => ?_) (fun v1105 h => ?_))
   ·refine Run.block (.so hm (.p3 e e e ?_))
    obtain ⟨x1112,hx1112,h⟩ := bindO h
    refine Ops.z 17432 (Ev.ixS e e hx1112) e e (.p e ?_)
    obtain ⟨x1113,hx1113,h⟩ := bindO h
    refine Ops.z 17464 (.bin e e hx1113) e e (.p e (.nil (.so hm (.p e (.nil (.block ?_))))))
    obtain ⟨res1143,h,hk1143⟩ := bindO h
    refine Run.loop (n := N) (fun m1143 fr σ => ∃ (x1114 : Int),∃ (x1117 : Int),spec_SumMore_l2 N m1143 x1114 x1117 = some res1143 ∧ fr = [(0,.c (.i .u32 x1114)),(1,VS x2),(5,VI x905),(6,VI x1117)] ∧ σ = []) (gh_pk [0,1,5,6] [] hB e e e e) ⟨_,_,h,e,e⟩ ?_
    rintro m1143 fr σ ⟨x1114,x1117,h,rfl,rfl⟩
    obtain _ | m1143 := m1143
    ·rw [spec_SumMore_l2] at h; cases h
    rw [spec_SumMore_l2] at h
    refine Run.seq (.so hm (.p2 e e (.nil (.condO e h (fun g1146 h => ?_) (fun g1146 h => ?_)))))
    ·refine Run.skip (.seqO h (fun v1158 => [(0,.c (.i .u32 v1158)),(1,VS x2),(5,VI x905),(6,VI x1117)]) (fun (v1158 : Int) => []) (fun h => ?_) (fun v1158 h => ?_))
     ·refine Run.block (.so hm (.p e ?_))
      obtain ⟨x1162,hx1162,h⟩ := bindO h
      refine Ops.z 33784 (.bin e e hx1162) e e (.p2 e e (.nil (.so hm (.p e ?_))))
      obtain ⟨x1166,hx1166,h⟩ := bindO h
      refine Ops.z 37880 (.bin e e hx1166) e e (.p e (.nil (.so hm (.p e (.nil (.condO e h (fun g1167 h => ?_) (fun g1167 h => ?_)))))))
      ·refine Run.ops hm (.p e ?_)
       obtain ⟨x1169,hx1169,h⟩ := bindO h
       exact Ops.z 46072 (.bin e e hx1169) e e (.p e (.nil (⟨_,_,(gh_pk [0,1,5,6] [] hB e e e e),_,h,e,e⟩)))
      ·exact Run.skip (⟨_,_,(gh_pk [0,1,5,6] [] hB e e e e),_,h,e,e⟩)
     ·exact Run.ops hm (.p3 e e e (.nil (⟨m1143,Nat.lt_succ_self m1143,_,_,(gh_pk [0,1,5,6] [] hB e e e e),_,_,h,e,e⟩)))
    ·refine Run.exit ?_
     obtain rfl := someO h
     have h := hk1143
     exact ⟨_,_,(gh_pk [0,1,5] [] hB e e e e),_,h,e,e⟩
   ·exact Run.ops hm (.p3 e e e (.nil (⟨m1037,Nat.lt_succ_self m1037,_,_,(gh_pk [0,1,5] [] hB e e e e),_,_,h,e,e⟩)))
  ·refine Run.exit ?_
   obtain rfl := someO h
   have h := hk1037
   exact ⟨_,_,(gh_pk [0] [] hB e e e e),_,h,e,e⟩
 ·refine Run.so hm (.p2 e e (.nil (.ret ?_)))
  obtain rfl := someO h
  exact Ends.mkG (.inl e) e (gh_pk [0] [] hB e e e e) e e
def spec_SumOf (N : Nat) (x1 : ByteArray) : Option (Int) :=
 (spec_SumMore N 4294967295 x1).bind fun y103 =>
 some y103
theorem sem_spec_SumOf (N : Nat) (x1 : ByteArray) (r : Int) (h : spec_SumOf N x1 = some r) : Says Try.prog 79 [VS x1] 0 [] (.c (.i .u32 r)) [] := by
 unfold spec_SumOf at h
 refine Says.of_norm e Try.call79 e fun B hB => ?_
 have hm : B.m ≤ 1000 := by omega
 refine Run.so hm (.p e (.nil (.so hm (.p e ?_))))
 obtain ⟨y103,hy103,h⟩ := bindO h
 refine Ops.z 5112 (Ev.call [] [] 0 (sem_spec_SumMore _ _ _ _ hy103) e e (.d2 .nil) e (.inl e) e e) e e (.p e (.nil (.ret ?_)))
 obtain rfl := someO h
 exact Ends.mkG (.inl e) e (gh_pk [0] [] hB e e e e) e e
def spec_l02Four (N : Nat) (x1 : Int) : Option (ByteArray) :=
 (intSh .shr .u32 x1 24).bind fun x109 =>
 (intSh .shr .u32 x1 16).bind fun x110 =>
 (intSh .shr .u32 x1 8).bind fun x111 =>
 some (strOf ([IntKind.wrap .u8 (x109),IntKind.wrap .u8 (x110),IntKind.wrap .u8 (x111),IntKind.wrap .u8 (x1)] : List Int))
theorem sem_spec_l02Four (N : Nat) (x1 : Int) (r : ByteArray) (h : spec_l02Four N x1 = some r) : Says Try.prog 78 [.c (.i .u32 x1)] 0 [] (VS r) [] := by
 unfold spec_l02Four at h
 refine Says.of_norm e Try.call78 e fun B hB => ?_
 have hm : B.m ≤ 1000 := by omega
 refine Run.so hm (.p e (.nil (.so hm (.p e ?_))))
 obtain ⟨x109,hx109,h⟩ := bindO h
 refine Ops.z 5112 (.sh e e hx109) e e (.p2 e e ?_)
 obtain ⟨x110,hx110,h⟩ := bindO h
 refine Ops.z 5160 (.sh e e hx110) e e (.p2 e e ?_)
 obtain ⟨x111,hx111,h⟩ := bindO h
 refine Ops.z 5208 (.sh e e hx111) e e (.p3 e e e (.z 5272 (Ev.bsW (ys := ([IntKind.wrap .u8 (x109),IntKind.wrap .u8 (x110),IntKind.wrap .u8 (x111),IntKind.wrap .u8 (x1)] : List Int)) (f := encU) e (.d4 .nil) e e e e e) e e (.z 5288 (.sbC (addsW (f := encU) e e e (fun _ => e))) e e (.p e (.nil (.ret ?_))))))
 obtain rfl := someO h
 exact Ends.mkG (.inl e) e (gh_pk [0] [] hB e e e e) e e
def spec_Frame (N : Nat) (x1 : ByteArray) : Option (ByteArray × Bool) :=
 (spec_l01In N (x1.size : Int) 1 9000).bind fun y120 =>
 (if (!y120) = true then
 some ((⟨#[]⟩ : ByteArray),false)
 else
 (spec_l01Var N (x1.size : Int)).bind fun y127 =>
 (spec_SumOf N x1).bind fun y128 =>
 (spec_l02Four N y128).bind fun y129 =>
 (scat? y127 y129).bind fun x130 =>
 (scat? x130 x1).bind fun x131 =>
 some (x131,true))
theorem sem_spec_Frame (N : Nat) (x1 : ByteArray) (r : ByteArray × Bool) (h : spec_Frame N x1 = some r) : Says Try.prog 61 [VS x1] 0 [] (.tup [VS r.1,VB r.2]) [] := by
 unfold spec_Frame at h
 refine Says.of_norm e Try.call61 e fun B hB => ?_
 have hm : B.m ≤ 1000 := by omega
 refine Run.so hm (.p2 e e (.nil (.seq (.so hm (.p2 e e ?_)))))
 obtain ⟨y120,hy120,h⟩ := bindO h
 refine Ops.z 5128 (Ev.call [] [] 0 (sem_spec_l01In _ _ _ _ _ hy120) e e (.d2 (.d1 .nil)) e (.inl e) e e) e e (.p e (.nil (.condO e h (fun g121 h => ?_) (fun g121 h => ?_))))
 ·refine Run.so hm (.p2 e e (.nil (.ret ?_)))
  obtain rfl := someO h
  exact Ends.mkG (.inl e) e (gh_pk [0,1] [] hB e e e e) e e
 ·refine Run.skip (.so hm (.p2 e e ?_))
  obtain ⟨y127,hy127,h⟩ := bindO h
  refine Ops.z 13320 (Ev.call [] [] 0 (sem_spec_l01Var _ _ _ hy127) e e (.d1 .nil) e (.inl e) e e) e e (.p e ?_)
  obtain ⟨y128,hy128,h⟩ := bindO h
  refine Ops.z 13352 (Ev.call [] [] 0 (sem_spec_SumOf _ _ _ hy128) e e (.d1 .nil) e (.inl e) e e) e e ?_
  obtain ⟨y129,hy129,h⟩ := bindO h
  refine Ops.z 13368 (Ev.call [] [] 0 (sem_spec_l02Four _ _ _ hy129) e e (.d1 .nil) e (.inl e) e e) e e ?_
  obtain ⟨x130,hx130,h⟩ := bindO h
  refine Ops.z 13384 (Ev.addS e e hx130) e e (.p e ?_)
  obtain ⟨x131,hx131,h⟩ := bindO h
  refine Ops.z 13416 (Ev.addS e e hx131) e e (.p2 e e (.nil (.ret ?_)))
  obtain rfl := someO h
  exact Ends.mkG (.inl e) e (gh_pk [0,1] [] hB e e e e) e e
def spec_l12Head (N : Nat) (x1 : Log) : Option (ByteArray) :=
 (spec_l01Var N x1.Start).bind fun y135 =>
 (scat? (⟨#[83]⟩ : ByteArray) y135).bind fun x136 =>
 (spec_l01Var N x1.StartTerm).bind fun y137 =>
 (scat? x136 y137).bind fun x138 =>
 (spec_Frame N x138).bind fun y139 =>
 some y139.1
theorem sem_spec_l12Head (N : Nat) (x1 : Log) (r : ByteArray) (h : spec_l12Head N x1 = some r) : Says Try.prog 44 [.agg [VI x1.Start,VI x1.StartTerm,RO 51 (x1.Entries.map encEntry)]] 0 [] (VS r) [] := by
 unfold spec_l12Head at h
 refine Says.of_norm e Try.call44 e fun B hB => ?_
 have hm : B.m ≤ 1000 := by omega
 refine Run.so hm (.z 1000 (.bx e e) e e (.p e (.nil (.seq (.draw hm hmix (.p e (.p e ?_)))))))
 obtain ⟨y135,hy135,h⟩ := bindO h
 refine OpsD.z 5128 (Ev.call [] [] 0 (sem_spec_l01Var _ _ _ hy135) e e (.d1 .nil) e (.inl e) e e) e e ?_
 obtain ⟨x136,hx136,h⟩ := bindO h
 refine OpsD.z 5144 (Ev.addS e e hx136) e e (.p e (.p e ?_))
 obtain ⟨y137,hy137,h⟩ := bindO h
 refine OpsD.z 5192 (Ev.call [] [] 0 (sem_spec_l01Var _ _ _ hy137) e e (.d1 .nil) e (.inl e) e e) e e ?_
 obtain ⟨x138,hx138,h⟩ := bindO h
 refine OpsD.z 5208 (Ev.addS e e hx138) e e ?_
 obtain ⟨y139,hy139,h⟩ := bindO h
 refine OpsD.z 5224 (Ev.call [] [] 0 (sem_spec_Frame _ _ _ hy139) e e (.d1 .nil) e (.inl e) e e) e e (.p e (.p e (.p e (.p e (.p e (.nil ⟨by kernel_rfl,?_⟩))))))
 refine Run.so hm (.p2 e e (.nil (.ret ?_)))
 obtain rfl := someO h
 exact Ends.mkG (.inl e) e (gh_pk [0] [] hB e e e e) e e
def spec_EntryText (N : Nat) (x1 : Int) (x2 : Entry) : Option (ByteArray × Bool) :=
 (spec_EntryOk N x2).bind fun y136 =>
 (if (!y136) = true then
 some ((⟨#[]⟩ : ByteArray),false)
 else
 (spec_l01In N x1 1 100000).bind fun y138 =>
 (if (!y138) = true then
 some ((⟨#[]⟩ : ByteArray),false)
 else
 (spec_l01Var N x1).bind fun y146 =>
 (scat? (⟨#[69]⟩ : ByteArray) y146).bind fun x147 =>
 (spec_l01Var N x2.Term).bind fun y148 =>
 (scat? x147 y148).bind fun x149 =>
 (scat? x149 (strOf ([IntKind.wrap .u8 (x2.Kind)] : List Int))).bind fun x150 =>
 (scat? x150 x2.Data).bind fun x151 =>
 some (x151,true)))
theorem sem_spec_EntryText (N : Nat) (x1 : Int) (x2 : Entry) (r : ByteArray × Bool) (h : spec_EntryText N x1 x2 = some r) : Says Try.prog 60 [VI x1,.agg [VI x2.Term,VI x2.Kind,VS x2.Data]] 0 [] (.tup [VS r.1,VB r.2]) [] := by
 unfold spec_EntryText at h
 refine Says.of_norm e Try.call60 e fun B hB => ?_
 have hm : B.m ≤ 1000 := by omega
 refine Run.so hm (.z 1000 (.bx e e) e e (.p2 e e (.nil (.seq (.so hm (.p e ?_))))))
 obtain ⟨y136,hy136,h⟩ := bindO h
 refine Ops.z 5112 (Ev.call [] [] 0 (sem_spec_EntryOk _ _ _ hy136) e e (.cons (.agg (.d2 (.d1 .nil))) .nil) e (.inl e) e e) e e (.p2 e e (.askO (x := .t 9) e h (fun g137 h => ?_) (fun g137 h => ?_)))
 ·refine Ops.gn e g137 (.gn e g137 (.gn e g137 (.z 5208 (.pkT e g137 e) e e (.nil (.condT e e (.so hm (.p2 e e (.nil (.ret ?_)))))))))
  obtain rfl := someO h
  exact Ends.mkG (.inl e) e (gh_pk [0,1] [] hB e e e e) e e
 ·refine Ops.gp e g137 e ?_
  obtain ⟨y138,hy138,h⟩ := bindO h
  refine Ops.gs (s := 5176) e g137 (Ev.call [] [] 0 (sem_spec_l01In _ _ _ _ _ hy138) e e (.d2 (.d1 .nil)) e (.inl e) e e) e e (.gp e g137 e (.z 5208 (.pkF e g137 e) e e (.nil (.condO e h (fun g139 h => ?_) (fun g139 h => ?_)))))
  ·refine Run.so hm (.p2 e e (.nil (.ret ?_)))
   obtain rfl := someO h
   exact Ends.mkG (.inl e) e (gh_pk [0,1] [] hB e e e e) e e
  ·refine Run.skip (.seq (.draw hm hmix (.p e ?_)))
   obtain ⟨y146,hy146,h⟩ := bindO h
   refine OpsD.z 13304 (Ev.call [] [] 0 (sem_spec_l01Var _ _ _ hy146) e e (.d1 .nil) e (.inl e) e e) e e ?_
   obtain ⟨x147,hx147,h⟩ := bindO h
   refine OpsD.z 13320 (Ev.addS e e hx147) e e (.p e (.p e ?_))
   obtain ⟨y148,hy148,h⟩ := bindO h
   refine OpsD.z 13368 (Ev.call [] [] 0 (sem_spec_l01Var _ _ _ hy148) e e (.d1 .nil) e (.inl e) e e) e e ?_
   obtain ⟨x149,hx149,h⟩ := bindO h
   refine OpsD.z 13384 (Ev.addS e e hx149) e e (.p e (.p e (.p e (.z 13448 (Ev.bsW (ys := ([IntKind.wrap .u8 (x2.Kind)] : List Int)) (f := encU) e (.d1 .nil) e e e e e) e e (.z 13464 (.sbC (addsW (f := encU) e e e (fun _ => e))) e e ?_)))))
   obtain ⟨x150,hx150,h⟩ := bindO h
   refine OpsD.z 13480 (Ev.addS e e hx150) e e (.p e (.p e ?_))
   obtain ⟨x151,hx151,h⟩ := bindO h
   refine OpsD.z 13528 (Ev.addS e e hx151) e e (.p e (.p e (.nil ⟨by kernel_rfl,?_⟩)))
   refine Run.ret ?_
   obtain rfl := someO h
   exact Ends.mkG (.inl e) e (gh_pk [0,1] [] hB e e e e) e e
def spec_l12Frames_l1 (N : Nat) (x1 : Log) : Nat → Int → (List Int) → Option ((List Int))
 | 0,_,_ => none
 | m + 1,x303,x307 =>
 (if (decide (x303 < (x1.Entries.length : Int))) = true then
 (at? x1.Entries x303).bind fun x362 =>
 (spec_EntryText N (w64 ((w64 (x1.Start + 1)) + x303)) x362).bind fun y363 =>
 (spec_Frame N y363.1).bind fun y367 =>
 (cat? x307 (intsOf y367.1)).bind fun x369 =>
 spec_l12Frames_l1 N x1 m (w64 (x303 + 1)) x369
 else
 some x307)
def spec_l12Frames_l1_r (N : Nat) (x1 : Log) : (List Entry) → Int → (List Int) → Option ((List Int))
 | [],x303,x307 =>
 some x307
 | hd :: tl,x303,x307 =>
 (some hd).bind fun x362 =>
 (spec_EntryText N (w64 ((w64 (x1.Start + 1)) + x303)) x362).bind fun y363 =>
 (spec_Frame N y363.1).bind fun y367 =>
 (cat? x307 (intsOf y367.1)).bind fun x369 =>
 spec_l12Frames_l1_r N x1 tl (w64 (x303 + 1)) x369
theorem spec_l12Frames_l1_rng (N : Nat) (x1 : Log) (hx : x1.Entries.length ≤ 1099511627776) : ∀ (d k m : Nat) (x307 : (List Int)),x1.Entries.length = k + d → d < m → spec_l12Frames_l1 N x1 m (k : Int) x307 = spec_l12Frames_l1_r N x1 (x1.Entries.drop k) (k : Int) x307 := by
 intro d
 induction d with
 | zero =>
  intro k m x307 hd hm
  obtain ⟨m,rfl⟩ : ∃ q,m = q + 1 := ⟨m - 1,by omega⟩
  rw [spec_l12Frames_l1,if_neg (by simp; omega),List.drop_eq_nil_of_le (by omega),spec_l12Frames_l1_r]
 | succ d ih =>
  intro k m x307 hd hm
  obtain ⟨m,rfl⟩ : ∃ q,m = q + 1 := ⟨m - 1,by omega⟩
  have hk : k < x1.Entries.length := by omega
  rw [spec_l12Frames_l1,if_pos (by simp; omega),List.drop_eq_getElem_cons hk,spec_l12Frames_l1_r]
  have h1 := at_lt hk
  have h2 := w64_succ (k := k) (by omega)
  have h3 := ih (k + 1) m
  simp only [h1,h2,h3 _ (by omega) (by omega)]
theorem spec_l12Frames_l1_eq {N : Nat} (x1 : Log) (hx : x1.Entries.length ≤ 1099511627776) (hN : x1.Entries.length < N) (x307 : (List Int)) : spec_l12Frames_l1 N x1 N 0 x307 = spec_l12Frames_l1_r N x1 x1.Entries 0 x307 := spec_l12Frames_l1_rng N x1 hx x1.Entries.length 0 N x307 (by omega) hN
def spec_l12Frames (N : Nat) (x1 : Log) (x2 : Int) : Option (ByteArray) :=
 joinP (fun (v302 : (List Int)) =>
 some (strOf v302)) fun j302 =>
 (spec_l12Frames_l1 N x1 N x2 ([] : List Int)).bind (fun v338 => j302 v338)
theorem sem_spec_l12Frames (N : Nat) (x1 : Log) (x2 : Int) (r : ByteArray) (h : spec_l12Frames N x1 x2 = some r) : Says Try.prog 32 [.agg [VI x1.Start,VI x1.StartTerm,RO 51 (x1.Entries.map encEntry)],VI x2] 0 [] (VS r) [] := by
 unfold spec_l12Frames at h
 refine Says.of_norm e Try.call32 e fun B hB => ?_
 have hm : B.m ≤ 1000 := by omega
 refine Run.so hm (.z 1000 (.bx e e) e e (.p e (.nil (.so hm (.z 5096 (Ev.bsW (ys := ([] : List Int)) (f := encU) e .nil e e e e e) e e (.p e (.nil (.seqO h (fun v302 => [(5,.sl 0 5 0 v302.length)]) (fun (v302 : (List Int)) => [(0,.vec 5 (v302.map encU))]) (fun h => ?_) (fun v302 h => ?_)))))))))
 ·refine Run.so hm (.p2 e e (.nil (.block ?_)))
  obtain ⟨res338,h,hk338⟩ := bindO h
  refine Run.loop (n := N) (fun m338 fr σ => ∃ (x303 : Int),∃ (x307 : (List Int)),spec_l12Frames_l1 N x1 m338 x303 x307 = some res338 ∧ fr = [(2,.ptr 0 0),(5,.sl 1 5 0 x307.length),(6,VI x303)] ∧ σ = [(0,.box [VI x1.Start,VI x1.StartTerm,RO 51 (x1.Entries.map encEntry)]),(1,.vec 5 (x307.map encU))]) (gh_pk [2,5,6] [1000,5096] hB e e e e) ⟨_,_,h,e,e⟩ ?_
  rintro m338 fr σ ⟨x303,x307,h,rfl,rfl⟩
  obtain _ | m338 := m338
  ·rw [spec_l12Frames_l1] at h; cases h
  rw [spec_l12Frames_l1] at h
  refine Run.seq (.so hm (.p3 e e e (.z 13336 (Ev.lnF e) e e (.p e (.nil (.condO e h (fun g341 h => ?_) (fun g341 h => ?_)))))))
  ·refine Run.skip (.seq (.block (.seq (.draw hm hmix (.p e (.p e (.p e (.p e (.p e (.p e (.p e (.p e ?_))))))))))))
   obtain ⟨x362,hx362,h⟩ := bindO h
   refine OpsD.z 21608 (Ev.iaF e e hx362) e e (.p e ?_)
   obtain ⟨y363,hy363,h⟩ := bindO h
   refine OpsD.z 21640 (Ev.call [] [] 0 (sem_spec_EntryText _ _ _ _ hy363) e e (.d1 (.cons (.agg (.d2 (.d1 .nil))) .nil)) e (.inl e) e e) e e (.p e (.p e (.p e (.p e (.p e (.nil ⟨by kernel_rfl,?_⟩))))))
   refine Run.so hm (.p e ?_)
   obtain ⟨y367,hy367,h⟩ := bindO h
   refine Ops.z 25592 (Ev.call [] [] 0 (sem_spec_Frame _ _ _ hy367) e e (.d1 .nil) e (.inl e) e e) e e (.p3 e e e (.p2 e e (.nil (.ops hm (.p2 e e (.z 29704 (Ev.bsR e) e e ?_))))))
   obtain ⟨x369,hx369,h⟩ := bindO h
   exact Ops.z 29720 (Ev.apW (f := encU) (ontoW e e e) (addsF e) e bt5 e hx369) e e (.p e (.nil (.ops hm (.p3 e e e (.nil (⟨m338,Nat.lt_succ_self m338,_,_,(gh_pk [2,5,6] [0,29720] hB e e e e),_,_,h,e,e⟩))))))
  ·refine Run.exit ?_
   obtain rfl := someO h
   have h := hk338
   exact ⟨_,_,(gh_pk [5] [1] hB e e e e),_,h,e,e⟩
 ·refine Run.so hm (.p e (.z 33784 (.sbC (addsW (f := encU) e e e (fun _ => e))) e e (.p e (.nil (.ret ?_)))))
  obtain rfl := someO h
  exact Ends.mkG (.inl e) e (gh_pk [0] [] hB e e e e) e e
end Go.Proofs.Ythlhkcnilehbbaa.Pe.FnLogs
