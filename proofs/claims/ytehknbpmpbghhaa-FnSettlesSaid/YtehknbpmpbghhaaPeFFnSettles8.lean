/- Functions,as pure functions; and that Go does just that. -/
import Derived.Test.YtehknbpmpbghhaaPeFFnSettles7
namespace Go.Proofs.Ytehknbpmpbghhaa.Pe.FnSettles
open Go Go.RowKit
set_option linter.unusedVariables false
set_option linter.unusedSimpArgs false
set_option maxHeartbeats 40000000
def spec_l01Text_l1 (N : Nat) (v_161 : Int) : Nat → Int → (List Int) → Int → Int → (List Int) → Option ((List Int) × Int × Int × (List Int))
 | 0,_,_,_,_,_ => none
 | m + 1,x_193,x_194,x_195,x_196,x_197 =>
 (if (decide (x_193 < v_161)) = true then
 (spec_l01Byte N (Tl01Cur.mk x_194 x_195 x_196)).bind fun y_218 =>
 (cat? x_197 ([IntKind.wrap .u8 (y_218.1)] : List Int)).bind fun x_219 =>
 spec_l01Text_l1 N v_161 m (w64 (x_193 + 1)) y_218.2.b y_218.2.i y_218.2.h x_219
 else
 some (x_194,x_195,x_196,x_197))
def spec_l01Text (N : Nat) (x_1 : Tl01Cur) (x_2 : Int) : Option (ByteArray × Tl01Cur) :=
 joinP (fun (v_161 : Int) =>
 joinP (fun (v_191 : (List Int) × Int × Int × (List Int)) =>
 some (strOf v_191.2.2.2,(Tl01Cur.mk v_191.1 v_191.2.1 v_191.2.2.1))) fun j_191 =>
 (spec_l01Text_l1 N v_161 N 0 x_1.b x_1.i x_1.h ([] : List Int)).bind (fun v_208 => j_191 (v_208.1,v_208.2.1,v_208.2.2.1,v_208.2.2.2))) fun j_161 =>
 (if (decide (x_2 > 5000)) = true then
 j_161 5000
 else
 j_161 x_2)
theorem sem_spec_l01Text (N : Nat) (x_1 : Tl01Cur) (x_2 : Int) (r : ByteArray × Tl01Cur) (h : spec_l01Text N x_1 x_2 = some r) : Says Try.prog 146 [.ptr 0 0,VI x_2] 1 [(0,.box [RO 5 (x_1.b.map encU),VI x_1.i,VI x_1.h])] (VS r.1) [(0,.box [RO 5 (r.2.b.map encU),VI r.2.i,VI r.2.h])] := by
 unfold spec_l01Text at h
 refine Says.of_run s146 Try.call146 rfl fun B hB => ?_
 have hm : B.m ≤ 1000 := by omega
 refine Run.seq (Run.ops hm (Ops.p rfl (Ops.nil (Run.seqO h (fun v_161 => [(0,.ptr 0 0),(1,VI v_161)]) (fun (v_161 : Int) => [(0,.box [RO 5 (x_1.b.map encU),VI x_1.i,VI x_1.h])]) (fun h => ?_) (fun v_161 h => ?_)))))
 ·refine Run.seq (Run.ops hm (.p2 rfl rfl (Ops.nil (Run.condO rfl h (fun g_162 h => ?_) (fun g_162 h => ?_)))))
  ·exact Run.ops hm (Ops.p rfl (Ops.nil (⟨_,_,(gh_pk [0,1] [0] hB rfl rfl rfl rfl),_,h,rfl,rfl⟩)))
  ·exact Run.skip (⟨_,_,(gh_pk [0,1] [0] hB rfl rfl rfl rfl),_,h,rfl,rfl⟩)
 ·refine Run.seq (Run.ops hm (Ops.st (s := 13288) (Ev.bsW (ys := ([] : List Int)) (f := encU) rfl .nil rfl rfl rfl rfl rfl) rfl rfl (Ops.p rfl (Ops.nil (Run.seqO h (fun v_191 => [(5,.sl 1 5 0 v_191.2.2.2.length)]) (fun (v_191 : (List Int) × Int × Int × (List Int)) => [(0,.box [RO 5 (v_191.1.map encU),VI v_191.2.1,VI v_191.2.2.1]),(1,.vec 5 (v_191.2.2.2.map encU))]) (fun h => ?_) (fun v_191 h => ?_))))))
  ·refine Run.seq (Run.ops hm (Ops.p rfl (Ops.nil (Run.block ?_))))
   obtain ⟨res_208,h,hk_208⟩ := bindO h
   refine Run.loop (n := N) (fun m_208 fr σ => ∃ (x_193 : Int),∃ (x_194 : (List Int)),∃ (x_195 : Int),∃ (x_196 : Int),∃ (x_197 : (List Int)),spec_l01Text_l1 N v_161 m_208 x_193 x_194 x_195 x_196 x_197 = some res_208 ∧ fr = [(0,.ptr 0 0),(1,VI v_161),(5,.sl 1 5 0 x_197.length),(6,VI x_193)] ∧ σ = [(0,.box [RO 5 (x_194.map encU),VI x_195,VI x_196]),(1,.vec 5 (x_197.map encU))]) (gh_pk [0,1,5,6] [0,13288] hB rfl rfl rfl rfl) ⟨_,_,_,_,_,h,rfl,rfl⟩ ?_
   rintro m_208 fr σ ⟨x_193,x_194,x_195,x_196,x_197,h,rfl,rfl⟩
   obtain _ | m_208 := m_208
   ·rw [spec_l01Text_l1] at h; cases h
   rw [spec_l01Text_l1] at h
   refine Run.seq (Run.seq (Run.ops hm (.p3 rfl rfl rfl (Ops.nil (Run.condO rfl h (fun g_211 h => ?_) (fun g_211 h => ?_))))))
   ·refine Run.skip (Run.seq (Run.block (Run.ops hm (.p2 rfl rfl ?_))))
    obtain ⟨y_218,hy_218,h⟩ := bindO h
    refine Ops.st (s := 29704) (Ev.call [0] [] 0 (sem_spec_l01Byte _ _ _ hy_218) rfl rfl (.cons (.ptr rfl) .nil) rfl (.inl rfl) rfl rfl) rfl rfl (Ops.p rfl (Ops.st (s := 29736) (Ev.bsW (ys := ([IntKind.wrap .u8 (y_218.1)] : List Int)) (f := encU) rfl (.d1 .nil) rfl rfl rfl rfl rfl) rfl rfl ?_))
    obtain ⟨x_219,hx_219,h⟩ := bindO h
    exact Ops.st (s := 29752) (Ev.apW (f := encU) (ontoW rfl rfl rfl) (addsW rfl rfl rfl (fun _ => rfl)) rfl bt5 rfl hx_219) rfl rfl (Ops.p rfl (Ops.nil (Run.ops hm (.p3 rfl rfl rfl (Ops.nil (⟨m_208,Nat.lt_succ_self m_208,_,_,(gh_pk [0,1,5,6] [0,29752] hB rfl rfl rfl rfl),_,_,_,_,_,h,rfl,rfl⟩))))))
   ·refine Run.exit ?_
    obtain rfl := someO h
    have h := hk_208
    exact ⟨_,_,(gh_pk [5] [0,1] hB rfl rfl rfl rfl),_,h,rfl,rfl⟩
  ·refine Run.seq (Run.ops hm (Ops.p rfl (Ops.st (s := 33784) (.sbC (addsW (f := encU) rfl rfl rfl (fun _ => rfl))) rfl rfl (Ops.p rfl (Ops.nil (Run.ret ?_))))))
   obtain rfl := someO h
   exact Ends.mkG (.inl rfl) rfl (gh_pk [0] [0] hB rfl rfl rfl rfl) rfl rfl
def spec_l14Right_l1 (N : Nat) (y_346 : Int × Tl01Cur) : Nat → Int → Int → (List Int) → Int → Int → (List Entry) → Option ((List Int) × Int × Int × (List Entry))
 | 0,_,_,_,_,_,_ => none
 | m + 1,x_456,x_457,x_458,x_459,x_460,x_483 =>
 (spec_l01Below N (Tl01Cur.mk x_458 x_459 x_460) 5).bind fun y_513 =>
 (if (decide (x_457 < y_513.1)) = true then
 (spec_l01Below N y_513.2 (w64 ((w64 (y_346.1 - x_456)) + 1))).bind fun y_526 =>
 (spec_l11Right N y_526.2 (w64 (x_456 + y_526.1))).bind fun y_529 =>
 (cat? x_483 ([y_529.1] : List Entry)).bind fun x_530 =>
 spec_l14Right_l1 N y_346 m (w64 (x_456 + y_526.1)) (w64 (x_457 + 1)) y_529.2.b y_529.2.i y_529.2.h x_530
 else
 some (y_513.2.b,y_513.2.i,y_513.2.h,x_483))
def spec_l14Right (N : Nat) (x_1 : Tl01Cur) : Option (Message × Tl01Cur) :=
 (spec_l01Below N x_1 6).bind fun y_344 =>
 (spec_l01Below N y_344.2 4).bind fun y_345 =>
 (spec_l01Below N y_345.2 8).bind fun y_346 =>
 (spec_l01Below N y_346.2 12).bind fun y_347 =>
 (spec_l01Below N y_347.2 5).bind fun y_348 =>
 (spec_l01Below N y_348.2 9).bind fun y_349 =>
 (spec_l01Once N y_349.2 2).bind fun y_350 =>
 (intD .rem .i64 (w64 (1 + y_345.1)) 4).bind fun x_354 =>
 joinP (fun (v_450 : (List Int) × Int × Int × Int × Int × Int × Int × ByteArray × Bool × (List Entry) × (List Int) × (List Entry) × (List Int)) =>
 some ((Message.mk v_450.2.2.2.1 v_450.2.2.2.2.1 v_450.2.2.2.2.2.1 y_346.1 y_347.1 v_450.2.2.2.2.2.2.1 y_349.1 y_350.1 v_450.2.2.2.2.2.2.2.2.2.2.2.1 v_450.2.2.2.2.2.2.2.2.2.2.2.2 v_450.2.2.2.2.2.2.2.1 v_450.2.2.2.2.2.2.2.2.1),(Tl01Cur.mk v_450.1 v_450.2.1 v_450.2.2.1))) fun j_450 =>
 (if ((w64 (1 + y_344.1)) == 3) = true then
 (spec_l01Below N y_350.2 (w64 (y_346.1 + 1))).bind fun y_455 =>
 (spec_l14Right_l1 N y_346 N y_455.1 0 y_455.2.b y_455.2.i y_455.2.h ([] : (List Entry))).bind (fun v_507 => j_450 (v_507.1,v_507.2.1,v_507.2.2.1,(w64 (1 + y_344.1)),(w64 (1 + y_345.1)),(w64 (x_354 + 1)),y_455.1,(⟨#[]⟩ : ByteArray),false,([] : (List Entry)),([] : (List Int)),v_507.2.2.2,([] : (List Int))))
 else
 (if ((w64 (1 + y_344.1)) == 5) = true then
 (spec_l07Conf N y_350.2).bind fun y_535 =>
 (spec_l01Below N y_535.2 9).bind fun y_542 =>
 (spec_l01Text N y_542.2 y_542.1).bind fun y_543 =>
 (spec_l01Once N y_543.2 2).bind fun y_545 =>
 j_450 (y_545.2.b,y_545.2.i,y_545.2.h,w64 (1 + y_344.1),w64 (1 + y_345.1),w64 (x_354 + 1),y_348.1,y_543.1,y_545.1,([] : (List Entry)),([] : (List Int)),([] : (List Entry)),y_535.1)
 else
 j_450 (y_350.2.b,y_350.2.i,y_350.2.h,w64 (1 + y_344.1),w64 (1 + y_345.1),w64 (x_354 + 1),y_348.1,(⟨#[]⟩ : ByteArray),false,([] : (List Entry)),([] : (List Int)),([] : (List Entry)),([] : (List Int)))))
theorem sem_spec_l14Right (N : Nat) (x_1 : Tl01Cur) (r : Message × Tl01Cur) (h : spec_l14Right N x_1 = some r) : Says Try.prog 66 [.ptr 0 0] 1 [(0,.box [RO 5 (x_1.b.map encU),VI x_1.i,VI x_1.h])] (.agg [VI r.1.Kind,VI r.1.From,VI r.1.To,VI r.1.Term,VI r.1.Index,VI r.1.LogTerm,VI r.1.Commit,VB r.1.Ok,.sl 1 51 0 r.1.Entries.length,.sl 2 3 0 r.1.Conf.length,VS r.1.Data,VB r.1.Last]) [(0,.box [RO 5 (r.2.b.map encU),VI r.2.i,VI r.2.h]),(1,.vec 51 (r.1.Entries.map encEntry)),(2,.vec 3 (r.1.Conf.map encI))] := by
 unfold spec_l14Right at h
 refine Says.of_run s66 Try.call66 rfl fun B hB => ?_
 have hm : B.m ≤ 1000 := by omega
 refine Run.seq (Run.ops hm (Ops.st (s := 1000) (.al rfl rfl) rfl rfl (Ops.nil (Run.seq (Run.ops hm (Ops.p rfl ?_))))))
 obtain ⟨y_344,hy_344,h⟩ := bindO h
 refine Ops.st (s := 5112) (Ev.call [0] [] 0 (sem_spec_l01Below _ _ _ _ hy_344) rfl rfl (.cons (.ptr rfl) (.d1 .nil)) rfl (.inl rfl) rfl rfl) rfl rfl (.p2 rfl rfl ?_)
 obtain ⟨y_345,hy_345,h⟩ := bindO h
 refine Ops.st (s := 5160) (Ev.call [0] [] 0 (sem_spec_l01Below _ _ _ _ hy_345) rfl rfl (.cons (.ptr rfl) (.d1 .nil)) rfl (.inl rfl) rfl rfl) rfl rfl (.p2 rfl rfl ?_)
 obtain ⟨y_346,hy_346,h⟩ := bindO h
 refine Ops.st (s := 5208) (Ev.call [0] [] 0 (sem_spec_l01Below _ _ _ _ hy_346) rfl rfl (.cons (.ptr rfl) (.d1 .nil)) rfl (.inl rfl) rfl rfl) rfl rfl (Ops.p rfl ?_)
 obtain ⟨y_347,hy_347,h⟩ := bindO h
 refine Ops.st (s := 5240) (Ev.call [0] [] 0 (sem_spec_l01Below _ _ _ _ hy_347) rfl rfl (.cons (.ptr rfl) (.d1 .nil)) rfl (.inl rfl) rfl rfl) rfl rfl (Ops.p rfl ?_)
 obtain ⟨y_348,hy_348,h⟩ := bindO h
 refine Ops.st (s := 5272) (Ev.call [0] [] 0 (sem_spec_l01Below _ _ _ _ hy_348) rfl rfl (.cons (.ptr rfl) (.d1 .nil)) rfl (.inl rfl) rfl rfl) rfl rfl (Ops.p rfl ?_)
 obtain ⟨y_349,hy_349,h⟩ := bindO h
 refine Ops.st (s := 5304) (Ev.call [0] [] 0 (sem_spec_l01Below _ _ _ _ hy_349) rfl rfl (.cons (.ptr rfl) (.d1 .nil)) rfl (.inl rfl) rfl rfl) rfl rfl (Ops.p rfl ?_)
 obtain ⟨y_350,hy_350,h⟩ := bindO h
 refine Ops.st (s := 5336) (Ev.call [0] [] 0 (sem_spec_l01Once _ _ _ _ hy_350) rfl rfl (.cons (.ptr rfl) (.d1 .nil)) rfl (.inl rfl) rfl rfl) rfl rfl (Ops.st (s := 5352) (.bd rfl rfl) rfl rfl (Ops.st (s := 5368) (.al rfl rfl) rfl rfl (Ops.s0 (s := 5384) (.sto rfl rfl rfl rfl rfl rfl) rfl rfl (Ops.nil (Run.seq (Run.ops hm (.p2 rfl rfl ?_)))))))
 obtain ⟨x_354,hx_354,h⟩ := bindO h
 refine Ops.st (s := 9224) (.bin rfl rfl hx_354) rfl rfl (.p2 rfl rfl (Ops.s0 (s := 9272) (.sto rfl rfl rfl rfl rfl rfl) rfl rfl (Ops.nil (Run.seqO h (fun v_450 => [(2,.ptr 1 0),(3,.ptr 2 0)]) (fun (v_450 : (List Int) × Int × Int × Int × Int × Int × Int × ByteArray × Bool × (List Entry) × (List Int) × (List Entry) × (List Int)) => [(0,.box [RO 5 (v_450.1.map encU),VI v_450.2.1,VI v_450.2.2.1]),(1,.box [VI 0,VI 0,VI 0,VI 0,VI 0,VI 0,VI 0,VB false,.sl 3 51 0 v_450.2.2.2.2.2.2.2.2.2.1.length,.sl 4 3 0 v_450.2.2.2.2.2.2.2.2.2.2.1.length,VS (⟨#[]⟩ : ByteArray),VB false]),(2,.box [VI v_450.2.2.2.1,VI v_450.2.2.2.2.1,VI v_450.2.2.2.2.2.1,VI y_346.1,VI y_347.1,VI v_450.2.2.2.2.2.2.1,VI y_349.1,VB y_350.1,.sl 5 51 0 v_450.2.2.2.2.2.2.2.2.2.2.2.1.length,.sl 6 3 0 v_450.2.2.2.2.2.2.2.2.2.2.2.2.length,VS v_450.2.2.2.2.2.2.2.1,VB v_450.2.2.2.2.2.2.2.2.1]),(3,.vec 51 (v_450.2.2.2.2.2.2.2.2.2.1.map encEntry)),(4,.vec 3 (v_450.2.2.2.2.2.2.2.2.2.2.1.map encI)),(5,.vec 51 (v_450.2.2.2.2.2.2.2.2.2.2.2.1.map encEntry)),(6,.vec 3 (v_450.2.2.2.2.2.2.2.2.2.2.2.2.map encI))]) (fun h => ?_) (fun v_450 h => ?_)))))
 ·refine Run.seq (Run.ops hm (.p2 rfl rfl (Ops.nil (Run.block (Run.seq (Run.ops hm (.p2 rfl rfl (Ops.nil (Run.condO rfl h (fun g_451 h => ?_) (fun g_451 h => ?_))))))))))
  ·refine Run.seq (Run.ops hm (.p3 rfl rfl rfl (Ops.p rfl ?_)))
   obtain ⟨y_455,hy_455,h⟩ := bindO h
   refine Ops.st (s := 21544) (Ev.call [0] [] 0 (sem_spec_l01Below _ _ _ _ hy_455) rfl rfl (.cons (.ptr rfl) (.d1 .nil)) rfl (.inl rfl) rfl rfl) rfl rfl (Ops.p rfl (Ops.s0 (s := 21576) (.sto rfl rfl rfl rfl rfl rfl) rfl rfl (Ops.nil (Run.seq (Run.ops hm (.p3 rfl rfl rfl (Ops.nil (Run.seq (Run.ops hm (Ops.p rfl (Ops.nil (Run.block ?_))))))))))))
   obtain ⟨res_507,h,hk_507⟩ := bindO h
   refine Run.loop (n := N) (fun m_507 fr σ => ∃ (x_456 : Int),∃ (x_457 : Int),∃ (x_458 : (List Int)),∃ (x_459 : Int),∃ (x_460 : Int),∃ (x_483 : (List Entry)),spec_l14Right_l1 N y_346 m_507 x_456 x_457 x_458 x_459 x_460 x_483 = some res_507 ∧ fr = [(0,.ptr 0 0),(2,.ptr 1 0),(3,.ptr 2 0),(4,VI x_456),(5,VI x_457)] ∧ σ = [(0,.box [RO 5 (x_458.map encU),VI x_459,VI x_460]),(1,.box [VI 0,VI 0,VI 0,VI 0,VI 0,VI 0,VI 0,VB false,.sl 3 51 0 (([] : (List Entry)).length),.sl 4 3 0 (([] : (List Int)).length),VS (⟨#[]⟩ : ByteArray),VB false]),(2,.box [VI (w64 (1 + y_344.1)),VI (w64 (1 + y_345.1)),VI (w64 (x_354 + 1)),VI y_346.1,VI y_347.1,VI y_455.1,VI y_349.1,VB y_350.1,.sl 5 51 0 x_483.length,.sl 6 3 0 (([] : (List Int)).length),VS (⟨#[]⟩ : ByteArray),VB false]),(3,.vec 51 (([] : (List Entry)).map encEntry)),(4,.vec 3 (([] : (List Int)).map encI)),(5,.vec 51 (x_483.map encEntry)),(6,.vec 3 (([] : (List Int)).map encI))]) (Gh.trans (Gh.trans (gh_prn [0,2,3,4,5] [0,1000,5368] hB rfl) (gh_nil [] [1000,5368] hB rfl rfl rfl)) (gh_pk [0,2,3,4,5] [0,1000,5368,20000000,20000001,20000064,20000065] hB rfl rfl rfl rfl)) ⟨_,_,_,_,_,_,h,rfl,rfl⟩ ?_
   rintro m_507 fr σ ⟨x_456,x_457,x_458,x_459,x_460,x_483,h,rfl,rfl⟩
   obtain _ | m_507 := m_507
   ·rw [spec_l14Right_l1] at h; cases h
   rw [spec_l14Right_l1] at h
   refine Run.seq (Run.seq (Run.ops hm (.p2 rfl rfl ?_)))
   obtain ⟨y_513,hy_513,h⟩ := bindO h
   refine Ops.st (s := 33800) (Ev.call [0] [] 0 (sem_spec_l01Below _ _ _ _ hy_513) rfl rfl (.cons (.ptr rfl) (.d1 .nil)) rfl (.inl rfl) rfl rfl) rfl rfl (Ops.p rfl (Ops.nil (Run.condO rfl h (fun g_514 h => ?_) (fun g_514 h => ?_))))
   ·refine Run.skip (Run.seq (Run.block (Run.seq (Run.ops hm (.p3 rfl rfl rfl (.p3 rfl rfl rfl (Ops.p rfl ?_)))))))
    obtain ⟨y_526,hy_526,h⟩ := bindO h
    refine Ops.st (s := 42072) (Ev.call [0] [] 0 (sem_spec_l01Below _ _ _ _ hy_526) rfl rfl (.cons (.ptr rfl) (.d1 .nil)) rfl (.inl rfl) rfl rfl) rfl rfl (.p2 rfl rfl (Ops.nil (Run.draw hm hmix (OpsD.p rfl (OpsD.p rfl (OpsD.p rfl (OpsD.p rfl ?_)))))))
    obtain ⟨y_529,hy_529,h⟩ := bindO h
    refine OpsD.st (s := 46120) (Ev.call [0] [] 0 (sem_spec_l11Right _ _ _ _ hy_529) rfl rfl (.cons (.ptr rfl) (.d1 .nil)) rfl (.inl rfl) rfl rfl) rfl rfl (OpsD.st (s := 46136) (Ev.bsW (ys := ([y_529.1] : List Entry)) (f := encEntry) rfl (.d2 (.d1 .nil)) rfl rfl rfl rfl rfl) rfl rfl ?_)
    obtain ⟨x_530,hx_530,h⟩ := bindO h
    refine OpsD.st (s := 46152) (Ev.apW (f := encEntry) (ontoW rfl rfl rfl) (addsW rfl rfl rfl (fun _ => rfl)) rfl bt51 rfl hx_530) rfl rfl (OpsD.p rfl (OpsD.s0 (s := 46184) (.sto rfl rfl rfl rfl rfl rfl) rfl rfl (OpsD.nil ⟨by kernel_rfl,?_⟩)))
    exact Run.ops hm (.p3 rfl rfl rfl (Ops.nil (⟨m_507,Nat.lt_succ_self m_507,_,_,(gh_pk [0,2,3,4,5] [0,1,2,3,4,46152,6] hB rfl rfl rfl rfl),_,_,_,_,_,_,h,rfl,rfl⟩)))
   ·refine Run.exit ?_
    obtain rfl := someO h
    have h := hk_507
    exact ⟨_,_,(gh_pk [2,3] [0,1,2,3,4,5,6] hB rfl rfl rfl rfl),_,h,rfl,rfl⟩
  ·refine Run.seq (Run.ops hm (.p2 rfl rfl (Ops.nil (Run.condO rfl h (fun g_531 h => ?_) (fun g_531 h => ?_)))))
   ·refine Run.seq (Run.ops hm (Ops.p rfl ?_))
    obtain ⟨y_535,hy_535,h⟩ := bindO h
    refine Ops.st (s := 54264) (Ev.call [0] [] 1 (sem_spec_l07Conf _ _ _ hy_535) rfl rfl (.cons (.ptr rfl) .nil) rfl (.inl rfl) rfl rfl) rfl rfl (Ops.p rfl (Ops.s0 (s := 54296) (.sto rfl rfl rfl rfl rfl rfl) rfl rfl (Ops.nil (Run.seq (Run.ops hm (.p2 rfl rfl ?_))))))
    obtain ⟨y_542,hy_542,h⟩ := bindO h
    refine Ops.st (s := 58376) (Ev.call [0] [] 0 (sem_spec_l01Below _ _ _ _ hy_542) rfl rfl (.cons (.ptr rfl) (.d1 .nil)) rfl (.inl rfl) rfl rfl) rfl rfl ?_
    obtain ⟨y_543,hy_543,h⟩ := bindO h
    refine Ops.st (s := 58392) (Ev.call [0] [] 0 (sem_spec_l01Text _ _ _ _ hy_543) rfl rfl (.cons (.ptr rfl) (.d1 .nil)) rfl (.inl rfl) rfl rfl) rfl rfl (Ops.p rfl (Ops.s0 (s := 58424) (.sto rfl rfl rfl rfl rfl rfl) rfl rfl (Ops.nil (Run.ops hm (Ops.p rfl ?_)))))
    obtain ⟨y_545,hy_545,h⟩ := bindO h
    exact Ops.st (s := 62456) (Ev.call [0] [] 0 (sem_spec_l01Once _ _ _ _ hy_545) rfl rfl (.cons (.ptr rfl) (.d1 .nil)) rfl (.inl rfl) rfl rfl) rfl rfl (Ops.p rfl (Ops.s0 (s := 62488) (.sto rfl rfl rfl rfl rfl rfl) rfl rfl (Ops.nil (⟨_,_,(Gh.trans (Gh.trans (gh_prn [2,3] [0,1000,5368,54264] hB rfl) (gh_nil [] [1000,5368] hB rfl rfl rfl)) (gh_pk [2,3] [0,1000,5368,20000000,20000001,20000064,54264] hB rfl rfl rfl rfl)),_,h,rfl,rfl⟩))))
   ·exact Run.skip (⟨_,_,(Gh.trans (Gh.trans (gh_prn [2,3] [0,1000,5368] hB rfl) (gh_nil [] [1000,5368] hB rfl rfl rfl)) (gh_pk [2,3] [0,1000,5368,20000000,20000001,20000064,20000065] hB rfl rfl rfl rfl)),_,h,rfl,rfl⟩)
 ·refine Run.seq (Run.ops hm (Ops.p rfl (Ops.s0 (s := 66552) (.sto rfl rfl rfl rfl rfl rfl) rfl rfl (Ops.nil (Run.ret ?_)))))
  obtain rfl := someO h
  exact Ends.mkG (.inl rfl) rfl (gh_pk [0] [0,5,6] hB rfl rfl rfl rfl) rfl rfl
def spec_DrawRightNode (N : Nat) (x_1 : (List Int)) : Option (Node × Message) :=
 (spec_l01New N x_1).bind fun y_159 =>
 (spec_l16Steps N x_1).bind fun y_166 =>
 (spec_l16Play N y_159 y_166).bind fun y_167 =>
 (spec_l01Below N y_167.2 4).bind fun y_171 =>
 (spec_l14Right N y_171.2).bind fun y_175 =>
 joinP (fun (v_189 : Int × Int × Int × Int × Int × Int × Int × Int × Bool × (List Entry) × (List Int) × ByteArray × Bool) =>
 joinP (fun (v_206 : Int) =>
 (at? y_167.1.nodes v_189.1).bind fun x_211 =>
 some (x_211,(Message.mk v_189.2.1 v_206 (w64 (v_189.1 + 1)) v_189.2.2.2.2.1 v_189.2.2.2.2.2.1 v_189.2.2.2.2.2.2.1 v_189.2.2.2.2.2.2.2.1 v_189.2.2.2.2.2.2.2.2.1 v_189.2.2.2.2.2.2.2.2.2.1 v_189.2.2.2.2.2.2.2.2.2.2.1 v_189.2.2.2.2.2.2.2.2.2.2.2.1 v_189.2.2.2.2.2.2.2.2.2.2.2.2))) fun j_206 =>
 (if (v_189.2.2.1 == (w64 (v_189.1 + 1))) = true then
 (intD .rem .i64 (w64 (v_189.1 + 1)) 4).bind fun x_209 =>
 j_206 (w64 (x_209 + 1))
 else
 j_206 v_189.2.2.1)) fun j_189 =>
 (if (decide (((y_167.1.net.length : Nat) : Int) > 0)) = true then
 (spec_l01Once N y_175.2 3).bind fun y_193 =>
 (if (!y_193.1) = true then
 (spec_l01Below N y_193.2 ((y_167.1.net.length : Nat) : Int)).bind fun y_201 =>
 (at? y_167.1.net y_201.1).bind fun x_202 =>
 j_189 (w64 (x_202.To - 1),x_202.Kind,x_202.From,x_202.To,x_202.Term,x_202.Index,x_202.LogTerm,x_202.Commit,x_202.Ok,x_202.Entries,x_202.Conf,x_202.Data,x_202.Last)
 else
 j_189 (y_171.1,y_175.1.Kind,y_175.1.From,y_175.1.To,y_175.1.Term,y_175.1.Index,y_175.1.LogTerm,y_175.1.Commit,y_175.1.Ok,y_175.1.Entries,y_175.1.Conf,y_175.1.Data,y_175.1.Last))
 else
 j_189 (y_171.1,y_175.1.Kind,y_175.1.From,y_175.1.To,y_175.1.Term,y_175.1.Index,y_175.1.LogTerm,y_175.1.Commit,y_175.1.Ok,y_175.1.Entries,y_175.1.Conf,y_175.1.Data,y_175.1.Last))
theorem sem_spec_DrawRightNode (N : Nat) (x_1 : (List Int)) (r : Node × Message) (h : spec_DrawRightNode N x_1 = some r) : Says Try.prog 20 [RO 5 (x_1.map encU)] 0 [] (.tup [.agg [VI r.1.Id,VI r.1.Term,VI r.1.Vote,VI r.1.Role,VI r.1.Lead,RO 3 (r.1.Conf.map encI),VI r.1.Log.Start,VI r.1.Log.StartTerm,RO 51 (r.1.Log.Entries.map encEntry),VI r.1.Commit,VI r.1.Clock,VI r.1.Limit,RO 3 (r.1.Votes.map encI),RO 135 (r.1.Peers.map encPeer)],.agg [VI r.2.Kind,VI r.2.From,VI r.2.To,VI r.2.Term,VI r.2.Index,VI r.2.LogTerm,VI r.2.Commit,VB r.2.Ok,RO 51 (r.2.Entries.map encEntry),RO 3 (r.2.Conf.map encI),VS r.2.Data,VB r.2.Last]]) [] := by
 unfold spec_DrawRightNode at h
 refine Says.of_run s20 Try.call20 rfl fun B hB => ?_
 have hm : B.m ≤ 1000 := by omega
 refine Run.seq (Run.ops hm (Ops.st (s := 1000) (.al rfl rfl) rfl rfl (Ops.st (s := 1016) (.al rfl rfl) rfl rfl (Ops.nil (Run.seq (Run.ops hm (Ops.p rfl ?_)))))))
 obtain ⟨y_159,hy_159,h⟩ := bindO h
 refine Ops.st (s := 5112) (Ev.call [] [] 1 (sem_spec_l01New _ _ _ hy_159) rfl rfl (.d1 .nil) rfl (.inl rfl) rfl rfl) rfl rfl (Ops.p rfl (Ops.nil (Run.seq (Run.ops hm (.p2 rfl rfl ?_)))))
 obtain ⟨y_166,hy_166,h⟩ := bindO h
 refine Ops.st (s := 9224) (Ev.call [] [] 0 (sem_spec_l16Steps _ _ _ hy_166) rfl rfl (.d1 .nil) rfl (.inl rfl) rfl rfl) rfl rfl ?_
 obtain ⟨y_167,hy_167,h⟩ := bindO h
 refine Ops.st (s := 9240) (Ev.call [5112] [] 3 (sem_spec_l16Play _ _ _ _ hy_167) rfl rfl (.cons (.ptr rfl) (.d1 .nil)) rfl (.inl rfl) rfl rfl) rfl rfl (Ops.p rfl (Ops.nil (Run.seq (Run.ops hm (Ops.p rfl ?_)))))
 obtain ⟨y_171,hy_171,h⟩ := bindO h
 refine Ops.st (s := 13304) (Ev.call [5112] [] 0 (sem_spec_l01Below _ _ _ _ hy_171) rfl rfl (.cons (.ptr rfl) (.d1 .nil)) rfl (.inl rfl) rfl rfl) rfl rfl (Ops.p rfl (Ops.nil (Run.seq (Run.ops hm (Ops.p rfl ?_)))))
 obtain ⟨y_175,hy_175,h⟩ := bindO h
 refine Ops.st (s := 17400) (Ev.call [5112] [] 2 (sem_spec_l14Right _ _ _ hy_175) rfl rfl (.cons (.ptr rfl) .nil) rfl (.inl rfl) rfl rfl) rfl rfl (Ops.st (s := 17416) (.al rfl rfl) rfl rfl (Ops.s0 (s := 17432) (.sto rfl rfl rfl rfl rfl rfl) rfl rfl (Ops.nil (Run.seqO h (fun v_189 => [(2,.ptr 0 0),(3,.ptr 1 0),(5,.ptr 2 0),(6,VI v_189.1),(7,.ptr 3 0)]) (fun (v_189 : Int × Int × Int × Int × Int × Int × Int × Int × Bool × (List Entry) × (List Int) × ByteArray × Bool) => [(0,.box [VI 0,VI 0,VI 0,VI 0,VI 0,RO 3 (([] : List Int).map encI),VI 0,VI 0,RO 51 (([] : List Entry).map encEntry),VI 0,VI 0,VI 0,RO 3 (([] : List Int).map encI),RO 135 (([] : List Peer).map encPeer)]),(1,.box [VI 0,VI 0,VI 0,VI 0,VI 0,VI 0,VI 0,VB false,RO 51 (([] : List Entry).map encEntry),RO 3 (([] : List Int).map encI),VS (⟨#[]⟩ : ByteArray),VB false]),(2,.box [.sl 4 56 0 y_167.1.nodes.length,.sl 5 58 0 y_167.1.net.length]),(3,.box [VI v_189.2.1,VI v_189.2.2.1,VI v_189.2.2.2.1,VI v_189.2.2.2.2.1,VI v_189.2.2.2.2.2.1,VI v_189.2.2.2.2.2.2.1,VI v_189.2.2.2.2.2.2.2.1,VB v_189.2.2.2.2.2.2.2.2.1,RO 51 (v_189.2.2.2.2.2.2.2.2.2.1.map encEntry),RO 3 (v_189.2.2.2.2.2.2.2.2.2.2.1.map encI),VS v_189.2.2.2.2.2.2.2.2.2.2.2.1,VB v_189.2.2.2.2.2.2.2.2.2.2.2.2]),(4,.vec 56 (y_167.1.nodes.map (encNode false))),(5,.vec 58 (y_167.1.net.map (encMessage false)))]) (fun h => ?_) (fun v_189 h => ?_)))))
 ·refine Run.seq (Run.ops hm (.p3 rfl rfl rfl (.p3 rfl rfl rfl (Ops.p rfl (Ops.askO (x := .t 24) rfl h (fun g_192 h => ?_) (fun g_192 h => ?_))))))
  ·refine Ops.gp rfl g_192 rfl ?_
   obtain ⟨y_193,hy_193,h⟩ := bindO h
   refine Ops.gs (s := 21608) rfl g_192 (Ev.call [5112] [] 0 (sem_spec_l01Once _ _ _ _ hy_193) rfl rfl (.cons (.ptr rfl) (.d1 .nil)) rfl (.inl rfl) rfl rfl) rfl rfl (Ops.gp rfl g_192 rfl (Ops.st (s := 21640) (.pkT rfl g_192 rfl) rfl rfl (Ops.nil (Run.condO rfl h (fun g_194 h => ?_) (fun g_194 h => ?_)))))
   ·refine Run.seq (Run.draw hm hmix (OpsD.p rfl (OpsD.p rfl (OpsD.p rfl (OpsD.p rfl (OpsD.p rfl (OpsD.p rfl (OpsD.p rfl (OpsD.p rfl (OpsD.p rfl (OpsD.p rfl ?_)))))))))))
    obtain ⟨y_201,hy_201,h⟩ := bindO h
    refine OpsD.st (s := 25736) (Ev.call [5112] [] 0 (sem_spec_l01Below _ _ _ _ hy_201) rfl rfl (.cons (.ptr rfl) (.d1 .nil)) rfl (.inl rfl) rfl rfl) rfl rfl ?_
    obtain ⟨x_202,hx_202,h⟩ := bindO h
    refine OpsD.st (s := 25752) (Ev.iaW rfl rfl rfl hx_202) rfl rfl (OpsD.st (s := 25768) (Ev.ldE (f := (encMessage false)) rfl rfl (at_some hx_202).2 rfl rfl rfl) rfl rfl (OpsD.s0 (s := 25784) (.sto rfl rfl rfl rfl rfl rfl) rfl rfl (OpsD.nil ⟨by kernel_rfl,?_⟩)))
    exact Run.ops hm (.p3 rfl rfl rfl (Ops.p rfl (Ops.nil (⟨_,_,(Gh.trans (Gh.trans (gh_prn [2,3,5,6,7] [1000,1016,9240,17416,9241,9242] hB rfl) (gh_ro [2,3,5,6,7] [1000,1016,17416] [] [1001000,1001016,1017416] rfl)) (gh_pk [2,3,5,6,7] [1000,1016,9240,17416,9241,9242] hB rfl rfl (by first | rfl | (simp only [List.length_set,takeMap,List.drop_zero,List.map_nil]; done) | (simp only [List.length_set,takeMap,List.drop_zero,List.map_nil]; rfl)) (by first | rfl | (simp only [List.length_set,takeMap,List.drop_zero,List.map_nil]; done) | (simp only [List.length_set,takeMap,List.drop_zero,List.map_nil]; rfl)))),_,h,rfl,rfl⟩))))
   ·exact Run.skip (⟨_,_,(Gh.trans (Gh.trans (Gh.trans (Gh.trans ((Gh.frz (f := encEntry) (g := encEntry) (xs := y_175.1.Entries) 17400 (fun _ => rfl) rfl)) ((Gh.frz (f := encI) (g := encI) (xs := y_175.1.Conf) 17401 (fun _ => rfl) rfl))) (gh_prn [2,3,5,6,7] [1000,1016,9240,17416,9241,9242,17400,17401] hB rfl)) (gh_ro [2,3,5,6,7] [1000,1016,17416] [17400,17401] [1001000,1001016,1017416] rfl)) (gh_pk [2,3,5,6,7] [1000,1016,9240,17416,9241,9242] hB rfl rfl (by first | rfl | (simp only [List.length_set,takeMap,List.drop_zero,List.map_nil]; done) | (simp only [List.length_set,takeMap,List.drop_zero,List.map_nil]; rfl)) (by first | rfl | (simp only [List.length_set,takeMap,List.drop_zero,List.map_nil]; done) | (simp only [List.length_set,takeMap,List.drop_zero,List.map_nil]; rfl)))),_,h,rfl,rfl⟩)
  ·exact Ops.gn rfl g_192 (Ops.gn rfl g_192 (Ops.gn rfl g_192 (Ops.st (s := 21640) (.pkF rfl g_192 rfl) rfl rfl (Ops.nil (Run.condF rfl rfl (Run.skip (⟨_,_,(Gh.trans (Gh.trans (Gh.trans (Gh.trans ((Gh.frz (f := encEntry) (g := encEntry) (xs := y_175.1.Entries) 17400 (fun _ => rfl) rfl)) ((Gh.frz (f := encI) (g := encI) (xs := y_175.1.Conf) 17401 (fun _ => rfl) rfl))) (gh_prn [2,3,5,6,7] [1000,1016,9240,17416,9241,9242,17400,17401] hB rfl)) (gh_ro [2,3,5,6,7] [1000,1016,17416] [17400,17401] [1001000,1001016,1017416] rfl)) (gh_pk [2,3,5,6,7] [1000,1016,9240,17416,9241,9242] hB rfl rfl (by first | rfl | (simp only [List.length_set,takeMap,List.drop_zero,List.map_nil]; done) | (simp only [List.length_set,takeMap,List.drop_zero,List.map_nil]; rfl)) (by first | rfl | (simp only [List.length_set,takeMap,List.drop_zero,List.map_nil]; done) | (simp only [List.length_set,takeMap,List.drop_zero,List.map_nil]; rfl)))),_,h,rfl,rfl⟩)))))))
 ·refine Run.seq (Run.ops hm (.p3 rfl rfl rfl (Ops.s0 (s := 33816) (.sto rfl rfl rfl rfl rfl rfl) rfl rfl (Ops.nil (Run.seqO h (fun v_206 => [(2,.ptr 0 0),(3,.ptr 1 0),(5,.ptr 2 0),(6,VI v_189.1),(7,.ptr 3 0)]) (fun (v_206 : Int) => [(0,.box [VI 0,VI 0,VI 0,VI 0,VI 0,RO 3 (([] : List Int).map encI),VI 0,VI 0,RO 51 (([] : List Entry).map encEntry),VI 0,VI 0,VI 0,RO 3 (([] : List Int).map encI),RO 135 (([] : List Peer).map encPeer)]),(1,.box [VI 0,VI 0,VI 0,VI 0,VI 0,VI 0,VI 0,VB false,RO 51 (([] : List Entry).map encEntry),RO 3 (([] : List Int).map encI),VS (⟨#[]⟩ : ByteArray),VB false]),(2,.box [.sl 4 56 0 y_167.1.nodes.length,.sl 5 58 0 y_167.1.net.length]),(3,.box [VI v_189.2.1,VI v_206,VI (w64 (v_189.1 + 1)),VI v_189.2.2.2.2.1,VI v_189.2.2.2.2.2.1,VI v_189.2.2.2.2.2.2.1,VI v_189.2.2.2.2.2.2.2.1,VB v_189.2.2.2.2.2.2.2.2.1,RO 51 (v_189.2.2.2.2.2.2.2.2.2.1.map encEntry),RO 3 (v_189.2.2.2.2.2.2.2.2.2.2.1.map encI),VS v_189.2.2.2.2.2.2.2.2.2.2.2.1,VB v_189.2.2.2.2.2.2.2.2.2.2.2.2]),(4,.vec 56 (y_167.1.nodes.map (encNode false))),(5,.vec 58 (y_167.1.net.map (encMessage false)))]) (fun h => ?_) (fun v_206 h => ?_))))))
  ·refine Run.seq (Run.ops hm (.p3 rfl rfl rfl (.p2 rfl rfl (Ops.nil (Run.condO rfl h (fun g_207 h => ?_) (fun g_207 h => ?_))))))
   ·refine Run.ops hm (.p2 rfl rfl ?_)
    obtain ⟨x_209,hx_209,h⟩ := bindO h
    exact Ops.st (s := 41992) (.bin rfl rfl hx_209) rfl rfl (.p2 rfl rfl (Ops.s0 (s := 42040) (.sto rfl rfl rfl rfl rfl rfl) rfl rfl (Ops.nil (⟨_,_,(gh_pk [2,3,5,6,7] [0,1,2,3,4,5] hB rfl rfl rfl rfl),_,h,rfl,rfl⟩))))
   ·exact Run.skip (⟨_,_,(gh_pk [2,3,5,6,7] [0,1,2,3,4,5] hB rfl rfl rfl rfl),_,h,rfl,rfl⟩)
  ·refine Run.seq (Run.draw hm hmix (OpsD.p rfl (OpsD.p rfl (OpsD.p rfl (OpsD.p rfl (OpsD.p rfl ?_))))))
   obtain ⟨x_211,hx_211,h⟩ := bindO h
   refine OpsD.st (s := 46136) (Ev.iaW rfl rfl rfl hx_211) rfl rfl (OpsD.st (s := 46152) (Ev.ldE (f := (encNode false)) rfl rfl (at_some hx_211).2 rfl rfl rfl) rfl rfl (OpsD.p rfl (OpsD.s0 (s := 46184) (.sto rfl rfl rfl rfl rfl rfl) rfl rfl (OpsD.s0 (s := 46200) (.sto rfl rfl rfl rfl rfl rfl) rfl rfl (OpsD.nil ⟨by kernel_rfl,?_⟩)))))
   refine Run.ret ?_
   obtain rfl := someO h
   exact Ends.mkG (.inl rfl) rfl (gh_pk [0,1] [] hB rfl rfl rfl rfl) rfl rfl
def spec_DrawPlaces_l1 (N : Nat) : Nat → Int → (List Int) → Int → Int → (List Int) → Option ((List Int))
 | 0,_,_,_,_,_ => none
 | m + 1,x_199,x_200,x_201,x_202,x_203 =>
 (if (decide (x_199 < 12)) = true then
 (spec_l01Below N (Tl01Cur.mk x_200 x_201 x_202) 10000).bind fun y_224 =>
 (cat? x_203 ([y_224.1] : List Int)).bind fun x_225 =>
 spec_DrawPlaces_l1 N m (w64 (x_199 + 1)) y_224.2.b y_224.2.i y_224.2.h x_225
 else
 some x_203)
def spec_DrawPlaces (N : Nat) (x_1 : (List Int)) : Option ((List Int)) :=
 (spec_l01New N x_1).bind fun y_166 =>
 (spec_l01Byte N y_166).bind fun y_170 =>
 joinP (fun (v_198 : (List Int)) =>
 some v_198) fun j_198 =>
 (spec_DrawPlaces_l1 N N 0 y_170.2.b y_170.2.i y_170.2.h ([] : List Int)).bind (fun v_214 => j_198 v_214)
theorem sem_spec_DrawPlaces (N : Nat) (x_1 : (List Int)) (r : (List Int)) (h : spec_DrawPlaces N x_1 = some r) : Says Try.prog 16 [RO 5 (x_1.map encU)] 0 [] (.sl 0 3 0 r.length) [(0,.vec 3 (r.map encI))] := by
 unfold spec_DrawPlaces at h
 refine Says.of_run s16 Try.call16 rfl fun B hB => ?_
 have hm : B.m ≤ 1000 := by omega
 refine Run.seq (Run.ops hm (Ops.p rfl (Ops.nil (Run.seq (Run.ops hm (Ops.p rfl ?_))))))
 obtain ⟨y_166,hy_166,h⟩ := bindO h
 refine Ops.st (s := 5112) (Ev.call [] [] 1 (sem_spec_l01New _ _ _ hy_166) rfl rfl (.d1 .nil) rfl (.inl rfl) rfl rfl) rfl rfl (Ops.p rfl (Ops.nil (Run.seq (Run.ops hm (Ops.p rfl ?_)))))
 obtain ⟨y_170,hy_170,h⟩ := bindO h
 refine Ops.st (s := 9208) (Ev.call [5112] [] 0 (sem_spec_l01Byte _ _ _ hy_170) rfl rfl (.cons (.ptr rfl) .nil) rfl (.inl rfl) rfl rfl) rfl rfl (Ops.nil (Run.seq (Run.ops hm (Ops.st (s := 13288) (Ev.bsW (ys := ([] : List Int)) (f := encI) rfl .nil rfl rfl rfl rfl rfl) rfl rfl (Ops.p rfl (Ops.nil (Run.seqO h (fun v_198 => [(4,.sl 0 3 0 v_198.length)]) (fun (v_198 : (List Int)) => [(0,.vec 3 (v_198.map encI))]) (fun h => ?_) (fun v_198 h => ?_))))))))
 ·refine Run.seq (Run.ops hm (Ops.p rfl (Ops.nil (Run.block ?_))))
  obtain ⟨res_214,h,hk_214⟩ := bindO h
  refine Run.loop (n := N) (fun m_214 fr σ => ∃ (x_199 : Int),∃ (x_200 : (List Int)),∃ (x_201 : Int),∃ (x_202 : Int),∃ (x_203 : (List Int)),spec_DrawPlaces_l1 N m_214 x_199 x_200 x_201 x_202 x_203 = some res_214 ∧ fr = [(3,.ptr 0 0),(4,.sl 1 3 0 x_203.length),(5,VI x_199)] ∧ σ = [(0,.box [RO 5 (x_200.map encU),VI x_201,VI x_202]),(1,.vec 3 (x_203.map encI))]) (gh_pk [3,4,5] [5112,13288] hB rfl rfl rfl rfl) ⟨_,_,_,_,_,h,rfl,rfl⟩ ?_
  rintro m_214 fr σ ⟨x_199,x_200,x_201,x_202,x_203,h,rfl,rfl⟩
  obtain _ | m_214 := m_214
  ·rw [spec_DrawPlaces_l1] at h; cases h
  rw [spec_DrawPlaces_l1] at h
  refine Run.seq (Run.seq (Run.ops hm (.p2 rfl rfl (Ops.nil (Run.condO rfl h (fun g_217 h => ?_) (fun g_217 h => ?_))))))
  ·refine Run.skip (Run.seq (Run.block (Run.ops hm (.p2 rfl rfl ?_))))
   obtain ⟨y_224,hy_224,h⟩ := bindO h
   refine Ops.st (s := 29704) (Ev.call [0] [] 0 (sem_spec_l01Below _ _ _ _ hy_224) rfl rfl (.cons (.ptr rfl) (.d1 .nil)) rfl (.inl rfl) rfl rfl) rfl rfl (Ops.st (s := 29720) (Ev.bsW (ys := ([y_224.1] : List Int)) (f := encI) rfl (.d1 .nil) rfl rfl rfl rfl rfl) rfl rfl ?_)
   obtain ⟨x_225,hx_225,h⟩ := bindO h
   exact Ops.st (s := 29736) (Ev.apW (f := encI) (ontoW rfl rfl rfl) (addsW rfl rfl rfl (fun _ => rfl)) rfl bt3 rfl hx_225) rfl rfl (Ops.p rfl (Ops.nil (Run.ops hm (.p3 rfl rfl rfl (Ops.nil (⟨m_214,Nat.lt_succ_self m_214,_,_,(gh_pk [3,4,5] [0,29736] hB rfl rfl rfl rfl),_,_,_,_,_,h,rfl,rfl⟩))))))
  ·refine Run.exit ?_
   obtain rfl := someO h
   have h := hk_214
   exact ⟨_,_,(gh_pk [4] [1] hB rfl rfl rfl rfl),_,h,rfl,rfl⟩
 ·refine Run.seq (Run.ops hm (.p2 rfl rfl (Ops.nil (Run.ret ?_))))
  obtain rfl := someO h
  exact Ends.mkG (.inl rfl) rfl (gh_pk [0] [0] hB rfl rfl rfl rfl) rfl rfl
def impl_within (N : Nat) (x_1 : Int) (x_2 : Int) (x_3 : Int) : Option (Bool) :=
 (if (decide (x_1 ≥ x_2)) = true then
 some (decide (x_1 ≤ x_3))
 else
 some false)
theorem sem_impl_within (N : Nat) (x_1 : Int) (x_2 : Int) (x_3 : Int) (r : Bool) (h : impl_within N x_1 x_2 x_3 = some r) : Says Try.prog 50 [VI x_1,VI x_2,VI x_3] 0 [] (VB r) [] := by
 unfold impl_within at h
 refine Says.of_run s50 Try.call50 rfl fun B hB => ?_
 have hm : B.m ≤ 1000 := by omega
 refine Run.seq (Run.ops hm (Ops.p rfl (Ops.nil (Run.seq (Run.ops hm (.p3 rfl rfl rfl (Ops.p rfl (Ops.askO (x := .t 10) rfl h (fun g_103 h => ?_) (fun g_103 h => ?_)))))))))
 ·refine Ops.gp rfl g_103 rfl (Ops.gp rfl g_103 rfl (Ops.gp rfl g_103 rfl (Ops.st (s := 5208) (.pkT rfl g_103 rfl) rfl rfl (Ops.p rfl (Ops.nil (Run.ret ?_))))))
  obtain rfl := someO h
  exact Ends.mkG (.inl rfl) rfl (gh_pk [0] [] hB rfl rfl rfl rfl) rfl rfl
 ·refine Ops.gn rfl g_103 (Ops.gn rfl g_103 (Ops.gn rfl g_103 (Ops.st (s := 5208) (.pkF rfl g_103 rfl) rfl rfl (Ops.p rfl (Ops.nil (Run.ret ?_))))))
  obtain rfl := someO h
  exact Ends.mkG (.inl rfl) rfl (gh_pk [0] [] hB rfl rfl rfl rfl) rfl rfl
def impl_ConfOk_l1 (N : Nat) (x_1 : (List Int)) : Nat → Int → Option ((Bool) ⊕ (Unit))
 | 0,_ => none
 | m + 1,x_218 =>
 (if (decide (x_218 < (x_1.length : Int))) = true then
 (at? x_1 x_218).bind fun x_242 =>
 (impl_within N x_242 1 4).bind fun y_247 =>
 (if (!y_247) = true then
 some (Sum.inl false)
 else
 (if (decide (x_218 > 0)) = true then
 (at? x_1 (w64 (x_218 - 1))).bind fun x_250 =>
 (if (decide (x_250 ≥ x_242)) = true then
 some (Sum.inl false)
 else
 impl_ConfOk_l1 N x_1 m (w64 (x_218 + 1)))
 else
 impl_ConfOk_l1 N x_1 m (w64 (x_218 + 1))))
 else
 some (Sum.inr ()))
def impl_ConfOk_l1_r (N : Nat) (x_1 : (List Int)) : (List Int) → Int → Option ((Bool) ⊕ (Unit))
 | [],x_218 =>
 some (Sum.inr ())
 | hd :: tl,x_218 =>
 (some hd).bind fun x_242 =>
 (impl_within N x_242 1 4).bind fun y_247 =>
 (if (!y_247) = true then
 some (Sum.inl false)
 else
 (if (decide (x_218 > 0)) = true then
 (at? x_1 (w64 (x_218 - 1))).bind fun x_250 =>
 (if (decide (x_250 ≥ x_242)) = true then
 some (Sum.inl false)
 else
 impl_ConfOk_l1_r N x_1 tl (w64 (x_218 + 1)))
 else
 impl_ConfOk_l1_r N x_1 tl (w64 (x_218 + 1))))
theorem impl_ConfOk_l1_rng (N : Nat) (x_1 : (List Int)) (hx : x_1.length ≤ 1099511627776) : ∀ (d k m : Nat),x_1.length = k + d → d < m → impl_ConfOk_l1 N x_1 m (k : Int) = impl_ConfOk_l1_r N x_1 (x_1.drop k) (k : Int) := by
 intro d
 induction d with
 | zero =>
  intro k m hd hm
  obtain ⟨m,rfl⟩ : ∃ q,m = q + 1 := ⟨m - 1,by omega⟩
  rw [impl_ConfOk_l1,if_neg (by simp; omega),List.drop_eq_nil_of_le (by omega),impl_ConfOk_l1_r]
 | succ d ih =>
  intro k m hd hm
  obtain ⟨m,rfl⟩ : ∃ q,m = q + 1 := ⟨m - 1,by omega⟩
  have hk : k < x_1.length := by omega
  rw [impl_ConfOk_l1,if_pos (by simp; omega),List.drop_eq_getElem_cons hk,impl_ConfOk_l1_r]
  have h1 := at_lt hk
  have h2 := w64_succ (k := k) (by omega)
  have h3 := ih (k + 1) m
  simp only [h1,h2,h3 (by omega) (by omega)]
theorem impl_ConfOk_l1_eq {N : Nat} (x_1 : (List Int)) (hx : x_1.length ≤ 1099511627776) (hN : x_1.length < N) : impl_ConfOk_l1 N x_1 N 0 = impl_ConfOk_l1_r N x_1 x_1 0 := impl_ConfOk_l1_rng N x_1 hx x_1.length 0 N (by omega) hN
def impl_ConfOk (N : Nat) (x_1 : (List Int)) : Option (Bool) :=
 joinP (fun (v_214 : Unit) =>
 (impl_within N (x_1.length : Int) 1 4).bind fun y_253 =>
 some y_253) fun j_214 =>
 (impl_ConfOk_l1 N x_1 N 0).bind (Sum.elim (fun v_234 => some v_234) (fun (v_235 : Unit) => j_214 ()))
theorem sem_impl_ConfOk (N : Nat) (x_1 : (List Int)) (r : Bool) (h : impl_ConfOk N x_1 = some r) : Says Try.prog 71 [RO 3 (x_1.map encI)] 0 [] (VB r) [] := by
 unfold impl_ConfOk at h
 refine Says.of_run s71 Try.call71 rfl fun B hB => ?_
 have hm : B.m ≤ 1000 := by omega
 refine Run.seq (Run.ops hm (Ops.p rfl (Ops.nil (Run.seqO h (fun v_214 => [(0,RO 3 (x_1.map encI))]) (fun (v_214 : Unit) => []) (fun h => ?_) (fun v_214 h => ?_)))))
 ·refine Run.seq (Run.ops hm (Ops.p rfl (Ops.st (s := 5112) (Ev.lnF rfl) rfl rfl (Ops.p rfl (Ops.nil (Run.block ?_))))))
  obtain ⟨res_235,h,hk_235⟩ := bindO h
  refine Run.loop (n := N) (fun m_235 fr σ => ∃ (x_218 : Int),impl_ConfOk_l1 N x_1 m_235 x_218 = some res_235 ∧ fr = [(0,RO 3 (x_1.map encI)),(5,RO 3 (x_1.map encI)),(6,VI (x_1.length : Int)),(7,VI x_218)] ∧ σ = []) (gh_pk [0,5,6,7] [] hB rfl rfl rfl rfl) ⟨_,h,rfl,rfl⟩ ?_
  rintro m_235 fr σ ⟨x_218,h,rfl,rfl⟩
  obtain _ | m_235 := m_235
  ·rw [impl_ConfOk_l1] at h; cases h
  rw [impl_ConfOk_l1] at h
  refine Run.seq (Run.ops hm (Ops.p rfl (Ops.nil (Run.seq (Run.condO rfl h (fun g_238 h => ?_) (fun g_238 h => ?_))))))
  ·refine Run.skip (Run.seq (Run.block (Run.seq (Run.ops hm (Ops.p rfl ?_)))))
   obtain ⟨x_242,hx_242,h⟩ := bindO h
   refine Ops.st (s := 13304) (Ev.iaF rfl rfl hx_242) rfl rfl (.p3 rfl rfl rfl (Ops.nil (Run.seq (Run.ops hm (Ops.p rfl ?_)))))
   obtain ⟨y_247,hy_247,h⟩ := bindO h
   refine Ops.st (s := 17400) (Ev.call [] [] 0 (sem_impl_within _ _ _ _ _ hy_247) rfl rfl (.d2 (.d1 .nil)) rfl (.inl rfl) rfl rfl) rfl rfl (.p2 rfl rfl (Ops.askO (x := .t 15) rfl h (fun g_248 h => ?_) (fun g_248 h => ?_)))
   ·refine Ops.gn rfl g_248 (Ops.gn rfl g_248 (Ops.gn rfl g_248 (Ops.gu rfl (Ops.gu rfl (Ops.gu rfl (Ops.gu rfl (Ops.gu rfl (Ops.gu rfl (Ops.gu rfl (Ops.gn rfl g_248 (Ops.st (s := 17624) (.pkT rfl g_248 rfl) rfl rfl (Ops.nil (Run.condT rfl rfl (Run.seq (Run.ops hm (Ops.p rfl (Ops.nil (Run.ret ?_))))))))))))))))))
    obtain rfl := someO h
    have h := hk_235
    replace h := inlO h
    obtain rfl := someO h
    exact Ends.mkG (.inl rfl) rfl (gh_pk [0] [] hB rfl rfl rfl rfl) rfl rfl
   ·refine Ops.gp rfl g_248 rfl (Ops.gp rfl g_248 rfl (Ops.gp rfl g_248 rfl (Ops.askO (x := .t 18) rfl h (fun g_249 h => ?_) (fun g_249 h => ?_))))
    ·refine Ops.gp rfl g_249 rfl (Ops.gp rfl g_249 rfl (Ops.gp rfl g_249 rfl ?_))
     obtain ⟨x_250,hx_250,h⟩ := bindO h
     refine Ops.gs (s := 17544) rfl g_249 (Ev.iaF rfl rfl hx_250) rfl rfl (Ops.gp rfl g_249 rfl (Ops.gp rfl g_249 rfl (Ops.gp rfl g_249 rfl (Ops.gs (s := 17608) rfl g_248 (.pkT rfl g_249 rfl) rfl rfl (Ops.st (s := 17624) (.pkF rfl g_248 rfl) rfl rfl (Ops.nil (Run.condO rfl h (fun g_251 h => ?_) (fun g_251 h => ?_))))))))
     ·refine Run.seq (Run.ops hm (Ops.p rfl (Ops.nil (Run.ret ?_))))
      obtain rfl := someO h
      have h := hk_235
      replace h := inlO h
      obtain rfl := someO h
      exact Ends.mkG (.inl rfl) rfl (gh_pk [0] [] hB rfl rfl rfl rfl) rfl rfl
     ·exact Run.skip (Run.ops hm (.p2 rfl rfl (Ops.nil (⟨m_235,Nat.lt_succ_self m_235,_,_,(gh_pk [0,5,6,7] [] hB rfl rfl rfl rfl),_,h,rfl,rfl⟩))))
    ·exact Ops.gn rfl g_249 (Ops.gn rfl g_249 (Ops.gn rfl g_249 (Ops.gn rfl g_249 (Ops.gn rfl g_249 (Ops.gn rfl g_249 (Ops.gn rfl g_249 (Ops.gs (s := 17608) rfl g_248 (.pkF rfl g_249 rfl) rfl rfl (Ops.st (s := 17624) (.pkF rfl g_248 rfl) rfl rfl (Ops.nil (Run.condF rfl rfl (Run.skip (Run.ops hm (.p2 rfl rfl (Ops.nil (⟨m_235,Nat.lt_succ_self m_235,_,_,(gh_pk [0,5,6,7] [] hB rfl rfl rfl rfl),_,h,rfl,rfl⟩)))))))))))))))
  ·refine Run.exit ?_
   obtain rfl := someO h
   have h := hk_235
   replace h := inrO h
   exact ⟨_,_,(gh_pk [0] [] hB rfl rfl rfl rfl),(),h,rfl,rfl⟩
 ·refine Run.seq (Run.ops hm (Ops.p rfl (Ops.st (s := 29688) (Ev.lnF rfl) rfl rfl ?_)))
  obtain ⟨y_253,hy_253,h⟩ := bindO h
  refine Ops.st (s := 29704) (Ev.call [] [] 0 (sem_impl_within _ _ _ _ _ hy_253) rfl rfl (.d2 (.d1 .nil)) rfl (.inl rfl) rfl rfl) rfl rfl (Ops.p rfl (Ops.nil (Run.ret ?_)))
  obtain rfl := someO h
  exact Ends.mkG (.inl rfl) rfl (gh_pk [0] [] hB rfl rfl rfl rfl) rfl rfl
def impl_ReadConf_l1 (N : Nat) (x_1 : ByteArray) : Nat → Int → (List Int) → Option ((List Int))
 | 0,_,_ => none
 | m + 1,x_184,x_185 =>
 (if (decide (x_184 < (x_1.size : Int))) = true then
 (sat? x_1 x_184).bind fun x_206 =>
 (cat? x_185 ([w64 (x_206)] : List Int)).bind fun x_207 =>
 impl_ReadConf_l1 N x_1 m (w64 (x_184 + 1)) x_207
 else
 some x_185)
def impl_ReadConf (N : Nat) (x_1 : ByteArray) : Option ((List Int) × Bool) :=
 joinP (fun (v_182 : (List Int)) =>
 (impl_ConfOk N v_182).bind fun y_212 =>
 (if (!y_212) = true then
 some ([],false)
 else
 some (v_182,true))) fun j_182 =>
 (impl_ReadConf_l1 N x_1 N 0 ([] : (List Int))).bind (fun v_196 => j_182 v_196)
theorem sem_impl_ReadConf (N : Nat) (x_1 : ByteArray) (r : (List Int) × Bool) (h : impl_ReadConf N x_1 = some r) : Says Try.prog 74 [VS x_1] 0 [] (.tup [.sl 0 3 0 r.1.length,VB r.2]) [(0,.vec 3 (r.1.map encI))] := by
 unfold impl_ReadConf at h
 refine Says.of_run s74 Try.call74 rfl fun B hB => ?_
 have hm : B.m ≤ 1000 := by omega
 refine Run.seq (Run.ops hm (.p2 rfl rfl (Ops.nil (Run.seq (Run.ops hm (Ops.p rfl (Ops.nil (Run.seqO h (fun v_182 => [(4,.sl 0 3 0 v_182.length)]) (fun (v_182 : (List Int)) => [(0,.vec 3 (v_182.map encI))]) (fun h => ?_) (fun v_182 h => ?_)))))))))
 ·refine Run.seq (Run.ops hm (Ops.p rfl (Ops.nil (Run.block ?_))))
  obtain ⟨res_196,h,hk_196⟩ := bindO h
  refine Run.loop (n := N) (fun m_196 fr σ => ∃ (x_184 : Int),∃ (x_185 : (List Int)),impl_ReadConf_l1 N x_1 m_196 x_184 x_185 = some res_196 ∧ fr = [(0,VS x_1),(4,.sl 0 3 0 x_185.length),(5,VI x_184)] ∧ σ = [(0,.vec 3 (x_185.map encI))]) (Gh.trans (Gh.trans (gh_prn [0,4,5] [] hB rfl) (gh_nil [4] [] hB rfl rfl rfl)) (gh_pk [0,4,5] [10000000] hB rfl rfl rfl rfl)) ⟨_,_,h,rfl,rfl⟩ ?_
  rintro m_196 fr σ ⟨x_184,x_185,h,rfl,rfl⟩
  obtain _ | m_196 := m_196
  ·rw [impl_ReadConf_l1] at h; cases h
  rw [impl_ReadConf_l1] at h
  refine Run.seq (Run.seq (Run.ops hm (.p3 rfl rfl rfl (Ops.p rfl (Ops.nil (Run.condO rfl h (fun g_199 h => ?_) (fun g_199 h => ?_)))))))
  ·refine Run.skip (Run.seq (Run.block (Run.ops hm (.p3 rfl rfl rfl ?_))))
   obtain ⟨x_206,hx_206,h⟩ := bindO h
   refine Ops.st (s := 21528) (Ev.ixS rfl rfl hx_206) rfl rfl (Ops.p rfl (Ops.st (s := 21560) (Ev.bsW (ys := ([w64 (x_206)] : List Int)) (f := encI) rfl (.d1 .nil) rfl rfl rfl rfl rfl) rfl rfl ?_))
   obtain ⟨x_207,hx_207,h⟩ := bindO h
   exact Ops.st (s := 21576) (Ev.apW (f := encI) (ontoW rfl rfl rfl) (addsW rfl rfl rfl (fun _ => rfl)) rfl bt3 rfl hx_207) rfl rfl (Ops.p rfl (Ops.nil (Run.ops hm (.p3 rfl rfl rfl (Ops.nil (⟨m_196,Nat.lt_succ_self m_196,_,_,(gh_pk [0,4,5] [21576] hB rfl rfl rfl rfl),_,_,h,rfl,rfl⟩))))))
  ·refine Run.exit ?_
   obtain rfl := someO h
   have h := hk_196
   exact ⟨_,_,(gh_pk [4] [0] hB rfl rfl rfl rfl),_,h,rfl,rfl⟩
 ·refine Run.seq (Run.seq (Run.ops hm (Ops.p rfl ?_)))
  obtain ⟨y_212,hy_212,h⟩ := bindO h
  refine Ops.st (s := 25592) (Ev.call [] [0] 0 (sem_impl_ConfOk _ _ _ hy_212) rfl rfl (.cons (.borrow rfl (by decide) (lendW (fun _ => rfl) _ rfl)) .nil) rfl (.inr ⟨rfl,ownL_root trivial⟩) rfl rfl) rfl rfl ?_
  refine Ops.p rfl (Ops.nil (Run.condO rfl h (fun g_213 h => ?_) (fun g_213 h => ?_)))
  ·refine Run.seq (Run.ops hm (.p2 rfl rfl (Ops.nil (Run.ret ?_))))
   obtain rfl := someO h
   exact Ends.mkG (.inl rfl) rfl (Gh.trans (Gh.trans (gh_prn [0,1] [] hB rfl) (gh_nil [0] [] hB rfl rfl rfl)) (gh_pk [0,1] [10000000] hB rfl rfl rfl rfl)) rfl rfl
  ·refine Run.skip (Run.seq (Run.ops hm (.p3 rfl rfl rfl (Ops.nil (Run.ret ?_)))))
   obtain rfl := someO h
   exact Ends.mkG (.inl rfl) rfl (gh_pk [0,1] [0] hB rfl rfl rfl rfl) rfl rfl
def impl_EntryOk (N : Nat) (x_1 : Entry) : Option (Bool) :=
 (impl_within N x_1.Term 0 100000).bind fun y_117 =>
 (if (!y_117) = true then
 some false
 else
 (if (x_1.Kind == 1) = true then
 some (decide (x_1.Data = (⟨#[]⟩ : ByteArray)))
 else
 (if (x_1.Kind == 2) = true then
 (impl_ReadConf N x_1.Data).bind fun y_124 =>
 some y_124.2
 else
 (if (x_1.Kind == 3) = true then
 some (decide ((x_1.Data.size : Int) ≤ 120))
 else
 some false))))
theorem sem_impl_EntryOk (N : Nat) (x_1 : Entry) (r : Bool) (h : impl_EntryOk N x_1 = some r) : Says Try.prog 93 [.agg [VI x_1.Term,VI x_1.Kind,VS x_1.Data]] 0 [] (VB r) [] := by
 unfold impl_EntryOk at h
 refine Says.of_run s93 Try.call93 rfl fun B hB => ?_
 have hm : B.m ≤ 1000 := by omega
 refine Run.seq (Run.ops hm (Ops.st (s := 1000) (.bx rfl rfl) rfl rfl (Ops.p rfl (Ops.nil (Run.seq (Run.seq (Run.ops hm (.p2 rfl rfl ?_))))))))
 obtain ⟨y_117,hy_117,h⟩ := bindO h
 refine Ops.st (s := 5128) (Ev.call [] [] 0 (sem_impl_within _ _ _ _ _ hy_117) rfl rfl (.d2 (.d1 .nil)) rfl (.inl rfl) rfl rfl) rfl rfl (Ops.p rfl (Ops.nil (Run.condO rfl h (fun g_118 h => ?_) (fun g_118 h => ?_))))
 ·refine Run.seq (Run.ops hm (Ops.p rfl (Ops.nil (Run.ret ?_))))
  obtain rfl := someO h
  exact Ends.mkG (.inl rfl) rfl (gh_pk [0] [] hB rfl rfl rfl rfl) rfl rfl
 ·refine Run.skip (Run.seq (Run.seq (Run.ops hm (.p2 rfl rfl (Ops.nil (Run.block (Run.seq (Run.ops hm (.p2 rfl rfl (Ops.nil (Run.condO rfl h (fun g_119 h => ?_) (fun g_119 h => ?_))))))))))))
  ·refine Run.seq (Run.ops hm (.p3 rfl rfl rfl (Ops.p rfl (Ops.nil (Run.ret ?_)))))
   obtain rfl := someO h
   exact Ends.mkG (.inl rfl) rfl (gh_pk [0] [] hB rfl rfl rfl rfl) rfl rfl
  ·refine Run.seq (Run.ops hm (.p2 rfl rfl (Ops.nil (Run.condO rfl h (fun g_120 h => ?_) (fun g_120 h => ?_)))))
   ·refine Run.seq (Run.ops hm (.p2 rfl rfl ?_))
    obtain ⟨y_124,hy_124,h⟩ := bindO h
    refine Ops.st (s := 29704) (Ev.call [] [] 1 (sem_impl_ReadConf _ _ _ hy_124) rfl rfl (.d1 .nil) rfl (.inl rfl) rfl rfl) rfl rfl (.p3 rfl rfl rfl (.p2 rfl rfl (Ops.nil (Run.seq (Run.ops hm (.p2 rfl rfl (Ops.nil (Run.ret ?_))))))))
    obtain rfl := someO h
    exact Ends.mkG (.inl rfl) rfl (gh_pk [0] [] hB rfl rfl rfl rfl) rfl rfl
   ·refine Run.seq (Run.ops hm (.p2 rfl rfl (Ops.nil (Run.condO rfl h (fun g_125 h => ?_) (fun g_125 h => ?_)))))
    ·refine Run.seq (Run.ops hm (.p3 rfl rfl rfl (.p2 rfl rfl (Ops.nil (Run.ret ?_)))))
     obtain rfl := someO h
     exact Ends.mkG (.inl rfl) rfl (gh_pk [0] [] hB rfl rfl rfl rfl) rfl rfl
    ·refine Run.skip (Run.seq (Run.ops hm (Ops.p rfl (Ops.nil (Run.ret ?_)))))
     obtain rfl := someO h
     exact Ends.mkG (.inl rfl) rfl (gh_pk [0] [] hB rfl rfl rfl rfl) rfl rfl
def impl_LogOk_l1 (N : Nat) (x_1 : Log) : Nat → Int → Int → Option ((Bool) ⊕ (Unit))
 | 0,_,_ => none
 | m + 1,x_263,x_266 =>
 (if (decide (x_266 < (x_1.Entries.length : Int))) = true then
 (at? x_1.Entries x_266).bind fun x_291 =>
 (impl_EntryOk N x_291).bind fun y_299 =>
 (if (!y_299) = true then
 some (Sum.inl false)
 else
 (if (decide (x_291.Term < x_263)) = true then
 some (Sum.inl false)
 else
 impl_LogOk_l1 N x_1 m x_291.Term (w64 (x_266 + 1))))
 else
 some (Sum.inr ()))
def impl_LogOk_l1_r (N : Nat) (x_1 : Log) : (List Entry) → Int → Int → Option ((Bool) ⊕ (Unit))
 | [],x_263,x_266 =>
 some (Sum.inr ())
 | hd :: tl,x_263,x_266 =>
 (some hd).bind fun x_291 =>
 (impl_EntryOk N x_291).bind fun y_299 =>
 (if (!y_299) = true then
 some (Sum.inl false)
 else
 (if (decide (x_291.Term < x_263)) = true then
 some (Sum.inl false)
 else
 impl_LogOk_l1_r N x_1 tl x_291.Term (w64 (x_266 + 1))))
theorem impl_LogOk_l1_rng (N : Nat) (x_1 : Log) (hx : x_1.Entries.length ≤ 1099511627776) : ∀ (d k m : Nat) (x_263 : Int),x_1.Entries.length = k + d → d < m → impl_LogOk_l1 N x_1 m x_263 (k : Int) = impl_LogOk_l1_r N x_1 (x_1.Entries.drop k) x_263 (k : Int) := by
 intro d
 induction d with
 | zero =>
  intro k m x_263 hd hm
  obtain ⟨m,rfl⟩ : ∃ q,m = q + 1 := ⟨m - 1,by omega⟩
  rw [impl_LogOk_l1,if_neg (by simp; omega),List.drop_eq_nil_of_le (by omega),impl_LogOk_l1_r]
 | succ d ih =>
  intro k m x_263 hd hm
  obtain ⟨m,rfl⟩ : ∃ q,m = q + 1 := ⟨m - 1,by omega⟩
  have hk : k < x_1.Entries.length := by omega
  rw [impl_LogOk_l1,if_pos (by simp; omega),List.drop_eq_getElem_cons hk,impl_LogOk_l1_r]
  have h1 := at_lt hk
  have h2 := w64_succ (k := k) (by omega)
  have h3 := ih (k + 1) m
  simp only [h1,h2,h3 _ (by omega) (by omega)]
theorem impl_LogOk_l1_eq {N : Nat} (x_1 : Log) (hx : x_1.Entries.length ≤ 1099511627776) (hN : x_1.Entries.length < N) (x_263 : Int) : impl_LogOk_l1 N x_1 N x_263 0 = impl_LogOk_l1_r N x_1 x_1.Entries x_263 0 := impl_LogOk_l1_rng N x_1 hx x_1.Entries.length 0 N x_263 (by omega) hN
def impl_LogOk (N : Nat) (x_1 : Log) : Option (Bool) :=
 (impl_within N x_1.Start 0 100000).bind fun y_217 =>
 (if (!y_217) = true then
 some false
 else
 (impl_within N x_1.StartTerm 0 100000).bind fun y_219 =>
 (if (!y_219) = true then
 some false
 else
 (if (decide ((x_1.Entries.length : Int) > 120)) = true then
 some false
 else
 (if (decide ((w64 (x_1.Start + (x_1.Entries.length : Int))) > 100000)) = true then
 some false
 else
 joinP (fun (v_262 : Unit) =>
 some true) fun j_262 =>
 (impl_LogOk_l1 N x_1 N x_1.StartTerm 0).bind (Sum.elim (fun v_283 => some v_283) (fun (v_284 : Unit) => j_262 ()))))))
theorem sem_impl_LogOk (N : Nat) (x_1 : Log) (r : Bool) (h : impl_LogOk N x_1 = some r) : Says Try.prog 43 [.agg [VI x_1.Start,VI x_1.StartTerm,RO 51 (x_1.Entries.map encEntry)]] 0 [] (VB r) [] := by
 unfold impl_LogOk at h
 refine Says.of_run s43 Try.call43 rfl fun B hB => ?_
 have hm : B.m ≤ 1000 := by omega
 refine Run.seq (Run.ops hm (Ops.st (s := 1000) (.bx rfl rfl) rfl rfl (Ops.p rfl (Ops.nil (Run.seq (Run.seq (Run.ops hm (.p2 rfl rfl ?_))))))))
 obtain ⟨y_217,hy_217,h⟩ := bindO h
 refine Ops.st (s := 5128) (Ev.call [] [] 0 (sem_impl_within _ _ _ _ _ hy_217) rfl rfl (.d2 (.d1 .nil)) rfl (.inl rfl) rfl rfl) rfl rfl (.p2 rfl rfl (Ops.askO (x := .t 10) rfl h (fun g_218 h => ?_) (fun g_218 h => ?_)))
 ·refine Ops.gn rfl g_218 (Ops.gn rfl g_218 (Ops.gn rfl g_218 (Ops.gn rfl g_218 (Ops.st (s := 5240) (.pkT rfl g_218 rfl) rfl rfl (Ops.p rfl (Ops.gn rfl rfl (Ops.gn rfl rfl (Ops.gn rfl rfl (Ops.gn rfl rfl (Ops.st (s := 5336) (.pkT rfl rfl rfl) rfl rfl (Ops.p rfl (Ops.gn rfl rfl (Ops.gn rfl rfl (Ops.gn rfl rfl (Ops.gn rfl rfl (Ops.gn rfl rfl (Ops.gn rfl rfl (Ops.gn rfl rfl (Ops.st (s := 5480) (.pkT rfl rfl rfl) rfl rfl (Ops.nil (Run.condT rfl rfl (Run.seq (Run.ops hm (Ops.p rfl (Ops.nil (Run.ret ?_))))))))))))))))))))))))))
  obtain rfl := someO h
  exact Ends.mkG (.inl rfl) rfl (gh_pk [0] [] hB rfl rfl rfl rfl) rfl rfl
 ·refine Ops.gp rfl g_218 rfl (Ops.gp rfl g_218 rfl ?_)
  obtain ⟨y_219,hy_219,h⟩ := bindO h
  refine Ops.gs (s := 5208) rfl g_218 (Ev.call [] [] 0 (sem_impl_within _ _ _ _ _ hy_219) rfl rfl (.d2 (.d1 .nil)) rfl (.inl rfl) rfl rfl) rfl rfl (Ops.gp rfl g_218 rfl (Ops.st (s := 5240) (.pkF rfl g_218 rfl) rfl rfl (Ops.p rfl (Ops.askO (x := .t 16) rfl h (fun g_220 h => ?_) (fun g_220 h => ?_)))))
  ·refine Ops.gn rfl g_220 (Ops.gn rfl g_220 (Ops.gn rfl g_220 (Ops.gn rfl g_220 (Ops.st (s := 5336) (.pkT rfl g_220 rfl) rfl rfl (Ops.p rfl (Ops.gn rfl rfl (Ops.gn rfl rfl (Ops.gn rfl rfl (Ops.gn rfl rfl (Ops.gn rfl rfl (Ops.gn rfl rfl (Ops.gn rfl rfl (Ops.st (s := 5480) (.pkT rfl rfl rfl) rfl rfl (Ops.nil (Run.condT rfl rfl (Run.seq (Run.ops hm (Ops.p rfl (Ops.nil (Run.ret ?_))))))))))))))))))))
   obtain rfl := someO h
   exact Ends.mkG (.inl rfl) rfl (gh_pk [0] [] hB rfl rfl rfl rfl) rfl rfl
  ·refine Ops.gp rfl g_220 rfl (Ops.gp rfl g_220 rfl (Ops.gs (s := 5304) rfl g_220 (Ev.lnF rfl) rfl rfl (Ops.gp rfl g_220 rfl (Ops.st (s := 5336) (.pkF rfl g_220 rfl) rfl rfl (Ops.p rfl (Ops.askO (x := .t 22) rfl h (fun g_221 h => ?_) (fun g_221 h => ?_)))))))
   ·refine Ops.gn rfl g_221 (Ops.gn rfl g_221 (Ops.gn rfl g_221 (Ops.gn rfl g_221 (Ops.gn rfl g_221 (Ops.gn rfl g_221 (Ops.gn rfl g_221 (Ops.st (s := 5480) (.pkT rfl g_221 rfl) rfl rfl (Ops.nil (Run.condT rfl rfl (Run.seq (Run.ops hm (Ops.p rfl (Ops.nil (Run.ret ?_))))))))))))))
    obtain rfl := someO h
    exact Ends.mkG (.inl rfl) rfl (gh_pk [0] [] hB rfl rfl rfl rfl) rfl rfl
   ·refine Ops.gp rfl g_221 rfl (Ops.gp rfl g_221 rfl (Ops.gp rfl g_221 rfl (Ops.gp rfl g_221 rfl (Ops.gs (s := 5432) rfl g_221 (Ev.lnF rfl) rfl rfl (Ops.gp rfl g_221 rfl (Ops.gp rfl g_221 rfl (Ops.st (s := 5480) (.pkF rfl g_221 rfl) rfl rfl (Ops.nil (Run.condO rfl h (fun g_222 h => ?_) (fun g_222 h => ?_))))))))))
    ·refine Run.seq (Run.ops hm (Ops.p rfl (Ops.nil (Run.ret ?_))))
     obtain rfl := someO h
     exact Ends.mkG (.inl rfl) rfl (gh_pk [0] [] hB rfl rfl rfl rfl) rfl rfl
    ·refine Run.skip (Run.seq (Run.ops hm (.p3 rfl rfl rfl (Ops.nil (Run.seqO h (fun v_262 => []) (fun (v_262 : Unit) => []) (fun h => ?_) (fun v_262 h => ?_))))))
     ·refine Run.seq (Run.ops hm (.p2 rfl rfl (Ops.st (s := 17416) (Ev.lnF rfl) rfl rfl (Ops.p rfl (Ops.nil (Run.block ?_))))))
      obtain ⟨res_284,h,hk_284⟩ := bindO h
      refine Run.loop (n := N) (fun m_284 fr σ => ∃ (x_263 : Int),∃ (x_266 : Int),impl_LogOk_l1 N x_1 m_284 x_263 x_266 = some res_284 ∧ fr = [(3,VI x_263),(34,RO 51 (x_1.Entries.map encEntry)),(35,VI (x_1.Entries.length : Int)),(36,VI x_266)] ∧ σ = []) (gh_pk [3,34,35,36] [] hB rfl rfl rfl rfl) ⟨_,_,h,rfl,rfl⟩ ?_
      rintro m_284 fr σ ⟨x_263,x_266,h,rfl,rfl⟩
      obtain _ | m_284 := m_284
      ·rw [impl_LogOk_l1] at h; cases h
      rw [impl_LogOk_l1] at h
      refine Run.seq (Run.ops hm (Ops.p rfl (Ops.nil (Run.seq (Run.condO rfl h (fun g_287 h => ?_) (fun g_287 h => ?_))))))
      ·refine Run.skip (Run.seq (Run.block (Run.seq (Run.ops hm ?_))))
       obtain ⟨x_291,hx_291,h⟩ := bindO h
       refine Ops.st (s := 25576) (Ev.iaF rfl rfl hx_291) rfl rfl (Ops.p rfl (Ops.st (s := 25608) (.al rfl rfl) rfl rfl (Ops.s0 (s := 25624) (.sto rfl rfl rfl rfl rfl rfl) rfl rfl (Ops.nil (Run.seq (Run.seq (Run.ops hm (Ops.p rfl ?_))))))))
       obtain ⟨y_299,hy_299,h⟩ := bindO h
       refine Ops.st (s := 29688) (Ev.call [] [] 0 (sem_impl_EntryOk _ _ _ hy_299) rfl rfl (.cons (.agg (.d2 (.d1 .nil))) .nil) rfl (.inl rfl) rfl rfl) rfl rfl (.p2 rfl rfl (Ops.askO (x := .t 43) rfl h (fun g_300 h => ?_) (fun g_300 h => ?_)))
       ·refine Ops.gn rfl g_300 (Ops.gn rfl g_300 (Ops.gn rfl g_300 (Ops.gn rfl g_300 (Ops.st (s := 29800) (.pkT rfl g_300 rfl) rfl rfl (Ops.nil (Run.condT rfl rfl (Run.seq (Run.ops hm (Ops.p rfl (Ops.nil (Run.ret ?_)))))))))))
        obtain rfl := someO h
        have h := hk_284
        replace h := inlO h
        obtain rfl := someO h
        exact Ends.mkG (.inl rfl) rfl (gh_pk [0] [] hB rfl rfl rfl rfl) rfl rfl
       ·refine Ops.gp rfl g_300 rfl (Ops.gp rfl g_300 rfl (Ops.gp rfl g_300 rfl (Ops.gp rfl g_300 rfl (Ops.st (s := 29800) (.pkF rfl g_300 rfl) rfl rfl (Ops.nil (Run.condO rfl h (fun g_301 h => ?_) (fun g_301 h => ?_)))))))
        ·refine Run.seq (Run.ops hm (Ops.p rfl (Ops.nil (Run.ret ?_))))
         obtain rfl := someO h
         have h := hk_284
         replace h := inlO h
         obtain rfl := someO h
         exact Ends.mkG (.inl rfl) rfl (gh_pk [0] [] hB rfl rfl rfl rfl) rfl rfl
        ·exact Run.skip (Run.ops hm (.p3 rfl rfl rfl (Ops.nil (Run.ops hm (.p2 rfl rfl (Ops.nil (⟨m_284,Nat.lt_succ_self m_284,_,_,(gh_pk [3,34,35,36] [] hB rfl rfl rfl rfl),_,_,h,rfl,rfl⟩)))))))
      ·refine Run.exit ?_
       obtain rfl := someO h
       have h := hk_284
       replace h := inrO h
       exact ⟨_,_,(gh_pk [] [] hB rfl rfl rfl rfl),(),h,rfl,rfl⟩
     ·refine Run.seq (Run.ops hm (Ops.p rfl (Ops.nil (Run.ret ?_))))
      obtain rfl := someO h
      exact Ends.mkG (.inl rfl) rfl (gh_pk [0] [] hB rfl rfl rfl rfl) rfl rfl
end Go.Proofs.Ytehknbpmpbghhaa.Pe.FnSettles
