/- Functions,as pure functions; and that Go does just that. -/
import Derived.Test.YtehknbpmpbghhaaPeFFnSettles3
namespace Go.Proofs.Ytehknbpmpbghhaa.Pe.FnSettles
open Go Go.RowKit
set_option linter.unusedVariables false
set_option linter.unusedSimpArgs false
set_option maxHeartbeats 40000000
def spec_l01Var_l1 (N : Nat) : Nat → Int → (List Int) → Option (Int × (List Int))
 | 0,_,_ => none
 | m + 1,x_188,x_189 =>
 (if (decide (x_188 > 127)) = true then
 (intD .rem .i64 x_188 128).bind fun x_212 =>
 (cat? x_189 ([IntKind.wrap .u8 (w64 (x_212 + 128))] : List Int)).bind fun x_213 =>
 (intD .quo .i64 x_188 128).bind fun x_215 =>
 spec_l01Var_l1 N m x_215 x_213
 else
 some (x_188,x_189))
def spec_l01Var (N : Nat) (x_1 : Int) : Option (ByteArray) :=
 joinP (fun (v_187 : Int × (List Int)) =>
 (cat? v_187.2 ([IntKind.wrap .u8 (v_187.1)] : List Int)).bind fun x_217 =>
 some (strOf x_217)) fun j_187 =>
 (spec_l01Var_l1 N N x_1 ([] : List Int)).bind (fun v_202 => j_187 (v_202.1,v_202.2))
theorem sem_spec_l01Var (N : Nat) (x_1 : Int) (r : ByteArray) (h : spec_l01Var N x_1 = some r) : Says Try.prog 172 [VI x_1] 0 [] (VS r) [] := by
 unfold spec_l01Var at h
 refine Says.of_run s172 Try.call172 rfl fun B hB => ?_
 have hm : B.m ≤ 1000 := by omega
 refine Run.seq (Run.ops hm (Ops.p rfl (Ops.nil (Run.seq (Run.ops hm (Ops.st (s := 5096) (Ev.bsW (ys := ([] : List Int)) (f := encU) rfl .nil rfl rfl rfl rfl rfl) rfl rfl (Ops.p rfl (Ops.nil (Run.seqO h (fun v_187 => [(0,VI v_187.1),(3,.sl 0 5 0 v_187.2.length)]) (fun (v_187 : Int × (List Int)) => [(0,.vec 5 (v_187.2.map encU))]) (fun h => ?_) (fun v_187 h => ?_))))))))))
 ·refine Run.block ?_
  obtain ⟨res_202,h,hk_202⟩ := bindO h
  refine Run.loop (n := N) (fun m_202 fr σ => ∃ (x_188 : Int),∃ (x_189 : (List Int)),spec_l01Var_l1 N m_202 x_188 x_189 = some res_202 ∧ fr = [(0,VI x_188),(3,.sl 0 5 0 x_189.length)] ∧ σ = [(0,.vec 5 (x_189.map encU))]) (gh_pk [0,3] [5096] hB rfl rfl rfl rfl) ⟨_,_,h,rfl,rfl⟩ ?_
  rintro m_202 fr σ ⟨x_188,x_189,h,rfl,rfl⟩
  obtain _ | m_202 := m_202
  ·rw [spec_l01Var_l1] at h; cases h
  rw [spec_l01Var_l1] at h
  refine Run.seq (Run.seq (Run.ops hm (.p2 rfl rfl (Ops.nil (Run.condO rfl h (fun g_205 h => ?_) (fun g_205 h => ?_))))))
  ·refine Run.skip (Run.block (Run.seq (Run.ops hm (.p2 rfl rfl ?_))))
   obtain ⟨x_212,hx_212,h⟩ := bindO h
   refine Ops.st (s := 13320) (.bin rfl rfl hx_212) rfl rfl (.p2 rfl rfl (Ops.st (s := 13368) (Ev.bsW (ys := ([IntKind.wrap .u8 (w64 (x_212 + 128))] : List Int)) (f := encU) rfl (.d1 .nil) rfl rfl rfl rfl rfl) rfl rfl ?_))
   obtain ⟨x_213,hx_213,h⟩ := bindO h
   refine Ops.st (s := 13384) (Ev.apW (f := encU) (ontoW rfl rfl rfl) (addsW rfl rfl rfl (fun _ => rfl)) rfl bt5 rfl hx_213) rfl rfl (Ops.p rfl (Ops.nil (Run.ops hm (Ops.p rfl ?_))))
   obtain ⟨x_215,hx_215,h⟩ := bindO h
   exact Ops.st (s := 17400) (.bin rfl rfl hx_215) rfl rfl (Ops.p rfl (Ops.nil (⟨m_202,Nat.lt_succ_self m_202,_,_,(gh_pk [0,3] [13384] hB rfl rfl rfl rfl),_,_,h,rfl,rfl⟩)))
  ·refine Run.exit ?_
   obtain rfl := someO h
   have h := hk_202
   exact ⟨_,_,(gh_pk [0,3] [0] hB rfl rfl rfl rfl),_,h,rfl,rfl⟩
 ·refine Run.seq (Run.ops hm (.p3 rfl rfl rfl (Ops.st (s := 21528) (Ev.bsW (ys := ([IntKind.wrap .u8 (v_187.1)] : List Int)) (f := encU) rfl (.d1 .nil) rfl rfl rfl rfl rfl) rfl rfl ?_)))
  obtain ⟨x_217,hx_217,h⟩ := bindO h
  refine Ops.st (s := 21544) (Ev.apW (f := encU) (ontoW rfl rfl rfl) (addsW rfl rfl rfl (fun _ => rfl)) rfl bt5 rfl hx_217) rfl rfl (Ops.st (s := 21560) (.sbC (addsW (f := encU) rfl rfl rfl (fun _ => rfl))) rfl rfl (Ops.p rfl (Ops.nil (Run.ret ?_))))
  obtain rfl := someO h
  exact Ends.mkG (.inl rfl) rfl (gh_pk [0] [] hB rfl rfl rfl rfl) rfl rfl
def spec_l05Short (N : Nat) (x_1 : ByteArray) : Option (ByteArray) :=
 (spec_l01Var N (x_1.size : Int)).bind fun y_106 =>
 (scat? y_106 x_1).bind fun x_107 =>
 some x_107
theorem sem_spec_l05Short (N : Nat) (x_1 : ByteArray) (r : ByteArray) (h : spec_l05Short N x_1 = some r) : Says Try.prog 189 [VS x_1] 0 [] (VS r) [] := by
 unfold spec_l05Short at h
 refine Says.of_run s189 Try.call189 rfl fun B hB => ?_
 have hm : B.m ≤ 1000 := by omega
 refine Run.seq (Run.ops hm (Ops.p rfl (Ops.nil (Run.seq (Run.ops hm (.p2 rfl rfl ?_))))))
 obtain ⟨y_106,hy_106,h⟩ := bindO h
 refine Ops.st (s := 5128) (Ev.call [] [] 0 (sem_spec_l01Var _ _ _ hy_106) rfl rfl (.d1 .nil) rfl (.inl rfl) rfl rfl) rfl rfl (Ops.p rfl ?_)
 obtain ⟨x_107,hx_107,h⟩ := bindO h
 refine Ops.st (s := 5160) (Ev.addS rfl rfl hx_107) rfl rfl (Ops.p rfl (Ops.nil (Run.ret ?_)))
 obtain rfl := someO h
 exact Ends.mkG (.inl rfl) rfl (gh_pk [0] [] hB rfl rfl rfl rfl) rfl rfl
def spec_CommandText (N : Nat) (x_1 : Command) : Option (ByteArray × Bool) :=
 (spec_CommandOk N x_1).bind fun y_130 =>
 (if (!y_130) = true then
 some ((⟨#[]⟩ : ByteArray),false)
 else
 (spec_l01Var N x_1.Session).bind fun y_142 =>
 (scat? (strOf ([IntKind.wrap .u8 (x_1.Op)] : List Int)) y_142).bind fun x_143 =>
 (spec_l01Var N x_1.Seq).bind fun y_144 =>
 (scat? x_143 y_144).bind fun x_145 =>
 (spec_l05Short N x_1.Key).bind fun y_146 =>
 (scat? x_145 y_146).bind fun x_147 =>
 (spec_l05Short N x_1.Value).bind fun y_148 =>
 (scat? x_147 y_148).bind fun x_149 =>
 (spec_l05Short N x_1.Old).bind fun y_150 =>
 (scat? x_149 y_150).bind fun x_151 =>
 some (x_151,true))
theorem sem_spec_CommandText (N : Nat) (x_1 : Command) (r : ByteArray × Bool) (h : spec_CommandText N x_1 = some r) : Says Try.prog 170 [.agg [VI x_1.Op,VI x_1.Session,VI x_1.Seq,VS x_1.Key,VS x_1.Value,VS x_1.Old]] 0 [] (.tup [VS r.1,VB r.2]) [] := by
 unfold spec_CommandText at h
 refine Says.of_run s170 Try.call170 rfl fun B hB => ?_
 have hm : B.m ≤ 1000 := by omega
 refine Run.seq (Run.ops hm (Ops.st (s := 1000) (.bx rfl rfl) rfl rfl (.p2 rfl rfl (Ops.nil (Run.seq (Run.seq (Run.ops hm (Ops.p rfl ?_))))))))
 obtain ⟨y_130,hy_130,h⟩ := bindO h
 refine Ops.st (s := 5112) (Ev.call [] [] 0 (sem_spec_CommandOk _ _ _ hy_130) rfl rfl (.cons (.agg (.d4 (.d2 .nil))) .nil) rfl (.inl rfl) rfl rfl) rfl rfl (Ops.p rfl (Ops.nil (Run.condO rfl h (fun g_131 h => ?_) (fun g_131 h => ?_))))
 ·refine Run.seq (Run.ops hm (.p2 rfl rfl (Ops.nil (Run.ret ?_))))
  obtain rfl := someO h
  exact Ends.mkG (.inl rfl) rfl (gh_pk [0,1] [] hB rfl rfl rfl rfl) rfl rfl
 ·refine Run.skip (Run.seq (Run.draw hm hmix (OpsD.p rfl (OpsD.p rfl (OpsD.p rfl (OpsD.st (s := 13336) (Ev.bsW (ys := ([IntKind.wrap .u8 (x_1.Op)] : List Int)) (f := encU) rfl (.d1 .nil) rfl rfl rfl rfl rfl) rfl rfl (OpsD.st (s := 13352) (.sbC (addsW (f := encU) rfl rfl rfl (fun _ => rfl))) rfl rfl (OpsD.p rfl (OpsD.p rfl ?_)))))))))
  obtain ⟨y_142,hy_142,h⟩ := bindO h
  refine OpsD.st (s := 13400) (Ev.call [] [] 0 (sem_spec_l01Var _ _ _ hy_142) rfl rfl (.d1 .nil) rfl (.inl rfl) rfl rfl) rfl rfl ?_
  obtain ⟨x_143,hx_143,h⟩ := bindO h
  refine OpsD.st (s := 13416) (Ev.addS rfl rfl hx_143) rfl rfl (OpsD.p rfl (OpsD.p rfl ?_))
  obtain ⟨y_144,hy_144,h⟩ := bindO h
  refine OpsD.st (s := 13464) (Ev.call [] [] 0 (sem_spec_l01Var _ _ _ hy_144) rfl rfl (.d1 .nil) rfl (.inl rfl) rfl rfl) rfl rfl ?_
  obtain ⟨x_145,hx_145,h⟩ := bindO h
  refine OpsD.st (s := 13480) (Ev.addS rfl rfl hx_145) rfl rfl (OpsD.p rfl (OpsD.p rfl ?_))
  obtain ⟨y_146,hy_146,h⟩ := bindO h
  refine OpsD.st (s := 13528) (Ev.call [] [] 0 (sem_spec_l05Short _ _ _ hy_146) rfl rfl (.d1 .nil) rfl (.inl rfl) rfl rfl) rfl rfl ?_
  obtain ⟨x_147,hx_147,h⟩ := bindO h
  refine OpsD.st (s := 13544) (Ev.addS rfl rfl hx_147) rfl rfl (OpsD.p rfl (OpsD.p rfl ?_))
  obtain ⟨y_148,hy_148,h⟩ := bindO h
  refine OpsD.st (s := 13592) (Ev.call [] [] 0 (sem_spec_l05Short _ _ _ hy_148) rfl rfl (.d1 .nil) rfl (.inl rfl) rfl rfl) rfl rfl ?_
  obtain ⟨x_149,hx_149,h⟩ := bindO h
  refine OpsD.st (s := 13608) (Ev.addS rfl rfl hx_149) rfl rfl (OpsD.p rfl (OpsD.p rfl ?_))
  obtain ⟨y_150,hy_150,h⟩ := bindO h
  refine OpsD.st (s := 13656) (Ev.call [] [] 0 (sem_spec_l05Short _ _ _ hy_150) rfl rfl (.d1 .nil) rfl (.inl rfl) rfl rfl) rfl rfl ?_
  obtain ⟨x_151,hx_151,h⟩ := bindO h
  refine OpsD.st (s := 13672) (Ev.addS rfl rfl hx_151) rfl rfl (OpsD.p rfl (OpsD.p rfl (OpsD.nil ⟨by kernel_rfl,?_⟩)))
  refine Run.ret ?_
  obtain rfl := someO h
  exact Ends.mkG (.inl rfl) rfl (gh_pk [0,1] [] hB rfl rfl rfl rfl) rfl rfl
def spec_l11Right (N : Nat) (x_1 : Tl01Cur) (x_2 : Int) : Option (Entry × Tl01Cur) :=
 (spec_l01PickInt_i1 N x_1 ([1,2,3,3,3] : List Int)).bind fun y_128 =>
 joinP (fun (v_139 : (List Int) × Int × Int × ByteArray) =>
 some ((Entry.mk x_2 y_128.1 v_139.2.2.2),(Tl01Cur.mk v_139.1 v_139.2.1 v_139.2.2.1))) fun j_139 =>
 (if (y_128.1 == 2) = true then
 (spec_l07Conf N y_128.2).bind fun y_143 =>
 (spec_ConfText N y_143.1).bind fun y_144 =>
 j_139 (y_143.2.b,y_143.2.i,y_143.2.h,y_144.1)
 else
 (if (y_128.1 == 3) = true then
 (spec_l15Right N y_128.2).bind fun y_148 =>
 (spec_CommandText N y_148.1).bind fun y_149 =>
 j_139 (y_148.2.b,y_148.2.i,y_148.2.h,y_149.1)
 else
 j_139 (y_128.2.b,y_128.2.i,y_128.2.h,(⟨#[]⟩ : ByteArray))))
theorem sem_spec_l11Right (N : Nat) (x_1 : Tl01Cur) (x_2 : Int) (r : Entry × Tl01Cur) (h : spec_l11Right N x_1 x_2 = some r) : Says Try.prog 121 [.ptr 0 0,VI x_2] 1 [(0,.box [RO 5 (x_1.b.map encU),VI x_1.i,VI x_1.h])] (.agg [VI r.1.Term,VI r.1.Kind,VS r.1.Data]) [(0,.box [RO 5 (r.2.b.map encU),VI r.2.i,VI r.2.h])] := by
 unfold spec_l11Right at h
 refine Says.of_run s121 Try.call121 rfl fun B hB => ?_
 have hm : B.m ≤ 1000 := by omega
 refine Run.seq (Run.ops hm (Ops.st (s := 1000) (.al rfl rfl) rfl rfl (Ops.nil (Run.seq (Run.ops hm (.p2 rfl rfl (Ops.st (s := 5128) (Ev.bsW (ys := ([1,2,3,3,3] : List Int)) (f := encI) rfl (.d4 (.d1 .nil)) rfl rfl rfl rfl rfl) rfl rfl ?_)))))))
 obtain ⟨y_128,hy_128,h⟩ := bindO h
 refine Ops.st (s := 5144) (Ev.call [0,5128] [] 0 (sem_spec_l01PickInt_i1 _ _ _ _ hy_128) rfl rfl (.cons (.ptr rfl) (.cons (.sl rfl) .nil)) rfl (.inl rfl) rfl rfl) rfl rfl (Ops.st (s := 5160) (.bd rfl rfl) rfl rfl (Ops.st (s := 5176) (.al rfl rfl) rfl rfl (Ops.s0 (s := 5192) (.sto rfl rfl rfl rfl rfl rfl) rfl rfl (Ops.nil (Run.seqO h (fun v_139 => [(4,.ptr 1 0),(5,.ptr 2 0)]) (fun (v_139 : (List Int) × Int × Int × ByteArray) => [(0,.box [RO 5 (v_139.1.map encU),VI v_139.2.1,VI v_139.2.2.1]),(1,.box [VI 0,VI 0,VS (⟨#[]⟩ : ByteArray)]),(2,.box [VI x_2,VI y_128.1,VS v_139.2.2.2])]) (fun h => ?_) (fun v_139 h => ?_))))))
 ·refine Run.seq (Run.ops hm (.p2 rfl rfl (Ops.nil (Run.block (Run.seq (Run.ops hm (.p2 rfl rfl (Ops.nil (Run.condO rfl h (fun g_140 h => ?_) (fun g_140 h => ?_))))))))))
  ·refine Run.ops hm (Ops.p rfl ?_)
   obtain ⟨y_143,hy_143,h⟩ := bindO h
   refine Ops.st (s := 17400) (Ev.call [0] [] 1 (sem_spec_l07Conf _ _ _ hy_143) rfl rfl (.cons (.ptr rfl) .nil) rfl (.inl rfl) rfl rfl) rfl rfl ?_
   obtain ⟨y_144,hy_144,h⟩ := bindO h
   refine Ops.st (s := 17416) (Ev.call [] [17400] 0 (sem_spec_ConfText _ _ _ hy_144) rfl rfl (.cons (.borrow rfl (by decide) (lendW (fun _ => rfl) _ rfl)) .nil) rfl (.inr ⟨rfl,ownL_root trivial⟩) rfl rfl) rfl rfl ?_
   exact Ops.p rfl (.p3 rfl rfl rfl (Ops.s0 (s := 17496) (.sto rfl rfl rfl rfl rfl rfl) rfl rfl (Ops.nil (⟨_,_,(gh_pk [4,5] [0,1000,5176] hB rfl rfl rfl rfl),_,h,rfl,rfl⟩))))
  ·refine Run.seq (Run.ops hm (.p2 rfl rfl (Ops.nil (Run.condO rfl h (fun g_145 h => ?_) (fun g_145 h => ?_)))))
   ·refine Run.ops hm (Ops.p rfl ?_)
    obtain ⟨y_148,hy_148,h⟩ := bindO h
    refine Ops.st (s := 25592) (Ev.call [0] [] 0 (sem_spec_l15Right _ _ _ hy_148) rfl rfl (.cons (.ptr rfl) .nil) rfl (.inl rfl) rfl rfl) rfl rfl ?_
    obtain ⟨y_149,hy_149,h⟩ := bindO h
    exact Ops.st (s := 25608) (Ev.call [] [] 0 (sem_spec_CommandText _ _ _ hy_149) rfl rfl (.cons (.agg (.d4 (.d2 .nil))) .nil) rfl (.inl rfl) rfl rfl) rfl rfl (.p3 rfl rfl rfl (Ops.p rfl (Ops.s0 (s := 25688) (.sto rfl rfl rfl rfl rfl rfl) rfl rfl (Ops.nil (⟨_,_,(gh_pk [4,5] [0,1000,5176] hB rfl rfl rfl rfl),_,h,rfl,rfl⟩)))))
   ·exact Run.skip (⟨_,_,(gh_pk [4,5] [0,1000,5176] hB rfl rfl rfl rfl),_,h,rfl,rfl⟩)
 ·refine Run.seq (Run.ops hm (Ops.p rfl (Ops.s0 (s := 29688) (.sto rfl rfl rfl rfl rfl rfl) rfl rfl (Ops.nil (Run.ret ?_)))))
  obtain rfl := someO h
  exact Ends.mkG (.inl rfl) rfl (gh_pk [0] [0] hB rfl rfl rfl rfl) rfl rfl
def spec_l16Near_l1 (N : Nat) (x_1 : (List Int)) (x_2 : (List Int)) : Nat → Int → Int → Option (Int)
 | 0,_,_ => none
 | m + 1,x_200,x_201 =>
 (if (decide (x_201 ≤ 4)) = true then
 joinP (fun (v_224 : Int) =>
 spec_l16Near_l1 N x_1 x_2 m v_224 (w64 (x_201 + 1))) fun j_224 =>
 (spec_l09In N x_1 x_201).bind fun y_227 =>
 (spec_l09In N x_2 x_201).bind fun y_228 =>
 (if ((y_227 == y_228) ^^ true) = true then
 j_224 (w64 (x_200 + 1))
 else
 j_224 x_200)
 else
 some x_200)
def spec_l16Near (N : Nat) (x_1 : (List Int)) (x_2 : (List Int)) : Option (Bool) :=
 joinP (fun (v_197 : Int) =>
 some (v_197 == 1)) fun j_197 =>
 (spec_l16Near_l1 N x_1 x_2 N 0 1).bind (fun v_215 => j_197 v_215)
theorem sem_spec_l16Near (N : Nat) (x_1 : (List Int)) (x_2 : (List Int)) (r : Bool) (h : spec_l16Near N x_1 x_2 = some r) : Says Try.prog 83 [RO 3 (x_1.map encI),RO 3 (x_2.map encI)] 0 [] (VB r) [] := by
 unfold spec_l16Near at h
 refine Says.of_run s83 Try.call83 rfl fun B hB => ?_
 have hm : B.m ≤ 1000 := by omega
 refine Run.seq (Run.ops hm (Ops.p rfl (Ops.nil (Run.seq (Run.ops hm (Ops.p rfl (Ops.nil (Run.seqO h (fun v_197 => [(5,VI v_197)]) (fun (v_197 : Int) => []) (fun h => ?_) (fun v_197 h => ?_)))))))))
 ·refine Run.seq (Run.ops hm (Ops.p rfl (Ops.nil (Run.block ?_))))
  obtain ⟨res_215,h,hk_215⟩ := bindO h
  refine Run.loop (n := N) (fun m_215 fr σ => ∃ (x_200 : Int),∃ (x_201 : Int),spec_l16Near_l1 N x_1 x_2 m_215 x_200 x_201 = some res_215 ∧ fr = [(0,RO 3 (x_1.map encI)),(1,RO 3 (x_2.map encI)),(5,VI x_200),(6,VI x_201)] ∧ σ = []) (gh_pk [0,1,5,6] [] hB rfl rfl rfl rfl) ⟨_,_,h,rfl,rfl⟩ ?_
  rintro m_215 fr σ ⟨x_200,x_201,h,rfl,rfl⟩
  obtain _ | m_215 := m_215
  ·rw [spec_l16Near_l1] at h; cases h
  rw [spec_l16Near_l1] at h
  refine Run.seq (Run.seq (Run.ops hm (.p2 rfl rfl (Ops.nil (Run.condO rfl h (fun g_218 h => ?_) (fun g_218 h => ?_))))))
  ·refine Run.skip (Run.seqO h (fun v_224 => [(0,RO 3 (x_1.map encI)),(1,RO 3 (x_2.map encI)),(5,VI v_224),(6,VI x_201)]) (fun (v_224 : Int) => []) (fun h => ?_) (fun v_224 h => ?_))
   ·refine Run.block (Run.seq (Run.ops hm (.p2 rfl rfl ?_)))
    obtain ⟨y_227,hy_227,h⟩ := bindO h
    refine Ops.st (s := 21512) (Ev.call [] [] 0 (sem_spec_l09In _ _ _ _ hy_227) rfl rfl (.d2 .nil) rfl (.inl rfl) rfl rfl) rfl rfl (.p2 rfl rfl ?_)
    obtain ⟨y_228,hy_228,h⟩ := bindO h
    refine Ops.st (s := 21560) (Ev.call [] [] 0 (sem_spec_l09In _ _ _ _ hy_228) rfl rfl (.d2 .nil) rfl (.inl rfl) rfl rfl) rfl rfl (Ops.p rfl (Ops.nil (Run.condO rfl h (fun g_229 h => ?_) (fun g_229 h => ?_))))
    ·exact Run.ops hm (.p3 rfl rfl rfl (Ops.nil (⟨_,_,(gh_pk [0,1,5,6] [] hB rfl rfl rfl rfl),_,h,rfl,rfl⟩)))
    ·exact Run.skip (⟨_,_,(gh_pk [0,1,5,6] [] hB rfl rfl rfl rfl),_,h,rfl,rfl⟩)
   ·exact Run.ops hm (.p3 rfl rfl rfl (Ops.nil (⟨m_215,Nat.lt_succ_self m_215,_,_,(gh_pk [0,1,5,6] [] hB rfl rfl rfl rfl),_,_,h,rfl,rfl⟩)))
  ·refine Run.exit ?_
   obtain rfl := someO h
   have h := hk_215
   exact ⟨_,_,(gh_pk [5] [] hB rfl rfl rfl rfl),_,h,rfl,rfl⟩
 ·refine Run.seq (Run.ops hm (.p3 rfl rfl rfl (Ops.nil (Run.ret ?_))))
  obtain rfl := someO h
  exact Ends.mkG (.inl rfl) rfl (gh_pk [0] [] hB rfl rfl rfl rfl) rfl rfl
def spec_Propose_l2 (N : Nat) (x_1 : Node) (y_1848 : (List Int)) (x_2638 : Int) : Nat → Int → Int → Int → Int → Int → Option (Int × Int × Int × Int)
 | 0,_,_,_,_,_ => none
 | m + 1,x_3336,x_3373,x_3374,x_3375,x_3376 =>
 (if (decide (x_3336 < (x_1.Peers.length : Int))) = true then
 joinP (fun (v_3414 : Int × Int × Int × Int) =>
 spec_Propose_l2 N x_1 y_1848 x_2638 m (w64 (x_3336 + 1)) v_3414.1 v_3414.2.1 v_3414.2.2.1 v_3414.2.2.2) fun j_3414 =>
 (at? x_1.Peers x_3336).bind fun x_3417 =>
 (at? y_1848 x_2638).bind fun x_3418 =>
 (if (x_3417.Id == x_3418) = true then
 (at? x_1.Peers x_3336).bind fun x_3421 =>
 j_3414 (x_3421.Id,x_3421.Next,x_3421.Match,x_3421.Sent)
 else
 j_3414 (x_3373,x_3374,x_3375,x_3376))
 else
 some (x_3373,x_3374,x_3375,x_3376))
def spec_Propose_l2_r (N : Nat) (x_1 : Node) (y_1848 : (List Int)) (x_2638 : Int) : (List Peer) → Int → Int → Int → Int → Int → Option (Int × Int × Int × Int)
 | [],x_3336,x_3373,x_3374,x_3375,x_3376 =>
 some (x_3373,x_3374,x_3375,x_3376)
 | hd :: tl,x_3336,x_3373,x_3374,x_3375,x_3376 =>
 joinP (fun (v_3414 : Int × Int × Int × Int) =>
 spec_Propose_l2_r N x_1 y_1848 x_2638 tl (w64 (x_3336 + 1)) v_3414.1 v_3414.2.1 v_3414.2.2.1 v_3414.2.2.2) fun j_3414 =>
 (some hd).bind fun x_3417 =>
 (at? y_1848 x_2638).bind fun x_3418 =>
 (if (x_3417.Id == x_3418) = true then
 (some hd).bind fun x_3421 =>
 j_3414 (x_3421.Id,x_3421.Next,x_3421.Match,x_3421.Sent)
 else
 j_3414 (x_3373,x_3374,x_3375,x_3376))
theorem spec_Propose_l2_rng (N : Nat) (x_1 : Node) (y_1848 : (List Int)) (x_2638 : Int) (hx : x_1.Peers.length ≤ 1099511627776) : ∀ (d k m : Nat) (x_3373 : Int) (x_3374 : Int) (x_3375 : Int) (x_3376 : Int),x_1.Peers.length = k + d → d < m → spec_Propose_l2 N x_1 y_1848 x_2638 m (k : Int) x_3373 x_3374 x_3375 x_3376 = spec_Propose_l2_r N x_1 y_1848 x_2638 (x_1.Peers.drop k) (k : Int) x_3373 x_3374 x_3375 x_3376 := by
 intro d
 induction d with
 | zero =>
  intro k m x_3373 x_3374 x_3375 x_3376 hd hm
  obtain ⟨m,rfl⟩ : ∃ q,m = q + 1 := ⟨m - 1,by omega⟩
  rw [spec_Propose_l2,if_neg (by simp; omega),List.drop_eq_nil_of_le (by omega),spec_Propose_l2_r]
 | succ d ih =>
  intro k m x_3373 x_3374 x_3375 x_3376 hd hm
  obtain ⟨m,rfl⟩ : ∃ q,m = q + 1 := ⟨m - 1,by omega⟩
  have hk : k < x_1.Peers.length := by omega
  rw [spec_Propose_l2,if_pos (by simp; omega),List.drop_eq_getElem_cons hk,spec_Propose_l2_r]
  have h1 := at_lt hk
  have h2 := w64_succ (k := k) (by omega)
  have h3 := ih (k + 1) m
  simp only [h1,h2,h3 _ _ _ _ (by omega) (by omega)]
theorem spec_Propose_l2_eq {N : Nat} (x_1 : Node) (y_1848 : (List Int)) (x_2638 : Int) (hx : x_1.Peers.length ≤ 1099511627776) (hN : x_1.Peers.length < N) (x_3373 : Int) (x_3374 : Int) (x_3375 : Int) (x_3376 : Int) : spec_Propose_l2 N x_1 y_1848 x_2638 N 0 x_3373 x_3374 x_3375 x_3376 = spec_Propose_l2_r N x_1 y_1848 x_2638 x_1.Peers 0 x_3373 x_3374 x_3375 x_3376 := spec_Propose_l2_rng N x_1 y_1848 x_2638 hx x_1.Peers.length 0 N x_3373 x_3374 x_3375 x_3376 (by omega) hN
def spec_Propose_l1 (N : Nat) (x_1 : Node) (y_1836 : Int) (y_1848 : (List Int)) : Nat → Int → (List Peer) → Option ((List Peer))
 | 0,_,_ => none
 | m + 1,x_2638,x_2674 =>
 (if (decide (x_2638 < ((y_1848.length : Nat) : Int))) = true then
 joinP (fun (v_3240 : (List Peer)) =>
 spec_Propose_l1 N x_1 y_1836 y_1848 m (w64 (x_2638 + 1)) v_3240) fun j_3240 =>
 (at? y_1848 x_2638).bind fun x_3244 =>
 joinP (fun (v_3333 : Int × Int × Int × Int) =>
 (cat? x_2674 ([(Peer.mk v_3333.1 v_3333.2.1 v_3333.2.2.1 v_3333.2.2.2)] : List Peer)).bind fun x_3423 =>
 j_3240 x_3423) fun j_3333 =>
 (spec_Propose_l2 N x_1 y_1848 x_2638 N 0 x_3244 (w64 (y_1836 + 1)) 0 0).bind (fun v_3403 => j_3333 (v_3403.1,v_3403.2.1,v_3403.2.2.1,v_3403.2.2.2))
 else
 some x_2674)
def spec_Propose (N : Nat) (x_1 : Node) (x_2 : Int) (x_3 : ByteArray) : Option (Node × (List Message) × Int × Bool) :=
 (spec_NodeOk N x_1).bind fun y_1785 =>
 (if (!y_1785) = true then
 some ((Node.mk 0 0 0 0 0 ([]) (Log.mk 0 0 ([])) 0 0 0 ([]) ([])),([] : List Message),0,false)
 else
 (if (x_1.Role != 2) = true then
 some ((Node.mk 0 0 0 0 0 ([]) (Log.mk 0 0 ([])) 0 0 0 ([]) ([])),([] : List Message),0,false)
 else
 (spec_EntryOk N (Entry.mk x_1.Term x_2 x_3)).bind fun y_1788 =>
 (if (!y_1788) = true then
 some ((Node.mk 0 0 0 0 0 ([]) (Log.mk 0 0 ([])) 0 0 0 ([]) ([])),([] : List Message),0,false)
 else
 (spec_l16Room N x_1).bind fun y_1790 =>
 (if (!y_1790) = true then
 some ((Node.mk 0 0 0 0 0 ([]) (Log.mk 0 0 ([])) 0 0 0 ([]) ([])),([] : List Message),0,false)
 else
 joinP (fun (v_1810 : Unit) =>
 (spec_l16Copy N x_1).bind fun y_1832 =>
 (spec_l12Last N x_1.Log).bind fun y_1836 =>
 (cat? y_1832.Log.Entries ([(Entry.mk x_1.Term x_2 x_3)] : List Entry)).bind fun x_1840 =>
 (spec_ConfOf N (Node.mk y_1832.Id y_1832.Term y_1832.Vote y_1832.Role y_1832.Lead y_1832.Conf (Log.mk y_1832.Log.Start y_1832.Log.StartTerm x_1840) y_1832.Commit y_1832.Clock y_1832.Limit y_1832.Votes y_1832.Peers)).bind fun y_1847 =>
 (spec_l16Others N y_1847 x_1.Id).bind fun y_1848 =>
 joinP (fun (v_2636 : (List Peer)) =>
 (spec_l16Commit N (Tl16Run.mk (Node.mk y_1832.Id y_1832.Term y_1832.Vote y_1832.Role y_1832.Lead y_1832.Conf (Log.mk y_1832.Log.Start y_1832.Log.StartTerm x_1840) y_1832.Commit y_1832.Clock y_1832.Limit y_1832.Votes v_2636) ([] : (List Message)))).bind fun y_3427 =>
 (spec_l16SendAll_i1 N y_3427).bind fun y_3431 =>
 some (y_3431.n,y_3431.told,(w64 (y_1836 + 1)),true)) fun j_2636 =>
 (spec_Propose_l1 N x_1 y_1836 y_1848 N 0 ([] : List Peer)).bind (fun v_3053 => j_2636 v_3053)) fun j_1810 =>
 (if (x_2 == 2) = true then
 (spec_ReadConf N x_3).bind fun y_1815 =>
 (spec_LogTerm N x_1.Log x_1.Commit).bind fun y_1822 =>
 (if (y_1822 != x_1.Term) = true then
 some ((Node.mk 0 0 0 0 0 ([]) (Log.mk 0 0 ([])) 0 0 0 ([]) ([])),([] : List Message),0,false)
 else
 (spec_l16ConfIndex N x_1).bind fun y_1824 =>
 (if (decide (y_1824 > x_1.Commit)) = true then
 some ((Node.mk 0 0 0 0 0 ([]) (Log.mk 0 0 ([])) 0 0 0 ([]) ([])),([] : List Message),0,false)
 else
 (spec_ConfOf N x_1).bind fun y_1826 =>
 (spec_l16Near N y_1826 y_1815.1).bind fun y_1827 =>
 (if (!y_1827) = true then
 some ((Node.mk 0 0 0 0 0 ([]) (Log.mk 0 0 ([])) 0 0 0 ([]) ([])),([] : List Message),0,false)
 else
 j_1810 ())))
 else
 j_1810 ())))))
theorem sem_spec_Propose (N : Nat) (x_1 : Node) (x_2 : Int) (x_3 : ByteArray) (r : Node × (List Message) × Int × Bool) (h : spec_Propose N x_1 x_2 x_3 = some r) : Says Try.prog 28 [.agg [VI x_1.Id,VI x_1.Term,VI x_1.Vote,VI x_1.Role,VI x_1.Lead,RO 3 (x_1.Conf.map encI),VI x_1.Log.Start,VI x_1.Log.StartTerm,RO 51 (x_1.Log.Entries.map encEntry),VI x_1.Commit,VI x_1.Clock,VI x_1.Limit,RO 3 (x_1.Votes.map encI),RO 135 (x_1.Peers.map encPeer)],VI x_2,VS x_3] 0 [] (.tup [.agg [VI r.1.Id,VI r.1.Term,VI r.1.Vote,VI r.1.Role,VI r.1.Lead,.sl 0 3 0 r.1.Conf.length,VI r.1.Log.Start,VI r.1.Log.StartTerm,.sl 1 51 0 r.1.Log.Entries.length,VI r.1.Commit,VI r.1.Clock,VI r.1.Limit,.sl 2 3 0 r.1.Votes.length,.sl 3 135 0 r.1.Peers.length],.sl 4 58 0 r.2.1.length,VI r.2.2.1,VB r.2.2.2]) [(0,.vec 3 (r.1.Conf.map encI)),(1,.vec 51 (r.1.Log.Entries.map encEntry)),(2,.vec 3 (r.1.Votes.map encI)),(3,.vec 135 (r.1.Peers.map encPeer)),(4,.vec 58 (r.2.1.map (encMessage false)))] := by
 unfold spec_Propose at h
 refine Says.of_run s28 Try.call28 rfl fun B hB => ?_
 have hm : B.m ≤ 1000 := by omega
 refine Run.seq (Run.ops hm (Ops.st (s := 1000) (.bx rfl rfl) rfl rfl (Ops.st (s := 1016) (.al rfl rfl) rfl rfl (.p3 rfl rfl rfl (Ops.nil (Run.seq (Run.ops hm (.p3 rfl rfl rfl (Ops.p rfl (Ops.st (s := 5160) (.bd rfl rfl) rfl rfl (Ops.st (s := 5176) (.al rfl rfl) rfl rfl (Ops.s0 (s := 5192) (.sto rfl rfl rfl rfl rfl rfl) rfl rfl (Ops.nil (Run.seq (Run.seq (Run.ops hm (Ops.p rfl ?_)))))))))))))))))
 obtain ⟨y_1785,hy_1785,h⟩ := bindO h
 refine Ops.st (s := 9208) (Ev.call [] [] 0 (sem_spec_NodeOk _ _ _ hy_1785) rfl rfl (.cons (.agg (.d4 (.d4 (.d4 (.d2 .nil))))) .nil) rfl (.inl rfl) rfl rfl) rfl rfl (.p2 rfl rfl (Ops.askO (x := .t 28) rfl h (fun g_1786 h => ?_) (fun g_1786 h => ?_)))
 ·refine Ops.gn rfl g_1786 (Ops.gn rfl g_1786 (Ops.gn rfl g_1786 (Ops.st (s := 9304) (.pkT rfl g_1786 rfl) rfl rfl (Ops.p rfl (Ops.gn rfl rfl (Ops.gn rfl rfl (Ops.gn rfl rfl (Ops.st (s := 9384) (.pkT rfl rfl rfl) rfl rfl (Ops.p rfl (Ops.gn rfl rfl (Ops.gn rfl rfl (Ops.gn rfl rfl (Ops.st (s := 9464) (.pkT rfl rfl rfl) rfl rfl (Ops.nil (Run.condT rfl rfl (Run.seq (Run.ops hm (Ops.st (s := 13288) (.bd rfl rfl) rfl rfl (Ops.st (s := 13304) (Ev.bsW (ys := ([] : List Message)) (f := (encMessage false)) rfl .nil rfl rfl rfl rfl rfl) rfl rfl (Ops.s0 (s := 13320) (.sto rfl rfl rfl rfl rfl rfl) rfl rfl (.p3 rfl rfl rfl (Ops.nil (Run.ret ?_)))))))))))))))))))))))
  obtain rfl := someO h
  exact Ends.mkG (.inl rfl) rfl (Gh.trans (Gh.trans (gh_prn [0,1,2,3] [13304] hB rfl) (gh_nil [0] [] hB rfl rfl rfl)) (gh_pk [0,1,2,3] [10000000,10000001,10000002,10000003,13304] hB rfl rfl rfl rfl)) rfl rfl
 ·refine Ops.gp rfl g_1786 rfl (Ops.gp rfl g_1786 rfl (Ops.gp rfl g_1786 rfl (Ops.st (s := 9304) (.pkF rfl g_1786 rfl) rfl rfl (Ops.p rfl (Ops.askO (x := .t 33) rfl h (fun g_1787 h => ?_) (fun g_1787 h => ?_))))))
  ·refine Ops.gn rfl g_1787 (Ops.gn rfl g_1787 (Ops.gn rfl g_1787 (Ops.st (s := 9384) (.pkT rfl g_1787 rfl) rfl rfl (Ops.p rfl (Ops.gn rfl rfl (Ops.gn rfl rfl (Ops.gn rfl rfl (Ops.st (s := 9464) (.pkT rfl rfl rfl) rfl rfl (Ops.nil (Run.condT rfl rfl (Run.seq (Run.ops hm (Ops.st (s := 13288) (.bd rfl rfl) rfl rfl (Ops.st (s := 13304) (Ev.bsW (ys := ([] : List Message)) (f := (encMessage false)) rfl .nil rfl rfl rfl rfl rfl) rfl rfl (Ops.s0 (s := 13320) (.sto rfl rfl rfl rfl rfl rfl) rfl rfl (.p3 rfl rfl rfl (Ops.nil (Run.ret ?_))))))))))))))))))
   obtain rfl := someO h
   exact Ends.mkG (.inl rfl) rfl (Gh.trans (Gh.trans (gh_prn [0,1,2,3] [13304] hB rfl) (gh_nil [0] [] hB rfl rfl rfl)) (gh_pk [0,1,2,3] [10000000,10000001,10000002,10000003,13304] hB rfl rfl rfl rfl)) rfl rfl
  ·refine Ops.gp rfl g_1787 rfl ?_
   obtain ⟨y_1788,hy_1788,h⟩ := bindO h
   refine Ops.gs (s := 9352) rfl g_1787 (Ev.call [] [] 0 (sem_spec_EntryOk _ _ _ hy_1788) rfl rfl (.cons (.agg (.d2 (.d1 .nil))) .nil) rfl (.inl rfl) rfl rfl) rfl rfl (Ops.gp rfl g_1787 rfl (Ops.st (s := 9384) (.pkF rfl g_1787 rfl) rfl rfl (Ops.p rfl (Ops.askO (x := .t 38) rfl h (fun g_1789 h => ?_) (fun g_1789 h => ?_)))))
   ·refine Ops.gn rfl g_1789 (Ops.gn rfl g_1789 (Ops.gn rfl g_1789 (Ops.st (s := 9464) (.pkT rfl g_1789 rfl) rfl rfl (Ops.nil (Run.condT rfl rfl (Run.seq (Run.ops hm (Ops.st (s := 13288) (.bd rfl rfl) rfl rfl (Ops.st (s := 13304) (Ev.bsW (ys := ([] : List Message)) (f := (encMessage false)) rfl .nil rfl rfl rfl rfl rfl) rfl rfl (Ops.s0 (s := 13320) (.sto rfl rfl rfl rfl rfl rfl) rfl rfl (.p3 rfl rfl rfl (Ops.nil (Run.ret ?_)))))))))))))
    obtain rfl := someO h
    exact Ends.mkG (.inl rfl) rfl (Gh.trans (Gh.trans (gh_prn [0,1,2,3] [13304] hB rfl) (gh_nil [0] [] hB rfl rfl rfl)) (gh_pk [0,1,2,3] [10000000,10000001,10000002,10000003,13304] hB rfl rfl rfl rfl)) rfl rfl
   ·refine Ops.gp rfl g_1789 rfl ?_
    obtain ⟨y_1790,hy_1790,h⟩ := bindO h
    refine Ops.gs (s := 9432) rfl g_1789 (Ev.call [] [] 0 (sem_spec_l16Room _ _ _ hy_1790) rfl rfl (.cons (.agg (.d4 (.d4 (.d4 (.d2 .nil))))) .nil) rfl (.inl rfl) rfl rfl) rfl rfl (Ops.gp rfl g_1789 rfl (Ops.st (s := 9464) (.pkF rfl g_1789 rfl) rfl rfl (Ops.nil (Run.condO rfl h (fun g_1791 h => ?_) (fun g_1791 h => ?_)))))
    ·refine Run.seq (Run.ops hm (Ops.st (s := 13288) (.bd rfl rfl) rfl rfl (Ops.st (s := 13304) (Ev.bsW (ys := ([] : List Message)) (f := (encMessage false)) rfl .nil rfl rfl rfl rfl rfl) rfl rfl (Ops.s0 (s := 13320) (.sto rfl rfl rfl rfl rfl rfl) rfl rfl (.p3 rfl rfl rfl (Ops.nil (Run.ret ?_)))))))
     obtain rfl := someO h
     exact Ends.mkG (.inl rfl) rfl (Gh.trans (Gh.trans (gh_prn [0,1,2,3] [13304] hB rfl) (gh_nil [0] [] hB rfl rfl rfl)) (gh_pk [0,1,2,3] [10000000,10000001,10000002,10000003,13304] hB rfl rfl rfl rfl)) rfl rfl
    ·refine Run.skip (Run.seqO h (fun v_1810 => [(3,.ptr 0 0),(6,.ptr 1 0),(10,.ptr 2 0)]) (fun (v_1810 : Unit) => [(0,.box [VI x_1.Id,VI x_1.Term,VI x_1.Vote,VI x_1.Role,VI x_1.Lead,RO 3 (x_1.Conf.map encI),VI x_1.Log.Start,VI x_1.Log.StartTerm,RO 51 (x_1.Log.Entries.map encEntry),VI x_1.Commit,VI x_1.Clock,VI x_1.Limit,RO 3 (x_1.Votes.map encI),RO 135 (x_1.Peers.map encPeer)]),(1,.box [VI 0,VI 0,VI 0,VI 0,VI 0,.sl 3 3 0 (([] : List Int).length),VI 0,VI 0,.sl 4 51 0 (([] : List Entry).length),VI 0,VI 0,VI 0,.sl 5 3 0 (([] : List Int).length),.sl 6 135 0 (([] : List Peer).length)]),(2,.box [VI x_1.Term,VI x_2,VS x_3]),(3,.vec 3 (([] : List Int).map encI)),(4,.vec 51 (([] : List Entry).map encEntry)),(5,.vec 3 (([] : List Int).map encI)),(6,.vec 135 (([] : List Peer).map encPeer))]) (fun h => ?_) (fun v_1810 h => ?_))
     ·refine Run.seq (Run.ops hm (.p2 rfl rfl (Ops.nil (Run.condO rfl h (fun g_1811 h => ?_) (fun g_1811 h => ?_)))))
      ·refine Run.seq (Run.ops hm (Ops.p rfl ?_))
       obtain ⟨y_1815,hy_1815,h⟩ := bindO h
       refine Ops.st (s := 21496) (Ev.call [] [] 1 (sem_spec_ReadConf _ _ _ hy_1815) rfl rfl (.d1 .nil) rfl (.inl rfl) rfl rfl) rfl rfl (.p3 rfl rfl rfl (.p2 rfl rfl (Ops.nil (Run.seq (Run.draw hm hmix (OpsD.p rfl (OpsD.p rfl (OpsD.p rfl (OpsD.p rfl ?_)))))))))
       obtain ⟨y_1822,hy_1822,h⟩ := bindO h
       refine OpsD.st (s := 25640) (Ev.call [] [] 0 (sem_spec_LogTerm _ _ _ _ hy_1822) rfl rfl (.cons (.agg (.d2 (.d1 .nil))) (.d1 .nil)) rfl (.inl rfl) rfl rfl) rfl rfl (OpsD.p rfl (OpsD.p rfl (OpsD.p rfl (OpsD.p rfl (OpsD.askO (x := .t 60) rfl h (fun g_1823 h => ?_) (fun g_1823 h => ?_))))))
       ·refine OpsD.gn rfl g_1823 (OpsD.gn rfl g_1823 (OpsD.gn rfl g_1823 (OpsD.gn rfl g_1823 (OpsD.gn rfl g_1823 (OpsD.st (s := 25800) (.pkT rfl g_1823 rfl) rfl rfl (OpsD.p rfl (OpsD.gn rfl rfl (OpsD.gn rfl rfl (OpsD.gn rfl rfl (OpsD.gn rfl rfl (OpsD.gn rfl rfl (OpsD.st (s := 25912) (.pkT rfl rfl rfl) rfl rfl (OpsD.nil ⟨by kernel_rfl,?_⟩)))))))))))))
        refine Run.condT rfl rfl (Run.seq (Run.ops hm (Ops.st (s := 29672) (.bd rfl rfl) rfl rfl (Ops.st (s := 29688) (Ev.bsW (ys := ([] : List Message)) (f := (encMessage false)) rfl .nil rfl rfl rfl rfl rfl) rfl rfl (Ops.s0 (s := 29704) (.sto rfl rfl rfl rfl rfl rfl) rfl rfl (.p3 rfl rfl rfl (Ops.nil (Run.ret ?_))))))))
        obtain rfl := someO h
        exact Ends.mkG (.inl rfl) rfl (Gh.trans (Gh.trans (gh_prn [0,1,2,3] [29688] hB rfl) (gh_nil [0] [] hB rfl rfl rfl)) (gh_pk [0,1,2,3] [10000000,10000001,10000002,10000003,29688] hB rfl rfl rfl rfl)) rfl rfl
       ·refine OpsD.gp rfl g_1823 rfl ?_
        obtain ⟨y_1824,hy_1824,h⟩ := bindO h
        refine OpsD.gs (s := 25736) rfl g_1823 (Ev.call [] [] 0 (sem_spec_l16ConfIndex _ _ _ hy_1824) rfl rfl (.cons (.agg (.d4 (.d4 (.d4 (.d2 .nil))))) .nil) rfl (.inl rfl) rfl rfl) rfl rfl (OpsD.gp rfl g_1823 rfl (OpsD.gp rfl g_1823 rfl (OpsD.gp rfl g_1823 rfl (OpsD.st (s := 25800) (.pkF rfl g_1823 rfl) rfl rfl (OpsD.p rfl (OpsD.askO (x := .t 67) rfl h (fun g_1825 h => ?_) (fun g_1825 h => ?_)))))))
        ·refine OpsD.gn rfl g_1825 (OpsD.gn rfl g_1825 (OpsD.gn rfl g_1825 (OpsD.gn rfl g_1825 (OpsD.gn rfl g_1825 (OpsD.st (s := 25912) (.pkT rfl g_1825 rfl) rfl rfl (OpsD.nil ⟨by kernel_rfl,?_⟩))))))
         refine Run.condT rfl rfl (Run.seq (Run.ops hm (Ops.st (s := 29672) (.bd rfl rfl) rfl rfl (Ops.st (s := 29688) (Ev.bsW (ys := ([] : List Message)) (f := (encMessage false)) rfl .nil rfl rfl rfl rfl rfl) rfl rfl (Ops.s0 (s := 29704) (.sto rfl rfl rfl rfl rfl rfl) rfl rfl (.p3 rfl rfl rfl (Ops.nil (Run.ret ?_))))))))
         obtain rfl := someO h
         exact Ends.mkG (.inl rfl) rfl (Gh.trans (Gh.trans (gh_prn [0,1,2,3] [29688] hB rfl) (gh_nil [0] [] hB rfl rfl rfl)) (gh_pk [0,1,2,3] [10000000,10000001,10000002,10000003,29688] hB rfl rfl rfl rfl)) rfl rfl
        ·refine OpsD.gp rfl g_1825 rfl ?_
         obtain ⟨y_1826,hy_1826,h⟩ := bindO h
         refine OpsD.gs (s := 25848) rfl g_1825 (Ev.call [] [] 1 (sem_spec_ConfOf _ _ _ hy_1826) rfl rfl (.cons (.agg (.d4 (.d4 (.d4 (.d2 .nil))))) .nil) rfl (.inl rfl) rfl rfl) rfl rfl (OpsD.gp rfl g_1825 rfl ?_)
         obtain ⟨y_1827,hy_1827,h⟩ := bindO h
         refine OpsD.gs (s := 25880) rfl g_1825 (Ev.call [] [25848,21496] 0 (sem_spec_l16Near _ _ _ _ hy_1827) rfl rfl (.cons (.borrow rfl (by decide) (lendW (fun _ => rfl) _ rfl)) (.cons (.borrow rfl (by decide) (lendW (fun _ => rfl) _ rfl)) .nil)) rfl (.inr ⟨rfl,ownL_root trivial⟩) rfl rfl) rfl rfl ?_
         refine OpsD.gp rfl g_1825 rfl (OpsD.st (s := 25912) (.pkF rfl g_1825 rfl) rfl rfl (OpsD.nil ⟨by kernel_rfl,?_⟩))
         refine Run.condO rfl h (fun g_1828 h => ?_) (fun g_1828 h => ?_)
         ·refine Run.seq (Run.ops hm (Ops.st (s := 29672) (.bd rfl rfl) rfl rfl (Ops.st (s := 29688) (Ev.bsW (ys := ([] : List Message)) (f := (encMessage false)) rfl .nil rfl rfl rfl rfl rfl) rfl rfl (Ops.s0 (s := 29704) (.sto rfl rfl rfl rfl rfl rfl) rfl rfl (.p3 rfl rfl rfl (Ops.nil (Run.ret ?_)))))))
          obtain rfl := someO h
          exact Ends.mkG (.inl rfl) rfl (Gh.trans (Gh.trans (gh_prn [0,1,2,3] [29688] hB rfl) (gh_nil [0] [] hB rfl rfl rfl)) (gh_pk [0,1,2,3] [10000000,10000001,10000002,10000003,29688] hB rfl rfl rfl rfl)) rfl rfl
         ·exact Run.skip (⟨_,_,(Gh.trans (Gh.trans (gh_prn [3,6,10] [1000,1016,5176] hB rfl) (gh_nil [] [1016] hB rfl rfl rfl)) (gh_pk [3,6,10] [1000,1016,5176,20000000,20000001,20000002,20000003] hB rfl rfl rfl rfl)),(),h,rfl,rfl⟩)
      ·exact Run.skip (⟨_,_,(Gh.trans (Gh.trans (gh_prn [3,6,10] [1000,1016,5176] hB rfl) (gh_nil [] [1016] hB rfl rfl rfl)) (gh_pk [3,6,10] [1000,1016,5176,20000000,20000001,20000002,20000003] hB rfl rfl rfl rfl)),(),h,rfl,rfl⟩)
     ·refine Run.seq (Run.ops hm (Ops.p rfl ?_))
      obtain ⟨y_1832,hy_1832,h⟩ := bindO h
      refine Ops.st (s := 33784) (Ev.call [] [] 4 (sem_spec_l16Copy _ _ _ hy_1832) rfl rfl (.cons (.agg (.d4 (.d4 (.d4 (.d2 .nil))))) .nil) rfl (.inl rfl) rfl rfl) rfl rfl (Ops.st (s := 33800) (.bd rfl rfl) rfl rfl (Ops.st (s := 33816) (.bx rfl rfl) rfl rfl (Ops.p rfl (Ops.nil (Run.seq (Run.ops hm (.p2 rfl rfl ?_)))))))
      obtain ⟨y_1836,hy_1836,h⟩ := bindO h
      refine Ops.st (s := 37896) (Ev.call [] [] 0 (sem_spec_l12Last _ _ _ hy_1836) rfl rfl (.cons (.agg (.d2 (.d1 .nil))) .nil) rfl (.inl rfl) rfl rfl) rfl rfl (.p2 rfl rfl (Ops.nil (Run.seq (Run.draw hm hmix (OpsD.p rfl (OpsD.p rfl (OpsD.p rfl (OpsD.p rfl (OpsD.p rfl (OpsD.p rfl (OpsD.p rfl (OpsD.p rfl (OpsD.st (s := 42088) (Ev.bsW (ys := ([(Entry.mk x_1.Term x_2 x_3)] : List Entry)) (f := encEntry) rfl (.d2 (.d1 .nil)) rfl rfl rfl rfl rfl) rfl rfl ?_)))))))))))))
      obtain ⟨x_1840,hx_1840,h⟩ := bindO h
      refine OpsD.st (s := 42104) (Ev.apW (f := encEntry) (ontoW rfl rfl rfl) (addsW rfl rfl rfl (fun _ => rfl)) rfl bt51 rfl hx_1840) rfl rfl (OpsD.p rfl (OpsD.p rfl (OpsD.p rfl (OpsD.p rfl (OpsD.s0 (s := 42184) (.sto rfl rfl rfl rfl rfl rfl) rfl rfl (OpsD.nil ⟨by kernel_rfl,?_⟩))))))
      refine Run.seq (Run.draw hm hmix (OpsD.p rfl (OpsD.p rfl (OpsD.p rfl (OpsD.p rfl ?_)))))
      obtain ⟨y_1847,hy_1847,h⟩ := bindO h
      refine OpsD.st (s := 46120) (Ev.call [] [33784,42104,33786,33787] 1 (sem_spec_ConfOf _ _ _ hy_1847) rfl rfl (.cons (.agg (.d4 (.d1 (.cons (.borrow rfl (by decide) (lendW (fun _ => rfl) _ rfl)) (.d2 (.cons (.borrow rfl (by decide) (lendW (fun _ => rfl) _ rfl)) (.d2 (.d1 (.cons (.borrow rfl (by decide) (lendW (fun _ => rfl) _ rfl)) (.cons (.borrow rfl (by decide) (lendW (fun _ => rfl) _ rfl)) .nil)))))))))) .nil) rfl (.inr ⟨rfl,ownL_root ⟨own_rows (fun _ => rfl) _,trivial⟩⟩) rfl rfl) rfl rfl ?_
      refine OpsD.p rfl (OpsD.p rfl ?_)
      obtain ⟨y_1848,hy_1848,h⟩ := bindO h
      refine OpsD.st (s := 46168) (Ev.call [] [46120] 1 (sem_spec_l16Others _ _ _ _ hy_1848) rfl rfl (.cons (.borrow rfl (by decide) (lendW (fun _ => rfl) _ rfl)) (.d1 .nil)) rfl (.inr ⟨rfl,ownL_root ⟨own_rows (fun _ => rfl) _,trivial⟩⟩) rfl rfl) rfl rfl ?_
      refine OpsD.p rfl (OpsD.nil ⟨by kernel_rfl,?_⟩)
      refine Run.seq (Run.ops hm (Ops.st (s := 50152) (Ev.bsW (ys := ([] : List Peer)) (f := encPeer) rfl .nil rfl rfl rfl rfl rfl) rfl rfl (Ops.p rfl (Ops.nil (Run.seqO h (fun v_2636 => [(6,.ptr 0 0),(13,.ptr 1 0),(14,VI (w64 (y_1836 + 1))),(16,.sl 2 135 0 v_2636.length)]) (fun (v_2636 : (List Peer)) => [(0,.box [VI 0,VI 0,VI 0,VI 0,VI 0,.sl 3 3 0 (([] : (List Int)).length),VI 0,VI 0,.sl 4 51 0 (([] : (List Entry)).length),VI 0,VI 0,VI 0,.sl 5 3 0 (([] : (List Int)).length),.sl 6 135 0 (([] : (List Peer)).length)]),(1,.box [VI y_1832.Id,VI y_1832.Term,VI y_1832.Vote,VI y_1832.Role,VI y_1832.Lead,.sl 7 3 0 y_1832.Conf.length,VI y_1832.Log.Start,VI y_1832.Log.StartTerm,.sl 8 51 0 x_1840.length,VI y_1832.Commit,VI y_1832.Clock,VI y_1832.Limit,.sl 9 3 0 y_1832.Votes.length,.sl 10 135 0 y_1832.Peers.length,.sl 11 58 0 (([] : (List Message)).length)]),(2,.vec 135 (v_2636.map encPeer)),(3,.vec 3 (([] : (List Int)).map encI)),(4,.vec 51 (([] : (List Entry)).map encEntry)),(5,.vec 3 (([] : (List Int)).map encI)),(6,.vec 135 (([] : (List Peer)).map encPeer)),(7,.vec 3 (y_1832.Conf.map encI)),(8,.vec 51 (x_1840.map encEntry)),(9,.vec 3 (y_1832.Votes.map encI)),(10,.vec 135 (y_1832.Peers.map encPeer)),(11,.vec 58 (([] : (List Message)).map (encMessage false)))]) (fun h => ?_) (fun v_2636 h => ?_))))))
      ·refine Run.seq (Run.ops hm (Ops.p rfl (Ops.nil (Run.block ?_))))
       obtain ⟨res_3053,h,hk_3053⟩ := bindO h
       refine Run.loop (n := N) (fun m_3053 fr σ => ∃ (x_2638 : Int),∃ (x_2674 : (List Peer)),spec_Propose_l1 N x_1 y_1836 y_1848 m_3053 x_2638 x_2674 = some res_3053 ∧ fr = [(3,.ptr 0 0),(6,.ptr 1 0),(13,.ptr 2 0),(14,VI (w64 (y_1836 + 1))),(15,.sl 3 3 0 y_1848.length),(16,.sl 4 135 0 x_2674.length),(17,VI x_2638)] ∧ σ = [(0,.box [VI x_1.Id,VI x_1.Term,VI x_1.Vote,VI x_1.Role,VI x_1.Lead,RO 3 (x_1.Conf.map encI),VI x_1.Log.Start,VI x_1.Log.StartTerm,RO 51 (x_1.Log.Entries.map encEntry),VI x_1.Commit,VI x_1.Clock,VI x_1.Limit,RO 3 (x_1.Votes.map encI),RO 135 (x_1.Peers.map encPeer)]),(1,.box [VI 0,VI 0,VI 0,VI 0,VI 0,.sl 5 3 0 (([] : (List Int)).length),VI 0,VI 0,.sl 6 51 0 (([] : (List Entry)).length),VI 0,VI 0,VI 0,.sl 7 3 0 (([] : (List Int)).length),.sl 8 135 0 (([] : (List Peer)).length)]),(2,.box [VI y_1832.Id,VI y_1832.Term,VI y_1832.Vote,VI y_1832.Role,VI y_1832.Lead,.sl 9 3 0 y_1832.Conf.length,VI y_1832.Log.Start,VI y_1832.Log.StartTerm,.sl 10 51 0 x_1840.length,VI y_1832.Commit,VI y_1832.Clock,VI y_1832.Limit,.sl 11 3 0 y_1832.Votes.length,.sl 12 135 0 y_1832.Peers.length,.sl 13 58 0 (([] : (List Message)).length)]),(3,.vec 3 (y_1848.map encI)),(4,.vec 135 (x_2674.map encPeer)),(5,.vec 3 (([] : (List Int)).map encI)),(6,.vec 51 (([] : (List Entry)).map encEntry)),(7,.vec 3 (([] : (List Int)).map encI)),(8,.vec 135 (([] : (List Peer)).map encPeer)),(9,.vec 3 (y_1832.Conf.map encI)),(10,.vec 51 (x_1840.map encEntry)),(11,.vec 3 (y_1832.Votes.map encI)),(12,.vec 135 (y_1832.Peers.map encPeer)),(13,.vec 58 (([] : (List Message)).map (encMessage false)))]) (Gh.trans (Gh.trans (gh_prn [3,6,13,14,15,16,17] [0,1,33816,46168,50152,3,4,5,6,33784,42104,33786,33787] hB rfl) (gh_nil [] [33816] hB rfl rfl rfl)) (gh_pk [3,6,13,14,15,16,17] [0,1,33816,46168,50152,3,4,5,6,33784,42104,33786,33787,20000000] hB rfl rfl rfl rfl)) ⟨_,_,h,rfl,rfl⟩ ?_
       rintro m_3053 fr σ ⟨x_2638,x_2674,h,rfl,rfl⟩
       obtain _ | m_3053 := m_3053
       ·rw [spec_Propose_l1] at h; cases h
       rw [spec_Propose_l1] at h
       refine Run.seq (Run.seq (Run.ops hm (.p3 rfl rfl rfl (Ops.p rfl (Ops.nil (Run.condO rfl h (fun g_3056 h => ?_) (fun g_3056 h => ?_)))))))
       ·refine Run.skip (Run.seqO h (fun v_3240 => [(3,.ptr 0 0),(6,.ptr 1 0),(13,.ptr 2 0),(14,VI (w64 (y_1836 + 1))),(15,.sl 3 3 0 y_1848.length),(16,.sl 4 135 0 v_3240.length),(17,VI x_2638)]) (fun (v_3240 : (List Peer)) => [(0,.box [VI x_1.Id,VI x_1.Term,VI x_1.Vote,VI x_1.Role,VI x_1.Lead,RO 3 (x_1.Conf.map encI),VI x_1.Log.Start,VI x_1.Log.StartTerm,RO 51 (x_1.Log.Entries.map encEntry),VI x_1.Commit,VI x_1.Clock,VI x_1.Limit,RO 3 (x_1.Votes.map encI),RO 135 (x_1.Peers.map encPeer)]),(1,.box [VI 0,VI 0,VI 0,VI 0,VI 0,.sl 5 3 0 (([] : (List Int)).length),VI 0,VI 0,.sl 6 51 0 (([] : (List Entry)).length),VI 0,VI 0,VI 0,.sl 7 3 0 (([] : (List Int)).length),.sl 8 135 0 (([] : (List Peer)).length)]),(2,.box [VI y_1832.Id,VI y_1832.Term,VI y_1832.Vote,VI y_1832.Role,VI y_1832.Lead,.sl 9 3 0 y_1832.Conf.length,VI y_1832.Log.Start,VI y_1832.Log.StartTerm,.sl 10 51 0 x_1840.length,VI y_1832.Commit,VI y_1832.Clock,VI y_1832.Limit,.sl 11 3 0 y_1832.Votes.length,.sl 12 135 0 y_1832.Peers.length,.sl 13 58 0 (([] : (List Message)).length)]),(3,.vec 3 (y_1848.map encI)),(4,.vec 135 (v_3240.map encPeer)),(5,.vec 3 (([] : (List Int)).map encI)),(6,.vec 51 (([] : (List Entry)).map encEntry)),(7,.vec 3 (([] : (List Int)).map encI)),(8,.vec 135 (([] : (List Peer)).map encPeer)),(9,.vec 3 (y_1832.Conf.map encI)),(10,.vec 51 (x_1840.map encEntry)),(11,.vec 3 (y_1832.Votes.map encI)),(12,.vec 135 (y_1832.Peers.map encPeer)),(13,.vec 58 (([] : (List Message)).map (encMessage false)))]) (fun h => ?_) (fun v_3240 h => ?_))
        ·refine Run.block (Run.seq (Run.ops hm (.p2 rfl rfl ?_)))
         obtain ⟨x_3244,hx_3244,h⟩ := bindO h
         refine Ops.st (s := 66568) (Ev.iaW rfl rfl rfl hx_3244) rfl rfl (Ops.st (s := 66584) (Ev.ldE (f := encI) rfl rfl (at_some hx_3244).2 rfl rfl rfl) rfl rfl (Ops.p rfl (Ops.st (s := 66616) (.bd rfl rfl) rfl rfl (Ops.st (s := 66632) (.al rfl rfl) rfl rfl (Ops.s0 (s := 66648) (.sto rfl rfl rfl rfl rfl rfl) rfl rfl (Ops.nil (Run.seqO h (fun v_3333 => [(3,.ptr 0 0),(6,.ptr 1 0),(13,.ptr 2 0),(14,VI (w64 (y_1836 + 1))),(15,.sl 3 3 0 y_1848.length),(16,.sl 4 135 0 x_2674.length),(17,VI x_2638),(18,.ptr 5 0)]) (fun (v_3333 : Int × Int × Int × Int) => [(0,.box [VI x_1.Id,VI x_1.Term,VI x_1.Vote,VI x_1.Role,VI x_1.Lead,RO 3 (x_1.Conf.map encI),VI x_1.Log.Start,VI x_1.Log.StartTerm,RO 51 (x_1.Log.Entries.map encEntry),VI x_1.Commit,VI x_1.Clock,VI x_1.Limit,RO 3 (x_1.Votes.map encI),RO 135 (x_1.Peers.map encPeer)]),(1,.box [VI 0,VI 0,VI 0,VI 0,VI 0,.sl 6 3 0 (([] : (List Int)).length),VI 0,VI 0,.sl 7 51 0 (([] : (List Entry)).length),VI 0,VI 0,VI 0,.sl 8 3 0 (([] : (List Int)).length),.sl 9 135 0 (([] : (List Peer)).length)]),(2,.box [VI y_1832.Id,VI y_1832.Term,VI y_1832.Vote,VI y_1832.Role,VI y_1832.Lead,.sl 10 3 0 y_1832.Conf.length,VI y_1832.Log.Start,VI y_1832.Log.StartTerm,.sl 11 51 0 x_1840.length,VI y_1832.Commit,VI y_1832.Clock,VI y_1832.Limit,.sl 12 3 0 y_1832.Votes.length,.sl 13 135 0 y_1832.Peers.length,.sl 14 58 0 (([] : (List Message)).length)]),(3,.vec 3 (y_1848.map encI)),(4,.vec 135 (x_2674.map encPeer)),(5,.box [VI v_3333.1,VI v_3333.2.1,VI v_3333.2.2.1,VI v_3333.2.2.2]),(6,.vec 3 (([] : (List Int)).map encI)),(7,.vec 51 (([] : (List Entry)).map encEntry)),(8,.vec 3 (([] : (List Int)).map encI)),(9,.vec 135 (([] : (List Peer)).map encPeer)),(10,.vec 3 (y_1832.Conf.map encI)),(11,.vec 51 (x_1840.map encEntry)),(12,.vec 3 (y_1832.Votes.map encI)),(13,.vec 135 (y_1832.Peers.map encPeer)),(14,.vec 58 (([] : (List Message)).map (encMessage false)))]) (fun h => ?_) (fun v_3333 h => ?_))))))))
         ·refine Run.seq (Run.ops hm (Ops.p rfl (Ops.nil (Run.block ?_))))
          obtain ⟨res_3403,h,hk_3403⟩ := bindO h
          refine Run.loop (n := N) (fun m_3403 fr σ => ∃ (x_3336 : Int),∃ (x_3373 : Int),∃ (x_3374 : Int),∃ (x_3375 : Int),∃ (x_3376 : Int),spec_Propose_l2 N x_1 y_1848 x_2638 m_3403 x_3336 x_3373 x_3374 x_3375 x_3376 = some res_3403 ∧ fr = [(3,.ptr 0 0),(6,.ptr 1 0),(13,.ptr 2 0),(14,VI (w64 (y_1836 + 1))),(15,.sl 3 3 0 y_1848.length),(16,.sl 4 135 0 x_2674.length),(17,VI x_2638),(18,.ptr 5 0),(19,VI x_3336)] ∧ σ = [(0,.box [VI x_1.Id,VI x_1.Term,VI x_1.Vote,VI x_1.Role,VI x_1.Lead,RO 3 (x_1.Conf.map encI),VI x_1.Log.Start,VI x_1.Log.StartTerm,RO 51 (x_1.Log.Entries.map encEntry),VI x_1.Commit,VI x_1.Clock,VI x_1.Limit,RO 3 (x_1.Votes.map encI),RO 135 (x_1.Peers.map encPeer)]),(1,.box [VI 0,VI 0,VI 0,VI 0,VI 0,.sl 6 3 0 (([] : (List Int)).length),VI 0,VI 0,.sl 7 51 0 (([] : (List Entry)).length),VI 0,VI 0,VI 0,.sl 8 3 0 (([] : (List Int)).length),.sl 9 135 0 (([] : (List Peer)).length)]),(2,.box [VI y_1832.Id,VI y_1832.Term,VI y_1832.Vote,VI y_1832.Role,VI y_1832.Lead,.sl 10 3 0 y_1832.Conf.length,VI y_1832.Log.Start,VI y_1832.Log.StartTerm,.sl 11 51 0 x_1840.length,VI y_1832.Commit,VI y_1832.Clock,VI y_1832.Limit,.sl 12 3 0 y_1832.Votes.length,.sl 13 135 0 y_1832.Peers.length,.sl 14 58 0 (([] : (List Message)).length)]),(3,.vec 3 (y_1848.map encI)),(4,.vec 135 (x_2674.map encPeer)),(5,.box [VI x_3373,VI x_3374,VI x_3375,VI x_3376]),(6,.vec 3 (([] : (List Int)).map encI)),(7,.vec 51 (([] : (List Entry)).map encEntry)),(8,.vec 3 (([] : (List Int)).map encI)),(9,.vec 135 (([] : (List Peer)).map encPeer)),(10,.vec 3 (y_1832.Conf.map encI)),(11,.vec 51 (x_1840.map encEntry)),(12,.vec 3 (y_1832.Votes.map encI)),(13,.vec 135 (y_1832.Peers.map encPeer)),(14,.vec 58 (([] : (List Message)).map (encMessage false)))]) (gh_pk [3,6,13,14,15,16,17,18,19] [0,1,2,3,4,66632,5,6,7,8,9,10,11,12,13] hB rfl rfl rfl rfl) ⟨_,_,_,_,_,h,rfl,rfl⟩ ?_
          rintro m_3403 fr σ ⟨x_3336,x_3373,x_3374,x_3375,x_3376,h,rfl,rfl⟩
          obtain _ | m_3403 := m_3403
          ·rw [spec_Propose_l2] at h; cases h
          rw [spec_Propose_l2] at h
          refine Run.seq (Run.seq (Run.ops hm (.p3 rfl rfl rfl (Ops.st (s := 74776) (Ev.lnF rfl) rfl rfl (Ops.p rfl (Ops.nil (Run.condO rfl h (fun g_3406 h => ?_) (fun g_3406 h => ?_))))))))
          ·refine Run.skip (Run.seqO h (fun v_3414 => [(3,.ptr 0 0),(6,.ptr 1 0),(13,.ptr 2 0),(14,VI (w64 (y_1836 + 1))),(15,.sl 3 3 0 y_1848.length),(16,.sl 4 135 0 x_2674.length),(17,VI x_2638),(18,.ptr 5 0),(19,VI x_3336)]) (fun (v_3414 : Int × Int × Int × Int) => [(0,.box [VI x_1.Id,VI x_1.Term,VI x_1.Vote,VI x_1.Role,VI x_1.Lead,RO 3 (x_1.Conf.map encI),VI x_1.Log.Start,VI x_1.Log.StartTerm,RO 51 (x_1.Log.Entries.map encEntry),VI x_1.Commit,VI x_1.Clock,VI x_1.Limit,RO 3 (x_1.Votes.map encI),RO 135 (x_1.Peers.map encPeer)]),(1,.box [VI 0,VI 0,VI 0,VI 0,VI 0,.sl 6 3 0 (([] : (List Int)).length),VI 0,VI 0,.sl 7 51 0 (([] : (List Entry)).length),VI 0,VI 0,VI 0,.sl 8 3 0 (([] : (List Int)).length),.sl 9 135 0 (([] : (List Peer)).length)]),(2,.box [VI y_1832.Id,VI y_1832.Term,VI y_1832.Vote,VI y_1832.Role,VI y_1832.Lead,.sl 10 3 0 y_1832.Conf.length,VI y_1832.Log.Start,VI y_1832.Log.StartTerm,.sl 11 51 0 x_1840.length,VI y_1832.Commit,VI y_1832.Clock,VI y_1832.Limit,.sl 12 3 0 y_1832.Votes.length,.sl 13 135 0 y_1832.Peers.length,.sl 14 58 0 (([] : (List Message)).length)]),(3,.vec 3 (y_1848.map encI)),(4,.vec 135 (x_2674.map encPeer)),(5,.box [VI v_3414.1,VI v_3414.2.1,VI v_3414.2.2.1,VI v_3414.2.2.2]),(6,.vec 3 (([] : (List Int)).map encI)),(7,.vec 51 (([] : (List Entry)).map encEntry)),(8,.vec 3 (([] : (List Int)).map encI)),(9,.vec 135 (([] : (List Peer)).map encPeer)),(10,.vec 3 (y_1832.Conf.map encI)),(11,.vec 51 (x_1840.map encEntry)),(12,.vec 3 (y_1832.Votes.map encI)),(13,.vec 135 (y_1832.Peers.map encPeer)),(14,.vec 58 (([] : (List Message)).map (encMessage false)))]) (fun h => ?_) (fun v_3414 h => ?_))
           ·refine Run.block (Run.seq (Run.draw hm hmix (OpsD.p rfl (OpsD.p rfl (OpsD.p rfl ?_)))))
            obtain ⟨x_3417,hx_3417,h⟩ := bindO h
            refine OpsD.st (s := 82968) (Ev.iaF rfl rfl hx_3417) rfl rfl (OpsD.p rfl (OpsD.p rfl (OpsD.p rfl (OpsD.p rfl ?_))))
            obtain ⟨x_3418,hx_3418,h⟩ := bindO h
            refine OpsD.st (s := 83048) (Ev.iaW rfl rfl rfl hx_3418) rfl rfl (OpsD.st (s := 83064) (Ev.ldE (f := encI) rfl rfl (at_some hx_3418).2 rfl rfl rfl) rfl rfl (OpsD.p rfl (OpsD.nil ⟨by kernel_rfl,?_⟩)))
            refine Run.condO rfl h (fun g_3419 h => ?_) (fun g_3419 h => ?_)
            ·refine Run.ops hm (.p3 rfl rfl rfl ?_)
             obtain ⟨x_3421,hx_3421,h⟩ := bindO h
             exact Ops.st (s := 87064) (Ev.iaF rfl rfl hx_3421) rfl rfl (Ops.p rfl (Ops.s0 (s := 87096) (.sto rfl rfl rfl rfl rfl rfl) rfl rfl (Ops.nil (⟨_,_,(gh_pk [3,6,13,14,15,16,17,18,19] [0,1,2,3,4,5,6,7,8,9,10,11,12,13,14] hB rfl rfl rfl rfl),_,h,rfl,rfl⟩))))
            ·exact Run.skip (⟨_,_,(gh_pk [3,6,13,14,15,16,17,18,19] [0,1,2,3,4,5,6,7,8,9,10,11,12,13,14] hB rfl rfl rfl rfl),_,h,rfl,rfl⟩)
           ·exact Run.ops hm (.p3 rfl rfl rfl (Ops.nil (⟨m_3403,Nat.lt_succ_self m_3403,_,_,(gh_pk [3,6,13,14,15,16,17,18,19] [0,1,2,3,4,5,6,7,8,9,10,11,12,13,14] hB rfl rfl rfl rfl),_,_,_,_,_,h,rfl,rfl⟩)))
          ·refine Run.exit ?_
           obtain rfl := someO h
           have h := hk_3403
           exact ⟨_,_,(gh_pk [3,6,13,14,15,16,17,18] [0,1,2,3,4,5,6,7,8,9,10,11,12,13,14] hB rfl rfl rfl rfl),_,h,rfl,rfl⟩
         ·refine Run.ops hm (.p2 rfl rfl (Ops.st (s := 91144) (Ev.bsW (ys := ([(Peer.mk v_3333.1 v_3333.2.1 v_3333.2.2.1 v_3333.2.2.2)] : List Peer)) (f := encPeer) rfl (.d4 .nil) rfl rfl rfl rfl rfl) rfl rfl ?_))
          obtain ⟨x_3423,hx_3423,h⟩ := bindO h
          exact Ops.st (s := 91160) (Ev.apW (f := encPeer) (ontoW rfl rfl rfl) (addsW rfl rfl rfl (fun _ => rfl)) rfl bt135 rfl hx_3423) rfl rfl (Ops.p rfl (Ops.nil (⟨_,_,(gh_pk [3,6,13,14,15,16,17] [0,1,2,3,91160,6,7,8,9,10,11,12,13,14] hB rfl rfl rfl rfl),_,h,rfl,rfl⟩)))
        ·exact Run.ops hm (.p3 rfl rfl rfl (Ops.nil (⟨m_3053,Nat.lt_succ_self m_3053,_,_,(gh_pk [3,6,13,14,15,16,17] [0,1,2,3,4,5,6,7,8,9,10,11,12,13] hB rfl rfl rfl rfl),_,_,h,rfl,rfl⟩)))
       ·refine Run.exit ?_
        obtain rfl := someO h
        have h := hk_3053
        exact ⟨_,_,(gh_pk [6,13,14,16] [1,2,4,5,6,7,8,9,10,11,12,13] hB rfl rfl rfl rfl),_,h,rfl,rfl⟩
      ·refine Run.seq (Run.ops hm (.p3 rfl rfl rfl (.p2 rfl rfl (Ops.s0 (s := 95288) (.sto rfl rfl rfl rfl rfl rfl) rfl rfl (Ops.nil (Run.seq (Run.ops hm (Ops.p rfl ?_))))))))
       obtain ⟨y_3427,hy_3427,h⟩ := bindO h
       refine Ops.st (s := 99320) (Ev.call [1,7,8,9,2,11] [] 5 (sem_spec_l16Commit _ _ _ hy_3427) rfl rfl (.cons (.ptr rfl) .nil) rfl (.inl rfl) rfl rfl) rfl rfl (Ops.nil (Run.seq (Run.ops hm (Ops.p rfl ?_))))
       obtain ⟨y_3431,hy_3431,h⟩ := bindO h
       refine Ops.st (s := 103416) (Ev.call [1,99320,99321,99322,99323,99324] [] 5 (sem_spec_l16SendAll_i1 _ _ _ hy_3431) rfl rfl (.cons (.ptr rfl) .nil) rfl (.inl rfl) rfl rfl) rfl rfl (Ops.nil (Run.seq (Run.draw hm hmix (OpsD.p rfl (OpsD.p rfl (OpsD.p rfl (OpsD.p rfl (OpsD.p rfl (OpsD.p rfl (OpsD.p rfl (OpsD.p rfl (OpsD.p rfl (OpsD.s0 (s := 107640) (.sto rfl rfl rfl rfl rfl rfl) rfl rfl (OpsD.p rfl (OpsD.p rfl (OpsD.p rfl (OpsD.nil ⟨by kernel_rfl,?_⟩)))))))))))))))))
       refine Run.ret ?_
       obtain rfl := someO h
       exact Ends.mkG (.inl rfl) rfl (gh_pk [0,1,2,3] [103416,103417,103418,103419,103420] hB rfl rfl rfl rfl) rfl rfl
def spec_LogBehind (N : Nat) (x_1 : Log) (x_2 : Int) (x_3 : Int) : Option (Log) :=
 joinP (fun (v_152 : (List Entry)) =>
 some (Log.mk x_2 x_3 v_152)) fun j_152 =>
 (spec_LogOk N x_1).bind fun y_159 =>
 (if y_159 = true then
 (spec_l12Last N x_1).bind fun y_161 =>
 (spec_l01In N x_2 x_1.Start y_161).bind fun y_162 =>
 (if y_162 = true then
 (spec_LogTerm N x_1 x_2).bind fun y_164 =>
 (if (y_164 == x_3) = true then
 (drop? x_1.Entries (w64 (x_2 - x_1.Start))).bind fun x_168 =>
 (cat? ([] : List Entry) x_168).bind fun x_169 =>
 j_152 x_169
 else
 j_152 ([] : (List Entry)))
 else
 j_152 ([] : (List Entry)))
 else
 j_152 ([] : (List Entry)))
theorem sem_spec_LogBehind (N : Nat) (x_1 : Log) (x_2 : Int) (x_3 : Int) (r : Log) (h : spec_LogBehind N x_1 x_2 x_3 = some r) : Says Try.prog 123 [.agg [VI x_1.Start,VI x_1.StartTerm,RO 51 (x_1.Entries.map encEntry)],VI x_2,VI x_3] 0 [] (.agg [VI r.Start,VI r.StartTerm,.sl 0 51 0 r.Entries.length]) [(0,.vec 51 (r.Entries.map encEntry))] := by
 unfold spec_LogBehind at h
 refine Says.of_run s123 Try.call123 rfl fun B hB => ?_
 have hm : B.m ≤ 1000 := by omega
 refine Run.seq (Run.ops hm (Ops.st (s := 1000) (.bx rfl rfl) rfl rfl (Ops.st (s := 1016) (.al rfl rfl) rfl rfl (Ops.nil (Run.seq (Run.ops hm (.p2 rfl rfl (Ops.st (s := 5128) (.bd rfl rfl) rfl rfl (Ops.st (s := 5144) (.al rfl rfl) rfl rfl (Ops.s0 (s := 5160) (.sto rfl rfl rfl rfl rfl rfl) rfl rfl (Ops.nil (Run.seqO h (fun v_152 => [(6,.ptr 0 0),(7,.ptr 1 0)]) (fun (v_152 : (List Entry)) => [(0,.box [VI 0,VI 0,.sl 2 51 0 (([] : List Entry).length)]),(1,.box [VI x_2,VI x_3,.sl 3 51 0 v_152.length]),(2,.vec 51 (([] : List Entry).map encEntry)),(3,.vec 51 (v_152.map encEntry))]) (fun h => ?_) (fun v_152 h => ?_)))))))))))))
 ·refine Run.seq (Run.draw hm hmix (OpsD.p rfl ?_))
  obtain ⟨y_159,hy_159,h⟩ := bindO h
  refine OpsD.st (s := 9208) (Ev.call [] [] 0 (sem_spec_LogOk _ _ _ hy_159) rfl rfl (.cons (.agg (.d2 (.d1 .nil))) .nil) rfl (.inl rfl) rfl rfl) rfl rfl (OpsD.p rfl (OpsD.askO (x := .t 13) rfl h (fun g_160 h => ?_) (fun g_160 h => ?_)))
  ·refine OpsD.gp rfl g_160 rfl (OpsD.gp rfl g_160 rfl (OpsD.gp rfl g_160 rfl (OpsD.gp rfl g_160 rfl ?_)))
   obtain ⟨y_161,hy_161,h⟩ := bindO h
   refine OpsD.gs (s := 9304) rfl g_160 (Ev.call [] [] 0 (sem_spec_l12Last _ _ _ hy_161) rfl rfl (.cons (.agg (.d2 (.d1 .nil))) .nil) rfl (.inl rfl) rfl rfl) rfl rfl ?_
   obtain ⟨y_162,hy_162,h⟩ := bindO h
   refine OpsD.gs (s := 9320) rfl g_160 (Ev.call [] [] 0 (sem_spec_l01In _ _ _ _ _ hy_162) rfl rfl (.d2 (.d1 .nil)) rfl (.inl rfl) rfl rfl) rfl rfl (OpsD.st (s := 9336) (.pkT rfl g_160 rfl) rfl rfl (OpsD.p rfl (OpsD.askO (x := .t 21) rfl h (fun g_163 h => ?_) (fun g_163 h => ?_))))
   ·refine OpsD.gp rfl g_163 rfl (OpsD.gp rfl g_163 rfl ?_)
    obtain ⟨y_164,hy_164,h⟩ := bindO h
    refine OpsD.gs (s := 9400) rfl g_163 (Ev.call [] [] 0 (sem_spec_LogTerm _ _ _ _ hy_164) rfl rfl (.cons (.agg (.d2 (.d1 .nil))) (.d1 .nil)) rfl (.inl rfl) rfl rfl) rfl rfl (OpsD.gp rfl g_163 rfl (OpsD.gp rfl g_163 rfl (OpsD.st (s := 9448) (.pkT rfl g_163 rfl) rfl rfl (OpsD.nil ⟨by kernel_rfl,?_⟩))))
    refine Run.condO rfl h (fun g_165 h => ?_) (fun g_165 h => ?_)
    ·refine Run.ops hm (Ops.st (s := 13288) (Ev.bsW (ys := ([] : List Entry)) (f := encEntry) rfl .nil rfl rfl rfl rfl rfl) rfl rfl (.p3 rfl rfl rfl (.p3 rfl rfl rfl ?_)))
     obtain ⟨x_168,hx_168,h⟩ := bindO h
     refine Ops.st (s := 13400) (Ev.slFl rfl rfl hx_168) rfl rfl ?_
     obtain ⟨x_169,hx_169,h⟩ := bindO h
     exact Ops.st (s := 13416) (Ev.apW (f := encEntry) (ontoW rfl rfl rfl) (addsF rfl) rfl bt51 rfl hx_169) rfl rfl (Ops.p rfl (Ops.s0 (s := 13448) (.sto rfl rfl rfl rfl rfl rfl) rfl rfl (Ops.nil (⟨_,_,(Gh.trans (Gh.trans (gh_prn [6,7] [1016,5144,13416] hB rfl) (gh_nil [] [1016] hB rfl rfl rfl)) (gh_pk [6,7] [1016,5144,20000000,13416] hB rfl rfl rfl rfl)),_,h,rfl,rfl⟩))))
    ·exact Run.skip (⟨_,_,(Gh.trans (Gh.trans (gh_prn [6,7] [1016,5144] hB rfl) (gh_nil [] [1016,5144] hB rfl rfl rfl)) (gh_pk [6,7] [1016,5144,20000000,20000064] hB rfl rfl rfl rfl)),_,h,rfl,rfl⟩)
   ·refine OpsD.gn rfl g_163 (OpsD.gn rfl g_163 (OpsD.gn rfl g_163 (OpsD.gn rfl g_163 (OpsD.gn rfl g_163 (OpsD.st (s := 9448) (.pkF rfl g_163 rfl) rfl rfl (OpsD.nil ⟨by kernel_rfl,?_⟩))))))
    exact Run.condF rfl rfl (Run.skip (⟨_,_,(Gh.trans (Gh.trans (gh_prn [6,7] [1016,5144] hB rfl) (gh_nil [] [1016,5144] hB rfl rfl rfl)) (gh_pk [6,7] [1016,5144,20000000,20000064] hB rfl rfl rfl rfl)),_,h,rfl,rfl⟩))
  ·refine OpsD.gn rfl g_160 (OpsD.gn rfl g_160 (OpsD.gn rfl g_160 (OpsD.gn rfl g_160 (OpsD.gn rfl g_160 (OpsD.gn rfl g_160 (OpsD.st (s := 9336) (.pkF rfl g_160 rfl) rfl rfl (OpsD.p rfl (OpsD.gn rfl rfl (OpsD.gn rfl rfl (OpsD.gn rfl rfl (OpsD.gn rfl rfl (OpsD.gn rfl rfl (OpsD.st (s := 9448) (.pkF rfl rfl rfl) rfl rfl (OpsD.nil ⟨by kernel_rfl,?_⟩))))))))))))))
   exact Run.condF rfl rfl (Run.skip (⟨_,_,(Gh.trans (Gh.trans (gh_prn [6,7] [1016,5144] hB rfl) (gh_nil [] [1016,5144] hB rfl rfl rfl)) (gh_pk [6,7] [1016,5144,20000000,20000064] hB rfl rfl rfl rfl)),_,h,rfl,rfl⟩))
 ·refine Run.seq (Run.ops hm (Ops.p rfl (Ops.s0 (s := 17400) (.sto rfl rfl rfl rfl rfl rfl) rfl rfl (Ops.nil (Run.ret ?_)))))
  obtain rfl := someO h
  exact Ends.mkG (.inl rfl) rfl (gh_pk [0] [3] hB rfl rfl rfl rfl) rfl rfl
end Go.Proofs.Ytehknbpmpbghhaa.Pe.FnSettles
