/- Functions,as pure functions; and that Go does just that. -/
import Derived.Test.YtehknbpmpbghhaaPeFFnSettles0
namespace Go.Proofs.Ytehknbpmpbghhaa.Pe.FnSettles
open Go Go.RowKit
set_option linter.unusedVariables false
set_option linter.unusedSimpArgs false
set_option maxHeartbeats 40000000
def spec_ConfOf (N : Nat) (x_1 : Node) : Option ((List Int)) :=
 (spec_ConfAt N x_1 100120).bind fun y_103 =>
 some y_103
theorem sem_spec_ConfOf (N : Nat) (x_1 : Node) (r : (List Int)) (h : spec_ConfOf N x_1 = some r) : Says Try.prog 84 [.agg [VI x_1.Id,VI x_1.Term,VI x_1.Vote,VI x_1.Role,VI x_1.Lead,RO 3 (x_1.Conf.map encI),VI x_1.Log.Start,VI x_1.Log.StartTerm,RO 51 (x_1.Log.Entries.map encEntry),VI x_1.Commit,VI x_1.Clock,VI x_1.Limit,RO 3 (x_1.Votes.map encI),RO 135 (x_1.Peers.map encPeer)]] 0 [] (.sl 0 3 0 r.length) [(0,.vec 3 (r.map encI))] := by
 unfold spec_ConfOf at h
 refine Says.of_run s84 Try.call84 rfl fun B hB => ?_
 have hm : B.m ≤ 1000 := by omega
 refine Run.seq (Run.ops hm (Ops.st (s := 1000) (.bx rfl rfl) rfl rfl (Ops.p rfl (Ops.nil (Run.seq (Run.ops hm (Ops.p rfl ?_)))))))
 obtain ⟨y_103,hy_103,h⟩ := bindO h
 refine Ops.st (s := 5112) (Ev.call [] [] 1 (sem_spec_ConfAt _ _ _ _ hy_103) rfl rfl (.cons (.agg (.d4 (.d4 (.d4 (.d2 .nil))))) (.d1 .nil)) rfl (.inl rfl) rfl rfl) rfl rfl (Ops.p rfl (Ops.nil (Run.ret ?_)))
 obtain rfl := someO h
 exact Ends.mkG (.inl rfl) rfl (gh_pk [0] [5112] hB rfl rfl rfl rfl) rfl rfl
def spec_l16Others_l1 (N : Nat) (x_1 : (List Int)) (x_2 : Int) : Nat → Int → (List Int) → Option ((List Int))
 | 0,_,_ => none
 | m + 1,x_224,x_225 =>
 (if (decide (x_224 < (x_1.length : Int))) = true then
 joinP (fun (v_254 : (List Int)) =>
 spec_l16Others_l1 N x_1 x_2 m (w64 (x_224 + 1)) v_254) fun j_254 =>
 (at? x_1 x_224).bind fun x_256 =>
 (if (x_256 != x_2) = true then
 (at? x_1 x_224).bind fun x_260 =>
 (cat? x_225 ([x_260] : List Int)).bind fun x_261 =>
 j_254 x_261
 else
 j_254 x_225)
 else
 some x_225)
def spec_l16Others_l1_r (N : Nat) (x_1 : (List Int)) (x_2 : Int) : (List Int) → Int → (List Int) → Option ((List Int))
 | [],x_224,x_225 =>
 some x_225
 | hd :: tl,x_224,x_225 =>
 joinP (fun (v_254 : (List Int)) =>
 spec_l16Others_l1_r N x_1 x_2 tl (w64 (x_224 + 1)) v_254) fun j_254 =>
 (some hd).bind fun x_256 =>
 (if (x_256 != x_2) = true then
 (some hd).bind fun x_260 =>
 (cat? x_225 ([x_260] : List Int)).bind fun x_261 =>
 j_254 x_261
 else
 j_254 x_225)
theorem spec_l16Others_l1_rng (N : Nat) (x_1 : (List Int)) (x_2 : Int) (hx : x_1.length ≤ 1099511627776) : ∀ (d k m : Nat) (x_225 : (List Int)),x_1.length = k + d → d < m → spec_l16Others_l1 N x_1 x_2 m (k : Int) x_225 = spec_l16Others_l1_r N x_1 x_2 (x_1.drop k) (k : Int) x_225 := by
 intro d
 induction d with
 | zero =>
  intro k m x_225 hd hm
  obtain ⟨m,rfl⟩ : ∃ q,m = q + 1 := ⟨m - 1,by omega⟩
  rw [spec_l16Others_l1,if_neg (by simp; omega),List.drop_eq_nil_of_le (by omega),spec_l16Others_l1_r]
 | succ d ih =>
  intro k m x_225 hd hm
  obtain ⟨m,rfl⟩ : ∃ q,m = q + 1 := ⟨m - 1,by omega⟩
  have hk : k < x_1.length := by omega
  rw [spec_l16Others_l1,if_pos (by simp; omega),List.drop_eq_getElem_cons hk,spec_l16Others_l1_r]
  have h1 := at_lt hk
  have h2 := w64_succ (k := k) (by omega)
  have h3 := ih (k + 1) m
  simp only [h1,h2,h3 _ (by omega) (by omega)]
theorem spec_l16Others_l1_eq {N : Nat} (x_1 : (List Int)) (x_2 : Int) (hx : x_1.length ≤ 1099511627776) (hN : x_1.length < N) (x_225 : (List Int)) : spec_l16Others_l1 N x_1 x_2 N 0 x_225 = spec_l16Others_l1_r N x_1 x_2 x_1 0 x_225 := spec_l16Others_l1_rng N x_1 x_2 hx x_1.length 0 N x_225 (by omega) hN
def spec_l16Others (N : Nat) (x_1 : (List Int)) (x_2 : Int) : Option ((List Int)) :=
 joinP (fun (v_221 : (List Int)) =>
 some v_221) fun j_221 =>
 (spec_l16Others_l1 N x_1 x_2 N 0 ([] : List Int)).bind (fun v_243 => j_221 v_243)
theorem sem_spec_l16Others (N : Nat) (x_1 : (List Int)) (x_2 : Int) (r : (List Int)) (h : spec_l16Others N x_1 x_2 = some r) : Says Try.prog 86 [RO 3 (x_1.map encI),VI x_2] 0 [] (.sl 0 3 0 r.length) [(0,.vec 3 (r.map encI))] := by
 unfold spec_l16Others at h
 refine Says.of_run s86 Try.call86 rfl fun B hB => ?_
 have hm : B.m ≤ 1000 := by omega
 refine Run.seq (Run.ops hm (Ops.p rfl (Ops.nil (Run.seq (Run.ops hm (Ops.st (s := 5096) (Ev.bsW (ys := ([] : List Int)) (f := encI) rfl .nil rfl rfl rfl rfl rfl) rfl rfl (Ops.p rfl (Ops.nil (Run.seqO h (fun v_221 => [(5,.sl 0 3 0 v_221.length)]) (fun (v_221 : (List Int)) => [(0,.vec 3 (v_221.map encI))]) (fun h => ?_) (fun v_221 h => ?_))))))))))
 ·refine Run.seq (Run.ops hm (Ops.p rfl (Ops.nil (Run.block ?_))))
  obtain ⟨res_243,h,hk_243⟩ := bindO h
  refine Run.loop (n := N) (fun m_243 fr σ => ∃ (x_224 : Int),∃ (x_225 : (List Int)),spec_l16Others_l1 N x_1 x_2 m_243 x_224 x_225 = some res_243 ∧ fr = [(0,RO 3 (x_1.map encI)),(1,VI x_2),(5,.sl 0 3 0 x_225.length),(6,VI x_224)] ∧ σ = [(0,.vec 3 (x_225.map encI))]) (gh_pk [0,1,5,6] [5096] hB rfl rfl rfl rfl) ⟨_,_,h,rfl,rfl⟩ ?_
  rintro m_243 fr σ ⟨x_224,x_225,h,rfl,rfl⟩
  obtain _ | m_243 := m_243
  ·rw [spec_l16Others_l1] at h; cases h
  rw [spec_l16Others_l1] at h
  refine Run.seq (Run.seq (Run.ops hm (.p2 rfl rfl (Ops.st (s := 13320) (Ev.lnF rfl) rfl rfl (Ops.p rfl (Ops.nil (Run.condO rfl h (fun g_246 h => ?_) (fun g_246 h => ?_))))))))
  ·refine Run.skip (Run.seqO h (fun v_254 => [(0,RO 3 (x_1.map encI)),(1,VI x_2),(5,.sl 0 3 0 v_254.length),(6,VI x_224)]) (fun (v_254 : (List Int)) => [(0,.vec 3 (v_254.map encI))]) (fun h => ?_) (fun v_254 h => ?_))
   ·refine Run.block (Run.seq (Run.ops hm (.p2 rfl rfl ?_)))
    obtain ⟨x_256,hx_256,h⟩ := bindO h
    refine Ops.st (s := 21512) (Ev.iaF rfl rfl hx_256) rfl rfl (.p3 rfl rfl rfl (Ops.nil (Run.condO rfl h (fun g_257 h => ?_) (fun g_257 h => ?_))))
    ·refine Run.ops hm (.p3 rfl rfl rfl ?_)
     obtain ⟨x_260,hx_260,h⟩ := bindO h
     refine Ops.st (s := 25624) (Ev.iaF rfl rfl hx_260) rfl rfl (Ops.p rfl (Ops.st (s := 25656) (Ev.bsW (ys := ([x_260] : List Int)) (f := encI) rfl (.d1 .nil) rfl rfl rfl rfl rfl) rfl rfl ?_))
     obtain ⟨x_261,hx_261,h⟩ := bindO h
     exact Ops.st (s := 25672) (Ev.apW (f := encI) (ontoW rfl rfl rfl) (addsW rfl rfl rfl (fun _ => rfl)) rfl bt3 rfl hx_261) rfl rfl (Ops.p rfl (Ops.nil (⟨_,_,(gh_pk [0,1,5,6] [25672] hB rfl rfl rfl rfl),_,h,rfl,rfl⟩)))
    ·exact Run.skip (⟨_,_,(gh_pk [0,1,5,6] [0] hB rfl rfl rfl rfl),_,h,rfl,rfl⟩)
   ·exact Run.ops hm (.p3 rfl rfl rfl (Ops.nil (⟨m_243,Nat.lt_succ_self m_243,_,_,(gh_pk [0,1,5,6] [0] hB rfl rfl rfl rfl),_,_,h,rfl,rfl⟩)))
  ·refine Run.exit ?_
   obtain rfl := someO h
   have h := hk_243
   exact ⟨_,_,(gh_pk [5] [0] hB rfl rfl rfl rfl),_,h,rfl,rfl⟩
 ·refine Run.seq (Run.ops hm (.p2 rfl rfl (Ops.nil (Run.ret ?_))))
  obtain rfl := someO h
  exact Ends.mkG (.inl rfl) rfl (gh_pk [0] [0] hB rfl rfl rfl rfl) rfl rfl
def spec_NodeOk_l1 (N : Nat) (x_1 : Node) (y_472 : Int × Int) (v_521 : (List Int)) : Nat → Int → Option ((Bool) ⊕ (Unit))
 | 0,_ => none
 | m + 1,x_631 =>
 (if (decide (x_631 < ((v_521.length : Nat) : Int))) = true then
 (at? x_1.Peers x_631).bind fun x_714 =>
 (at? v_521 x_631).bind fun x_722 =>
 (if (x_714.Id != x_722) = true then
 some (Sum.inl false)
 else
 (spec_l01In N x_714.Next 1 (w64 (y_472.1 + 1))).bind fun y_724 =>
 (if (!y_724) = true then
 some (Sum.inl false)
 else
 (spec_l01In N x_714.Match 0 (w64 (x_714.Next - 1))).bind fun y_726 =>
 (if (!y_726) = true then
 some (Sum.inl false)
 else
 (spec_l01In N x_714.Sent 0 20000).bind fun y_728 =>
 (if (!y_728) = true then
 some (Sum.inl false)
 else
 spec_NodeOk_l1 N x_1 y_472 v_521 m (w64 (x_631 + 1))))))
 else
 some (Sum.inr ()))
def spec_NodeOk (N : Nat) (x_1 : Node) : Option (Bool) :=
 (spec_l01In N x_1.Id 1 4).bind fun y_455 =>
 (if (!y_455) = true then
 some false
 else
 (spec_ConfOk N x_1.Conf).bind fun y_457 =>
 (if (!y_457) = true then
 some false
 else
 (spec_LogOk N x_1.Log).bind fun y_459 =>
 (if (!y_459) = true then
 some false
 else
 (spec_l01In N x_1.Term 0 100000).bind fun y_461 =>
 (if (!y_461) = true then
 some false
 else
 (spec_l01In N x_1.Vote 0 4).bind fun y_463 =>
 (if (!y_463) = true then
 some false
 else
 (spec_l01In N x_1.Lead 0 4).bind fun y_465 =>
 (if (!y_465) = true then
 some false
 else
 (spec_l01In N x_1.Role 0 2).bind fun y_467 =>
 (if (!y_467) = true then
 some false
 else
 (spec_LogLast N x_1.Log).bind fun y_472 =>
 joinP (fun (v_494 : Unit) =>
 joinP (fun (v_521 : (List Int)) =>
 (if ((x_1.Peers.length : Int) != ((v_521.length : Nat) : Int)) = true then
 some false
 else
 joinP (fun (v_629 : Unit) =>
 some true) fun j_629 =>
 (spec_NodeOk_l1 N x_1 y_472 v_521 N 0).bind (Sum.elim (fun v_687 => some v_687) (fun (v_688 : Unit) => j_629 ())))) fun j_521 =>
 (if (x_1.Role == 2) = true then
 (spec_ConfOf N x_1).bind fun y_525 =>
 (spec_l16Others N y_525 x_1.Id).bind fun y_526 =>
 j_521 y_526
 else
 j_521 ([] : List Int))) fun j_494 =>
 (if (decide (x_1.Term < y_472.2)) = true then
 some false
 else
 (spec_l01In N x_1.Commit x_1.Log.Start y_472.1).bind fun y_506 =>
 (if (!y_506) = true then
 some false
 else
 (spec_l01In N x_1.Clock 0 20).bind fun y_508 =>
 (if (!y_508) = true then
 some false
 else
 (spec_l01In N x_1.Limit 1 20).bind fun y_510 =>
 (if (!y_510) = true then
 some false
 else
 (spec_l07Rise N x_1.Votes 1 4).bind fun y_512 =>
 (if (!y_512) = true then
 some false
 else
 (if (decide ((x_1.Votes.length : Int) > 0)) = true then
 (if (x_1.Role != 1) = true then
 some false
 else
 j_494 ())
 else
 j_494 ())))))))))))))
theorem sem_spec_NodeOk (N : Nat) (x_1 : Node) (r : Bool) (h : spec_NodeOk N x_1 = some r) : Says Try.prog 78 [.agg [VI x_1.Id,VI x_1.Term,VI x_1.Vote,VI x_1.Role,VI x_1.Lead,RO 3 (x_1.Conf.map encI),VI x_1.Log.Start,VI x_1.Log.StartTerm,RO 51 (x_1.Log.Entries.map encEntry),VI x_1.Commit,VI x_1.Clock,VI x_1.Limit,RO 3 (x_1.Votes.map encI),RO 135 (x_1.Peers.map encPeer)]] 0 [] (VB r) [] := by
 unfold spec_NodeOk at h
 refine Says.of_run s78 Try.call78 rfl fun B hB => ?_
 have hm : B.m ≤ 1000 := by omega
 refine Run.seq (Run.ops hm (Ops.st (s := 1000) (.bx rfl rfl) rfl rfl (Ops.p rfl (Ops.nil (Run.seq (Run.seq (Run.ops hm (.p2 rfl rfl ?_))))))))
 obtain ⟨y_455,hy_455,h⟩ := bindO h
 refine Ops.st (s := 5128) (Ev.call [] [] 0 (sem_spec_l01In _ _ _ _ _ hy_455) rfl rfl (.d2 (.d1 .nil)) rfl (.inl rfl) rfl rfl) rfl rfl (.p2 rfl rfl (Ops.askO (x := .t 12) rfl h (fun g_456 h => ?_) (fun g_456 h => ?_)))
 ·refine Ops.gn rfl g_456 (Ops.gn rfl g_456 (Ops.gn rfl g_456 (Ops.gn rfl g_456 (Ops.st (s := 5240) (.pkT rfl g_456 rfl) rfl rfl (Ops.p rfl (Ops.gn rfl rfl (Ops.gn rfl rfl (Ops.gn rfl rfl (Ops.gn rfl rfl (Ops.st (s := 5336) (.pkT rfl rfl rfl) rfl rfl (Ops.p rfl (Ops.gn rfl rfl (Ops.gn rfl rfl (Ops.gn rfl rfl (Ops.gn rfl rfl (Ops.st (s := 5432) (.pkT rfl rfl rfl) rfl rfl (Ops.p rfl (Ops.gn rfl rfl (Ops.gn rfl rfl (Ops.gn rfl rfl (Ops.gn rfl rfl (Ops.st (s := 5528) (.pkT rfl rfl rfl) rfl rfl (Ops.p rfl (Ops.gn rfl rfl (Ops.gn rfl rfl (Ops.gn rfl rfl (Ops.gn rfl rfl (Ops.st (s := 5624) (.pkT rfl rfl rfl) rfl rfl (Ops.p rfl (Ops.gn rfl rfl (Ops.gn rfl rfl (Ops.gn rfl rfl (Ops.gn rfl rfl (Ops.st (s := 5720) (.pkT rfl rfl rfl) rfl rfl (Ops.nil (Run.condT rfl rfl (Run.seq (Run.ops hm (Ops.p rfl (Ops.nil (Run.ret ?_)))))))))))))))))))))))))))))))))))))))))
  obtain rfl := someO h
  exact Ends.mkG (.inl rfl) rfl (gh_pk [0] [] hB rfl rfl rfl rfl) rfl rfl
 ·refine Ops.gp rfl g_456 rfl (Ops.gp rfl g_456 rfl ?_)
  obtain ⟨y_457,hy_457,h⟩ := bindO h
  refine Ops.gs (s := 5208) rfl g_456 (Ev.call [] [] 0 (sem_spec_ConfOk _ _ _ hy_457) rfl rfl (.d1 .nil) rfl (.inl rfl) rfl rfl) rfl rfl (Ops.gp rfl g_456 rfl (Ops.st (s := 5240) (.pkF rfl g_456 rfl) rfl rfl (Ops.p rfl (Ops.askO (x := .t 18) rfl h (fun g_458 h => ?_) (fun g_458 h => ?_)))))
  ·refine Ops.gn rfl g_458 (Ops.gn rfl g_458 (Ops.gn rfl g_458 (Ops.gn rfl g_458 (Ops.st (s := 5336) (.pkT rfl g_458 rfl) rfl rfl (Ops.p rfl (Ops.gn rfl rfl (Ops.gn rfl rfl (Ops.gn rfl rfl (Ops.gn rfl rfl (Ops.st (s := 5432) (.pkT rfl rfl rfl) rfl rfl (Ops.p rfl (Ops.gn rfl rfl (Ops.gn rfl rfl (Ops.gn rfl rfl (Ops.gn rfl rfl (Ops.st (s := 5528) (.pkT rfl rfl rfl) rfl rfl (Ops.p rfl (Ops.gn rfl rfl (Ops.gn rfl rfl (Ops.gn rfl rfl (Ops.gn rfl rfl (Ops.st (s := 5624) (.pkT rfl rfl rfl) rfl rfl (Ops.p rfl (Ops.gn rfl rfl (Ops.gn rfl rfl (Ops.gn rfl rfl (Ops.gn rfl rfl (Ops.st (s := 5720) (.pkT rfl rfl rfl) rfl rfl (Ops.nil (Run.condT rfl rfl (Run.seq (Run.ops hm (Ops.p rfl (Ops.nil (Run.ret ?_)))))))))))))))))))))))))))))))))))
   obtain rfl := someO h
   exact Ends.mkG (.inl rfl) rfl (gh_pk [0] [] hB rfl rfl rfl rfl) rfl rfl
  ·refine Ops.gp rfl g_458 rfl (Ops.gp rfl g_458 rfl ?_)
   obtain ⟨y_459,hy_459,h⟩ := bindO h
   refine Ops.gs (s := 5304) rfl g_458 (Ev.call [] [] 0 (sem_spec_LogOk _ _ _ hy_459) rfl rfl (.cons (.agg (.d2 (.d1 .nil))) .nil) rfl (.inl rfl) rfl rfl) rfl rfl (Ops.gp rfl g_458 rfl (Ops.st (s := 5336) (.pkF rfl g_458 rfl) rfl rfl (Ops.p rfl (Ops.askO (x := .t 24) rfl h (fun g_460 h => ?_) (fun g_460 h => ?_)))))
   ·refine Ops.gn rfl g_460 (Ops.gn rfl g_460 (Ops.gn rfl g_460 (Ops.gn rfl g_460 (Ops.st (s := 5432) (.pkT rfl g_460 rfl) rfl rfl (Ops.p rfl (Ops.gn rfl rfl (Ops.gn rfl rfl (Ops.gn rfl rfl (Ops.gn rfl rfl (Ops.st (s := 5528) (.pkT rfl rfl rfl) rfl rfl (Ops.p rfl (Ops.gn rfl rfl (Ops.gn rfl rfl (Ops.gn rfl rfl (Ops.gn rfl rfl (Ops.st (s := 5624) (.pkT rfl rfl rfl) rfl rfl (Ops.p rfl (Ops.gn rfl rfl (Ops.gn rfl rfl (Ops.gn rfl rfl (Ops.gn rfl rfl (Ops.st (s := 5720) (.pkT rfl rfl rfl) rfl rfl (Ops.nil (Run.condT rfl rfl (Run.seq (Run.ops hm (Ops.p rfl (Ops.nil (Run.ret ?_)))))))))))))))))))))))))))))
    obtain rfl := someO h
    exact Ends.mkG (.inl rfl) rfl (gh_pk [0] [] hB rfl rfl rfl rfl) rfl rfl
   ·refine Ops.gp rfl g_460 rfl (Ops.gp rfl g_460 rfl ?_)
    obtain ⟨y_461,hy_461,h⟩ := bindO h
    refine Ops.gs (s := 5400) rfl g_460 (Ev.call [] [] 0 (sem_spec_l01In _ _ _ _ _ hy_461) rfl rfl (.d2 (.d1 .nil)) rfl (.inl rfl) rfl rfl) rfl rfl (Ops.gp rfl g_460 rfl (Ops.st (s := 5432) (.pkF rfl g_460 rfl) rfl rfl (Ops.p rfl (Ops.askO (x := .t 30) rfl h (fun g_462 h => ?_) (fun g_462 h => ?_)))))
    ·refine Ops.gn rfl g_462 (Ops.gn rfl g_462 (Ops.gn rfl g_462 (Ops.gn rfl g_462 (Ops.st (s := 5528) (.pkT rfl g_462 rfl) rfl rfl (Ops.p rfl (Ops.gn rfl rfl (Ops.gn rfl rfl (Ops.gn rfl rfl (Ops.gn rfl rfl (Ops.st (s := 5624) (.pkT rfl rfl rfl) rfl rfl (Ops.p rfl (Ops.gn rfl rfl (Ops.gn rfl rfl (Ops.gn rfl rfl (Ops.gn rfl rfl (Ops.st (s := 5720) (.pkT rfl rfl rfl) rfl rfl (Ops.nil (Run.condT rfl rfl (Run.seq (Run.ops hm (Ops.p rfl (Ops.nil (Run.ret ?_)))))))))))))))))))))))
     obtain rfl := someO h
     exact Ends.mkG (.inl rfl) rfl (gh_pk [0] [] hB rfl rfl rfl rfl) rfl rfl
    ·refine Ops.gp rfl g_462 rfl (Ops.gp rfl g_462 rfl ?_)
     obtain ⟨y_463,hy_463,h⟩ := bindO h
     refine Ops.gs (s := 5496) rfl g_462 (Ev.call [] [] 0 (sem_spec_l01In _ _ _ _ _ hy_463) rfl rfl (.d2 (.d1 .nil)) rfl (.inl rfl) rfl rfl) rfl rfl (Ops.gp rfl g_462 rfl (Ops.st (s := 5528) (.pkF rfl g_462 rfl) rfl rfl (Ops.p rfl (Ops.askO (x := .t 36) rfl h (fun g_464 h => ?_) (fun g_464 h => ?_)))))
     ·refine Ops.gn rfl g_464 (Ops.gn rfl g_464 (Ops.gn rfl g_464 (Ops.gn rfl g_464 (Ops.st (s := 5624) (.pkT rfl g_464 rfl) rfl rfl (Ops.p rfl (Ops.gn rfl rfl (Ops.gn rfl rfl (Ops.gn rfl rfl (Ops.gn rfl rfl (Ops.st (s := 5720) (.pkT rfl rfl rfl) rfl rfl (Ops.nil (Run.condT rfl rfl (Run.seq (Run.ops hm (Ops.p rfl (Ops.nil (Run.ret ?_)))))))))))))))))
      obtain rfl := someO h
      exact Ends.mkG (.inl rfl) rfl (gh_pk [0] [] hB rfl rfl rfl rfl) rfl rfl
     ·refine Ops.gp rfl g_464 rfl (Ops.gp rfl g_464 rfl ?_)
      obtain ⟨y_465,hy_465,h⟩ := bindO h
      refine Ops.gs (s := 5592) rfl g_464 (Ev.call [] [] 0 (sem_spec_l01In _ _ _ _ _ hy_465) rfl rfl (.d2 (.d1 .nil)) rfl (.inl rfl) rfl rfl) rfl rfl (Ops.gp rfl g_464 rfl (Ops.st (s := 5624) (.pkF rfl g_464 rfl) rfl rfl (Ops.p rfl (Ops.askO (x := .t 42) rfl h (fun g_466 h => ?_) (fun g_466 h => ?_)))))
      ·refine Ops.gn rfl g_466 (Ops.gn rfl g_466 (Ops.gn rfl g_466 (Ops.gn rfl g_466 (Ops.st (s := 5720) (.pkT rfl g_466 rfl) rfl rfl (Ops.nil (Run.condT rfl rfl (Run.seq (Run.ops hm (Ops.p rfl (Ops.nil (Run.ret ?_)))))))))))
       obtain rfl := someO h
       exact Ends.mkG (.inl rfl) rfl (gh_pk [0] [] hB rfl rfl rfl rfl) rfl rfl
      ·refine Ops.gp rfl g_466 rfl (Ops.gp rfl g_466 rfl ?_)
       obtain ⟨y_467,hy_467,h⟩ := bindO h
       refine Ops.gs (s := 5688) rfl g_466 (Ev.call [] [] 0 (sem_spec_l01In _ _ _ _ _ hy_467) rfl rfl (.d2 (.d1 .nil)) rfl (.inl rfl) rfl rfl) rfl rfl (Ops.gp rfl g_466 rfl (Ops.st (s := 5720) (.pkF rfl g_466 rfl) rfl rfl (Ops.nil (Run.condO rfl h (fun g_468 h => ?_) (fun g_468 h => ?_)))))
       ·refine Run.seq (Run.ops hm (Ops.p rfl (Ops.nil (Run.ret ?_))))
        obtain rfl := someO h
        exact Ends.mkG (.inl rfl) rfl (gh_pk [0] [] hB rfl rfl rfl rfl) rfl rfl
       ·refine Run.skip (Run.seq (Run.ops hm (.p2 rfl rfl ?_)))
        obtain ⟨y_472,hy_472,h⟩ := bindO h
        refine Ops.st (s := 13320) (Ev.call [] [] 0 (sem_spec_LogLast _ _ _ hy_472) rfl rfl (.cons (.agg (.d2 (.d1 .nil))) .nil) rfl (.inl rfl) rfl rfl) rfl rfl (.p3 rfl rfl rfl (.p2 rfl rfl (Ops.nil (Run.seqO h (fun v_494 => [(1,.ptr 0 0),(3,VI y_472.1)]) (fun (v_494 : Unit) => [(0,.box [VI x_1.Id,VI x_1.Term,VI x_1.Vote,VI x_1.Role,VI x_1.Lead,RO 3 (x_1.Conf.map encI),VI x_1.Log.Start,VI x_1.Log.StartTerm,RO 51 (x_1.Log.Entries.map encEntry),VI x_1.Commit,VI x_1.Clock,VI x_1.Limit,RO 3 (x_1.Votes.map encI),RO 135 (x_1.Peers.map encPeer)])]) (fun h => ?_) (fun v_494 h => ?_)))))
        ·refine Run.seq (Run.ops hm (.p3 rfl rfl rfl (.p2 rfl rfl (Ops.askO (x := .t 58) rfl h (fun g_505 h => ?_) (fun g_505 h => ?_)))))
         ·refine Ops.gn rfl g_505 (Ops.gn rfl g_505 (Ops.gn rfl g_505 (Ops.gn rfl g_505 (Ops.gn rfl g_505 (Ops.gn rfl g_505 (Ops.gn rfl g_505 (Ops.gn rfl g_505 (Ops.st (s := 17592) (.pkT rfl g_505 rfl) rfl rfl (Ops.p rfl (Ops.gn rfl rfl (Ops.gn rfl rfl (Ops.gn rfl rfl (Ops.gn rfl rfl (Ops.st (s := 17688) (.pkT rfl rfl rfl) rfl rfl (Ops.p rfl (Ops.gn rfl rfl (Ops.gn rfl rfl (Ops.gn rfl rfl (Ops.gn rfl rfl (Ops.st (s := 17784) (.pkT rfl rfl rfl) rfl rfl (Ops.p rfl (Ops.gn rfl rfl (Ops.gn rfl rfl (Ops.gn rfl rfl (Ops.gn rfl rfl (Ops.st (s := 17880) (.pkT rfl rfl rfl) rfl rfl (Ops.p rfl (Ops.gn rfl rfl (Ops.gn rfl rfl (Ops.gn rfl rfl (Ops.gn rfl rfl (Ops.gn rfl rfl (Ops.gu rfl (Ops.gu rfl (Ops.gu rfl (Ops.gn rfl rfl (Ops.st (s := 18056) (.pkT rfl rfl rfl) rfl rfl (Ops.nil (Run.condT rfl rfl (Run.seq (Run.ops hm (Ops.p rfl (Ops.nil (Run.ret ?_))))))))))))))))))))))))))))))))))))))))))))
          obtain rfl := someO h
          exact Ends.mkG (.inl rfl) rfl (gh_pk [0] [] hB rfl rfl rfl rfl) rfl rfl
         ·refine Ops.gp rfl g_505 rfl (Ops.gp rfl g_505 rfl (Ops.gp rfl g_505 rfl (Ops.gp rfl g_505 rfl (Ops.gp rfl g_505 rfl (Ops.gp rfl g_505 rfl ?_)))))
          obtain ⟨y_506,hy_506,h⟩ := bindO h
          refine Ops.gs (s := 17560) rfl g_505 (Ev.call [] [] 0 (sem_spec_l01In _ _ _ _ _ hy_506) rfl rfl (.d2 (.d1 .nil)) rfl (.inl rfl) rfl rfl) rfl rfl (Ops.gp rfl g_505 rfl (Ops.st (s := 17592) (.pkF rfl g_505 rfl) rfl rfl (Ops.p rfl (Ops.askO (x := .t 68) rfl h (fun g_507 h => ?_) (fun g_507 h => ?_)))))
          ·refine Ops.gn rfl g_507 (Ops.gn rfl g_507 (Ops.gn rfl g_507 (Ops.gn rfl g_507 (Ops.st (s := 17688) (.pkT rfl g_507 rfl) rfl rfl (Ops.p rfl (Ops.gn rfl rfl (Ops.gn rfl rfl (Ops.gn rfl rfl (Ops.gn rfl rfl (Ops.st (s := 17784) (.pkT rfl rfl rfl) rfl rfl (Ops.p rfl (Ops.gn rfl rfl (Ops.gn rfl rfl (Ops.gn rfl rfl (Ops.gn rfl rfl (Ops.st (s := 17880) (.pkT rfl rfl rfl) rfl rfl (Ops.p rfl (Ops.gn rfl rfl (Ops.gn rfl rfl (Ops.gn rfl rfl (Ops.gn rfl rfl (Ops.gn rfl rfl (Ops.gu rfl (Ops.gu rfl (Ops.gu rfl (Ops.gn rfl rfl (Ops.st (s := 18056) (.pkT rfl rfl rfl) rfl rfl (Ops.nil (Run.condT rfl rfl (Run.seq (Run.ops hm (Ops.p rfl (Ops.nil (Run.ret ?_))))))))))))))))))))))))))))))))))
           obtain rfl := someO h
           exact Ends.mkG (.inl rfl) rfl (gh_pk [0] [] hB rfl rfl rfl rfl) rfl rfl
          ·refine Ops.gp rfl g_507 rfl (Ops.gp rfl g_507 rfl ?_)
           obtain ⟨y_508,hy_508,h⟩ := bindO h
           refine Ops.gs (s := 17656) rfl g_507 (Ev.call [] [] 0 (sem_spec_l01In _ _ _ _ _ hy_508) rfl rfl (.d2 (.d1 .nil)) rfl (.inl rfl) rfl rfl) rfl rfl (Ops.gp rfl g_507 rfl (Ops.st (s := 17688) (.pkF rfl g_507 rfl) rfl rfl (Ops.p rfl (Ops.askO (x := .t 74) rfl h (fun g_509 h => ?_) (fun g_509 h => ?_)))))
           ·refine Ops.gn rfl g_509 (Ops.gn rfl g_509 (Ops.gn rfl g_509 (Ops.gn rfl g_509 (Ops.st (s := 17784) (.pkT rfl g_509 rfl) rfl rfl (Ops.p rfl (Ops.gn rfl rfl (Ops.gn rfl rfl (Ops.gn rfl rfl (Ops.gn rfl rfl (Ops.st (s := 17880) (.pkT rfl rfl rfl) rfl rfl (Ops.p rfl (Ops.gn rfl rfl (Ops.gn rfl rfl (Ops.gn rfl rfl (Ops.gn rfl rfl (Ops.gn rfl rfl (Ops.gu rfl (Ops.gu rfl (Ops.gu rfl (Ops.gn rfl rfl (Ops.st (s := 18056) (.pkT rfl rfl rfl) rfl rfl (Ops.nil (Run.condT rfl rfl (Run.seq (Run.ops hm (Ops.p rfl (Ops.nil (Run.ret ?_))))))))))))))))))))))))))))
            obtain rfl := someO h
            exact Ends.mkG (.inl rfl) rfl (gh_pk [0] [] hB rfl rfl rfl rfl) rfl rfl
           ·refine Ops.gp rfl g_509 rfl (Ops.gp rfl g_509 rfl ?_)
            obtain ⟨y_510,hy_510,h⟩ := bindO h
            refine Ops.gs (s := 17752) rfl g_509 (Ev.call [] [] 0 (sem_spec_l01In _ _ _ _ _ hy_510) rfl rfl (.d2 (.d1 .nil)) rfl (.inl rfl) rfl rfl) rfl rfl (Ops.gp rfl g_509 rfl (Ops.st (s := 17784) (.pkF rfl g_509 rfl) rfl rfl (Ops.p rfl (Ops.askO (x := .t 80) rfl h (fun g_511 h => ?_) (fun g_511 h => ?_)))))
            ·refine Ops.gn rfl g_511 (Ops.gn rfl g_511 (Ops.gn rfl g_511 (Ops.gn rfl g_511 (Ops.st (s := 17880) (.pkT rfl g_511 rfl) rfl rfl (Ops.p rfl (Ops.gn rfl rfl (Ops.gn rfl rfl (Ops.gn rfl rfl (Ops.gn rfl rfl (Ops.gn rfl rfl (Ops.gu rfl (Ops.gu rfl (Ops.gu rfl (Ops.gn rfl rfl (Ops.st (s := 18056) (.pkT rfl rfl rfl) rfl rfl (Ops.nil (Run.condT rfl rfl (Run.seq (Run.ops hm (Ops.p rfl (Ops.nil (Run.ret ?_))))))))))))))))))))))
             obtain rfl := someO h
             exact Ends.mkG (.inl rfl) rfl (gh_pk [0] [] hB rfl rfl rfl rfl) rfl rfl
            ·refine Ops.gp rfl g_511 rfl (Ops.gp rfl g_511 rfl ?_)
             obtain ⟨y_512,hy_512,h⟩ := bindO h
             refine Ops.gs (s := 17848) rfl g_511 (Ev.call [] [] 0 (sem_spec_l07Rise _ _ _ _ _ hy_512) rfl rfl (.d2 (.d1 .nil)) rfl (.inl rfl) rfl rfl) rfl rfl (Ops.gp rfl g_511 rfl (Ops.st (s := 17880) (.pkF rfl g_511 rfl) rfl rfl (Ops.p rfl (Ops.askO (x := .t 86) rfl h (fun g_513 h => ?_) (fun g_513 h => ?_)))))
             ·refine Ops.gn rfl g_513 (Ops.gn rfl g_513 (Ops.gn rfl g_513 (Ops.gn rfl g_513 (Ops.gn rfl g_513 (Ops.gu rfl (Ops.gu rfl (Ops.gu rfl (Ops.gn rfl g_513 (Ops.st (s := 18056) (.pkT rfl g_513 rfl) rfl rfl (Ops.nil (Run.condT rfl rfl (Run.seq (Run.ops hm (Ops.p rfl (Ops.nil (Run.ret ?_))))))))))))))))
              obtain rfl := someO h
              exact Ends.mkG (.inl rfl) rfl (gh_pk [0] [] hB rfl rfl rfl rfl) rfl rfl
             ·refine Ops.gp rfl g_513 rfl (Ops.gp rfl g_513 rfl (Ops.gs (s := 17944) rfl g_513 (Ev.lnF rfl) rfl rfl (Ops.gp rfl g_513 rfl (Ops.gp rfl g_513 rfl (Ops.askO (x := .t 91) rfl h (fun g_514 h => ?_) (fun g_514 h => ?_))))))
              ·refine Ops.gp rfl g_514 rfl (Ops.gp rfl g_514 rfl (Ops.gp rfl g_514 rfl (Ops.gs (s := 18040) rfl g_513 (.pkT rfl g_514 rfl) rfl rfl (Ops.st (s := 18056) (.pkF rfl g_513 rfl) rfl rfl (Ops.nil (Run.condO rfl h (fun g_515 h => ?_) (fun g_515 h => ?_)))))))
               ·refine Run.seq (Run.ops hm (Ops.p rfl (Ops.nil (Run.ret ?_))))
                obtain rfl := someO h
                exact Ends.mkG (.inl rfl) rfl (gh_pk [0] [] hB rfl rfl rfl rfl) rfl rfl
               ·exact Run.skip (⟨_,_,(gh_pk [1,3] [1000] hB rfl rfl rfl rfl),(),h,rfl,rfl⟩)
              ·exact Ops.gn rfl g_514 (Ops.gn rfl g_514 (Ops.gn rfl g_514 (Ops.gs (s := 18040) rfl g_513 (.pkF rfl g_514 rfl) rfl rfl (Ops.st (s := 18056) (.pkF rfl g_513 rfl) rfl rfl (Ops.nil (Run.condF rfl rfl (Run.skip (⟨_,_,(gh_pk [1,3] [1000] hB rfl rfl rfl rfl),(),h,rfl,rfl⟩))))))))
        ·refine Run.seq (Run.ops hm (Ops.st (s := 25576) (Ev.bsW (ys := ([] : List Int)) (f := encI) rfl .nil rfl rfl rfl rfl rfl) rfl rfl (Ops.p rfl (Ops.nil (Run.seqO h (fun v_521 => [(1,.ptr 0 0),(3,VI y_472.1),(5,.sl 1 3 0 v_521.length)]) (fun (v_521 : (List Int)) => [(0,.box [VI x_1.Id,VI x_1.Term,VI x_1.Vote,VI x_1.Role,VI x_1.Lead,RO 3 (x_1.Conf.map encI),VI x_1.Log.Start,VI x_1.Log.StartTerm,RO 51 (x_1.Log.Entries.map encEntry),VI x_1.Commit,VI x_1.Clock,VI x_1.Limit,RO 3 (x_1.Votes.map encI),RO 135 (x_1.Peers.map encPeer)]),(1,.vec 3 (v_521.map encI))]) (fun h => ?_) (fun v_521 h => ?_))))))
         ·refine Run.seq (Run.ops hm (.p3 rfl rfl rfl (Ops.nil (Run.condO rfl h (fun g_522 h => ?_) (fun g_522 h => ?_)))))
          ·refine Run.draw hm hmix (OpsD.p rfl ?_)
           obtain ⟨y_525,hy_525,h⟩ := bindO h
           refine OpsD.st (s := 33784) (Ev.call [] [] 1 (sem_spec_ConfOf _ _ _ hy_525) rfl rfl (.cons (.agg (.d4 (.d4 (.d4 (.d2 .nil))))) .nil) rfl (.inl rfl) rfl rfl) rfl rfl (OpsD.p rfl (OpsD.p rfl ?_))
           obtain ⟨y_526,hy_526,h⟩ := bindO h
           refine OpsD.st (s := 33832) (Ev.call [] [33784] 1 (sem_spec_l16Others _ _ _ _ hy_526) rfl rfl (.cons (.borrow rfl (by decide) (lendW (fun _ => rfl) _ rfl)) (.d1 .nil)) rfl (.inr ⟨rfl,ownL_root ⟨own_rows (fun _ => rfl) _,trivial⟩⟩) rfl rfl) rfl rfl ?_
           refine OpsD.p rfl (OpsD.nil ⟨by kernel_rfl,?_⟩)
           exact ⟨_,_,(gh_pk [1,3,5] [0,33832] hB rfl rfl rfl rfl),_,h,rfl,rfl⟩
          ·exact Run.skip (⟨_,_,(gh_pk [1,3,5] [0,25576] hB rfl rfl rfl rfl),_,h,rfl,rfl⟩)
         ·refine Run.seq (Run.seq (Run.ops hm (.p2 rfl rfl (Ops.st (s := 37896) (Ev.lnF rfl) rfl rfl (.p3 rfl rfl rfl (Ops.nil (Run.condO rfl h (fun g_528 h => ?_) (fun g_528 h => ?_))))))))
          ·refine Run.seq (Run.ops hm (Ops.p rfl (Ops.nil (Run.ret ?_))))
           obtain rfl := someO h
           exact Ends.mkG (.inl rfl) rfl (gh_pk [0] [] hB rfl rfl rfl rfl) rfl rfl
          ·refine Run.skip (Run.seqO h (fun v_629 => []) (fun (v_629 : Unit) => []) (fun h => ?_) (fun v_629 h => ?_))
           ·refine Run.seq (Run.ops hm (Ops.p rfl (Ops.nil (Run.block ?_))))
            obtain ⟨res_688,h,hk_688⟩ := bindO h
            refine Run.loop (n := N) (fun m_688 fr σ => ∃ (x_631 : Int),spec_NodeOk_l1 N x_1 y_472 v_521 m_688 x_631 = some res_688 ∧ fr = [(1,.ptr 0 0),(3,VI y_472.1),(5,.sl 1 3 0 v_521.length),(6,VI x_631)] ∧ σ = [(0,.box [VI x_1.Id,VI x_1.Term,VI x_1.Vote,VI x_1.Role,VI x_1.Lead,RO 3 (x_1.Conf.map encI),VI x_1.Log.Start,VI x_1.Log.StartTerm,RO 51 (x_1.Log.Entries.map encEntry),VI x_1.Commit,VI x_1.Clock,VI x_1.Limit,RO 3 (x_1.Votes.map encI),RO 135 (x_1.Peers.map encPeer)]),(1,.vec 3 (v_521.map encI))]) (gh_pk [1,3,5,6] [0,1] hB rfl rfl rfl rfl) ⟨_,h,rfl,rfl⟩ ?_
            rintro m_688 fr σ ⟨x_631,h,rfl,rfl⟩
            obtain _ | m_688 := m_688
            ·rw [spec_NodeOk_l1] at h; cases h
            rw [spec_NodeOk_l1] at h
            refine Run.seq (Run.seq (Run.ops hm (.p3 rfl rfl rfl (Ops.p rfl (Ops.nil (Run.condO rfl h (fun g_691 h => ?_) (fun g_691 h => ?_)))))))
            ·refine Run.skip (Run.seq (Run.block (Run.seq (Run.ops hm (.p3 rfl rfl rfl ?_)))))
             obtain ⟨x_714,hx_714,h⟩ := bindO h
             refine Ops.st (s := 58392) (Ev.iaF rfl rfl hx_714) rfl rfl (Ops.p rfl (Ops.st (s := 58424) (.al rfl rfl) rfl rfl (Ops.s0 (s := 58440) (.sto rfl rfl rfl rfl rfl rfl) rfl rfl (Ops.nil (Run.seq (Run.draw hm hmix (OpsD.p rfl (OpsD.p rfl (OpsD.p rfl (OpsD.p rfl ?_))))))))))
             obtain ⟨x_722,hx_722,h⟩ := bindO h
             refine OpsD.st (s := 62504) (Ev.iaW rfl rfl rfl hx_722) rfl rfl (OpsD.st (s := 62520) (Ev.ldE (f := encI) rfl rfl (at_some hx_722).2 rfl rfl rfl) rfl rfl (OpsD.p rfl (OpsD.p rfl (OpsD.askO (x := .t 130) rfl h (fun g_723 h => ?_) (fun g_723 h => ?_)))))
             ·refine OpsD.gn rfl g_723 (OpsD.gn rfl g_723 (OpsD.gn rfl g_723 (OpsD.gn rfl g_723 (OpsD.gn rfl g_723 (OpsD.gn rfl g_723 (OpsD.st (s := 62664) (.pkT rfl g_723 rfl) rfl rfl (OpsD.p rfl (OpsD.gn rfl rfl (OpsD.gn rfl rfl (OpsD.gn rfl rfl (OpsD.gn rfl rfl (OpsD.gn rfl rfl (OpsD.gn rfl rfl (OpsD.gn rfl rfl (OpsD.st (s := 62808) (.pkT rfl rfl rfl) rfl rfl (OpsD.p rfl (OpsD.gn rfl rfl (OpsD.gn rfl rfl (OpsD.gn rfl rfl (OpsD.gn rfl rfl (OpsD.st (s := 62904) (.pkT rfl rfl rfl) rfl rfl (OpsD.nil ⟨by kernel_rfl,?_⟩))))))))))))))))))))))
              refine Run.condT rfl rfl (Run.seq (Run.ops hm (Ops.p rfl (Ops.nil (Run.ret ?_)))))
              obtain rfl := someO h
              have h := hk_688
              replace h := inlO h
              obtain rfl := someO h
              exact Ends.mkG (.inl rfl) rfl (gh_pk [0] [] hB rfl rfl rfl rfl) rfl rfl
             ·refine OpsD.gp rfl g_723 rfl (OpsD.gp rfl g_723 rfl (OpsD.gp rfl g_723 rfl (OpsD.gp rfl g_723 rfl ?_)))
              obtain ⟨y_724,hy_724,h⟩ := bindO h
              refine OpsD.gs (s := 62632) rfl g_723 (Ev.call [] [] 0 (sem_spec_l01In _ _ _ _ _ hy_724) rfl rfl (.d2 (.d1 .nil)) rfl (.inl rfl) rfl rfl) rfl rfl (OpsD.gp rfl g_723 rfl (OpsD.st (s := 62664) (.pkF rfl g_723 rfl) rfl rfl (OpsD.p rfl (OpsD.askO (x := .t 138) rfl h (fun g_725 h => ?_) (fun g_725 h => ?_)))))
              ·refine OpsD.gn rfl g_725 (OpsD.gn rfl g_725 (OpsD.gn rfl g_725 (OpsD.gn rfl g_725 (OpsD.gn rfl g_725 (OpsD.gn rfl g_725 (OpsD.gn rfl g_725 (OpsD.st (s := 62808) (.pkT rfl g_725 rfl) rfl rfl (OpsD.p rfl (OpsD.gn rfl rfl (OpsD.gn rfl rfl (OpsD.gn rfl rfl (OpsD.gn rfl rfl (OpsD.st (s := 62904) (.pkT rfl rfl rfl) rfl rfl (OpsD.nil ⟨by kernel_rfl,?_⟩))))))))))))))
               refine Run.condT rfl rfl (Run.seq (Run.ops hm (Ops.p rfl (Ops.nil (Run.ret ?_)))))
               obtain rfl := someO h
               have h := hk_688
               replace h := inlO h
               obtain rfl := someO h
               exact Ends.mkG (.inl rfl) rfl (gh_pk [0] [] hB rfl rfl rfl rfl) rfl rfl
              ·refine OpsD.gp rfl g_725 rfl (OpsD.gp rfl g_725 rfl (OpsD.gp rfl g_725 rfl (OpsD.gp rfl g_725 rfl (OpsD.gp rfl g_725 rfl ?_))))
               obtain ⟨y_726,hy_726,h⟩ := bindO h
               refine OpsD.gs (s := 62776) rfl g_725 (Ev.call [] [] 0 (sem_spec_l01In _ _ _ _ _ hy_726) rfl rfl (.d2 (.d1 .nil)) rfl (.inl rfl) rfl rfl) rfl rfl (OpsD.gp rfl g_725 rfl (OpsD.st (s := 62808) (.pkF rfl g_725 rfl) rfl rfl (OpsD.p rfl (OpsD.askO (x := .t 147) rfl h (fun g_727 h => ?_) (fun g_727 h => ?_)))))
               ·refine OpsD.gn rfl g_727 (OpsD.gn rfl g_727 (OpsD.gn rfl g_727 (OpsD.gn rfl g_727 (OpsD.st (s := 62904) (.pkT rfl g_727 rfl) rfl rfl (OpsD.nil ⟨by kernel_rfl,?_⟩)))))
                refine Run.condT rfl rfl (Run.seq (Run.ops hm (Ops.p rfl (Ops.nil (Run.ret ?_)))))
                obtain rfl := someO h
                have h := hk_688
                replace h := inlO h
                obtain rfl := someO h
                exact Ends.mkG (.inl rfl) rfl (gh_pk [0] [] hB rfl rfl rfl rfl) rfl rfl
               ·refine OpsD.gp rfl g_727 rfl (OpsD.gp rfl g_727 rfl ?_)
                obtain ⟨y_728,hy_728,h⟩ := bindO h
                refine OpsD.gs (s := 62872) rfl g_727 (Ev.call [] [] 0 (sem_spec_l01In _ _ _ _ _ hy_728) rfl rfl (.d2 (.d1 .nil)) rfl (.inl rfl) rfl rfl) rfl rfl (OpsD.gp rfl g_727 rfl (OpsD.st (s := 62904) (.pkF rfl g_727 rfl) rfl rfl (OpsD.nil ⟨by kernel_rfl,?_⟩)))
                refine Run.condO rfl h (fun g_729 h => ?_) (fun g_729 h => ?_)
                ·refine Run.seq (Run.ops hm (Ops.p rfl (Ops.nil (Run.ret ?_))))
                 obtain rfl := someO h
                 have h := hk_688
                 replace h := inlO h
                 obtain rfl := someO h
                 exact Ends.mkG (.inl rfl) rfl (gh_pk [0] [] hB rfl rfl rfl rfl) rfl rfl
                ·exact Run.skip (Run.ops hm (.p3 rfl rfl rfl (Ops.nil (⟨m_688,Nat.lt_succ_self m_688,_,_,(gh_pk [1,3,5,6] [0,1] hB rfl rfl rfl rfl),_,h,rfl,rfl⟩))))
            ·refine Run.exit ?_
             obtain rfl := someO h
             have h := hk_688
             replace h := inrO h
             exact ⟨_,_,(gh_pk [] [] hB rfl rfl rfl rfl),(),h,rfl,rfl⟩
           ·refine Run.seq (Run.ops hm (Ops.p rfl (Ops.nil (Run.ret ?_))))
            obtain rfl := someO h
            exact Ends.mkG (.inl rfl) rfl (gh_pk [0] [] hB rfl rfl rfl rfl) rfl rfl
def spec_NodeNew (N : Nat) (x_1 : Int) (x_2 : (List Int)) : Option (Node × Bool) :=
 (cat? ([] : List Int) x_2).bind fun x_113 =>
 (spec_NodeOk N (Node.mk x_1 0 0 0 0 x_113 (Log.mk 0 0 ([])) 0 0 20 ([]) ([]))).bind fun y_118 =>
 (if (!y_118) = true then
 some ((Node.mk 0 0 0 0 0 ([]) (Log.mk 0 0 ([])) 0 0 0 ([]) ([])),false)
 else
 some ((Node.mk x_1 0 0 0 0 x_113 (Log.mk 0 0 ([])) 0 0 20 ([]) ([])),true))
theorem sem_spec_NodeNew (N : Nat) (x_1 : Int) (x_2 : (List Int)) (r : Node × Bool) (h : spec_NodeNew N x_1 x_2 = some r) : Says Try.prog 142 [VI x_1,RO 3 (x_2.map encI)] 0 [] (.tup [.agg [VI r.1.Id,VI r.1.Term,VI r.1.Vote,VI r.1.Role,VI r.1.Lead,.sl 0 3 0 r.1.Conf.length,VI r.1.Log.Start,VI r.1.Log.StartTerm,.sl 1 51 0 r.1.Log.Entries.length,VI r.1.Commit,VI r.1.Clock,VI r.1.Limit,.sl 2 3 0 r.1.Votes.length,.sl 3 135 0 r.1.Peers.length],VB r.2]) [(0,.vec 3 (r.1.Conf.map encI)),(1,.vec 51 (r.1.Log.Entries.map encEntry)),(2,.vec 3 (r.1.Votes.map encI)),(3,.vec 135 (r.1.Peers.map encPeer))] := by
 unfold spec_NodeNew at h
 refine Says.of_run s142 Try.call142 rfl fun B hB => ?_
 have hm : B.m ≤ 1000 := by omega
 refine Run.seq (Run.ops hm (Ops.st (s := 1000) (.al rfl rfl) rfl rfl (Ops.p rfl (Ops.nil (Run.seq (Run.ops hm (Ops.p rfl (Ops.st (s := 5112) (Ev.bsW (ys := ([] : List Int)) (f := encI) rfl .nil rfl rfl rfl rfl rfl) rfl rfl (Ops.p rfl ?_)))))))))
 obtain ⟨x_113,hx_113,h⟩ := bindO h
 refine Ops.st (s := 5144) (Ev.apW (f := encI) (ontoW rfl rfl rfl) (addsF rfl) rfl bt3 rfl hx_113) rfl rfl (Ops.st (s := 5160) (.bd rfl rfl) rfl rfl (Ops.st (s := 5176) (.al rfl rfl) rfl rfl (Ops.s0 (s := 5192) (.sto rfl rfl rfl rfl rfl rfl) rfl rfl (Ops.nil (Run.seq (Run.seq (Run.ops hm (Ops.p rfl ?_))))))))
 obtain ⟨y_118,hy_118,h⟩ := bindO h
 refine Ops.st (s := 9208) (Ev.call [] [5144] 0 (sem_spec_NodeOk _ _ _ hy_118) rfl rfl (.cons (.agg (.d4 (.d1 (.cons (.borrow rfl (by decide) (lendW (fun _ => rfl) _ rfl)) (.d2 (.cons (.nil _ _) (.d2 (.d1 (.cons (.nil _ _) (.cons (.nil _ _) .nil)))))))))) .nil) rfl (.inr ⟨rfl,ownL_root trivial⟩) rfl rfl) rfl rfl ?_
 refine Ops.p rfl (Ops.nil (Run.condO rfl h (fun g_119 h => ?_) (fun g_119 h => ?_)))
 ·refine Run.seq (Run.ops hm (Ops.st (s := 13288) (.bd rfl rfl) rfl rfl (Ops.s0 (s := 13304) (.sto rfl rfl rfl rfl rfl rfl) rfl rfl (Ops.p rfl (Ops.nil (Run.ret ?_))))))
  obtain rfl := someO h
  exact Ends.mkG (.inl rfl) rfl (Gh.trans (Gh.trans (gh_prn [0,1] [] hB rfl) (gh_nil [0] [] hB rfl rfl rfl)) (gh_pk [0,1] [10000000,10000001,10000002,10000003] hB rfl rfl rfl rfl)) rfl rfl
 ·refine Run.skip (Run.seq (Run.ops hm (Ops.p rfl (Ops.s0 (s := 17400) (.sto rfl rfl rfl rfl rfl rfl) rfl rfl (Ops.p rfl (Ops.nil (Run.ret ?_)))))))
  obtain rfl := someO h
  exact Ends.mkG (.inl rfl) rfl (Gh.trans (Gh.trans (gh_prn [0,1] [5144] hB rfl) (gh_nil [0] [] hB rfl rfl rfl)) (gh_pk [0,1] [5144,10000000,10000001,10000002] hB rfl rfl rfl rfl)) rfl rfl
def spec_l16Copy (N : Nat) (x_1 : Node) : Option (Node) :=
 (cat? ([] : List Int) x_1.Conf).bind fun x_119 =>
 (cat? ([] : List Entry) x_1.Log.Entries).bind fun x_123 =>
 (cat? ([] : List Int) x_1.Votes).bind fun x_127 =>
 (cat? ([] : List Peer) x_1.Peers).bind fun x_131 =>
 some (Node.mk x_1.Id x_1.Term x_1.Vote x_1.Role x_1.Lead x_119 (Log.mk x_1.Log.Start x_1.Log.StartTerm x_123) x_1.Commit x_1.Clock x_1.Limit x_127 x_131)
theorem sem_spec_l16Copy (N : Nat) (x_1 : Node) (r : Node) (h : spec_l16Copy N x_1 = some r) : Says Try.prog 85 [.agg [VI x_1.Id,VI x_1.Term,VI x_1.Vote,VI x_1.Role,VI x_1.Lead,RO 3 (x_1.Conf.map encI),VI x_1.Log.Start,VI x_1.Log.StartTerm,RO 51 (x_1.Log.Entries.map encEntry),VI x_1.Commit,VI x_1.Clock,VI x_1.Limit,RO 3 (x_1.Votes.map encI),RO 135 (x_1.Peers.map encPeer)]] 0 [] (.agg [VI r.Id,VI r.Term,VI r.Vote,VI r.Role,VI r.Lead,.sl 0 3 0 r.Conf.length,VI r.Log.Start,VI r.Log.StartTerm,.sl 1 51 0 r.Log.Entries.length,VI r.Commit,VI r.Clock,VI r.Limit,.sl 2 3 0 r.Votes.length,.sl 3 135 0 r.Peers.length]) [(0,.vec 3 (r.Conf.map encI)),(1,.vec 51 (r.Log.Entries.map encEntry)),(2,.vec 3 (r.Votes.map encI)),(3,.vec 135 (r.Peers.map encPeer))] := by
 unfold spec_l16Copy at h
 refine Says.of_run s85 Try.call85 rfl fun B hB => ?_
 have hm : B.m ≤ 1000 := by omega
 refine Run.seq (Run.ops hm (Ops.st (s := 1000) (.bx rfl rfl) rfl rfl (Ops.st (s := 1016) (.al rfl rfl) rfl rfl (Ops.nil (Run.seq (Run.ops hm (Ops.st (s := 5096) (Ev.bsW (ys := ([] : List Int)) (f := encI) rfl .nil rfl rfl rfl rfl rfl) rfl rfl (.p2 rfl rfl ?_))))))))
 obtain ⟨x_119,hx_119,h⟩ := bindO h
 refine Ops.st (s := 5144) (Ev.apW (f := encI) (ontoW rfl rfl rfl) (addsF rfl) rfl bt3 rfl hx_119) rfl rfl (Ops.p rfl (Ops.s0 (s := 5176) (.sto rfl rfl rfl rfl rfl rfl) rfl rfl (Ops.nil (Run.seq (Run.ops hm (Ops.st (s := 9192) (Ev.bsW (ys := ([] : List Entry)) (f := encEntry) rfl .nil rfl rfl rfl rfl rfl) rfl rfl (.p3 rfl rfl rfl ?_)))))))
 obtain ⟨x_123,hx_123,h⟩ := bindO h
 refine Ops.st (s := 9256) (Ev.apW (f := encEntry) (ontoW rfl rfl rfl) (addsF rfl) rfl bt51 rfl hx_123) rfl rfl (.p2 rfl rfl (Ops.s0 (s := 9304) (.sto rfl rfl rfl rfl rfl rfl) rfl rfl (Ops.nil (Run.seq (Run.ops hm (Ops.st (s := 13288) (Ev.bsW (ys := ([] : List Int)) (f := encI) rfl .nil rfl rfl rfl rfl rfl) rfl rfl (.p2 rfl rfl ?_)))))))
 obtain ⟨x_127,hx_127,h⟩ := bindO h
 refine Ops.st (s := 13336) (Ev.apW (f := encI) (ontoW rfl rfl rfl) (addsF rfl) rfl bt3 rfl hx_127) rfl rfl (Ops.p rfl (Ops.s0 (s := 13368) (.sto rfl rfl rfl rfl rfl rfl) rfl rfl (Ops.nil (Run.seq (Run.ops hm (Ops.st (s := 17384) (Ev.bsW (ys := ([] : List Peer)) (f := encPeer) rfl .nil rfl rfl rfl rfl rfl) rfl rfl (.p2 rfl rfl ?_)))))))
 obtain ⟨x_131,hx_131,h⟩ := bindO h
 refine Ops.st (s := 17432) (Ev.apW (f := encPeer) (ontoW rfl rfl rfl) (addsF rfl) rfl bt135 rfl hx_131) rfl rfl (Ops.p rfl (Ops.s0 (s := 17464) (.sto rfl rfl rfl rfl rfl rfl) rfl rfl (Ops.nil (Run.seq (Run.ops hm (Ops.p rfl (Ops.s0 (s := 21496) (.sto rfl rfl rfl rfl rfl rfl) rfl rfl (Ops.nil (Run.ret ?_)))))))))
 obtain rfl := someO h
 exact Ends.mkG (.inl rfl) rfl (gh_pk [0] [5144,9256,13336,17432] hB rfl rfl rfl rfl) rfl rfl
def spec_l16Tell (N : Nat) (x_1 : Tl16Run) (x_2 : Message) : Option (Tl16Run) :=
 (cat? x_1.told ([(Message.mk x_2.Kind x_1.n.Id x_2.To x_1.n.Term x_2.Index x_2.LogTerm x_2.Commit x_2.Ok x_2.Entries x_2.Conf x_2.Data x_2.Last)] : List Message)).bind fun x_103 =>
 some (Tl16Run.mk x_1.n x_103)
theorem sem_spec_l16Tell (N : Nat) (x_1 : Tl16Run) (x_2 : Message) (r : Tl16Run) (h : spec_l16Tell N x_1 x_2 = some r) : Says Try.prog 116 [.ptr 0 0,.agg [VI x_2.Kind,VI x_2.From,VI x_2.To,VI x_2.Term,VI x_2.Index,VI x_2.LogTerm,VI x_2.Commit,VB x_2.Ok,RO 51 (x_2.Entries.map encEntry),RO 3 (x_2.Conf.map encI),VS x_2.Data,VB x_2.Last]] 6 [(0,.box [VI x_1.n.Id,VI x_1.n.Term,VI x_1.n.Vote,VI x_1.n.Role,VI x_1.n.Lead,.sl 1 3 0 x_1.n.Conf.length,VI x_1.n.Log.Start,VI x_1.n.Log.StartTerm,.sl 2 51 0 x_1.n.Log.Entries.length,VI x_1.n.Commit,VI x_1.n.Clock,VI x_1.n.Limit,.sl 3 3 0 x_1.n.Votes.length,.sl 4 135 0 x_1.n.Peers.length,.sl 5 58 0 x_1.told.length]),(1,.vec 3 (x_1.n.Conf.map encI)),(2,.vec 51 (x_1.n.Log.Entries.map encEntry)),(3,.vec 3 (x_1.n.Votes.map encI)),(4,.vec 135 (x_1.n.Peers.map encPeer)),(5,.vec 58 (x_1.told.map (encMessage false)))] (.tup []) [(0,.box [VI r.n.Id,VI r.n.Term,VI r.n.Vote,VI r.n.Role,VI r.n.Lead,.sl 1 3 0 x_1.n.Conf.length,VI r.n.Log.Start,VI r.n.Log.StartTerm,.sl 2 51 0 x_1.n.Log.Entries.length,VI r.n.Commit,VI r.n.Clock,VI r.n.Limit,.sl 3 3 0 x_1.n.Votes.length,.sl 4 135 0 x_1.n.Peers.length,.sl 6 58 0 r.told.length]),(1,.vec 3 (x_1.n.Conf.map encI)),(2,.vec 51 (x_1.n.Log.Entries.map encEntry)),(3,.vec 3 (x_1.n.Votes.map encI)),(4,.vec 135 (x_1.n.Peers.map encPeer)),(5,.gone),(6,.vec 58 (r.told.map (encMessage false)))] := by
 unfold spec_l16Tell at h
 refine Says.of_run s116 Try.call116 rfl fun B hB => ?_
 have hm : B.m ≤ 1000 := by omega
 refine Run.seq (Run.ops hm (Ops.st (s := 1000) (.bx rfl rfl) rfl rfl (Ops.nil (Run.seq (Run.ops hm (.p3 rfl rfl rfl (.p3 rfl rfl rfl (Ops.s0 (s := 5192) (.sto rfl rfl rfl rfl rfl rfl) rfl rfl (Ops.nil (Run.seq (Run.ops hm (.p3 rfl rfl rfl (.p3 rfl rfl rfl (Ops.s0 (s := 9288) (.sto rfl rfl rfl rfl rfl rfl) rfl rfl (Ops.nil (Run.draw hm hmix (OpsD.p rfl (OpsD.p rfl (OpsD.p rfl (OpsD.p rfl (OpsD.p rfl (OpsD.p rfl (OpsD.st (s := 13384) (Ev.bsW (ys := ([(Message.mk x_2.Kind x_1.n.Id x_2.To x_1.n.Term x_2.Index x_2.LogTerm x_2.Commit x_2.Ok x_2.Entries x_2.Conf x_2.Data x_2.Last)] : List Message)) (f := (encMessage false)) rfl (.d4 (.d4 (.d4 .nil))) rfl rfl rfl rfl rfl) rfl rfl ?_)))))))))))))))))))))))
 obtain ⟨x_103,hx_103,h⟩ := bindO h
 refine OpsD.st (s := 13400) (Ev.apW (f := (encMessage false)) (ontoW rfl rfl rfl) (addsW rfl rfl rfl (fun _ => rfl)) rfl bt58 rfl hx_103) rfl rfl (OpsD.p rfl (OpsD.p rfl (OpsD.s0 (s := 13448) (.sto rfl rfl rfl rfl rfl rfl) rfl rfl (OpsD.nil ⟨by kernel_rfl,?_⟩))))
 obtain rfl := someO h
 exact Ends.mkG (.inr rfl) rfl (gh_pk [] [0,1,2,3,4,5,13400] hB rfl rfl rfl rfl) rfl rfl
def spec_l16Tell_i1 (N : Nat) (x_1 : Tl16Run) (x_2 : Message) : Option (Tl16Run × (List Int)) :=
 (cat? x_1.told ([(Message.mk x_2.Kind x_1.n.Id x_2.To x_1.n.Term x_2.Index x_2.LogTerm x_2.Commit x_2.Ok ([]) x_2.Conf x_2.Data x_2.Last)] : List Message)).bind fun x_103 =>
 some ((Tl16Run.mk x_1.n x_103),x_2.Conf)
theorem sem_spec_l16Tell_i1 (N : Nat) (x_1 : Tl16Run) (x_2 : Message) (r : Tl16Run × (List Int)) (h : spec_l16Tell_i1 N x_1 x_2 = some r) : Says Try.prog 116 [.ptr 0 0,.agg [VI x_2.Kind,VI x_2.From,VI x_2.To,VI x_2.Term,VI x_2.Index,VI x_2.LogTerm,VI x_2.Commit,VB x_2.Ok,NI 51,.sl 1 3 0 x_2.Conf.length,VS x_2.Data,VB x_2.Last]] 7 [(0,.box [VI x_1.n.Id,VI x_1.n.Term,VI x_1.n.Vote,VI x_1.n.Role,VI x_1.n.Lead,.sl 2 3 0 x_1.n.Conf.length,VI x_1.n.Log.Start,VI x_1.n.Log.StartTerm,.sl 3 51 0 x_1.n.Log.Entries.length,VI x_1.n.Commit,VI x_1.n.Clock,VI x_1.n.Limit,.sl 4 3 0 x_1.n.Votes.length,.sl 5 135 0 x_1.n.Peers.length,.sl 6 58 0 x_1.told.length]),(1,.vec 3 (x_2.Conf.map encI)),(2,.vec 3 (x_1.n.Conf.map encI)),(3,.vec 51 (x_1.n.Log.Entries.map encEntry)),(4,.vec 3 (x_1.n.Votes.map encI)),(5,.vec 135 (x_1.n.Peers.map encPeer)),(6,.vec 58 (x_1.told.map (encMessage false)))] (.tup []) [(0,.box [VI r.1.n.Id,VI r.1.n.Term,VI r.1.n.Vote,VI r.1.n.Role,VI r.1.n.Lead,.sl 2 3 0 x_1.n.Conf.length,VI r.1.n.Log.Start,VI r.1.n.Log.StartTerm,.sl 3 51 0 x_1.n.Log.Entries.length,VI r.1.n.Commit,VI r.1.n.Clock,VI r.1.n.Limit,.sl 4 3 0 x_1.n.Votes.length,.sl 5 135 0 x_1.n.Peers.length,.sl 7 58 0 r.1.told.length]),(1,.ro 3 (r.2.map encI)),(2,.vec 3 (x_1.n.Conf.map encI)),(3,.vec 51 (x_1.n.Log.Entries.map encEntry)),(4,.vec 3 (x_1.n.Votes.map encI)),(5,.vec 135 (x_1.n.Peers.map encPeer)),(6,.gone),(7,.vec 58 (r.1.told.map (encMessage false)))] := by
 unfold spec_l16Tell_i1 at h
 refine Says.of_run s116 Try.call116 rfl fun B hB => ?_
 have hm : B.m ≤ 1000 := by omega
 refine Run.seq (Run.ops hm (Ops.st (s := 1000) (.bx rfl rfl) rfl rfl (Ops.nil (Run.seq (Run.ops hm (.p3 rfl rfl rfl (.p3 rfl rfl rfl (Ops.s0 (s := 5192) (.sto rfl rfl rfl rfl rfl rfl) rfl rfl (Ops.nil (Run.seq (Run.ops hm (.p3 rfl rfl rfl (.p3 rfl rfl rfl (Ops.s0 (s := 9288) (.sto rfl rfl rfl rfl rfl rfl) rfl rfl (Ops.nil (Run.draw hm hmix (OpsD.p rfl (OpsD.p rfl (OpsD.p rfl (OpsD.p rfl (OpsD.p rfl (OpsD.p rfl (OpsD.stz (s := 13384) (EvZ.frz (f := encI) (g := encI) (xs := x_2.Conf) 1 (fun _ => rfl) rfl (.mk (Ev.bsW (ys := ([(Message.mk x_2.Kind x_1.n.Id x_2.To x_1.n.Term x_2.Index x_2.LogTerm x_2.Commit x_2.Ok ([]) x_2.Conf x_2.Data x_2.Last)] : List Message)) (f := (encMessage false)) rfl (.d4 (.d4 (.cons (.nilro _ _) (.cons (.ro rfl (shareW _ rfl)) (.d2 .nil))))) rfl rfl rfl rfl rfl))) rfl rfl ?_)))))))))))))))))))))))
 obtain ⟨x_103,hx_103,h⟩ := bindO h
 refine OpsD.st (s := 13400) (Ev.apW (f := (encMessage false)) (ontoW rfl rfl rfl) (addsW rfl rfl rfl (fun _ => rfl)) rfl bt58 rfl hx_103) rfl rfl (OpsD.p rfl (OpsD.p rfl (OpsD.s0 (s := 13448) (.sto rfl rfl rfl rfl rfl rfl) rfl rfl (OpsD.nil ⟨by kernel_rfl,?_⟩))))
 obtain rfl := someO h
 exact Ends.mkG (.inr rfl) rfl (gh_pk [] [0,1,2,3,4,5,6,13400] hB rfl rfl rfl rfl) rfl rfl
def spec_l12Last (N : Nat) (x_1 : Log) : Option (Int) :=
 some (w64 (x_1.Start + (x_1.Entries.length : Int)))
theorem sem_spec_l12Last (N : Nat) (x_1 : Log) (r : Int) (h : spec_l12Last N x_1 = some r) : Says Try.prog 63 [.agg [VI x_1.Start,VI x_1.StartTerm,RO 51 (x_1.Entries.map encEntry)]] 0 [] (VI r) [] := by
 unfold spec_l12Last at h
 refine Says.of_run s63 Try.call63 rfl fun B hB => ?_
 have hm : B.m ≤ 1000 := by omega
 refine Run.seq (Run.ops hm (Ops.st (s := 1000) (.bx rfl rfl) rfl rfl (Ops.p rfl (Ops.nil (Run.seq (Run.ops hm (.p3 rfl rfl rfl (Ops.p rfl (Ops.st (s := 5160) (Ev.lnF rfl) rfl rfl (.p2 rfl rfl (Ops.nil (Run.ret ?_))))))))))))
 obtain rfl := someO h
 exact Ends.mkG (.inl rfl) rfl (gh_pk [0] [] hB rfl rfl rfl rfl) rfl rfl
def spec_LogTerm (N : Nat) (x_1 : Log) (x_2 : Int) : Option (Int) :=
 (if (x_2 == x_1.Start) = true then
 some x_1.StartTerm
 else
 (if (decide (x_2 < x_1.Start)) = true then
 some (-1 : Int)
 else
 (spec_l12Last N x_1).bind fun y_124 =>
 (if (decide (x_2 > y_124)) = true then
 some (-1 : Int)
 else
 (at? x_1.Entries (w64 ((w64 (x_2 - x_1.Start)) - 1))).bind fun x_127 =>
 some x_127.Term)))
theorem sem_spec_LogTerm (N : Nat) (x_1 : Log) (x_2 : Int) (r : Int) (h : spec_LogTerm N x_1 x_2 = some r) : Says Try.prog 81 [.agg [VI x_1.Start,VI x_1.StartTerm,RO 51 (x_1.Entries.map encEntry)],VI x_2] 0 [] (VI r) [] := by
 unfold spec_LogTerm at h
 refine Says.of_run s81 Try.call81 rfl fun B hB => ?_
 have hm : B.m ≤ 1000 := by omega
 refine Run.seq (Run.ops hm (Ops.st (s := 1000) (.bx rfl rfl) rfl rfl (Ops.p rfl (Ops.nil (Run.seq (Run.seq (Run.ops hm (.p3 rfl rfl rfl (Ops.p rfl (Ops.nil (Run.condO rfl h (fun g_115 h => ?_) (fun g_115 h => ?_))))))))))))
 ·refine Run.seq (Run.ops hm (.p3 rfl rfl rfl (Ops.nil (Run.ret ?_))))
  obtain rfl := someO h
  exact Ends.mkG (.inl rfl) rfl (gh_pk [0] [] hB rfl rfl rfl rfl) rfl rfl
 ·refine Run.skip (Run.seq (Run.seq (Run.ops hm (.p3 rfl rfl rfl (.p2 rfl rfl (Ops.askO (x := .t 15) rfl h (fun g_123 h => ?_) (fun g_123 h => ?_)))))))
  ·refine Ops.gn rfl g_123 (Ops.gn rfl g_123 (Ops.gn rfl g_123 (Ops.gn rfl g_123 (Ops.st (s := 13432) (.pkT rfl g_123 rfl) rfl rfl (Ops.nil (Run.condT rfl rfl (Run.seq (Run.ops hm (Ops.p rfl (Ops.nil (Run.ret ?_)))))))))))
   obtain rfl := someO h
   exact Ends.mkG (.inl rfl) rfl (gh_pk [0] [] hB rfl rfl rfl rfl) rfl rfl
  ·refine Ops.gp rfl g_123 rfl (Ops.gp rfl g_123 rfl ?_)
   obtain ⟨y_124,hy_124,h⟩ := bindO h
   refine Ops.gs (s := 13400) rfl g_123 (Ev.call [] [] 0 (sem_spec_l12Last _ _ _ hy_124) rfl rfl (.cons (.agg (.d2 (.d1 .nil))) .nil) rfl (.inl rfl) rfl rfl) rfl rfl (Ops.gp rfl g_123 rfl (Ops.st (s := 13432) (.pkF rfl g_123 rfl) rfl rfl (Ops.nil (Run.condO rfl h (fun g_125 h => ?_) (fun g_125 h => ?_)))))
   ·refine Run.seq (Run.ops hm (Ops.p rfl (Ops.nil (Run.ret ?_))))
    obtain rfl := someO h
    exact Ends.mkG (.inl rfl) rfl (gh_pk [0] [] hB rfl rfl rfl rfl) rfl rfl
   ·refine Run.skip (Run.seq (Run.ops hm (.p3 rfl rfl rfl (.p3 rfl rfl rfl (Ops.p rfl ?_)))))
    obtain ⟨x_127,hx_127,h⟩ := bindO h
    refine Ops.st (s := 21592) (Ev.iaF rfl rfl hx_127) rfl rfl (.p3 rfl rfl rfl (Ops.nil (Run.ret ?_)))
    obtain rfl := someO h
    exact Ends.mkG (.inl rfl) rfl (gh_pk [0] [] hB rfl rfl rfl rfl) rfl rfl
def spec_l16Send_l1 (N : Nat) (x_1 : Tl16Run) : Nat → Int → (List Entry) → Option ((List Entry))
 | 0,_,_ => none
 | m + 1,x_312,x_340 =>
 (if (decide (x_312 < ((x_1.n.Log.Entries.length : Nat) : Int))) = true then
 (if (decide (((x_340.length : Nat) : Int) < 4)) = true then
 (at? x_1.n.Log.Entries x_312).bind fun x_370 =>
 (cat? x_340 ([x_370] : List Entry)).bind fun x_371 =>
 spec_l16Send_l1 N x_1 m (w64 (x_312 + 1)) x_371
 else
 some x_340)
 else
 some x_340)
def spec_l16Send (N : Nat) (x_1 : Tl16Run) (x_2 : Peer) : Option (Tl16Run) :=
 (if (decide (x_2.Next ≤ x_1.n.Log.Start)) = true then
 (cat? ([] : List Int) x_1.n.Conf).bind fun x_245 =>
 (spec_l16Tell_i1 N x_1 (Message.mk 5 0 x_2.Id 0 x_1.n.Log.Start x_1.n.Log.StartTerm x_2.Sent false ([]) x_245 (⟨#[]⟩ : ByteArray) false)).bind fun y_246 =>
 some (Tl16Run.mk (Node.mk y_246.1.n.Id y_246.1.n.Term y_246.1.n.Vote y_246.1.n.Role y_246.1.n.Lead x_1.n.Conf (Log.mk y_246.1.n.Log.Start y_246.1.n.Log.StartTerm x_1.n.Log.Entries) y_246.1.n.Commit y_246.1.n.Clock y_246.1.n.Limit x_1.n.Votes x_1.n.Peers) y_246.1.told)
 else
 (spec_LogTerm N x_1.n.Log (w64 (x_2.Next - 1))).bind fun y_250 =>
 joinP (fun (v_311 : (List Entry)) =>
 (spec_l16Tell N x_1 (Message.mk 3 0 x_2.Id 0 (w64 (x_2.Next - 1)) y_250 x_1.n.Commit false v_311 ([] : (List Int)) (⟨#[]⟩ : ByteArray) false)).bind fun y_373 =>
 some (Tl16Run.mk (Node.mk y_373.n.Id y_373.n.Term y_373.n.Vote y_373.n.Role y_373.n.Lead x_1.n.Conf (Log.mk y_373.n.Log.Start y_373.n.Log.StartTerm x_1.n.Log.Entries) y_373.n.Commit y_373.n.Clock y_373.n.Limit x_1.n.Votes x_1.n.Peers) y_373.told)) fun j_311 =>
 (spec_l16Send_l1 N x_1 N (w64 ((w64 (x_2.Next - x_1.n.Log.Start)) - 1)) ([] : (List Entry))).bind (fun v_356 => j_311 v_356))
theorem sem_spec_l16Send (N : Nat) (x_1 : Tl16Run) (x_2 : Peer) (r : Tl16Run) (h : spec_l16Send N x_1 x_2 = some r) : Says Try.prog 156 [.ptr 0 0,.agg [VI x_2.Id,VI x_2.Next,VI x_2.Match,VI x_2.Sent]] 6 [(0,.box [VI x_1.n.Id,VI x_1.n.Term,VI x_1.n.Vote,VI x_1.n.Role,VI x_1.n.Lead,.sl 1 3 0 x_1.n.Conf.length,VI x_1.n.Log.Start,VI x_1.n.Log.StartTerm,.sl 2 51 0 x_1.n.Log.Entries.length,VI x_1.n.Commit,VI x_1.n.Clock,VI x_1.n.Limit,.sl 3 3 0 x_1.n.Votes.length,.sl 4 135 0 x_1.n.Peers.length,.sl 5 58 0 x_1.told.length]),(1,.vec 3 (x_1.n.Conf.map encI)),(2,.vec 51 (x_1.n.Log.Entries.map encEntry)),(3,.vec 3 (x_1.n.Votes.map encI)),(4,.vec 135 (x_1.n.Peers.map encPeer)),(5,.vec 58 (x_1.told.map (encMessage false)))] (.tup []) [(0,.box [VI r.n.Id,VI r.n.Term,VI r.n.Vote,VI r.n.Role,VI r.n.Lead,.sl 1 3 0 x_1.n.Conf.length,VI r.n.Log.Start,VI r.n.Log.StartTerm,.sl 2 51 0 x_1.n.Log.Entries.length,VI r.n.Commit,VI r.n.Clock,VI r.n.Limit,.sl 3 3 0 x_1.n.Votes.length,.sl 4 135 0 x_1.n.Peers.length,.sl 6 58 0 r.told.length]),(1,.vec 3 (x_1.n.Conf.map encI)),(2,.vec 51 (x_1.n.Log.Entries.map encEntry)),(3,.vec 3 (x_1.n.Votes.map encI)),(4,.vec 135 (x_1.n.Peers.map encPeer)),(5,.gone),(6,.vec 58 (r.told.map (encMessage false)))] := by
 unfold spec_l16Send at h
 refine Says.of_run s156 Try.call156 rfl fun B hB => ?_
 have hm : B.m ≤ 1000 := by omega
 refine Run.seq (Run.ops hm (Ops.st (s := 1000) (.bx rfl rfl) rfl rfl (Ops.nil (Run.seq (Run.ops hm (.p3 rfl rfl rfl (.p2 rfl rfl (Ops.st (s := 5176) (.al rfl rfl) rfl rfl (Ops.s0 (s := 5192) (.sto rfl rfl rfl rfl rfl rfl) rfl rfl (Ops.nil (Run.seq (Run.seq (Run.ops hm (.p3 rfl rfl rfl (.p2 rfl rfl (Ops.nil (Run.condO rfl h (fun g_242 h => ?_) (fun g_242 h => ?_))))))))))))))))))
 ·refine Run.seq (Run.draw hm hmix (OpsD.p rfl (OpsD.p rfl (OpsD.p rfl (OpsD.p rfl (OpsD.p rfl (OpsD.p rfl (OpsD.p rfl (OpsD.st (s := 13400) (Ev.bsW (ys := ([] : List Int)) (f := encI) rfl .nil rfl rfl rfl rfl rfl) rfl rfl (OpsD.p rfl (OpsD.p rfl (OpsD.p rfl (OpsD.p rfl (OpsD.p rfl ?_))))))))))))))
  obtain ⟨x_245,hx_245,h⟩ := bindO h
  refine OpsD.st (s := 13496) (Ev.apW (f := encI) (ontoW rfl rfl rfl) (addsW rfl rfl rfl (fun _ => rfl)) rfl bt3 rfl hx_245) rfl rfl (OpsD.p rfl (OpsD.p rfl (OpsD.st (s := 13544) (.bd rfl rfl) rfl rfl ?_)))
  obtain ⟨y_246,hy_246,h⟩ := bindO h
  refine OpsD.st (s := 13560) (Ev.call [0,13496,1,2,3,4,5] [] 1 (sem_spec_l16Tell_i1 _ _ _ _ hy_246) rfl rfl (.cons (.ptr rfl) (.cons (.agg (.d4 (.d4 (.d1 (.cons (.sl rfl) (.d2 .nil)))))) .nil)) rfl (.inl rfl) rfl rfl) rfl rfl (OpsD.nil ⟨by kernel_rfl,?_⟩)
  refine Run.ret ?_
  obtain rfl := someO h
  exact Ends.mkG (.inl rfl) rfl (gh_pk [] [0,1,2,3,4,5,13560] hB rfl rfl rfl rfl) rfl rfl
 ·refine Run.skip (Run.seq (Run.draw hm hmix (OpsD.p rfl (OpsD.p rfl (OpsD.p rfl (OpsD.p rfl (OpsD.p rfl (OpsD.p rfl (OpsD.p rfl (OpsD.p rfl (OpsD.p rfl ?_)))))))))))
  obtain ⟨y_250,hy_250,h⟩ := bindO h
  refine OpsD.st (s := 17528) (Ev.call [] [2] 0 (sem_spec_LogTerm _ _ _ _ hy_250) rfl rfl (.cons (.agg (.d2 (.cons (.borrow rfl (by decide) (lendW (fun _ => rfl) _ rfl)) .nil))) (.d1 .nil)) rfl (.inr ⟨rfl,ownL_root trivial⟩) rfl rfl) rfl rfl ?_
  refine OpsD.p rfl (OpsD.p rfl (OpsD.p rfl (OpsD.p rfl (OpsD.p rfl (OpsD.st (s := 17624) (.bd rfl rfl) rfl rfl (OpsD.st (s := 17640) (.al rfl rfl) rfl rfl (OpsD.s0 (s := 17656) (.sto rfl rfl rfl rfl rfl rfl) rfl rfl (OpsD.nil ⟨by kernel_rfl,?_⟩))))))))
  refine Run.seqO h (fun v_311 => [(0,.ptr 0 0),(5,.ptr 6 0)]) (fun (v_311 : (List Entry)) => [(0,.box [VI x_1.n.Id,VI x_1.n.Term,VI x_1.n.Vote,VI x_1.n.Role,VI x_1.n.Lead,.sl 1 3 0 x_1.n.Conf.length,VI x_1.n.Log.Start,VI x_1.n.Log.StartTerm,.sl 2 51 0 x_1.n.Log.Entries.length,VI x_1.n.Commit,VI x_1.n.Clock,VI x_1.n.Limit,.sl 3 3 0 x_1.n.Votes.length,.sl 4 135 0 x_1.n.Peers.length,.sl 5 58 0 x_1.told.length]),(1,.vec 3 (x_1.n.Conf.map encI)),(2,.vec 51 (x_1.n.Log.Entries.map encEntry)),(3,.vec 3 (x_1.n.Votes.map encI)),(4,.vec 135 (x_1.n.Peers.map encPeer)),(5,.vec 58 (x_1.told.map (encMessage false))),(6,.box [VI 3,VI 0,VI x_2.Id,VI 0,VI (w64 (x_2.Next - 1)),VI y_250,VI x_1.n.Commit,VB false,.sl 7 51 0 v_311.length,.sl 8 3 0 (([] : (List Int)).length),VS (⟨#[]⟩ : ByteArray),VB false]),(7,.vec 51 (v_311.map encEntry)),(8,.vec 3 (([] : (List Int)).map encI))]) (fun h => ?_) (fun v_311 h => ?_)
  ·refine Run.seq (Run.ops hm (.p3 rfl rfl rfl (.p3 rfl rfl rfl (Ops.p rfl (Ops.nil (Run.block ?_))))))
   obtain ⟨res_356,h,hk_356⟩ := bindO h
   refine Run.loop (n := N) (fun m_356 fr σ => ∃ (x_312 : Int),∃ (x_340 : (List Entry)),spec_l16Send_l1 N x_1 m_356 x_312 x_340 = some res_356 ∧ fr = [(0,.ptr 0 0),(4,.ptr 6 0),(5,.ptr 7 0),(6,VI x_312)] ∧ σ = [(0,.box [VI x_1.n.Id,VI x_1.n.Term,VI x_1.n.Vote,VI x_1.n.Role,VI x_1.n.Lead,.sl 1 3 0 x_1.n.Conf.length,VI x_1.n.Log.Start,VI x_1.n.Log.StartTerm,.sl 2 51 0 x_1.n.Log.Entries.length,VI x_1.n.Commit,VI x_1.n.Clock,VI x_1.n.Limit,.sl 3 3 0 x_1.n.Votes.length,.sl 4 135 0 x_1.n.Peers.length,.sl 5 58 0 x_1.told.length]),(1,.vec 3 (x_1.n.Conf.map encI)),(2,.vec 51 (x_1.n.Log.Entries.map encEntry)),(3,.vec 3 (x_1.n.Votes.map encI)),(4,.vec 135 (x_1.n.Peers.map encPeer)),(5,.vec 58 (x_1.told.map (encMessage false))),(6,.box [VI x_1.n.Log.Start,VI x_1.n.Log.StartTerm,.sl 2 51 0 x_1.n.Log.Entries.length]),(7,.box [VI 3,VI 0,VI x_2.Id,VI 0,VI (w64 (x_2.Next - 1)),VI y_250,VI x_1.n.Commit,VB false,.sl 8 51 0 x_340.length,.sl 9 3 0 (([] : (List Int)).length),VS (⟨#[]⟩ : ByteArray),VB false]),(8,.vec 51 (x_340.map encEntry)),(9,.vec 3 (([] : (List Int)).map encI))]) (Gh.trans (Gh.trans (gh_prn [0,4,5,6] [0,1,2,3,4,5,5176,17640] hB rfl) (gh_nil [] [17640] hB rfl rfl rfl)) (gh_pk [0,4,5,6] [0,1,2,3,4,5,5176,17640,20000000,20000001] hB rfl rfl rfl rfl)) ⟨_,_,h,rfl,rfl⟩ ?_
   rintro m_356 fr σ ⟨x_312,x_340,h,rfl,rfl⟩
   obtain _ | m_356 := m_356
   ·rw [spec_l16Send_l1] at h; cases h
   rw [spec_l16Send_l1] at h
   refine Run.seq (Run.seq (Run.ops hm (.p3 rfl rfl rfl (.p3 rfl rfl rfl (Ops.askO (x := .t 62) rfl h (fun g_362 h => ?_) (fun g_362 h => ?_))))))
   ·refine Ops.gp rfl g_362 rfl (Ops.gp rfl g_362 rfl (Ops.gp rfl g_362 rfl (Ops.gp rfl g_362 rfl (Ops.st (s := 25736) (.pkT rfl g_362 rfl) rfl rfl (Ops.nil (Run.condO rfl h (fun g_363 h => ?_) (fun g_363 h => ?_)))))))
    ·refine Run.skip (Run.seq (Run.block (Run.draw hm hmix (OpsD.p rfl (OpsD.p rfl (OpsD.p rfl (OpsD.p rfl (OpsD.p rfl ?_))))))))
     obtain ⟨x_370,hx_370,h⟩ := bindO h
     refine OpsD.st (s := 33848) (Ev.iaW rfl rfl rfl hx_370) rfl rfl (OpsD.st (s := 33864) (Ev.ldE (f := encEntry) rfl rfl (at_some hx_370).2 rfl rfl rfl) rfl rfl (OpsD.st (s := 33880) (Ev.bsW (ys := ([x_370] : List Entry)) (f := encEntry) rfl (.d2 (.d1 .nil)) rfl rfl rfl rfl rfl) rfl rfl ?_))
     obtain ⟨x_371,hx_371,h⟩ := bindO h
     refine OpsD.st (s := 33896) (Ev.apW (f := encEntry) (ontoW rfl rfl rfl) (addsW rfl rfl rfl (fun _ => rfl)) rfl bt51 rfl hx_371) rfl rfl (OpsD.p rfl (OpsD.s0 (s := 33928) (.sto rfl rfl rfl rfl rfl rfl) rfl rfl (OpsD.nil ⟨by kernel_rfl,?_⟩)))
     exact Run.ops hm (.p3 rfl rfl rfl (Ops.nil (⟨m_356,Nat.lt_succ_self m_356,_,_,(gh_pk [0,4,5,6] [0,1,2,3,4,5,6,7,33896,9] hB rfl rfl rfl rfl),_,_,h,rfl,rfl⟩)))
    ·refine Run.exit ?_
     obtain rfl := someO h
     have h := hk_356
     exact ⟨_,_,(gh_pk [0,5] [0,1,2,3,4,5,7,8,9] hB rfl rfl rfl rfl),_,h,rfl,rfl⟩
   ·refine Ops.gn rfl g_362 (Ops.gn rfl g_362 (Ops.gn rfl g_362 (Ops.gn rfl g_362 (Ops.st (s := 25736) (.pkF rfl g_362 rfl) rfl rfl (Ops.nil (Run.condF rfl rfl (Run.exit ?_)))))))
    obtain rfl := someO h
    have h := hk_356
    exact ⟨_,_,(gh_pk [0,5] [0,1,2,3,4,5,7,8,9] hB rfl rfl rfl rfl),_,h,rfl,rfl⟩
  ·refine Run.ops hm (.p2 rfl rfl ?_)
   obtain ⟨y_373,hy_373,h⟩ := bindO h
   refine Ops.stz (s := 37896) (EvZ.frz (f := encEntry) (g := encEntry) (xs := v_311) 7 (fun _ => rfl) rfl (EvZ.frz (f := encI) (g := encI) (xs := ([] : (List Int))) 8 (fun _ => rfl) rfl (.mk (Ev.call [0,1,2,3,4,5] [] 1 (sem_spec_l16Tell _ _ _ _ hy_373) rfl rfl (.cons (.ptr rfl) (.cons (.agg (.d4 (.d4 (.cons (.share rfl (shareW _ rfl)) (.cons (.share rfl (shareW _ rfl)) (.d2 .nil)))))) .nil)) rfl (.inl rfl) rfl rfl)))) rfl rfl (Ops.nil ?_)
   obtain rfl := someO h
   exact Ends.mkG (.inr rfl) rfl (gh_pk [] [0,1,2,3,4,5,37896] hB rfl rfl rfl rfl) rfl rfl
end Go.Proofs.Ytehknbpmpbghhaa.Pe.FnSettles
