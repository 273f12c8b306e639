/- Functions,as pure functions; and that Go does just that. -/
import Derived.Test.YtkojbcnafckofaaGreatPeFFnStays0
namespace Go.Proofs.YtkojbcnafckofaaGreat.Pe.FnStays
open Go Go.RowKit
set_option linter.unusedVariables false
set_option linter.unusedSimpArgs false
set_option maxHeartbeats 40000000
set_option maxRecDepth 100000
def spec_ConfOf (N : Nat) (x1 : Node) : Option ((List Int)) :=
 (spec_ConfAt N x1 100120).bind fun y103 =>
 some y103
theorem sem_spec_ConfOf (N : Nat) (x1 : Node) (r : (List Int)) (h : spec_ConfOf N x1 = some r) : Says Tryz.prog 74 [.agg [VI x1.Id,VI x1.Term,VI x1.Vote,VI x1.Role,VI x1.Lead,RO 3 (x1.Conf.map encI),VI x1.Log.Start,VI x1.Log.StartTerm,RO 40 (x1.Log.Entries.map encEntry),VI x1.Commit,VI x1.Clock,VI x1.Limit,RO 3 (x1.Votes.map encI),RO 98 (x1.Peers.map encPeer)]] 0 [] (.sl 0 3 0 r.length) [(0,.vec 3 (r.map encI))] := by
 unfold spec_ConfOf at h
 refine Says.of_norm e Tryz.call74 e fun B hB => ?_
 have hm : B.m ≤ 1000 := by omega
 refine Run.so hm (.z 1000 (.bx e e) e e (.p e (.nil (.so hm (.p e ?_)))))
 obtain ⟨y103,hy103,h⟩ := bindO h
 refine Ops.z 5112 (Ev.call [] [] 1 (sem_spec_ConfAt _ _ _ _ hy103) e e (.cons (.agg (.d4 (.d4 (.d4 (.d2 .nil))))) (.d1 .nil)) e (.inl e) e e) e e (.p e (.nil (.ret ?_)))
 obtain rfl := someO h
 exact Ends.mkG (.inl e) e (gh_pk [0] [5112] hB e e e e) e e
def spec_l16Others_l1 (N : Nat) (x1 : (List Int)) (x2 : Int) : Nat → Int → (List Int) → Option ((List Int))
 | 0,_,_ => none
 | m + 1,x224,x225 =>
 (if (decide (x224 < (x1.length : Int))) = true then
 joinP (fun (v254 : (List Int)) =>
 spec_l16Others_l1 N x1 x2 m (w64 (x224 + 1)) v254) fun j254 =>
 (at? x1 x224).bind fun x256 =>
 (if (x256 != x2) = true then
 (at? x1 x224).bind fun x260 =>
 (cat? x225 ([x260] : List Int)).bind fun x261 =>
 j254 x261
 else
 j254 x225)
 else
 some x225)
def spec_l16Others_l1_r (N : Nat) (x1 : (List Int)) (x2 : Int) : (List Int) → Int → (List Int) → Option ((List Int))
 | [],x224,x225 =>
 some x225
 | hd :: tl,x224,x225 =>
 joinP (fun (v254 : (List Int)) =>
 spec_l16Others_l1_r N x1 x2 tl (w64 (x224 + 1)) v254) fun j254 =>
 (some hd).bind fun x256 =>
 (if (x256 != x2) = true then
 (some hd).bind fun x260 =>
 (cat? x225 ([x260] : List Int)).bind fun x261 =>
 j254 x261
 else
 j254 x225)
theorem spec_l16Others_l1_rng (N : Nat) (x1 : (List Int)) (x2 : Int) (hx : x1.length ≤ 1099511627776) : ∀ (d k m : Nat) (x225 : (List Int)),x1.length = k + d → d < m → spec_l16Others_l1 N x1 x2 m (k : Int) x225 = spec_l16Others_l1_r N x1 x2 (x1.drop k) (k : Int) x225 := by
 intro d
 induction d with
 | zero =>
  intro k m x225 hd hm
  obtain ⟨m,rfl⟩ : ∃ q,m = q + 1 := ⟨m - 1,by omega⟩
  rw [spec_l16Others_l1,if_neg (by simp; omega),List.drop_eq_nil_of_le (by omega),spec_l16Others_l1_r]
 | succ d ih =>
  intro k m x225 hd hm
  obtain ⟨m,rfl⟩ : ∃ q,m = q + 1 := ⟨m - 1,by omega⟩
  have hk : k < x1.length := by omega
  rw [spec_l16Others_l1,if_pos (by simp; omega),List.drop_eq_getElem_cons hk,spec_l16Others_l1_r]
  have h1 := at_lt hk
  have h2 := w64_succ (k := k) (by omega)
  have h3 := ih (k + 1) m
  simp only [h1,h2,h3 _ (by omega) (by omega)]
theorem spec_l16Others_l1_eq {N : Nat} (x1 : (List Int)) (x2 : Int) (hx : x1.length ≤ 1099511627776) (hN : x1.length < N) (x225 : (List Int)) : spec_l16Others_l1 N x1 x2 N 0 x225 = spec_l16Others_l1_r N x1 x2 x1 0 x225 := spec_l16Others_l1_rng N x1 x2 hx x1.length 0 N x225 (by omega) hN
def spec_l16Others (N : Nat) (x1 : (List Int)) (x2 : Int) : Option ((List Int)) :=
 joinP (fun (v221 : (List Int)) =>
 some v221) fun j221 =>
 (spec_l16Others_l1 N x1 x2 N 0 ([] : List Int)).bind (fun v243 => j221 v243)
theorem sem_spec_l16Others (N : Nat) (x1 : (List Int)) (x2 : Int) (r : (List Int)) (h : spec_l16Others N x1 x2 = some r) : Says Tryz.prog 73 [RO 3 (x1.map encI),VI x2] 0 [] (.sl 0 3 0 r.length) [(0,.vec 3 (r.map encI))] := by
 unfold spec_l16Others at h
 refine Says.of_norm e Tryz.call73 e fun B hB => ?_
 have hm : B.m ≤ 1000 := by omega
 refine Run.so hm (.p e (.nil (.so hm (.z 5096 (Ev.bsW (ys := ([] : List Int)) (f := encI) e .nil e e e e e) e e (.p e (.nil (.seqO h (fun v221 => [(5,.sl 0 3 0 v221.length)]) (fun (v221 : (List Int)) => [(0,.vec 3 (v221.map encI))]) (fun h => ?_) (fun v221 h => ?_))))))))
 ·refine Run.so hm (.p e (.nil (.block ?_)))
  obtain ⟨res243,h,hk243⟩ := bindO h
  refine Run.loop (n := N) (fun m243 fr σ => ∃ (x224 : Int),∃ (x225 : (List Int)),spec_l16Others_l1 N x1 x2 m243 x224 x225 = some res243 ∧ fr = [(0,RO 3 (x1.map encI)),(1,VI x2),(5,.sl 0 3 0 x225.length),(6,VI x224)] ∧ σ = [(0,.vec 3 (x225.map encI))]) (gh_pk [0,1,5,6] [5096] hB e e e e) ⟨_,_,h,e,e⟩ ?_
  rintro m243 fr σ ⟨x224,x225,h,rfl,rfl⟩
  obtain _ | m243 := m243
  ·rw [spec_l16Others_l1] at h; cases h
  rw [spec_l16Others_l1] at h
  refine Run.seq (.so hm (.p2 e e (.z 13320 (Ev.lnF e) e e (.p e (.nil (.condO e h (fun g246 h => ?_) (fun g246 h => ?_)))))))
  ·refine Run.skip (.seqO h (fun v254 => [(0,RO 3 (x1.map encI)),(1,VI x2),(5,.sl 0 3 0 v254.length),(6,VI x224)]) (fun (v254 : (List Int)) => [(0,.vec 3 (v254.map encI))]) (fun h => ?_) (fun v254 h => ?_))
   ·refine Run.block (.so hm (.p2 e e ?_))
    obtain ⟨x256,hx256,h⟩ := bindO h
    refine Ops.z 21512 (Ev.iaF e e hx256) e e (.p3 e e e (.nil (.condO e h (fun g257 h => ?_) (fun g257 h => ?_))))
    ·refine Run.ops hm (.p3 e e e ?_)
     obtain ⟨x260,hx260,h⟩ := bindO h
     refine Ops.z 25624 (Ev.iaF e e hx260) e e (.p e (.z 25656 (Ev.bsW (ys := ([x260] : List Int)) (f := encI) e (.d1 .nil) e e e e e) e e ?_))
     obtain ⟨x261,hx261,h⟩ := bindO h
     exact Ops.z 25672 (Ev.apW (f := encI) (ontoW e e e) (addsW e e e (fun _ => e)) e bt3 e hx261) e e (.p e (.nil (⟨_,_,(gh_pk [0,1,5,6] [25672] hB e e e e),_,h,e,e⟩)))
    ·exact Run.skip (⟨_,_,(gh_pk [0,1,5,6] [0] hB e e e e),_,h,e,e⟩)
   ·exact Run.ops hm (.p3 e e e (.nil (⟨m243,Nat.lt_succ_self m243,_,_,(gh_pk [0,1,5,6] [0] hB e e e e),_,_,h,e,e⟩)))
  ·refine Run.exit ?_
   obtain rfl := someO h
   have h := hk243
   exact ⟨_,_,(gh_pk [5] [0] hB e e e e),_,h,e,e⟩
 ·refine Run.so hm (.p2 e e (.nil (.ret ?_)))
  obtain rfl := someO h
  exact Ends.mkG (.inl e) e (gh_pk [0] [0] hB e e e e) e e
def spec_NodeOk_l1 (N : Nat) (x1 : Node) (y472 : Int × Int) (v521 : (List Int)) : Nat → Int → Option ((Bool) ⊕ (Unit))
 | 0,_ => none
 | m + 1,x631 =>
 (if (decide (x631 < ((v521.length : Nat) : Int))) = true then
 (at? x1.Peers x631).bind fun x714 =>
 (at? v521 x631).bind fun x722 =>
 (if (x714.Id != x722) = true then
 some (Sum.inl false)
 else
 (spec_l01In N x714.Next 1 (w64 (y472.1 + 1))).bind fun y724 =>
 (if (!y724) = true then
 some (Sum.inl false)
 else
 (spec_l01In N x714.Match 0 (w64 (x714.Next - 1))).bind fun y726 =>
 (if (!y726) = true then
 some (Sum.inl false)
 else
 (spec_l01In N x714.Sent 0 20000).bind fun y728 =>
 (if (!y728) = true then
 some (Sum.inl false)
 else
 spec_NodeOk_l1 N x1 y472 v521 m (w64 (x631 + 1))))))
 else
 some (Sum.inr ()))
def spec_NodeOk (N : Nat) (x1 : Node) : Option (Bool) :=
 (spec_l01In N x1.Id 1 4).bind fun y455 =>
 (if (!y455) = true then
 some false
 else
 (spec_ConfOk N x1.Conf).bind fun y457 =>
 (if (!y457) = true then
 some false
 else
 (spec_LogOk N x1.Log).bind fun y459 =>
 (if (!y459) = true then
 some false
 else
 (spec_l01In N x1.Term 0 100000).bind fun y461 =>
 (if (!y461) = true then
 some false
 else
 (spec_l01In N x1.Vote 0 4).bind fun y463 =>
 (if (!y463) = true then
 some false
 else
 (spec_l01In N x1.Lead 0 4).bind fun y465 =>
 (if (!y465) = true then
 some false
 else
 (spec_l01In N x1.Role 0 2).bind fun y467 =>
 (if (!y467) = true then
 some false
 else
 (spec_LogLast N x1.Log).bind fun y472 =>
 joinP (fun (v494 : Unit) =>
 joinP (fun (v521 : (List Int)) =>
 (if ((x1.Peers.length : Int) != ((v521.length : Nat) : Int)) = true then
 some false
 else
 joinP (fun (v629 : Unit) =>
 some true) fun j629 =>
 (spec_NodeOk_l1 N x1 y472 v521 N 0).bind (Sum.elim (fun v687 => some v687) (fun (v688 : Unit) => j629 ())))) fun j521 =>
 (if (x1.Role == 2) = true then
 (spec_ConfOf N x1).bind fun y525 =>
 (spec_l16Others N y525 x1.Id).bind fun y526 =>
 j521 y526
 else
 j521 ([] : List Int))) fun j494 =>
 (if (decide (x1.Term < y472.2)) = true then
 some false
 else
 (spec_l01In N x1.Commit x1.Log.Start y472.1).bind fun y506 =>
 (if (!y506) = true then
 some false
 else
 (spec_l01In N x1.Clock 0 20).bind fun y508 =>
 (if (!y508) = true then
 some false
 else
 (spec_l01In N x1.Limit 1 20).bind fun y510 =>
 (if (!y510) = true then
 some false
 else
 (spec_l07Rise N x1.Votes 1 4).bind fun y512 =>
 (if (!y512) = true then
 some false
 else
 (if (decide ((x1.Votes.length : Int) > 0)) = true then
 (if (x1.Role != 1) = true then
 some false
 else
 j494 ())
 else
 j494 ())))))))))))))
theorem sem_spec_NodeOk (N : Nat) (x1 : Node) (r : Bool) (h : spec_NodeOk N x1 = some r) : Says Tryz.prog 29 [.agg [VI x1.Id,VI x1.Term,VI x1.Vote,VI x1.Role,VI x1.Lead,RO 3 (x1.Conf.map encI),VI x1.Log.Start,VI x1.Log.StartTerm,RO 40 (x1.Log.Entries.map encEntry),VI x1.Commit,VI x1.Clock,VI x1.Limit,RO 3 (x1.Votes.map encI),RO 98 (x1.Peers.map encPeer)]] 0 [] (VB r) [] := by
 unfold spec_NodeOk at h
 refine Says.of_norm e Tryz.call29 e fun B hB => ?_
 have hm : B.m ≤ 1000 := by omega
 refine Run.so hm (.z 1000 (.bx e e) e e (.p e (.nil (.seq (.so hm (.p2 e e ?_))))))
 obtain ⟨y455,hy455,h⟩ := bindO h
 refine Ops.z 5128 (Ev.call [] [] 0 (sem_spec_l01In _ _ _ _ _ hy455) e e (.d2 (.d1 .nil)) e (.inl e) e e) e e (.p2 e e (.askO (x := .t 12) e h (fun g456 h => ?_) (fun g456 h => ?_)))
 ·refine Ops.gn e g456 (.gn e g456 (.gn e g456 (.gn e g456 (.z 5240 (.pkT e g456 e) e e (.p e (.gn e e (.gn e e (.gn e e (.gn e e (.z 5336 (.pkT e e e) e e (.p e (.gn e e (.gn e e (.gn e e (.gn e e (.z 5432 (.pkT e e e) e e (.p e (.gn e e (.gn e e (.gn e e (.gn e e (.z 5528 (.pkT e e e) e e (.p e (.gn e e (.gn e e (.gn e e (.gn e e (.z 5624 (.pkT e e e) e e (.p e (.gn e e (.gn e e (.gn e e (.gn e e (.z 5720 (.pkT e e e) e e (.nil (.condT e e (.so hm (.p e (.nil (.ret ?_))))))))))))))))))))))))))))))))))))))))
  obtain rfl := someO h
  exact Ends.mkG (.inl e) e (gh_pk [0] [] hB e e e e) e e
 ·refine Ops.gp e g456 e (.gp e g456 e ?_)
  obtain ⟨y457,hy457,h⟩ := bindO h
  refine Ops.gs (s := 5208) e g456 (Ev.call [] [] 0 (sem_spec_ConfOk _ _ _ hy457) e e (.d1 .nil) e (.inl e) e e) e e (.gp e g456 e (.z 5240 (.pkF e g456 e) e e (.p e (.askO (x := .t 18) e h (fun g458 h => ?_) (fun g458 h => ?_)))))
  ·refine Ops.gn e g458 (.gn e g458 (.gn e g458 (.gn e g458 (.z 5336 (.pkT e g458 e) e e (.p e (.gn e e (.gn e e (.gn e e (.gn e e (.z 5432 (.pkT e e e) e e (.p e (.gn e e (.gn e e (.gn e e (.gn e e (.z 5528 (.pkT e e e) e e (.p e (.gn e e (.gn e e (.gn e e (.gn e e (.z 5624 (.pkT e e e) e e (.p e (.gn e e (.gn e e (.gn e e (.gn e e (.z 5720 (.pkT e e e) e e (.nil (.condT e e (.so hm (.p e (.nil (.ret ?_))))))))))))))))))))))))))))))))))
   obtain rfl := someO h
   exact Ends.mkG (.inl e) e (gh_pk [0] [] hB e e e e) e e
  ·refine Ops.gp e g458 e (.gp e g458 e ?_)
   obtain ⟨y459,hy459,h⟩ := bindO h
   refine Ops.gs (s := 5304) e g458 (Ev.call [] [] 0 (sem_spec_LogOk _ _ _ hy459) e e (.cons (.agg (.d2 (.d1 .nil))) .nil) e (.inl e) e e) e e (.gp e g458 e (.z 5336 (.pkF e g458 e) e e (.p e (.askO (x := .t 24) e h (fun g460 h => ?_) (fun g460 h => ?_)))))
   ·refine Ops.gn e g460 (.gn e g460 (.gn e g460 (.gn e g460 (.z 5432 (.pkT e g460 e) e e (.p e (.gn e e (.gn e e (.gn e e (.gn e e (.z 5528 (.pkT e e e) e e (.p e (.gn e e (.gn e e (.gn e e (.gn e e (.z 5624 (.pkT e e e) e e (.p e (.gn e e (.gn e e (.gn e e (.gn e e (.z 5720 (.pkT e e e) e e (.nil (.condT e e (.so hm (.p e (.nil (.ret ?_))))))))))))))))))))))))))))
    obtain rfl := someO h
    exact Ends.mkG (.inl e) e (gh_pk [0] [] hB e e e e) e e
   ·refine Ops.gp e g460 e (.gp e g460 e ?_)
    obtain ⟨y461,hy461,h⟩ := bindO h
    refine Ops.gs (s := 5400) e g460 (Ev.call [] [] 0 (sem_spec_l01In _ _ _ _ _ hy461) e e (.d2 (.d1 .nil)) e (.inl e) e e) e e (.gp e g460 e (.z 5432 (.pkF e g460 e) e e (.p e (.askO (x := .t 30) e h (fun g462 h => ?_) (fun g462 h => ?_)))))
    ·refine Ops.gn e g462 (.gn e g462 (.gn e g462 (.gn e g462 (.z 5528 (.pkT e g462 e) e e (.p e (.gn e e (.gn e e (.gn e e (.gn e e (.z 5624 (.pkT e e e) e e (.p e (.gn e e (.gn e e (.gn e e (.gn e e (.z 5720 (.pkT e e e) e e (.nil (.condT e e (.so hm (.p e (.nil (.ret ?_))))))))))))))))))))))
     obtain rfl := someO h
     exact Ends.mkG (.inl e) e (gh_pk [0] [] hB e e e e) e e
    ·refine Ops.gp e g462 e (.gp e g462 e ?_)
     obtain ⟨y463,hy463,h⟩ := bindO h
     refine Ops.gs (s := 5496) e g462 (Ev.call [] [] 0 (sem_spec_l01In _ _ _ _ _ hy463) e e (.d2 (.d1 .nil)) e (.inl e) e e) e e (.gp e g462 e (.z 5528 (.pkF e g462 e) e e (.p e (.askO (x := .t 36) e h (fun g464 h => ?_) (fun g464 h => ?_)))))
     ·refine Ops.gn e g464 (.gn e g464 (.gn e g464 (.gn e g464 (.z 5624 (.pkT e g464 e) e e (.p e (.gn e e (.gn e e (.gn e e (.gn e e (.z 5720 (.pkT e e e) e e (.nil (.condT e e (.so hm (.p e (.nil (.ret ?_))))))))))))))))
      obtain rfl := someO h
      exact Ends.mkG (.inl e) e (gh_pk [0] [] hB e e e e) e e
     ·refine Ops.gp e g464 e (.gp e g464 e ?_)
      obtain ⟨y465,hy465,h⟩ := bindO h
      refine Ops.gs (s := 5592) e g464 (Ev.call [] [] 0 (sem_spec_l01In _ _ _ _ _ hy465) e e (.d2 (.d1 .nil)) e (.inl e) e e) e e (.gp e g464 e (.z 5624 (.pkF e g464 e) e e (.p e (.askO (x := .t 42) e h (fun g466 h => ?_) (fun g466 h => ?_)))))
      ·refine Ops.gn e g466 (.gn e g466 (.gn e g466 (.gn e g466 (.z 5720 (.pkT e g466 e) e e (.nil (.condT e e (.so hm (.p e (.nil (.ret ?_))))))))))
       obtain rfl := someO h
       exact Ends.mkG (.inl e) e (gh_pk [0] [] hB e e e e) e e
      ·refine Ops.gp e g466 e (.gp e g466 e ?_)
       obtain ⟨y467,hy467,h⟩ := bindO h
       refine Ops.gs (s := 5688) e g466 (Ev.call [] [] 0 (sem_spec_l01In _ _ _ _ _ hy467) e e (.d2 (.d1 .nil)) e (.inl e) e e) e e (.gp e g466 e (.z 5720 (.pkF e g466 e) e e (.nil (.condO e h (fun g468 h => ?_) (fun g468 h => ?_)))))
       ·refine Run.so hm (.p e (.nil (.ret ?_)))
        obtain rfl := someO h
        exact Ends.mkG (.inl e) e (gh_pk [0] [] hB e e e e) e e
       ·refine Run.skip (.so hm (.p2 e e ?_))
        obtain ⟨y472,hy472,h⟩ := bindO h
        refine Ops.z 13320 (Ev.call [] [] 0 (sem_spec_LogLast _ _ _ hy472) e e (.cons (.agg (.d2 (.d1 .nil))) .nil) e (.inl e) e e) e e (.p3 e e e (.p2 e e (.nil (.seqO h (fun v494 => [(1,.ptr 0 0),(3,VI y472.1)]) (fun (v494 : Unit) => [(0,.box [VI x1.Id,VI x1.Term,VI x1.Vote,VI x1.Role,VI x1.Lead,RO 3 (x1.Conf.map encI),VI x1.Log.Start,VI x1.Log.StartTerm,RO 40 (x1.Log.Entries.map encEntry),VI x1.Commit,VI x1.Clock,VI x1.Limit,RO 3 (x1.Votes.map encI),RO 98 (x1.Peers.map encPeer)])]) (fun h => ?_) (fun v494 h => ?_)))))
        ·refine Run.so hm (.p3 e e e (.p2 e e (.askO (x := .t 58) e h (fun g505 h => ?_) (fun g505 h => ?_))))
         ·refine Ops.gn e g505 (.gn e g505 (.gn e g505 (.gn e g505 (.gn e g505 (.gn e g505 (.gn e g505 (.gn e g505 (.z 17592 (.pkT e g505 e) e e (.p e (.gn e e (.gn e e (.gn e e (.gn e e (.z 17688 (.pkT e e e) e e (.p e (.gn e e (.gn e e (.gn e e (.gn e e (.z 17784 (.pkT e e e) e e (.p e (.gn e e (.gn e e (.gn e e (.gn e e (.z 17880 (.pkT e e e) e e (.p e (.gn e e (.gn e e (.gn e e (.gn e e (.gn e e (.gu e (.gu e (.gu e (.gn e e (.z 18056 (.pkT e e e) e e (.nil (.condT e e (.so hm (.p e (.nil (.ret ?_)))))))))))))))))))))))))))))))))))))))))))
          obtain rfl := someO h
          exact Ends.mkG (.inl e) e (gh_pk [0] [] hB e e e e) e e
         ·refine Ops.gp e g505 e (.gp e g505 e (.gp e g505 e (.gp e g505 e (.gp e g505 e (.gp e g505 e ?_)))))
          obtain ⟨y506,hy506,h⟩ := bindO h
          refine Ops.gs (s := 17560) e g505 (Ev.call [] [] 0 (sem_spec_l01In _ _ _ _ _ hy506) e e (.d2 (.d1 .nil)) e (.inl e) e e) e e (.gp e g505 e (.z 17592 (.pkF e g505 e) e e (.p e (.askO (x := .t 68) e h (fun g507 h => ?_) (fun g507 h => ?_)))))
          ·refine Ops.gn e g507 (.gn e g507 (.gn e g507 (.gn e g507 (.z 17688 (.pkT e g507 e) e e (.p e (.gn e e (.gn e e (.gn e e (.gn e e (.z 17784 (.pkT e e e) e e (.p e (.gn e e (.gn e e (.gn e e (.gn e e (.z 17880 (.pkT e e e) e e (.p e (.gn e e (.gn e e (.gn e e (.gn e e (.gn e e (.gu e (.gu e (.gu e (.gn e e (.z 18056 (.pkT e e e) e e (.nil (.condT e e (.so hm (.p e (.nil (.ret ?_)))))))))))))))))))))))))))))))))
           obtain rfl := someO h
           exact Ends.mkG (.inl e) e (gh_pk [0] [] hB e e e e) e e
          ·refine Ops.gp e g507 e (.gp e g507 e ?_)
           obtain ⟨y508,hy508,h⟩ := bindO h
           refine Ops.gs (s := 17656) e g507 (Ev.call [] [] 0 (sem_spec_l01In _ _ _ _ _ hy508) e e (.d2 (.d1 .nil)) e (.inl e) e e) e e (.gp e g507 e (.z 17688 (.pkF e g507 e) e e (.p e (.askO (x := .t 74) e h (fun g509 h => ?_) (fun g509 h => ?_)))))
           ·refine Ops.gn e g509 (.gn e g509 (.gn e g509 (.gn e g509 (.z 17784 (.pkT e g509 e) e e (.p e (.gn e e (.gn e e (.gn e e (.gn e e (.z 17880 (.pkT e e e) e e (.p e (.gn e e (.gn e e (.gn e e (.gn e e (.gn e e (.gu e (.gu e (.gu e (.gn e e (.z 18056 (.pkT e e e) e e (.nil (.condT e e (.so hm (.p e (.nil (.ret ?_)))))))))))))))))))))))))))
            obtain rfl := someO h
            exact Ends.mkG (.inl e) e (gh_pk [0] [] hB e e e e) e e
           ·refine Ops.gp e g509 e (.gp e g509 e ?_)
            obtain ⟨y510,hy510,h⟩ := bindO h
            refine Ops.gs (s := 17752) e g509 (Ev.call [] [] 0 (sem_spec_l01In _ _ _ _ _ hy510) e e (.d2 (.d1 .nil)) e (.inl e) e e) e e (.gp e g509 e (.z 17784 (.pkF e g509 e) e e (.p e (.askO (x := .t 80) e h (fun g511 h => ?_) (fun g511 h => ?_)))))
            ·refine Ops.gn e g511 (.gn e g511 (.gn e g511 (.gn e g511 (.z 17880 (.pkT e g511 e) e e (.p e (.gn e e (.gn e e (.gn e e (.gn e e (.gn e e (.gu e (.gu e (.gu e (.gn e e (.z 18056 (.pkT e e e) e e (.nil (.condT e e (.so hm (.p e (.nil (.ret ?_)))))))))))))))))))))
             obtain rfl := someO h
             exact Ends.mkG (.inl e) e (gh_pk [0] [] hB e e e e) e e
            ·refine Ops.gp e g511 e (.gp e g511 e ?_)
             obtain ⟨y512,hy512,h⟩ := bindO h
             refine Ops.gs (s := 17848) e g511 (Ev.call [] [] 0 (sem_spec_l07Rise _ _ _ _ _ hy512) e e (.d2 (.d1 .nil)) e (.inl e) e e) e e (.gp e g511 e (.z 17880 (.pkF e g511 e) e e (.p e (.askO (x := .t 86) e h (fun g513 h => ?_) (fun g513 h => ?_)))))
             ·refine Ops.gn e g513 (.gn e g513 (.gn e g513 (.gn e g513 (.gn e g513 (.gu e (.gu e (.gu e (.gn e g513 (.z 18056 (.pkT e g513 e) e e (.nil (.condT e e (.so hm (.p e (.nil (.ret ?_)))))))))))))))
              obtain rfl := someO h
              exact Ends.mkG (.inl e) e (gh_pk [0] [] hB e e e e) e e
             ·refine Ops.gp e g513 e (.gp e g513 e (.gs (s := 17944) e g513 (Ev.lnF e) e e (.gp e g513 e (.gp e g513 e (.askO (x := .t 91) e h (fun g514 h => ?_) (fun g514 h => ?_))))))
              ·refine Ops.gp e g514 e (.gp e g514 e (.gp e g514 e (.gs (s := 18040) e g513 (.pkT e g514 e) e e (.z 18056 (.pkF e g513 e) e e (.nil (.condO e h (fun g515 h => ?_) (fun g515 h => ?_)))))))
               ·refine Run.so hm (.p e (.nil (.ret ?_)))
                obtain rfl := someO h
                exact Ends.mkG (.inl e) e (gh_pk [0] [] hB e e e e) e e
               ·exact Run.skip (⟨_,_,(gh_pk [1,3] [1000] hB e e e e),(),h,e,e⟩)
              ·exact Ops.gn e g514 (.gn e g514 (.gn e g514 (.gs (s := 18040) e g513 (.pkF e g514 e) e e (.z 18056 (.pkF e g513 e) e e (.nil (.condF e e (.skip (⟨_,_,(gh_pk [1,3] [1000] hB e e e e),(),h,e,e⟩))))))))
        ·refine Run.so hm (.z 25576 (Ev.bsW (ys := ([] : List Int)) (f := encI) e .nil e e e e e) e e (.p e (.nil (.seqO h (fun v521 => [(1,.ptr 0 0),(3,VI y472.1),(5,.sl 1 3 0 v521.length)]) (fun (v521 : (List Int)) => [(0,.box [VI x1.Id,VI x1.Term,VI x1.Vote,VI x1.Role,VI x1.Lead,RO 3 (x1.Conf.map encI),VI x1.Log.Start,VI x1.Log.StartTerm,RO 40 (x1.Log.Entries.map encEntry),VI x1.Commit,VI x1.Clock,VI x1.Limit,RO 3 (x1.Votes.map encI),RO 98 (x1.Peers.map encPeer)]),(1,.vec 3 (v521.map encI))]) (fun h => ?_) (fun v521 h => ?_)))))
         ·refine Run.so hm (.p3 e e e (.nil (.condO e h (fun g522 h => ?_) (fun g522 h => ?_))))
          ·refine Run.draw hm hmix (.p e ?_)
           obtain ⟨y525,hy525,h⟩ := bindO h
           refine OpsD.z 33784 (Ev.call [] [] 1 (sem_spec_ConfOf _ _ _ hy525) e e (.cons (.agg (.d4 (.d4 (.d4 (.d2 .nil))))) .nil) e (.inl e) e e) e e (.p e (.p e ?_))
           obtain ⟨y526,hy526,h⟩ := bindO h
           refine OpsD.z 33832 (Ev.call [] [33784] 1 (sem_spec_l16Others _ _ _ _ hy526) e e (.cons (.borrow e (by decide) (lendW (fun _ => e) _ e)) (.d1 .nil)) e (.inr ⟨e,ownL_root ⟨own_rows (fun _ => e) _,trivial⟩⟩) e e) e e ?_
           refine OpsD.p e (.nil ⟨by kernel_rfl,?_⟩)
           exact ⟨_,_,(gh_pk [1,3,5] [0,33832] hB e e e e),_,h,e,e⟩
          ·exact Run.skip (⟨_,_,(gh_pk [1,3,5] [0,25576] hB e e e e),_,h,e,e⟩)
         ·refine Run.seq (.so hm (.p2 e e (.z 37896 (Ev.lnF e) e e (.p3 e e e (.nil (.condO e h (fun g528 h => ?_) (fun g528 h => ?_)))))))
          ·refine Run.so hm (.p e (.nil (.ret ?_)))
           obtain rfl := someO h
           exact Ends.mkG (.inl e) e (gh_pk [0] [] hB e e e e) e e
          ·refine Run.skip (.seqO h (fun v629 => []) (fun (v629 : Unit) => []) (fun h => ?_) (fun v629 h => ?_))
           ·refine Run.so hm (.p e (.nil (.block ?_)))
            obtain ⟨res688,h,hk688⟩ := bindO h
            refine Run.loop (n := N) (fun m688 fr σ => ∃ (x631 : Int),spec_NodeOk_l1 N x1 y472 v521 m688 x631 = some res688 ∧ fr = [(1,.ptr 0 0),(3,VI y472.1),(5,.sl 1 3 0 v521.length),(6,VI x631)] ∧ σ = [(0,.box [VI x1.Id,VI x1.Term,VI x1.Vote,VI x1.Role,VI x1.Lead,RO 3 (x1.Conf.map encI),VI x1.Log.Start,VI x1.Log.StartTerm,RO 40 (x1.Log.Entries.map encEntry),VI x1.Commit,VI x1.Clock,VI x1.Limit,RO 3 (x1.Votes.map encI),RO 98 (x1.Peers.map encPeer)]),(1,.vec 3 (v521.map encI))]) (gh_pk [1,3,5,6] [0,1] hB e e e e) ⟨_,h,e,e⟩ ?_
            rintro m688 fr σ ⟨x631,h,rfl,rfl⟩
            obtain _ | m688 := m688
            ·rw [spec_NodeOk_l1] at h; cases h
            rw [spec_NodeOk_l1] at h
            refine Run.seq (.so hm (.p3 e e e (.p e (.nil (.condO e h (fun g691 h => ?_) (fun g691 h => ?_))))))
            ·refine Run.skip (.seq (.block (.so hm (.p3 e e e ?_))))
             obtain ⟨x714,hx714,h⟩ := bindO h
             refine Ops.z 58392 (Ev.iaF e e hx714) e e (.p e (.z 58424 (.al e e) e e (.y 58440 (.sto e e e e e e) e e (.nil (.seq (.draw hm hmix (.p e (.p e (.p e (.p e ?_))))))))))
             obtain ⟨x722,hx722,h⟩ := bindO h
             refine OpsD.z 62504 (Ev.iaW e e e hx722) e e (.z 62520 (Ev.ldE (f := encI) e e (at_some hx722).2 e e e) e e (.p e (.p e (.askO (x := .t 130) e h (fun g723 h => ?_) (fun g723 h => ?_)))))
             ·refine OpsD.gn e g723 (.gn e g723 (.gn e g723 (.gn e g723 (.gn e g723 (.gn e g723 (.z 62664 (.pkT e g723 e) e e (.p e (.gn e e (.gn e e (.gn e e (.gn e e (.gn e e (.gn e e (.gn e e (.z 62808 (.pkT e e e) e e (.p e (.gn e e (.gn e e (.gn e e (.gn e e (.z 62904 (.pkT e e e) e e (.nil ⟨by kernel_rfl,?_⟩))))))))))))))))))))))
              refine Run.condT e e (.so hm (.p e (.nil (.ret ?_))))
              obtain rfl := someO h
              have h := hk688
              replace h := inlO h
              obtain rfl := someO h
              exact Ends.mkG (.inl e) e (gh_pk [0] [] hB e e e e) e e
             ·refine OpsD.gp e g723 e (.gp e g723 e (.gp e g723 e (.gp e g723 e ?_)))
              obtain ⟨y724,hy724,h⟩ := bindO h
              refine OpsD.gs (s := 62632) e g723 (Ev.call [] [] 0 (sem_spec_l01In _ _ _ _ _ hy724) e e (.d2 (.d1 .nil)) e (.inl e) e e) e e (.gp e g723 e (.z 62664 (.pkF e g723 e) e e (.p e (.askO (x := .t 138) e h (fun g725 h => ?_) (fun g725 h => ?_)))))
              ·refine OpsD.gn e g725 (.gn e g725 (.gn e g725 (.gn e g725 (.gn e g725 (.gn e g725 (.gn e g725 (.z 62808 (.pkT e g725 e) e e (.p e (.gn e e (.gn e e (.gn e e (.gn e e (.z 62904 (.pkT e e e) e e (.nil ⟨by kernel_rfl,?_⟩))))))))))))))
               refine Run.condT e e (.so hm (.p e (.nil (.ret ?_))))
               obtain rfl := someO h
               have h := hk688
               replace h := inlO h
               obtain rfl := someO h
               exact Ends.mkG (.inl e) e (gh_pk [0] [] hB e e e e) e e
              ·refine OpsD.gp e g725 e (.gp e g725 e (.gp e g725 e (.gp e g725 e (.gp e g725 e ?_))))
               obtain ⟨y726,hy726,h⟩ := bindO h
               refine OpsD.gs (s := 62776) e g725 (Ev.call [] [] 0 (sem_spec_l01In _ _ _ _ _ hy726) e e (.d2 (.d1 .nil)) e (.inl e) e e) e e (.gp e g725 e (.z 62808 (.pkF e g725 e) e e (.p e (.askO (x := .t 147) e h (fun g727 h => ?_) (fun g727 h => ?_)))))
               ·refine OpsD.gn e g727 (.gn e g727 (.gn e g727 (.gn e g727 (.z 62904 (.pkT e g727 e) e e (.nil ⟨by kernel_rfl,?_⟩)))))
                refine Run.condT e e (.so hm (.p e (.nil (.ret ?_))))
                obtain rfl := someO h
                have h := hk688
                replace h := inlO h
                obtain rfl := someO h
                exact Ends.mkG (.inl e) e (gh_pk [0] [] hB e e e e) e e
               ·refine OpsD.gp e g727 e (.gp e g727 e ?_)
                obtain ⟨y728,hy728,h⟩ := bindO h
                refine OpsD.gs (s := 62872) e g727 (Ev.call [] [] 0 (sem_spec_l01In _ _ _ _ _ hy728) e e (.d2 (.d1 .nil)) e (.inl e) e e) e e (.gp e g727 e (.z 62904 (.pkF e g727 e) e e (.nil ⟨by kernel_rfl,?_⟩)))
                refine Run.condO e h (fun g729 h => ?_) (fun g729 h => ?_)
                ·refine Run.so hm (.p e (.nil (.ret ?_)))
                 obtain rfl := someO h
                 have h := hk688
                 replace h := inlO h
                 obtain rfl := someO h
                 exact Ends.mkG (.inl e) e (gh_pk [0] [] hB e e e e) e e
                ·exact Run.skip (.ops hm (.p3 e e e (.nil (⟨m688,Nat.lt_succ_self m688,_,_,(gh_pk [1,3,5,6] [0,1] hB e e e e),_,h,e,e⟩))))
            ·refine Run.exit ?_
             obtain rfl := someO h
             have h := hk688
             replace h := inrO h
             exact ⟨_,_,(gh_pk [] [] hB e e e e),(),h,e,e⟩
           ·refine Run.so hm (.p e (.nil (.ret ?_)))
            obtain rfl := someO h
            exact Ends.mkG (.inl e) e (gh_pk [0] [] hB e e e e) e e
def spec_NodeNew (N : Nat) (x1 : Int) (x2 : (List Int)) : Option (Node × Bool) :=
 (cat? ([] : List Int) x2).bind fun x113 =>
 (spec_NodeOk N (Node.mk x1 0 0 0 0 x113 (Log.mk 0 0 ([])) 0 0 20 ([]) ([]))).bind fun y118 =>
 (if (!y118) = true then
 some ((Node.mk 0 0 0 0 0 ([]) (Log.mk 0 0 ([])) 0 0 0 ([]) ([])),false)
 else
 some ((Node.mk x1 0 0 0 0 x113 (Log.mk 0 0 ([])) 0 0 20 ([]) ([])),true))
theorem sem_spec_NodeNew (N : Nat) (x1 : Int) (x2 : (List Int)) (r : Node × Bool) (h : spec_NodeNew N x1 x2 = some r) : Says Tryz.prog 52 [VI x1,RO 3 (x2.map encI)] 0 [] (.tup [.agg [VI r.1.Id,VI r.1.Term,VI r.1.Vote,VI r.1.Role,VI r.1.Lead,.sl 0 3 0 r.1.Conf.length,VI r.1.Log.Start,VI r.1.Log.StartTerm,.sl 1 40 0 r.1.Log.Entries.length,VI r.1.Commit,VI r.1.Clock,VI r.1.Limit,.sl 2 3 0 r.1.Votes.length,.sl 3 98 0 r.1.Peers.length],VB r.2]) [(0,.vec 3 (r.1.Conf.map encI)),(1,.vec 40 (r.1.Log.Entries.map encEntry)),(2,.vec 3 (r.1.Votes.map encI)),(3,.vec 98 (r.1.Peers.map encPeer))] := by
 unfold spec_NodeNew at h
 refine Says.of_norm e Tryz.call52 e fun B hB => ?_
 have hm : B.m ≤ 1000 := by omega
 refine Run.so hm (.z 1000 (.al e e) e e (.p e (.nil (.so hm (.p e (.z 5112 (Ev.bsW (ys := ([] : List Int)) (f := encI) e .nil e e e e e) e e (.p e ?_)))))))
 obtain ⟨x113,hx113,h⟩ := bindO h
 refine Ops.z 5144 (Ev.apW (f := encI) (ontoW e e e) (addsF e) e bt3 e hx113) e e (.z 5160 (.bd e e) e e (.z 5176 (.al e e) e e (.y 5192 (.sto e e e e e e) e e (.nil (.seq (.so hm (.p e ?_)))))))
 obtain ⟨y118,hy118,h⟩ := bindO h
 refine Ops.z 9208 (Ev.call [] [5144] 0 (sem_spec_NodeOk _ _ _ hy118) e e (.cons (.agg (.d4 (.d1 (.cons (.borrow e (by decide) (lendW (fun _ => e) _ e)) (.d2 (.cons (.nil _ _) (.d2 (.d1 (.cons (.nil _ _) (.cons (.nil _ _) .nil)))))))))) .nil) e (.inr ⟨e,ownL_root trivial⟩) e e) e e ?_
 refine Ops.p e (.nil (.condO e h (fun g119 h => ?_) (fun g119 h => ?_)))
 ·refine Run.so hm (.z 13288 (.bd e e) e e (.y 13304 (.sto e e e e e e) e e (.p e (.nil (.ret ?_)))))
  obtain rfl := someO h
  exact Ends.mkG (.inl e) e (Gh.trans (Gh.trans (gh_prn [0,1] [] hB e) (gh_nil [0] [] hB e e e)) (gh_pk [0,1] [10000000,10000001,10000002,10000003] hB e e e e)) e e
 ·refine Run.skip (.so hm (.p e (.y 17400 (.sto e e e e e e) e e (.p e (.nil (.ret ?_))))))
  obtain rfl := someO h
  exact Ends.mkG (.inl e) e (Gh.trans (Gh.trans (gh_prn [0,1] [5144] hB e) (gh_nil [0] [] hB e e e)) (gh_pk [0,1] [5144,10000000,10000001,10000002] hB e e e e)) e e
def spec_l16Copy (N : Nat) (x1 : Node) : Option (Node) :=
 (cat? ([] : List Int) x1.Conf).bind fun x119 =>
 (cat? ([] : List Entry) x1.Log.Entries).bind fun x123 =>
 (cat? ([] : List Int) x1.Votes).bind fun x127 =>
 (cat? ([] : List Peer) x1.Peers).bind fun x131 =>
 some (Node.mk x1.Id x1.Term x1.Vote x1.Role x1.Lead x119 (Log.mk x1.Log.Start x1.Log.StartTerm x123) x1.Commit x1.Clock x1.Limit x127 x131)
theorem sem_spec_l16Copy (N : Nat) (x1 : Node) (r : Node) (h : spec_l16Copy N x1 = some r) : Says Tryz.prog 31 [.agg [VI x1.Id,VI x1.Term,VI x1.Vote,VI x1.Role,VI x1.Lead,RO 3 (x1.Conf.map encI),VI x1.Log.Start,VI x1.Log.StartTerm,RO 40 (x1.Log.Entries.map encEntry),VI x1.Commit,VI x1.Clock,VI x1.Limit,RO 3 (x1.Votes.map encI),RO 98 (x1.Peers.map encPeer)]] 0 [] (.agg [VI r.Id,VI r.Term,VI r.Vote,VI r.Role,VI r.Lead,.sl 0 3 0 r.Conf.length,VI r.Log.Start,VI r.Log.StartTerm,.sl 1 40 0 r.Log.Entries.length,VI r.Commit,VI r.Clock,VI r.Limit,.sl 2 3 0 r.Votes.length,.sl 3 98 0 r.Peers.length]) [(0,.vec 3 (r.Conf.map encI)),(1,.vec 40 (r.Log.Entries.map encEntry)),(2,.vec 3 (r.Votes.map encI)),(3,.vec 98 (r.Peers.map encPeer))] := by
 unfold spec_l16Copy at h
 refine Says.of_norm e Tryz.call31 e fun B hB => ?_
 have hm : B.m ≤ 1000 := by omega
 refine Run.so hm (.z 1000 (.bx e e) e e (.z 1016 (.al e e) e e (.nil (.so hm (.z 5096 (Ev.bsW (ys := ([] : List Int)) (f := encI) e .nil e e e e e) e e (.p2 e e ?_))))))
 obtain ⟨x119,hx119,h⟩ := bindO h
 refine Ops.z 5144 (Ev.apW (f := encI) (ontoW e e e) (addsF e) e bt3 e hx119) e e (.p e (.y 5176 (.sto e e e e e e) e e (.nil (.so hm (.z 9192 (Ev.bsW (ys := ([] : List Entry)) (f := encEntry) e .nil e e e e e) e e (.p3 e e e ?_))))))
 obtain ⟨x123,hx123,h⟩ := bindO h
 refine Ops.z 9256 (Ev.apW (f := encEntry) (ontoW e e e) (addsF e) e bt40 e hx123) e e (.p2 e e (.y 9304 (.sto e e e e e e) e e (.nil (.so hm (.z 13288 (Ev.bsW (ys := ([] : List Int)) (f := encI) e .nil e e e e e) e e (.p2 e e ?_))))))
 obtain ⟨x127,hx127,h⟩ := bindO h
 refine Ops.z 13336 (Ev.apW (f := encI) (ontoW e e e) (addsF e) e bt3 e hx127) e e (.p e (.y 13368 (.sto e e e e e e) e e (.nil (.so hm (.z 17384 (Ev.bsW (ys := ([] : List Peer)) (f := encPeer) e .nil e e e e e) e e (.p2 e e ?_))))))
 obtain ⟨x131,hx131,h⟩ := bindO h
 refine Ops.z 17432 (Ev.apW (f := encPeer) (ontoW e e e) (addsF e) e bt98 e hx131) e e (.p e (.y 17464 (.sto e e e e e e) e e (.nil (.so hm (.p e (.y 21496 (.sto e e e e e e) e e (.nil (.ret ?_))))))))
 obtain rfl := someO h
 exact Ends.mkG (.inl e) e (gh_pk [0] [5144,9256,13336,17432] hB e e e e) e e
def spec_l16Tell (N : Nat) (x1 : Tl16Run) (x2 : Message) : Option (Tl16Run) :=
 (cat? x1.told ([(Message.mk x2.Kind x1.n.Id x2.To x1.n.Term x2.Index x2.LogTerm x2.Commit x2.Ok x2.Entries x2.Conf x2.Data x2.Last)] : List Message)).bind fun x103 =>
 some (Tl16Run.mk x1.n x103)
theorem sem_spec_l16Tell (N : Nat) (x1 : Tl16Run) (x2 : Message) (r : Tl16Run) (h : spec_l16Tell N x1 x2 = some r) : Says Tryz.prog 76 [.ptr 0 0,.agg [VI x2.Kind,VI x2.From,VI x2.To,VI x2.Term,VI x2.Index,VI x2.LogTerm,VI x2.Commit,VB x2.Ok,RO 40 (x2.Entries.map encEntry),RO 3 (x2.Conf.map encI),VS x2.Data,VB x2.Last]] 6 [(0,.box [VI x1.n.Id,VI x1.n.Term,VI x1.n.Vote,VI x1.n.Role,VI x1.n.Lead,.sl 1 3 0 x1.n.Conf.length,VI x1.n.Log.Start,VI x1.n.Log.StartTerm,.sl 2 40 0 x1.n.Log.Entries.length,VI x1.n.Commit,VI x1.n.Clock,VI x1.n.Limit,.sl 3 3 0 x1.n.Votes.length,.sl 4 98 0 x1.n.Peers.length,.sl 5 32 0 x1.told.length]),(1,.vec 3 (x1.n.Conf.map encI)),(2,.vec 40 (x1.n.Log.Entries.map encEntry)),(3,.vec 3 (x1.n.Votes.map encI)),(4,.vec 98 (x1.n.Peers.map encPeer)),(5,.vec 32 (x1.told.map (encMessage false)))] (.tup []) [(0,.box [VI r.n.Id,VI r.n.Term,VI r.n.Vote,VI r.n.Role,VI r.n.Lead,.sl 1 3 0 x1.n.Conf.length,VI r.n.Log.Start,VI r.n.Log.StartTerm,.sl 2 40 0 x1.n.Log.Entries.length,VI r.n.Commit,VI r.n.Clock,VI r.n.Limit,.sl 3 3 0 x1.n.Votes.length,.sl 4 98 0 x1.n.Peers.length,.sl 6 32 0 r.told.length]),(1,.vec 3 (x1.n.Conf.map encI)),(2,.vec 40 (x1.n.Log.Entries.map encEntry)),(3,.vec 3 (x1.n.Votes.map encI)),(4,.vec 98 (x1.n.Peers.map encPeer)),(5,.gone),(6,.vec 32 (r.told.map (encMessage false)))] := by
 unfold spec_l16Tell at h
 refine Says.of_norm e Tryz.call76 e fun B hB => ?_
 have hm : B.m ≤ 1000 := by omega
 refine Run.so hm (.z 1000 (.bx e e) e e (.nil (.so hm (.p3 e e e (.p3 e e e (.y 5192 (.sto e e e e e e) e e (.nil (.so hm (.p3 e e e (.p3 e e e (.y 9288 (.sto e e e e e e) e e (.nil (.draw hm hmix (.p e (.p e (.p e (.p e (.p e (.p e (.z 13384 (Ev.bsW (ys := ([(Message.mk x2.Kind x1.n.Id x2.To x1.n.Term x2.Index x2.LogTerm x2.Commit x2.Ok x2.Entries x2.Conf x2.Data x2.Last)] : List Message)) (f := (encMessage false)) e (.d4 (.d4 (.d4 .nil))) e e e e e) e e ?_))))))))))))))))))))
 obtain ⟨x103,hx103,h⟩ := bindO h
 refine OpsD.z 13400 (Ev.apW (f := (encMessage false)) (ontoW e e e) (addsW e e e (fun _ => e)) e bt32 e hx103) e e (.p e (.p e (.y 13448 (.sto e e e e e e) e e (.nil ⟨by kernel_rfl,?_⟩))))
 obtain rfl := someO h
 exact Ends.mkG (.inr e) e (gh_pk [] [0,1,2,3,4,5,13400] hB e e e e) e e
def spec_l16Tell_i1 (N : Nat) (x1 : Tl16Run) (x2 : Message) : Option (Tl16Run × (List Int)) :=
 (cat? x1.told ([(Message.mk x2.Kind x1.n.Id x2.To x1.n.Term x2.Index x2.LogTerm x2.Commit x2.Ok ([]) x2.Conf x2.Data x2.Last)] : List Message)).bind fun x103 =>
 some ((Tl16Run.mk x1.n x103),x2.Conf)
theorem sem_spec_l16Tell_i1 (N : Nat) (x1 : Tl16Run) (x2 : Message) (r : Tl16Run × (List Int)) (h : spec_l16Tell_i1 N x1 x2 = some r) : Says Tryz.prog 76 [.ptr 0 0,.agg [VI x2.Kind,VI x2.From,VI x2.To,VI x2.Term,VI x2.Index,VI x2.LogTerm,VI x2.Commit,VB x2.Ok,NI 40,.sl 1 3 0 x2.Conf.length,VS x2.Data,VB x2.Last]] 7 [(0,.box [VI x1.n.Id,VI x1.n.Term,VI x1.n.Vote,VI x1.n.Role,VI x1.n.Lead,.sl 2 3 0 x1.n.Conf.length,VI x1.n.Log.Start,VI x1.n.Log.StartTerm,.sl 3 40 0 x1.n.Log.Entries.length,VI x1.n.Commit,VI x1.n.Clock,VI x1.n.Limit,.sl 4 3 0 x1.n.Votes.length,.sl 5 98 0 x1.n.Peers.length,.sl 6 32 0 x1.told.length]),(1,.vec 3 (x2.Conf.map encI)),(2,.vec 3 (x1.n.Conf.map encI)),(3,.vec 40 (x1.n.Log.Entries.map encEntry)),(4,.vec 3 (x1.n.Votes.map encI)),(5,.vec 98 (x1.n.Peers.map encPeer)),(6,.vec 32 (x1.told.map (encMessage false)))] (.tup []) [(0,.box [VI r.1.n.Id,VI r.1.n.Term,VI r.1.n.Vote,VI r.1.n.Role,VI r.1.n.Lead,.sl 2 3 0 x1.n.Conf.length,VI r.1.n.Log.Start,VI r.1.n.Log.StartTerm,.sl 3 40 0 x1.n.Log.Entries.length,VI r.1.n.Commit,VI r.1.n.Clock,VI r.1.n.Limit,.sl 4 3 0 x1.n.Votes.length,.sl 5 98 0 x1.n.Peers.length,.sl 7 32 0 r.1.told.length]),(1,.ro 3 (r.2.map encI)),(2,.vec 3 (x1.n.Conf.map encI)),(3,.vec 40 (x1.n.Log.Entries.map encEntry)),(4,.vec 3 (x1.n.Votes.map encI)),(5,.vec 98 (x1.n.Peers.map encPeer)),(6,.gone),(7,.vec 32 (r.1.told.map (encMessage false)))] := by
 unfold spec_l16Tell_i1 at h
 refine Says.of_norm e Tryz.call76 e fun B hB => ?_
 have hm : B.m ≤ 1000 := by omega
 refine Run.so hm (.z 1000 (.bx e e) e e (.nil (.so hm (.p3 e e e (.p3 e e e (.y 5192 (.sto e e e e e e) e e (.nil (.so hm (.p3 e e e (.p3 e e e (.y 9288 (.sto e e e e e e) e e (.nil (.draw hm hmix (.p e (.p e (.p e (.p e (.p e (.p e (.stz (s := 13384) (EvZ.frz (f := encI) (g := encI) (xs := x2.Conf) 1 (fun _ => e) e (.mk (Ev.bsW (ys := ([(Message.mk x2.Kind x1.n.Id x2.To x1.n.Term x2.Index x2.LogTerm x2.Commit x2.Ok ([]) x2.Conf x2.Data x2.Last)] : List Message)) (f := (encMessage false)) e (.d4 (.d4 (.cons (.nilro _ _) (.cons (.ro e (shareW _ e)) (.d2 .nil))))) e e e e e))) e e ?_))))))))))))))))))))
 obtain ⟨x103,hx103,h⟩ := bindO h
 refine OpsD.z 13400 (Ev.apW (f := (encMessage false)) (ontoW e e e) (addsW e e e (fun _ => e)) e bt32 e hx103) e e (.p e (.p e (.y 13448 (.sto e e e e e e) e e (.nil ⟨by kernel_rfl,?_⟩))))
 obtain rfl := someO h
 exact Ends.mkG (.inr e) e (gh_pk [] [0,1,2,3,4,5,6,13400] hB e e e e) e e
def spec_l12Last (N : Nat) (x1 : Log) : Option (Int) :=
 some (w64 (x1.Start + (x1.Entries.length : Int)))
theorem sem_spec_l12Last (N : Nat) (x1 : Log) (r : Int) (h : spec_l12Last N x1 = some r) : Says Tryz.prog 80 [.agg [VI x1.Start,VI x1.StartTerm,RO 40 (x1.Entries.map encEntry)]] 0 [] (VI r) [] := by
 unfold spec_l12Last at h
 refine Says.of_norm e Tryz.call80 e fun B hB => ?_
 have hm : B.m ≤ 1000 := by omega
 refine Run.so hm (.z 1000 (.bx e e) e e (.p e (.nil (.so hm (.p3 e e e (.p e (.z 5160 (Ev.lnF e) e e (.p2 e e (.nil (.ret ?_))))))))))
 obtain rfl := someO h
 exact Ends.mkG (.inl e) e (gh_pk [0] [] hB e e e e) e e
def spec_LogTerm (N : Nat) (x1 : Log) (x2 : Int) : Option (Int) :=
 (if (x2 == x1.Start) = true then
 some x1.StartTerm
 else
 (if (decide (x2 < x1.Start)) = true then
 some (-1 : Int)
 else
 (spec_l12Last N x1).bind fun y124 =>
 (if (decide (x2 > y124)) = true then
 some (-1 : Int)
 else
 (at? x1.Entries (w64 ((w64 (x2 - x1.Start)) - 1))).bind fun x127 =>
 some x127.Term)))
theorem sem_spec_LogTerm (N : Nat) (x1 : Log) (x2 : Int) (r : Int) (h : spec_LogTerm N x1 x2 = some r) : Says Tryz.prog 82 [.agg [VI x1.Start,VI x1.StartTerm,RO 40 (x1.Entries.map encEntry)],VI x2] 0 [] (VI r) [] := by
 unfold spec_LogTerm at h
 refine Says.of_norm e Tryz.call82 e fun B hB => ?_
 have hm : B.m ≤ 1000 := by omega
 refine Run.so hm (.z 1000 (.bx e e) e e (.p e (.nil (.seq (.so hm (.p3 e e e (.p e (.nil (.condO e h (fun g115 h => ?_) (fun g115 h => ?_))))))))))
 ·refine Run.so hm (.p3 e e e (.nil (.ret ?_)))
  obtain rfl := someO h
  exact Ends.mkG (.inl e) e (gh_pk [0] [] hB e e e e) e e
 ·refine Run.skip (.seq (.so hm (.p3 e e e (.p2 e e (.askO (x := .t 15) e h (fun g123 h => ?_) (fun g123 h => ?_))))))
  ·refine Ops.gn e g123 (.gn e g123 (.gn e g123 (.gn e g123 (.z 13432 (.pkT e g123 e) e e (.nil (.condT e e (.so hm (.p e (.nil (.ret ?_))))))))))
   obtain rfl := someO h
   exact Ends.mkG (.inl e) e (gh_pk [0] [] hB e e e e) e e
  ·refine Ops.gp e g123 e (.gp e g123 e ?_)
   obtain ⟨y124,hy124,h⟩ := bindO h
   refine Ops.gs (s := 13400) e g123 (Ev.call [] [] 0 (sem_spec_l12Last _ _ _ hy124) e e (.cons (.agg (.d2 (.d1 .nil))) .nil) e (.inl e) e e) e e (.gp e g123 e (.z 13432 (.pkF e g123 e) e e (.nil (.condO e h (fun g125 h => ?_) (fun g125 h => ?_)))))
   ·refine Run.so hm (.p e (.nil (.ret ?_)))
    obtain rfl := someO h
    exact Ends.mkG (.inl e) e (gh_pk [0] [] hB e e e e) e e
   ·refine Run.skip (.so hm (.p3 e e e (.p3 e e e (.p e ?_))))
    obtain ⟨x127,hx127,h⟩ := bindO h
    refine Ops.z 21592 (Ev.iaF e e hx127) e e (.p3 e e e (.nil (.ret ?_)))
    obtain rfl := someO h
    exact Ends.mkG (.inl e) e (gh_pk [0] [] hB e e e e) e e
def spec_l16Send_l1 (N : Nat) (x1 : Tl16Run) : Nat → Int → (List Entry) → Option ((List Entry))
 | 0,_,_ => none
 | m + 1,x312,x340 =>
 (if (decide (x312 < ((x1.n.Log.Entries.length : Nat) : Int))) = true then
 (if (decide (((x340.length : Nat) : Int) < 4)) = true then
 (at? x1.n.Log.Entries x312).bind fun x370 =>
 (cat? x340 ([x370] : List Entry)).bind fun x371 =>
 spec_l16Send_l1 N x1 m (w64 (x312 + 1)) x371
 else
 some x340)
 else
 some x340)
def spec_l16Send (N : Nat) (x1 : Tl16Run) (x2 : Peer) : Option (Tl16Run) :=
 (if (decide (x2.Next ≤ x1.n.Log.Start)) = true then
 (cat? ([] : List Int) x1.n.Conf).bind fun x245 =>
 (spec_l16Tell_i1 N x1 (Message.mk 5 0 x2.Id 0 x1.n.Log.Start x1.n.Log.StartTerm x2.Sent false ([]) x245 (⟨#[]⟩ : ByteArray) false)).bind fun y246 =>
 some (Tl16Run.mk (Node.mk y246.1.n.Id y246.1.n.Term y246.1.n.Vote y246.1.n.Role y246.1.n.Lead x1.n.Conf (Log.mk y246.1.n.Log.Start y246.1.n.Log.StartTerm x1.n.Log.Entries) y246.1.n.Commit y246.1.n.Clock y246.1.n.Limit x1.n.Votes x1.n.Peers) y246.1.told)
 else
 (spec_LogTerm N x1.n.Log (w64 (x2.Next - 1))).bind fun y250 =>
 joinP (fun (v311 : (List Entry)) =>
 (spec_l16Tell N x1 (Message.mk 3 0 x2.Id 0 (w64 (x2.Next - 1)) y250 x1.n.Commit false v311 ([] : (List Int)) (⟨#[]⟩ : ByteArray) false)).bind fun y373 =>
 some (Tl16Run.mk (Node.mk y373.n.Id y373.n.Term y373.n.Vote y373.n.Role y373.n.Lead x1.n.Conf (Log.mk y373.n.Log.Start y373.n.Log.StartTerm x1.n.Log.Entries) y373.n.Commit y373.n.Clock y373.n.Limit x1.n.Votes x1.n.Peers) y373.told)) fun j311 =>
 (spec_l16Send_l1 N x1 N (w64 ((w64 (x2.Next - x1.n.Log.Start)) - 1)) ([] : (List Entry))).bind (fun v356 => j311 v356))
theorem sem_spec_l16Send (N : Nat) (x1 : Tl16Run) (x2 : Peer) (r : Tl16Run) (h : spec_l16Send N x1 x2 = some r) : Says Tryz.prog 84 [.ptr 0 0,.agg [VI x2.Id,VI x2.Next,VI x2.Match,VI x2.Sent]] 6 [(0,.box [VI x1.n.Id,VI x1.n.Term,VI x1.n.Vote,VI x1.n.Role,VI x1.n.Lead,.sl 1 3 0 x1.n.Conf.length,VI x1.n.Log.Start,VI x1.n.Log.StartTerm,.sl 2 40 0 x1.n.Log.Entries.length,VI x1.n.Commit,VI x1.n.Clock,VI x1.n.Limit,.sl 3 3 0 x1.n.Votes.length,.sl 4 98 0 x1.n.Peers.length,.sl 5 32 0 x1.told.length]),(1,.vec 3 (x1.n.Conf.map encI)),(2,.vec 40 (x1.n.Log.Entries.map encEntry)),(3,.vec 3 (x1.n.Votes.map encI)),(4,.vec 98 (x1.n.Peers.map encPeer)),(5,.vec 32 (x1.told.map (encMessage false)))] (.tup []) [(0,.box [VI r.n.Id,VI r.n.Term,VI r.n.Vote,VI r.n.Role,VI r.n.Lead,.sl 1 3 0 x1.n.Conf.length,VI r.n.Log.Start,VI r.n.Log.StartTerm,.sl 2 40 0 x1.n.Log.Entries.length,VI r.n.Commit,VI r.n.Clock,VI r.n.Limit,.sl 3 3 0 x1.n.Votes.length,.sl 4 98 0 x1.n.Peers.length,.sl 6 32 0 r.told.length]),(1,.vec 3 (x1.n.Conf.map encI)),(2,.vec 40 (x1.n.Log.Entries.map encEntry)),(3,.vec 3 (x1.n.Votes.map encI)),(4,.vec 98 (x1.n.Peers.map encPeer)),(5,.gone),(6,.vec 32 (r.told.map (encMessage false)))] := by
 unfold spec_l16Send at h
 refine Says.of_norm e Tryz.call84 e fun B hB => ?_
 have hm : B.m ≤ 1000 := by omega
 refine Run.so hm (.z 1000 (.bx e e) e e (.nil (.so hm (.p3 e e e (.p2 e e (.z 5176 (.al e e) e e (.y 5192 (.sto e e e e e e) e e (.nil (.seq (.so hm (.p3 e e e (.p2 e e (.nil (.condO e h (fun g242 h => ?_) (fun g242 h => ?_)))))))))))))))
 ·refine Run.seq (.draw hm hmix (.p e (.p e (.p e (.p e (.p e (.p e (.p e (.z 13400 (Ev.bsW (ys := ([] : List Int)) (f := encI) e .nil e e e e e) e e (.p e (.p e (.p e (.p e (.p e ?_))))))))))))))
  obtain ⟨x245,hx245,h⟩ := bindO h
  refine OpsD.z 13496 (Ev.apW (f := encI) (ontoW e e e) (addsW e e e (fun _ => e)) e bt3 e hx245) e e (.p e (.p e (.z 13544 (.bd e e) e e ?_)))
  obtain ⟨y246,hy246,h⟩ := bindO h
  refine OpsD.z 13560 (Ev.call [0,13496,1,2,3,4,5] [] 1 (sem_spec_l16Tell_i1 _ _ _ _ hy246) e e (.cons (.ptr e) (.cons (.agg (.d4 (.d4 (.d1 (.cons (.sl e) (.d2 .nil)))))) .nil)) e (.inl e) e e) e e (.nil ⟨by kernel_rfl,?_⟩)
  refine Run.ret ?_
  obtain rfl := someO h
  exact Ends.mkG (.inl e) e (gh_pk [] [0,1,2,3,4,5,13560] hB e e e e) e e
 ·refine Run.skip (.seq (.draw hm hmix (.p e (.p e (.p e (.p e (.p e (.p e (.p e (.p e (.p e ?_)))))))))))
  obtain ⟨y250,hy250,h⟩ := bindO h
  refine OpsD.z 17528 (Ev.call [] [2] 0 (sem_spec_LogTerm _ _ _ _ hy250) e e (.cons (.agg (.d2 (.cons (.borrow e (by decide) (lendW (fun _ => e) _ e)) .nil))) (.d1 .nil)) e (.inr ⟨e,ownL_root trivial⟩) e e) e e ?_
  refine OpsD.p e (.p e (.p e (.p e (.p e (.z 17624 (.bd e e) e e (.z 17640 (.al e e) e e (.y 17656 (.sto e e e e e e) e e (.nil ⟨by kernel_rfl,?_⟩))))))))
  refine Run.seqO h (fun v311 => [(0,.ptr 0 0),(5,.ptr 6 0)]) (fun (v311 : (List Entry)) => [(0,.box [VI x1.n.Id,VI x1.n.Term,VI x1.n.Vote,VI x1.n.Role,VI x1.n.Lead,.sl 1 3 0 x1.n.Conf.length,VI x1.n.Log.Start,VI x1.n.Log.StartTerm,.sl 2 40 0 x1.n.Log.Entries.length,VI x1.n.Commit,VI x1.n.Clock,VI x1.n.Limit,.sl 3 3 0 x1.n.Votes.length,.sl 4 98 0 x1.n.Peers.length,.sl 5 32 0 x1.told.length]),(1,.vec 3 (x1.n.Conf.map encI)),(2,.vec 40 (x1.n.Log.Entries.map encEntry)),(3,.vec 3 (x1.n.Votes.map encI)),(4,.vec 98 (x1.n.Peers.map encPeer)),(5,.vec 32 (x1.told.map (encMessage false))),(6,.box [VI 3,VI 0,VI x2.Id,VI 0,VI (w64 (x2.Next - 1)),VI y250,VI x1.n.Commit,VB false,.sl 7 40 0 v311.length,.sl 8 3 0 (([] : (List Int)).length),VS (⟨#[]⟩ : ByteArray),VB false]),(7,.vec 40 (v311.map encEntry)),(8,.vec 3 (([] : (List Int)).map encI))]) (fun h => ?_) (fun v311 h => ?_)
  ·refine Run.so hm (.p3 e e e (.p3 e e e (.p e (.nil (.block ?_)))))
   obtain ⟨res356,h,hk356⟩ := bindO h
   refine Run.loop (n := N) (fun m356 fr σ => ∃ (x312 : Int),∃ (x340 : (List Entry)),spec_l16Send_l1 N x1 m356 x312 x340 = some res356 ∧ fr = [(0,.ptr 0 0),(4,.ptr 6 0),(5,.ptr 7 0),(6,VI x312)] ∧ σ = [(0,.box [VI x1.n.Id,VI x1.n.Term,VI x1.n.Vote,VI x1.n.Role,VI x1.n.Lead,.sl 1 3 0 x1.n.Conf.length,VI x1.n.Log.Start,VI x1.n.Log.StartTerm,.sl 2 40 0 x1.n.Log.Entries.length,VI x1.n.Commit,VI x1.n.Clock,VI x1.n.Limit,.sl 3 3 0 x1.n.Votes.length,.sl 4 98 0 x1.n.Peers.length,.sl 5 32 0 x1.told.length]),(1,.vec 3 (x1.n.Conf.map encI)),(2,.vec 40 (x1.n.Log.Entries.map encEntry)),(3,.vec 3 (x1.n.Votes.map encI)),(4,.vec 98 (x1.n.Peers.map encPeer)),(5,.vec 32 (x1.told.map (encMessage false))),(6,.box [VI x1.n.Log.Start,VI x1.n.Log.StartTerm,.sl 2 40 0 x1.n.Log.Entries.length]),(7,.box [VI 3,VI 0,VI x2.Id,VI 0,VI (w64 (x2.Next - 1)),VI y250,VI x1.n.Commit,VB false,.sl 8 40 0 x340.length,.sl 9 3 0 (([] : (List Int)).length),VS (⟨#[]⟩ : ByteArray),VB false]),(8,.vec 40 (x340.map encEntry)),(9,.vec 3 (([] : (List Int)).map encI))]) (Gh.trans (Gh.trans (gh_prn [0,4,5,6] [0,1,2,3,4,5,5176,17640] hB e) (gh_nil [] [17640] hB e e e)) (gh_pk [0,4,5,6] [0,1,2,3,4,5,5176,17640,20000000,20000001] hB e e e e)) ⟨_,_,h,e,e⟩ ?_
   rintro m356 fr σ ⟨x312,x340,h,rfl,rfl⟩
   obtain _ | m356 := m356
   ·rw [spec_l16Send_l1] at h; cases h
   rw [spec_l16Send_l1] at h
   refine Run.seq (.so hm (.p3 e e e (.p3 e e e (.askO (x := .t 62) e h (fun g362 h => ?_) (fun g362 h => ?_)))))
   ·refine Ops.gp e g362 e (.gp e g362 e (.gp e g362 e (.gp e g362 e (.z 25736 (.pkT e g362 e) e e (.nil (.condO e h (fun g363 h => ?_) (fun g363 h => ?_)))))))
    ·refine Run.skip (.seq (.block (.draw hm hmix (.p e (.p e (.p e (.p e (.p e ?_))))))))
     obtain ⟨x370,hx370,h⟩ := bindO h
     refine OpsD.z 33848 (Ev.iaW e e e hx370) e e (.z 33864 (Ev.ldE (f := encEntry) e e (at_some hx370).2 e e e) e e (.z 33880 (Ev.bsW (ys := ([x370] : List Entry)) (f := encEntry) e (.d2 (.d1 .nil)) e e e e e) e e ?_))
     obtain ⟨x371,hx371,h⟩ := bindO h
     refine OpsD.z 33896 (Ev.apW (f := encEntry) (ontoW e e e) (addsW e e e (fun _ => e)) e bt40 e hx371) e e (.p e (.y 33928 (.sto e e e e e e) e e (.nil ⟨by kernel_rfl,?_⟩)))
     exact Run.ops hm (.p3 e e e (.nil (⟨m356,Nat.lt_succ_self m356,_,_,(gh_pk [0,4,5,6] [0,1,2,3,4,5,6,7,33896,9] hB e e e e),_,_,h,e,e⟩)))
    ·refine Run.exit ?_
     obtain rfl := someO h
     have h := hk356
     exact ⟨_,_,(gh_pk [0,5] [0,1,2,3,4,5,7,8,9] hB e e e e),_,h,e,e⟩
   ·refine Ops.gn e g362 (.gn e g362 (.gn e g362 (.gn e g362 (.z 25736 (.pkF e g362 e) e e (.nil (.condF e e (.exit ?_)))))))
    obtain rfl := someO h
    have h := hk356
    exact ⟨_,_,(gh_pk [0,5] [0,1,2,3,4,5,7,8,9] hB e e e e),_,h,e,e⟩
  ·refine Run.ops hm (.p2 e e ?_)
   obtain ⟨y373,hy373,h⟩ := bindO h
   refine Ops.stz (s := 37896) (EvZ.frz (f := encEntry) (g := encEntry) (xs := v311) 7 (fun _ => e) e (EvZ.frz (f := encI) (g := encI) (xs := ([] : (List Int))) 8 (fun _ => e) e (.mk (Ev.call [0,1,2,3,4,5] [] 1 (sem_spec_l16Tell _ _ _ _ hy373) e e (.cons (.ptr e) (.cons (.agg (.d4 (.d4 (.cons (.share e (shareW _ e)) (.cons (.share e (shareW _ e)) (.d2 .nil)))))) .nil)) e (.inl e) e e)))) e e (.nil ?_)
   obtain rfl := someO h
   exact Ends.mkG (.inr e) e (gh_pk [] [0,1,2,3,4,5,37896] hB e e e e) e e
end Go.Proofs.YtkojbcnafckofaaGreat.Pe.FnStays
