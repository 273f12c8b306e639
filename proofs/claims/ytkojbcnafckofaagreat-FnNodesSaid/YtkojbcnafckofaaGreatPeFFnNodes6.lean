/- Functions,as pure functions; and that Go does just that. -/
import Derived.Test.YtkojbcnafckofaaGreatPeFFnNodes5
namespace Go.Proofs.YtkojbcnafckofaaGreat.Pe.FnNodes
open Go Go.RowKit
set_option linter.unusedVariables false
set_option linter.unusedSimpArgs false
set_option maxHeartbeats 40000000
set_option maxRecDepth 100000
def i_peersOk_l1 (N : Nat) (x1 : Node) : Nat → Int → (List Int) → Option ((Bool) ⊕ ((List Int)))
 | 0,_,_ => none
 | m + 1,x309,x324 =>
 (if (decide (x309 < (x1.Peers.length : Int))) = true then
 (at? x1.Peers x309).bind fun x356 =>
 (cat? x324 ([x356.Id] : List Int)).bind fun x360 =>
 (i_last N x1.Log).bind fun y367 =>
 (i_within N x356.Next 1 (w64 (y367 + 1))).bind fun y368 =>
 (if (!y368) = true then
 some (Sum.inl false)
 else
 (i_within N x356.Match 0 (w64 (x356.Next - 1))).bind fun y370 =>
 (if (!y370) = true then
 some (Sum.inl false)
 else
 (i_within N x356.Sent 0 20000).bind fun y372 =>
 (if (!y372) = true then
 some (Sum.inl false)
 else
 i_peersOk_l1 N x1 m (w64 (x309 + 1)) x360)))
 else
 some (Sum.inr x324))
def i_peersOk_l1_r (N : Nat) (x1 : Node) : (List Peer) → Int → (List Int) → Option ((Bool) ⊕ ((List Int)))
 | [],x309,x324 =>
 some (Sum.inr x324)
 | hd :: tl,x309,x324 =>
 (some hd).bind fun x356 =>
 (cat? x324 ([x356.Id] : List Int)).bind fun x360 =>
 (i_last N x1.Log).bind fun y367 =>
 (i_within N x356.Next 1 (w64 (y367 + 1))).bind fun y368 =>
 (if (!y368) = true then
 some (Sum.inl false)
 else
 (i_within N x356.Match 0 (w64 (x356.Next - 1))).bind fun y370 =>
 (if (!y370) = true then
 some (Sum.inl false)
 else
 (i_within N x356.Sent 0 20000).bind fun y372 =>
 (if (!y372) = true then
 some (Sum.inl false)
 else
 i_peersOk_l1_r N x1 tl (w64 (x309 + 1)) x360)))
theorem i_peersOk_l1_rng (N : Nat) (x1 : Node) (hx : x1.Peers.length ≤ 1099511627776) : ∀ (d k m : Nat) (x324 : (List Int)),x1.Peers.length = k + d → d < m → i_peersOk_l1 N x1 m (k : Int) x324 = i_peersOk_l1_r N x1 (x1.Peers.drop k) (k : Int) x324 := by
 intro d
 induction d with
 | zero =>
  intro k m x324 hd hm
  obtain ⟨m,rfl⟩ : ∃ q,m = q + 1 := ⟨m - 1,by omega⟩
  rw [i_peersOk_l1,if_neg (by simp; omega),List.drop_eq_nil_of_le (by omega),i_peersOk_l1_r]
 | succ d ih =>
  intro k m x324 hd hm
  obtain ⟨m,rfl⟩ : ∃ q,m = q + 1 := ⟨m - 1,by omega⟩
  have hk : k < x1.Peers.length := by omega
  rw [i_peersOk_l1,if_pos (by simp; omega),List.drop_eq_getElem_cons hk,i_peersOk_l1_r]
  have h1 := at_lt hk
  have h2 := w64_succ (k := k) (by omega)
  have h3 := ih (k + 1) m
  simp only [h1,h2,h3 _ (by omega) (by omega)]
theorem i_peersOk_l1_eq {N : Nat} (x1 : Node) (hx : x1.Peers.length ≤ 1099511627776) (hN : x1.Peers.length < N) (x324 : (List Int)) : i_peersOk_l1 N x1 N 0 x324 = i_peersOk_l1_r N x1 x1.Peers 0 x324 := i_peersOk_l1_rng N x1 hx x1.Peers.length 0 N x324 (by omega) hN
def i_peersOk (N : Nat) (x1 : Node) : Option (Bool) :=
 joinP (fun (v306 : (List Int)) =>
 (i_othersOf N x1).bind fun y376 =>
 (L_Equal_int N v306 (y376.2.take y376.1)).bind fun y377 =>
 some y377) fun j306 =>
 (i_peersOk_l1 N x1 N 0 ([] : (List Int))).bind (Sum.elim (fun v348 => some v348) (fun (v349 : (List Int)) => j306 v349))
theorem sem_i_peersOk (N : Nat) (x1 : Node) (r : Bool) (h : i_peersOk N x1 = some r) : Says Tryz.prog 42 [.agg [VI x1.Id,VI x1.Term,VI x1.Vote,VI x1.Role,VI x1.Lead,RO 3 (x1.Conf.map encI),VI x1.Log.Start,VI x1.Log.StartTerm,RO 40 (x1.Log.Entries.map eE),VI x1.Commit,VI x1.Clock,VI x1.Limit,RO 3 (x1.Votes.map encI),RO 98 (x1.Peers.map eP)]] 0 [] (VB r) [] := by
 unfold i_peersOk at h
 refine Says.of_norm e Tryz.call42 e fun B hB => ?_
 have hm : B.m ≤ 1000 := by omega
 refine Run.so hm (.z 1000 (.bx e e) e e (.p e (.nil (.so hm (.p e (.nil (.seqO h (fun v306 => [(1,.ptr 0 0),(3,.sl 1 3 0 v306.length)]) (fun (v306 : (List Int)) => [(0,.box [VI x1.Id,VI x1.Term,VI x1.Vote,VI x1.Role,VI x1.Lead,RO 3 (x1.Conf.map encI),VI x1.Log.Start,VI x1.Log.StartTerm,RO 40 (x1.Log.Entries.map eE),VI x1.Commit,VI x1.Clock,VI x1.Limit,RO 3 (x1.Votes.map encI),RO 98 (x1.Peers.map eP)]),(1,.vec 3 (v306.map encI))]) (fun h => ?_) (fun v306 h => ?_))))))))
 ·refine Run.so hm (.p2 e e (.z 9224 (Ev.lnF e) e e (.p e (.nil (.block ?_)))))
  obtain ⟨res349,h,hk349⟩ := bindO h
  refine Run.loop (n := N) (fun m349 fr σ => ∃ (x309 : Int),∃ (x324 : (List Int)),i_peersOk_l1 N x1 m349 x309 x324 = some res349 ∧ fr = [(1,.ptr 0 0),(3,.sl 1 3 0 x324.length),(7,RO 98 (x1.Peers.map eP)),(8,VI (x1.Peers.length : Int)),(9,VI x309)] ∧ σ = [(0,.box [VI x1.Id,VI x1.Term,VI x1.Vote,VI x1.Role,VI x1.Lead,RO 3 (x1.Conf.map encI),VI x1.Log.Start,VI x1.Log.StartTerm,RO 40 (x1.Log.Entries.map eE),VI x1.Commit,VI x1.Clock,VI x1.Limit,RO 3 (x1.Votes.map encI),RO 98 (x1.Peers.map eP)]),(1,.vec 3 (x324.map encI))]) (Gh.trans (Gh.trans (gh_prn [1,3,7,8,9] [1000] hB e) (gh_nil [3] [] hB e e e)) (gh_pk [1,3,7,8,9] [1000,10000000] hB e e e e)) ⟨_,_,h,e,e⟩ ?_
  rintro m349 fr σ ⟨x309,x324,h,rfl,rfl⟩
  obtain _ | m349 := m349
  ·rw [i_peersOk_l1] at h; cases h
  rw [i_peersOk_l1] at h
  refine Run.so hm (.p e (.nil (.seq (.condO e h (fun g352 h => ?_) (fun g352 h => ?_)))))
  ·refine Run.skip (.seq (.block (.so hm ?_)))
   obtain ⟨x356,hx356,h⟩ := bindO h
   refine Ops.z 17384 (Ev.iaF e e hx356) e e (.p e (.z 17416 (.al e e) e e (.y 17432 (.sto e e e e e e) e e (.nil (.so hm (.p3 e e e (.z 21528 (Ev.bsW (ys := ([x356.Id] : List Int)) (f := encI) e (.d1 .nil) e e e e e) e e ?_)))))))
   obtain ⟨x360,hx360,h⟩ := bindO h
   refine Ops.z 21544 (Ev.apW (f := encI) (ontoW e e e) (addsW e e e (fun _ => e)) e bt3 e hx360) e e (.p e (.nil (.seq (.draw hm hmix (.p e (.p e (.p e (.p e ?_))))))))
   obtain ⟨y367,hy367,h⟩ := bindO h
   refine OpsD.z 25640 (Ev.call [] [] 0 (sem_i_last _ _ _ hy367) e e (.cons (.agg (.d2 (.d1 .nil))) .nil) e (.inl e) e e) e e (.p e ?_)
   obtain ⟨y368,hy368,h⟩ := bindO h
   refine OpsD.z 25672 (Ev.call [] [] 0 (sem_i_within _ _ _ _ _ hy368) e e (.d2 (.d1 .nil)) e (.inl e) e e) e e (.p e (.p e (.askO (x := .t 26) e h (fun g369 h => ?_) (fun g369 h => ?_))))
   ·refine OpsD.gn e g369 (.gn e g369 (.gn e g369 (.gn e g369 (.gn e g369 (.gn e g369 (.gn e g369 (.z 25832 (.pkT e g369 e) e e (.p e (.gn e e (.gn e e (.gn e e (.gn e e (.z 25928 (.pkT e e e) e e (.nil ⟨by kernel_rfl,?_⟩))))))))))))))
    refine Run.condT e e (.so hm (.p e (.nil (.ret ?_))))
    obtain rfl := someO h
    have h := hk349
    replace h := inlO h
    obtain rfl := someO h
    exact Ends.mkG (.inl e) e (gh_pk [0] [] hB e e e e) e e
   ·refine OpsD.gp e g369 e (.gp e g369 e (.gp e g369 e (.gp e g369 e (.gp e g369 e ?_))))
    obtain ⟨y370,hy370,h⟩ := bindO h
    refine OpsD.gs (s := 25800) e g369 (Ev.call [] [] 0 (sem_i_within _ _ _ _ _ hy370) e e (.d2 (.d1 .nil)) e (.inl e) e e) e e (.gp e g369 e (.z 25832 (.pkF e g369 e) e e (.p e (.askO (x := .t 35) e h (fun g371 h => ?_) (fun g371 h => ?_)))))
    ·refine OpsD.gn e g371 (.gn e g371 (.gn e g371 (.gn e g371 (.z 25928 (.pkT e g371 e) e e (.nil ⟨by kernel_rfl,?_⟩)))))
     refine Run.condT e e (.so hm (.p e (.nil (.ret ?_))))
     obtain rfl := someO h
     have h := hk349
     replace h := inlO h
     obtain rfl := someO h
     exact Ends.mkG (.inl e) e (gh_pk [0] [] hB e e e e) e e
    ·refine OpsD.gp e g371 e (.gp e g371 e ?_)
     obtain ⟨y372,hy372,h⟩ := bindO h
     refine OpsD.gs (s := 25896) e g371 (Ev.call [] [] 0 (sem_i_within _ _ _ _ _ hy372) e e (.d2 (.d1 .nil)) e (.inl e) e e) e e (.gp e g371 e (.z 25928 (.pkF e g371 e) e e (.nil ⟨by kernel_rfl,?_⟩)))
     refine Run.condO e h (fun g373 h => ?_) (fun g373 h => ?_)
     ·refine Run.so hm (.p e (.nil (.ret ?_)))
      obtain rfl := someO h
      have h := hk349
      replace h := inlO h
      obtain rfl := someO h
      exact Ends.mkG (.inl e) e (gh_pk [0] [] hB e e e e) e e
     ·exact Run.skip (.ops hm (.p2 e e (.nil (⟨m349,Nat.lt_succ_self m349,_,_,(gh_pk [1,3,7,8,9] [0,21544] hB e e e e),_,_,h,e,e⟩))))
  ·refine Run.exit ?_
   obtain rfl := someO h
   have h := hk349
   replace h := inrO h
   exact ⟨_,_,(gh_pk [1,3] [0,1] hB e e e e),_,h,e,e⟩
 ·refine Run.so hm (.p2 e e ?_)
  obtain ⟨y376,hy376,h⟩ := bindO h
  refine Ops.z 37896 (Ev.call [] [] 1 (sem_i_othersOf _ _ _ hy376) e e (.cons (.agg (.d4 (.d4 (.d4 (.d2 .nil))))) .nil) e (.inl e) e e) e e ?_
  obtain ⟨y377,hy377,h⟩ := bindO h
  refine Ops.z 37912 (Ev.call [] [1,37896] 0 (sem_L_Equal_int _ _ _ _ hy377) e e (.cons (.borrow e (by decide) (lendW (fun _ => e) _ e)) (.cons (.borrow e (by decide) (lendP (fun _ => e) _ _ _)) .nil)) e (.inr ⟨e,ownL_root trivial⟩) e e) e e ?_
  refine Ops.p e (.nil (.ret ?_))
  obtain rfl := someO h
  exact Ends.mkG (.inl e) e (gh_pk [0] [] hB e e e e) e e
def i_NodeOk_l1 (N : Nat) (x1 : Node) : Nat → Int → Option ((Bool) ⊕ (Unit))
 | 0,_ => none
 | m + 1,x427 =>
 (if (decide (x427 < (x1.Votes.length : Int))) = true then
 (at? x1.Votes x427).bind fun x465 =>
 (i_within N x465 1 4).bind fun y470 =>
 (if (!y470) = true then
 some (Sum.inl false)
 else
 (if (decide (x427 > 0)) = true then
 (at? x1.Votes (w64 (x427 - 1))).bind fun x473 =>
 (if (decide (x473 ≥ x465)) = true then
 some (Sum.inl false)
 else
 i_NodeOk_l1 N x1 m (w64 (x427 + 1)))
 else
 i_NodeOk_l1 N x1 m (w64 (x427 + 1))))
 else
 some (Sum.inr ()))
def i_NodeOk_l1_r (N : Nat) (x1 : Node) : (List Int) → Int → Option ((Bool) ⊕ (Unit))
 | [],x427 =>
 some (Sum.inr ())
 | hd :: tl,x427 =>
 (some hd).bind fun x465 =>
 (i_within N x465 1 4).bind fun y470 =>
 (if (!y470) = true then
 some (Sum.inl false)
 else
 (if (decide (x427 > 0)) = true then
 (at? x1.Votes (w64 (x427 - 1))).bind fun x473 =>
 (if (decide (x473 ≥ x465)) = true then
 some (Sum.inl false)
 else
 i_NodeOk_l1_r N x1 tl (w64 (x427 + 1)))
 else
 i_NodeOk_l1_r N x1 tl (w64 (x427 + 1))))
theorem i_NodeOk_l1_rng (N : Nat) (x1 : Node) (hx : x1.Votes.length ≤ 1099511627776) : ∀ (d k m : Nat),x1.Votes.length = k + d → d < m → i_NodeOk_l1 N x1 m (k : Int) = i_NodeOk_l1_r N x1 (x1.Votes.drop k) (k : Int) := by
 intro d
 induction d with
 | zero =>
  intro k m hd hm
  obtain ⟨m,rfl⟩ : ∃ q,m = q + 1 := ⟨m - 1,by omega⟩
  rw [i_NodeOk_l1,if_neg (by simp; omega),List.drop_eq_nil_of_le (by omega),i_NodeOk_l1_r]
 | succ d ih =>
  intro k m hd hm
  obtain ⟨m,rfl⟩ : ∃ q,m = q + 1 := ⟨m - 1,by omega⟩
  have hk : k < x1.Votes.length := by omega
  rw [i_NodeOk_l1,if_pos (by simp; omega),List.drop_eq_getElem_cons hk,i_NodeOk_l1_r]
  have h1 := at_lt hk
  have h2 := w64_succ (k := k) (by omega)
  have h3 := ih (k + 1) m
  simp only [h1,h2,h3 (by omega) (by omega)]
theorem i_NodeOk_l1_eq {N : Nat} (x1 : Node) (hx : x1.Votes.length ≤ 1099511627776) (hN : x1.Votes.length < N) : i_NodeOk_l1 N x1 N 0 = i_NodeOk_l1_r N x1 x1.Votes 0 := i_NodeOk_l1_rng N x1 hx x1.Votes.length 0 N (by omega) hN
def i_NodeOk (N : Nat) (x1 : Node) : Option (Bool) :=
 (i_within N x1.Id 1 4).bind fun y310 =>
 (if (!y310) = true then
 some false
 else
 (i_ConfOk N x1.Conf).bind fun y312 =>
 (if (!y312) = true then
 some false
 else
 (i_LogOk N x1.Log).bind fun y314 =>
 (if (!y314) = true then
 some false
 else
 (i_LogLast N x1.Log).bind fun y319 =>
 (i_within N x1.Term y319.2 100000).bind fun y360 =>
 (if (!y360) = true then
 some false
 else
 (i_within N x1.Vote 0 4).bind fun y362 =>
 (if (!y362) = true then
 some false
 else
 (i_within N x1.Lead 0 4).bind fun y364 =>
 (if (!y364) = true then
 some false
 else
 (i_within N x1.Role 0 2).bind fun y366 =>
 (if (!y366) = true then
 some false
 else
 (i_within N x1.Commit x1.Log.Start y319.1).bind fun y368 =>
 (if (!y368) = true then
 some false
 else
 (i_within N x1.Limit 1 20).bind fun y370 =>
 (if (!y370) = true then
 some false
 else
 (i_within N x1.Clock 0 20).bind fun y372 =>
 (if (!y372) = true then
 some false
 else
 joinP (fun (v424 : Unit) =>
 joinP (fun (v478 : Unit) =>
 (if (x1.Role == 2) = true then
 (i_peersOk N x1).bind fun y487 =>
 some y487
 else
 some ((x1.Peers.length : Int) == 0))) fun j478 =>
 (if (x1.Role != 1) = true then
 (if (decide ((x1.Votes.length : Int) > 0)) = true then
 some false
 else
 j478 ())
 else
 j478 ())) fun j424 =>
 (i_NodeOk_l1 N x1 N 0).bind (Sum.elim (fun v457 => some v457) (fun (v458 : Unit) => j424 ()))))))))))))
theorem sem_i_NodeOk (N : Nat) (x1 : Node) (r : Bool) (h : i_NodeOk N x1 = some r) : Says Tryz.prog 13 [.agg [VI x1.Id,VI x1.Term,VI x1.Vote,VI x1.Role,VI x1.Lead,RO 3 (x1.Conf.map encI),VI x1.Log.Start,VI x1.Log.StartTerm,RO 40 (x1.Log.Entries.map eE),VI x1.Commit,VI x1.Clock,VI x1.Limit,RO 3 (x1.Votes.map encI),RO 98 (x1.Peers.map eP)]] 0 [] (VB r) [] := by
 unfold i_NodeOk at h
 refine Says.of_norm e Tryz.call13 e fun B hB => ?_
 have hm : B.m ≤ 1000 := by omega
 refine Run.so hm (.z 1000 (.bx e e) e e (.p e (.nil (.seq (.so hm (.p2 e e ?_))))))
 obtain ⟨y310,hy310,h⟩ := bindO h
 refine Ops.z 5128 (Ev.call [] [] 0 (sem_i_within _ _ _ _ _ hy310) e e (.d2 (.d1 .nil)) e (.inl e) e e) e e (.p2 e e (.askO (x := .t 11) e h (fun g311 h => ?_) (fun g311 h => ?_)))
 ·refine Ops.gn e g311 (.gn e g311 (.gn e g311 (.gn e g311 (.z 5240 (.pkT e g311 e) e e (.p e (.gn e e (.gn e e (.gn e e (.gn e e (.z 5336 (.pkT e e e) e e (.nil (.condT e e (.so hm (.p e (.nil (.ret ?_))))))))))))))))
  obtain rfl := someO h
  exact Ends.mkG (.inl e) e (gh_pk [0] [] hB e e e e) e e
 ·refine Ops.gp e g311 e (.gp e g311 e ?_)
  obtain ⟨y312,hy312,h⟩ := bindO h
  refine Ops.gs (s := 5208) e g311 (Ev.call [] [] 0 (sem_i_ConfOk _ _ _ hy312) e e (.d1 .nil) e (.inl e) e e) e e (.gp e g311 e (.z 5240 (.pkF e g311 e) e e (.p e (.askO (x := .t 17) e h (fun g313 h => ?_) (fun g313 h => ?_)))))
  ·refine Ops.gn e g313 (.gn e g313 (.gn e g313 (.gn e g313 (.z 5336 (.pkT e g313 e) e e (.nil (.condT e e (.so hm (.p e (.nil (.ret ?_))))))))))
   obtain rfl := someO h
   exact Ends.mkG (.inl e) e (gh_pk [0] [] hB e e e e) e e
  ·refine Ops.gp e g313 e (.gp e g313 e ?_)
   obtain ⟨y314,hy314,h⟩ := bindO h
   refine Ops.gs (s := 5304) e g313 (Ev.call [] [] 0 (sem_i_LogOk _ _ _ hy314) e e (.cons (.agg (.d2 (.d1 .nil))) .nil) e (.inl e) e e) e e (.gp e g313 e (.z 5336 (.pkF e g313 e) e e (.nil (.condO e h (fun g315 h => ?_) (fun g315 h => ?_)))))
   ·refine Run.so hm (.p e (.nil (.ret ?_)))
    obtain rfl := someO h
    exact Ends.mkG (.inl e) e (gh_pk [0] [] hB e e e e) e e
   ·refine Run.skip (.so hm (.p2 e e ?_))
    obtain ⟨y319,hy319,h⟩ := bindO h
    refine Ops.z 13320 (Ev.call [] [] 0 (sem_i_LogLast _ _ _ hy319) e e (.cons (.agg (.d2 (.d1 .nil))) .nil) e (.inl e) e e) e e (.p3 e e e (.p2 e e (.nil (.seq (.so hm (.p3 e e e ?_))))))
    obtain ⟨y360,hy360,h⟩ := bindO h
    refine Ops.z 17432 (Ev.call [] [] 0 (sem_i_within _ _ _ _ _ hy360) e e (.d2 (.d1 .nil)) e (.inl e) e e) e e (.p2 e e (.askO (x := .t 34) e h (fun g361 h => ?_) (fun g361 h => ?_)))
    ·refine Ops.gn e g361 (.gn e g361 (.gn e g361 (.gn e g361 (.z 17544 (.pkT e g361 e) e e (.p e (.gn e e (.gn e e (.gn e e (.gn e e (.z 17640 (.pkT e e e) e e (.p e (.gn e e (.gn e e (.gn e e (.gn e e (.z 17736 (.pkT e e e) e e (.p e (.gn e e (.gn e e (.gn e e (.gn e e (.gn e e (.gn e e (.gn e e (.gn e e (.z 17896 (.pkT e e e) e e (.p e (.gn e e (.gn e e (.gn e e (.gn e e (.z 17992 (.pkT e e e) e e (.p e (.gn e e (.gn e e (.gn e e (.gn e e (.z 18088 (.pkT e e e) e e (.nil (.condT e e (.so hm (.p e (.nil (.ret ?_))))))))))))))))))))))))))))))))))))))))))))
     obtain rfl := someO h
     exact Ends.mkG (.inl e) e (gh_pk [0] [] hB e e e e) e e
    ·refine Ops.gp e g361 e (.gp e g361 e ?_)
     obtain ⟨y362,hy362,h⟩ := bindO h
     refine Ops.gs (s := 17512) e g361 (Ev.call [] [] 0 (sem_i_within _ _ _ _ _ hy362) e e (.d2 (.d1 .nil)) e (.inl e) e e) e e (.gp e g361 e (.z 17544 (.pkF e g361 e) e e (.p e (.askO (x := .t 40) e h (fun g363 h => ?_) (fun g363 h => ?_)))))
     ·refine Ops.gn e g363 (.gn e g363 (.gn e g363 (.gn e g363 (.z 17640 (.pkT e g363 e) e e (.p e (.gn e e (.gn e e (.gn e e (.gn e e (.z 17736 (.pkT e e e) e e (.p e (.gn e e (.gn e e (.gn e e (.gn e e (.gn e e (.gn e e (.gn e e (.gn e e (.z 17896 (.pkT e e e) e e (.p e (.gn e e (.gn e e (.gn e e (.gn e e (.z 17992 (.pkT e e e) e e (.p e (.gn e e (.gn e e (.gn e e (.gn e e (.z 18088 (.pkT e e e) e e (.nil (.condT e e (.so hm (.p e (.nil (.ret ?_))))))))))))))))))))))))))))))))))))))
      obtain rfl := someO h
      exact Ends.mkG (.inl e) e (gh_pk [0] [] hB e e e e) e e
     ·refine Ops.gp e g363 e (.gp e g363 e ?_)
      obtain ⟨y364,hy364,h⟩ := bindO h
      refine Ops.gs (s := 17608) e g363 (Ev.call [] [] 0 (sem_i_within _ _ _ _ _ hy364) e e (.d2 (.d1 .nil)) e (.inl e) e e) e e (.gp e g363 e (.z 17640 (.pkF e g363 e) e e (.p e (.askO (x := .t 46) e h (fun g365 h => ?_) (fun g365 h => ?_)))))
      ·refine Ops.gn e g365 (.gn e g365 (.gn e g365 (.gn e g365 (.z 17736 (.pkT e g365 e) e e (.p e (.gn e e (.gn e e (.gn e e (.gn e e (.gn e e (.gn e e (.gn e e (.gn e e (.z 17896 (.pkT e e e) e e (.p e (.gn e e (.gn e e (.gn e e (.gn e e (.z 17992 (.pkT e e e) e e (.p e (.gn e e (.gn e e (.gn e e (.gn e e (.z 18088 (.pkT e e e) e e (.nil (.condT e e (.so hm (.p e (.nil (.ret ?_))))))))))))))))))))))))))))))))
       obtain rfl := someO h
       exact Ends.mkG (.inl e) e (gh_pk [0] [] hB e e e e) e e
      ·refine Ops.gp e g365 e (.gp e g365 e ?_)
       obtain ⟨y366,hy366,h⟩ := bindO h
       refine Ops.gs (s := 17704) e g365 (Ev.call [] [] 0 (sem_i_within _ _ _ _ _ hy366) e e (.d2 (.d1 .nil)) e (.inl e) e e) e e (.gp e g365 e (.z 17736 (.pkF e g365 e) e e (.p e (.askO (x := .t 52) e h (fun g367 h => ?_) (fun g367 h => ?_)))))
       ·refine Ops.gn e g367 (.gn e g367 (.gn e g367 (.gn e g367 (.gn e g367 (.gn e g367 (.gn e g367 (.gn e g367 (.z 17896 (.pkT e g367 e) e e (.p e (.gn e e (.gn e e (.gn e e (.gn e e (.z 17992 (.pkT e e e) e e (.p e (.gn e e (.gn e e (.gn e e (.gn e e (.z 18088 (.pkT e e e) e e (.nil (.condT e e (.so hm (.p e (.nil (.ret ?_))))))))))))))))))))))))))
        obtain rfl := someO h
        exact Ends.mkG (.inl e) e (gh_pk [0] [] hB e e e e) e e
       ·refine Ops.gp e g367 e (.gp e g367 e (.gp e g367 e (.gp e g367 e (.gp e g367 e (.gp e g367 e ?_)))))
        obtain ⟨y368,hy368,h⟩ := bindO h
        refine Ops.gs (s := 17864) e g367 (Ev.call [] [] 0 (sem_i_within _ _ _ _ _ hy368) e e (.d2 (.d1 .nil)) e (.inl e) e e) e e (.gp e g367 e (.z 17896 (.pkF e g367 e) e e (.p e (.askO (x := .t 62) e h (fun g369 h => ?_) (fun g369 h => ?_)))))
        ·refine Ops.gn e g369 (.gn e g369 (.gn e g369 (.gn e g369 (.z 17992 (.pkT e g369 e) e e (.p e (.gn e e (.gn e e (.gn e e (.gn e e (.z 18088 (.pkT e e e) e e (.nil (.condT e e (.so hm (.p e (.nil (.ret ?_))))))))))))))))
         obtain rfl := someO h
         exact Ends.mkG (.inl e) e (gh_pk [0] [] hB e e e e) e e
        ·refine Ops.gp e g369 e (.gp e g369 e ?_)
         obtain ⟨y370,hy370,h⟩ := bindO h
         refine Ops.gs (s := 17960) e g369 (Ev.call [] [] 0 (sem_i_within _ _ _ _ _ hy370) e e (.d2 (.d1 .nil)) e (.inl e) e e) e e (.gp e g369 e (.z 17992 (.pkF e g369 e) e e (.p e (.askO (x := .t 68) e h (fun g371 h => ?_) (fun g371 h => ?_)))))
         ·refine Ops.gn e g371 (.gn e g371 (.gn e g371 (.gn e g371 (.z 18088 (.pkT e g371 e) e e (.nil (.condT e e (.so hm (.p e (.nil (.ret ?_))))))))))
          obtain rfl := someO h
          exact Ends.mkG (.inl e) e (gh_pk [0] [] hB e e e e) e e
         ·refine Ops.gp e g371 e (.gp e g371 e ?_)
          obtain ⟨y372,hy372,h⟩ := bindO h
          refine Ops.gs (s := 18056) e g371 (Ev.call [] [] 0 (sem_i_within _ _ _ _ _ hy372) e e (.d2 (.d1 .nil)) e (.inl e) e e) e e (.gp e g371 e (.z 18088 (.pkF e g371 e) e e (.nil (.condO e h (fun g373 h => ?_) (fun g373 h => ?_)))))
          ·refine Run.so hm (.p e (.nil (.ret ?_)))
           obtain rfl := someO h
           exact Ends.mkG (.inl e) e (gh_pk [0] [] hB e e e e) e e
          ·refine Run.skip (.seqO h (fun v424 => [(1,.ptr 0 0)]) (fun (v424 : Unit) => [(0,.box [VI x1.Id,VI x1.Term,VI x1.Vote,VI x1.Role,VI x1.Lead,RO 3 (x1.Conf.map encI),VI x1.Log.Start,VI x1.Log.StartTerm,RO 40 (x1.Log.Entries.map eE),VI x1.Commit,VI x1.Clock,VI x1.Limit,RO 3 (x1.Votes.map encI),RO 98 (x1.Peers.map eP)])]) (fun h => ?_) (fun v424 h => ?_))
           ·refine Run.so hm (.p2 e e (.z 25608 (Ev.lnF e) e e (.p e (.nil (.block ?_)))))
            obtain ⟨res458,h,hk458⟩ := bindO h
            refine Run.loop (n := N) (fun m458 fr σ => ∃ (x427 : Int),i_NodeOk_l1 N x1 m458 x427 = some res458 ∧ fr = [(1,.ptr 0 0),(75,RO 3 (x1.Votes.map encI)),(76,VI (x1.Votes.length : Int)),(77,VI x427)] ∧ σ = [(0,.box [VI x1.Id,VI x1.Term,VI x1.Vote,VI x1.Role,VI x1.Lead,RO 3 (x1.Conf.map encI),VI x1.Log.Start,VI x1.Log.StartTerm,RO 40 (x1.Log.Entries.map eE),VI x1.Commit,VI x1.Clock,VI x1.Limit,RO 3 (x1.Votes.map encI),RO 98 (x1.Peers.map eP)])]) (gh_pk [1,75,76,77] [1000] hB e e e e) ⟨_,h,e,e⟩ ?_
            rintro m458 fr σ ⟨x427,h,rfl,rfl⟩
            obtain _ | m458 := m458
            ·rw [i_NodeOk_l1] at h; cases h
            rw [i_NodeOk_l1] at h
            refine Run.so hm (.p e (.nil (.seq (.condO e h (fun g461 h => ?_) (fun g461 h => ?_)))))
            ·refine Run.skip (.seq (.block (.so hm (.p e ?_))))
             obtain ⟨x465,hx465,h⟩ := bindO h
             refine Ops.z 33784 (Ev.iaF e e hx465) e e (.p3 e e e (.nil (.so hm (.p e ?_))))
             obtain ⟨y470,hy470,h⟩ := bindO h
             refine Ops.z 37880 (Ev.call [] [] 0 (sem_i_within _ _ _ _ _ hy470) e e (.d2 (.d1 .nil)) e (.inl e) e e) e e (.p2 e e (.askO (x := .t 85) e h (fun g471 h => ?_) (fun g471 h => ?_)))
             ·refine Ops.gn e g471 (.gn e g471 (.gn e g471 (.gu e (.gu e (.gu e (.gu e (.gu e (.gu e (.gu e (.gu e (.gn e g471 (.z 38120 (.pkT e g471 e) e e (.nil (.condT e e (.so hm (.p e (.nil (.ret ?_))))))))))))))))))
              obtain rfl := someO h
              have h := hk458
              replace h := inlO h
              obtain rfl := someO h
              exact Ends.mkG (.inl e) e (gh_pk [0] [] hB e e e e) e e
             ·refine Ops.gp e g471 e (.gp e g471 e (.gp e g471 e (.askO (x := .t 88) e h (fun g472 h => ?_) (fun g472 h => ?_))))
              ·refine Ops.gp e g472 e (.gp e g472 e (.gp e g472 e (.gp e g472 e ?_)))
               obtain ⟨x473,hx473,h⟩ := bindO h
               refine Ops.gs (s := 38040) e g472 (Ev.iaF e e hx473) e e (.gp e g472 e (.gp e g472 e (.gp e g472 e (.gs (s := 38104) e g471 (.pkT e g472 e) e e (.z 38120 (.pkF e g471 e) e e (.nil (.condO e h (fun g474 h => ?_) (fun g474 h => ?_))))))))
               ·refine Run.so hm (.p e (.nil (.ret ?_)))
                obtain rfl := someO h
                have h := hk458
                replace h := inlO h
                obtain rfl := someO h
                exact Ends.mkG (.inl e) e (gh_pk [0] [] hB e e e e) e e
               ·exact Run.skip (.ops hm (.p2 e e (.nil (⟨m458,Nat.lt_succ_self m458,_,_,(gh_pk [1,75,76,77] [0] hB e e e e),_,h,e,e⟩))))
              ·exact Ops.gn e g472 (.gn e g472 (.gn e g472 (.gn e g472 (.gn e g472 (.gn e g472 (.gn e g472 (.gn e g472 (.gs (s := 38104) e g471 (.pkF e g472 e) e e (.z 38120 (.pkF e g471 e) e e (.nil (.condF e e (.skip (.ops hm (.p2 e e (.nil (⟨m458,Nat.lt_succ_self m458,_,_,(gh_pk [1,75,76,77] [0] hB e e e e),_,h,e,e⟩))))))))))))))))
            ·refine Run.exit ?_
             obtain rfl := someO h
             have h := hk458
             replace h := inrO h
             exact ⟨_,_,(gh_pk [1] [0] hB e e e e),(),h,e,e⟩
           ·refine Run.seqO h (fun v478 => [(1,.ptr 0 0)]) (fun (v478 : Unit) => [(0,.box [VI x1.Id,VI x1.Term,VI x1.Vote,VI x1.Role,VI x1.Lead,RO 3 (x1.Conf.map encI),VI x1.Log.Start,VI x1.Log.StartTerm,RO 40 (x1.Log.Entries.map eE),VI x1.Commit,VI x1.Clock,VI x1.Limit,RO 3 (x1.Votes.map encI),RO 98 (x1.Peers.map eP)])]) (fun h => ?_) (fun v478 h => ?_)
            ·refine Run.so hm (.p3 e e e (.p e (.askO (x := .t 103) e h (fun g480 h => ?_) (fun g480 h => ?_))))
             ·refine Ops.gp e g480 e (.gp e g480 e (.gs (s := 50248) e g480 (Ev.lnF e) e e (.gp e g480 e (.z 50280 (.pkT e g480 e) e e (.nil (.condO e h (fun g481 h => ?_) (fun g481 h => ?_)))))))
              ·refine Run.so hm (.p e (.nil (.ret ?_)))
               obtain rfl := someO h
               exact Ends.mkG (.inl e) e (gh_pk [0] [] hB e e e e) e e
              ·exact Run.skip (⟨_,_,(gh_pk [1] [0] hB e e e e),(),h,e,e⟩)
             ·exact Ops.gn e g480 (.gn e g480 (.gn e g480 (.gn e g480 (.z 50280 (.pkF e g480 e) e e (.nil (.condF e e (.skip (⟨_,_,(gh_pk [1] [0] hB e e e e),(),h,e,e⟩))))))))
            ·refine Run.seq (.so hm (.p3 e e e (.nil (.condO e h (fun g485 h => ?_) (fun g485 h => ?_)))))
             ·refine Run.so hm (.p e ?_)
              obtain ⟨y487,hy487,h⟩ := bindO h
              refine Ops.z 62456 (Ev.call [] [] 0 (sem_i_peersOk _ _ _ hy487) e e (.cons (.agg (.d4 (.d4 (.d4 (.d2 .nil))))) .nil) e (.inl e) e e) e e (.p e (.nil (.ret ?_)))
              obtain rfl := someO h
              exact Ends.mkG (.inl e) e (gh_pk [0] [] hB e e e e) e e
             ·refine Run.skip (.so hm (.p2 e e (.z 66568 (Ev.lnF e) e e (.p2 e e (.nil (.ret ?_))))))
              obtain rfl := someO h
              exact Ends.mkG (.inl e) e (gh_pk [0] [] hB e e e e) e e
def i_MessageOk_l1 (N : Nat) (x1 : Message) : Nat → Int → Int → Option ((Bool) ⊕ (Unit))
 | 0,_,_ => none
 | m + 1,x441,x444 =>
 (if (decide (x444 < (x1.Entries.length : Int))) = true then
 (at? x1.Entries x444).bind fun x489 =>
 (if (x1.Kind != 3) = true then
 some (Sum.inl false)
 else
 (i_EntryOk N x489).bind fun y504 =>
 (if (!y504) = true then
 some (Sum.inl false)
 else
 (i_within N x489.Term x441 x1.Term).bind fun y506 =>
 (if (!y506) = true then
 some (Sum.inl false)
 else
 i_MessageOk_l1 N x1 m x489.Term (w64 (x444 + 1)))))
 else
 some (Sum.inr ()))
def i_MessageOk_l1_r (N : Nat) (x1 : Message) : (List Entry) → Int → Int → Option ((Bool) ⊕ (Unit))
 | [],x441,x444 =>
 some (Sum.inr ())
 | hd :: tl,x441,x444 =>
 (some hd).bind fun x489 =>
 (if (x1.Kind != 3) = true then
 some (Sum.inl false)
 else
 (i_EntryOk N x489).bind fun y504 =>
 (if (!y504) = true then
 some (Sum.inl false)
 else
 (i_within N x489.Term x441 x1.Term).bind fun y506 =>
 (if (!y506) = true then
 some (Sum.inl false)
 else
 i_MessageOk_l1_r N x1 tl x489.Term (w64 (x444 + 1)))))
theorem i_MessageOk_l1_rng (N : Nat) (x1 : Message) (hx : x1.Entries.length ≤ 1099511627776) : ∀ (d k m : Nat) (x441 : Int),x1.Entries.length = k + d → d < m → i_MessageOk_l1 N x1 m x441 (k : Int) = i_MessageOk_l1_r N x1 (x1.Entries.drop k) x441 (k : Int) := by
 intro d
 induction d with
 | zero =>
  intro k m x441 hd hm
  obtain ⟨m,rfl⟩ : ∃ q,m = q + 1 := ⟨m - 1,by omega⟩
  rw [i_MessageOk_l1,if_neg (by simp; omega),List.drop_eq_nil_of_le (by omega),i_MessageOk_l1_r]
 | succ d ih =>
  intro k m x441 hd hm
  obtain ⟨m,rfl⟩ : ∃ q,m = q + 1 := ⟨m - 1,by omega⟩
  have hk : k < x1.Entries.length := by omega
  rw [i_MessageOk_l1,if_pos (by simp; omega),List.drop_eq_getElem_cons hk,i_MessageOk_l1_r]
  have h1 := at_lt hk
  have h2 := w64_succ (k := k) (by omega)
  have h3 := ih (k + 1) m
  simp only [h1,h2,h3 _ (by omega) (by omega)]
theorem i_MessageOk_l1_eq {N : Nat} (x1 : Message) (hx : x1.Entries.length ≤ 1099511627776) (hN : x1.Entries.length < N) (x441 : Int) : i_MessageOk_l1 N x1 N x441 0 = i_MessageOk_l1_r N x1 x1.Entries x441 0 := i_MessageOk_l1_rng N x1 hx x1.Entries.length 0 N x441 (by omega) hN
def i_MessageOk (N : Nat) (x1 : Message) : Option (Bool) :=
 (i_within N x1.Kind 1 6).bind fun y328 =>
 (if (!y328) = true then
 some false
 else
 (i_within N x1.From 1 4).bind fun y330 =>
 (if (!y330) = true then
 some false
 else
 (i_within N x1.To 1 4).bind fun y332 =>
 (if (!y332) = true then
 some false
 else
 (if (x1.From == x1.To) = true then
 some false
 else
 (i_within N x1.Term 0 100000).bind fun y363 =>
 (if (!y363) = true then
 some false
 else
 (i_within N x1.LogTerm 0 100000).bind fun y365 =>
 (if (!y365) = true then
 some false
 else
 (i_within N x1.Index 0 100000).bind fun y367 =>
 (if (!y367) = true then
 some false
 else
 (i_within N x1.Commit 0 100000).bind fun y369 =>
 (if (!y369) = true then
 some false
 else
 (if (decide ((x1.Entries.length : Int) > 4)) = true then
 some false
 else
 (if (decide ((x1.Data.size : Int) > 60)) = true then
 some false
 else
 joinP (fun (v440 : Unit) =>
 (if (x1.Kind == 5) = true then
 (i_ConfOk N x1.Conf).bind fun y513 =>
 some y513
 else
 (if ((x1.Conf.length : Int) == 0) = true then
 (if (decide (x1.Data = (⟨#[]⟩ : ByteArray))) = true then
 some (!x1.Last)
 else
 some false)
 else
 some false))) fun j440 =>
 (i_MessageOk_l1 N x1 N x1.LogTerm 0).bind (Sum.elim (fun v481 => some v481) (fun (v482 : Unit) => j440 ()))))))))))))
theorem sem_i_MessageOk (N : Nat) (x1 : Message) (r : Bool) (h : i_MessageOk N x1 = some r) : Says Tryz.prog 22 [.agg [VI x1.Kind,VI x1.From,VI x1.To,VI x1.Term,VI x1.Index,VI x1.LogTerm,VI x1.Commit,VB x1.Ok,RO 40 (x1.Entries.map eE),RO 3 (x1.Conf.map encI),VS x1.Data,VB x1.Last]] 0 [] (VB r) [] := by
 unfold i_MessageOk at h
 refine Says.of_norm e Tryz.call22 e fun B hB => ?_
 have hm : B.m ≤ 1000 := by omega
 refine Run.so hm (.z 1000 (.bx e e) e e (.p e (.nil (.seq (.so hm (.p2 e e ?_))))))
 obtain ⟨y328,hy328,h⟩ := bindO h
 refine Ops.z 5128 (Ev.call [] [] 0 (sem_i_within _ _ _ _ _ hy328) e e (.d2 (.d1 .nil)) e (.inl e) e e) e e (.p2 e e (.askO (x := .t 10) e h (fun g329 h => ?_) (fun g329 h => ?_)))
 ·refine Ops.gn e g329 (.gn e g329 (.gn e g329 (.gn e g329 (.z 5240 (.pkT e g329 e) e e (.p e (.gn e e (.gn e e (.gn e e (.gn e e (.z 5336 (.pkT e e e) e e (.p e (.gn e e (.gn e e (.gn e e (.gn e e (.gn e e (.z 5448 (.pkT e e e) e e (.nil (.condT e e (.so hm (.p e (.nil (.ret ?_)))))))))))))))))))))))
  obtain rfl := someO h
  exact Ends.mkG (.inl e) e (gh_pk [0] [] hB e e e e) e e
 ·refine Ops.gp e g329 e (.gp e g329 e ?_)
  obtain ⟨y330,hy330,h⟩ := bindO h
  refine Ops.gs (s := 5208) e g329 (Ev.call [] [] 0 (sem_i_within _ _ _ _ _ hy330) e e (.d2 (.d1 .nil)) e (.inl e) e e) e e (.gp e g329 e (.z 5240 (.pkF e g329 e) e e (.p e (.askO (x := .t 16) e h (fun g331 h => ?_) (fun g331 h => ?_)))))
  ·refine Ops.gn e g331 (.gn e g331 (.gn e g331 (.gn e g331 (.z 5336 (.pkT e g331 e) e e (.p e (.gn e e (.gn e e (.gn e e (.gn e e (.gn e e (.z 5448 (.pkT e e e) e e (.nil (.condT e e (.so hm (.p e (.nil (.ret ?_)))))))))))))))))
   obtain rfl := someO h
   exact Ends.mkG (.inl e) e (gh_pk [0] [] hB e e e e) e e
  ·refine Ops.gp e g331 e (.gp e g331 e ?_)
   obtain ⟨y332,hy332,h⟩ := bindO h
   refine Ops.gs (s := 5304) e g331 (Ev.call [] [] 0 (sem_i_within _ _ _ _ _ hy332) e e (.d2 (.d1 .nil)) e (.inl e) e e) e e (.gp e g331 e (.z 5336 (.pkF e g331 e) e e (.p e (.askO (x := .t 22) e h (fun g333 h => ?_) (fun g333 h => ?_)))))
   ·refine Ops.gn e g333 (.gn e g333 (.gn e g333 (.gn e g333 (.gn e g333 (.z 5448 (.pkT e g333 e) e e (.nil (.condT e e (.so hm (.p e (.nil (.ret ?_)))))))))))
    obtain rfl := someO h
    exact Ends.mkG (.inl e) e (gh_pk [0] [] hB e e e e) e e
   ·refine Ops.gp e g333 e (.gp e g333 e (.gp e g333 e (.gp e g333 e (.gp e g333 e (.z 5448 (.pkF e g333 e) e e (.nil (.condO e h (fun g334 h => ?_) (fun g334 h => ?_))))))))
    ·refine Run.so hm (.p e (.nil (.ret ?_)))
     obtain rfl := someO h
     exact Ends.mkG (.inl e) e (gh_pk [0] [] hB e e e e) e e
    ·refine Run.skip (.seq (.so hm (.p2 e e ?_)))
     obtain ⟨y363,hy363,h⟩ := bindO h
     refine Ops.z 13320 (Ev.call [] [] 0 (sem_i_within _ _ _ _ _ hy363) e e (.d2 (.d1 .nil)) e (.inl e) e e) e e (.p2 e e (.askO (x := .t 33) e h (fun g364 h => ?_) (fun g364 h => ?_)))
     ·refine Ops.gn e g364 (.gn e g364 (.gn e g364 (.gn e g364 (.z 13432 (.pkT e g364 e) e e (.p e (.gn e e (.gn e e (.gn e e (.gn e e (.z 13528 (.pkT e e e) e e (.p e (.gn e e (.gn e e (.gn e e (.gn e e (.z 13624 (.pkT e e e) e e (.p e (.gn e e (.gn e e (.gn e e (.gn e e (.z 13720 (.pkT e e e) e e (.p e (.gn e e (.gn e e (.gn e e (.gn e e (.z 13816 (.pkT e e e) e e (.nil (.condT e e (.so hm (.p e (.nil (.ret ?_))))))))))))))))))))))))))))))))))
      obtain rfl := someO h
      exact Ends.mkG (.inl e) e (gh_pk [0] [] hB e e e e) e e
     ·refine Ops.gp e g364 e (.gp e g364 e ?_)
      obtain ⟨y365,hy365,h⟩ := bindO h
      refine Ops.gs (s := 13400) e g364 (Ev.call [] [] 0 (sem_i_within _ _ _ _ _ hy365) e e (.d2 (.d1 .nil)) e (.inl e) e e) e e (.gp e g364 e (.z 13432 (.pkF e g364 e) e e (.p e (.askO (x := .t 39) e h (fun g366 h => ?_) (fun g366 h => ?_)))))
      ·refine Ops.gn e g366 (.gn e g366 (.gn e g366 (.gn e g366 (.z 13528 (.pkT e g366 e) e e (.p e (.gn e e (.gn e e (.gn e e (.gn e e (.z 13624 (.pkT e e e) e e (.p e (.gn e e (.gn e e (.gn e e (.gn e e (.z 13720 (.pkT e e e) e e (.p e (.gn e e (.gn e e (.gn e e (.gn e e (.z 13816 (.pkT e e e) e e (.nil (.condT e e (.so hm (.p e (.nil (.ret ?_))))))))))))))))))))))))))))
       obtain rfl := someO h
       exact Ends.mkG (.inl e) e (gh_pk [0] [] hB e e e e) e e
      ·refine Ops.gp e g366 e (.gp e g366 e ?_)
       obtain ⟨y367,hy367,h⟩ := bindO h
       refine Ops.gs (s := 13496) e g366 (Ev.call [] [] 0 (sem_i_within _ _ _ _ _ hy367) e e (.d2 (.d1 .nil)) e (.inl e) e e) e e (.gp e g366 e (.z 13528 (.pkF e g366 e) e e (.p e (.askO (x := .t 45) e h (fun g368 h => ?_) (fun g368 h => ?_)))))
       ·refine Ops.gn e g368 (.gn e g368 (.gn e g368 (.gn e g368 (.z 13624 (.pkT e g368 e) e e (.p e (.gn e e (.gn e e (.gn e e (.gn e e (.z 13720 (.pkT e e e) e e (.p e (.gn e e (.gn e e (.gn e e (.gn e e (.z 13816 (.pkT e e e) e e (.nil (.condT e e (.so hm (.p e (.nil (.ret ?_))))))))))))))))))))))
        obtain rfl := someO h
        exact Ends.mkG (.inl e) e (gh_pk [0] [] hB e e e e) e e
       ·refine Ops.gp e g368 e (.gp e g368 e ?_)
        obtain ⟨y369,hy369,h⟩ := bindO h
        refine Ops.gs (s := 13592) e g368 (Ev.call [] [] 0 (sem_i_within _ _ _ _ _ hy369) e e (.d2 (.d1 .nil)) e (.inl e) e e) e e (.gp e g368 e (.z 13624 (.pkF e g368 e) e e (.p e (.askO (x := .t 51) e h (fun g370 h => ?_) (fun g370 h => ?_)))))
        ·refine Ops.gn e g370 (.gn e g370 (.gn e g370 (.gn e g370 (.z 13720 (.pkT e g370 e) e e (.p e (.gn e e (.gn e e (.gn e e (.gn e e (.z 13816 (.pkT e e e) e e (.nil (.condT e e (.so hm (.p e (.nil (.ret ?_))))))))))))))))
         obtain rfl := someO h
         exact Ends.mkG (.inl e) e (gh_pk [0] [] hB e e e e) e e
        ·refine Ops.gp e g370 e (.gp e g370 e (.gs (s := 13688) e g370 (Ev.lnF e) e e (.gp e g370 e (.z 13720 (.pkF e g370 e) e e (.p e (.askO (x := .t 57) e h (fun g371 h => ?_) (fun g371 h => ?_)))))))
         ·refine Ops.gn e g371 (.gn e g371 (.gn e g371 (.gn e g371 (.z 13816 (.pkT e g371 e) e e (.nil (.condT e e (.so hm (.p e (.nil (.ret ?_))))))))))
          obtain rfl := someO h
          exact Ends.mkG (.inl e) e (gh_pk [0] [] hB e e e e) e e
         ·refine Ops.gp e g371 e (.gp e g371 e (.gp e g371 e (.gp e g371 e (.z 13816 (.pkF e g371 e) e e (.nil (.condO e h (fun g372 h => ?_) (fun g372 h => ?_)))))))
          ·refine Run.so hm (.p e (.nil (.ret ?_)))
           obtain rfl := someO h
           exact Ends.mkG (.inl e) e (gh_pk [0] [] hB e e e e) e e
          ·refine Run.skip (.so hm (.p3 e e e (.nil (.seqO h (fun v440 => [(1,.ptr 0 0)]) (fun (v440 : Unit) => [(0,.box [VI x1.Kind,VI x1.From,VI x1.To,VI x1.Term,VI x1.Index,VI x1.LogTerm,VI x1.Commit,VB x1.Ok,RO 40 (x1.Entries.map eE),RO 3 (x1.Conf.map encI),VS x1.Data,VB x1.Last])]) (fun h => ?_) (fun v440 h => ?_)))))
           ·refine Run.so hm (.p2 e e (.z 25608 (Ev.lnF e) e e (.p e (.nil (.block ?_)))))
            obtain ⟨res482,h,hk482⟩ := bindO h
            refine Run.loop (n := N) (fun m482 fr σ => ∃ (x441 : Int),∃ (x444 : Int),i_MessageOk_l1 N x1 m482 x441 x444 = some res482 ∧ fr = [(1,.ptr 0 0),(3,VI x441),(66,RO 40 (x1.Entries.map eE)),(67,VI (x1.Entries.length : Int)),(68,VI x444)] ∧ σ = [(0,.box [VI x1.Kind,VI x1.From,VI x1.To,VI x1.Term,VI x1.Index,VI x1.LogTerm,VI x1.Commit,VB x1.Ok,RO 40 (x1.Entries.map eE),RO 3 (x1.Conf.map encI),VS x1.Data,VB x1.Last])]) (gh_pk [1,3,66,67,68] [1000] hB e e e e) ⟨_,_,h,e,e⟩ ?_
            rintro m482 fr σ ⟨x441,x444,h,rfl,rfl⟩
            obtain _ | m482 := m482
            ·rw [i_MessageOk_l1] at h; cases h
            rw [i_MessageOk_l1] at h
            refine Run.so hm (.p e (.nil (.seq (.condO e h (fun g485 h => ?_) (fun g485 h => ?_)))))
            ·refine Run.skip (.seq (.block (.so hm ?_)))
             obtain ⟨x489,hx489,h⟩ := bindO h
             refine Ops.z 33768 (Ev.iaF e e hx489) e e (.p e (.z 33800 (.al e e) e e (.y 33816 (.sto e e e e e e) e e (.nil (.seq (.so hm (.p3 e e e (.p e (.askO (x := .t 75) e h (fun g503 h => ?_) (fun g503 h => ?_))))))))))
             ·refine Ops.gn e g503 (.gn e g503 (.gn e g503 (.z 37976 (.pkT e g503 e) e e (.p e (.gn e e (.gn e e (.gn e e (.gn e e (.gn e e (.gn e e (.gn e e (.z 38120 (.pkT e e e) e e (.nil (.condT e e (.so hm (.p e (.nil (.ret ?_))))))))))))))))))
              obtain rfl := someO h
              have h := hk482
              replace h := inlO h
              obtain rfl := someO h
              exact Ends.mkG (.inl e) e (gh_pk [0] [] hB e e e e) e e
             ·refine Ops.gp e g503 e ?_
              obtain ⟨y504,hy504,h⟩ := bindO h
              refine Ops.gs (s := 37944) e g503 (Ev.call [] [] 0 (sem_i_EntryOk _ _ _ hy504) e e (.cons (.agg (.d2 (.d1 .nil))) .nil) e (.inl e) e e) e e (.gp e g503 e (.z 37976 (.pkF e g503 e) e e (.p e (.askO (x := .t 80) e h (fun g505 h => ?_) (fun g505 h => ?_)))))
              ·refine Ops.gn e g505 (.gn e g505 (.gn e g505 (.gn e g505 (.gn e g505 (.gn e g505 (.gn e g505 (.z 38120 (.pkT e g505 e) e e (.nil (.condT e e (.so hm (.p e (.nil (.ret ?_)))))))))))))
               obtain rfl := someO h
               have h := hk482
               replace h := inlO h
               obtain rfl := someO h
               exact Ends.mkG (.inl e) e (gh_pk [0] [] hB e e e e) e e
              ·refine Ops.gp e g505 e (.gp e g505 e (.gp e g505 e (.gp e g505 e (.gp e g505 e ?_))))
               obtain ⟨y506,hy506,h⟩ := bindO h
               refine Ops.gs (s := 38088) e g505 (Ev.call [] [] 0 (sem_i_within _ _ _ _ _ hy506) e e (.d2 (.d1 .nil)) e (.inl e) e e) e e (.gp e g505 e (.z 38120 (.pkF e g505 e) e e (.nil (.condO e h (fun g507 h => ?_) (fun g507 h => ?_)))))
               ·refine Run.so hm (.p e (.nil (.ret ?_)))
                obtain rfl := someO h
                have h := hk482
                replace h := inlO h
                obtain rfl := someO h
                exact Ends.mkG (.inl e) e (gh_pk [0] [] hB e e e e) e e
               ·exact Run.skip (.ops hm (.p3 e e e (.nil (.ops hm (.p2 e e (.nil (⟨m482,Nat.lt_succ_self m482,_,_,(gh_pk [1,3,66,67,68] [0] hB e e e e),_,_,h,e,e⟩)))))))
            ·refine Run.exit ?_
             obtain rfl := someO h
             have h := hk482
             replace h := inrO h
             exact ⟨_,_,(gh_pk [1] [0] hB e e e e),(),h,e,e⟩
           ·refine Run.seq (.so hm (.p3 e e e (.nil (.condO e h (fun g511 h => ?_) (fun g511 h => ?_)))))
            ·refine Run.so hm (.p2 e e ?_)
             obtain ⟨y513,hy513,h⟩ := bindO h
             refine Ops.z 58376 (Ev.call [] [] 0 (sem_i_ConfOk _ _ _ hy513) e e (.d1 .nil) e (.inl e) e e) e e (.p e (.nil (.ret ?_)))
             obtain rfl := someO h
             exact Ends.mkG (.inl e) e (gh_pk [0] [] hB e e e e) e e
            ·refine Run.skip (.so hm (.p2 e e (.z 62472 (Ev.lnF e) e e (.p2 e e (.askO (x := .t 102) e h (fun g516 h => ?_) (fun g516 h => ?_))))))
             ·refine Ops.gp e g516 e (.gp e g516 e (.gp e g516 e (.z 62568 (.pkT e g516 e) e e (.p e (.askO (x := .t 107) e h (fun g517 h => ?_) (fun g517 h => ?_))))))
              ·refine Ops.gp e g517 e (.gp e g517 e (.gp e g517 e (.z 62648 (.pkT e g517 e) e e (.p e (.nil (.ret ?_))))))
               obtain rfl := someO h
               exact Ends.mkG (.inl e) e (gh_pk [0] [] hB e e e e) e e
              ·refine Ops.gn e g517 (.gn e g517 (.gn e g517 (.z 62648 (.pkF e g517 e) e e (.p e (.nil (.ret ?_))))))
               obtain rfl := someO h
               exact Ends.mkG (.inl e) e (gh_pk [0] [] hB e e e e) e e
             ·refine Ops.gn e g516 (.gn e g516 (.gn e g516 (.z 62568 (.pkF e g516 e) e e (.p e (.gn e e (.gn e e (.gn e e (.z 62648 (.pkF e e e) e e (.p e (.nil (.ret ?_)))))))))))
              obtain rfl := someO h
              exact Ends.mkG (.inl e) e (gh_pk [0] [] hB e e e e) e e
def i_copyLog (N : Nat) (x1 : Log) : Option (Log) :=
 (cat? ([] : List Entry) x1.Entries).bind fun x107 =>
 some (Log.mk x1.Start x1.StartTerm x107)
theorem sem_i_copyLog (N : Nat) (x1 : Log) (r : Log) (h : i_copyLog N x1 = some r) : Says Tryz.prog 60 [.agg [VI x1.Start,VI x1.StartTerm,RO 40 (x1.Entries.map eE)]] 0 [] (.agg [VI r.Start,VI r.StartTerm,.sl 0 40 0 r.Entries.length]) [(0,.vec 40 (r.Entries.map eE))] := by
 unfold i_copyLog at h
 refine Says.of_norm e Tryz.call60 e fun B hB => ?_
 have hm : B.m ≤ 1000 := by omega
 refine Run.so hm (.z 1000 (.bx e e) e e (.z 1016 (.al e e) e e (.nil (.so hm (.p2 e e ?_)))))
 obtain ⟨x107,hx107,h⟩ := bindO h
 refine Ops.z 5128 (Ev.apW (f := eE) (ontoN (f := eE) e) (addsF e) e bt40 e hx107) e e (.p e (.y 5160 (.sto e e e e e e) e e (.nil (.so hm (.p e (.y 9208 (.sto e e e e e e) e e (.nil (.ret ?_))))))))
 obtain rfl := someO h
 exact Ends.mkG (.inl e) e (gh_pk [0] [5128] hB e e e e) e e
def i_copyNode (N : Nat) (x1 : Node) : Option (Node) :=
 (cat? ([] : List Int) x1.Conf).bind fun x119 =>
 (i_copyLog N x1.Log).bind fun y123 =>
 (cat? ([] : List Int) x1.Votes).bind fun x127 =>
 (cat? ([] : List Peer) x1.Peers).bind fun x131 =>
 some (Node.mk x1.Id x1.Term x1.Vote x1.Role x1.Lead x119 y123 x1.Commit x1.Clock x1.Limit x127 x131)
theorem sem_i_copyNode (N : Nat) (x1 : Node) (r : Node) (h : i_copyNode N x1 = some r) : Says Tryz.prog 23 [.agg [VI x1.Id,VI x1.Term,VI x1.Vote,VI x1.Role,VI x1.Lead,RO 3 (x1.Conf.map encI),VI x1.Log.Start,VI x1.Log.StartTerm,RO 40 (x1.Log.Entries.map eE),VI x1.Commit,VI x1.Clock,VI x1.Limit,RO 3 (x1.Votes.map encI),RO 98 (x1.Peers.map eP)]] 0 [] (.agg [VI r.Id,VI r.Term,VI r.Vote,VI r.Role,VI r.Lead,.sl 0 3 0 r.Conf.length,VI r.Log.Start,VI r.Log.StartTerm,.sl 1 40 0 r.Log.Entries.length,VI r.Commit,VI r.Clock,VI r.Limit,.sl 2 3 0 r.Votes.length,.sl 3 98 0 r.Peers.length]) [(0,.vec 3 (r.Conf.map encI)),(1,.vec 40 (r.Log.Entries.map eE)),(2,.vec 3 (r.Votes.map encI)),(3,.vec 98 (r.Peers.map eP))] := by
 unfold i_copyNode at h
 refine Says.of_norm e Tryz.call23 e fun B hB => ?_
 have hm : B.m ≤ 1000 := by omega
 refine Run.so hm (.z 1000 (.bx e e) e e (.z 1016 (.al e e) e e (.nil (.so hm (.p2 e e ?_)))))
 obtain ⟨x119,hx119,h⟩ := bindO h
 refine Ops.z 5128 (Ev.apW (f := encI) (ontoN (f := encI) e) (addsF e) e bt3 e hx119) e e (.p e (.y 5160 (.sto e e e e e e) e e (.nil (.so hm (.p2 e e ?_)))))
 obtain ⟨y123,hy123,h⟩ := bindO h
 refine Ops.z 9224 (Ev.call [] [] 1 (sem_i_copyLog _ _ _ hy123) e e (.cons (.agg (.d2 (.d1 .nil))) .nil) e (.inl e) e e) e e (.p e (.y 9256 (.sto e e e e e e) e e (.nil (.so hm (.p2 e e ?_)))))
 obtain ⟨x127,hx127,h⟩ := bindO h
 refine Ops.z 13320 (Ev.apW (f := encI) (ontoN (f := encI) e) (addsF e) e bt3 e hx127) e e (.p e (.y 13352 (.sto e e e e e e) e e (.nil (.so hm (.p2 e e ?_)))))
 obtain ⟨x131,hx131,h⟩ := bindO h
 refine Ops.z 17416 (Ev.apW (f := eP) (ontoN (f := eP) e) (addsF e) e bt98 e hx131) e e (.p e (.y 17448 (.sto e e e e e e) e e (.nil (.so hm (.p e (.y 21496 (.sto e e e e e e) e e (.nil (.ret ?_))))))))
 obtain rfl := someO h
 exact Ends.mkG (.inl e) e (gh_pk [0] [5128,9224,13320,17416] hB e e e e) e e
def c_tell (N : Nat) (x1 : TK) (x2 : Message) : Option (TK) :=
 (cat? x1.out ([(Message.mk x2.Kind x1.n.Id x2.To x1.n.Term x2.Index x2.LogTerm x2.Commit x2.Ok x2.Entries x2.Conf x2.Data x2.Last)] : List Message)).bind fun x103 =>
 some (TK.mk x1.n x103)
theorem sem_c_tell (N : Nat) (x1 : TK) (x2 : Message) (r : TK) (h : c_tell N x1 x2 = some r) : Says Tryz.prog 49 [.ptr 0 0,.agg [VI x2.Kind,VI x2.From,VI x2.To,VI x2.Term,VI x2.Index,VI x2.LogTerm,VI x2.Commit,VB x2.Ok,RO 40 (x2.Entries.map eE),RO 3 (x2.Conf.map encI),VS x2.Data,VB x2.Last]] 6 [(0,.box [VI x1.n.Id,VI x1.n.Term,VI x1.n.Vote,VI x1.n.Role,VI x1.n.Lead,.sl 1 3 0 x1.n.Conf.length,VI x1.n.Log.Start,VI x1.n.Log.StartTerm,.sl 2 40 0 x1.n.Log.Entries.length,VI x1.n.Commit,VI x1.n.Clock,VI x1.n.Limit,.sl 3 3 0 x1.n.Votes.length,.sl 4 98 0 x1.n.Peers.length,.sl 5 32 0 x1.out.length]),(1,.vec 3 (x1.n.Conf.map encI)),(2,.vec 40 (x1.n.Log.Entries.map eE)),(3,.vec 3 (x1.n.Votes.map encI)),(4,.vec 98 (x1.n.Peers.map eP)),(5,.vec 32 (x1.out.map (eM false)))] (.tup []) [(0,.box [VI r.n.Id,VI r.n.Term,VI r.n.Vote,VI r.n.Role,VI r.n.Lead,.sl 1 3 0 x1.n.Conf.length,VI r.n.Log.Start,VI r.n.Log.StartTerm,.sl 2 40 0 x1.n.Log.Entries.length,VI r.n.Commit,VI r.n.Clock,VI r.n.Limit,.sl 3 3 0 x1.n.Votes.length,.sl 4 98 0 x1.n.Peers.length,.sl 6 32 0 r.out.length]),(1,.vec 3 (x1.n.Conf.map encI)),(2,.vec 40 (x1.n.Log.Entries.map eE)),(3,.vec 3 (x1.n.Votes.map encI)),(4,.vec 98 (x1.n.Peers.map eP)),(5,.gone),(6,.vec 32 (r.out.map (eM false)))] := by
 unfold c_tell at h
 refine Says.of_norm e Tryz.call49 e fun B hB => ?_
 have hm : B.m ≤ 1000 := by omega
 refine Run.so hm (.z 1000 (.bx e e) e e (.nil (.seq (.draw hm hmix (.p e (.p e (.p e (.p e (.p e (.p e (.p e (.p e (.p e (.p e (.p e (.y 5272 (.sto e e e e e e) e e (.p e (.y 5304 (.sto e e e e e e) e e (.nil ⟨by kernel_rfl,?_⟩)))))))))))))))))))
 refine Run.draw hm hmix (.p e (.p e (.p e (.p e (.p e (.p e (.z 9288 (Ev.bsW (ys := ([(Message.mk x2.Kind x1.n.Id x2.To x1.n.Term x2.Index x2.LogTerm x2.Commit x2.Ok x2.Entries x2.Conf x2.Data x2.Last)] : List Message)) (f := (eM false)) e (.d4 (.d4 (.d4 .nil))) e e e e e) e e ?_)))))))
 obtain ⟨x103,hx103,h⟩ := bindO h
 refine OpsD.z 9304 (Ev.apW (f := (eM false)) (ontoW e e e) (addsW e e e (fun _ => e)) e bt32 e hx103) e e (.p e (.p e (.y 9352 (.sto e e e e e e) e e (.nil ⟨by kernel_rfl,?_⟩))))
 obtain rfl := someO h
 exact Ends.mkG (.inr e) e (gh_pk [] [0,1,2,3,4,5,9304] hB e e e e) e e
def c_askVote (N : Nat) (x1 : TK) (x2 : Message) : Option (TK) :=
 (i_LogLast N x1.n.Log).bind fun y141 =>
 joinP (fun (v156 : Bool) =>
 joinP (fun (v172 : Int × Int) =>
 (c_tell N (TK.mk (Node.mk x1.n.Id x1.n.Term v172.1 x1.n.Role x1.n.Lead x1.n.Conf x1.n.Log x1.n.Commit v172.2 x1.n.Limit x1.n.Votes x1.n.Peers) x1.out) (Message.mk 2 0 x2.From 0 0 0 0 v156 ([]) ([]) (⟨#[]⟩ : ByteArray) false)).bind fun y175 =>
 some (TK.mk (Node.mk y175.n.Id y175.n.Term y175.n.Vote y175.n.Role y175.n.Lead x1.n.Conf (Log.mk y175.n.Log.Start y175.n.Log.StartTerm x1.n.Log.Entries) y175.n.Commit y175.n.Clock y175.n.Limit x1.n.Votes x1.n.Peers) y175.out)) fun j172 =>
 (if v156 = true then
 j172 (x2.From,0)
 else
 j172 (x1.n.Vote,x1.n.Clock))) fun j156 =>
 (if (x2.Term == x1.n.Term) = true then
 (if (x1.n.Vote == 0) = true then
 (if (decide (x2.LogTerm > y141.2)) = true then
 j156 true
 else
 (if (x2.LogTerm == y141.2) = true then
 j156 (decide (x2.Index ≥ y141.1))
 else
 j156 false))
 else
 (if (x1.n.Vote == x2.From) = true then
 (if (decide (x2.LogTerm > y141.2)) = true then
 j156 true
 else
 (if (x2.LogTerm == y141.2) = true then
 j156 (decide (x2.Index ≥ y141.1))
 else
 j156 false))
 else
 j156 false))
 else
 j156 false)
theorem sem_c_askVote (N : Nat) (x1 : TK) (x2 : Message) (r : TK) (h : c_askVote N x1 x2 = some r) : Says Tryz.prog 24 [.ptr 0 0,.agg [VI x2.Kind,VI x2.From,VI x2.To,VI x2.Term,VI x2.Index,VI x2.LogTerm,VI x2.Commit,VB x2.Ok,RO 40 (x2.Entries.map eE),RO 3 (x2.Conf.map encI),VS x2.Data,VB x2.Last]] 6 [(0,.box [VI x1.n.Id,VI x1.n.Term,VI x1.n.Vote,VI x1.n.Role,VI x1.n.Lead,.sl 1 3 0 x1.n.Conf.length,VI x1.n.Log.Start,VI x1.n.Log.StartTerm,.sl 2 40 0 x1.n.Log.Entries.length,VI x1.n.Commit,VI x1.n.Clock,VI x1.n.Limit,.sl 3 3 0 x1.n.Votes.length,.sl 4 98 0 x1.n.Peers.length,.sl 5 32 0 x1.out.length]),(1,.vec 3 (x1.n.Conf.map encI)),(2,.vec 40 (x1.n.Log.Entries.map eE)),(3,.vec 3 (x1.n.Votes.map encI)),(4,.vec 98 (x1.n.Peers.map eP)),(5,.vec 32 (x1.out.map (eM false)))] (.tup []) [(0,.box [VI r.n.Id,VI r.n.Term,VI r.n.Vote,VI r.n.Role,VI r.n.Lead,.sl 1 3 0 x1.n.Conf.length,VI r.n.Log.Start,VI r.n.Log.StartTerm,.sl 2 40 0 x1.n.Log.Entries.length,VI r.n.Commit,VI r.n.Clock,VI r.n.Limit,.sl 3 3 0 x1.n.Votes.length,.sl 4 98 0 x1.n.Peers.length,.sl 6 32 0 r.out.length]),(1,.vec 3 (x1.n.Conf.map encI)),(2,.vec 40 (x1.n.Log.Entries.map eE)),(3,.vec 3 (x1.n.Votes.map encI)),(4,.vec 98 (x1.n.Peers.map eP)),(5,.gone),(6,.vec 32 (r.out.map (eM false)))] := by
 unfold c_askVote at h
 refine Says.of_norm e Tryz.call24 e fun B hB => ?_
 have hm : B.m ≤ 1000 := by omega
 refine Run.so hm (.z 1000 (.bx e e) e e (.nil (.so hm (.p3 e e e (.p e (.nil (.so hm (.p3 e e e (.p e ?_)))))))))
 obtain ⟨y141,hy141,h⟩ := bindO h
 refine Ops.z 9256 (Ev.call [] [2] 0 (sem_i_LogLast _ _ _ hy141) e e (.cons (.agg (.d2 (.cons (.borrow e (by decide) (lendW (fun _ => e) _ e)) .nil))) .nil) e (.inr ⟨e,ownL_root trivial⟩) e e) e e ?_
 refine Ops.p e (.p3 e e e (.p e (.nil (.seqO h (fun v156 => [(0,.ptr 0 0),(3,.ptr 6 0),(4,.ptr 0 0),(7,VB v156)]) (fun (v156 : Bool) => [(0,.box [VI x1.n.Id,VI x1.n.Term,VI x1.n.Vote,VI x1.n.Role,VI x1.n.Lead,.sl 1 3 0 x1.n.Conf.length,VI x1.n.Log.Start,VI x1.n.Log.StartTerm,.sl 2 40 0 x1.n.Log.Entries.length,VI x1.n.Commit,VI x1.n.Clock,VI x1.n.Limit,.sl 3 3 0 x1.n.Votes.length,.sl 4 98 0 x1.n.Peers.length,.sl 5 32 0 x1.out.length]),(1,.vec 3 (x1.n.Conf.map encI)),(2,.vec 40 (x1.n.Log.Entries.map eE)),(3,.vec 3 (x1.n.Votes.map encI)),(4,.vec 98 (x1.n.Peers.map eP)),(5,.vec 32 (x1.out.map (eM false))),(6,.box [VI x2.Kind,VI x2.From,VI x2.To,VI x2.Term,VI x2.Index,VI x2.LogTerm,VI x2.Commit,VB x2.Ok,RO 40 (x2.Entries.map eE),RO 3 (x2.Conf.map encI),VS x2.Data,VB x2.Last])]) (fun h => ?_) (fun v156 h => ?_)))))
 ·refine Run.draw hm hmix (.p e (.p e (.p e (.p e (.p e (.p e (.p e (.p e (.askO (x := .t 26) e h (fun g164 h => ?_) (fun g164 h => ?_))))))))))
  ·refine OpsD.gp e g164 e (.gp e g164 e (.gp e g164 e (.gp e g164 e (.gp e g164 e (.gp e g164 e (.askO (x := .t 32) e h (fun g165 h => ?_) (fun g165 h => ?_)))))))
   ·refine OpsD.gn e g165 (.gn e g165 (.gn e g165 (.gn e g165 (.gn e g165 (.gn e g165 (.gn e g165 (.gs (s := 13624) e g164 (.pkT e g165 e) e e (.z 13640 (.pkT e g164 e) e e (.p e (.gp e e e (.gp e e e (.gp e e e (.gp e e e (.gp e e e (.askO (x := .t 47) e h (fun g166 h => ?_) (fun g166 h => ?_))))))))))))))))
    ·refine OpsD.gn e g166 (.gn e g166 (.gn e g166 (.gn e g166 (.gn e g166 (.gu e (.gu e (.gu e (.gu e (.gn e g166 (.gs (s := 13912) e e (.pkT e g166 e) e e (.z 13928 (.pkT e e e) e e (.p e (.nil ⟨by kernel_rfl,?_⟩)))))))))))))
     exact ⟨_,_,(gh_pk [0,3,4,7] [0,1,2,3,4,5,1000] hB e e e e),_,h,e,e⟩
    ·refine OpsD.gp e g166 e (.gp e g166 e (.gp e g166 e (.gp e g166 e (.gp e g166 e (.askO (x := .t 52) e h (fun g167 h => ?_) (fun g167 h => ?_))))))
     ·refine OpsD.gp e g167 e (.gp e g167 e (.gp e g167 e (.gp e g167 e (.gs (s := 13896) e g166 (.pkT e g167 e) e e (.gs (s := 13912) e e (.pkF e g166 e) e e (.z 13928 (.pkT e e e) e e (.p e (.nil ⟨by kernel_rfl,?_⟩))))))))
      exact ⟨_,_,(gh_pk [0,3,4,7] [0,1,2,3,4,5,1000] hB e e e e),_,h,e,e⟩
     ·refine OpsD.gn e g167 (.gn e g167 (.gn e g167 (.gn e g167 (.gs (s := 13896) e g166 (.pkF e g167 e) e e (.gs (s := 13912) e e (.pkF e g166 e) e e (.z 13928 (.pkT e e e) e e (.p e (.nil ⟨by kernel_rfl,?_⟩))))))))
      exact ⟨_,_,(gh_pk [0,3,4,7] [0,1,2,3,4,5,1000] hB e e e e),_,h,e,e⟩
   ·refine OpsD.gp e g165 e (.gp e g165 e (.gp e g165 e (.gp e g165 e (.gp e g165 e (.gp e g165 e (.gp e g165 e (.gs (s := 13624) e g164 (.pkF e g165 e) e e (.z 13640 (.pkT e g164 e) e e (.p e (.askO (x := .t 42) e h (fun g168 h => ?_) (fun g168 h => ?_)))))))))))
    ·refine OpsD.gp e g168 e (.gp e g168 e (.gp e g168 e (.gp e g168 e (.gp e g168 e (.askO (x := .t 47) e h (fun g169 h => ?_) (fun g169 h => ?_))))))
     ·refine OpsD.gn e g169 (.gn e g169 (.gn e g169 (.gn e g169 (.gn e g169 (.gu e (.gu e (.gu e (.gu e (.gn e g169 (.gs (s := 13912) e g168 (.pkT e g169 e) e e (.z 13928 (.pkT e g168 e) e e (.p e (.nil ⟨by kernel_rfl,?_⟩)))))))))))))
      exact ⟨_,_,(gh_pk [0,3,4,7] [0,1,2,3,4,5,1000] hB e e e e),_,h,e,e⟩
     ·refine OpsD.gp e g169 e (.gp e g169 e (.gp e g169 e (.gp e g169 e (.gp e g169 e (.askO (x := .t 52) e h (fun g170 h => ?_) (fun g170 h => ?_))))))
      ·refine OpsD.gp e g170 e (.gp e g170 e (.gp e g170 e (.gp e g170 e (.gs (s := 13896) e g169 (.pkT e g170 e) e e (.gs (s := 13912) e g168 (.pkF e g169 e) e e (.z 13928 (.pkT e g168 e) e e (.p e (.nil ⟨by kernel_rfl,?_⟩))))))))
       exact ⟨_,_,(gh_pk [0,3,4,7] [0,1,2,3,4,5,1000] hB e e e e),_,h,e,e⟩
      ·refine OpsD.gn e g170 (.gn e g170 (.gn e g170 (.gn e g170 (.gs (s := 13896) e g169 (.pkF e g170 e) e e (.gs (s := 13912) e g168 (.pkF e g169 e) e e (.z 13928 (.pkT e g168 e) e e (.p e (.nil ⟨by kernel_rfl,?_⟩))))))))
       exact ⟨_,_,(gh_pk [0,3,4,7] [0,1,2,3,4,5,1000] hB e e e e),_,h,e,e⟩
    ·refine OpsD.gn e g168 (.gn e g168 (.gn e g168 (.gn e g168 (.gn e g168 (.gu e (.gu e (.gu e (.gu e (.gu e (.gu e (.gu e (.gu e (.gu e (.gu e (.gn e g168 (.z 13928 (.pkF e g168 e) e e (.p e (.nil ⟨by kernel_rfl,?_⟩))))))))))))))))))
     exact ⟨_,_,(gh_pk [0,3,4,7] [0,1,2,3,4,5,1000] hB e e e e),_,h,e,e⟩
  ·refine OpsD.gn e g164 (.gn e g164 (.gn e g164 (.gn e g164 (.gn e g164 (.gn e g164 (.gu e (.gu e (.gu e (.gu e (.gu e (.gu e (.gu e (.gn e g164 (.z 13640 (.pkF e g164 e) e e (.p e (.gn e e (.gn e e (.gn e e (.gn e e (.gn e e (.gu e (.gu e (.gu e (.gu e (.gu e (.gu e (.gu e (.gu e (.gu e (.gu e (.gn e e (.z 13928 (.pkF e e e) e e (.p e (.nil ⟨by kernel_rfl,?_⟩))))))))))))))))))))))))))))))))))
   exact ⟨_,_,(gh_pk [0,3,4,7] [0,1,2,3,4,5,1000] hB e e e e),_,h,e,e⟩
 ·refine Run.seqO h (fun v172 => [(0,.ptr 0 0),(3,.ptr 6 0),(7,VB v156)]) (fun (v172 : Int × Int) => [(0,.box [VI x1.n.Id,VI x1.n.Term,VI v172.1,VI x1.n.Role,VI x1.n.Lead,.sl 1 3 0 x1.n.Conf.length,VI x1.n.Log.Start,VI x1.n.Log.StartTerm,.sl 2 40 0 x1.n.Log.Entries.length,VI x1.n.Commit,VI v172.2,VI x1.n.Limit,.sl 3 3 0 x1.n.Votes.length,.sl 4 98 0 x1.n.Peers.length,.sl 5 32 0 x1.out.length]),(1,.vec 3 (x1.n.Conf.map encI)),(2,.vec 40 (x1.n.Log.Entries.map eE)),(3,.vec 3 (x1.n.Votes.map encI)),(4,.vec 98 (x1.n.Peers.map eP)),(5,.vec 32 (x1.out.map (eM false))),(6,.box [VI x2.Kind,VI x2.From,VI x2.To,VI x2.Term,VI x2.Index,VI x2.LogTerm,VI x2.Commit,VB x2.Ok,RO 40 (x2.Entries.map eE),RO 3 (x2.Conf.map encI),VS x2.Data,VB x2.Last])]) (fun h => ?_) (fun v172 h => ?_)
  ·refine Run.so hm (.p e (.nil (.condO e h (fun g173 h => ?_) (fun g173 h => ?_))))
   ·exact Run.ops hm (.p3 e e e (.p3 e e e (.y 21576 (.sto e e e e e e) e e (.p2 e e (.y 21624 (.sto e e e e e e) e e (.nil (⟨_,_,(gh_pk [0,3,7] [0,1,2,3,4,5,6] hB e e e e),_,h,e,e⟩)))))))
   ·exact Run.skip (⟨_,_,(gh_pk [0,3,7] [0,1,2,3,4,5,6] hB e e e e),_,h,e,e⟩)
  ·refine Run.ops hm (.p3 e e e (.p e (.z 25640 (.bd e e) e e ?_)))
   obtain ⟨y175,hy175,h⟩ := bindO h
   refine Ops.z 25656 (Ev.call [0,1,2,3,4,5] [] 1 (sem_c_tell _ _ _ _ hy175) e e (.cons (.ptr e) (.cons (.agg (.d4 (.d4 (.cons (.nil _ _) (.cons (.nil _ _) (.d2 .nil)))))) .nil)) e (.inl e) e e) e e (.nil ?_)
   obtain rfl := someO h
   exact Ends.mkG (.inr e) e (gh_pk [] [0,1,2,3,4,5,25656] hB e e e e) e e
def L_Index_int_l1 (N : Nat) (x1 : (List Int)) (x2 : Int) : Nat → Int → Option ((Int) ⊕ (Unit))
 | 0,_ => none
 | m + 1,x156 =>
 (if (decide (x156 < (x1.length : Int))) = true then
 (at? x1 x156).bind fun x168 =>
 (if (x2 == x168) = true then
 some (Sum.inl x156)
 else
 L_Index_int_l1 N x1 x2 m (w64 (x156 + 1)))
 else
 some (Sum.inr ()))
def L_Index_int_l1_r (N : Nat) (x1 : (List Int)) (x2 : Int) : (List Int) → Int → Option ((Int) ⊕ (Unit))
 | [],x156 =>
 some (Sum.inr ())
 | hd :: tl,x156 =>
 (some hd).bind fun x168 =>
 (if (x2 == x168) = true then
 some (Sum.inl x156)
 else
 L_Index_int_l1_r N x1 x2 tl (w64 (x156 + 1)))
theorem L_Index_int_l1_rng (N : Nat) (x1 : (List Int)) (x2 : Int) (hx : x1.length ≤ 1099511627776) : ∀ (d k m : Nat),x1.length = k + d → d < m → L_Index_int_l1 N x1 x2 m (k : Int) = L_Index_int_l1_r N x1 x2 (x1.drop k) (k : Int) := by
 intro d
 induction d with
 | zero =>
  intro k m hd hm
  obtain ⟨m,rfl⟩ : ∃ q,m = q + 1 := ⟨m - 1,by omega⟩
  rw [L_Index_int_l1,if_neg (by simp; omega),List.drop_eq_nil_of_le (by omega),L_Index_int_l1_r]
 | succ d ih =>
  intro k m hd hm
  obtain ⟨m,rfl⟩ : ∃ q,m = q + 1 := ⟨m - 1,by omega⟩
  have hk : k < x1.length := by omega
  rw [L_Index_int_l1,if_pos (by simp; omega),List.drop_eq_getElem_cons hk,L_Index_int_l1_r]
  have h1 := at_lt hk
  have h2 := w64_succ (k := k) (by omega)
  have h3 := ih (k + 1) m
  simp only [h1,h2,h3 (by omega) (by omega)]
theorem L_Index_int_l1_eq {N : Nat} (x1 : (List Int)) (x2 : Int) (hx : x1.length ≤ 1099511627776) (hN : x1.length < N) : L_Index_int_l1 N x1 x2 N 0 = L_Index_int_l1_r N x1 x2 x1 0 := L_Index_int_l1_rng N x1 x2 hx x1.length 0 N (by omega) hN
def L_Index_int (N : Nat) (x1 : (List Int)) (x2 : Int) : Option (Int) :=
 joinP (fun (v152 : Unit) =>
 some (-1 : Int)) fun j152 =>
 (L_Index_int_l1 N x1 x2 N 0).bind (Sum.elim (fun v162 => some v162) (fun (v163 : Unit) => j152 ()))
theorem sem_L_Index_int (N : Nat) (x1 : (List Int)) (x2 : Int) (r : Int) (h : L_Index_int N x1 x2 = some r) : Says Tryz.prog 87 [RO 3 (x1.map encI),VI x2] 0 [] (VI r) [] := by
 unfold L_Index_int at h
 refine Says.of_norm e Tryz.call87 e fun B hB => ?_
 have hm : B.m ≤ 1000 := by omega
 refine Run.so hm (.p e (.nil (.seqO h (fun v152 => []) (fun (v152 : Unit) => []) (fun h => ?_) (fun v152 h => ?_))))
 ·refine Run.so hm (.p e (.z 5112 (Ev.lnF e) e e (.p e (.nil (.block ?_)))))
  obtain ⟨res163,h,hk163⟩ := bindO h
  refine Run.loop (n := N) (fun m163 fr σ => ∃ (x156 : Int),L_Index_int_l1 N x1 x2 m163 x156 = some res163 ∧ fr = [(0,RO 3 (x1.map encI)),(1,VI x2),(7,VI (x1.length : Int)),(8,VI x156)] ∧ σ = []) (gh_pk [0,1,7,8] [] hB e e e e) ⟨_,h,e,e⟩ ?_
  rintro m163 fr σ ⟨x156,h,rfl,rfl⟩
  obtain _ | m163 := m163
  ·rw [L_Index_int_l1] at h; cases h
  rw [L_Index_int_l1] at h
  refine Run.so hm (.p e (.nil (.seq (.condO e h (fun g166 h => ?_) (fun g166 h => ?_)))))
  ·refine Run.skip (.seq (.block (.so hm (.p2 e e (.nil (.so hm (.p3 e e e ?_)))))))
   obtain ⟨x168,hx168,h⟩ := bindO h
   refine Ops.z 17432 (Ev.iaF e e hx168) e e (.p2 e e (.nil (.condO e h (fun g169 h => ?_) (fun g169 h => ?_))))
   ·refine Run.so hm (.p2 e e (.nil (.ret ?_)))
    obtain rfl := someO h
    have h := hk163
    replace h := inlO h
    obtain rfl := someO h
    exact Ends.mkG (.inl e) e (gh_pk [0] [] hB e e e e) e e
   ·exact Run.skip (.ops hm (.p2 e e (.nil (⟨m163,Nat.lt_succ_self m163,_,_,(gh_pk [0,1,7,8] [] hB e e e e),_,h,e,e⟩))))
  ·refine Run.exit ?_
   obtain rfl := someO h
   have h := hk163
   replace h := inrO h
   exact ⟨_,_,(gh_pk [] [] hB e e e e),(),h,e,e⟩
 ·refine Run.so hm (.p e (.nil (.ret ?_)))
  obtain rfl := someO h
  exact Ends.mkG (.inl e) e (gh_pk [0] [] hB e e e e) e e
def L_Contains_int (N : Nat) (x1 : (List Int)) (x2 : Int) : Option (Bool) :=
 (L_Index_int N x1 x2).bind fun y103 =>
 some (decide (y103 ≥ 0))
theorem sem_L_Contains_int (N : Nat) (x1 : (List Int)) (x2 : Int) (r : Bool) (h : L_Contains_int N x1 x2 = some r) : Says Tryz.prog 45 [RO 3 (x1.map encI),VI x2] 0 [] (VB r) [] := by
 unfold L_Contains_int at h
 refine Says.of_norm e Tryz.call45 e fun B hB => ?_
 have hm : B.m ≤ 1000 := by omega
 refine Run.so hm (.p e (.nil (.so hm (.p2 e e ?_))))
 obtain ⟨y103,hy103,h⟩ := bindO h
 refine Ops.z 5128 (Ev.call [] [] 0 (sem_L_Index_int _ _ _ _ hy103) e e (.d2 .nil) e (.inl e) e e) e e (.p2 e e (.nil (.ret ?_)))
 obtain rfl := someO h
 exact Ends.mkG (.inl e) e (gh_pk [0] [] hB e e e e) e e
def math_bits_Len64 (N : Nat) (x1 : Int) : Option (Int) :=
 joinP (fun (v134 : Int × Int) =>
 joinP (fun (v143 : Int × Int) =>
 joinP (fun (v154 : Int × Int) =>
 (sat? (⟨#[0,1,2,2,3,3,3,3,4,4,4,4,4,4,4,4,5,5,5,5,5,5,5,5,5,5,5,5,5,5,5,5,6,6,6,6,6,6,6,6,6,6,6,6,6,6,6,6,6,6,6,6,6,6,6,6,6,6,6,6,6,6,6,6,7,7,7,7,7,7,7,7,7,7,7,7,7,7,7,7,7,7,7,7,7,7,7,7,7,7,7,7,7,7,7,7,7,7,7,7,7,7,7,7,7,7,7,7,7,7,7,7,7,7,7,7,7,7,7,7,7,7,7,7,7,7,7,7,8,8,8,8,8,8,8,8,8,8,8,8,8,8,8,8,8,8,8,8,8,8,8,8,8,8,8,8,8,8,8,8,8,8,8,8,8,8,8,8,8,8,8,8,8,8,8,8,8,8,8,8,8,8,8,8,8,8,8,8,8,8,8,8,8,8,8,8,8,8,8,8,8,8,8,8,8,8,8,8,8,8,8,8,8,8,8,8,8,8,8,8,8,8,8,8,8,8,8,8,8,8,8,8,8,8,8,8,8,8,8,8,8,8,8,8,8,8,8,8,8,8,8,8,8,8,8,8]⟩ : ByteArray) (IntKind.wrap .u8 (v154.1))).bind fun x161 =>
 some (w64 (v154.2 + (w64 (x161))))) fun j154 =>
 (if (decide (v143.1 ≥ 256)) = true then
 (intSh .shr .u64 v143.1 8).bind fun x159 =>
 j154 (x159,w64 (v143.2 + 8))
 else
 j154 (v143.1,v143.2))) fun j143 =>
 (if (decide (v134.1 ≥ 65536)) = true then
 (intSh .shr .u64 v134.1 16).bind fun x148 =>
 j143 (x148,w64 (v134.2 + 16))
 else
 j143 (v134.1,v134.2))) fun j134 =>
 (if (decide (x1 ≥ 4294967296)) = true then
 (intSh .shr .u64 x1 32).bind fun x137 =>
 j134 (x137,32)
 else
 j134 (x1,0))
theorem sem_math_bits_Len64 (N : Nat) (x1 : Int) (r : Int) (h : math_bits_Len64 N x1 = some r) : Says Tryz.prog 125 [.c (.i .u64 x1)] 0 [] (VI r) [] := by
 unfold math_bits_Len64 at h
 refine Says.of_norm e Tryz.call125 e fun B hB => ?_
 have hm : B.m ≤ 1000 := by omega
 refine Run.so hm (.p e (.nil (.seqO h (fun v134 => [(0,.c (.i .u64 v134.1)),(2,VI v134.2)]) (fun (v134 : Int × Int) => []) (fun h => ?_) (fun v134 h => ?_))))
 ·refine Run.so hm (.p2 e e (.nil (.condO e h (fun g135 h => ?_) (fun g135 h => ?_))))
  ·refine Run.so hm (.p e ?_)
   obtain ⟨x137,hx137,h⟩ := bindO h
   exact Ops.z 9208 (.sh e e hx137) e e (.p e (.nil (.ops hm (.p e (.nil (⟨_,_,(gh_pk [0,2] [] hB e e e e),_,h,e,e⟩))))))
  ·exact Run.skip (⟨_,_,(gh_pk [0,2] [] hB e e e e),_,h,e,e⟩)
 ·refine Run.seqO h (fun v143 => [(0,.c (.i .u64 v143.1)),(2,VI v143.2)]) (fun (v143 : Int × Int) => []) (fun h => ?_) (fun v143 h => ?_)
  ·refine Run.so hm (.p2 e e (.nil (.condO e h (fun g144 h => ?_) (fun g144 h => ?_))))
   ·refine Run.so hm (.p e ?_)
    obtain ⟨x148,hx148,h⟩ := bindO h
    exact Ops.z 21496 (.sh e e hx148) e e (.p e (.nil (.ops hm (.p3 e e e (.nil (⟨_,_,(gh_pk [0,2] [] hB e e e e),_,h,e,e⟩))))))
   ·exact Run.skip (⟨_,_,(gh_pk [0,2] [] hB e e e e),_,h,e,e⟩)
  ·refine Run.seqO h (fun v154 => [(0,.c (.i .u64 v154.1)),(2,VI v154.2)]) (fun (v154 : Int × Int) => []) (fun h => ?_) (fun v154 h => ?_)
   ·refine Run.so hm (.p2 e e (.nil (.condO e h (fun g155 h => ?_) (fun g155 h => ?_))))
    ·refine Run.so hm (.p e ?_)
     obtain ⟨x159,hx159,h⟩ := bindO h
     exact Ops.z 33784 (.sh e e hx159) e e (.p e (.nil (.ops hm (.p3 e e e (.nil (⟨_,_,(gh_pk [0,2] [] hB e e e e),_,h,e,e⟩))))))
    ·exact Run.skip (⟨_,_,(gh_pk [0,2] [] hB e e e e),_,h,e,e⟩)
   ·refine Run.so hm (.p3 e e e ?_)
    obtain ⟨x161,hx161,h⟩ := bindO h
    refine Ops.z 42008 (Ev.ixS e e hx161) e e (.p3 e e e (.nil (.ret ?_)))
    obtain rfl := someO h
    exact Ends.mkG (.inl e) e (gh_pk [0] [] hB e e e e) e e
def math_bits_Len (N : Nat) (x1 : Int) : Option (Int) :=
 (math_bits_Len64 N x1).bind fun y103 =>
 some y103
theorem sem_math_bits_Len (N : Nat) (x1 : Int) (r : Int) (h : math_bits_Len N x1 = some r) : Says Tryz.prog 104 [.c (.i .u64 x1)] 0 [] (VI r) [] := by
 unfold math_bits_Len at h
 refine Says.of_norm e Tryz.call104 e fun B hB => ?_
 have hm : B.m ≤ 1000 := by omega
 refine Run.so hm (.p e (.nil (.seq (.condF e e (.skip (.so hm (.p e ?_)))))))
 obtain ⟨y103,hy103,h⟩ := bindO h
 refine Ops.z 9208 (Ev.call [] [] 0 (sem_math_bits_Len64 _ _ _ hy103) e e (.d1 .nil) e (.inl e) e e) e e (.p e (.nil (.ret ?_)))
 obtain rfl := someO h
 exact Ends.mkG (.inl e) e (gh_pk [0] [] hB e e e e) e e
def cmp_isNaN_int (N : Nat) (x1 : Int) : Option (Bool) :=
 some (x1 != x1)
theorem sem_cmp_isNaN_int (N : Nat) (x1 : Int) (r : Bool) (h : cmp_isNaN_int N x1 = some r) : Says Tryz.prog 131 [VI x1] 0 [] (VB r) [] := by
 unfold cmp_isNaN_int at h
 refine Says.of_norm e Tryz.call131 e fun B hB => ?_
 have hm : B.m ≤ 1000 := by omega
 refine Run.so hm (.p e (.nil (.so hm (.p3 e e e (.p e (.nil (.ret ?_)))))))
 obtain rfl := someO h
 exact Ends.mkG (.inl e) e (gh_pk [0] [] hB e e e e) e e
def cmp_Less_int (N : Nat) (x1 : Int) (x2 : Int) : Option (Bool) :=
 (cmp_isNaN_int N x1).bind fun y112 =>
 (if y112 = true then
 (cmp_isNaN_int N x2).bind fun y114 =>
 (if (!y114) = true then
 some true
 else
 some (decide (x1 < x2)))
 else
 some (decide (x1 < x2)))
theorem sem_cmp_Less_int (N : Nat) (x1 : Int) (x2 : Int) (r : Bool) (h : cmp_Less_int N x1 x2 = some r) : Says Tryz.prog 121 [VI x1,VI x2] 0 [] (VB r) [] := by
 unfold cmp_Less_int at h
 refine Says.of_norm e Tryz.call121 e fun B hB => ?_
 have hm : B.m ≤ 1000 := by omega
 refine Run.so hm (.p e (.nil (.so hm (.p e ?_))))
 obtain ⟨y112,hy112,h⟩ := bindO h
 refine Ops.z 5112 (Ev.call [] [] 0 (sem_cmp_isNaN_int _ _ _ hy112) e e (.d1 .nil) e (.inl e) e e) e e (.p e (.askO (x := .t 7) e h (fun g113 h => ?_) (fun g113 h => ?_)))
 ·refine Ops.gp e g113 e ?_
  obtain ⟨y114,hy114,h⟩ := bindO h
  refine Ops.gs (s := 5160) e g113 (Ev.call [] [] 0 (sem_cmp_isNaN_int _ _ _ hy114) e e (.d1 .nil) e (.inl e) e e) e e (.gp e g113 e (.z 5192 (.pkT e g113 e) e e (.p e (.askO (x := .t 12) e h (fun g115 h => ?_) (fun g115 h => ?_)))))
  ·refine Ops.gn e g115 (.gn e g115 (.gn e g115 (.z 5272 (.pkT e g115 e) e e (.p e (.nil (.ret ?_))))))
   obtain rfl := someO h
   exact Ends.mkG (.inl e) e (gh_pk [0] [] hB e e e e) e e
  ·refine Ops.gp e g115 e (.gp e g115 e (.gp e g115 e (.z 5272 (.pkF e g115 e) e e (.p e (.nil (.ret ?_))))))
   obtain rfl := someO h
   exact Ends.mkG (.inl e) e (gh_pk [0] [] hB e e e e) e e
 ·refine Ops.gn e g113 (.gn e g113 (.gn e g113 (.z 5192 (.pkF e g113 e) e e (.p e (.gp e e e (.gp e e e (.gp e e e (.z 5272 (.pkF e e e) e e (.p e (.nil (.ret ?_)))))))))))
  obtain rfl := someO h
  exact Ends.mkG (.inl e) e (gh_pk [0] [] hB e e e e) e e
def L_insertionSortOrdered_int_l2 (N : Nat) (x2 : Int) : Nat → Int → (List Int) → Option ((List Int))
 | 0,_,_ => none
 | m + 1,x652,x653 =>
 (if (decide (x652 > x2)) = true then
 (at? x653 x652).bind fun x704 =>
 (at? x653 (w64 (x652 - 1))).bind fun x705 =>
 (cmp_Less_int N x704 x705).bind fun y706 =>
 (if y706 = true then
 (at? x653 (w64 (x652 - 1))).bind fun x720 =>
 (at? x653 x652).bind fun x721 =>
 (at? x653 x652).bind fun x722 =>
 (at? (x653.set x652.toNat x720) (w64 (x652 - 1))).bind fun x723 =>
 L_insertionSortOrdered_int_l2 N x2 m (w64 (x652 - 1)) ((x653.set x652.toNat x720).set ((w64 (x652 - 1)).toNat) x721)
 else
 some x653)
 else
 some x653)
def L_insertionSortOrdered_int_l1 (N : Nat) (x2 : Int) (x3 : Int) : Nat → Int → (List Int) → Option ((List Int))
 | 0,_,_ => none
 | m + 1,x414,x415 =>
 (if (decide (x414 < x3)) = true then
 joinP (fun (v648 : (List Int)) =>
 L_insertionSortOrdered_int_l1 N x2 x3 m (w64 (x414 + 1)) v648) fun j648 =>
 (L_insertionSortOrdered_int_l2 N x2 N x414 x415).bind (fun v688 => j648 v688)
 else
 some x415)
def L_insertionSortOrdered_int (N : Nat) (x1 : (List Int)) (x2 : Int) (x3 : Int) : Option ((List Int)) :=
 (L_insertionSortOrdered_int_l1 N x2 x3 N (w64 (x2 + 1)) x1).bind (fun v569 => some v569)
theorem sem_L_insertionSortOrdered_int (N : Nat) (x1 : (List Int)) (x2 : Int) (x3 : Int) (r : (List Int)) (h : L_insertionSortOrdered_int N x1 x2 x3 = some r) : Says Tryz.prog 115 [.sl 0 3 0 x1.length,VI x2,VI x3] 1 [(0,.vec 3 (x1.map encI))] (.tup []) [(0,.vec 3 (r.map encI))] := by
 unfold L_insertionSortOrdered_int at h
 refine Says.of_norm e Tryz.call115 e fun B hB => ?_
 have hm : B.m ≤ 1000 := by omega
 refine Run.so hm (.p3 e e e (.nil (.block ?_)))
 obtain ⟨res569,h,hk569⟩ := bindO h
 refine Run.loop (n := N) (fun m569 fr σ => ∃ (x414 : Int),∃ (x415 : (List Int)),L_insertionSortOrdered_int_l1 N x2 x3 m569 x414 x415 = some res569 ∧ fr = [(0,.sl 0 3 0 x415.length),(1,VI x2),(2,VI x3),(6,VI x414)] ∧ σ = [(0,.vec 3 (x415.map encI))]) (gh_pk [0,1,2,6] [0] hB e e e e) ⟨_,_,h,e,e⟩ ?_
 rintro m569 fr σ ⟨x414,x415,h,rfl,rfl⟩
 obtain _ | m569 := m569
 ·rw [L_insertionSortOrdered_int_l1] at h; cases h
 rw [L_insertionSortOrdered_int_l1] at h
 refine Run.seq (.so hm (.p3 e e e (.nil (.condO e h (fun g572 h => ?_) (fun g572 h => ?_)))))
 ·refine Run.skip (.seqO h (fun v648 => [(0,.sl 0 3 0 v648.length),(1,VI x2),(2,VI x3),(6,VI x414)]) (fun (v648 : (List Int)) => [(0,.vec 3 (v648.map encI))]) (fun h => ?_) (fun v648 h => ?_))
  ·refine Run.block (.so hm (.p2 e e (.nil (.block ?_))))
   obtain ⟨res688,h,hk688⟩ := bindO h
   refine Run.loop (n := N) (fun m688 fr σ => ∃ (x652 : Int),∃ (x653 : (List Int)),L_insertionSortOrdered_int_l2 N x2 m688 x652 x653 = some res688 ∧ fr = [(0,.sl 0 3 0 x653.length),(1,VI x2),(2,VI x3),(6,VI x414),(7,VI x652)] ∧ σ = [(0,.vec 3 (x653.map encI))]) (gh_pk [0,1,2,6,7] [0] hB e e e e) ⟨_,_,h,e,e⟩ ?_
   rintro m688 fr σ ⟨x652,x653,h,rfl,rfl⟩
   obtain _ | m688 := m688
   ·rw [L_insertionSortOrdered_int_l2] at h; cases h
   rw [L_insertionSortOrdered_int_l2] at h
   refine Run.seq (.seq (.draw hm hmix (.p e (.p e (.p e (.p e (.askO (x := .t 19) e h (fun g703 h => ?_) (fun g703 h => ?_))))))))
   ·refine OpsD.gp e g703 e (.gp e g703 e ?_)
    obtain ⟨x704,hx704,h⟩ := bindO h
    refine OpsD.gs (s := 17480) e g703 (Ev.iaW e e e hx704) e e (.gs (s := 17496) e g703 (Ev.ldE (f := encI) e e (at_some hx704).2 e e e) e e (.gp e g703 e (.gp e g703 e (.gp e g703 e ?_))))
    obtain ⟨x705,hx705,h⟩ := bindO h
    refine OpsD.gs (s := 17560) e g703 (Ev.iaW e e e hx705) e e (.gs (s := 17576) e g703 (Ev.ldE (f := encI) e e (at_some hx705).2 e e e) e e ?_)
    obtain ⟨y706,hy706,h⟩ := bindO h
    refine OpsD.gs (s := 17592) e g703 (Ev.call [] [] 0 (sem_cmp_Less_int _ _ _ _ hy706) e e (.d2 .nil) e (.inl e) e e) e e (.z 17608 (.pkT e g703 e) e e (.nil ⟨by kernel_rfl,?_⟩))
    refine Run.condO e h (fun g707 h => ?_) (fun g707 h => ?_)
    ·refine Run.skip (.seq (.block (.draw hm hmix (.p e (.p e (.p e (.p e (.p e (.p e (.p e (.p e ?_)))))))))))
     obtain ⟨x720,hx720,h⟩ := bindO h
     refine OpsD.z 25704 (Ev.iaW e e e hx720) e e (.z 25720 (Ev.ldE (f := encI) e e (at_some hx720).2 e e e) e e (.p e (.p e ?_)))
     obtain ⟨x721,hx721,h⟩ := bindO h
     refine OpsD.z 25768 (Ev.iaW e e e hx721) e e (.z 25784 (Ev.ldE (f := encI) e e (at_some hx721).2 e e e) e e ?_)
     obtain ⟨x722,hx722,h⟩ := bindO h
     refine OpsD.z 25800 (Ev.iaW e e e hx722) e e (.y 25816 (Ev.stE (f := encI) (v' := x720) e e (at_some hx722).2 e (.d1 .nil) e e e e e) e e ?_)
     obtain ⟨x723,hx723,h⟩ := bindO h
     refine OpsD.z 25832 (Ev.iaW e (by simp) e hx723) e e ?_
     refine OpsD.y 25848 (Ev.stE (f := encI) (v' := x721) e e (at_some hx723).2 e (.d1 .nil) e e e e e) e e (.nil ⟨by kernel_rfl,?_⟩)
     exact Run.ops hm (.p3 e e e (.nil (⟨m688,Nat.lt_succ_self m688,_,_,(gh_pk [0,1,2,6,7] [0] hB e e (by first | rfl | (simp only [List.length_set]; done) | (simp only [List.length_set]; rfl)) (by first | rfl | (simp only [List.length_set]; done) | (simp only [List.length_set]; rfl))),_,_,h,e,e⟩)))
    ·refine Run.exit ?_
     obtain rfl := someO h
     have h := hk688
     exact ⟨_,_,(gh_pk [0,1,2,6] [0] hB e e e e),_,h,e,e⟩
   ·refine OpsD.gn e g703 (.gn e g703 (.gn e g703 (.gn e g703 (.gn e g703 (.gn e g703 (.gn e g703 (.gn e g703 (.gn e g703 (.gn e g703 (.z 17608 (.pkF e g703 e) e e (.nil ⟨by kernel_rfl,?_⟩)))))))))))
    refine Run.condF e e (.exit ?_)
    obtain rfl := someO h
    have h := hk688
    exact ⟨_,_,(gh_pk [0,1,2,6] [0] hB e e e e),_,h,e,e⟩
  ·exact Run.ops hm (.p3 e e e (.nil (⟨m569,Nat.lt_succ_self m569,_,_,(gh_pk [0,1,2,6] [0] hB e e e e),_,_,h,e,e⟩)))
 ·refine Run.exit ?_
  obtain rfl := someO h
  have h := hk569
  obtain rfl := someO h
  exact Ends.mkG (.inr e) e (gh_pk [] [0] hB e e e e) e e
end Go.Proofs.YtkojbcnafckofaaGreat.Pe.FnNodes
