/- Functions,as pure functions; and that Go does just that. -/
import Derived.Test.YtehknbpmpbghhaaPeFFnSettles4
namespace Go.Proofs.Ytehknbpmpbghhaa.Pe.FnSettles
open Go Go.RowKit
set_option linter.unusedVariables false
set_option linter.unusedSimpArgs false
set_option maxHeartbeats 40000000
def spec_Settle (N : Nat) (x_1 : Node) (x_2 : Int) : Option (Node × Bool) :=
 (spec_NodeOk N x_1).bind fun y_140 =>
 (if (!y_140) = true then
 some ((Node.mk 0 0 0 0 0 ([]) (Log.mk 0 0 ([])) 0 0 0 ([]) ([])),false)
 else
 (spec_l01In N x_2 x_1.Log.Start x_1.Commit).bind fun y_142 =>
 (if (!y_142) = true then
 some ((Node.mk 0 0 0 0 0 ([]) (Log.mk 0 0 ([])) 0 0 0 ([]) ([])),false)
 else
 (spec_l16Copy N x_1).bind fun y_147 =>
 (spec_ConfAt N x_1 x_2).bind fun y_151 =>
 (spec_LogTerm N x_1.Log x_2).bind fun y_158 =>
 (spec_LogBehind N x_1.Log x_2 y_158).bind fun y_159 =>
 some ((Node.mk y_147.Id y_147.Term y_147.Vote y_147.Role y_147.Lead y_151 y_159 y_147.Commit y_147.Clock y_147.Limit y_147.Votes y_147.Peers),true)))
theorem sem_spec_Settle (N : Nat) (x_1 : Node) (x_2 : Int) (r : Node × Bool) (h : spec_Settle N x_1 x_2 = some r) : Says Try.prog 144 [.agg [VI x_1.Id,VI x_1.Term,VI x_1.Vote,VI x_1.Role,VI x_1.Lead,RO 3 (x_1.Conf.map encI),VI x_1.Log.Start,VI x_1.Log.StartTerm,RO 51 (x_1.Log.Entries.map encEntry),VI x_1.Commit,VI x_1.Clock,VI x_1.Limit,RO 3 (x_1.Votes.map encI),RO 135 (x_1.Peers.map encPeer)],VI x_2] 0 [] (.tup [.agg [VI r.1.Id,VI r.1.Term,VI r.1.Vote,VI r.1.Role,VI r.1.Lead,.sl 0 3 0 r.1.Conf.length,VI r.1.Log.Start,VI r.1.Log.StartTerm,.sl 1 51 0 r.1.Log.Entries.length,VI r.1.Commit,VI r.1.Clock,VI r.1.Limit,.sl 2 3 0 r.1.Votes.length,.sl 3 135 0 r.1.Peers.length],VB r.2]) [(0,.vec 3 (r.1.Conf.map encI)),(1,.vec 51 (r.1.Log.Entries.map encEntry)),(2,.vec 3 (r.1.Votes.map encI)),(3,.vec 135 (r.1.Peers.map encPeer))] := by
 unfold spec_Settle at h
 refine Says.of_run s144 Try.call144 rfl fun B hB => ?_
 have hm : B.m ≤ 1000 := by omega
 refine Run.seq (Run.ops hm (Ops.st (s := 1000) (.bx rfl rfl) rfl rfl (Ops.st (s := 1016) (.al rfl rfl) rfl rfl (Ops.p rfl (Ops.nil (Run.seq (Run.seq (Run.ops hm (Ops.p rfl ?_)))))))))
 obtain ⟨y_140,hy_140,h⟩ := bindO h
 refine Ops.st (s := 5112) (Ev.call [] [] 0 (sem_spec_NodeOk _ _ _ hy_140) rfl rfl (.cons (.agg (.d4 (.d4 (.d4 (.d2 .nil))))) .nil) rfl (.inl rfl) rfl rfl) rfl rfl (.p2 rfl rfl (Ops.askO (x := .t 10) rfl h (fun g_141 h => ?_) (fun g_141 h => ?_)))
 ·refine Ops.gn rfl g_141 (Ops.gn rfl g_141 (Ops.gn rfl g_141 (Ops.gn rfl g_141 (Ops.gn rfl g_141 (Ops.gn rfl g_141 (Ops.gn rfl g_141 (Ops.gn rfl g_141 (Ops.st (s := 5288) (.pkT rfl g_141 rfl) rfl rfl (Ops.nil (Run.condT rfl rfl (Run.seq (Run.ops hm (Ops.st (s := 9192) (.bd rfl rfl) rfl rfl (Ops.s0 (s := 9208) (.sto rfl rfl rfl rfl rfl rfl) rfl rfl (Ops.p rfl (Ops.nil (Run.ret ?_)))))))))))))))))
  obtain rfl := someO h
  exact Ends.mkG (.inl rfl) rfl (Gh.trans (Gh.trans (gh_prn [0,1] [] hB rfl) (gh_nil [0] [] hB rfl rfl rfl)) (gh_pk [0,1] [10000000,10000001,10000002,10000003] hB rfl rfl rfl rfl)) rfl rfl
 ·refine Ops.gp rfl g_141 rfl (Ops.gp rfl g_141 rfl (Ops.gp rfl g_141 rfl (Ops.gp rfl g_141 rfl (Ops.gp rfl g_141 rfl (Ops.gp rfl g_141 rfl ?_)))))
  obtain ⟨y_142,hy_142,h⟩ := bindO h
  refine Ops.gs (s := 5256) rfl g_141 (Ev.call [] [] 0 (sem_spec_l01In _ _ _ _ _ hy_142) rfl rfl (.d2 (.d1 .nil)) rfl (.inl rfl) rfl rfl) rfl rfl (Ops.gp rfl g_141 rfl (Ops.st (s := 5288) (.pkF rfl g_141 rfl) rfl rfl (Ops.nil (Run.condO rfl h (fun g_143 h => ?_) (fun g_143 h => ?_)))))
  ·refine Run.seq (Run.ops hm (Ops.st (s := 9192) (.bd rfl rfl) rfl rfl (Ops.s0 (s := 9208) (.sto rfl rfl rfl rfl rfl rfl) rfl rfl (Ops.p rfl (Ops.nil (Run.ret ?_))))))
   obtain rfl := someO h
   exact Ends.mkG (.inl rfl) rfl (Gh.trans (Gh.trans (gh_prn [0,1] [] hB rfl) (gh_nil [0] [] hB rfl rfl rfl)) (gh_pk [0,1] [10000000,10000001,10000002,10000003] hB rfl rfl rfl rfl)) rfl rfl
  ·refine Run.skip (Run.seq (Run.ops hm (Ops.p rfl ?_)))
   obtain ⟨y_147,hy_147,h⟩ := bindO h
   refine Ops.st (s := 13304) (Ev.call [] [] 4 (sem_spec_l16Copy _ _ _ hy_147) rfl rfl (.cons (.agg (.d4 (.d4 (.d4 (.d2 .nil))))) .nil) rfl (.inl rfl) rfl rfl) rfl rfl (Ops.st (s := 13320) (.al rfl rfl) rfl rfl (Ops.s0 (s := 13336) (.sto rfl rfl rfl rfl rfl rfl) rfl rfl (Ops.nil (Run.seq (Run.ops hm (.p2 rfl rfl ?_))))))
   obtain ⟨y_151,hy_151,h⟩ := bindO h
   refine Ops.st (s := 17416) (Ev.call [] [] 1 (sem_spec_ConfAt _ _ _ _ hy_151) rfl rfl (.cons (.agg (.d4 (.d4 (.d4 (.d2 .nil))))) (.d1 .nil)) rfl (.inl rfl) rfl rfl) rfl rfl (Ops.p rfl (Ops.s0 (s := 17448) (.sto rfl rfl rfl rfl rfl rfl) rfl rfl (Ops.nil (Run.seq (Run.draw hm hmix (OpsD.p rfl (OpsD.p rfl (OpsD.p rfl (OpsD.p rfl (OpsD.p rfl (OpsD.p rfl ?_)))))))))))
   obtain ⟨y_158,hy_158,h⟩ := bindO h
   refine OpsD.st (s := 21576) (Ev.call [] [] 0 (sem_spec_LogTerm _ _ _ _ hy_158) rfl rfl (.cons (.agg (.d2 (.d1 .nil))) (.d1 .nil)) rfl (.inl rfl) rfl rfl) rfl rfl ?_
   obtain ⟨y_159,hy_159,h⟩ := bindO h
   refine OpsD.st (s := 21592) (Ev.call [] [] 1 (sem_spec_LogBehind _ _ _ _ _ hy_159) rfl rfl (.cons (.agg (.d2 (.d1 .nil))) (.d2 .nil)) rfl (.inl rfl) rfl rfl) rfl rfl (OpsD.p rfl (OpsD.s0 (s := 21624) (.sto rfl rfl rfl rfl rfl rfl) rfl rfl (OpsD.nil ⟨by kernel_rfl,?_⟩)))
   refine Run.seq (Run.ops hm (Ops.p rfl (Ops.s0 (s := 25592) (.sto rfl rfl rfl rfl rfl rfl) rfl rfl (Ops.p rfl (Ops.nil (Run.ret ?_))))))
   obtain rfl := someO h
   exact Ends.mkG (.inl rfl) rfl (gh_pk [0,1] [17416,21592,13306,13307] hB rfl rfl rfl rfl) rfl rfl
def spec_MessageOk_l1 (N : Nat) (x_1 : Message) : Nat → Int → Int → Option ((Bool) ⊕ (Unit))
 | 0,_,_ => none
 | m + 1,x_649,x_650 =>
 (if (decide (x_650 < (x_1.Entries.length : Int))) = true then
 (at? x_1.Entries x_650).bind fun x_773 =>
 (spec_EntryOk N x_773).bind fun y_774 =>
 (if (!y_774) = true then
 some (Sum.inl false)
 else
 (at? x_1.Entries x_650).bind fun x_776 =>
 (if (decide (x_776.Term < x_649)) = true then
 some (Sum.inl false)
 else
 (at? x_1.Entries x_650).bind fun x_778 =>
 (if (decide (x_778.Term > x_1.Term)) = true then
 some (Sum.inl false)
 else
 (at? x_1.Entries x_650).bind fun x_781 =>
 spec_MessageOk_l1 N x_1 m x_781.Term (w64 (x_650 + 1)))))
 else
 some (Sum.inr ()))
def spec_MessageOk_l1_r (N : Nat) (x_1 : Message) : (List Entry) → Int → Int → Option ((Bool) ⊕ (Unit))
 | [],x_649,x_650 =>
 some (Sum.inr ())
 | hd :: tl,x_649,x_650 =>
 (some hd).bind fun x_773 =>
 (spec_EntryOk N x_773).bind fun y_774 =>
 (if (!y_774) = true then
 some (Sum.inl false)
 else
 (some hd).bind fun x_776 =>
 (if (decide (x_776.Term < x_649)) = true then
 some (Sum.inl false)
 else
 (some hd).bind fun x_778 =>
 (if (decide (x_778.Term > x_1.Term)) = true then
 some (Sum.inl false)
 else
 (some hd).bind fun x_781 =>
 spec_MessageOk_l1_r N x_1 tl x_781.Term (w64 (x_650 + 1)))))
theorem spec_MessageOk_l1_rng (N : Nat) (x_1 : Message) (hx : x_1.Entries.length ≤ 1099511627776) : ∀ (d k m : Nat) (x_649 : Int),x_1.Entries.length = k + d → d < m → spec_MessageOk_l1 N x_1 m x_649 (k : Int) = spec_MessageOk_l1_r N x_1 (x_1.Entries.drop k) x_649 (k : Int) := by
 intro d
 induction d with
 | zero =>
  intro k m x_649 hd hm
  obtain ⟨m,rfl⟩ : ∃ q,m = q + 1 := ⟨m - 1,by omega⟩
  rw [spec_MessageOk_l1,if_neg (by simp; omega),List.drop_eq_nil_of_le (by omega),spec_MessageOk_l1_r]
 | succ d ih =>
  intro k m x_649 hd hm
  obtain ⟨m,rfl⟩ : ∃ q,m = q + 1 := ⟨m - 1,by omega⟩
  have hk : k < x_1.Entries.length := by omega
  rw [spec_MessageOk_l1,if_pos (by simp; omega),List.drop_eq_getElem_cons hk,spec_MessageOk_l1_r]
  have h1 := at_lt hk
  have h2 := w64_succ (k := k) (by omega)
  have h3 := ih (k + 1) m
  simp only [h1,h2,h3 _ (by omega) (by omega)]
theorem spec_MessageOk_l1_eq {N : Nat} (x_1 : Message) (hx : x_1.Entries.length ≤ 1099511627776) (hN : x_1.Entries.length < N) (x_649 : Int) : spec_MessageOk_l1 N x_1 N x_649 0 = spec_MessageOk_l1_r N x_1 x_1.Entries x_649 0 := spec_MessageOk_l1_rng N x_1 hx x_1.Entries.length 0 N x_649 (by omega) hN
def spec_MessageOk (N : Nat) (x_1 : Message) : Option (Bool) :=
 (spec_l01In N x_1.Kind 1 6).bind fun y_467 =>
 (if (!y_467) = true then
 some false
 else
 (spec_l01In N x_1.From 1 4).bind fun y_469 =>
 (if (!y_469) = true then
 some false
 else
 (spec_l01In N x_1.To 1 4).bind fun y_471 =>
 (if (!y_471) = true then
 some false
 else
 (if (x_1.From == x_1.To) = true then
 some false
 else
 (spec_l01In N x_1.Term 0 100000).bind fun y_496 =>
 (if (!y_496) = true then
 some false
 else
 (spec_l01In N x_1.LogTerm 0 100000).bind fun y_498 =>
 (if (!y_498) = true then
 some false
 else
 (spec_l01In N x_1.Index 0 100000).bind fun y_500 =>
 (if (!y_500) = true then
 some false
 else
 (spec_l01In N x_1.Commit 0 100000).bind fun y_502 =>
 (if (!y_502) = true then
 some false
 else
 joinP (fun (v_509 : Unit) =>
 joinP (fun (v_648 : Unit) =>
 (if (x_1.Kind == 5) = true then
 (spec_ConfOk N x_1.Conf).bind fun y_790 =>
 (if y_790 = true then
 some (decide ((x_1.Data.size : Int) ≤ 60))
 else
 some false)
 else
 (if ((x_1.Conf.length : Int) == 0) = true then
 (if (decide (x_1.Data = (⟨#[]⟩ : ByteArray))) = true then
 some (!x_1.Last)
 else
 some false)
 else
 some false))) fun j_648 =>
 (spec_MessageOk_l1 N x_1 N x_1.LogTerm 0).bind (Sum.elim (fun v_721 => some v_721) (fun (v_722 : Unit) => j_648 ()))) fun j_509 =>
 (if (decide ((x_1.Entries.length : Int) > 4)) = true then
 some false
 else
 (if (decide ((x_1.Entries.length : Int) > 0)) = true then
 (if (x_1.Kind != 3) = true then
 some false
 else
 j_509 ())
 else
 j_509 ()))))))))))
theorem sem_spec_MessageOk (N : Nat) (x_1 : Message) (r : Bool) (h : spec_MessageOk N x_1 = some r) : Says Try.prog 179 [.agg [VI x_1.Kind,VI x_1.From,VI x_1.To,VI x_1.Term,VI x_1.Index,VI x_1.LogTerm,VI x_1.Commit,VB x_1.Ok,RO 51 (x_1.Entries.map encEntry),RO 3 (x_1.Conf.map encI),VS x_1.Data,VB x_1.Last]] 0 [] (VB r) [] := by
 unfold spec_MessageOk at h
 refine Says.of_run s179 Try.call179 rfl fun B hB => ?_
 have hm : B.m ≤ 1000 := by omega
 refine Run.seq (Run.ops hm (Ops.st (s := 1000) (.bx rfl rfl) rfl rfl (Ops.p rfl (Ops.nil (Run.seq (Run.seq (Run.ops hm (.p2 rfl rfl ?_))))))))
 obtain ⟨y_467,hy_467,h⟩ := bindO h
 refine Ops.st (s := 5128) (Ev.call [] [] 0 (sem_spec_l01In _ _ _ _ _ hy_467) rfl rfl (.d2 (.d1 .nil)) rfl (.inl rfl) rfl rfl) rfl rfl (.p2 rfl rfl (Ops.askO (x := .t 9) rfl h (fun g_468 h => ?_) (fun g_468 h => ?_)))
 ·refine Ops.gn rfl g_468 (Ops.gn rfl g_468 (Ops.gn rfl g_468 (Ops.gn rfl g_468 (Ops.st (s := 5240) (.pkT rfl g_468 rfl) rfl rfl (Ops.p rfl (Ops.gn rfl rfl (Ops.gn rfl rfl (Ops.gn rfl rfl (Ops.gn rfl rfl (Ops.st (s := 5336) (.pkT rfl rfl rfl) rfl rfl (Ops.p rfl (Ops.gn rfl rfl (Ops.gn rfl rfl (Ops.gn rfl rfl (Ops.gn rfl rfl (Ops.gn rfl rfl (Ops.st (s := 5448) (.pkT rfl rfl rfl) rfl rfl (Ops.nil (Run.condT rfl rfl (Run.seq (Run.ops hm (Ops.p rfl (Ops.nil (Run.ret ?_))))))))))))))))))))))))
  obtain rfl := someO h
  exact Ends.mkG (.inl rfl) rfl (gh_pk [0] [] hB rfl rfl rfl rfl) rfl rfl
 ·refine Ops.gp rfl g_468 rfl (Ops.gp rfl g_468 rfl ?_)
  obtain ⟨y_469,hy_469,h⟩ := bindO h
  refine Ops.gs (s := 5208) rfl g_468 (Ev.call [] [] 0 (sem_spec_l01In _ _ _ _ _ hy_469) rfl rfl (.d2 (.d1 .nil)) rfl (.inl rfl) rfl rfl) rfl rfl (Ops.gp rfl g_468 rfl (Ops.st (s := 5240) (.pkF rfl g_468 rfl) rfl rfl (Ops.p rfl (Ops.askO (x := .t 15) rfl h (fun g_470 h => ?_) (fun g_470 h => ?_)))))
  ·refine Ops.gn rfl g_470 (Ops.gn rfl g_470 (Ops.gn rfl g_470 (Ops.gn rfl g_470 (Ops.st (s := 5336) (.pkT rfl g_470 rfl) rfl rfl (Ops.p rfl (Ops.gn rfl rfl (Ops.gn rfl rfl (Ops.gn rfl rfl (Ops.gn rfl rfl (Ops.gn rfl rfl (Ops.st (s := 5448) (.pkT rfl rfl rfl) rfl rfl (Ops.nil (Run.condT rfl rfl (Run.seq (Run.ops hm (Ops.p rfl (Ops.nil (Run.ret ?_))))))))))))))))))
   obtain rfl := someO h
   exact Ends.mkG (.inl rfl) rfl (gh_pk [0] [] hB rfl rfl rfl rfl) rfl rfl
  ·refine Ops.gp rfl g_470 rfl (Ops.gp rfl g_470 rfl ?_)
   obtain ⟨y_471,hy_471,h⟩ := bindO h
   refine Ops.gs (s := 5304) rfl g_470 (Ev.call [] [] 0 (sem_spec_l01In _ _ _ _ _ hy_471) rfl rfl (.d2 (.d1 .nil)) rfl (.inl rfl) rfl rfl) rfl rfl (Ops.gp rfl g_470 rfl (Ops.st (s := 5336) (.pkF rfl g_470 rfl) rfl rfl (Ops.p rfl (Ops.askO (x := .t 21) rfl h (fun g_472 h => ?_) (fun g_472 h => ?_)))))
   ·refine Ops.gn rfl g_472 (Ops.gn rfl g_472 (Ops.gn rfl g_472 (Ops.gn rfl g_472 (Ops.gn rfl g_472 (Ops.st (s := 5448) (.pkT rfl g_472 rfl) rfl rfl (Ops.nil (Run.condT rfl rfl (Run.seq (Run.ops hm (Ops.p rfl (Ops.nil (Run.ret ?_))))))))))))
    obtain rfl := someO h
    exact Ends.mkG (.inl rfl) rfl (gh_pk [0] [] hB rfl rfl rfl rfl) rfl rfl
   ·refine Ops.gp rfl g_472 rfl (Ops.gp rfl g_472 rfl (Ops.gp rfl g_472 rfl (Ops.gp rfl g_472 rfl (Ops.gp rfl g_472 rfl (Ops.st (s := 5448) (.pkF rfl g_472 rfl) rfl rfl (Ops.nil (Run.condO rfl h (fun g_473 h => ?_) (fun g_473 h => ?_))))))))
    ·refine Run.seq (Run.ops hm (Ops.p rfl (Ops.nil (Run.ret ?_))))
     obtain rfl := someO h
     exact Ends.mkG (.inl rfl) rfl (gh_pk [0] [] hB rfl rfl rfl rfl) rfl rfl
    ·refine Run.skip (Run.seq (Run.seq (Run.ops hm (.p2 rfl rfl ?_))))
     obtain ⟨y_496,hy_496,h⟩ := bindO h
     refine Ops.st (s := 13320) (Ev.call [] [] 0 (sem_spec_l01In _ _ _ _ _ hy_496) rfl rfl (.d2 (.d1 .nil)) rfl (.inl rfl) rfl rfl) rfl rfl (.p2 rfl rfl (Ops.askO (x := .t 32) rfl h (fun g_497 h => ?_) (fun g_497 h => ?_)))
     ·refine Ops.gn rfl g_497 (Ops.gn rfl g_497 (Ops.gn rfl g_497 (Ops.gn rfl g_497 (Ops.st (s := 13432) (.pkT rfl g_497 rfl) rfl rfl (Ops.p rfl (Ops.gn rfl rfl (Ops.gn rfl rfl (Ops.gn rfl rfl (Ops.gn rfl rfl (Ops.st (s := 13528) (.pkT rfl rfl rfl) rfl rfl (Ops.p rfl (Ops.gn rfl rfl (Ops.gn rfl rfl (Ops.gn rfl rfl (Ops.gn rfl rfl (Ops.st (s := 13624) (.pkT rfl rfl rfl) rfl rfl (Ops.nil (Run.condT rfl rfl (Run.seq (Run.ops hm (Ops.p rfl (Ops.nil (Run.ret ?_)))))))))))))))))))))))
      obtain rfl := someO h
      exact Ends.mkG (.inl rfl) rfl (gh_pk [0] [] hB rfl rfl rfl rfl) rfl rfl
     ·refine Ops.gp rfl g_497 rfl (Ops.gp rfl g_497 rfl ?_)
      obtain ⟨y_498,hy_498,h⟩ := bindO h
      refine Ops.gs (s := 13400) rfl g_497 (Ev.call [] [] 0 (sem_spec_l01In _ _ _ _ _ hy_498) rfl rfl (.d2 (.d1 .nil)) rfl (.inl rfl) rfl rfl) rfl rfl (Ops.gp rfl g_497 rfl (Ops.st (s := 13432) (.pkF rfl g_497 rfl) rfl rfl (Ops.p rfl (Ops.askO (x := .t 38) rfl h (fun g_499 h => ?_) (fun g_499 h => ?_)))))
      ·refine Ops.gn rfl g_499 (Ops.gn rfl g_499 (Ops.gn rfl g_499 (Ops.gn rfl g_499 (Ops.st (s := 13528) (.pkT rfl g_499 rfl) rfl rfl (Ops.p rfl (Ops.gn rfl rfl (Ops.gn rfl rfl (Ops.gn rfl rfl (Ops.gn rfl rfl (Ops.st (s := 13624) (.pkT rfl rfl rfl) rfl rfl (Ops.nil (Run.condT rfl rfl (Run.seq (Run.ops hm (Ops.p rfl (Ops.nil (Run.ret ?_)))))))))))))))))
       obtain rfl := someO h
       exact Ends.mkG (.inl rfl) rfl (gh_pk [0] [] hB rfl rfl rfl rfl) rfl rfl
      ·refine Ops.gp rfl g_499 rfl (Ops.gp rfl g_499 rfl ?_)
       obtain ⟨y_500,hy_500,h⟩ := bindO h
       refine Ops.gs (s := 13496) rfl g_499 (Ev.call [] [] 0 (sem_spec_l01In _ _ _ _ _ hy_500) rfl rfl (.d2 (.d1 .nil)) rfl (.inl rfl) rfl rfl) rfl rfl (Ops.gp rfl g_499 rfl (Ops.st (s := 13528) (.pkF rfl g_499 rfl) rfl rfl (Ops.p rfl (Ops.askO (x := .t 44) rfl h (fun g_501 h => ?_) (fun g_501 h => ?_)))))
       ·refine Ops.gn rfl g_501 (Ops.gn rfl g_501 (Ops.gn rfl g_501 (Ops.gn rfl g_501 (Ops.st (s := 13624) (.pkT rfl g_501 rfl) rfl rfl (Ops.nil (Run.condT rfl rfl (Run.seq (Run.ops hm (Ops.p rfl (Ops.nil (Run.ret ?_)))))))))))
        obtain rfl := someO h
        exact Ends.mkG (.inl rfl) rfl (gh_pk [0] [] hB rfl rfl rfl rfl) rfl rfl
       ·refine Ops.gp rfl g_501 rfl (Ops.gp rfl g_501 rfl ?_)
        obtain ⟨y_502,hy_502,h⟩ := bindO h
        refine Ops.gs (s := 13592) rfl g_501 (Ev.call [] [] 0 (sem_spec_l01In _ _ _ _ _ hy_502) rfl rfl (.d2 (.d1 .nil)) rfl (.inl rfl) rfl rfl) rfl rfl (Ops.gp rfl g_501 rfl (Ops.st (s := 13624) (.pkF rfl g_501 rfl) rfl rfl (Ops.nil (Run.condO rfl h (fun g_503 h => ?_) (fun g_503 h => ?_)))))
        ·refine Run.seq (Run.ops hm (Ops.p rfl (Ops.nil (Run.ret ?_))))
         obtain rfl := someO h
         exact Ends.mkG (.inl rfl) rfl (gh_pk [0] [] hB rfl rfl rfl rfl) rfl rfl
        ·refine Run.skip (Run.seqO h (fun v_509 => [(1,.ptr 0 0)]) (fun (v_509 : Unit) => [(0,.box [VI x_1.Kind,VI x_1.From,VI x_1.To,VI x_1.Term,VI x_1.Index,VI x_1.LogTerm,VI x_1.Commit,VB x_1.Ok,RO 51 (x_1.Entries.map encEntry),RO 3 (x_1.Conf.map encI),VS x_1.Data,VB x_1.Last])]) (fun h => ?_) (fun v_509 h => ?_))
         ·refine Run.seq (Run.ops hm (.p2 rfl rfl (Ops.st (s := 21512) (Ev.lnF rfl) rfl rfl (.p2 rfl rfl (Ops.askO (x := .t 54) rfl h (fun g_512 h => ?_) (fun g_512 h => ?_))))))
          ·refine Ops.gn rfl g_512 (Ops.gn rfl g_512 (Ops.gn rfl g_512 (Ops.gn rfl g_512 (Ops.gn rfl g_512 (Ops.gu rfl (Ops.gu rfl (Ops.gu rfl (Ops.gn rfl g_512 (Ops.st (s := 21704) (.pkT rfl g_512 rfl) rfl rfl (Ops.nil (Run.condT rfl rfl (Run.seq (Run.ops hm (Ops.p rfl (Ops.nil (Run.ret ?_))))))))))))))))
           obtain rfl := someO h
           exact Ends.mkG (.inl rfl) rfl (gh_pk [0] [] hB rfl rfl rfl rfl) rfl rfl
          ·refine Ops.gp rfl g_512 rfl (Ops.gp rfl g_512 rfl (Ops.gs (s := 21592) rfl g_512 (Ev.lnF rfl) rfl rfl (Ops.gp rfl g_512 rfl (Ops.gp rfl g_512 rfl (Ops.askO (x := .t 59) rfl h (fun g_513 h => ?_) (fun g_513 h => ?_))))))
           ·refine Ops.gp rfl g_513 rfl (Ops.gp rfl g_513 rfl (Ops.gp rfl g_513 rfl (Ops.gs (s := 21688) rfl g_512 (.pkT rfl g_513 rfl) rfl rfl (Ops.st (s := 21704) (.pkF rfl g_512 rfl) rfl rfl (Ops.nil (Run.condO rfl h (fun g_514 h => ?_) (fun g_514 h => ?_)))))))
            ·refine Run.seq (Run.ops hm (Ops.p rfl (Ops.nil (Run.ret ?_))))
             obtain rfl := someO h
             exact Ends.mkG (.inl rfl) rfl (gh_pk [0] [] hB rfl rfl rfl rfl) rfl rfl
            ·exact Run.skip (⟨_,_,(gh_pk [1] [1000] hB rfl rfl rfl rfl),(),h,rfl,rfl⟩)
           ·exact Ops.gn rfl g_513 (Ops.gn rfl g_513 (Ops.gn rfl g_513 (Ops.gs (s := 21688) rfl g_512 (.pkF rfl g_513 rfl) rfl rfl (Ops.st (s := 21704) (.pkF rfl g_512 rfl) rfl rfl (Ops.nil (Run.condF rfl rfl (Run.skip (⟨_,_,(gh_pk [1] [1000] hB rfl rfl rfl rfl),(),h,rfl,rfl⟩))))))))
         ·refine Run.seq (Run.ops hm (.p3 rfl rfl rfl (Ops.nil (Run.seqO h (fun v_648 => [(1,.ptr 0 0)]) (fun (v_648 : Unit) => [(0,.box [VI x_1.Kind,VI x_1.From,VI x_1.To,VI x_1.Term,VI x_1.Index,VI x_1.LogTerm,VI x_1.Commit,VB x_1.Ok,RO 51 (x_1.Entries.map encEntry),RO 3 (x_1.Conf.map encI),VS x_1.Data,VB x_1.Last])]) (fun h => ?_) (fun v_648 h => ?_)))))
          ·refine Run.seq (Run.ops hm (Ops.p rfl (Ops.nil (Run.block ?_))))
           obtain ⟨res_722,h,hk_722⟩ := bindO h
           refine Run.loop (n := N) (fun m_722 fr σ => ∃ (x_649 : Int),∃ (x_650 : Int),spec_MessageOk_l1 N x_1 m_722 x_649 x_650 = some res_722 ∧ fr = [(1,.ptr 0 0),(3,VI x_649),(4,VI x_650)] ∧ σ = [(0,.box [VI x_1.Kind,VI x_1.From,VI x_1.To,VI x_1.Term,VI x_1.Index,VI x_1.LogTerm,VI x_1.Commit,VB x_1.Ok,RO 51 (x_1.Entries.map encEntry),RO 3 (x_1.Conf.map encI),VS x_1.Data,VB x_1.Last])]) (gh_pk [1,3,4] [0] hB rfl rfl rfl rfl) ⟨_,_,h,rfl,rfl⟩ ?_
           rintro m_722 fr σ ⟨x_649,x_650,h,rfl,rfl⟩
           obtain _ | m_722 := m_722
           ·rw [spec_MessageOk_l1] at h; cases h
           rw [spec_MessageOk_l1] at h
           refine Run.seq (Run.seq (Run.ops hm (.p3 rfl rfl rfl (Ops.st (s := 37912) (Ev.lnF rfl) rfl rfl (Ops.p rfl (Ops.nil (Run.condO rfl h (fun g_725 h => ?_) (fun g_725 h => ?_))))))))
           ·refine Run.skip (Run.seq (Run.block (Run.seq (Run.seq (Run.draw hm hmix (OpsD.p rfl (OpsD.p rfl (OpsD.p rfl ?_))))))))
            obtain ⟨x_773,hx_773,h⟩ := bindO h
            refine OpsD.st (s := 46104) (Ev.iaF rfl rfl hx_773) rfl rfl (OpsD.p rfl ?_)
            obtain ⟨y_774,hy_774,h⟩ := bindO h
            refine OpsD.st (s := 46136) (Ev.call [] [] 0 (sem_spec_EntryOk _ _ _ hy_774) rfl rfl (.cons (.agg (.d2 (.d1 .nil))) .nil) rfl (.inl rfl) rfl rfl) rfl rfl (OpsD.p rfl (OpsD.p rfl (OpsD.askO (x := .t 81) rfl h (fun g_775 h => ?_) (fun g_775 h => ?_))))
            ·refine OpsD.gn rfl g_775 (OpsD.gn rfl g_775 (OpsD.gn rfl g_775 (OpsD.gn rfl g_775 (OpsD.gn rfl g_775 (OpsD.gn rfl g_775 (OpsD.gn rfl g_775 (OpsD.gn rfl g_775 (OpsD.st (s := 46312) (.pkT rfl g_775 rfl) rfl rfl (OpsD.p rfl (OpsD.gn rfl rfl (OpsD.gn rfl rfl (OpsD.gn rfl rfl (OpsD.gn rfl rfl (OpsD.gn rfl rfl (OpsD.gn rfl rfl (OpsD.gn rfl rfl (OpsD.gn rfl rfl (OpsD.gn rfl rfl (OpsD.st (s := 46488) (.pkT rfl rfl rfl) rfl rfl (OpsD.nil ⟨by kernel_rfl,?_⟩))))))))))))))))))))
             refine Run.condT rfl rfl (Run.seq (Run.ops hm (Ops.p rfl (Ops.nil (Run.ret ?_)))))
             obtain rfl := someO h
             have h := hk_722
             replace h := inlO h
             obtain rfl := someO h
             exact Ends.mkG (.inl rfl) rfl (gh_pk [0] [] hB rfl rfl rfl rfl) rfl rfl
            ·refine OpsD.gp rfl g_775 rfl (OpsD.gp rfl g_775 rfl (OpsD.gp rfl g_775 rfl ?_))
             obtain ⟨x_776,hx_776,h⟩ := bindO h
             refine OpsD.gs (s := 46232) rfl g_775 (Ev.iaF rfl rfl hx_776) rfl rfl (OpsD.gp rfl g_775 rfl (OpsD.gp rfl g_775 rfl (OpsD.gp rfl g_775 rfl (OpsD.gp rfl g_775 rfl (OpsD.st (s := 46312) (.pkF rfl g_775 rfl) rfl rfl (OpsD.p rfl (OpsD.askO (x := .t 91) rfl h (fun g_777 h => ?_) (fun g_777 h => ?_))))))))
             ·refine OpsD.gn rfl g_777 (OpsD.gn rfl g_777 (OpsD.gn rfl g_777 (OpsD.gn rfl g_777 (OpsD.gn rfl g_777 (OpsD.gn rfl g_777 (OpsD.gn rfl g_777 (OpsD.gn rfl g_777 (OpsD.gn rfl g_777 (OpsD.st (s := 46488) (.pkT rfl g_777 rfl) rfl rfl (OpsD.nil ⟨by kernel_rfl,?_⟩))))))))))
              refine Run.condT rfl rfl (Run.seq (Run.ops hm (Ops.p rfl (Ops.nil (Run.ret ?_)))))
              obtain rfl := someO h
              have h := hk_722
              replace h := inlO h
              obtain rfl := someO h
              exact Ends.mkG (.inl rfl) rfl (gh_pk [0] [] hB rfl rfl rfl rfl) rfl rfl
             ·refine OpsD.gp rfl g_777 rfl (OpsD.gp rfl g_777 rfl (OpsD.gp rfl g_777 rfl ?_))
              obtain ⟨x_778,hx_778,h⟩ := bindO h
              refine OpsD.gs (s := 46392) rfl g_777 (Ev.iaF rfl rfl hx_778) rfl rfl (OpsD.gp rfl g_777 rfl (OpsD.gp rfl g_777 rfl (OpsD.gp rfl g_777 rfl (OpsD.gp rfl g_777 rfl (OpsD.gp rfl g_777 rfl (OpsD.st (s := 46488) (.pkF rfl g_777 rfl) rfl rfl (OpsD.nil ⟨by kernel_rfl,?_⟩)))))))
              refine Run.condO rfl h (fun g_779 h => ?_) (fun g_779 h => ?_)
              ·refine Run.seq (Run.ops hm (Ops.p rfl (Ops.nil (Run.ret ?_))))
               obtain rfl := someO h
               have h := hk_722
               replace h := inlO h
               obtain rfl := someO h
               exact Ends.mkG (.inl rfl) rfl (gh_pk [0] [] hB rfl rfl rfl rfl) rfl rfl
              ·refine Run.skip (Run.ops hm (.p3 rfl rfl rfl ?_))
               obtain ⟨x_781,hx_781,h⟩ := bindO h
               exact Ops.st (s := 54296) (Ev.iaF rfl rfl hx_781) rfl rfl (.p3 rfl rfl rfl (Ops.nil (Run.ops hm (.p3 rfl rfl rfl (Ops.nil (⟨m_722,Nat.lt_succ_self m_722,_,_,(gh_pk [1,3,4] [0] hB rfl rfl rfl rfl),_,_,h,rfl,rfl⟩))))))
           ·refine Run.exit ?_
            obtain rfl := someO h
            have h := hk_722
            replace h := inrO h
            exact ⟨_,_,(gh_pk [1] [0] hB rfl rfl rfl rfl),(),h,rfl,rfl⟩
          ·refine Run.seq (Run.seq (Run.ops hm (.p3 rfl rfl rfl (Ops.nil (Run.condO rfl h (fun g_787 h => ?_) (fun g_787 h => ?_))))))
           ·refine Run.seq (Run.ops hm (.p2 rfl rfl ?_))
            obtain ⟨y_790,hy_790,h⟩ := bindO h
            refine Ops.st (s := 62472) (Ev.call [] [] 0 (sem_spec_ConfOk _ _ _ hy_790) rfl rfl (.d1 .nil) rfl (.inl rfl) rfl rfl) rfl rfl (Ops.p rfl (Ops.askO (x := .t 114) rfl h (fun g_791 h => ?_) (fun g_791 h => ?_)))
            ·refine Ops.gp rfl g_791 rfl (Ops.gp rfl g_791 rfl (Ops.gp rfl g_791 rfl (Ops.gp rfl g_791 rfl (Ops.st (s := 62568) (.pkT rfl g_791 rfl) rfl rfl (Ops.p rfl (Ops.nil (Run.ret ?_)))))))
             obtain rfl := someO h
             exact Ends.mkG (.inl rfl) rfl (gh_pk [0] [] hB rfl rfl rfl rfl) rfl rfl
            ·refine Ops.gn rfl g_791 (Ops.gn rfl g_791 (Ops.gn rfl g_791 (Ops.gn rfl g_791 (Ops.st (s := 62568) (.pkF rfl g_791 rfl) rfl rfl (Ops.p rfl (Ops.nil (Run.ret ?_)))))))
             obtain rfl := someO h
             exact Ends.mkG (.inl rfl) rfl (gh_pk [0] [] hB rfl rfl rfl rfl) rfl rfl
           ·refine Run.skip (Run.seq (Run.ops hm (.p2 rfl rfl (Ops.st (s := 66568) (Ev.lnF rfl) rfl rfl (.p2 rfl rfl (Ops.askO (x := .t 124) rfl h (fun g_794 h => ?_) (fun g_794 h => ?_)))))))
            ·refine Ops.gp rfl g_794 rfl (Ops.gp rfl g_794 rfl (Ops.gp rfl g_794 rfl (Ops.st (s := 66664) (.pkT rfl g_794 rfl) rfl rfl (Ops.p rfl (Ops.askO (x := .t 129) rfl h (fun g_795 h => ?_) (fun g_795 h => ?_))))))
             ·refine Ops.gp rfl g_795 rfl (Ops.gp rfl g_795 rfl (Ops.gp rfl g_795 rfl (Ops.st (s := 66744) (.pkT rfl g_795 rfl) rfl rfl (Ops.p rfl (Ops.nil (Run.ret ?_))))))
              obtain rfl := someO h
              exact Ends.mkG (.inl rfl) rfl (gh_pk [0] [] hB rfl rfl rfl rfl) rfl rfl
             ·refine Ops.gn rfl g_795 (Ops.gn rfl g_795 (Ops.gn rfl g_795 (Ops.st (s := 66744) (.pkF rfl g_795 rfl) rfl rfl (Ops.p rfl (Ops.nil (Run.ret ?_))))))
              obtain rfl := someO h
              exact Ends.mkG (.inl rfl) rfl (gh_pk [0] [] hB rfl rfl rfl rfl) rfl rfl
            ·refine Ops.gn rfl g_794 (Ops.gn rfl g_794 (Ops.gn rfl g_794 (Ops.st (s := 66664) (.pkF rfl g_794 rfl) rfl rfl (Ops.p rfl (Ops.gn rfl rfl (Ops.gn rfl rfl (Ops.gn rfl rfl (Ops.st (s := 66744) (.pkF rfl rfl rfl) rfl rfl (Ops.p rfl (Ops.nil (Run.ret ?_)))))))))))
             obtain rfl := someO h
             exact Ends.mkG (.inl rfl) rfl (gh_pk [0] [] hB rfl rfl rfl rfl) rfl rfl
def spec_l16Follow_i1 (N : Nat) (x_1 : Tl16Run) (x_2 : Int) : Option (Tl16Run) :=
 some (Tl16Run.mk (Node.mk x_1.n.Id x_1.n.Term x_1.n.Vote 0 x_2 x_1.n.Conf x_1.n.Log x_1.n.Commit x_1.n.Clock x_1.n.Limit ([] : List Int) ([] : List Peer)) ([]))
theorem sem_spec_l16Follow_i1 (N : Nat) (x_1 : Tl16Run) (x_2 : Int) (r : Tl16Run) (h : spec_l16Follow_i1 N x_1 x_2 = some r) : Says Try.prog 155 [.ptr 0 0,VI x_2] 5 [(0,.box [VI x_1.n.Id,VI x_1.n.Term,VI x_1.n.Vote,VI x_1.n.Role,VI x_1.n.Lead,.sl 1 3 0 x_1.n.Conf.length,VI x_1.n.Log.Start,VI x_1.n.Log.StartTerm,.sl 2 51 0 x_1.n.Log.Entries.length,VI x_1.n.Commit,VI x_1.n.Clock,VI x_1.n.Limit,.sl 3 3 0 x_1.n.Votes.length,.sl 4 135 0 x_1.n.Peers.length,NI 58]),(1,.vec 3 (x_1.n.Conf.map encI)),(2,.vec 51 (x_1.n.Log.Entries.map encEntry)),(3,.vec 3 (x_1.n.Votes.map encI)),(4,.vec 135 (x_1.n.Peers.map encPeer))] (.tup []) [(0,.box [VI r.n.Id,VI r.n.Term,VI r.n.Vote,VI r.n.Role,VI r.n.Lead,.sl 1 3 0 x_1.n.Conf.length,VI r.n.Log.Start,VI r.n.Log.StartTerm,.sl 2 51 0 x_1.n.Log.Entries.length,VI r.n.Commit,VI r.n.Clock,VI r.n.Limit,.sl 5 3 0 r.n.Votes.length,.sl 6 135 0 r.n.Peers.length,.sl 7 58 0 r.told.length]),(1,.vec 3 (x_1.n.Conf.map encI)),(2,.vec 51 (x_1.n.Log.Entries.map encEntry)),(3,.gone),(4,.gone),(5,.vec 3 (r.n.Votes.map encI)),(6,.vec 135 (r.n.Peers.map encPeer)),(7,.vec 58 (r.told.map (encMessage false)))] := by
 unfold spec_l16Follow_i1 at h
 refine Says.of_run s155 Try.call155 rfl fun B hB => ?_
 have hm : B.m ≤ 1000 := by omega
 refine Run.seq (Run.ops hm (.p3 rfl rfl rfl (Ops.p rfl (Ops.s0 (s := 1064) (.sto rfl rfl rfl rfl rfl rfl) rfl rfl (Ops.nil (Run.seq (Run.ops hm (.p3 rfl rfl rfl (.p2 rfl rfl (Ops.s0 (s := 5176) (.sto rfl rfl rfl rfl rfl rfl) rfl rfl (Ops.nil (Run.seq (Run.ops hm (Ops.p rfl (Ops.st (s := 9208) (Ev.bsW (ys := ([] : List Int)) (f := encI) rfl .nil rfl rfl rfl rfl rfl) rfl rfl (.p3 rfl rfl rfl (Ops.s0 (s := 9272) (.sto rfl rfl rfl rfl rfl rfl) rfl rfl (Ops.nil (Run.ops hm (Ops.p rfl (Ops.st (s := 13304) (Ev.bsW (ys := ([] : List Peer)) (f := encPeer) rfl .nil rfl rfl rfl rfl rfl) rfl rfl (.p3 rfl rfl rfl (Ops.s0 (s := 13368) (.sto rfl rfl rfl rfl rfl rfl) rfl rfl (Ops.nil ?_))))))))))))))))))))))))
 obtain rfl := someO h
 exact Ends.mkG (.inr rfl) rfl (Gh.trans (Gh.trans (Gh.trans (gh_prn [] [0,1,2,3,4,9208,13304] hB rfl) (gh_mvE [] [3,4] hB rfl rfl)) (gh_nil [] [0] hB rfl rfl rfl)) (gh_pk [] [0,1,2,3,4,9208,13304,20000000] hB rfl rfl rfl rfl)) rfl rfl
def spec_l16AskVote (N : Nat) (x_1 : Tl16Run) (x_2 : Message) : Option (Tl16Run) :=
 (spec_LogLast N x_1.n.Log).bind fun y_134 =>
 joinP (fun (v_139 : Bool) =>
 joinP (fun (v_150 : Bool) =>
 joinP (fun (v_158 : Int × Int) =>
 (spec_l16Tell N (Tl16Run.mk (Node.mk x_1.n.Id x_1.n.Term v_158.1 x_1.n.Role x_1.n.Lead x_1.n.Conf x_1.n.Log x_1.n.Commit v_158.2 x_1.n.Limit x_1.n.Votes x_1.n.Peers) x_1.told) (Message.mk 2 0 x_2.From 0 0 0 0 v_150 ([]) ([]) (⟨#[]⟩ : ByteArray) false)).bind fun y_161 =>
 some (Tl16Run.mk (Node.mk y_161.n.Id y_161.n.Term y_161.n.Vote y_161.n.Role y_161.n.Lead x_1.n.Conf (Log.mk y_161.n.Log.Start y_161.n.Log.StartTerm x_1.n.Log.Entries) y_161.n.Commit y_161.n.Clock y_161.n.Limit x_1.n.Votes x_1.n.Peers) y_161.told)) fun j_158 =>
 (if v_150 = true then
 j_158 (x_2.From,0)
 else
 j_158 (x_1.n.Vote,x_1.n.Clock))) fun j_150 =>
 (if (x_2.Term == x_1.n.Term) = true then
 (if (x_1.n.Vote == 0) = true then
 j_150 v_139
 else
 (if (x_1.n.Vote == x_2.From) = true then
 j_150 v_139
 else
 j_150 false))
 else
 j_150 false)) fun j_139 =>
 (if (decide (x_2.LogTerm > y_134.2)) = true then
 j_139 true
 else
 (if (x_2.LogTerm == y_134.2) = true then
 j_139 (decide (x_2.Index ≥ y_134.1))
 else
 j_139 false))
theorem sem_spec_l16AskVote (N : Nat) (x_1 : Tl16Run) (x_2 : Message) (r : Tl16Run) (h : spec_l16AskVote N x_1 x_2 = some r) : Says Try.prog 180 [.ptr 0 0,.agg [VI x_2.Kind,VI x_2.From,VI x_2.To,VI x_2.Term,VI x_2.Index,VI x_2.LogTerm,VI x_2.Commit,VB x_2.Ok,RO 51 (x_2.Entries.map encEntry),RO 3 (x_2.Conf.map encI),VS x_2.Data,VB x_2.Last]] 6 [(0,.box [VI x_1.n.Id,VI x_1.n.Term,VI x_1.n.Vote,VI x_1.n.Role,VI x_1.n.Lead,.sl 1 3 0 x_1.n.Conf.length,VI x_1.n.Log.Start,VI x_1.n.Log.StartTerm,.sl 2 51 0 x_1.n.Log.Entries.length,VI x_1.n.Commit,VI x_1.n.Clock,VI x_1.n.Limit,.sl 3 3 0 x_1.n.Votes.length,.sl 4 135 0 x_1.n.Peers.length,.sl 5 58 0 x_1.told.length]),(1,.vec 3 (x_1.n.Conf.map encI)),(2,.vec 51 (x_1.n.Log.Entries.map encEntry)),(3,.vec 3 (x_1.n.Votes.map encI)),(4,.vec 135 (x_1.n.Peers.map encPeer)),(5,.vec 58 (x_1.told.map (encMessage false)))] (.tup []) [(0,.box [VI r.n.Id,VI r.n.Term,VI r.n.Vote,VI r.n.Role,VI r.n.Lead,.sl 1 3 0 x_1.n.Conf.length,VI r.n.Log.Start,VI r.n.Log.StartTerm,.sl 2 51 0 x_1.n.Log.Entries.length,VI r.n.Commit,VI r.n.Clock,VI r.n.Limit,.sl 3 3 0 x_1.n.Votes.length,.sl 4 135 0 x_1.n.Peers.length,.sl 6 58 0 r.told.length]),(1,.vec 3 (x_1.n.Conf.map encI)),(2,.vec 51 (x_1.n.Log.Entries.map encEntry)),(3,.vec 3 (x_1.n.Votes.map encI)),(4,.vec 135 (x_1.n.Peers.map encPeer)),(5,.gone),(6,.vec 58 (r.told.map (encMessage false)))] := by
 unfold spec_l16AskVote at h
 refine Says.of_run s180 Try.call180 rfl fun B hB => ?_
 have hm : B.m ≤ 1000 := by omega
 refine Run.seq (Run.ops hm (Ops.st (s := 1000) (.bx rfl rfl) rfl rfl (Ops.nil (Run.seq (Run.ops hm (.p3 rfl rfl rfl (.p2 rfl rfl ?_)))))))
 obtain ⟨y_134,hy_134,h⟩ := bindO h
 refine Ops.st (s := 5176) (Ev.call [] [2] 0 (sem_spec_LogLast _ _ _ hy_134) rfl rfl (.cons (.agg (.d2 (.cons (.borrow rfl (by decide) (lendW (fun _ => rfl) _ rfl)) .nil))) .nil) rfl (.inr ⟨rfl,ownL_root trivial⟩) rfl rfl) rfl rfl ?_
 refine Ops.p rfl (.p3 rfl rfl rfl (Ops.p rfl (Ops.nil (Run.seqO h (fun v_139 => [(0,.ptr 0 0),(3,.ptr 6 0),(6,VB v_139)]) (fun (v_139 : Bool) => [(0,.box [VI x_1.n.Id,VI x_1.n.Term,VI x_1.n.Vote,VI x_1.n.Role,VI x_1.n.Lead,.sl 1 3 0 x_1.n.Conf.length,VI x_1.n.Log.Start,VI x_1.n.Log.StartTerm,.sl 2 51 0 x_1.n.Log.Entries.length,VI x_1.n.Commit,VI x_1.n.Clock,VI x_1.n.Limit,.sl 3 3 0 x_1.n.Votes.length,.sl 4 135 0 x_1.n.Peers.length,.sl 5 58 0 x_1.told.length]),(1,.vec 3 (x_1.n.Conf.map encI)),(2,.vec 51 (x_1.n.Log.Entries.map encEntry)),(3,.vec 3 (x_1.n.Votes.map encI)),(4,.vec 135 (x_1.n.Peers.map encPeer)),(5,.vec 58 (x_1.told.map (encMessage false))),(6,.box [VI x_2.Kind,VI x_2.From,VI x_2.To,VI x_2.Term,VI x_2.Index,VI x_2.LogTerm,VI x_2.Commit,VB x_2.Ok,RO 51 (x_2.Entries.map encEntry),RO 3 (x_2.Conf.map encI),VS x_2.Data,VB x_2.Last])]) (fun h => ?_) (fun v_139 h => ?_)))))
 ·refine Run.ops hm (.p3 rfl rfl rfl (.p2 rfl rfl (Ops.askO (x := .t 21) rfl h (fun g_142 h => ?_) (fun g_142 h => ?_))))
  ·exact Ops.gn rfl g_142 (Ops.gn rfl g_142 (Ops.gn rfl g_142 (Ops.gn rfl g_142 (Ops.gn rfl g_142 (Ops.gu rfl (Ops.gu rfl (Ops.gu rfl (Ops.gu rfl (Ops.gn rfl g_142 (Ops.st (s := 9432) (.pkT rfl g_142 rfl) rfl rfl (Ops.p rfl (Ops.nil (⟨_,_,(gh_pk [0,3,6] [0,1,2,3,4,5,1000] hB rfl rfl rfl rfl),_,h,rfl,rfl⟩)))))))))))))
  ·refine Ops.gp rfl g_142 rfl (Ops.gp rfl g_142 rfl (Ops.gp rfl g_142 rfl (Ops.gp rfl g_142 rfl (Ops.gp rfl g_142 rfl (Ops.askO (x := .t 26) rfl h (fun g_143 h => ?_) (fun g_143 h => ?_))))))
   ·exact Ops.gp rfl g_143 rfl (Ops.gp rfl g_143 rfl (Ops.gp rfl g_143 rfl (Ops.gp rfl g_143 rfl (Ops.gs (s := 9416) rfl g_142 (.pkT rfl g_143 rfl) rfl rfl (Ops.st (s := 9432) (.pkF rfl g_142 rfl) rfl rfl (Ops.p rfl (Ops.nil (⟨_,_,(gh_pk [0,3,6] [0,1,2,3,4,5,1000] hB rfl rfl rfl rfl),_,h,rfl,rfl⟩))))))))
   ·exact Ops.gn rfl g_143 (Ops.gn rfl g_143 (Ops.gn rfl g_143 (Ops.gn rfl g_143 (Ops.gs (s := 9416) rfl g_142 (.pkF rfl g_143 rfl) rfl rfl (Ops.st (s := 9432) (.pkF rfl g_142 rfl) rfl rfl (Ops.p rfl (Ops.nil (⟨_,_,(gh_pk [0,3,6] [0,1,2,3,4,5,1000] hB rfl rfl rfl rfl),_,h,rfl,rfl⟩))))))))
 ·refine Run.seqO h (fun v_150 => [(0,.ptr 0 0),(3,.ptr 6 0),(7,VB v_150)]) (fun (v_150 : Bool) => [(0,.box [VI x_1.n.Id,VI x_1.n.Term,VI x_1.n.Vote,VI x_1.n.Role,VI x_1.n.Lead,.sl 1 3 0 x_1.n.Conf.length,VI x_1.n.Log.Start,VI x_1.n.Log.StartTerm,.sl 2 51 0 x_1.n.Log.Entries.length,VI x_1.n.Commit,VI x_1.n.Clock,VI x_1.n.Limit,.sl 3 3 0 x_1.n.Votes.length,.sl 4 135 0 x_1.n.Peers.length,.sl 5 58 0 x_1.told.length]),(1,.vec 3 (x_1.n.Conf.map encI)),(2,.vec 51 (x_1.n.Log.Entries.map encEntry)),(3,.vec 3 (x_1.n.Votes.map encI)),(4,.vec 135 (x_1.n.Peers.map encPeer)),(5,.vec 58 (x_1.told.map (encMessage false))),(6,.box [VI x_2.Kind,VI x_2.From,VI x_2.To,VI x_2.Term,VI x_2.Index,VI x_2.LogTerm,VI x_2.Commit,VB x_2.Ok,RO 51 (x_2.Entries.map encEntry),RO 3 (x_2.Conf.map encI),VS x_2.Data,VB x_2.Last])]) (fun h => ?_) (fun v_150 h => ?_)
  ·refine Run.draw hm hmix (OpsD.p rfl (OpsD.p rfl (OpsD.p rfl (OpsD.p rfl (OpsD.p rfl (OpsD.p rfl (OpsD.p rfl (OpsD.p rfl (OpsD.p rfl (OpsD.askO (x := .t 41) rfl h (fun g_154 h => ?_) (fun g_154 h => ?_)))))))))))
   ·refine OpsD.gp rfl g_154 rfl (OpsD.gp rfl g_154 rfl (OpsD.gp rfl g_154 rfl (OpsD.gp rfl g_154 rfl (OpsD.gp rfl g_154 rfl (OpsD.gp rfl g_154 rfl (OpsD.gp rfl g_154 rfl (OpsD.askO (x := .t 48) rfl h (fun g_155 h => ?_) (fun g_155 h => ?_))))))))
    ·refine OpsD.gn rfl g_155 (OpsD.gn rfl g_155 (OpsD.gn rfl g_155 (OpsD.gn rfl g_155 (OpsD.gn rfl g_155 (OpsD.gn rfl g_155 (OpsD.gn rfl g_155 (OpsD.gn rfl g_155 (OpsD.gs (s := 13672) rfl g_154 (.pkT rfl g_155 rfl) rfl rfl (OpsD.st (s := 13688) (.pkT rfl g_154 rfl) rfl rfl (OpsD.p rfl (OpsD.gp rfl rfl rfl (OpsD.st (s := 13736) (.pkT rfl rfl rfl) rfl rfl (OpsD.p rfl (OpsD.nil ⟨by kernel_rfl,?_⟩))))))))))))))
     exact ⟨_,_,(gh_pk [0,3,7] [0,1,2,3,4,5,6] hB rfl rfl rfl rfl),_,h,rfl,rfl⟩
    ·refine OpsD.gp rfl g_155 rfl (OpsD.gp rfl g_155 rfl (OpsD.gp rfl g_155 rfl (OpsD.gp rfl g_155 rfl (OpsD.gp rfl g_155 rfl (OpsD.gp rfl g_155 rfl (OpsD.gp rfl g_155 rfl (OpsD.gp rfl g_155 rfl (OpsD.gs (s := 13672) rfl g_154 (.pkF rfl g_155 rfl) rfl rfl (OpsD.st (s := 13688) (.pkT rfl g_154 rfl) rfl rfl (OpsD.p rfl (OpsD.askO (x := .t 59) rfl h (fun g_156 h => ?_) (fun g_156 h => ?_))))))))))))
     ·refine OpsD.gp rfl g_156 rfl (OpsD.st (s := 13736) (.pkT rfl g_156 rfl) rfl rfl (OpsD.p rfl (OpsD.nil ⟨by kernel_rfl,?_⟩)))
      exact ⟨_,_,(gh_pk [0,3,7] [0,1,2,3,4,5,6] hB rfl rfl rfl rfl),_,h,rfl,rfl⟩
     ·refine OpsD.gn rfl g_156 (OpsD.st (s := 13736) (.pkF rfl g_156 rfl) rfl rfl (OpsD.p rfl (OpsD.nil ⟨by kernel_rfl,?_⟩)))
      exact ⟨_,_,(gh_pk [0,3,7] [0,1,2,3,4,5,6] hB rfl rfl rfl rfl),_,h,rfl,rfl⟩
   ·refine OpsD.gn rfl g_154 (OpsD.gn rfl g_154 (OpsD.gn rfl g_154 (OpsD.gn rfl g_154 (OpsD.gn rfl g_154 (OpsD.gn rfl g_154 (OpsD.gn rfl g_154 (OpsD.gu rfl (OpsD.gu rfl (OpsD.gu rfl (OpsD.gu rfl (OpsD.gu rfl (OpsD.gu rfl (OpsD.gu rfl (OpsD.gu rfl (OpsD.gn rfl g_154 (OpsD.st (s := 13688) (.pkF rfl g_154 rfl) rfl rfl (OpsD.p rfl (OpsD.gn rfl rfl (OpsD.st (s := 13736) (.pkF rfl rfl rfl) rfl rfl (OpsD.p rfl (OpsD.nil ⟨by kernel_rfl,?_⟩)))))))))))))))))))))
    exact ⟨_,_,(gh_pk [0,3,7] [0,1,2,3,4,5,6] hB rfl rfl rfl rfl),_,h,rfl,rfl⟩
  ·refine Run.seqO h (fun v_158 => [(0,.ptr 0 0),(3,.ptr 6 0),(7,VB v_150)]) (fun (v_158 : Int × Int) => [(0,.box [VI x_1.n.Id,VI x_1.n.Term,VI v_158.1,VI x_1.n.Role,VI x_1.n.Lead,.sl 1 3 0 x_1.n.Conf.length,VI x_1.n.Log.Start,VI x_1.n.Log.StartTerm,.sl 2 51 0 x_1.n.Log.Entries.length,VI x_1.n.Commit,VI v_158.2,VI x_1.n.Limit,.sl 3 3 0 x_1.n.Votes.length,.sl 4 135 0 x_1.n.Peers.length,.sl 5 58 0 x_1.told.length]),(1,.vec 3 (x_1.n.Conf.map encI)),(2,.vec 51 (x_1.n.Log.Entries.map encEntry)),(3,.vec 3 (x_1.n.Votes.map encI)),(4,.vec 135 (x_1.n.Peers.map encPeer)),(5,.vec 58 (x_1.told.map (encMessage false))),(6,.box [VI x_2.Kind,VI x_2.From,VI x_2.To,VI x_2.Term,VI x_2.Index,VI x_2.LogTerm,VI x_2.Commit,VB x_2.Ok,RO 51 (x_2.Entries.map encEntry),RO 3 (x_2.Conf.map encI),VS x_2.Data,VB x_2.Last])]) (fun h => ?_) (fun v_158 h => ?_)
   ·refine Run.seq (Run.ops hm (Ops.p rfl (Ops.nil (Run.condO rfl h (fun g_159 h => ?_) (fun g_159 h => ?_)))))
    ·exact Run.seq (Run.ops hm (.p3 rfl rfl rfl (.p3 rfl rfl rfl (Ops.s0 (s := 21576) (.sto rfl rfl rfl rfl rfl rfl) rfl rfl (Ops.nil (Run.ops hm (.p3 rfl rfl rfl (Ops.p rfl (Ops.s0 (s := 25640) (.sto rfl rfl rfl rfl rfl rfl) rfl rfl (Ops.nil (⟨_,_,(gh_pk [0,3,7] [0,1,2,3,4,5,6] hB rfl rfl rfl rfl),_,h,rfl,rfl⟩)))))))))))
    ·exact Run.skip (⟨_,_,(gh_pk [0,3,7] [0,1,2,3,4,5,6] hB rfl rfl rfl rfl),_,h,rfl,rfl⟩)
   ·refine Run.ops hm (.p3 rfl rfl rfl (Ops.p rfl (Ops.st (s := 29736) (.bd rfl rfl) rfl rfl ?_)))
    obtain ⟨y_161,hy_161,h⟩ := bindO h
    refine Ops.st (s := 29752) (Ev.call [0,1,2,3,4,5] [] 1 (sem_spec_l16Tell _ _ _ _ hy_161) rfl rfl (.cons (.ptr rfl) (.cons (.agg (.d4 (.d4 (.cons (.nil _ _) (.cons (.nil _ _) (.d2 .nil)))))) .nil)) rfl (.inl rfl) rfl rfl) rfl rfl (Ops.nil ?_)
    obtain rfl := someO h
    exact Ends.mkG (.inr rfl) rfl (gh_pk [] [0,1,2,3,4,5,29752] hB rfl rfl rfl rfl) rfl rfl
def spec_l16Elected_i1 (N : Nat) (x_1 : Tl16Run) : Option (Bool) :=
 (spec_ConfOf N x_1.n).bind fun y_106 =>
 (spec_Most N y_106 x_1.n.Votes).bind fun y_107 =>
 some y_107
theorem sem_spec_l16Elected_i1 (N : Nat) (x_1 : Tl16Run) (r : Bool) (h : spec_l16Elected_i1 N x_1 = some r) : Says Try.prog 114 [.ptr 0 0] 6 [(0,.box [VI x_1.n.Id,VI x_1.n.Term,VI x_1.n.Vote,VI x_1.n.Role,VI x_1.n.Lead,.sl 1 3 0 x_1.n.Conf.length,VI x_1.n.Log.Start,VI x_1.n.Log.StartTerm,.sl 2 51 0 x_1.n.Log.Entries.length,VI x_1.n.Commit,VI x_1.n.Clock,VI x_1.n.Limit,.sl 3 3 0 x_1.n.Votes.length,.sl 4 135 0 x_1.n.Peers.length,.sl 5 58 0 x_1.told.length]),(1,.vec 3 (x_1.n.Conf.map encI)),(2,.vec 51 (x_1.n.Log.Entries.map encEntry)),(3,.vec 3 (x_1.n.Votes.map encI)),(4,.vec 135 (x_1.n.Peers.map encPeer)),(5,.vec 58 (x_1.told.map (encMessage false)))] (VB r) [(0,.box [VI x_1.n.Id,VI x_1.n.Term,VI x_1.n.Vote,VI x_1.n.Role,VI x_1.n.Lead,.sl 1 3 0 x_1.n.Conf.length,VI x_1.n.Log.Start,VI x_1.n.Log.StartTerm,.sl 2 51 0 x_1.n.Log.Entries.length,VI x_1.n.Commit,VI x_1.n.Clock,VI x_1.n.Limit,.sl 3 3 0 x_1.n.Votes.length,.sl 4 135 0 x_1.n.Peers.length,.sl 5 58 0 x_1.told.length]),(1,.vec 3 (x_1.n.Conf.map encI)),(2,.vec 51 (x_1.n.Log.Entries.map encEntry)),(3,.vec 3 (x_1.n.Votes.map encI)),(4,.vec 135 (x_1.n.Peers.map encPeer)),(5,.vec 58 (x_1.told.map (encMessage false)))] := by
 unfold spec_l16Elected_i1 at h
 refine Says.of_run s114 Try.call114 rfl fun B hB => ?_
 have hm : B.m ≤ 1000 := by omega
 refine Run.seq (Run.ops hm (Ops.p rfl (Ops.nil (Run.seq (Run.draw hm hmix (OpsD.p rfl (OpsD.p rfl (OpsD.p rfl (OpsD.p rfl ?_)))))))))
 obtain ⟨y_106,hy_106,h⟩ := bindO h
 refine OpsD.st (s := 5160) (Ev.call [] [1,2,3,4] 1 (sem_spec_ConfOf _ _ _ hy_106) rfl rfl (.cons (.agg (.d4 (.d1 (.cons (.borrow rfl (by decide) (lendW (fun _ => rfl) _ rfl)) (.d2 (.cons (.borrow rfl (by decide) (lendW (fun _ => rfl) _ rfl)) (.d2 (.d1 (.cons (.borrow rfl (by decide) (lendW (fun _ => rfl) _ rfl)) (.cons (.borrow rfl (by decide) (lendW (fun _ => rfl) _ rfl)) .nil)))))))))) .nil) rfl (.inr ⟨rfl,ownL_root ⟨own_rows (fun _ => rfl) _,trivial⟩⟩) rfl rfl) rfl rfl ?_
 refine OpsD.p rfl (OpsD.p rfl (OpsD.p rfl (OpsD.p rfl (OpsD.p rfl ?_))))
 obtain ⟨y_107,hy_107,h⟩ := bindO h
 refine OpsD.st (s := 5256) (Ev.call [] [5160,3] 0 (sem_spec_Most _ _ _ _ hy_107) rfl rfl (.cons (.borrow rfl (by decide) (lendW (fun _ => rfl) _ rfl)) (.cons (.borrow rfl (by decide) (lendW (fun _ => rfl) _ rfl)) .nil)) rfl (.inr ⟨rfl,ownL_root trivial⟩) rfl rfl) rfl rfl ?_
 refine OpsD.p rfl (OpsD.nil ⟨by kernel_rfl,?_⟩)
 refine Run.ret ?_
 obtain rfl := someO h
 exact Ends.mkG (.inl rfl) rfl (gh_pk [0] [0,1,2,3,4,5] hB rfl rfl rfl rfl) rfl rfl
def spec_l16TellVote_l1 (N : Nat) (x_1 : Tl16Run) (x_2 : Message) : Nat → Int → (List Int) → Option ((List Int))
 | 0,_,_ => none
 | m + 1,x_346,x_374 =>
 (if (decide (x_346 ≤ 4)) = true then
 joinP (fun (v_409 : (List Int)) =>
 spec_l16TellVote_l1 N x_1 x_2 m (w64 (x_346 + 1)) v_409) fun j_409 =>
 (if (x_346 == x_2.From) = true then
 (cat? x_374 ([x_346] : List Int)).bind fun x_414 =>
 j_409 x_414
 else
 (spec_l09In N x_1.n.Votes x_346).bind fun y_415 =>
 (if y_415 = true then
 (cat? x_374 ([x_346] : List Int)).bind fun x_418 =>
 j_409 x_418
 else
 j_409 x_374))
 else
 some x_374)
def spec_l16TellVote (N : Nat) (x_1 : Tl16Run) (x_2 : Message) : Option (Tl16Run) :=
 (if (!x_2.Ok) = true then
 some x_1
 else
 (if (x_2.Term != x_1.n.Term) = true then
 some x_1
 else
 (if (x_1.n.Role != 1) = true then
 some x_1
 else
 joinP (fun (v_345 : (List Int)) =>
 (spec_l16Elected_i1 N (Tl16Run.mk (Node.mk x_1.n.Id x_1.n.Term x_1.n.Vote x_1.n.Role x_1.n.Lead x_1.n.Conf x_1.n.Log x_1.n.Commit x_1.n.Clock x_1.n.Limit v_345 x_1.n.Peers) x_1.told)).bind fun y_420 =>
 (if y_420 = true then
 (spec_l16Lead N (Tl16Run.mk (Node.mk x_1.n.Id x_1.n.Term x_1.n.Vote x_1.n.Role x_1.n.Lead x_1.n.Conf x_1.n.Log x_1.n.Commit x_1.n.Clock x_1.n.Limit v_345 x_1.n.Peers) x_1.told)).bind fun y_423 =>
 some y_423
 else
 some (Tl16Run.mk (Node.mk x_1.n.Id x_1.n.Term x_1.n.Vote x_1.n.Role x_1.n.Lead x_1.n.Conf x_1.n.Log x_1.n.Commit x_1.n.Clock x_1.n.Limit v_345 x_1.n.Peers) x_1.told))) fun j_345 =>
 (spec_l16TellVote_l1 N x_1 x_2 N 1 ([] : List Int)).bind (fun v_396 => j_345 v_396))))
theorem sem_spec_l16TellVote (N : Nat) (x_1 : Tl16Run) (x_2 : Message) (r : Tl16Run) (h : spec_l16TellVote N x_1 x_2 = some r) : Says Try.prog 181 [.ptr 0 0,.agg [VI x_2.Kind,VI x_2.From,VI x_2.To,VI x_2.Term,VI x_2.Index,VI x_2.LogTerm,VI x_2.Commit,VB x_2.Ok,RO 51 (x_2.Entries.map encEntry),RO 3 (x_2.Conf.map encI),VS x_2.Data,VB x_2.Last]] 6 [(0,.box [VI x_1.n.Id,VI x_1.n.Term,VI x_1.n.Vote,VI x_1.n.Role,VI x_1.n.Lead,.sl 1 3 0 x_1.n.Conf.length,VI x_1.n.Log.Start,VI x_1.n.Log.StartTerm,.sl 2 51 0 x_1.n.Log.Entries.length,VI x_1.n.Commit,VI x_1.n.Clock,VI x_1.n.Limit,.sl 3 3 0 x_1.n.Votes.length,.sl 4 135 0 x_1.n.Peers.length,.sl 5 58 0 x_1.told.length]),(1,.vec 3 (x_1.n.Conf.map encI)),(2,.vec 51 (x_1.n.Log.Entries.map encEntry)),(3,.vec 3 (x_1.n.Votes.map encI)),(4,.vec 135 (x_1.n.Peers.map encPeer)),(5,.vec 58 (x_1.told.map (encMessage false)))] (.tup []) [(0,.box [VI r.n.Id,VI r.n.Term,VI r.n.Vote,VI r.n.Role,VI r.n.Lead,.sl 6 3 0 r.n.Conf.length,VI r.n.Log.Start,VI r.n.Log.StartTerm,.sl 7 51 0 r.n.Log.Entries.length,VI r.n.Commit,VI r.n.Clock,VI r.n.Limit,.sl 8 3 0 r.n.Votes.length,.sl 9 135 0 r.n.Peers.length,.sl 10 58 0 r.told.length]),(1,.gone),(2,.gone),(3,.gone),(4,.gone),(5,.gone),(6,.vec 3 (r.n.Conf.map encI)),(7,.vec 51 (r.n.Log.Entries.map encEntry)),(8,.vec 3 (r.n.Votes.map encI)),(9,.vec 135 (r.n.Peers.map encPeer)),(10,.vec 58 (r.told.map (encMessage false)))] := by
 unfold spec_l16TellVote at h
 refine Says.of_run s181 Try.call181 rfl fun B hB => ?_
 have hm : B.m ≤ 1000 := by omega
 refine Run.seq (Run.ops hm (Ops.st (s := 1000) (.bx rfl rfl) rfl rfl (Ops.nil (Run.seq (Run.seq (Run.draw hm hmix (OpsD.p rfl (OpsD.p rfl (OpsD.p rfl (OpsD.p rfl (OpsD.askO (x := .t 9) rfl h (fun g_269 h => ?_) (fun g_269 h => ?_))))))))))))
 ·refine OpsD.gn rfl g_269 (OpsD.gn rfl g_269 (OpsD.gn rfl g_269 (OpsD.gn rfl g_269 (OpsD.gn rfl g_269 (OpsD.gn rfl g_269 (OpsD.gn rfl g_269 (OpsD.gn rfl g_269 (OpsD.st (s := 5288) (.pkT rfl g_269 rfl) rfl rfl (OpsD.p rfl (OpsD.gn rfl rfl (OpsD.gn rfl rfl (OpsD.gn rfl rfl (OpsD.gn rfl rfl (OpsD.gn rfl rfl (OpsD.gn rfl rfl (OpsD.st (s := 5416) (.pkT rfl rfl rfl) rfl rfl (OpsD.nil ⟨by kernel_rfl,?_⟩)))))))))))))))))
  refine Run.condT rfl rfl (Run.ret ?_)
  obtain rfl := someO h
  exact Ends.mkG (.inl rfl) rfl (Gh.trans (Gh.trans (gh_prn [] [0,1,2,3,4,5] hB rfl) (gh_mvE [] [1,2,3,4,5] hB rfl rfl)) (gh_pk [] [0,1,2,3,4,5,30000001,30000002,30000003,30000004,30000005] hB rfl rfl rfl rfl)) rfl rfl
 ·refine OpsD.gp rfl g_269 rfl (OpsD.gp rfl g_269 rfl (OpsD.gp rfl g_269 rfl (OpsD.gp rfl g_269 rfl (OpsD.gp rfl g_269 rfl (OpsD.gp rfl g_269 rfl (OpsD.gp rfl g_269 rfl (OpsD.gp rfl g_269 rfl (OpsD.st (s := 5288) (.pkF rfl g_269 rfl) rfl rfl (OpsD.p rfl (OpsD.askO (x := .t 19) rfl h (fun g_270 h => ?_) (fun g_270 h => ?_)))))))))))
  ·refine OpsD.gn rfl g_270 (OpsD.gn rfl g_270 (OpsD.gn rfl g_270 (OpsD.gn rfl g_270 (OpsD.gn rfl g_270 (OpsD.gn rfl g_270 (OpsD.st (s := 5416) (.pkT rfl g_270 rfl) rfl rfl (OpsD.nil ⟨by kernel_rfl,?_⟩)))))))
   refine Run.condT rfl rfl (Run.ret ?_)
   obtain rfl := someO h
   exact Ends.mkG (.inl rfl) rfl (Gh.trans (Gh.trans (gh_prn [] [0,1,2,3,4,5] hB rfl) (gh_mvE [] [1,2,3,4,5] hB rfl rfl)) (gh_pk [] [0,1,2,3,4,5,30000001,30000002,30000003,30000004,30000005] hB rfl rfl rfl rfl)) rfl rfl
  ·refine OpsD.gp rfl g_270 rfl (OpsD.gp rfl g_270 rfl (OpsD.gp rfl g_270 rfl (OpsD.gp rfl g_270 rfl (OpsD.gp rfl g_270 rfl (OpsD.gp rfl g_270 rfl (OpsD.st (s := 5416) (.pkF rfl g_270 rfl) rfl rfl (OpsD.nil ⟨by kernel_rfl,?_⟩)))))))
   refine Run.condO rfl h (fun g_271 h => ?_) (fun g_271 h => ?_)
   ·refine Run.ret ?_
    obtain rfl := someO h
    exact Ends.mkG (.inl rfl) rfl (Gh.trans (Gh.trans (gh_prn [] [0,1,2,3,4,5] hB rfl) (gh_mvE [] [1,2,3,4,5] hB rfl rfl)) (gh_pk [] [0,1,2,3,4,5,30000001,30000002,30000003,30000004,30000005] hB rfl rfl rfl rfl)) rfl rfl
   ·refine Run.skip (Run.seq (Run.ops hm (Ops.st (s := 9192) (Ev.bsW (ys := ([] : List Int)) (f := encI) rfl .nil rfl rfl rfl rfl rfl) rfl rfl (Ops.p rfl (Ops.nil (Run.seqO h (fun v_345 => [(0,.ptr 0 0),(4,.sl 6 3 0 v_345.length)]) (fun (v_345 : (List Int)) => [(0,.box [VI x_1.n.Id,VI x_1.n.Term,VI x_1.n.Vote,VI x_1.n.Role,VI x_1.n.Lead,.sl 1 3 0 x_1.n.Conf.length,VI x_1.n.Log.Start,VI x_1.n.Log.StartTerm,.sl 2 51 0 x_1.n.Log.Entries.length,VI x_1.n.Commit,VI x_1.n.Clock,VI x_1.n.Limit,.sl 3 3 0 x_1.n.Votes.length,.sl 4 135 0 x_1.n.Peers.length,.sl 5 58 0 x_1.told.length]),(1,.vec 3 (x_1.n.Conf.map encI)),(2,.vec 51 (x_1.n.Log.Entries.map encEntry)),(3,.vec 3 (x_1.n.Votes.map encI)),(4,.vec 135 (x_1.n.Peers.map encPeer)),(5,.vec 58 (x_1.told.map (encMessage false))),(6,.vec 3 (v_345.map encI))]) (fun h => ?_) (fun v_345 h => ?_)))))))
    ·refine Run.seq (Run.ops hm (Ops.p rfl (Ops.nil (Run.block ?_))))
     obtain ⟨res_396,h,hk_396⟩ := bindO h
     refine Run.loop (n := N) (fun m_396 fr σ => ∃ (x_346 : Int),∃ (x_374 : (List Int)),spec_l16TellVote_l1 N x_1 x_2 m_396 x_346 x_374 = some res_396 ∧ fr = [(0,.ptr 0 0),(3,.ptr 6 0),(4,.sl 7 3 0 x_374.length),(5,VI x_346)] ∧ σ = [(0,.box [VI x_1.n.Id,VI x_1.n.Term,VI x_1.n.Vote,VI x_1.n.Role,VI x_1.n.Lead,.sl 1 3 0 x_1.n.Conf.length,VI x_1.n.Log.Start,VI x_1.n.Log.StartTerm,.sl 2 51 0 x_1.n.Log.Entries.length,VI x_1.n.Commit,VI x_1.n.Clock,VI x_1.n.Limit,.sl 3 3 0 x_1.n.Votes.length,.sl 4 135 0 x_1.n.Peers.length,.sl 5 58 0 x_1.told.length]),(1,.vec 3 (x_1.n.Conf.map encI)),(2,.vec 51 (x_1.n.Log.Entries.map encEntry)),(3,.vec 3 (x_1.n.Votes.map encI)),(4,.vec 135 (x_1.n.Peers.map encPeer)),(5,.vec 58 (x_1.told.map (encMessage false))),(6,.box [VI x_2.Kind,VI x_2.From,VI x_2.To,VI x_2.Term,VI x_2.Index,VI x_2.LogTerm,VI x_2.Commit,VB x_2.Ok,RO 51 (x_2.Entries.map encEntry),RO 3 (x_2.Conf.map encI),VS x_2.Data,VB x_2.Last]),(7,.vec 3 (x_374.map encI))]) (gh_pk [0,3,4,5] [0,1,2,3,4,5,1000,9192] hB rfl rfl rfl rfl) ⟨_,_,h,rfl,rfl⟩ ?_
     rintro m_396 fr σ ⟨x_346,x_374,h,rfl,rfl⟩
     obtain _ | m_396 := m_396
     ·rw [spec_l16TellVote_l1] at h; cases h
     rw [spec_l16TellVote_l1] at h
     refine Run.seq (Run.seq (Run.ops hm (.p2 rfl rfl (Ops.nil (Run.condO rfl h (fun g_399 h => ?_) (fun g_399 h => ?_))))))
     ·refine Run.skip (Run.seqO h (fun v_409 => [(0,.ptr 0 0),(3,.ptr 6 0),(4,.sl 7 3 0 v_409.length),(5,VI x_346)]) (fun (v_409 : (List Int)) => [(0,.box [VI x_1.n.Id,VI x_1.n.Term,VI x_1.n.Vote,VI x_1.n.Role,VI x_1.n.Lead,.sl 1 3 0 x_1.n.Conf.length,VI x_1.n.Log.Start,VI x_1.n.Log.StartTerm,.sl 2 51 0 x_1.n.Log.Entries.length,VI x_1.n.Commit,VI x_1.n.Clock,VI x_1.n.Limit,.sl 3 3 0 x_1.n.Votes.length,.sl 4 135 0 x_1.n.Peers.length,.sl 5 58 0 x_1.told.length]),(1,.vec 3 (x_1.n.Conf.map encI)),(2,.vec 51 (x_1.n.Log.Entries.map encEntry)),(3,.vec 3 (x_1.n.Votes.map encI)),(4,.vec 135 (x_1.n.Peers.map encPeer)),(5,.vec 58 (x_1.told.map (encMessage false))),(6,.box [VI x_2.Kind,VI x_2.From,VI x_2.To,VI x_2.Term,VI x_2.Index,VI x_2.LogTerm,VI x_2.Commit,VB x_2.Ok,RO 51 (x_2.Entries.map encEntry),RO 3 (x_2.Conf.map encI),VS x_2.Data,VB x_2.Last]),(7,.vec 3 (v_409.map encI))]) (fun h => ?_) (fun v_409 h => ?_))
      ·refine Run.block (Run.seq (Run.ops hm (.p3 rfl rfl rfl (.p2 rfl rfl (Ops.askO (x := .t 36) rfl h (fun g_412 h => ?_) (fun g_412 h => ?_))))))
       ·refine Ops.gn rfl g_412 (Ops.gn rfl g_412 (Ops.gn rfl g_412 (Ops.gn rfl g_412 (Ops.gn rfl g_412 (Ops.gn rfl g_412 (Ops.gn rfl g_412 (Ops.st (s := 25768) (.pkT rfl g_412 rfl) rfl rfl (Ops.nil (Run.condT rfl rfl (Run.ops hm (.p2 rfl rfl (Ops.st (s := 29704) (Ev.bsW (ys := ([x_346] : List Int)) (f := encI) rfl (.d1 .nil) rfl rfl rfl rfl rfl) rfl rfl ?_))))))))))))
        obtain ⟨x_414,hx_414,h⟩ := bindO h
        exact Ops.st (s := 29720) (Ev.apW (f := encI) (ontoW rfl rfl rfl) (addsW rfl rfl rfl (fun _ => rfl)) rfl bt3 rfl hx_414) rfl rfl (Ops.p rfl (Ops.nil (⟨_,_,(gh_pk [0,3,4,5] [0,1,2,3,4,5,6,29720] hB rfl rfl rfl rfl),_,h,rfl,rfl⟩)))
       ·refine Ops.gp rfl g_412 rfl (Ops.gp rfl g_412 rfl (Ops.gp rfl g_412 rfl (Ops.gp rfl g_412 rfl (Ops.gp rfl g_412 rfl (Ops.gp rfl g_412 rfl ?_)))))
        obtain ⟨y_415,hy_415,h⟩ := bindO h
        refine Ops.gs (s := 25752) rfl g_412 (Ev.call [] [3] 0 (sem_spec_l09In _ _ _ _ hy_415) rfl rfl (.cons (.borrow rfl (by decide) (lendW (fun _ => rfl) _ rfl)) (.d1 .nil)) rfl (.inr ⟨rfl,ownL_root trivial⟩) rfl rfl) rfl rfl ?_
        refine Ops.st (s := 25768) (.pkF rfl g_412 rfl) rfl rfl (Ops.nil (Run.condO rfl h (fun g_416 h => ?_) (fun g_416 h => ?_)))
        ·refine Run.ops hm (.p2 rfl rfl (Ops.st (s := 29704) (Ev.bsW (ys := ([x_346] : List Int)) (f := encI) rfl (.d1 .nil) rfl rfl rfl rfl rfl) rfl rfl ?_))
         obtain ⟨x_418,hx_418,h⟩ := bindO h
         exact Ops.st (s := 29720) (Ev.apW (f := encI) (ontoW rfl rfl rfl) (addsW rfl rfl rfl (fun _ => rfl)) rfl bt3 rfl hx_418) rfl rfl (Ops.p rfl (Ops.nil (⟨_,_,(gh_pk [0,3,4,5] [0,1,2,3,4,5,6,29720] hB rfl rfl rfl rfl),_,h,rfl,rfl⟩)))
        ·exact Run.skip (⟨_,_,(gh_pk [0,3,4,5] [0,1,2,3,4,5,6,7] hB rfl rfl rfl rfl),_,h,rfl,rfl⟩)
      ·exact Run.ops hm (.p3 rfl rfl rfl (Ops.nil (⟨m_396,Nat.lt_succ_self m_396,_,_,(gh_pk [0,3,4,5] [0,1,2,3,4,5,6,7] hB rfl rfl rfl rfl),_,_,h,rfl,rfl⟩)))
     ·refine Run.exit ?_
      obtain rfl := someO h
      have h := hk_396
      exact ⟨_,_,(gh_pk [0,4] [0,1,2,3,4,5,7] hB rfl rfl rfl rfl),_,h,rfl,rfl⟩
    ·refine Run.seq (Run.ops hm (.p3 rfl rfl rfl (.p2 rfl rfl (Ops.s0 (s := 33848) (.sto rfl rfl rfl rfl rfl rfl) rfl rfl (Ops.nil (Run.seq (Run.ops hm (Ops.p rfl ?_))))))))
     obtain ⟨y_420,hy_420,h⟩ := bindO h
     refine Ops.st (s := 37880) (Ev.call [0,1,2,6,4,5] [] 0 (sem_spec_l16Elected_i1 _ _ _ hy_420) rfl rfl (.cons (.ptr rfl) .nil) rfl (.inl rfl) rfl rfl) rfl rfl (Ops.nil (Run.condO rfl h (fun g_421 h => ?_) (fun g_421 h => ?_)))
     ·refine Run.ops hm (Ops.p rfl ?_)
      obtain ⟨y_423,hy_423,h⟩ := bindO h
      refine Ops.st (s := 41976) (Ev.call [0,1,2,6,4,5] [] 5 (sem_spec_l16Lead _ _ _ hy_423) rfl rfl (.cons (.ptr rfl) .nil) rfl (.inl rfl) rfl rfl) rfl rfl (Ops.nil ?_)
      obtain rfl := someO h
      exact Ends.mkG (.inr rfl) rfl (Gh.trans (Gh.trans (gh_prn [] [0,1,2,3,4,5,41976,41977,41978,41979,41980] hB rfl) (gh_mvE [] [3] hB rfl rfl)) (gh_pk [] [0,1,2,3,4,5,41976,41977,41978,41979,41980] hB rfl rfl rfl rfl)) rfl rfl
     ·refine Run.skip ?_
      obtain rfl := someO h
      exact Ends.mkG (.inr rfl) rfl (Gh.trans (Gh.trans (gh_prn [] [0,1,2,3,4,5,6] hB rfl) (gh_mvE [] [1,2,3,4,5] hB rfl rfl)) (gh_pk [] [0,1,2,3,4,5,30000001,30000002,6,30000004,30000005] hB rfl rfl rfl rfl)) rfl rfl
def spec_l16Refuse (N : Nat) (x_1 : Tl16Run) (x_2 : Message) (x_3 : Int) : Option (Tl16Run) :=
 (spec_l16Tell N x_1 (Message.mk 4 0 x_2.From 0 x_3 0 0 false ([]) ([]) (⟨#[]⟩ : ByteArray) false)).bind fun y_103 =>
 some (Tl16Run.mk (Node.mk y_103.n.Id y_103.n.Term y_103.n.Vote y_103.n.Role y_103.n.Lead x_1.n.Conf (Log.mk y_103.n.Log.Start y_103.n.Log.StartTerm x_1.n.Log.Entries) y_103.n.Commit y_103.n.Clock y_103.n.Limit x_1.n.Votes x_1.n.Peers) y_103.told)
theorem sem_spec_l16Refuse (N : Nat) (x_1 : Tl16Run) (x_2 : Message) (x_3 : Int) (r : Tl16Run) (h : spec_l16Refuse N x_1 x_2 x_3 = some r) : Says Try.prog 193 [.ptr 0 0,.agg [VI x_2.Kind,VI x_2.From,VI x_2.To,VI x_2.Term,VI x_2.Index,VI x_2.LogTerm,VI x_2.Commit,VB x_2.Ok,RO 51 (x_2.Entries.map encEntry),RO 3 (x_2.Conf.map encI),VS x_2.Data,VB x_2.Last],VI x_3] 6 [(0,.box [VI x_1.n.Id,VI x_1.n.Term,VI x_1.n.Vote,VI x_1.n.Role,VI x_1.n.Lead,.sl 1 3 0 x_1.n.Conf.length,VI x_1.n.Log.Start,VI x_1.n.Log.StartTerm,.sl 2 51 0 x_1.n.Log.Entries.length,VI x_1.n.Commit,VI x_1.n.Clock,VI x_1.n.Limit,.sl 3 3 0 x_1.n.Votes.length,.sl 4 135 0 x_1.n.Peers.length,.sl 5 58 0 x_1.told.length]),(1,.vec 3 (x_1.n.Conf.map encI)),(2,.vec 51 (x_1.n.Log.Entries.map encEntry)),(3,.vec 3 (x_1.n.Votes.map encI)),(4,.vec 135 (x_1.n.Peers.map encPeer)),(5,.vec 58 (x_1.told.map (encMessage false)))] (.tup []) [(0,.box [VI r.n.Id,VI r.n.Term,VI r.n.Vote,VI r.n.Role,VI r.n.Lead,.sl 1 3 0 x_1.n.Conf.length,VI r.n.Log.Start,VI r.n.Log.StartTerm,.sl 2 51 0 x_1.n.Log.Entries.length,VI r.n.Commit,VI r.n.Clock,VI r.n.Limit,.sl 3 3 0 x_1.n.Votes.length,.sl 4 135 0 x_1.n.Peers.length,.sl 6 58 0 r.told.length]),(1,.vec 3 (x_1.n.Conf.map encI)),(2,.vec 51 (x_1.n.Log.Entries.map encEntry)),(3,.vec 3 (x_1.n.Votes.map encI)),(4,.vec 135 (x_1.n.Peers.map encPeer)),(5,.gone),(6,.vec 58 (r.told.map (encMessage false)))] := by
 unfold spec_l16Refuse at h
 refine Says.of_run s193 Try.call193 rfl fun B hB => ?_
 have hm : B.m ≤ 1000 := by omega
 refine Run.seq (Run.ops hm (Ops.st (s := 1000) (.bx rfl rfl) rfl rfl (Ops.nil (Run.ops hm (.p3 rfl rfl rfl (Ops.p rfl (Ops.st (s := 5160) (.bd rfl rfl) rfl rfl ?_)))))))
 obtain ⟨y_103,hy_103,h⟩ := bindO h
 refine Ops.st (s := 5176) (Ev.call [0,1,2,3,4,5] [] 1 (sem_spec_l16Tell _ _ _ _ hy_103) rfl rfl (.cons (.ptr rfl) (.cons (.agg (.d4 (.d4 (.cons (.nil _ _) (.cons (.nil _ _) (.d2 .nil)))))) .nil)) rfl (.inl rfl) rfl rfl) rfl rfl (Ops.nil ?_)
 obtain rfl := someO h
 exact Ends.mkG (.inr rfl) rfl (gh_pk [] [0,1,2,3,4,5,5176] hB rfl rfl rfl rfl) rfl rfl
end Go.Proofs.Ytehknbpmpbghhaa.Pe.FnSettles
