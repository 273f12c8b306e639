/- Functions, as pure functions; and that Go does just that. -/
import Derived.Test.YtehknbpmpbghhaaPeFFnExactPropose2
namespace Go.Proofs.Ytehknbpmpbghhaa.Pe.FnExactPropose
open Go Go.RowKit
set_option linter.unusedVariables false
set_option linter.unusedSimpArgs false
set_option maxHeartbeats 40000000
def spec_Propose_l2 (N : Nat) (x_1 : Node) (y_1848 : (List Int)) (x_2638 : Int) : Nat → Int → Int → Int → Int → Int → Option (Int × Int × Int × Int)
 | 0, _, _, _, _, _ => none
 | m + 1, x_3336, x_3373, x_3374, x_3375, x_3376 =>
 (if (decide (x_3336 < (x_1.Peers.length : Int))) = true then
 joinP (fun (v_3414 : Int × Int × Int × Int) =>
 spec_Propose_l2 N x_1 y_1848 x_2638 m (w64 (x_3336 + (1 : Int))) v_3414.1 v_3414.2.1 v_3414.2.2.1 v_3414.2.2.2) fun j_3414 =>
 (at? x_1.Peers x_3336).bind fun x_3417 =>
 (at? y_1848 x_2638).bind fun x_3418 =>
 (if (x_3417.Id == x_3418) = true then
 (at? x_1.Peers x_3336).bind fun x_3421 =>
 j_3414 (x_3421.Id, x_3421.Next, x_3421.Match, x_3421.Sent)
 else
 j_3414 (x_3373, x_3374, x_3375, x_3376))
 else
 some (x_3373, x_3374, x_3375, x_3376))
def spec_Propose_l2_r (N : Nat) (x_1 : Node) (y_1848 : (List Int)) (x_2638 : Int) : (List Peer) → Int → Int → Int → Int → Int → Option (Int × Int × Int × Int)
 | [], x_3336, x_3373, x_3374, x_3375, x_3376 =>
 some (x_3373, x_3374, x_3375, x_3376)
 | hd :: tl, x_3336, x_3373, x_3374, x_3375, x_3376 =>
 joinP (fun (v_3414 : Int × Int × Int × Int) =>
 spec_Propose_l2_r N x_1 y_1848 x_2638 tl (w64 (x_3336 + (1 : Int))) v_3414.1 v_3414.2.1 v_3414.2.2.1 v_3414.2.2.2) fun j_3414 =>
 (some hd).bind fun x_3417 =>
 (at? y_1848 x_2638).bind fun x_3418 =>
 (if (x_3417.Id == x_3418) = true then
 (some hd).bind fun x_3421 =>
 j_3414 (x_3421.Id, x_3421.Next, x_3421.Match, x_3421.Sent)
 else
 j_3414 (x_3373, x_3374, x_3375, x_3376))
theorem spec_Propose_l2_rng (N : Nat) (x_1 : Node) (y_1848 : (List Int)) (x_2638 : Int) (hx : x_1.Peers.length ≤ 1099511627776) : ∀ (d k m : Nat) (x_3373 : Int) (x_3374 : Int) (x_3375 : Int) (x_3376 : Int), x_1.Peers.length = k + d → d < m → spec_Propose_l2 N x_1 y_1848 x_2638 m (k : Int) x_3373 x_3374 x_3375 x_3376 = spec_Propose_l2_r N x_1 y_1848 x_2638 (x_1.Peers.drop k) (k : Int) x_3373 x_3374 x_3375 x_3376 := by
  intro d
  induction d with
  | zero =>
    intro k m x_3373 x_3374 x_3375 x_3376 hd hm
    obtain ⟨m, rfl⟩ : ∃ q, m = q + 1 := ⟨m - 1, by omega⟩
    rw [spec_Propose_l2, if_neg (by simp; omega), List.drop_eq_nil_of_le (by omega), spec_Propose_l2_r]
  | succ d ih =>
    intro k m x_3373 x_3374 x_3375 x_3376 hd hm
    obtain ⟨m, rfl⟩ : ∃ q, m = q + 1 := ⟨m - 1, by omega⟩
    have hk : k < x_1.Peers.length := by omega
    rw [spec_Propose_l2, if_pos (by simp; omega), List.drop_eq_getElem_cons hk, spec_Propose_l2_r]
    have h1 := at_lt hk
    have h2 := w64_succ (k := k) (by omega)
    have h3 := ih (k + 1) m
    simp only [h1, h2, h3 _ _ _ _ (by omega) (by omega)]
theorem spec_Propose_l2_eq {N : Nat} (x_1 : Node) (y_1848 : (List Int)) (x_2638 : Int) (hx : x_1.Peers.length ≤ 1099511627776) (hN : x_1.Peers.length < N) (x_3373 : Int) (x_3374 : Int) (x_3375 : Int) (x_3376 : Int) : spec_Propose_l2 N x_1 y_1848 x_2638 N 0 x_3373 x_3374 x_3375 x_3376 = spec_Propose_l2_r N x_1 y_1848 x_2638 x_1.Peers 0 x_3373 x_3374 x_3375 x_3376 := spec_Propose_l2_rng N x_1 y_1848 x_2638 hx x_1.Peers.length 0 N x_3373 x_3374 x_3375 x_3376 (by omega) hN
def spec_Propose_l1 (N : Nat) (x_1 : Node) (y_1836 : Int) (y_1848 : (List Int)) : Nat → Int → (List Peer) → Option ((List Peer))
 | 0, _, _ => none
 | m + 1, x_2638, x_2674 =>
 (if (decide (x_2638 < ((y_1848.length : Nat) : Int))) = true then
 joinP (fun (v_3240 : (List Peer)) =>
 spec_Propose_l1 N x_1 y_1836 y_1848 m (w64 (x_2638 + (1 : Int))) v_3240) fun j_3240 =>
 (at? y_1848 x_2638).bind fun x_3244 =>
 joinP (fun (v_3333 : Int × Int × Int × Int) =>
 (cat? x_2674 ([(Peer.mk v_3333.1 v_3333.2.1 v_3333.2.2.1 v_3333.2.2.2)] : List Peer)).bind fun x_3423 =>
 j_3240 x_3423) fun j_3333 =>
 (spec_Propose_l2 N x_1 y_1848 x_2638 N (0 : Int) x_3244 (w64 (y_1836 + (1 : Int))) (0 : Int) (0 : Int)).bind (fun (v_3403 : Int × Int × Int × Int) => j_3333 (v_3403.1, v_3403.2.1, v_3403.2.2.1, v_3403.2.2.2))
 else
 some x_2674)
def spec_Propose (N : Nat) (x_1 : Node) (x_2 : Int) (x_3 : ByteArray) : Option (Node × (List Message) × Int × Bool) :=
 (spec_NodeOk N x_1).bind fun y_1785 =>
 (if (!y_1785) = true then
 some ((Node.mk (0 : Int) (0 : Int) (0 : Int) (0 : Int) (0 : Int) ([]) (Log.mk (0 : Int) (0 : Int) ([])) (0 : Int) (0 : Int) (0 : Int) ([]) ([])), ([] : List Message), (0 : Int), false)
 else
 (if (x_1.Role != (2 : Int)) = true then
 some ((Node.mk (0 : Int) (0 : Int) (0 : Int) (0 : Int) (0 : Int) ([]) (Log.mk (0 : Int) (0 : Int) ([])) (0 : Int) (0 : Int) (0 : Int) ([]) ([])), ([] : List Message), (0 : Int), false)
 else
 (spec_EntryOk N (Entry.mk x_1.Term x_2 x_3)).bind fun y_1788 =>
 (if (!y_1788) = true then
 some ((Node.mk (0 : Int) (0 : Int) (0 : Int) (0 : Int) (0 : Int) ([]) (Log.mk (0 : Int) (0 : Int) ([])) (0 : Int) (0 : Int) (0 : Int) ([]) ([])), ([] : List Message), (0 : Int), false)
 else
 (spec_l16Room N x_1).bind fun y_1790 =>
 (if (!y_1790) = true then
 some ((Node.mk (0 : Int) (0 : Int) (0 : Int) (0 : Int) (0 : Int) ([]) (Log.mk (0 : Int) (0 : Int) ([])) (0 : Int) (0 : Int) (0 : Int) ([]) ([])), ([] : List Message), (0 : Int), false)
 else
 joinP (fun (v_1810 : Unit) =>
 (spec_l16Copy N x_1).bind fun y_1832 =>
 (spec_l12Last N x_1.Log).bind fun y_1836 =>
 (cat? y_1832.Log.Entries ([(Entry.mk x_1.Term x_2 x_3)] : List Entry)).bind fun x_1840 =>
 (spec_ConfOf N (Node.mk y_1832.Id y_1832.Term y_1832.Vote y_1832.Role y_1832.Lead y_1832.Conf (Log.mk y_1832.Log.Start y_1832.Log.StartTerm x_1840) y_1832.Commit y_1832.Clock y_1832.Limit y_1832.Votes y_1832.Peers)).bind fun y_1847 =>
 (spec_l16Others N y_1847 x_1.Id).bind fun y_1848 =>
 joinP (fun (v_2636 : (List Peer)) =>
 (spec_l16Commit N (Tl16Run.mk (Node.mk y_1832.Id y_1832.Term y_1832.Vote y_1832.Role y_1832.Lead y_1832.Conf (Log.mk y_1832.Log.Start y_1832.Log.StartTerm x_1840) y_1832.Commit y_1832.Clock y_1832.Limit y_1832.Votes v_2636) ([] : (List Message)))).bind fun y_3427 =>
 (spec_l16SendAll N y_3427).bind fun y_3431 =>
 some (y_3431.n, y_3431.told, (w64 (y_1836 + (1 : Int))), true)) fun j_2636 =>
 (spec_Propose_l1 N x_1 y_1836 y_1848 N (0 : Int) ([] : List Peer)).bind (fun (v_3053 : (List Peer)) => j_2636 v_3053)) fun j_1810 =>
 (if (x_2 == (2 : Int)) = true then
 (spec_ReadConf N x_3).bind fun y_1815 =>
 (spec_LogTerm N x_1.Log x_1.Commit).bind fun y_1822 =>
 (if (y_1822 != x_1.Term) = true then
 some ((Node.mk (0 : Int) (0 : Int) (0 : Int) (0 : Int) (0 : Int) ([]) (Log.mk (0 : Int) (0 : Int) ([])) (0 : Int) (0 : Int) (0 : Int) ([]) ([])), ([] : List Message), (0 : Int), false)
 else
 (spec_l16ConfIndex N x_1).bind fun y_1824 =>
 (if (decide (y_1824 > x_1.Commit)) = true then
 some ((Node.mk (0 : Int) (0 : Int) (0 : Int) (0 : Int) (0 : Int) ([]) (Log.mk (0 : Int) (0 : Int) ([])) (0 : Int) (0 : Int) (0 : Int) ([]) ([])), ([] : List Message), (0 : Int), false)
 else
 (spec_ConfOf N x_1).bind fun y_1826 =>
 (spec_l16Near N y_1826 y_1815.1).bind fun y_1827 =>
 (if (!y_1827) = true then
 some ((Node.mk (0 : Int) (0 : Int) (0 : Int) (0 : Int) (0 : Int) ([]) (Log.mk (0 : Int) (0 : Int) ([])) (0 : Int) (0 : Int) (0 : Int) ([]) ([])), ([] : List Message), (0 : Int), false)
 else
 j_1810 ())))
 else
 j_1810 ())))))
theorem sem_spec_Propose (N : Nat) (x_1 : Node) (x_2 : Int) (x_3 : ByteArray) (r : Node × (List Message) × Int × Bool) (h : spec_Propose N x_1 x_2 x_3 = some r) : Says Try.prog 28 [.agg [VI x_1.Id, VI x_1.Term, VI x_1.Vote, VI x_1.Role, VI x_1.Lead, RO 3 (x_1.Conf.map encI), VI x_1.Log.Start, VI x_1.Log.StartTerm, RO 51 (x_1.Log.Entries.map encEntry), VI x_1.Commit, VI x_1.Clock, VI x_1.Limit, RO 3 (x_1.Votes.map encI), RO 135 (x_1.Peers.map encPeer)], VI x_2, VS x_3] 0 [] (.tup [.agg [VI r.1.Id, VI r.1.Term, VI r.1.Vote, VI r.1.Role, VI r.1.Lead, .sl 0 3 0 r.1.Conf.length, VI r.1.Log.Start, VI r.1.Log.StartTerm, .sl 1 51 0 r.1.Log.Entries.length, VI r.1.Commit, VI r.1.Clock, VI r.1.Limit, .sl 2 3 0 r.1.Votes.length, .sl 3 135 0 r.1.Peers.length], .sl 4 58 0 r.2.1.length, VI r.2.2.1, VB r.2.2.2]) [(0, .vec 3 (r.1.Conf.map encI)), (1, .vec 51 (r.1.Log.Entries.map encEntry)), (2, .vec 3 (r.1.Votes.map encI)), (3, .vec 135 (r.1.Peers.map encPeer)), (4, .vec 58 (r.2.1.map (encMessage true)))] := by
  unfold spec_Propose at h
  refine Says.of_run s28 Try.call28 rfl fun B hB => ?_
  have hm : B.m ≤ 1000 := by omega
  refine Run.seq (Run.ops hm (Ops.st (s := 1000) (.bx rfl rfl) rfl rfl (Ops.st (s := 1016) (.al rfl rfl) rfl rfl (Ops.p rfl (Ops.p rfl (Ops.p rfl (Ops.nil (Run.seq (Run.ops hm (Ops.p rfl (Ops.p rfl (Ops.p rfl (Ops.p rfl (Ops.st (s := 5160) (.bd rfl rfl) rfl rfl (Ops.st (s := 5176) (.al rfl rfl) rfl rfl (Ops.s0 (s := 5192) (.sto rfl rfl rfl rfl rfl rfl) rfl rfl (Ops.nil (Run.seq (Run.seq (Run.ops hm (Ops.p rfl ?_)))))))))))))))))))))
  obtain ⟨y_1785, hy_1785, h⟩ := bindO h
  refine Ops.st (s := 9208) (Ev.call [] [] 0 (sem_spec_NodeOk N x_1 _ hy_1785) rfl rfl (.cons (.agg (.cons (.c _) (.cons (.c _) (.cons (.c _) (.cons (.c _) (.cons (.c _) (.cons (.c _) (.cons (.c _) (.cons (.c _) (.cons (.c _) (.cons (.c _) (.cons (.c _) (.cons (.c _) (.cons (.c _) (.cons (.c _) .nil))))))))))))))) .nil) rfl (.inl rfl) rfl rfl) rfl rfl (Ops.p rfl (Ops.p rfl (Ops.askO (x := .t 28) rfl h (fun g_1786 h => ?_) (fun g_1786 h => ?_))))
  · refine Ops.gn rfl g_1786 (Ops.gn rfl g_1786 (Ops.gn rfl g_1786 (Ops.st (s := 9304) (.pkT rfl g_1786 rfl) rfl rfl (Ops.p rfl (Ops.gn rfl rfl (Ops.gn rfl rfl (Ops.gn rfl rfl (Ops.st (s := 9384) (.pkT rfl rfl rfl) rfl rfl (Ops.p rfl (Ops.gn rfl rfl (Ops.gn rfl rfl (Ops.gn rfl rfl (Ops.st (s := 9464) (.pkT rfl rfl rfl) rfl rfl (Ops.nil (Run.condT rfl rfl (Run.seq (Run.ops hm (Ops.st (s := 13288) (.bd rfl rfl) rfl rfl (Ops.st (s := 13304) (Ev.bsW (ys := ([] : List Message)) (f := (encMessage true)) rfl .nil rfl rfl rfl rfl rfl) rfl rfl (Ops.s0 (s := 13320) (.sto rfl rfl rfl rfl rfl rfl) rfl rfl (Ops.p rfl (Ops.p rfl (Ops.p rfl (Ops.nil (Run.ret ?_)))))))))))))))))))))))))
    obtain rfl := someO h
    exact Ends.mkG (.inl rfl) rfl (Gh.trans (Gh.trans (gh_prn [0, 1, 2, 3] [13304] hB rfl) (gh_nil [0] [] hB rfl rfl rfl)) (gh_pk [0, 1, 2, 3] [10000000, 10000001, 10000002, 10000003, 13304] hB rfl rfl rfl rfl)) rfl rfl
  · refine Ops.gp rfl g_1786 rfl (Ops.gp rfl g_1786 rfl (Ops.gp rfl g_1786 rfl (Ops.st (s := 9304) (.pkF rfl g_1786 rfl) rfl rfl (Ops.p rfl (Ops.askO (x := .t 33) rfl h (fun g_1787 h => ?_) (fun g_1787 h => ?_))))))
    · refine Ops.gn rfl g_1787 (Ops.gn rfl g_1787 (Ops.gn rfl g_1787 (Ops.st (s := 9384) (.pkT rfl g_1787 rfl) rfl rfl (Ops.p rfl (Ops.gn rfl rfl (Ops.gn rfl rfl (Ops.gn rfl rfl (Ops.st (s := 9464) (.pkT rfl rfl rfl) rfl rfl (Ops.nil (Run.condT rfl rfl (Run.seq (Run.ops hm (Ops.st (s := 13288) (.bd rfl rfl) rfl rfl (Ops.st (s := 13304) (Ev.bsW (ys := ([] : List Message)) (f := (encMessage true)) rfl .nil rfl rfl rfl rfl rfl) rfl rfl (Ops.s0 (s := 13320) (.sto rfl rfl rfl rfl rfl rfl) rfl rfl (Ops.p rfl (Ops.p rfl (Ops.p rfl (Ops.nil (Run.ret ?_))))))))))))))))))))
      obtain rfl := someO h
      exact Ends.mkG (.inl rfl) rfl (Gh.trans (Gh.trans (gh_prn [0, 1, 2, 3] [13304] hB rfl) (gh_nil [0] [] hB rfl rfl rfl)) (gh_pk [0, 1, 2, 3] [10000000, 10000001, 10000002, 10000003, 13304] hB rfl rfl rfl rfl)) rfl rfl
    · refine Ops.gp rfl g_1787 rfl ?_
      obtain ⟨y_1788, hy_1788, h⟩ := bindO h
      refine Ops.gs (s := 9352) rfl g_1787 (Ev.call [] [] 0 (sem_spec_EntryOk N (Entry.mk x_1.Term x_2 x_3) _ hy_1788) rfl rfl (.cons (.agg (.cons (.c _) (.cons (.c _) (.cons (.c _) .nil)))) .nil) rfl (.inl rfl) rfl rfl) rfl rfl (Ops.gp rfl g_1787 rfl (Ops.st (s := 9384) (.pkF rfl g_1787 rfl) rfl rfl (Ops.p rfl (Ops.askO (x := .t 38) rfl h (fun g_1789 h => ?_) (fun g_1789 h => ?_)))))
      · refine Ops.gn rfl g_1789 (Ops.gn rfl g_1789 (Ops.gn rfl g_1789 (Ops.st (s := 9464) (.pkT rfl g_1789 rfl) rfl rfl (Ops.nil (Run.condT rfl rfl (Run.seq (Run.ops hm (Ops.st (s := 13288) (.bd rfl rfl) rfl rfl (Ops.st (s := 13304) (Ev.bsW (ys := ([] : List Message)) (f := (encMessage true)) rfl .nil rfl rfl rfl rfl rfl) rfl rfl (Ops.s0 (s := 13320) (.sto rfl rfl rfl rfl rfl rfl) rfl rfl (Ops.p rfl (Ops.p rfl (Ops.p rfl (Ops.nil (Run.ret ?_)))))))))))))))
        obtain rfl := someO h
        exact Ends.mkG (.inl rfl) rfl (Gh.trans (Gh.trans (gh_prn [0, 1, 2, 3] [13304] hB rfl) (gh_nil [0] [] hB rfl rfl rfl)) (gh_pk [0, 1, 2, 3] [10000000, 10000001, 10000002, 10000003, 13304] hB rfl rfl rfl rfl)) rfl rfl
      · refine Ops.gp rfl g_1789 rfl ?_
        obtain ⟨y_1790, hy_1790, h⟩ := bindO h
        refine Ops.gs (s := 9432) rfl g_1789 (Ev.call [] [] 0 (sem_spec_l16Room N x_1 _ hy_1790) rfl rfl (.cons (.agg (.cons (.c _) (.cons (.c _) (.cons (.c _) (.cons (.c _) (.cons (.c _) (.cons (.c _) (.cons (.c _) (.cons (.c _) (.cons (.c _) (.cons (.c _) (.cons (.c _) (.cons (.c _) (.cons (.c _) (.cons (.c _) .nil))))))))))))))) .nil) rfl (.inl rfl) rfl rfl) rfl rfl (Ops.gp rfl g_1789 rfl (Ops.st (s := 9464) (.pkF rfl g_1789 rfl) rfl rfl (Ops.nil (Run.condO rfl h (fun g_1791 h => ?_) (fun g_1791 h => ?_)))))
        · refine Run.seq (Run.ops hm (Ops.st (s := 13288) (.bd rfl rfl) rfl rfl (Ops.st (s := 13304) (Ev.bsW (ys := ([] : List Message)) (f := (encMessage true)) rfl .nil rfl rfl rfl rfl rfl) rfl rfl (Ops.s0 (s := 13320) (.sto rfl rfl rfl rfl rfl rfl) rfl rfl (Ops.p rfl (Ops.p rfl (Ops.p rfl (Ops.nil (Run.ret ?_)))))))))
          obtain rfl := someO h
          exact Ends.mkG (.inl rfl) rfl (Gh.trans (Gh.trans (gh_prn [0, 1, 2, 3] [13304] hB rfl) (gh_nil [0] [] hB rfl rfl rfl)) (gh_pk [0, 1, 2, 3] [10000000, 10000001, 10000002, 10000003, 13304] hB rfl rfl rfl rfl)) rfl rfl
        · refine Run.skip (Run.seqO h (fun (v_1810 : Unit) => [(3, .ptr 0 0), (6, .ptr 1 0), (10, .ptr 2 0)]) (fun (v_1810 : Unit) => [(0, .box [VI x_1.Id, VI x_1.Term, VI x_1.Vote, VI x_1.Role, VI x_1.Lead, RO 3 (x_1.Conf.map encI), VI x_1.Log.Start, VI x_1.Log.StartTerm, RO 51 (x_1.Log.Entries.map encEntry), VI x_1.Commit, VI x_1.Clock, VI x_1.Limit, RO 3 (x_1.Votes.map encI), RO 135 (x_1.Peers.map encPeer)]), (1, .box [VI (0 : Int), VI (0 : Int), VI (0 : Int), VI (0 : Int), VI (0 : Int), .sl 3 3 0 (([] : List Int).length), VI (0 : Int), VI (0 : Int), .sl 4 51 0 (([] : List Entry).length), VI (0 : Int), VI (0 : Int), VI (0 : Int), .sl 5 3 0 (([] : List Int).length), .sl 6 135 0 (([] : List Peer).length)]), (2, .box [VI x_1.Term, VI x_2, VS x_3]), (3, .vec 3 (([] : List Int).map encI)), (4, .vec 51 (([] : List Entry).map encEntry)), (5, .vec 3 (([] : List Int).map encI)), (6, .vec 135 (([] : List Peer).map encPeer))]) (fun h => ?_) (fun v_1810 h => ?_))
          · refine Run.seq (Run.ops hm (Ops.p rfl (Ops.p rfl (Ops.nil (Run.condO rfl h (fun g_1811 h => ?_) (fun g_1811 h => ?_))))))
            · refine Run.seq (Run.ops hm (Ops.p rfl ?_))
              obtain ⟨y_1815, hy_1815, h⟩ := bindO h
              refine Ops.st (s := 21496) (Ev.call [] [] 1 (sem_spec_ReadConf N x_3 _ hy_1815) rfl rfl (.cons (.c _) .nil) rfl (.inl rfl) rfl rfl) rfl rfl (Ops.p rfl (Ops.p rfl (Ops.p rfl (Ops.p rfl (Ops.p rfl (Ops.nil (Run.seq (Run.draw hm hmix (OpsD.p rfl (OpsD.p rfl (OpsD.p rfl (OpsD.p rfl ?_))))))))))))
              obtain ⟨y_1822, hy_1822, h⟩ := bindO h
              refine OpsD.st (s := 25640) (Ev.call [] [] 0 (sem_spec_LogTerm N x_1.Log x_1.Commit _ hy_1822) rfl rfl (.cons (.agg (.cons (.c _) (.cons (.c _) (.cons (.c _) .nil)))) (.cons (.c _) .nil)) rfl (.inl rfl) rfl rfl) rfl rfl (OpsD.p rfl (OpsD.p rfl (OpsD.p rfl (OpsD.p rfl (OpsD.askO (x := .t 60) rfl h (fun g_1823 h => ?_) (fun g_1823 h => ?_))))))
              · refine OpsD.gn rfl g_1823 (OpsD.gn rfl g_1823 (OpsD.gn rfl g_1823 (OpsD.gn rfl g_1823 (OpsD.gn rfl g_1823 (OpsD.st (s := 25800) (.pkT rfl g_1823 rfl) rfl rfl (OpsD.p rfl (OpsD.gn rfl rfl (OpsD.gn rfl rfl (OpsD.gn rfl rfl (OpsD.gn rfl rfl (OpsD.gn rfl rfl (OpsD.st (s := 25912) (.pkT rfl rfl rfl) rfl rfl (OpsD.nil ⟨by kernel_rfl, ?_⟩)))))))))))))
                refine Run.condT rfl rfl (Run.seq (Run.ops hm (Ops.st (s := 29672) (.bd rfl rfl) rfl rfl (Ops.st (s := 29688) (Ev.bsW (ys := ([] : List Message)) (f := (encMessage true)) rfl .nil rfl rfl rfl rfl rfl) rfl rfl (Ops.s0 (s := 29704) (.sto rfl rfl rfl rfl rfl rfl) rfl rfl (Ops.p rfl (Ops.p rfl (Ops.p rfl (Ops.nil (Run.ret ?_))))))))))
                obtain rfl := someO h
                exact Ends.mkG (.inl rfl) rfl (Gh.trans (Gh.trans (gh_prn [0, 1, 2, 3] [29688] hB rfl) (gh_nil [0] [] hB rfl rfl rfl)) (gh_pk [0, 1, 2, 3] [10000000, 10000001, 10000002, 10000003, 29688] hB rfl rfl rfl rfl)) rfl rfl
              · refine OpsD.gp rfl g_1823 rfl ?_
                obtain ⟨y_1824, hy_1824, h⟩ := bindO h
                refine OpsD.gs (s := 25736) rfl g_1823 (Ev.call [] [] 0 (sem_spec_l16ConfIndex N x_1 _ hy_1824) rfl rfl (.cons (.agg (.cons (.c _) (.cons (.c _) (.cons (.c _) (.cons (.c _) (.cons (.c _) (.cons (.c _) (.cons (.c _) (.cons (.c _) (.cons (.c _) (.cons (.c _) (.cons (.c _) (.cons (.c _) (.cons (.c _) (.cons (.c _) .nil))))))))))))))) .nil) rfl (.inl rfl) rfl rfl) rfl rfl (OpsD.gp rfl g_1823 rfl (OpsD.gp rfl g_1823 rfl (OpsD.gp rfl g_1823 rfl (OpsD.st (s := 25800) (.pkF rfl g_1823 rfl) rfl rfl (OpsD.p rfl (OpsD.askO (x := .t 67) rfl h (fun g_1825 h => ?_) (fun g_1825 h => ?_)))))))
                · refine OpsD.gn rfl g_1825 (OpsD.gn rfl g_1825 (OpsD.gn rfl g_1825 (OpsD.gn rfl g_1825 (OpsD.gn rfl g_1825 (OpsD.st (s := 25912) (.pkT rfl g_1825 rfl) rfl rfl (OpsD.nil ⟨by kernel_rfl, ?_⟩))))))
                  refine Run.condT rfl rfl (Run.seq (Run.ops hm (Ops.st (s := 29672) (.bd rfl rfl) rfl rfl (Ops.st (s := 29688) (Ev.bsW (ys := ([] : List Message)) (f := (encMessage true)) rfl .nil rfl rfl rfl rfl rfl) rfl rfl (Ops.s0 (s := 29704) (.sto rfl rfl rfl rfl rfl rfl) rfl rfl (Ops.p rfl (Ops.p rfl (Ops.p rfl (Ops.nil (Run.ret ?_))))))))))
                  obtain rfl := someO h
                  exact Ends.mkG (.inl rfl) rfl (Gh.trans (Gh.trans (gh_prn [0, 1, 2, 3] [29688] hB rfl) (gh_nil [0] [] hB rfl rfl rfl)) (gh_pk [0, 1, 2, 3] [10000000, 10000001, 10000002, 10000003, 29688] hB rfl rfl rfl rfl)) rfl rfl
                · refine OpsD.gp rfl g_1825 rfl ?_
                  obtain ⟨y_1826, hy_1826, h⟩ := bindO h
                  refine OpsD.gs (s := 25848) rfl g_1825 (Ev.call [] [] 1 (sem_spec_ConfOf N x_1 _ hy_1826) rfl rfl (.cons (.agg (.cons (.c _) (.cons (.c _) (.cons (.c _) (.cons (.c _) (.cons (.c _) (.cons (.c _) (.cons (.c _) (.cons (.c _) (.cons (.c _) (.cons (.c _) (.cons (.c _) (.cons (.c _) (.cons (.c _) (.cons (.c _) .nil))))))))))))))) .nil) rfl (.inl rfl) rfl rfl) rfl rfl (OpsD.gp rfl g_1825 rfl ?_)
                  obtain ⟨y_1827, hy_1827, h⟩ := bindO h
                  refine OpsD.gs (s := 25880) rfl g_1825 (Ev.call [] [25848, 21496] 0 (sem_spec_l16Near N y_1826 y_1815.1 _ hy_1827) rfl rfl (.cons (.borrow rfl (by decide) (lendW (fun _ => rfl) _ rfl)) (.cons (.borrow rfl (by decide) (lendW (fun _ => rfl) _ rfl)) .nil)) rfl (.inr ⟨rfl, ownL_root trivial⟩) rfl rfl) rfl rfl ?_
                  refine OpsD.gp rfl g_1825 rfl (OpsD.st (s := 25912) (.pkF rfl g_1825 rfl) rfl rfl (OpsD.nil ⟨by kernel_rfl, ?_⟩))
                  refine Run.condO rfl h (fun g_1828 h => ?_) (fun g_1828 h => ?_)
                  · refine Run.seq (Run.ops hm (Ops.st (s := 29672) (.bd rfl rfl) rfl rfl (Ops.st (s := 29688) (Ev.bsW (ys := ([] : List Message)) (f := (encMessage true)) rfl .nil rfl rfl rfl rfl rfl) rfl rfl (Ops.s0 (s := 29704) (.sto rfl rfl rfl rfl rfl rfl) rfl rfl (Ops.p rfl (Ops.p rfl (Ops.p rfl (Ops.nil (Run.ret ?_)))))))))
                    obtain rfl := someO h
                    exact Ends.mkG (.inl rfl) rfl (Gh.trans (Gh.trans (gh_prn [0, 1, 2, 3] [29688] hB rfl) (gh_nil [0] [] hB rfl rfl rfl)) (gh_pk [0, 1, 2, 3] [10000000, 10000001, 10000002, 10000003, 29688] hB rfl rfl rfl rfl)) rfl rfl
                  · exact Run.skip (⟨_, _, (Gh.trans (Gh.trans (gh_prn [3, 6, 10] [1000, 1016, 5176] hB rfl) (gh_nil [] [1016] hB rfl rfl rfl)) (gh_pk [3, 6, 10] [1000, 1016, 5176, 20000000, 20000001, 20000002, 20000003] hB rfl rfl rfl rfl)), (), h, rfl, rfl⟩)
            · exact Run.skip (⟨_, _, (Gh.trans (Gh.trans (gh_prn [3, 6, 10] [1000, 1016, 5176] hB rfl) (gh_nil [] [1016] hB rfl rfl rfl)) (gh_pk [3, 6, 10] [1000, 1016, 5176, 20000000, 20000001, 20000002, 20000003] hB rfl rfl rfl rfl)), (), h, rfl, rfl⟩)
          · refine Run.seq (Run.ops hm (Ops.p rfl ?_))
            obtain ⟨y_1832, hy_1832, h⟩ := bindO h
            refine Ops.st (s := 33784) (Ev.call [] [] 4 (sem_spec_l16Copy N x_1 _ hy_1832) rfl rfl (.cons (.agg (.cons (.c _) (.cons (.c _) (.cons (.c _) (.cons (.c _) (.cons (.c _) (.cons (.c _) (.cons (.c _) (.cons (.c _) (.cons (.c _) (.cons (.c _) (.cons (.c _) (.cons (.c _) (.cons (.c _) (.cons (.c _) .nil))))))))))))))) .nil) rfl (.inl rfl) rfl rfl) rfl rfl (Ops.st (s := 33800) (.bd rfl rfl) rfl rfl (Ops.st (s := 33816) (.bx rfl rfl) rfl rfl (Ops.p rfl (Ops.nil (Run.seq (Run.ops hm (Ops.p rfl (Ops.p rfl ?_))))))))
            obtain ⟨y_1836, hy_1836, h⟩ := bindO h
            refine Ops.st (s := 37896) (Ev.call [] [] 0 (sem_spec_l12Last N x_1.Log _ hy_1836) rfl rfl (.cons (.agg (.cons (.c _) (.cons (.c _) (.cons (.c _) .nil)))) .nil) rfl (.inl rfl) rfl rfl) rfl rfl (Ops.p rfl (Ops.p rfl (Ops.nil (Run.seq (Run.draw hm hmix (OpsD.p rfl (OpsD.p rfl (OpsD.p rfl (OpsD.p rfl (OpsD.p rfl (OpsD.p rfl (OpsD.p rfl (OpsD.p rfl (OpsD.st (s := 42088) (Ev.bsW (ys := ([(Entry.mk x_1.Term x_2 x_3)] : List Entry)) (f := encEntry) rfl (.cons (.c _) (.cons (.c _) (.cons (.c _) .nil))) rfl rfl rfl rfl rfl) rfl rfl ?_))))))))))))))
            obtain ⟨x_1840, hx_1840, h⟩ := bindO h
            refine OpsD.st (s := 42104) (Ev.apW (f := encEntry) (ontoW rfl rfl rfl) (addsW rfl rfl rfl (fun _ => rfl)) rfl bt51 rfl hx_1840) rfl rfl (OpsD.p rfl (OpsD.p rfl (OpsD.p rfl (OpsD.p rfl (OpsD.s0 (s := 42184) (.sto rfl rfl rfl rfl rfl rfl) rfl rfl (OpsD.nil ⟨by kernel_rfl, ?_⟩))))))
            refine Run.seq (Run.draw hm hmix (OpsD.p rfl (OpsD.p rfl (OpsD.p rfl (OpsD.p rfl ?_)))))
            obtain ⟨y_1847, hy_1847, h⟩ := bindO h
            refine OpsD.st (s := 46120) (Ev.call [] [33784, 42104, 33786, 33787] 1 (sem_spec_ConfOf N (Node.mk y_1832.Id y_1832.Term y_1832.Vote y_1832.Role y_1832.Lead y_1832.Conf (Log.mk y_1832.Log.Start y_1832.Log.StartTerm x_1840) y_1832.Commit y_1832.Clock y_1832.Limit y_1832.Votes y_1832.Peers) _ hy_1847) rfl rfl (.cons (.agg (.cons (.c _) (.cons (.c _) (.cons (.c _) (.cons (.c _) (.cons (.c _) (.cons (.borrow rfl (by decide) (lendW (fun _ => rfl) _ rfl)) (.cons (.c _) (.cons (.c _) (.cons (.borrow rfl (by decide) (lendW (fun _ => rfl) _ rfl)) (.cons (.c _) (.cons (.c _) (.cons (.c _) (.cons (.borrow rfl (by decide) (lendW (fun _ => rfl) _ rfl)) (.cons (.borrow rfl (by decide) (lendW (fun _ => rfl) _ rfl)) .nil))))))))))))))) .nil) rfl (.inr ⟨rfl, ownL_root ⟨own_rows (fun _ => rfl) _, trivial⟩⟩) rfl rfl) rfl rfl ?_
            refine OpsD.p rfl (OpsD.p rfl ?_)
            obtain ⟨y_1848, hy_1848, h⟩ := bindO h
            refine OpsD.st (s := 46168) (Ev.call [] [46120] 1 (sem_spec_l16Others N y_1847 x_1.Id _ hy_1848) rfl rfl (.cons (.borrow rfl (by decide) (lendW (fun _ => rfl) _ rfl)) (.cons (.c _) .nil)) rfl (.inr ⟨rfl, ownL_root ⟨own_rows (fun _ => rfl) _, trivial⟩⟩) rfl rfl) rfl rfl ?_
            refine OpsD.p rfl (OpsD.nil ⟨by kernel_rfl, ?_⟩)
            refine Run.seq (Run.ops hm (Ops.st (s := 50152) (Ev.bsW (ys := ([] : List Peer)) (f := encPeer) rfl .nil rfl rfl rfl rfl rfl) rfl rfl (Ops.p rfl (Ops.nil (Run.seqO h (fun (v_2636 : (List Peer)) => [(6, .ptr 0 0), (13, .ptr 1 0), (14, VI (w64 (y_1836 + (1 : Int)))), (16, .sl 2 135 0 v_2636.length)]) (fun (v_2636 : (List Peer)) => [(0, .box [VI (0 : Int), VI (0 : Int), VI (0 : Int), VI (0 : Int), VI (0 : Int), .sl 3 3 0 (([] : (List Int)).length), VI (0 : Int), VI (0 : Int), .sl 4 51 0 (([] : (List Entry)).length), VI (0 : Int), VI (0 : Int), VI (0 : Int), .sl 5 3 0 (([] : (List Int)).length), .sl 6 135 0 (([] : (List Peer)).length)]), (1, .box [VI y_1832.Id, VI y_1832.Term, VI y_1832.Vote, VI y_1832.Role, VI y_1832.Lead, .sl 7 3 0 y_1832.Conf.length, VI y_1832.Log.Start, VI y_1832.Log.StartTerm, .sl 8 51 0 x_1840.length, VI y_1832.Commit, VI y_1832.Clock, VI y_1832.Limit, .sl 9 3 0 y_1832.Votes.length, .sl 10 135 0 y_1832.Peers.length, .sl 11 58 0 (([] : (List Message)).length)]), (2, .vec 135 (v_2636.map encPeer)), (3, .vec 3 (([] : (List Int)).map encI)), (4, .vec 51 (([] : (List Entry)).map encEntry)), (5, .vec 3 (([] : (List Int)).map encI)), (6, .vec 135 (([] : (List Peer)).map encPeer)), (7, .vec 3 (y_1832.Conf.map encI)), (8, .vec 51 (x_1840.map encEntry)), (9, .vec 3 (y_1832.Votes.map encI)), (10, .vec 135 (y_1832.Peers.map encPeer)), (11, .vec 58 (([] : (List Message)).map (encMessage true)))]) (fun h => ?_) (fun v_2636 h => ?_))))))
            · refine Run.seq (Run.ops hm (Ops.p rfl (Ops.nil (Run.block ?_))))
              obtain ⟨res_3053, h, hk_3053⟩ := bindO h
              refine Run.loop (n := N) (fun m_3053 fr σ => ∃ (x_2638 : Int), ∃ (x_2674 : (List Peer)), spec_Propose_l1 N x_1 y_1836 y_1848 m_3053 x_2638 x_2674 = some res_3053 ∧ fr = [(3, .ptr 0 0), (6, .ptr 1 0), (13, .ptr 2 0), (14, VI (w64 (y_1836 + (1 : Int)))), (15, .sl 3 3 0 y_1848.length), (16, .sl 4 135 0 x_2674.length), (17, VI x_2638)] ∧ σ = [(0, .box [VI x_1.Id, VI x_1.Term, VI x_1.Vote, VI x_1.Role, VI x_1.Lead, RO 3 (x_1.Conf.map encI), VI x_1.Log.Start, VI x_1.Log.StartTerm, RO 51 (x_1.Log.Entries.map encEntry), VI x_1.Commit, VI x_1.Clock, VI x_1.Limit, RO 3 (x_1.Votes.map encI), RO 135 (x_1.Peers.map encPeer)]), (1, .box [VI (0 : Int), VI (0 : Int), VI (0 : Int), VI (0 : Int), VI (0 : Int), .sl 5 3 0 (([] : (List Int)).length), VI (0 : Int), VI (0 : Int), .sl 6 51 0 (([] : (List Entry)).length), VI (0 : Int), VI (0 : Int), VI (0 : Int), .sl 7 3 0 (([] : (List Int)).length), .sl 8 135 0 (([] : (List Peer)).length)]), (2, .box [VI y_1832.Id, VI y_1832.Term, VI y_1832.Vote, VI y_1832.Role, VI y_1832.Lead, .sl 9 3 0 y_1832.Conf.length, VI y_1832.Log.Start, VI y_1832.Log.StartTerm, .sl 10 51 0 x_1840.length, VI y_1832.Commit, VI y_1832.Clock, VI y_1832.Limit, .sl 11 3 0 y_1832.Votes.length, .sl 12 135 0 y_1832.Peers.length, .sl 13 58 0 (([] : (List Message)).length)]), (3, .vec 3 (y_1848.map encI)), (4, .vec 135 (x_2674.map encPeer)), (5, .vec 3 (([] : (List Int)).map encI)), (6, .vec 51 (([] : (List Entry)).map encEntry)), (7, .vec 3 (([] : (List Int)).map encI)), (8, .vec 135 (([] : (List Peer)).map encPeer)), (9, .vec 3 (y_1832.Conf.map encI)), (10, .vec 51 (x_1840.map encEntry)), (11, .vec 3 (y_1832.Votes.map encI)), (12, .vec 135 (y_1832.Peers.map encPeer)), (13, .vec 58 (([] : (List Message)).map (encMessage true)))]) (Gh.trans (Gh.trans (gh_prn [3, 6, 13, 14, 15, 16, 17] [0, 1, 33816, 46168, 50152, 3, 4, 5, 6, 33784, 42104, 33786, 33787] hB rfl) (gh_nil [] [33816] hB rfl rfl rfl)) (gh_pk [3, 6, 13, 14, 15, 16, 17] [0, 1, 33816, 46168, 50152, 3, 4, 5, 6, 33784, 42104, 33786, 33787, 20000000] hB rfl rfl rfl rfl)) ⟨_, _, h, rfl, rfl⟩ ?_
              rintro m_3053 fr σ ⟨x_2638, x_2674, h, rfl, rfl⟩
              obtain _ | m_3053 := m_3053
              · rw [spec_Propose_l1] at h; cases h
              rw [spec_Propose_l1] at h
              refine Run.seq (Run.seq (Run.ops hm (Ops.p rfl (Ops.p rfl (Ops.p rfl (Ops.p rfl (Ops.nil (Run.condO rfl h (fun g_3056 h => ?_) (fun g_3056 h => ?_)))))))))
              · refine Run.skip (Run.seqO h (fun (v_3240 : (List Peer)) => [(3, .ptr 0 0), (6, .ptr 1 0), (13, .ptr 2 0), (14, VI (w64 (y_1836 + (1 : Int)))), (15, .sl 3 3 0 y_1848.length), (16, .sl 4 135 0 v_3240.length), (17, VI x_2638)]) (fun (v_3240 : (List Peer)) => [(0, .box [VI x_1.Id, VI x_1.Term, VI x_1.Vote, VI x_1.Role, VI x_1.Lead, RO 3 (x_1.Conf.map encI), VI x_1.Log.Start, VI x_1.Log.StartTerm, RO 51 (x_1.Log.Entries.map encEntry), VI x_1.Commit, VI x_1.Clock, VI x_1.Limit, RO 3 (x_1.Votes.map encI), RO 135 (x_1.Peers.map encPeer)]), (1, .box [VI (0 : Int), VI (0 : Int), VI (0 : Int), VI (0 : Int), VI (0 : Int), .sl 5 3 0 (([] : (List Int)).length), VI (0 : Int), VI (0 : Int), .sl 6 51 0 (([] : (List Entry)).length), VI (0 : Int), VI (0 : Int), VI (0 : Int), .sl 7 3 0 (([] : (List Int)).length), .sl 8 135 0 (([] : (List Peer)).length)]), (2, .box [VI y_1832.Id, VI y_1832.Term, VI y_1832.Vote, VI y_1832.Role, VI y_1832.Lead, .sl 9 3 0 y_1832.Conf.length, VI y_1832.Log.Start, VI y_1832.Log.StartTerm, .sl 10 51 0 x_1840.length, VI y_1832.Commit, VI y_1832.Clock, VI y_1832.Limit, .sl 11 3 0 y_1832.Votes.length, .sl 12 135 0 y_1832.Peers.length, .sl 13 58 0 (([] : (List Message)).length)]), (3, .vec 3 (y_1848.map encI)), (4, .vec 135 (v_3240.map encPeer)), (5, .vec 3 (([] : (List Int)).map encI)), (6, .vec 51 (([] : (List Entry)).map encEntry)), (7, .vec 3 (([] : (List Int)).map encI)), (8, .vec 135 (([] : (List Peer)).map encPeer)), (9, .vec 3 (y_1832.Conf.map encI)), (10, .vec 51 (x_1840.map encEntry)), (11, .vec 3 (y_1832.Votes.map encI)), (12, .vec 135 (y_1832.Peers.map encPeer)), (13, .vec 58 (([] : (List Message)).map (encMessage true)))]) (fun h => ?_) (fun v_3240 h => ?_))
                · refine Run.block (Run.seq (Run.ops hm (Ops.p rfl (Ops.p rfl ?_))))
                  obtain ⟨x_3244, hx_3244, h⟩ := bindO h
                  refine Ops.st (s := 66568) (Ev.iaW rfl rfl rfl hx_3244) rfl rfl (Ops.st (s := 66584) (Ev.ldE (f := encI) rfl rfl (at_some hx_3244).2 rfl rfl rfl) rfl rfl (Ops.p rfl (Ops.st (s := 66616) (.bd rfl rfl) rfl rfl (Ops.st (s := 66632) (.al rfl rfl) rfl rfl (Ops.s0 (s := 66648) (.sto rfl rfl rfl rfl rfl rfl) rfl rfl (Ops.nil (Run.seqO h (fun (v_3333 : Int × Int × Int × Int) => [(3, .ptr 0 0), (6, .ptr 1 0), (13, .ptr 2 0), (14, VI (w64 (y_1836 + (1 : Int)))), (15, .sl 3 3 0 y_1848.length), (16, .sl 4 135 0 x_2674.length), (17, VI x_2638), (18, .ptr 5 0)]) (fun (v_3333 : Int × Int × Int × Int) => [(0, .box [VI x_1.Id, VI x_1.Term, VI x_1.Vote, VI x_1.Role, VI x_1.Lead, RO 3 (x_1.Conf.map encI), VI x_1.Log.Start, VI x_1.Log.StartTerm, RO 51 (x_1.Log.Entries.map encEntry), VI x_1.Commit, VI x_1.Clock, VI x_1.Limit, RO 3 (x_1.Votes.map encI), RO 135 (x_1.Peers.map encPeer)]), (1, .box [VI (0 : Int), VI (0 : Int), VI (0 : Int), VI (0 : Int), VI (0 : Int), .sl 6 3 0 (([] : (List Int)).length), VI (0 : Int), VI (0 : Int), .sl 7 51 0 (([] : (List Entry)).length), VI (0 : Int), VI (0 : Int), VI (0 : Int), .sl 8 3 0 (([] : (List Int)).length), .sl 9 135 0 (([] : (List Peer)).length)]), (2, .box [VI y_1832.Id, VI y_1832.Term, VI y_1832.Vote, VI y_1832.Role, VI y_1832.Lead, .sl 10 3 0 y_1832.Conf.length, VI y_1832.Log.Start, VI y_1832.Log.StartTerm, .sl 11 51 0 x_1840.length, VI y_1832.Commit, VI y_1832.Clock, VI y_1832.Limit, .sl 12 3 0 y_1832.Votes.length, .sl 13 135 0 y_1832.Peers.length, .sl 14 58 0 (([] : (List Message)).length)]), (3, .vec 3 (y_1848.map encI)), (4, .vec 135 (x_2674.map encPeer)), (5, .box [VI v_3333.1, VI v_3333.2.1, VI v_3333.2.2.1, VI v_3333.2.2.2]), (6, .vec 3 (([] : (List Int)).map encI)), (7, .vec 51 (([] : (List Entry)).map encEntry)), (8, .vec 3 (([] : (List Int)).map encI)), (9, .vec 135 (([] : (List Peer)).map encPeer)), (10, .vec 3 (y_1832.Conf.map encI)), (11, .vec 51 (x_1840.map encEntry)), (12, .vec 3 (y_1832.Votes.map encI)), (13, .vec 135 (y_1832.Peers.map encPeer)), (14, .vec 58 (([] : (List Message)).map (encMessage true)))]) (fun h => ?_) (fun v_3333 h => ?_))))))))
                  · refine Run.seq (Run.ops hm (Ops.p rfl (Ops.nil (Run.block ?_))))
                    obtain ⟨res_3403, h, hk_3403⟩ := bindO h
                    refine Run.loop (n := N) (fun m_3403 fr σ => ∃ (x_3336 : Int), ∃ (x_3373 : Int), ∃ (x_3374 : Int), ∃ (x_3375 : Int), ∃ (x_3376 : Int), spec_Propose_l2 N x_1 y_1848 x_2638 m_3403 x_3336 x_3373 x_3374 x_3375 x_3376 = some res_3403 ∧ fr = [(3, .ptr 0 0), (6, .ptr 1 0), (13, .ptr 2 0), (14, VI (w64 (y_1836 + (1 : Int)))), (15, .sl 3 3 0 y_1848.length), (16, .sl 4 135 0 x_2674.length), (17, VI x_2638), (18, .ptr 5 0), (19, VI x_3336)] ∧ σ = [(0, .box [VI x_1.Id, VI x_1.Term, VI x_1.Vote, VI x_1.Role, VI x_1.Lead, RO 3 (x_1.Conf.map encI), VI x_1.Log.Start, VI x_1.Log.StartTerm, RO 51 (x_1.Log.Entries.map encEntry), VI x_1.Commit, VI x_1.Clock, VI x_1.Limit, RO 3 (x_1.Votes.map encI), RO 135 (x_1.Peers.map encPeer)]), (1, .box [VI (0 : Int), VI (0 : Int), VI (0 : Int), VI (0 : Int), VI (0 : Int), .sl 6 3 0 (([] : (List Int)).length), VI (0 : Int), VI (0 : Int), .sl 7 51 0 (([] : (List Entry)).length), VI (0 : Int), VI (0 : Int), VI (0 : Int), .sl 8 3 0 (([] : (List Int)).length), .sl 9 135 0 (([] : (List Peer)).length)]), (2, .box [VI y_1832.Id, VI y_1832.Term, VI y_1832.Vote, VI y_1832.Role, VI y_1832.Lead, .sl 10 3 0 y_1832.Conf.length, VI y_1832.Log.Start, VI y_1832.Log.StartTerm, .sl 11 51 0 x_1840.length, VI y_1832.Commit, VI y_1832.Clock, VI y_1832.Limit, .sl 12 3 0 y_1832.Votes.length, .sl 13 135 0 y_1832.Peers.length, .sl 14 58 0 (([] : (List Message)).length)]), (3, .vec 3 (y_1848.map encI)), (4, .vec 135 (x_2674.map encPeer)), (5, .box [VI x_3373, VI x_3374, VI x_3375, VI x_3376]), (6, .vec 3 (([] : (List Int)).map encI)), (7, .vec 51 (([] : (List Entry)).map encEntry)), (8, .vec 3 (([] : (List Int)).map encI)), (9, .vec 135 (([] : (List Peer)).map encPeer)), (10, .vec 3 (y_1832.Conf.map encI)), (11, .vec 51 (x_1840.map encEntry)), (12, .vec 3 (y_1832.Votes.map encI)), (13, .vec 135 (y_1832.Peers.map encPeer)), (14, .vec 58 (([] : (List Message)).map (encMessage true)))]) (gh_pk [3, 6, 13, 14, 15, 16, 17, 18, 19] [0, 1, 2, 3, 4, 66632, 5, 6, 7, 8, 9, 10, 11, 12, 13] hB rfl rfl rfl rfl) ⟨_, _, _, _, _, h, rfl, rfl⟩ ?_
                    rintro m_3403 fr σ ⟨x_3336, x_3373, x_3374, x_3375, x_3376, h, rfl, rfl⟩
                    obtain _ | m_3403 := m_3403
                    · rw [spec_Propose_l2] at h; cases h
                    rw [spec_Propose_l2] at h
                    refine Run.seq (Run.seq (Run.ops hm (Ops.p rfl (Ops.p rfl (Ops.p rfl (Ops.st (s := 74776) (Ev.lnF rfl) rfl rfl (Ops.p rfl (Ops.nil (Run.condO rfl h (fun g_3406 h => ?_) (fun g_3406 h => ?_))))))))))
                    · refine Run.skip (Run.seqO h (fun (v_3414 : Int × Int × Int × Int) => [(3, .ptr 0 0), (6, .ptr 1 0), (13, .ptr 2 0), (14, VI (w64 (y_1836 + (1 : Int)))), (15, .sl 3 3 0 y_1848.length), (16, .sl 4 135 0 x_2674.length), (17, VI x_2638), (18, .ptr 5 0), (19, VI x_3336)]) (fun (v_3414 : Int × Int × Int × Int) => [(0, .box [VI x_1.Id, VI x_1.Term, VI x_1.Vote, VI x_1.Role, VI x_1.Lead, RO 3 (x_1.Conf.map encI), VI x_1.Log.Start, VI x_1.Log.StartTerm, RO 51 (x_1.Log.Entries.map encEntry), VI x_1.Commit, VI x_1.Clock, VI x_1.Limit, RO 3 (x_1.Votes.map encI), RO 135 (x_1.Peers.map encPeer)]), (1, .box [VI (0 : Int), VI (0 : Int), VI (0 : Int), VI (0 : Int), VI (0 : Int), .sl 6 3 0 (([] : (List Int)).length), VI (0 : Int), VI (0 : Int), .sl 7 51 0 (([] : (List Entry)).length), VI (0 : Int), VI (0 : Int), VI (0 : Int), .sl 8 3 0 (([] : (List Int)).length), .sl 9 135 0 (([] : (List Peer)).length)]), (2, .box [VI y_1832.Id, VI y_1832.Term, VI y_1832.Vote, VI y_1832.Role, VI y_1832.Lead, .sl 10 3 0 y_1832.Conf.length, VI y_1832.Log.Start, VI y_1832.Log.StartTerm, .sl 11 51 0 x_1840.length, VI y_1832.Commit, VI y_1832.Clock, VI y_1832.Limit, .sl 12 3 0 y_1832.Votes.length, .sl 13 135 0 y_1832.Peers.length, .sl 14 58 0 (([] : (List Message)).length)]), (3, .vec 3 (y_1848.map encI)), (4, .vec 135 (x_2674.map encPeer)), (5, .box [VI v_3414.1, VI v_3414.2.1, VI v_3414.2.2.1, VI v_3414.2.2.2]), (6, .vec 3 (([] : (List Int)).map encI)), (7, .vec 51 (([] : (List Entry)).map encEntry)), (8, .vec 3 (([] : (List Int)).map encI)), (9, .vec 135 (([] : (List Peer)).map encPeer)), (10, .vec 3 (y_1832.Conf.map encI)), (11, .vec 51 (x_1840.map encEntry)), (12, .vec 3 (y_1832.Votes.map encI)), (13, .vec 135 (y_1832.Peers.map encPeer)), (14, .vec 58 (([] : (List Message)).map (encMessage true)))]) (fun h => ?_) (fun v_3414 h => ?_))
                      · refine Run.block (Run.seq (Run.draw hm hmix (OpsD.p rfl (OpsD.p rfl (OpsD.p rfl ?_)))))
                        obtain ⟨x_3417, hx_3417, h⟩ := bindO h
                        refine OpsD.st (s := 82968) (Ev.iaF rfl rfl hx_3417) rfl rfl (OpsD.p rfl (OpsD.p rfl (OpsD.p rfl (OpsD.p rfl ?_))))
                        obtain ⟨x_3418, hx_3418, h⟩ := bindO h
                        refine OpsD.st (s := 83048) (Ev.iaW rfl rfl rfl hx_3418) rfl rfl (OpsD.st (s := 83064) (Ev.ldE (f := encI) rfl rfl (at_some hx_3418).2 rfl rfl rfl) rfl rfl (OpsD.p rfl (OpsD.nil ⟨by kernel_rfl, ?_⟩)))
                        refine Run.condO rfl h (fun g_3419 h => ?_) (fun g_3419 h => ?_)
                        · refine Run.ops hm (Ops.p rfl (Ops.p rfl (Ops.p rfl ?_)))
                          obtain ⟨x_3421, hx_3421, h⟩ := bindO h
                          exact Ops.st (s := 87064) (Ev.iaF rfl rfl hx_3421) rfl rfl (Ops.p rfl (Ops.s0 (s := 87096) (.sto rfl rfl rfl rfl rfl rfl) rfl rfl (Ops.nil (⟨_, _, (gh_pk [3, 6, 13, 14, 15, 16, 17, 18, 19] [0, 1, 2, 3, 4, 5, 6, 7, 8, 9, 10, 11, 12, 13, 14] hB rfl rfl rfl rfl), (x_3421.Id, x_3421.Next, x_3421.Match, x_3421.Sent), h, rfl, rfl⟩))))
                        · exact Run.skip (⟨_, _, (gh_pk [3, 6, 13, 14, 15, 16, 17, 18, 19] [0, 1, 2, 3, 4, 5, 6, 7, 8, 9, 10, 11, 12, 13, 14] hB rfl rfl rfl rfl), (x_3373, x_3374, x_3375, x_3376), h, rfl, rfl⟩)
                      · exact Run.ops hm (Ops.p rfl (Ops.p rfl (Ops.p rfl (Ops.nil (⟨m_3403, Nat.lt_succ_self m_3403, _, _, (gh_pk [3, 6, 13, 14, 15, 16, 17, 18, 19] [0, 1, 2, 3, 4, 5, 6, 7, 8, 9, 10, 11, 12, 13, 14] hB rfl rfl rfl rfl), _, _, _, _, _, h, rfl, rfl⟩)))))
                    · refine Run.exit ?_
                      obtain rfl := someO h
                      have h := hk_3403
                      exact ⟨_, _, (gh_pk [3, 6, 13, 14, 15, 16, 17, 18] [0, 1, 2, 3, 4, 5, 6, 7, 8, 9, 10, 11, 12, 13, 14] hB rfl rfl rfl rfl), (x_3373, x_3374, x_3375, x_3376), h, rfl, rfl⟩
                  · refine Run.ops hm (Ops.p rfl (Ops.p rfl (Ops.st (s := 91144) (Ev.bsW (ys := ([(Peer.mk v_3333.1 v_3333.2.1 v_3333.2.2.1 v_3333.2.2.2)] : List Peer)) (f := encPeer) rfl (.cons (.c _) (.cons (.c _) (.cons (.c _) (.cons (.c _) .nil)))) rfl rfl rfl rfl rfl) rfl rfl ?_)))
                    obtain ⟨x_3423, hx_3423, h⟩ := bindO h
                    exact Ops.st (s := 91160) (Ev.apW (f := encPeer) (ontoW rfl rfl rfl) (addsW rfl rfl rfl (fun _ => rfl)) rfl bt135 rfl hx_3423) rfl rfl (Ops.p rfl (Ops.nil (⟨_, _, (gh_pk [3, 6, 13, 14, 15, 16, 17] [0, 1, 2, 3, 91160, 6, 7, 8, 9, 10, 11, 12, 13, 14] hB rfl rfl rfl rfl), x_3423, h, rfl, rfl⟩)))
                · exact Run.ops hm (Ops.p rfl (Ops.p rfl (Ops.p rfl (Ops.nil (⟨m_3053, Nat.lt_succ_self m_3053, _, _, (gh_pk [3, 6, 13, 14, 15, 16, 17] [0, 1, 2, 3, 4, 5, 6, 7, 8, 9, 10, 11, 12, 13] hB rfl rfl rfl rfl), _, _, h, rfl, rfl⟩)))))
              · refine Run.exit ?_
                obtain rfl := someO h
                have h := hk_3053
                exact ⟨_, _, (gh_pk [6, 13, 14, 16] [1, 2, 4, 5, 6, 7, 8, 9, 10, 11, 12, 13] hB rfl rfl rfl rfl), x_2674, h, rfl, rfl⟩
            · refine Run.seq (Run.ops hm (Ops.p rfl (Ops.p rfl (Ops.p rfl (Ops.p rfl (Ops.p rfl (Ops.s0 (s := 95288) (.sto rfl rfl rfl rfl rfl rfl) rfl rfl (Ops.nil (Run.seq (Run.ops hm (Ops.p rfl ?_)))))))))))
              obtain ⟨y_3427, hy_3427, h⟩ := bindO h
              refine Ops.st (s := 99320) (Ev.call [1, 7, 8, 9, 2, 11] [] 5 (sem_spec_l16Commit N (Tl16Run.mk (Node.mk y_1832.Id y_1832.Term y_1832.Vote y_1832.Role y_1832.Lead y_1832.Conf (Log.mk y_1832.Log.Start y_1832.Log.StartTerm x_1840) y_1832.Commit y_1832.Clock y_1832.Limit y_1832.Votes v_2636) ([] : (List Message))) _ hy_3427) rfl rfl (.cons (.ptr rfl) .nil) rfl (.inl rfl) rfl rfl) rfl rfl (Ops.nil (Run.seq (Run.ops hm (Ops.p rfl ?_))))
              obtain ⟨y_3431, hy_3431, h⟩ := bindO h
              refine Ops.st (s := 103416) (Ev.call [1, 99320, 99321, 99322, 99323, 99324] [] 5 (sem_spec_l16SendAll N y_3427 _ hy_3431) rfl rfl (.cons (.ptr rfl) .nil) rfl (.inl rfl) rfl rfl) rfl rfl (Ops.nil (Run.seq (Run.draw hm hmix (OpsD.p rfl (OpsD.p rfl (OpsD.p rfl (OpsD.p rfl (OpsD.p rfl (OpsD.p rfl (OpsD.p rfl (OpsD.p rfl (OpsD.p rfl (OpsD.s0 (s := 107640) (.sto rfl rfl rfl rfl rfl rfl) rfl rfl (OpsD.p rfl (OpsD.p rfl (OpsD.p rfl (OpsD.nil ⟨by kernel_rfl, ?_⟩)))))))))))))))))
              refine Run.ret ?_
              obtain rfl := someO h
              exact Ends.mkG (.inl rfl) rfl (gh_pk [0, 1, 2, 3] [103416, 103417, 103418, 103419, 103420] hB rfl rfl rfl rfl) rfl rfl
def impl_within (N : Nat) (x_1 : Int) (x_2 : Int) (x_3 : Int) : Option (Bool) :=
 (if (decide (x_1 ≥ x_2)) = true then
 some (decide (x_1 ≤ x_3))
 else
 some false)
theorem sem_impl_within (N : Nat) (x_1 : Int) (x_2 : Int) (x_3 : Int) (r : Bool) (h : impl_within N x_1 x_2 x_3 = some r) : Says Try.prog 50 [VI x_1, VI x_2, VI x_3] 0 [] (VB r) [] := by
  unfold impl_within at h
  refine Says.of_run s50 Try.call50 rfl fun B hB => ?_
  have hm : B.m ≤ 1000 := by omega
  refine Run.seq (Run.ops hm (Ops.p rfl (Ops.nil (Run.seq (Run.ops hm (Ops.p rfl (Ops.p rfl (Ops.p rfl (Ops.p rfl (Ops.askO (x := .t 10) rfl h (fun g_103 h => ?_) (fun g_103 h => ?_)))))))))))
  · refine Ops.gp rfl g_103 rfl (Ops.gp rfl g_103 rfl (Ops.gp rfl g_103 rfl (Ops.st (s := 5208) (.pkT rfl g_103 rfl) rfl rfl (Ops.p rfl (Ops.nil (Run.ret ?_))))))
    obtain rfl := someO h
    exact Ends.mkG (.inl rfl) rfl (gh_pk [0] [] hB rfl rfl rfl rfl) rfl rfl
  · refine Ops.gn rfl g_103 (Ops.gn rfl g_103 (Ops.gn rfl g_103 (Ops.st (s := 5208) (.pkF rfl g_103 rfl) rfl rfl (Ops.p rfl (Ops.nil (Run.ret ?_))))))
    obtain rfl := someO h
    exact Ends.mkG (.inl rfl) rfl (gh_pk [0] [] hB rfl rfl rfl rfl) rfl rfl
def impl_ConfOk_l1 (N : Nat) (x_1 : (List Int)) : Nat → Int → Option ((Bool) ⊕ (Unit))
 | 0, _ => none
 | m + 1, x_218 =>
 (if (decide (x_218 < (x_1.length : Int))) = true then
 (at? x_1 x_218).bind fun x_242 =>
 (impl_within N x_242 (1 : Int) (4 : Int)).bind fun y_247 =>
 (if (!y_247) = true then
 some (Sum.inl false)
 else
 (if (decide (x_218 > (0 : Int))) = true then
 (at? x_1 (w64 (x_218 - (1 : Int)))).bind fun x_250 =>
 (if (decide (x_250 ≥ x_242)) = true then
 some (Sum.inl false)
 else
 impl_ConfOk_l1 N x_1 m (w64 (x_218 + (1 : Int))))
 else
 impl_ConfOk_l1 N x_1 m (w64 (x_218 + (1 : Int)))))
 else
 some (Sum.inr ()))
def impl_ConfOk_l1_r (N : Nat) (x_1 : (List Int)) : (List Int) → Int → Option ((Bool) ⊕ (Unit))
 | [], x_218 =>
 some (Sum.inr ())
 | hd :: tl, x_218 =>
 (some hd).bind fun x_242 =>
 (impl_within N x_242 (1 : Int) (4 : Int)).bind fun y_247 =>
 (if (!y_247) = true then
 some (Sum.inl false)
 else
 (if (decide (x_218 > (0 : Int))) = true then
 (at? x_1 (w64 (x_218 - (1 : Int)))).bind fun x_250 =>
 (if (decide (x_250 ≥ x_242)) = true then
 some (Sum.inl false)
 else
 impl_ConfOk_l1_r N x_1 tl (w64 (x_218 + (1 : Int))))
 else
 impl_ConfOk_l1_r N x_1 tl (w64 (x_218 + (1 : Int)))))
theorem impl_ConfOk_l1_rng (N : Nat) (x_1 : (List Int)) (hx : x_1.length ≤ 1099511627776) : ∀ (d k m : Nat), x_1.length = k + d → d < m → impl_ConfOk_l1 N x_1 m (k : Int) = impl_ConfOk_l1_r N x_1 (x_1.drop k) (k : Int) := by
  intro d
  induction d with
  | zero =>
    intro k m hd hm
    obtain ⟨m, rfl⟩ : ∃ q, m = q + 1 := ⟨m - 1, by omega⟩
    rw [impl_ConfOk_l1, if_neg (by simp; omega), List.drop_eq_nil_of_le (by omega), impl_ConfOk_l1_r]
  | succ d ih =>
    intro k m hd hm
    obtain ⟨m, rfl⟩ : ∃ q, m = q + 1 := ⟨m - 1, by omega⟩
    have hk : k < x_1.length := by omega
    rw [impl_ConfOk_l1, if_pos (by simp; omega), List.drop_eq_getElem_cons hk, impl_ConfOk_l1_r]
    have h1 := at_lt hk
    have h2 := w64_succ (k := k) (by omega)
    have h3 := ih (k + 1) m
    simp only [h1, h2, h3 (by omega) (by omega)]
theorem impl_ConfOk_l1_eq {N : Nat} (x_1 : (List Int)) (hx : x_1.length ≤ 1099511627776) (hN : x_1.length < N) : impl_ConfOk_l1 N x_1 N 0 = impl_ConfOk_l1_r N x_1 x_1 0 := impl_ConfOk_l1_rng N x_1 hx x_1.length 0 N (by omega) hN
def impl_ConfOk (N : Nat) (x_1 : (List Int)) : Option (Bool) :=
 joinP (fun (v_214 : Unit) =>
 (impl_within N (x_1.length : Int) (1 : Int) (4 : Int)).bind fun y_253 =>
 some y_253) fun j_214 =>
 (impl_ConfOk_l1 N x_1 N (0 : Int)).bind (Sum.elim (fun v_234 => some v_234) (fun (v_235 : Unit) => j_214 ()))
theorem sem_impl_ConfOk (N : Nat) (x_1 : (List Int)) (r : Bool) (h : impl_ConfOk N x_1 = some r) : Says Try.prog 71 [RO 3 (x_1.map encI)] 0 [] (VB r) [] := by
  unfold impl_ConfOk at h
  refine Says.of_run s71 Try.call71 rfl fun B hB => ?_
  have hm : B.m ≤ 1000 := by omega
  refine Run.seq (Run.ops hm (Ops.p rfl (Ops.nil (Run.seqO h (fun (v_214 : Unit) => [(0, RO 3 (x_1.map encI))]) (fun (v_214 : Unit) => []) (fun h => ?_) (fun v_214 h => ?_)))))
  · refine Run.seq (Run.ops hm (Ops.p rfl (Ops.st (s := 5112) (Ev.lnF rfl) rfl rfl (Ops.p rfl (Ops.nil (Run.block ?_))))))
    obtain ⟨res_235, h, hk_235⟩ := bindO h
    refine Run.loop (n := N) (fun m_235 fr σ => ∃ (x_218 : Int), impl_ConfOk_l1 N x_1 m_235 x_218 = some res_235 ∧ fr = [(0, RO 3 (x_1.map encI)), (5, RO 3 (x_1.map encI)), (6, VI (x_1.length : Int)), (7, VI x_218)] ∧ σ = []) (gh_pk [0, 5, 6, 7] [] hB rfl rfl rfl rfl) ⟨_, h, rfl, rfl⟩ ?_
    rintro m_235 fr σ ⟨x_218, h, rfl, rfl⟩
    obtain _ | m_235 := m_235
    · rw [impl_ConfOk_l1] at h; cases h
    rw [impl_ConfOk_l1] at h
    refine Run.seq (Run.ops hm (Ops.p rfl (Ops.nil (Run.seq (Run.condO rfl h (fun g_238 h => ?_) (fun g_238 h => ?_))))))
    · refine Run.skip (Run.seq (Run.block (Run.seq (Run.ops hm (Ops.p rfl ?_)))))
      obtain ⟨x_242, hx_242, h⟩ := bindO h
      refine Ops.st (s := 13304) (Ev.iaF rfl rfl hx_242) rfl rfl (Ops.p rfl (Ops.p rfl (Ops.p rfl (Ops.nil (Run.seq (Run.ops hm (Ops.p rfl ?_)))))))
      obtain ⟨y_247, hy_247, h⟩ := bindO h
      refine Ops.st (s := 17400) (Ev.call [] [] 0 (sem_impl_within N x_242 (1 : Int) (4 : Int) _ hy_247) rfl rfl (.cons (.c _) (.cons (.c _) (.cons (.c _) .nil))) rfl (.inl rfl) rfl rfl) rfl rfl (Ops.p rfl (Ops.p rfl (Ops.askO (x := .t 15) rfl h (fun g_248 h => ?_) (fun g_248 h => ?_))))
      · refine Ops.gn rfl g_248 (Ops.gn rfl g_248 (Ops.gn rfl g_248 (Ops.gu rfl (Ops.gu rfl (Ops.gu rfl (Ops.gu rfl (Ops.gu rfl (Ops.gu rfl (Ops.gu rfl (Ops.gn rfl g_248 (Ops.st (s := 17624) (.pkT rfl g_248 rfl) rfl rfl (Ops.nil (Run.condT rfl rfl (Run.seq (Run.ops hm (Ops.p rfl (Ops.nil (Run.ret ?_))))))))))))))))))
        obtain rfl := someO h
        have h := hk_235
        replace h := inlO h
        obtain rfl := someO h
        exact Ends.mkG (.inl rfl) rfl (gh_pk [0] [] hB rfl rfl rfl rfl) rfl rfl
      · refine Ops.gp rfl g_248 rfl (Ops.gp rfl g_248 rfl (Ops.gp rfl g_248 rfl (Ops.askO (x := .t 18) rfl h (fun g_249 h => ?_) (fun g_249 h => ?_))))
        · refine Ops.gp rfl g_249 rfl (Ops.gp rfl g_249 rfl (Ops.gp rfl g_249 rfl ?_))
          obtain ⟨x_250, hx_250, h⟩ := bindO h
          refine Ops.gs (s := 17544) rfl g_249 (Ev.iaF rfl rfl hx_250) rfl rfl (Ops.gp rfl g_249 rfl (Ops.gp rfl g_249 rfl (Ops.gp rfl g_249 rfl (Ops.gs (s := 17608) rfl g_248 (.pkT rfl g_249 rfl) rfl rfl (Ops.st (s := 17624) (.pkF rfl g_248 rfl) rfl rfl (Ops.nil (Run.condO rfl h (fun g_251 h => ?_) (fun g_251 h => ?_))))))))
          · refine Run.seq (Run.ops hm (Ops.p rfl (Ops.nil (Run.ret ?_))))
            obtain rfl := someO h
            have h := hk_235
            replace h := inlO h
            obtain rfl := someO h
            exact Ends.mkG (.inl rfl) rfl (gh_pk [0] [] hB rfl rfl rfl rfl) rfl rfl
          · exact Run.skip (Run.ops hm (Ops.p rfl (Ops.p rfl (Ops.nil (⟨m_235, Nat.lt_succ_self m_235, _, _, (gh_pk [0, 5, 6, 7] [] hB rfl rfl rfl rfl), _, h, rfl, rfl⟩)))))
        · exact Ops.gn rfl g_249 (Ops.gn rfl g_249 (Ops.gn rfl g_249 (Ops.gn rfl g_249 (Ops.gn rfl g_249 (Ops.gn rfl g_249 (Ops.gn rfl g_249 (Ops.gs (s := 17608) rfl g_248 (.pkF rfl g_249 rfl) rfl rfl (Ops.st (s := 17624) (.pkF rfl g_248 rfl) rfl rfl (Ops.nil (Run.condF rfl rfl (Run.skip (Run.ops hm (Ops.p rfl (Ops.p rfl (Ops.nil (⟨m_235, Nat.lt_succ_self m_235, _, _, (gh_pk [0, 5, 6, 7] [] hB rfl rfl rfl rfl), _, h, rfl, rfl⟩))))))))))))))))
    · refine Run.exit ?_
      obtain rfl := someO h
      have h := hk_235
      replace h := inrO h
      exact ⟨_, _, (gh_pk [0] [] hB rfl rfl rfl rfl), (), h, rfl, rfl⟩
  · refine Run.seq (Run.ops hm (Ops.p rfl (Ops.st (s := 29688) (Ev.lnF rfl) rfl rfl ?_)))
    obtain ⟨y_253, hy_253, h⟩ := bindO h
    refine Ops.st (s := 29704) (Ev.call [] [] 0 (sem_impl_within N (x_1.length : Int) (1 : Int) (4 : Int) _ hy_253) rfl rfl (.cons (.c _) (.cons (.c _) (.cons (.c _) .nil))) rfl (.inl rfl) rfl rfl) rfl rfl (Ops.p rfl (Ops.nil (Run.ret ?_)))
    obtain rfl := someO h
    exact Ends.mkG (.inl rfl) rfl (gh_pk [0] [] hB rfl rfl rfl rfl) rfl rfl
def impl_ReadConf_l1 (N : Nat) (x_1 : ByteArray) : Nat → Int → (List Int) → Option ((List Int))
 | 0, _, _ => none
 | m + 1, x_184, x_185 =>
 (if (decide (x_184 < (x_1.size : Int))) = true then
 (sat? x_1 x_184).bind fun x_206 =>
 (cat? x_185 ([w64 (x_206)] : List Int)).bind fun x_207 =>
 impl_ReadConf_l1 N x_1 m (w64 (x_184 + (1 : Int))) x_207
 else
 some x_185)
def impl_ReadConf (N : Nat) (x_1 : ByteArray) : Option ((List Int) × Bool) :=
 joinP (fun (v_182 : (List Int)) =>
 (impl_ConfOk N v_182).bind fun y_212 =>
 (if (!y_212) = true then
 some ([], false)
 else
 some (v_182, true))) fun j_182 =>
 (impl_ReadConf_l1 N x_1 N (0 : Int) ([] : (List Int))).bind (fun (v_196 : (List Int)) => j_182 v_196)
theorem sem_impl_ReadConf (N : Nat) (x_1 : ByteArray) (r : (List Int) × Bool) (h : impl_ReadConf N x_1 = some r) : Says Try.prog 74 [VS x_1] 0 [] (.tup [.sl 0 3 0 r.1.length, VB r.2]) [(0, .vec 3 (r.1.map encI))] := by
  unfold impl_ReadConf at h
  refine Says.of_run s74 Try.call74 rfl fun B hB => ?_
  have hm : B.m ≤ 1000 := by omega
  refine Run.seq (Run.ops hm (Ops.p rfl (Ops.p rfl (Ops.nil (Run.seq (Run.ops hm (Ops.p rfl (Ops.nil (Run.seqO h (fun (v_182 : (List Int)) => [(4, .sl 0 3 0 v_182.length)]) (fun (v_182 : (List Int)) => [(0, .vec 3 (v_182.map encI))]) (fun h => ?_) (fun v_182 h => ?_))))))))))
  · refine Run.seq (Run.ops hm (Ops.p rfl (Ops.nil (Run.block ?_))))
    obtain ⟨res_196, h, hk_196⟩ := bindO h
    refine Run.loop (n := N) (fun m_196 fr σ => ∃ (x_184 : Int), ∃ (x_185 : (List Int)), impl_ReadConf_l1 N x_1 m_196 x_184 x_185 = some res_196 ∧ fr = [(0, VS x_1), (4, .sl 0 3 0 x_185.length), (5, VI x_184)] ∧ σ = [(0, .vec 3 (x_185.map encI))]) (Gh.trans (Gh.trans (gh_prn [0, 4, 5] [] hB rfl) (gh_nil [4] [] hB rfl rfl rfl)) (gh_pk [0, 4, 5] [10000000] hB rfl rfl rfl rfl)) ⟨_, _, h, rfl, rfl⟩ ?_
    rintro m_196 fr σ ⟨x_184, x_185, h, rfl, rfl⟩
    obtain _ | m_196 := m_196
    · rw [impl_ReadConf_l1] at h; cases h
    rw [impl_ReadConf_l1] at h
    refine Run.seq (Run.seq (Run.ops hm (Ops.p rfl (Ops.p rfl (Ops.p rfl (Ops.p rfl (Ops.nil (Run.condO rfl h (fun g_199 h => ?_) (fun g_199 h => ?_)))))))))
    · refine Run.skip (Run.seq (Run.block (Run.ops hm (Ops.p rfl (Ops.p rfl (Ops.p rfl ?_))))))
      obtain ⟨x_206, hx_206, h⟩ := bindO h
      refine Ops.st (s := 21528) (Ev.ixS rfl rfl hx_206) rfl rfl (Ops.p rfl (Ops.st (s := 21560) (Ev.bsW (ys := ([w64 (x_206)] : List Int)) (f := encI) rfl (.cons (.c _) .nil) rfl rfl rfl rfl rfl) rfl rfl ?_))
      obtain ⟨x_207, hx_207, h⟩ := bindO h
      exact Ops.st (s := 21576) (Ev.apW (f := encI) (ontoW rfl rfl rfl) (addsW rfl rfl rfl (fun _ => rfl)) rfl bt3 rfl hx_207) rfl rfl (Ops.p rfl (Ops.nil (Run.ops hm (Ops.p rfl (Ops.p rfl (Ops.p rfl (Ops.nil (⟨m_196, Nat.lt_succ_self m_196, _, _, (gh_pk [0, 4, 5] [21576] hB rfl rfl rfl rfl), _, _, h, rfl, rfl⟩))))))))
    · refine Run.exit ?_
      obtain rfl := someO h
      have h := hk_196
      exact ⟨_, _, (gh_pk [4] [0] hB rfl rfl rfl rfl), x_185, h, rfl, rfl⟩
  · refine Run.seq (Run.seq (Run.ops hm (Ops.p rfl ?_)))
    obtain ⟨y_212, hy_212, h⟩ := bindO h
    refine Ops.st (s := 25592) (Ev.call [] [0] 0 (sem_impl_ConfOk N v_182 _ hy_212) rfl rfl (.cons (.borrow rfl (by decide) (lendW (fun _ => rfl) _ rfl)) .nil) rfl (.inr ⟨rfl, ownL_root trivial⟩) rfl rfl) rfl rfl ?_
    refine Ops.p rfl (Ops.nil (Run.condO rfl h (fun g_213 h => ?_) (fun g_213 h => ?_)))
    · refine Run.seq (Run.ops hm (Ops.p rfl (Ops.p rfl (Ops.nil (Run.ret ?_)))))
      obtain rfl := someO h
      exact Ends.mkG (.inl rfl) rfl (Gh.trans (Gh.trans (gh_prn [0, 1] [] hB rfl) (gh_nil [0] [] hB rfl rfl rfl)) (gh_pk [0, 1] [10000000] hB rfl rfl rfl rfl)) rfl rfl
    · refine Run.skip (Run.seq (Run.ops hm (Ops.p rfl (Ops.p rfl (Ops.p rfl (Ops.nil (Run.ret ?_)))))))
      obtain rfl := someO h
      exact Ends.mkG (.inl rfl) rfl (gh_pk [0, 1] [0] hB rfl rfl rfl rfl) rfl rfl
def impl_EntryOk (N : Nat) (x_1 : Entry) : Option (Bool) :=
 (impl_within N x_1.Term (0 : Int) (100000 : Int)).bind fun y_117 =>
 (if (!y_117) = true then
 some false
 else
 (if (x_1.Kind == (1 : Int)) = true then
 some (decide (x_1.Data = (⟨#[]⟩ : ByteArray)))
 else
 (if (x_1.Kind == (2 : Int)) = true then
 (impl_ReadConf N x_1.Data).bind fun y_124 =>
 some y_124.2
 else
 (if (x_1.Kind == (3 : Int)) = true then
 some (decide ((x_1.Data.size : Int) ≤ (120 : Int)))
 else
 some false))))
theorem sem_impl_EntryOk (N : Nat) (x_1 : Entry) (r : Bool) (h : impl_EntryOk N x_1 = some r) : Says Try.prog 93 [.agg [VI x_1.Term, VI x_1.Kind, VS x_1.Data]] 0 [] (VB r) [] := by
  unfold impl_EntryOk at h
  refine Says.of_run s93 Try.call93 rfl fun B hB => ?_
  have hm : B.m ≤ 1000 := by omega
  refine Run.seq (Run.ops hm (Ops.st (s := 1000) (.bx rfl rfl) rfl rfl (Ops.p rfl (Ops.nil (Run.seq (Run.seq (Run.ops hm (Ops.p rfl (Ops.p rfl ?_)))))))))
  obtain ⟨y_117, hy_117, h⟩ := bindO h
  refine Ops.st (s := 5128) (Ev.call [] [] 0 (sem_impl_within N x_1.Term (0 : Int) (100000 : Int) _ hy_117) rfl rfl (.cons (.c _) (.cons (.c _) (.cons (.c _) .nil))) rfl (.inl rfl) rfl rfl) rfl rfl (Ops.p rfl (Ops.nil (Run.condO rfl h (fun g_118 h => ?_) (fun g_118 h => ?_))))
  · refine Run.seq (Run.ops hm (Ops.p rfl (Ops.nil (Run.ret ?_))))
    obtain rfl := someO h
    exact Ends.mkG (.inl rfl) rfl (gh_pk [0] [] hB rfl rfl rfl rfl) rfl rfl
  · refine Run.skip (Run.seq (Run.seq (Run.ops hm (Ops.p rfl (Ops.p rfl (Ops.nil (Run.block (Run.seq (Run.ops hm (Ops.p rfl (Ops.p rfl (Ops.nil (Run.condO rfl h (fun g_119 h => ?_) (fun g_119 h => ?_))))))))))))))
    · refine Run.seq (Run.ops hm (Ops.p rfl (Ops.p rfl (Ops.p rfl (Ops.p rfl (Ops.nil (Run.ret ?_)))))))
      obtain rfl := someO h
      exact Ends.mkG (.inl rfl) rfl (gh_pk [0] [] hB rfl rfl rfl rfl) rfl rfl
    · refine Run.seq (Run.ops hm (Ops.p rfl (Ops.p rfl (Ops.nil (Run.condO rfl h (fun g_120 h => ?_) (fun g_120 h => ?_))))))
      · refine Run.seq (Run.ops hm (Ops.p rfl (Ops.p rfl ?_)))
        obtain ⟨y_124, hy_124, h⟩ := bindO h
        refine Ops.st (s := 29704) (Ev.call [] [] 1 (sem_impl_ReadConf N x_1.Data _ hy_124) rfl rfl (.cons (.c _) .nil) rfl (.inl rfl) rfl rfl) rfl rfl (Ops.p rfl (Ops.p rfl (Ops.p rfl (Ops.p rfl (Ops.p rfl (Ops.nil (Run.seq (Run.ops hm (Ops.p rfl (Ops.p rfl (Ops.nil (Run.ret ?_))))))))))))
        obtain rfl := someO h
        exact Ends.mkG (.inl rfl) rfl (gh_pk [0] [] hB rfl rfl rfl rfl) rfl rfl
      · refine Run.seq (Run.ops hm (Ops.p rfl (Ops.p rfl (Ops.nil (Run.condO rfl h (fun g_125 h => ?_) (fun g_125 h => ?_))))))
        · refine Run.seq (Run.ops hm (Ops.p rfl (Ops.p rfl (Ops.p rfl (Ops.p rfl (Ops.p rfl (Ops.nil (Run.ret ?_))))))))
          obtain rfl := someO h
          exact Ends.mkG (.inl rfl) rfl (gh_pk [0] [] hB rfl rfl rfl rfl) rfl rfl
        · refine Run.skip (Run.seq (Run.ops hm (Ops.p rfl (Ops.nil (Run.ret ?_)))))
          obtain rfl := someO h
          exact Ends.mkG (.inl rfl) rfl (gh_pk [0] [] hB rfl rfl rfl rfl) rfl rfl
def impl_LogOk_l1 (N : Nat) (x_1 : Log) : Nat → Int → Int → Option ((Bool) ⊕ (Unit))
 | 0, _, _ => none
 | m + 1, x_263, x_266 =>
 (if (decide (x_266 < (x_1.Entries.length : Int))) = true then
 (at? x_1.Entries x_266).bind fun x_291 =>
 (impl_EntryOk N x_291).bind fun y_299 =>
 (if (!y_299) = true then
 some (Sum.inl false)
 else
 (if (decide (x_291.Term < x_263)) = true then
 some (Sum.inl false)
 else
 impl_LogOk_l1 N x_1 m x_291.Term (w64 (x_266 + (1 : Int)))))
 else
 some (Sum.inr ()))
def impl_LogOk_l1_r (N : Nat) (x_1 : Log) : (List Entry) → Int → Int → Option ((Bool) ⊕ (Unit))
 | [], x_263, x_266 =>
 some (Sum.inr ())
 | hd :: tl, x_263, x_266 =>
 (some hd).bind fun x_291 =>
 (impl_EntryOk N x_291).bind fun y_299 =>
 (if (!y_299) = true then
 some (Sum.inl false)
 else
 (if (decide (x_291.Term < x_263)) = true then
 some (Sum.inl false)
 else
 impl_LogOk_l1_r N x_1 tl x_291.Term (w64 (x_266 + (1 : Int)))))
theorem impl_LogOk_l1_rng (N : Nat) (x_1 : Log) (hx : x_1.Entries.length ≤ 1099511627776) : ∀ (d k m : Nat) (x_263 : Int), x_1.Entries.length = k + d → d < m → impl_LogOk_l1 N x_1 m x_263 (k : Int) = impl_LogOk_l1_r N x_1 (x_1.Entries.drop k) x_263 (k : Int) := by
  intro d
  induction d with
  | zero =>
    intro k m x_263 hd hm
    obtain ⟨m, rfl⟩ : ∃ q, m = q + 1 := ⟨m - 1, by omega⟩
    rw [impl_LogOk_l1, if_neg (by simp; omega), List.drop_eq_nil_of_le (by omega), impl_LogOk_l1_r]
  | succ d ih =>
    intro k m x_263 hd hm
    obtain ⟨m, rfl⟩ : ∃ q, m = q + 1 := ⟨m - 1, by omega⟩
    have hk : k < x_1.Entries.length := by omega
    rw [impl_LogOk_l1, if_pos (by simp; omega), List.drop_eq_getElem_cons hk, impl_LogOk_l1_r]
    have h1 := at_lt hk
    have h2 := w64_succ (k := k) (by omega)
    have h3 := ih (k + 1) m
    simp only [h1, h2, h3 _ (by omega) (by omega)]
theorem impl_LogOk_l1_eq {N : Nat} (x_1 : Log) (hx : x_1.Entries.length ≤ 1099511627776) (hN : x_1.Entries.length < N) (x_263 : Int) : impl_LogOk_l1 N x_1 N x_263 0 = impl_LogOk_l1_r N x_1 x_1.Entries x_263 0 := impl_LogOk_l1_rng N x_1 hx x_1.Entries.length 0 N x_263 (by omega) hN
def impl_LogOk (N : Nat) (x_1 : Log) : Option (Bool) :=
 (impl_within N x_1.Start (0 : Int) (100000 : Int)).bind fun y_217 =>
 (if (!y_217) = true then
 some false
 else
 (impl_within N x_1.StartTerm (0 : Int) (100000 : Int)).bind fun y_219 =>
 (if (!y_219) = true then
 some false
 else
 (if (decide ((x_1.Entries.length : Int) > (120 : Int))) = true then
 some false
 else
 (if (decide ((w64 (x_1.Start + (x_1.Entries.length : Int))) > (100000 : Int))) = true then
 some false
 else
 joinP (fun (v_262 : Unit) =>
 some true) fun j_262 =>
 (impl_LogOk_l1 N x_1 N x_1.StartTerm (0 : Int)).bind (Sum.elim (fun v_283 => some v_283) (fun (v_284 : Unit) => j_262 ()))))))
theorem sem_impl_LogOk (N : Nat) (x_1 : Log) (r : Bool) (h : impl_LogOk N x_1 = some r) : Says Try.prog 43 [.agg [VI x_1.Start, VI x_1.StartTerm, RO 51 (x_1.Entries.map encEntry)]] 0 [] (VB r) [] := by
  unfold impl_LogOk at h
  refine Says.of_run s43 Try.call43 rfl fun B hB => ?_
  have hm : B.m ≤ 1000 := by omega
  refine Run.seq (Run.ops hm (Ops.st (s := 1000) (.bx rfl rfl) rfl rfl (Ops.p rfl (Ops.nil (Run.seq (Run.seq (Run.ops hm (Ops.p rfl (Ops.p rfl ?_)))))))))
  obtain ⟨y_217, hy_217, h⟩ := bindO h
  refine Ops.st (s := 5128) (Ev.call [] [] 0 (sem_impl_within N x_1.Start (0 : Int) (100000 : Int) _ hy_217) rfl rfl (.cons (.c _) (.cons (.c _) (.cons (.c _) .nil))) rfl (.inl rfl) rfl rfl) rfl rfl (Ops.p rfl (Ops.p rfl (Ops.askO (x := .t 10) rfl h (fun g_218 h => ?_) (fun g_218 h => ?_))))
  · refine Ops.gn rfl g_218 (Ops.gn rfl g_218 (Ops.gn rfl g_218 (Ops.gn rfl g_218 (Ops.st (s := 5240) (.pkT rfl g_218 rfl) rfl rfl (Ops.p rfl (Ops.gn rfl rfl (Ops.gn rfl rfl (Ops.gn rfl rfl (Ops.gn rfl rfl (Ops.st (s := 5336) (.pkT rfl rfl rfl) rfl rfl (Ops.p rfl (Ops.gn rfl rfl (Ops.gn rfl rfl (Ops.gn rfl rfl (Ops.gn rfl rfl (Ops.gn rfl rfl (Ops.gn rfl rfl (Ops.gn rfl rfl (Ops.st (s := 5480) (.pkT rfl rfl rfl) rfl rfl (Ops.nil (Run.condT rfl rfl (Run.seq (Run.ops hm (Ops.p rfl (Ops.nil (Run.ret ?_))))))))))))))))))))))))))
    obtain rfl := someO h
    exact Ends.mkG (.inl rfl) rfl (gh_pk [0] [] hB rfl rfl rfl rfl) rfl rfl
  · refine Ops.gp rfl g_218 rfl (Ops.gp rfl g_218 rfl ?_)
    obtain ⟨y_219, hy_219, h⟩ := bindO h
    refine Ops.gs (s := 5208) rfl g_218 (Ev.call [] [] 0 (sem_impl_within N x_1.StartTerm (0 : Int) (100000 : Int) _ hy_219) rfl rfl (.cons (.c _) (.cons (.c _) (.cons (.c _) .nil))) rfl (.inl rfl) rfl rfl) rfl rfl (Ops.gp rfl g_218 rfl (Ops.st (s := 5240) (.pkF rfl g_218 rfl) rfl rfl (Ops.p rfl (Ops.askO (x := .t 16) rfl h (fun g_220 h => ?_) (fun g_220 h => ?_)))))
    · refine Ops.gn rfl g_220 (Ops.gn rfl g_220 (Ops.gn rfl g_220 (Ops.gn rfl g_220 (Ops.st (s := 5336) (.pkT rfl g_220 rfl) rfl rfl (Ops.p rfl (Ops.gn rfl rfl (Ops.gn rfl rfl (Ops.gn rfl rfl (Ops.gn rfl rfl (Ops.gn rfl rfl (Ops.gn rfl rfl (Ops.gn rfl rfl (Ops.st (s := 5480) (.pkT rfl rfl rfl) rfl rfl (Ops.nil (Run.condT rfl rfl (Run.seq (Run.ops hm (Ops.p rfl (Ops.nil (Run.ret ?_))))))))))))))))))))
      obtain rfl := someO h
      exact Ends.mkG (.inl rfl) rfl (gh_pk [0] [] hB rfl rfl rfl rfl) rfl rfl
    · refine Ops.gp rfl g_220 rfl (Ops.gp rfl g_220 rfl (Ops.gs (s := 5304) rfl g_220 (Ev.lnF rfl) rfl rfl (Ops.gp rfl g_220 rfl (Ops.st (s := 5336) (.pkF rfl g_220 rfl) rfl rfl (Ops.p rfl (Ops.askO (x := .t 22) rfl h (fun g_221 h => ?_) (fun g_221 h => ?_)))))))
      · refine Ops.gn rfl g_221 (Ops.gn rfl g_221 (Ops.gn rfl g_221 (Ops.gn rfl g_221 (Ops.gn rfl g_221 (Ops.gn rfl g_221 (Ops.gn rfl g_221 (Ops.st (s := 5480) (.pkT rfl g_221 rfl) rfl rfl (Ops.nil (Run.condT rfl rfl (Run.seq (Run.ops hm (Ops.p rfl (Ops.nil (Run.ret ?_))))))))))))))
        obtain rfl := someO h
        exact Ends.mkG (.inl rfl) rfl (gh_pk [0] [] hB rfl rfl rfl rfl) rfl rfl
      · refine Ops.gp rfl g_221 rfl (Ops.gp rfl g_221 rfl (Ops.gp rfl g_221 rfl (Ops.gp rfl g_221 rfl (Ops.gs (s := 5432) rfl g_221 (Ev.lnF rfl) rfl rfl (Ops.gp rfl g_221 rfl (Ops.gp rfl g_221 rfl (Ops.st (s := 5480) (.pkF rfl g_221 rfl) rfl rfl (Ops.nil (Run.condO rfl h (fun g_222 h => ?_) (fun g_222 h => ?_))))))))))
        · refine Run.seq (Run.ops hm (Ops.p rfl (Ops.nil (Run.ret ?_))))
          obtain rfl := someO h
          exact Ends.mkG (.inl rfl) rfl (gh_pk [0] [] hB rfl rfl rfl rfl) rfl rfl
        · refine Run.skip (Run.seq (Run.ops hm (Ops.p rfl (Ops.p rfl (Ops.p rfl (Ops.nil (Run.seqO h (fun (v_262 : Unit) => []) (fun (v_262 : Unit) => []) (fun h => ?_) (fun v_262 h => ?_))))))))
          · refine Run.seq (Run.ops hm (Ops.p rfl (Ops.p rfl (Ops.st (s := 17416) (Ev.lnF rfl) rfl rfl (Ops.p rfl (Ops.nil (Run.block ?_)))))))
            obtain ⟨res_284, h, hk_284⟩ := bindO h
            refine Run.loop (n := N) (fun m_284 fr σ => ∃ (x_263 : Int), ∃ (x_266 : Int), impl_LogOk_l1 N x_1 m_284 x_263 x_266 = some res_284 ∧ fr = [(3, VI x_263), (34, RO 51 (x_1.Entries.map encEntry)), (35, VI (x_1.Entries.length : Int)), (36, VI x_266)] ∧ σ = []) (gh_pk [3, 34, 35, 36] [] hB rfl rfl rfl rfl) ⟨_, _, h, rfl, rfl⟩ ?_
            rintro m_284 fr σ ⟨x_263, x_266, h, rfl, rfl⟩
            obtain _ | m_284 := m_284
            · rw [impl_LogOk_l1] at h; cases h
            rw [impl_LogOk_l1] at h
            refine Run.seq (Run.ops hm (Ops.p rfl (Ops.nil (Run.seq (Run.condO rfl h (fun g_287 h => ?_) (fun g_287 h => ?_))))))
            · refine Run.skip (Run.seq (Run.block (Run.seq (Run.ops hm ?_))))
              obtain ⟨x_291, hx_291, h⟩ := bindO h
              refine Ops.st (s := 25576) (Ev.iaF rfl rfl hx_291) rfl rfl (Ops.p rfl (Ops.st (s := 25608) (.al rfl rfl) rfl rfl (Ops.s0 (s := 25624) (.sto rfl rfl rfl rfl rfl rfl) rfl rfl (Ops.nil (Run.seq (Run.seq (Run.ops hm (Ops.p rfl ?_))))))))
              obtain ⟨y_299, hy_299, h⟩ := bindO h
              refine Ops.st (s := 29688) (Ev.call [] [] 0 (sem_impl_EntryOk N x_291 _ hy_299) rfl rfl (.cons (.agg (.cons (.c _) (.cons (.c _) (.cons (.c _) .nil)))) .nil) rfl (.inl rfl) rfl rfl) rfl rfl (Ops.p rfl (Ops.p rfl (Ops.askO (x := .t 43) rfl h (fun g_300 h => ?_) (fun g_300 h => ?_))))
              · refine Ops.gn rfl g_300 (Ops.gn rfl g_300 (Ops.gn rfl g_300 (Ops.gn rfl g_300 (Ops.st (s := 29800) (.pkT rfl g_300 rfl) rfl rfl (Ops.nil (Run.condT rfl rfl (Run.seq (Run.ops hm (Ops.p rfl (Ops.nil (Run.ret ?_)))))))))))
                obtain rfl := someO h
                have h := hk_284
                replace h := inlO h
                obtain rfl := someO h
                exact Ends.mkG (.inl rfl) rfl (gh_pk [0] [] hB rfl rfl rfl rfl) rfl rfl
              · refine Ops.gp rfl g_300 rfl (Ops.gp rfl g_300 rfl (Ops.gp rfl g_300 rfl (Ops.gp rfl g_300 rfl (Ops.st (s := 29800) (.pkF rfl g_300 rfl) rfl rfl (Ops.nil (Run.condO rfl h (fun g_301 h => ?_) (fun g_301 h => ?_)))))))
                · refine Run.seq (Run.ops hm (Ops.p rfl (Ops.nil (Run.ret ?_))))
                  obtain rfl := someO h
                  have h := hk_284
                  replace h := inlO h
                  obtain rfl := someO h
                  exact Ends.mkG (.inl rfl) rfl (gh_pk [0] [] hB rfl rfl rfl rfl) rfl rfl
                · exact Run.skip (Run.ops hm (Ops.p rfl (Ops.p rfl (Ops.p rfl (Ops.nil (Run.ops hm (Ops.p rfl (Ops.p rfl (Ops.nil (⟨m_284, Nat.lt_succ_self m_284, _, _, (gh_pk [3, 34, 35, 36] [] hB rfl rfl rfl rfl), _, _, h, rfl, rfl⟩))))))))))
            · refine Run.exit ?_
              obtain rfl := someO h
              have h := hk_284
              replace h := inrO h
              exact ⟨_, _, (gh_pk [] [] hB rfl rfl rfl rfl), (), h, rfl, rfl⟩
          · refine Run.seq (Run.ops hm (Ops.p rfl (Ops.nil (Run.ret ?_))))
            obtain rfl := someO h
            exact Ends.mkG (.inl rfl) rfl (gh_pk [0] [] hB rfl rfl rfl rfl) rfl rfl
end Go.Proofs.Ytehknbpmpbghhaa.Pe.FnExactPropose
