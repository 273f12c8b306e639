/- Functions, as pure functions; and that Go does just that. -/
import Derived.Test.YtebbgdjmplceiaaPeFFnExactSettle1
namespace Go.Proofs.Ytebbgdjmplceiaa.Pe.FnExactSettle
open Go Go.RowKit
set_option linter.unusedVariables false
set_option linter.unusedSimpArgs false
set_option maxHeartbeats 40000000
def spec_l16Copy (N : Nat) (x_1 : Node) : Option (Node) :=
 (cat? ([] : List Int) x_1.Conf).bind fun x_109 =>
 (cat? ([] : List Entry) x_1.Log.Entries).bind fun x_111 =>
 (cat? ([] : List Int) x_1.Votes).bind fun x_113 =>
 (cat? ([] : List Peer) x_1.Peers).bind fun x_115 =>
 some (Node.mk x_1.Id x_1.Term x_1.Vote x_1.Role x_1.Lead x_109 (Log.mk x_1.Log.Start x_1.Log.StartTerm x_111) x_1.Commit x_1.Clock x_1.Limit x_113 x_115)
theorem sem_spec_l16Copy (N : Nat) (x_1 : Node) (r : Node) (h : spec_l16Copy N x_1 = some r) : Says Try.prog 135 [.agg [VI x_1.Id, VI x_1.Term, VI x_1.Vote, VI x_1.Role, VI x_1.Lead, RO 3 (x_1.Conf.map encI), VI x_1.Log.Start, VI x_1.Log.StartTerm, RO 48 (x_1.Log.Entries.map encEntry), VI x_1.Commit, VI x_1.Clock, VI x_1.Limit, RO 3 (x_1.Votes.map encI), RO 172 (x_1.Peers.map encPeer)]] 0 [] (.agg [VI r.Id, VI r.Term, VI r.Vote, VI r.Role, VI r.Lead, .sl 0 3 0 r.Conf.length, VI r.Log.Start, VI r.Log.StartTerm, .sl 1 48 0 r.Log.Entries.length, VI r.Commit, VI r.Clock, VI r.Limit, .sl 2 3 0 r.Votes.length, .sl 3 172 0 r.Peers.length]) [(0, .vec 3 (r.Conf.map encI)), (1, .vec 48 (r.Log.Entries.map encEntry)), (2, .vec 3 (r.Votes.map encI)), (3, .vec 172 (r.Peers.map encPeer))] := by
  unfold spec_l16Copy at h
  refine Says.of_run s135 Try.call135 rfl fun B hB => ?_
  have hm : B.m ≤ 1000 := by omega
  refine Run.seq ?_
  refine Run.ops hm ?_
  refine Ops.st (s := 1000) (.bx rfl rfl) rfl rfl ?_
  refine Ops.st (s := 1016) (.al rfl rfl) rfl rfl ?_
  refine Ops.nil ?_
  refine Run.seq ?_
  refine Run.ops hm ?_
  refine Ops.st (s := 5096) (Ev.bsW (ys := ([] : List Int)) (f := encI) rfl .nil rfl rfl rfl rfl rfl) rfl rfl ?_
  refine Ops.p rfl ?_
  refine Ops.p rfl ?_
  obtain ⟨x_109, hx_109, h⟩ := bindO h
  refine Ops.st (s := 5144) (Ev.apW (f := encI) (ontoW rfl rfl rfl) (addsF rfl) rfl bt3 rfl hx_109) rfl rfl ?_
  refine Ops.p rfl ?_
  refine Ops.s0 (s := 5176) (.sto rfl rfl rfl rfl rfl rfl) rfl rfl ?_
  refine Ops.nil ?_
  refine Run.seq ?_
  refine Run.ops hm ?_
  refine Ops.st (s := 9192) (Ev.bsW (ys := ([] : List Entry)) (f := encEntry) rfl .nil rfl rfl rfl rfl rfl) rfl rfl ?_
  refine Ops.p rfl ?_
  refine Ops.p rfl ?_
  refine Ops.p rfl ?_
  obtain ⟨x_111, hx_111, h⟩ := bindO h
  refine Ops.st (s := 9256) (Ev.apW (f := encEntry) (ontoW rfl rfl rfl) (addsF rfl) rfl bt48 rfl hx_111) rfl rfl ?_
  refine Ops.p rfl ?_
  refine Ops.p rfl ?_
  refine Ops.s0 (s := 9304) (.sto rfl rfl rfl rfl rfl rfl) rfl rfl ?_
  refine Ops.nil ?_
  refine Run.seq ?_
  refine Run.ops hm ?_
  refine Ops.st (s := 13288) (Ev.bsW (ys := ([] : List Int)) (f := encI) rfl .nil rfl rfl rfl rfl rfl) rfl rfl ?_
  refine Ops.p rfl ?_
  refine Ops.p rfl ?_
  obtain ⟨x_113, hx_113, h⟩ := bindO h
  refine Ops.st (s := 13336) (Ev.apW (f := encI) (ontoW rfl rfl rfl) (addsF rfl) rfl bt3 rfl hx_113) rfl rfl ?_
  refine Ops.p rfl ?_
  refine Ops.s0 (s := 13368) (.sto rfl rfl rfl rfl rfl rfl) rfl rfl ?_
  refine Ops.nil ?_
  refine Run.seq ?_
  refine Run.ops hm ?_
  refine Ops.st (s := 17384) (Ev.bsW (ys := ([] : List Peer)) (f := encPeer) rfl .nil rfl rfl rfl rfl rfl) rfl rfl ?_
  refine Ops.p rfl ?_
  refine Ops.p rfl ?_
  obtain ⟨x_115, hx_115, h⟩ := bindO h
  refine Ops.st (s := 17432) (Ev.apW (f := encPeer) (ontoW rfl rfl rfl) (addsF rfl) rfl bt172 rfl hx_115) rfl rfl ?_
  refine Ops.p rfl ?_
  refine Ops.s0 (s := 17464) (.sto rfl rfl rfl rfl rfl rfl) rfl rfl ?_
  refine Ops.nil ?_
  refine Run.seq ?_
  refine Run.ops hm ?_
  refine Ops.p rfl ?_
  refine Ops.s0 (s := 21496) (.sto rfl rfl rfl rfl rfl rfl) rfl rfl ?_
  refine Ops.nil ?_
  refine Run.ret ?_
  obtain rfl := someO h
  exact Ends.mkG (.inl rfl) rfl (gh_pk [0] [5144, 9256, 13336, 17432] hB rfl rfl rfl rfl) rfl rfl
def spec_l12Last (N : Nat) (x_1 : Log) : Option (Int) :=
 some (w64 (x_1.Start + (x_1.Entries.length : Int)))
theorem sem_spec_l12Last (N : Nat) (x_1 : Log) (r : Int) (h : spec_l12Last N x_1 = some r) : Says Try.prog 87 [.agg [VI x_1.Start, VI x_1.StartTerm, RO 48 (x_1.Entries.map encEntry)]] 0 [] (VI r) [] := by
  unfold spec_l12Last at h
  refine Says.of_run s87 Try.call87 rfl fun B hB => ?_
  have hm : B.m ≤ 1000 := by omega
  refine Run.seq ?_
  refine Run.ops hm ?_
  refine Ops.st (s := 1000) (.bx rfl rfl) rfl rfl ?_
  refine Ops.p rfl ?_
  refine Ops.nil ?_
  refine Run.seq ?_
  refine Run.ops hm ?_
  refine Ops.p rfl ?_
  refine Ops.p rfl ?_
  refine Ops.p rfl ?_
  refine Ops.p rfl ?_
  refine Ops.st (s := 5160) (Ev.lnF rfl) rfl rfl ?_
  refine Ops.p rfl ?_
  refine Ops.p rfl ?_
  refine Ops.nil ?_
  refine Run.ret ?_
  obtain rfl := someO h
  exact Ends.mkG (.inl rfl) rfl (gh_pk [0] [] hB rfl rfl rfl rfl) rfl rfl
def spec_LogTerm (N : Nat) (x_1 : Log) (x_2 : Int) : Option (Int) :=
 (if (x_2 == x_1.Start) = true then
 some x_1.StartTerm
 else
 (if (decide (x_2 < x_1.Start)) = true then
 some (-1 : Int)
 else
 (spec_l12Last N x_1).bind fun y_115 =>
 (if (decide (x_2 > y_115)) = true then
 some (-1 : Int)
 else
 (at? x_1.Entries (w64 ((w64 (x_2 - x_1.Start)) - (1 : Int)))).bind fun x_117 =>
 some x_117.Term)))
theorem sem_spec_LogTerm (N : Nat) (x_1 : Log) (x_2 : Int) (r : Int) (h : spec_LogTerm N x_1 x_2 = some r) : Says Try.prog 137 [.agg [VI x_1.Start, VI x_1.StartTerm, RO 48 (x_1.Entries.map encEntry)], VI x_2] 0 [] (VI r) [] := by
  unfold spec_LogTerm at h
  refine Says.of_run s137 Try.call137 rfl fun B hB => ?_
  have hm : B.m ≤ 1000 := by omega
  refine Run.seq ?_
  refine Run.ops hm ?_
  refine Ops.st (s := 1000) (.bx rfl rfl) rfl rfl ?_
  refine Ops.p rfl ?_
  refine Ops.nil ?_
  refine Run.seq ?_
  refine Run.seq ?_
  refine Run.ops hm ?_
  refine Ops.p rfl ?_
  refine Ops.p rfl ?_
  refine Ops.p rfl ?_
  refine Ops.p rfl ?_
  refine Ops.nil ?_
  refine Run.condO rfl h (fun g_110 h => ?_) (fun g_110 h => ?_)
  · skip
    refine Run.seq ?_
    refine Run.ops hm ?_
    refine Ops.p rfl ?_
    refine Ops.p rfl ?_
    refine Ops.p rfl ?_
    refine Ops.nil ?_
    refine Run.ret ?_
    obtain rfl := someO h
    exact Ends.mkG (.inl rfl) rfl (gh_pk [0] [] hB rfl rfl rfl rfl) rfl rfl
  · skip
    refine Run.skip ?_
    refine Run.seq ?_
    refine Run.seq ?_
    refine Run.ops hm ?_
    refine Ops.p rfl ?_
    refine Ops.p rfl ?_
    refine Ops.p rfl ?_
    refine Ops.p rfl ?_
    refine Ops.p rfl ?_
    refine Ops.askO (x := .t 15) rfl h (fun g_114 h => ?_) (fun g_114 h => ?_)
    · skip
      refine Ops.gn rfl g_114 ?_
      refine Ops.gn rfl g_114 ?_
      refine Ops.gn rfl g_114 ?_
      refine Ops.gn rfl g_114 ?_
      refine Ops.st (s := 13432) (.pkT rfl g_114 rfl) rfl rfl ?_
      refine Ops.nil ?_
      refine Run.condT rfl rfl ?_
      refine Run.seq ?_
      refine Run.ops hm ?_
      refine Ops.p rfl ?_
      refine Ops.nil ?_
      refine Run.ret ?_
      obtain rfl := someO h
      exact Ends.mkG (.inl rfl) rfl (gh_pk [0] [] hB rfl rfl rfl rfl) rfl rfl
    · skip
      refine Ops.gp rfl g_114 rfl ?_
      refine Ops.gp rfl g_114 rfl ?_
      obtain ⟨y_115, hy_115, h⟩ := bindO h
      refine Ops.gs (s := 13400) rfl g_114 (Ev.call [] [] 0 (sem_spec_l12Last N x_1 _ hy_115) rfl rfl (.cons (.agg (.cons (.c _) (.cons (.c _) (.cons (.c _) .nil)))) .nil) rfl (.inl rfl) rfl rfl) rfl rfl ?_
      refine Ops.gp rfl g_114 rfl ?_
      refine Ops.st (s := 13432) (.pkF rfl g_114 rfl) rfl rfl ?_
      refine Ops.nil ?_
      refine Run.condO rfl h (fun g_116 h => ?_) (fun g_116 h => ?_)
      · skip
        refine Run.seq ?_
        refine Run.ops hm ?_
        refine Ops.p rfl ?_
        refine Ops.nil ?_
        refine Run.ret ?_
        obtain rfl := someO h
        exact Ends.mkG (.inl rfl) rfl (gh_pk [0] [] hB rfl rfl rfl rfl) rfl rfl
      · skip
        refine Run.skip ?_
        refine Run.seq ?_
        refine Run.ops hm ?_
        refine Ops.p rfl ?_
        refine Ops.p rfl ?_
        refine Ops.p rfl ?_
        refine Ops.p rfl ?_
        refine Ops.p rfl ?_
        refine Ops.p rfl ?_
        refine Ops.p rfl ?_
        obtain ⟨x_117, hx_117, h⟩ := bindO h
        refine Ops.st (s := 21592) (Ev.iaF rfl rfl hx_117) rfl rfl ?_
        refine Ops.p rfl ?_
        refine Ops.p rfl ?_
        refine Ops.p rfl ?_
        refine Ops.nil ?_
        refine Run.ret ?_
        obtain rfl := someO h
        exact Ends.mkG (.inl rfl) rfl (gh_pk [0] [] hB rfl rfl rfl rfl) rfl rfl
def spec_LogBehind (N : Nat) (x_1 : Log) (x_2 : Int) (x_3 : Int) : Option (Log) :=
 joinP (fun (v_128 : (List Entry)) =>
 some (Log.mk x_2 x_3 v_128)) fun j_128 =>
 (spec_LogOk N x_1).bind fun y_129 =>
 (if y_129 = true then
 (spec_l12Last N x_1).bind fun y_131 =>
 (spec_l01In N x_2 x_1.Start y_131).bind fun y_132 =>
 (if y_132 = true then
 (spec_LogTerm N x_1 x_2).bind fun y_134 =>
 (if (y_134 == x_3) = true then
 (drop? x_1.Entries (w64 (x_2 - x_1.Start))).bind fun x_136 =>
 (cat? ([] : List Entry) x_136).bind fun x_137 =>
 j_128 x_137
 else
 j_128 ([] : (List Entry)))
 else
 j_128 ([] : (List Entry)))
 else
 j_128 ([] : (List Entry)))
theorem sem_spec_LogBehind (N : Nat) (x_1 : Log) (x_2 : Int) (x_3 : Int) (r : Log) (h : spec_LogBehind N x_1 x_2 x_3 = some r) : Says Try.prog 136 [.agg [VI x_1.Start, VI x_1.StartTerm, RO 48 (x_1.Entries.map encEntry)], VI x_2, VI x_3] 0 [] (.agg [VI r.Start, VI r.StartTerm, .sl 0 48 0 r.Entries.length]) [(0, .vec 48 (r.Entries.map encEntry))] := by
  unfold spec_LogBehind at h
  refine Says.of_run s136 Try.call136 rfl fun B hB => ?_
  have hm : B.m ≤ 1000 := by omega
  refine Run.seq ?_
  refine Run.ops hm ?_
  refine Ops.st (s := 1000) (.bx rfl rfl) rfl rfl ?_
  refine Ops.st (s := 1016) (.al rfl rfl) rfl rfl ?_
  refine Ops.nil ?_
  refine Run.seq ?_
  refine Run.ops hm ?_
  refine Ops.p rfl ?_
  refine Ops.p rfl ?_
  refine Ops.st (s := 5128) (.bd rfl rfl) rfl rfl ?_
  refine Ops.st (s := 5144) (.al rfl rfl) rfl rfl ?_
  refine Ops.s0 (s := 5160) (.sto rfl rfl rfl rfl rfl rfl) rfl rfl ?_
  refine Ops.nil ?_
  refine Run.seqO h (fun (v_128 : (List Entry)) => [(6, .ptr 0 0), (7, .ptr 1 0)]) (fun (v_128 : (List Entry)) => [(0, .box [VI (0 : Int), VI (0 : Int), .sl 2 48 0 (([] : List Entry).length)]), (1, .box [VI x_2, VI x_3, .sl 3 48 0 v_128.length]), (2, .vec 48 (([] : List Entry).map encEntry)), (3, .vec 48 (v_128.map encEntry))]) (fun h => ?_) (fun v_128 h => ?_)
  · skip
    refine Run.seq ?_
    refine Run.draw hm hmix ?_
    refine OpsD.p rfl ?_
    obtain ⟨y_129, hy_129, h⟩ := bindO h
    refine OpsD.st (s := 9208) (Ev.call [] [] 0 (sem_spec_LogOk N x_1 _ hy_129) rfl rfl (.cons (.agg (.cons (.c _) (.cons (.c _) (.cons (.c _) .nil)))) .nil) rfl (.inl rfl) rfl rfl) rfl rfl ?_
    refine OpsD.p rfl ?_
    refine OpsD.askO (x := .t 13) rfl h (fun g_130 h => ?_) (fun g_130 h => ?_)
    · skip
      refine OpsD.gp rfl g_130 rfl ?_
      refine OpsD.gp rfl g_130 rfl ?_
      refine OpsD.gp rfl g_130 rfl ?_
      refine OpsD.gp rfl g_130 rfl ?_
      obtain ⟨y_131, hy_131, h⟩ := bindO h
      refine OpsD.gs (s := 9304) rfl g_130 (Ev.call [] [] 0 (sem_spec_l12Last N x_1 _ hy_131) rfl rfl (.cons (.agg (.cons (.c _) (.cons (.c _) (.cons (.c _) .nil)))) .nil) rfl (.inl rfl) rfl rfl) rfl rfl ?_
      obtain ⟨y_132, hy_132, h⟩ := bindO h
      refine OpsD.gs (s := 9320) rfl g_130 (Ev.call [] [] 0 (sem_spec_l01In N x_2 x_1.Start y_131 _ hy_132) rfl rfl (.cons (.c _) (.cons (.c _) (.cons (.c _) .nil))) rfl (.inl rfl) rfl rfl) rfl rfl ?_
      refine OpsD.st (s := 9336) (.pkT rfl g_130 rfl) rfl rfl ?_
      refine OpsD.p rfl ?_
      refine OpsD.askO (x := .t 21) rfl h (fun g_133 h => ?_) (fun g_133 h => ?_)
      · skip
        refine OpsD.gp rfl g_133 rfl ?_
        refine OpsD.gp rfl g_133 rfl ?_
        obtain ⟨y_134, hy_134, h⟩ := bindO h
        refine OpsD.gs (s := 9400) rfl g_133 (Ev.call [] [] 0 (sem_spec_LogTerm N x_1 x_2 _ hy_134) rfl rfl (.cons (.agg (.cons (.c _) (.cons (.c _) (.cons (.c _) .nil)))) (.cons (.c _) .nil)) rfl (.inl rfl) rfl rfl) rfl rfl ?_
        refine OpsD.gp rfl g_133 rfl ?_
        refine OpsD.gp rfl g_133 rfl ?_
        refine OpsD.st (s := 9448) (.pkT rfl g_133 rfl) rfl rfl ?_
        refine OpsD.nil ⟨by kernel_rfl, ?_⟩
        refine Run.condO rfl h (fun g_135 h => ?_) (fun g_135 h => ?_)
        · skip
          refine Run.ops hm ?_
          refine Ops.st (s := 13288) (Ev.bsW (ys := ([] : List Entry)) (f := encEntry) rfl .nil rfl rfl rfl rfl rfl) rfl rfl ?_
          refine Ops.p rfl ?_
          refine Ops.p rfl ?_
          refine Ops.p rfl ?_
          refine Ops.p rfl ?_
          refine Ops.p rfl ?_
          refine Ops.p rfl ?_
          obtain ⟨x_136, hx_136, h⟩ := bindO h
          refine Ops.st (s := 13400) (Ev.slFl rfl rfl hx_136) rfl rfl ?_
          obtain ⟨x_137, hx_137, h⟩ := bindO h
          refine Ops.st (s := 13416) (Ev.apW (f := encEntry) (ontoW rfl rfl rfl) (addsF rfl) rfl bt48 rfl hx_137) rfl rfl ?_
          refine Ops.p rfl ?_
          refine Ops.s0 (s := 13448) (.sto rfl rfl rfl rfl rfl rfl) rfl rfl ?_
          refine Ops.nil ?_
          exact ⟨_, _, (Gh.trans (Gh.trans (gh_prn [6, 7] [1016, 5144, 13416] hB rfl) (gh_nil [] [1016] hB rfl rfl rfl)) (gh_pk [6, 7] [1016, 5144, 20000000, 13416] hB rfl rfl rfl rfl)), x_137, h, rfl, rfl⟩
        · skip
          refine Run.skip ?_
          exact ⟨_, _, (Gh.trans (Gh.trans (gh_prn [6, 7] [1016, 5144] hB rfl) (gh_nil [] [1016, 5144] hB rfl rfl rfl)) (gh_pk [6, 7] [1016, 5144, 20000000, 20000064] hB rfl rfl rfl rfl)), ([] : (List Entry)), h, rfl, rfl⟩
      · skip
        refine OpsD.gn rfl g_133 ?_
        refine OpsD.gn rfl g_133 ?_
        refine OpsD.gn rfl g_133 ?_
        refine OpsD.gn rfl g_133 ?_
        refine OpsD.gn rfl g_133 ?_
        refine OpsD.st (s := 9448) (.pkF rfl g_133 rfl) rfl rfl ?_
        refine OpsD.nil ⟨by kernel_rfl, ?_⟩
        refine Run.condF rfl rfl ?_
        refine Run.skip ?_
        exact ⟨_, _, (Gh.trans (Gh.trans (gh_prn [6, 7] [1016, 5144] hB rfl) (gh_nil [] [1016, 5144] hB rfl rfl rfl)) (gh_pk [6, 7] [1016, 5144, 20000000, 20000064] hB rfl rfl rfl rfl)), ([] : (List Entry)), h, rfl, rfl⟩
    · skip
      refine OpsD.gn rfl g_130 ?_
      refine OpsD.gn rfl g_130 ?_
      refine OpsD.gn rfl g_130 ?_
      refine OpsD.gn rfl g_130 ?_
      refine OpsD.gn rfl g_130 ?_
      refine OpsD.gn rfl g_130 ?_
      refine OpsD.st (s := 9336) (.pkF rfl g_130 rfl) rfl rfl ?_
      refine OpsD.p rfl ?_
      refine OpsD.gn rfl rfl ?_
      refine OpsD.gn rfl rfl ?_
      refine OpsD.gn rfl rfl ?_
      refine OpsD.gn rfl rfl ?_
      refine OpsD.gn rfl rfl ?_
      refine OpsD.st (s := 9448) (.pkF rfl rfl rfl) rfl rfl ?_
      refine OpsD.nil ⟨by kernel_rfl, ?_⟩
      refine Run.condF rfl rfl ?_
      refine Run.skip ?_
      exact ⟨_, _, (Gh.trans (Gh.trans (gh_prn [6, 7] [1016, 5144] hB rfl) (gh_nil [] [1016, 5144] hB rfl rfl rfl)) (gh_pk [6, 7] [1016, 5144, 20000000, 20000064] hB rfl rfl rfl rfl)), ([] : (List Entry)), h, rfl, rfl⟩
  · skip
    refine Run.seq ?_
    refine Run.ops hm ?_
    refine Ops.p rfl ?_
    refine Ops.s0 (s := 17400) (.sto rfl rfl rfl rfl rfl rfl) rfl rfl ?_
    refine Ops.nil ?_
    refine Run.ret ?_
    obtain rfl := someO h
    exact Ends.mkG (.inl rfl) rfl (gh_pk [0] [3] hB rfl rfl rfl rfl) rfl rfl
def spec_Settle (N : Nat) (x_1 : Node) (x_2 : Int) : Option (Node × Bool) :=
 (spec_NodeOk N x_1).bind fun y_120 =>
 (if (!y_120) = true then
 some ((Node.mk (0 : Int) (0 : Int) (0 : Int) (0 : Int) (0 : Int) ([]) (Log.mk (0 : Int) (0 : Int) ([])) (0 : Int) (0 : Int) (0 : Int) ([]) ([])), false)
 else
 (spec_l01In N x_2 x_1.Log.Start x_1.Commit).bind fun y_122 =>
 (if (!y_122) = true then
 some ((Node.mk (0 : Int) (0 : Int) (0 : Int) (0 : Int) (0 : Int) ([]) (Log.mk (0 : Int) (0 : Int) ([])) (0 : Int) (0 : Int) (0 : Int) ([]) ([])), false)
 else
 (spec_l16Copy N x_1).bind fun y_125 =>
 (spec_ConfAt N x_1 x_2).bind fun y_127 =>
 (spec_LogTerm N x_1.Log x_2).bind fun y_130 =>
 (spec_LogBehind N x_1.Log x_2 y_130).bind fun y_131 =>
 some ((Node.mk y_125.Id y_125.Term y_125.Vote y_125.Role y_125.Lead y_127 y_131 y_125.Commit y_125.Clock y_125.Limit y_125.Votes y_125.Peers), true)))
theorem sem_spec_Settle (N : Nat) (x_1 : Node) (x_2 : Int) (r : Node × Bool) (h : spec_Settle N x_1 x_2 = some r) : Says Try.prog 68 [.agg [VI x_1.Id, VI x_1.Term, VI x_1.Vote, VI x_1.Role, VI x_1.Lead, RO 3 (x_1.Conf.map encI), VI x_1.Log.Start, VI x_1.Log.StartTerm, RO 48 (x_1.Log.Entries.map encEntry), VI x_1.Commit, VI x_1.Clock, VI x_1.Limit, RO 3 (x_1.Votes.map encI), RO 172 (x_1.Peers.map encPeer)], VI x_2] 0 [] (.tup [.agg [VI r.1.Id, VI r.1.Term, VI r.1.Vote, VI r.1.Role, VI r.1.Lead, .sl 0 3 0 r.1.Conf.length, VI r.1.Log.Start, VI r.1.Log.StartTerm, .sl 1 48 0 r.1.Log.Entries.length, VI r.1.Commit, VI r.1.Clock, VI r.1.Limit, .sl 2 3 0 r.1.Votes.length, .sl 3 172 0 r.1.Peers.length], VB r.2]) [(0, .vec 3 (r.1.Conf.map encI)), (1, .vec 48 (r.1.Log.Entries.map encEntry)), (2, .vec 3 (r.1.Votes.map encI)), (3, .vec 172 (r.1.Peers.map encPeer))] := by
  unfold spec_Settle at h
  refine Says.of_run s68 Try.call68 rfl fun B hB => ?_
  have hm : B.m ≤ 1000 := by omega
  refine Run.seq ?_
  refine Run.ops hm ?_
  refine Ops.st (s := 1000) (.bx rfl rfl) rfl rfl ?_
  refine Ops.st (s := 1016) (.al rfl rfl) rfl rfl ?_
  refine Ops.p rfl ?_
  refine Ops.nil ?_
  refine Run.seq ?_
  refine Run.seq ?_
  refine Run.ops hm ?_
  refine Ops.p rfl ?_
  obtain ⟨y_120, hy_120, h⟩ := bindO h
  refine Ops.st (s := 5112) (Ev.call [] [] 0 (sem_spec_NodeOk N x_1 _ hy_120) rfl rfl (.cons (.agg (.cons (.c _) (.cons (.c _) (.cons (.c _) (.cons (.c _) (.cons (.c _) (.cons (.c _) (.cons (.c _) (.cons (.c _) (.cons (.c _) (.cons (.c _) (.cons (.c _) (.cons (.c _) (.cons (.c _) (.cons (.c _) .nil))))))))))))))) .nil) rfl (.inl rfl) rfl rfl) rfl rfl ?_
  refine Ops.p rfl ?_
  refine Ops.p rfl ?_
  refine Ops.askO (x := .t 10) rfl h (fun g_121 h => ?_) (fun g_121 h => ?_)
  · skip
    refine Ops.gn rfl g_121 ?_
    refine Ops.gn rfl g_121 ?_
    refine Ops.gn rfl g_121 ?_
    refine Ops.gn rfl g_121 ?_
    refine Ops.gn rfl g_121 ?_
    refine Ops.gn rfl g_121 ?_
    refine Ops.gn rfl g_121 ?_
    refine Ops.gn rfl g_121 ?_
    refine Ops.st (s := 5288) (.pkT rfl g_121 rfl) rfl rfl ?_
    refine Ops.nil ?_
    refine Run.condT rfl rfl ?_
    refine Run.seq ?_
    refine Run.ops hm ?_
    refine Ops.st (s := 9192) (.bd rfl rfl) rfl rfl ?_
    refine Ops.s0 (s := 9208) (.sto rfl rfl rfl rfl rfl rfl) rfl rfl ?_
    refine Ops.p rfl ?_
    refine Ops.nil ?_
    refine Run.ret ?_
    obtain rfl := someO h
    exact Ends.mkG (.inl rfl) rfl (Gh.trans (Gh.trans (gh_prn [0, 1] [] hB rfl) (gh_nil [0] [] hB rfl rfl rfl)) (gh_pk [0, 1] [10000000, 10000001, 10000002, 10000003] hB rfl rfl rfl rfl)) rfl rfl
  · skip
    refine Ops.gp rfl g_121 rfl ?_
    refine Ops.gp rfl g_121 rfl ?_
    refine Ops.gp rfl g_121 rfl ?_
    refine Ops.gp rfl g_121 rfl ?_
    refine Ops.gp rfl g_121 rfl ?_
    refine Ops.gp rfl g_121 rfl ?_
    obtain ⟨y_122, hy_122, h⟩ := bindO h
    refine Ops.gs (s := 5256) rfl g_121 (Ev.call [] [] 0 (sem_spec_l01In N x_2 x_1.Log.Start x_1.Commit _ hy_122) rfl rfl (.cons (.c _) (.cons (.c _) (.cons (.c _) .nil))) rfl (.inl rfl) rfl rfl) rfl rfl ?_
    refine Ops.gp rfl g_121 rfl ?_
    refine Ops.st (s := 5288) (.pkF rfl g_121 rfl) rfl rfl ?_
    refine Ops.nil ?_
    refine Run.condO rfl h (fun g_123 h => ?_) (fun g_123 h => ?_)
    · skip
      refine Run.seq ?_
      refine Run.ops hm ?_
      refine Ops.st (s := 9192) (.bd rfl rfl) rfl rfl ?_
      refine Ops.s0 (s := 9208) (.sto rfl rfl rfl rfl rfl rfl) rfl rfl ?_
      refine Ops.p rfl ?_
      refine Ops.nil ?_
      refine Run.ret ?_
      obtain rfl := someO h
      exact Ends.mkG (.inl rfl) rfl (Gh.trans (Gh.trans (gh_prn [0, 1] [] hB rfl) (gh_nil [0] [] hB rfl rfl rfl)) (gh_pk [0, 1] [10000000, 10000001, 10000002, 10000003] hB rfl rfl rfl rfl)) rfl rfl
    · skip
      refine Run.skip ?_
      refine Run.seq ?_
      refine Run.ops hm ?_
      refine Ops.p rfl ?_
      obtain ⟨y_125, hy_125, h⟩ := bindO h
      refine Ops.st (s := 13304) (Ev.call [] [] 4 (sem_spec_l16Copy N x_1 _ hy_125) rfl rfl (.cons (.agg (.cons (.c _) (.cons (.c _) (.cons (.c _) (.cons (.c _) (.cons (.c _) (.cons (.c _) (.cons (.c _) (.cons (.c _) (.cons (.c _) (.cons (.c _) (.cons (.c _) (.cons (.c _) (.cons (.c _) (.cons (.c _) .nil))))))))))))))) .nil) rfl (.inl rfl) rfl rfl) rfl rfl ?_
      refine Ops.st (s := 13320) (.al rfl rfl) rfl rfl ?_
      refine Ops.s0 (s := 13336) (.sto rfl rfl rfl rfl rfl rfl) rfl rfl ?_
      refine Ops.nil ?_
      refine Run.seq ?_
      refine Run.ops hm ?_
      refine Ops.p rfl ?_
      refine Ops.p rfl ?_
      obtain ⟨y_127, hy_127, h⟩ := bindO h
      refine Ops.st (s := 17416) (Ev.call [] [] 1 (sem_spec_ConfAt N x_1 x_2 _ hy_127) rfl rfl (.cons (.agg (.cons (.c _) (.cons (.c _) (.cons (.c _) (.cons (.c _) (.cons (.c _) (.cons (.c _) (.cons (.c _) (.cons (.c _) (.cons (.c _) (.cons (.c _) (.cons (.c _) (.cons (.c _) (.cons (.c _) (.cons (.c _) .nil))))))))))))))) (.cons (.c _) .nil)) rfl (.inl rfl) rfl rfl) rfl rfl ?_
      refine Ops.p rfl ?_
      refine Ops.s0 (s := 17448) (.sto rfl rfl rfl rfl rfl rfl) rfl rfl ?_
      refine Ops.nil ?_
      refine Run.seq ?_
      refine Run.draw hm hmix ?_
      refine OpsD.p rfl ?_
      refine OpsD.p rfl ?_
      refine OpsD.p rfl ?_
      refine OpsD.p rfl ?_
      refine OpsD.p rfl ?_
      refine OpsD.p rfl ?_
      obtain ⟨y_130, hy_130, h⟩ := bindO h
      refine OpsD.st (s := 21576) (Ev.call [] [] 0 (sem_spec_LogTerm N x_1.Log x_2 _ hy_130) rfl rfl (.cons (.agg (.cons (.c _) (.cons (.c _) (.cons (.c _) .nil)))) (.cons (.c _) .nil)) rfl (.inl rfl) rfl rfl) rfl rfl ?_
      obtain ⟨y_131, hy_131, h⟩ := bindO h
      refine OpsD.st (s := 21592) (Ev.call [] [] 1 (sem_spec_LogBehind N x_1.Log x_2 y_130 _ hy_131) rfl rfl (.cons (.agg (.cons (.c _) (.cons (.c _) (.cons (.c _) .nil)))) (.cons (.c _) (.cons (.c _) .nil))) rfl (.inl rfl) rfl rfl) rfl rfl ?_
      refine OpsD.p rfl ?_
      refine OpsD.s0 (s := 21624) (.sto rfl rfl rfl rfl rfl rfl) rfl rfl ?_
      refine OpsD.nil ⟨by kernel_rfl, ?_⟩
      refine Run.seq ?_
      refine Run.ops hm ?_
      refine Ops.p rfl ?_
      refine Ops.s0 (s := 25592) (.sto rfl rfl rfl rfl rfl rfl) rfl rfl ?_
      refine Ops.p rfl ?_
      refine Ops.nil ?_
      refine Run.ret ?_
      obtain rfl := someO h
      exact Ends.mkG (.inl rfl) rfl (gh_pk [0, 1] [17416, 21592, 13306, 13307] hB rfl rfl rfl rfl) rfl rfl
def impl_within (N : Nat) (x_1 : Int) (x_2 : Int) (x_3 : Int) : Option (Bool) :=
 (if (decide (x_1 ≥ x_2)) = true then
 some (decide (x_1 ≤ x_3))
 else
 some false)
theorem sem_impl_within (N : Nat) (x_1 : Int) (x_2 : Int) (x_3 : Int) (r : Bool) (h : impl_within N x_1 x_2 x_3 = some r) : Says Try.prog 98 [VI x_1, VI x_2, VI x_3] 0 [] (VB r) [] := by
  unfold impl_within at h
  refine Says.of_run s98 Try.call98 rfl fun B hB => ?_
  have hm : B.m ≤ 1000 := by omega
  refine Run.seq ?_
  refine Run.ops hm ?_
  refine Ops.p rfl ?_
  refine Ops.nil ?_
  refine Run.seq ?_
  refine Run.ops hm ?_
  refine Ops.p rfl ?_
  refine Ops.p rfl ?_
  refine Ops.p rfl ?_
  refine Ops.p rfl ?_
  refine Ops.askO (x := .t 10) rfl h (fun g_101 h => ?_) (fun g_101 h => ?_)
  · skip
    refine Ops.gp rfl g_101 rfl ?_
    refine Ops.gp rfl g_101 rfl ?_
    refine Ops.gp rfl g_101 rfl ?_
    refine Ops.st (s := 5208) (.pkT rfl g_101 rfl) rfl rfl ?_
    refine Ops.p rfl ?_
    refine Ops.nil ?_
    refine Run.ret ?_
    obtain rfl := someO h
    exact Ends.mkG (.inl rfl) rfl (gh_pk [0] [] hB rfl rfl rfl rfl) rfl rfl
  · skip
    refine Ops.gn rfl g_101 ?_
    refine Ops.gn rfl g_101 ?_
    refine Ops.gn rfl g_101 ?_
    refine Ops.st (s := 5208) (.pkF rfl g_101 rfl) rfl rfl ?_
    refine Ops.p rfl ?_
    refine Ops.nil ?_
    refine Run.ret ?_
    obtain rfl := someO h
    exact Ends.mkG (.inl rfl) rfl (gh_pk [0] [] hB rfl rfl rfl rfl) rfl rfl
def impl_ConfOk_l1 (N : Nat) (x_1 : (List Int)) : Nat → Int → Option ((Bool) ⊕ (Unit))
 | 0, _ => none
 | m + 1, x_181 =>
 (if (decide (x_181 < (x_1.length : Int))) = true then
 (at? x_1 x_181).bind fun x_197 =>
 (impl_within N x_197 (1 : Int) (4 : Int)).bind fun y_198 =>
 (if (!y_198) = true then
 some (Sum.inl false)
 else
 (if (decide (x_181 > (0 : Int))) = true then
 (at? x_1 (w64 (x_181 - (1 : Int)))).bind fun x_201 =>
 (if (decide (x_201 ≥ x_197)) = true then
 some (Sum.inl false)
 else
 impl_ConfOk_l1 N x_1 m (w64 (x_181 + (1 : Int))))
 else
 impl_ConfOk_l1 N x_1 m (w64 (x_181 + (1 : Int)))))
 else
 some (Sum.inr ()))
def impl_ConfOk_l1_r (N : Nat) (x_1 : (List Int)) : (List Int) → Int → Option ((Bool) ⊕ (Unit))
 | [], x_181 =>
 some (Sum.inr ())
 | hd :: tl, x_181 =>
 (some hd).bind fun x_197 =>
 (impl_within N x_197 (1 : Int) (4 : Int)).bind fun y_198 =>
 (if (!y_198) = true then
 some (Sum.inl false)
 else
 (if (decide (x_181 > (0 : Int))) = true then
 (at? x_1 (w64 (x_181 - (1 : Int)))).bind fun x_201 =>
 (if (decide (x_201 ≥ x_197)) = true then
 some (Sum.inl false)
 else
 impl_ConfOk_l1_r N x_1 tl (w64 (x_181 + (1 : Int))))
 else
 impl_ConfOk_l1_r N x_1 tl (w64 (x_181 + (1 : Int)))))
theorem impl_ConfOk_l1_rng (N : Nat) (x_1 : (List Int)) (hx : x_1.length ≤ 1099511627776) : ∀ (d k m : Nat), x_1.length = k + d → d < m → impl_ConfOk_l1 N x_1 m (k : Int) = impl_ConfOk_l1_r N x_1 (x_1.drop k) (k : Int) := by
  intro d
  induction d with
  | zero =>
    intro k m hd hm
    obtain ⟨m, rfl⟩ : ∃ q, m = q + 1 := ⟨m - 1, by omega⟩
    rw [impl_ConfOk_l1, if_neg (by simp; omega), List.drop_eq_nil_of_le (by omega), impl_ConfOk_l1_r]
  | succ d ih =>
    intro k m hd hm
    obtain ⟨m, rfl⟩ : ∃ q, m = q + 1 := ⟨m - 1, by omega⟩
    have hk : k < x_1.length := by omega
    rw [impl_ConfOk_l1, if_pos (by simp; omega), List.drop_eq_getElem_cons hk, impl_ConfOk_l1_r]
    have h1 := at_lt hk
    have h2 := w64_succ (k := k) (by omega)
    have h3 := ih (k + 1) m
    simp only [h1, h2, h3 (by omega) (by omega)]
theorem impl_ConfOk_l1_eq {N : Nat} (x_1 : (List Int)) (hx : x_1.length ≤ 1099511627776) (hN : x_1.length < N) : impl_ConfOk_l1 N x_1 N 0 = impl_ConfOk_l1_r N x_1 x_1 0 := impl_ConfOk_l1_rng N x_1 hx x_1.length 0 N (by omega) hN
def impl_ConfOk (N : Nat) (x_1 : (List Int)) : Option (Bool) :=
 joinP (fun (v_177 : Unit) =>
 (impl_within N (x_1.length : Int) (1 : Int) (4 : Int)).bind fun y_203 =>
 some y_203) fun j_177 =>
 (impl_ConfOk_l1 N x_1 N (0 : Int)).bind (Sum.elim (fun v_191 => some v_191) (fun (v_192 : Unit) => j_177 ()))
theorem sem_impl_ConfOk (N : Nat) (x_1 : (List Int)) (r : Bool) (h : impl_ConfOk N x_1 = some r) : Says Try.prog 100 [RO 3 (x_1.map encI)] 0 [] (VB r) [] := by
  unfold impl_ConfOk at h
  refine Says.of_run s100 Try.call100 rfl fun B hB => ?_
  have hm : B.m ≤ 1000 := by omega
  refine Run.seq ?_
  refine Run.ops hm ?_
  refine Ops.p rfl ?_
  refine Ops.nil ?_
  refine Run.seqO h (fun (v_177 : Unit) => [(0, RO 3 (x_1.map encI))]) (fun (v_177 : Unit) => []) (fun h => ?_) (fun v_177 h => ?_)
  · skip
    refine Run.seq ?_
    refine Run.ops hm ?_
    refine Ops.p rfl ?_
    refine Ops.st (s := 5112) (Ev.lnF rfl) rfl rfl ?_
    refine Ops.p rfl ?_
    refine Ops.nil ?_
    refine Run.block ?_
    obtain ⟨res_192, h, hk_192⟩ := bindO h
    refine Run.loop (n := N) (fun m_192 fr σ => ∃ (x_181 : Int), impl_ConfOk_l1 N x_1 m_192 x_181 = some res_192 ∧ fr = [(0, RO 3 (x_1.map encI)), (5, RO 3 (x_1.map encI)), (6, VI (x_1.length : Int)), (7, VI x_181)] ∧ σ = []) (gh_pk [0, 5, 6, 7] [] hB rfl rfl rfl rfl) ⟨_, h, rfl, rfl⟩ ?_
    rintro m_192 fr σ ⟨x_181, h, rfl, rfl⟩
    obtain _ | m_192 := m_192
    · rw [impl_ConfOk_l1] at h; cases h
    rw [impl_ConfOk_l1] at h
    refine Run.seq ?_
    refine Run.ops hm ?_
    refine Ops.p rfl ?_
    refine Ops.nil ?_
    refine Run.seq ?_
    refine Run.condO rfl h (fun g_195 h => ?_) (fun g_195 h => ?_)
    · skip
      refine Run.skip ?_
      refine Run.seq ?_
      refine Run.block ?_
      refine Run.seq ?_
      refine Run.ops hm ?_
      refine Ops.p rfl ?_
      obtain ⟨x_197, hx_197, h⟩ := bindO h
      refine Ops.st (s := 13304) (Ev.iaF rfl rfl hx_197) rfl rfl ?_
      refine Ops.p rfl ?_
      refine Ops.p rfl ?_
      refine Ops.p rfl ?_
      refine Ops.nil ?_
      refine Run.seq ?_
      refine Run.ops hm ?_
      refine Ops.p rfl ?_
      obtain ⟨y_198, hy_198, h⟩ := bindO h
      refine Ops.st (s := 17400) (Ev.call [] [] 0 (sem_impl_within N x_197 (1 : Int) (4 : Int) _ hy_198) rfl rfl (.cons (.c _) (.cons (.c _) (.cons (.c _) .nil))) rfl (.inl rfl) rfl rfl) rfl rfl ?_
      refine Ops.p rfl ?_
      refine Ops.p rfl ?_
      refine Ops.askO (x := .t 15) rfl h (fun g_199 h => ?_) (fun g_199 h => ?_)
      · skip
        refine Ops.gn rfl g_199 ?_
        refine Ops.gn rfl g_199 ?_
        refine Ops.gn rfl g_199 ?_
        refine Ops.gu rfl ?_
        refine Ops.gu rfl ?_
        refine Ops.gu rfl ?_
        refine Ops.gu rfl ?_
        refine Ops.gu rfl ?_
        refine Ops.gu rfl ?_
        refine Ops.gu rfl ?_
        refine Ops.gn rfl g_199 ?_
        refine Ops.st (s := 17624) (.pkT rfl g_199 rfl) rfl rfl ?_
        refine Ops.nil ?_
        refine Run.condT rfl rfl ?_
        refine Run.seq ?_
        refine Run.ops hm ?_
        refine Ops.p rfl ?_
        refine Ops.nil ?_
        refine Run.ret ?_
        obtain rfl := someO h
        have h := hk_192
        replace h := inlO h
        obtain rfl := someO h
        exact Ends.mkG (.inl rfl) rfl (gh_pk [0] [] hB rfl rfl rfl rfl) rfl rfl
      · skip
        refine Ops.gp rfl g_199 rfl ?_
        refine Ops.gp rfl g_199 rfl ?_
        refine Ops.gp rfl g_199 rfl ?_
        refine Ops.askO (x := .t 18) rfl h (fun g_200 h => ?_) (fun g_200 h => ?_)
        · skip
          refine Ops.gp rfl g_200 rfl ?_
          refine Ops.gp rfl g_200 rfl ?_
          refine Ops.gp rfl g_200 rfl ?_
          obtain ⟨x_201, hx_201, h⟩ := bindO h
          refine Ops.gs (s := 17544) rfl g_200 (Ev.iaF rfl rfl hx_201) rfl rfl ?_
          refine Ops.gp rfl g_200 rfl ?_
          refine Ops.gp rfl g_200 rfl ?_
          refine Ops.gp rfl g_200 rfl ?_
          refine Ops.gs (s := 17608) rfl g_199 (.pkT rfl g_200 rfl) rfl rfl ?_
          refine Ops.st (s := 17624) (.pkF rfl g_199 rfl) rfl rfl ?_
          refine Ops.nil ?_
          refine Run.condO rfl h (fun g_202 h => ?_) (fun g_202 h => ?_)
          · skip
            refine Run.seq ?_
            refine Run.ops hm ?_
            refine Ops.p rfl ?_
            refine Ops.nil ?_
            refine Run.ret ?_
            obtain rfl := someO h
            have h := hk_192
            replace h := inlO h
            obtain rfl := someO h
            exact Ends.mkG (.inl rfl) rfl (gh_pk [0] [] hB rfl rfl rfl rfl) rfl rfl
          · skip
            refine Run.skip ?_
            refine Run.ops hm ?_
            refine Ops.p rfl ?_
            refine Ops.p rfl ?_
            refine Ops.nil ?_
            exact ⟨m_192, Nat.lt_succ_self m_192, _, _, (gh_pk [0, 5, 6, 7] [] hB rfl rfl rfl rfl), _, h, rfl, rfl⟩
        · skip
          refine Ops.gn rfl g_200 ?_
          refine Ops.gn rfl g_200 ?_
          refine Ops.gn rfl g_200 ?_
          refine Ops.gn rfl g_200 ?_
          refine Ops.gn rfl g_200 ?_
          refine Ops.gn rfl g_200 ?_
          refine Ops.gn rfl g_200 ?_
          refine Ops.gs (s := 17608) rfl g_199 (.pkF rfl g_200 rfl) rfl rfl ?_
          refine Ops.st (s := 17624) (.pkF rfl g_199 rfl) rfl rfl ?_
          refine Ops.nil ?_
          refine Run.condF rfl rfl ?_
          refine Run.skip ?_
          refine Run.ops hm ?_
          refine Ops.p rfl ?_
          refine Ops.p rfl ?_
          refine Ops.nil ?_
          exact ⟨m_192, Nat.lt_succ_self m_192, _, _, (gh_pk [0, 5, 6, 7] [] hB rfl rfl rfl rfl), _, h, rfl, rfl⟩
    · skip
      refine Run.exit ?_
      obtain rfl := someO h
      have h := hk_192
      replace h := inrO h
      exact ⟨_, _, (gh_pk [0] [] hB rfl rfl rfl rfl), (), h, rfl, rfl⟩
  · skip
    refine Run.seq ?_
    refine Run.ops hm ?_
    refine Ops.p rfl ?_
    refine Ops.st (s := 29688) (Ev.lnF rfl) rfl rfl ?_
    obtain ⟨y_203, hy_203, h⟩ := bindO h
    refine Ops.st (s := 29704) (Ev.call [] [] 0 (sem_impl_within N (x_1.length : Int) (1 : Int) (4 : Int) _ hy_203) rfl rfl (.cons (.c _) (.cons (.c _) (.cons (.c _) .nil))) rfl (.inl rfl) rfl rfl) rfl rfl ?_
    refine Ops.p rfl ?_
    refine Ops.nil ?_
    refine Run.ret ?_
    obtain rfl := someO h
    exact Ends.mkG (.inl rfl) rfl (gh_pk [0] [] hB rfl rfl rfl rfl) rfl rfl
def impl_ReadConf_l1 (N : Nat) (x_1 : ByteArray) : Nat → Int → (List Int) → Option ((List Int))
 | 0, _, _ => none
 | m + 1, x_158, x_159 =>
 (if (decide (x_158 < (x_1.size : Int))) = true then
 (sat? x_1 x_158).bind fun x_172 =>
 (cat? x_159 ([w64 (x_172)] : List Int)).bind fun x_173 =>
 impl_ReadConf_l1 N x_1 m (w64 (x_158 + (1 : Int))) x_173
 else
 some x_159)
def impl_ReadConf (N : Nat) (x_1 : ByteArray) : Option ((List Int) × Bool) :=
 joinP (fun (v_156 : (List Int)) =>
 (impl_ConfOk N v_156).bind fun y_176 =>
 (if (!y_176) = true then
 some ([], false)
 else
 some (v_156, true))) fun j_156 =>
 (impl_ReadConf_l1 N x_1 N (0 : Int) ([] : (List Int))).bind (fun (v_166 : (List Int)) => j_156 v_166)
theorem sem_impl_ReadConf (N : Nat) (x_1 : ByteArray) (r : (List Int) × Bool) (h : impl_ReadConf N x_1 = some r) : Says Try.prog 108 [VS x_1] 0 [] (.tup [.sl 0 3 0 r.1.length, VB r.2]) [(0, .vec 3 (r.1.map encI))] := by
  unfold impl_ReadConf at h
  refine Says.of_run s108 Try.call108 rfl fun B hB => ?_
  have hm : B.m ≤ 1000 := by omega
  refine Run.seq ?_
  refine Run.ops hm ?_
  refine Ops.p rfl ?_
  refine Ops.p rfl ?_
  refine Ops.nil ?_
  refine Run.seq ?_
  refine Run.ops hm ?_
  refine Ops.p rfl ?_
  refine Ops.nil ?_
  refine Run.seqO h (fun (v_156 : (List Int)) => [(4, .sl 0 3 0 v_156.length)]) (fun (v_156 : (List Int)) => [(0, .vec 3 (v_156.map encI))]) (fun h => ?_) (fun v_156 h => ?_)
  · skip
    refine Run.seq ?_
    refine Run.ops hm ?_
    refine Ops.p rfl ?_
    refine Ops.nil ?_
    refine Run.block ?_
    obtain ⟨res_166, h, hk_166⟩ := bindO h
    refine Run.loop (n := N) (fun m_166 fr σ => ∃ (x_158 : Int), ∃ (x_159 : (List Int)), impl_ReadConf_l1 N x_1 m_166 x_158 x_159 = some res_166 ∧ fr = [(0, VS x_1), (4, .sl 0 3 0 x_159.length), (5, VI x_158)] ∧ σ = [(0, .vec 3 (x_159.map encI))]) (Gh.trans (Gh.trans (gh_prn [0, 4, 5] [] hB rfl) (gh_nil [4] [] hB rfl rfl rfl)) (gh_pk [0, 4, 5] [10000000] hB rfl rfl rfl rfl)) ⟨_, _, h, rfl, rfl⟩ ?_
    rintro m_166 fr σ ⟨x_158, x_159, h, rfl, rfl⟩
    obtain _ | m_166 := m_166
    · rw [impl_ReadConf_l1] at h; cases h
    rw [impl_ReadConf_l1] at h
    refine Run.seq ?_
    refine Run.seq ?_
    refine Run.ops hm ?_
    refine Ops.p rfl ?_
    refine Ops.p rfl ?_
    refine Ops.p rfl ?_
    refine Ops.p rfl ?_
    refine Ops.nil ?_
    refine Run.condO rfl h (fun g_169 h => ?_) (fun g_169 h => ?_)
    · skip
      refine Run.skip ?_
      refine Run.seq ?_
      refine Run.block ?_
      refine Run.ops hm ?_
      refine Ops.p rfl ?_
      refine Ops.p rfl ?_
      refine Ops.p rfl ?_
      obtain ⟨x_172, hx_172, h⟩ := bindO h
      refine Ops.st (s := 21528) (Ev.ixS rfl rfl hx_172) rfl rfl ?_
      refine Ops.p rfl ?_
      refine Ops.st (s := 21560) (Ev.bsW (ys := ([w64 (x_172)] : List Int)) (f := encI) rfl (.cons (.c _) .nil) rfl rfl rfl rfl rfl) rfl rfl ?_
      obtain ⟨x_173, hx_173, h⟩ := bindO h
      refine Ops.st (s := 21576) (Ev.apW (f := encI) (ontoW rfl rfl rfl) (addsW rfl rfl rfl (fun _ => rfl)) rfl bt3 rfl hx_173) rfl rfl ?_
      refine Ops.p rfl ?_
      refine Ops.nil ?_
      refine Run.ops hm ?_
      refine Ops.p rfl ?_
      refine Ops.p rfl ?_
      refine Ops.p rfl ?_
      refine Ops.nil ?_
      exact ⟨m_166, Nat.lt_succ_self m_166, _, _, (gh_pk [0, 4, 5] [21576] hB rfl rfl rfl rfl), _, _, h, rfl, rfl⟩
    · skip
      refine Run.exit ?_
      obtain rfl := someO h
      have h := hk_166
      exact ⟨_, _, (gh_pk [4] [0] hB rfl rfl rfl rfl), x_159, h, rfl, rfl⟩
  · skip
    refine Run.seq ?_
    refine Run.seq ?_
    refine Run.ops hm ?_
    refine Ops.p rfl ?_
    obtain ⟨y_176, hy_176, h⟩ := bindO h
    refine Ops.st (s := 25592) (Ev.call [] [0] 0 (sem_impl_ConfOk N v_156 _ hy_176) rfl rfl (.cons (.borrow rfl (by decide) (lendW (fun _ => rfl) _ rfl)) .nil) rfl (.inr ⟨rfl, ownL_root trivial⟩) rfl rfl) rfl rfl ?_
    refine Ops.p rfl ?_
    refine Ops.nil ?_
    refine Run.condO rfl h (fun g_177 h => ?_) (fun g_177 h => ?_)
    · skip
      refine Run.seq ?_
      refine Run.ops hm ?_
      refine Ops.p rfl ?_
      refine Ops.p rfl ?_
      refine Ops.nil ?_
      refine Run.ret ?_
      obtain rfl := someO h
      exact Ends.mkG (.inl rfl) rfl (Gh.trans (Gh.trans (gh_prn [0, 1] [] hB rfl) (gh_nil [0] [] hB rfl rfl rfl)) (gh_pk [0, 1] [10000000] hB rfl rfl rfl rfl)) rfl rfl
    · skip
      refine Run.skip ?_
      refine Run.seq ?_
      refine Run.ops hm ?_
      refine Ops.p rfl ?_
      refine Ops.p rfl ?_
      refine Ops.p rfl ?_
      refine Ops.nil ?_
      refine Run.ret ?_
      obtain rfl := someO h
      exact Ends.mkG (.inl rfl) rfl (gh_pk [0, 1] [0] hB rfl rfl rfl rfl) rfl rfl
def impl_EntryOk (N : Nat) (x_1 : Entry) : Option (Bool) :=
 (impl_within N x_1.Term (0 : Int) (100000 : Int)).bind fun y_111 =>
 (if (!y_111) = true then
 some false
 else
 (if (x_1.Kind == (1 : Int)) = true then
 some (decide (x_1.Data = (⟨#[]⟩ : ByteArray)))
 else
 (if (x_1.Kind == (2 : Int)) = true then
 (impl_ReadConf N x_1.Data).bind fun y_116 =>
 some y_116.2
 else
 (if (x_1.Kind == (3 : Int)) = true then
 some (decide ((x_1.Data.size : Int) ≤ (120 : Int)))
 else
 some false))))
theorem sem_impl_EntryOk (N : Nat) (x_1 : Entry) (r : Bool) (h : impl_EntryOk N x_1 = some r) : Says Try.prog 124 [.agg [VI x_1.Term, VI x_1.Kind, VS x_1.Data]] 0 [] (VB r) [] := by
  unfold impl_EntryOk at h
  refine Says.of_run s124 Try.call124 rfl fun B hB => ?_
  have hm : B.m ≤ 1000 := by omega
  refine Run.seq ?_
  refine Run.ops hm ?_
  refine Ops.st (s := 1000) (.bx rfl rfl) rfl rfl ?_
  refine Ops.p rfl ?_
  refine Ops.nil ?_
  refine Run.seq ?_
  refine Run.seq ?_
  refine Run.ops hm ?_
  refine Ops.p rfl ?_
  refine Ops.p rfl ?_
  obtain ⟨y_111, hy_111, h⟩ := bindO h
  refine Ops.st (s := 5128) (Ev.call [] [] 0 (sem_impl_within N x_1.Term (0 : Int) (100000 : Int) _ hy_111) rfl rfl (.cons (.c _) (.cons (.c _) (.cons (.c _) .nil))) rfl (.inl rfl) rfl rfl) rfl rfl ?_
  refine Ops.p rfl ?_
  refine Ops.nil ?_
  refine Run.condO rfl h (fun g_112 h => ?_) (fun g_112 h => ?_)
  · skip
    refine Run.seq ?_
    refine Run.ops hm ?_
    refine Ops.p rfl ?_
    refine Ops.nil ?_
    refine Run.ret ?_
    obtain rfl := someO h
    exact Ends.mkG (.inl rfl) rfl (gh_pk [0] [] hB rfl rfl rfl rfl) rfl rfl
  · skip
    refine Run.skip ?_
    refine Run.seq ?_
    refine Run.seq ?_
    refine Run.ops hm ?_
    refine Ops.p rfl ?_
    refine Ops.p rfl ?_
    refine Ops.nil ?_
    refine Run.block ?_
    refine Run.seq ?_
    refine Run.ops hm ?_
    refine Ops.p rfl ?_
    refine Ops.p rfl ?_
    refine Ops.nil ?_
    refine Run.condO rfl h (fun g_113 h => ?_) (fun g_113 h => ?_)
    · skip
      refine Run.seq ?_
      refine Run.ops hm ?_
      refine Ops.p rfl ?_
      refine Ops.p rfl ?_
      refine Ops.p rfl ?_
      refine Ops.p rfl ?_
      refine Ops.nil ?_
      refine Run.ret ?_
      obtain rfl := someO h
      exact Ends.mkG (.inl rfl) rfl (gh_pk [0] [] hB rfl rfl rfl rfl) rfl rfl
    · skip
      refine Run.seq ?_
      refine Run.ops hm ?_
      refine Ops.p rfl ?_
      refine Ops.p rfl ?_
      refine Ops.nil ?_
      refine Run.condO rfl h (fun g_114 h => ?_) (fun g_114 h => ?_)
      · skip
        refine Run.seq ?_
        refine Run.ops hm ?_
        refine Ops.p rfl ?_
        refine Ops.p rfl ?_
        obtain ⟨y_116, hy_116, h⟩ := bindO h
        refine Ops.st (s := 29704) (Ev.call [] [] 1 (sem_impl_ReadConf N x_1.Data _ hy_116) rfl rfl (.cons (.c _) .nil) rfl (.inl rfl) rfl rfl) rfl rfl ?_
        refine Ops.p rfl ?_
        refine Ops.p rfl ?_
        refine Ops.p rfl ?_
        refine Ops.p rfl ?_
        refine Ops.p rfl ?_
        refine Ops.nil ?_
        refine Run.seq ?_
        refine Run.ops hm ?_
        refine Ops.p rfl ?_
        refine Ops.p rfl ?_
        refine Ops.nil ?_
        refine Run.ret ?_
        obtain rfl := someO h
        exact Ends.mkG (.inl rfl) rfl (gh_pk [0] [] hB rfl rfl rfl rfl) rfl rfl
      · skip
        refine Run.seq ?_
        refine Run.ops hm ?_
        refine Ops.p rfl ?_
        refine Ops.p rfl ?_
        refine Ops.nil ?_
        refine Run.condO rfl h (fun g_117 h => ?_) (fun g_117 h => ?_)
        · skip
          refine Run.seq ?_
          refine Run.ops hm ?_
          refine Ops.p rfl ?_
          refine Ops.p rfl ?_
          refine Ops.p rfl ?_
          refine Ops.p rfl ?_
          refine Ops.p rfl ?_
          refine Ops.nil ?_
          refine Run.ret ?_
          obtain rfl := someO h
          exact Ends.mkG (.inl rfl) rfl (gh_pk [0] [] hB rfl rfl rfl rfl) rfl rfl
        · skip
          refine Run.skip ?_
          refine Run.seq ?_
          refine Run.ops hm ?_
          refine Ops.p rfl ?_
          refine Ops.nil ?_
          refine Run.ret ?_
          obtain rfl := someO h
          exact Ends.mkG (.inl rfl) rfl (gh_pk [0] [] hB rfl rfl rfl rfl) rfl rfl
def impl_LogOk_l1 (N : Nat) (x_1 : Log) : Nat → Int → Int → Option ((Bool) ⊕ (Unit))
 | 0, _, _ => none
 | m + 1, x_207, x_210 =>
 (if (decide (x_210 < (x_1.Entries.length : Int))) = true then
 (at? x_1.Entries x_210).bind fun x_227 =>
 (impl_EntryOk N x_227).bind fun y_231 =>
 (if (!y_231) = true then
 some (Sum.inl false)
 else
 (if (decide (x_227.Term < x_207)) = true then
 some (Sum.inl false)
 else
 impl_LogOk_l1 N x_1 m x_227.Term (w64 (x_210 + (1 : Int)))))
 else
 some (Sum.inr ()))
def impl_LogOk_l1_r (N : Nat) (x_1 : Log) : (List Entry) → Int → Int → Option ((Bool) ⊕ (Unit))
 | [], x_207, x_210 =>
 some (Sum.inr ())
 | hd :: tl, x_207, x_210 =>
 (some hd).bind fun x_227 =>
 (impl_EntryOk N x_227).bind fun y_231 =>
 (if (!y_231) = true then
 some (Sum.inl false)
 else
 (if (decide (x_227.Term < x_207)) = true then
 some (Sum.inl false)
 else
 impl_LogOk_l1_r N x_1 tl x_227.Term (w64 (x_210 + (1 : Int)))))
theorem impl_LogOk_l1_rng (N : Nat) (x_1 : Log) (hx : x_1.Entries.length ≤ 1099511627776) : ∀ (d k m : Nat) (x_207 : Int), x_1.Entries.length = k + d → d < m → impl_LogOk_l1 N x_1 m x_207 (k : Int) = impl_LogOk_l1_r N x_1 (x_1.Entries.drop k) x_207 (k : Int) := by
  intro d
  induction d with
  | zero =>
    intro k m x_207 hd hm
    obtain ⟨m, rfl⟩ : ∃ q, m = q + 1 := ⟨m - 1, by omega⟩
    rw [impl_LogOk_l1, if_neg (by simp; omega), List.drop_eq_nil_of_le (by omega), impl_LogOk_l1_r]
  | succ d ih =>
    intro k m x_207 hd hm
    obtain ⟨m, rfl⟩ : ∃ q, m = q + 1 := ⟨m - 1, by omega⟩
    have hk : k < x_1.Entries.length := by omega
    rw [impl_LogOk_l1, if_pos (by simp; omega), List.drop_eq_getElem_cons hk, impl_LogOk_l1_r]
    have h1 := at_lt hk
    have h2 := w64_succ (k := k) (by omega)
    have h3 := ih (k + 1) m
    simp only [h1, h2, h3 _ (by omega) (by omega)]
theorem impl_LogOk_l1_eq {N : Nat} (x_1 : Log) (hx : x_1.Entries.length ≤ 1099511627776) (hN : x_1.Entries.length < N) (x_207 : Int) : impl_LogOk_l1 N x_1 N x_207 0 = impl_LogOk_l1_r N x_1 x_1.Entries x_207 0 := impl_LogOk_l1_rng N x_1 hx x_1.Entries.length 0 N x_207 (by omega) hN
def impl_LogOk (N : Nat) (x_1 : Log) : Option (Bool) :=
 (impl_within N x_1.Start (0 : Int) (100000 : Int)).bind fun y_173 =>
 (if (!y_173) = true then
 some false
 else
 (impl_within N x_1.StartTerm (0 : Int) (100000 : Int)).bind fun y_175 =>
 (if (!y_175) = true then
 some false
 else
 (if (decide ((x_1.Entries.length : Int) > (120 : Int))) = true then
 some false
 else
 (if (decide ((w64 (x_1.Start + (x_1.Entries.length : Int))) > (100000 : Int))) = true then
 some false
 else
 joinP (fun (v_206 : Unit) =>
 some true) fun j_206 =>
 (impl_LogOk_l1 N x_1 N x_1.StartTerm (0 : Int)).bind (Sum.elim (fun v_221 => some v_221) (fun (v_222 : Unit) => j_206 ()))))))
theorem sem_impl_LogOk (N : Nat) (x_1 : Log) (r : Bool) (h : impl_LogOk N x_1 = some r) : Says Try.prog 89 [.agg [VI x_1.Start, VI x_1.StartTerm, RO 48 (x_1.Entries.map encEntry)]] 0 [] (VB r) [] := by
  unfold impl_LogOk at h
  refine Says.of_run s89 Try.call89 rfl fun B hB => ?_
  have hm : B.m ≤ 1000 := by omega
  refine Run.seq ?_
  refine Run.ops hm ?_
  refine Ops.st (s := 1000) (.bx rfl rfl) rfl rfl ?_
  refine Ops.p rfl ?_
  refine Ops.nil ?_
  refine Run.seq ?_
  refine Run.seq ?_
  refine Run.ops hm ?_
  refine Ops.p rfl ?_
  refine Ops.p rfl ?_
  obtain ⟨y_173, hy_173, h⟩ := bindO h
  refine Ops.st (s := 5128) (Ev.call [] [] 0 (sem_impl_within N x_1.Start (0 : Int) (100000 : Int) _ hy_173) rfl rfl (.cons (.c _) (.cons (.c _) (.cons (.c _) .nil))) rfl (.inl rfl) rfl rfl) rfl rfl ?_
  refine Ops.p rfl ?_
  refine Ops.p rfl ?_
  refine Ops.askO (x := .t 10) rfl h (fun g_174 h => ?_) (fun g_174 h => ?_)
  · skip
    refine Ops.gn rfl g_174 ?_
    refine Ops.gn rfl g_174 ?_
    refine Ops.gn rfl g_174 ?_
    refine Ops.gn rfl g_174 ?_
    refine Ops.st (s := 5240) (.pkT rfl g_174 rfl) rfl rfl ?_
    refine Ops.p rfl ?_
    refine Ops.gn rfl rfl ?_
    refine Ops.gn rfl rfl ?_
    refine Ops.gn rfl rfl ?_
    refine Ops.gn rfl rfl ?_
    refine Ops.st (s := 5336) (.pkT rfl rfl rfl) rfl rfl ?_
    refine Ops.p rfl ?_
    refine Ops.gn rfl rfl ?_
    refine Ops.gn rfl rfl ?_
    refine Ops.gn rfl rfl ?_
    refine Ops.gn rfl rfl ?_
    refine Ops.gn rfl rfl ?_
    refine Ops.gn rfl rfl ?_
    refine Ops.gn rfl rfl ?_
    refine Ops.st (s := 5480) (.pkT rfl rfl rfl) rfl rfl ?_
    refine Ops.nil ?_
    refine Run.condT rfl rfl ?_
    refine Run.seq ?_
    refine Run.ops hm ?_
    refine Ops.p rfl ?_
    refine Ops.nil ?_
    refine Run.ret ?_
    obtain rfl := someO h
    exact Ends.mkG (.inl rfl) rfl (gh_pk [0] [] hB rfl rfl rfl rfl) rfl rfl
  · skip
    refine Ops.gp rfl g_174 rfl ?_
    refine Ops.gp rfl g_174 rfl ?_
    obtain ⟨y_175, hy_175, h⟩ := bindO h
    refine Ops.gs (s := 5208) rfl g_174 (Ev.call [] [] 0 (sem_impl_within N x_1.StartTerm (0 : Int) (100000 : Int) _ hy_175) rfl rfl (.cons (.c _) (.cons (.c _) (.cons (.c _) .nil))) rfl (.inl rfl) rfl rfl) rfl rfl ?_
    refine Ops.gp rfl g_174 rfl ?_
    refine Ops.st (s := 5240) (.pkF rfl g_174 rfl) rfl rfl ?_
    refine Ops.p rfl ?_
    refine Ops.askO (x := .t 16) rfl h (fun g_176 h => ?_) (fun g_176 h => ?_)
    · skip
      refine Ops.gn rfl g_176 ?_
      refine Ops.gn rfl g_176 ?_
      refine Ops.gn rfl g_176 ?_
      refine Ops.gn rfl g_176 ?_
      refine Ops.st (s := 5336) (.pkT rfl g_176 rfl) rfl rfl ?_
      refine Ops.p rfl ?_
      refine Ops.gn rfl rfl ?_
      refine Ops.gn rfl rfl ?_
      refine Ops.gn rfl rfl ?_
      refine Ops.gn rfl rfl ?_
      refine Ops.gn rfl rfl ?_
      refine Ops.gn rfl rfl ?_
      refine Ops.gn rfl rfl ?_
      refine Ops.st (s := 5480) (.pkT rfl rfl rfl) rfl rfl ?_
      refine Ops.nil ?_
      refine Run.condT rfl rfl ?_
      refine Run.seq ?_
      refine Run.ops hm ?_
      refine Ops.p rfl ?_
      refine Ops.nil ?_
      refine Run.ret ?_
      obtain rfl := someO h
      exact Ends.mkG (.inl rfl) rfl (gh_pk [0] [] hB rfl rfl rfl rfl) rfl rfl
    · skip
      refine Ops.gp rfl g_176 rfl ?_
      refine Ops.gp rfl g_176 rfl ?_
      refine Ops.gs (s := 5304) rfl g_176 (Ev.lnF rfl) rfl rfl ?_
      refine Ops.gp rfl g_176 rfl ?_
      refine Ops.st (s := 5336) (.pkF rfl g_176 rfl) rfl rfl ?_
      refine Ops.p rfl ?_
      refine Ops.askO (x := .t 22) rfl h (fun g_177 h => ?_) (fun g_177 h => ?_)
      · skip
        refine Ops.gn rfl g_177 ?_
        refine Ops.gn rfl g_177 ?_
        refine Ops.gn rfl g_177 ?_
        refine Ops.gn rfl g_177 ?_
        refine Ops.gn rfl g_177 ?_
        refine Ops.gn rfl g_177 ?_
        refine Ops.gn rfl g_177 ?_
        refine Ops.st (s := 5480) (.pkT rfl g_177 rfl) rfl rfl ?_
        refine Ops.nil ?_
        refine Run.condT rfl rfl ?_
        refine Run.seq ?_
        refine Run.ops hm ?_
        refine Ops.p rfl ?_
        refine Ops.nil ?_
        refine Run.ret ?_
        obtain rfl := someO h
        exact Ends.mkG (.inl rfl) rfl (gh_pk [0] [] hB rfl rfl rfl rfl) rfl rfl
      · skip
        refine Ops.gp rfl g_177 rfl ?_
        refine Ops.gp rfl g_177 rfl ?_
        refine Ops.gp rfl g_177 rfl ?_
        refine Ops.gp rfl g_177 rfl ?_
        refine Ops.gs (s := 5432) rfl g_177 (Ev.lnF rfl) rfl rfl ?_
        refine Ops.gp rfl g_177 rfl ?_
        refine Ops.gp rfl g_177 rfl ?_
        refine Ops.st (s := 5480) (.pkF rfl g_177 rfl) rfl rfl ?_
        refine Ops.nil ?_
        refine Run.condO rfl h (fun g_178 h => ?_) (fun g_178 h => ?_)
        · skip
          refine Run.seq ?_
          refine Run.ops hm ?_
          refine Ops.p rfl ?_
          refine Ops.nil ?_
          refine Run.ret ?_
          obtain rfl := someO h
          exact Ends.mkG (.inl rfl) rfl (gh_pk [0] [] hB rfl rfl rfl rfl) rfl rfl
        · skip
          refine Run.skip ?_
          refine Run.seq ?_
          refine Run.ops hm ?_
          refine Ops.p rfl ?_
          refine Ops.p rfl ?_
          refine Ops.p rfl ?_
          refine Ops.nil ?_
          refine Run.seqO h (fun (v_206 : Unit) => []) (fun (v_206 : Unit) => []) (fun h => ?_) (fun v_206 h => ?_)
          · skip
            refine Run.seq ?_
            refine Run.ops hm ?_
            refine Ops.p rfl ?_
            refine Ops.p rfl ?_
            refine Ops.st (s := 17416) (Ev.lnF rfl) rfl rfl ?_
            refine Ops.p rfl ?_
            refine Ops.nil ?_
            refine Run.block ?_
            obtain ⟨res_222, h, hk_222⟩ := bindO h
            refine Run.loop (n := N) (fun m_222 fr σ => ∃ (x_207 : Int), ∃ (x_210 : Int), impl_LogOk_l1 N x_1 m_222 x_207 x_210 = some res_222 ∧ fr = [(3, VI x_207), (34, RO 48 (x_1.Entries.map encEntry)), (35, VI (x_1.Entries.length : Int)), (36, VI x_210)] ∧ σ = []) (gh_pk [3, 34, 35, 36] [] hB rfl rfl rfl rfl) ⟨_, _, h, rfl, rfl⟩ ?_
            rintro m_222 fr σ ⟨x_207, x_210, h, rfl, rfl⟩
            obtain _ | m_222 := m_222
            · rw [impl_LogOk_l1] at h; cases h
            rw [impl_LogOk_l1] at h
            refine Run.seq ?_
            refine Run.ops hm ?_
            refine Ops.p rfl ?_
            refine Ops.nil ?_
            refine Run.seq ?_
            refine Run.condO rfl h (fun g_225 h => ?_) (fun g_225 h => ?_)
            · skip
              refine Run.skip ?_
              refine Run.seq ?_
              refine Run.block ?_
              refine Run.seq ?_
              refine Run.ops hm ?_
              obtain ⟨x_227, hx_227, h⟩ := bindO h
              refine Ops.st (s := 25576) (Ev.iaF rfl rfl hx_227) rfl rfl ?_
              refine Ops.p rfl ?_
              refine Ops.st (s := 25608) (.al rfl rfl) rfl rfl ?_
              refine Ops.s0 (s := 25624) (.sto rfl rfl rfl rfl rfl rfl) rfl rfl ?_
              refine Ops.nil ?_
              refine Run.seq ?_
              refine Run.seq ?_
              refine Run.ops hm ?_
              refine Ops.p rfl ?_
              obtain ⟨y_231, hy_231, h⟩ := bindO h
              refine Ops.st (s := 29688) (Ev.call [] [] 0 (sem_impl_EntryOk N x_227 _ hy_231) rfl rfl (.cons (.agg (.cons (.c _) (.cons (.c _) (.cons (.c _) .nil)))) .nil) rfl (.inl rfl) rfl rfl) rfl rfl ?_
              refine Ops.p rfl ?_
              refine Ops.p rfl ?_
              refine Ops.askO (x := .t 43) rfl h (fun g_232 h => ?_) (fun g_232 h => ?_)
              · skip
                refine Ops.gn rfl g_232 ?_
                refine Ops.gn rfl g_232 ?_
                refine Ops.gn rfl g_232 ?_
                refine Ops.gn rfl g_232 ?_
                refine Ops.st (s := 29800) (.pkT rfl g_232 rfl) rfl rfl ?_
                refine Ops.nil ?_
                refine Run.condT rfl rfl ?_
                refine Run.seq ?_
                refine Run.ops hm ?_
                refine Ops.p rfl ?_
                refine Ops.nil ?_
                refine Run.ret ?_
                obtain rfl := someO h
                have h := hk_222
                replace h := inlO h
                obtain rfl := someO h
                exact Ends.mkG (.inl rfl) rfl (gh_pk [0] [] hB rfl rfl rfl rfl) rfl rfl
              · skip
                refine Ops.gp rfl g_232 rfl ?_
                refine Ops.gp rfl g_232 rfl ?_
                refine Ops.gp rfl g_232 rfl ?_
                refine Ops.gp rfl g_232 rfl ?_
                refine Ops.st (s := 29800) (.pkF rfl g_232 rfl) rfl rfl ?_
                refine Ops.nil ?_
                refine Run.condO rfl h (fun g_233 h => ?_) (fun g_233 h => ?_)
                · skip
                  refine Run.seq ?_
                  refine Run.ops hm ?_
                  refine Ops.p rfl ?_
                  refine Ops.nil ?_
                  refine Run.ret ?_
                  obtain rfl := someO h
                  have h := hk_222
                  replace h := inlO h
                  obtain rfl := someO h
                  exact Ends.mkG (.inl rfl) rfl (gh_pk [0] [] hB rfl rfl rfl rfl) rfl rfl
                · skip
                  refine Run.skip ?_
                  refine Run.ops hm ?_
                  refine Ops.p rfl ?_
                  refine Ops.p rfl ?_
                  refine Ops.p rfl ?_
                  refine Ops.nil ?_
                  refine Run.ops hm ?_
                  refine Ops.p rfl ?_
                  refine Ops.p rfl ?_
                  refine Ops.nil ?_
                  exact ⟨m_222, Nat.lt_succ_self m_222, _, _, (gh_pk [3, 34, 35, 36] [] hB rfl rfl rfl rfl), _, _, h, rfl, rfl⟩
            · skip
              refine Run.exit ?_
              obtain rfl := someO h
              have h := hk_222
              replace h := inrO h
              exact ⟨_, _, (gh_pk [] [] hB rfl rfl rfl rfl), (), h, rfl, rfl⟩
          · skip
            refine Run.seq ?_
            refine Run.ops hm ?_
            refine Ops.p rfl ?_
            refine Ops.nil ?_
            refine Run.ret ?_
            obtain rfl := someO h
            exact Ends.mkG (.inl rfl) rfl (gh_pk [0] [] hB rfl rfl rfl rfl) rfl rfl
def impl_LogLast (N : Nat) (x_1 : Log) : Option (Int × Int) :=
 (if ((x_1.Entries.length : Int) == (0 : Int)) = true then
 some (x_1.Start, x_1.StartTerm)
 else
 (at? x_1.Entries (w64 ((x_1.Entries.length : Int) - (1 : Int)))).bind fun x_105 =>
 some (w64 (x_1.Start + (x_1.Entries.length : Int)), x_105.Term))
theorem sem_impl_LogLast (N : Nat) (x_1 : Log) (r : Int × Int) (h : impl_LogLast N x_1 = some r) : Says Try.prog 120 [.agg [VI x_1.Start, VI x_1.StartTerm, RO 48 (x_1.Entries.map encEntry)]] 0 [] (.tup [VI r.1, VI r.2]) [] := by
  unfold impl_LogLast at h
  refine Says.of_run s120 Try.call120 rfl fun B hB => ?_
  have hm : B.m ≤ 1000 := by omega
  refine Run.seq ?_
  refine Run.ops hm ?_
  refine Ops.st (s := 1000) (.bx rfl rfl) rfl rfl ?_
  refine Ops.p rfl ?_
  refine Ops.p rfl ?_
  refine Ops.nil ?_
  refine Run.seq ?_
  refine Run.ops hm ?_
  refine Ops.p rfl ?_
  refine Ops.p rfl ?_
  refine Ops.st (s := 5128) (Ev.lnF rfl) rfl rfl ?_
  refine Ops.p rfl ?_
  refine Ops.nil ?_
  refine Run.seq ?_
  refine Run.seq ?_
  refine Run.ops hm ?_
  refine Ops.p rfl ?_
  refine Ops.p rfl ?_
  refine Ops.nil ?_
  refine Run.condO rfl h (fun g_104 h => ?_) (fun g_104 h => ?_)
  · skip
    refine Run.seq ?_
    refine Run.draw hm hmix ?_
    refine OpsD.p rfl ?_
    refine OpsD.p rfl ?_
    refine OpsD.p rfl ?_
    refine OpsD.p rfl ?_
    refine OpsD.p rfl ?_
    refine OpsD.p rfl ?_
    refine OpsD.nil ⟨by kernel_rfl, ?_⟩
    refine Run.ret ?_
    obtain rfl := someO h
    exact Ends.mkG (.inl rfl) rfl (gh_pk [0, 1] [] hB rfl rfl rfl rfl) rfl rfl
  · skip
    refine Run.skip ?_
    refine Run.seq ?_
    refine Run.draw hm hmix ?_
    refine OpsD.p rfl ?_
    refine OpsD.p rfl ?_
    refine OpsD.p rfl ?_
    refine OpsD.p rfl ?_
    refine OpsD.p rfl ?_
    refine OpsD.p rfl ?_
    refine OpsD.p rfl ?_
    refine OpsD.p rfl ?_
    obtain ⟨x_105, hx_105, h⟩ := bindO h
    refine OpsD.st (s := 17512) (Ev.iaF rfl rfl hx_105) rfl rfl ?_
    refine OpsD.p rfl ?_
    refine OpsD.p rfl ?_
    refine OpsD.p rfl ?_
    refine OpsD.p rfl ?_
    refine OpsD.nil ⟨by kernel_rfl, ?_⟩
    refine Run.ret ?_
    obtain rfl := someO h
    exact Ends.mkG (.inl rfl) rfl (gh_pk [0, 1] [] hB rfl rfl rfl rfl) rfl rfl
def impl_last (N : Nat) (x_1 : Log) : Option (Int) :=
 some (w64 (x_1.Start + (x_1.Entries.length : Int)))
theorem sem_impl_last (N : Nat) (x_1 : Log) (r : Int) (h : impl_last N x_1 = some r) : Says Try.prog 123 [.agg [VI x_1.Start, VI x_1.StartTerm, RO 48 (x_1.Entries.map encEntry)]] 0 [] (VI r) [] := by
  unfold impl_last at h
  refine Says.of_run s123 Try.call123 rfl fun B hB => ?_
  have hm : B.m ≤ 1000 := by omega
  refine Run.seq ?_
  refine Run.ops hm ?_
  refine Ops.st (s := 1000) (.bx rfl rfl) rfl rfl ?_
  refine Ops.p rfl ?_
  refine Ops.nil ?_
  refine Run.seq ?_
  refine Run.ops hm ?_
  refine Ops.p rfl ?_
  refine Ops.p rfl ?_
  refine Ops.p rfl ?_
  refine Ops.p rfl ?_
  refine Ops.st (s := 5160) (Ev.lnF rfl) rfl rfl ?_
  refine Ops.p rfl ?_
  refine Ops.p rfl ?_
  refine Ops.nil ?_
  refine Run.ret ?_
  obtain rfl := someO h
  exact Ends.mkG (.inl rfl) rfl (gh_pk [0] [] hB rfl rfl rfl rfl) rfl rfl
def impl_ConfAt_l1 (N : Nat) (x_1 : Node) (x_2 : Int) : Nat → Int → Option (((List Int)) ⊕ (Unit))
 | 0, _ => none
 | m + 1, x_263 =>
 (if (decide (x_263 ≥ (0 : Int))) = true then
 joinP (fun (v_307 : Unit) =>
 impl_ConfAt_l1 N x_1 x_2 m (w64 (x_263 - (1 : Int)))) fun j_307 =>
 (at? x_1.Log.Entries x_263).bind fun x_309 =>
 (impl_ReadConf N x_309.Data).bind fun y_311 =>
 (if y_311.2 = true then
 (if (x_309.Kind == (2 : Int)) = true then
 (if (decide ((w64 ((w64 (x_1.Log.Start + x_263)) + (1 : Int))) ≤ x_2)) = true then
 some (Sum.inl y_311.1)
 else
 j_307 ())
 else
 j_307 ())
 else
 j_307 ())
 else
 some (Sum.inr ()))
def impl_ConfAt (N : Nat) (x_1 : Node) (x_2 : Int) : Option ((List Int)) :=
 joinP (fun (v_261 : Unit) =>
 (cat? ([] : List Int) x_1.Conf).bind fun x_315 =>
 some x_315) fun j_261 =>
 (impl_ConfAt_l1 N x_1 x_2 N (w64 ((x_1.Log.Entries.length : Int) - (1 : Int)))).bind (Sum.elim (fun v_295 => some v_295) (fun (v_296 : Unit) => j_261 ()))
theorem sem_impl_ConfAt (N : Nat) (x_1 : Node) (x_2 : Int) (r : (List Int)) (h : impl_ConfAt N x_1 x_2 = some r) : Says Try.prog 48 [.agg [VI x_1.Id, VI x_1.Term, VI x_1.Vote, VI x_1.Role, VI x_1.Lead, RO 3 (x_1.Conf.map encI), VI x_1.Log.Start, VI x_1.Log.StartTerm, RO 48 (x_1.Log.Entries.map encEntry), VI x_1.Commit, VI x_1.Clock, VI x_1.Limit, RO 3 (x_1.Votes.map encI), RO 172 (x_1.Peers.map encPeer)], VI x_2] 0 [] (.sl 0 3 0 r.length) [(0, .vec 3 (r.map encI))] := by
  unfold impl_ConfAt at h
  refine Says.of_run s48 Try.call48 rfl fun B hB => ?_
  have hm : B.m ≤ 1000 := by omega
  refine Run.seq ?_
  refine Run.ops hm ?_
  refine Ops.st (s := 1000) (.bx rfl rfl) rfl rfl ?_
  refine Ops.p rfl ?_
  refine Ops.nil ?_
  refine Run.seqO h (fun (v_261 : Unit) => [(2, .ptr 0 0)]) (fun (v_261 : Unit) => [(0, .box [VI x_1.Id, VI x_1.Term, VI x_1.Vote, VI x_1.Role, VI x_1.Lead, RO 3 (x_1.Conf.map encI), VI x_1.Log.Start, VI x_1.Log.StartTerm, RO 48 (x_1.Log.Entries.map encEntry), VI x_1.Commit, VI x_1.Clock, VI x_1.Limit, RO 3 (x_1.Votes.map encI), RO 172 (x_1.Peers.map encPeer)])]) (fun h => ?_) (fun v_261 h => ?_)
  · skip
    refine Run.seq ?_
    refine Run.ops hm ?_
    refine Ops.p rfl ?_
    refine Ops.p rfl ?_
    refine Ops.p rfl ?_
    refine Ops.st (s := 5144) (Ev.lnF rfl) rfl rfl ?_
    refine Ops.p rfl ?_
    refine Ops.p rfl ?_
    refine Ops.nil ?_
    refine Run.block ?_
    obtain ⟨res_296, h, hk_296⟩ := bindO h
    refine Run.loop (n := N) (fun m_296 fr σ => ∃ (x_263 : Int), impl_ConfAt_l1 N x_1 x_2 m_296 x_263 = some res_296 ∧ fr = [(1, VI x_2), (2, .ptr 0 0), (5, VI x_263)] ∧ σ = [(0, .box [VI x_1.Id, VI x_1.Term, VI x_1.Vote, VI x_1.Role, VI x_1.Lead, RO 3 (x_1.Conf.map encI), VI x_1.Log.Start, VI x_1.Log.StartTerm, RO 48 (x_1.Log.Entries.map encEntry), VI x_1.Commit, VI x_1.Clock, VI x_1.Limit, RO 3 (x_1.Votes.map encI), RO 172 (x_1.Peers.map encPeer)])]) (gh_pk [1, 2, 5] [1000] hB rfl rfl rfl rfl) ⟨_, h, rfl, rfl⟩ ?_
    rintro m_296 fr σ ⟨x_263, h, rfl, rfl⟩
    obtain _ | m_296 := m_296
    · rw [impl_ConfAt_l1] at h; cases h
    rw [impl_ConfAt_l1] at h
    refine Run.seq ?_
    refine Run.seq ?_
    refine Run.ops hm ?_
    refine Ops.p rfl ?_
    refine Ops.p rfl ?_
    refine Ops.nil ?_
    refine Run.condO rfl h (fun g_299 h => ?_) (fun g_299 h => ?_)
    · skip
      refine Run.skip ?_
      refine Run.seqO h (fun (v_307 : Unit) => [(1, VI x_2), (2, .ptr 0 0), (5, VI x_263)]) (fun (v_307 : Unit) => [(0, .box [VI x_1.Id, VI x_1.Term, VI x_1.Vote, VI x_1.Role, VI x_1.Lead, RO 3 (x_1.Conf.map encI), VI x_1.Log.Start, VI x_1.Log.StartTerm, RO 48 (x_1.Log.Entries.map encEntry), VI x_1.Commit, VI x_1.Clock, VI x_1.Limit, RO 3 (x_1.Votes.map encI), RO 172 (x_1.Peers.map encPeer)])]) (fun h => ?_) (fun v_307 h => ?_)
      · skip
        refine Run.block ?_
        refine Run.seq ?_
        refine Run.ops hm ?_
        refine Ops.p rfl ?_
        refine Ops.p rfl ?_
        refine Ops.p rfl ?_
        refine Ops.p rfl ?_
        obtain ⟨x_309, hx_309, h⟩ := bindO h
        refine Ops.st (s := 17448) (Ev.iaF rfl rfl hx_309) rfl rfl ?_
        refine Ops.p rfl ?_
        refine Ops.st (s := 17480) (.al rfl rfl) rfl rfl ?_
        refine Ops.s0 (s := 17496) (.sto rfl rfl rfl rfl rfl rfl) rfl rfl ?_
        refine Ops.nil ?_
        refine Run.seq ?_
        refine Run.ops hm ?_
        refine Ops.p rfl ?_
        refine Ops.p rfl ?_
        obtain ⟨y_311, hy_311, h⟩ := bindO h
        refine Ops.st (s := 21512) (Ev.call [] [] 1 (sem_impl_ReadConf N x_309.Data _ hy_311) rfl rfl (.cons (.c _) .nil) rfl (.inl rfl) rfl rfl) rfl rfl ?_
        refine Ops.p rfl ?_
        refine Ops.p rfl ?_
        refine Ops.p rfl ?_
        refine Ops.p rfl ?_
        refine Ops.p rfl ?_
        refine Ops.nil ?_
        refine Run.seq ?_
        refine Run.ops hm ?_
        refine Ops.p rfl ?_
        refine Ops.p rfl ?_
        refine Ops.askO (x := .t 31) rfl h (fun g_312 h => ?_) (fun g_312 h => ?_)
        · skip
          refine Ops.gp rfl g_312 rfl ?_
          refine Ops.gp rfl g_312 rfl ?_
          refine Ops.gp rfl g_312 rfl ?_
          refine Ops.st (s := 25656) (.pkT rfl g_312 rfl) rfl rfl ?_
          refine Ops.p rfl ?_
          refine Ops.askO (x := .t 36) rfl h (fun g_313 h => ?_) (fun g_313 h => ?_)
          · skip
            refine Ops.gp rfl g_313 rfl ?_
            refine Ops.gp rfl g_313 rfl ?_
            refine Ops.gp rfl g_313 rfl ?_
            refine Ops.gp rfl g_313 rfl ?_
            refine Ops.gp rfl g_313 rfl ?_
            refine Ops.gp rfl g_313 rfl ?_
            refine Ops.gp rfl g_313 rfl ?_
            refine Ops.gp rfl g_313 rfl ?_
            refine Ops.st (s := 25816) (.pkT rfl g_313 rfl) rfl rfl ?_
            refine Ops.nil ?_
            refine Run.condO rfl h (fun g_314 h => ?_) (fun g_314 h => ?_)
            · skip
              refine Run.seq ?_
              refine Run.ops hm ?_
              refine Ops.p rfl ?_
              refine Ops.p rfl ?_
              refine Ops.nil ?_
              refine Run.ret ?_
              obtain rfl := someO h
              have h := hk_296
              replace h := inlO h
              obtain rfl := someO h
              exact Ends.mkG (.inl rfl) rfl (gh_pk [0] [21512] hB rfl rfl rfl rfl) rfl rfl
            · skip
              refine Run.skip ?_
              exact ⟨_, _, (gh_pk [1, 2, 5] [0] hB rfl rfl rfl rfl), (), h, rfl, rfl⟩
          · skip
            refine Ops.gn rfl g_313 ?_
            refine Ops.gn rfl g_313 ?_
            refine Ops.gn rfl g_313 ?_
            refine Ops.gn rfl g_313 ?_
            refine Ops.gn rfl g_313 ?_
            refine Ops.gn rfl g_313 ?_
            refine Ops.gn rfl g_313 ?_
            refine Ops.gn rfl g_313 ?_
            refine Ops.st (s := 25816) (.pkF rfl g_313 rfl) rfl rfl ?_
            refine Ops.nil ?_
            refine Run.condF rfl rfl ?_
            refine Run.skip ?_
            exact ⟨_, _, (gh_pk [1, 2, 5] [0] hB rfl rfl rfl rfl), (), h, rfl, rfl⟩
        · skip
          refine Ops.gn rfl g_312 ?_
          refine Ops.gn rfl g_312 ?_
          refine Ops.gn rfl g_312 ?_
          refine Ops.st (s := 25656) (.pkF rfl g_312 rfl) rfl rfl ?_
          refine Ops.p rfl ?_
          refine Ops.gn rfl rfl ?_
          refine Ops.gn rfl rfl ?_
          refine Ops.gn rfl rfl ?_
          refine Ops.gn rfl rfl ?_
          refine Ops.gn rfl rfl ?_
          refine Ops.gn rfl rfl ?_
          refine Ops.gn rfl rfl ?_
          refine Ops.gn rfl rfl ?_
          refine Ops.st (s := 25816) (.pkF rfl rfl rfl) rfl rfl ?_
          refine Ops.nil ?_
          refine Run.condF rfl rfl ?_
          refine Run.skip ?_
          exact ⟨_, _, (gh_pk [1, 2, 5] [0] hB rfl rfl rfl rfl), (), h, rfl, rfl⟩
      · skip
        refine Run.ops hm ?_
        refine Ops.p rfl ?_
        refine Ops.p rfl ?_
        refine Ops.p rfl ?_
        refine Ops.nil ?_
        exact ⟨m_296, Nat.lt_succ_self m_296, _, _, (gh_pk [1, 2, 5] [0] hB rfl rfl rfl rfl), _, h, rfl, rfl⟩
    · skip
      refine Run.exit ?_
      obtain rfl := someO h
      have h := hk_296
      replace h := inrO h
      exact ⟨_, _, (gh_pk [2] [0] hB rfl rfl rfl rfl), (), h, rfl, rfl⟩
  · skip
    refine Run.seq ?_
    refine Run.ops hm ?_
    refine Ops.p rfl ?_
    refine Ops.p rfl ?_
    obtain ⟨x_315, hx_315, h⟩ := bindO h
    refine Ops.st (s := 33800) (Ev.apW (f := encI) (ontoN (f := encI) rfl) (addsF rfl) rfl bt3 rfl hx_315) rfl rfl ?_
    refine Ops.p rfl ?_
    refine Ops.nil ?_
    refine Run.ret ?_
    obtain rfl := someO h
    exact Ends.mkG (.inl rfl) rfl (gh_pk [0] [33800] hB rfl rfl rfl rfl) rfl rfl
end Go.Proofs.Ytebbgdjmplceiaa.Pe.FnExactSettle
