/- Functions, as pure functions; and that Go does just that. -/
import Derived.Test.YtehknbpmpbghhaaPeFFnExactTick2
namespace Go.Proofs.Ytehknbpmpbghhaa.Pe.FnExactTick
open Go Go.RowKit
set_option linter.unusedVariables false
set_option linter.unusedSimpArgs false
set_option maxHeartbeats 40000000
def spec_l16Tell_i2 (N : Nat) (x_1 : Tl16Run) (x_2 : Message) : Option (Tl16Run) :=
 (cat? x_1.told ([(Message.mk x_2.Kind x_1.n.Id x_2.To x_1.n.Term x_2.Index x_2.LogTerm x_2.Commit x_2.Ok ([]) ([]) x_2.Data x_2.Last)] : List Message)).bind fun x_103 =>
 some (Tl16Run.mk x_1.n x_103)
theorem sem_spec_l16Tell_i2 (N : Nat) (x_1 : Tl16Run) (x_2 : Message) (r : Tl16Run) (h : spec_l16Tell_i2 N x_1 x_2 = some r) : Says Try.prog 116 [.ptr 0 0, .agg [VI x_2.Kind, VI x_2.From, VI x_2.To, VI x_2.Term, VI x_2.Index, VI x_2.LogTerm, VI x_2.Commit, VB x_2.Ok, NI 51, NI 3, VS x_2.Data, VB x_2.Last]] 6 [(0, .box [VI x_1.n.Id, VI x_1.n.Term, VI x_1.n.Vote, VI x_1.n.Role, VI x_1.n.Lead, .sl 1 3 0 x_1.n.Conf.length, VI x_1.n.Log.Start, VI x_1.n.Log.StartTerm, .sl 2 51 0 x_1.n.Log.Entries.length, VI x_1.n.Commit, VI x_1.n.Clock, VI x_1.n.Limit, .sl 3 3 0 x_1.n.Votes.length, .sl 4 135 0 x_1.n.Peers.length, .sl 5 58 0 x_1.told.length]), (1, .vec 3 (x_1.n.Conf.map encI)), (2, .vec 51 (x_1.n.Log.Entries.map encEntry)), (3, .vec 3 (x_1.n.Votes.map encI)), (4, .vec 135 (x_1.n.Peers.map encPeer)), (5, .vec 58 (x_1.told.map (encMessage true)))] (.tup []) [(0, .box [VI r.n.Id, VI r.n.Term, VI r.n.Vote, VI r.n.Role, VI r.n.Lead, .sl 1 3 0 x_1.n.Conf.length, VI r.n.Log.Start, VI r.n.Log.StartTerm, .sl 2 51 0 x_1.n.Log.Entries.length, VI r.n.Commit, VI r.n.Clock, VI r.n.Limit, .sl 3 3 0 x_1.n.Votes.length, .sl 4 135 0 x_1.n.Peers.length, .sl 6 58 0 r.told.length]), (1, .vec 3 (x_1.n.Conf.map encI)), (2, .vec 51 (x_1.n.Log.Entries.map encEntry)), (3, .vec 3 (x_1.n.Votes.map encI)), (4, .vec 135 (x_1.n.Peers.map encPeer)), (5, .gone), (6, .vec 58 (r.told.map (encMessage true)))] := by
  unfold spec_l16Tell_i2 at h
  refine Says.of_run s116 Try.call116 rfl fun B hB => ?_
  have hm : B.m ≤ 1000 := by omega
  refine Run.seq (Run.ops hm (Ops.st (s := 1000) (.bx rfl rfl) rfl rfl (Ops.nil (Run.seq (Run.ops hm (Ops.p rfl (Ops.p rfl (Ops.p rfl (Ops.p rfl (Ops.p rfl (Ops.p rfl (Ops.s0 (s := 5192) (.sto rfl rfl rfl rfl rfl rfl) rfl rfl (Ops.nil (Run.seq (Run.ops hm (Ops.p rfl (Ops.p rfl (Ops.p rfl (Ops.p rfl (Ops.p rfl (Ops.p rfl (Ops.s0 (s := 9288) (.sto rfl rfl rfl rfl rfl rfl) rfl rfl (Ops.nil (Run.draw hm hmix (OpsD.p rfl (OpsD.p rfl (OpsD.p rfl (OpsD.p rfl (OpsD.p rfl (OpsD.p rfl (OpsD.st (s := 13384) (Ev.bsW (ys := ([(Message.mk x_2.Kind x_1.n.Id x_2.To x_1.n.Term x_2.Index x_2.LogTerm x_2.Commit x_2.Ok ([]) ([]) x_2.Data x_2.Last)] : List Message)) (f := (encMessage true)) rfl (.cons (.c _) (.cons (.c _) (.cons (.c _) (.cons (.c _) (.cons (.c _) (.cons (.c _) (.cons (.c _) (.cons (.c _) (.cons (.c _) (.cons (.c _) (.cons (.c _) (.cons (.c _) .nil)))))))))))) rfl rfl rfl rfl rfl) rfl rfl ?_)))))))))))))))))))))))))))))))
  obtain ⟨x_103, hx_103, h⟩ := bindO h
  refine OpsD.st (s := 13400) (Ev.apW (f := (encMessage true)) (ontoW rfl rfl rfl) (addsO rfl rfl rfl) rfl bt58 rfl hx_103) rfl rfl (OpsD.p rfl (OpsD.p rfl (OpsD.s0 (s := 13448) (.sto rfl rfl rfl rfl rfl rfl) rfl rfl (OpsD.nil ⟨by kernel_rfl, ?_⟩))))
  obtain rfl := someO h
  exact Ends.mkG (.inr rfl) rfl (gh_pk [] [0, 1, 2, 3, 4, 5, 13400] hB rfl rfl rfl rfl) rfl rfl
def spec_Tick_l1 (N : Nat) (x_1 : Node) (y_294 : Node) (y_338 : Int × Int) (y_342 : (List Int)) : Nat → Int → Int → Int → Int → Int → Int → Int → Int → Int → Int → Int → (List Message) → Option (Int × Int × Int × Int × Int × Int × Int × Int × Int × Int × (List Message))
 | 0, _, _, _, _, _, _, _, _, _, _, _, _ => none
 | m + 1, x_401, x_412, x_413, x_414, x_415, x_416, x_417, x_418, x_419, x_420, x_421, x_431 =>
 (if (decide (x_401 < ((y_342.length : Nat) : Int))) = true then
 (at? y_342 x_401).bind fun x_452 =>
 (spec_l16Tell_i2 N (Tl16Run.mk (Node.mk x_412 x_413 x_414 x_415 x_416 y_294.Conf (Log.mk x_417 x_418 y_294.Log.Entries) x_419 x_420 x_421 ([x_1.Id] : List Int) y_294.Peers) x_431) (Message.mk (1 : Int) (0 : Int) x_452 (0 : Int) y_338.1 y_338.2 (0 : Int) false ([]) ([]) (⟨#[]⟩ : ByteArray) false)).bind fun y_453 =>
 spec_Tick_l1 N x_1 y_294 y_338 y_342 m (w64 (x_401 + (1 : Int))) y_453.n.Id y_453.n.Term y_453.n.Vote y_453.n.Role y_453.n.Lead y_453.n.Log.Start y_453.n.Log.StartTerm y_453.n.Commit y_453.n.Clock y_453.n.Limit y_453.told
 else
 some (x_412, x_413, x_414, x_415, x_416, x_417, x_418, x_419, x_420, x_421, x_431))
def spec_Tick (N : Nat) (x_1 : Node) (x_2 : Int) : Option (Node × (List Message) × Bool) :=
 (spec_NodeOk N x_1).bind fun y_287 =>
 (if (!y_287) = true then
 some ((Node.mk (0 : Int) (0 : Int) (0 : Int) (0 : Int) (0 : Int) ([]) (Log.mk (0 : Int) (0 : Int) ([])) (0 : Int) (0 : Int) (0 : Int) ([]) ([])), ([] : List Message), false)
 else
 (spec_l01In N x_2 (1 : Int) (20 : Int)).bind fun y_289 =>
 (if (!y_289) = true then
 some ((Node.mk (0 : Int) (0 : Int) (0 : Int) (0 : Int) (0 : Int) ([]) (Log.mk (0 : Int) (0 : Int) ([])) (0 : Int) (0 : Int) (0 : Int) ([]) ([])), ([] : List Message), false)
 else
 (spec_l16Copy N x_1).bind fun y_294 =>
 (if (x_1.Role == (2 : Int)) = true then
 (spec_l16SendAll N (Tl16Run.mk y_294 ([]))).bind fun y_304 =>
 some ((Node.mk y_304.n.Id y_304.n.Term y_304.n.Vote y_304.n.Role y_304.n.Lead y_294.Conf (Log.mk y_304.n.Log.Start y_304.n.Log.StartTerm y_294.Log.Entries) y_304.n.Commit y_304.n.Clock y_304.n.Limit y_294.Votes y_294.Peers), y_304.told, true)
 else
 (if (decide ((w64 (x_1.Clock + (1 : Int))) < y_294.Limit)) = true then
 some ((Node.mk y_294.Id y_294.Term y_294.Vote y_294.Role y_294.Lead y_294.Conf y_294.Log y_294.Commit (w64 (x_1.Clock + (1 : Int))) y_294.Limit y_294.Votes y_294.Peers), [], true)
 else
 (spec_ConfOf N (Node.mk y_294.Id y_294.Term y_294.Vote y_294.Role y_294.Lead y_294.Conf y_294.Log y_294.Commit (0 : Int) x_2 y_294.Votes y_294.Peers)).bind fun y_310 =>
 (spec_l09In N y_310 x_1.Id).bind fun y_318 =>
 (if (!y_318) = true then
 some ((Node.mk y_294.Id y_294.Term y_294.Vote y_294.Role y_294.Lead y_294.Conf y_294.Log y_294.Commit (0 : Int) x_2 y_294.Votes y_294.Peers), [], true)
 else
 (if (x_1.Term == (100000 : Int)) = true then
 some ((Node.mk y_294.Id y_294.Term y_294.Vote y_294.Role y_294.Lead y_294.Conf y_294.Log y_294.Commit (0 : Int) x_2 y_294.Votes y_294.Peers), [], true)
 else
 (spec_l16Elected N (Tl16Run.mk (Node.mk y_294.Id (w64 (x_1.Term + (1 : Int))) x_1.Id (1 : Int) (0 : Int) y_294.Conf y_294.Log y_294.Commit (0 : Int) x_2 ([x_1.Id] : List Int) y_294.Peers) ([]))).bind fun y_329 =>
 (if y_329.1 = true then
 (spec_l16Lead N (Tl16Run.mk (Node.mk y_329.2.n.Id y_329.2.n.Term y_329.2.n.Vote y_329.2.n.Role y_329.2.n.Lead y_294.Conf (Log.mk y_329.2.n.Log.Start y_329.2.n.Log.StartTerm y_294.Log.Entries) y_329.2.n.Commit y_329.2.n.Clock y_329.2.n.Limit ([x_1.Id] : List Int) y_294.Peers) y_329.2.told)).bind fun y_334 =>
 some (y_334.n, y_334.told, true)
 else
 (spec_LogLast N (Log.mk y_329.2.n.Log.Start y_329.2.n.Log.StartTerm y_294.Log.Entries)).bind fun y_338 =>
 (spec_l16Others N y_310 x_1.Id).bind fun y_342 =>
 joinP (fun (v_398 : Int × Int × Int × Int × Int × Int × Int × Int × Int × Int × (List Message)) =>
 some ((Node.mk v_398.1 v_398.2.1 v_398.2.2.1 v_398.2.2.2.1 v_398.2.2.2.2.1 y_294.Conf (Log.mk v_398.2.2.2.2.2.1 v_398.2.2.2.2.2.2.1 y_294.Log.Entries) v_398.2.2.2.2.2.2.2.1 v_398.2.2.2.2.2.2.2.2.1 v_398.2.2.2.2.2.2.2.2.2.1 ([x_1.Id] : List Int) y_294.Peers), v_398.2.2.2.2.2.2.2.2.2.2, true)) fun j_398 =>
 (spec_Tick_l1 N x_1 y_294 y_338 y_342 N (0 : Int) y_329.2.n.Id y_329.2.n.Term y_329.2.n.Vote y_329.2.n.Role y_329.2.n.Lead y_329.2.n.Log.Start y_329.2.n.Log.StartTerm y_329.2.n.Commit y_329.2.n.Clock y_329.2.n.Limit y_329.2.told).bind (fun (v_442 : Int × Int × Int × Int × Int × Int × Int × Int × Int × Int × (List Message)) => j_398 (v_442.1, v_442.2.1, v_442.2.2.1, v_442.2.2.2.1, v_442.2.2.2.2.1, v_442.2.2.2.2.2.1, v_442.2.2.2.2.2.2.1, v_442.2.2.2.2.2.2.2.1, v_442.2.2.2.2.2.2.2.2.1, v_442.2.2.2.2.2.2.2.2.2.1, v_442.2.2.2.2.2.2.2.2.2.2)))))))))
theorem sem_spec_Tick (N : Nat) (x_1 : Node) (x_2 : Int) (r : Node × (List Message) × Bool) (h : spec_Tick N x_1 x_2 = some r) : Says Try.prog 37 [.agg [VI x_1.Id, VI x_1.Term, VI x_1.Vote, VI x_1.Role, VI x_1.Lead, RO 3 (x_1.Conf.map encI), VI x_1.Log.Start, VI x_1.Log.StartTerm, RO 51 (x_1.Log.Entries.map encEntry), VI x_1.Commit, VI x_1.Clock, VI x_1.Limit, RO 3 (x_1.Votes.map encI), RO 135 (x_1.Peers.map encPeer)], VI x_2] 0 [] (.tup [.agg [VI r.1.Id, VI r.1.Term, VI r.1.Vote, VI r.1.Role, VI r.1.Lead, .sl 0 3 0 r.1.Conf.length, VI r.1.Log.Start, VI r.1.Log.StartTerm, .sl 1 51 0 r.1.Log.Entries.length, VI r.1.Commit, VI r.1.Clock, VI r.1.Limit, .sl 2 3 0 r.1.Votes.length, .sl 3 135 0 r.1.Peers.length], .sl 4 58 0 r.2.1.length, VB r.2.2]) [(0, .vec 3 (r.1.Conf.map encI)), (1, .vec 51 (r.1.Log.Entries.map encEntry)), (2, .vec 3 (r.1.Votes.map encI)), (3, .vec 135 (r.1.Peers.map encPeer)), (4, .vec 58 (r.2.1.map (encMessage true)))] := by
  unfold spec_Tick at h
  refine Says.of_run s37 Try.call37 rfl fun B hB => ?_
  have hm : B.m ≤ 1000 := by omega
  refine Run.seq (Run.ops hm (Ops.st (s := 1000) (.bx rfl rfl) rfl rfl (Ops.st (s := 1016) (.al rfl rfl) rfl rfl (Ops.p rfl (Ops.p rfl (Ops.nil (Run.seq (Run.seq (Run.ops hm (Ops.p rfl ?_))))))))))
  obtain ⟨y_287, hy_287, h⟩ := bindO h
  refine Ops.st (s := 5112) (Ev.call [] [] 0 (sem_spec_NodeOk N x_1 _ hy_287) rfl rfl (.cons (.agg (.cons (.c _) (.cons (.c _) (.cons (.c _) (.cons (.c _) (.cons (.c _) (.cons (.c _) (.cons (.c _) (.cons (.c _) (.cons (.c _) (.cons (.c _) (.cons (.c _) (.cons (.c _) (.cons (.c _) (.cons (.c _) .nil))))))))))))))) .nil) rfl (.inl rfl) rfl rfl) rfl rfl (Ops.p rfl (Ops.p rfl (Ops.askO (x := .t 16) rfl h (fun g_288 h => ?_) (fun g_288 h => ?_))))
  · refine Ops.gn rfl g_288 (Ops.gn rfl g_288 (Ops.gn rfl g_288 (Ops.st (s := 5208) (.pkT rfl g_288 rfl) rfl rfl (Ops.nil (Run.condT rfl rfl (Run.seq (Run.ops hm (Ops.st (s := 9192) (.bd rfl rfl) rfl rfl (Ops.st (s := 9208) (Ev.bsW (ys := ([] : List Message)) (f := (encMessage true)) rfl .nil rfl rfl rfl rfl rfl) rfl rfl (Ops.s0 (s := 9224) (.sto rfl rfl rfl rfl rfl rfl) rfl rfl (Ops.p rfl (Ops.p rfl (Ops.nil (Run.ret ?_))))))))))))))
    obtain rfl := someO h
    exact Ends.mkG (.inl rfl) rfl (Gh.trans (Gh.trans (gh_prn [0, 1, 2] [9208] hB rfl) (gh_nil [0] [] hB rfl rfl rfl)) (gh_pk [0, 1, 2] [10000000, 10000001, 10000002, 10000003, 9208] hB rfl rfl rfl rfl)) rfl rfl
  · refine Ops.gp rfl g_288 rfl ?_
    obtain ⟨y_289, hy_289, h⟩ := bindO h
    refine Ops.gs (s := 5176) rfl g_288 (Ev.call [] [] 0 (sem_spec_l01In N x_2 (1 : Int) (20 : Int) _ hy_289) rfl rfl (.cons (.c _) (.cons (.c _) (.cons (.c _) .nil))) rfl (.inl rfl) rfl rfl) rfl rfl (Ops.gp rfl g_288 rfl (Ops.st (s := 5208) (.pkF rfl g_288 rfl) rfl rfl (Ops.nil (Run.condO rfl h (fun g_290 h => ?_) (fun g_290 h => ?_)))))
    · refine Run.seq (Run.ops hm (Ops.st (s := 9192) (.bd rfl rfl) rfl rfl (Ops.st (s := 9208) (Ev.bsW (ys := ([] : List Message)) (f := (encMessage true)) rfl .nil rfl rfl rfl rfl rfl) rfl rfl (Ops.s0 (s := 9224) (.sto rfl rfl rfl rfl rfl rfl) rfl rfl (Ops.p rfl (Ops.p rfl (Ops.nil (Run.ret ?_))))))))
      obtain rfl := someO h
      exact Ends.mkG (.inl rfl) rfl (Gh.trans (Gh.trans (gh_prn [0, 1, 2] [9208] hB rfl) (gh_nil [0] [] hB rfl rfl rfl)) (gh_pk [0, 1, 2] [10000000, 10000001, 10000002, 10000003, 9208] hB rfl rfl rfl rfl)) rfl rfl
    · refine Run.skip (Run.seq (Run.ops hm (Ops.p rfl ?_)))
      obtain ⟨y_294, hy_294, h⟩ := bindO h
      refine Ops.st (s := 13304) (Ev.call [] [] 4 (sem_spec_l16Copy N x_1 _ hy_294) rfl rfl (.cons (.agg (.cons (.c _) (.cons (.c _) (.cons (.c _) (.cons (.c _) (.cons (.c _) (.cons (.c _) (.cons (.c _) (.cons (.c _) (.cons (.c _) (.cons (.c _) (.cons (.c _) (.cons (.c _) (.cons (.c _) (.cons (.c _) .nil))))))))))))))) .nil) rfl (.inl rfl) rfl rfl) rfl rfl (Ops.st (s := 13320) (.bd rfl rfl) rfl rfl (Ops.st (s := 13336) (.bx rfl rfl) rfl rfl (Ops.p rfl (Ops.nil (Run.seq (Run.seq (Run.ops hm (Ops.p rfl (Ops.p rfl (Ops.p rfl (Ops.nil (Run.condO rfl h (fun g_300 h => ?_) (fun g_300 h => ?_)))))))))))))
      · refine Run.seq (Run.ops hm (Ops.p rfl ?_))
        obtain ⟨y_304, hy_304, h⟩ := bindO h
        refine Ops.st (s := 21496) (Ev.call [13336, 13304, 13305, 13306, 13307] [] 1 (sem_spec_l16SendAll N (Tl16Run.mk y_294 ([])) _ hy_304) rfl rfl (.cons (.ptr rfl) .nil) rfl (.inl rfl) rfl rfl) rfl rfl (Ops.nil (Run.seq (Run.draw hm hmix (OpsD.p rfl (OpsD.p rfl (OpsD.p rfl (OpsD.p rfl (OpsD.p rfl (OpsD.p rfl (OpsD.p rfl (OpsD.p rfl (OpsD.s0 (s := 25704) (.sto rfl rfl rfl rfl rfl rfl) rfl rfl (OpsD.p rfl (OpsD.p rfl (OpsD.nil ⟨by kernel_rfl, ?_⟩)))))))))))))))
        refine Run.ret ?_
        obtain rfl := someO h
        exact Ends.mkG (.inl rfl) rfl (gh_pk [0, 1, 2] [13304, 13305, 13306, 13307, 21496] hB rfl rfl rfl rfl) rfl rfl
      · refine Run.skip (Run.seq (Run.ops hm (Ops.p rfl (Ops.p rfl (Ops.p rfl (Ops.p rfl (Ops.p rfl (Ops.p rfl (Ops.p rfl (Ops.s0 (s := 29784) (.sto rfl rfl rfl rfl rfl rfl) rfl rfl (Ops.nil (Run.seq (Run.seq (Run.draw hm hmix (OpsD.p rfl (OpsD.p rfl (OpsD.p rfl (OpsD.p rfl (OpsD.p rfl (OpsD.p rfl (OpsD.p rfl (OpsD.p rfl (OpsD.p rfl (OpsD.p rfl (OpsD.p rfl (OpsD.nil ⟨by kernel_rfl, ?_⟩))))))))))))))))))))))))))
        refine Run.condO rfl h (fun g_306 h => ?_) (fun g_306 h => ?_)
        · refine Run.seq (Run.draw hm hmix (OpsD.p rfl (OpsD.p rfl (OpsD.p rfl (OpsD.p rfl (OpsD.p rfl (OpsD.p rfl (OpsD.p rfl (OpsD.p rfl (OpsD.s0 (s := 37992) (.sto rfl rfl rfl rfl rfl rfl) rfl rfl (OpsD.p rfl (OpsD.p rfl (OpsD.nil ⟨by kernel_rfl, ?_⟩)))))))))))))
          refine Run.ret ?_
          obtain rfl := someO h
          exact Ends.mkG (.inl rfl) rfl (Gh.trans (Gh.trans (gh_prn [0, 1, 2] [13304, 13305, 13306, 13307] hB rfl) (gh_nil [1] [] hB rfl rfl rfl)) (gh_pk [0, 1, 2] [13304, 13305, 13306, 13307, 10000000] hB rfl rfl rfl rfl)) rfl rfl
        · refine Run.skip (Run.seq (Run.ops hm (Ops.p rfl (Ops.p rfl (Ops.p rfl (Ops.p rfl (Ops.s0 (s := 42024) (.sto rfl rfl rfl rfl rfl rfl) rfl rfl (Ops.nil (Run.seq (Run.ops hm (Ops.p rfl (Ops.p rfl (Ops.p rfl (Ops.p rfl (Ops.p rfl (Ops.s0 (s := 46136) (.sto rfl rfl rfl rfl rfl rfl) rfl rfl (Ops.nil (Run.seq (Run.ops hm (Ops.p rfl (Ops.p rfl (Ops.p rfl (Ops.p rfl ?_)))))))))))))))))))))))
          obtain ⟨y_310, hy_310, h⟩ := bindO h
          refine Ops.st (s := 50216) (Ev.call [] [13304, 13305, 13306, 13307] 1 (sem_spec_ConfOf N (Node.mk y_294.Id y_294.Term y_294.Vote y_294.Role y_294.Lead y_294.Conf y_294.Log y_294.Commit (0 : Int) x_2 y_294.Votes y_294.Peers) _ hy_310) rfl rfl (.cons (.agg (.cons (.c _) (.cons (.c _) (.cons (.c _) (.cons (.c _) (.cons (.c _) (.cons (.borrow rfl (by decide) (lendW (fun _ => rfl) _ rfl)) (.cons (.c _) (.cons (.c _) (.cons (.borrow rfl (by decide) (lendW (fun _ => rfl) _ rfl)) (.cons (.c _) (.cons (.c _) (.cons (.c _) (.cons (.borrow rfl (by decide) (lendW (fun _ => rfl) _ rfl)) (.cons (.borrow rfl (by decide) (lendW (fun _ => rfl) _ rfl)) .nil))))))))))))))) .nil) rfl (.inr ⟨rfl, ownL_root ⟨own_rows (fun _ => rfl) _, trivial⟩⟩) rfl rfl) rfl rfl ?_
          refine Ops.p rfl (Ops.nil (Run.seq (Run.seq (Run.ops hm (Ops.p rfl (Ops.p rfl (Ops.p rfl ?_)))))))
          obtain ⟨y_318, hy_318, h⟩ := bindO h
          refine Ops.st (s := 54296) (Ev.call [] [50216] 0 (sem_spec_l09In N y_310 x_1.Id _ hy_318) rfl rfl (.cons (.borrow rfl (by decide) (lendW (fun _ => rfl) _ rfl)) (.cons (.c _) .nil)) rfl (.inr ⟨rfl, ownL_root trivial⟩) rfl rfl) rfl rfl ?_
          refine Ops.p rfl (Ops.p rfl (Ops.askO (x := .t 85) rfl h (fun g_319 h => ?_) (fun g_319 h => ?_)))
          · refine Ops.gn rfl g_319 (Ops.gn rfl g_319 (Ops.gn rfl g_319 (Ops.st (s := 54392) (.pkT rfl g_319 rfl) rfl rfl (Ops.nil (Run.condT rfl rfl (Run.seq (Run.draw hm hmix (OpsD.p rfl (OpsD.p rfl (OpsD.p rfl (OpsD.p rfl (OpsD.p rfl (OpsD.p rfl (OpsD.p rfl (OpsD.p rfl (OpsD.s0 (s := 58472) (.sto rfl rfl rfl rfl rfl rfl) rfl rfl (OpsD.p rfl (OpsD.p rfl (OpsD.nil ⟨by kernel_rfl, ?_⟩)))))))))))))))))))
            refine Run.ret ?_
            obtain rfl := someO h
            exact Ends.mkG (.inl rfl) rfl (Gh.trans (Gh.trans (gh_prn [0, 1, 2] [13304, 13305, 13306, 13307] hB rfl) (gh_nil [1] [] hB rfl rfl rfl)) (gh_pk [0, 1, 2] [13304, 13305, 13306, 13307, 10000000] hB rfl rfl rfl rfl)) rfl rfl
          · refine Ops.gp rfl g_319 rfl (Ops.gp rfl g_319 rfl (Ops.gp rfl g_319 rfl (Ops.st (s := 54392) (.pkF rfl g_319 rfl) rfl rfl (Ops.nil (Run.condO rfl h (fun g_320 h => ?_) (fun g_320 h => ?_))))))
            · refine Run.seq (Run.draw hm hmix (OpsD.p rfl (OpsD.p rfl (OpsD.p rfl (OpsD.p rfl (OpsD.p rfl (OpsD.p rfl (OpsD.p rfl (OpsD.p rfl (OpsD.s0 (s := 58472) (.sto rfl rfl rfl rfl rfl rfl) rfl rfl (OpsD.p rfl (OpsD.p rfl (OpsD.nil ⟨by kernel_rfl, ?_⟩)))))))))))))
              refine Run.ret ?_
              obtain rfl := someO h
              exact Ends.mkG (.inl rfl) rfl (Gh.trans (Gh.trans (gh_prn [0, 1, 2] [13304, 13305, 13306, 13307] hB rfl) (gh_nil [1] [] hB rfl rfl rfl)) (gh_pk [0, 1, 2] [13304, 13305, 13306, 13307, 10000000] hB rfl rfl rfl rfl)) rfl rfl
            · refine Run.skip (Run.seq (Run.ops hm (Ops.p rfl (Ops.p rfl (Ops.p rfl (Ops.p rfl (Ops.p rfl (Ops.p rfl (Ops.p rfl (Ops.s0 (s := 62552) (.sto rfl rfl rfl rfl rfl rfl) rfl rfl (Ops.nil (Run.seq (Run.ops hm (Ops.p rfl (Ops.p rfl (Ops.p rfl (Ops.p rfl (Ops.p rfl (Ops.p rfl (Ops.s0 (s := 66632) (.sto rfl rfl rfl rfl rfl rfl) rfl rfl (Ops.nil (Run.seq (Run.ops hm (Ops.p rfl (Ops.p rfl (Ops.p rfl (Ops.p rfl (Ops.s0 (s := 70696) (.sto rfl rfl rfl rfl rfl rfl) rfl rfl (Ops.nil (Run.seq (Run.ops hm (Ops.p rfl (Ops.p rfl (Ops.p rfl (Ops.p rfl (Ops.s0 (s := 74792) (.sto rfl rfl rfl rfl rfl rfl) rfl rfl (Ops.nil (Run.seq (Run.ops hm (Ops.p rfl (Ops.p rfl (Ops.p rfl (Ops.st (s := 78872) (Ev.bsW (ys := ([x_1.Id] : List Int)) (f := encI) rfl (.cons (.c _) .nil) rfl rfl rfl rfl rfl) rfl rfl (Ops.p rfl (Ops.p rfl (Ops.p rfl (Ops.s0 (s := 78936) (.sto rfl rfl rfl rfl rfl rfl) rfl rfl (Ops.nil (Run.seq (Run.seq (Run.ops hm (Ops.p rfl ?_))))))))))))))))))))))))))))))))))))))))))))))))))))
              obtain ⟨y_329, hy_329, h⟩ := bindO h
              refine Ops.st (s := 82936) (Ev.call [13336, 13304, 13305, 78872, 13307] [] 1 (sem_spec_l16Elected N (Tl16Run.mk (Node.mk y_294.Id (w64 (x_1.Term + (1 : Int))) x_1.Id (1 : Int) (0 : Int) y_294.Conf y_294.Log y_294.Commit (0 : Int) x_2 ([x_1.Id] : List Int) y_294.Peers) ([])) _ hy_329) rfl rfl (.cons (.ptr rfl) .nil) rfl (.inl rfl) rfl rfl) rfl rfl (Ops.nil (Run.condO rfl h (fun g_330 h => ?_) (fun g_330 h => ?_)))
              · refine Run.seq (Run.ops hm (Ops.p rfl ?_))
                obtain ⟨y_334, hy_334, h⟩ := bindO h
                refine Ops.st (s := 87032) (Ev.call [13336, 13304, 13305, 78872, 13307, 82936] [] 5 (sem_spec_l16Lead N (Tl16Run.mk (Node.mk y_329.2.n.Id y_329.2.n.Term y_329.2.n.Vote y_329.2.n.Role y_329.2.n.Lead y_294.Conf (Log.mk y_329.2.n.Log.Start y_329.2.n.Log.StartTerm y_294.Log.Entries) y_329.2.n.Commit y_329.2.n.Clock y_329.2.n.Limit ([x_1.Id] : List Int) y_294.Peers) y_329.2.told) _ hy_334) rfl rfl (.cons (.ptr rfl) .nil) rfl (.inl rfl) rfl rfl) rfl rfl (Ops.nil (Run.seq (Run.draw hm hmix (OpsD.p rfl (OpsD.p rfl (OpsD.p rfl (OpsD.p rfl (OpsD.p rfl (OpsD.p rfl (OpsD.p rfl (OpsD.p rfl (OpsD.s0 (s := 91240) (.sto rfl rfl rfl rfl rfl rfl) rfl rfl (OpsD.p rfl (OpsD.p rfl (OpsD.nil ⟨by kernel_rfl, ?_⟩)))))))))))))))
                refine Run.ret ?_
                obtain rfl := someO h
                exact Ends.mkG (.inl rfl) rfl (gh_pk [0, 1, 2] [87032, 87033, 87034, 87035, 87036] hB rfl rfl rfl rfl) rfl rfl
              · refine Run.skip (Run.seq (Run.ops hm (Ops.p rfl (Ops.p rfl (Ops.p rfl (Ops.p rfl (Ops.p rfl ?_)))))))
                obtain ⟨y_338, hy_338, h⟩ := bindO h
                refine Ops.st (s := 95288) (Ev.call [] [13305] 0 (sem_spec_LogLast N (Log.mk y_329.2.n.Log.Start y_329.2.n.Log.StartTerm y_294.Log.Entries) _ hy_338) rfl rfl (.cons (.agg (.cons (.c _) (.cons (.c _) (.cons (.borrow rfl (by decide) (lendW (fun _ => rfl) _ rfl)) .nil)))) .nil) rfl (.inr ⟨rfl, ownL_root trivial⟩) rfl rfl) rfl rfl ?_
                refine Ops.p rfl (Ops.p rfl (Ops.p rfl (Ops.p rfl (Ops.p rfl (Ops.nil (Run.seq (Run.ops hm (Ops.p rfl (Ops.p rfl (Ops.p rfl ?_))))))))))
                obtain ⟨y_342, hy_342, h⟩ := bindO h
                refine Ops.st (s := 99352) (Ev.call [] [50216] 1 (sem_spec_l16Others N y_310 x_1.Id _ hy_342) rfl rfl (.cons (.borrow rfl (by decide) (lendW (fun _ => rfl) _ rfl)) (.cons (.c _) .nil)) rfl (.inr ⟨rfl, ownL_root ⟨own_rows (fun _ => rfl) _, trivial⟩⟩) rfl rfl) rfl rfl ?_
                refine Ops.p rfl (Ops.nil (Run.seqO h (fun (v_398 : Int × Int × Int × Int × Int × Int × Int × Int × Int × Int × (List Message)) => [(4, .ptr 0 0), (7, .ptr 1 0)]) (fun (v_398 : Int × Int × Int × Int × Int × Int × Int × Int × Int × Int × (List Message)) => [(0, .box [VI (0 : Int), VI (0 : Int), VI (0 : Int), VI (0 : Int), VI (0 : Int), .sl 2 3 0 (([] : (List Int)).length), VI (0 : Int), VI (0 : Int), .sl 3 51 0 (([] : (List Entry)).length), VI (0 : Int), VI (0 : Int), VI (0 : Int), .sl 4 3 0 (([] : (List Int)).length), .sl 5 135 0 (([] : (List Peer)).length)]), (1, .box [VI v_398.1, VI v_398.2.1, VI v_398.2.2.1, VI v_398.2.2.2.1, VI v_398.2.2.2.2.1, .sl 6 3 0 y_294.Conf.length, VI v_398.2.2.2.2.2.1, VI v_398.2.2.2.2.2.2.1, .sl 7 51 0 y_294.Log.Entries.length, VI v_398.2.2.2.2.2.2.2.1, VI v_398.2.2.2.2.2.2.2.2.1, VI v_398.2.2.2.2.2.2.2.2.2.1, .sl 8 3 0 (([x_1.Id] : List Int).length), .sl 9 135 0 y_294.Peers.length, .sl 10 58 0 v_398.2.2.2.2.2.2.2.2.2.2.length]), (2, .vec 3 (([] : (List Int)).map encI)), (3, .vec 51 (([] : (List Entry)).map encEntry)), (4, .vec 3 (([] : (List Int)).map encI)), (5, .vec 135 (([] : (List Peer)).map encPeer)), (6, .vec 3 (y_294.Conf.map encI)), (7, .vec 51 (y_294.Log.Entries.map encEntry)), (8, .vec 3 (([x_1.Id] : List Int).map encI)), (9, .vec 135 (y_294.Peers.map encPeer)), (10, .vec 58 (v_398.2.2.2.2.2.2.2.2.2.2.map (encMessage true)))]) (fun h => ?_) (fun v_398 h => ?_)))
                · refine Run.seq (Run.ops hm (Ops.p rfl (Ops.nil (Run.block ?_))))
                  obtain ⟨res_442, h, hk_442⟩ := bindO h
                  refine Run.loop (n := N) (fun m_442 fr σ => ∃ (x_401 : Int), ∃ (x_412 : Int), ∃ (x_413 : Int), ∃ (x_414 : Int), ∃ (x_415 : Int), ∃ (x_416 : Int), ∃ (x_417 : Int), ∃ (x_418 : Int), ∃ (x_419 : Int), ∃ (x_420 : Int), ∃ (x_421 : Int), ∃ (x_431 : (List Message)), spec_Tick_l1 N x_1 y_294 y_338 y_342 m_442 x_401 x_412 x_413 x_414 x_415 x_416 x_417 x_418 x_419 x_420 x_421 x_431 = some res_442 ∧ fr = [(4, .ptr 0 0), (7, .ptr 1 0), (9, VI y_338.1), (10, VI y_338.2), (11, .sl 2 3 0 y_342.length), (12, VI x_401)] ∧ σ = [(0, .box [VI (0 : Int), VI (0 : Int), VI (0 : Int), VI (0 : Int), VI (0 : Int), .sl 3 3 0 (([] : (List Int)).length), VI (0 : Int), VI (0 : Int), .sl 4 51 0 (([] : (List Entry)).length), VI (0 : Int), VI (0 : Int), VI (0 : Int), .sl 5 3 0 (([] : (List Int)).length), .sl 6 135 0 (([] : (List Peer)).length)]), (1, .box [VI x_412, VI x_413, VI x_414, VI x_415, VI x_416, .sl 7 3 0 y_294.Conf.length, VI x_417, VI x_418, .sl 8 51 0 y_294.Log.Entries.length, VI x_419, VI x_420, VI x_421, .sl 9 3 0 (([x_1.Id] : List Int).length), .sl 10 135 0 y_294.Peers.length, .sl 11 58 0 x_431.length]), (2, .vec 3 (y_342.map encI)), (3, .vec 3 (([] : (List Int)).map encI)), (4, .vec 51 (([] : (List Entry)).map encEntry)), (5, .vec 3 (([] : (List Int)).map encI)), (6, .vec 135 (([] : (List Peer)).map encPeer)), (7, .vec 3 (y_294.Conf.map encI)), (8, .vec 51 (y_294.Log.Entries.map encEntry)), (9, .vec 3 (([x_1.Id] : List Int).map encI)), (10, .vec 135 (y_294.Peers.map encPeer)), (11, .vec 58 (x_431.map (encMessage true)))]) (Gh.trans (Gh.trans (gh_prn [4, 7, 9, 10, 11, 12] [1016, 13336, 99352, 13304, 13305, 78872, 13307, 82936] hB rfl) (gh_nil [] [1016] hB rfl rfl rfl)) (gh_pk [4, 7, 9, 10, 11, 12] [1016, 13336, 99352, 20000000, 20000001, 20000002, 20000003, 13304, 13305, 78872, 13307, 82936] hB rfl rfl rfl rfl)) ⟨_, _, _, _, _, _, _, _, _, _, _, _, h, rfl, rfl⟩ ?_
                  rintro m_442 fr σ ⟨x_401, x_412, x_413, x_414, x_415, x_416, x_417, x_418, x_419, x_420, x_421, x_431, h, rfl, rfl⟩
                  obtain _ | m_442 := m_442
                  · rw [spec_Tick_l1] at h; cases h
                  rw [spec_Tick_l1] at h
                  refine Run.seq (Run.seq (Run.ops hm (Ops.p rfl (Ops.p rfl (Ops.p rfl (Ops.p rfl (Ops.nil (Run.condO rfl h (fun g_445 h => ?_) (fun g_445 h => ?_)))))))))
                  · refine Run.skip (Run.seq (Run.block (Run.ops hm (Ops.p rfl (Ops.p rfl (Ops.p rfl ?_))))))
                    obtain ⟨x_452, hx_452, h⟩ := bindO h
                    refine Ops.st (s := 115736) (Ev.iaW rfl rfl rfl hx_452) rfl rfl (Ops.st (s := 115752) (Ev.ldE (f := encI) rfl rfl (at_some hx_452).2 rfl rfl rfl) rfl rfl (Ops.p rfl (Ops.p rfl (Ops.st (s := 115800) (.bd rfl rfl) rfl rfl ?_))))
                    obtain ⟨y_453, hy_453, h⟩ := bindO h
                    exact Ops.st (s := 115816) (Ev.call [1, 7, 8, 9, 10, 11] [] 1 (sem_spec_l16Tell_i2 N (Tl16Run.mk (Node.mk x_412 x_413 x_414 x_415 x_416 y_294.Conf (Log.mk x_417 x_418 y_294.Log.Entries) x_419 x_420 x_421 ([x_1.Id] : List Int) y_294.Peers) x_431) (Message.mk (1 : Int) (0 : Int) x_452 (0 : Int) y_338.1 y_338.2 (0 : Int) false ([]) ([]) (⟨#[]⟩ : ByteArray) false) _ hy_453) rfl rfl (.cons (.ptr rfl) (.cons (.agg (.cons (.c _) (.cons (.c _) (.cons (.c _) (.cons (.c _) (.cons (.c _) (.cons (.c _) (.cons (.c _) (.cons (.c _) (.cons (.c _) (.cons (.c _) (.cons (.c _) (.cons (.c _) .nil))))))))))))) .nil)) rfl (.inl rfl) rfl rfl) rfl rfl (Ops.nil (Run.ops hm (Ops.p rfl (Ops.p rfl (Ops.p rfl (Ops.nil (⟨m_442, Nat.lt_succ_self m_442, _, _, (gh_pk [4, 7, 9, 10, 11, 12] [0, 1, 2, 3, 4, 5, 6, 7, 8, 9, 10, 115816] hB rfl rfl rfl rfl), _, _, _, _, _, _, _, _, _, _, _, _, h, rfl, rfl⟩)))))))
                  · refine Run.exit ?_
                    obtain rfl := someO h
                    have h := hk_442
                    exact ⟨_, _, (gh_pk [4, 7] [0, 1, 3, 4, 5, 6, 7, 8, 9, 10, 11] hB rfl rfl rfl rfl), (x_412, x_413, x_414, x_415, x_416, x_417, x_418, x_419, x_420, x_421, x_431), h, rfl, rfl⟩
                · refine Run.seq (Run.draw hm hmix (OpsD.p rfl (OpsD.p rfl (OpsD.p rfl (OpsD.p rfl (OpsD.p rfl (OpsD.p rfl (OpsD.p rfl (OpsD.p rfl (OpsD.s0 (s := 119912) (.sto rfl rfl rfl rfl rfl rfl) rfl rfl (OpsD.p rfl (OpsD.p rfl (OpsD.nil ⟨by kernel_rfl, ?_⟩)))))))))))))
                  refine Run.ret ?_
                  obtain rfl := someO h
                  exact Ends.mkG (.inl rfl) rfl (gh_pk [0, 1, 2] [6, 7, 8, 9, 10] hB rfl rfl rfl rfl) rfl rfl
def impl_within (N : Nat) (x_1 : Int) (x_2 : Int) (x_3 : Int) : Option (Bool) :=
 (if (decide (x_1 ≥ x_2)) = true then
 some (decide (x_1 ≤ x_3))
 else
 some false)
theorem sem_impl_within (N : Nat) (x_1 : Int) (x_2 : Int) (x_3 : Int) (r : Bool) (h : impl_within N x_1 x_2 x_3 = some r) : Says Try.prog 50 [VI x_1, VI x_2, VI x_3] 0 [] (VB r) [] := by
  unfold impl_within at h
  refine Says.of_run s50 Try.call50 rfl fun B hB => ?_
  have hm : B.m ≤ 1000 := by omega
  refine Run.seq (Run.ops hm (Ops.p rfl (Ops.nil (Run.seq (Run.ops hm (Ops.p rfl (Ops.p rfl (Ops.p rfl (Ops.p rfl (Ops.askO (x := .t 10) rfl h (fun g_103 h => ?_) (fun g_103 h => ?_)))))))))))
  · refine Ops.gp rfl g_103 rfl (Ops.gp rfl g_103 rfl (Ops.gp rfl g_103 rfl (Ops.st (s := 5208) (.pkT rfl g_103 rfl) rfl rfl (Ops.p rfl (Ops.nil (Run.ret ?_))))))
    obtain rfl := someO h
    exact Ends.mkG (.inl rfl) rfl (gh_pk [0] [] hB rfl rfl rfl rfl) rfl rfl
  · refine Ops.gn rfl g_103 (Ops.gn rfl g_103 (Ops.gn rfl g_103 (Ops.st (s := 5208) (.pkF rfl g_103 rfl) rfl rfl (Ops.p rfl (Ops.nil (Run.ret ?_))))))
    obtain rfl := someO h
    exact Ends.mkG (.inl rfl) rfl (gh_pk [0] [] hB rfl rfl rfl rfl) rfl rfl
def impl_ConfOk_l1 (N : Nat) (x_1 : (List Int)) : Nat → Int → Option ((Bool) ⊕ (Unit))
 | 0, _ => none
 | m + 1, x_218 =>
 (if (decide (x_218 < (x_1.length : Int))) = true then
 (at? x_1 x_218).bind fun x_242 =>
 (impl_within N x_242 (1 : Int) (4 : Int)).bind fun y_247 =>
 (if (!y_247) = true then
 some (Sum.inl false)
 else
 (if (decide (x_218 > (0 : Int))) = true then
 (at? x_1 (w64 (x_218 - (1 : Int)))).bind fun x_250 =>
 (if (decide (x_250 ≥ x_242)) = true then
 some (Sum.inl false)
 else
 impl_ConfOk_l1 N x_1 m (w64 (x_218 + (1 : Int))))
 else
 impl_ConfOk_l1 N x_1 m (w64 (x_218 + (1 : Int)))))
 else
 some (Sum.inr ()))
def impl_ConfOk_l1_r (N : Nat) (x_1 : (List Int)) : (List Int) → Int → Option ((Bool) ⊕ (Unit))
 | [], x_218 =>
 some (Sum.inr ())
 | hd :: tl, x_218 =>
 (some hd).bind fun x_242 =>
 (impl_within N x_242 (1 : Int) (4 : Int)).bind fun y_247 =>
 (if (!y_247) = true then
 some (Sum.inl false)
 else
 (if (decide (x_218 > (0 : Int))) = true then
 (at? x_1 (w64 (x_218 - (1 : Int)))).bind fun x_250 =>
 (if (decide (x_250 ≥ x_242)) = true then
 some (Sum.inl false)
 else
 impl_ConfOk_l1_r N x_1 tl (w64 (x_218 + (1 : Int))))
 else
 impl_ConfOk_l1_r N x_1 tl (w64 (x_218 + (1 : Int)))))
theorem impl_ConfOk_l1_rng (N : Nat) (x_1 : (List Int)) (hx : x_1.length ≤ 1099511627776) : ∀ (d k m : Nat), x_1.length = k + d → d < m → impl_ConfOk_l1 N x_1 m (k : Int) = impl_ConfOk_l1_r N x_1 (x_1.drop k) (k : Int) := by
  intro d
  induction d with
  | zero =>
    intro k m hd hm
    obtain ⟨m, rfl⟩ : ∃ q, m = q + 1 := ⟨m - 1, by omega⟩
    rw [impl_ConfOk_l1, if_neg (by simp; omega), List.drop_eq_nil_of_le (by omega), impl_ConfOk_l1_r]
  | succ d ih =>
    intro k m hd hm
    obtain ⟨m, rfl⟩ : ∃ q, m = q + 1 := ⟨m - 1, by omega⟩
    have hk : k < x_1.length := by omega
    rw [impl_ConfOk_l1, if_pos (by simp; omega), List.drop_eq_getElem_cons hk, impl_ConfOk_l1_r]
    have h1 := at_lt hk
    have h2 := w64_succ (k := k) (by omega)
    have h3 := ih (k + 1) m
    simp only [h1, h2, h3 (by omega) (by omega)]
theorem impl_ConfOk_l1_eq {N : Nat} (x_1 : (List Int)) (hx : x_1.length ≤ 1099511627776) (hN : x_1.length < N) : impl_ConfOk_l1 N x_1 N 0 = impl_ConfOk_l1_r N x_1 x_1 0 := impl_ConfOk_l1_rng N x_1 hx x_1.length 0 N (by omega) hN
def impl_ConfOk (N : Nat) (x_1 : (List Int)) : Option (Bool) :=
 joinP (fun (v_214 : Unit) =>
 (impl_within N (x_1.length : Int) (1 : Int) (4 : Int)).bind fun y_253 =>
 some y_253) fun j_214 =>
 (impl_ConfOk_l1 N x_1 N (0 : Int)).bind (Sum.elim (fun v_234 => some v_234) (fun (v_235 : Unit) => j_214 ()))
theorem sem_impl_ConfOk (N : Nat) (x_1 : (List Int)) (r : Bool) (h : impl_ConfOk N x_1 = some r) : Says Try.prog 71 [RO 3 (x_1.map encI)] 0 [] (VB r) [] := by
  unfold impl_ConfOk at h
  refine Says.of_run s71 Try.call71 rfl fun B hB => ?_
  have hm : B.m ≤ 1000 := by omega
  refine Run.seq (Run.ops hm (Ops.p rfl (Ops.nil (Run.seqO h (fun (v_214 : Unit) => [(0, RO 3 (x_1.map encI))]) (fun (v_214 : Unit) => []) (fun h => ?_) (fun v_214 h => ?_)))))
  · refine Run.seq (Run.ops hm (Ops.p rfl (Ops.st (s := 5112) (Ev.lnF rfl) rfl rfl (Ops.p rfl (Ops.nil (Run.block ?_))))))
    obtain ⟨res_235, h, hk_235⟩ := bindO h
    refine Run.loop (n := N) (fun m_235 fr σ => ∃ (x_218 : Int), impl_ConfOk_l1 N x_1 m_235 x_218 = some res_235 ∧ fr = [(0, RO 3 (x_1.map encI)), (5, RO 3 (x_1.map encI)), (6, VI (x_1.length : Int)), (7, VI x_218)] ∧ σ = []) (gh_pk [0, 5, 6, 7] [] hB rfl rfl rfl rfl) ⟨_, h, rfl, rfl⟩ ?_
    rintro m_235 fr σ ⟨x_218, h, rfl, rfl⟩
    obtain _ | m_235 := m_235
    · rw [impl_ConfOk_l1] at h; cases h
    rw [impl_ConfOk_l1] at h
    refine Run.seq (Run.ops hm (Ops.p rfl (Ops.nil (Run.seq (Run.condO rfl h (fun g_238 h => ?_) (fun g_238 h => ?_))))))
    · refine Run.skip (Run.seq (Run.block (Run.seq (Run.ops hm (Ops.p rfl ?_)))))
      obtain ⟨x_242, hx_242, h⟩ := bindO h
      refine Ops.st (s := 13304) (Ev.iaF rfl rfl hx_242) rfl rfl (Ops.p rfl (Ops.p rfl (Ops.p rfl (Ops.nil (Run.seq (Run.ops hm (Ops.p rfl ?_)))))))
      obtain ⟨y_247, hy_247, h⟩ := bindO h
      refine Ops.st (s := 17400) (Ev.call [] [] 0 (sem_impl_within N x_242 (1 : Int) (4 : Int) _ hy_247) rfl rfl (.cons (.c _) (.cons (.c _) (.cons (.c _) .nil))) rfl (.inl rfl) rfl rfl) rfl rfl (Ops.p rfl (Ops.p rfl (Ops.askO (x := .t 15) rfl h (fun g_248 h => ?_) (fun g_248 h => ?_))))
      · refine Ops.gn rfl g_248 (Ops.gn rfl g_248 (Ops.gn rfl g_248 (Ops.gu rfl (Ops.gu rfl (Ops.gu rfl (Ops.gu rfl (Ops.gu rfl (Ops.gu rfl (Ops.gu rfl (Ops.gn rfl g_248 (Ops.st (s := 17624) (.pkT rfl g_248 rfl) rfl rfl (Ops.nil (Run.condT rfl rfl (Run.seq (Run.ops hm (Ops.p rfl (Ops.nil (Run.ret ?_))))))))))))))))))
        obtain rfl := someO h
        have h := hk_235
        replace h := inlO h
        obtain rfl := someO h
        exact Ends.mkG (.inl rfl) rfl (gh_pk [0] [] hB rfl rfl rfl rfl) rfl rfl
      · refine Ops.gp rfl g_248 rfl (Ops.gp rfl g_248 rfl (Ops.gp rfl g_248 rfl (Ops.askO (x := .t 18) rfl h (fun g_249 h => ?_) (fun g_249 h => ?_))))
        · refine Ops.gp rfl g_249 rfl (Ops.gp rfl g_249 rfl (Ops.gp rfl g_249 rfl ?_))
          obtain ⟨x_250, hx_250, h⟩ := bindO h
          refine Ops.gs (s := 17544) rfl g_249 (Ev.iaF rfl rfl hx_250) rfl rfl (Ops.gp rfl g_249 rfl (Ops.gp rfl g_249 rfl (Ops.gp rfl g_249 rfl (Ops.gs (s := 17608) rfl g_248 (.pkT rfl g_249 rfl) rfl rfl (Ops.st (s := 17624) (.pkF rfl g_248 rfl) rfl rfl (Ops.nil (Run.condO rfl h (fun g_251 h => ?_) (fun g_251 h => ?_))))))))
          · refine Run.seq (Run.ops hm (Ops.p rfl (Ops.nil (Run.ret ?_))))
            obtain rfl := someO h
            have h := hk_235
            replace h := inlO h
            obtain rfl := someO h
            exact Ends.mkG (.inl rfl) rfl (gh_pk [0] [] hB rfl rfl rfl rfl) rfl rfl
          · exact Run.skip (Run.ops hm (Ops.p rfl (Ops.p rfl (Ops.nil (⟨m_235, Nat.lt_succ_self m_235, _, _, (gh_pk [0, 5, 6, 7] [] hB rfl rfl rfl rfl), _, h, rfl, rfl⟩)))))
        · exact Ops.gn rfl g_249 (Ops.gn rfl g_249 (Ops.gn rfl g_249 (Ops.gn rfl g_249 (Ops.gn rfl g_249 (Ops.gn rfl g_249 (Ops.gn rfl g_249 (Ops.gs (s := 17608) rfl g_248 (.pkF rfl g_249 rfl) rfl rfl (Ops.st (s := 17624) (.pkF rfl g_248 rfl) rfl rfl (Ops.nil (Run.condF rfl rfl (Run.skip (Run.ops hm (Ops.p rfl (Ops.p rfl (Ops.nil (⟨m_235, Nat.lt_succ_self m_235, _, _, (gh_pk [0, 5, 6, 7] [] hB rfl rfl rfl rfl), _, h, rfl, rfl⟩))))))))))))))))
    · refine Run.exit ?_
      obtain rfl := someO h
      have h := hk_235
      replace h := inrO h
      exact ⟨_, _, (gh_pk [0] [] hB rfl rfl rfl rfl), (), h, rfl, rfl⟩
  · refine Run.seq (Run.ops hm (Ops.p rfl (Ops.st (s := 29688) (Ev.lnF rfl) rfl rfl ?_)))
    obtain ⟨y_253, hy_253, h⟩ := bindO h
    refine Ops.st (s := 29704) (Ev.call [] [] 0 (sem_impl_within N (x_1.length : Int) (1 : Int) (4 : Int) _ hy_253) rfl rfl (.cons (.c _) (.cons (.c _) (.cons (.c _) .nil))) rfl (.inl rfl) rfl rfl) rfl rfl (Ops.p rfl (Ops.nil (Run.ret ?_)))
    obtain rfl := someO h
    exact Ends.mkG (.inl rfl) rfl (gh_pk [0] [] hB rfl rfl rfl rfl) rfl rfl
def impl_ReadConf_l1 (N : Nat) (x_1 : ByteArray) : Nat → Int → (List Int) → Option ((List Int))
 | 0, _, _ => none
 | m + 1, x_184, x_185 =>
 (if (decide (x_184 < (x_1.size : Int))) = true then
 (sat? x_1 x_184).bind fun x_206 =>
 (cat? x_185 ([w64 (x_206)] : List Int)).bind fun x_207 =>
 impl_ReadConf_l1 N x_1 m (w64 (x_184 + (1 : Int))) x_207
 else
 some x_185)
def impl_ReadConf (N : Nat) (x_1 : ByteArray) : Option ((List Int) × Bool) :=
 joinP (fun (v_182 : (List Int)) =>
 (impl_ConfOk N v_182).bind fun y_212 =>
 (if (!y_212) = true then
 some ([], false)
 else
 some (v_182, true))) fun j_182 =>
 (impl_ReadConf_l1 N x_1 N (0 : Int) ([] : (List Int))).bind (fun (v_196 : (List Int)) => j_182 v_196)
theorem sem_impl_ReadConf (N : Nat) (x_1 : ByteArray) (r : (List Int) × Bool) (h : impl_ReadConf N x_1 = some r) : Says Try.prog 74 [VS x_1] 0 [] (.tup [.sl 0 3 0 r.1.length, VB r.2]) [(0, .vec 3 (r.1.map encI))] := by
  unfold impl_ReadConf at h
  refine Says.of_run s74 Try.call74 rfl fun B hB => ?_
  have hm : B.m ≤ 1000 := by omega
  refine Run.seq (Run.ops hm (Ops.p rfl (Ops.p rfl (Ops.nil (Run.seq (Run.ops hm (Ops.p rfl (Ops.nil (Run.seqO h (fun (v_182 : (List Int)) => [(4, .sl 0 3 0 v_182.length)]) (fun (v_182 : (List Int)) => [(0, .vec 3 (v_182.map encI))]) (fun h => ?_) (fun v_182 h => ?_))))))))))
  · refine Run.seq (Run.ops hm (Ops.p rfl (Ops.nil (Run.block ?_))))
    obtain ⟨res_196, h, hk_196⟩ := bindO h
    refine Run.loop (n := N) (fun m_196 fr σ => ∃ (x_184 : Int), ∃ (x_185 : (List Int)), impl_ReadConf_l1 N x_1 m_196 x_184 x_185 = some res_196 ∧ fr = [(0, VS x_1), (4, .sl 0 3 0 x_185.length), (5, VI x_184)] ∧ σ = [(0, .vec 3 (x_185.map encI))]) (Gh.trans (Gh.trans (gh_prn [0, 4, 5] [] hB rfl) (gh_nil [4] [] hB rfl rfl rfl)) (gh_pk [0, 4, 5] [10000000] hB rfl rfl rfl rfl)) ⟨_, _, h, rfl, rfl⟩ ?_
    rintro m_196 fr σ ⟨x_184, x_185, h, rfl, rfl⟩
    obtain _ | m_196 := m_196
    · rw [impl_ReadConf_l1] at h; cases h
    rw [impl_ReadConf_l1] at h
    refine Run.seq (Run.seq (Run.ops hm (Ops.p rfl (Ops.p rfl (Ops.p rfl (Ops.p rfl (Ops.nil (Run.condO rfl h (fun g_199 h => ?_) (fun g_199 h => ?_)))))))))
    · refine Run.skip (Run.seq (Run.block (Run.ops hm (Ops.p rfl (Ops.p rfl (Ops.p rfl ?_))))))
      obtain ⟨x_206, hx_206, h⟩ := bindO h
      refine Ops.st (s := 21528) (Ev.ixS rfl rfl hx_206) rfl rfl (Ops.p rfl (Ops.st (s := 21560) (Ev.bsW (ys := ([w64 (x_206)] : List Int)) (f := encI) rfl (.cons (.c _) .nil) rfl rfl rfl rfl rfl) rfl rfl ?_))
      obtain ⟨x_207, hx_207, h⟩ := bindO h
      exact Ops.st (s := 21576) (Ev.apW (f := encI) (ontoW rfl rfl rfl) (addsW rfl rfl rfl (fun _ => rfl)) rfl bt3 rfl hx_207) rfl rfl (Ops.p rfl (Ops.nil (Run.ops hm (Ops.p rfl (Ops.p rfl (Ops.p rfl (Ops.nil (⟨m_196, Nat.lt_succ_self m_196, _, _, (gh_pk [0, 4, 5] [21576] hB rfl rfl rfl rfl), _, _, h, rfl, rfl⟩))))))))
    · refine Run.exit ?_
      obtain rfl := someO h
      have h := hk_196
      exact ⟨_, _, (gh_pk [4] [0] hB rfl rfl rfl rfl), x_185, h, rfl, rfl⟩
  · refine Run.seq (Run.seq (Run.ops hm (Ops.p rfl ?_)))
    obtain ⟨y_212, hy_212, h⟩ := bindO h
    refine Ops.st (s := 25592) (Ev.call [] [0] 0 (sem_impl_ConfOk N v_182 _ hy_212) rfl rfl (.cons (.borrow rfl (by decide) (lendW (fun _ => rfl) _ rfl)) .nil) rfl (.inr ⟨rfl, ownL_root trivial⟩) rfl rfl) rfl rfl ?_
    refine Ops.p rfl (Ops.nil (Run.condO rfl h (fun g_213 h => ?_) (fun g_213 h => ?_)))
    · refine Run.seq (Run.ops hm (Ops.p rfl (Ops.p rfl (Ops.nil (Run.ret ?_)))))
      obtain rfl := someO h
      exact Ends.mkG (.inl rfl) rfl (Gh.trans (Gh.trans (gh_prn [0, 1] [] hB rfl) (gh_nil [0] [] hB rfl rfl rfl)) (gh_pk [0, 1] [10000000] hB rfl rfl rfl rfl)) rfl rfl
    · refine Run.skip (Run.seq (Run.ops hm (Ops.p rfl (Ops.p rfl (Ops.p rfl (Ops.nil (Run.ret ?_)))))))
      obtain rfl := someO h
      exact Ends.mkG (.inl rfl) rfl (gh_pk [0, 1] [0] hB rfl rfl rfl rfl) rfl rfl
def impl_EntryOk (N : Nat) (x_1 : Entry) : Option (Bool) :=
 (impl_within N x_1.Term (0 : Int) (100000 : Int)).bind fun y_117 =>
 (if (!y_117) = true then
 some false
 else
 (if (x_1.Kind == (1 : Int)) = true then
 some (decide (x_1.Data = (⟨#[]⟩ : ByteArray)))
 else
 (if (x_1.Kind == (2 : Int)) = true then
 (impl_ReadConf N x_1.Data).bind fun y_124 =>
 some y_124.2
 else
 (if (x_1.Kind == (3 : Int)) = true then
 some (decide ((x_1.Data.size : Int) ≤ (120 : Int)))
 else
 some false))))
theorem sem_impl_EntryOk (N : Nat) (x_1 : Entry) (r : Bool) (h : impl_EntryOk N x_1 = some r) : Says Try.prog 93 [.agg [VI x_1.Term, VI x_1.Kind, VS x_1.Data]] 0 [] (VB r) [] := by
  unfold impl_EntryOk at h
  refine Says.of_run s93 Try.call93 rfl fun B hB => ?_
  have hm : B.m ≤ 1000 := by omega
  refine Run.seq (Run.ops hm (Ops.st (s := 1000) (.bx rfl rfl) rfl rfl (Ops.p rfl (Ops.nil (Run.seq (Run.seq (Run.ops hm (Ops.p rfl (Ops.p rfl ?_)))))))))
  obtain ⟨y_117, hy_117, h⟩ := bindO h
  refine Ops.st (s := 5128) (Ev.call [] [] 0 (sem_impl_within N x_1.Term (0 : Int) (100000 : Int) _ hy_117) rfl rfl (.cons (.c _) (.cons (.c _) (.cons (.c _) .nil))) rfl (.inl rfl) rfl rfl) rfl rfl (Ops.p rfl (Ops.nil (Run.condO rfl h (fun g_118 h => ?_) (fun g_118 h => ?_))))
  · refine Run.seq (Run.ops hm (Ops.p rfl (Ops.nil (Run.ret ?_))))
    obtain rfl := someO h
    exact Ends.mkG (.inl rfl) rfl (gh_pk [0] [] hB rfl rfl rfl rfl) rfl rfl
  · refine Run.skip (Run.seq (Run.seq (Run.ops hm (Ops.p rfl (Ops.p rfl (Ops.nil (Run.block (Run.seq (Run.ops hm (Ops.p rfl (Ops.p rfl (Ops.nil (Run.condO rfl h (fun g_119 h => ?_) (fun g_119 h => ?_))))))))))))))
    · refine Run.seq (Run.ops hm (Ops.p rfl (Ops.p rfl (Ops.p rfl (Ops.p rfl (Ops.nil (Run.ret ?_)))))))
      obtain rfl := someO h
      exact Ends.mkG (.inl rfl) rfl (gh_pk [0] [] hB rfl rfl rfl rfl) rfl rfl
    · refine Run.seq (Run.ops hm (Ops.p rfl (Ops.p rfl (Ops.nil (Run.condO rfl h (fun g_120 h => ?_) (fun g_120 h => ?_))))))
      · refine Run.seq (Run.ops hm (Ops.p rfl (Ops.p rfl ?_)))
        obtain ⟨y_124, hy_124, h⟩ := bindO h
        refine Ops.st (s := 29704) (Ev.call [] [] 1 (sem_impl_ReadConf N x_1.Data _ hy_124) rfl rfl (.cons (.c _) .nil) rfl (.inl rfl) rfl rfl) rfl rfl (Ops.p rfl (Ops.p rfl (Ops.p rfl (Ops.p rfl (Ops.p rfl (Ops.nil (Run.seq (Run.ops hm (Ops.p rfl (Ops.p rfl (Ops.nil (Run.ret ?_))))))))))))
        obtain rfl := someO h
        exact Ends.mkG (.inl rfl) rfl (gh_pk [0] [] hB rfl rfl rfl rfl) rfl rfl
      · refine Run.seq (Run.ops hm (Ops.p rfl (Ops.p rfl (Ops.nil (Run.condO rfl h (fun g_125 h => ?_) (fun g_125 h => ?_))))))
        · refine Run.seq (Run.ops hm (Ops.p rfl (Ops.p rfl (Ops.p rfl (Ops.p rfl (Ops.p rfl (Ops.nil (Run.ret ?_))))))))
          obtain rfl := someO h
          exact Ends.mkG (.inl rfl) rfl (gh_pk [0] [] hB rfl rfl rfl rfl) rfl rfl
        · refine Run.skip (Run.seq (Run.ops hm (Ops.p rfl (Ops.nil (Run.ret ?_)))))
          obtain rfl := someO h
          exact Ends.mkG (.inl rfl) rfl (gh_pk [0] [] hB rfl rfl rfl rfl) rfl rfl
def impl_LogOk_l1 (N : Nat) (x_1 : Log) : Nat → Int → Int → Option ((Bool) ⊕ (Unit))
 | 0, _, _ => none
 | m + 1, x_263, x_266 =>
 (if (decide (x_266 < (x_1.Entries.length : Int))) = true then
 (at? x_1.Entries x_266).bind fun x_291 =>
 (impl_EntryOk N x_291).bind fun y_299 =>
 (if (!y_299) = true then
 some (Sum.inl false)
 else
 (if (decide (x_291.Term < x_263)) = true then
 some (Sum.inl false)
 else
 impl_LogOk_l1 N x_1 m x_291.Term (w64 (x_266 + (1 : Int)))))
 else
 some (Sum.inr ()))
def impl_LogOk_l1_r (N : Nat) (x_1 : Log) : (List Entry) → Int → Int → Option ((Bool) ⊕ (Unit))
 | [], x_263, x_266 =>
 some (Sum.inr ())
 | hd :: tl, x_263, x_266 =>
 (some hd).bind fun x_291 =>
 (impl_EntryOk N x_291).bind fun y_299 =>
 (if (!y_299) = true then
 some (Sum.inl false)
 else
 (if (decide (x_291.Term < x_263)) = true then
 some (Sum.inl false)
 else
 impl_LogOk_l1_r N x_1 tl x_291.Term (w64 (x_266 + (1 : Int)))))
theorem impl_LogOk_l1_rng (N : Nat) (x_1 : Log) (hx : x_1.Entries.length ≤ 1099511627776) : ∀ (d k m : Nat) (x_263 : Int), x_1.Entries.length = k + d → d < m → impl_LogOk_l1 N x_1 m x_263 (k : Int) = impl_LogOk_l1_r N x_1 (x_1.Entries.drop k) x_263 (k : Int) := by
  intro d
  induction d with
  | zero =>
    intro k m x_263 hd hm
    obtain ⟨m, rfl⟩ : ∃ q, m = q + 1 := ⟨m - 1, by omega⟩
    rw [impl_LogOk_l1, if_neg (by simp; omega), List.drop_eq_nil_of_le (by omega), impl_LogOk_l1_r]
  | succ d ih =>
    intro k m x_263 hd hm
    obtain ⟨m, rfl⟩ : ∃ q, m = q + 1 := ⟨m - 1, by omega⟩
    have hk : k < x_1.Entries.length := by omega
    rw [impl_LogOk_l1, if_pos (by simp; omega), List.drop_eq_getElem_cons hk, impl_LogOk_l1_r]
    have h1 := at_lt hk
    have h2 := w64_succ (k := k) (by omega)
    have h3 := ih (k + 1) m
    simp only [h1, h2, h3 _ (by omega) (by omega)]
theorem impl_LogOk_l1_eq {N : Nat} (x_1 : Log) (hx : x_1.Entries.length ≤ 1099511627776) (hN : x_1.Entries.length < N) (x_263 : Int) : impl_LogOk_l1 N x_1 N x_263 0 = impl_LogOk_l1_r N x_1 x_1.Entries x_263 0 := impl_LogOk_l1_rng N x_1 hx x_1.Entries.length 0 N x_263 (by omega) hN
def impl_LogOk (N : Nat) (x_1 : Log) : Option (Bool) :=
 (impl_within N x_1.Start (0 : Int) (100000 : Int)).bind fun y_217 =>
 (if (!y_217) = true then
 some false
 else
 (impl_within N x_1.StartTerm (0 : Int) (100000 : Int)).bind fun y_219 =>
 (if (!y_219) = true then
 some false
 else
 (if (decide ((x_1.Entries.length : Int) > (120 : Int))) = true then
 some false
 else
 (if (decide ((w64 (x_1.Start + (x_1.Entries.length : Int))) > (100000 : Int))) = true then
 some false
 else
 joinP (fun (v_262 : Unit) =>
 some true) fun j_262 =>
 (impl_LogOk_l1 N x_1 N x_1.StartTerm (0 : Int)).bind (Sum.elim (fun v_283 => some v_283) (fun (v_284 : Unit) => j_262 ()))))))
theorem sem_impl_LogOk (N : Nat) (x_1 : Log) (r : Bool) (h : impl_LogOk N x_1 = some r) : Says Try.prog 43 [.agg [VI x_1.Start, VI x_1.StartTerm, RO 51 (x_1.Entries.map encEntry)]] 0 [] (VB r) [] := by
  unfold impl_LogOk at h
  refine Says.of_run s43 Try.call43 rfl fun B hB => ?_
  have hm : B.m ≤ 1000 := by omega
  refine Run.seq (Run.ops hm (Ops.st (s := 1000) (.bx rfl rfl) rfl rfl (Ops.p rfl (Ops.nil (Run.seq (Run.seq (Run.ops hm (Ops.p rfl (Ops.p rfl ?_)))))))))
  obtain ⟨y_217, hy_217, h⟩ := bindO h
  refine Ops.st (s := 5128) (Ev.call [] [] 0 (sem_impl_within N x_1.Start (0 : Int) (100000 : Int) _ hy_217) rfl rfl (.cons (.c _) (.cons (.c _) (.cons (.c _) .nil))) rfl (.inl rfl) rfl rfl) rfl rfl (Ops.p rfl (Ops.p rfl (Ops.askO (x := .t 10) rfl h (fun g_218 h => ?_) (fun g_218 h => ?_))))
  · refine Ops.gn rfl g_218 (Ops.gn rfl g_218 (Ops.gn rfl g_218 (Ops.gn rfl g_218 (Ops.st (s := 5240) (.pkT rfl g_218 rfl) rfl rfl (Ops.p rfl (Ops.gn rfl rfl (Ops.gn rfl rfl (Ops.gn rfl rfl (Ops.gn rfl rfl (Ops.st (s := 5336) (.pkT rfl rfl rfl) rfl rfl (Ops.p rfl (Ops.gn rfl rfl (Ops.gn rfl rfl (Ops.gn rfl rfl (Ops.gn rfl rfl (Ops.gn rfl rfl (Ops.gn rfl rfl (Ops.gn rfl rfl (Ops.st (s := 5480) (.pkT rfl rfl rfl) rfl rfl (Ops.nil (Run.condT rfl rfl (Run.seq (Run.ops hm (Ops.p rfl (Ops.nil (Run.ret ?_))))))))))))))))))))))))))
    obtain rfl := someO h
    exact Ends.mkG (.inl rfl) rfl (gh_pk [0] [] hB rfl rfl rfl rfl) rfl rfl
  · refine Ops.gp rfl g_218 rfl (Ops.gp rfl g_218 rfl ?_)
    obtain ⟨y_219, hy_219, h⟩ := bindO h
    refine Ops.gs (s := 5208) rfl g_218 (Ev.call [] [] 0 (sem_impl_within N x_1.StartTerm (0 : Int) (100000 : Int) _ hy_219) rfl rfl (.cons (.c _) (.cons (.c _) (.cons (.c _) .nil))) rfl (.inl rfl) rfl rfl) rfl rfl (Ops.gp rfl g_218 rfl (Ops.st (s := 5240) (.pkF rfl g_218 rfl) rfl rfl (Ops.p rfl (Ops.askO (x := .t 16) rfl h (fun g_220 h => ?_) (fun g_220 h => ?_)))))
    · refine Ops.gn rfl g_220 (Ops.gn rfl g_220 (Ops.gn rfl g_220 (Ops.gn rfl g_220 (Ops.st (s := 5336) (.pkT rfl g_220 rfl) rfl rfl (Ops.p rfl (Ops.gn rfl rfl (Ops.gn rfl rfl (Ops.gn rfl rfl (Ops.gn rfl rfl (Ops.gn rfl rfl (Ops.gn rfl rfl (Ops.gn rfl rfl (Ops.st (s := 5480) (.pkT rfl rfl rfl) rfl rfl (Ops.nil (Run.condT rfl rfl (Run.seq (Run.ops hm (Ops.p rfl (Ops.nil (Run.ret ?_))))))))))))))))))))
      obtain rfl := someO h
      exact Ends.mkG (.inl rfl) rfl (gh_pk [0] [] hB rfl rfl rfl rfl) rfl rfl
    · refine Ops.gp rfl g_220 rfl (Ops.gp rfl g_220 rfl (Ops.gs (s := 5304) rfl g_220 (Ev.lnF rfl) rfl rfl (Ops.gp rfl g_220 rfl (Ops.st (s := 5336) (.pkF rfl g_220 rfl) rfl rfl (Ops.p rfl (Ops.askO (x := .t 22) rfl h (fun g_221 h => ?_) (fun g_221 h => ?_)))))))
      · refine Ops.gn rfl g_221 (Ops.gn rfl g_221 (Ops.gn rfl g_221 (Ops.gn rfl g_221 (Ops.gn rfl g_221 (Ops.gn rfl g_221 (Ops.gn rfl g_221 (Ops.st (s := 5480) (.pkT rfl g_221 rfl) rfl rfl (Ops.nil (Run.condT rfl rfl (Run.seq (Run.ops hm (Ops.p rfl (Ops.nil (Run.ret ?_))))))))))))))
        obtain rfl := someO h
        exact Ends.mkG (.inl rfl) rfl (gh_pk [0] [] hB rfl rfl rfl rfl) rfl rfl
      · refine Ops.gp rfl g_221 rfl (Ops.gp rfl g_221 rfl (Ops.gp rfl g_221 rfl (Ops.gp rfl g_221 rfl (Ops.gs (s := 5432) rfl g_221 (Ev.lnF rfl) rfl rfl (Ops.gp rfl g_221 rfl (Ops.gp rfl g_221 rfl (Ops.st (s := 5480) (.pkF rfl g_221 rfl) rfl rfl (Ops.nil (Run.condO rfl h (fun g_222 h => ?_) (fun g_222 h => ?_))))))))))
        · refine Run.seq (Run.ops hm (Ops.p rfl (Ops.nil (Run.ret ?_))))
          obtain rfl := someO h
          exact Ends.mkG (.inl rfl) rfl (gh_pk [0] [] hB rfl rfl rfl rfl) rfl rfl
        · refine Run.skip (Run.seq (Run.ops hm (Ops.p rfl (Ops.p rfl (Ops.p rfl (Ops.nil (Run.seqO h (fun (v_262 : Unit) => []) (fun (v_262 : Unit) => []) (fun h => ?_) (fun v_262 h => ?_))))))))
          · refine Run.seq (Run.ops hm (Ops.p rfl (Ops.p rfl (Ops.st (s := 17416) (Ev.lnF rfl) rfl rfl (Ops.p rfl (Ops.nil (Run.block ?_)))))))
            obtain ⟨res_284, h, hk_284⟩ := bindO h
            refine Run.loop (n := N) (fun m_284 fr σ => ∃ (x_263 : Int), ∃ (x_266 : Int), impl_LogOk_l1 N x_1 m_284 x_263 x_266 = some res_284 ∧ fr = [(3, VI x_263), (34, RO 51 (x_1.Entries.map encEntry)), (35, VI (x_1.Entries.length : Int)), (36, VI x_266)] ∧ σ = []) (gh_pk [3, 34, 35, 36] [] hB rfl rfl rfl rfl) ⟨_, _, h, rfl, rfl⟩ ?_
            rintro m_284 fr σ ⟨x_263, x_266, h, rfl, rfl⟩
            obtain _ | m_284 := m_284
            · rw [impl_LogOk_l1] at h; cases h
            rw [impl_LogOk_l1] at h
            refine Run.seq (Run.ops hm (Ops.p rfl (Ops.nil (Run.seq (Run.condO rfl h (fun g_287 h => ?_) (fun g_287 h => ?_))))))
            · refine Run.skip (Run.seq (Run.block (Run.seq (Run.ops hm ?_))))
              obtain ⟨x_291, hx_291, h⟩ := bindO h
              refine Ops.st (s := 25576) (Ev.iaF rfl rfl hx_291) rfl rfl (Ops.p rfl (Ops.st (s := 25608) (.al rfl rfl) rfl rfl (Ops.s0 (s := 25624) (.sto rfl rfl rfl rfl rfl rfl) rfl rfl (Ops.nil (Run.seq (Run.seq (Run.ops hm (Ops.p rfl ?_))))))))
              obtain ⟨y_299, hy_299, h⟩ := bindO h
              refine Ops.st (s := 29688) (Ev.call [] [] 0 (sem_impl_EntryOk N x_291 _ hy_299) rfl rfl (.cons (.agg (.cons (.c _) (.cons (.c _) (.cons (.c _) .nil)))) .nil) rfl (.inl rfl) rfl rfl) rfl rfl (Ops.p rfl (Ops.p rfl (Ops.askO (x := .t 43) rfl h (fun g_300 h => ?_) (fun g_300 h => ?_))))
              · refine Ops.gn rfl g_300 (Ops.gn rfl g_300 (Ops.gn rfl g_300 (Ops.gn rfl g_300 (Ops.st (s := 29800) (.pkT rfl g_300 rfl) rfl rfl (Ops.nil (Run.condT rfl rfl (Run.seq (Run.ops hm (Ops.p rfl (Ops.nil (Run.ret ?_)))))))))))
                obtain rfl := someO h
                have h := hk_284
                replace h := inlO h
                obtain rfl := someO h
                exact Ends.mkG (.inl rfl) rfl (gh_pk [0] [] hB rfl rfl rfl rfl) rfl rfl
              · refine Ops.gp rfl g_300 rfl (Ops.gp rfl g_300 rfl (Ops.gp rfl g_300 rfl (Ops.gp rfl g_300 rfl (Ops.st (s := 29800) (.pkF rfl g_300 rfl) rfl rfl (Ops.nil (Run.condO rfl h (fun g_301 h => ?_) (fun g_301 h => ?_)))))))
                · refine Run.seq (Run.ops hm (Ops.p rfl (Ops.nil (Run.ret ?_))))
                  obtain rfl := someO h
                  have h := hk_284
                  replace h := inlO h
                  obtain rfl := someO h
                  exact Ends.mkG (.inl rfl) rfl (gh_pk [0] [] hB rfl rfl rfl rfl) rfl rfl
                · exact Run.skip (Run.ops hm (Ops.p rfl (Ops.p rfl (Ops.p rfl (Ops.nil (Run.ops hm (Ops.p rfl (Ops.p rfl (Ops.nil (⟨m_284, Nat.lt_succ_self m_284, _, _, (gh_pk [3, 34, 35, 36] [] hB rfl rfl rfl rfl), _, _, h, rfl, rfl⟩))))))))))
            · refine Run.exit ?_
              obtain rfl := someO h
              have h := hk_284
              replace h := inrO h
              exact ⟨_, _, (gh_pk [] [] hB rfl rfl rfl rfl), (), h, rfl, rfl⟩
          · refine Run.seq (Run.ops hm (Ops.p rfl (Ops.nil (Run.ret ?_))))
            obtain rfl := someO h
            exact Ends.mkG (.inl rfl) rfl (gh_pk [0] [] hB rfl rfl rfl rfl) rfl rfl
def impl_LogLast (N : Nat) (x_1 : Log) : Option (Int × Int) :=
 (if ((x_1.Entries.length : Int) == (0 : Int)) = true then
 some (x_1.Start, x_1.StartTerm)
 else
 (at? x_1.Entries (w64 ((x_1.Entries.length : Int) - (1 : Int)))).bind fun x_107 =>
 some (w64 (x_1.Start + (x_1.Entries.length : Int)), x_107.Term))
theorem sem_impl_LogLast (N : Nat) (x_1 : Log) (r : Int × Int) (h : impl_LogLast N x_1 = some r) : Says Try.prog 72 [.agg [VI x_1.Start, VI x_1.StartTerm, RO 51 (x_1.Entries.map encEntry)]] 0 [] (.tup [VI r.1, VI r.2]) [] := by
  unfold impl_LogLast at h
  refine Says.of_run s72 Try.call72 rfl fun B hB => ?_
  have hm : B.m ≤ 1000 := by omega
  refine Run.seq (Run.ops hm (Ops.st (s := 1000) (.bx rfl rfl) rfl rfl (Ops.p rfl (Ops.p rfl (Ops.nil (Run.seq (Run.ops hm (Ops.p rfl (Ops.p rfl (Ops.st (s := 5128) (Ev.lnF rfl) rfl rfl (Ops.p rfl (Ops.nil (Run.seq (Run.seq (Run.ops hm (Ops.p rfl (Ops.p rfl (Ops.nil (Run.condO rfl h (fun g_105 h => ?_) (fun g_105 h => ?_))))))))))))))))))))
  · refine Run.seq (Run.draw hm hmix (OpsD.p rfl (OpsD.p rfl (OpsD.p rfl (OpsD.p rfl (OpsD.p rfl (OpsD.p rfl (OpsD.nil ⟨by kernel_rfl, ?_⟩))))))))
    refine Run.ret ?_
    obtain rfl := someO h
    exact Ends.mkG (.inl rfl) rfl (gh_pk [0, 1] [] hB rfl rfl rfl rfl) rfl rfl
  · refine Run.skip (Run.seq (Run.draw hm hmix (OpsD.p rfl (OpsD.p rfl (OpsD.p rfl (OpsD.p rfl (OpsD.p rfl (OpsD.p rfl (OpsD.p rfl (OpsD.p rfl ?_))))))))))
    obtain ⟨x_107, hx_107, h⟩ := bindO h
    refine OpsD.st (s := 17512) (Ev.iaF rfl rfl hx_107) rfl rfl (OpsD.p rfl (OpsD.p rfl (OpsD.p rfl (OpsD.p rfl (OpsD.nil ⟨by kernel_rfl, ?_⟩)))))
    refine Run.ret ?_
    obtain rfl := someO h
    exact Ends.mkG (.inl rfl) rfl (gh_pk [0, 1] [] hB rfl rfl rfl rfl) rfl rfl
def impl_last (N : Nat) (x_1 : Log) : Option (Int) :=
 some (w64 (x_1.Start + (x_1.Entries.length : Int)))
theorem sem_impl_last (N : Nat) (x_1 : Log) (r : Int) (h : impl_last N x_1 = some r) : Says Try.prog 92 [.agg [VI x_1.Start, VI x_1.StartTerm, RO 51 (x_1.Entries.map encEntry)]] 0 [] (VI r) [] := by
  unfold impl_last at h
  refine Says.of_run s92 Try.call92 rfl fun B hB => ?_
  have hm : B.m ≤ 1000 := by omega
  refine Run.seq (Run.ops hm (Ops.st (s := 1000) (.bx rfl rfl) rfl rfl (Ops.p rfl (Ops.nil (Run.seq (Run.ops hm (Ops.p rfl (Ops.p rfl (Ops.p rfl (Ops.p rfl (Ops.st (s := 5160) (Ev.lnF rfl) rfl rfl (Ops.p rfl (Ops.p rfl (Ops.nil (Run.ret ?_)))))))))))))))
  obtain rfl := someO h
  exact Ends.mkG (.inl rfl) rfl (gh_pk [0] [] hB rfl rfl rfl rfl) rfl rfl
def impl_ConfAt_l1 (N : Nat) (x_1 : Node) (x_2 : Int) : Nat → Int → Option (((List Int)) ⊕ (Unit))
 | 0, _ => none
 | m + 1, x_336 =>
 (if (decide (x_336 ≥ (0 : Int))) = true then
 joinP (fun (v_398 : Unit) =>
 impl_ConfAt_l1 N x_1 x_2 m (w64 (x_336 - (1 : Int)))) fun j_398 =>
 (at? x_1.Log.Entries x_336).bind fun x_402 =>
 (impl_ReadConf N x_402.Data).bind fun y_406 =>
 (if y_406.2 = true then
 (if (x_402.Kind == (2 : Int)) = true then
 (if (decide ((w64 ((w64 (x_1.Log.Start + x_336)) + (1 : Int))) ≤ x_2)) = true then
 some (Sum.inl y_406.1)
 else
 j_398 ())
 else
 j_398 ())
 else
 j_398 ())
 else
 some (Sum.inr ()))
def impl_ConfAt (N : Nat) (x_1 : Node) (x_2 : Int) : Option ((List Int)) :=
 joinP (fun (v_334 : Unit) =>
 (cat? ([] : List Int) x_1.Conf).bind fun x_413 =>
 some x_413) fun j_334 =>
 (impl_ConfAt_l1 N x_1 x_2 N (w64 ((x_1.Log.Entries.length : Int) - (1 : Int)))).bind (Sum.elim (fun v_380 => some v_380) (fun (v_381 : Unit) => j_334 ()))
theorem sem_impl_ConfAt (N : Nat) (x_1 : Node) (x_2 : Int) (r : (List Int)) (h : impl_ConfAt N x_1 x_2 = some r) : Says Try.prog 26 [.agg [VI x_1.Id, VI x_1.Term, VI x_1.Vote, VI x_1.Role, VI x_1.Lead, RO 3 (x_1.Conf.map encI), VI x_1.Log.Start, VI x_1.Log.StartTerm, RO 51 (x_1.Log.Entries.map encEntry), VI x_1.Commit, VI x_1.Clock, VI x_1.Limit, RO 3 (x_1.Votes.map encI), RO 135 (x_1.Peers.map encPeer)], VI x_2] 0 [] (.sl 0 3 0 r.length) [(0, .vec 3 (r.map encI))] := by
  unfold impl_ConfAt at h
  refine Says.of_run s26 Try.call26 rfl fun B hB => ?_
  have hm : B.m ≤ 1000 := by omega
  refine Run.seq (Run.ops hm (Ops.st (s := 1000) (.bx rfl rfl) rfl rfl (Ops.p rfl (Ops.nil (Run.seqO h (fun (v_334 : Unit) => [(2, .ptr 0 0)]) (fun (v_334 : Unit) => [(0, .box [VI x_1.Id, VI x_1.Term, VI x_1.Vote, VI x_1.Role, VI x_1.Lead, RO 3 (x_1.Conf.map encI), VI x_1.Log.Start, VI x_1.Log.StartTerm, RO 51 (x_1.Log.Entries.map encEntry), VI x_1.Commit, VI x_1.Clock, VI x_1.Limit, RO 3 (x_1.Votes.map encI), RO 135 (x_1.Peers.map encPeer)])]) (fun h => ?_) (fun v_334 h => ?_))))))
  · refine Run.seq (Run.ops hm (Ops.p rfl (Ops.p rfl (Ops.p rfl (Ops.st (s := 5144) (Ev.lnF rfl) rfl rfl (Ops.p rfl (Ops.p rfl (Ops.nil (Run.block ?_)))))))))
    obtain ⟨res_381, h, hk_381⟩ := bindO h
    refine Run.loop (n := N) (fun m_381 fr σ => ∃ (x_336 : Int), impl_ConfAt_l1 N x_1 x_2 m_381 x_336 = some res_381 ∧ fr = [(1, VI x_2), (2, .ptr 0 0), (5, VI x_336)] ∧ σ = [(0, .box [VI x_1.Id, VI x_1.Term, VI x_1.Vote, VI x_1.Role, VI x_1.Lead, RO 3 (x_1.Conf.map encI), VI x_1.Log.Start, VI x_1.Log.StartTerm, RO 51 (x_1.Log.Entries.map encEntry), VI x_1.Commit, VI x_1.Clock, VI x_1.Limit, RO 3 (x_1.Votes.map encI), RO 135 (x_1.Peers.map encPeer)])]) (gh_pk [1, 2, 5] [1000] hB rfl rfl rfl rfl) ⟨_, h, rfl, rfl⟩ ?_
    rintro m_381 fr σ ⟨x_336, h, rfl, rfl⟩
    obtain _ | m_381 := m_381
    · rw [impl_ConfAt_l1] at h; cases h
    rw [impl_ConfAt_l1] at h
    refine Run.seq (Run.seq (Run.ops hm (Ops.p rfl (Ops.p rfl (Ops.nil (Run.condO rfl h (fun g_384 h => ?_) (fun g_384 h => ?_)))))))
    · refine Run.skip (Run.seqO h (fun (v_398 : Unit) => [(1, VI x_2), (2, .ptr 0 0), (5, VI x_336)]) (fun (v_398 : Unit) => [(0, .box [VI x_1.Id, VI x_1.Term, VI x_1.Vote, VI x_1.Role, VI x_1.Lead, RO 3 (x_1.Conf.map encI), VI x_1.Log.Start, VI x_1.Log.StartTerm, RO 51 (x_1.Log.Entries.map encEntry), VI x_1.Commit, VI x_1.Clock, VI x_1.Limit, RO 3 (x_1.Votes.map encI), RO 135 (x_1.Peers.map encPeer)])]) (fun h => ?_) (fun v_398 h => ?_))
      · refine Run.block (Run.seq (Run.ops hm (Ops.p rfl (Ops.p rfl (Ops.p rfl (Ops.p rfl ?_))))))
        obtain ⟨x_402, hx_402, h⟩ := bindO h
        refine Ops.st (s := 17448) (Ev.iaF rfl rfl hx_402) rfl rfl (Ops.p rfl (Ops.st (s := 17480) (.al rfl rfl) rfl rfl (Ops.s0 (s := 17496) (.sto rfl rfl rfl rfl rfl rfl) rfl rfl (Ops.nil (Run.seq (Run.ops hm (Ops.p rfl (Ops.p rfl ?_))))))))
        obtain ⟨y_406, hy_406, h⟩ := bindO h
        refine Ops.st (s := 21512) (Ev.call [] [] 1 (sem_impl_ReadConf N x_402.Data _ hy_406) rfl rfl (.cons (.c _) .nil) rfl (.inl rfl) rfl rfl) rfl rfl (Ops.p rfl (Ops.p rfl (Ops.p rfl (Ops.p rfl (Ops.p rfl (Ops.nil (Run.seq (Run.ops hm (Ops.p rfl (Ops.p rfl (Ops.askO (x := .t 31) rfl h (fun g_409 h => ?_) (fun g_409 h => ?_))))))))))))
        · refine Ops.gp rfl g_409 rfl (Ops.gp rfl g_409 rfl (Ops.gp rfl g_409 rfl (Ops.st (s := 25656) (.pkT rfl g_409 rfl) rfl rfl (Ops.p rfl (Ops.askO (x := .t 36) rfl h (fun g_410 h => ?_) (fun g_410 h => ?_))))))
          · refine Ops.gp rfl g_410 rfl (Ops.gp rfl g_410 rfl (Ops.gp rfl g_410 rfl (Ops.gp rfl g_410 rfl (Ops.gp rfl g_410 rfl (Ops.gp rfl g_410 rfl (Ops.gp rfl g_410 rfl (Ops.gp rfl g_410 rfl (Ops.st (s := 25816) (.pkT rfl g_410 rfl) rfl rfl (Ops.nil (Run.condO rfl h (fun g_411 h => ?_) (fun g_411 h => ?_)))))))))))
            · refine Run.seq (Run.ops hm (Ops.p rfl (Ops.p rfl (Ops.nil (Run.ret ?_)))))
              obtain rfl := someO h
              have h := hk_381
              replace h := inlO h
              obtain rfl := someO h
              exact Ends.mkG (.inl rfl) rfl (gh_pk [0] [21512] hB rfl rfl rfl rfl) rfl rfl
            · exact Run.skip (⟨_, _, (gh_pk [1, 2, 5] [0] hB rfl rfl rfl rfl), (), h, rfl, rfl⟩)
          · exact Ops.gn rfl g_410 (Ops.gn rfl g_410 (Ops.gn rfl g_410 (Ops.gn rfl g_410 (Ops.gn rfl g_410 (Ops.gn rfl g_410 (Ops.gn rfl g_410 (Ops.gn rfl g_410 (Ops.st (s := 25816) (.pkF rfl g_410 rfl) rfl rfl (Ops.nil (Run.condF rfl rfl (Run.skip (⟨_, _, (gh_pk [1, 2, 5] [0] hB rfl rfl rfl rfl), (), h, rfl, rfl⟩))))))))))))
        · exact Ops.gn rfl g_409 (Ops.gn rfl g_409 (Ops.gn rfl g_409 (Ops.st (s := 25656) (.pkF rfl g_409 rfl) rfl rfl (Ops.p rfl (Ops.gn rfl rfl (Ops.gn rfl rfl (Ops.gn rfl rfl (Ops.gn rfl rfl (Ops.gn rfl rfl (Ops.gn rfl rfl (Ops.gn rfl rfl (Ops.gn rfl rfl (Ops.st (s := 25816) (.pkF rfl rfl rfl) rfl rfl (Ops.nil (Run.condF rfl rfl (Run.skip (⟨_, _, (gh_pk [1, 2, 5] [0] hB rfl rfl rfl rfl), (), h, rfl, rfl⟩)))))))))))))))))
      · exact Run.ops hm (Ops.p rfl (Ops.p rfl (Ops.p rfl (Ops.nil (⟨m_381, Nat.lt_succ_self m_381, _, _, (gh_pk [1, 2, 5] [0] hB rfl rfl rfl rfl), _, h, rfl, rfl⟩)))))
    · refine Run.exit ?_
      obtain rfl := someO h
      have h := hk_381
      replace h := inrO h
      exact ⟨_, _, (gh_pk [2] [0] hB rfl rfl rfl rfl), (), h, rfl, rfl⟩
  · refine Run.seq (Run.ops hm (Ops.p rfl (Ops.p rfl ?_)))
    obtain ⟨x_413, hx_413, h⟩ := bindO h
    refine Ops.st (s := 33800) (Ev.apW (f := encI) (ontoN (f := encI) rfl) (addsF rfl) rfl bt3 rfl hx_413) rfl rfl (Ops.p rfl (Ops.nil (Run.ret ?_)))
    obtain rfl := someO h
    exact Ends.mkG (.inl rfl) rfl (gh_pk [0] [33800] hB rfl rfl rfl rfl) rfl rfl
end Go.Proofs.Ytehknbpmpbghhaa.Pe.FnExactTick
