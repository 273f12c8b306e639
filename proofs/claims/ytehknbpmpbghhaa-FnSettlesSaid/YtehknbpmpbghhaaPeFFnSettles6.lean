/- Functions,as pure functions; and that Go does just that. -/
import Derived.Test.YtehknbpmpbghhaaPeFFnSettles5
namespace Go.Proofs.Ytehknbpmpbghhaa.Pe.FnSettles
open Go Go.RowKit
set_option linter.unusedVariables false
set_option linter.unusedSimpArgs false
set_option maxHeartbeats 40000000
def spec_l16AskAppend_l1 (N : Nat) (x_1 : Tl16Run) (y_368 : Tl16Run) (v_377 : Int × Int × (List Entry)) : Nat → Int → Option (Int)
 | 0,_ => none
 | m + 1,x_471 =>
 (if (decide (x_471 < (v_377.2.2.length : Int))) = true then
 (spec_LogTerm N (Log.mk y_368.n.Log.Start y_368.n.Log.StartTerm x_1.n.Log.Entries) (w64 ((w64 (v_377.1 + 1)) + x_471))).bind fun y_528 =>
 (at? v_377.2.2 x_471).bind fun x_529 =>
 (if (y_528 == x_529.Term) = true then
 spec_l16AskAppend_l1 N x_1 y_368 v_377 m (w64 (x_471 + 1))
 else
 some x_471)
 else
 some x_471)
def spec_l16AskAppend_l1_r (N : Nat) (x_1 : Tl16Run) (y_368 : Tl16Run) (v_377 : Int × Int × (List Entry)) : (List Entry) → Int → Option (Int)
 | [],x_471 =>
 some x_471
 | hd :: tl,x_471 =>
 (spec_LogTerm N (Log.mk y_368.n.Log.Start y_368.n.Log.StartTerm x_1.n.Log.Entries) (w64 ((w64 (v_377.1 + 1)) + x_471))).bind fun y_528 =>
 (some hd).bind fun x_529 =>
 (if (y_528 == x_529.Term) = true then
 spec_l16AskAppend_l1_r N x_1 y_368 v_377 tl (w64 (x_471 + 1))
 else
 some x_471)
theorem spec_l16AskAppend_l1_rng (N : Nat) (x_1 : Tl16Run) (y_368 : Tl16Run) (v_377 : Int × Int × (List Entry)) (hx : v_377.2.2.length ≤ 1099511627776) : ∀ (d k m : Nat),v_377.2.2.length = k + d → d < m → spec_l16AskAppend_l1 N x_1 y_368 v_377 m (k : Int) = spec_l16AskAppend_l1_r N x_1 y_368 v_377 (v_377.2.2.drop k) (k : Int) := by
 intro d
 induction d with
 | zero =>
  intro k m hd hm
  obtain ⟨m,rfl⟩ : ∃ q,m = q + 1 := ⟨m - 1,by omega⟩
  rw [spec_l16AskAppend_l1,if_neg (by simp; omega),List.drop_eq_nil_of_le (by omega),spec_l16AskAppend_l1_r]
 | succ d ih =>
  intro k m hd hm
  obtain ⟨m,rfl⟩ : ∃ q,m = q + 1 := ⟨m - 1,by omega⟩
  have hk : k < v_377.2.2.length := by omega
  rw [spec_l16AskAppend_l1,if_pos (by simp; omega),List.drop_eq_getElem_cons hk,spec_l16AskAppend_l1_r]
  have h1 := at_lt hk
  have h2 := w64_succ (k := k) (by omega)
  have h3 := ih (k + 1) m
  simp only [h1,h2,h3 (by omega) (by omega)]
theorem spec_l16AskAppend_l1_eq {N : Nat} (x_1 : Tl16Run) (y_368 : Tl16Run) (v_377 : Int × Int × (List Entry)) (hx : v_377.2.2.length ≤ 1099511627776) (hN : v_377.2.2.length < N) : spec_l16AskAppend_l1 N x_1 y_368 v_377 N 0 = spec_l16AskAppend_l1_r N x_1 y_368 v_377 v_377.2.2 0 := spec_l16AskAppend_l1_rng N x_1 y_368 v_377 hx v_377.2.2.length 0 N (by omega) hN
def spec_l16AskAppend (N : Nat) (x_1 : Tl16Run) (x_2 : Message) : Option (Tl16Run) :=
 (spec_l12Last N x_1.n.Log).bind fun y_358 =>
 (if (decide (x_2.Term < x_1.n.Term)) = true then
 (spec_l16Refuse N x_1 x_2 0).bind fun y_364 =>
 some (Tl16Run.mk (Node.mk y_364.n.Id y_364.n.Term y_364.n.Vote y_364.n.Role y_364.n.Lead x_1.n.Conf (Log.mk y_364.n.Log.Start y_364.n.Log.StartTerm x_1.n.Log.Entries) y_364.n.Commit y_364.n.Clock y_364.n.Limit x_1.n.Votes x_1.n.Peers) y_364.told)
 else
 (spec_l16Follow N x_1 x_2.From).bind fun y_368 =>
 joinP (fun (v_377 : Int × Int × (List Entry)) =>
 (spec_LogTerm N (Log.mk y_368.n.Log.Start y_368.n.Log.StartTerm x_1.n.Log.Entries) v_377.1).bind fun y_398 =>
 (if (y_398 != v_377.2.1) = true then
 joinP (fun (v_401 : Int) =>
 joinP (fun (v_404 : Int) =>
 (spec_l16Refuse N (Tl16Run.mk (Node.mk y_368.n.Id y_368.n.Term y_368.n.Vote y_368.n.Role y_368.n.Lead x_1.n.Conf (Log.mk y_368.n.Log.Start y_368.n.Log.StartTerm x_1.n.Log.Entries) y_368.n.Commit 0 y_368.n.Limit y_368.n.Votes y_368.n.Peers) x_1.told) (Message.mk x_2.Kind x_2.From x_2.To x_2.Term v_377.1 v_377.2.1 x_2.Commit x_2.Ok v_377.2.2 x_2.Conf x_2.Data x_2.Last) v_404).bind fun y_407 =>
 some (Tl16Run.mk (Node.mk y_407.n.Id y_407.n.Term y_407.n.Vote y_407.n.Role y_407.n.Lead x_1.n.Conf (Log.mk y_407.n.Log.Start y_407.n.Log.StartTerm x_1.n.Log.Entries) y_407.n.Commit y_407.n.Clock y_407.n.Limit y_368.n.Votes y_368.n.Peers) y_407.told)) fun j_404 =>
 (if (decide (v_401 > y_358)) = true then
 j_404 y_358
 else
 j_404 v_401)) fun j_401 =>
 (if (decide ((w64 (v_377.1 - 1)) < 0)) = true then
 j_401 0
 else
 j_401 (w64 (v_377.1 - 1)))
 else
 joinP (fun (v_469 : Int) =>
 joinP (fun (v_566 : (List Entry)) =>
 joinP (fun (v_603 : Int) =>
 joinP (fun (v_606 : Int) =>
 (spec_l16Tell N (Tl16Run.mk (Node.mk y_368.n.Id y_368.n.Term y_368.n.Vote y_368.n.Role y_368.n.Lead x_1.n.Conf (Log.mk y_368.n.Log.Start y_368.n.Log.StartTerm v_566) v_606 0 y_368.n.Limit y_368.n.Votes y_368.n.Peers) x_1.told) (Message.mk 4 0 x_2.From 0 (w64 (v_377.1 + (v_377.2.2.length : Int))) 0 0 true ([]) ([]) (⟨#[]⟩ : ByteArray) false)).bind fun y_609 =>
 some (Tl16Run.mk (Node.mk y_609.n.Id y_609.n.Term y_609.n.Vote y_609.n.Role y_609.n.Lead x_1.n.Conf (Log.mk y_609.n.Log.Start y_609.n.Log.StartTerm v_566) y_609.n.Commit y_609.n.Clock y_609.n.Limit y_368.n.Votes y_368.n.Peers) y_609.told)) fun j_606 =>
 (if (decide (v_603 > y_368.n.Commit)) = true then
 j_606 v_603
 else
 j_606 y_368.n.Commit)) fun j_603 =>
 (if (decide (x_2.Commit > (w64 (v_377.1 + (v_377.2.2.length : Int))))) = true then
 j_603 (w64 (v_377.1 + (v_377.2.2.length : Int)))
 else
 j_603 x_2.Commit)) fun j_566 =>
 (if (decide (v_469 < (v_377.2.2.length : Int))) = true then
 (take? x_1.n.Log.Entries (w64 ((w64 (v_377.1 + v_469)) - y_368.n.Log.Start))).bind fun x_580 =>
 (cat? ([] : List Entry) (x_1.n.Log.Entries.take ((w64 ((w64 (v_377.1 + v_469)) - y_368.n.Log.Start)).toNat))).bind fun x_581 =>
 (drop? v_377.2.2 v_469).bind fun x_582 =>
 (cat? x_581 x_582).bind fun x_583 =>
 (if (decide ((w64 (v_377.1 + v_469)) < y_368.n.Commit)) = true then
 (spec_l16Refuse N (Tl16Run.mk (Node.mk y_368.n.Id y_368.n.Term y_368.n.Vote y_368.n.Role y_368.n.Lead x_1.n.Conf (Log.mk y_368.n.Log.Start y_368.n.Log.StartTerm x_1.n.Log.Entries) y_368.n.Commit 0 y_368.n.Limit y_368.n.Votes y_368.n.Peers) x_1.told) (Message.mk x_2.Kind x_2.From x_2.To x_2.Term v_377.1 v_377.2.1 x_2.Commit x_2.Ok v_377.2.2 x_2.Conf x_2.Data x_2.Last) y_358).bind fun y_597 =>
 some (Tl16Run.mk (Node.mk y_597.n.Id y_597.n.Term y_597.n.Vote y_597.n.Role y_597.n.Lead x_1.n.Conf (Log.mk y_597.n.Log.Start y_597.n.Log.StartTerm x_1.n.Log.Entries) y_597.n.Commit y_597.n.Clock y_597.n.Limit y_368.n.Votes y_368.n.Peers) y_597.told)
 else
 (spec_LogOk N (Log.mk y_368.n.Log.Start y_368.n.Log.StartTerm x_583)).bind fun y_598 =>
 (if (!y_598) = true then
 (spec_l16Refuse N (Tl16Run.mk (Node.mk y_368.n.Id y_368.n.Term y_368.n.Vote y_368.n.Role y_368.n.Lead x_1.n.Conf (Log.mk y_368.n.Log.Start y_368.n.Log.StartTerm x_1.n.Log.Entries) y_368.n.Commit 0 y_368.n.Limit y_368.n.Votes y_368.n.Peers) x_1.told) (Message.mk x_2.Kind x_2.From x_2.To x_2.Term v_377.1 v_377.2.1 x_2.Commit x_2.Ok v_377.2.2 x_2.Conf x_2.Data x_2.Last) y_358).bind fun y_601 =>
 some (Tl16Run.mk (Node.mk y_601.n.Id y_601.n.Term y_601.n.Vote y_601.n.Role y_601.n.Lead x_1.n.Conf (Log.mk y_601.n.Log.Start y_601.n.Log.StartTerm x_1.n.Log.Entries) y_601.n.Commit y_601.n.Clock y_601.n.Limit y_368.n.Votes y_368.n.Peers) y_601.told)
 else
 j_566 x_583))
 else
 j_566 x_1.n.Log.Entries)) fun j_469 =>
 (spec_l16AskAppend_l1 N x_1 y_368 v_377 N 0).bind (fun v_515 => j_469 v_515))) fun j_377 =>
 (if (decide (x_2.Index < y_368.n.Log.Start)) = true then
 joinP (fun (v_380 : Int) =>
 (drop? x_2.Entries v_380).bind fun x_385 =>
 j_377 (y_368.n.Log.Start,y_368.n.Log.StartTerm,x_385)) fun j_380 =>
 (if (decide ((w64 (y_368.n.Log.Start - x_2.Index)) > (x_2.Entries.length : Int))) = true then
 j_380 (x_2.Entries.length : Int)
 else
 j_380 (w64 (y_368.n.Log.Start - x_2.Index)))
 else
 j_377 (x_2.Index,x_2.LogTerm,x_2.Entries)))
theorem sem_spec_l16AskAppend (N : Nat) (x_1 : Tl16Run) (x_2 : Message) (r : Tl16Run) (h : spec_l16AskAppend N x_1 x_2 = some r) : Says Try.prog 182 [.ptr 0 0,.agg [VI x_2.Kind,VI x_2.From,VI x_2.To,VI x_2.Term,VI x_2.Index,VI x_2.LogTerm,VI x_2.Commit,VB x_2.Ok,RO 51 (x_2.Entries.map encEntry),RO 3 (x_2.Conf.map encI),VS x_2.Data,VB x_2.Last]] 6 [(0,.box [VI x_1.n.Id,VI x_1.n.Term,VI x_1.n.Vote,VI x_1.n.Role,VI x_1.n.Lead,.sl 1 3 0 x_1.n.Conf.length,VI x_1.n.Log.Start,VI x_1.n.Log.StartTerm,.sl 2 51 0 x_1.n.Log.Entries.length,VI x_1.n.Commit,VI x_1.n.Clock,VI x_1.n.Limit,.sl 3 3 0 x_1.n.Votes.length,.sl 4 135 0 x_1.n.Peers.length,.sl 5 58 0 x_1.told.length]),(1,.vec 3 (x_1.n.Conf.map encI)),(2,.vec 51 (x_1.n.Log.Entries.map encEntry)),(3,.vec 3 (x_1.n.Votes.map encI)),(4,.vec 135 (x_1.n.Peers.map encPeer)),(5,.vec 58 (x_1.told.map (encMessage false)))] (.tup []) [(0,.box [VI r.n.Id,VI r.n.Term,VI r.n.Vote,VI r.n.Role,VI r.n.Lead,.sl 6 3 0 r.n.Conf.length,VI r.n.Log.Start,VI r.n.Log.StartTerm,.sl 7 51 0 r.n.Log.Entries.length,VI r.n.Commit,VI r.n.Clock,VI r.n.Limit,.sl 8 3 0 r.n.Votes.length,.sl 9 135 0 r.n.Peers.length,.sl 10 58 0 r.told.length]),(1,.gone),(2,.gone),(3,.gone),(4,.gone),(5,.gone),(6,.vec 3 (r.n.Conf.map encI)),(7,.vec 51 (r.n.Log.Entries.map encEntry)),(8,.vec 3 (r.n.Votes.map encI)),(9,.vec 135 (r.n.Peers.map encPeer)),(10,.vec 58 (r.told.map (encMessage false)))] := by
 unfold spec_l16AskAppend at h
 refine Says.of_run s182 Try.call182 rfl fun B hB => ?_
 have hm : B.m ≤ 1000 := by omega
 refine Run.seq (Run.ops hm (Ops.st (s := 1000) (.bx rfl rfl) rfl rfl (Ops.nil (Run.seq (Run.ops hm (.p3 rfl rfl rfl (.p2 rfl rfl ?_)))))))
 obtain ⟨y_358,hy_358,h⟩ := bindO h
 refine Ops.st (s := 5176) (Ev.call [] [2] 0 (sem_spec_l12Last _ _ _ hy_358) rfl rfl (.cons (.agg (.d2 (.cons (.borrow rfl (by decide) (lendW (fun _ => rfl) _ rfl)) .nil))) .nil) rfl (.inr ⟨rfl,ownL_root trivial⟩) rfl rfl) rfl rfl ?_
 refine Ops.p rfl (Ops.nil (Run.seq (Run.seq (Run.draw hm hmix (OpsD.p rfl (OpsD.p rfl (OpsD.p rfl (OpsD.p rfl (OpsD.p rfl (OpsD.p rfl (OpsD.p rfl (OpsD.p rfl (OpsD.nil ⟨by kernel_rfl,?_⟩)))))))))))))
 refine Run.condO rfl h (fun g_362 h => ?_) (fun g_362 h => ?_)
 ·refine Run.seq (Run.ops hm (.p2 rfl rfl ?_))
  obtain ⟨y_364,hy_364,h⟩ := bindO h
  refine Ops.st (s := 13320) (Ev.call [0,1,2,3,4,5] [] 1 (sem_spec_l16Refuse _ _ _ _ _ hy_364) rfl rfl (.cons (.ptr rfl) (.cons (.agg (.d4 (.d4 (.d4 .nil)))) (.d1 .nil))) rfl (.inl rfl) rfl rfl) rfl rfl (Ops.nil (Run.ret ?_))
  obtain rfl := someO h
  exact Ends.mkG (.inl rfl) rfl (Gh.trans (Gh.trans (gh_prn [] [0,1,2,3,4,5,13320] hB rfl) (gh_mvE [] [1,2,3,4] hB rfl rfl)) (gh_pk [] [0,1,2,3,4,5,30000001,30000002,30000003,30000004,13320] hB rfl rfl rfl rfl)) rfl rfl
 ·refine Run.skip (Run.seq (Run.ops hm (.p3 rfl rfl rfl ?_)))
  obtain ⟨y_368,hy_368,h⟩ := bindO h
  refine Ops.st (s := 17432) (Ev.call [0,1,2,3,4,5] [] 2 (sem_spec_l16Follow _ _ _ _ hy_368) rfl rfl (.cons (.ptr rfl) (.d1 .nil)) rfl (.inl rfl) rfl rfl) rfl rfl (Ops.nil (Run.seq (Run.ops hm (.p3 rfl rfl rfl (Ops.p rfl (Ops.s0 (s := 21544) (.sto rfl rfl rfl rfl rfl rfl) rfl rfl (Ops.nil (Run.seq (Run.ops hm (.p3 rfl rfl rfl (.p2 rfl rfl (Ops.st (s := 25656) (.al rfl rfl) rfl rfl (Ops.s0 (s := 25672) (.sto rfl rfl rfl rfl rfl rfl) rfl rfl (Ops.nil (Run.seqO h (fun v_377 => [(0,.ptr 0 0),(3,.ptr 6 0),(4,VI y_358),(5,.ptr 7 0)]) (fun (v_377 : Int × Int × (List Entry)) => [(0,.box [VI y_368.n.Id,VI y_368.n.Term,VI y_368.n.Vote,VI y_368.n.Role,VI y_368.n.Lead,.sl 1 3 0 x_1.n.Conf.length,VI y_368.n.Log.Start,VI y_368.n.Log.StartTerm,.sl 2 51 0 x_1.n.Log.Entries.length,VI y_368.n.Commit,VI 0,VI y_368.n.Limit,.sl 8 3 0 y_368.n.Votes.length,.sl 9 135 0 y_368.n.Peers.length,.sl 5 58 0 x_1.told.length]),(1,.vec 3 (x_1.n.Conf.map encI)),(2,.vec 51 (x_1.n.Log.Entries.map encEntry)),(3,.gone),(4,.gone),(5,.vec 58 (x_1.told.map (encMessage false))),(6,.box [VI x_2.Kind,VI x_2.From,VI x_2.To,VI x_2.Term,VI v_377.1,VI v_377.2.1,VI x_2.Commit,VB x_2.Ok,RO 51 (v_377.2.2.map encEntry),RO 3 (x_2.Conf.map encI),VS x_2.Data,VB x_2.Last]),(7,.box [VI y_368.n.Log.Start,VI y_368.n.Log.StartTerm,.sl 2 51 0 x_1.n.Log.Entries.length]),(8,.vec 3 (y_368.n.Votes.map encI)),(9,.vec 135 (y_368.n.Peers.map encPeer))]) (fun h => ?_) (fun v_377 h => ?_))))))))))))))))
  ·refine Run.seq (Run.ops hm (.p3 rfl rfl rfl (.p2 rfl rfl (Ops.nil (Run.condO rfl h (fun g_378 h => ?_) (fun g_378 h => ?_))))))
   ·refine Run.seq (Run.ops hm (.p3 rfl rfl rfl (.p3 rfl rfl rfl (Ops.nil (Run.seqO h (fun v_380 => [(0,.ptr 0 0),(3,.ptr 6 0),(4,VI y_358),(5,.ptr 7 0),(6,VI v_380)]) (fun (v_380 : Int) => [(0,.box [VI y_368.n.Id,VI y_368.n.Term,VI y_368.n.Vote,VI y_368.n.Role,VI y_368.n.Lead,.sl 1 3 0 x_1.n.Conf.length,VI y_368.n.Log.Start,VI y_368.n.Log.StartTerm,.sl 2 51 0 x_1.n.Log.Entries.length,VI y_368.n.Commit,VI 0,VI y_368.n.Limit,.sl 8 3 0 y_368.n.Votes.length,.sl 9 135 0 y_368.n.Peers.length,.sl 5 58 0 x_1.told.length]),(1,.vec 3 (x_1.n.Conf.map encI)),(2,.vec 51 (x_1.n.Log.Entries.map encEntry)),(3,.gone),(4,.gone),(5,.vec 58 (x_1.told.map (encMessage false))),(6,.box [VI x_2.Kind,VI x_2.From,VI x_2.To,VI x_2.Term,VI x_2.Index,VI x_2.LogTerm,VI x_2.Commit,VB x_2.Ok,RO 51 (x_2.Entries.map encEntry),RO 3 (x_2.Conf.map encI),VS x_2.Data,VB x_2.Last]),(7,.box [VI y_368.n.Log.Start,VI y_368.n.Log.StartTerm,.sl 2 51 0 x_1.n.Log.Entries.length]),(8,.vec 3 (y_368.n.Votes.map encI)),(9,.vec 135 (y_368.n.Peers.map encPeer))]) (fun h => ?_) (fun v_380 h => ?_))))))
    ·refine Run.seq (Run.ops hm (.p3 rfl rfl rfl (Ops.st (s := 37912) (Ev.lnF rfl) rfl rfl (Ops.p rfl (Ops.nil (Run.condO rfl h (fun g_381 h => ?_) (fun g_381 h => ?_)))))))
     ·exact Run.ops hm (.p2 rfl rfl (Ops.st (s := 41992) (Ev.lnF rfl) rfl rfl (Ops.p rfl (Ops.nil (⟨_,_,(gh_pk [0,3,4,5,6] [0,1,2,3,4,5,1000,25656,17432,17433] hB rfl rfl rfl rfl),_,h,rfl,rfl⟩)))))
     ·exact Run.skip (⟨_,_,(gh_pk [0,3,4,5,6] [0,1,2,3,4,5,1000,25656,17432,17433] hB rfl rfl rfl rfl),_,h,rfl,rfl⟩)
    ·refine Run.seq (Run.ops hm (.p3 rfl rfl rfl ?_))
     obtain ⟨x_385,hx_385,h⟩ := bindO h
     exact Ops.st (s := 46104) (Ev.slFl rfl rfl hx_385) rfl rfl (Ops.p rfl (Ops.s0 (s := 46136) (.sto rfl rfl rfl rfl rfl rfl) rfl rfl (Ops.nil (Run.seq (Run.ops hm (.p3 rfl rfl rfl (Ops.s0 (s := 50200) (.sto rfl rfl rfl rfl rfl rfl) rfl rfl (Ops.nil (Run.ops hm (.p3 rfl rfl rfl (Ops.s0 (s := 54296) (.sto rfl rfl rfl rfl rfl rfl) rfl rfl (Ops.nil (⟨_,_,(gh_pk [0,3,4,5] [0,1,2,3,4,5,6,7,8,9] hB rfl rfl rfl rfl),_,h,rfl,rfl⟩)))))))))))))
   ·exact Run.skip (⟨_,_,(gh_pk [0,3,4,5] [0,1,2,3,4,5,1000,25656,17432,17433] hB rfl rfl rfl rfl),_,h,rfl,rfl⟩)
  ·refine Run.seq (Run.seq (Run.draw hm hmix (OpsD.p rfl (OpsD.p rfl (OpsD.p rfl ?_)))))
   obtain ⟨y_398,hy_398,h⟩ := bindO h
   refine OpsD.st (s := 58392) (Ev.call [] [2] 0 (sem_spec_LogTerm _ _ _ _ hy_398) rfl rfl (.cons (.agg (.d2 (.cons (.borrow rfl (by decide) (lendW (fun _ => rfl) _ rfl)) .nil))) (.d1 .nil)) rfl (.inr ⟨rfl,ownL_root trivial⟩) rfl rfl) rfl rfl ?_
   refine OpsD.p rfl (OpsD.p rfl (OpsD.p rfl (OpsD.nil ⟨by kernel_rfl,?_⟩)))
   refine Run.condO rfl h (fun g_399 h => ?_) (fun g_399 h => ?_)
   ·refine Run.seq (Run.ops hm (.p3 rfl rfl rfl (Ops.p rfl (Ops.nil (Run.seqO h (fun v_401 => [(0,.ptr 0 0),(3,.ptr 6 0),(4,VI y_358),(7,VI v_401)]) (fun (v_401 : Int) => [(0,.box [VI y_368.n.Id,VI y_368.n.Term,VI y_368.n.Vote,VI y_368.n.Role,VI y_368.n.Lead,.sl 1 3 0 x_1.n.Conf.length,VI y_368.n.Log.Start,VI y_368.n.Log.StartTerm,.sl 2 51 0 x_1.n.Log.Entries.length,VI y_368.n.Commit,VI 0,VI y_368.n.Limit,.sl 7 3 0 y_368.n.Votes.length,.sl 8 135 0 y_368.n.Peers.length,.sl 5 58 0 x_1.told.length]),(1,.vec 3 (x_1.n.Conf.map encI)),(2,.vec 51 (x_1.n.Log.Entries.map encEntry)),(3,.gone),(4,.gone),(5,.vec 58 (x_1.told.map (encMessage false))),(6,.box [VI x_2.Kind,VI x_2.From,VI x_2.To,VI x_2.Term,VI v_377.1,VI v_377.2.1,VI x_2.Commit,VB x_2.Ok,RO 51 (v_377.2.2.map encEntry),RO 3 (x_2.Conf.map encI),VS x_2.Data,VB x_2.Last]),(7,.vec 3 (y_368.n.Votes.map encI)),(8,.vec 135 (y_368.n.Peers.map encPeer))]) (fun h => ?_) (fun v_401 h => ?_))))))
    ·refine Run.seq (Run.ops hm (.p2 rfl rfl (Ops.nil (Run.condO rfl h (fun g_402 h => ?_) (fun g_402 h => ?_)))))
     ·exact Run.ops hm (Ops.p rfl (Ops.nil (⟨_,_,(gh_pk [0,3,4,7] [0,1,2,3,4,5,6,8,9] hB rfl rfl rfl rfl),_,h,rfl,rfl⟩)))
     ·exact Run.skip (⟨_,_,(gh_pk [0,3,4,7] [0,1,2,3,4,5,6,8,9] hB rfl rfl rfl rfl),_,h,rfl,rfl⟩)
    ·refine Run.seqO h (fun v_404 => [(0,.ptr 0 0),(3,.ptr 6 0),(7,VI v_404)]) (fun (v_404 : Int) => [(0,.box [VI y_368.n.Id,VI y_368.n.Term,VI y_368.n.Vote,VI y_368.n.Role,VI y_368.n.Lead,.sl 1 3 0 x_1.n.Conf.length,VI y_368.n.Log.Start,VI y_368.n.Log.StartTerm,.sl 2 51 0 x_1.n.Log.Entries.length,VI y_368.n.Commit,VI 0,VI y_368.n.Limit,.sl 7 3 0 y_368.n.Votes.length,.sl 8 135 0 y_368.n.Peers.length,.sl 5 58 0 x_1.told.length]),(1,.vec 3 (x_1.n.Conf.map encI)),(2,.vec 51 (x_1.n.Log.Entries.map encEntry)),(3,.gone),(4,.gone),(5,.vec 58 (x_1.told.map (encMessage false))),(6,.box [VI x_2.Kind,VI x_2.From,VI x_2.To,VI x_2.Term,VI v_377.1,VI v_377.2.1,VI x_2.Commit,VB x_2.Ok,RO 51 (v_377.2.2.map encEntry),RO 3 (x_2.Conf.map encI),VS x_2.Data,VB x_2.Last]),(7,.vec 3 (y_368.n.Votes.map encI)),(8,.vec 135 (y_368.n.Peers.map encPeer))]) (fun h => ?_) (fun v_404 h => ?_)
     ·refine Run.seq (Run.ops hm (.p3 rfl rfl rfl (Ops.nil (Run.condO rfl h (fun g_405 h => ?_) (fun g_405 h => ?_)))))
      ·exact Run.ops hm (.p2 rfl rfl (Ops.nil (⟨_,_,(gh_pk [0,3,7] [0,1,2,3,4,5,6,7,8] hB rfl rfl rfl rfl),_,h,rfl,rfl⟩)))
      ·exact Run.skip (⟨_,_,(gh_pk [0,3,7] [0,1,2,3,4,5,6,7,8] hB rfl rfl rfl rfl),_,h,rfl,rfl⟩)
     ·refine Run.seq (Run.ops hm (.p3 rfl rfl rfl ?_))
      obtain ⟨y_407,hy_407,h⟩ := bindO h
      refine Ops.st (s := 82968) (Ev.call [0,1,2,7,8,5] [] 1 (sem_spec_l16Refuse _ _ _ _ _ hy_407) rfl rfl (.cons (.ptr rfl) (.cons (.agg (.d4 (.d4 (.d4 .nil)))) (.d1 .nil))) rfl (.inl rfl) rfl rfl) rfl rfl (Ops.nil (Run.ret ?_))
      obtain rfl := someO h
      exact Ends.mkG (.inl rfl) rfl (Gh.trans (Gh.trans (gh_prn [] [0,1,2,3,4,5,7,8,82968] hB rfl) (gh_mvE [] [1,2] hB rfl rfl)) (gh_pk [] [0,1,2,3,4,5,30000001,30000002,7,8,82968] hB rfl rfl rfl rfl)) rfl rfl
   ·refine Run.skip (Run.seq (Run.ops hm (Ops.p rfl (Ops.nil (Run.seqO h (fun v_469 => [(0,.ptr 0 0),(3,.ptr 6 0),(4,VI y_358),(5,.ptr 7 0),(8,VI v_469)]) (fun (v_469 : Int) => [(0,.box [VI y_368.n.Id,VI y_368.n.Term,VI y_368.n.Vote,VI y_368.n.Role,VI y_368.n.Lead,.sl 1 3 0 x_1.n.Conf.length,VI y_368.n.Log.Start,VI y_368.n.Log.StartTerm,.sl 2 51 0 x_1.n.Log.Entries.length,VI y_368.n.Commit,VI 0,VI y_368.n.Limit,.sl 8 3 0 y_368.n.Votes.length,.sl 9 135 0 y_368.n.Peers.length,.sl 5 58 0 x_1.told.length]),(1,.vec 3 (x_1.n.Conf.map encI)),(2,.vec 51 (x_1.n.Log.Entries.map encEntry)),(3,.gone),(4,.gone),(5,.vec 58 (x_1.told.map (encMessage false))),(6,.box [VI x_2.Kind,VI x_2.From,VI x_2.To,VI x_2.Term,VI v_377.1,VI v_377.2.1,VI x_2.Commit,VB x_2.Ok,RO 51 (v_377.2.2.map encEntry),RO 3 (x_2.Conf.map encI),VS x_2.Data,VB x_2.Last]),(7,.box [VI y_368.n.Log.Start,VI y_368.n.Log.StartTerm,.sl 2 51 0 x_1.n.Log.Entries.length]),(8,.vec 3 (y_368.n.Votes.map encI)),(9,.vec 135 (y_368.n.Peers.map encPeer))]) (fun h => ?_) (fun v_469 h => ?_))))))
    ·refine Run.block ?_
     obtain ⟨res_515,h,hk_515⟩ := bindO h
     refine Run.loop (n := N) (fun m_515 fr σ => ∃ (x_471 : Int),spec_l16AskAppend_l1 N x_1 y_368 v_377 m_515 x_471 = some res_515 ∧ fr = [(0,.ptr 0 0),(3,.ptr 6 0),(4,VI y_358),(5,.ptr 7 0),(8,VI x_471)] ∧ σ = [(0,.box [VI y_368.n.Id,VI y_368.n.Term,VI y_368.n.Vote,VI y_368.n.Role,VI y_368.n.Lead,.sl 1 3 0 x_1.n.Conf.length,VI y_368.n.Log.Start,VI y_368.n.Log.StartTerm,.sl 2 51 0 x_1.n.Log.Entries.length,VI y_368.n.Commit,VI 0,VI y_368.n.Limit,.sl 8 3 0 y_368.n.Votes.length,.sl 9 135 0 y_368.n.Peers.length,.sl 5 58 0 x_1.told.length]),(1,.vec 3 (x_1.n.Conf.map encI)),(2,.vec 51 (x_1.n.Log.Entries.map encEntry)),(3,.gone),(4,.gone),(5,.vec 58 (x_1.told.map (encMessage false))),(6,.box [VI x_2.Kind,VI x_2.From,VI x_2.To,VI x_2.Term,VI v_377.1,VI v_377.2.1,VI x_2.Commit,VB x_2.Ok,RO 51 (v_377.2.2.map encEntry),RO 3 (x_2.Conf.map encI),VS x_2.Data,VB x_2.Last]),(7,.box [VI y_368.n.Log.Start,VI y_368.n.Log.StartTerm,.sl 2 51 0 x_1.n.Log.Entries.length]),(8,.vec 3 (y_368.n.Votes.map encI)),(9,.vec 135 (y_368.n.Peers.map encPeer))]) (gh_pk [0,3,4,5,8] [0,1,2,3,4,5,6,7,8,9] hB rfl rfl rfl rfl) ⟨_,h,rfl,rfl⟩ ?_
     rintro m_515 fr σ ⟨x_471,h,rfl,rfl⟩
     obtain _ | m_515 := m_515
     ·rw [spec_l16AskAppend_l1] at h; cases h
     rw [spec_l16AskAppend_l1] at h
     refine Run.seq (Run.seq (Run.draw hm hmix (OpsD.p rfl (OpsD.p rfl (OpsD.p rfl (OpsD.st (s := 91160) (Ev.lnF rfl) rfl rfl (OpsD.p rfl (OpsD.p rfl (OpsD.askO (x := .t 97) rfl h (fun g_527 h => ?_) (fun g_527 h => ?_))))))))))
     ·refine OpsD.gp rfl g_527 rfl (OpsD.gp rfl g_527 rfl (OpsD.gp rfl g_527 rfl (OpsD.gp rfl g_527 rfl (OpsD.gp rfl g_527 rfl (OpsD.gp rfl g_527 rfl ?_)))))
      obtain ⟨y_528,hy_528,h⟩ := bindO h
      refine OpsD.gs (s := 91304) rfl g_527 (Ev.call [] [2] 0 (sem_spec_LogTerm _ _ _ _ hy_528) rfl rfl (.cons (.agg (.d2 (.cons (.borrow rfl (by decide) (lendW (fun _ => rfl) _ rfl)) .nil))) (.d1 .nil)) rfl (.inr ⟨rfl,ownL_root trivial⟩) rfl rfl) rfl rfl ?_
      refine OpsD.gp rfl g_527 rfl (OpsD.gp rfl g_527 rfl (OpsD.gp rfl g_527 rfl ?_))
      obtain ⟨x_529,hx_529,h⟩ := bindO h
      refine OpsD.gs (s := 91368) rfl g_527 (Ev.iaF rfl rfl hx_529) rfl rfl (OpsD.gp rfl g_527 rfl (OpsD.gp rfl g_527 rfl (OpsD.gp rfl g_527 rfl (OpsD.st (s := 91432) (.pkT rfl g_527 rfl) rfl rfl (OpsD.nil ⟨by kernel_rfl,?_⟩)))))
      refine Run.condO rfl h (fun g_530 h => ?_) (fun g_530 h => ?_)
      ·exact Run.skip (Run.block (Run.ops hm (.p3 rfl rfl rfl (Ops.nil (⟨m_515,Nat.lt_succ_self m_515,_,_,(gh_pk [0,3,4,5,8] [0,1,2,3,4,5,6,7,8,9] hB rfl rfl rfl rfl),_,h,rfl,rfl⟩)))))
      ·refine Run.exit ?_
       obtain rfl := someO h
       have h := hk_515
       exact ⟨_,_,(gh_pk [0,3,4,5,8] [0,1,2,3,4,5,6,7,8,9] hB rfl rfl rfl rfl),_,h,rfl,rfl⟩
     ·refine OpsD.gn rfl g_527 (OpsD.gn rfl g_527 (OpsD.gn rfl g_527 (OpsD.gn rfl g_527 (OpsD.gn rfl g_527 (OpsD.gn rfl g_527 (OpsD.gn rfl g_527 (OpsD.gn rfl g_527 (OpsD.gn rfl g_527 (OpsD.gn rfl g_527 (OpsD.gn rfl g_527 (OpsD.gn rfl g_527 (OpsD.gn rfl g_527 (OpsD.gn rfl g_527 (OpsD.st (s := 91432) (.pkF rfl g_527 rfl) rfl rfl (OpsD.nil ⟨by kernel_rfl,?_⟩)))))))))))))))
      refine Run.condF rfl rfl (Run.exit ?_)
      obtain rfl := someO h
      have h := hk_515
      exact ⟨_,_,(gh_pk [0,3,4,5,8] [0,1,2,3,4,5,6,7,8,9] hB rfl rfl rfl rfl),_,h,rfl,rfl⟩
    ·refine Run.seq (Run.ops hm (.p3 rfl rfl rfl (Ops.p rfl (Ops.st (s := 99368) (Ev.lnF rfl) rfl rfl (.p2 rfl rfl (Ops.nil (Run.seqO h (fun v_566 => [(0,.ptr 0 0),(3,.ptr 6 0),(9,VI (w64 (v_377.1 + (v_377.2.2.length : Int))))]) (fun (v_566 : (List Entry)) => [(0,.box [VI y_368.n.Id,VI y_368.n.Term,VI y_368.n.Vote,VI y_368.n.Role,VI y_368.n.Lead,.sl 7 3 0 x_1.n.Conf.length,VI y_368.n.Log.Start,VI y_368.n.Log.StartTerm,.sl 8 51 0 v_566.length,VI y_368.n.Commit,VI 0,VI y_368.n.Limit,.sl 9 3 0 y_368.n.Votes.length,.sl 10 135 0 y_368.n.Peers.length,.sl 11 58 0 x_1.told.length]),(1,.gone),(2,.gone),(3,.gone),(4,.gone),(5,.gone),(6,.box [VI x_2.Kind,VI x_2.From,VI x_2.To,VI x_2.Term,VI v_377.1,VI v_377.2.1,VI x_2.Commit,VB x_2.Ok,RO 51 (v_377.2.2.map encEntry),RO 3 (x_2.Conf.map encI),VS x_2.Data,VB x_2.Last]),(7,.vec 3 (x_1.n.Conf.map encI)),(8,.vec 51 (v_566.map encEntry)),(9,.vec 3 (y_368.n.Votes.map encI)),(10,.vec 135 (y_368.n.Peers.map encPeer)),(11,.vec 58 (x_1.told.map (encMessage false)))]) (fun h => ?_) (fun v_566 h => ?_))))))))
     ·refine Run.seq (Run.ops hm (.p3 rfl rfl rfl (Ops.st (s := 103448) (Ev.lnF rfl) rfl rfl (Ops.p rfl (Ops.nil (Run.condO rfl h (fun g_567 h => ?_) (fun g_567 h => ?_)))))))
      ·refine Run.seq (Run.ops hm (.p3 rfl rfl rfl (.p3 rfl rfl rfl (.p2 rfl rfl (Ops.nil (Run.seq (Run.draw hm hmix (OpsD.p rfl (OpsD.p rfl (OpsD.p rfl (OpsD.p rfl (OpsD.st (s := 111656) (Ev.bsW (ys := ([] : List Entry)) (f := encEntry) rfl .nil rfl rfl rfl rfl rfl) rfl rfl (OpsD.p rfl (OpsD.p rfl (OpsD.p rfl ?_)))))))))))))))
       obtain ⟨x_580,hx_580,h⟩ := bindO h
       refine OpsD.st (s := 111720) (Ev.slWh (xs := x_1.n.Log.Entries) rfl rfl rfl hx_580) rfl rfl ?_
       obtain ⟨x_581,hx_581,h⟩ := bindO h
       refine OpsD.st (s := 111736) (Ev.apW (f := encEntry) (ontoW rfl rfl rfl) (addsP rfl rfl (fun _ => rfl)) rfl bt51 rfl hx_581) rfl rfl (OpsD.p rfl (OpsD.p rfl (OpsD.p rfl ?_)))
       obtain ⟨x_582,hx_582,h⟩ := bindO h
       refine OpsD.st (s := 111800) (Ev.slFl rfl rfl hx_582) rfl rfl ?_
       obtain ⟨x_583,hx_583,h⟩ := bindO h
       refine OpsD.st (s := 111816) (Ev.apW (f := encEntry) (ontoW rfl rfl rfl) (addsF rfl) rfl bt51 rfl hx_583) rfl rfl (OpsD.st (s := 111832) (.bd rfl rfl) rfl rfl (OpsD.st (s := 111848) (.al rfl rfl) rfl rfl (OpsD.s0 (s := 111864) (.sto rfl rfl rfl rfl rfl rfl) rfl rfl (OpsD.nil ⟨by kernel_rfl,?_⟩))))
       refine Run.seq (Run.seq (Run.draw hm hmix (OpsD.p rfl (OpsD.p rfl (OpsD.p rfl (OpsD.p rfl (OpsD.p rfl (OpsD.p rfl (OpsD.p rfl (OpsD.p rfl (OpsD.p rfl (OpsD.p rfl (OpsD.p rfl (OpsD.askO (x := .t 159) rfl h (fun g_595 h => ?_) (fun g_595 h => ?_)))))))))))))))
       ·refine OpsD.gn rfl g_595 (OpsD.gn rfl g_595 (OpsD.gn rfl g_595 (OpsD.st (s := 115912) (.pkT rfl g_595 rfl) rfl rfl (OpsD.nil ⟨by kernel_rfl,?_⟩))))
        refine Run.condT rfl rfl (Run.seq (Run.ops hm (.p3 rfl rfl rfl ?_)))
        obtain ⟨y_597,hy_597,h⟩ := bindO h
        refine Ops.st (s := 119832) (Ev.call [0,1,2,8,9,5] [] 1 (sem_spec_l16Refuse _ _ _ _ _ hy_597) rfl rfl (.cons (.ptr rfl) (.cons (.agg (.d4 (.d4 (.d4 .nil)))) (.d1 .nil))) rfl (.inl rfl) rfl rfl) rfl rfl (Ops.nil (Run.ret ?_))
        obtain rfl := someO h
        exact Ends.mkG (.inl rfl) rfl (Gh.trans (Gh.trans (gh_prn [] [0,1,2,3,4,5,8,9,119832] hB rfl) (gh_mvE [] [1,2] hB rfl rfl)) (gh_pk [] [0,1,2,3,4,5,30000001,30000002,8,9,119832] hB rfl rfl rfl rfl)) rfl rfl
       ·refine OpsD.gp rfl g_595 rfl ?_
        obtain ⟨y_598,hy_598,h⟩ := bindO h
        refine OpsD.gs (s := 115880) rfl g_595 (Ev.call [] [111816] 0 (sem_spec_LogOk _ _ _ hy_598) rfl rfl (.cons (.agg (.d2 (.cons (.borrow rfl (by decide) (lendW (fun _ => rfl) _ rfl)) .nil))) .nil) rfl (.inr ⟨rfl,ownL_root trivial⟩) rfl rfl) rfl rfl ?_
        refine OpsD.gp rfl g_595 rfl (OpsD.st (s := 115912) (.pkF rfl g_595 rfl) rfl rfl (OpsD.nil ⟨by kernel_rfl,?_⟩))
        refine Run.condO rfl h (fun g_599 h => ?_) (fun g_599 h => ?_)
        ·refine Run.seq (Run.ops hm (.p3 rfl rfl rfl ?_))
         obtain ⟨y_601,hy_601,h⟩ := bindO h
         refine Ops.st (s := 119832) (Ev.call [0,1,2,8,9,5] [] 1 (sem_spec_l16Refuse _ _ _ _ _ hy_601) rfl rfl (.cons (.ptr rfl) (.cons (.agg (.d4 (.d4 (.d4 .nil)))) (.d1 .nil))) rfl (.inl rfl) rfl rfl) rfl rfl (Ops.nil (Run.ret ?_))
         obtain rfl := someO h
         exact Ends.mkG (.inl rfl) rfl (Gh.trans (Gh.trans (gh_prn [] [0,1,2,3,4,5,8,9,119832] hB rfl) (gh_mvE [] [1,2] hB rfl rfl)) (gh_pk [] [0,1,2,3,4,5,30000001,30000002,8,9,119832] hB rfl rfl rfl rfl)) rfl rfl
        ·exact Run.skip (Run.ops hm (.p3 rfl rfl rfl (.p2 rfl rfl (Ops.s0 (s := 123960) (.sto rfl rfl rfl rfl rfl rfl) rfl rfl (Ops.nil (⟨_,_,(Gh.trans (Gh.trans (gh_prn [0,3,9] [0,1,2,3,4,5,6,111816,8,9] hB rfl) (gh_mvE [0,3,9] [1,2,5] hB rfl rfl)) (gh_pk [0,3,9] [0,1,2,3,4,5,6,30000001,111816,8,9,30000005] hB rfl rfl rfl rfl)),_,h,rfl,rfl⟩))))))
      ·exact Run.skip (⟨_,_,(Gh.trans (Gh.trans (gh_prn [0,3,9] [0,1,2,3,4,5,6,8,9] hB rfl) (gh_mvE [0,3,9] [1,2,5] hB rfl rfl)) (gh_pk [0,3,9] [0,1,2,3,4,5,6,30000001,30000002,8,9,30000005] hB rfl rfl rfl rfl)),_,h,rfl,rfl⟩)
     ·refine Run.seq (Run.ops hm (.p3 rfl rfl rfl (Ops.nil (Run.seqO h (fun v_603 => [(0,.ptr 0 0),(3,.ptr 6 0),(9,VI (w64 (v_377.1 + (v_377.2.2.length : Int)))),(12,VI v_603)]) (fun (v_603 : Int) => [(0,.box [VI y_368.n.Id,VI y_368.n.Term,VI y_368.n.Vote,VI y_368.n.Role,VI y_368.n.Lead,.sl 7 3 0 x_1.n.Conf.length,VI y_368.n.Log.Start,VI y_368.n.Log.StartTerm,.sl 8 51 0 v_566.length,VI y_368.n.Commit,VI 0,VI y_368.n.Limit,.sl 9 3 0 y_368.n.Votes.length,.sl 10 135 0 y_368.n.Peers.length,.sl 11 58 0 x_1.told.length]),(1,.gone),(2,.gone),(3,.gone),(4,.gone),(5,.gone),(6,.box [VI x_2.Kind,VI x_2.From,VI x_2.To,VI x_2.Term,VI v_377.1,VI v_377.2.1,VI x_2.Commit,VB x_2.Ok,RO 51 (v_377.2.2.map encEntry),RO 3 (x_2.Conf.map encI),VS x_2.Data,VB x_2.Last]),(7,.vec 3 (x_1.n.Conf.map encI)),(8,.vec 51 (v_566.map encEntry)),(9,.vec 3 (y_368.n.Votes.map encI)),(10,.vec 135 (y_368.n.Peers.map encPeer)),(11,.vec 58 (x_1.told.map (encMessage false)))]) (fun h => ?_) (fun v_603 h => ?_)))))
      ·refine Run.seq (Run.ops hm (.p3 rfl rfl rfl (Ops.nil (Run.condO rfl h (fun g_604 h => ?_) (fun g_604 h => ?_)))))
       ·exact Run.ops hm (.p2 rfl rfl (Ops.nil (⟨_,_,(gh_pk [0,3,9,12] [0,1,2,3,4,5,6,7,8,9,10,11] hB rfl rfl rfl rfl),_,h,rfl,rfl⟩)))
       ·exact Run.skip (⟨_,_,(gh_pk [0,3,9,12] [0,1,2,3,4,5,6,7,8,9,10,11] hB rfl rfl rfl rfl),_,h,rfl,rfl⟩)
      ·refine Run.seqO h (fun v_606 => [(0,.ptr 0 0),(3,.ptr 6 0),(9,VI (w64 (v_377.1 + (v_377.2.2.length : Int))))]) (fun (v_606 : Int) => [(0,.box [VI y_368.n.Id,VI y_368.n.Term,VI y_368.n.Vote,VI y_368.n.Role,VI y_368.n.Lead,.sl 7 3 0 x_1.n.Conf.length,VI y_368.n.Log.Start,VI y_368.n.Log.StartTerm,.sl 8 51 0 v_566.length,VI v_606,VI 0,VI y_368.n.Limit,.sl 9 3 0 y_368.n.Votes.length,.sl 10 135 0 y_368.n.Peers.length,.sl 11 58 0 x_1.told.length]),(1,.gone),(2,.gone),(3,.gone),(4,.gone),(5,.gone),(6,.box [VI x_2.Kind,VI x_2.From,VI x_2.To,VI x_2.Term,VI v_377.1,VI v_377.2.1,VI x_2.Commit,VB x_2.Ok,RO 51 (v_377.2.2.map encEntry),RO 3 (x_2.Conf.map encI),VS x_2.Data,VB x_2.Last]),(7,.vec 3 (x_1.n.Conf.map encI)),(8,.vec 51 (v_566.map encEntry)),(9,.vec 3 (y_368.n.Votes.map encI)),(10,.vec 135 (y_368.n.Peers.map encPeer)),(11,.vec 58 (x_1.told.map (encMessage false)))]) (fun h => ?_) (fun v_606 h => ?_)
       ·refine Run.seq (Run.ops hm (.p3 rfl rfl rfl (.p3 rfl rfl rfl (Ops.p rfl (Ops.nil (Run.condO rfl h (fun g_607 h => ?_) (fun g_607 h => ?_)))))))
        ·exact Run.ops hm (.p3 rfl rfl rfl (.p2 rfl rfl (Ops.s0 (s := 144440) (.sto rfl rfl rfl rfl rfl rfl) rfl rfl (Ops.nil (⟨_,_,(gh_pk [0,3,9] [0,1,2,3,4,5,6,7,8,9,10,11] hB rfl rfl rfl rfl),_,h,rfl,rfl⟩)))))
        ·exact Run.skip (⟨_,_,(gh_pk [0,3,9] [0,1,2,3,4,5,6,7,8,9,10,11] hB rfl rfl rfl rfl),_,h,rfl,rfl⟩)
       ·refine Run.ops hm (.p3 rfl rfl rfl (Ops.p rfl (Ops.st (s := 148520) (.bd rfl rfl) rfl rfl ?_)))
        obtain ⟨y_609,hy_609,h⟩ := bindO h
        refine Ops.st (s := 148536) (Ev.call [0,7,8,9,10,11] [] 1 (sem_spec_l16Tell _ _ _ _ hy_609) rfl rfl (.cons (.ptr rfl) (.cons (.agg (.d4 (.d4 (.cons (.nil _ _) (.cons (.nil _ _) (.d2 .nil)))))) .nil)) rfl (.inl rfl) rfl rfl) rfl rfl (Ops.nil ?_)
        obtain rfl := someO h
        exact Ends.mkG (.inr rfl) rfl (gh_pk [] [0,1,2,3,4,5,7,8,9,10,148536] hB rfl rfl rfl rfl) rfl rfl
def spec_l16Reply_l1 (N : Nat) (x_1 : Tl16Run) (x_2 : Message) : Nat → Int → Int → Option (Int)
 | 0,_,_ => none
 | m + 1,x_340,x_341 =>
 (if (decide (x_341 < ((x_1.n.Peers.length : Nat) : Int))) = true then
 joinP (fun (v_385 : Int) =>
 spec_l16Reply_l1 N x_1 x_2 m v_385 (w64 (x_341 + 1))) fun j_385 =>
 (at? x_1.n.Peers x_341).bind fun x_387 =>
 (if (x_387.Id == x_2.From) = true then
 j_385 x_341
 else
 j_385 x_340)
 else
 some x_340)
def spec_l16Reply (N : Nat) (x_1 : Tl16Run) (x_2 : Message) : Option (Tl16Run) :=
 (if (x_2.Term != x_1.n.Term) = true then
 some x_1
 else
 (if (x_1.n.Role != 2) = true then
 some x_1
 else
 joinP (fun (v_339 : Int) =>
 (if (decide (v_339 < 0)) = true then
 some x_1
 else
 (spec_l12Last N x_1.n.Log).bind fun y_394 =>
 (at? x_1.n.Peers v_339).bind fun x_398 =>
 (if x_2.Ok = true then
 joinP (fun (v_424 : Int) =>
 joinP (fun (v_427 : Int) =>
 joinP (fun (v_430 : Int) =>
 (at? x_1.n.Peers v_339).bind fun x_435 =>
 (spec_l16Commit N (Tl16Run.mk (Node.mk x_1.n.Id x_1.n.Term x_1.n.Vote x_1.n.Role x_1.n.Lead x_1.n.Conf x_1.n.Log x_1.n.Commit x_1.n.Clock x_1.n.Limit x_1.n.Votes (x_1.n.Peers.set v_339.toNat (Peer.mk x_398.Id (w64 (v_427 + 1)) v_427 v_430))) x_1.told)).bind fun y_439 =>
 (if (y_439.n.Role == 2) = true then
 (if (decide ((w64 (v_427 + 1)) ≤ y_394)) = true then
 (spec_l16Send N y_439 (Peer.mk x_398.Id (w64 (v_427 + 1)) v_427 v_430)).bind fun y_444 =>
 some (Tl16Run.mk (Node.mk y_444.n.Id y_444.n.Term y_444.n.Vote y_444.n.Role y_444.n.Lead y_439.n.Conf (Log.mk y_444.n.Log.Start y_444.n.Log.StartTerm y_439.n.Log.Entries) y_444.n.Commit y_444.n.Clock y_444.n.Limit y_439.n.Votes y_439.n.Peers) y_444.told)
 else
 some y_439)
 else
 some y_439)) fun j_430 =>
 (if (x_2.Kind == 6) = true then
 j_430 0
 else
 j_430 x_398.Sent)) fun j_427 =>
 (if (decide (v_424 > x_398.Match)) = true then
 j_427 v_424
 else
 j_427 x_398.Match)) fun j_424 =>
 (if (decide (x_2.Index > y_394)) = true then
 j_424 y_394
 else
 j_424 x_2.Index)
 else
 joinP (fun (v_453 : Int × Int) =>
 (at? x_1.n.Peers v_339).bind fun x_465 =>
 (spec_l16Send N (Tl16Run.mk (Node.mk x_1.n.Id x_1.n.Term x_1.n.Vote x_1.n.Role x_1.n.Lead x_1.n.Conf x_1.n.Log x_1.n.Commit x_1.n.Clock x_1.n.Limit x_1.n.Votes (x_1.n.Peers.set v_339.toNat (Peer.mk x_398.Id v_453.1 x_398.Match v_453.2))) x_1.told) (Peer.mk x_398.Id v_453.1 x_398.Match v_453.2)).bind fun y_467 =>
 some (Tl16Run.mk (Node.mk y_467.n.Id y_467.n.Term y_467.n.Vote y_467.n.Role y_467.n.Lead x_1.n.Conf (Log.mk y_467.n.Log.Start y_467.n.Log.StartTerm x_1.n.Log.Entries) y_467.n.Commit y_467.n.Clock y_467.n.Limit x_1.n.Votes (x_1.n.Peers.set v_339.toNat (Peer.mk x_398.Id v_453.1 x_398.Match v_453.2))) y_467.told)) fun j_453 =>
 (if (x_2.Kind == 6) = true then
 (if (x_2.Index == x_1.n.Log.Start) = true then
 (if (decide (x_2.Commit ≤ 20000)) = true then
 j_453 (x_398.Next,x_2.Commit)
 else
 j_453 (x_398.Next,0))
 else
 j_453 (x_398.Next,0))
 else
 joinP (fun (v_459 : Int) =>
 (if (decide (v_459 < x_398.Next)) = true then
 j_453 (v_459,x_398.Sent)
 else
 j_453 (x_398.Next,x_398.Sent))) fun j_459 =>
 (if (decide ((w64 (x_2.Index + 1)) < (w64 (x_398.Match + 1)))) = true then
 j_459 (w64 (x_398.Match + 1))
 else
 j_459 (w64 (x_2.Index + 1))))))) fun j_339 =>
 (spec_l16Reply_l1 N x_1 x_2 N (-1 : Int) 0).bind (fun v_378 => j_339 v_378)))
theorem sem_spec_l16Reply (N : Nat) (x_1 : Tl16Run) (x_2 : Message) (r : Tl16Run) (h : spec_l16Reply N x_1 x_2 = some r) : Says Try.prog 183 [.ptr 0 0,.agg [VI x_2.Kind,VI x_2.From,VI x_2.To,VI x_2.Term,VI x_2.Index,VI x_2.LogTerm,VI x_2.Commit,VB x_2.Ok,RO 51 (x_2.Entries.map encEntry),RO 3 (x_2.Conf.map encI),VS x_2.Data,VB x_2.Last]] 6 [(0,.box [VI x_1.n.Id,VI x_1.n.Term,VI x_1.n.Vote,VI x_1.n.Role,VI x_1.n.Lead,.sl 1 3 0 x_1.n.Conf.length,VI x_1.n.Log.Start,VI x_1.n.Log.StartTerm,.sl 2 51 0 x_1.n.Log.Entries.length,VI x_1.n.Commit,VI x_1.n.Clock,VI x_1.n.Limit,.sl 3 3 0 x_1.n.Votes.length,.sl 4 135 0 x_1.n.Peers.length,.sl 5 58 0 x_1.told.length]),(1,.vec 3 (x_1.n.Conf.map encI)),(2,.vec 51 (x_1.n.Log.Entries.map encEntry)),(3,.vec 3 (x_1.n.Votes.map encI)),(4,.vec 135 (x_1.n.Peers.map encPeer)),(5,.vec 58 (x_1.told.map (encMessage false)))] (.tup []) [(0,.box [VI r.n.Id,VI r.n.Term,VI r.n.Vote,VI r.n.Role,VI r.n.Lead,.sl 6 3 0 r.n.Conf.length,VI r.n.Log.Start,VI r.n.Log.StartTerm,.sl 7 51 0 r.n.Log.Entries.length,VI r.n.Commit,VI r.n.Clock,VI r.n.Limit,.sl 8 3 0 r.n.Votes.length,.sl 9 135 0 r.n.Peers.length,.sl 10 58 0 r.told.length]),(1,.gone),(2,.gone),(3,.gone),(4,.gone),(5,.gone),(6,.vec 3 (r.n.Conf.map encI)),(7,.vec 51 (r.n.Log.Entries.map encEntry)),(8,.vec 3 (r.n.Votes.map encI)),(9,.vec 135 (r.n.Peers.map encPeer)),(10,.vec 58 (r.told.map (encMessage false)))] := by
 unfold spec_l16Reply at h
 refine Says.of_run s183 Try.call183 rfl fun B hB => ?_
 have hm : B.m ≤ 1000 := by omega
 refine Run.seq (Run.ops hm (Ops.st (s := 1000) (.bx rfl rfl) rfl rfl (Ops.nil (Run.seq (Run.seq (Run.draw hm hmix (OpsD.p rfl (OpsD.p rfl (OpsD.p rfl (OpsD.p rfl (OpsD.p rfl (OpsD.p rfl (OpsD.p rfl (OpsD.p rfl (OpsD.p rfl (OpsD.askO (x := .t 18) rfl h (fun g_288 h => ?_) (fun g_288 h => ?_)))))))))))))))))
 ·refine OpsD.gn rfl g_288 (OpsD.gn rfl g_288 (OpsD.gn rfl g_288 (OpsD.gn rfl g_288 (OpsD.gn rfl g_288 (OpsD.gn rfl g_288 (OpsD.st (s := 5336) (.pkT rfl g_288 rfl) rfl rfl (OpsD.nil ⟨by kernel_rfl,?_⟩)))))))
  refine Run.condT rfl rfl (Run.ret ?_)
  obtain rfl := someO h
  exact Ends.mkG (.inl rfl) rfl (Gh.trans (Gh.trans (gh_prn [] [0,1,2,3,4,5] hB rfl) (gh_mvE [] [1,2,3,4,5] hB rfl rfl)) (gh_pk [] [0,1,2,3,4,5,30000001,30000002,30000003,30000004,30000005] hB rfl rfl rfl rfl)) rfl rfl
 ·refine OpsD.gp rfl g_288 rfl (OpsD.gp rfl g_288 rfl (OpsD.gp rfl g_288 rfl (OpsD.gp rfl g_288 rfl (OpsD.gp rfl g_288 rfl (OpsD.gp rfl g_288 rfl (OpsD.st (s := 5336) (.pkF rfl g_288 rfl) rfl rfl (OpsD.nil ⟨by kernel_rfl,?_⟩)))))))
  refine Run.condO rfl h (fun g_289 h => ?_) (fun g_289 h => ?_)
  ·refine Run.ret ?_
   obtain rfl := someO h
   exact Ends.mkG (.inl rfl) rfl (Gh.trans (Gh.trans (gh_prn [] [0,1,2,3,4,5] hB rfl) (gh_mvE [] [1,2,3,4,5] hB rfl rfl)) (gh_pk [] [0,1,2,3,4,5,30000001,30000002,30000003,30000004,30000005] hB rfl rfl rfl rfl)) rfl rfl
  ·refine Run.skip (Run.seq (Run.ops hm (Ops.p rfl (Ops.nil (Run.seqO h (fun v_339 => [(0,.ptr 0 0),(3,.ptr 6 0),(4,VI v_339)]) (fun (v_339 : Int) => [(0,.box [VI x_1.n.Id,VI x_1.n.Term,VI x_1.n.Vote,VI x_1.n.Role,VI x_1.n.Lead,.sl 1 3 0 x_1.n.Conf.length,VI x_1.n.Log.Start,VI x_1.n.Log.StartTerm,.sl 2 51 0 x_1.n.Log.Entries.length,VI x_1.n.Commit,VI x_1.n.Clock,VI x_1.n.Limit,.sl 3 3 0 x_1.n.Votes.length,.sl 4 135 0 x_1.n.Peers.length,.sl 5 58 0 x_1.told.length]),(1,.vec 3 (x_1.n.Conf.map encI)),(2,.vec 51 (x_1.n.Log.Entries.map encEntry)),(3,.vec 3 (x_1.n.Votes.map encI)),(4,.vec 135 (x_1.n.Peers.map encPeer)),(5,.vec 58 (x_1.told.map (encMessage false))),(6,.box [VI x_2.Kind,VI x_2.From,VI x_2.To,VI x_2.Term,VI x_2.Index,VI x_2.LogTerm,VI x_2.Commit,VB x_2.Ok,RO 51 (x_2.Entries.map encEntry),RO 3 (x_2.Conf.map encI),VS x_2.Data,VB x_2.Last])]) (fun h => ?_) (fun v_339 h => ?_))))))
   ·refine Run.seq (Run.ops hm (Ops.p rfl (Ops.nil (Run.block ?_))))
    obtain ⟨res_378,h,hk_378⟩ := bindO h
    refine Run.loop (n := N) (fun m_378 fr σ => ∃ (x_340 : Int),∃ (x_341 : Int),spec_l16Reply_l1 N x_1 x_2 m_378 x_340 x_341 = some res_378 ∧ fr = [(0,.ptr 0 0),(3,.ptr 6 0),(4,VI x_340),(5,VI x_341)] ∧ σ = [(0,.box [VI x_1.n.Id,VI x_1.n.Term,VI x_1.n.Vote,VI x_1.n.Role,VI x_1.n.Lead,.sl 1 3 0 x_1.n.Conf.length,VI x_1.n.Log.Start,VI x_1.n.Log.StartTerm,.sl 2 51 0 x_1.n.Log.Entries.length,VI x_1.n.Commit,VI x_1.n.Clock,VI x_1.n.Limit,.sl 3 3 0 x_1.n.Votes.length,.sl 4 135 0 x_1.n.Peers.length,.sl 5 58 0 x_1.told.length]),(1,.vec 3 (x_1.n.Conf.map encI)),(2,.vec 51 (x_1.n.Log.Entries.map encEntry)),(3,.vec 3 (x_1.n.Votes.map encI)),(4,.vec 135 (x_1.n.Peers.map encPeer)),(5,.vec 58 (x_1.told.map (encMessage false))),(6,.box [VI x_2.Kind,VI x_2.From,VI x_2.To,VI x_2.Term,VI x_2.Index,VI x_2.LogTerm,VI x_2.Commit,VB x_2.Ok,RO 51 (x_2.Entries.map encEntry),RO 3 (x_2.Conf.map encI),VS x_2.Data,VB x_2.Last])]) (gh_pk [0,3,4,5] [0,1,2,3,4,5,1000] hB rfl rfl rfl rfl) ⟨_,_,h,rfl,rfl⟩ ?_
    rintro m_378 fr σ ⟨x_340,x_341,h,rfl,rfl⟩
    obtain _ | m_378 := m_378
    ·rw [spec_l16Reply_l1] at h; cases h
    rw [spec_l16Reply_l1] at h
    refine Run.seq (Run.seq (Run.ops hm (.p3 rfl rfl rfl (.p3 rfl rfl rfl (.p2 rfl rfl (Ops.nil (Run.condO rfl h (fun g_381 h => ?_) (fun g_381 h => ?_))))))))
    ·refine Run.skip (Run.seqO h (fun v_385 => [(0,.ptr 0 0),(3,.ptr 6 0),(4,VI v_385),(5,VI x_341)]) (fun (v_385 : Int) => [(0,.box [VI x_1.n.Id,VI x_1.n.Term,VI x_1.n.Vote,VI x_1.n.Role,VI x_1.n.Lead,.sl 1 3 0 x_1.n.Conf.length,VI x_1.n.Log.Start,VI x_1.n.Log.StartTerm,.sl 2 51 0 x_1.n.Log.Entries.length,VI x_1.n.Commit,VI x_1.n.Clock,VI x_1.n.Limit,.sl 3 3 0 x_1.n.Votes.length,.sl 4 135 0 x_1.n.Peers.length,.sl 5 58 0 x_1.told.length]),(1,.vec 3 (x_1.n.Conf.map encI)),(2,.vec 51 (x_1.n.Log.Entries.map encEntry)),(3,.vec 3 (x_1.n.Votes.map encI)),(4,.vec 135 (x_1.n.Peers.map encPeer)),(5,.vec 58 (x_1.told.map (encMessage false))),(6,.box [VI x_2.Kind,VI x_2.From,VI x_2.To,VI x_2.Term,VI x_2.Index,VI x_2.LogTerm,VI x_2.Commit,VB x_2.Ok,RO 51 (x_2.Entries.map encEntry),RO 3 (x_2.Conf.map encI),VS x_2.Data,VB x_2.Last])]) (fun h => ?_) (fun v_385 h => ?_))
     ·refine Run.block (Run.seq (Run.draw hm hmix (OpsD.p rfl (OpsD.p rfl (OpsD.p rfl (OpsD.p rfl (OpsD.p rfl (OpsD.p rfl ?_))))))))
      obtain ⟨x_387,hx_387,h⟩ := bindO h
      refine OpsD.st (s := 25672) (Ev.iaW rfl rfl rfl hx_387) rfl rfl (OpsD.p rfl (OpsD.st (s := 25704) (Ev.ldE (f := encPeer) rfl rfl (at_some hx_387).2 rfl rfl rfl) rfl rfl (OpsD.p rfl (OpsD.p rfl (OpsD.p rfl (OpsD.nil ⟨by kernel_rfl,?_⟩))))))
      refine Run.condO rfl h (fun g_388 h => ?_) (fun g_388 h => ?_)
      ·exact Run.ops hm (.p2 rfl rfl (Ops.nil (⟨_,_,(gh_pk [0,3,4,5] [0,1,2,3,4,5,6] hB rfl rfl rfl rfl),_,h,rfl,rfl⟩)))
      ·exact Run.skip (⟨_,_,(gh_pk [0,3,4,5] [0,1,2,3,4,5,6] hB rfl rfl rfl rfl),_,h,rfl,rfl⟩)
     ·exact Run.ops hm (.p3 rfl rfl rfl (Ops.nil (⟨m_378,Nat.lt_succ_self m_378,_,_,(gh_pk [0,3,4,5] [0,1,2,3,4,5,6] hB rfl rfl rfl rfl),_,_,h,rfl,rfl⟩)))
    ·refine Run.exit ?_
     obtain rfl := someO h
     have h := hk_378
     exact ⟨_,_,(gh_pk [0,3,4] [0,1,2,3,4,5,6] hB rfl rfl rfl rfl),_,h,rfl,rfl⟩
   ·refine Run.seq (Run.seq (Run.ops hm (.p2 rfl rfl (Ops.nil (Run.condO rfl h (fun g_390 h => ?_) (fun g_390 h => ?_))))))
    ·refine Run.ret ?_
     obtain rfl := someO h
     exact Ends.mkG (.inl rfl) rfl (Gh.trans (Gh.trans (gh_prn [] [0,1,2,3,4,5] hB rfl) (gh_mvE [] [1,2,3,4,5] hB rfl rfl)) (gh_pk [] [0,1,2,3,4,5,30000001,30000002,30000003,30000004,30000005] hB rfl rfl rfl rfl)) rfl rfl
    ·refine Run.skip (Run.seq (Run.ops hm (.p3 rfl rfl rfl (.p2 rfl rfl ?_))))
     obtain ⟨y_394,hy_394,h⟩ := bindO h
     refine Ops.st (s := 37944) (Ev.call [] [2] 0 (sem_spec_l12Last _ _ _ hy_394) rfl rfl (.cons (.agg (.d2 (.cons (.borrow rfl (by decide) (lendW (fun _ => rfl) _ rfl)) .nil))) .nil) rfl (.inr ⟨rfl,ownL_root trivial⟩) rfl rfl) rfl rfl ?_
     refine Ops.p rfl (Ops.nil (Run.seq (Run.ops hm (.p3 rfl rfl rfl (.p3 rfl rfl rfl ?_)))))
     obtain ⟨x_398,hx_398,h⟩ := bindO h
     refine Ops.st (s := 42056) (Ev.iaW rfl rfl rfl hx_398) rfl rfl (Ops.st (s := 42072) (Ev.ldE (f := encPeer) rfl rfl (at_some hx_398).2 rfl rfl rfl) rfl rfl (Ops.st (s := 42088) (.al rfl rfl) rfl rfl (Ops.s0 (s := 42104) (.sto rfl rfl rfl rfl rfl rfl) rfl rfl (Ops.nil (Run.seq (Run.seq (Run.ops hm (.p2 rfl rfl (Ops.nil (Run.condO rfl h (fun g_422 h => ?_) (fun g_422 h => ?_)))))))))))
     ·refine Run.seq (Run.ops hm (.p3 rfl rfl rfl (Ops.nil (Run.seqO h (fun v_424 => [(0,.ptr 0 0),(3,.ptr 6 0),(4,VI v_339),(6,VI y_394),(7,.ptr 7 0),(8,VI v_424)]) (fun (v_424 : Int) => [(0,.box [VI x_1.n.Id,VI x_1.n.Term,VI x_1.n.Vote,VI x_1.n.Role,VI x_1.n.Lead,.sl 1 3 0 x_1.n.Conf.length,VI x_1.n.Log.Start,VI x_1.n.Log.StartTerm,.sl 2 51 0 x_1.n.Log.Entries.length,VI x_1.n.Commit,VI x_1.n.Clock,VI x_1.n.Limit,.sl 3 3 0 x_1.n.Votes.length,.sl 4 135 0 x_1.n.Peers.length,.sl 5 58 0 x_1.told.length]),(1,.vec 3 (x_1.n.Conf.map encI)),(2,.vec 51 (x_1.n.Log.Entries.map encEntry)),(3,.vec 3 (x_1.n.Votes.map encI)),(4,.vec 135 (x_1.n.Peers.map encPeer)),(5,.vec 58 (x_1.told.map (encMessage false))),(6,.box [VI x_2.Kind,VI x_2.From,VI x_2.To,VI x_2.Term,VI x_2.Index,VI x_2.LogTerm,VI x_2.Commit,VB x_2.Ok,RO 51 (x_2.Entries.map encEntry),RO 3 (x_2.Conf.map encI),VS x_2.Data,VB x_2.Last]),(7,.box [VI x_398.Id,VI x_398.Next,VI x_398.Match,VI x_398.Sent])]) (fun h => ?_) (fun v_424 h => ?_)))))
      ·refine Run.seq (Run.ops hm (.p3 rfl rfl rfl (Ops.nil (Run.condO rfl h (fun g_425 h => ?_) (fun g_425 h => ?_)))))
       ·exact Run.ops hm (.p2 rfl rfl (Ops.nil (⟨_,_,(gh_pk [0,3,4,6,7,8] [0,1,2,3,4,5,6,42088] hB rfl rfl rfl rfl),_,h,rfl,rfl⟩)))
       ·exact Run.skip (⟨_,_,(gh_pk [0,3,4,6,7,8] [0,1,2,3,4,5,6,42088] hB rfl rfl rfl rfl),_,h,rfl,rfl⟩)
      ·refine Run.seqO h (fun v_427 => [(0,.ptr 0 0),(3,.ptr 6 0),(4,VI v_339),(6,VI y_394),(7,.ptr 7 0)]) (fun (v_427 : Int) => [(0,.box [VI x_1.n.Id,VI x_1.n.Term,VI x_1.n.Vote,VI x_1.n.Role,VI x_1.n.Lead,.sl 1 3 0 x_1.n.Conf.length,VI x_1.n.Log.Start,VI x_1.n.Log.StartTerm,.sl 2 51 0 x_1.n.Log.Entries.length,VI x_1.n.Commit,VI x_1.n.Clock,VI x_1.n.Limit,.sl 3 3 0 x_1.n.Votes.length,.sl 4 135 0 x_1.n.Peers.length,.sl 5 58 0 x_1.told.length]),(1,.vec 3 (x_1.n.Conf.map encI)),(2,.vec 51 (x_1.n.Log.Entries.map encEntry)),(3,.vec 3 (x_1.n.Votes.map encI)),(4,.vec 135 (x_1.n.Peers.map encPeer)),(5,.vec 58 (x_1.told.map (encMessage false))),(6,.box [VI x_2.Kind,VI x_2.From,VI x_2.To,VI x_2.Term,VI x_2.Index,VI x_2.LogTerm,VI x_2.Commit,VB x_2.Ok,RO 51 (x_2.Entries.map encEntry),RO 3 (x_2.Conf.map encI),VS x_2.Data,VB x_2.Last]),(7,.box [VI x_398.Id,VI x_398.Next,VI v_427,VI x_398.Sent])]) (fun h => ?_) (fun v_427 h => ?_)
       ·refine Run.seq (Run.ops hm (.p3 rfl rfl rfl (Ops.p rfl (Ops.nil (Run.condO rfl h (fun g_428 h => ?_) (fun g_428 h => ?_))))))
        ·exact Run.ops hm (.p2 rfl rfl (Ops.s0 (s := 66568) (.sto rfl rfl rfl rfl rfl rfl) rfl rfl (Ops.nil (⟨_,_,(gh_pk [0,3,4,6,7] [0,1,2,3,4,5,6,7] hB rfl rfl rfl rfl),_,h,rfl,rfl⟩))))
        ·exact Run.skip (⟨_,_,(gh_pk [0,3,4,6,7] [0,1,2,3,4,5,6,7] hB rfl rfl rfl rfl),_,h,rfl,rfl⟩)
       ·refine Run.seq (Run.ops hm (.p3 rfl rfl rfl (Ops.p rfl (Ops.s0 (s := 70696) (.sto rfl rfl rfl rfl rfl rfl) rfl rfl (Ops.nil (Run.seqO h (fun v_430 => [(0,.ptr 0 0),(4,VI v_339),(6,VI y_394),(7,.ptr 6 0)]) (fun (v_430 : Int) => [(0,.box [VI x_1.n.Id,VI x_1.n.Term,VI x_1.n.Vote,VI x_1.n.Role,VI x_1.n.Lead,.sl 1 3 0 x_1.n.Conf.length,VI x_1.n.Log.Start,VI x_1.n.Log.StartTerm,.sl 2 51 0 x_1.n.Log.Entries.length,VI x_1.n.Commit,VI x_1.n.Clock,VI x_1.n.Limit,.sl 3 3 0 x_1.n.Votes.length,.sl 4 135 0 x_1.n.Peers.length,.sl 5 58 0 x_1.told.length]),(1,.vec 3 (x_1.n.Conf.map encI)),(2,.vec 51 (x_1.n.Log.Entries.map encEntry)),(3,.vec 3 (x_1.n.Votes.map encI)),(4,.vec 135 (x_1.n.Peers.map encPeer)),(5,.vec 58 (x_1.told.map (encMessage false))),(6,.box [VI x_398.Id,VI (w64 (v_427 + 1)),VI v_427,VI v_430])]) (fun h => ?_) (fun v_430 h => ?_)))))))
        ·refine Run.seq (Run.ops hm (.p3 rfl rfl rfl (Ops.nil (Run.condO rfl h (fun g_431 h => ?_) (fun g_431 h => ?_)))))
         ·exact Run.ops hm (Ops.p rfl (Ops.s0 (s := 78840) (.sto rfl rfl rfl rfl rfl rfl) rfl rfl (Ops.nil (⟨_,_,(gh_pk [0,4,6,7] [0,1,2,3,4,5,7] hB rfl rfl rfl rfl),_,h,rfl,rfl⟩))))
         ·exact Run.skip (⟨_,_,(gh_pk [0,4,6,7] [0,1,2,3,4,5,7] hB rfl rfl rfl rfl),_,h,rfl,rfl⟩)
        ·refine Run.seq (Run.draw hm hmix (OpsD.p rfl (OpsD.p rfl (OpsD.p rfl (OpsD.p rfl (OpsD.p rfl (OpsD.p rfl (OpsD.p rfl ?_))))))))
         obtain ⟨x_435,hx_435,h⟩ := bindO h
         refine OpsD.st (s := 83032) (Ev.iaW rfl rfl rfl hx_435) rfl rfl (OpsD.s0 (s := 83048) (Ev.stE (f := encPeer) (v' := (Peer.mk x_398.Id (w64 (v_427 + 1)) v_427 v_430)) rfl rfl (at_some hx_435).2 rfl (.d4 .nil) rfl rfl rfl rfl rfl) rfl rfl (OpsD.nil ⟨by kernel_rfl,?_⟩))
         refine Run.seq (Run.ops hm (Ops.p rfl ?_))
         obtain ⟨y_439,hy_439,h⟩ := bindO h
         have qy_439 := sem_spec_l16Commit N (Tl16Run.mk (Node.mk x_1.n.Id x_1.n.Term x_1.n.Vote x_1.n.Role x_1.n.Lead x_1.n.Conf x_1.n.Log x_1.n.Commit x_1.n.Clock x_1.n.Limit x_1.n.Votes (x_1.n.Peers.set v_339.toNat (Peer.mk x_398.Id (w64 (v_427 + 1)) v_427 v_430))) x_1.told) _ hy_439
         simp only [List.length_set] at qy_439
         refine Ops.st (s := 87032) (Ev.call [0,1,2,3,4,5] [] 5 qy_439 rfl rfl (.cons (.ptr rfl) .nil) rfl (.inl rfl) rfl rfl) rfl rfl (Ops.nil (Run.seq (Run.seq (Run.ops hm (.p3 rfl rfl rfl (.p3 rfl rfl rfl (Ops.p rfl (Ops.askO (x := .t 103) rfl h (fun g_441 h => ?_) (fun g_441 h => ?_)))))))))
         ·refine Ops.gp rfl g_441 rfl (Ops.gp rfl g_441 rfl (Ops.gp rfl g_441 rfl (Ops.gp rfl g_441 rfl (Ops.st (s := 91288) (.pkT rfl g_441 rfl) rfl rfl (Ops.nil (Run.condO rfl h (fun g_442 h => ?_) (fun g_442 h => ?_)))))))
          ·refine Run.ops hm (.p2 rfl rfl ?_)
           obtain ⟨y_444,hy_444,h⟩ := bindO h
           refine Ops.st (s := 95240) (Ev.call [0,87032,87033,87034,87035,87036] [] 1 (sem_spec_l16Send _ _ _ _ hy_444) rfl rfl (.cons (.ptr rfl) (.cons (.agg (.d4 .nil)) .nil)) rfl (.inl rfl) rfl rfl) rfl rfl (Ops.nil (Run.ret ?_))
           obtain rfl := someO h
           exact Ends.mkG (.inl rfl) rfl (gh_pk [] [0,1,2,3,4,5,87032,87033,87034,87035,95240] hB rfl rfl rfl rfl) rfl rfl
          ·refine Run.skip (Run.ret ?_)
           obtain rfl := someO h
           exact Ends.mkG (.inl rfl) rfl (gh_pk [] [0,1,2,3,4,5,87032,87033,87034,87035,87036] hB rfl rfl rfl rfl) rfl rfl
         ·refine Ops.gn rfl g_441 (Ops.gn rfl g_441 (Ops.gn rfl g_441 (Ops.gn rfl g_441 (Ops.st (s := 91288) (.pkF rfl g_441 rfl) rfl rfl (Ops.nil (Run.condF rfl rfl (Run.skip (Run.ret ?_))))))))
          obtain rfl := someO h
          exact Ends.mkG (.inl rfl) rfl (gh_pk [] [0,1,2,3,4,5,87032,87033,87034,87035,87036] hB rfl rfl rfl rfl) rfl rfl
     ·refine Run.skip (Run.seqO h (fun v_453 => [(0,.ptr 0 0),(4,VI v_339),(7,.ptr 6 0)]) (fun (v_453 : Int × Int) => [(0,.box [VI x_1.n.Id,VI x_1.n.Term,VI x_1.n.Vote,VI x_1.n.Role,VI x_1.n.Lead,.sl 1 3 0 x_1.n.Conf.length,VI x_1.n.Log.Start,VI x_1.n.Log.StartTerm,.sl 2 51 0 x_1.n.Log.Entries.length,VI x_1.n.Commit,VI x_1.n.Clock,VI x_1.n.Limit,.sl 3 3 0 x_1.n.Votes.length,.sl 4 135 0 x_1.n.Peers.length,.sl 5 58 0 x_1.told.length]),(1,.vec 3 (x_1.n.Conf.map encI)),(2,.vec 51 (x_1.n.Log.Entries.map encEntry)),(3,.vec 3 (x_1.n.Votes.map encI)),(4,.vec 135 (x_1.n.Peers.map encPeer)),(5,.vec 58 (x_1.told.map (encMessage false))),(6,.box [VI x_398.Id,VI v_453.1,VI x_398.Match,VI v_453.2])]) (fun h => ?_) (fun v_453 h => ?_))
      ·refine Run.seq (Run.ops hm (.p3 rfl rfl rfl (Ops.nil (Run.condO rfl h (fun g_454 h => ?_) (fun g_454 h => ?_)))))
       ·refine Run.seq (Run.ops hm (Ops.p rfl (Ops.s0 (s := 103416) (.sto rfl rfl rfl rfl rfl rfl) rfl rfl (Ops.nil (Run.seq (Run.draw hm hmix (OpsD.p rfl (OpsD.p rfl (OpsD.p rfl (OpsD.p rfl (OpsD.p rfl (OpsD.p rfl (OpsD.p rfl (OpsD.p rfl (OpsD.p rfl (OpsD.p rfl (OpsD.askO (x := .t 125) rfl h (fun g_456 h => ?_) (fun g_456 h => ?_))))))))))))))))))
        ·refine OpsD.gp rfl g_456 rfl (OpsD.gp rfl g_456 rfl (OpsD.gp rfl g_456 rfl (OpsD.st (s := 107704) (.pkT rfl g_456 rfl) rfl rfl (OpsD.nil ⟨by kernel_rfl,?_⟩))))
         refine Run.condO rfl h (fun g_457 h => ?_) (fun g_457 h => ?_)
         ·exact Run.ops hm (.p3 rfl rfl rfl (Ops.s0 (s := 111640) (.sto rfl rfl rfl rfl rfl rfl) rfl rfl (Ops.nil (⟨_,_,(gh_pk [0,4,7] [0,1,2,3,4,5,42088] hB rfl rfl rfl rfl),_,h,rfl,rfl⟩))))
         ·exact Run.skip (⟨_,_,(gh_pk [0,4,7] [0,1,2,3,4,5,42088] hB rfl rfl rfl rfl),_,h,rfl,rfl⟩)
        ·refine OpsD.gn rfl g_456 (OpsD.gn rfl g_456 (OpsD.gn rfl g_456 (OpsD.st (s := 107704) (.pkF rfl g_456 rfl) rfl rfl (OpsD.nil ⟨by kernel_rfl,?_⟩))))
         exact Run.condF rfl rfl (Run.skip (⟨_,_,(gh_pk [0,4,7] [0,1,2,3,4,5,42088] hB rfl rfl rfl rfl),_,h,rfl,rfl⟩))
       ·refine Run.seq (Run.ops hm (.p3 rfl rfl rfl (Ops.p rfl (Ops.nil (Run.seqO h (fun v_459 => [(0,.ptr 0 0),(4,VI v_339),(7,.ptr 6 0),(9,VI v_459)]) (fun (v_459 : Int) => [(0,.box [VI x_1.n.Id,VI x_1.n.Term,VI x_1.n.Vote,VI x_1.n.Role,VI x_1.n.Lead,.sl 1 3 0 x_1.n.Conf.length,VI x_1.n.Log.Start,VI x_1.n.Log.StartTerm,.sl 2 51 0 x_1.n.Log.Entries.length,VI x_1.n.Commit,VI x_1.n.Clock,VI x_1.n.Limit,.sl 3 3 0 x_1.n.Votes.length,.sl 4 135 0 x_1.n.Peers.length,.sl 5 58 0 x_1.told.length]),(1,.vec 3 (x_1.n.Conf.map encI)),(2,.vec 51 (x_1.n.Log.Entries.map encEntry)),(3,.vec 3 (x_1.n.Votes.map encI)),(4,.vec 135 (x_1.n.Peers.map encPeer)),(5,.vec 58 (x_1.told.map (encMessage false))),(6,.box [VI x_398.Id,VI x_398.Next,VI x_398.Match,VI x_398.Sent])]) (fun h => ?_) (fun v_459 h => ?_))))))
        ·refine Run.seq (Run.ops hm (.p3 rfl rfl rfl (.p2 rfl rfl (Ops.nil (Run.condO rfl h (fun g_460 h => ?_) (fun g_460 h => ?_))))))
         ·exact Run.ops hm (.p3 rfl rfl rfl (Ops.p rfl (Ops.nil (⟨_,_,(gh_pk [0,4,7,9] [0,1,2,3,4,5,42088] hB rfl rfl rfl rfl),_,h,rfl,rfl⟩))))
         ·exact Run.skip (⟨_,_,(gh_pk [0,4,7,9] [0,1,2,3,4,5,42088] hB rfl rfl rfl rfl),_,h,rfl,rfl⟩)
        ·refine Run.seq (Run.ops hm (.p3 rfl rfl rfl (Ops.p rfl (Ops.nil (Run.condO rfl h (fun g_461 h => ?_) (fun g_461 h => ?_))))))
         ·exact Run.ops hm (.p2 rfl rfl (Ops.s0 (s := 132104) (.sto rfl rfl rfl rfl rfl rfl) rfl rfl (Ops.nil (⟨_,_,(gh_pk [0,4,7] [0,1,2,3,4,5,6] hB rfl rfl rfl rfl),_,h,rfl,rfl⟩))))
         ·exact Run.skip (⟨_,_,(gh_pk [0,4,7] [0,1,2,3,4,5,6] hB rfl rfl rfl rfl),_,h,rfl,rfl⟩)
      ·refine Run.seq (Run.draw hm hmix (OpsD.p rfl (OpsD.p rfl (OpsD.p rfl (OpsD.p rfl (OpsD.p rfl (OpsD.p rfl (OpsD.p rfl ?_))))))))
       obtain ⟨x_465,hx_465,h⟩ := bindO h
       refine OpsD.st (s := 136280) (Ev.iaW rfl rfl rfl hx_465) rfl rfl (OpsD.s0 (s := 136296) (Ev.stE (f := encPeer) (v' := (Peer.mk x_398.Id v_453.1 x_398.Match v_453.2)) rfl rfl (at_some hx_465).2 rfl (.d4 .nil) rfl rfl rfl rfl rfl) rfl rfl (OpsD.nil ⟨by kernel_rfl,?_⟩))
       refine Run.ops hm (.p2 rfl rfl ?_)
       obtain ⟨y_467,hy_467,h⟩ := bindO h
       have qy_467 := sem_spec_l16Send N (Tl16Run.mk (Node.mk x_1.n.Id x_1.n.Term x_1.n.Vote x_1.n.Role x_1.n.Lead x_1.n.Conf x_1.n.Log x_1.n.Commit x_1.n.Clock x_1.n.Limit x_1.n.Votes (x_1.n.Peers.set v_339.toNat (Peer.mk x_398.Id v_453.1 x_398.Match v_453.2))) x_1.told) (Peer.mk x_398.Id v_453.1 x_398.Match v_453.2) _ hy_467
       simp only [List.length_set] at qy_467
       refine Ops.st (s := 140296) (Ev.call [0,1,2,3,4,5] [] 1 qy_467 rfl rfl (.cons (.ptr rfl) (.cons (.agg (.d4 .nil)) .nil)) rfl (.inl rfl) rfl rfl) rfl rfl (Ops.nil ?_)
       obtain rfl := someO h
       exact Ends.mkG (.inr rfl) rfl (Gh.trans (Gh.trans (gh_prn [] [0,1,2,3,4,5,140296] hB rfl) (gh_mvE [] [1,2,3,4] hB rfl rfl)) (gh_pk [] [0,1,2,3,4,5,30000001,30000002,30000003,30000004,140296] hB rfl rfl rfl rfl)) (by first | rfl | (simp only [List.length_set]; done) | (simp only [List.length_set]; rfl)) (by first | rfl | (simp only [List.length_set]; done) | (simp only [List.length_set]; rfl))
end Go.Proofs.Ytehknbpmpbghhaa.Pe.FnSettles
