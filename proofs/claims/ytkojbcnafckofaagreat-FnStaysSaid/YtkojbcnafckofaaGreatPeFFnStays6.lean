/- Functions,as pure functions; and that Go does just that. -/
import Derived.Test.YtkojbcnafckofaaGreatPeFFnStays5
namespace Go.Proofs.YtkojbcnafckofaaGreat.Pe.FnStays
open Go Go.RowKit
set_option linter.unusedVariables false
set_option linter.unusedSimpArgs false
set_option maxHeartbeats 40000000
set_option maxRecDepth 100000
def spec_l16AskAppend_l1 (N : Nat) (x1 : Tl16Run) (y368 : Tl16Run) (v377 : Int × Int × (List Entry)) : Nat → Int → Option (Int)
 | 0,_ => none
 | m + 1,x471 =>
 (if (decide (x471 < (v377.2.2.length : Int))) = true then
 (spec_LogTerm N (Log.mk y368.n.Log.Start y368.n.Log.StartTerm x1.n.Log.Entries) (w64 ((w64 (v377.1 + 1)) + x471))).bind fun y528 =>
 (at? v377.2.2 x471).bind fun x529 =>
 (if (y528 == x529.Term) = true then
 spec_l16AskAppend_l1 N x1 y368 v377 m (w64 (x471 + 1))
 else
 some x471)
 else
 some x471)
def spec_l16AskAppend_l1_r (N : Nat) (x1 : Tl16Run) (y368 : Tl16Run) (v377 : Int × Int × (List Entry)) : (List Entry) → Int → Option (Int)
 | [],x471 =>
 some x471
 | hd :: tl,x471 =>
 (spec_LogTerm N (Log.mk y368.n.Log.Start y368.n.Log.StartTerm x1.n.Log.Entries) (w64 ((w64 (v377.1 + 1)) + x471))).bind fun y528 =>
 (some hd).bind fun x529 =>
 (if (y528 == x529.Term) = true then
 spec_l16AskAppend_l1_r N x1 y368 v377 tl (w64 (x471 + 1))
 else
 some x471)
theorem spec_l16AskAppend_l1_rng (N : Nat) (x1 : Tl16Run) (y368 : Tl16Run) (v377 : Int × Int × (List Entry)) (hx : v377.2.2.length ≤ 1099511627776) : ∀ (d k m : Nat),v377.2.2.length = k + d → d < m → spec_l16AskAppend_l1 N x1 y368 v377 m (k : Int) = spec_l16AskAppend_l1_r N x1 y368 v377 (v377.2.2.drop k) (k : Int) := by
 intro d
 induction d with
 | zero =>
  intro k m hd hm
  obtain ⟨m,rfl⟩ : ∃ q,m = q + 1 := ⟨m - 1,by omega⟩
  rw [spec_l16AskAppend_l1,if_neg (by simp; omega),List.drop_eq_nil_of_le (by omega),spec_l16AskAppend_l1_r]
 | succ d ih =>
  intro k m hd hm
  obtain ⟨m,rfl⟩ : ∃ q,m = q + 1 := ⟨m - 1,by omega⟩
  have hk : k < v377.2.2.length := by omega
  rw [spec_l16AskAppend_l1,if_pos (by simp; omega),List.drop_eq_getElem_cons hk,spec_l16AskAppend_l1_r]
  have h1 := at_lt hk
  have h2 := w64_succ (k := k) (by omega)
  have h3 := ih (k + 1) m
  simp only [h1,h2,h3 (by omega) (by omega)]
theorem spec_l16AskAppend_l1_eq {N : Nat} (x1 : Tl16Run) (y368 : Tl16Run) (v377 : Int × Int × (List Entry)) (hx : v377.2.2.length ≤ 1099511627776) (hN : v377.2.2.length < N) : spec_l16AskAppend_l1 N x1 y368 v377 N 0 = spec_l16AskAppend_l1_r N x1 y368 v377 v377.2.2 0 := spec_l16AskAppend_l1_rng N x1 y368 v377 hx v377.2.2.length 0 N (by omega) hN
def spec_l16AskAppend (N : Nat) (x1 : Tl16Run) (x2 : Message) : Option (Tl16Run) :=
 (spec_l12Last N x1.n.Log).bind fun y358 =>
 (if (decide (x2.Term < x1.n.Term)) = true then
 (spec_l16Refuse N x1 x2 0).bind fun y364 =>
 some (Tl16Run.mk (Node.mk y364.n.Id y364.n.Term y364.n.Vote y364.n.Role y364.n.Lead x1.n.Conf (Log.mk y364.n.Log.Start y364.n.Log.StartTerm x1.n.Log.Entries) y364.n.Commit y364.n.Clock y364.n.Limit x1.n.Votes x1.n.Peers) y364.told)
 else
 (spec_l16Follow N x1 x2.From).bind fun y368 =>
 joinP (fun (v377 : Int × Int × (List Entry)) =>
 (spec_LogTerm N (Log.mk y368.n.Log.Start y368.n.Log.StartTerm x1.n.Log.Entries) v377.1).bind fun y398 =>
 (if (y398 != v377.2.1) = true then
 joinP (fun (v401 : Int) =>
 joinP (fun (v404 : Int) =>
 (spec_l16Refuse N (Tl16Run.mk (Node.mk y368.n.Id y368.n.Term y368.n.Vote y368.n.Role y368.n.Lead x1.n.Conf (Log.mk y368.n.Log.Start y368.n.Log.StartTerm x1.n.Log.Entries) y368.n.Commit 0 y368.n.Limit y368.n.Votes y368.n.Peers) x1.told) (Message.mk x2.Kind x2.From x2.To x2.Term v377.1 v377.2.1 x2.Commit x2.Ok v377.2.2 x2.Conf x2.Data x2.Last) v404).bind fun y407 =>
 some (Tl16Run.mk (Node.mk y407.n.Id y407.n.Term y407.n.Vote y407.n.Role y407.n.Lead x1.n.Conf (Log.mk y407.n.Log.Start y407.n.Log.StartTerm x1.n.Log.Entries) y407.n.Commit y407.n.Clock y407.n.Limit y368.n.Votes y368.n.Peers) y407.told)) fun j404 =>
 (if (decide (v401 > y358)) = true then
 j404 y358
 else
 j404 v401)) fun j401 =>
 (if (decide ((w64 (v377.1 - 1)) < 0)) = true then
 j401 0
 else
 j401 (w64 (v377.1 - 1)))
 else
 joinP (fun (v469 : Int) =>
 joinP (fun (v566 : (List Entry)) =>
 joinP (fun (v603 : Int) =>
 joinP (fun (v606 : Int) =>
 (spec_l16Tell N (Tl16Run.mk (Node.mk y368.n.Id y368.n.Term y368.n.Vote y368.n.Role y368.n.Lead x1.n.Conf (Log.mk y368.n.Log.Start y368.n.Log.StartTerm v566) v606 0 y368.n.Limit y368.n.Votes y368.n.Peers) x1.told) (Message.mk 4 0 x2.From 0 (w64 (v377.1 + (v377.2.2.length : Int))) 0 0 true ([]) ([]) (⟨#[]⟩ : ByteArray) false)).bind fun y609 =>
 some (Tl16Run.mk (Node.mk y609.n.Id y609.n.Term y609.n.Vote y609.n.Role y609.n.Lead x1.n.Conf (Log.mk y609.n.Log.Start y609.n.Log.StartTerm v566) y609.n.Commit y609.n.Clock y609.n.Limit y368.n.Votes y368.n.Peers) y609.told)) fun j606 =>
 (if (decide (v603 > y368.n.Commit)) = true then
 j606 v603
 else
 j606 y368.n.Commit)) fun j603 =>
 (if (decide (x2.Commit > (w64 (v377.1 + (v377.2.2.length : Int))))) = true then
 j603 (w64 (v377.1 + (v377.2.2.length : Int)))
 else
 j603 x2.Commit)) fun j566 =>
 (if (decide (v469 < (v377.2.2.length : Int))) = true then
 (take? x1.n.Log.Entries (w64 ((w64 (v377.1 + v469)) - y368.n.Log.Start))).bind fun x580 =>
 (cat? ([] : List Entry) (x1.n.Log.Entries.take ((w64 ((w64 (v377.1 + v469)) - y368.n.Log.Start)).toNat))).bind fun x581 =>
 (drop? v377.2.2 v469).bind fun x582 =>
 (cat? x581 x582).bind fun x583 =>
 (if (decide ((w64 (v377.1 + v469)) < y368.n.Commit)) = true then
 (spec_l16Refuse N (Tl16Run.mk (Node.mk y368.n.Id y368.n.Term y368.n.Vote y368.n.Role y368.n.Lead x1.n.Conf (Log.mk y368.n.Log.Start y368.n.Log.StartTerm x1.n.Log.Entries) y368.n.Commit 0 y368.n.Limit y368.n.Votes y368.n.Peers) x1.told) (Message.mk x2.Kind x2.From x2.To x2.Term v377.1 v377.2.1 x2.Commit x2.Ok v377.2.2 x2.Conf x2.Data x2.Last) y358).bind fun y597 =>
 some (Tl16Run.mk (Node.mk y597.n.Id y597.n.Term y597.n.Vote y597.n.Role y597.n.Lead x1.n.Conf (Log.mk y597.n.Log.Start y597.n.Log.StartTerm x1.n.Log.Entries) y597.n.Commit y597.n.Clock y597.n.Limit y368.n.Votes y368.n.Peers) y597.told)
 else
 (spec_LogOk N (Log.mk y368.n.Log.Start y368.n.Log.StartTerm x583)).bind fun y598 =>
 (if (!y598) = true then
 (spec_l16Refuse N (Tl16Run.mk (Node.mk y368.n.Id y368.n.Term y368.n.Vote y368.n.Role y368.n.Lead x1.n.Conf (Log.mk y368.n.Log.Start y368.n.Log.StartTerm x1.n.Log.Entries) y368.n.Commit 0 y368.n.Limit y368.n.Votes y368.n.Peers) x1.told) (Message.mk x2.Kind x2.From x2.To x2.Term v377.1 v377.2.1 x2.Commit x2.Ok v377.2.2 x2.Conf x2.Data x2.Last) y358).bind fun y601 =>
 some (Tl16Run.mk (Node.mk y601.n.Id y601.n.Term y601.n.Vote y601.n.Role y601.n.Lead x1.n.Conf (Log.mk y601.n.Log.Start y601.n.Log.StartTerm x1.n.Log.Entries) y601.n.Commit y601.n.Clock y601.n.Limit y368.n.Votes y368.n.Peers) y601.told)
 else
 j566 x583))
 else
 j566 x1.n.Log.Entries)) fun j469 =>
 (spec_l16AskAppend_l1 N x1 y368 v377 N 0).bind (fun v515 => j469 v515))) fun j377 =>
 (if (decide (x2.Index < y368.n.Log.Start)) = true then
 joinP (fun (v380 : Int) =>
 (drop? x2.Entries v380).bind fun x385 =>
 j377 (y368.n.Log.Start,y368.n.Log.StartTerm,x385)) fun j380 =>
 (if (decide ((w64 (y368.n.Log.Start - x2.Index)) > (x2.Entries.length : Int))) = true then
 j380 (x2.Entries.length : Int)
 else
 j380 (w64 (y368.n.Log.Start - x2.Index)))
 else
 j377 (x2.Index,x2.LogTerm,x2.Entries)))
theorem sem_spec_l16AskAppend (N : Nat) (x1 : Tl16Run) (x2 : Message) (r : Tl16Run) (h : spec_l16AskAppend N x1 x2 = some r) : Says Tryz.prog 35 [.ptr 0 0,.agg [VI x2.Kind,VI x2.From,VI x2.To,VI x2.Term,VI x2.Index,VI x2.LogTerm,VI x2.Commit,VB x2.Ok,RO 40 (x2.Entries.map encEntry),RO 3 (x2.Conf.map encI),VS x2.Data,VB x2.Last]] 6 [(0,.box [VI x1.n.Id,VI x1.n.Term,VI x1.n.Vote,VI x1.n.Role,VI x1.n.Lead,.sl 1 3 0 x1.n.Conf.length,VI x1.n.Log.Start,VI x1.n.Log.StartTerm,.sl 2 40 0 x1.n.Log.Entries.length,VI x1.n.Commit,VI x1.n.Clock,VI x1.n.Limit,.sl 3 3 0 x1.n.Votes.length,.sl 4 98 0 x1.n.Peers.length,.sl 5 32 0 x1.told.length]),(1,.vec 3 (x1.n.Conf.map encI)),(2,.vec 40 (x1.n.Log.Entries.map encEntry)),(3,.vec 3 (x1.n.Votes.map encI)),(4,.vec 98 (x1.n.Peers.map encPeer)),(5,.vec 32 (x1.told.map (encMessage false)))] (.tup []) [(0,.box [VI r.n.Id,VI r.n.Term,VI r.n.Vote,VI r.n.Role,VI r.n.Lead,.sl 6 3 0 r.n.Conf.length,VI r.n.Log.Start,VI r.n.Log.StartTerm,.sl 7 40 0 r.n.Log.Entries.length,VI r.n.Commit,VI r.n.Clock,VI r.n.Limit,.sl 8 3 0 r.n.Votes.length,.sl 9 98 0 r.n.Peers.length,.sl 10 32 0 r.told.length]),(1,.gone),(2,.gone),(3,.gone),(4,.gone),(5,.gone),(6,.vec 3 (r.n.Conf.map encI)),(7,.vec 40 (r.n.Log.Entries.map encEntry)),(8,.vec 3 (r.n.Votes.map encI)),(9,.vec 98 (r.n.Peers.map encPeer)),(10,.vec 32 (r.told.map (encMessage false)))] := by
 unfold spec_l16AskAppend at h
 refine Says.of_norm e Tryz.call35 e fun B hB => ?_
 have hm : B.m ≤ 1000 := by omega
 refine Run.so hm (.z 1000 (.bx e e) e e (.nil (.so hm (.p3 e e e (.p2 e e ?_)))))
 obtain ⟨y358,hy358,h⟩ := bindO h
 refine Ops.z 5176 (Ev.call [] [2] 0 (sem_spec_l12Last _ _ _ hy358) e e (.cons (.agg (.d2 (.cons (.borrow e (by decide) (lendW (fun _ => e) _ e)) .nil))) .nil) e (.inr ⟨e,ownL_root trivial⟩) e e) e e ?_
 refine Ops.p e (.nil (.seq (.seq (.draw hm hmix (.p e (.p e (.p e (.p e (.p e (.p e (.p e (.p e (.nil ⟨by kernel_rfl,?_⟩)))))))))))))
 refine Run.condO e h (fun g362 h => ?_) (fun g362 h => ?_)
 ·refine Run.so hm (.p2 e e ?_)
  obtain ⟨y364,hy364,h⟩ := bindO h
  refine Ops.z 13320 (Ev.call [0,1,2,3,4,5] [] 1 (sem_spec_l16Refuse _ _ _ _ _ hy364) e e (.cons (.ptr e) (.cons (.agg (.d4 (.d4 (.d4 .nil)))) (.d1 .nil))) e (.inl e) e e) e e (.nil (.ret ?_))
  obtain rfl := someO h
  exact Ends.mkG (.inl e) e (Gh.trans (Gh.trans (gh_prn [] [0,1,2,3,4,5,13320] hB e) (gh_mvE [] [1,2,3,4] hB e e)) (gh_pk [] [0,1,2,3,4,5,30000001,30000002,30000003,30000004,13320] hB e e e e)) e e
 ·refine Run.skip (.so hm (.p3 e e e ?_))
  obtain ⟨y368,hy368,h⟩ := bindO h
  refine Ops.z 17432 (Ev.call [0,1,2,3,4,5] [] 2 (sem_spec_l16Follow _ _ _ _ hy368) e e (.cons (.ptr e) (.d1 .nil)) e (.inl e) e e) e e (.nil (.so hm (.p3 e e e (.p e (.y 21544 (.sto e e e e e e) e e (.nil (.so hm (.p3 e e e (.p2 e e (.z 25656 (.al e e) e e (.y 25672 (.sto e e e e e e) e e (.nil (.seqO h (fun v377 => [(0,.ptr 0 0),(3,.ptr 6 0),(4,VI y358),(5,.ptr 7 0)]) (fun (v377 : Int × Int × (List Entry)) => [(0,.box [VI y368.n.Id,VI y368.n.Term,VI y368.n.Vote,VI y368.n.Role,VI y368.n.Lead,.sl 1 3 0 x1.n.Conf.length,VI y368.n.Log.Start,VI y368.n.Log.StartTerm,.sl 2 40 0 x1.n.Log.Entries.length,VI y368.n.Commit,VI 0,VI y368.n.Limit,.sl 8 3 0 y368.n.Votes.length,.sl 9 98 0 y368.n.Peers.length,.sl 5 32 0 x1.told.length]),(1,.vec 3 (x1.n.Conf.map encI)),(2,.vec 40 (x1.n.Log.Entries.map encEntry)),(3,.gone),(4,.gone),(5,.vec 32 (x1.told.map (encMessage false))),(6,.box [VI x2.Kind,VI x2.From,VI x2.To,VI x2.Term,VI v377.1,VI v377.2.1,VI x2.Commit,VB x2.Ok,RO 40 (v377.2.2.map encEntry),RO 3 (x2.Conf.map encI),VS x2.Data,VB x2.Last]),(7,.box [VI y368.n.Log.Start,VI y368.n.Log.StartTerm,.sl 2 40 0 x1.n.Log.Entries.length]),(8,.vec 3 (y368.n.Votes.map encI)),(9,.vec 98 (y368.n.Peers.map encPeer))]) (fun h => ?_) (fun v377 h => ?_))))))))))))))
  ·refine Run.so hm (.p3 e e e (.p2 e e (.nil (.condO e h (fun g378 h => ?_) (fun g378 h => ?_)))))
   ·refine Run.so hm (.p3 e e e (.p3 e e e (.nil (.seqO h (fun v380 => [(0,.ptr 0 0),(3,.ptr 6 0),(4,VI y358),(5,.ptr 7 0),(6,VI v380)]) (fun (v380 : Int) => [(0,.box [VI y368.n.Id,VI y368.n.Term,VI y368.n.Vote,VI y368.n.Role,VI y368.n.Lead,.sl 1 3 0 x1.n.Conf.length,VI y368.n.Log.Start,VI y368.n.Log.StartTerm,.sl 2 40 0 x1.n.Log.Entries.length,VI y368.n.Commit,VI 0,VI y368.n.Limit,.sl 8 3 0 y368.n.Votes.length,.sl 9 98 0 y368.n.Peers.length,.sl 5 32 0 x1.told.length]),(1,.vec 3 (x1.n.Conf.map encI)),(2,.vec 40 (x1.n.Log.Entries.map encEntry)),(3,.gone),(4,.gone),(5,.vec 32 (x1.told.map (encMessage false))),(6,.box [VI x2.Kind,VI x2.From,VI x2.To,VI x2.Term,VI x2.Index,VI x2.LogTerm,VI x2.Commit,VB x2.Ok,RO 40 (x2.Entries.map encEntry),RO 3 (x2.Conf.map encI),VS x2.Data,VB x2.Last]),(7,.box [VI y368.n.Log.Start,VI y368.n.Log.StartTerm,.sl 2 40 0 x1.n.Log.Entries.length]),(8,.vec 3 (y368.n.Votes.map encI)),(9,.vec 98 (y368.n.Peers.map encPeer))]) (fun h => ?_) (fun v380 h => ?_)))))
    ·refine Run.so hm (.p3 e e e (.z 37912 (Ev.lnF e) e e (.p e (.nil (.condO e h (fun g381 h => ?_) (fun g381 h => ?_))))))
     ·exact Run.ops hm (.p2 e e (.z 41992 (Ev.lnF e) e e (.p e (.nil (⟨_,_,(gh_pk [0,3,4,5,6] [0,1,2,3,4,5,1000,25656,17432,17433] hB e e e e),_,h,e,e⟩)))))
     ·exact Run.skip (⟨_,_,(gh_pk [0,3,4,5,6] [0,1,2,3,4,5,1000,25656,17432,17433] hB e e e e),_,h,e,e⟩)
    ·refine Run.so hm (.p3 e e e ?_)
     obtain ⟨x385,hx385,h⟩ := bindO h
     exact Ops.z 46104 (Ev.slFl e e hx385) e e (.p e (.y 46136 (.sto e e e e e e) e e (.nil (.so hm (.p3 e e e (.y 50200 (.sto e e e e e e) e e (.nil (.ops hm (.p3 e e e (.y 54296 (.sto e e e e e e) e e (.nil (⟨_,_,(gh_pk [0,3,4,5] [0,1,2,3,4,5,6,7,8,9] hB e e e e),_,h,e,e⟩))))))))))))
   ·exact Run.skip (⟨_,_,(gh_pk [0,3,4,5] [0,1,2,3,4,5,1000,25656,17432,17433] hB e e e e),_,h,e,e⟩)
  ·refine Run.seq (.seq (.draw hm hmix (.p e (.p e (.p e ?_)))))
   obtain ⟨y398,hy398,h⟩ := bindO h
   refine OpsD.z 58392 (Ev.call [] [2] 0 (sem_spec_LogTerm _ _ _ _ hy398) e e (.cons (.agg (.d2 (.cons (.borrow e (by decide) (lendW (fun _ => e) _ e)) .nil))) (.d1 .nil)) e (.inr ⟨e,ownL_root trivial⟩) e e) e e ?_
   refine OpsD.p e (.p e (.p e (.nil ⟨by kernel_rfl,?_⟩)))
   refine Run.condO e h (fun g399 h => ?_) (fun g399 h => ?_)
   ·refine Run.so hm (.p3 e e e (.p e (.nil (.seqO h (fun v401 => [(0,.ptr 0 0),(3,.ptr 6 0),(4,VI y358),(7,VI v401)]) (fun (v401 : Int) => [(0,.box [VI y368.n.Id,VI y368.n.Term,VI y368.n.Vote,VI y368.n.Role,VI y368.n.Lead,.sl 1 3 0 x1.n.Conf.length,VI y368.n.Log.Start,VI y368.n.Log.StartTerm,.sl 2 40 0 x1.n.Log.Entries.length,VI y368.n.Commit,VI 0,VI y368.n.Limit,.sl 7 3 0 y368.n.Votes.length,.sl 8 98 0 y368.n.Peers.length,.sl 5 32 0 x1.told.length]),(1,.vec 3 (x1.n.Conf.map encI)),(2,.vec 40 (x1.n.Log.Entries.map encEntry)),(3,.gone),(4,.gone),(5,.vec 32 (x1.told.map (encMessage false))),(6,.box [VI x2.Kind,VI x2.From,VI x2.To,VI x2.Term,VI v377.1,VI v377.2.1,VI x2.Commit,VB x2.Ok,RO 40 (v377.2.2.map encEntry),RO 3 (x2.Conf.map encI),VS x2.Data,VB x2.Last]),(7,.vec 3 (y368.n.Votes.map encI)),(8,.vec 98 (y368.n.Peers.map encPeer))]) (fun h => ?_) (fun v401 h => ?_)))))
    ·refine Run.so hm (.p2 e e (.nil (.condO e h (fun g402 h => ?_) (fun g402 h => ?_))))
     ·exact Run.ops hm (.p e (.nil (⟨_,_,(gh_pk [0,3,4,7] [0,1,2,3,4,5,6,8,9] hB e e e e),_,h,e,e⟩)))
     ·exact Run.skip (⟨_,_,(gh_pk [0,3,4,7] [0,1,2,3,4,5,6,8,9] hB e e e e),_,h,e,e⟩)
    ·refine Run.seqO h (fun v404 => [(0,.ptr 0 0),(3,.ptr 6 0),(7,VI v404)]) (fun (v404 : Int) => [(0,.box [VI y368.n.Id,VI y368.n.Term,VI y368.n.Vote,VI y368.n.Role,VI y368.n.Lead,.sl 1 3 0 x1.n.Conf.length,VI y368.n.Log.Start,VI y368.n.Log.StartTerm,.sl 2 40 0 x1.n.Log.Entries.length,VI y368.n.Commit,VI 0,VI y368.n.Limit,.sl 7 3 0 y368.n.Votes.length,.sl 8 98 0 y368.n.Peers.length,.sl 5 32 0 x1.told.length]),(1,.vec 3 (x1.n.Conf.map encI)),(2,.vec 40 (x1.n.Log.Entries.map encEntry)),(3,.gone),(4,.gone),(5,.vec 32 (x1.told.map (encMessage false))),(6,.box [VI x2.Kind,VI x2.From,VI x2.To,VI x2.Term,VI v377.1,VI v377.2.1,VI x2.Commit,VB x2.Ok,RO 40 (v377.2.2.map encEntry),RO 3 (x2.Conf.map encI),VS x2.Data,VB x2.Last]),(7,.vec 3 (y368.n.Votes.map encI)),(8,.vec 98 (y368.n.Peers.map encPeer))]) (fun h => ?_) (fun v404 h => ?_)
     ·refine Run.so hm (.p3 e e e (.nil (.condO e h (fun g405 h => ?_) (fun g405 h => ?_))))
      ·exact Run.ops hm (.p2 e e (.nil (⟨_,_,(gh_pk [0,3,7] [0,1,2,3,4,5,6,7,8] hB e e e e),_,h,e,e⟩)))
      ·exact Run.skip (⟨_,_,(gh_pk [0,3,7] [0,1,2,3,4,5,6,7,8] hB e e e e),_,h,e,e⟩)
     ·refine Run.so hm (.p3 e e e ?_)
      obtain ⟨y407,hy407,h⟩ := bindO h
      refine Ops.z 82968 (Ev.call [0,1,2,7,8,5] [] 1 (sem_spec_l16Refuse _ _ _ _ _ hy407) e e (.cons (.ptr e) (.cons (.agg (.d4 (.d4 (.d4 .nil)))) (.d1 .nil))) e (.inl e) e e) e e (.nil (.ret ?_))
      obtain rfl := someO h
      exact Ends.mkG (.inl e) e (Gh.trans (Gh.trans (gh_prn [] [0,1,2,3,4,5,7,8,82968] hB e) (gh_mvE [] [1,2] hB e e)) (gh_pk [] [0,1,2,3,4,5,30000001,30000002,7,8,82968] hB e e e e)) e e
   ·refine Run.skip (.so hm (.p e (.nil (.seqO h (fun v469 => [(0,.ptr 0 0),(3,.ptr 6 0),(4,VI y358),(5,.ptr 7 0),(8,VI v469)]) (fun (v469 : Int) => [(0,.box [VI y368.n.Id,VI y368.n.Term,VI y368.n.Vote,VI y368.n.Role,VI y368.n.Lead,.sl 1 3 0 x1.n.Conf.length,VI y368.n.Log.Start,VI y368.n.Log.StartTerm,.sl 2 40 0 x1.n.Log.Entries.length,VI y368.n.Commit,VI 0,VI y368.n.Limit,.sl 8 3 0 y368.n.Votes.length,.sl 9 98 0 y368.n.Peers.length,.sl 5 32 0 x1.told.length]),(1,.vec 3 (x1.n.Conf.map encI)),(2,.vec 40 (x1.n.Log.Entries.map encEntry)),(3,.gone),(4,.gone),(5,.vec 32 (x1.told.map (encMessage false))),(6,.box [VI x2.Kind,VI x2.From,VI x2.To,VI x2.Term,VI v377.1,VI v377.2.1,VI x2.Commit,VB x2.Ok,RO 40 (v377.2.2.map encEntry),RO 3 (x2.Conf.map encI),VS x2.Data,VB x2.Last]),(7,.box [VI y368.n.Log.Start,VI y368.n.Log.StartTerm,.sl 2 40 0 x1.n.Log.Entries.length]),(8,.vec 3 (y368.n.Votes.map encI)),(9,.vec 98 (y368.n.Peers.map encPeer))]) (fun h => ?_) (fun v469 h => ?_)))))
    ·refine Run.block ?_
     obtain ⟨res515,h,hk515⟩ := bindO h
     refine Run.loop (n := N) (fun m515 fr σ => ∃ (x471 : Int),spec_l16AskAppend_l1 N x1 y368 v377 m515 x471 = some res515 ∧ fr = [(0,.ptr 0 0),(3,.ptr 6 0),(4,VI y358),(5,.ptr 7 0),(8,VI x471)] ∧ σ = [(0,.box [VI y368.n.Id,VI y368.n.Term,VI y368.n.Vote,VI y368.n.Role,VI y368.n.Lead,.sl 1 3 0 x1.n.Conf.length,VI y368.n.Log.Start,VI y368.n.Log.StartTerm,.sl 2 40 0 x1.n.Log.Entries.length,VI y368.n.Commit,VI 0,VI y368.n.Limit,.sl 8 3 0 y368.n.Votes.length,.sl 9 98 0 y368.n.Peers.length,.sl 5 32 0 x1.told.length]),(1,.vec 3 (x1.n.Conf.map encI)),(2,.vec 40 (x1.n.Log.Entries.map encEntry)),(3,.gone),(4,.gone),(5,.vec 32 (x1.told.map (encMessage false))),(6,.box [VI x2.Kind,VI x2.From,VI x2.To,VI x2.Term,VI v377.1,VI v377.2.1,VI x2.Commit,VB x2.Ok,RO 40 (v377.2.2.map encEntry),RO 3 (x2.Conf.map encI),VS x2.Data,VB x2.Last]),(7,.box [VI y368.n.Log.Start,VI y368.n.Log.StartTerm,.sl 2 40 0 x1.n.Log.Entries.length]),(8,.vec 3 (y368.n.Votes.map encI)),(9,.vec 98 (y368.n.Peers.map encPeer))]) (gh_pk [0,3,4,5,8] [0,1,2,3,4,5,6,7,8,9] hB e e e e) ⟨_,h,e,e⟩ ?_
     rintro m515 fr σ ⟨x471,h,rfl,rfl⟩
     obtain _ | m515 := m515
     ·rw [spec_l16AskAppend_l1] at h; cases h
     rw [spec_l16AskAppend_l1] at h
     refine Run.seq (.seq (.draw hm hmix (.p e (.p e (.p e (.z 91160 (Ev.lnF e) e e (.p e (.p e (.askO (x := .t 97) e h (fun g527 h => ?_) (fun g527 h => ?_))))))))))
     ·refine OpsD.gp e g527 e (.gp e g527 e (.gp e g527 e (.gp e g527 e (.gp e g527 e (.gp e g527 e ?_)))))
      obtain ⟨y528,hy528,h⟩ := bindO h
      refine OpsD.gs (s := 91304) e g527 (Ev.call [] [2] 0 (sem_spec_LogTerm _ _ _ _ hy528) e e (.cons (.agg (.d2 (.cons (.borrow e (by decide) (lendW (fun _ => e) _ e)) .nil))) (.d1 .nil)) e (.inr ⟨e,ownL_root trivial⟩) e e) e e ?_
      refine OpsD.gp e g527 e (.gp e g527 e (.gp e g527 e ?_))
      obtain ⟨x529,hx529,h⟩ := bindO h
      refine OpsD.gs (s := 91368) e g527 (Ev.iaF e e hx529) e e (.gp e g527 e (.gp e g527 e (.gp e g527 e (.z 91432 (.pkT e g527 e) e e (.nil ⟨by kernel_rfl,?_⟩)))))
      refine Run.condO e h (fun g530 h => ?_) (fun g530 h => ?_)
      ·exact Run.skip (.block (.ops hm (.p3 e e e (.nil (⟨m515,Nat.lt_succ_self m515,_,_,(gh_pk [0,3,4,5,8] [0,1,2,3,4,5,6,7,8,9] hB e e e e),_,h,e,e⟩)))))
      ·refine Run.exit ?_
       obtain rfl := someO h
       have h := hk515
       exact ⟨_,_,(gh_pk [0,3,4,5,8] [0,1,2,3,4,5,6,7,8,9] hB e e e e),_,h,e,e⟩
     ·refine OpsD.gn e g527 (.gn e g527 (.gn e g527 (.gn e g527 (.gn e g527 (.gn e g527 (.gn e g527 (.gn e g527 (.gn e g527 (.gn e g527 (.gn e g527 (.gn e g527 (.gn e g527 (.gn e g527 (.z 91432 (.pkF e g527 e) e e (.nil ⟨by kernel_rfl,?_⟩)))))))))))))))
      refine Run.condF e e (.exit ?_)
      obtain rfl := someO h
      have h := hk515
      exact ⟨_,_,(gh_pk [0,3,4,5,8] [0,1,2,3,4,5,6,7,8,9] hB e e e e),_,h,e,e⟩
    ·refine Run.so hm (.p3 e e e (.p e (.z 99368 (Ev.lnF e) e e (.p2 e e (.nil (.seqO h (fun v566 => [(0,.ptr 0 0),(3,.ptr 6 0),(9,VI (w64 (v377.1 + (v377.2.2.length : Int))))]) (fun (v566 : (List Entry)) => [(0,.box [VI y368.n.Id,VI y368.n.Term,VI y368.n.Vote,VI y368.n.Role,VI y368.n.Lead,.sl 7 3 0 x1.n.Conf.length,VI y368.n.Log.Start,VI y368.n.Log.StartTerm,.sl 8 40 0 v566.length,VI y368.n.Commit,VI 0,VI y368.n.Limit,.sl 9 3 0 y368.n.Votes.length,.sl 10 98 0 y368.n.Peers.length,.sl 11 32 0 x1.told.length]),(1,.gone),(2,.gone),(3,.gone),(4,.gone),(5,.gone),(6,.box [VI x2.Kind,VI x2.From,VI x2.To,VI x2.Term,VI v377.1,VI v377.2.1,VI x2.Commit,VB x2.Ok,RO 40 (v377.2.2.map encEntry),RO 3 (x2.Conf.map encI),VS x2.Data,VB x2.Last]),(7,.vec 3 (x1.n.Conf.map encI)),(8,.vec 40 (v566.map encEntry)),(9,.vec 3 (y368.n.Votes.map encI)),(10,.vec 98 (y368.n.Peers.map encPeer)),(11,.vec 32 (x1.told.map (encMessage false)))]) (fun h => ?_) (fun v566 h => ?_)))))))
     ·refine Run.so hm (.p3 e e e (.z 103448 (Ev.lnF e) e e (.p e (.nil (.condO e h (fun g567 h => ?_) (fun g567 h => ?_))))))
      ·refine Run.so hm (.p3 e e e (.p3 e e e (.p2 e e (.nil (.seq (.draw hm hmix (.p e (.p e (.p e (.p e (.z 111656 (Ev.bsW (ys := ([] : List Entry)) (f := encEntry) e .nil e e e e e) e e (.p e (.p e (.p e ?_))))))))))))))
       obtain ⟨x580,hx580,h⟩ := bindO h
       refine OpsD.z 111720 (Ev.slWh (xs := x1.n.Log.Entries) e e e hx580) e e ?_
       obtain ⟨x581,hx581,h⟩ := bindO h
       refine OpsD.z 111736 (Ev.apW (f := encEntry) (ontoW e e e) (addsP e e (fun _ => e)) e bt40 e hx581) e e (.p e (.p e (.p e ?_)))
       obtain ⟨x582,hx582,h⟩ := bindO h
       refine OpsD.z 111800 (Ev.slFl e e hx582) e e ?_
       obtain ⟨x583,hx583,h⟩ := bindO h
       refine OpsD.z 111816 (Ev.apW (f := encEntry) (ontoW e e e) (addsF e) e bt40 e hx583) e e (.z 111832 (.bd e e) e e (.z 111848 (.al e e) e e (.y 111864 (.sto e e e e e e) e e (.nil ⟨by kernel_rfl,?_⟩))))
       refine Run.seq (.seq (.draw hm hmix (.p e (.p e (.p e (.p e (.p e (.p e (.p e (.p e (.p e (.p e (.p e (.askO (x := .t 159) e h (fun g595 h => ?_) (fun g595 h => ?_)))))))))))))))
       ·refine OpsD.gn e g595 (.gn e g595 (.gn e g595 (.z 115912 (.pkT e g595 e) e e (.nil ⟨by kernel_rfl,?_⟩))))
        refine Run.condT e e (.so hm (.p3 e e e ?_))
        obtain ⟨y597,hy597,h⟩ := bindO h
        refine Ops.z 119832 (Ev.call [0,1,2,8,9,5] [] 1 (sem_spec_l16Refuse _ _ _ _ _ hy597) e e (.cons (.ptr e) (.cons (.agg (.d4 (.d4 (.d4 .nil)))) (.d1 .nil))) e (.inl e) e e) e e (.nil (.ret ?_))
        obtain rfl := someO h
        exact Ends.mkG (.inl e) e (Gh.trans (Gh.trans (gh_prn [] [0,1,2,3,4,5,8,9,119832] hB e) (gh_mvE [] [1,2] hB e e)) (gh_pk [] [0,1,2,3,4,5,30000001,30000002,8,9,119832] hB e e e e)) e e
       ·refine OpsD.gp e g595 e ?_
        obtain ⟨y598,hy598,h⟩ := bindO h
        refine OpsD.gs (s := 115880) e g595 (Ev.call [] [111816] 0 (sem_spec_LogOk _ _ _ hy598) e e (.cons (.agg (.d2 (.cons (.borrow e (by decide) (lendW (fun _ => e) _ e)) .nil))) .nil) e (.inr ⟨e,ownL_root trivial⟩) e e) e e ?_
        refine OpsD.gp e g595 e (.z 115912 (.pkF e g595 e) e e (.nil ⟨by kernel_rfl,?_⟩))
        refine Run.condO e h (fun g599 h => ?_) (fun g599 h => ?_)
        ·refine Run.so hm (.p3 e e e ?_)
         obtain ⟨y601,hy601,h⟩ := bindO h
         refine Ops.z 119832 (Ev.call [0,1,2,8,9,5] [] 1 (sem_spec_l16Refuse _ _ _ _ _ hy601) e e (.cons (.ptr e) (.cons (.agg (.d4 (.d4 (.d4 .nil)))) (.d1 .nil))) e (.inl e) e e) e e (.nil (.ret ?_))
         obtain rfl := someO h
         exact Ends.mkG (.inl e) e (Gh.trans (Gh.trans (gh_prn [] [0,1,2,3,4,5,8,9,119832] hB e) (gh_mvE [] [1,2] hB e e)) (gh_pk [] [0,1,2,3,4,5,30000001,30000002,8,9,119832] hB e e e e)) e e
        ·exact Run.skip (.ops hm (.p3 e e e (.p2 e e (.y 123960 (.sto e e e e e e) e e (.nil (⟨_,_,(Gh.trans (Gh.trans (gh_prn [0,3,9] [0,1,2,3,4,5,6,111816,8,9] hB e) (gh_mvE [0,3,9] [1,2,5] hB e e)) (gh_pk [0,3,9] [0,1,2,3,4,5,6,30000001,111816,8,9,30000005] hB e e e e)),_,h,e,e⟩))))))
      ·exact Run.skip (⟨_,_,(Gh.trans (Gh.trans (gh_prn [0,3,9] [0,1,2,3,4,5,6,8,9] hB e) (gh_mvE [0,3,9] [1,2,5] hB e e)) (gh_pk [0,3,9] [0,1,2,3,4,5,6,30000001,30000002,8,9,30000005] hB e e e e)),_,h,e,e⟩)
     ·refine Run.so hm (.p3 e e e (.nil (.seqO h (fun v603 => [(0,.ptr 0 0),(3,.ptr 6 0),(9,VI (w64 (v377.1 + (v377.2.2.length : Int)))),(12,VI v603)]) (fun (v603 : Int) => [(0,.box [VI y368.n.Id,VI y368.n.Term,VI y368.n.Vote,VI y368.n.Role,VI y368.n.Lead,.sl 7 3 0 x1.n.Conf.length,VI y368.n.Log.Start,VI y368.n.Log.StartTerm,.sl 8 40 0 v566.length,VI y368.n.Commit,VI 0,VI y368.n.Limit,.sl 9 3 0 y368.n.Votes.length,.sl 10 98 0 y368.n.Peers.length,.sl 11 32 0 x1.told.length]),(1,.gone),(2,.gone),(3,.gone),(4,.gone),(5,.gone),(6,.box [VI x2.Kind,VI x2.From,VI x2.To,VI x2.Term,VI v377.1,VI v377.2.1,VI x2.Commit,VB x2.Ok,RO 40 (v377.2.2.map encEntry),RO 3 (x2.Conf.map encI),VS x2.Data,VB x2.Last]),(7,.vec 3 (x1.n.Conf.map encI)),(8,.vec 40 (v566.map encEntry)),(9,.vec 3 (y368.n.Votes.map encI)),(10,.vec 98 (y368.n.Peers.map encPeer)),(11,.vec 32 (x1.told.map (encMessage false)))]) (fun h => ?_) (fun v603 h => ?_))))
      ·refine Run.so hm (.p3 e e e (.nil (.condO e h (fun g604 h => ?_) (fun g604 h => ?_))))
       ·exact Run.ops hm (.p2 e e (.nil (⟨_,_,(gh_pk [0,3,9,12] [0,1,2,3,4,5,6,7,8,9,10,11] hB e e e e),_,h,e,e⟩)))
       ·exact Run.skip (⟨_,_,(gh_pk [0,3,9,12] [0,1,2,3,4,5,6,7,8,9,10,11] hB e e e e),_,h,e,e⟩)
      ·refine Run.seqO h (fun v606 => [(0,.ptr 0 0),(3,.ptr 6 0),(9,VI (w64 (v377.1 + (v377.2.2.length : Int))))]) (fun (v606 : Int) => [(0,.box [VI y368.n.Id,VI y368.n.Term,VI y368.n.Vote,VI y368.n.Role,VI y368.n.Lead,.sl 7 3 0 x1.n.Conf.length,VI y368.n.Log.Start,VI y368.n.Log.StartTerm,.sl 8 40 0 v566.length,VI v606,VI 0,VI y368.n.Limit,.sl 9 3 0 y368.n.Votes.length,.sl 10 98 0 y368.n.Peers.length,.sl 11 32 0 x1.told.length]),(1,.gone),(2,.gone),(3,.gone),(4,.gone),(5,.gone),(6,.box [VI x2.Kind,VI x2.From,VI x2.To,VI x2.Term,VI v377.1,VI v377.2.1,VI x2.Commit,VB x2.Ok,RO 40 (v377.2.2.map encEntry),RO 3 (x2.Conf.map encI),VS x2.Data,VB x2.Last]),(7,.vec 3 (x1.n.Conf.map encI)),(8,.vec 40 (v566.map encEntry)),(9,.vec 3 (y368.n.Votes.map encI)),(10,.vec 98 (y368.n.Peers.map encPeer)),(11,.vec 32 (x1.told.map (encMessage false)))]) (fun h => ?_) (fun v606 h => ?_)
       ·refine Run.so hm (.p3 e e e (.p3 e e e (.p e (.nil (.condO e h (fun g607 h => ?_) (fun g607 h => ?_))))))
        ·exact Run.ops hm (.p3 e e e (.p2 e e (.y 144440 (.sto e e e e e e) e e (.nil (⟨_,_,(gh_pk [0,3,9] [0,1,2,3,4,5,6,7,8,9,10,11] hB e e e e),_,h,e,e⟩)))))
        ·exact Run.skip (⟨_,_,(gh_pk [0,3,9] [0,1,2,3,4,5,6,7,8,9,10,11] hB e e e e),_,h,e,e⟩)
       ·refine Run.ops hm (.p3 e e e (.p e (.z 148520 (.bd e e) e e ?_)))
        obtain ⟨y609,hy609,h⟩ := bindO h
        refine Ops.z 148536 (Ev.call [0,7,8,9,10,11] [] 1 (sem_spec_l16Tell _ _ _ _ hy609) e e (.cons (.ptr e) (.cons (.agg (.d4 (.d4 (.cons (.nil _ _) (.cons (.nil _ _) (.d2 .nil)))))) .nil)) e (.inl e) e e) e e (.nil ?_)
        obtain rfl := someO h
        exact Ends.mkG (.inr e) e (gh_pk [] [0,1,2,3,4,5,7,8,9,10,148536] hB e e e e) e e
def spec_l16Reply_l1 (N : Nat) (x1 : Tl16Run) (x2 : Message) : Nat → Int → Int → Option (Int)
 | 0,_,_ => none
 | m + 1,x340,x341 =>
 (if (decide (x341 < ((x1.n.Peers.length : Nat) : Int))) = true then
 joinP (fun (v385 : Int) =>
 spec_l16Reply_l1 N x1 x2 m v385 (w64 (x341 + 1))) fun j385 =>
 (at? x1.n.Peers x341).bind fun x387 =>
 (if (x387.Id == x2.From) = true then
 j385 x341
 else
 j385 x340)
 else
 some x340)
def spec_l16Reply (N : Nat) (x1 : Tl16Run) (x2 : Message) : Option (Tl16Run) :=
 (if (x2.Term != x1.n.Term) = true then
 some x1
 else
 (if (x1.n.Role != 2) = true then
 some x1
 else
 joinP (fun (v339 : Int) =>
 (if (decide (v339 < 0)) = true then
 some x1
 else
 (spec_l12Last N x1.n.Log).bind fun y394 =>
 (at? x1.n.Peers v339).bind fun x398 =>
 (if x2.Ok = true then
 joinP (fun (v424 : Int) =>
 joinP (fun (v427 : Int) =>
 joinP (fun (v430 : Int) =>
 (at? x1.n.Peers v339).bind fun x435 =>
 (spec_l16Commit N (Tl16Run.mk (Node.mk x1.n.Id x1.n.Term x1.n.Vote x1.n.Role x1.n.Lead x1.n.Conf x1.n.Log x1.n.Commit x1.n.Clock x1.n.Limit x1.n.Votes (x1.n.Peers.set v339.toNat (Peer.mk x398.Id (w64 (v427 + 1)) v427 v430))) x1.told)).bind fun y439 =>
 (if (y439.n.Role == 2) = true then
 (if (decide ((w64 (v427 + 1)) ≤ y394)) = true then
 (spec_l16Send N y439 (Peer.mk x398.Id (w64 (v427 + 1)) v427 v430)).bind fun y444 =>
 some (Tl16Run.mk (Node.mk y444.n.Id y444.n.Term y444.n.Vote y444.n.Role y444.n.Lead y439.n.Conf (Log.mk y444.n.Log.Start y444.n.Log.StartTerm y439.n.Log.Entries) y444.n.Commit y444.n.Clock y444.n.Limit y439.n.Votes y439.n.Peers) y444.told)
 else
 some y439)
 else
 some y439)) fun j430 =>
 (if (x2.Kind == 6) = true then
 j430 0
 else
 j430 x398.Sent)) fun j427 =>
 (if (decide (v424 > x398.Match)) = true then
 j427 v424
 else
 j427 x398.Match)) fun j424 =>
 (if (decide (x2.Index > y394)) = true then
 j424 y394
 else
 j424 x2.Index)
 else
 joinP (fun (v453 : Int × Int) =>
 (at? x1.n.Peers v339).bind fun x465 =>
 (spec_l16Send N (Tl16Run.mk (Node.mk x1.n.Id x1.n.Term x1.n.Vote x1.n.Role x1.n.Lead x1.n.Conf x1.n.Log x1.n.Commit x1.n.Clock x1.n.Limit x1.n.Votes (x1.n.Peers.set v339.toNat (Peer.mk x398.Id v453.1 x398.Match v453.2))) x1.told) (Peer.mk x398.Id v453.1 x398.Match v453.2)).bind fun y467 =>
 some (Tl16Run.mk (Node.mk y467.n.Id y467.n.Term y467.n.Vote y467.n.Role y467.n.Lead x1.n.Conf (Log.mk y467.n.Log.Start y467.n.Log.StartTerm x1.n.Log.Entries) y467.n.Commit y467.n.Clock y467.n.Limit x1.n.Votes (x1.n.Peers.set v339.toNat (Peer.mk x398.Id v453.1 x398.Match v453.2))) y467.told)) fun j453 =>
 (if (x2.Kind == 6) = true then
 (if (x2.Index == x1.n.Log.Start) = true then
 (if (decide (x2.Commit ≤ 20000)) = true then
 j453 (x398.Next,x2.Commit)
 else
 j453 (x398.Next,0))
 else
 j453 (x398.Next,0))
 else
 joinP (fun (v459 : Int) =>
 (if (decide (v459 < x398.Next)) = true then
 j453 (v459,x398.Sent)
 else
 j453 (x398.Next,x398.Sent))) fun j459 =>
 (if (decide ((w64 (x2.Index + 1)) < (w64 (x398.Match + 1)))) = true then
 j459 (w64 (x398.Match + 1))
 else
 j459 (w64 (x2.Index + 1))))))) fun j339 =>
 (spec_l16Reply_l1 N x1 x2 N (-1 : Int) 0).bind (fun v378 => j339 v378)))
theorem sem_spec_l16Reply (N : Nat) (x1 : Tl16Run) (x2 : Message) (r : Tl16Run) (h : spec_l16Reply N x1 x2 = some r) : Says Tryz.prog 36 [.ptr 0 0,.agg [VI x2.Kind,VI x2.From,VI x2.To,VI x2.Term,VI x2.Index,VI x2.LogTerm,VI x2.Commit,VB x2.Ok,RO 40 (x2.Entries.map encEntry),RO 3 (x2.Conf.map encI),VS x2.Data,VB x2.Last]] 6 [(0,.box [VI x1.n.Id,VI x1.n.Term,VI x1.n.Vote,VI x1.n.Role,VI x1.n.Lead,.sl 1 3 0 x1.n.Conf.length,VI x1.n.Log.Start,VI x1.n.Log.StartTerm,.sl 2 40 0 x1.n.Log.Entries.length,VI x1.n.Commit,VI x1.n.Clock,VI x1.n.Limit,.sl 3 3 0 x1.n.Votes.length,.sl 4 98 0 x1.n.Peers.length,.sl 5 32 0 x1.told.length]),(1,.vec 3 (x1.n.Conf.map encI)),(2,.vec 40 (x1.n.Log.Entries.map encEntry)),(3,.vec 3 (x1.n.Votes.map encI)),(4,.vec 98 (x1.n.Peers.map encPeer)),(5,.vec 32 (x1.told.map (encMessage false)))] (.tup []) [(0,.box [VI r.n.Id,VI r.n.Term,VI r.n.Vote,VI r.n.Role,VI r.n.Lead,.sl 6 3 0 r.n.Conf.length,VI r.n.Log.Start,VI r.n.Log.StartTerm,.sl 7 40 0 r.n.Log.Entries.length,VI r.n.Commit,VI r.n.Clock,VI r.n.Limit,.sl 8 3 0 r.n.Votes.length,.sl 9 98 0 r.n.Peers.length,.sl 10 32 0 r.told.length]),(1,.gone),(2,.gone),(3,.gone),(4,.gone),(5,.gone),(6,.vec 3 (r.n.Conf.map encI)),(7,.vec 40 (r.n.Log.Entries.map encEntry)),(8,.vec 3 (r.n.Votes.map encI)),(9,.vec 98 (r.n.Peers.map encPeer)),(10,.vec 32 (r.told.map (encMessage false)))] := by
 unfold spec_l16Reply at h
 refine Says.of_norm e Tryz.call36 e fun B hB => ?_
 have hm : B.m ≤ 1000 := by omega
 refine Run.so hm (.z 1000 (.bx e e) e e (.nil (.seq (.seq (.draw hm hmix (.p e (.p e (.p e (.p e (.p e (.p e (.p e (.p e (.p e (.askO (x := .t 18) e h (fun g288 h => ?_) (fun g288 h => ?_))))))))))))))))
 ·refine OpsD.gn e g288 (.gn e g288 (.gn e g288 (.gn e g288 (.gn e g288 (.gn e g288 (.z 5336 (.pkT e g288 e) e e (.nil ⟨by kernel_rfl,?_⟩)))))))
  refine Run.condT e e (.ret ?_)
  obtain rfl := someO h
  exact Ends.mkG (.inl e) e (Gh.trans (Gh.trans (gh_prn [] [0,1,2,3,4,5] hB e) (gh_mvE [] [1,2,3,4,5] hB e e)) (gh_pk [] [0,1,2,3,4,5,30000001,30000002,30000003,30000004,30000005] hB e e e e)) e e
 ·refine OpsD.gp e g288 e (.gp e g288 e (.gp e g288 e (.gp e g288 e (.gp e g288 e (.gp e g288 e (.z 5336 (.pkF e g288 e) e e (.nil ⟨by kernel_rfl,?_⟩)))))))
  refine Run.condO e h (fun g289 h => ?_) (fun g289 h => ?_)
  ·refine Run.ret ?_
   obtain rfl := someO h
   exact Ends.mkG (.inl e) e (Gh.trans (Gh.trans (gh_prn [] [0,1,2,3,4,5] hB e) (gh_mvE [] [1,2,3,4,5] hB e e)) (gh_pk [] [0,1,2,3,4,5,30000001,30000002,30000003,30000004,30000005] hB e e e e)) e e
  ·refine Run.skip (.so hm (.p e (.nil (.seqO h (fun v339 => [(0,.ptr 0 0),(3,.ptr 6 0),(4,VI v339)]) (fun (v339 : Int) => [(0,.box [VI x1.n.Id,VI x1.n.Term,VI x1.n.Vote,VI x1.n.Role,VI x1.n.Lead,.sl 1 3 0 x1.n.Conf.length,VI x1.n.Log.Start,VI x1.n.Log.StartTerm,.sl 2 40 0 x1.n.Log.Entries.length,VI x1.n.Commit,VI x1.n.Clock,VI x1.n.Limit,.sl 3 3 0 x1.n.Votes.length,.sl 4 98 0 x1.n.Peers.length,.sl 5 32 0 x1.told.length]),(1,.vec 3 (x1.n.Conf.map encI)),(2,.vec 40 (x1.n.Log.Entries.map encEntry)),(3,.vec 3 (x1.n.Votes.map encI)),(4,.vec 98 (x1.n.Peers.map encPeer)),(5,.vec 32 (x1.told.map (encMessage false))),(6,.box [VI x2.Kind,VI x2.From,VI x2.To,VI x2.Term,VI x2.Index,VI x2.LogTerm,VI x2.Commit,VB x2.Ok,RO 40 (x2.Entries.map encEntry),RO 3 (x2.Conf.map encI),VS x2.Data,VB x2.Last])]) (fun h => ?_) (fun v339 h => ?_)))))
   ·refine Run.so hm (.p e (.nil (.block ?_)))
    obtain ⟨res378,h,hk378⟩ := bindO h
    refine Run.loop (n := N) (fun m378 fr σ => ∃ (x340 : Int),∃ (x341 : Int),spec_l16Reply_l1 N x1 x2 m378 x340 x341 = some res378 ∧ fr = [(0,.ptr 0 0),(3,.ptr 6 0),(4,VI x340),(5,VI x341)] ∧ σ = [(0,.box [VI x1.n.Id,VI x1.n.Term,VI x1.n.Vote,VI x1.n.Role,VI x1.n.Lead,.sl 1 3 0 x1.n.Conf.length,VI x1.n.Log.Start,VI x1.n.Log.StartTerm,.sl 2 40 0 x1.n.Log.Entries.length,VI x1.n.Commit,VI x1.n.Clock,VI x1.n.Limit,.sl 3 3 0 x1.n.Votes.length,.sl 4 98 0 x1.n.Peers.length,.sl 5 32 0 x1.told.length]),(1,.vec 3 (x1.n.Conf.map encI)),(2,.vec 40 (x1.n.Log.Entries.map encEntry)),(3,.vec 3 (x1.n.Votes.map encI)),(4,.vec 98 (x1.n.Peers.map encPeer)),(5,.vec 32 (x1.told.map (encMessage false))),(6,.box [VI x2.Kind,VI x2.From,VI x2.To,VI x2.Term,VI x2.Index,VI x2.LogTerm,VI x2.Commit,VB x2.Ok,RO 40 (x2.Entries.map encEntry),RO 3 (x2.Conf.map encI),VS x2.Data,VB x2.Last])]) (gh_pk [0,3,4,5] [0,1,2,3,4,5,1000] hB e e e e) ⟨_,_,h,e,e⟩ ?_
    rintro m378 fr σ ⟨x340,x341,h,rfl,rfl⟩
    obtain _ | m378 := m378
    ·rw [spec_l16Reply_l1] at h; cases h
    rw [spec_l16Reply_l1] at h
    refine Run.seq (.so hm (.p3 e e e (.p3 e e e (.p2 e e (.nil (.condO e h (fun g381 h => ?_) (fun g381 h => ?_)))))))
    ·refine Run.skip (.seqO h (fun v385 => [(0,.ptr 0 0),(3,.ptr 6 0),(4,VI v385),(5,VI x341)]) (fun (v385 : Int) => [(0,.box [VI x1.n.Id,VI x1.n.Term,VI x1.n.Vote,VI x1.n.Role,VI x1.n.Lead,.sl 1 3 0 x1.n.Conf.length,VI x1.n.Log.Start,VI x1.n.Log.StartTerm,.sl 2 40 0 x1.n.Log.Entries.length,VI x1.n.Commit,VI x1.n.Clock,VI x1.n.Limit,.sl 3 3 0 x1.n.Votes.length,.sl 4 98 0 x1.n.Peers.length,.sl 5 32 0 x1.told.length]),(1,.vec 3 (x1.n.Conf.map encI)),(2,.vec 40 (x1.n.Log.Entries.map encEntry)),(3,.vec 3 (x1.n.Votes.map encI)),(4,.vec 98 (x1.n.Peers.map encPeer)),(5,.vec 32 (x1.told.map (encMessage false))),(6,.box [VI x2.Kind,VI x2.From,VI x2.To,VI x2.Term,VI x2.Index,VI x2.LogTerm,VI x2.Commit,VB x2.Ok,RO 40 (x2.Entries.map encEntry),RO 3 (x2.Conf.map encI),VS x2.Data,VB x2.Last])]) (fun h => ?_) (fun v385 h => ?_))
     ·refine Run.block (.seq (.draw hm hmix (.p e (.p e (.p e (.p e (.p e (.p e ?_))))))))
      obtain ⟨x387,hx387,h⟩ := bindO h
      refine OpsD.z 25672 (Ev.iaW e e e hx387) e e (.p e (.z 25704 (Ev.ldE (f := encPeer) e e (at_some hx387).2 e e e) e e (.p e (.p e (.p e (.nil ⟨by kernel_rfl,?_⟩))))))
      refine Run.condO e h (fun g388 h => ?_) (fun g388 h => ?_)
      ·exact Run.ops hm (.p2 e e (.nil (⟨_,_,(gh_pk [0,3,4,5] [0,1,2,3,4,5,6] hB e e e e),_,h,e,e⟩)))
      ·exact Run.skip (⟨_,_,(gh_pk [0,3,4,5] [0,1,2,3,4,5,6] hB e e e e),_,h,e,e⟩)
     ·exact Run.ops hm (.p3 e e e (.nil (⟨m378,Nat.lt_succ_self m378,_,_,(gh_pk [0,3,4,5] [0,1,2,3,4,5,6] hB e e e e),_,_,h,e,e⟩)))
    ·refine Run.exit ?_
     obtain rfl := someO h
     have h := hk378
     exact ⟨_,_,(gh_pk [0,3,4] [0,1,2,3,4,5,6] hB e e e e),_,h,e,e⟩
   ·refine Run.seq (.so hm (.p2 e e (.nil (.condO e h (fun g390 h => ?_) (fun g390 h => ?_)))))
    ·refine Run.ret ?_
     obtain rfl := someO h
     exact Ends.mkG (.inl e) e (Gh.trans (Gh.trans (gh_prn [] [0,1,2,3,4,5] hB e) (gh_mvE [] [1,2,3,4,5] hB e e)) (gh_pk [] [0,1,2,3,4,5,30000001,30000002,30000003,30000004,30000005] hB e e e e)) e e
    ·refine Run.skip (.so hm (.p3 e e e (.p2 e e ?_)))
     obtain ⟨y394,hy394,h⟩ := bindO h
     refine Ops.z 37944 (Ev.call [] [2] 0 (sem_spec_l12Last _ _ _ hy394) e e (.cons (.agg (.d2 (.cons (.borrow e (by decide) (lendW (fun _ => e) _ e)) .nil))) .nil) e (.inr ⟨e,ownL_root trivial⟩) e e) e e ?_
     refine Ops.p e (.nil (.so hm (.p3 e e e (.p3 e e e ?_))))
     obtain ⟨x398,hx398,h⟩ := bindO h
     refine Ops.z 42056 (Ev.iaW e e e hx398) e e (.z 42072 (Ev.ldE (f := encPeer) e e (at_some hx398).2 e e e) e e (.z 42088 (.al e e) e e (.y 42104 (.sto e e e e e e) e e (.nil (.seq (.so hm (.p2 e e (.nil (.condO e h (fun g422 h => ?_) (fun g422 h => ?_))))))))))
     ·refine Run.so hm (.p3 e e e (.nil (.seqO h (fun v424 => [(0,.ptr 0 0),(3,.ptr 6 0),(4,VI v339),(6,VI y394),(7,.ptr 7 0),(8,VI v424)]) (fun (v424 : Int) => [(0,.box [VI x1.n.Id,VI x1.n.Term,VI x1.n.Vote,VI x1.n.Role,VI x1.n.Lead,.sl 1 3 0 x1.n.Conf.length,VI x1.n.Log.Start,VI x1.n.Log.StartTerm,.sl 2 40 0 x1.n.Log.Entries.length,VI x1.n.Commit,VI x1.n.Clock,VI x1.n.Limit,.sl 3 3 0 x1.n.Votes.length,.sl 4 98 0 x1.n.Peers.length,.sl 5 32 0 x1.told.length]),(1,.vec 3 (x1.n.Conf.map encI)),(2,.vec 40 (x1.n.Log.Entries.map encEntry)),(3,.vec 3 (x1.n.Votes.map encI)),(4,.vec 98 (x1.n.Peers.map encPeer)),(5,.vec 32 (x1.told.map (encMessage false))),(6,.box [VI x2.Kind,VI x2.From,VI x2.To,VI x2.Term,VI x2.Index,VI x2.LogTerm,VI x2.Commit,VB x2.Ok,RO 40 (x2.Entries.map encEntry),RO 3 (x2.Conf.map encI),VS x2.Data,VB x2.Last]),(7,.box [VI x398.Id,VI x398.Next,VI x398.Match,VI x398.Sent])]) (fun h => ?_) (fun v424 h => ?_))))
      ·refine Run.so hm (.p3 e e e (.nil (.condO e h (fun g425 h => ?_) (fun g425 h => ?_))))
       ·exact Run.ops hm (.p2 e e (.nil (⟨_,_,(gh_pk [0,3,4,6,7,8] [0,1,2,3,4,5,6,42088] hB e e e e),_,h,e,e⟩)))
       ·exact Run.skip (⟨_,_,(gh_pk [0,3,4,6,7,8] [0,1,2,3,4,5,6,42088] hB e e e e),_,h,e,e⟩)
      ·refine Run.seqO h (fun v427 => [(0,.ptr 0 0),(3,.ptr 6 0),(4,VI v339),(6,VI y394),(7,.ptr 7 0)]) (fun (v427 : Int) => [(0,.box [VI x1.n.Id,VI x1.n.Term,VI x1.n.Vote,VI x1.n.Role,VI x1.n.Lead,.sl 1 3 0 x1.n.Conf.length,VI x1.n.Log.Start,VI x1.n.Log.StartTerm,.sl 2 40 0 x1.n.Log.Entries.length,VI x1.n.Commit,VI x1.n.Clock,VI x1.n.Limit,.sl 3 3 0 x1.n.Votes.length,.sl 4 98 0 x1.n.Peers.length,.sl 5 32 0 x1.told.length]),(1,.vec 3 (x1.n.Conf.map encI)),(2,.vec 40 (x1.n.Log.Entries.map encEntry)),(3,.vec 3 (x1.n.Votes.map encI)),(4,.vec 98 (x1.n.Peers.map encPeer)),(5,.vec 32 (x1.told.map (encMessage false))),(6,.box [VI x2.Kind,VI x2.From,VI x2.To,VI x2.Term,VI x2.Index,VI x2.LogTerm,VI x2.Commit,VB x2.Ok,RO 40 (x2.Entries.map encEntry),RO 3 (x2.Conf.map encI),VS x2.Data,VB x2.Last]),(7,.box [VI x398.Id,VI x398.Next,VI v427,VI x398.Sent])]) (fun h => ?_) (fun v427 h => ?_)
       ·refine Run.so hm (.p3 e e e (.p e (.nil (.condO e h (fun g428 h => ?_) (fun g428 h => ?_)))))
        ·exact Run.ops hm (.p2 e e (.y 66568 (.sto e e e e e e) e e (.nil (⟨_,_,(gh_pk [0,3,4,6,7] [0,1,2,3,4,5,6,7] hB e e e e),_,h,e,e⟩))))
        ·exact Run.skip (⟨_,_,(gh_pk [0,3,4,6,7] [0,1,2,3,4,5,6,7] hB e e e e),_,h,e,e⟩)
       ·refine Run.so hm (.p3 e e e (.p e (.y 70696 (.sto e e e e e e) e e (.nil (.seqO h (fun v430 => [(0,.ptr 0 0),(4,VI v339),(6,VI y394),(7,.ptr 6 0)]) (fun (v430 : Int) => [(0,.box [VI x1.n.Id,VI x1.n.Term,VI x1.n.Vote,VI x1.n.Role,VI x1.n.Lead,.sl 1 3 0 x1.n.Conf.length,VI x1.n.Log.Start,VI x1.n.Log.StartTerm,.sl 2 40 0 x1.n.Log.Entries.length,VI x1.n.Commit,VI x1.n.Clock,VI x1.n.Limit,.sl 3 3 0 x1.n.Votes.length,.sl 4 98 0 x1.n.Peers.length,.sl 5 32 0 x1.told.length]),(1,.vec 3 (x1.n.Conf.map encI)),(2,.vec 40 (x1.n.Log.Entries.map encEntry)),(3,.vec 3 (x1.n.Votes.map encI)),(4,.vec 98 (x1.n.Peers.map encPeer)),(5,.vec 32 (x1.told.map (encMessage false))),(6,.box [VI x398.Id,VI (w64 (v427 + 1)),VI v427,VI v430])]) (fun h => ?_) (fun v430 h => ?_))))))
        ·refine Run.so hm (.p3 e e e (.nil (.condO e h (fun g431 h => ?_) (fun g431 h => ?_))))
         ·exact Run.ops hm (.p e (.y 78840 (.sto e e e e e e) e e (.nil (⟨_,_,(gh_pk [0,4,6,7] [0,1,2,3,4,5,7] hB e e e e),_,h,e,e⟩))))
         ·exact Run.skip (⟨_,_,(gh_pk [0,4,6,7] [0,1,2,3,4,5,7] hB e e e e),_,h,e,e⟩)
        ·refine Run.seq (.draw hm hmix (.p e (.p e (.p e (.p e (.p e (.p e (.p e ?_))))))))
         obtain ⟨x435,hx435,h⟩ := bindO h
         refine OpsD.z 83032 (Ev.iaW e e e hx435) e e (.y 83048 (Ev.stE (f := encPeer) (v' := (Peer.mk x398.Id (w64 (v427 + 1)) v427 v430)) e e (at_some hx435).2 e (.d4 .nil) e e e e e) e e (.nil ⟨by kernel_rfl,?_⟩))
         refine Run.so hm (.p e ?_)
         obtain ⟨y439,hy439,h⟩ := bindO h
         have qy_439 := sem_spec_l16Commit N (Tl16Run.mk (Node.mk x1.n.Id x1.n.Term x1.n.Vote x1.n.Role x1.n.Lead x1.n.Conf x1.n.Log x1.n.Commit x1.n.Clock x1.n.Limit x1.n.Votes (x1.n.Peers.set v339.toNat (Peer.mk x398.Id (w64 (v427 + 1)) v427 v430))) x1.told) _ hy439
         simp only [List.length_set] at qy_439
         refine Ops.z 87032 (Ev.call [0,1,2,3,4,5] [] 5 qy_439 e e (.cons (.ptr e) .nil) e (.inl e) e e) e e (.nil (.seq (.so hm (.p3 e e e (.p3 e e e (.p e (.askO (x := .t 103) e h (fun g441 h => ?_) (fun g441 h => ?_))))))))
         ·refine Ops.gp e g441 e (.gp e g441 e (.gp e g441 e (.gp e g441 e (.z 91288 (.pkT e g441 e) e e (.nil (.condO e h (fun g442 h => ?_) (fun g442 h => ?_)))))))
          ·refine Run.ops hm (.p2 e e ?_)
           obtain ⟨y444,hy444,h⟩ := bindO h
           refine Ops.z 95240 (Ev.call [0,87032,87033,87034,87035,87036] [] 1 (sem_spec_l16Send _ _ _ _ hy444) e e (.cons (.ptr e) (.cons (.agg (.d4 .nil)) .nil)) e (.inl e) e e) e e (.nil (.ret ?_))
           obtain rfl := someO h
           exact Ends.mkG (.inl e) e (gh_pk [] [0,1,2,3,4,5,87032,87033,87034,87035,95240] hB e e e e) e e
          ·refine Run.skip (.ret ?_)
           obtain rfl := someO h
           exact Ends.mkG (.inl e) e (gh_pk [] [0,1,2,3,4,5,87032,87033,87034,87035,87036] hB e e e e) e e
         ·refine Ops.gn e g441 (.gn e g441 (.gn e g441 (.gn e g441 (.z 91288 (.pkF e g441 e) e e (.nil (.condF e e (.skip (.ret ?_))))))))
          obtain rfl := someO h
          exact Ends.mkG (.inl e) e (gh_pk [] [0,1,2,3,4,5,87032,87033,87034,87035,87036] hB e e e e) e e
     ·refine Run.skip (.seqO h (fun v453 => [(0,.ptr 0 0),(4,VI v339),(7,.ptr 6 0)]) (fun (v453 : Int × Int) => [(0,.box [VI x1.n.Id,VI x1.n.Term,VI x1.n.Vote,VI x1.n.Role,VI x1.n.Lead,.sl 1 3 0 x1.n.Conf.length,VI x1.n.Log.Start,VI x1.n.Log.StartTerm,.sl 2 40 0 x1.n.Log.Entries.length,VI x1.n.Commit,VI x1.n.Clock,VI x1.n.Limit,.sl 3 3 0 x1.n.Votes.length,.sl 4 98 0 x1.n.Peers.length,.sl 5 32 0 x1.told.length]),(1,.vec 3 (x1.n.Conf.map encI)),(2,.vec 40 (x1.n.Log.Entries.map encEntry)),(3,.vec 3 (x1.n.Votes.map encI)),(4,.vec 98 (x1.n.Peers.map encPeer)),(5,.vec 32 (x1.told.map (encMessage false))),(6,.box [VI x398.Id,VI v453.1,VI x398.Match,VI v453.2])]) (fun h => ?_) (fun v453 h => ?_))
      ·refine Run.so hm (.p3 e e e (.nil (.condO e h (fun g454 h => ?_) (fun g454 h => ?_))))
       ·refine Run.so hm (.p e (.y 103416 (.sto e e e e e e) e e (.nil (.seq (.draw hm hmix (.p e (.p e (.p e (.p e (.p e (.p e (.p e (.p e (.p e (.p e (.askO (x := .t 125) e h (fun g456 h => ?_) (fun g456 h => ?_)))))))))))))))))
        ·refine OpsD.gp e g456 e (.gp e g456 e (.gp e g456 e (.z 107704 (.pkT e g456 e) e e (.nil ⟨by kernel_rfl,?_⟩))))
         refine Run.condO e h (fun g457 h => ?_) (fun g457 h => ?_)
         ·exact Run.ops hm (.p3 e e e (.y 111640 (.sto e e e e e e) e e (.nil (⟨_,_,(gh_pk [0,4,7] [0,1,2,3,4,5,42088] hB e e e e),_,h,e,e⟩))))
         ·exact Run.skip (⟨_,_,(gh_pk [0,4,7] [0,1,2,3,4,5,42088] hB e e e e),_,h,e,e⟩)
        ·refine OpsD.gn e g456 (.gn e g456 (.gn e g456 (.z 107704 (.pkF e g456 e) e e (.nil ⟨by kernel_rfl,?_⟩))))
         exact Run.condF e e (.skip (⟨_,_,(gh_pk [0,4,7] [0,1,2,3,4,5,42088] hB e e e e),_,h,e,e⟩))
       ·refine Run.so hm (.p3 e e e (.p e (.nil (.seqO h (fun v459 => [(0,.ptr 0 0),(4,VI v339),(7,.ptr 6 0),(9,VI v459)]) (fun (v459 : Int) => [(0,.box [VI x1.n.Id,VI x1.n.Term,VI x1.n.Vote,VI x1.n.Role,VI x1.n.Lead,.sl 1 3 0 x1.n.Conf.length,VI x1.n.Log.Start,VI x1.n.Log.StartTerm,.sl 2 40 0 x1.n.Log.Entries.length,VI x1.n.Commit,VI x1.n.Clock,VI x1.n.Limit,.sl 3 3 0 x1.n.Votes.length,.sl 4 98 0 x1.n.Peers.length,.sl 5 32 0 x1.told.length]),(1,.vec 3 (x1.n.Conf.map encI)),(2,.vec 40 (x1.n.Log.Entries.map encEntry)),(3,.vec 3 (x1.n.Votes.map encI)),(4,.vec 98 (x1.n.Peers.map encPeer)),(5,.vec 32 (x1.told.map (encMessage false))),(6,.box [VI x398.Id,VI x398.Next,VI x398.Match,VI x398.Sent])]) (fun h => ?_) (fun v459 h => ?_)))))
        ·refine Run.so hm (.p3 e e e (.p2 e e (.nil (.condO e h (fun g460 h => ?_) (fun g460 h => ?_)))))
         ·exact Run.ops hm (.p3 e e e (.p e (.nil (⟨_,_,(gh_pk [0,4,7,9] [0,1,2,3,4,5,42088] hB e e e e),_,h,e,e⟩))))
         ·exact Run.skip (⟨_,_,(gh_pk [0,4,7,9] [0,1,2,3,4,5,42088] hB e e e e),_,h,e,e⟩)
        ·refine Run.so hm (.p3 e e e (.p e (.nil (.condO e h (fun g461 h => ?_) (fun g461 h => ?_)))))
         ·exact Run.ops hm (.p2 e e (.y 132104 (.sto e e e e e e) e e (.nil (⟨_,_,(gh_pk [0,4,7] [0,1,2,3,4,5,6] hB e e e e),_,h,e,e⟩))))
         ·exact Run.skip (⟨_,_,(gh_pk [0,4,7] [0,1,2,3,4,5,6] hB e e e e),_,h,e,e⟩)
      ·refine Run.seq (.draw hm hmix (.p e (.p e (.p e (.p e (.p e (.p e (.p e ?_))))))))
       obtain ⟨x465,hx465,h⟩ := bindO h
       refine OpsD.z 136280 (Ev.iaW e e e hx465) e e (.y 136296 (Ev.stE (f := encPeer) (v' := (Peer.mk x398.Id v453.1 x398.Match v453.2)) e e (at_some hx465).2 e (.d4 .nil) e e e e e) e e (.nil ⟨by kernel_rfl,?_⟩))
       refine Run.ops hm (.p2 e e ?_)
       obtain ⟨y467,hy467,h⟩ := bindO h
       have qy_467 := sem_spec_l16Send N (Tl16Run.mk (Node.mk x1.n.Id x1.n.Term x1.n.Vote x1.n.Role x1.n.Lead x1.n.Conf x1.n.Log x1.n.Commit x1.n.Clock x1.n.Limit x1.n.Votes (x1.n.Peers.set v339.toNat (Peer.mk x398.Id v453.1 x398.Match v453.2))) x1.told) (Peer.mk x398.Id v453.1 x398.Match v453.2) _ hy467
       simp only [List.length_set] at qy_467
       refine Ops.z 140296 (Ev.call [0,1,2,3,4,5] [] 1 qy_467 e e (.cons (.ptr e) (.cons (.agg (.d4 .nil)) .nil)) e (.inl e) e e) e e (.nil ?_)
       obtain rfl := someO h
       exact Ends.mkG (.inr e) e (Gh.trans (Gh.trans (gh_prn [] [0,1,2,3,4,5,140296] hB e) (gh_mvE [] [1,2,3,4] hB e e)) (gh_pk [] [0,1,2,3,4,5,30000001,30000002,30000003,30000004,140296] hB e e e e)) (by first | rfl | (simp only [List.length_set]; done) | (simp only [List.length_set]; rfl)) (by first | rfl | (simp only [List.length_set]; done) | (simp only [List.length_set]; rfl))
end Go.Proofs.YtkojbcnafckofaaGreat.Pe.FnStays
