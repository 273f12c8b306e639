/- Functions,as pure functions; and that Go does just that. -/
import Derived.Test.YtkojbcnafckofaaGreatPeFFnStays11
namespace Go.Proofs.YtkojbcnafckofaaGreat.Pe.FnStays
open Go Go.RowKit
set_option linter.unusedVariables false
set_option linter.unusedSimpArgs false
set_option maxHeartbeats 40000000
set_option maxRecDepth 100000
def core_tellVote (N : Nat) (x1 : Tcore) (x2 : Message) : Option (Tcore) :=
 (if (!x2.Ok) = true then
 some x1
 else
 (if (x2.Term != x1.n.Term) = true then
 some x1
 else
 (if (x1.n.Role != 1) = true then
 some x1
 else
 joinP (fun (v161 : (List Int)) =>
 (impl_ConfOf N (Node.mk x1.n.Id x1.n.Term x1.n.Vote x1.n.Role x1.n.Lead x1.n.Conf x1.n.Log x1.n.Commit x1.n.Clock x1.n.Limit v161 x1.n.Peers)).bind fun y175 =>
 (impl_Most N y175 v161).bind fun y176 =>
 (if y176 = true then
 (core_lead N (Tcore.mk (Node.mk x1.n.Id x1.n.Term x1.n.Vote x1.n.Role x1.n.Lead x1.n.Conf x1.n.Log x1.n.Commit x1.n.Clock x1.n.Limit v161 x1.n.Peers) x1.out)).bind fun y179 =>
 some y179
 else
 some (Tcore.mk (Node.mk x1.n.Id x1.n.Term x1.n.Vote x1.n.Role x1.n.Lead x1.n.Conf x1.n.Log x1.n.Commit x1.n.Clock x1.n.Limit v161 x1.n.Peers) x1.out))) fun j161 =>
 (slices_Contains_int N x1.n.Votes x2.From).bind fun y163 =>
 (if (!y163) = true then
 (cat? x1.n.Votes ([x2.From] : List Int)).bind fun x168 =>
 (slices_Sort_int N x168).bind fun y171 =>
 (len? x168 y171).bind fun y172 =>
 j161 y171
 else
 j161 x1.n.Votes))))
theorem sem_core_tellVote (N : Nat) (x1 : Tcore) (x2 : Message) (r : Tcore) (h : core_tellVote N x1 x2 = some r) : Says Tryz.prog 25 [.ptr 0 0,.agg [VI x2.Kind,VI x2.From,VI x2.To,VI x2.Term,VI x2.Index,VI x2.LogTerm,VI x2.Commit,VB x2.Ok,RO 40 (x2.Entries.map encEntry),RO 3 (x2.Conf.map encI),VS x2.Data,VB x2.Last]] 6 [(0,.box [VI x1.n.Id,VI x1.n.Term,VI x1.n.Vote,VI x1.n.Role,VI x1.n.Lead,.sl 1 3 0 x1.n.Conf.length,VI x1.n.Log.Start,VI x1.n.Log.StartTerm,.sl 2 40 0 x1.n.Log.Entries.length,VI x1.n.Commit,VI x1.n.Clock,VI x1.n.Limit,.sl 3 3 0 x1.n.Votes.length,.sl 4 98 0 x1.n.Peers.length,.sl 5 32 0 x1.out.length]),(1,.vec 3 (x1.n.Conf.map encI)),(2,.vec 40 (x1.n.Log.Entries.map encEntry)),(3,.vec 3 (x1.n.Votes.map encI)),(4,.vec 98 (x1.n.Peers.map encPeer)),(5,.vec 32 (x1.out.map (encMessage false)))] (.tup []) [(0,.box [VI r.n.Id,VI r.n.Term,VI r.n.Vote,VI r.n.Role,VI r.n.Lead,.sl 6 3 0 r.n.Conf.length,VI r.n.Log.Start,VI r.n.Log.StartTerm,.sl 7 40 0 r.n.Log.Entries.length,VI r.n.Commit,VI r.n.Clock,VI r.n.Limit,.sl 8 3 0 r.n.Votes.length,.sl 9 98 0 r.n.Peers.length,.sl 10 32 0 r.out.length]),(1,.gone),(2,.gone),(3,.gone),(4,.gone),(5,.gone),(6,.vec 3 (r.n.Conf.map encI)),(7,.vec 40 (r.n.Log.Entries.map encEntry)),(8,.vec 3 (r.n.Votes.map encI)),(9,.vec 98 (r.n.Peers.map encPeer)),(10,.vec 32 (r.out.map (encMessage false)))] := by
 unfold core_tellVote at h
 refine Says.of_norm e Tryz.call25 e fun B hB => ?_
 have hm : B.m ≤ 1000 := by omega
 refine Run.so hm (.z 1000 (.bx e e) e e (.nil (.so hm (.p3 e e e (.p e (.nil (.seq (.seq (.draw hm hmix (.p e (.p e (.p e (.p e (.askO (x := .t 11) e h (fun g147 h => ?_) (fun g147 h => ?_)))))))))))))))
 ·refine OpsD.gn e g147 (.gn e g147 (.gn e g147 (.gn e g147 (.gn e g147 (.gn e g147 (.gn e g147 (.z 9368 (.pkT e g147 e) e e (.p e (.gn e e (.gn e e (.gn e e (.gn e e (.gn e e (.z 9480 (.pkT e e e) e e (.nil ⟨by kernel_rfl,?_⟩)))))))))))))))
  refine Run.condT e e (.ret ?_)
  obtain rfl := someO h
  exact Ends.mkG (.inl e) e (Gh.trans (Gh.trans (gh_prn [] [0,1,2,3,4,5] hB e) (gh_mvE [] [1,2,3,4,5] hB e e)) (gh_pk [] [0,1,2,3,4,5,30000001,30000002,30000003,30000004,30000005] hB e e e e)) e e
 ·refine OpsD.gp e g147 e (.gp e g147 e (.gp e g147 e (.gp e g147 e (.gp e g147 e (.gp e g147 e (.gp e g147 e (.z 9368 (.pkF e g147 e) e e (.p e (.askO (x := .t 20) e h (fun g148 h => ?_) (fun g148 h => ?_))))))))))
  ·refine OpsD.gn e g148 (.gn e g148 (.gn e g148 (.gn e g148 (.gn e g148 (.z 9480 (.pkT e g148 e) e e (.nil ⟨by kernel_rfl,?_⟩))))))
   refine Run.condT e e (.ret ?_)
   obtain rfl := someO h
   exact Ends.mkG (.inl e) e (Gh.trans (Gh.trans (gh_prn [] [0,1,2,3,4,5] hB e) (gh_mvE [] [1,2,3,4,5] hB e e)) (gh_pk [] [0,1,2,3,4,5,30000001,30000002,30000003,30000004,30000005] hB e e e e)) e e
  ·refine OpsD.gp e g148 e (.gp e g148 e (.gp e g148 e (.gp e g148 e (.gp e g148 e (.z 9480 (.pkF e g148 e) e e (.nil ⟨by kernel_rfl,?_⟩))))))
   refine Run.condO e h (fun g149 h => ?_) (fun g149 h => ?_)
   ·refine Run.ret ?_
    obtain rfl := someO h
    exact Ends.mkG (.inl e) e (Gh.trans (Gh.trans (gh_prn [] [0,1,2,3,4,5] hB e) (gh_mvE [] [1,2,3,4,5] hB e e)) (gh_pk [] [0,1,2,3,4,5,30000001,30000002,30000003,30000004,30000005] hB e e e e)) e e
   ·refine Run.skip (.seqO h (fun v161 => [(0,.ptr 0 0),(4,.ptr 0 0)]) (fun (v161 : (List Int)) => [(0,.box [VI x1.n.Id,VI x1.n.Term,VI x1.n.Vote,VI x1.n.Role,VI x1.n.Lead,.sl 6 3 0 x1.n.Conf.length,VI x1.n.Log.Start,VI x1.n.Log.StartTerm,.sl 7 40 0 x1.n.Log.Entries.length,VI x1.n.Commit,VI x1.n.Clock,VI x1.n.Limit,.sl 8 3 0 v161.length,.sl 9 98 0 x1.n.Peers.length,.sl 10 32 0 x1.out.length]),(1,.gone),(2,.gone),(3,.gone),(4,.gone),(5,.gone),(6,.vec 3 (x1.n.Conf.map encI)),(7,.vec 40 (x1.n.Log.Entries.map encEntry)),(8,.vec 3 (v161.map encI)),(9,.vec 98 (x1.n.Peers.map encPeer)),(10,.vec 32 (x1.out.map (encMessage false)))]) (fun h => ?_) (fun v161 h => ?_))
    ·refine Run.seq (.draw hm hmix (.p e (.p e (.p e (.p e (.p e (.p e ?_)))))))
     obtain ⟨y163,hy163,h⟩ := bindO h
     refine OpsD.z 13384 (Ev.call [] [3] 0 (sem_slices_Contains_int _ _ _ _ hy163) e e (.cons (.borrow e (by decide) (lendW (fun _ => e) _ e)) (.d1 .nil)) e (.inr ⟨e,ownL_root trivial⟩) e e) e e ?_
     refine OpsD.p e (.nil ⟨by kernel_rfl,?_⟩)
     refine Run.condO e h (fun g164 h => ?_) (fun g164 h => ?_)
     ·refine Run.seq (.draw hm hmix (.p e (.p e (.p e (.p e (.p e (.p e (.p e (.z 17496 (Ev.bsW (ys := ([x2.From] : List Int)) (f := encI) e (.d1 .nil) e e e e e) e e ?_)))))))))
      obtain ⟨x168,hx168,h⟩ := bindO h
      refine OpsD.z 17512 (Ev.apW (f := encI) (ontoW e e e) (addsW e e e (fun _ => e)) e bt3 e hx168) e e (.p e (.p e (.y 17560 (.sto e e e e e e) e e (.nil ⟨by kernel_rfl,?_⟩))))
      refine Run.ops hm (.p3 e e e (.p e ?_))
      obtain ⟨y171,hy171,h⟩ := bindO h
      obtain ⟨y172,hy172,h⟩ := bindO h
      exact Ops.z 21544 (Ev.call [17512] [] 0 (sem_slices_Sort_int _ _ _ hy171) e e (.cons (.sl e) .nil) e (.inl e) e e) e e (.nil (⟨_,_,(Gh.trans (Gh.trans (gh_prn [0,4] [0,1,2,3,4,5,17512] hB e) (gh_mvE [0,4] [1,2,4,5] hB e e)) (gh_pk [0,4] [0,1,2,3,4,5,30000001,30000002,17512,30000004,30000005] hB e e (by first | rfl | (simp only [List.length_set,(len_some hy172)]; done) | (simp only [List.length_set,(len_some hy172)]; rfl)) (by first | rfl | (simp only [List.length_set,(len_some hy172)]; done) | (simp only [List.length_set,(len_some hy172)]; rfl)))),_,h,e,e⟩))
     ·exact Run.skip (⟨_,_,(Gh.trans (Gh.trans (gh_prn [0,4] [0,1,2,3,4,5] hB e) (gh_mvE [0,4] [1,2,3,4,5] hB e e)) (gh_pk [0,4] [0,1,2,3,4,5,30000001,30000002,30000003,30000004,30000005] hB e e e e)),_,h,e,e⟩)
    ·refine Run.seq (.draw hm hmix (.p e (.p e (.p e ?_))))
     obtain ⟨y175,hy175,h⟩ := bindO h
     refine OpsD.z 25624 (Ev.call [] [6,7,8,9] 1 (sem_impl_ConfOf _ _ _ hy175) e e (.cons (.agg (.d4 (.d1 (.cons (.borrow e (by decide) (lendW (fun _ => e) _ e)) (.d2 (.cons (.borrow e (by decide) (lendW (fun _ => e) _ e)) (.d2 (.d1 (.cons (.borrow e (by decide) (lendW (fun _ => e) _ e)) (.cons (.borrow e (by decide) (lendW (fun _ => e) _ e)) .nil)))))))))) .nil) e (.inr ⟨e,ownL_root ⟨own_rows (fun _ => e) _,trivial⟩⟩) e e) e e ?_
     refine OpsD.p e (.p e (.p e (.p e ?_)))
     obtain ⟨y176,hy176,h⟩ := bindO h
     refine OpsD.z 25704 (Ev.call [] [25624,8] 0 (sem_impl_Most _ _ _ _ hy176) e e (.cons (.borrow e (by decide) (lendW (fun _ => e) _ e)) (.cons (.borrow e (by decide) (lendW (fun _ => e) _ e)) .nil)) e (.inr ⟨e,ownL_root trivial⟩) e e) e e ?_
     refine OpsD.nil ⟨by kernel_rfl,?_⟩
     refine Run.condO e h (fun g177 h => ?_) (fun g177 h => ?_)
     ·refine Run.ops hm (.p e ?_)
      obtain ⟨y179,hy179,h⟩ := bindO h
      refine Ops.z 29688 (Ev.call [0,6,7,8,9,10] [] 5 (sem_core_lead _ _ _ hy179) e e (.cons (.ptr e) .nil) e (.inl e) e e) e e (.nil ?_)
      obtain rfl := someO h
      exact Ends.mkG (.inr e) e (gh_pk [] [0,1,2,3,4,5,29688,29689,29690,29691,29692] hB e e e e) e e
     ·refine Run.skip ?_
      obtain rfl := someO h
      exact Ends.mkG (.inr e) e (gh_pk [] [0,1,2,3,4,5,6,7,8,9,10] hB e e e e) e e
def core_follows (N : Nat) (x1 : Tcore) (x2 : Int) : Option (Tcore) :=
 some (Tcore.mk (Node.mk x1.n.Id x1.n.Term x1.n.Vote 0 x2 x1.n.Conf x1.n.Log x1.n.Commit 0 x1.n.Limit ([]) ([])) x1.out)
theorem sem_core_follows (N : Nat) (x1 : Tcore) (x2 : Int) (r : Tcore) (h : core_follows N x1 x2 = some r) : Says Tryz.prog 27 [.ptr 0 0,VI x2] 6 [(0,.box [VI x1.n.Id,VI x1.n.Term,VI x1.n.Vote,VI x1.n.Role,VI x1.n.Lead,.sl 1 3 0 x1.n.Conf.length,VI x1.n.Log.Start,VI x1.n.Log.StartTerm,.sl 2 40 0 x1.n.Log.Entries.length,VI x1.n.Commit,VI x1.n.Clock,VI x1.n.Limit,.sl 3 3 0 x1.n.Votes.length,.sl 4 98 0 x1.n.Peers.length,.sl 5 32 0 x1.out.length]),(1,.vec 3 (x1.n.Conf.map encI)),(2,.vec 40 (x1.n.Log.Entries.map encEntry)),(3,.vec 3 (x1.n.Votes.map encI)),(4,.vec 98 (x1.n.Peers.map encPeer)),(5,.vec 32 (x1.out.map (encMessage false)))] (.tup []) [(0,.box [VI r.n.Id,VI r.n.Term,VI r.n.Vote,VI r.n.Role,VI r.n.Lead,.sl 1 3 0 x1.n.Conf.length,VI r.n.Log.Start,VI r.n.Log.StartTerm,.sl 2 40 0 x1.n.Log.Entries.length,VI r.n.Commit,VI r.n.Clock,VI r.n.Limit,.sl 6 3 0 r.n.Votes.length,.sl 7 98 0 r.n.Peers.length,.sl 5 32 0 x1.out.length]),(1,.vec 3 (x1.n.Conf.map encI)),(2,.vec 40 (x1.n.Log.Entries.map encEntry)),(3,.gone),(4,.gone),(5,.vec 32 (x1.out.map (encMessage false))),(6,.vec 3 (r.n.Votes.map encI)),(7,.vec 98 (r.n.Peers.map encPeer))] := by
 unfold core_follows at h
 refine Says.of_norm e Tryz.call27 e fun B hB => ?_
 have hm : B.m ≤ 1000 := by omega
 refine Run.so hm (.p3 e e e (.p e (.nil (.ops hm (.p3 e e e (.p3 e e e (.p2 e e (.y 5224 (.sto e e e e e e) e e (.p2 e e (.y 5272 (.sto e e e e e e) e e (.p2 e e (.y 5320 (.sto e e e e e e) e e (.p2 e e (.y 5368 (.sto e e e e e e) e e (.p2 e e (.y 5416 (.sto e e e e e e) e e (.nil ?_)))))))))))))))))
 obtain rfl := someO h
 exact Ends.mkG (.inr e) e (Gh.trans (Gh.trans (Gh.trans (gh_prn [] [0,1,2,3,4,5] hB e) (gh_mvE [] [3,4] hB e e)) (gh_nil [] [0] hB e e e)) (gh_pk [] [0,1,2,3,4,5,20000000,20000001] hB e e e e)) e e
def impl_logPut (N : Nat) (x1 : Log) (x2 : Int) (x3 : Entry) : Option (Log × Bool) :=
 (impl_LogOk N x1).bind fun y149 =>
 (if (!y149) = true then
 some ((Log.mk 0 0 ([])),false)
 else
 (impl_last N x1).bind fun y151 =>
 (impl_within N x2 (w64 (x1.Start + 1)) (w64 (y151 + 1))).bind fun y152 =>
 (if (!y152) = true then
 some ((Log.mk 0 0 ([])),false)
 else
 (impl_copyLog N x1).bind fun y157 =>
 (take? y157.Entries (w64 ((w64 (x2 - x1.Start)) - 1))).bind fun x164 =>
 (cat? (y157.Entries.take ((w64 ((w64 (x2 - x1.Start)) - 1)).toNat)) ([x3] : List Entry)).bind fun x165 =>
 (impl_LogOk N (Log.mk y157.Start y157.StartTerm x165)).bind fun y170 =>
 (if (!y170) = true then
 some ((Log.mk 0 0 ([])),false)
 else
 some ((Log.mk y157.Start y157.StartTerm x165),true))))
theorem sem_impl_logPut (N : Nat) (x1 : Log) (x2 : Int) (x3 : Entry) (r : Log × Bool) (h : impl_logPut N x1 x2 x3 = some r) : Says Tryz.prog 106 [.agg [VI x1.Start,VI x1.StartTerm,RO 40 (x1.Entries.map encEntry)],VI x2,.agg [VI x3.Term,VI x3.Kind,VS x3.Data]] 0 [] (.tup [.agg [VI r.1.Start,VI r.1.StartTerm,.sl 0 40 0 r.1.Entries.length],VB r.2]) [(0,.vec 40 (r.1.Entries.map encEntry))] := by
 unfold impl_logPut at h
 refine Says.of_norm e Tryz.call106 e fun B hB => ?_
 have hm : B.m ≤ 1000 := by omega
 refine Run.so hm (.z 1000 (.bx e e) e e (.z 1016 (.bx e e) e e (.z 1032 (.al e e) e e (.p e (.nil (.seq (.seq (.draw hm hmix (.p e ?_)))))))))
 obtain ⟨y149,hy149,h⟩ := bindO h
 refine OpsD.z 5112 (Ev.call [] [] 0 (sem_impl_LogOk _ _ _ hy149) e e (.cons (.agg (.d2 (.d1 .nil))) .nil) e (.inl e) e e) e e (.p e (.p e (.askO (x := .t 12) e h (fun g150 h => ?_) (fun g150 h => ?_))))
 ·refine OpsD.gn e g150 (.gn e g150 (.gn e g150 (.gn e g150 (.gn e g150 (.gn e g150 (.gn e g150 (.gn e g150 (.gn e g150 (.z 5304 (.pkT e g150 e) e e (.nil ⟨by kernel_rfl,?_⟩))))))))))
  refine Run.condT e e (.so hm (.z 9192 (.bd e e) e e (.y 9208 (.sto e e e e e e) e e (.p e (.nil (.ret ?_))))))
  obtain rfl := someO h
  exact Ends.mkG (.inl e) e (Gh.trans (Gh.trans (gh_prn [0,1] [] hB e) (gh_nil [0] [] hB e e e)) (gh_pk [0,1] [10000000] hB e e e e)) e e
 ·refine OpsD.gp e g150 e (.gp e g150 e (.gp e g150 e (.gp e g150 e (.gp e g150 e ?_))))
  obtain ⟨y151,hy151,h⟩ := bindO h
  refine OpsD.gs (s := 5240) e g150 (Ev.call [] [] 0 (sem_impl_last _ _ _ hy151) e e (.cons (.agg (.d2 (.d1 .nil))) .nil) e (.inl e) e e) e e (.gp e g150 e ?_)
  obtain ⟨y152,hy152,h⟩ := bindO h
  refine OpsD.gs (s := 5272) e g150 (Ev.call [] [] 0 (sem_impl_within _ _ _ _ _ hy152) e e (.d2 (.d1 .nil)) e (.inl e) e e) e e (.gp e g150 e (.z 5304 (.pkF e g150 e) e e (.nil ⟨by kernel_rfl,?_⟩)))
  refine Run.condO e h (fun g153 h => ?_) (fun g153 h => ?_)
  ·refine Run.so hm (.z 9192 (.bd e e) e e (.y 9208 (.sto e e e e e e) e e (.p e (.nil (.ret ?_)))))
   obtain rfl := someO h
   exact Ends.mkG (.inl e) e (Gh.trans (Gh.trans (gh_prn [0,1] [] hB e) (gh_nil [0] [] hB e e e)) (gh_pk [0,1] [10000000] hB e e e e)) e e
  ·refine Run.skip (.so hm (.p e ?_))
   obtain ⟨y157,hy157,h⟩ := bindO h
   refine Ops.z 13304 (Ev.call [] [] 1 (sem_impl_copyLog _ _ _ hy157) e e (.cons (.agg (.d2 (.d1 .nil))) .nil) e (.inl e) e e) e e (.z 13320 (.al e e) e e (.y 13336 (.sto e e e e e e) e e (.nil (.seq (.draw hm hmix (.p e (.p e (.p e (.p e (.p e (.p e (.p e ?_))))))))))))
   obtain ⟨x164,hx164,h⟩ := bindO h
   refine OpsD.z 17496 (Ev.slWh (xs := y157.Entries) e e e hx164) e e (.p e (.z 17528 (Ev.bsW (ys := ([x3] : List Entry)) (f := encEntry) e (.d2 (.d1 .nil)) e e e e e) e e ?_))
   obtain ⟨x165,hx165,h⟩ := bindO h
   refine OpsD.z 17544 (Ev.apW (f := encEntry) (ontoP e (take_le hx164) e) (addsW e e e (fun _ => e)) e bt40 e hx165) e e (.p e (.y 17576 (.sto e e e e e e) e e (.nil ⟨by kernel_rfl,?_⟩)))
   refine Run.seq (.so hm (.p e ?_))
   obtain ⟨y170,hy170,h⟩ := bindO h
   refine Ops.z 21496 (Ev.call [] [17544] 0 (sem_impl_LogOk _ _ _ hy170) e e (.cons (.agg (.d2 (.cons (.borrow e (by decide) (lendW (fun _ => e) _ e)) .nil))) .nil) e (.inr ⟨e,ownL_root trivial⟩) e e) e e ?_
   refine Ops.p e (.nil (.condO e h (fun g171 h => ?_) (fun g171 h => ?_)))
   ·refine Run.so hm (.z 25576 (.bd e e) e e (.y 25592 (.sto e e e e e e) e e (.p e (.nil (.ret ?_)))))
    obtain rfl := someO h
    exact Ends.mkG (.inl e) e (Gh.trans (Gh.trans (gh_prn [0,1] [] hB e) (gh_nil [0] [] hB e e e)) (gh_pk [0,1] [10000000] hB e e e e)) e e
   ·refine Run.skip (.so hm (.p e (.y 29688 (.sto e e e e e e) e e (.p e (.nil (.ret ?_))))))
    obtain rfl := someO h
    exact Ends.mkG (.inl e) e (gh_pk [0,1] [17544] hB e e e e) e e
def impl_taken_l1 (N : Nat) (x1 : Node) (x2 : Int) (x3 : (List Entry)) : Nat → Int → Int → Int → (List Entry) → Option ((Log × Bool) ⊕ (Int × Int × (List Entry)))
 | 0,_,_,_,_ => none
 | m + 1,x308,x325,x326,x328 =>
 (if (decide (x308 < (x3.length : Int))) = true then
 (at? x3 x308).bind fun x356 =>
 (impl_LogTerm N (Log.mk x325 x326 x328) (w64 ((w64 (x2 + x308)) + 1))).bind fun y361 =>
 (if (y361 == x356.Term) = true then
 impl_taken_l1 N x1 x2 x3 m (w64 (x308 + 1)) x325 x326 x328
 else
 (if (decide ((w64 ((w64 (x2 + x308)) + 1)) ≤ x1.Commit)) = true then
 some (Sum.inl ((Log.mk 0 0 ([])),false))
 else
 (impl_logPut N (Log.mk x325 x326 x328) (w64 ((w64 (x2 + x308)) + 1)) x356).bind fun y368 =>
 (if (!y368.2) = true then
 some (Sum.inl ((Log.mk 0 0 ([])),false))
 else
 impl_taken_l1 N x1 x2 x3 m (w64 (x308 + 1)) y368.1.Start y368.1.StartTerm y368.1.Entries)))
 else
 some (Sum.inr (x325,x326,x328)))
def impl_taken_l1_r (N : Nat) (x1 : Node) (x2 : Int) (x3 : (List Entry)) : (List Entry) → Int → Int → Int → (List Entry) → Option ((Log × Bool) ⊕ (Int × Int × (List Entry)))
 | [],x308,x325,x326,x328 =>
 some (Sum.inr (x325,x326,x328))
 | hd :: tl,x308,x325,x326,x328 =>
 (some hd).bind fun x356 =>
 (impl_LogTerm N (Log.mk x325 x326 x328) (w64 ((w64 (x2 + x308)) + 1))).bind fun y361 =>
 (if (y361 == x356.Term) = true then
 impl_taken_l1_r N x1 x2 x3 tl (w64 (x308 + 1)) x325 x326 x328
 else
 (if (decide ((w64 ((w64 (x2 + x308)) + 1)) ≤ x1.Commit)) = true then
 some (Sum.inl ((Log.mk 0 0 ([])),false))
 else
 (impl_logPut N (Log.mk x325 x326 x328) (w64 ((w64 (x2 + x308)) + 1)) x356).bind fun y368 =>
 (if (!y368.2) = true then
 some (Sum.inl ((Log.mk 0 0 ([])),false))
 else
 impl_taken_l1_r N x1 x2 x3 tl (w64 (x308 + 1)) y368.1.Start y368.1.StartTerm y368.1.Entries)))
theorem impl_taken_l1_rng (N : Nat) (x1 : Node) (x2 : Int) (x3 : (List Entry)) (hx : x3.length ≤ 1099511627776) : ∀ (d k m : Nat) (x325 : Int) (x326 : Int) (x328 : (List Entry)),x3.length = k + d → d < m → impl_taken_l1 N x1 x2 x3 m (k : Int) x325 x326 x328 = impl_taken_l1_r N x1 x2 x3 (x3.drop k) (k : Int) x325 x326 x328 := by
 intro d
 induction d with
 | zero =>
  intro k m x325 x326 x328 hd hm
  obtain ⟨m,rfl⟩ : ∃ q,m = q + 1 := ⟨m - 1,by omega⟩
  rw [impl_taken_l1,if_neg (by simp; omega),List.drop_eq_nil_of_le (by omega),impl_taken_l1_r]
 | succ d ih =>
  intro k m x325 x326 x328 hd hm
  obtain ⟨m,rfl⟩ : ∃ q,m = q + 1 := ⟨m - 1,by omega⟩
  have hk : k < x3.length := by omega
  rw [impl_taken_l1,if_pos (by simp; omega),List.drop_eq_getElem_cons hk,impl_taken_l1_r]
  have h1 := at_lt hk
  have h2 := w64_succ (k := k) (by omega)
  have h3 := ih (k + 1) m
  simp only [h1,h2,h3 _ _ _ (by omega) (by omega)]
theorem impl_taken_l1_eq {N : Nat} (x1 : Node) (x2 : Int) (x3 : (List Entry)) (hx : x3.length ≤ 1099511627776) (hN : x3.length < N) (x325 : Int) (x326 : Int) (x328 : (List Entry)) : impl_taken_l1 N x1 x2 x3 N 0 x325 x326 x328 = impl_taken_l1_r N x1 x2 x3 x3 0 x325 x326 x328 := impl_taken_l1_rng N x1 x2 x3 hx x3.length 0 N x325 x326 x328 (by omega) hN
def impl_taken (N : Nat) (x1 : Node) (x2 : Int) (x3 : (List Entry)) : Option (Log × Bool) :=
 (impl_copyLog N x1.Log).bind fun y238 =>
 joinP (fun (v304 : Int × Int × (List Entry)) =>
 some ((Log.mk v304.1 v304.2.1 v304.2.2),true)) fun j304 =>
 (impl_taken_l1 N x1 x2 x3 N 0 y238.Start y238.StartTerm y238.Entries).bind (Sum.elim (fun v348 => some v348) (fun (v349 : Int × Int × (List Entry)) => j304 (v349.1,v349.2.1,v349.2.2)))
theorem sem_impl_taken (N : Nat) (x1 : Node) (x2 : Int) (x3 : (List Entry)) (r : Log × Bool) (h : impl_taken N x1 x2 x3 = some r) : Says Tryz.prog 64 [.agg [VI x1.Id,VI x1.Term,VI x1.Vote,VI x1.Role,VI x1.Lead,RO 3 (x1.Conf.map encI),VI x1.Log.Start,VI x1.Log.StartTerm,RO 40 (x1.Log.Entries.map encEntry),VI x1.Commit,VI x1.Clock,VI x1.Limit,RO 3 (x1.Votes.map encI),RO 98 (x1.Peers.map encPeer)],VI x2,RO 40 (x3.map encEntry)] 0 [] (.tup [.agg [VI r.1.Start,VI r.1.StartTerm,.sl 0 40 0 r.1.Entries.length],VB r.2]) [(0,.vec 40 (r.1.Entries.map encEntry))] := by
 unfold impl_taken at h
 refine Says.of_norm e Tryz.call64 e fun B hB => ?_
 have hm : B.m ≤ 1000 := by omega
 refine Run.so hm (.z 1000 (.bx e e) e e (.z 1016 (.al e e) e e (.p e (.nil (.so hm (.p2 e e ?_))))))
 obtain ⟨y238,hy238,h⟩ := bindO h
 refine Ops.z 5128 (Ev.call [] [] 1 (sem_impl_copyLog _ _ _ hy238) e e (.cons (.agg (.d2 (.d1 .nil))) .nil) e (.inl e) e e) e e (.z 5144 (.al e e) e e (.y 5160 (.sto e e e e e e) e e (.nil (.seqO h (fun v304 => [(6,.ptr 0 0),(8,.ptr 1 0)]) (fun (v304 : Int × Int × (List Entry)) => [(0,.box [VI 0,VI 0,.sl 2 40 0 (([] : (List Entry)).length)]),(1,.box [VI v304.1,VI v304.2.1,.sl 3 40 0 v304.2.2.length]),(2,.vec 40 (([] : (List Entry)).map encEntry)),(3,.vec 40 (v304.2.2.map encEntry))]) (fun h => ?_) (fun v304 h => ?_)))))
 ·refine Run.so hm (.p e (.z 9208 (Ev.lnF e) e e (.p e (.nil (.block ?_)))))
  obtain ⟨res349,h,hk349⟩ := bindO h
  refine Run.loop (n := N) (fun m349 fr σ => ∃ (x308 : Int),∃ (x325 : Int),∃ (x326 : Int),∃ (x328 : (List Entry)),impl_taken_l1 N x1 x2 x3 m349 x308 x325 x326 x328 = some res349 ∧ fr = [(1,VI x2),(3,.ptr 0 0),(6,.ptr 1 0),(8,.ptr 2 0),(17,RO 40 (x3.map encEntry)),(18,VI (x3.length : Int)),(19,VI x308)] ∧ σ = [(0,.box [VI x1.Id,VI x1.Term,VI x1.Vote,VI x1.Role,VI x1.Lead,RO 3 (x1.Conf.map encI),VI x1.Log.Start,VI x1.Log.StartTerm,RO 40 (x1.Log.Entries.map encEntry),VI x1.Commit,VI x1.Clock,VI x1.Limit,RO 3 (x1.Votes.map encI),RO 98 (x1.Peers.map encPeer)]),(1,.box [VI 0,VI 0,.sl 3 40 0 (([] : (List Entry)).length)]),(2,.box [VI x325,VI x326,.sl 4 40 0 x328.length]),(3,.vec 40 (([] : (List Entry)).map encEntry)),(4,.vec 40 (x328.map encEntry))]) (Gh.trans (Gh.trans (gh_prn [1,3,6,8,17,18,19] [1000,1016,5144,5128] hB e) (gh_nil [] [1016] hB e e e)) (gh_pk [1,3,6,8,17,18,19] [1000,1016,5144,20000000,5128] hB e e e e)) ⟨_,_,_,_,h,e,e⟩ ?_
  rintro m349 fr σ ⟨x308,x325,x326,x328,h,rfl,rfl⟩
  obtain _ | m349 := m349
  ·rw [impl_taken_l1] at h; cases h
  rw [impl_taken_l1] at h
  refine Run.so hm (.p e (.nil (.seq (.condO e h (fun g352 h => ?_) (fun g352 h => ?_)))))
  ·refine Run.skip (.seq (.block (.so hm (.p e ?_))))
   obtain ⟨x356,hx356,h⟩ := bindO h
   refine Ops.z 17400 (Ev.iaF e e hx356) e e (.p e (.z 17432 (.al e e) e e (.p e (.y 17464 (.sto e e e e e e) e e (.nil (.so hm (.p3 e e e (.p2 e e (.nil (.seq (.seq (.draw hm hmix (.p e (.p e ?_))))))))))))))
   obtain ⟨y361,hy361,h⟩ := bindO h
   refine OpsD.z 25608 (Ev.call [] [4] 0 (sem_impl_LogTerm _ _ _ _ hy361) e e (.cons (.agg (.d2 (.cons (.borrow e (by decide) (lendW (fun _ => e) _ e)) .nil))) (.d1 .nil)) e (.inr ⟨e,ownL_root trivial⟩) e e) e e ?_
   refine OpsD.p e (.p e (.p e (.nil ⟨by kernel_rfl,?_⟩)))
   refine Run.condO e h (fun g362 h => ?_) (fun g362 h => ?_)
   ·exact Run.exit (.ops hm (.p2 e e (.nil (⟨m349,Nat.lt_succ_self m349,_,_,(gh_pk [1,3,6,8,17,18,19] [0,1,2,3,4] hB e e e e),_,_,_,_,h,e,e⟩))))
   ·refine Run.skip (.seq (.so hm (.p3 e e e (.p e (.nil (.condO e h (fun g364 h => ?_) (fun g364 h => ?_)))))))
    ·refine Run.so hm (.z 33768 (.bd e e) e e (.y 33784 (.sto e e e e e e) e e (.p e (.nil (.ret ?_)))))
     obtain rfl := someO h
     have h := hk349
     replace h := inlO h
     obtain rfl := someO h
     exact Ends.mkG (.inl e) e (Gh.trans (Gh.trans (gh_prn [0,1] [] hB e) (gh_nil [0] [] hB e e e)) (gh_pk [0,1] [10000000] hB e e e e)) e e
    ·refine Run.skip (.so hm (.p3 e e e ?_))
     obtain ⟨y368,hy368,h⟩ := bindO h
     refine Ops.z 37912 (Ev.call [] [4] 1 (sem_impl_logPut _ _ _ _ _ hy368) e e (.cons (.agg (.d2 (.cons (.borrow e (by decide) (lendW (fun _ => e) _ e)) .nil))) (.d1 (.cons (.agg (.d2 (.d1 .nil))) .nil))) e (.inr ⟨e,ownL_root ⟨own_rows (fun _ => e) _,trivial⟩⟩) e e) e e ?_
     refine Ops.p e (.p2 e e (.z 37976 (.al e e) e e (.y 37992 (.sto e e e e e e) e e (.p e (.nil (.seq (.so hm (.p2 e e (.nil (.condO e h (fun g369 h => ?_) (fun g369 h => ?_)))))))))))
     ·refine Run.so hm (.z 46056 (.bd e e) e e (.y 46072 (.sto e e e e e e) e e (.p e (.nil (.ret ?_)))))
      obtain rfl := someO h
      have h := hk349
      replace h := inlO h
      obtain rfl := someO h
      exact Ends.mkG (.inl e) e (Gh.trans (Gh.trans (gh_prn [0,1] [] hB e) (gh_nil [0] [] hB e e e)) (gh_pk [0,1] [10000000] hB e e e e)) e e
     ·exact Run.skip (.ops hm (.p e (.y 50168 (.sto e e e e e e) e e (.nil (.ops hm (.p2 e e (.nil (⟨m349,Nat.lt_succ_self m349,_,_,(gh_pk [1,3,6,8,17,18,19] [0,1,2,3,37912] hB e e e e),_,_,_,_,h,e,e⟩))))))))
  ·refine Run.exit ?_
   obtain rfl := someO h
   have h := hk349
   replace h := inrO h
   exact ⟨_,_,(gh_pk [6,8] [1,2,3,4] hB e e e e),_,h,e,e⟩
 ·refine Run.so hm (.p e (.y 58360 (.sto e e e e e e) e e (.p e (.nil (.ret ?_)))))
  obtain rfl := someO h
  exact Ends.mkG (.inl e) e (gh_pk [0,1] [3] hB e e e e) e e
def core_askAppend (N : Nat) (x1 : Tcore) (x2 : Message) : Option (Tcore) :=
 (if (decide (x2.Term < x1.n.Term)) = true then
 (core_tell N x1 (Message.mk 4 0 x2.From 0 0 0 0 false ([]) ([]) (⟨#[]⟩ : ByteArray) false)).bind fun y156 =>
 some (Tcore.mk (Node.mk y156.n.Id y156.n.Term y156.n.Vote y156.n.Role y156.n.Lead x1.n.Conf (Log.mk y156.n.Log.Start y156.n.Log.StartTerm x1.n.Log.Entries) y156.n.Commit y156.n.Clock y156.n.Limit x1.n.Votes x1.n.Peers) y156.out)
 else
 (core_follows N x1 x2.From).bind fun y160 =>
 joinP (fun (v166 : Int × Int × (List Entry)) =>
 (impl_LogTerm N (Log.mk y160.n.Log.Start y160.n.Log.StartTerm x1.n.Log.Entries) v166.1).bind fun y180 =>
 (if (y180 != v166.2.1) = true then
 (impl_last N (Log.mk y160.n.Log.Start y160.n.Log.StartTerm x1.n.Log.Entries)).bind fun y184 =>
 (core_tell N (Tcore.mk (Node.mk y160.n.Id y160.n.Term y160.n.Vote y160.n.Role y160.n.Lead x1.n.Conf (Log.mk y160.n.Log.Start y160.n.Log.StartTerm x1.n.Log.Entries) y160.n.Commit y160.n.Clock y160.n.Limit y160.n.Votes y160.n.Peers) x1.out) (Message.mk 4 0 x2.From 0 (imin (imax (w64 (v166.1 - 1)) 0) y184) 0 0 false ([]) ([]) (⟨#[]⟩ : ByteArray) false)).bind fun y185 =>
 some (Tcore.mk (Node.mk y185.n.Id y185.n.Term y185.n.Vote y185.n.Role y185.n.Lead x1.n.Conf (Log.mk y185.n.Log.Start y185.n.Log.StartTerm x1.n.Log.Entries) y185.n.Commit y185.n.Clock y185.n.Limit y160.n.Votes y160.n.Peers) y185.out)
 else
 (impl_taken N (Node.mk y160.n.Id y160.n.Term y160.n.Vote y160.n.Role y160.n.Lead x1.n.Conf (Log.mk y160.n.Log.Start y160.n.Log.StartTerm x1.n.Log.Entries) y160.n.Commit y160.n.Clock y160.n.Limit y160.n.Votes y160.n.Peers) v166.1 v166.2.2).bind fun y189 =>
 (if (!y189.2) = true then
 (impl_last N (Log.mk y160.n.Log.Start y160.n.Log.StartTerm x1.n.Log.Entries)).bind fun y198 =>
 (core_tell N (Tcore.mk (Node.mk y160.n.Id y160.n.Term y160.n.Vote y160.n.Role y160.n.Lead x1.n.Conf (Log.mk y160.n.Log.Start y160.n.Log.StartTerm x1.n.Log.Entries) y160.n.Commit y160.n.Clock y160.n.Limit y160.n.Votes y160.n.Peers) x1.out) (Message.mk 4 0 x2.From 0 y198 0 0 false ([]) ([]) (⟨#[]⟩ : ByteArray) false)).bind fun y199 =>
 some (Tcore.mk (Node.mk y199.n.Id y199.n.Term y199.n.Vote y199.n.Role y199.n.Lead x1.n.Conf (Log.mk y199.n.Log.Start y199.n.Log.StartTerm x1.n.Log.Entries) y199.n.Commit y199.n.Clock y199.n.Limit y160.n.Votes y160.n.Peers) y199.out)
 else
 (core_tell N (Tcore.mk (Node.mk y160.n.Id y160.n.Term y160.n.Vote y160.n.Role y160.n.Lead x1.n.Conf y189.1 (imax y160.n.Commit (imin x2.Commit (w64 (v166.1 + (v166.2.2.length : Int))))) y160.n.Clock y160.n.Limit y160.n.Votes y160.n.Peers) x1.out) (Message.mk 4 0 x2.From 0 (w64 (v166.1 + (v166.2.2.length : Int))) 0 0 true ([]) ([]) (⟨#[]⟩ : ByteArray) false)).bind fun y201 =>
 some (Tcore.mk (Node.mk y201.n.Id y201.n.Term y201.n.Vote y201.n.Role y201.n.Lead x1.n.Conf (Log.mk y201.n.Log.Start y201.n.Log.StartTerm y189.1.Entries) y201.n.Commit y201.n.Clock y201.n.Limit y160.n.Votes y160.n.Peers) y201.out)))) fun j166 =>
 (if (decide (x2.Index < y160.n.Log.Start)) = true then
 (drop? x2.Entries (imin (x2.Entries.length : Int) (w64 (y160.n.Log.Start - x2.Index)))).bind fun x171 =>
 j166 (y160.n.Log.Start,y160.n.Log.StartTerm,x171)
 else
 j166 (x2.Index,x2.LogTerm,x2.Entries)))
theorem sem_core_askAppend (N : Nat) (x1 : Tcore) (x2 : Message) (r : Tcore) (h : core_askAppend N x1 x2 = some r) : Says Tryz.prog 26 [.ptr 0 0,.agg [VI x2.Kind,VI x2.From,VI x2.To,VI x2.Term,VI x2.Index,VI x2.LogTerm,VI x2.Commit,VB x2.Ok,RO 40 (x2.Entries.map encEntry),RO 3 (x2.Conf.map encI),VS x2.Data,VB x2.Last]] 6 [(0,.box [VI x1.n.Id,VI x1.n.Term,VI x1.n.Vote,VI x1.n.Role,VI x1.n.Lead,.sl 1 3 0 x1.n.Conf.length,VI x1.n.Log.Start,VI x1.n.Log.StartTerm,.sl 2 40 0 x1.n.Log.Entries.length,VI x1.n.Commit,VI x1.n.Clock,VI x1.n.Limit,.sl 3 3 0 x1.n.Votes.length,.sl 4 98 0 x1.n.Peers.length,.sl 5 32 0 x1.out.length]),(1,.vec 3 (x1.n.Conf.map encI)),(2,.vec 40 (x1.n.Log.Entries.map encEntry)),(3,.vec 3 (x1.n.Votes.map encI)),(4,.vec 98 (x1.n.Peers.map encPeer)),(5,.vec 32 (x1.out.map (encMessage false)))] (.tup []) [(0,.box [VI r.n.Id,VI r.n.Term,VI r.n.Vote,VI r.n.Role,VI r.n.Lead,.sl 6 3 0 r.n.Conf.length,VI r.n.Log.Start,VI r.n.Log.StartTerm,.sl 7 40 0 r.n.Log.Entries.length,VI r.n.Commit,VI r.n.Clock,VI r.n.Limit,.sl 8 3 0 r.n.Votes.length,.sl 9 98 0 r.n.Peers.length,.sl 10 32 0 r.out.length]),(1,.gone),(2,.gone),(3,.gone),(4,.gone),(5,.gone),(6,.vec 3 (r.n.Conf.map encI)),(7,.vec 40 (r.n.Log.Entries.map encEntry)),(8,.vec 3 (r.n.Votes.map encI)),(9,.vec 98 (r.n.Peers.map encPeer)),(10,.vec 32 (r.out.map (encMessage false)))] := by
 unfold core_askAppend at h
 refine Says.of_norm e Tryz.call26 e fun B hB => ?_
 have hm : B.m ≤ 1000 := by omega
 refine Run.so hm (.z 1000 (.bx e e) e e (.nil (.so hm (.p3 e e e (.p e (.nil (.seq (.seq (.draw hm hmix (.p e (.p e (.p e (.p e (.p e (.p e (.p e (.nil ⟨by kernel_rfl,?_⟩)))))))))))))))))
 refine Run.condO e h (fun g154 h => ?_) (fun g154 h => ?_)
 ·refine Run.so hm (.p3 e e e (.z 13336 (.bd e e) e e ?_))
  obtain ⟨y156,hy156,h⟩ := bindO h
  refine Ops.z 13352 (Ev.call [0,1,2,3,4,5] [] 1 (sem_core_tell _ _ _ _ hy156) e e (.cons (.ptr e) (.cons (.agg (.d4 (.d4 (.cons (.nil _ _) (.cons (.nil _ _) (.d2 .nil)))))) .nil)) e (.inl e) e e) e e (.nil (.ret ?_))
  obtain rfl := someO h
  exact Ends.mkG (.inl e) e (Gh.trans (Gh.trans (gh_prn [] [0,1,2,3,4,5,13352] hB e) (gh_mvE [] [1,2,3,4] hB e e)) (gh_pk [] [0,1,2,3,4,5,30000001,30000002,30000003,30000004,13352] hB e e e e)) e e
 ·refine Run.skip (.so hm (.p3 e e e ?_))
  obtain ⟨y160,hy160,h⟩ := bindO h
  refine Ops.z 17432 (Ev.call [0,1,2,3,4,5] [] 2 (sem_core_follows _ _ _ _ hy160) e e (.cons (.ptr e) (.d1 .nil)) e (.inl e) e e) e e (.nil (.seq (.draw hm hmix (.p e (.p e (.p e (.p e (.p e (.p e (.p e (.p e (.p e (.nil ⟨by kernel_rfl,?_⟩)))))))))))))
  refine Run.seqO h (fun v166 => [(0,.ptr 0 0),(3,.ptr 6 0),(4,.ptr 0 0),(5,VI v166.1),(6,VI v166.2.1),(7,RO 40 (v166.2.2.map encEntry))]) (fun (v166 : Int × Int × (List Entry)) => [(0,.box [VI y160.n.Id,VI y160.n.Term,VI y160.n.Vote,VI y160.n.Role,VI y160.n.Lead,.sl 1 3 0 x1.n.Conf.length,VI y160.n.Log.Start,VI y160.n.Log.StartTerm,.sl 2 40 0 x1.n.Log.Entries.length,VI y160.n.Commit,VI y160.n.Clock,VI y160.n.Limit,.sl 7 3 0 y160.n.Votes.length,.sl 8 98 0 y160.n.Peers.length,.sl 5 32 0 x1.out.length]),(1,.vec 3 (x1.n.Conf.map encI)),(2,.vec 40 (x1.n.Log.Entries.map encEntry)),(3,.gone),(4,.gone),(5,.vec 32 (x1.out.map (encMessage false))),(6,.box [VI x2.Kind,VI x2.From,VI x2.To,VI x2.Term,VI x2.Index,VI x2.LogTerm,VI x2.Commit,VB x2.Ok,RO 40 (x2.Entries.map encEntry),RO 3 (x2.Conf.map encI),VS x2.Data,VB x2.Last]),(7,.vec 3 (y160.n.Votes.map encI)),(8,.vec 98 (y160.n.Peers.map encPeer))]) (fun h => ?_) (fun v166 h => ?_)
  ·refine Run.so hm (.p3 e e e (.p3 e e e (.p e (.nil (.condO e h (fun g167 h => ?_) (fun g167 h => ?_))))))
   ·refine Run.so hm (.p2 e e (.z 29704 (Ev.lnF e) e e (.p3 e e e (.p3 e e e (.p2 e e ?_)))))
    obtain ⟨x171,hx171,h⟩ := bindO h
    refine Ops.z 29848 (Ev.slFl e e hx171) e e (.p e (.nil (.draw hm hmix (.p e (.p e (.p e (.p e (.p e (.p e (.p e (.p e (.p e (.p e (.p e (.p e (.nil ⟨by kernel_rfl,?_⟩))))))))))))))))
    exact ⟨_,_,(gh_pk [0,3,4,5,6,7] [0,1,2,3,4,5,1000,17432,17433] hB e e e e),_,h,e,e⟩
   ·exact Run.skip (⟨_,_,(gh_pk [0,3,4,5,6,7] [0,1,2,3,4,5,1000,17432,17433] hB e e e e),_,h,e,e⟩)
  ·refine Run.seq (.so hm (.p3 e e e (.p2 e e ?_)))
   obtain ⟨y180,hy180,h⟩ := bindO h
   refine Ops.z 37944 (Ev.call [] [2] 0 (sem_impl_LogTerm _ _ _ _ hy180) e e (.cons (.agg (.d2 (.cons (.borrow e (by decide) (lendW (fun _ => e) _ e)) .nil))) (.d1 .nil)) e (.inr ⟨e,ownL_root trivial⟩) e e) e e ?_
   refine Ops.p e (.p e (.nil (.condO e h (fun g181 h => ?_) (fun g181 h => ?_))))
   ·refine Run.seq (.draw hm hmix (.p e (.p e (.p e (.p e (.p e (.p e (.p e (.p e (.p e (.p e ?_)))))))))))
    obtain ⟨y184,hy184,h⟩ := bindO h
    refine OpsD.z 42120 (Ev.call [] [2] 0 (sem_impl_last _ _ _ hy184) e e (.cons (.agg (.d2 (.cons (.borrow e (by decide) (lendW (fun _ => e) _ e)) .nil))) .nil) e (.inr ⟨e,ownL_root trivial⟩) e e) e e ?_
    refine OpsD.p e (.z 42152 (.bd e e) e e ?_)
    obtain ⟨y185,hy185,h⟩ := bindO h
    refine OpsD.z 42168 (Ev.call [0,1,2,7,8,5] [] 1 (sem_core_tell _ _ _ _ hy185) e e (.cons (.ptr e) (.cons (.agg (.d4 (.d4 (.cons (.nil _ _) (.cons (.nil _ _) (.d2 .nil)))))) .nil)) e (.inl e) e e) e e (.nil ⟨by kernel_rfl,?_⟩)
    refine Run.ret ?_
    obtain rfl := someO h
    exact Ends.mkG (.inl e) e (Gh.trans (Gh.trans (gh_prn [] [0,1,2,3,4,5,7,8,42168] hB e) (gh_mvE [] [1,2] hB e e)) (gh_pk [] [0,1,2,3,4,5,30000001,30000002,7,8,42168] hB e e e e)) e e
   ·refine Run.skip (.so hm (.p3 e e e (.p2 e e ?_)))
    obtain ⟨y189,hy189,h⟩ := bindO h
    refine Ops.z 46136 (Ev.call [] [1,2,7,8] 1 (sem_impl_taken _ _ _ _ _ hy189) e e (.cons (.agg (.d4 (.d1 (.cons (.borrow e (by decide) (lendW (fun _ => e) _ e)) (.d2 (.cons (.borrow e (by decide) (lendW (fun _ => e) _ e)) (.d2 (.d1 (.cons (.borrow e (by decide) (lendW (fun _ => e) _ e)) (.cons (.borrow e (by decide) (lendW (fun _ => e) _ e)) .nil)))))))))) (.d2 .nil)) e (.inr ⟨e,ownL_root ⟨own_rows (fun _ => e) _,trivial⟩⟩) e e) e e ?_
    refine Ops.p e (.p2 e e (.z 46200 (.al e e) e e (.y 46216 (.sto e e e e e e) e e (.p e (.nil (.seq (.so hm (.p2 e e (.nil (.condO e h (fun g195 h => ?_) (fun g195 h => ?_)))))))))))
    ·refine Run.seq (.draw hm hmix (.p e (.p e (.p e (.p e (.p e (.p e (.p e ?_))))))))
     obtain ⟨y198,hy198,h⟩ := bindO h
     refine OpsD.z 54360 (Ev.call [] [2] 0 (sem_impl_last _ _ _ hy198) e e (.cons (.agg (.d2 (.cons (.borrow e (by decide) (lendW (fun _ => e) _ e)) .nil))) .nil) e (.inr ⟨e,ownL_root trivial⟩) e e) e e ?_
     refine OpsD.z 54376 (.bd e e) e e ?_
     obtain ⟨y199,hy199,h⟩ := bindO h
     refine OpsD.z 54392 (Ev.call [0,1,2,7,8,5] [] 1 (sem_core_tell _ _ _ _ hy199) e e (.cons (.ptr e) (.cons (.agg (.d4 (.d4 (.cons (.nil _ _) (.cons (.nil _ _) (.d2 .nil)))))) .nil)) e (.inl e) e e) e e (.nil ⟨by kernel_rfl,?_⟩)
     refine Run.ret ?_
     obtain rfl := someO h
     exact Ends.mkG (.inl e) e (Gh.trans (Gh.trans (gh_prn [] [0,1,2,3,4,5,7,8,54392] hB e) (gh_mvE [] [1,2] hB e e)) (gh_pk [] [0,1,2,3,4,5,30000001,30000002,7,8,54392] hB e e e e)) e e
    ·refine Run.skip (.so hm (.p3 e e e (.p e (.y 58408 (.sto e e e e e e) e e (.nil (.so hm (.p2 e e (.z 62472 (Ev.lnF e) e e (.p2 e e (.nil (.seq (.draw hm hmix (.p e (.p e (.p e (.p e (.p e (.p e (.p e (.p e (.p e (.p e (.p e (.p e (.y 66728 (.sto e e e e e e) e e (.nil ⟨by kernel_rfl,?_⟩))))))))))))))))))))))))))
     refine Run.ops hm (.p3 e e e (.p e (.z 70696 (.bd e e) e e ?_)))
     obtain ⟨y201,hy201,h⟩ := bindO h
     refine Ops.z 70712 (Ev.call [0,1,46136,7,8,5] [] 1 (sem_core_tell _ _ _ _ hy201) e e (.cons (.ptr e) (.cons (.agg (.d4 (.d4 (.cons (.nil _ _) (.cons (.nil _ _) (.d2 .nil)))))) .nil)) e (.inl e) e e) e e (.nil ?_)
     obtain rfl := someO h
     exact Ends.mkG (.inr e) e (Gh.trans (Gh.trans (gh_prn [] [0,1,2,3,4,5,46136,7,8,70712] hB e) (gh_mvE [] [1,2] hB e e)) (gh_pk [] [0,1,2,3,4,5,30000001,46136,7,8,70712] hB e e e e)) e e
def core_reply_1 (N : Nat) (x1 : Peer) (x2 : Message) : Option (Bool) :=
 some (x1.Id == x2.From)
theorem sem_core_reply_1 (N : Nat) (x1 : Peer) (x2 : Message) (r : Bool) (h : core_reply_1 N x1 x2 = some r) : Says Tryz.prog 66 [.agg [VI x1.Id,VI x1.Next,VI x1.Match,VI x1.Sent],.ptr 0 0] 1 [(0,.box [VI x2.Kind,VI x2.From,VI x2.To,VI x2.Term,VI x2.Index,VI x2.LogTerm,VI x2.Commit,VB x2.Ok,RO 40 (x2.Entries.map encEntry),RO 3 (x2.Conf.map encI),VS x2.Data,VB x2.Last])] (VB r) [(0,.box [VI x2.Kind,VI x2.From,VI x2.To,VI x2.Term,VI x2.Index,VI x2.LogTerm,VI x2.Commit,VB x2.Ok,RO 40 (x2.Entries.map encEntry),RO 3 (x2.Conf.map encI),VS x2.Data,VB x2.Last])] := by
 unfold core_reply_1 at h
 refine Says.of_norm e Tryz.call66 e fun B hB => ?_
 have hm : B.m ≤ 1000 := by omega
 refine Run.so hm (.z 1000 (.bx e e) e e (.p e (.nil (.so hm (.p3 e e e (.p3 e e e (.nil (.ret ?_))))))))
 obtain rfl := someO h
 exact Ends.mkG (.inl e) e (gh_pk [0] [0] hB e e e e) e e
def slices_IndexFunc_Peer_l1 (N : Nat) (x1 : (List Peer)) (x2 : Message) : Nat → Int → Option ((Int) ⊕ (Unit))
 | 0,_ => none
 | m + 1,x200 =>
 (if (decide (x200 < (x1.length : Int))) = true then
 (at? x1 x200).bind fun x227 =>
 (core_reply_1 N x227 x2).bind fun y228 =>
 (if y228 = true then
 some (Sum.inl x200)
 else
 slices_IndexFunc_Peer_l1 N x1 x2 m (w64 (x200 + 1)))
 else
 some (Sum.inr ()))
def slices_IndexFunc_Peer_l1_r (N : Nat) (x1 : (List Peer)) (x2 : Message) : (List Peer) → Int → Option ((Int) ⊕ (Unit))
 | [],x200 =>
 some (Sum.inr ())
 | hd :: tl,x200 =>
 (some hd).bind fun x227 =>
 (core_reply_1 N x227 x2).bind fun y228 =>
 (if y228 = true then
 some (Sum.inl x200)
 else
 slices_IndexFunc_Peer_l1_r N x1 x2 tl (w64 (x200 + 1)))
theorem slices_IndexFunc_Peer_l1_rng (N : Nat) (x1 : (List Peer)) (x2 : Message) (hx : x1.length ≤ 1099511627776) : ∀ (d k m : Nat),x1.length = k + d → d < m → slices_IndexFunc_Peer_l1 N x1 x2 m (k : Int) = slices_IndexFunc_Peer_l1_r N x1 x2 (x1.drop k) (k : Int) := by
 intro d
 induction d with
 | zero =>
  intro k m hd hm
  obtain ⟨m,rfl⟩ : ∃ q,m = q + 1 := ⟨m - 1,by omega⟩
  rw [slices_IndexFunc_Peer_l1,if_neg (by simp; omega),List.drop_eq_nil_of_le (by omega),slices_IndexFunc_Peer_l1_r]
 | succ d ih =>
  intro k m hd hm
  obtain ⟨m,rfl⟩ : ∃ q,m = q + 1 := ⟨m - 1,by omega⟩
  have hk : k < x1.length := by omega
  rw [slices_IndexFunc_Peer_l1,if_pos (by simp; omega),List.drop_eq_getElem_cons hk,slices_IndexFunc_Peer_l1_r]
  have h1 := at_lt hk
  have h2 := w64_succ (k := k) (by omega)
  have h3 := ih (k + 1) m
  simp only [h1,h2,h3 (by omega) (by omega)]
theorem slices_IndexFunc_Peer_l1_eq {N : Nat} (x1 : (List Peer)) (x2 : Message) (hx : x1.length ≤ 1099511627776) (hN : x1.length < N) : slices_IndexFunc_Peer_l1 N x1 x2 N 0 = slices_IndexFunc_Peer_l1_r N x1 x2 x1 0 := slices_IndexFunc_Peer_l1_rng N x1 x2 hx x1.length 0 N (by omega) hN
def slices_IndexFunc_Peer (N : Nat) (x1 : (List Peer)) (x2 : Message) : Option (Int) :=
 joinP (fun (v197 : Unit) =>
 some (-1 : Int)) fun j197 =>
 (slices_IndexFunc_Peer_l1 N x1 x2 N 0).bind (Sum.elim (fun v220 => some v220) (fun (v221 : Unit) => j197 ()))
theorem sem_slices_IndexFunc_Peer (N : Nat) (x1 : (List Peer)) (x2 : Message) (r : Int) (h : slices_IndexFunc_Peer N x1 x2 = some r) : Says Tryz.prog 65 [RO 98 (x1.map encPeer),.fn 66 [.ptr 0 0]] 1 [(0,.box [VI x2.Kind,VI x2.From,VI x2.To,VI x2.Term,VI x2.Index,VI x2.LogTerm,VI x2.Commit,VB x2.Ok,RO 40 (x2.Entries.map encEntry),RO 3 (x2.Conf.map encI),VS x2.Data,VB x2.Last])] (VI r) [(0,.box [VI x2.Kind,VI x2.From,VI x2.To,VI x2.Term,VI x2.Index,VI x2.LogTerm,VI x2.Commit,VB x2.Ok,RO 40 (x2.Entries.map encEntry),RO 3 (x2.Conf.map encI),VS x2.Data,VB x2.Last])] := by
 unfold slices_IndexFunc_Peer at h
 refine Says.of_norm e Tryz.call65 e fun B hB => ?_
 have hm : B.m ≤ 1000 := by omega
 refine Run.so hm (.p e (.nil (.seqO h (fun v197 => []) (fun (v197 : Unit) => [(0,.box [VI x2.Kind,VI x2.From,VI x2.To,VI x2.Term,VI x2.Index,VI x2.LogTerm,VI x2.Commit,VB x2.Ok,RO 40 (x2.Entries.map encEntry),RO 3 (x2.Conf.map encI),VS x2.Data,VB x2.Last])]) (fun h => ?_) (fun v197 h => ?_))))
 ·refine Run.so hm (.p e (.z 5112 (Ev.lnF e) e e (.p e (.nil (.block ?_)))))
  obtain ⟨res221,h,hk221⟩ := bindO h
  refine Run.loop (n := N) (fun m221 fr σ => ∃ (x200 : Int),slices_IndexFunc_Peer_l1 N x1 x2 m221 x200 = some res221 ∧ fr = [(0,RO 98 (x1.map encPeer)),(1,.fn 66 [.ptr 0 0]),(7,VI (x1.length : Int)),(8,VI x200)] ∧ σ = [(0,.box [VI x2.Kind,VI x2.From,VI x2.To,VI x2.Term,VI x2.Index,VI x2.LogTerm,VI x2.Commit,VB x2.Ok,RO 40 (x2.Entries.map encEntry),RO 3 (x2.Conf.map encI),VS x2.Data,VB x2.Last])]) (gh_pk [0,1,7,8] [0] hB e e e e) ⟨_,h,e,e⟩ ?_
  rintro m221 fr σ ⟨x200,h,rfl,rfl⟩
  obtain _ | m221 := m221
  ·rw [slices_IndexFunc_Peer_l1] at h; cases h
  rw [slices_IndexFunc_Peer_l1] at h
  refine Run.so hm (.p e (.nil (.seq (.condO e h (fun g224 h => ?_) (fun g224 h => ?_)))))
  ·refine Run.skip (.seq (.block (.so hm (.p2 e e (.nil (.so hm (.p3 e e e ?_)))))))
   obtain ⟨x227,hx227,h⟩ := bindO h
   refine Ops.z 17432 (Ev.iaF e e hx227) e e (.p e ?_)
   obtain ⟨y228,hy228,h⟩ := bindO h
   refine Ops.z 17464 (Ev.callx [0] [] 0 e (sem_core_reply_1 _ _ _ _ hy228) e e (.cons (.agg (.d4 .nil)) (.cons (.ptr e) .nil)) e (.inl e) e e) e e (.nil (.condO e h (fun g229 h => ?_) (fun g229 h => ?_)))
   ·refine Run.so hm (.p2 e e (.nil (.ret ?_)))
    obtain rfl := someO h
    have h := hk221
    replace h := inlO h
    obtain rfl := someO h
    exact Ends.mkG (.inl e) e (gh_pk [0] [0] hB e e e e) e e
   ·exact Run.skip (.ops hm (.p2 e e (.nil (⟨m221,Nat.lt_succ_self m221,_,_,(gh_pk [0,1,7,8] [0] hB e e e e),_,h,e,e⟩))))
  ·refine Run.exit ?_
   obtain rfl := someO h
   have h := hk221
   replace h := inrO h
   exact ⟨_,_,(gh_pk [] [0] hB e e e e),(),h,e,e⟩
 ·refine Run.so hm (.p e (.nil (.ret ?_)))
  obtain rfl := someO h
  exact Ends.mkG (.inl e) e (gh_pk [0] [0] hB e e e e) e e
def slices_IndexFunc_Peer_i1_l1 (N : Nat) (x1 : (List Peer)) (x2 : Message) : Nat → Int → Option ((Int) ⊕ (Unit))
 | 0,_ => none
 | m + 1,x199 =>
 (if (decide (x199 < ((x1.length : Nat) : Int))) = true then
 (at? x1 x199).bind fun x227 =>
 (core_reply_1 N x227 x2).bind fun y228 =>
 (if y228 = true then
 some (Sum.inl x199)
 else
 slices_IndexFunc_Peer_i1_l1 N x1 x2 m (w64 (x199 + 1)))
 else
 some (Sum.inr ()))
def slices_IndexFunc_Peer_i1 (N : Nat) (x1 : (List Peer)) (x2 : Message) : Option (Int) :=
 joinP (fun (v197 : Unit) =>
 some (-1 : Int)) fun j197 =>
 (slices_IndexFunc_Peer_i1_l1 N x1 x2 N 0).bind (Sum.elim (fun v220 => some v220) (fun (v221 : Unit) => j197 ()))
theorem sem_slices_IndexFunc_Peer_i1 (N : Nat) (x1 : (List Peer)) (x2 : Message) (r : Int) (h : slices_IndexFunc_Peer_i1 N x1 x2 = some r) : Says Tryz.prog 65 [.sl 0 98 0 x1.length,.fn 66 [.ptr 1 0]] 2 [(0,.vec 98 (x1.map encPeer)),(1,.box [VI x2.Kind,VI x2.From,VI x2.To,VI x2.Term,VI x2.Index,VI x2.LogTerm,VI x2.Commit,VB x2.Ok,RO 40 (x2.Entries.map encEntry),RO 3 (x2.Conf.map encI),VS x2.Data,VB x2.Last])] (VI r) [(0,.vec 98 (x1.map encPeer)),(1,.box [VI x2.Kind,VI x2.From,VI x2.To,VI x2.Term,VI x2.Index,VI x2.LogTerm,VI x2.Commit,VB x2.Ok,RO 40 (x2.Entries.map encEntry),RO 3 (x2.Conf.map encI),VS x2.Data,VB x2.Last])] := by
 unfold slices_IndexFunc_Peer_i1 at h
 refine Says.of_norm e Tryz.call65 e fun B hB => ?_
 have hm : B.m ≤ 1000 := by omega
 refine Run.so hm (.p e (.nil (.seqO h (fun v197 => []) (fun (v197 : Unit) => [(0,.vec 98 (x1.map encPeer)),(1,.box [VI x2.Kind,VI x2.From,VI x2.To,VI x2.Term,VI x2.Index,VI x2.LogTerm,VI x2.Commit,VB x2.Ok,RO 40 (x2.Entries.map encEntry),RO 3 (x2.Conf.map encI),VS x2.Data,VB x2.Last])]) (fun h => ?_) (fun v197 h => ?_))))
 ·refine Run.so hm (.p3 e e e (.nil (.block ?_)))
  obtain ⟨res221,h,hk221⟩ := bindO h
  refine Run.loop (n := N) (fun m221 fr σ => ∃ (x199 : Int),slices_IndexFunc_Peer_i1_l1 N x1 x2 m221 x199 = some res221 ∧ fr = [(0,.sl 0 98 0 x1.length),(1,.fn 66 [.ptr 1 0]),(7,VI ((x1.length : Nat) : Int)),(8,VI x199)] ∧ σ = [(0,.vec 98 (x1.map encPeer)),(1,.box [VI x2.Kind,VI x2.From,VI x2.To,VI x2.Term,VI x2.Index,VI x2.LogTerm,VI x2.Commit,VB x2.Ok,RO 40 (x2.Entries.map encEntry),RO 3 (x2.Conf.map encI),VS x2.Data,VB x2.Last])]) (gh_pk [0,1,7,8] [0,1] hB e e e e) ⟨_,h,e,e⟩ ?_
  rintro m221 fr σ ⟨x199,h,rfl,rfl⟩
  obtain _ | m221 := m221
  ·rw [slices_IndexFunc_Peer_i1_l1] at h; cases h
  rw [slices_IndexFunc_Peer_i1_l1] at h
  refine Run.so hm (.p e (.nil (.seq (.condO e h (fun g224 h => ?_) (fun g224 h => ?_)))))
  ·refine Run.skip (.seq (.block (.so hm (.p2 e e (.nil (.so hm (.p3 e e e ?_)))))))
   obtain ⟨x227,hx227,h⟩ := bindO h
   refine Ops.z 17432 (Ev.iaW e e e hx227) e e (.z 17448 (Ev.ldE (f := encPeer) e e (at_some hx227).2 e e e) e e ?_)
   obtain ⟨y228,hy228,h⟩ := bindO h
   refine Ops.z 17464 (Ev.callx [1] [] 0 e (sem_core_reply_1 _ _ _ _ hy228) e e (.cons (.agg (.d4 .nil)) (.cons (.ptr e) .nil)) e (.inl e) e e) e e (.nil (.condO e h (fun g229 h => ?_) (fun g229 h => ?_)))
   ·refine Run.so hm (.p2 e e (.nil (.ret ?_)))
    obtain rfl := someO h
    have h := hk221
    replace h := inlO h
    obtain rfl := someO h
    exact Ends.mkG (.inl e) e (gh_pk [0] [0,1] hB e e e e) e e
   ·exact Run.skip (.ops hm (.p2 e e (.nil (⟨m221,Nat.lt_succ_self m221,_,_,(gh_pk [0,1,7,8] [0,1] hB e e e e),_,h,e,e⟩))))
  ·refine Run.exit ?_
   obtain rfl := someO h
   have h := hk221
   replace h := inrO h
   exact ⟨_,_,(gh_pk [] [0,1] hB e e e e),(),h,e,e⟩
 ·refine Run.so hm (.p e (.nil (.ret ?_)))
  obtain rfl := someO h
  exact Ends.mkG (.inl e) e (gh_pk [0] [0,1] hB e e e e) e e
def core_matched_1 (N : Nat) (x1 : Peer) (x2 : Int) : Option (Bool) :=
 some (x1.Id == x2)
theorem sem_core_matched_1 (N : Nat) (x1 : Peer) (x2 : Int) (r : Bool) (h : core_matched_1 N x1 x2 = some r) : Says Tryz.prog 107 [.agg [VI x1.Id,VI x1.Next,VI x1.Match,VI x1.Sent],.ptr 0 0] 1 [(0,.box [VI x2])] (VB r) [(0,.box [VI x2])] := by
 unfold core_matched_1 at h
 refine Says.of_norm e Tryz.call107 e fun B hB => ?_
 have hm : B.m ≤ 1000 := by omega
 refine Run.so hm (.z 1000 (.bx e e) e e (.p e (.nil (.so hm (.p3 e e e (.p2 e e (.nil (.ret ?_))))))))
 obtain rfl := someO h
 exact Ends.mkG (.inl e) e (gh_pk [0] [0] hB e e e e) e e
def slices_IndexFunc_Peer_i2_l1 (N : Nat) (x1 : (List Peer)) (x2 : Int) : Nat → Int → Option ((Int) ⊕ (Unit))
 | 0,_ => none
 | m + 1,x167 =>
 (if (decide (x167 < (x1.length : Int))) = true then
 (at? x1 x167).bind fun x183 =>
 (core_matched_1 N x183 x2).bind fun y184 =>
 (if y184 = true then
 some (Sum.inl x167)
 else
 slices_IndexFunc_Peer_i2_l1 N x1 x2 m (w64 (x167 + 1)))
 else
 some (Sum.inr ()))
def slices_IndexFunc_Peer_i2_l1_r (N : Nat) (x1 : (List Peer)) (x2 : Int) : (List Peer) → Int → Option ((Int) ⊕ (Unit))
 | [],x167 =>
 some (Sum.inr ())
 | hd :: tl,x167 =>
 (some hd).bind fun x183 =>
 (core_matched_1 N x183 x2).bind fun y184 =>
 (if y184 = true then
 some (Sum.inl x167)
 else
 slices_IndexFunc_Peer_i2_l1_r N x1 x2 tl (w64 (x167 + 1)))
theorem slices_IndexFunc_Peer_i2_l1_rng (N : Nat) (x1 : (List Peer)) (x2 : Int) (hx : x1.length ≤ 1099511627776) : ∀ (d k m : Nat),x1.length = k + d → d < m → slices_IndexFunc_Peer_i2_l1 N x1 x2 m (k : Int) = slices_IndexFunc_Peer_i2_l1_r N x1 x2 (x1.drop k) (k : Int) := by
 intro d
 induction d with
 | zero =>
  intro k m hd hm
  obtain ⟨m,rfl⟩ : ∃ q,m = q + 1 := ⟨m - 1,by omega⟩
  rw [slices_IndexFunc_Peer_i2_l1,if_neg (by simp; omega),List.drop_eq_nil_of_le (by omega),slices_IndexFunc_Peer_i2_l1_r]
 | succ d ih =>
  intro k m hd hm
  obtain ⟨m,rfl⟩ : ∃ q,m = q + 1 := ⟨m - 1,by omega⟩
  have hk : k < x1.length := by omega
  rw [slices_IndexFunc_Peer_i2_l1,if_pos (by simp; omega),List.drop_eq_getElem_cons hk,slices_IndexFunc_Peer_i2_l1_r]
  have h1 := at_lt hk
  have h2 := w64_succ (k := k) (by omega)
  have h3 := ih (k + 1) m
  simp only [h1,h2,h3 (by omega) (by omega)]
theorem slices_IndexFunc_Peer_i2_l1_eq {N : Nat} (x1 : (List Peer)) (x2 : Int) (hx : x1.length ≤ 1099511627776) (hN : x1.length < N) : slices_IndexFunc_Peer_i2_l1 N x1 x2 N 0 = slices_IndexFunc_Peer_i2_l1_r N x1 x2 x1 0 := slices_IndexFunc_Peer_i2_l1_rng N x1 x2 hx x1.length 0 N (by omega) hN
def slices_IndexFunc_Peer_i2 (N : Nat) (x1 : (List Peer)) (x2 : Int) : Option (Int) :=
 joinP (fun (v164 : Unit) =>
 some (-1 : Int)) fun j164 =>
 (slices_IndexFunc_Peer_i2_l1 N x1 x2 N 0).bind (Sum.elim (fun v176 => some v176) (fun (v177 : Unit) => j164 ()))
theorem sem_slices_IndexFunc_Peer_i2 (N : Nat) (x1 : (List Peer)) (x2 : Int) (r : Int) (h : slices_IndexFunc_Peer_i2 N x1 x2 = some r) : Says Tryz.prog 65 [RO 98 (x1.map encPeer),.fn 107 [.ptr 0 0]] 1 [(0,.box [VI x2])] (VI r) [(0,.box [VI x2])] := by
 unfold slices_IndexFunc_Peer_i2 at h
 refine Says.of_norm e Tryz.call65 e fun B hB => ?_
 have hm : B.m ≤ 1000 := by omega
 refine Run.so hm (.p e (.nil (.seqO h (fun v164 => []) (fun (v164 : Unit) => [(0,.box [VI x2])]) (fun h => ?_) (fun v164 h => ?_))))
 ·refine Run.so hm (.p e (.z 5112 (Ev.lnF e) e e (.p e (.nil (.block ?_)))))
  obtain ⟨res177,h,hk177⟩ := bindO h
  refine Run.loop (n := N) (fun m177 fr σ => ∃ (x167 : Int),slices_IndexFunc_Peer_i2_l1 N x1 x2 m177 x167 = some res177 ∧ fr = [(0,RO 98 (x1.map encPeer)),(1,.fn 107 [.ptr 0 0]),(7,VI (x1.length : Int)),(8,VI x167)] ∧ σ = [(0,.box [VI x2])]) (gh_pk [0,1,7,8] [0] hB e e e e) ⟨_,h,e,e⟩ ?_
  rintro m177 fr σ ⟨x167,h,rfl,rfl⟩
  obtain _ | m177 := m177
  ·rw [slices_IndexFunc_Peer_i2_l1] at h; cases h
  rw [slices_IndexFunc_Peer_i2_l1] at h
  refine Run.so hm (.p e (.nil (.seq (.condO e h (fun g180 h => ?_) (fun g180 h => ?_)))))
  ·refine Run.skip (.seq (.block (.so hm (.p2 e e (.nil (.so hm (.p3 e e e ?_)))))))
   obtain ⟨x183,hx183,h⟩ := bindO h
   refine Ops.z 17432 (Ev.iaF e e hx183) e e (.p e ?_)
   obtain ⟨y184,hy184,h⟩ := bindO h
   refine Ops.z 17464 (Ev.callx [0] [] 0 e (sem_core_matched_1 _ _ _ _ hy184) e e (.cons (.agg (.d4 .nil)) (.cons (.ptr e) .nil)) e (.inl e) e e) e e (.nil (.condO e h (fun g185 h => ?_) (fun g185 h => ?_)))
   ·refine Run.so hm (.p2 e e (.nil (.ret ?_)))
    obtain rfl := someO h
    have h := hk177
    replace h := inlO h
    obtain rfl := someO h
    exact Ends.mkG (.inl e) e (gh_pk [0] [0] hB e e e e) e e
   ·exact Run.skip (.ops hm (.p2 e e (.nil (⟨m177,Nat.lt_succ_self m177,_,_,(gh_pk [0,1,7,8] [0] hB e e e e),_,h,e,e⟩))))
  ·refine Run.exit ?_
   obtain rfl := someO h
   have h := hk177
   replace h := inrO h
   exact ⟨_,_,(gh_pk [] [0] hB e e e e),(),h,e,e⟩
 ·refine Run.so hm (.p e (.nil (.ret ?_)))
  obtain rfl := someO h
  exact Ends.mkG (.inl e) e (gh_pk [0] [0] hB e e e e) e e
end Go.Proofs.YtkojbcnafckofaaGreat.Pe.FnStays
