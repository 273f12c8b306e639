/- Functions,as pure functions; and that Go does just that. -/
import Derived.Test.YtkojbcnafckofaaGreatPeFFnStays12
namespace Go.Proofs.YtkojbcnafckofaaGreat.Pe.FnStays
open Go Go.RowKit
set_option linter.unusedVariables false
set_option linter.unusedSimpArgs false
set_option maxHeartbeats 40000000
set_option maxRecDepth 100000
def core_matched (N : Nat) (x1 : Tcore) (x2 : Int) (x3 : Int) : Option (Tcore) :=
 (at? x1.n.Peers x2).bind fun x128 =>
 (impl_last N x1.n.Log).bind fun y132 =>
 (core_commit N (Tcore.mk (Node.mk x1.n.Id x1.n.Term x1.n.Vote x1.n.Role x1.n.Lead x1.n.Conf x1.n.Log x1.n.Commit x1.n.Clock x1.n.Limit x1.n.Votes ((x1.n.Peers.set x2.toNat (Peer.mk x128.Id x128.Next (imax x128.Match (imin x3 y132)) x128.Sent)).set x2.toNat (Peer.mk ((Peer.mk x128.Id x128.Next (imax x128.Match (imin x3 y132)) x128.Sent).Id) (w64 (((Peer.mk x128.Id x128.Next (imax x128.Match (imin x3 y132)) x128.Sent).Match) + 1)) ((Peer.mk x128.Id x128.Next (imax x128.Match (imin x3 y132)) x128.Sent).Match) ((Peer.mk x128.Id x128.Next (imax x128.Match (imin x3 y132)) x128.Sent).Sent)))) x1.out)).bind fun y136 =>
 (slices_IndexFunc_Peer_i2 N y136.n.Peers x128.Id).bind fun y140 =>
 (if (decide (y140 ≥ 0)) = true then
 (at? y136.n.Peers y140).bind fun x145 =>
 (impl_last N y136.n.Log).bind fun y146 =>
 (if (decide (x145.Next ≤ y146)) = true then
 (core_send N y136 y140).bind fun y149 =>
 some (Tcore.mk (Node.mk y149.n.Id y149.n.Term y149.n.Vote y149.n.Role y149.n.Lead y136.n.Conf (Log.mk y149.n.Log.Start y149.n.Log.StartTerm y136.n.Log.Entries) y149.n.Commit y149.n.Clock y149.n.Limit y136.n.Votes y136.n.Peers) y149.out)
 else
 some y136)
 else
 some y136)
theorem sem_core_matched (N : Nat) (x1 : Tcore) (x2 : Int) (x3 : Int) (r : Tcore) (h : core_matched N x1 x2 x3 = some r) : Says Tryz.prog 67 [.ptr 0 0,VI x2,VI x3] 6 [(0,.box [VI x1.n.Id,VI x1.n.Term,VI x1.n.Vote,VI x1.n.Role,VI x1.n.Lead,.sl 1 3 0 x1.n.Conf.length,VI x1.n.Log.Start,VI x1.n.Log.StartTerm,.sl 2 40 0 x1.n.Log.Entries.length,VI x1.n.Commit,VI x1.n.Clock,VI x1.n.Limit,.sl 3 3 0 x1.n.Votes.length,.sl 4 98 0 x1.n.Peers.length,.sl 5 32 0 x1.out.length]),(1,.vec 3 (x1.n.Conf.map encI)),(2,.vec 40 (x1.n.Log.Entries.map encEntry)),(3,.vec 3 (x1.n.Votes.map encI)),(4,.vec 98 (x1.n.Peers.map encPeer)),(5,.vec 32 (x1.out.map (encMessage false)))] (.tup []) [(0,.box [VI r.n.Id,VI r.n.Term,VI r.n.Vote,VI r.n.Role,VI r.n.Lead,.sl 6 3 0 r.n.Conf.length,VI r.n.Log.Start,VI r.n.Log.StartTerm,.sl 7 40 0 r.n.Log.Entries.length,VI r.n.Commit,VI r.n.Clock,VI r.n.Limit,.sl 8 3 0 r.n.Votes.length,.sl 9 98 0 r.n.Peers.length,.sl 10 32 0 r.out.length]),(1,.gone),(2,.gone),(3,.gone),(4,.gone),(5,.gone),(6,.vec 3 (r.n.Conf.map encI)),(7,.vec 40 (r.n.Log.Entries.map encEntry)),(8,.vec 3 (r.n.Votes.map encI)),(9,.vec 98 (r.n.Peers.map encPeer)),(10,.vec 32 (r.out.map (encMessage false)))] := by
 unfold core_matched at h
 refine Says.of_norm e Tryz.call67 e fun B hB => ?_
 have hm : B.m ≤ 1000 := by omega
 refine Run.so hm (.p3 e e e (.p3 e e e ?_))
 obtain ⟨x128,hx128,h⟩ := bindO h
 refine Ops.z 1096 (Ev.iaW e e e hx128) e e (.p e (.nil (.so hm (.p3 e e e (.z 5144 (Ev.ldE (f := encPeer) e e (at_some hx128).2 e e e) e e (.z 5160 (.al e e) e e (.y 5176 (.sto e e e e e e) e e (.nil (.seq (.draw hm hmix (.p e (.p e (.p e (.p e (.z 9256 (Ev.ldE (f := encPeer) e e (at_some hx128).2 e e e) e e (.p e (.p e (.p e (.p e (.p e (.p e ?_)))))))))))))))))))))
 obtain ⟨y132,hy132,h⟩ := bindO h
 refine OpsD.z 9368 (Ev.call [] [2] 0 (sem_impl_last _ _ _ hy132) e e (.cons (.agg (.d2 (.cons (.borrow e (by decide) (lendW (fun _ => e) _ e)) .nil))) .nil) e (.inr ⟨e,ownL_root trivial⟩) e e) e e ?_
 refine OpsD.p e (.p e (.p e (.p e (.y 9448 (Ev.stE (f := encPeer) (v' := (Peer.mk x128.Id x128.Next (imax x128.Match (imin x3 y132)) x128.Sent)) e e (at_some hx128).2 e (.d1 .nil) e e e e e) e e (.nil ⟨by kernel_rfl,?_⟩)))))
 refine Run.so hm (.p3 e e e (.p e (.z 13352 (Ev.ldE (f := encPeer) e e (set_at (at_some hx128).2) e e e) e e (.p3 e e e (.y 13416 (Ev.stE (f := encPeer) (v' := (Peer.mk ((Peer.mk x128.Id x128.Next (imax x128.Match (imin x3 y132)) x128.Sent).Id) (w64 (((Peer.mk x128.Id x128.Next (imax x128.Match (imin x3 y132)) x128.Sent).Match) + 1)) ((Peer.mk x128.Id x128.Next (imax x128.Match (imin x3 y132)) x128.Sent).Match) ((Peer.mk x128.Id x128.Next (imax x128.Match (imin x3 y132)) x128.Sent).Sent))) e e (set_at (at_some hx128).2) e (.d1 .nil) e e e e e) e e (.nil (.so hm (.p e ?_))))))))
 obtain ⟨y136,hy136,h⟩ := bindO h
 have qy_136 := sem_core_commit N (Tcore.mk (Node.mk x1.n.Id x1.n.Term x1.n.Vote x1.n.Role x1.n.Lead x1.n.Conf x1.n.Log x1.n.Commit x1.n.Clock x1.n.Limit x1.n.Votes ((x1.n.Peers.set x2.toNat (Peer.mk x128.Id x128.Next (imax x128.Match (imin x3 y132)) x128.Sent)).set x2.toNat (Peer.mk ((Peer.mk x128.Id x128.Next (imax x128.Match (imin x3 y132)) x128.Sent).Id) (w64 (((Peer.mk x128.Id x128.Next (imax x128.Match (imin x3 y132)) x128.Sent).Match) + 1)) ((Peer.mk x128.Id x128.Next (imax x128.Match (imin x3 y132)) x128.Sent).Match) ((Peer.mk x128.Id x128.Next (imax x128.Match (imin x3 y132)) x128.Sent).Sent)))) x1.out) _ hy136
 simp only [List.length_set] at qy_136
 refine Ops.z 17400 (Ev.call [0,1,2,3,4,5] [] 5 qy_136 e e (.cons (.ptr e) .nil) e (.inl e) e e) e e (.nil (.so hm (.p3 e e e (.p3 e e e ?_))))
 obtain ⟨y140,hy140,h⟩ := bindO h
 refine Ops.z 21576 (Ev.call [5160] [17403] 0 (sem_slices_IndexFunc_Peer_i2 _ _ _ _ hy140) e e (.cons (.borrow e (by decide) (lendW (fun _ => e) _ e)) (.cons (.fn (.cons (.ptr e) .nil)) .nil)) e (.inr ⟨e,ownL_root ⟨e,trivial⟩⟩) e e) e e ?_
 refine Ops.p e (.nil (.seq (.draw hm hmix (.p e (.p e (.p e (.askO (x := .t 54) e h (fun g144 h => ?_) (fun g144 h => ?_))))))))
 ·refine OpsD.gp e g144 e (.gp e g144 e (.gp e g144 e (.gp e g144 e (.gp e g144 e (.gp e g144 e ?_)))))
  obtain ⟨x145,hx145,h⟩ := bindO h
  refine OpsD.gs (s := 25720) e g144 (Ev.iaW e e e hx145) e e (.gp e g144 e (.gs (s := 25752) e g144 (Ev.ldE (f := encPeer) e e (at_some hx145).2 e e e) e e (.gp e g144 e (.gp e g144 e (.gp e g144 e (.gp e g144 e (.gp e g144 e ?_)))))))
  obtain ⟨y146,hy146,h⟩ := bindO h
  refine OpsD.gs (s := 25848) e g144 (Ev.call [] [17401] 0 (sem_impl_last _ _ _ hy146) e e (.cons (.agg (.d2 (.cons (.borrow e (by decide) (lendW (fun _ => e) _ e)) .nil))) .nil) e (.inr ⟨e,ownL_root trivial⟩) e e) e e ?_
  refine OpsD.gp e g144 e (.z 25880 (.pkT e g144 e) e e (.nil ⟨by kernel_rfl,?_⟩))
  refine Run.condO e h (fun g147 h => ?_) (fun g147 h => ?_)
  ·refine Run.ops hm (.p2 e e ?_)
   obtain ⟨y149,hy149,h⟩ := bindO h
   refine Ops.z 29704 (Ev.call [0,17400,17401,17402,17403,17404] [] 1 (sem_core_send _ _ _ _ hy149) e e (.cons (.ptr e) (.d1 .nil)) e (.inl e) e e) e e (.nil ?_)
   obtain rfl := someO h
   exact Ends.mkG (.inr e) e (gh_pk [] [0,1,2,3,4,5,17400,17401,17402,17403,29704] hB e e e e) e e
  ·refine Run.skip ?_
   obtain rfl := someO h
   exact Ends.mkG (.inr e) e (gh_pk [] [0,1,2,3,4,5,17400,17401,17402,17403,17404] hB e e e e) e e
 ·refine OpsD.gn e g144 (.gn e g144 (.gn e g144 (.gn e g144 (.gn e g144 (.gn e g144 (.gn e g144 (.gn e g144 (.gn e g144 (.gn e g144 (.gn e g144 (.gn e g144 (.gn e g144 (.gn e g144 (.gn e g144 (.gn e g144 (.z 25880 (.pkF e g144 e) e e (.nil ⟨by kernel_rfl,?_⟩)))))))))))))))))
  refine Run.condF e e (.skip ?_)
  obtain rfl := someO h
  exact Ends.mkG (.inr e) e (gh_pk [] [0,1,2,3,4,5,17400,17401,17402,17403,17404] hB e e e e) e e
def core_reply (N : Nat) (x1 : Tcore) (x2 : Message) : Option (Tcore) :=
 (slices_IndexFunc_Peer_i1 N x1.n.Peers x2).bind fun y142 =>
 (if (x2.Term != x1.n.Term) = true then
 some x1
 else
 (if (x1.n.Role != 2) = true then
 some x1
 else
 (if (decide (y142 < 0)) = true then
 some x1
 else
 (at? x1.n.Peers y142).bind fun x156 =>
 joinP (fun (v166 : (List Peer)) =>
 (core_send N (Tcore.mk (Node.mk x1.n.Id x1.n.Term x1.n.Vote x1.n.Role x1.n.Lead x1.n.Conf x1.n.Log x1.n.Commit x1.n.Clock x1.n.Limit x1.n.Votes v166) x1.out) y142).bind fun y177 =>
 some (Tcore.mk (Node.mk y177.n.Id y177.n.Term y177.n.Vote y177.n.Role y177.n.Lead x1.n.Conf (Log.mk y177.n.Log.Start y177.n.Log.StartTerm x1.n.Log.Entries) y177.n.Commit y177.n.Clock y177.n.Limit x1.n.Votes v166) y177.out)) fun j166 =>
 (if x2.Ok = true then
 joinP (fun (v169 : (List Peer)) =>
 (core_matched N (Tcore.mk (Node.mk x1.n.Id x1.n.Term x1.n.Vote x1.n.Role x1.n.Lead x1.n.Conf x1.n.Log x1.n.Commit x1.n.Clock x1.n.Limit x1.n.Votes v169) x1.out) y142 x2.Index).bind fun y172 =>
 some y172) fun j169 =>
 (if (x2.Kind == 6) = true then
 j169 (x1.n.Peers.set y142.toNat (Peer.mk x156.Id x156.Next x156.Match 0))
 else
 j169 x1.n.Peers)
 else
 (if (x2.Kind == 4) = true then
 (if (decide ((imax (w64 (x2.Index + 1)) (w64 (x156.Match + 1))) < x156.Next)) = true then
 j166 (x1.n.Peers.set y142.toNat (Peer.mk x156.Id (imax (w64 (x2.Index + 1)) (w64 (x156.Match + 1))) x156.Match x156.Sent))
 else
 j166 x1.n.Peers)
 else
 (if (x2.Index == x1.n.Log.Start) = true then
 j166 ((x1.n.Peers.set y142.toNat (Peer.mk x156.Id x156.Next x156.Match 0)).set y142.toNat (Peer.mk ((Peer.mk x156.Id x156.Next x156.Match 0).Id) ((Peer.mk x156.Id x156.Next x156.Match 0).Next) ((Peer.mk x156.Id x156.Next x156.Match 0).Match) (imin x2.Commit 20000)))
 else
 j166 (x1.n.Peers.set y142.toNat (Peer.mk x156.Id x156.Next x156.Match 0))))))))
theorem sem_core_reply (N : Nat) (x1 : Tcore) (x2 : Message) (r : Tcore) (h : core_reply N x1 x2 = some r) : Says Tryz.prog 28 [.ptr 0 0,.agg [VI x2.Kind,VI x2.From,VI x2.To,VI x2.Term,VI x2.Index,VI x2.LogTerm,VI x2.Commit,VB x2.Ok,RO 40 (x2.Entries.map encEntry),RO 3 (x2.Conf.map encI),VS x2.Data,VB x2.Last]] 6 [(0,.box [VI x1.n.Id,VI x1.n.Term,VI x1.n.Vote,VI x1.n.Role,VI x1.n.Lead,.sl 1 3 0 x1.n.Conf.length,VI x1.n.Log.Start,VI x1.n.Log.StartTerm,.sl 2 40 0 x1.n.Log.Entries.length,VI x1.n.Commit,VI x1.n.Clock,VI x1.n.Limit,.sl 3 3 0 x1.n.Votes.length,.sl 4 98 0 x1.n.Peers.length,.sl 5 32 0 x1.out.length]),(1,.vec 3 (x1.n.Conf.map encI)),(2,.vec 40 (x1.n.Log.Entries.map encEntry)),(3,.vec 3 (x1.n.Votes.map encI)),(4,.vec 98 (x1.n.Peers.map encPeer)),(5,.vec 32 (x1.out.map (encMessage false)))] (.tup []) [(0,.box [VI r.n.Id,VI r.n.Term,VI r.n.Vote,VI r.n.Role,VI r.n.Lead,.sl 6 3 0 r.n.Conf.length,VI r.n.Log.Start,VI r.n.Log.StartTerm,.sl 7 40 0 r.n.Log.Entries.length,VI r.n.Commit,VI r.n.Clock,VI r.n.Limit,.sl 8 3 0 r.n.Votes.length,.sl 9 98 0 r.n.Peers.length,.sl 10 32 0 r.out.length]),(1,.gone),(2,.gone),(3,.gone),(4,.gone),(5,.gone),(6,.vec 3 (r.n.Conf.map encI)),(7,.vec 40 (r.n.Log.Entries.map encEntry)),(8,.vec 3 (r.n.Votes.map encI)),(9,.vec 98 (r.n.Peers.map encPeer)),(10,.vec 32 (r.out.map (encMessage false)))] := by
 unfold core_reply at h
 refine Says.of_norm e Tryz.call28 e fun B hB => ?_
 have hm : B.m ≤ 1000 := by omega
 refine Run.so hm (.z 1000 (.bx e e) e e (.nil (.so hm (.p3 e e e (.p e (.nil (.so hm (.p3 e e e (.p2 e e ?_)))))))))
 obtain ⟨y142,hy142,h⟩ := bindO h
 refine Ops.z 9272 (Ev.call [4,1000] [] 0 (sem_slices_IndexFunc_Peer_i1 _ _ _ _ hy142) e e (.cons (.sl e) (.cons (.fn (.cons (.ptr e) .nil)) .nil)) e (.inl e) e e) e e (.p e (.nil (.seq (.seq (.draw hm hmix (.p e (.p e (.p e (.p e (.p e (.p e (.p e (.p e (.askO (x := .t 24) e h (fun g150 h => ?_) (fun g150 h => ?_)))))))))))))))
 ·refine OpsD.gn e g150 (.gn e g150 (.gn e g150 (.gn e g150 (.gn e g150 (.z 13496 (.pkT e g150 e) e e (.p e (.gn e e (.gn e e (.z 13560 (.pkT e e e) e e (.nil ⟨by kernel_rfl,?_⟩))))))))))
  refine Run.condT e e (.ret ?_)
  obtain rfl := someO h
  exact Ends.mkG (.inl e) e (Gh.trans (Gh.trans (gh_prn [] [0,1,2,3,4,5] hB e) (gh_mvE [] [1,2,3,4,5] hB e e)) (gh_pk [] [0,1,2,3,4,5,30000001,30000002,30000003,30000004,30000005] hB e e e e)) e e
 ·refine OpsD.gp e g150 e (.gp e g150 e (.gp e g150 e (.gp e g150 e (.gp e g150 e (.z 13496 (.pkF e g150 e) e e (.p e (.askO (x := .t 31) e h (fun g151 h => ?_) (fun g151 h => ?_))))))))
  ·refine OpsD.gn e g151 (.gn e g151 (.z 13560 (.pkT e g151 e) e e (.nil ⟨by kernel_rfl,?_⟩)))
   refine Run.condT e e (.ret ?_)
   obtain rfl := someO h
   exact Ends.mkG (.inl e) e (Gh.trans (Gh.trans (gh_prn [] [0,1,2,3,4,5] hB e) (gh_mvE [] [1,2,3,4,5] hB e e)) (gh_pk [] [0,1,2,3,4,5,30000001,30000002,30000003,30000004,30000005] hB e e e e)) e e
  ·refine OpsD.gp e g151 e (.gp e g151 e (.z 13560 (.pkF e g151 e) e e (.nil ⟨by kernel_rfl,?_⟩)))
   refine Run.condO e h (fun g152 h => ?_) (fun g152 h => ?_)
   ·refine Run.ret ?_
    obtain rfl := someO h
    exact Ends.mkG (.inl e) e (Gh.trans (Gh.trans (gh_prn [] [0,1,2,3,4,5] hB e) (gh_mvE [] [1,2,3,4,5] hB e e)) (gh_pk [] [0,1,2,3,4,5,30000001,30000002,30000003,30000004,30000005] hB e e e e)) e e
   ·refine Run.skip (.so hm (.p3 e e e (.p2 e e ?_)))
    obtain ⟨x156,hx156,h⟩ := bindO h
    refine Ops.z 17464 (Ev.iaW e e e hx156) e e (.p e (.nil (.seqO h (fun v166 => [(0,.ptr 0 0),(5,VI y142)]) (fun (v166 : (List Peer)) => [(0,.box [VI x1.n.Id,VI x1.n.Term,VI x1.n.Vote,VI x1.n.Role,VI x1.n.Lead,.sl 1 3 0 x1.n.Conf.length,VI x1.n.Log.Start,VI x1.n.Log.StartTerm,.sl 2 40 0 x1.n.Log.Entries.length,VI x1.n.Commit,VI x1.n.Clock,VI x1.n.Limit,.sl 3 3 0 x1.n.Votes.length,.sl 4 98 0 v166.length,.sl 5 32 0 x1.out.length]),(1,.vec 3 (x1.n.Conf.map encI)),(2,.vec 40 (x1.n.Log.Entries.map encEntry)),(3,.vec 3 (x1.n.Votes.map encI)),(4,.vec 98 (v166.map encPeer)),(5,.vec 32 (x1.out.map (encMessage false)))]) (fun h => ?_) (fun v166 h => ?_))))
    ·refine Run.block (.so hm (.p3 e e e (.nil (.condO e h (fun g167 h => ?_) (fun g167 h => ?_)))))
     ·refine Run.seqO h (fun v169 => [(0,.ptr 0 0),(3,.ptr 6 0),(5,VI y142)]) (fun (v169 : (List Peer)) => [(0,.box [VI x1.n.Id,VI x1.n.Term,VI x1.n.Vote,VI x1.n.Role,VI x1.n.Lead,.sl 1 3 0 x1.n.Conf.length,VI x1.n.Log.Start,VI x1.n.Log.StartTerm,.sl 2 40 0 x1.n.Log.Entries.length,VI x1.n.Commit,VI x1.n.Clock,VI x1.n.Limit,.sl 3 3 0 x1.n.Votes.length,.sl 4 98 0 v169.length,.sl 5 32 0 x1.out.length]),(1,.vec 3 (x1.n.Conf.map encI)),(2,.vec 40 (x1.n.Log.Entries.map encEntry)),(3,.vec 3 (x1.n.Votes.map encI)),(4,.vec 98 (v169.map encPeer)),(5,.vec 32 (x1.out.map (encMessage false))),(6,.box [VI x2.Kind,VI x2.From,VI x2.To,VI x2.Term,VI x2.Index,VI x2.LogTerm,VI x2.Commit,VB x2.Ok,RO 40 (x2.Entries.map encEntry),RO 3 (x2.Conf.map encI),VS x2.Data,VB x2.Last])]) (fun h => ?_) (fun v169 h => ?_)
      ·refine Run.so hm (.p3 e e e (.nil (.condO e h (fun g170 h => ?_) (fun g170 h => ?_))))
       ·exact Run.ops hm (.p3 e e e (.y 42008 (Ev.stE (f := encPeer) (v' := (Peer.mk x156.Id x156.Next x156.Match 0)) e e (at_some hx156).2 e (.d1 .nil) e e e e e) e e (.nil (⟨_,_,(gh_pk [0,3,5] [0,1,2,3,4,5,1000] hB e e (by first | rfl | (simp only [List.length_set]; done) | (simp only [List.length_set]; rfl)) (by first | rfl | (simp only [List.length_set]; done) | (simp only [List.length_set]; rfl))),_,h,e,e⟩))))
       ·exact Run.skip (⟨_,_,(gh_pk [0,3,5] [0,1,2,3,4,5,1000] hB e e e e),_,h,e,e⟩)
      ·refine Run.so hm (.p3 e e e (.p e ?_))
       obtain ⟨y172,hy172,h⟩ := bindO h
       refine Ops.z 46120 (Ev.call [0,1,2,3,4,5] [] 5 (sem_core_matched _ _ _ _ _ hy172) e e (.cons (.ptr e) (.d2 .nil)) e (.inl e) e e) e e (.nil (.ret ?_))
       obtain rfl := someO h
       exact Ends.mkG (.inl e) e (gh_pk [] [0,1,2,3,4,5,46120,46121,46122,46123,46124] hB e e e e) e e
     ·refine Run.so hm (.p3 e e e (.p e (.nil (.condO e h (fun g173 h => ?_) (fun g173 h => ?_)))))
      ·refine Run.seq (.draw hm hmix (.p e (.p e (.p e (.p e (.p e (.p e (.z 54344 (Ev.ldE (f := encPeer) e e (at_some hx156).2 e e e) e e (.p e (.p e (.p e (.nil ⟨by kernel_rfl,?_⟩))))))))))))
       refine Run.so hm (.p3 e e e (.p e (.z 58408 (Ev.ldE (f := encPeer) e e (at_some hx156).2 e e e) e e (.p e (.nil (.condO e h (fun g174 h => ?_) (fun g174 h => ?_)))))))
       ·exact Run.ops hm (.p3 e e e (.p e (.y 62504 (Ev.stE (f := encPeer) (v' := (Peer.mk x156.Id (imax (w64 (x2.Index + 1)) (w64 (x156.Match + 1))) x156.Match x156.Sent)) e e (at_some hx156).2 e (.d1 .nil) e e e e e) e e (.nil (⟨_,_,(gh_pk [0,5] [0,1,2,3,4,5] hB e e (by first | rfl | (simp only [List.length_set]; done) | (simp only [List.length_set]; rfl)) (by first | rfl | (simp only [List.length_set]; done) | (simp only [List.length_set]; rfl))),_,h,e,e⟩)))))
       ·exact Run.skip (⟨_,_,(gh_pk [0,5] [0,1,2,3,4,5] hB e e e e),_,h,e,e⟩)
      ·refine Run.so hm (.p3 e e e (.y 21528 (Ev.stE (f := encPeer) (v' := (Peer.mk x156.Id x156.Next x156.Match 0)) e e (at_some hx156).2 e (.d1 .nil) e e e e e) e e (.nil (.seq (.draw hm hmix (.p e (.p e (.p e (.p e (.p e (.p e (.p e (.p e (.nil ⟨by kernel_rfl,?_⟩))))))))))))))
       refine Run.condO e h (fun g175 h => ?_) (fun g175 h => ?_)
       ·exact Run.ops hm (.p3 e e e (.p3 e e e (.y 29768 (Ev.stE (f := encPeer) (v' := (Peer.mk ((Peer.mk x156.Id x156.Next x156.Match 0).Id) ((Peer.mk x156.Id x156.Next x156.Match 0).Next) ((Peer.mk x156.Id x156.Next x156.Match 0).Match) (imin x2.Commit 20000))) e e (set_at (at_some hx156).2) e (.d1 .nil) e e e e e) e e (.nil (⟨_,_,(gh_pk [0,5] [0,1,2,3,4,5] hB e e (by first | rfl | (simp only [List.length_set]; done) | (simp only [List.length_set]; rfl)) (by first | rfl | (simp only [List.length_set]; done) | (simp only [List.length_set]; rfl))),_,h,e,e⟩)))))
       ·exact Run.skip (⟨_,_,(gh_pk [0,5] [0,1,2,3,4,5] hB e e (by first | rfl | (simp only [List.length_set]; done) | (simp only [List.length_set]; rfl)) (by first | rfl | (simp only [List.length_set]; done) | (simp only [List.length_set]; rfl))),_,h,e,e⟩)
    ·refine Run.ops hm (.p2 e e ?_)
     obtain ⟨y177,hy177,h⟩ := bindO h
     refine Ops.z 66568 (Ev.call [0,1,2,3,4,5] [] 1 (sem_core_send _ _ _ _ hy177) e e (.cons (.ptr e) (.d1 .nil)) e (.inl e) e e) e e (.nil ?_)
     obtain rfl := someO h
     exact Ends.mkG (.inr e) e (Gh.trans (Gh.trans (gh_prn [] [0,1,2,3,4,5,66568] hB e) (gh_mvE [] [1,2,3,4] hB e e)) (gh_pk [] [0,1,2,3,4,5,30000001,30000002,30000003,30000004,66568] hB e e e e)) e e
def impl_Receive (N : Nat) (x1 : Node) (x2 : Message) : Option (Node × (List Message) × Bool) :=
 (impl_NodeOk N x1).bind fun y169 =>
 (if (!y169) = true then
 some ((Node.mk 0 0 0 0 0 ([]) (Log.mk 0 0 ([])) 0 0 0 ([]) ([])),[],false)
 else
 (impl_MessageOk N x2).bind fun y171 =>
 (if (!y171) = true then
 some ((Node.mk 0 0 0 0 0 ([]) (Log.mk 0 0 ([])) 0 0 0 ([]) ([])),[],false)
 else
 (if (x2.To != x1.Id) = true then
 some ((Node.mk 0 0 0 0 0 ([]) (Log.mk 0 0 ([])) 0 0 0 ([]) ([])),[],false)
 else
 (impl_copyNode N x1).bind fun y177 =>
 joinP (fun (v179 : Int × Int × Int × Int × (List Int) × (List Peer)) =>
 joinP (fun (v196 : Int × Int × Int × Int × Int × Int × Int × Int × Int × Int × (List Int) × (List Entry) × (List Int) × (List Peer) × (List Message)) =>
 some ((Node.mk v196.1 v196.2.1 v196.2.2.1 v196.2.2.2.1 v196.2.2.2.2.1 v196.2.2.2.2.2.2.2.2.2.2.1 (Log.mk v196.2.2.2.2.2.1 v196.2.2.2.2.2.2.1 v196.2.2.2.2.2.2.2.2.2.2.2.1) v196.2.2.2.2.2.2.2.1 v196.2.2.2.2.2.2.2.2.1 v196.2.2.2.2.2.2.2.2.2.1 v196.2.2.2.2.2.2.2.2.2.2.2.2.1 v196.2.2.2.2.2.2.2.2.2.2.2.2.2.1),v196.2.2.2.2.2.2.2.2.2.2.2.2.2.2,true)) fun j196 =>
 (if (x2.Kind == 1) = true then
 (core_askVote N (Tcore.mk (Node.mk y177.Id v179.1 v179.2.1 v179.2.2.1 v179.2.2.2.1 y177.Conf y177.Log y177.Commit y177.Clock y177.Limit v179.2.2.2.2.1 v179.2.2.2.2.2) ([])) x2).bind fun y199 =>
 j196 (y199.n.Id,y199.n.Term,y199.n.Vote,y199.n.Role,y199.n.Lead,y199.n.Log.Start,y199.n.Log.StartTerm,y199.n.Commit,y199.n.Clock,y199.n.Limit,y177.Conf,y177.Log.Entries,v179.2.2.2.2.1,v179.2.2.2.2.2,y199.out)
 else
 (if (x2.Kind == 2) = true then
 (core_tellVote N (Tcore.mk (Node.mk y177.Id v179.1 v179.2.1 v179.2.2.1 v179.2.2.2.1 y177.Conf y177.Log y177.Commit y177.Clock y177.Limit v179.2.2.2.2.1 v179.2.2.2.2.2) ([])) x2).bind fun y202 =>
 j196 (y202.n.Id,y202.n.Term,y202.n.Vote,y202.n.Role,y202.n.Lead,y202.n.Log.Start,y202.n.Log.StartTerm,y202.n.Commit,y202.n.Clock,y202.n.Limit,y202.n.Conf,y202.n.Log.Entries,y202.n.Votes,y202.n.Peers,y202.out)
 else
 (if (x2.Kind == 3) = true then
 (core_askAppend N (Tcore.mk (Node.mk y177.Id v179.1 v179.2.1 v179.2.2.1 v179.2.2.2.1 y177.Conf y177.Log y177.Commit y177.Clock y177.Limit v179.2.2.2.2.1 v179.2.2.2.2.2) ([])) x2).bind fun y205 =>
 j196 (y205.n.Id,y205.n.Term,y205.n.Vote,y205.n.Role,y205.n.Lead,y205.n.Log.Start,y205.n.Log.StartTerm,y205.n.Commit,y205.n.Clock,y205.n.Limit,y205.n.Conf,y205.n.Log.Entries,y205.n.Votes,y205.n.Peers,y205.out)
 else
 (if (x2.Kind == 5) = true then
 (if (decide (x2.Term ≥ v179.1)) = true then
 (core_follows N (Tcore.mk (Node.mk y177.Id v179.1 v179.2.1 v179.2.2.1 v179.2.2.2.1 y177.Conf y177.Log y177.Commit y177.Clock y177.Limit v179.2.2.2.2.1 v179.2.2.2.2.2) ([])) x2.From).bind fun y209 =>
 j196 (y209.n.Id,y209.n.Term,y209.n.Vote,y209.n.Role,y209.n.Lead,y209.n.Log.Start,y209.n.Log.StartTerm,y209.n.Commit,y209.n.Clock,y209.n.Limit,y177.Conf,y177.Log.Entries,y209.n.Votes,y209.n.Peers,([] : (List Message)))
 else
 j196 (y177.Id,v179.1,v179.2.1,v179.2.2.1,v179.2.2.2.1,y177.Log.Start,y177.Log.StartTerm,y177.Commit,y177.Clock,y177.Limit,y177.Conf,y177.Log.Entries,v179.2.2.2.2.1,v179.2.2.2.2.2,([] : (List Message))))
 else
 (core_reply N (Tcore.mk (Node.mk y177.Id v179.1 v179.2.1 v179.2.2.1 v179.2.2.2.1 y177.Conf y177.Log y177.Commit y177.Clock y177.Limit v179.2.2.2.2.1 v179.2.2.2.2.2) ([])) x2).bind fun y211 =>
 j196 (y211.n.Id,y211.n.Term,y211.n.Vote,y211.n.Role,y211.n.Lead,y211.n.Log.Start,y211.n.Log.StartTerm,y211.n.Commit,y211.n.Clock,y211.n.Limit,y211.n.Conf,y211.n.Log.Entries,y211.n.Votes,y211.n.Peers,y211.out)))))) fun j179 =>
 (if (decide (x2.Term > x1.Term)) = true then
 j179 (x2.Term,0,0,0,([] : (List Int)),([] : (List Peer)))
 else
 j179 (y177.Term,y177.Vote,y177.Role,y177.Lead,y177.Votes,y177.Peers)))))
theorem sem_impl_Receive (N : Nat) (x1 : Node) (x2 : Message) (r : Node × (List Message) × Bool) (h : impl_Receive N x1 x2 = some r) : Says Tryz.prog 8 [.agg [VI x1.Id,VI x1.Term,VI x1.Vote,VI x1.Role,VI x1.Lead,RO 3 (x1.Conf.map encI),VI x1.Log.Start,VI x1.Log.StartTerm,RO 40 (x1.Log.Entries.map encEntry),VI x1.Commit,VI x1.Clock,VI x1.Limit,RO 3 (x1.Votes.map encI),RO 98 (x1.Peers.map encPeer)],.agg [VI x2.Kind,VI x2.From,VI x2.To,VI x2.Term,VI x2.Index,VI x2.LogTerm,VI x2.Commit,VB x2.Ok,RO 40 (x2.Entries.map encEntry),RO 3 (x2.Conf.map encI),VS x2.Data,VB x2.Last]] 0 [] (.tup [.agg [VI r.1.Id,VI r.1.Term,VI r.1.Vote,VI r.1.Role,VI r.1.Lead,.sl 0 3 0 r.1.Conf.length,VI r.1.Log.Start,VI r.1.Log.StartTerm,.sl 1 40 0 r.1.Log.Entries.length,VI r.1.Commit,VI r.1.Clock,VI r.1.Limit,.sl 2 3 0 r.1.Votes.length,.sl 3 98 0 r.1.Peers.length],.sl 4 32 0 r.2.1.length,VB r.2.2]) [(0,.vec 3 (r.1.Conf.map encI)),(1,.vec 40 (r.1.Log.Entries.map encEntry)),(2,.vec 3 (r.1.Votes.map encI)),(3,.vec 98 (r.1.Peers.map encPeer)),(4,.vec 32 (r.2.1.map (encMessage false)))] := by
 unfold impl_Receive at h
 refine Says.of_norm e Tryz.call8 e fun B hB => ?_
 have hm : B.m ≤ 1000 := by omega
 refine Run.so hm (.z 1000 (.bx e e) e e (.z 1016 (.bx e e) e e (.z 1032 (.al e e) e e (.p2 e e (.nil (.seq (.so hm (.p e ?_))))))))
 obtain ⟨y169,hy169,h⟩ := bindO h
 refine Ops.z 5112 (Ev.call [] [] 0 (sem_impl_NodeOk _ _ _ hy169) e e (.cons (.agg (.d4 (.d4 (.d4 (.d2 .nil))))) .nil) e (.inl e) e e) e e (.p2 e e (.askO (x := .t 11) e h (fun g170 h => ?_) (fun g170 h => ?_)))
 ·refine Ops.gn e g170 (.gn e g170 (.gn e g170 (.z 5208 (.pkT e g170 e) e e (.p e (.gn e e (.gn e e (.gn e e (.gn e e (.gn e e (.z 5320 (.pkT e e e) e e (.nil (.condT e e (.so hm (.z 9192 (.bd e e) e e (.y 9208 (.sto e e e e e e) e e (.p2 e e (.nil (.ret ?_))))))))))))))))))
  obtain rfl := someO h
  exact Ends.mkG (.inl e) e (Gh.trans (Gh.trans (gh_prn [0,1,2] [] hB e) (gh_nil [0,1] [] hB e e e)) (gh_pk [0,1,2] [10000000,10000001,10000002,10000003,10000064] hB e e e e)) e e
 ·refine Ops.gp e g170 e ?_
  obtain ⟨y171,hy171,h⟩ := bindO h
  refine Ops.gs (s := 5176) e g170 (Ev.call [] [] 0 (sem_impl_MessageOk _ _ _ hy171) e e (.cons (.agg (.d4 (.d4 (.d4 .nil)))) .nil) e (.inl e) e e) e e (.gp e g170 e (.z 5208 (.pkF e g170 e) e e (.p e (.askO (x := .t 16) e h (fun g172 h => ?_) (fun g172 h => ?_)))))
  ·refine Ops.gn e g172 (.gn e g172 (.gn e g172 (.gn e g172 (.gn e g172 (.z 5320 (.pkT e g172 e) e e (.nil (.condT e e (.so hm (.z 9192 (.bd e e) e e (.y 9208 (.sto e e e e e e) e e (.p2 e e (.nil (.ret ?_)))))))))))))
   obtain rfl := someO h
   exact Ends.mkG (.inl e) e (Gh.trans (Gh.trans (gh_prn [0,1,2] [] hB e) (gh_nil [0,1] [] hB e e e)) (gh_pk [0,1,2] [10000000,10000001,10000002,10000003,10000064] hB e e e e)) e e
  ·refine Ops.gp e g172 e (.gp e g172 e (.gp e g172 e (.gp e g172 e (.gp e g172 e (.z 5320 (.pkF e g172 e) e e (.nil (.condO e h (fun g173 h => ?_) (fun g173 h => ?_))))))))
   ·refine Run.so hm (.z 9192 (.bd e e) e e (.y 9208 (.sto e e e e e e) e e (.p2 e e (.nil (.ret ?_)))))
    obtain rfl := someO h
    exact Ends.mkG (.inl e) e (Gh.trans (Gh.trans (gh_prn [0,1,2] [] hB e) (gh_nil [0,1] [] hB e e e)) (gh_pk [0,1,2] [10000000,10000001,10000002,10000003,10000064] hB e e e e)) e e
   ·refine Run.skip (.so hm (.p e ?_))
    obtain ⟨y177,hy177,h⟩ := bindO h
    refine Ops.z 13304 (Ev.call [] [] 4 (sem_impl_copyNode _ _ _ hy177) e e (.cons (.agg (.d4 (.d4 (.d4 (.d2 .nil))))) .nil) e (.inl e) e e) e e (.z 13320 (.bd e e) e e (.z 13336 (.bx e e) e e (.p e (.nil (.seqO h (fun v179 => [(3,.ptr 0 0),(4,.ptr 1 0),(7,.ptr 2 0)]) (fun (v179 : Int × Int × Int × Int × (List Int) × (List Peer)) => [(0,.box [VI x2.Kind,VI x2.From,VI x2.To,VI x2.Term,VI x2.Index,VI x2.LogTerm,VI x2.Commit,VB x2.Ok,RO 40 (x2.Entries.map encEntry),RO 3 (x2.Conf.map encI),VS x2.Data,VB x2.Last]),(1,.box [VI 0,VI 0,VI 0,VI 0,VI 0,.sl 3 3 0 (([] : List Int).length),VI 0,VI 0,.sl 4 40 0 (([] : List Entry).length),VI 0,VI 0,VI 0,.sl 5 3 0 (([] : List Int).length),.sl 6 98 0 (([] : List Peer).length)]),(2,.box [VI y177.Id,VI v179.1,VI v179.2.1,VI v179.2.2.1,VI v179.2.2.2.1,.sl 7 3 0 y177.Conf.length,VI y177.Log.Start,VI y177.Log.StartTerm,.sl 8 40 0 y177.Log.Entries.length,VI y177.Commit,VI y177.Clock,VI y177.Limit,.sl 9 3 0 v179.2.2.2.2.1.length,.sl 10 98 0 v179.2.2.2.2.2.length,.sl 11 32 0 (([] : List Message).length)]),(3,.vec 3 (([] : List Int).map encI)),(4,.vec 40 (([] : List Entry).map encEntry)),(5,.vec 3 (([] : List Int).map encI)),(6,.vec 98 (([] : List Peer).map encPeer)),(7,.vec 3 (y177.Conf.map encI)),(8,.vec 40 (y177.Log.Entries.map encEntry)),(9,.vec 3 (v179.2.2.2.2.1.map encI)),(10,.vec 98 (v179.2.2.2.2.2.map encPeer)),(11,.vec 32 (([] : List Message).map (encMessage false)))]) (fun h => ?_) (fun v179 h => ?_))))))
    ·refine Run.so hm (.p3 e e e (.p2 e e (.nil (.condO e h (fun g180 h => ?_) (fun g180 h => ?_)))))
     ·exact Run.ops hm (.p3 e e e (.p3 e e e (.p3 e e e (.p2 e e (.y 21656 (.sto e e e e e e) e e (.p3 e e e (.y 21720 (.sto e e e e e e) e e (.p3 e e e (.y 21784 (.sto e e e e e e) e e (.p3 e e e (.y 21848 (.sto e e e e e e) e e (.p3 e e e (.y 21912 (.sto e e e e e e) e e (.p3 e e e (.y 21976 (.sto e e e e e e) e e (.nil (⟨_,_,(Gh.trans (Gh.trans (gh_prn [3,4,7] [1016,1032,13336,13304,13305] hB e) (gh_nil [] [1032,13336] hB e e e)) (gh_pk [3,4,7] [1016,1032,13336,20000000,20000001,20000002,20000003,13304,13305,20000064,20000065,20000066] hB e e e e)),_,h,e,e⟩)))))))))))))))))
     ·exact Run.skip (⟨_,_,(Gh.trans (Gh.trans (gh_prn [3,4,7] [1016,1032,13336,13304,13305,13306,13307] hB e) (gh_nil [] [1032,13336] hB e e e)) (gh_pk [3,4,7] [1016,1032,13336,20000000,20000001,20000002,20000003,13304,13305,13306,13307,20000064] hB e e e e)),_,h,e,e⟩)
    ·refine Run.seqO h (fun v196 => [(4,.ptr 0 0),(7,.ptr 1 0)]) (fun (v196 : Int × Int × Int × Int × Int × Int × Int × Int × Int × Int × (List Int) × (List Entry) × (List Int) × (List Peer) × (List Message)) => [(0,.box [VI 0,VI 0,VI 0,VI 0,VI 0,.sl 2 3 0 (([] : List Int).length),VI 0,VI 0,.sl 3 40 0 (([] : List Entry).length),VI 0,VI 0,VI 0,.sl 4 3 0 (([] : List Int).length),.sl 5 98 0 (([] : List Peer).length)]),(1,.box [VI v196.1,VI v196.2.1,VI v196.2.2.1,VI v196.2.2.2.1,VI v196.2.2.2.2.1,.sl 6 3 0 v196.2.2.2.2.2.2.2.2.2.2.1.length,VI v196.2.2.2.2.2.1,VI v196.2.2.2.2.2.2.1,.sl 7 40 0 v196.2.2.2.2.2.2.2.2.2.2.2.1.length,VI v196.2.2.2.2.2.2.2.1,VI v196.2.2.2.2.2.2.2.2.1,VI v196.2.2.2.2.2.2.2.2.2.1,.sl 8 3 0 v196.2.2.2.2.2.2.2.2.2.2.2.2.1.length,.sl 9 98 0 v196.2.2.2.2.2.2.2.2.2.2.2.2.2.1.length,.sl 10 32 0 v196.2.2.2.2.2.2.2.2.2.2.2.2.2.2.length]),(2,.vec 3 (([] : List Int).map encI)),(3,.vec 40 (([] : List Entry).map encEntry)),(4,.vec 3 (([] : List Int).map encI)),(5,.vec 98 (([] : List Peer).map encPeer)),(6,.vec 3 (v196.2.2.2.2.2.2.2.2.2.2.1.map encI)),(7,.vec 40 (v196.2.2.2.2.2.2.2.2.2.2.2.1.map encEntry)),(8,.vec 3 (v196.2.2.2.2.2.2.2.2.2.2.2.2.1.map encI)),(9,.vec 98 (v196.2.2.2.2.2.2.2.2.2.2.2.2.2.1.map encPeer)),(10,.vec 32 (v196.2.2.2.2.2.2.2.2.2.2.2.2.2.2.map (encMessage false)))]) (fun h => ?_) (fun v196 h => ?_)
     ·refine Run.so hm (.p2 e e (.nil (.block (.so hm (.p2 e e (.nil (.condO e h (fun g197 h => ?_) (fun g197 h => ?_))))))))
      ·refine Run.ops hm (.p2 e e ?_)
       obtain ⟨y199,hy199,h⟩ := bindO h
       exact Ops.z 37896 (Ev.call [2,7,8,9,10,11] [] 1 (sem_core_askVote _ _ _ _ hy199) e e (.cons (.ptr e) (.cons (.agg (.d4 (.d4 (.d4 .nil)))) .nil)) e (.inl e) e e) e e (.nil (⟨_,_,(gh_pk [4,7] [1,2,3,4,5,6,7,8,9,10,37896] hB e e e e),_,h,e,e⟩))
      ·refine Run.so hm (.p2 e e (.nil (.condO e h (fun g200 h => ?_) (fun g200 h => ?_))))
       ·refine Run.ops hm (.p2 e e ?_)
        obtain ⟨y202,hy202,h⟩ := bindO h
        exact Ops.z 46088 (Ev.call [2,7,8,9,10,11] [] 5 (sem_core_tellVote _ _ _ _ hy202) e e (.cons (.ptr e) (.cons (.agg (.d4 (.d4 (.d4 .nil)))) .nil)) e (.inl e) e e) e e (.nil (⟨_,_,(gh_pk [4,7] [1,2,3,4,5,6,46088,46089,46090,46091,46092] hB e e e e),_,h,e,e⟩))
       ·refine Run.so hm (.p2 e e (.nil (.condO e h (fun g203 h => ?_) (fun g203 h => ?_))))
        ·refine Run.ops hm (.p2 e e ?_)
         obtain ⟨y205,hy205,h⟩ := bindO h
         exact Ops.z 54280 (Ev.call [2,7,8,9,10,11] [] 5 (sem_core_askAppend _ _ _ _ hy205) e e (.cons (.ptr e) (.cons (.agg (.d4 (.d4 (.d4 .nil)))) .nil)) e (.inl e) e e) e e (.nil (⟨_,_,(gh_pk [4,7] [1,2,3,4,5,6,54280,54281,54282,54283,54284] hB e e e e),_,h,e,e⟩))
        ·refine Run.so hm (.p2 e e (.nil (.condO e h (fun g206 h => ?_) (fun g206 h => ?_))))
         ·refine Run.seq (.draw hm hmix (.p e (.p e (.p e (.p e (.p e (.p e (.p e (.p e (.nil ⟨by kernel_rfl,?_⟩))))))))))
          refine Run.condO e h (fun g207 h => ?_) (fun g207 h => ?_)
          ·refine Run.ops hm (.p3 e e e ?_)
           obtain ⟨y209,hy209,h⟩ := bindO h
           exact Ops.z 66584 (Ev.call [2,7,8,9,10,11] [] 2 (sem_core_follows _ _ _ _ hy209) e e (.cons (.ptr e) (.d1 .nil)) e (.inl e) e e) e e (.nil (⟨_,_,(gh_pk [4,7] [1,2,3,4,5,6,7,8,66584,66585,11] hB e e e e),_,h,e,e⟩))
          ·exact Run.skip (⟨_,_,(gh_pk [4,7] [1,2,3,4,5,6,7,8,9,10,11] hB e e e e),_,h,e,e⟩)
         ·refine Run.ops hm (.p2 e e ?_)
          obtain ⟨y211,hy211,h⟩ := bindO h
          exact Ops.z 29704 (Ev.call [2,7,8,9,10,11] [] 5 (sem_core_reply _ _ _ _ hy211) e e (.cons (.ptr e) (.cons (.agg (.d4 (.d4 (.d4 .nil)))) .nil)) e (.inl e) e e) e e (.nil (⟨_,_,(gh_pk [4,7] [1,2,3,4,5,6,29704,29705,29706,29707,29708] hB e e e e),_,h,e,e⟩))
     ·refine Run.seq (.draw hm hmix (.p e (.p e (.p e (.p e (.p e (.p e (.p e (.p e (.y 70760 (.sto e e e e e e) e e (.p e (.p e (.nil ⟨by kernel_rfl,?_⟩)))))))))))))
      refine Run.ret ?_
      obtain rfl := someO h
      exact Ends.mkG (.inl e) e (gh_pk [0,1,2] [6,7,8,9,10] hB e e e e) e e
def laws_sameLog_l1 (N : Nat) (x1 : Log) (x2 : Log) : Nat → Int → Option ((Bool) ⊕ (Unit))
 | 0,_ => none
 | m + 1,x224 =>
 (if (decide (x224 < (x1.Entries.length : Int))) = true then
 (at? x1.Entries x224).bind fun x255 =>
 (at? x2.Entries x224).bind fun x256 =>
 (if (((x255.Term == x256.Term) && ((x255.Kind == x256.Kind) && (decide (x255.Data = x256.Data) && true))) ^^ true) = true then
 some (Sum.inl false)
 else
 laws_sameLog_l1 N x1 x2 m (w64 (x224 + 1)))
 else
 some (Sum.inr ()))
def laws_sameLog_l1_r (N : Nat) (x1 : Log) (x2 : Log) : (List Entry) → Int → Option ((Bool) ⊕ (Unit))
 | [],x224 =>
 some (Sum.inr ())
 | hd :: tl,x224 =>
 (some hd).bind fun x255 =>
 (at? x2.Entries x224).bind fun x256 =>
 (if (((x255.Term == x256.Term) && ((x255.Kind == x256.Kind) && (decide (x255.Data = x256.Data) && true))) ^^ true) = true then
 some (Sum.inl false)
 else
 laws_sameLog_l1_r N x1 x2 tl (w64 (x224 + 1)))
theorem laws_sameLog_l1_rng (N : Nat) (x1 : Log) (x2 : Log) (hx : x1.Entries.length ≤ 1099511627776) : ∀ (d k m : Nat),x1.Entries.length = k + d → d < m → laws_sameLog_l1 N x1 x2 m (k : Int) = laws_sameLog_l1_r N x1 x2 (x1.Entries.drop k) (k : Int) := by
 intro d
 induction d with
 | zero =>
  intro k m hd hm
  obtain ⟨m,rfl⟩ : ∃ q,m = q + 1 := ⟨m - 1,by omega⟩
  rw [laws_sameLog_l1,if_neg (by simp; omega),List.drop_eq_nil_of_le (by omega),laws_sameLog_l1_r]
 | succ d ih =>
  intro k m hd hm
  obtain ⟨m,rfl⟩ : ∃ q,m = q + 1 := ⟨m - 1,by omega⟩
  have hk : k < x1.Entries.length := by omega
  rw [laws_sameLog_l1,if_pos (by simp; omega),List.drop_eq_getElem_cons hk,laws_sameLog_l1_r]
  have h1 := at_lt hk
  have h2 := w64_succ (k := k) (by omega)
  have h3 := ih (k + 1) m
  simp only [h1,h2,h3 (by omega) (by omega)]
theorem laws_sameLog_l1_eq {N : Nat} (x1 : Log) (x2 : Log) (hx : x1.Entries.length ≤ 1099511627776) (hN : x1.Entries.length < N) : laws_sameLog_l1 N x1 x2 N 0 = laws_sameLog_l1_r N x1 x2 x1.Entries 0 := laws_sameLog_l1_rng N x1 x2 hx x1.Entries.length 0 N (by omega) hN
def laws_sameLog (N : Nat) (x1 : Log) (x2 : Log) : Option (Bool) :=
 (if (x1.Start != x2.Start) = true then
 some false
 else
 (if (x1.StartTerm != x2.StartTerm) = true then
 some false
 else
 (if ((x1.Entries.length : Int) != (x2.Entries.length : Int)) = true then
 some false
 else
 joinP (fun (v223 : Unit) =>
 some true) fun j223 =>
 (laws_sameLog_l1 N x1 x2 N 0).bind (Sum.elim (fun v243 => some v243) (fun (v244 : Unit) => j223 ())))))
theorem sem_laws_sameLog (N : Nat) (x1 : Log) (x2 : Log) (r : Bool) (h : laws_sameLog N x1 x2 = some r) : Says Tryz.prog 10 [.agg [VI x1.Start,VI x1.StartTerm,RO 40 (x1.Entries.map encEntry)],.agg [VI x2.Start,VI x2.StartTerm,RO 40 (x2.Entries.map encEntry)]] 0 [] (VB r) [] := by
 unfold laws_sameLog at h
 refine Says.of_run s10 Tryz.call10 e fun B hB => ?_
 have hm : B.m ≤ 1000 := by omega
 refine Run.so hm (.z 1000 (.bx e e) e e (.z 1016 (.bx e e) e e (.p e (.nil (.seq (.so hm (.p3 e e e (.p3 e e e (.askO (x := .t 11) e h (fun g186 h => ?_) (fun g186 h => ?_))))))))))
 ·refine Ops.gn e g186 (.gn e g186 (.gn e g186 (.gn e g186 (.gn e g186 (.z 5272 (.pkT e g186 e) e e (.p e (.gn e e (.gn e e (.gn e e (.gn e e (.gn e e (.gn e e (.gn e e (.z 5416 (.pkT e e e) e e (.nil (.condT e e (.so hm (.p e (.nil (.ret ?_))))))))))))))))))))
  obtain rfl := someO h
  exact Ends.mkG (.inl e) e (gh_pk [0] [] hB e e e e) e e
 ·refine Ops.gp e g186 e (.gp e g186 e (.gp e g186 e (.gp e g186 e (.gp e g186 e (.z 5272 (.pkF e g186 e) e e (.p e (.askO (x := .t 18) e h (fun g187 h => ?_) (fun g187 h => ?_))))))))
  ·refine Ops.gn e g187 (.gn e g187 (.gn e g187 (.gn e g187 (.gn e g187 (.gn e g187 (.gn e g187 (.z 5416 (.pkT e g187 e) e e (.nil (.condT e e (.so hm (.p e (.nil (.ret ?_)))))))))))))
   obtain rfl := someO h
   exact Ends.mkG (.inl e) e (gh_pk [0] [] hB e e e e) e e
  ·refine Ops.gp e g187 e (.gp e g187 e (.gs (s := 5336) e g187 (Ev.lnF e) e e (.gp e g187 e (.gp e g187 e (.gs (s := 5384) e g187 (Ev.lnF e) e e (.gp e g187 e (.z 5416 (.pkF e g187 e) e e (.nil (.condO e h (fun g188 h => ?_) (fun g188 h => ?_))))))))))
   ·refine Run.so hm (.p e (.nil (.ret ?_)))
    obtain rfl := someO h
    exact Ends.mkG (.inl e) e (gh_pk [0] [] hB e e e e) e e
   ·refine Run.skip (.seqO h (fun v223 => []) (fun (v223 : Unit) => []) (fun h => ?_) (fun v223 h => ?_))
    ·refine Run.so hm (.p e (.nil (.block ?_)))
     obtain ⟨res244,h,hk244⟩ := bindO h
     refine Run.loop (n := N) (fun m244 fr σ => ∃ (x224 : Int),laws_sameLog_l1 N x1 x2 m244 x224 = some res244 ∧ fr = [(2,.ptr 0 0),(3,.ptr 1 0),(5,VI x224)] ∧ σ = [(0,.box [VI x1.Start,VI x1.StartTerm,RO 40 (x1.Entries.map encEntry)]),(1,.box [VI x2.Start,VI x2.StartTerm,RO 40 (x2.Entries.map encEntry)])]) (gh_pk [2,3,5] [1000,1016] hB e e e e) ⟨_,h,e,e⟩ ?_
     rintro m244 fr σ ⟨x224,h,rfl,rfl⟩
     obtain _ | m244 := m244
     ·rw [laws_sameLog_l1] at h; cases h
     rw [laws_sameLog_l1] at h
     refine Run.seq (.so hm (.p3 e e e (.z 17432 (Ev.lnF e) e e (.p e (.nil (.condO e h (fun g247 h => ?_) (fun g247 h => ?_)))))))
     ·refine Run.skip (.seq (.block (.seq (.draw hm hmix (.p e (.p e (.p e ?_)))))))
      obtain ⟨x255,hx255,h⟩ := bindO h
      refine OpsD.z 25624 (Ev.iaF e e hx255) e e (.p e (.p e (.p e (.p e ?_))))
      obtain ⟨x256,hx256,h⟩ := bindO h
      refine OpsD.z 25704 (Ev.iaF e e hx256) e e (.p e (.p e (.nil ⟨by kernel_rfl,?_⟩)))
      refine Run.condO e h (fun g257 h => ?_) (fun g257 h => ?_)
      ·refine Run.so hm (.p e (.nil (.ret ?_)))
       obtain rfl := someO h
       have h := hk244
       replace h := inlO h
       obtain rfl := someO h
       exact Ends.mkG (.inl e) e (gh_pk [0] [] hB e e e e) e e
      ·exact Run.skip (.ops hm (.p3 e e e (.nil (⟨m244,Nat.lt_succ_self m244,_,_,(gh_pk [2,3,5] [0,1] hB e e e e),_,h,e,e⟩))))
     ·refine Run.exit ?_
      obtain rfl := someO h
      have h := hk244
      replace h := inrO h
      exact ⟨_,_,(gh_pk [] [] hB e e e e),(),h,e,e⟩
    ·refine Run.so hm (.p e (.nil (.ret ?_)))
     obtain rfl := someO h
     exact Ends.mkG (.inl e) e (gh_pk [0] [] hB e e e e) e e
def laws_FnStays_l1 (N : Nat) (y274 : Node × Message) (y278 : Node × (List Message) × Bool) : Nat → Int → Option ((Bool) ⊕ (Unit))
 | 0,_ => none
 | m + 1,x366 =>
 (if (decide (x366 ≤ y274.1.Commit)) = true then
 (if (decide ((w64 ((w64 (x366 - y278.1.Log.Start)) - 1)) ≥ ((y278.1.Log.Entries.length : Nat) : Int))) = true then
 some (Sum.inl false)
 else
 (at? y278.1.Log.Entries (w64 ((w64 (x366 - y278.1.Log.Start)) - 1))).bind fun x427 =>
 (at? y274.1.Log.Entries (w64 ((w64 (x366 - y274.1.Log.Start)) - 1))).bind fun x428 =>
 (if (((x427.Term == x428.Term) && ((x427.Kind == x428.Kind) && (decide (x427.Data = x428.Data) && true))) ^^ true) = true then
 some (Sum.inl false)
 else
 laws_FnStays_l1 N y274 y278 m (w64 (x366 + 1))))
 else
 some (Sum.inr ()))
def laws_FnStays (N : Nat) (x1 : (List Int)) : Option (Bool) :=
 (laws_big N x1).bind fun y269 =>
 (if y269 = true then
 some true
 else
 (spec_DrawRightNode N x1).bind fun y274 =>
 (impl_Receive N y274.1 y274.2).bind fun y278 =>
 (spec_Receive N y274.1 y274.2).bind fun y282 =>
 (if ((y278.2.2 == y282.2.2) ^^ true) = true then
 some false
 else
 (if (!y278.2.2) = true then
 some (y278.1.Id == 0)
 else
 (if (y278.1.Log.Start != y274.1.Log.Start) = true then
 some false
 else
 (laws_sameLog N y278.1.Log y282.1.Log).bind fun y298 =>
 (if (!y298) = true then
 some false
 else
 (if (y278.1.Commit != y282.1.Commit) = true then
 some false
 else
 joinP (fun (v365 : Unit) =>
 some true) fun j365 =>
 (laws_FnStays_l1 N y274 y278 N (w64 (y274.1.Log.Start + 1))).bind (Sum.elim (fun v411 => some v411) (fun (v412 : Unit) => j365 ()))))))))
theorem sem_laws_FnStays (N : Nat) (x1 : (List Int)) (r : Bool) (h : laws_FnStays N x1 = some r) : Says Tryz.prog 3 [RO 5 (x1.map encU)] 0 [] (VB r) [] := by
 unfold laws_FnStays at h
 refine Says.of_run s3 Tryz.call3 e fun B hB => ?_
 have hm : B.m ≤ 1000 := by omega
 refine Run.so hm (.p e (.nil (.seq (.so hm (.p e ?_)))))
 obtain ⟨y269,hy269,h⟩ := bindO h
 refine Ops.z 5112 (Ev.call [] [] 0 (sem_laws_big _ _ _ hy269) e e (.d1 .nil) e (.inl e) e e) e e (.nil (.condO e h (fun g270 h => ?_) (fun g270 h => ?_)))
 ·refine Run.so hm (.p e (.nil (.ret ?_)))
  obtain rfl := someO h
  exact Ends.mkG (.inl e) e (gh_pk [0] [] hB e e e e) e e
 ·refine Run.skip (.so hm (.p e ?_))
  obtain ⟨y274,hy274,h⟩ := bindO h
  refine Ops.z 13304 (Ev.call [] [] 0 (sem_spec_DrawRightNode _ _ _ hy274) e e (.d1 .nil) e (.inl e) e e) e e (.p3 e e e (.z 13368 (.al e e) e e (.z 13384 (.al e e) e e (.y 13400 (.sto e e e e e e) e e (.y 13416 (.sto e e e e e e) e e (.nil (.so hm (.p2 e e ?_))))))))
  obtain ⟨y278,hy278,h⟩ := bindO h
  refine Ops.z 17416 (Ev.call [] [] 5 (sem_impl_Receive _ _ _ _ hy278) e e (.cons (.agg (.d4 (.d4 (.d4 (.d2 .nil))))) (.cons (.agg (.d4 (.d4 (.d4 .nil)))) .nil)) e (.inl e) e e) e e (.p3 e e e (.p e (.z 17496 (.al e e) e e (.y 17512 (.sto e e e e e e) e e (.p2 e e (.nil (.so hm (.p2 e e ?_))))))))
  obtain ⟨y282,hy282,h⟩ := bindO h
  refine Ops.z 21512 (Ev.call [] [] 5 (sem_spec_Receive _ _ _ _ hy282) e e (.cons (.agg (.d4 (.d4 (.d4 (.d2 .nil))))) (.cons (.agg (.d4 (.d4 (.d4 .nil)))) .nil)) e (.inl e) e e) e e (.p3 e e e (.p e (.z 21592 (.al e e) e e (.y 21608 (.sto e e e e e e) e e (.p2 e e (.nil (.seq (.so hm (.p3 e e e (.nil (.condO e h (fun g284 h => ?_) (fun g284 h => ?_))))))))))))
  ·refine Run.so hm (.p e (.nil (.ret ?_)))
   obtain rfl := someO h
   exact Ends.mkG (.inl e) e (gh_pk [0] [] hB e e e e) e e
  ·refine Run.skip (.seq (.so hm (.p2 e e (.nil (.condO e h (fun g286 h => ?_) (fun g286 h => ?_))))))
   ·refine Run.so hm (.p3 e e e (.p e (.nil (.ret ?_))))
    obtain rfl := someO h
    exact Ends.mkG (.inl e) e (gh_pk [0] [] hB e e e e) e e
   ·refine Run.skip (.seq (.so hm (.p3 e e e (.p3 e e e (.p2 e e (.askO (x := .t 48) e h (fun g297 h => ?_) (fun g297 h => ?_)))))))
    ·refine Ops.gn e g297 (.gn e g297 (.gn e g297 (.gn e g297 (.gn e g297 (.gn e g297 (.z 42184 (.pkT e g297 e) e e (.p e (.gn e e (.gn e e (.gn e e (.gn e e (.gn e e (.z 42296 (.pkT e e e) e e (.nil (.condT e e (.so hm (.p e (.nil (.ret ?_)))))))))))))))))))
     obtain rfl := someO h
     exact Ends.mkG (.inl e) e (gh_pk [0] [] hB e e e e) e e
    ·refine Ops.gp e g297 e (.gp e g297 e (.gp e g297 e (.gp e g297 e ?_)))
     obtain ⟨y298,hy298,h⟩ := bindO h
     refine Ops.gs (s := 42152) e g297 (Ev.call [] [17417,21513] 0 (sem_laws_sameLog _ _ _ _ hy298) e e (.cons (.agg (.d2 (.cons (.borrow e (by decide) (lendW (fun _ => e) _ e)) .nil))) (.cons (.agg (.d2 (.cons (.borrow e (by decide) (lendW (fun _ => e) _ e)) .nil))) .nil)) e (.inr ⟨e,ownL_root trivial⟩) e e) e e ?_
     refine Ops.gp e g297 e (.z 42184 (.pkF e g297 e) e e (.p e (.askO (x := .t 56) e h (fun g299 h => ?_) (fun g299 h => ?_))))
     ·refine Ops.gn e g299 (.gn e g299 (.gn e g299 (.gn e g299 (.gn e g299 (.z 42296 (.pkT e g299 e) e e (.nil (.condT e e (.so hm (.p e (.nil (.ret ?_)))))))))))
      obtain rfl := someO h
      exact Ends.mkG (.inl e) e (gh_pk [0] [] hB e e e e) e e
     ·refine Ops.gp e g299 e (.gp e g299 e (.gp e g299 e (.gp e g299 e (.gp e g299 e (.z 42296 (.pkF e g299 e) e e (.nil (.condO e h (fun g300 h => ?_) (fun g300 h => ?_))))))))
      ·refine Run.so hm (.p e (.nil (.ret ?_)))
       obtain rfl := someO h
       exact Ends.mkG (.inl e) e (gh_pk [0] [] hB e e e e) e e
      ·refine Run.skip (.seqO h (fun v365 => []) (fun (v365 : Unit) => []) (fun h => ?_) (fun v365 h => ?_))
       ·refine Run.so hm (.p3 e e e (.p2 e e (.nil (.block ?_))))
        obtain ⟨res412,h,hk412⟩ := bindO h
        refine Run.loop (n := N) (fun m412 fr σ => ∃ (x366 : Int),laws_FnStays_l1 N y274 y278 m412 x366 = some res412 ∧ fr = [(3,.ptr 0 0),(5,.ptr 1 0),(11,VI x366)] ∧ σ = [(0,.box [VI y274.1.Id,VI y274.1.Term,VI y274.1.Vote,VI y274.1.Role,VI y274.1.Lead,RO 3 (y274.1.Conf.map encI),VI y274.1.Log.Start,VI y274.1.Log.StartTerm,RO 40 (y274.1.Log.Entries.map encEntry),VI y274.1.Commit,VI y274.1.Clock,VI y274.1.Limit,RO 3 (y274.1.Votes.map encI),RO 98 (y274.1.Peers.map encPeer)]),(1,.box [VI y278.1.Id,VI y278.1.Term,VI y278.1.Vote,VI y278.1.Role,VI y278.1.Lead,.sl 2 3 0 y278.1.Conf.length,VI y278.1.Log.Start,VI y278.1.Log.StartTerm,.sl 3 40 0 y278.1.Log.Entries.length,VI y278.1.Commit,VI y278.1.Clock,VI y278.1.Limit,.sl 4 3 0 y278.1.Votes.length,.sl 5 98 0 y278.1.Peers.length]),(2,.vec 3 (y278.1.Conf.map encI)),(3,.vec 40 (y278.1.Log.Entries.map encEntry)),(4,.vec 3 (y278.1.Votes.map encI)),(5,.vec 98 (y278.1.Peers.map encPeer))]) (gh_pk [3,5,11] [13368,17496,17416,17417,17418,17419] hB e e e e) ⟨_,h,e,e⟩ ?_
        rintro m412 fr σ ⟨x366,h,rfl,rfl⟩
        obtain _ | m412 := m412
        ·rw [laws_FnStays_l1] at h; cases h
        rw [laws_FnStays_l1] at h
        refine Run.seq (.so hm (.p3 e e e (.p e (.nil (.condO e h (fun g415 h => ?_) (fun g415 h => ?_))))))
        ·refine Run.skip (.seq (.block (.seq (.draw hm hmix (.p e (.p e (.p e (.p e (.p e (.p e (.p e (.p e (.p e (.p e (.p e (.p e (.askO (x := .t 84) e h (fun g426 h => ?_) (fun g426 h => ?_))))))))))))))))))
         ·refine OpsD.gn e g426 (.gn e g426 (.gn e g426 (.gn e g426 (.gn e g426 (.gn e g426 (.gn e g426 (.gn e g426 (.gn e g426 (.gn e g426 (.gn e g426 (.gn e g426 (.gn e g426 (.gn e g426 (.gn e g426 (.gn e g426 (.gn e g426 (.gn e g426 (.gn e g426 (.gn e g426 (.gn e g426 (.gn e g426 (.gn e g426 (.z 63000 (.pkT e g426 e) e e (.nil ⟨by kernel_rfl,?_⟩))))))))))))))))))))))))
          refine Run.condT e e (.so hm (.p e (.nil (.ret ?_))))
          obtain rfl := someO h
          have h := hk412
          replace h := inlO h
          obtain rfl := someO h
          exact Ends.mkG (.inl e) e (gh_pk [0] [] hB e e e e) e e
         ·refine OpsD.gp e g426 e (.gp e g426 e (.gp e g426 e (.gp e g426 e (.gp e g426 e (.gp e g426 e (.gp e g426 e (.gp e g426 e (.gp e g426 e ?_))))))))
          obtain ⟨x427,hx427,h⟩ := bindO h
          refine OpsD.gs (s := 62776) e g426 (Ev.iaW e e e hx427) e e (.gs (s := 62792) e g426 (Ev.ldE (f := encEntry) e e (at_some hx427).2 e e e) e e (.gp e g426 e (.gp e g426 e (.gp e g426 e (.gp e g426 e (.gp e g426 e (.gp e g426 e (.gp e g426 e (.gp e g426 e (.gp e g426 e ?_))))))))))
          obtain ⟨x428,hx428,h⟩ := bindO h
          refine OpsD.gs (s := 62952) e g426 (Ev.iaF e e hx428) e e (.gp e g426 e (.gp e g426 e (.z 63000 (.pkF e g426 e) e e (.nil ⟨by kernel_rfl,?_⟩))))
          refine Run.condO e h (fun g429 h => ?_) (fun g429 h => ?_)
          ·refine Run.so hm (.p e (.nil (.ret ?_)))
           obtain rfl := someO h
           have h := hk412
           replace h := inlO h
           obtain rfl := someO h
           exact Ends.mkG (.inl e) e (gh_pk [0] [] hB e e e e) e e
          ·exact Run.skip (.ops hm (.p3 e e e (.nil (⟨m412,Nat.lt_succ_self m412,_,_,(gh_pk [3,5,11] [0,1,2,3,4,5] hB e e e e),_,h,e,e⟩))))
        ·refine Run.exit ?_
         obtain rfl := someO h
         have h := hk412
         replace h := inrO h
         exact ⟨_,_,(gh_pk [] [] hB e e e e),(),h,e,e⟩
       ·refine Run.so hm (.p e (.nil (.ret ?_)))
        obtain rfl := someO h
        exact Ends.mkG (.inl e) e (gh_pk [0] [] hB e e e e) e e
end Go.Proofs.YtkojbcnafckofaaGreat.Pe.FnStays
