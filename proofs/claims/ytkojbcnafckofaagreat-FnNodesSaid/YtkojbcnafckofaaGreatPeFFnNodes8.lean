/- Functions,as pure functions; and that Go does just that. -/
import Derived.Test.YtkojbcnafckofaaGreatPeFFnNodes7
namespace Go.Proofs.YtkojbcnafckofaaGreat.Pe.FnNodes
open Go Go.RowKit
set_option linter.unusedVariables false
set_option linter.unusedSimpArgs false
set_option maxHeartbeats 40000000
set_option maxRecDepth 100000
def c_askAppend (N : Nat) (x1 : TK) (x2 : Message) : Option (TK) :=
 (if (decide (x2.Term < x1.n.Term)) = true then
 (c_tell N x1 (Message.mk 4 0 x2.From 0 0 0 0 false ([]) ([]) (⟨#[]⟩ : ByteArray) false)).bind fun y156 =>
 some (TK.mk (Node.mk y156.n.Id y156.n.Term y156.n.Vote y156.n.Role y156.n.Lead x1.n.Conf (Log.mk y156.n.Log.Start y156.n.Log.StartTerm x1.n.Log.Entries) y156.n.Commit y156.n.Clock y156.n.Limit x1.n.Votes x1.n.Peers) y156.out)
 else
 (c_follows N x1 x2.From).bind fun y160 =>
 joinP (fun (v166 : Int × Int × (List Entry)) =>
 (i_LogTerm N (Log.mk y160.n.Log.Start y160.n.Log.StartTerm x1.n.Log.Entries) v166.1).bind fun y180 =>
 (if (y180 != v166.2.1) = true then
 (i_last N (Log.mk y160.n.Log.Start y160.n.Log.StartTerm x1.n.Log.Entries)).bind fun y184 =>
 (c_tell N (TK.mk (Node.mk y160.n.Id y160.n.Term y160.n.Vote y160.n.Role y160.n.Lead x1.n.Conf (Log.mk y160.n.Log.Start y160.n.Log.StartTerm x1.n.Log.Entries) y160.n.Commit y160.n.Clock y160.n.Limit y160.n.Votes y160.n.Peers) x1.out) (Message.mk 4 0 x2.From 0 (imin (imax (w64 (v166.1 - 1)) 0) y184) 0 0 false ([]) ([]) (⟨#[]⟩ : ByteArray) false)).bind fun y185 =>
 some (TK.mk (Node.mk y185.n.Id y185.n.Term y185.n.Vote y185.n.Role y185.n.Lead x1.n.Conf (Log.mk y185.n.Log.Start y185.n.Log.StartTerm x1.n.Log.Entries) y185.n.Commit y185.n.Clock y185.n.Limit y160.n.Votes y160.n.Peers) y185.out)
 else
 (i_taken N (Node.mk y160.n.Id y160.n.Term y160.n.Vote y160.n.Role y160.n.Lead x1.n.Conf (Log.mk y160.n.Log.Start y160.n.Log.StartTerm x1.n.Log.Entries) y160.n.Commit y160.n.Clock y160.n.Limit y160.n.Votes y160.n.Peers) v166.1 v166.2.2).bind fun y189 =>
 (if (!y189.2) = true then
 (i_last N (Log.mk y160.n.Log.Start y160.n.Log.StartTerm x1.n.Log.Entries)).bind fun y198 =>
 (c_tell N (TK.mk (Node.mk y160.n.Id y160.n.Term y160.n.Vote y160.n.Role y160.n.Lead x1.n.Conf (Log.mk y160.n.Log.Start y160.n.Log.StartTerm x1.n.Log.Entries) y160.n.Commit y160.n.Clock y160.n.Limit y160.n.Votes y160.n.Peers) x1.out) (Message.mk 4 0 x2.From 0 y198 0 0 false ([]) ([]) (⟨#[]⟩ : ByteArray) false)).bind fun y199 =>
 some (TK.mk (Node.mk y199.n.Id y199.n.Term y199.n.Vote y199.n.Role y199.n.Lead x1.n.Conf (Log.mk y199.n.Log.Start y199.n.Log.StartTerm x1.n.Log.Entries) y199.n.Commit y199.n.Clock y199.n.Limit y160.n.Votes y160.n.Peers) y199.out)
 else
 (c_tell N (TK.mk (Node.mk y160.n.Id y160.n.Term y160.n.Vote y160.n.Role y160.n.Lead x1.n.Conf y189.1 (imax y160.n.Commit (imin x2.Commit (w64 (v166.1 + (v166.2.2.length : Int))))) y160.n.Clock y160.n.Limit y160.n.Votes y160.n.Peers) x1.out) (Message.mk 4 0 x2.From 0 (w64 (v166.1 + (v166.2.2.length : Int))) 0 0 true ([]) ([]) (⟨#[]⟩ : ByteArray) false)).bind fun y201 =>
 some (TK.mk (Node.mk y201.n.Id y201.n.Term y201.n.Vote y201.n.Role y201.n.Lead x1.n.Conf (Log.mk y201.n.Log.Start y201.n.Log.StartTerm y189.1.Entries) y201.n.Commit y201.n.Clock y201.n.Limit y160.n.Votes y160.n.Peers) y201.out)))) fun j166 =>
 (if (decide (x2.Index < y160.n.Log.Start)) = true then
 (drop? x2.Entries (imin (x2.Entries.length : Int) (w64 (y160.n.Log.Start - x2.Index)))).bind fun x171 =>
 j166 (y160.n.Log.Start,y160.n.Log.StartTerm,x171)
 else
 j166 (x2.Index,x2.LogTerm,x2.Entries)))
theorem sem_c_askAppend (N : Nat) (x1 : TK) (x2 : Message) (r : TK) (h : c_askAppend N x1 x2 = some r) : Says Tryz.prog 26 [.ptr 0 0,.agg [VI x2.Kind,VI x2.From,VI x2.To,VI x2.Term,VI x2.Index,VI x2.LogTerm,VI x2.Commit,VB x2.Ok,RO 40 (x2.Entries.map eE),RO 3 (x2.Conf.map encI),VS x2.Data,VB x2.Last]] 6 [(0,.box [VI x1.n.Id,VI x1.n.Term,VI x1.n.Vote,VI x1.n.Role,VI x1.n.Lead,.sl 1 3 0 x1.n.Conf.length,VI x1.n.Log.Start,VI x1.n.Log.StartTerm,.sl 2 40 0 x1.n.Log.Entries.length,VI x1.n.Commit,VI x1.n.Clock,VI x1.n.Limit,.sl 3 3 0 x1.n.Votes.length,.sl 4 98 0 x1.n.Peers.length,.sl 5 32 0 x1.out.length]),(1,.vec 3 (x1.n.Conf.map encI)),(2,.vec 40 (x1.n.Log.Entries.map eE)),(3,.vec 3 (x1.n.Votes.map encI)),(4,.vec 98 (x1.n.Peers.map eP)),(5,.vec 32 (x1.out.map (eM false)))] (.tup []) [(0,.box [VI r.n.Id,VI r.n.Term,VI r.n.Vote,VI r.n.Role,VI r.n.Lead,.sl 6 3 0 r.n.Conf.length,VI r.n.Log.Start,VI r.n.Log.StartTerm,.sl 7 40 0 r.n.Log.Entries.length,VI r.n.Commit,VI r.n.Clock,VI r.n.Limit,.sl 8 3 0 r.n.Votes.length,.sl 9 98 0 r.n.Peers.length,.sl 10 32 0 r.out.length]),(1,.gone),(2,.gone),(3,.gone),(4,.gone),(5,.gone),(6,.vec 3 (r.n.Conf.map encI)),(7,.vec 40 (r.n.Log.Entries.map eE)),(8,.vec 3 (r.n.Votes.map encI)),(9,.vec 98 (r.n.Peers.map eP)),(10,.vec 32 (r.out.map (eM false)))] := by
 unfold c_askAppend at h
 refine Says.of_norm e Tryz.call26 e fun B hB => ?_
 have hm : B.m ≤ 1000 := by omega
 refine Run.so hm (.z 1000 (.bx e e) e e (.nil (.so hm (.p3 e e e (.p e (.nil (.seq (.seq (.draw hm hmix (.p e (.p e (.p e (.p e (.p e (.p e (.p e (.nil ⟨by kernel_rfl,?_⟩)))))))))))))))))
 refine Run.condO e h (fun g154 h => ?_) (fun g154 h => ?_)
 ·refine Run.so hm (.p3 e e e (.z 13336 (.bd e e) e e ?_))
  obtain ⟨y156,hy156,h⟩ := bindO h
  refine Ops.z 13352 (Ev.call [0,1,2,3,4,5] [] 1 (sem_c_tell _ _ _ _ hy156) e e (.cons (.ptr e) (.cons (.agg (.d4 (.d4 (.cons (.nil _ _) (.cons (.nil _ _) (.d2 .nil)))))) .nil)) e (.inl e) e e) e e (.nil (.ret ?_))
  obtain rfl := someO h
  exact Ends.mkG (.inl e) e (Gh.trans (Gh.trans (gh_prn [] [0,1,2,3,4,5,13352] hB e) (gh_mvE [] [1,2,3,4] hB e e)) (gh_pk [] [0,1,2,3,4,5,30000001,30000002,30000003,30000004,13352] hB e e e e)) e e
 ·refine Run.skip (.so hm (.p3 e e e ?_))
  obtain ⟨y160,hy160,h⟩ := bindO h
  refine Ops.z 17432 (Ev.call [0,1,2,3,4,5] [] 2 (sem_c_follows _ _ _ _ hy160) e e (.cons (.ptr e) (.d1 .nil)) e (.inl e) e e) e e (.nil (.seq (.draw hm hmix (.p e (.p e (.p e (.p e (.p e (.p e (.p e (.p e (.p e (.nil ⟨by kernel_rfl,?_⟩)))))))))))))
  refine Run.seqO h (fun v166 => [(0,.ptr 0 0),(3,.ptr 6 0),(4,.ptr 0 0),(5,VI v166.1),(6,VI v166.2.1),(7,RO 40 (v166.2.2.map eE))]) (fun (v166 : Int × Int × (List Entry)) => [(0,.box [VI y160.n.Id,VI y160.n.Term,VI y160.n.Vote,VI y160.n.Role,VI y160.n.Lead,.sl 1 3 0 x1.n.Conf.length,VI y160.n.Log.Start,VI y160.n.Log.StartTerm,.sl 2 40 0 x1.n.Log.Entries.length,VI y160.n.Commit,VI y160.n.Clock,VI y160.n.Limit,.sl 7 3 0 y160.n.Votes.length,.sl 8 98 0 y160.n.Peers.length,.sl 5 32 0 x1.out.length]),(1,.vec 3 (x1.n.Conf.map encI)),(2,.vec 40 (x1.n.Log.Entries.map eE)),(3,.gone),(4,.gone),(5,.vec 32 (x1.out.map (eM false))),(6,.box [VI x2.Kind,VI x2.From,VI x2.To,VI x2.Term,VI x2.Index,VI x2.LogTerm,VI x2.Commit,VB x2.Ok,RO 40 (x2.Entries.map eE),RO 3 (x2.Conf.map encI),VS x2.Data,VB x2.Last]),(7,.vec 3 (y160.n.Votes.map encI)),(8,.vec 98 (y160.n.Peers.map eP))]) (fun h => ?_) (fun v166 h => ?_)
  ·refine Run.so hm (.p3 e e e (.p3 e e e (.p e (.nil (.condO e h (fun g167 h => ?_) (fun g167 h => ?_))))))
   ·refine Run.so hm (.p2 e e (.z 29704 (Ev.lnF e) e e (.p3 e e e (.p3 e e e (.p2 e e ?_)))))
    obtain ⟨x171,hx171,h⟩ := bindO h
    refine Ops.z 29848 (Ev.slFl e e hx171) e e (.p e (.nil (.draw hm hmix (.p e (.p e (.p e (.p e (.p e (.p e (.p e (.p e (.p e (.p e (.p e (.p e (.nil ⟨by kernel_rfl,?_⟩))))))))))))))))
    exact ⟨_,_,(gh_pk [0,3,4,5,6,7] [0,1,2,3,4,5,1000,17432,17433] hB e e e e),_,h,e,e⟩
   ·exact Run.skip (⟨_,_,(gh_pk [0,3,4,5,6,7] [0,1,2,3,4,5,1000,17432,17433] hB e e e e),_,h,e,e⟩)
  ·refine Run.seq (.so hm (.p3 e e e (.p2 e e ?_)))
   obtain ⟨y180,hy180,h⟩ := bindO h
   refine Ops.z 37944 (Ev.call [] [2] 0 (sem_i_LogTerm _ _ _ _ hy180) e e (.cons (.agg (.d2 (.cons (.borrow e (by decide) (lendW (fun _ => e) _ e)) .nil))) (.d1 .nil)) e (.inr ⟨e,ownL_root trivial⟩) e e) e e ?_
   refine Ops.p e (.p e (.nil (.condO e h (fun g181 h => ?_) (fun g181 h => ?_))))
   ·refine Run.seq (.draw hm hmix (.p e (.p e (.p e (.p e (.p e (.p e (.p e (.p e (.p e (.p e ?_)))))))))))
    obtain ⟨y184,hy184,h⟩ := bindO h
    refine OpsD.z 42120 (Ev.call [] [2] 0 (sem_i_last _ _ _ hy184) e e (.cons (.agg (.d2 (.cons (.borrow e (by decide) (lendW (fun _ => e) _ e)) .nil))) .nil) e (.inr ⟨e,ownL_root trivial⟩) e e) e e ?_
    refine OpsD.p e (.z 42152 (.bd e e) e e ?_)
    obtain ⟨y185,hy185,h⟩ := bindO h
    refine OpsD.z 42168 (Ev.call [0,1,2,7,8,5] [] 1 (sem_c_tell _ _ _ _ hy185) e e (.cons (.ptr e) (.cons (.agg (.d4 (.d4 (.cons (.nil _ _) (.cons (.nil _ _) (.d2 .nil)))))) .nil)) e (.inl e) e e) e e (.nil ⟨by kernel_rfl,?_⟩)
    refine Run.ret ?_
    obtain rfl := someO h
    exact Ends.mkG (.inl e) e (Gh.trans (Gh.trans (gh_prn [] [0,1,2,3,4,5,7,8,42168] hB e) (gh_mvE [] [1,2] hB e e)) (gh_pk [] [0,1,2,3,4,5,30000001,30000002,7,8,42168] hB e e e e)) e e
   ·refine Run.skip (.so hm (.p3 e e e (.p2 e e ?_)))
    obtain ⟨y189,hy189,h⟩ := bindO h
    refine Ops.z 46136 (Ev.call [] [1,2,7,8] 1 (sem_i_taken _ _ _ _ _ hy189) e e (.cons (.agg (.d4 (.d1 (.cons (.borrow e (by decide) (lendW (fun _ => e) _ e)) (.d2 (.cons (.borrow e (by decide) (lendW (fun _ => e) _ e)) (.d2 (.d1 (.cons (.borrow e (by decide) (lendW (fun _ => e) _ e)) (.cons (.borrow e (by decide) (lendW (fun _ => e) _ e)) .nil)))))))))) (.d2 .nil)) e (.inr ⟨e,ownL_root ⟨own_rows (fun _ => e) _,trivial⟩⟩) e e) e e ?_
    refine Ops.p e (.p2 e e (.z 46200 (.al e e) e e (.y 46216 (.sto e e e e e e) e e (.p e (.nil (.seq (.so hm (.p2 e e (.nil (.condO e h (fun g195 h => ?_) (fun g195 h => ?_)))))))))))
    ·refine Run.seq (.draw hm hmix (.p e (.p e (.p e (.p e (.p e (.p e (.p e ?_))))))))
     obtain ⟨y198,hy198,h⟩ := bindO h
     refine OpsD.z 54360 (Ev.call [] [2] 0 (sem_i_last _ _ _ hy198) e e (.cons (.agg (.d2 (.cons (.borrow e (by decide) (lendW (fun _ => e) _ e)) .nil))) .nil) e (.inr ⟨e,ownL_root trivial⟩) e e) e e ?_
     refine OpsD.z 54376 (.bd e e) e e ?_
     obtain ⟨y199,hy199,h⟩ := bindO h
     refine OpsD.z 54392 (Ev.call [0,1,2,7,8,5] [] 1 (sem_c_tell _ _ _ _ hy199) e e (.cons (.ptr e) (.cons (.agg (.d4 (.d4 (.cons (.nil _ _) (.cons (.nil _ _) (.d2 .nil)))))) .nil)) e (.inl e) e e) e e (.nil ⟨by kernel_rfl,?_⟩)
     refine Run.ret ?_
     obtain rfl := someO h
     exact Ends.mkG (.inl e) e (Gh.trans (Gh.trans (gh_prn [] [0,1,2,3,4,5,7,8,54392] hB e) (gh_mvE [] [1,2] hB e e)) (gh_pk [] [0,1,2,3,4,5,30000001,30000002,7,8,54392] hB e e e e)) e e
    ·refine Run.skip (.so hm (.p3 e e e (.p e (.y 58408 (.sto e e e e e e) e e (.nil (.so hm (.p2 e e (.z 62472 (Ev.lnF e) e e (.p2 e e (.nil (.seq (.draw hm hmix (.p e (.p e (.p e (.p e (.p e (.p e (.p e (.p e (.p e (.p e (.p e (.p e (.y 66728 (.sto e e e e e e) e e (.nil ⟨by kernel_rfl,?_⟩))))))))))))))))))))))))))
     refine Run.ops hm (.p3 e e e (.p e (.z 70696 (.bd e e) e e ?_)))
     obtain ⟨y201,hy201,h⟩ := bindO h
     refine Ops.z 70712 (Ev.call [0,1,46136,7,8,5] [] 1 (sem_c_tell _ _ _ _ hy201) e e (.cons (.ptr e) (.cons (.agg (.d4 (.d4 (.cons (.nil _ _) (.cons (.nil _ _) (.d2 .nil)))))) .nil)) e (.inl e) e e) e e (.nil ?_)
     obtain rfl := someO h
     exact Ends.mkG (.inr e) e (Gh.trans (Gh.trans (gh_prn [] [0,1,2,3,4,5,46136,7,8,70712] hB e) (gh_mvE [] [1,2] hB e e)) (gh_pk [] [0,1,2,3,4,5,30000001,46136,7,8,70712] hB e e e e)) e e
def c_reply_1 (N : Nat) (x1 : Peer) (x2 : Message) : Option (Bool) :=
 some (x1.Id == x2.From)
theorem sem_c_reply_1 (N : Nat) (x1 : Peer) (x2 : Message) (r : Bool) (h : c_reply_1 N x1 x2 = some r) : Says Tryz.prog 66 [.agg [VI x1.Id,VI x1.Next,VI x1.Match,VI x1.Sent],.ptr 0 0] 1 [(0,.box [VI x2.Kind,VI x2.From,VI x2.To,VI x2.Term,VI x2.Index,VI x2.LogTerm,VI x2.Commit,VB x2.Ok,RO 40 (x2.Entries.map eE),RO 3 (x2.Conf.map encI),VS x2.Data,VB x2.Last])] (VB r) [(0,.box [VI x2.Kind,VI x2.From,VI x2.To,VI x2.Term,VI x2.Index,VI x2.LogTerm,VI x2.Commit,VB x2.Ok,RO 40 (x2.Entries.map eE),RO 3 (x2.Conf.map encI),VS x2.Data,VB x2.Last])] := by
 unfold c_reply_1 at h
 refine Says.of_norm e Tryz.call66 e fun B hB => ?_
 have hm : B.m ≤ 1000 := by omega
 refine Run.so hm (.z 1000 (.bx e e) e e (.p e (.nil (.so hm (.p3 e e e (.p3 e e e (.nil (.ret ?_))))))))
 obtain rfl := someO h
 exact Ends.mkG (.inl e) e (gh_pk [0] [0] hB e e e e) e e
def L_IndexFunc_Peer_i1_l1 (N : Nat) (x1 : (List Peer)) (x2 : Message) : Nat → Int → Option ((Int) ⊕ (Unit))
 | 0,_ => none
 | m + 1,x199 =>
 (if (decide (x199 < ((x1.length : Nat) : Int))) = true then
 (at? x1 x199).bind fun x227 =>
 (c_reply_1 N x227 x2).bind fun y228 =>
 (if y228 = true then
 some (Sum.inl x199)
 else
 L_IndexFunc_Peer_i1_l1 N x1 x2 m (w64 (x199 + 1)))
 else
 some (Sum.inr ()))
def L_IndexFunc_Peer_i1 (N : Nat) (x1 : (List Peer)) (x2 : Message) : Option (Int) :=
 joinP (fun (v197 : Unit) =>
 some (-1 : Int)) fun j197 =>
 (L_IndexFunc_Peer_i1_l1 N x1 x2 N 0).bind (Sum.elim (fun v220 => some v220) (fun (v221 : Unit) => j197 ()))
theorem sem_L_IndexFunc_Peer_i1 (N : Nat) (x1 : (List Peer)) (x2 : Message) (r : Int) (h : L_IndexFunc_Peer_i1 N x1 x2 = some r) : Says Tryz.prog 65 [.sl 0 98 0 x1.length,.fn 66 [.ptr 1 0]] 2 [(0,.vec 98 (x1.map eP)),(1,.box [VI x2.Kind,VI x2.From,VI x2.To,VI x2.Term,VI x2.Index,VI x2.LogTerm,VI x2.Commit,VB x2.Ok,RO 40 (x2.Entries.map eE),RO 3 (x2.Conf.map encI),VS x2.Data,VB x2.Last])] (VI r) [(0,.vec 98 (x1.map eP)),(1,.box [VI x2.Kind,VI x2.From,VI x2.To,VI x2.Term,VI x2.Index,VI x2.LogTerm,VI x2.Commit,VB x2.Ok,RO 40 (x2.Entries.map eE),RO 3 (x2.Conf.map encI),VS x2.Data,VB x2.Last])] := by
 unfold L_IndexFunc_Peer_i1 at h
 refine Says.of_norm e Tryz.call65 e fun B hB => ?_
 have hm : B.m ≤ 1000 := by omega
 refine Run.so hm (.p e (.nil (.seqO h (fun v197 => []) (fun (v197 : Unit) => [(0,.vec 98 (x1.map eP)),(1,.box [VI x2.Kind,VI x2.From,VI x2.To,VI x2.Term,VI x2.Index,VI x2.LogTerm,VI x2.Commit,VB x2.Ok,RO 40 (x2.Entries.map eE),RO 3 (x2.Conf.map encI),VS x2.Data,VB x2.Last])]) (fun h => ?_) (fun v197 h => ?_))))
 ·refine Run.so hm (.p3 e e e (.nil (.block ?_)))
  obtain ⟨res221,h,hk221⟩ := bindO h
  refine Run.loop (n := N) (fun m221 fr σ => ∃ (x199 : Int),L_IndexFunc_Peer_i1_l1 N x1 x2 m221 x199 = some res221 ∧ fr = [(0,.sl 0 98 0 x1.length),(1,.fn 66 [.ptr 1 0]),(7,VI ((x1.length : Nat) : Int)),(8,VI x199)] ∧ σ = [(0,.vec 98 (x1.map eP)),(1,.box [VI x2.Kind,VI x2.From,VI x2.To,VI x2.Term,VI x2.Index,VI x2.LogTerm,VI x2.Commit,VB x2.Ok,RO 40 (x2.Entries.map eE),RO 3 (x2.Conf.map encI),VS x2.Data,VB x2.Last])]) (gh_pk [0,1,7,8] [0,1] hB e e e e) ⟨_,h,e,e⟩ ?_
  rintro m221 fr σ ⟨x199,h,rfl,rfl⟩
  obtain _ | m221 := m221
  ·rw [L_IndexFunc_Peer_i1_l1] at h; cases h
  rw [L_IndexFunc_Peer_i1_l1] at h
  refine Run.so hm (.p e (.nil (.seq (.condO e h (fun g224 h => ?_) (fun g224 h => ?_)))))
  ·refine Run.skip (.seq (.block (.so hm (.p2 e e (.nil (.so hm (.p3 e e e ?_)))))))
   obtain ⟨x227,hx227,h⟩ := bindO h
   refine Ops.z 17432 (Ev.iaW e e e hx227) e e (.z 17448 (Ev.ldE (f := eP) e e (at_some hx227).2 e e e) e e ?_)
   obtain ⟨y228,hy228,h⟩ := bindO h
   refine Ops.z 17464 (Ev.callx [1] [] 0 e (sem_c_reply_1 _ _ _ _ hy228) e e (.cons (.agg (.d4 .nil)) (.cons (.ptr e) .nil)) e (.inl e) e e) e e (.nil (.condO e h (fun g229 h => ?_) (fun g229 h => ?_)))
   ·refine Run.so hm (.p2 e e (.nil (.ret ?_)))
    obtain rfl := someO h
    have h := hk221
    replace h := inlO h
    obtain rfl := someO h
    exact Ends.mkG (.inl e) e (gh_pk [0] [0,1] hB e e e e) e e
   ·exact Run.skip (.ops hm (.p2 e e (.nil (⟨m221,Nat.lt_succ_self m221,_,_,(gh_pk [0,1,7,8] [0,1] hB e e e e),_,h,e,e⟩))))
  ·refine Run.exit ?_
   obtain rfl := someO h
   have h := hk221
   replace h := inrO h
   exact ⟨_,_,(gh_pk [] [0,1] hB e e e e),(),h,e,e⟩
 ·refine Run.so hm (.p e (.nil (.ret ?_)))
  obtain rfl := someO h
  exact Ends.mkG (.inl e) e (gh_pk [0] [0,1] hB e e e e) e e
def c_matched_1 (N : Nat) (x1 : Peer) (x2 : Int) : Option (Bool) :=
 some (x1.Id == x2)
theorem sem_c_matched_1 (N : Nat) (x1 : Peer) (x2 : Int) (r : Bool) (h : c_matched_1 N x1 x2 = some r) : Says Tryz.prog 107 [.agg [VI x1.Id,VI x1.Next,VI x1.Match,VI x1.Sent],.ptr 0 0] 1 [(0,.box [VI x2])] (VB r) [(0,.box [VI x2])] := by
 unfold c_matched_1 at h
 refine Says.of_norm e Tryz.call107 e fun B hB => ?_
 have hm : B.m ≤ 1000 := by omega
 refine Run.so hm (.z 1000 (.bx e e) e e (.p e (.nil (.so hm (.p3 e e e (.p2 e e (.nil (.ret ?_))))))))
 obtain rfl := someO h
 exact Ends.mkG (.inl e) e (gh_pk [0] [0] hB e e e e) e e
def L_IndexFunc_Peer_i2_l1 (N : Nat) (x1 : (List Peer)) (x2 : Int) : Nat → Int → Option ((Int) ⊕ (Unit))
 | 0,_ => none
 | m + 1,x167 =>
 (if (decide (x167 < (x1.length : Int))) = true then
 (at? x1 x167).bind fun x183 =>
 (c_matched_1 N x183 x2).bind fun y184 =>
 (if y184 = true then
 some (Sum.inl x167)
 else
 L_IndexFunc_Peer_i2_l1 N x1 x2 m (w64 (x167 + 1)))
 else
 some (Sum.inr ()))
def L_IndexFunc_Peer_i2 (N : Nat) (x1 : (List Peer)) (x2 : Int) : Option (Int) :=
 joinP (fun (v164 : Unit) =>
 some (-1 : Int)) fun j164 =>
 (L_IndexFunc_Peer_i2_l1 N x1 x2 N 0).bind (Sum.elim (fun v176 => some v176) (fun (v177 : Unit) => j164 ()))
theorem sem_L_IndexFunc_Peer_i2 (N : Nat) (x1 : (List Peer)) (x2 : Int) (r : Int) (h : L_IndexFunc_Peer_i2 N x1 x2 = some r) : Says Tryz.prog 65 [RO 98 (x1.map eP),.fn 107 [.ptr 0 0]] 1 [(0,.box [VI x2])] (VI r) [(0,.box [VI x2])] := by
 unfold L_IndexFunc_Peer_i2 at h
 refine Says.of_norm e Tryz.call65 e fun B hB => ?_
 have hm : B.m ≤ 1000 := by omega
 refine Run.so hm (.p e (.nil (.seqO h (fun v164 => []) (fun (v164 : Unit) => [(0,.box [VI x2])]) (fun h => ?_) (fun v164 h => ?_))))
 ·refine Run.so hm (.p e (.z 5112 (Ev.lnF e) e e (.p e (.nil (.block ?_)))))
  obtain ⟨res177,h,hk177⟩ := bindO h
  refine Run.loop (n := N) (fun m177 fr σ => ∃ (x167 : Int),L_IndexFunc_Peer_i2_l1 N x1 x2 m177 x167 = some res177 ∧ fr = [(0,RO 98 (x1.map eP)),(1,.fn 107 [.ptr 0 0]),(7,VI (x1.length : Int)),(8,VI x167)] ∧ σ = [(0,.box [VI x2])]) (gh_pk [0,1,7,8] [0] hB e e e e) ⟨_,h,e,e⟩ ?_
  rintro m177 fr σ ⟨x167,h,rfl,rfl⟩
  obtain _ | m177 := m177
  ·rw [L_IndexFunc_Peer_i2_l1] at h; cases h
  rw [L_IndexFunc_Peer_i2_l1] at h
  refine Run.so hm (.p e (.nil (.seq (.condO e h (fun g180 h => ?_) (fun g180 h => ?_)))))
  ·refine Run.skip (.seq (.block (.so hm (.p2 e e (.nil (.so hm (.p3 e e e ?_)))))))
   obtain ⟨x183,hx183,h⟩ := bindO h
   refine Ops.z 17432 (Ev.iaF e e hx183) e e (.p e ?_)
   obtain ⟨y184,hy184,h⟩ := bindO h
   refine Ops.z 17464 (Ev.callx [0] [] 0 e (sem_c_matched_1 _ _ _ _ hy184) e e (.cons (.agg (.d4 .nil)) (.cons (.ptr e) .nil)) e (.inl e) e e) e e (.nil (.condO e h (fun g185 h => ?_) (fun g185 h => ?_)))
   ·refine Run.so hm (.p2 e e (.nil (.ret ?_)))
    obtain rfl := someO h
    have h := hk177
    replace h := inlO h
    obtain rfl := someO h
    exact Ends.mkG (.inl e) e (gh_pk [0] [0] hB e e e e) e e
   ·exact Run.skip (.ops hm (.p2 e e (.nil (⟨m177,Nat.lt_succ_self m177,_,_,(gh_pk [0,1,7,8] [0] hB e e e e),_,h,e,e⟩))))
  ·refine Run.exit ?_
   obtain rfl := someO h
   have h := hk177
   replace h := inrO h
   exact ⟨_,_,(gh_pk [] [0] hB e e e e),(),h,e,e⟩
 ·refine Run.so hm (.p e (.nil (.ret ?_)))
  obtain rfl := someO h
  exact Ends.mkG (.inl e) e (gh_pk [0] [0] hB e e e e) e e
def c_matched (N : Nat) (x1 : TK) (x2 : Int) (x3 : Int) : Option (TK) :=
 (at? x1.n.Peers x2).bind fun x128 =>
 (i_last N x1.n.Log).bind fun y132 =>
 (c_commit N (TK.mk (Node.mk x1.n.Id x1.n.Term x1.n.Vote x1.n.Role x1.n.Lead x1.n.Conf x1.n.Log x1.n.Commit x1.n.Clock x1.n.Limit x1.n.Votes ((x1.n.Peers.set x2.toNat (Peer.mk x128.Id x128.Next (imax x128.Match (imin x3 y132)) x128.Sent)).set x2.toNat (Peer.mk ((Peer.mk x128.Id x128.Next (imax x128.Match (imin x3 y132)) x128.Sent).Id) (w64 (((Peer.mk x128.Id x128.Next (imax x128.Match (imin x3 y132)) x128.Sent).Match) + 1)) ((Peer.mk x128.Id x128.Next (imax x128.Match (imin x3 y132)) x128.Sent).Match) ((Peer.mk x128.Id x128.Next (imax x128.Match (imin x3 y132)) x128.Sent).Sent)))) x1.out)).bind fun y136 =>
 (L_IndexFunc_Peer_i2 N y136.n.Peers x128.Id).bind fun y140 =>
 (if (decide (y140 ≥ 0)) = true then
 (at? y136.n.Peers y140).bind fun x145 =>
 (i_last N y136.n.Log).bind fun y146 =>
 (if (decide (x145.Next ≤ y146)) = true then
 (c_send N y136 y140).bind fun y149 =>
 some (TK.mk (Node.mk y149.n.Id y149.n.Term y149.n.Vote y149.n.Role y149.n.Lead y136.n.Conf (Log.mk y149.n.Log.Start y149.n.Log.StartTerm y136.n.Log.Entries) y149.n.Commit y149.n.Clock y149.n.Limit y136.n.Votes y136.n.Peers) y149.out)
 else
 some y136)
 else
 some y136)
theorem sem_c_matched (N : Nat) (x1 : TK) (x2 : Int) (x3 : Int) (r : TK) (h : c_matched N x1 x2 x3 = some r) : Says Tryz.prog 67 [.ptr 0 0,VI x2,VI x3] 6 [(0,.box [VI x1.n.Id,VI x1.n.Term,VI x1.n.Vote,VI x1.n.Role,VI x1.n.Lead,.sl 1 3 0 x1.n.Conf.length,VI x1.n.Log.Start,VI x1.n.Log.StartTerm,.sl 2 40 0 x1.n.Log.Entries.length,VI x1.n.Commit,VI x1.n.Clock,VI x1.n.Limit,.sl 3 3 0 x1.n.Votes.length,.sl 4 98 0 x1.n.Peers.length,.sl 5 32 0 x1.out.length]),(1,.vec 3 (x1.n.Conf.map encI)),(2,.vec 40 (x1.n.Log.Entries.map eE)),(3,.vec 3 (x1.n.Votes.map encI)),(4,.vec 98 (x1.n.Peers.map eP)),(5,.vec 32 (x1.out.map (eM false)))] (.tup []) [(0,.box [VI r.n.Id,VI r.n.Term,VI r.n.Vote,VI r.n.Role,VI r.n.Lead,.sl 6 3 0 r.n.Conf.length,VI r.n.Log.Start,VI r.n.Log.StartTerm,.sl 7 40 0 r.n.Log.Entries.length,VI r.n.Commit,VI r.n.Clock,VI r.n.Limit,.sl 8 3 0 r.n.Votes.length,.sl 9 98 0 r.n.Peers.length,.sl 10 32 0 r.out.length]),(1,.gone),(2,.gone),(3,.gone),(4,.gone),(5,.gone),(6,.vec 3 (r.n.Conf.map encI)),(7,.vec 40 (r.n.Log.Entries.map eE)),(8,.vec 3 (r.n.Votes.map encI)),(9,.vec 98 (r.n.Peers.map eP)),(10,.vec 32 (r.out.map (eM false)))] := by
 unfold c_matched at h
 refine Says.of_norm e Tryz.call67 e fun B hB => ?_
 have hm : B.m ≤ 1000 := by omega
 refine Run.so hm (.p3 e e e (.p3 e e e ?_))
 obtain ⟨x128,hx128,h⟩ := bindO h
 refine Ops.z 1096 (Ev.iaW e e e hx128) e e (.p e (.nil (.so hm (.p3 e e e (.z 5144 (Ev.ldE (f := eP) e e (at_some hx128).2 e e e) e e (.z 5160 (.al e e) e e (.y 5176 (.sto e e e e e e) e e (.nil (.seq (.draw hm hmix (.p e (.p e (.p e (.p e (.z 9256 (Ev.ldE (f := eP) e e (at_some hx128).2 e e e) e e (.p e (.p e (.p e (.p e (.p e (.p e ?_)))))))))))))))))))))
 obtain ⟨y132,hy132,h⟩ := bindO h
 refine OpsD.z 9368 (Ev.call [] [2] 0 (sem_i_last _ _ _ hy132) e e (.cons (.agg (.d2 (.cons (.borrow e (by decide) (lendW (fun _ => e) _ e)) .nil))) .nil) e (.inr ⟨e,ownL_root trivial⟩) e e) e e ?_
 refine OpsD.p e (.p e (.p e (.p e (.y 9448 (Ev.stE (f := eP) (v' := (Peer.mk x128.Id x128.Next (imax x128.Match (imin x3 y132)) x128.Sent)) e e (at_some hx128).2 e (.d1 .nil) e e e e e) e e (.nil ⟨by kernel_rfl,?_⟩)))))
 refine Run.so hm (.p3 e e e (.p e (.z 13352 (Ev.ldE (f := eP) e e (set_at (at_some hx128).2) e e e) e e (.p3 e e e (.y 13416 (Ev.stE (f := eP) (v' := (Peer.mk ((Peer.mk x128.Id x128.Next (imax x128.Match (imin x3 y132)) x128.Sent).Id) (w64 (((Peer.mk x128.Id x128.Next (imax x128.Match (imin x3 y132)) x128.Sent).Match) + 1)) ((Peer.mk x128.Id x128.Next (imax x128.Match (imin x3 y132)) x128.Sent).Match) ((Peer.mk x128.Id x128.Next (imax x128.Match (imin x3 y132)) x128.Sent).Sent))) e e (set_at (at_some hx128).2) e (.d1 .nil) e e e e e) e e (.nil (.so hm (.p e ?_))))))))
 obtain ⟨y136,hy136,h⟩ := bindO h
 have qy_136 := sem_c_commit N (TK.mk (Node.mk x1.n.Id x1.n.Term x1.n.Vote x1.n.Role x1.n.Lead x1.n.Conf x1.n.Log x1.n.Commit x1.n.Clock x1.n.Limit x1.n.Votes ((x1.n.Peers.set x2.toNat (Peer.mk x128.Id x128.Next (imax x128.Match (imin x3 y132)) x128.Sent)).set x2.toNat (Peer.mk ((Peer.mk x128.Id x128.Next (imax x128.Match (imin x3 y132)) x128.Sent).Id) (w64 (((Peer.mk x128.Id x128.Next (imax x128.Match (imin x3 y132)) x128.Sent).Match) + 1)) ((Peer.mk x128.Id x128.Next (imax x128.Match (imin x3 y132)) x128.Sent).Match) ((Peer.mk x128.Id x128.Next (imax x128.Match (imin x3 y132)) x128.Sent).Sent)))) x1.out) _ hy136
 simp only [List.length_set] at qy_136
 refine Ops.z 17400 (Ev.call [0,1,2,3,4,5] [] 5 qy_136 e e (.cons (.ptr e) .nil) e (.inl e) e e) e e (.nil (.so hm (.p3 e e e (.p3 e e e ?_))))
 obtain ⟨y140,hy140,h⟩ := bindO h
 refine Ops.z 21576 (Ev.call [5160] [17403] 0 (sem_L_IndexFunc_Peer_i2 _ _ _ _ hy140) e e (.cons (.borrow e (by decide) (lendW (fun _ => e) _ e)) (.cons (.fn (.cons (.ptr e) .nil)) .nil)) e (.inr ⟨e,ownL_root ⟨e,trivial⟩⟩) e e) e e ?_
 refine Ops.p e (.nil (.seq (.draw hm hmix (.p e (.p e (.p e (.askO (x := .t 54) e h (fun g144 h => ?_) (fun g144 h => ?_))))))))
 ·refine OpsD.gp e g144 e (.gp e g144 e (.gp e g144 e (.gp e g144 e (.gp e g144 e (.gp e g144 e ?_)))))
  obtain ⟨x145,hx145,h⟩ := bindO h
  refine OpsD.gs (s := 25720) e g144 (Ev.iaW e e e hx145) e e (.gp e g144 e (.gs (s := 25752) e g144 (Ev.ldE (f := eP) e e (at_some hx145).2 e e e) e e (.gp e g144 e (.gp e g144 e (.gp e g144 e (.gp e g144 e (.gp e g144 e ?_)))))))
  obtain ⟨y146,hy146,h⟩ := bindO h
  refine OpsD.gs (s := 25848) e g144 (Ev.call [] [17401] 0 (sem_i_last _ _ _ hy146) e e (.cons (.agg (.d2 (.cons (.borrow e (by decide) (lendW (fun _ => e) _ e)) .nil))) .nil) e (.inr ⟨e,ownL_root trivial⟩) e e) e e ?_
  refine OpsD.gp e g144 e (.z 25880 (.pkT e g144 e) e e (.nil ⟨by kernel_rfl,?_⟩))
  refine Run.condO e h (fun g147 h => ?_) (fun g147 h => ?_)
  ·refine Run.ops hm (.p2 e e ?_)
   obtain ⟨y149,hy149,h⟩ := bindO h
   refine Ops.z 29704 (Ev.call [0,17400,17401,17402,17403,17404] [] 1 (sem_c_send _ _ _ _ hy149) e e (.cons (.ptr e) (.d1 .nil)) e (.inl e) e e) e e (.nil ?_)
   obtain rfl := someO h
   exact Ends.mkG (.inr e) e (gh_pk [] [0,1,2,3,4,5,17400,17401,17402,17403,29704] hB e e e e) e e
  ·refine Run.skip ?_
   obtain rfl := someO h
   exact Ends.mkG (.inr e) e (gh_pk [] [0,1,2,3,4,5,17400,17401,17402,17403,17404] hB e e e e) e e
 ·refine OpsD.gn e g144 (.gn e g144 (.gn e g144 (.gn e g144 (.gn e g144 (.gn e g144 (.gn e g144 (.gn e g144 (.gn e g144 (.gn e g144 (.gn e g144 (.gn e g144 (.gn e g144 (.gn e g144 (.gn e g144 (.gn e g144 (.z 25880 (.pkF e g144 e) e e (.nil ⟨by kernel_rfl,?_⟩)))))))))))))))))
  refine Run.condF e e (.skip ?_)
  obtain rfl := someO h
  exact Ends.mkG (.inr e) e (gh_pk [] [0,1,2,3,4,5,17400,17401,17402,17403,17404] hB e e e e) e e
def c_reply (N : Nat) (x1 : TK) (x2 : Message) : Option (TK) :=
 (L_IndexFunc_Peer_i1 N x1.n.Peers x2).bind fun y142 =>
 (if (x2.Term != x1.n.Term) = true then
 some x1
 else
 (if (x1.n.Role != 2) = true then
 some x1
 else
 (if (decide (y142 < 0)) = true then
 some x1
 else
 (at? x1.n.Peers y142).bind fun x156 =>
 joinP (fun (v166 : (List Peer)) =>
 (c_send N (TK.mk (Node.mk x1.n.Id x1.n.Term x1.n.Vote x1.n.Role x1.n.Lead x1.n.Conf x1.n.Log x1.n.Commit x1.n.Clock x1.n.Limit x1.n.Votes v166) x1.out) y142).bind fun y177 =>
 some (TK.mk (Node.mk y177.n.Id y177.n.Term y177.n.Vote y177.n.Role y177.n.Lead x1.n.Conf (Log.mk y177.n.Log.Start y177.n.Log.StartTerm x1.n.Log.Entries) y177.n.Commit y177.n.Clock y177.n.Limit x1.n.Votes v166) y177.out)) fun j166 =>
 (if x2.Ok = true then
 joinP (fun (v169 : (List Peer)) =>
 (c_matched N (TK.mk (Node.mk x1.n.Id x1.n.Term x1.n.Vote x1.n.Role x1.n.Lead x1.n.Conf x1.n.Log x1.n.Commit x1.n.Clock x1.n.Limit x1.n.Votes v169) x1.out) y142 x2.Index).bind fun y172 =>
 some y172) fun j169 =>
 (if (x2.Kind == 6) = true then
 j169 (x1.n.Peers.set y142.toNat (Peer.mk x156.Id x156.Next x156.Match 0))
 else
 j169 x1.n.Peers)
 else
 (if (x2.Kind == 4) = true then
 (if (decide ((imax (w64 (x2.Index + 1)) (w64 (x156.Match + 1))) < x156.Next)) = true then
 j166 (x1.n.Peers.set y142.toNat (Peer.mk x156.Id (imax (w64 (x2.Index + 1)) (w64 (x156.Match + 1))) x156.Match x156.Sent))
 else
 j166 x1.n.Peers)
 else
 (if (x2.Index == x1.n.Log.Start) = true then
 j166 ((x1.n.Peers.set y142.toNat (Peer.mk x156.Id x156.Next x156.Match 0)).set y142.toNat (Peer.mk ((Peer.mk x156.Id x156.Next x156.Match 0).Id) ((Peer.mk x156.Id x156.Next x156.Match 0).Next) ((Peer.mk x156.Id x156.Next x156.Match 0).Match) (imin x2.Commit 20000)))
 else
 j166 (x1.n.Peers.set y142.toNat (Peer.mk x156.Id x156.Next x156.Match 0))))))))
theorem sem_c_reply (N : Nat) (x1 : TK) (x2 : Message) (r : TK) (h : c_reply N x1 x2 = some r) : Says Tryz.prog 28 [.ptr 0 0,.agg [VI x2.Kind,VI x2.From,VI x2.To,VI x2.Term,VI x2.Index,VI x2.LogTerm,VI x2.Commit,VB x2.Ok,RO 40 (x2.Entries.map eE),RO 3 (x2.Conf.map encI),VS x2.Data,VB x2.Last]] 6 [(0,.box [VI x1.n.Id,VI x1.n.Term,VI x1.n.Vote,VI x1.n.Role,VI x1.n.Lead,.sl 1 3 0 x1.n.Conf.length,VI x1.n.Log.Start,VI x1.n.Log.StartTerm,.sl 2 40 0 x1.n.Log.Entries.length,VI x1.n.Commit,VI x1.n.Clock,VI x1.n.Limit,.sl 3 3 0 x1.n.Votes.length,.sl 4 98 0 x1.n.Peers.length,.sl 5 32 0 x1.out.length]),(1,.vec 3 (x1.n.Conf.map encI)),(2,.vec 40 (x1.n.Log.Entries.map eE)),(3,.vec 3 (x1.n.Votes.map encI)),(4,.vec 98 (x1.n.Peers.map eP)),(5,.vec 32 (x1.out.map (eM false)))] (.tup []) [(0,.box [VI r.n.Id,VI r.n.Term,VI r.n.Vote,VI r.n.Role,VI r.n.Lead,.sl 6 3 0 r.n.Conf.length,VI r.n.Log.Start,VI r.n.Log.StartTerm,.sl 7 40 0 r.n.Log.Entries.length,VI r.n.Commit,VI r.n.Clock,VI r.n.Limit,.sl 8 3 0 r.n.Votes.length,.sl 9 98 0 r.n.Peers.length,.sl 10 32 0 r.out.length]),(1,.gone),(2,.gone),(3,.gone),(4,.gone),(5,.gone),(6,.vec 3 (r.n.Conf.map encI)),(7,.vec 40 (r.n.Log.Entries.map eE)),(8,.vec 3 (r.n.Votes.map encI)),(9,.vec 98 (r.n.Peers.map eP)),(10,.vec 32 (r.out.map (eM false)))] := by
 unfold c_reply at h
 refine Says.of_norm e Tryz.call28 e fun B hB => ?_
 have hm : B.m ≤ 1000 := by omega
 refine Run.so hm (.z 1000 (.bx e e) e e (.nil (.so hm (.p3 e e e (.p e (.nil (.so hm (.p3 e e e (.p2 e e ?_)))))))))
 obtain ⟨y142,hy142,h⟩ := bindO h
 refine Ops.z 9272 (Ev.call [4,1000] [] 0 (sem_L_IndexFunc_Peer_i1 _ _ _ _ hy142) e e (.cons (.sl e) (.cons (.fn (.cons (.ptr e) .nil)) .nil)) e (.inl e) e e) e e (.p e (.nil (.seq (.seq (.draw hm hmix (.p e (.p e (.p e (.p e (.p e (.p e (.p e (.p e (.askO (x := .t 24) e h (fun g150 h => ?_) (fun g150 h => ?_)))))))))))))))
 ·refine OpsD.gn e g150 (.gn e g150 (.gn e g150 (.gn e g150 (.gn e g150 (.z 13496 (.pkT e g150 e) e e (.p e (.gn e e (.gn e e (.z 13560 (.pkT e e e) e e (.nil ⟨by kernel_rfl,?_⟩))))))))))
  refine Run.condT e e (.ret ?_)
  obtain rfl := someO h
  exact Ends.mkG (.inl e) e (Gh.trans (Gh.trans (gh_prn [] [0,1,2,3,4,5] hB e) (gh_mvE [] [1,2,3,4,5] hB e e)) (gh_pk [] [0,1,2,3,4,5,30000001,30000002,30000003,30000004,30000005] hB e e e e)) e e
 ·refine OpsD.gp e g150 e (.gp e g150 e (.gp e g150 e (.gp e g150 e (.gp e g150 e (.z 13496 (.pkF e g150 e) e e (.p e (.askO (x := .t 31) e h (fun g151 h => ?_) (fun g151 h => ?_))))))))
  ·refine OpsD.gn e g151 (.gn e g151 (.z 13560 (.pkT e g151 e) e e (.nil ⟨by kernel_rfl,?_⟩)))
   refine Run.condT e e (.ret ?_)
   obtain rfl := someO h
   exact Ends.mkG (.inl e) e (Gh.trans (Gh.trans (gh_prn [] [0,1,2,3,4,5] hB e) (gh_mvE [] [1,2,3,4,5] hB e e)) (gh_pk [] [0,1,2,3,4,5,30000001,30000002,30000003,30000004,30000005] hB e e e e)) e e
  ·refine OpsD.gp e g151 e (.gp e g151 e (.z 13560 (.pkF e g151 e) e e (.nil ⟨by kernel_rfl,?_⟩)))
   refine Run.condO e h (fun g152 h => ?_) (fun g152 h => ?_)
   ·refine Run.ret ?_
    obtain rfl := someO h
    exact Ends.mkG (.inl e) e (Gh.trans (Gh.trans (gh_prn [] [0,1,2,3,4,5] hB e) (gh_mvE [] [1,2,3,4,5] hB e e)) (gh_pk [] [0,1,2,3,4,5,30000001,30000002,30000003,30000004,30000005] hB e e e e)) e e
   ·refine Run.skip (.so hm (.p3 e e e (.p2 e e ?_)))
    obtain ⟨x156,hx156,h⟩ := bindO h
    refine Ops.z 17464 (Ev.iaW e e e hx156) e e (.p e (.nil (.seqO h (fun v166 => [(0,.ptr 0 0),(5,VI y142)]) (fun (v166 : (List Peer)) => [(0,.box [VI x1.n.Id,VI x1.n.Term,VI x1.n.Vote,VI x1.n.Role,VI x1.n.Lead,.sl 1 3 0 x1.n.Conf.length,VI x1.n.Log.Start,VI x1.n.Log.StartTerm,.sl 2 40 0 x1.n.Log.Entries.length,VI x1.n.Commit,VI x1.n.Clock,VI x1.n.Limit,.sl 3 3 0 x1.n.Votes.length,.sl 4 98 0 v166.length,.sl 5 32 0 x1.out.length]),(1,.vec 3 (x1.n.Conf.map encI)),(2,.vec 40 (x1.n.Log.Entries.map eE)),(3,.vec 3 (x1.n.Votes.map encI)),(4,.vec 98 (v166.map eP)),(5,.vec 32 (x1.out.map (eM false)))]) (fun h => ?_) (fun v166 h => ?_))))
    ·refine Run.block (.so hm (.p3 e e e (.nil (.condO e h (fun g167 h => ?_) (fun g167 h => ?_)))))
     ·refine Run.seqO h (fun v169 => [(0,.ptr 0 0),(3,.ptr 6 0),(5,VI y142)]) (fun (v169 : (List Peer)) => [(0,.box [VI x1.n.Id,VI x1.n.Term,VI x1.n.Vote,VI x1.n.Role,VI x1.n.Lead,.sl 1 3 0 x1.n.Conf.length,VI x1.n.Log.Start,VI x1.n.Log.StartTerm,.sl 2 40 0 x1.n.Log.Entries.length,VI x1.n.Commit,VI x1.n.Clock,VI x1.n.Limit,.sl 3 3 0 x1.n.Votes.length,.sl 4 98 0 v169.length,.sl 5 32 0 x1.out.length]),(1,.vec 3 (x1.n.Conf.map encI)),(2,.vec 40 (x1.n.Log.Entries.map eE)),(3,.vec 3 (x1.n.Votes.map encI)),(4,.vec 98 (v169.map eP)),(5,.vec 32 (x1.out.map (eM false))),(6,.box [VI x2.Kind,VI x2.From,VI x2.To,VI x2.Term,VI x2.Index,VI x2.LogTerm,VI x2.Commit,VB x2.Ok,RO 40 (x2.Entries.map eE),RO 3 (x2.Conf.map encI),VS x2.Data,VB x2.Last])]) (fun h => ?_) (fun v169 h => ?_)
      ·refine Run.so hm (.p3 e e e (.nil (.condO e h (fun g170 h => ?_) (fun g170 h => ?_))))
       ·exact Run.ops hm (.p3 e e e (.y 42008 (Ev.stE (f := eP) (v' := (Peer.mk x156.Id x156.Next x156.Match 0)) e e (at_some hx156).2 e (.d1 .nil) e e e e e) e e (.nil (⟨_,_,(gh_pk [0,3,5] [0,1,2,3,4,5,1000] hB e e (by first | rfl | (simp only [List.length_set]; done) | (simp only [List.length_set]; rfl)) (by first | rfl | (simp only [List.length_set]; done) | (simp only [List.length_set]; rfl))),_,h,e,e⟩))))
       ·exact Run.skip (⟨_,_,(gh_pk [0,3,5] [0,1,2,3,4,5,1000] hB e e e e),_,h,e,e⟩)
      ·refine Run.so hm (.p3 e e e (.p e ?_))
       obtain ⟨y172,hy172,h⟩ := bindO h
       refine Ops.z 46120 (Ev.call [0,1,2,3,4,5] [] 5 (sem_c_matched _ _ _ _ _ hy172) e e (.cons (.ptr e) (.d2 .nil)) e (.inl e) e e) e e (.nil (.ret ?_))
       obtain rfl := someO h
       exact Ends.mkG (.inl e) e (gh_pk [] [0,1,2,3,4,5,46120,46121,46122,46123,46124] hB e e e e) e e
     ·refine Run.so hm (.p3 e e e (.p e (.nil (.condO e h (fun g173 h => ?_) (fun g173 h => ?_)))))
      ·refine Run.seq (.draw hm hmix (.p e (.p e (.p e (.p e (.p e (.p e (.z 54344 (Ev.ldE (f := eP) e e (at_some hx156).2 e e e) e e (.p e (.p e (.p e (.nil ⟨by kernel_rfl,?_⟩))))))))))))
       refine Run.so hm (.p3 e e e (.p e (.z 58408 (Ev.ldE (f := eP) e e (at_some hx156).2 e e e) e e (.p e (.nil (.condO e h (fun g174 h => ?_) (fun g174 h => ?_)))))))
       ·exact Run.ops hm (.p3 e e e (.p e (.y 62504 (Ev.stE (f := eP) (v' := (Peer.mk x156.Id (imax (w64 (x2.Index + 1)) (w64 (x156.Match + 1))) x156.Match x156.Sent)) e e (at_some hx156).2 e (.d1 .nil) e e e e e) e e (.nil (⟨_,_,(gh_pk [0,5] [0,1,2,3,4,5] hB e e (by first | rfl | (simp only [List.length_set]; done) | (simp only [List.length_set]; rfl)) (by first | rfl | (simp only [List.length_set]; done) | (simp only [List.length_set]; rfl))),_,h,e,e⟩)))))
       ·exact Run.skip (⟨_,_,(gh_pk [0,5] [0,1,2,3,4,5] hB e e e e),_,h,e,e⟩)
      ·refine Run.so hm (.p3 e e e (.y 21528 (Ev.stE (f := eP) (v' := (Peer.mk x156.Id x156.Next x156.Match 0)) e e (at_some hx156).2 e (.d1 .nil) e e e e e) e e (.nil (.seq (.draw hm hmix (.p e (.p e (.p e (.p e (.p e (.p e (.p e (.p e (.nil ⟨by kernel_rfl,?_⟩))))))))))))))
       refine Run.condO e h (fun g175 h => ?_) (fun g175 h => ?_)
       ·exact Run.ops hm (.p3 e e e (.p3 e e e (.y 29768 (Ev.stE (f := eP) (v' := (Peer.mk ((Peer.mk x156.Id x156.Next x156.Match 0).Id) ((Peer.mk x156.Id x156.Next x156.Match 0).Next) ((Peer.mk x156.Id x156.Next x156.Match 0).Match) (imin x2.Commit 20000))) e e (set_at (at_some hx156).2) e (.d1 .nil) e e e e e) e e (.nil (⟨_,_,(gh_pk [0,5] [0,1,2,3,4,5] hB e e (by first | rfl | (simp only [List.length_set]; done) | (simp only [List.length_set]; rfl)) (by first | rfl | (simp only [List.length_set]; done) | (simp only [List.length_set]; rfl))),_,h,e,e⟩)))))
       ·exact Run.skip (⟨_,_,(gh_pk [0,5] [0,1,2,3,4,5] hB e e (by first | rfl | (simp only [List.length_set]; done) | (simp only [List.length_set]; rfl)) (by first | rfl | (simp only [List.length_set]; done) | (simp only [List.length_set]; rfl))),_,h,e,e⟩)
    ·refine Run.ops hm (.p2 e e ?_)
     obtain ⟨y177,hy177,h⟩ := bindO h
     refine Ops.z 66568 (Ev.call [0,1,2,3,4,5] [] 1 (sem_c_send _ _ _ _ hy177) e e (.cons (.ptr e) (.d1 .nil)) e (.inl e) e e) e e (.nil ?_)
     obtain rfl := someO h
     exact Ends.mkG (.inr e) e (Gh.trans (Gh.trans (gh_prn [] [0,1,2,3,4,5,66568] hB e) (gh_mvE [] [1,2,3,4] hB e e)) (gh_pk [] [0,1,2,3,4,5,30000001,30000002,30000003,30000004,66568] hB e e e e)) e e
def i_Receive (N : Nat) (x1 : Node) (x2 : Message) : Option (Node × (List Message) × Bool) :=
 (i_NodeOk N x1).bind fun y169 =>
 (if (!y169) = true then
 some ((Node.mk 0 0 0 0 0 ([]) (Log.mk 0 0 ([])) 0 0 0 ([]) ([])),[],false)
 else
 (i_MessageOk N x2).bind fun y171 =>
 (if (!y171) = true then
 some ((Node.mk 0 0 0 0 0 ([]) (Log.mk 0 0 ([])) 0 0 0 ([]) ([])),[],false)
 else
 (if (x2.To != x1.Id) = true then
 some ((Node.mk 0 0 0 0 0 ([]) (Log.mk 0 0 ([])) 0 0 0 ([]) ([])),[],false)
 else
 (i_copyNode N x1).bind fun y177 =>
 joinP (fun (v179 : Int × Int × Int × Int × (List Int) × (List Peer)) =>
 joinP (fun (v196 : Int × Int × Int × Int × Int × Int × Int × Int × Int × Int × (List Int) × (List Entry) × (List Int) × (List Peer) × (List Message)) =>
 some ((Node.mk v196.1 v196.2.1 v196.2.2.1 v196.2.2.2.1 v196.2.2.2.2.1 v196.2.2.2.2.2.2.2.2.2.2.1 (Log.mk v196.2.2.2.2.2.1 v196.2.2.2.2.2.2.1 v196.2.2.2.2.2.2.2.2.2.2.2.1) v196.2.2.2.2.2.2.2.1 v196.2.2.2.2.2.2.2.2.1 v196.2.2.2.2.2.2.2.2.2.1 v196.2.2.2.2.2.2.2.2.2.2.2.2.1 v196.2.2.2.2.2.2.2.2.2.2.2.2.2.1),v196.2.2.2.2.2.2.2.2.2.2.2.2.2.2,true)) fun j196 =>
 (if (x2.Kind == 1) = true then
 (c_askVote N (TK.mk (Node.mk y177.Id v179.1 v179.2.1 v179.2.2.1 v179.2.2.2.1 y177.Conf y177.Log y177.Commit y177.Clock y177.Limit v179.2.2.2.2.1 v179.2.2.2.2.2) ([])) x2).bind fun y199 =>
 j196 (y199.n.Id,y199.n.Term,y199.n.Vote,y199.n.Role,y199.n.Lead,y199.n.Log.Start,y199.n.Log.StartTerm,y199.n.Commit,y199.n.Clock,y199.n.Limit,y177.Conf,y177.Log.Entries,v179.2.2.2.2.1,v179.2.2.2.2.2,y199.out)
 else
 (if (x2.Kind == 2) = true then
 (c_tellVote N (TK.mk (Node.mk y177.Id v179.1 v179.2.1 v179.2.2.1 v179.2.2.2.1 y177.Conf y177.Log y177.Commit y177.Clock y177.Limit v179.2.2.2.2.1 v179.2.2.2.2.2) ([])) x2).bind fun y202 =>
 j196 (y202.n.Id,y202.n.Term,y202.n.Vote,y202.n.Role,y202.n.Lead,y202.n.Log.Start,y202.n.Log.StartTerm,y202.n.Commit,y202.n.Clock,y202.n.Limit,y202.n.Conf,y202.n.Log.Entries,y202.n.Votes,y202.n.Peers,y202.out)
 else
 (if (x2.Kind == 3) = true then
 (c_askAppend N (TK.mk (Node.mk y177.Id v179.1 v179.2.1 v179.2.2.1 v179.2.2.2.1 y177.Conf y177.Log y177.Commit y177.Clock y177.Limit v179.2.2.2.2.1 v179.2.2.2.2.2) ([])) x2).bind fun y205 =>
 j196 (y205.n.Id,y205.n.Term,y205.n.Vote,y205.n.Role,y205.n.Lead,y205.n.Log.Start,y205.n.Log.StartTerm,y205.n.Commit,y205.n.Clock,y205.n.Limit,y205.n.Conf,y205.n.Log.Entries,y205.n.Votes,y205.n.Peers,y205.out)
 else
 (if (x2.Kind == 5) = true then
 (if (decide (x2.Term ≥ v179.1)) = true then
 (c_follows N (TK.mk (Node.mk y177.Id v179.1 v179.2.1 v179.2.2.1 v179.2.2.2.1 y177.Conf y177.Log y177.Commit y177.Clock y177.Limit v179.2.2.2.2.1 v179.2.2.2.2.2) ([])) x2.From).bind fun y209 =>
 j196 (y209.n.Id,y209.n.Term,y209.n.Vote,y209.n.Role,y209.n.Lead,y209.n.Log.Start,y209.n.Log.StartTerm,y209.n.Commit,y209.n.Clock,y209.n.Limit,y177.Conf,y177.Log.Entries,y209.n.Votes,y209.n.Peers,([] : (List Message)))
 else
 j196 (y177.Id,v179.1,v179.2.1,v179.2.2.1,v179.2.2.2.1,y177.Log.Start,y177.Log.StartTerm,y177.Commit,y177.Clock,y177.Limit,y177.Conf,y177.Log.Entries,v179.2.2.2.2.1,v179.2.2.2.2.2,([] : (List Message))))
 else
 (c_reply N (TK.mk (Node.mk y177.Id v179.1 v179.2.1 v179.2.2.1 v179.2.2.2.1 y177.Conf y177.Log y177.Commit y177.Clock y177.Limit v179.2.2.2.2.1 v179.2.2.2.2.2) ([])) x2).bind fun y211 =>
 j196 (y211.n.Id,y211.n.Term,y211.n.Vote,y211.n.Role,y211.n.Lead,y211.n.Log.Start,y211.n.Log.StartTerm,y211.n.Commit,y211.n.Clock,y211.n.Limit,y211.n.Conf,y211.n.Log.Entries,y211.n.Votes,y211.n.Peers,y211.out)))))) fun j179 =>
 (if (decide (x2.Term > x1.Term)) = true then
 j179 (x2.Term,0,0,0,([] : (List Int)),([] : (List Peer)))
 else
 j179 (y177.Term,y177.Vote,y177.Role,y177.Lead,y177.Votes,y177.Peers)))))
theorem sem_i_Receive (N : Nat) (x1 : Node) (x2 : Message) (r : Node × (List Message) × Bool) (h : i_Receive N x1 x2 = some r) : Says Tryz.prog 8 [.agg [VI x1.Id,VI x1.Term,VI x1.Vote,VI x1.Role,VI x1.Lead,RO 3 (x1.Conf.map encI),VI x1.Log.Start,VI x1.Log.StartTerm,RO 40 (x1.Log.Entries.map eE),VI x1.Commit,VI x1.Clock,VI x1.Limit,RO 3 (x1.Votes.map encI),RO 98 (x1.Peers.map eP)],.agg [VI x2.Kind,VI x2.From,VI x2.To,VI x2.Term,VI x2.Index,VI x2.LogTerm,VI x2.Commit,VB x2.Ok,RO 40 (x2.Entries.map eE),RO 3 (x2.Conf.map encI),VS x2.Data,VB x2.Last]] 0 [] (.tup [.agg [VI r.1.Id,VI r.1.Term,VI r.1.Vote,VI r.1.Role,VI r.1.Lead,.sl 0 3 0 r.1.Conf.length,VI r.1.Log.Start,VI r.1.Log.StartTerm,.sl 1 40 0 r.1.Log.Entries.length,VI r.1.Commit,VI r.1.Clock,VI r.1.Limit,.sl 2 3 0 r.1.Votes.length,.sl 3 98 0 r.1.Peers.length],.sl 4 32 0 r.2.1.length,VB r.2.2]) [(0,.vec 3 (r.1.Conf.map encI)),(1,.vec 40 (r.1.Log.Entries.map eE)),(2,.vec 3 (r.1.Votes.map encI)),(3,.vec 98 (r.1.Peers.map eP)),(4,.vec 32 (r.2.1.map (eM false)))] := by
 unfold i_Receive at h
 refine Says.of_norm e Tryz.call8 e fun B hB => ?_
 have hm : B.m ≤ 1000 := by omega
 refine Run.so hm (.z 1000 (.bx e e) e e (.z 1016 (.bx e e) e e (.z 1032 (.al e e) e e (.p2 e e (.nil (.seq (.so hm (.p e ?_))))))))
 obtain ⟨y169,hy169,h⟩ := bindO h
 refine Ops.z 5112 (Ev.call [] [] 0 (sem_i_NodeOk _ _ _ hy169) e e (.cons (.agg (.d4 (.d4 (.d4 (.d2 .nil))))) .nil) e (.inl e) e e) e e (.p2 e e (.askO (x := .t 11) e h (fun g170 h => ?_) (fun g170 h => ?_)))
 ·refine Ops.gn e g170 (.gn e g170 (.gn e g170 (.z 5208 (.pkT e g170 e) e e (.p e (.gn e e (.gn e e (.gn e e (.gn e e (.gn e e (.z 5320 (.pkT e e e) e e (.nil (.condT e e (.so hm (.z 9192 (.bd e e) e e (.y 9208 (.sto e e e e e e) e e (.p2 e e (.nil (.ret ?_))))))))))))))))))
  obtain rfl := someO h
  exact Ends.mkG (.inl e) e (Gh.trans (Gh.trans (gh_prn [0,1,2] [] hB e) (gh_nil [0,1] [] hB e e e)) (gh_pk [0,1,2] [10000000,10000001,10000002,10000003,10000064] hB e e e e)) e e
 ·refine Ops.gp e g170 e ?_
  obtain ⟨y171,hy171,h⟩ := bindO h
  refine Ops.gs (s := 5176) e g170 (Ev.call [] [] 0 (sem_i_MessageOk _ _ _ hy171) e e (.cons (.agg (.d4 (.d4 (.d4 .nil)))) .nil) e (.inl e) e e) e e (.gp e g170 e (.z 5208 (.pkF e g170 e) e e (.p e (.askO (x := .t 16) e h (fun g172 h => ?_) (fun g172 h => ?_)))))
  ·refine Ops.gn e g172 (.gn e g172 (.gn e g172 (.gn e g172 (.gn e g172 (.z 5320 (.pkT e g172 e) e e (.nil (.condT e e (.so hm (.z 9192 (.bd e e) e e (.y 9208 (.sto e e e e e e) e e (.p2 e e (.nil (.ret ?_)))))))))))))
   obtain rfl := someO h
   exact Ends.mkG (.inl e) e (Gh.trans (Gh.trans (gh_prn [0,1,2] [] hB e) (gh_nil [0,1] [] hB e e e)) (gh_pk [0,1,2] [10000000,10000001,10000002,10000003,10000064] hB e e e e)) e e
  ·refine Ops.gp e g172 e (.gp e g172 e (.gp e g172 e (.gp e g172 e (.gp e g172 e (.z 5320 (.pkF e g172 e) e e (.nil (.condO e h (fun g173 h => ?_) (fun g173 h => ?_))))))))
   ·refine Run.so hm (.z 9192 (.bd e e) e e (.y 9208 (.sto e e e e e e) e e (.p2 e e (.nil (.ret ?_)))))
    obtain rfl := someO h
    exact Ends.mkG (.inl e) e (Gh.trans (Gh.trans (gh_prn [0,1,2] [] hB e) (gh_nil [0,1] [] hB e e e)) (gh_pk [0,1,2] [10000000,10000001,10000002,10000003,10000064] hB e e e e)) e e
   ·refine Run.skip (.so hm (.p e ?_))
    obtain ⟨y177,hy177,h⟩ := bindO h
    refine Ops.z 13304 (Ev.call [] [] 4 (sem_i_copyNode _ _ _ hy177) e e (.cons (.agg (.d4 (.d4 (.d4 (.d2 .nil))))) .nil) e (.inl e) e e) e e (.z 13320 (.bd e e) e e (.z 13336 (.bx e e) e e (.p e (.nil (.seqO h (fun v179 => [(3,.ptr 0 0),(4,.ptr 1 0),(7,.ptr 2 0)]) (fun (v179 : Int × Int × Int × Int × (List Int) × (List Peer)) => [(0,.box [VI x2.Kind,VI x2.From,VI x2.To,VI x2.Term,VI x2.Index,VI x2.LogTerm,VI x2.Commit,VB x2.Ok,RO 40 (x2.Entries.map eE),RO 3 (x2.Conf.map encI),VS x2.Data,VB x2.Last]),(1,.box [VI 0,VI 0,VI 0,VI 0,VI 0,.sl 3 3 0 (([] : List Int).length),VI 0,VI 0,.sl 4 40 0 (([] : List Entry).length),VI 0,VI 0,VI 0,.sl 5 3 0 (([] : List Int).length),.sl 6 98 0 (([] : List Peer).length)]),(2,.box [VI y177.Id,VI v179.1,VI v179.2.1,VI v179.2.2.1,VI v179.2.2.2.1,.sl 7 3 0 y177.Conf.length,VI y177.Log.Start,VI y177.Log.StartTerm,.sl 8 40 0 y177.Log.Entries.length,VI y177.Commit,VI y177.Clock,VI y177.Limit,.sl 9 3 0 v179.2.2.2.2.1.length,.sl 10 98 0 v179.2.2.2.2.2.length,.sl 11 32 0 (([] : List Message).length)]),(3,.vec 3 (([] : List Int).map encI)),(4,.vec 40 (([] : List Entry).map eE)),(5,.vec 3 (([] : List Int).map encI)),(6,.vec 98 (([] : List Peer).map eP)),(7,.vec 3 (y177.Conf.map encI)),(8,.vec 40 (y177.Log.Entries.map eE)),(9,.vec 3 (v179.2.2.2.2.1.map encI)),(10,.vec 98 (v179.2.2.2.2.2.map eP)),(11,.vec 32 (([] : List Message).map (eM false)))]) (fun h => ?_) (fun v179 h => ?_))))))
    ·refine Run.so hm (.p3 e e e (.p2 e e (.nil (.condO e h (fun g180 h => ?_) (fun g180 h => ?_)))))
     ·exact Run.ops hm (.p3 e e e (.p3 e e e (.p3 e e e (.p2 e e (.y 21656 (.sto e e e e e e) e e (.p3 e e e (.y 21720 (.sto e e e e e e) e e (.p3 e e e (.y 21784 (.sto e e e e e e) e e (.p3 e e e (.y 21848 (.sto e e e e e e) e e (.p3 e e e (.y 21912 (.sto e e e e e e) e e (.p3 e e e (.y 21976 (.sto e e e e e e) e e (.nil (⟨_,_,(Gh.trans (Gh.trans (gh_prn [3,4,7] [1016,1032,13336,13304,13305] hB e) (gh_nil [] [1032,13336] hB e e e)) (gh_pk [3,4,7] [1016,1032,13336,20000000,20000001,20000002,20000003,13304,13305,20000064,20000065,20000066] hB e e e e)),_,h,e,e⟩)))))))))))))))))
     ·exact Run.skip (⟨_,_,(Gh.trans (Gh.trans (gh_prn [3,4,7] [1016,1032,13336,13304,13305,13306,13307] hB e) (gh_nil [] [1032,13336] hB e e e)) (gh_pk [3,4,7] [1016,1032,13336,20000000,20000001,20000002,20000003,13304,13305,13306,13307,20000064] hB e e e e)),_,h,e,e⟩)
    ·refine Run.seqO h (fun v196 => [(4,.ptr 0 0),(7,.ptr 1 0)]) (fun (v196 : Int × Int × Int × Int × Int × Int × Int × Int × Int × Int × (List Int) × (List Entry) × (List Int) × (List Peer) × (List Message)) => [(0,.box [VI 0,VI 0,VI 0,VI 0,VI 0,.sl 2 3 0 (([] : List Int).length),VI 0,VI 0,.sl 3 40 0 (([] : List Entry).length),VI 0,VI 0,VI 0,.sl 4 3 0 (([] : List Int).length),.sl 5 98 0 (([] : List Peer).length)]),(1,.box [VI v196.1,VI v196.2.1,VI v196.2.2.1,VI v196.2.2.2.1,VI v196.2.2.2.2.1,.sl 6 3 0 v196.2.2.2.2.2.2.2.2.2.2.1.length,VI v196.2.2.2.2.2.1,VI v196.2.2.2.2.2.2.1,.sl 7 40 0 v196.2.2.2.2.2.2.2.2.2.2.2.1.length,VI v196.2.2.2.2.2.2.2.1,VI v196.2.2.2.2.2.2.2.2.1,VI v196.2.2.2.2.2.2.2.2.2.1,.sl 8 3 0 v196.2.2.2.2.2.2.2.2.2.2.2.2.1.length,.sl 9 98 0 v196.2.2.2.2.2.2.2.2.2.2.2.2.2.1.length,.sl 10 32 0 v196.2.2.2.2.2.2.2.2.2.2.2.2.2.2.length]),(2,.vec 3 (([] : List Int).map encI)),(3,.vec 40 (([] : List Entry).map eE)),(4,.vec 3 (([] : List Int).map encI)),(5,.vec 98 (([] : List Peer).map eP)),(6,.vec 3 (v196.2.2.2.2.2.2.2.2.2.2.1.map encI)),(7,.vec 40 (v196.2.2.2.2.2.2.2.2.2.2.2.1.map eE)),(8,.vec 3 (v196.2.2.2.2.2.2.2.2.2.2.2.2.1.map encI)),(9,.vec 98 (v196.2.2.2.2.2.2.2.2.2.2.2.2.2.1.map eP)),(10,.vec 32 (v196.2.2.2.2.2.2.2.2.2.2.2.2.2.2.map (eM false)))]) (fun h => ?_) (fun v196 h => ?_)
     ·refine Run.so hm (.p2 e e (.nil (.block (.so hm (.p2 e e (.nil (.condO e h (fun g197 h => ?_) (fun g197 h => ?_))))))))
      ·refine Run.ops hm (.p2 e e ?_)
       obtain ⟨y199,hy199,h⟩ := bindO h
       exact Ops.z 37896 (Ev.call [2,7,8,9,10,11] [] 1 (sem_c_askVote _ _ _ _ hy199) e e (.cons (.ptr e) (.cons (.agg (.d4 (.d4 (.d4 .nil)))) .nil)) e (.inl e) e e) e e (.nil (⟨_,_,(gh_pk [4,7] [1,2,3,4,5,6,7,8,9,10,37896] hB e e e e),_,h,e,e⟩))
      ·refine Run.so hm (.p2 e e (.nil (.condO e h (fun g200 h => ?_) (fun g200 h => ?_))))
       ·refine Run.ops hm (.p2 e e ?_)
        obtain ⟨y202,hy202,h⟩ := bindO h
        exact Ops.z 46088 (Ev.call [2,7,8,9,10,11] [] 5 (sem_c_tellVote _ _ _ _ hy202) e e (.cons (.ptr e) (.cons (.agg (.d4 (.d4 (.d4 .nil)))) .nil)) e (.inl e) e e) e e (.nil (⟨_,_,(gh_pk [4,7] [1,2,3,4,5,6,46088,46089,46090,46091,46092] hB e e e e),_,h,e,e⟩))
       ·refine Run.so hm (.p2 e e (.nil (.condO e h (fun g203 h => ?_) (fun g203 h => ?_))))
        ·refine Run.ops hm (.p2 e e ?_)
         obtain ⟨y205,hy205,h⟩ := bindO h
         exact Ops.z 54280 (Ev.call [2,7,8,9,10,11] [] 5 (sem_c_askAppend _ _ _ _ hy205) e e (.cons (.ptr e) (.cons (.agg (.d4 (.d4 (.d4 .nil)))) .nil)) e (.inl e) e e) e e (.nil (⟨_,_,(gh_pk [4,7] [1,2,3,4,5,6,54280,54281,54282,54283,54284] hB e e e e),_,h,e,e⟩))
        ·refine Run.so hm (.p2 e e (.nil (.condO e h (fun g206 h => ?_) (fun g206 h => ?_))))
         ·refine Run.seq (.draw hm hmix (.p e (.p e (.p e (.p e (.p e (.p e (.p e (.p e (.nil ⟨by kernel_rfl,?_⟩))))))))))
          refine Run.condO e h (fun g207 h => ?_) (fun g207 h => ?_)
          ·refine Run.ops hm (.p3 e e e ?_)
           obtain ⟨y209,hy209,h⟩ := bindO h
           exact Ops.z 66584 (Ev.call [2,7,8,9,10,11] [] 2 (sem_c_follows _ _ _ _ hy209) e e (.cons (.ptr e) (.d1 .nil)) e (.inl e) e e) e e (.nil (⟨_,_,(gh_pk [4,7] [1,2,3,4,5,6,7,8,66584,66585,11] hB e e e e),_,h,e,e⟩))
          ·exact Run.skip (⟨_,_,(gh_pk [4,7] [1,2,3,4,5,6,7,8,9,10,11] hB e e e e),_,h,e,e⟩)
         ·refine Run.ops hm (.p2 e e ?_)
          obtain ⟨y211,hy211,h⟩ := bindO h
          exact Ops.z 29704 (Ev.call [2,7,8,9,10,11] [] 5 (sem_c_reply _ _ _ _ hy211) e e (.cons (.ptr e) (.cons (.agg (.d4 (.d4 (.d4 .nil)))) .nil)) e (.inl e) e e) e e (.nil (⟨_,_,(gh_pk [4,7] [1,2,3,4,5,6,29704,29705,29706,29707,29708] hB e e e e),_,h,e,e⟩))
     ·refine Run.seq (.draw hm hmix (.p e (.p e (.p e (.p e (.p e (.p e (.p e (.p e (.y 70760 (.sto e e e e e e) e e (.p e (.p e (.nil ⟨by kernel_rfl,?_⟩)))))))))))))
      refine Run.ret ?_
      obtain rfl := someO h
      exact Ends.mkG (.inl e) e (gh_pk [0,1,2] [6,7,8,9,10] hB e e e e) e e
def s_DrawPlaces_l1 (N : Nat) : Nat → Int → (List Int) → Int → Int → (List Int) → Option ((List Int))
 | 0,_,_,_,_,_ => none
 | m + 1,x199,x200,x201,x202,x203 =>
 (if (decide (x199 < 12)) = true then
 (s_l01Below N (TU.mk x200 x201 x202) 10000).bind fun y224 =>
 (cat? x203 ([y224.1] : List Int)).bind fun x225 =>
 s_DrawPlaces_l1 N m (w64 (x199 + 1)) y224.2.b y224.2.i y224.2.h x225
 else
 some x203)
def s_DrawPlaces (N : Nat) (x1 : (List Int)) : Option ((List Int)) :=
 (s_l01New N x1).bind fun y166 =>
 (s_l01Byte N y166).bind fun y170 =>
 joinP (fun (v198 : (List Int)) =>
 some v198) fun j198 =>
 (s_DrawPlaces_l1 N N 0 y170.2.b y170.2.i y170.2.h ([] : List Int)).bind (fun v214 => j198 v214)
theorem sem_s_DrawPlaces (N : Nat) (x1 : (List Int)) (r : (List Int)) (h : s_DrawPlaces N x1 = some r) : Says Tryz.prog 15 [RO 5 (x1.map encU)] 0 [] (.sl 0 3 0 r.length) [(0,.vec 3 (r.map encI))] := by
 unfold s_DrawPlaces at h
 refine Says.of_norm e Tryz.call15 e fun B hB => ?_
 have hm : B.m ≤ 1000 := by omega
 refine Run.so hm (.p e (.nil (.so hm (.p e ?_))))
 obtain ⟨y166,hy166,h⟩ := bindO h
 refine Ops.z 5112 (Ev.call [] [] 1 (sem_s_l01New _ _ _ hy166) e e (.d1 .nil) e (.inl e) e e) e e (.p e (.nil (.so hm (.p e ?_))))
 obtain ⟨y170,hy170,h⟩ := bindO h
 refine Ops.z 9208 (Ev.call [5112] [] 0 (sem_s_l01Byte _ _ _ hy170) e e (.cons (.ptr e) .nil) e (.inl e) e e) e e (.nil (.so hm (.z 13288 (Ev.bsW (ys := ([] : List Int)) (f := encI) e .nil e e e e e) e e (.p e (.nil (.seqO h (fun v198 => [(4,.sl 0 3 0 v198.length)]) (fun (v198 : (List Int)) => [(0,.vec 3 (v198.map encI))]) (fun h => ?_) (fun v198 h => ?_)))))))
 ·refine Run.so hm (.p e (.nil (.block ?_)))
  obtain ⟨res214,h,hk214⟩ := bindO h
  refine Run.loop (n := N) (fun m214 fr σ => ∃ (x199 : Int),∃ (x200 : (List Int)),∃ (x201 : Int),∃ (x202 : Int),∃ (x203 : (List Int)),s_DrawPlaces_l1 N m214 x199 x200 x201 x202 x203 = some res214 ∧ fr = [(3,.ptr 0 0),(4,.sl 1 3 0 x203.length),(5,VI x199)] ∧ σ = [(0,.box [RO 5 (x200.map encU),VI x201,VI x202]),(1,.vec 3 (x203.map encI))]) (gh_pk [3,4,5] [5112,13288] hB e e e e) ⟨_,_,_,_,_,h,e,e⟩ ?_
  rintro m214 fr σ ⟨x199,x200,x201,x202,x203,h,rfl,rfl⟩
  obtain _ | m214 := m214
  ·rw [s_DrawPlaces_l1] at h; cases h
  rw [s_DrawPlaces_l1] at h
  refine Run.seq (.so hm (.p2 e e (.nil (.condO e h (fun g217 h => ?_) (fun g217 h => ?_)))))
  ·refine Run.skip (.seq (.block (.ops hm (.p2 e e ?_))))
   obtain ⟨y224,hy224,h⟩ := bindO h
   refine Ops.z 29704 (Ev.call [0] [] 0 (sem_s_l01Below _ _ _ _ hy224) e e (.cons (.ptr e) (.d1 .nil)) e (.inl e) e e) e e (.z 29720 (Ev.bsW (ys := ([y224.1] : List Int)) (f := encI) e (.d1 .nil) e e e e e) e e ?_)
   obtain ⟨x225,hx225,h⟩ := bindO h
   exact Ops.z 29736 (Ev.apW (f := encI) (ontoW e e e) (addsW e e e (fun _ => e)) e bt3 e hx225) e e (.p e (.nil (.ops hm (.p3 e e e (.nil (⟨m214,Nat.lt_succ_self m214,_,_,(gh_pk [3,4,5] [0,29736] hB e e e e),_,_,_,_,_,h,e,e⟩))))))
  ·refine Run.exit ?_
   obtain rfl := someO h
   have h := hk214
   exact ⟨_,_,(gh_pk [4] [1] hB e e e e),_,h,e,e⟩
 ·refine Run.so hm (.p2 e e (.nil (.ret ?_)))
  obtain rfl := someO h
  exact Ends.mkG (.inl e) e (gh_pk [0] [0] hB e e e e) e e
def c_sendAll_i1_l1 (N : Nat) (x1 : TK) : Nat → Int → Int → Int → Int → Int → Int → Int → Int → Int → Int → Int → (List Message) → Option (Int × Int × Int × Int × Int × Int × Int × Int × Int × Int × (List Message))
 | 0,_,_,_,_,_,_,_,_,_,_,_,_ => none
 | m + 1,x128,x129,x130,x131,x132,x133,x134,x135,x136,x137,x138,x143 =>
 (if (decide (x128 < ((x1.n.Peers.length : Nat) : Int))) = true then
 (c_send N (TK.mk (Node.mk x129 x130 x131 x132 x133 x1.n.Conf (Log.mk x134 x135 x1.n.Log.Entries) x136 x137 x138 x1.n.Votes x1.n.Peers) x143) x128).bind fun y153 =>
 c_sendAll_i1_l1 N x1 m (w64 (x128 + 1)) y153.n.Id y153.n.Term y153.n.Vote y153.n.Role y153.n.Lead y153.n.Log.Start y153.n.Log.StartTerm y153.n.Commit y153.n.Clock y153.n.Limit y153.out
 else
 some (x129,x130,x131,x132,x133,x134,x135,x136,x137,x138,x143))
def c_sendAll_i1 (N : Nat) (x1 : TK) : Option (TK) :=
 (c_sendAll_i1_l1 N x1 N 0 x1.n.Id x1.n.Term x1.n.Vote x1.n.Role x1.n.Lead x1.n.Log.Start x1.n.Log.StartTerm x1.n.Commit x1.n.Clock x1.n.Limit ([] : (List Message))).bind (fun v148 => some (TK.mk (Node.mk v148.1 v148.2.1 v148.2.2.1 v148.2.2.2.1 v148.2.2.2.2.1 x1.n.Conf (Log.mk v148.2.2.2.2.2.1 v148.2.2.2.2.2.2.1 x1.n.Log.Entries) v148.2.2.2.2.2.2.2.1 v148.2.2.2.2.2.2.2.2.1 v148.2.2.2.2.2.2.2.2.2.1 x1.n.Votes x1.n.Peers) v148.2.2.2.2.2.2.2.2.2.2))
theorem sem_c_sendAll_i1 (N : Nat) (x1 : TK) (r : TK) (h : c_sendAll_i1 N x1 = some r) : Says Tryz.prog 43 [.ptr 0 0] 5 [(0,.box [VI x1.n.Id,VI x1.n.Term,VI x1.n.Vote,VI x1.n.Role,VI x1.n.Lead,.sl 1 3 0 x1.n.Conf.length,VI x1.n.Log.Start,VI x1.n.Log.StartTerm,.sl 2 40 0 x1.n.Log.Entries.length,VI x1.n.Commit,VI x1.n.Clock,VI x1.n.Limit,.sl 3 3 0 x1.n.Votes.length,.sl 4 98 0 x1.n.Peers.length,NI 32]),(1,.vec 3 (x1.n.Conf.map encI)),(2,.vec 40 (x1.n.Log.Entries.map eE)),(3,.vec 3 (x1.n.Votes.map encI)),(4,.vec 98 (x1.n.Peers.map eP))] (.tup []) [(0,.box [VI r.n.Id,VI r.n.Term,VI r.n.Vote,VI r.n.Role,VI r.n.Lead,.sl 1 3 0 x1.n.Conf.length,VI r.n.Log.Start,VI r.n.Log.StartTerm,.sl 2 40 0 x1.n.Log.Entries.length,VI r.n.Commit,VI r.n.Clock,VI r.n.Limit,.sl 3 3 0 x1.n.Votes.length,.sl 4 98 0 x1.n.Peers.length,.sl 5 32 0 r.out.length]),(1,.vec 3 (x1.n.Conf.map encI)),(2,.vec 40 (x1.n.Log.Entries.map eE)),(3,.vec 3 (x1.n.Votes.map encI)),(4,.vec 98 (x1.n.Peers.map eP)),(5,.vec 32 (r.out.map (eM false)))] := by
 unfold c_sendAll_i1 at h
 refine Says.of_norm e Tryz.call43 e fun B hB => ?_
 have hm : B.m ≤ 1000 := by omega
 refine Run.so hm (.p3 e e e (.p3 e e e (.p e (.nil (.block ?_)))))
 obtain ⟨res148,h,hk148⟩ := bindO h
 refine Run.loop (n := N) (fun m148 fr σ => ∃ (x128 : Int),∃ (x129 : Int),∃ (x130 : Int),∃ (x131 : Int),∃ (x132 : Int),∃ (x133 : Int),∃ (x134 : Int),∃ (x135 : Int),∃ (x136 : Int),∃ (x137 : Int),∃ (x138 : Int),∃ (x143 : (List Message)),c_sendAll_i1_l1 N x1 m148 x128 x129 x130 x131 x132 x133 x134 x135 x136 x137 x138 x143 = some res148 ∧ fr = [(0,.ptr 0 0),(8,VI ((x1.n.Peers.length : Nat) : Int)),(9,VI x128)] ∧ σ = [(0,.box [VI x129,VI x130,VI x131,VI x132,VI x133,.sl 1 3 0 x1.n.Conf.length,VI x134,VI x135,.sl 2 40 0 x1.n.Log.Entries.length,VI x136,VI x137,VI x138,.sl 3 3 0 x1.n.Votes.length,.sl 4 98 0 x1.n.Peers.length,.sl 5 32 0 x143.length]),(1,.vec 3 (x1.n.Conf.map encI)),(2,.vec 40 (x1.n.Log.Entries.map eE)),(3,.vec 3 (x1.n.Votes.map encI)),(4,.vec 98 (x1.n.Peers.map eP)),(5,.vec 32 (x143.map (eM false)))]) (Gh.trans (Gh.trans (gh_prn [0,8,9] [0,1,2,3,4] hB e) (gh_nil [] [0] hB e e e)) (gh_pk [0,8,9] [0,1,2,3,4,20000000] hB e e e e)) ⟨_,_,_,_,_,_,_,_,_,_,_,_,h,e,e⟩ ?_
 rintro m148 fr σ ⟨x128,x129,x130,x131,x132,x133,x134,x135,x136,x137,x138,x143,h,rfl,rfl⟩
 obtain _ | m148 := m148
 ·rw [c_sendAll_i1_l1] at h; cases h
 rw [c_sendAll_i1_l1] at h
 refine Run.so hm (.p e (.nil (.seq (.condO e h (fun g151 h => ?_) (fun g151 h => ?_)))))
 ·refine Run.skip (.seq (.block (.so hm (.p2 e e (.nil (.ops hm (.p2 e e ?_)))))))
  obtain ⟨y153,hy153,h⟩ := bindO h
  exact Ops.z 13320 (Ev.call [0,1,2,3,4,5] [] 1 (sem_c_send _ _ _ _ hy153) e e (.cons (.ptr e) (.d1 .nil)) e (.inl e) e e) e e (.nil (.ops hm (.p2 e e (.nil (⟨m148,Nat.lt_succ_self m148,_,_,(gh_pk [0,8,9] [0,1,2,3,4,13320] hB e e e e),_,_,_,_,_,_,_,_,_,_,_,_,h,e,e⟩)))))
 ·refine Run.exit ?_
  obtain rfl := someO h
  have h := hk148
  obtain rfl := someO h
  exact Ends.mkG (.inr e) e (gh_pk [] [0,1,2,3,4,5] hB e e e e) e e
def c_lead_i1_l1 (N : Nat) (y263 : Int) (y349 : Nat × (List Int)) : Nat → Int → (List Peer) → Option ((List Peer))
 | 0,_,_ => none
 | m + 1,x381,x396 =>
 (if (decide (x381 < ((y349.1 : Nat) : Int))) = true then
 (at? (y349.2.take y349.1) x381).bind fun x413 =>
 (cat? x396 ([(Peer.mk x413 (w64 (y263 + 1)) 0 0)] : List Peer)).bind fun x415 =>
 c_lead_i1_l1 N y263 y349 m (w64 (x381 + 1)) x415
 else
 some x396)
def c_lead_i1 (N : Nat) (x1 : TK) : Option (TK) :=
 (i_last N x1.n.Log).bind fun y263 =>
 joinP (fun (v269 : (List Entry)) =>
 joinP (fun (v345 : (List Peer)) =>
 (c_commit N (TK.mk (Node.mk x1.n.Id x1.n.Term x1.n.Vote 2 x1.n.Id x1.n.Conf (Log.mk x1.n.Log.Start x1.n.Log.StartTerm v269) x1.n.Commit x1.n.Clock x1.n.Limit ([] : (List Int)) v345) ([] : (List Message)))).bind fun y417 =>
 (c_sendAll N y417).bind fun y419 =>
 some y419) fun j345 =>
 (i_othersOf N (Node.mk x1.n.Id x1.n.Term x1.n.Vote 2 x1.n.Id x1.n.Conf (Log.mk x1.n.Log.Start x1.n.Log.StartTerm v269) x1.n.Commit x1.n.Clock x1.n.Limit ([]) ([]))).bind fun y349 =>
 (c_lead_i1_l1 N y263 y349 N 0 ([] : (List Peer))).bind (fun v406 => j345 v406)) fun j269 =>
 (if (decide (((x1.n.Log.Entries.length : Nat) : Int) < 120)) = true then
 (if (decide ((w64 (y263 + 1)) ≤ 100000)) = true then
 (cat? x1.n.Log.Entries ([(Entry.mk x1.n.Term 1 (⟨#[]⟩ : ByteArray))] : List Entry)).bind fun x274 =>
 j269 x274
 else
 j269 x1.n.Log.Entries)
 else
 j269 x1.n.Log.Entries)
theorem sem_c_lead_i1 (N : Nat) (x1 : TK) (r : TK) (h : c_lead_i1 N x1 = some r) : Says Tryz.prog 47 [.ptr 0 0] 5 [(0,.box [VI x1.n.Id,VI x1.n.Term,VI x1.n.Vote,VI x1.n.Role,VI x1.n.Lead,.sl 1 3 0 x1.n.Conf.length,VI x1.n.Log.Start,VI x1.n.Log.StartTerm,.sl 2 40 0 x1.n.Log.Entries.length,VI x1.n.Commit,VI x1.n.Clock,VI x1.n.Limit,.sl 3 3 0 x1.n.Votes.length,.sl 4 98 0 x1.n.Peers.length,NI 32]),(1,.vec 3 (x1.n.Conf.map encI)),(2,.vec 40 (x1.n.Log.Entries.map eE)),(3,.vec 3 (x1.n.Votes.map encI)),(4,.vec 98 (x1.n.Peers.map eP))] (.tup []) [(0,.box [VI r.n.Id,VI r.n.Term,VI r.n.Vote,VI r.n.Role,VI r.n.Lead,.sl 5 3 0 r.n.Conf.length,VI r.n.Log.Start,VI r.n.Log.StartTerm,.sl 6 40 0 r.n.Log.Entries.length,VI r.n.Commit,VI r.n.Clock,VI r.n.Limit,.sl 7 3 0 r.n.Votes.length,.sl 8 98 0 r.n.Peers.length,.sl 9 32 0 r.out.length]),(1,.gone),(2,.gone),(3,.gone),(4,.gone),(5,.vec 3 (r.n.Conf.map encI)),(6,.vec 40 (r.n.Log.Entries.map eE)),(7,.vec 3 (r.n.Votes.map encI)),(8,.vec 98 (r.n.Peers.map eP)),(9,.vec 32 (r.out.map (eM false)))] := by
 unfold c_lead_i1 at h
 refine Says.of_norm e Tryz.call47 e fun B hB => ?_
 have hm : B.m ≤ 1000 := by omega
 refine Run.so hm (.p3 e e e (.p e (.nil (.so hm (.p3 e e e (.p3 e e e (.p3 e e e (.y 5240 (.sto e e e e e e) e e (.p2 e e (.y 5288 (.sto e e e e e e) e e (.p2 e e (.y 5336 (.sto e e e e e e) e e (.nil (.so hm (.p3 e e e (.p e ?_))))))))))))))))
 obtain ⟨y263,hy263,h⟩ := bindO h
 refine Ops.z 9256 (Ev.call [] [2] 0 (sem_i_last _ _ _ hy263) e e (.cons (.agg (.d2 (.cons (.borrow e (by decide) (lendW (fun _ => e) _ e)) .nil))) .nil) e (.inr ⟨e,ownL_root trivial⟩) e e) e e ?_
 refine Ops.p e (.nil (.seqO h (fun v269 => [(0,.ptr 0 0),(2,.ptr 0 0),(3,VI y263)]) (fun (v269 : (List Entry)) => [(0,.box [VI x1.n.Id,VI x1.n.Term,VI x1.n.Vote,VI 2,VI x1.n.Id,.sl 5 3 0 x1.n.Conf.length,VI x1.n.Log.Start,VI x1.n.Log.StartTerm,.sl 6 40 0 v269.length,VI x1.n.Commit,VI x1.n.Clock,VI x1.n.Limit,.sl 7 3 0 (([] : List Int).length),.sl 8 98 0 x1.n.Peers.length,.sl 9 32 0 (([] : List Message).length)]),(1,.gone),(2,.gone),(3,.gone),(4,.gone),(5,.vec 3 (x1.n.Conf.map encI)),(6,.vec 40 (v269.map eE)),(7,.vec 3 (([] : List Int).map encI)),(8,.vec 98 (x1.n.Peers.map eP)),(9,.vec 32 (([] : List Message).map (eM false)))]) (fun h => ?_) (fun v269 h => ?_)))
 ·refine Run.so hm (.p3 e e e (.p3 e e e (.p2 e e (.askO (x := .t 34) e h (fun g271 h => ?_) (fun g271 h => ?_)))))
  ·refine Ops.gp e g271 e (.gp e g271 e (.gp e g271 e (.z 13464 (.pkT e g271 e) e e (.nil (.condO e h (fun g272 h => ?_) (fun g272 h => ?_))))))
   ·refine Run.draw hm hmix (.p e (.p e (.p e (.p e (.p e (.p e (.p e (.p e (.p e (.p e (.z 17544 (.bd e e) e e (.z 17560 (Ev.bsW (ys := ([(Entry.mk x1.n.Term 1 (⟨#[]⟩ : ByteArray))] : List Entry)) (f := eE) e (.d2 (.d1 .nil)) e e e e e) e e ?_))))))))))))
    obtain ⟨x274,hx274,h⟩ := bindO h
    refine OpsD.z 17576 (Ev.apW (f := eE) (ontoW e e e) (addsW e e e (fun _ => e)) e bt40 e hx274) e e (.p e (.p e (.p e (.y 17640 (.sto e e e e e e) e e (.nil ⟨by kernel_rfl,?_⟩)))))
    exact ⟨_,_,(Gh.trans (Gh.trans (Gh.trans (gh_prn [0,2,3] [0,1,2,3,4,17576] hB e) (gh_mvE [0,2,3] [1,3,4] hB e e)) (gh_nil [] [0] hB e e e)) (gh_pk [0,2,3] [0,1,2,3,4,30000001,17576,20000000,30000004,20000001] hB e e e e)),_,h,e,e⟩
   ·exact Run.skip (⟨_,_,(Gh.trans (Gh.trans (Gh.trans (gh_prn [0,2,3] [0,1,2,3,4] hB e) (gh_mvE [0,2,3] [1,2,3,4] hB e e)) (gh_nil [] [0] hB e e e)) (gh_pk [0,2,3] [0,1,2,3,4,30000001,30000002,20000000,30000004,20000001] hB e e e e)),_,h,e,e⟩)
  ·exact Ops.gn e g271 (.gn e g271 (.gn e g271 (.z 13464 (.pkF e g271 e) e e (.nil (.condF e e (.skip (⟨_,_,(Gh.trans (Gh.trans (Gh.trans (gh_prn [0,2,3] [0,1,2,3,4] hB e) (gh_mvE [0,2,3] [1,2,3,4] hB e e)) (gh_nil [] [0] hB e e e)) (gh_pk [0,2,3] [0,1,2,3,4,30000001,30000002,20000000,30000004,20000001] hB e e e e)),_,h,e,e⟩)))))))
 ·refine Run.so hm (.p3 e e e (.y 21528 (.sto e e e e e e) e e (.nil (.seqO h (fun v345 => [(0,.ptr 0 0)]) (fun (v345 : (List Peer)) => [(0,.box [VI x1.n.Id,VI x1.n.Term,VI x1.n.Vote,VI 2,VI x1.n.Id,.sl 5 3 0 x1.n.Conf.length,VI x1.n.Log.Start,VI x1.n.Log.StartTerm,.sl 6 40 0 v269.length,VI x1.n.Commit,VI x1.n.Clock,VI x1.n.Limit,.sl 7 3 0 (([] : (List Int)).length),.sl 8 98 0 v345.length,.sl 9 32 0 (([] : (List Message)).length)]),(1,.gone),(2,.gone),(3,.gone),(4,.gone),(5,.vec 3 (x1.n.Conf.map encI)),(6,.vec 40 (v269.map eE)),(7,.vec 3 (([] : (List Int)).map encI)),(8,.vec 98 (v345.map eP)),(9,.vec 32 (([] : (List Message)).map (eM false)))]) (fun h => ?_) (fun v345 h => ?_)))))
  ·refine Run.so hm (.p3 e e e ?_)
   obtain ⟨y349,hy349,h⟩ := bindO h
   refine Ops.z 25624 (Ev.call [] [5,6,7] 1 (sem_i_othersOf _ _ _ hy349) e e (.cons (.agg (.d4 (.d1 (.cons (.borrow e (by decide) (lendW (fun _ => e) _ e)) (.d2 (.cons (.borrow e (by decide) (lendW (fun _ => e) _ e)) (.d2 (.d1 (.cons (.borrow e (by decide) (lendW (fun _ => e) _ e)) (.cons (.nil _ _) .nil)))))))))) .nil) e (.inr ⟨e,ownL_root ⟨own_rows (fun _ => e) _,trivial⟩⟩) e e) e e ?_
   refine Ops.p e (.p e (.nil (.block ?_)))
   obtain ⟨res406,h,hk406⟩ := bindO h
   refine Run.loop (n := N) (fun m406 fr σ => ∃ (x381 : Int),∃ (x396 : (List Peer)),c_lead_i1_l1 N y263 y349 m406 x381 x396 = some res406 ∧ fr = [(0,.ptr 0 0),(2,.ptr 0 0),(3,VI y263),(61,.sl 5 3 0 y349.1),(62,VI ((y349.1 : Nat) : Int)),(63,VI x381)] ∧ σ = [(0,.box [VI x1.n.Id,VI x1.n.Term,VI x1.n.Vote,VI 2,VI x1.n.Id,.sl 6 3 0 x1.n.Conf.length,VI x1.n.Log.Start,VI x1.n.Log.StartTerm,.sl 7 40 0 v269.length,VI x1.n.Commit,VI x1.n.Clock,VI x1.n.Limit,.sl 8 3 0 (([] : (List Int)).length),.sl 9 98 0 x396.length,.sl 10 32 0 (([] : (List Message)).length)]),(1,.gone),(2,.gone),(3,.gone),(4,.gone),(5,.vec 3 (y349.2.map encI)),(6,.vec 3 (x1.n.Conf.map encI)),(7,.vec 40 (v269.map eE)),(8,.vec 3 (([] : (List Int)).map encI)),(9,.vec 98 (x396.map eP)),(10,.vec 32 (([] : (List Message)).map (eM false)))]) (Gh.trans (Gh.trans (gh_prn [0,2,3,61,62,63] [0,1,2,3,4,25624,5,6,7,9] hB e) (gh_nil [] [0] hB e e e)) (gh_pk [0,2,3,61,62,63] [0,1,2,3,4,25624,5,6,7,20000000,9] hB e e e e)) ⟨_,_,h,e,e⟩ ?_
   rintro m406 fr σ ⟨x381,x396,h,rfl,rfl⟩
   obtain _ | m406 := m406
   ·rw [c_lead_i1_l1] at h; cases h
   rw [c_lead_i1_l1] at h
   refine Run.so hm (.p e (.nil (.seq (.condO e h (fun g409 h => ?_) (fun g409 h => ?_)))))
   ·refine Run.skip (.seq (.block (.so hm ?_)))
    obtain ⟨x413,hx413,h⟩ := bindO h
    refine Ops.z 33768 (Ev.iaP (xs := y349.2) e e hx413) e e (.z 33784 (Ev.ldE (f := encI) e e (at_part hx413) e e e) e e (.p e (.nil (.ops hm (.p3 e e e (.p3 e e e (.p2 e e (.z 37992 (.bd e e) e e (.z 38008 (Ev.bsW (ys := ([(Peer.mk x413 (w64 (y263 + 1)) 0 0)] : List Peer)) (f := eP) e (.d4 .nil) e e e e e) e e ?_)))))))))
    obtain ⟨x415,hx415,h⟩ := bindO h
    exact Ops.z 38024 (Ev.apW (f := eP) (ontoW e e e) (addsW e e e (fun _ => e)) e bt98 e hx415) e e (.p2 e e (.y 38072 (.sto e e e e e e) e e (.nil (.ops hm (.p2 e e (.nil (⟨m406,Nat.lt_succ_self m406,_,_,(gh_pk [0,2,3,61,62,63] [0,1,2,3,4,5,6,7,8,38024,10] hB e e e e),_,_,h,e,e⟩)))))))
   ·refine Run.exit ?_
    obtain rfl := someO h
    have h := hk406
    exact ⟨_,_,(gh_pk [0] [0,1,2,3,4,6,7,8,9,10] hB e e e e),_,h,e,e⟩
  ·refine Run.so hm (.p e ?_)
   obtain ⟨y417,hy417,h⟩ := bindO h
   refine Ops.z 46072 (Ev.call [0,5,6,7,8,9] [] 5 (sem_c_commit _ _ _ hy417) e e (.cons (.ptr e) .nil) e (.inl e) e e) e e (.nil (.ops hm (.p e ?_)))
   obtain ⟨y419,hy419,h⟩ := bindO h
   refine Ops.z 50168 (Ev.call [0,46072,46073,46074,46075,46076] [] 5 (sem_c_sendAll _ _ _ hy419) e e (.cons (.ptr e) .nil) e (.inl e) e e) e e (.nil ?_)
   obtain rfl := someO h
   exact Ends.mkG (.inr e) e (gh_pk [] [0,1,2,3,4,50168,50169,50170,50171,50172] hB e e e e) e e
end Go.Proofs.YtkojbcnafckofaaGreat.Pe.FnNodes
