/- Functions,as pure functions; and that Go does just that. -/
import Derived.Test.YtehknbpmpbghhaaPeFFnSettles9
namespace Go.Proofs.Ytehknbpmpbghhaa.Pe.FnSettles
open Go Go.RowKit
set_option linter.unusedVariables false
set_option linter.unusedSimpArgs false
set_option maxHeartbeats 40000000
def impl_copyLog (N : Nat) (x_1 : Log) : Option (Log) :=
 (cat? ([] : List Entry) x_1.Entries).bind fun x_107 =>
 some (Log.mk x_1.Start x_1.StartTerm x_107)
theorem sem_impl_copyLog (N : Nat) (x_1 : Log) (r : Log) (h : impl_copyLog N x_1 = some r) : Says Try.prog 147 [.agg [VI x_1.Start,VI x_1.StartTerm,RO 51 (x_1.Entries.map encEntry)]] 0 [] (.agg [VI r.Start,VI r.StartTerm,.sl 0 51 0 r.Entries.length]) [(0,.vec 51 (r.Entries.map encEntry))] := by
 unfold impl_copyLog at h
 refine Says.of_run s147 Try.call147 rfl fun B hB => ?_
 have hm : B.m ≤ 1000 := by omega
 refine Run.seq (Run.ops hm (Ops.st (s := 1000) (.bx rfl rfl) rfl rfl (Ops.st (s := 1016) (.al rfl rfl) rfl rfl (Ops.nil (Run.seq (Run.ops hm (.p2 rfl rfl ?_)))))))
 obtain ⟨x_107,hx_107,h⟩ := bindO h
 refine Ops.st (s := 5128) (Ev.apW (f := encEntry) (ontoN (f := encEntry) rfl) (addsF rfl) rfl bt51 rfl hx_107) rfl rfl (Ops.p rfl (Ops.s0 (s := 5160) (.sto rfl rfl rfl rfl rfl rfl) rfl rfl (Ops.nil (Run.seq (Run.ops hm (Ops.p rfl (Ops.s0 (s := 9208) (.sto rfl rfl rfl rfl rfl rfl) rfl rfl (Ops.nil (Run.ret ?_)))))))))
 obtain rfl := someO h
 exact Ends.mkG (.inl rfl) rfl (gh_pk [0] [5128] hB rfl rfl rfl rfl) rfl rfl
def impl_copyNode (N : Nat) (x_1 : Node) : Option (Node) :=
 (cat? ([] : List Int) x_1.Conf).bind fun x_119 =>
 (impl_copyLog N x_1.Log).bind fun y_123 =>
 (cat? ([] : List Int) x_1.Votes).bind fun x_127 =>
 (cat? ([] : List Peer) x_1.Peers).bind fun x_131 =>
 some (Node.mk x_1.Id x_1.Term x_1.Vote x_1.Role x_1.Lead x_119 y_123 x_1.Commit x_1.Clock x_1.Limit x_127 x_131)
theorem sem_impl_copyNode (N : Nat) (x_1 : Node) (r : Node) (h : impl_copyNode N x_1 = some r) : Says Try.prog 68 [.agg [VI x_1.Id,VI x_1.Term,VI x_1.Vote,VI x_1.Role,VI x_1.Lead,RO 3 (x_1.Conf.map encI),VI x_1.Log.Start,VI x_1.Log.StartTerm,RO 51 (x_1.Log.Entries.map encEntry),VI x_1.Commit,VI x_1.Clock,VI x_1.Limit,RO 3 (x_1.Votes.map encI),RO 135 (x_1.Peers.map encPeer)]] 0 [] (.agg [VI r.Id,VI r.Term,VI r.Vote,VI r.Role,VI r.Lead,.sl 0 3 0 r.Conf.length,VI r.Log.Start,VI r.Log.StartTerm,.sl 1 51 0 r.Log.Entries.length,VI r.Commit,VI r.Clock,VI r.Limit,.sl 2 3 0 r.Votes.length,.sl 3 135 0 r.Peers.length]) [(0,.vec 3 (r.Conf.map encI)),(1,.vec 51 (r.Log.Entries.map encEntry)),(2,.vec 3 (r.Votes.map encI)),(3,.vec 135 (r.Peers.map encPeer))] := by
 unfold impl_copyNode at h
 refine Says.of_run s68 Try.call68 rfl fun B hB => ?_
 have hm : B.m ≤ 1000 := by omega
 refine Run.seq (Run.ops hm (Ops.st (s := 1000) (.bx rfl rfl) rfl rfl (Ops.st (s := 1016) (.al rfl rfl) rfl rfl (Ops.nil (Run.seq (Run.ops hm (.p2 rfl rfl ?_)))))))
 obtain ⟨x_119,hx_119,h⟩ := bindO h
 refine Ops.st (s := 5128) (Ev.apW (f := encI) (ontoN (f := encI) rfl) (addsF rfl) rfl bt3 rfl hx_119) rfl rfl (Ops.p rfl (Ops.s0 (s := 5160) (.sto rfl rfl rfl rfl rfl rfl) rfl rfl (Ops.nil (Run.seq (Run.ops hm (.p2 rfl rfl ?_))))))
 obtain ⟨y_123,hy_123,h⟩ := bindO h
 refine Ops.st (s := 9224) (Ev.call [] [] 1 (sem_impl_copyLog _ _ _ hy_123) rfl rfl (.cons (.agg (.d2 (.d1 .nil))) .nil) rfl (.inl rfl) rfl rfl) rfl rfl (Ops.p rfl (Ops.s0 (s := 9256) (.sto rfl rfl rfl rfl rfl rfl) rfl rfl (Ops.nil (Run.seq (Run.ops hm (.p2 rfl rfl ?_))))))
 obtain ⟨x_127,hx_127,h⟩ := bindO h
 refine Ops.st (s := 13320) (Ev.apW (f := encI) (ontoN (f := encI) rfl) (addsF rfl) rfl bt3 rfl hx_127) rfl rfl (Ops.p rfl (Ops.s0 (s := 13352) (.sto rfl rfl rfl rfl rfl rfl) rfl rfl (Ops.nil (Run.seq (Run.ops hm (.p2 rfl rfl ?_))))))
 obtain ⟨x_131,hx_131,h⟩ := bindO h
 refine Ops.st (s := 17416) (Ev.apW (f := encPeer) (ontoN (f := encPeer) rfl) (addsF rfl) rfl bt135 rfl hx_131) rfl rfl (Ops.p rfl (Ops.s0 (s := 17448) (.sto rfl rfl rfl rfl rfl rfl) rfl rfl (Ops.nil (Run.seq (Run.ops hm (Ops.p rfl (Ops.s0 (s := 21496) (.sto rfl rfl rfl rfl rfl rfl) rfl rfl (Ops.nil (Run.ret ?_)))))))))
 obtain rfl := someO h
 exact Ends.mkG (.inl rfl) rfl (gh_pk [0] [5128,9224,13320,17416] hB rfl rfl rfl rfl) rfl rfl
def impl_hasEntry (N : Nat) (x_1 : Log) (x_2 : Int) : Option (Bool) :=
 (if (decide (x_2 > x_1.Start)) = true then
 (impl_within N (w64 (x_2 - x_1.Start)) 1 (x_1.Entries.length : Int)).bind fun y_107 =>
 some y_107
 else
 some false)
theorem sem_impl_hasEntry (N : Nat) (x_1 : Log) (x_2 : Int) (r : Bool) (h : impl_hasEntry N x_1 x_2 = some r) : Says Try.prog 148 [.agg [VI x_1.Start,VI x_1.StartTerm,RO 51 (x_1.Entries.map encEntry)],VI x_2] 0 [] (VB r) [] := by
 unfold impl_hasEntry at h
 refine Says.of_run s148 Try.call148 rfl fun B hB => ?_
 have hm : B.m ≤ 1000 := by omega
 refine Run.seq (Run.ops hm (Ops.st (s := 1000) (.bx rfl rfl) rfl rfl (Ops.p rfl (Ops.nil (Run.seq (Run.ops hm (.p3 rfl rfl rfl (.p2 rfl rfl (Ops.askO (x := .t 9) rfl h (fun g_106 h => ?_) (fun g_106 h => ?_))))))))))
 ·refine Ops.gp rfl g_106 rfl (Ops.gp rfl g_106 rfl (Ops.gp rfl g_106 rfl (Ops.gp rfl g_106 rfl (Ops.gp rfl g_106 rfl (Ops.gp rfl g_106 rfl (Ops.gs (s := 5272) rfl g_106 (Ev.lnF rfl) rfl rfl ?_))))))
  obtain ⟨y_107,hy_107,h⟩ := bindO h
  refine Ops.gs (s := 5288) rfl g_106 (Ev.call [] [] 0 (sem_impl_within _ _ _ _ _ hy_107) rfl rfl (.d2 (.d1 .nil)) rfl (.inl rfl) rfl rfl) rfl rfl (Ops.st (s := 5304) (.pkT rfl g_106 rfl) rfl rfl (Ops.p rfl (Ops.nil (Run.ret ?_))))
  obtain rfl := someO h
  exact Ends.mkG (.inl rfl) rfl (gh_pk [0] [] hB rfl rfl rfl rfl) rfl rfl
 ·refine Ops.gn rfl g_106 (Ops.gn rfl g_106 (Ops.gn rfl g_106 (Ops.gn rfl g_106 (Ops.gn rfl g_106 (Ops.gn rfl g_106 (Ops.gn rfl g_106 (Ops.gn rfl g_106 (Ops.st (s := 5304) (.pkF rfl g_106 rfl) rfl rfl (Ops.p rfl (Ops.nil (Run.ret ?_)))))))))))
  obtain rfl := someO h
  exact Ends.mkG (.inl rfl) rfl (gh_pk [0] [] hB rfl rfl rfl rfl) rfl rfl
def impl_LogTerm (N : Nat) (x_1 : Log) (x_2 : Int) : Option (Int) :=
 (if (x_2 == x_1.Start) = true then
 some x_1.StartTerm
 else
 (impl_hasEntry N x_1 x_2).bind fun y_108 =>
 (if y_108 = true then
 (at? x_1.Entries (w64 ((w64 (x_2 - x_1.Start)) - 1))).bind fun x_111 =>
 some x_111.Term
 else
 some (-1 : Int)))
theorem sem_impl_LogTerm (N : Nat) (x_1 : Log) (x_2 : Int) (r : Int) (h : impl_LogTerm N x_1 x_2 = some r) : Says Try.prog 70 [.agg [VI x_1.Start,VI x_1.StartTerm,RO 51 (x_1.Entries.map encEntry)],VI x_2] 0 [] (VI r) [] := by
 unfold impl_LogTerm at h
 refine Says.of_run s70 Try.call70 rfl fun B hB => ?_
 have hm : B.m ≤ 1000 := by omega
 refine Run.seq (Run.ops hm (Ops.st (s := 1000) (.bx rfl rfl) rfl rfl (Ops.p rfl (Ops.nil (Run.seq (Run.block (Run.seq (Run.ops hm (.p3 rfl rfl rfl (.p2 rfl rfl (Ops.nil (Run.condO rfl h (fun g_106 h => ?_) (fun g_106 h => ?_)))))))))))))
 ·refine Run.seq (Run.ops hm (.p3 rfl rfl rfl (Ops.nil (Run.ret ?_))))
  obtain rfl := someO h
  exact Ends.mkG (.inl rfl) rfl (gh_pk [0] [] hB rfl rfl rfl rfl) rfl rfl
 ·refine Run.seq (Run.ops hm (.p2 rfl rfl ?_))
  obtain ⟨y_108,hy_108,h⟩ := bindO h
  refine Ops.st (s := 13320) (Ev.call [] [] 0 (sem_impl_hasEntry _ _ _ _ hy_108) rfl rfl (.cons (.agg (.d2 (.d1 .nil))) (.d1 .nil)) rfl (.inl rfl) rfl rfl) rfl rfl (Ops.p rfl (Ops.nil (Run.condO rfl h (fun g_109 h => ?_) (fun g_109 h => ?_))))
  ·refine Run.seq (Run.ops hm (.p3 rfl rfl rfl (.p3 rfl rfl rfl (Ops.p rfl ?_))))
   obtain ⟨x_111,hx_111,h⟩ := bindO h
   refine Ops.st (s := 17496) (Ev.iaF rfl rfl hx_111) rfl rfl (.p3 rfl rfl rfl (Ops.nil (Run.ret ?_)))
   obtain rfl := someO h
   exact Ends.mkG (.inl rfl) rfl (gh_pk [0] [] hB rfl rfl rfl rfl) rfl rfl
  ·refine Run.skip (Run.seq (Run.ops hm (Ops.p rfl (Ops.nil (Run.ret ?_)))))
   obtain rfl := someO h
   exact Ends.mkG (.inl rfl) rfl (gh_pk [0] [] hB rfl rfl rfl rfl) rfl rfl
def impl_LogBehind (N : Nat) (x_1 : Log) (x_2 : Int) (x_3 : Int) : Option (Log) :=
 joinP (fun (v_152 : (List Entry)) =>
 some (Log.mk x_2 x_3 v_152)) fun j_152 =>
 (impl_LogOk N x_1).bind fun y_159 =>
 (if y_159 = true then
 (impl_LogTerm N x_1 x_2).bind fun y_161 =>
 (if (y_161 == x_3) = true then
 (impl_last N x_1).bind fun y_163 =>
 (impl_within N x_2 x_1.Start y_163).bind fun y_164 =>
 (if y_164 = true then
 (drop? x_1.Entries (w64 (x_2 - x_1.Start))).bind fun x_168 =>
 (cat? ([] : List Entry) x_168).bind fun x_169 =>
 j_152 x_169
 else
 j_152 ([] : (List Entry)))
 else
 j_152 ([] : (List Entry)))
 else
 j_152 ([] : (List Entry)))
theorem sem_impl_LogBehind (N : Nat) (x_1 : Log) (x_2 : Int) (x_3 : Int) (r : Log) (h : impl_LogBehind N x_1 x_2 x_3 = some r) : Says Try.prog 69 [.agg [VI x_1.Start,VI x_1.StartTerm,RO 51 (x_1.Entries.map encEntry)],VI x_2,VI x_3] 0 [] (.agg [VI r.Start,VI r.StartTerm,.sl 0 51 0 r.Entries.length]) [(0,.vec 51 (r.Entries.map encEntry))] := by
 unfold impl_LogBehind at h
 refine Says.of_run s69 Try.call69 rfl fun B hB => ?_
 have hm : B.m ≤ 1000 := by omega
 refine Run.seq (Run.ops hm (Ops.st (s := 1000) (.bx rfl rfl) rfl rfl (Ops.st (s := 1016) (.al rfl rfl) rfl rfl (Ops.nil (Run.seq (Run.ops hm (.p2 rfl rfl (Ops.st (s := 5128) (.bd rfl rfl) rfl rfl (Ops.st (s := 5144) (.al rfl rfl) rfl rfl (Ops.s0 (s := 5160) (.sto rfl rfl rfl rfl rfl rfl) rfl rfl (Ops.nil (Run.seqO h (fun v_152 => [(6,.ptr 0 0),(7,.ptr 1 0)]) (fun (v_152 : (List Entry)) => [(0,.box [VI 0,VI 0,.sl 2 51 0 (([] : List Entry).length)]),(1,.box [VI x_2,VI x_3,.sl 3 51 0 v_152.length]),(2,.vec 51 (([] : List Entry).map encEntry)),(3,.vec 51 (v_152.map encEntry))]) (fun h => ?_) (fun v_152 h => ?_)))))))))))))
 ·refine Run.seq (Run.draw hm hmix (OpsD.p rfl ?_))
  obtain ⟨y_159,hy_159,h⟩ := bindO h
  refine OpsD.st (s := 9208) (Ev.call [] [] 0 (sem_impl_LogOk _ _ _ hy_159) rfl rfl (.cons (.agg (.d2 (.d1 .nil))) .nil) rfl (.inl rfl) rfl rfl) rfl rfl (OpsD.p rfl (OpsD.askO (x := .t 13) rfl h (fun g_160 h => ?_) (fun g_160 h => ?_)))
  ·refine OpsD.gp rfl g_160 rfl (OpsD.gp rfl g_160 rfl ?_)
   obtain ⟨y_161,hy_161,h⟩ := bindO h
   refine OpsD.gs (s := 9272) rfl g_160 (Ev.call [] [] 0 (sem_impl_LogTerm _ _ _ _ hy_161) rfl rfl (.cons (.agg (.d2 (.d1 .nil))) (.d1 .nil)) rfl (.inl rfl) rfl rfl) rfl rfl (OpsD.gp rfl g_160 rfl (OpsD.gp rfl g_160 rfl (OpsD.st (s := 9320) (.pkT rfl g_160 rfl) rfl rfl (OpsD.p rfl (OpsD.askO (x := .t 20) rfl h (fun g_162 h => ?_) (fun g_162 h => ?_))))))
   ·refine OpsD.gp rfl g_162 rfl (OpsD.gp rfl g_162 rfl (OpsD.gp rfl g_162 rfl (OpsD.gp rfl g_162 rfl ?_)))
    obtain ⟨y_163,hy_163,h⟩ := bindO h
    refine OpsD.gs (s := 9416) rfl g_162 (Ev.call [] [] 0 (sem_impl_last _ _ _ hy_163) rfl rfl (.cons (.agg (.d2 (.d1 .nil))) .nil) rfl (.inl rfl) rfl rfl) rfl rfl ?_
    obtain ⟨y_164,hy_164,h⟩ := bindO h
    refine OpsD.gs (s := 9432) rfl g_162 (Ev.call [] [] 0 (sem_impl_within _ _ _ _ _ hy_164) rfl rfl (.d2 (.d1 .nil)) rfl (.inl rfl) rfl rfl) rfl rfl (OpsD.st (s := 9448) (.pkT rfl g_162 rfl) rfl rfl (OpsD.nil ⟨by kernel_rfl,?_⟩))
    refine Run.condO rfl h (fun g_165 h => ?_) (fun g_165 h => ?_)
    ·refine Run.draw hm hmix (OpsD.p rfl (OpsD.p rfl (OpsD.p rfl (OpsD.p rfl (OpsD.p rfl (OpsD.p rfl (OpsD.p rfl (OpsD.p rfl ?_))))))))
     obtain ⟨x_168,hx_168,h⟩ := bindO h
     refine OpsD.st (s := 13416) (Ev.slFl rfl rfl hx_168) rfl rfl ?_
     obtain ⟨x_169,hx_169,h⟩ := bindO h
     refine OpsD.st (s := 13432) (Ev.apW (f := encEntry) (ontoN (f := encEntry) rfl) (addsF rfl) rfl bt51 rfl hx_169) rfl rfl (OpsD.p rfl (OpsD.s0 (s := 13464) (.sto rfl rfl rfl rfl rfl rfl) rfl rfl (OpsD.nil ⟨by kernel_rfl,?_⟩)))
     exact ⟨_,_,(Gh.trans (Gh.trans (gh_prn [6,7] [1016,5144,13432] hB rfl) (gh_nil [] [1016] hB rfl rfl rfl)) (gh_pk [6,7] [1016,5144,20000000,13432] hB rfl rfl rfl rfl)),_,h,rfl,rfl⟩
    ·exact Run.skip (⟨_,_,(Gh.trans (Gh.trans (gh_prn [6,7] [1016,5144] hB rfl) (gh_nil [] [1016,5144] hB rfl rfl rfl)) (gh_pk [6,7] [1016,5144,20000000,20000064] hB rfl rfl rfl rfl)),_,h,rfl,rfl⟩)
   ·refine OpsD.gn rfl g_162 (OpsD.gn rfl g_162 (OpsD.gn rfl g_162 (OpsD.gn rfl g_162 (OpsD.gn rfl g_162 (OpsD.gn rfl g_162 (OpsD.st (s := 9448) (.pkF rfl g_162 rfl) rfl rfl (OpsD.nil ⟨by kernel_rfl,?_⟩)))))))
    exact Run.condF rfl rfl (Run.skip (⟨_,_,(Gh.trans (Gh.trans (gh_prn [6,7] [1016,5144] hB rfl) (gh_nil [] [1016,5144] hB rfl rfl rfl)) (gh_pk [6,7] [1016,5144,20000000,20000064] hB rfl rfl rfl rfl)),_,h,rfl,rfl⟩))
  ·refine OpsD.gn rfl g_160 (OpsD.gn rfl g_160 (OpsD.gn rfl g_160 (OpsD.gn rfl g_160 (OpsD.gn rfl g_160 (OpsD.st (s := 9320) (.pkF rfl g_160 rfl) rfl rfl (OpsD.p rfl (OpsD.gn rfl rfl (OpsD.gn rfl rfl (OpsD.gn rfl rfl (OpsD.gn rfl rfl (OpsD.gn rfl rfl (OpsD.gn rfl rfl (OpsD.st (s := 9448) (.pkF rfl rfl rfl) rfl rfl (OpsD.nil ⟨by kernel_rfl,?_⟩))))))))))))))
   exact Run.condF rfl rfl (Run.skip (⟨_,_,(Gh.trans (Gh.trans (gh_prn [6,7] [1016,5144] hB rfl) (gh_nil [] [1016,5144] hB rfl rfl rfl)) (gh_pk [6,7] [1016,5144,20000000,20000064] hB rfl rfl rfl rfl)),_,h,rfl,rfl⟩))
 ·refine Run.seq (Run.ops hm (Ops.p rfl (Ops.s0 (s := 17400) (.sto rfl rfl rfl rfl rfl rfl) rfl rfl (Ops.nil (Run.ret ?_)))))
  obtain rfl := someO h
  exact Ends.mkG (.inl rfl) rfl (gh_pk [0] [3] hB rfl rfl rfl rfl) rfl rfl
def impl_Settle (N : Nat) (x_1 : Node) (x_2 : Int) : Option (Node × Bool) :=
 (impl_NodeOk N x_1).bind fun y_140 =>
 (if (!y_140) = true then
 some ((Node.mk 0 0 0 0 0 ([]) (Log.mk 0 0 ([])) 0 0 0 ([]) ([])),false)
 else
 (impl_within N x_2 x_1.Log.Start x_1.Commit).bind fun y_142 =>
 (if (!y_142) = true then
 some ((Node.mk 0 0 0 0 0 ([]) (Log.mk 0 0 ([])) 0 0 0 ([]) ([])),false)
 else
 (impl_copyNode N x_1).bind fun y_147 =>
 (impl_ConfAt N x_1 x_2).bind fun y_151 =>
 (impl_LogTerm N x_1.Log x_2).bind fun y_158 =>
 (impl_LogBehind N x_1.Log x_2 y_158).bind fun y_159 =>
 some ((Node.mk y_147.Id y_147.Term y_147.Vote y_147.Role y_147.Lead y_151 y_159 y_147.Commit y_147.Clock y_147.Limit y_147.Votes y_147.Peers),true)))
theorem sem_impl_Settle (N : Nat) (x_1 : Node) (x_2 : Int) (r : Node × Bool) (h : impl_Settle N x_1 x_2 = some r) : Says Try.prog 21 [.agg [VI x_1.Id,VI x_1.Term,VI x_1.Vote,VI x_1.Role,VI x_1.Lead,RO 3 (x_1.Conf.map encI),VI x_1.Log.Start,VI x_1.Log.StartTerm,RO 51 (x_1.Log.Entries.map encEntry),VI x_1.Commit,VI x_1.Clock,VI x_1.Limit,RO 3 (x_1.Votes.map encI),RO 135 (x_1.Peers.map encPeer)],VI x_2] 0 [] (.tup [.agg [VI r.1.Id,VI r.1.Term,VI r.1.Vote,VI r.1.Role,VI r.1.Lead,.sl 0 3 0 r.1.Conf.length,VI r.1.Log.Start,VI r.1.Log.StartTerm,.sl 1 51 0 r.1.Log.Entries.length,VI r.1.Commit,VI r.1.Clock,VI r.1.Limit,.sl 2 3 0 r.1.Votes.length,.sl 3 135 0 r.1.Peers.length],VB r.2]) [(0,.vec 3 (r.1.Conf.map encI)),(1,.vec 51 (r.1.Log.Entries.map encEntry)),(2,.vec 3 (r.1.Votes.map encI)),(3,.vec 135 (r.1.Peers.map encPeer))] := by
 unfold impl_Settle at h
 refine Says.of_run s21 Try.call21 rfl fun B hB => ?_
 have hm : B.m ≤ 1000 := by omega
 refine Run.seq (Run.ops hm (Ops.st (s := 1000) (.bx rfl rfl) rfl rfl (Ops.st (s := 1016) (.al rfl rfl) rfl rfl (Ops.p rfl (Ops.nil (Run.seq (Run.seq (Run.ops hm (Ops.p rfl ?_)))))))))
 obtain ⟨y_140,hy_140,h⟩ := bindO h
 refine Ops.st (s := 5112) (Ev.call [] [] 0 (sem_impl_NodeOk _ _ _ hy_140) rfl rfl (.cons (.agg (.d4 (.d4 (.d4 (.d2 .nil))))) .nil) rfl (.inl rfl) rfl rfl) rfl rfl (.p2 rfl rfl (Ops.askO (x := .t 10) rfl h (fun g_141 h => ?_) (fun g_141 h => ?_)))
 ·refine Ops.gn rfl g_141 (Ops.gn rfl g_141 (Ops.gn rfl g_141 (Ops.gn rfl g_141 (Ops.gn rfl g_141 (Ops.gn rfl g_141 (Ops.gn rfl g_141 (Ops.gn rfl g_141 (Ops.st (s := 5288) (.pkT rfl g_141 rfl) rfl rfl (Ops.nil (Run.condT rfl rfl (Run.seq (Run.ops hm (Ops.st (s := 9192) (.bd rfl rfl) rfl rfl (Ops.s0 (s := 9208) (.sto rfl rfl rfl rfl rfl rfl) rfl rfl (Ops.p rfl (Ops.nil (Run.ret ?_)))))))))))))))))
  obtain rfl := someO h
  exact Ends.mkG (.inl rfl) rfl (Gh.trans (Gh.trans (gh_prn [0,1] [] hB rfl) (gh_nil [0] [] hB rfl rfl rfl)) (gh_pk [0,1] [10000000,10000001,10000002,10000003] hB rfl rfl rfl rfl)) rfl rfl
 ·refine Ops.gp rfl g_141 rfl (Ops.gp rfl g_141 rfl (Ops.gp rfl g_141 rfl (Ops.gp rfl g_141 rfl (Ops.gp rfl g_141 rfl (Ops.gp rfl g_141 rfl ?_)))))
  obtain ⟨y_142,hy_142,h⟩ := bindO h
  refine Ops.gs (s := 5256) rfl g_141 (Ev.call [] [] 0 (sem_impl_within _ _ _ _ _ hy_142) rfl rfl (.d2 (.d1 .nil)) rfl (.inl rfl) rfl rfl) rfl rfl (Ops.gp rfl g_141 rfl (Ops.st (s := 5288) (.pkF rfl g_141 rfl) rfl rfl (Ops.nil (Run.condO rfl h (fun g_143 h => ?_) (fun g_143 h => ?_)))))
  ·refine Run.seq (Run.ops hm (Ops.st (s := 9192) (.bd rfl rfl) rfl rfl (Ops.s0 (s := 9208) (.sto rfl rfl rfl rfl rfl rfl) rfl rfl (Ops.p rfl (Ops.nil (Run.ret ?_))))))
   obtain rfl := someO h
   exact Ends.mkG (.inl rfl) rfl (Gh.trans (Gh.trans (gh_prn [0,1] [] hB rfl) (gh_nil [0] [] hB rfl rfl rfl)) (gh_pk [0,1] [10000000,10000001,10000002,10000003] hB rfl rfl rfl rfl)) rfl rfl
  ·refine Run.skip (Run.seq (Run.ops hm (Ops.p rfl ?_)))
   obtain ⟨y_147,hy_147,h⟩ := bindO h
   refine Ops.st (s := 13304) (Ev.call [] [] 4 (sem_impl_copyNode _ _ _ hy_147) rfl rfl (.cons (.agg (.d4 (.d4 (.d4 (.d2 .nil))))) .nil) rfl (.inl rfl) rfl rfl) rfl rfl (Ops.st (s := 13320) (.al rfl rfl) rfl rfl (Ops.s0 (s := 13336) (.sto rfl rfl rfl rfl rfl rfl) rfl rfl (Ops.nil (Run.seq (Run.ops hm (.p2 rfl rfl ?_))))))
   obtain ⟨y_151,hy_151,h⟩ := bindO h
   refine Ops.st (s := 17416) (Ev.call [] [] 1 (sem_impl_ConfAt _ _ _ _ hy_151) rfl rfl (.cons (.agg (.d4 (.d4 (.d4 (.d2 .nil))))) (.d1 .nil)) rfl (.inl rfl) rfl rfl) rfl rfl (Ops.p rfl (Ops.s0 (s := 17448) (.sto rfl rfl rfl rfl rfl rfl) rfl rfl (Ops.nil (Run.seq (Run.draw hm hmix (OpsD.p rfl (OpsD.p rfl (OpsD.p rfl (OpsD.p rfl (OpsD.p rfl (OpsD.p rfl ?_)))))))))))
   obtain ⟨y_158,hy_158,h⟩ := bindO h
   refine OpsD.st (s := 21576) (Ev.call [] [] 0 (sem_impl_LogTerm _ _ _ _ hy_158) rfl rfl (.cons (.agg (.d2 (.d1 .nil))) (.d1 .nil)) rfl (.inl rfl) rfl rfl) rfl rfl ?_
   obtain ⟨y_159,hy_159,h⟩ := bindO h
   refine OpsD.st (s := 21592) (Ev.call [] [] 1 (sem_impl_LogBehind _ _ _ _ _ hy_159) rfl rfl (.cons (.agg (.d2 (.d1 .nil))) (.d2 .nil)) rfl (.inl rfl) rfl rfl) rfl rfl (OpsD.p rfl (OpsD.s0 (s := 21624) (.sto rfl rfl rfl rfl rfl rfl) rfl rfl (OpsD.nil ⟨by kernel_rfl,?_⟩)))
   refine Run.seq (Run.ops hm (Ops.p rfl (Ops.s0 (s := 25592) (.sto rfl rfl rfl rfl rfl rfl) rfl rfl (Ops.p rfl (Ops.nil (Run.ret ?_))))))
   obtain rfl := someO h
   exact Ends.mkG (.inl rfl) rfl (gh_pk [0,1] [17416,21592,13306,13307] hB rfl rfl rfl rfl) rfl rfl
def laws_sameInts_l1 (N : Nat) (x_1 : (List Int)) (x_2 : (List Int)) : Nat → Int → Option ((Bool) ⊕ (Unit))
 | 0,_ => none
 | m + 1,x_198 =>
 (if (decide (x_198 < (x_1.length : Int))) = true then
 (at? x_1 x_198).bind fun x_223 =>
 (at? x_2 x_198).bind fun x_224 =>
 (if (x_223 != x_224) = true then
 some (Sum.inl false)
 else
 laws_sameInts_l1 N x_1 x_2 m (w64 (x_198 + 1)))
 else
 some (Sum.inr ()))
def laws_sameInts_l1_r (N : Nat) (x_1 : (List Int)) (x_2 : (List Int)) : (List Int) → Int → Option ((Bool) ⊕ (Unit))
 | [],x_198 =>
 some (Sum.inr ())
 | hd :: tl,x_198 =>
 (some hd).bind fun x_223 =>
 (at? x_2 x_198).bind fun x_224 =>
 (if (x_223 != x_224) = true then
 some (Sum.inl false)
 else
 laws_sameInts_l1_r N x_1 x_2 tl (w64 (x_198 + 1)))
theorem laws_sameInts_l1_rng (N : Nat) (x_1 : (List Int)) (x_2 : (List Int)) (hx : x_1.length ≤ 1099511627776) : ∀ (d k m : Nat),x_1.length = k + d → d < m → laws_sameInts_l1 N x_1 x_2 m (k : Int) = laws_sameInts_l1_r N x_1 x_2 (x_1.drop k) (k : Int) := by
 intro d
 induction d with
 | zero =>
  intro k m hd hm
  obtain ⟨m,rfl⟩ : ∃ q,m = q + 1 := ⟨m - 1,by omega⟩
  rw [laws_sameInts_l1,if_neg (by simp; omega),List.drop_eq_nil_of_le (by omega),laws_sameInts_l1_r]
 | succ d ih =>
  intro k m hd hm
  obtain ⟨m,rfl⟩ : ∃ q,m = q + 1 := ⟨m - 1,by omega⟩
  have hk : k < x_1.length := by omega
  rw [laws_sameInts_l1,if_pos (by simp; omega),List.drop_eq_getElem_cons hk,laws_sameInts_l1_r]
  have h1 := at_lt hk
  have h2 := w64_succ (k := k) (by omega)
  have h3 := ih (k + 1) m
  simp only [h1,h2,h3 (by omega) (by omega)]
theorem laws_sameInts_l1_eq {N : Nat} (x_1 : (List Int)) (x_2 : (List Int)) (hx : x_1.length ≤ 1099511627776) (hN : x_1.length < N) : laws_sameInts_l1 N x_1 x_2 N 0 = laws_sameInts_l1_r N x_1 x_2 x_1 0 := laws_sameInts_l1_rng N x_1 x_2 hx x_1.length 0 N (by omega) hN
def laws_sameInts (N : Nat) (x_1 : (List Int)) (x_2 : (List Int)) : Option (Bool) :=
 (if ((x_1.length : Int) != (x_2.length : Int)) = true then
 some false
 else
 joinP (fun (v_195 : Unit) =>
 some true) fun j_195 =>
 (laws_sameInts_l1 N x_1 x_2 N 0).bind (Sum.elim (fun v_211 => some v_211) (fun (v_212 : Unit) => j_195 ())))
theorem sem_laws_sameInts (N : Nat) (x_1 : (List Int)) (x_2 : (List Int)) (r : Bool) (h : laws_sameInts N x_1 x_2 = some r) : Says Try.prog 24 [RO 3 (x_1.map encI),RO 3 (x_2.map encI)] 0 [] (VB r) [] := by
 unfold laws_sameInts at h
 refine Says.of_run s24 Try.call24 rfl fun B hB => ?_
 have hm : B.m ≤ 1000 := by omega
 refine Run.seq (Run.ops hm (Ops.p rfl (Ops.nil (Run.seq (Run.seq (Run.ops hm (Ops.p rfl (Ops.st (s := 5112) (Ev.lnF rfl) rfl rfl (Ops.p rfl (Ops.st (s := 5144) (Ev.lnF rfl) rfl rfl (Ops.p rfl (Ops.nil (Run.condO rfl h (fun g_164 h => ?_) (fun g_164 h => ?_))))))))))))))
 ·refine Run.seq (Run.ops hm (Ops.p rfl (Ops.nil (Run.ret ?_))))
  obtain rfl := someO h
  exact Ends.mkG (.inl rfl) rfl (gh_pk [0] [] hB rfl rfl rfl rfl) rfl rfl
 ·refine Run.skip (Run.seqO h (fun v_195 => []) (fun (v_195 : Unit) => []) (fun h => ?_) (fun v_195 h => ?_))
  ·refine Run.seq (Run.ops hm (Ops.p rfl (Ops.nil (Run.block ?_))))
   obtain ⟨res_212,h,hk_212⟩ := bindO h
   refine Run.loop (n := N) (fun m_212 fr σ => ∃ (x_198 : Int),laws_sameInts_l1 N x_1 x_2 m_212 x_198 = some res_212 ∧ fr = [(0,RO 3 (x_1.map encI)),(1,RO 3 (x_2.map encI)),(5,VI x_198)] ∧ σ = []) (gh_pk [0,1,5] [] hB rfl rfl rfl rfl) ⟨_,h,rfl,rfl⟩ ?_
   rintro m_212 fr σ ⟨x_198,h,rfl,rfl⟩
   obtain _ | m_212 := m_212
   ·rw [laws_sameInts_l1] at h; cases h
   rw [laws_sameInts_l1] at h
   refine Run.seq (Run.seq (Run.ops hm (.p2 rfl rfl (Ops.st (s := 17416) (Ev.lnF rfl) rfl rfl (Ops.p rfl (Ops.nil (Run.condO rfl h (fun g_215 h => ?_) (fun g_215 h => ?_))))))))
   ·refine Run.skip (Run.seq (Run.block (Run.seq (Run.draw hm hmix (OpsD.p rfl (OpsD.p rfl ?_))))))
    obtain ⟨x_223,hx_223,h⟩ := bindO h
    refine OpsD.st (s := 25608) (Ev.iaF rfl rfl hx_223) rfl rfl (OpsD.p rfl (OpsD.p rfl (OpsD.p rfl ?_)))
    obtain ⟨x_224,hx_224,h⟩ := bindO h
    refine OpsD.st (s := 25672) (Ev.iaF rfl rfl hx_224) rfl rfl (OpsD.p rfl (OpsD.p rfl (OpsD.nil ⟨by kernel_rfl,?_⟩)))
    refine Run.condO rfl h (fun g_225 h => ?_) (fun g_225 h => ?_)
    ·refine Run.seq (Run.ops hm (Ops.p rfl (Ops.nil (Run.ret ?_))))
     obtain rfl := someO h
     have h := hk_212
     replace h := inlO h
     obtain rfl := someO h
     exact Ends.mkG (.inl rfl) rfl (gh_pk [0] [] hB rfl rfl rfl rfl) rfl rfl
    ·exact Run.skip (Run.ops hm (.p3 rfl rfl rfl (Ops.nil (⟨m_212,Nat.lt_succ_self m_212,_,_,(gh_pk [0,1,5] [] hB rfl rfl rfl rfl),_,h,rfl,rfl⟩))))
   ·refine Run.exit ?_
    obtain rfl := someO h
    have h := hk_212
    replace h := inrO h
    exact ⟨_,_,(gh_pk [] [] hB rfl rfl rfl rfl),(),h,rfl,rfl⟩
  ·refine Run.seq (Run.ops hm (Ops.p rfl (Ops.nil (Run.ret ?_))))
   obtain rfl := someO h
   exact Ends.mkG (.inl rfl) rfl (gh_pk [0] [] hB rfl rfl rfl rfl) rfl rfl
def laws_FnSettles (N : Nat) (x_1 : (List Int)) : Option (Bool) :=
 (laws_big N x_1).bind fun y_170 =>
 (if y_170 = true then
 some true
 else
 (spec_DrawRightNode N x_1).bind fun y_175 =>
 (spec_DrawPlaces N x_1).bind fun y_185 =>
 (at? y_185 1).bind fun x_186 =>
 (intD .rem .i64 x_186 (w64 ((w64 (y_175.1.Commit - y_175.1.Log.Start)) + 1))).bind fun x_187 =>
 (impl_Settle N y_175.1 (w64 (y_175.1.Log.Start + x_187))).bind fun y_191 =>
 (spec_LogLast N y_175.1.Log).bind fun y_195 =>
 (spec_LogLast N y_191.1.Log).bind fun y_199 =>
 (impl_Settle N y_175.1 (w64 (y_175.1.Commit + 1))).bind fun y_203 =>
 (if y_191.2 = true then
 (if (!y_203.2) = true then
 (impl_NodeOk N y_191.1).bind fun y_220 =>
 (if y_220 = true then
 (if (y_191.1.Commit == y_175.1.Commit) = true then
 (if (y_195.1 == y_199.1) = true then
 (if (y_195.2 == y_199.2) = true then
 (if (y_191.1.Log.Start == (w64 (y_175.1.Log.Start + x_187))) = true then
 (impl_ConfOf N y_191.1).bind fun y_226 =>
 (impl_ConfOf N y_175.1).bind fun y_227 =>
 (laws_sameInts N y_226 y_227).bind fun y_228 =>
 (if y_228 = true then
 (impl_ConfAt N y_175.1 (w64 (y_175.1.Log.Start + x_187))).bind fun y_230 =>
 (laws_sameInts N y_191.1.Conf y_230).bind fun y_231 =>
 some y_231
 else
 some false)
 else
 some false)
 else
 some false)
 else
 some false)
 else
 some false)
 else
 some false)
 else
 some false)
 else
 some false))
theorem sem_laws_FnSettles (N : Nat) (x_1 : (List Int)) (r : Bool) (h : laws_FnSettles N x_1 = some r) : Says Try.prog 4 [RO 5 (x_1.map encU)] 0 [] (VB r) [] := by
 unfold laws_FnSettles at h
 refine Says.of_run s4 Try.call4 rfl fun B hB => ?_
 have hm : B.m ≤ 1000 := by omega
 refine Run.seq (Run.ops hm (Ops.p rfl (Ops.nil (Run.seq (Run.seq (Run.ops hm (Ops.p rfl ?_)))))))
 obtain ⟨y_170,hy_170,h⟩ := bindO h
 refine Ops.st (s := 5112) (Ev.call [] [] 0 (sem_laws_big _ _ _ hy_170) rfl rfl (.d1 .nil) rfl (.inl rfl) rfl rfl) rfl rfl (Ops.nil (Run.condO rfl h (fun g_171 h => ?_) (fun g_171 h => ?_)))
 ·refine Run.seq (Run.ops hm (Ops.p rfl (Ops.nil (Run.ret ?_))))
  obtain rfl := someO h
  exact Ends.mkG (.inl rfl) rfl (gh_pk [0] [] hB rfl rfl rfl rfl) rfl rfl
 ·refine Run.skip (Run.seq (Run.ops hm (Ops.p rfl ?_)))
  obtain ⟨y_175,hy_175,h⟩ := bindO h
  refine Ops.st (s := 13304) (Ev.call [] [] 0 (sem_spec_DrawRightNode _ _ _ hy_175) rfl rfl (.d1 .nil) rfl (.inl rfl) rfl rfl) rfl rfl (.p3 rfl rfl rfl (Ops.st (s := 13368) (.al rfl rfl) rfl rfl (Ops.st (s := 13384) (.al rfl rfl) rfl rfl (Ops.s0 (s := 13400) (.sto rfl rfl rfl rfl rfl rfl) rfl rfl (Ops.s0 (s := 13416) (.sto rfl rfl rfl rfl rfl rfl) rfl rfl (Ops.nil (Run.seq (Run.draw hm hmix (OpsD.p rfl (OpsD.p rfl (OpsD.p rfl (OpsD.p rfl ?_))))))))))))
  obtain ⟨y_185,hy_185,h⟩ := bindO h
  refine OpsD.st (s := 17448) (Ev.call [] [] 1 (sem_spec_DrawPlaces _ _ _ hy_185) rfl rfl (.d1 .nil) rfl (.inl rfl) rfl rfl) rfl rfl ?_
  obtain ⟨x_186,hx_186,h⟩ := bindO h
  refine OpsD.st (s := 17464) (Ev.iaW rfl rfl rfl hx_186) rfl rfl (OpsD.st (s := 17480) (Ev.ldE (f := encI) rfl rfl (at_some hx_186).2 rfl rfl rfl) rfl rfl (OpsD.p rfl (OpsD.p rfl (OpsD.p rfl (OpsD.p rfl (OpsD.p rfl (OpsD.p rfl (OpsD.p rfl ?_))))))))
  obtain ⟨x_187,hx_187,h⟩ := bindO h
  refine OpsD.st (s := 17608) (.bin rfl rfl hx_187) rfl rfl (OpsD.p rfl (OpsD.p rfl (OpsD.nil ⟨by kernel_rfl,?_⟩)))
  refine Run.seq (Run.ops hm (.p2 rfl rfl ?_))
  obtain ⟨y_191,hy_191,h⟩ := bindO h
  refine Ops.st (s := 21512) (Ev.call [] [] 4 (sem_impl_Settle _ _ _ _ hy_191) rfl rfl (.cons (.agg (.d4 (.d4 (.d4 (.d2 .nil))))) (.d1 .nil)) rfl (.inl rfl) rfl rfl) rfl rfl (.p3 rfl rfl rfl (Ops.st (s := 21576) (.al rfl rfl) rfl rfl (Ops.s0 (s := 21592) (.sto rfl rfl rfl rfl rfl rfl) rfl rfl (Ops.p rfl (Ops.nil (Run.seq (Run.ops hm (.p2 rfl rfl ?_))))))))
  obtain ⟨y_195,hy_195,h⟩ := bindO h
  refine Ops.st (s := 25608) (Ev.call [] [] 0 (sem_spec_LogLast _ _ _ hy_195) rfl rfl (.cons (.agg (.d2 (.d1 .nil))) .nil) rfl (.inl rfl) rfl rfl) rfl rfl (.p3 rfl rfl rfl (.p2 rfl rfl (Ops.nil (Run.seq (Run.ops hm (.p2 rfl rfl ?_))))))
  obtain ⟨y_199,hy_199,h⟩ := bindO h
  refine Ops.st (s := 29704) (Ev.call [] [21513] 0 (sem_spec_LogLast _ _ _ hy_199) rfl rfl (.cons (.agg (.d2 (.cons (.borrow rfl (by decide) (lendW (fun _ => rfl) _ rfl)) .nil))) .nil) rfl (.inr ⟨rfl,ownL_root trivial⟩) rfl rfl) rfl rfl ?_
  refine Ops.p rfl (.p3 rfl rfl rfl (Ops.p rfl (Ops.nil (Run.seq (Run.ops hm (.p3 rfl rfl rfl (Ops.p rfl ?_)))))))
  obtain ⟨y_203,hy_203,h⟩ := bindO h
  refine Ops.st (s := 33832) (Ev.call [] [] 4 (sem_impl_Settle _ _ _ _ hy_203) rfl rfl (.cons (.agg (.d4 (.d4 (.d4 (.d2 .nil))))) (.d1 .nil)) rfl (.inl rfl) rfl rfl) rfl rfl (.p3 rfl rfl rfl (Ops.st (s := 33896) (.al rfl rfl) rfl rfl (Ops.s0 (s := 33912) (.sto rfl rfl rfl rfl rfl rfl) rfl rfl (Ops.p rfl (Ops.nil (Run.seq (Run.draw hm hmix (OpsD.p rfl (OpsD.p rfl (OpsD.askO (x := .t 64) rfl h (fun g_218 h => ?_) (fun g_218 h => ?_)))))))))))
  ·refine OpsD.gp rfl g_218 rfl (OpsD.gp rfl g_218 rfl (OpsD.st (s := 37928) (.pkT rfl g_218 rfl) rfl rfl (OpsD.p rfl (OpsD.askO (x := .t 68) rfl h (fun g_219 h => ?_) (fun g_219 h => ?_)))))
   ·refine OpsD.gp rfl g_219 rfl ?_
    obtain ⟨y_220,hy_220,h⟩ := bindO h
    refine OpsD.gs (s := 37976) rfl g_219 (Ev.call [] [21512,21513,21514,21515] 0 (sem_impl_NodeOk _ _ _ hy_220) rfl rfl (.cons (.agg (.d4 (.d1 (.cons (.borrow rfl (by decide) (lendW (fun _ => rfl) _ rfl)) (.d2 (.cons (.borrow rfl (by decide) (lendW (fun _ => rfl) _ rfl)) (.d2 (.d1 (.cons (.borrow rfl (by decide) (lendW (fun _ => rfl) _ rfl)) (.cons (.borrow rfl (by decide) (lendW (fun _ => rfl) _ rfl)) .nil)))))))))) .nil) rfl (.inr ⟨rfl,ownL_root trivial⟩) rfl rfl) rfl rfl ?_
    refine OpsD.st (s := 37992) (.pkT rfl g_219 rfl) rfl rfl (OpsD.p rfl (OpsD.askO (x := .t 72) rfl h (fun g_221 h => ?_) (fun g_221 h => ?_)))
    ·refine OpsD.gp rfl g_221 rfl (OpsD.gp rfl g_221 rfl (OpsD.gp rfl g_221 rfl (OpsD.gp rfl g_221 rfl (OpsD.gp rfl g_221 rfl (OpsD.st (s := 38104) (.pkT rfl g_221 rfl) rfl rfl (OpsD.p rfl (OpsD.askO (x := .t 79) rfl h (fun g_222 h => ?_) (fun g_222 h => ?_))))))))
     ·refine OpsD.gp rfl g_222 rfl (OpsD.gp rfl g_222 rfl (OpsD.gp rfl g_222 rfl (OpsD.st (s := 38184) (.pkT rfl g_222 rfl) rfl rfl (OpsD.p rfl (OpsD.askO (x := .t 84) rfl h (fun g_223 h => ?_) (fun g_223 h => ?_))))))
      ·refine OpsD.gp rfl g_223 rfl (OpsD.gp rfl g_223 rfl (OpsD.gp rfl g_223 rfl (OpsD.st (s := 38264) (.pkT rfl g_223 rfl) rfl rfl (OpsD.p rfl (OpsD.askO (x := .t 89) rfl h (fun g_224 h => ?_) (fun g_224 h => ?_))))))
       ·refine OpsD.gp rfl g_224 rfl (OpsD.gp rfl g_224 rfl (OpsD.gp rfl g_224 rfl (OpsD.gp rfl g_224 rfl (OpsD.gp rfl g_224 rfl (OpsD.st (s := 38376) (.pkT rfl g_224 rfl) rfl rfl (OpsD.p rfl (OpsD.askO (x := .t 96) rfl h (fun g_225 h => ?_) (fun g_225 h => ?_))))))))
        ·refine OpsD.gp rfl g_225 rfl ?_
         obtain ⟨y_226,hy_226,h⟩ := bindO h
         refine OpsD.gs (s := 38424) rfl g_225 (Ev.call [] [21512,21513,21514,21515] 1 (sem_impl_ConfOf _ _ _ hy_226) rfl rfl (.cons (.agg (.d4 (.d1 (.cons (.borrow rfl (by decide) (lendW (fun _ => rfl) _ rfl)) (.d2 (.cons (.borrow rfl (by decide) (lendW (fun _ => rfl) _ rfl)) (.d2 (.d1 (.cons (.borrow rfl (by decide) (lendW (fun _ => rfl) _ rfl)) (.cons (.borrow rfl (by decide) (lendW (fun _ => rfl) _ rfl)) .nil)))))))))) .nil) rfl (.inr ⟨rfl,ownL_root ⟨own_rows (fun _ => rfl) _,trivial⟩⟩) rfl rfl) rfl rfl ?_
         refine OpsD.gp rfl g_225 rfl ?_
         obtain ⟨y_227,hy_227,h⟩ := bindO h
         refine OpsD.gs (s := 38456) rfl g_225 (Ev.call [] [] 1 (sem_impl_ConfOf _ _ _ hy_227) rfl rfl (.cons (.agg (.d4 (.d4 (.d4 (.d2 .nil))))) .nil) rfl (.inl rfl) rfl rfl) rfl rfl ?_
         obtain ⟨y_228,hy_228,h⟩ := bindO h
         refine OpsD.gs (s := 38472) rfl g_225 (Ev.call [] [38424,38456] 0 (sem_laws_sameInts _ _ _ _ hy_228) rfl rfl (.cons (.borrow rfl (by decide) (lendW (fun _ => rfl) _ rfl)) (.cons (.borrow rfl (by decide) (lendW (fun _ => rfl) _ rfl)) .nil)) rfl (.inr ⟨rfl,ownL_root trivial⟩) rfl rfl) rfl rfl ?_
         refine OpsD.st (s := 38488) (.pkT rfl g_225 rfl) rfl rfl (OpsD.p rfl (OpsD.askO (x := .t 103) rfl h (fun g_229 h => ?_) (fun g_229 h => ?_)))
         ·refine OpsD.gp rfl g_229 rfl (OpsD.gp rfl g_229 rfl (OpsD.gp rfl g_229 rfl (OpsD.gp rfl g_229 rfl ?_)))
          obtain ⟨y_230,hy_230,h⟩ := bindO h
          refine OpsD.gs (s := 38584) rfl g_229 (Ev.call [] [] 1 (sem_impl_ConfAt _ _ _ _ hy_230) rfl rfl (.cons (.agg (.d4 (.d4 (.d4 (.d2 .nil))))) (.d1 .nil)) rfl (.inl rfl) rfl rfl) rfl rfl ?_
          obtain ⟨y_231,hy_231,h⟩ := bindO h
          refine OpsD.gs (s := 38600) rfl g_229 (Ev.call [] [21512,38584] 0 (sem_laws_sameInts _ _ _ _ hy_231) rfl rfl (.cons (.borrow rfl (by decide) (lendW (fun _ => rfl) _ rfl)) (.cons (.borrow rfl (by decide) (lendW (fun _ => rfl) _ rfl)) .nil)) rfl (.inr ⟨rfl,ownL_root trivial⟩) rfl rfl) rfl rfl ?_
          refine OpsD.st (s := 38616) (.pkT rfl g_229 rfl) rfl rfl (OpsD.p rfl (OpsD.nil ⟨by kernel_rfl,?_⟩))
          refine Run.ret ?_
          obtain rfl := someO h
          exact Ends.mkG (.inl rfl) rfl (gh_pk [0] [] hB rfl rfl rfl rfl) rfl rfl
         ·refine OpsD.gn rfl g_229 (OpsD.gn rfl g_229 (OpsD.gn rfl g_229 (OpsD.gn rfl g_229 (OpsD.gn rfl g_229 (OpsD.gn rfl g_229 (OpsD.st (s := 38616) (.pkF rfl g_229 rfl) rfl rfl (OpsD.p rfl (OpsD.nil ⟨by kernel_rfl,?_⟩))))))))
          refine Run.ret ?_
          obtain rfl := someO h
          exact Ends.mkG (.inl rfl) rfl (gh_pk [0] [] hB rfl rfl rfl rfl) rfl rfl
        ·refine OpsD.gn rfl g_225 (OpsD.gn rfl g_225 (OpsD.gn rfl g_225 (OpsD.gn rfl g_225 (OpsD.gn rfl g_225 (OpsD.st (s := 38488) (.pkF rfl g_225 rfl) rfl rfl (OpsD.p rfl (OpsD.gn rfl rfl (OpsD.gn rfl rfl (OpsD.gn rfl rfl (OpsD.gn rfl rfl (OpsD.gn rfl rfl (OpsD.gn rfl rfl (OpsD.st (s := 38616) (.pkF rfl rfl rfl) rfl rfl (OpsD.p rfl (OpsD.nil ⟨by kernel_rfl,?_⟩)))))))))))))))
         refine Run.ret ?_
         obtain rfl := someO h
         exact Ends.mkG (.inl rfl) rfl (gh_pk [0] [] hB rfl rfl rfl rfl) rfl rfl
       ·refine OpsD.gn rfl g_224 (OpsD.gn rfl g_224 (OpsD.gn rfl g_224 (OpsD.gn rfl g_224 (OpsD.gn rfl g_224 (OpsD.st (s := 38376) (.pkF rfl g_224 rfl) rfl rfl (OpsD.p rfl (OpsD.gn rfl rfl (OpsD.gn rfl rfl (OpsD.gn rfl rfl (OpsD.gn rfl rfl (OpsD.gn rfl rfl (OpsD.st (s := 38488) (.pkF rfl rfl rfl) rfl rfl (OpsD.p rfl (OpsD.gn rfl rfl (OpsD.gn rfl rfl (OpsD.gn rfl rfl (OpsD.gn rfl rfl (OpsD.gn rfl rfl (OpsD.gn rfl rfl (OpsD.st (s := 38616) (.pkF rfl rfl rfl) rfl rfl (OpsD.p rfl (OpsD.nil ⟨by kernel_rfl,?_⟩))))))))))))))))))))))
        refine Run.ret ?_
        obtain rfl := someO h
        exact Ends.mkG (.inl rfl) rfl (gh_pk [0] [] hB rfl rfl rfl rfl) rfl rfl
      ·refine OpsD.gn rfl g_223 (OpsD.gn rfl g_223 (OpsD.gn rfl g_223 (OpsD.st (s := 38264) (.pkF rfl g_223 rfl) rfl rfl (OpsD.p rfl (OpsD.gn rfl rfl (OpsD.gn rfl rfl (OpsD.gn rfl rfl (OpsD.gn rfl rfl (OpsD.gn rfl rfl (OpsD.st (s := 38376) (.pkF rfl rfl rfl) rfl rfl (OpsD.p rfl (OpsD.gn rfl rfl (OpsD.gn rfl rfl (OpsD.gn rfl rfl (OpsD.gn rfl rfl (OpsD.gn rfl rfl (OpsD.st (s := 38488) (.pkF rfl rfl rfl) rfl rfl (OpsD.p rfl (OpsD.gn rfl rfl (OpsD.gn rfl rfl (OpsD.gn rfl rfl (OpsD.gn rfl rfl (OpsD.gn rfl rfl (OpsD.gn rfl rfl (OpsD.st (s := 38616) (.pkF rfl rfl rfl) rfl rfl (OpsD.p rfl (OpsD.nil ⟨by kernel_rfl,?_⟩)))))))))))))))))))))))))))
       refine Run.ret ?_
       obtain rfl := someO h
       exact Ends.mkG (.inl rfl) rfl (gh_pk [0] [] hB rfl rfl rfl rfl) rfl rfl
     ·refine OpsD.gn rfl g_222 (OpsD.gn rfl g_222 (OpsD.gn rfl g_222 (OpsD.st (s := 38184) (.pkF rfl g_222 rfl) rfl rfl (OpsD.p rfl (OpsD.gn rfl rfl (OpsD.gn rfl rfl (OpsD.gn rfl rfl (OpsD.st (s := 38264) (.pkF rfl rfl rfl) rfl rfl (OpsD.p rfl (OpsD.gn rfl rfl (OpsD.gn rfl rfl (OpsD.gn rfl rfl (OpsD.gn rfl rfl (OpsD.gn rfl rfl (OpsD.st (s := 38376) (.pkF rfl rfl rfl) rfl rfl (OpsD.p rfl (OpsD.gn rfl rfl (OpsD.gn rfl rfl (OpsD.gn rfl rfl (OpsD.gn rfl rfl (OpsD.gn rfl rfl (OpsD.st (s := 38488) (.pkF rfl rfl rfl) rfl rfl (OpsD.p rfl (OpsD.gn rfl rfl (OpsD.gn rfl rfl (OpsD.gn rfl rfl (OpsD.gn rfl rfl (OpsD.gn rfl rfl (OpsD.gn rfl rfl (OpsD.st (s := 38616) (.pkF rfl rfl rfl) rfl rfl (OpsD.p rfl (OpsD.nil ⟨by kernel_rfl,?_⟩))))))))))))))))))))))))))))))))
      refine Run.ret ?_
      obtain rfl := someO h
      exact Ends.mkG (.inl rfl) rfl (gh_pk [0] [] hB rfl rfl rfl rfl) rfl rfl
    ·refine OpsD.gn rfl g_221 (OpsD.gn rfl g_221 (OpsD.gn rfl g_221 (OpsD.gn rfl g_221 (OpsD.gn rfl g_221 (OpsD.st (s := 38104) (.pkF rfl g_221 rfl) rfl rfl (OpsD.p rfl (OpsD.gn rfl rfl (OpsD.gn rfl rfl (OpsD.gn rfl rfl (OpsD.st (s := 38184) (.pkF rfl rfl rfl) rfl rfl (OpsD.p rfl (OpsD.gn rfl rfl (OpsD.gn rfl rfl (OpsD.gn rfl rfl (OpsD.st (s := 38264) (.pkF rfl rfl rfl) rfl rfl (OpsD.p rfl (OpsD.gn rfl rfl (OpsD.gn rfl rfl (OpsD.gn rfl rfl (OpsD.gn rfl rfl (OpsD.gn rfl rfl (OpsD.st (s := 38376) (.pkF rfl rfl rfl) rfl rfl (OpsD.p rfl (OpsD.gn rfl rfl (OpsD.gn rfl rfl (OpsD.gn rfl rfl (OpsD.gn rfl rfl (OpsD.gn rfl rfl (OpsD.st (s := 38488) (.pkF rfl rfl rfl) rfl rfl (OpsD.p rfl (OpsD.gn rfl rfl (OpsD.gn rfl rfl (OpsD.gn rfl rfl (OpsD.gn rfl rfl (OpsD.gn rfl rfl (OpsD.gn rfl rfl (OpsD.st (s := 38616) (.pkF rfl rfl rfl) rfl rfl (OpsD.p rfl (OpsD.nil ⟨by kernel_rfl,?_⟩)))))))))))))))))))))))))))))))))))))))
     refine Run.ret ?_
     obtain rfl := someO h
     exact Ends.mkG (.inl rfl) rfl (gh_pk [0] [] hB rfl rfl rfl rfl) rfl rfl
   ·refine OpsD.gn rfl g_219 (OpsD.gn rfl g_219 (OpsD.st (s := 37992) (.pkF rfl g_219 rfl) rfl rfl (OpsD.p rfl (OpsD.gn rfl rfl (OpsD.gn rfl rfl (OpsD.gn rfl rfl (OpsD.gn rfl rfl (OpsD.gn rfl rfl (OpsD.st (s := 38104) (.pkF rfl rfl rfl) rfl rfl (OpsD.p rfl (OpsD.gn rfl rfl (OpsD.gn rfl rfl (OpsD.gn rfl rfl (OpsD.st (s := 38184) (.pkF rfl rfl rfl) rfl rfl (OpsD.p rfl (OpsD.gn rfl rfl (OpsD.gn rfl rfl (OpsD.gn rfl rfl (OpsD.st (s := 38264) (.pkF rfl rfl rfl) rfl rfl (OpsD.p rfl (OpsD.gn rfl rfl (OpsD.gn rfl rfl (OpsD.gn rfl rfl (OpsD.gn rfl rfl (OpsD.gn rfl rfl (OpsD.st (s := 38376) (.pkF rfl rfl rfl) rfl rfl (OpsD.p rfl (OpsD.gn rfl rfl (OpsD.gn rfl rfl (OpsD.gn rfl rfl (OpsD.gn rfl rfl (OpsD.gn rfl rfl (OpsD.st (s := 38488) (.pkF rfl rfl rfl) rfl rfl (OpsD.p rfl (OpsD.gn rfl rfl (OpsD.gn rfl rfl (OpsD.gn rfl rfl (OpsD.gn rfl rfl (OpsD.gn rfl rfl (OpsD.gn rfl rfl (OpsD.st (s := 38616) (.pkF rfl rfl rfl) rfl rfl (OpsD.p rfl (OpsD.nil ⟨by kernel_rfl,?_⟩)))))))))))))))))))))))))))))))))))))))))))
    refine Run.ret ?_
    obtain rfl := someO h
    exact Ends.mkG (.inl rfl) rfl (gh_pk [0] [] hB rfl rfl rfl rfl) rfl rfl
  ·refine OpsD.gn rfl g_218 (OpsD.gn rfl g_218 (OpsD.st (s := 37928) (.pkF rfl g_218 rfl) rfl rfl (OpsD.p rfl (OpsD.gn rfl rfl (OpsD.gn rfl rfl (OpsD.st (s := 37992) (.pkF rfl rfl rfl) rfl rfl (OpsD.p rfl (OpsD.gn rfl rfl (OpsD.gn rfl rfl (OpsD.gn rfl rfl (OpsD.gn rfl rfl (OpsD.gn rfl rfl (OpsD.st (s := 38104) (.pkF rfl rfl rfl) rfl rfl (OpsD.p rfl (OpsD.gn rfl rfl (OpsD.gn rfl rfl (OpsD.gn rfl rfl (OpsD.st (s := 38184) (.pkF rfl rfl rfl) rfl rfl (OpsD.p rfl (OpsD.gn rfl rfl (OpsD.gn rfl rfl (OpsD.gn rfl rfl (OpsD.st (s := 38264) (.pkF rfl rfl rfl) rfl rfl (OpsD.p rfl (OpsD.gn rfl rfl (OpsD.gn rfl rfl (OpsD.gn rfl rfl (OpsD.gn rfl rfl (OpsD.gn rfl rfl (OpsD.st (s := 38376) (.pkF rfl rfl rfl) rfl rfl (OpsD.p rfl (OpsD.gn rfl rfl (OpsD.gn rfl rfl (OpsD.gn rfl rfl (OpsD.gn rfl rfl (OpsD.gn rfl rfl (OpsD.st (s := 38488) (.pkF rfl rfl rfl) rfl rfl (OpsD.p rfl (OpsD.gn rfl rfl (OpsD.gn rfl rfl (OpsD.gn rfl rfl (OpsD.gn rfl rfl (OpsD.gn rfl rfl (OpsD.gn rfl rfl (OpsD.st (s := 38616) (.pkF rfl rfl rfl) rfl rfl (OpsD.p rfl (OpsD.nil ⟨by kernel_rfl,?_⟩)))))))))))))))))))))))))))))))))))))))))))))))
   refine Run.ret ?_
   obtain rfl := someO h
   exact Ends.mkG (.inl rfl) rfl (gh_pk [0] [] hB rfl rfl rfl rfl) rfl rfl
end Go.Proofs.Ytehknbpmpbghhaa.Pe.FnSettles
