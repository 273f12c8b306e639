/- Functions,as pure functions; and that Go does just that. -/
import Derived.Test.YtkojbcnafckofaaGreatPeFFnNodes0
namespace Go.Proofs.YtkojbcnafckofaaGreat.Pe.FnNodes
open Go Go.RowKit
set_option linter.unusedVariables false
set_option linter.unusedSimpArgs false
set_option maxHeartbeats 40000000
set_option maxRecDepth 100000
def s_NodeNew (N : Nat) (x1 : Int) (x2 : (List Int)) : Option (Node × Bool) :=
 (cat? ([] : List Int) x2).bind fun x113 =>
 (s_NodeOk N (Node.mk x1 0 0 0 0 x113 (Log.mk 0 0 ([])) 0 0 20 ([]) ([]))).bind fun y118 =>
 (if (!y118) = true then
 some ((Node.mk 0 0 0 0 0 ([]) (Log.mk 0 0 ([])) 0 0 0 ([]) ([])),false)
 else
 some ((Node.mk x1 0 0 0 0 x113 (Log.mk 0 0 ([])) 0 0 20 ([]) ([])),true))
theorem sem_s_NodeNew (N : Nat) (x1 : Int) (x2 : (List Int)) (r : Node × Bool) (h : s_NodeNew N x1 x2 = some r) : Says Tryz.prog 52 [VI x1,RO 3 (x2.map encI)] 0 [] (.tup [.agg [VI r.1.Id,VI r.1.Term,VI r.1.Vote,VI r.1.Role,VI r.1.Lead,.sl 0 3 0 r.1.Conf.length,VI r.1.Log.Start,VI r.1.Log.StartTerm,.sl 1 40 0 r.1.Log.Entries.length,VI r.1.Commit,VI r.1.Clock,VI r.1.Limit,.sl 2 3 0 r.1.Votes.length,.sl 3 98 0 r.1.Peers.length],VB r.2]) [(0,.vec 3 (r.1.Conf.map encI)),(1,.vec 40 (r.1.Log.Entries.map eE)),(2,.vec 3 (r.1.Votes.map encI)),(3,.vec 98 (r.1.Peers.map eP))] := by
 unfold s_NodeNew at h
 refine Says.of_norm e Tryz.call52 e fun B hB => ?_
 have hm : B.m ≤ 1000 := by omega
 refine Run.so hm (.z 1000 (.al e e) e e (.p e (.nil (.so hm (.p e (.z 5112 (Ev.bsW (ys := ([] : List Int)) (f := encI) e .nil e e e e e) e e (.p e ?_)))))))
 obtain ⟨x113,hx113,h⟩ := bindO h
 refine Ops.z 5144 (Ev.apW (f := encI) (ontoW e e e) (addsF e) e bt3 e hx113) e e (.z 5160 (.bd e e) e e (.z 5176 (.al e e) e e (.y 5192 (.sto e e e e e e) e e (.nil (.seq (.so hm (.p e ?_)))))))
 obtain ⟨y118,hy118,h⟩ := bindO h
 refine Ops.z 9208 (Ev.call [] [5144] 0 (sem_s_NodeOk _ _ _ hy118) e e (.cons (.agg (.d4 (.d1 (.cons (.borrow e (by decide) (lendW (fun _ => e) _ e)) (.d2 (.cons (.nil _ _) (.d2 (.d1 (.cons (.nil _ _) (.cons (.nil _ _) .nil)))))))))) .nil) e (.inr ⟨e,ownL_root trivial⟩) e e) e e ?_
 refine Ops.p e (.nil (.condO e h (fun g119 h => ?_) (fun g119 h => ?_)))
 ·refine Run.so hm (.z 13288 (.bd e e) e e (.y 13304 (.sto e e e e e e) e e (.p e (.nil (.ret ?_)))))
  obtain rfl := someO h
  exact Ends.mkG (.inl e) e (Gh.trans (Gh.trans (gh_prn [0,1] [] hB e) (gh_nil [0] [] hB e e e)) (gh_pk [0,1] [10000000,10000001,10000002,10000003] hB e e e e)) e e
 ·refine Run.skip (.so hm (.p e (.y 17400 (.sto e e e e e e) e e (.p e (.nil (.ret ?_))))))
  obtain rfl := someO h
  exact Ends.mkG (.inl e) e (Gh.trans (Gh.trans (gh_prn [0,1] [5144] hB e) (gh_nil [0] [] hB e e e)) (gh_pk [0,1] [5144,10000000,10000001,10000002] hB e e e e)) e e
def s_l16Copy (N : Nat) (x1 : Node) : Option (Node) :=
 (cat? ([] : List Int) x1.Conf).bind fun x119 =>
 (cat? ([] : List Entry) x1.Log.Entries).bind fun x123 =>
 (cat? ([] : List Int) x1.Votes).bind fun x127 =>
 (cat? ([] : List Peer) x1.Peers).bind fun x131 =>
 some (Node.mk x1.Id x1.Term x1.Vote x1.Role x1.Lead x119 (Log.mk x1.Log.Start x1.Log.StartTerm x123) x1.Commit x1.Clock x1.Limit x127 x131)
theorem sem_s_l16Copy (N : Nat) (x1 : Node) (r : Node) (h : s_l16Copy N x1 = some r) : Says Tryz.prog 31 [.agg [VI x1.Id,VI x1.Term,VI x1.Vote,VI x1.Role,VI x1.Lead,RO 3 (x1.Conf.map encI),VI x1.Log.Start,VI x1.Log.StartTerm,RO 40 (x1.Log.Entries.map eE),VI x1.Commit,VI x1.Clock,VI x1.Limit,RO 3 (x1.Votes.map encI),RO 98 (x1.Peers.map eP)]] 0 [] (.agg [VI r.Id,VI r.Term,VI r.Vote,VI r.Role,VI r.Lead,.sl 0 3 0 r.Conf.length,VI r.Log.Start,VI r.Log.StartTerm,.sl 1 40 0 r.Log.Entries.length,VI r.Commit,VI r.Clock,VI r.Limit,.sl 2 3 0 r.Votes.length,.sl 3 98 0 r.Peers.length]) [(0,.vec 3 (r.Conf.map encI)),(1,.vec 40 (r.Log.Entries.map eE)),(2,.vec 3 (r.Votes.map encI)),(3,.vec 98 (r.Peers.map eP))] := by
 unfold s_l16Copy at h
 refine Says.of_norm e Tryz.call31 e fun B hB => ?_
 have hm : B.m ≤ 1000 := by omega
 refine Run.so hm (.z 1000 (.bx e e) e e (.z 1016 (.al e e) e e (.nil (.so hm (.z 5096 (Ev.bsW (ys := ([] : List Int)) (f := encI) e .nil e e e e e) e e (.p2 e e ?_))))))
 obtain ⟨x119,hx119,h⟩ := bindO h
 refine Ops.z 5144 (Ev.apW (f := encI) (ontoW e e e) (addsF e) e bt3 e hx119) e e (.p e (.y 5176 (.sto e e e e e e) e e (.nil (.so hm (.z 9192 (Ev.bsW (ys := ([] : List Entry)) (f := eE) e .nil e e e e e) e e (.p3 e e e ?_))))))
 obtain ⟨x123,hx123,h⟩ := bindO h
 refine Ops.z 9256 (Ev.apW (f := eE) (ontoW e e e) (addsF e) e bt40 e hx123) e e (.p2 e e (.y 9304 (.sto e e e e e e) e e (.nil (.so hm (.z 13288 (Ev.bsW (ys := ([] : List Int)) (f := encI) e .nil e e e e e) e e (.p2 e e ?_))))))
 obtain ⟨x127,hx127,h⟩ := bindO h
 refine Ops.z 13336 (Ev.apW (f := encI) (ontoW e e e) (addsF e) e bt3 e hx127) e e (.p e (.y 13368 (.sto e e e e e e) e e (.nil (.so hm (.z 17384 (Ev.bsW (ys := ([] : List Peer)) (f := eP) e .nil e e e e e) e e (.p2 e e ?_))))))
 obtain ⟨x131,hx131,h⟩ := bindO h
 refine Ops.z 17432 (Ev.apW (f := eP) (ontoW e e e) (addsF e) e bt98 e hx131) e e (.p e (.y 17464 (.sto e e e e e e) e e (.nil (.so hm (.p e (.y 21496 (.sto e e e e e e) e e (.nil (.ret ?_))))))))
 obtain rfl := someO h
 exact Ends.mkG (.inl e) e (gh_pk [0] [5144,9256,13336,17432] hB e e e e) e e
def s_l16Tell (N : Nat) (x1 : TR) (x2 : Message) : Option (TR) :=
 (cat? x1.told ([(Message.mk x2.Kind x1.n.Id x2.To x1.n.Term x2.Index x2.LogTerm x2.Commit x2.Ok x2.Entries x2.Conf x2.Data x2.Last)] : List Message)).bind fun x103 =>
 some (TR.mk x1.n x103)
theorem sem_s_l16Tell (N : Nat) (x1 : TR) (x2 : Message) (r : TR) (h : s_l16Tell N x1 x2 = some r) : Says Tryz.prog 76 [.ptr 0 0,.agg [VI x2.Kind,VI x2.From,VI x2.To,VI x2.Term,VI x2.Index,VI x2.LogTerm,VI x2.Commit,VB x2.Ok,RO 40 (x2.Entries.map eE),RO 3 (x2.Conf.map encI),VS x2.Data,VB x2.Last]] 6 [(0,.box [VI x1.n.Id,VI x1.n.Term,VI x1.n.Vote,VI x1.n.Role,VI x1.n.Lead,.sl 1 3 0 x1.n.Conf.length,VI x1.n.Log.Start,VI x1.n.Log.StartTerm,.sl 2 40 0 x1.n.Log.Entries.length,VI x1.n.Commit,VI x1.n.Clock,VI x1.n.Limit,.sl 3 3 0 x1.n.Votes.length,.sl 4 98 0 x1.n.Peers.length,.sl 5 32 0 x1.told.length]),(1,.vec 3 (x1.n.Conf.map encI)),(2,.vec 40 (x1.n.Log.Entries.map eE)),(3,.vec 3 (x1.n.Votes.map encI)),(4,.vec 98 (x1.n.Peers.map eP)),(5,.vec 32 (x1.told.map (eM false)))] (.tup []) [(0,.box [VI r.n.Id,VI r.n.Term,VI r.n.Vote,VI r.n.Role,VI r.n.Lead,.sl 1 3 0 x1.n.Conf.length,VI r.n.Log.Start,VI r.n.Log.StartTerm,.sl 2 40 0 x1.n.Log.Entries.length,VI r.n.Commit,VI r.n.Clock,VI r.n.Limit,.sl 3 3 0 x1.n.Votes.length,.sl 4 98 0 x1.n.Peers.length,.sl 6 32 0 r.told.length]),(1,.vec 3 (x1.n.Conf.map encI)),(2,.vec 40 (x1.n.Log.Entries.map eE)),(3,.vec 3 (x1.n.Votes.map encI)),(4,.vec 98 (x1.n.Peers.map eP)),(5,.gone),(6,.vec 32 (r.told.map (eM false)))] := by
 unfold s_l16Tell at h
 refine Says.of_norm e Tryz.call76 e fun B hB => ?_
 have hm : B.m ≤ 1000 := by omega
 refine Run.so hm (.z 1000 (.bx e e) e e (.nil (.so hm (.p3 e e e (.p3 e e e (.y 5192 (.sto e e e e e e) e e (.nil (.so hm (.p3 e e e (.p3 e e e (.y 9288 (.sto e e e e e e) e e (.nil (.draw hm hmix (.p e (.p e (.p e (.p e (.p e (.p e (.z 13384 (Ev.bsW (ys := ([(Message.mk x2.Kind x1.n.Id x2.To x1.n.Term x2.Index x2.LogTerm x2.Commit x2.Ok x2.Entries x2.Conf x2.Data x2.Last)] : List Message)) (f := (eM false)) e (.d4 (.d4 (.d4 .nil))) e e e e e) e e ?_))))))))))))))))))))
 obtain ⟨x103,hx103,h⟩ := bindO h
 refine OpsD.z 13400 (Ev.apW (f := (eM false)) (ontoW e e e) (addsW e e e (fun _ => e)) e bt32 e hx103) e e (.p e (.p e (.y 13448 (.sto e e e e e e) e e (.nil ⟨by kernel_rfl,?_⟩))))
 obtain rfl := someO h
 exact Ends.mkG (.inr e) e (gh_pk [] [0,1,2,3,4,5,13400] hB e e e e) e e
def s_l16Tell_i1 (N : Nat) (x1 : TR) (x2 : Message) : Option (TR × (List Int)) :=
 (cat? x1.told ([(Message.mk x2.Kind x1.n.Id x2.To x1.n.Term x2.Index x2.LogTerm x2.Commit x2.Ok ([]) x2.Conf x2.Data x2.Last)] : List Message)).bind fun x103 =>
 some ((TR.mk x1.n x103),x2.Conf)
theorem sem_s_l16Tell_i1 (N : Nat) (x1 : TR) (x2 : Message) (r : TR × (List Int)) (h : s_l16Tell_i1 N x1 x2 = some r) : Says Tryz.prog 76 [.ptr 0 0,.agg [VI x2.Kind,VI x2.From,VI x2.To,VI x2.Term,VI x2.Index,VI x2.LogTerm,VI x2.Commit,VB x2.Ok,NI 40,.sl 1 3 0 x2.Conf.length,VS x2.Data,VB x2.Last]] 7 [(0,.box [VI x1.n.Id,VI x1.n.Term,VI x1.n.Vote,VI x1.n.Role,VI x1.n.Lead,.sl 2 3 0 x1.n.Conf.length,VI x1.n.Log.Start,VI x1.n.Log.StartTerm,.sl 3 40 0 x1.n.Log.Entries.length,VI x1.n.Commit,VI x1.n.Clock,VI x1.n.Limit,.sl 4 3 0 x1.n.Votes.length,.sl 5 98 0 x1.n.Peers.length,.sl 6 32 0 x1.told.length]),(1,.vec 3 (x2.Conf.map encI)),(2,.vec 3 (x1.n.Conf.map encI)),(3,.vec 40 (x1.n.Log.Entries.map eE)),(4,.vec 3 (x1.n.Votes.map encI)),(5,.vec 98 (x1.n.Peers.map eP)),(6,.vec 32 (x1.told.map (eM false)))] (.tup []) [(0,.box [VI r.1.n.Id,VI r.1.n.Term,VI r.1.n.Vote,VI r.1.n.Role,VI r.1.n.Lead,.sl 2 3 0 x1.n.Conf.length,VI r.1.n.Log.Start,VI r.1.n.Log.StartTerm,.sl 3 40 0 x1.n.Log.Entries.length,VI r.1.n.Commit,VI r.1.n.Clock,VI r.1.n.Limit,.sl 4 3 0 x1.n.Votes.length,.sl 5 98 0 x1.n.Peers.length,.sl 7 32 0 r.1.told.length]),(1,.ro 3 (r.2.map encI)),(2,.vec 3 (x1.n.Conf.map encI)),(3,.vec 40 (x1.n.Log.Entries.map eE)),(4,.vec 3 (x1.n.Votes.map encI)),(5,.vec 98 (x1.n.Peers.map eP)),(6,.gone),(7,.vec 32 (r.1.told.map (eM false)))] := by
 unfold s_l16Tell_i1 at h
 refine Says.of_norm e Tryz.call76 e fun B hB => ?_
 have hm : B.m ≤ 1000 := by omega
 refine Run.so hm (.z 1000 (.bx e e) e e (.nil (.so hm (.p3 e e e (.p3 e e e (.y 5192 (.sto e e e e e e) e e (.nil (.so hm (.p3 e e e (.p3 e e e (.y 9288 (.sto e e e e e e) e e (.nil (.draw hm hmix (.p e (.p e (.p e (.p e (.p e (.p e (.stz (s := 13384) (EvZ.frz (f := encI) (g := encI) (xs := x2.Conf) 1 (fun _ => e) e (.mk (Ev.bsW (ys := ([(Message.mk x2.Kind x1.n.Id x2.To x1.n.Term x2.Index x2.LogTerm x2.Commit x2.Ok ([]) x2.Conf x2.Data x2.Last)] : List Message)) (f := (eM false)) e (.d4 (.d4 (.cons (.nilro _ _) (.cons (.ro e (shareW _ e)) (.d2 .nil))))) e e e e e))) e e ?_))))))))))))))))))))
 obtain ⟨x103,hx103,h⟩ := bindO h
 refine OpsD.z 13400 (Ev.apW (f := (eM false)) (ontoW e e e) (addsW e e e (fun _ => e)) e bt32 e hx103) e e (.p e (.p e (.y 13448 (.sto e e e e e e) e e (.nil ⟨by kernel_rfl,?_⟩))))
 obtain rfl := someO h
 exact Ends.mkG (.inr e) e (gh_pk [] [0,1,2,3,4,5,6,13400] hB e e e e) e e
def s_l12Last (N : Nat) (x1 : Log) : Option (Int) :=
 some (w64 (x1.Start + (x1.Entries.length : Int)))
theorem sem_s_l12Last (N : Nat) (x1 : Log) (r : Int) (h : s_l12Last N x1 = some r) : Says Tryz.prog 80 [.agg [VI x1.Start,VI x1.StartTerm,RO 40 (x1.Entries.map eE)]] 0 [] (VI r) [] := by
 unfold s_l12Last at h
 refine Says.of_norm e Tryz.call80 e fun B hB => ?_
 have hm : B.m ≤ 1000 := by omega
 refine Run.so hm (.z 1000 (.bx e e) e e (.p e (.nil (.so hm (.p3 e e e (.p e (.z 5160 (Ev.lnF e) e e (.p2 e e (.nil (.ret ?_))))))))))
 obtain rfl := someO h
 exact Ends.mkG (.inl e) e (gh_pk [0] [] hB e e e e) e e
def s_LogTerm (N : Nat) (x1 : Log) (x2 : Int) : Option (Int) :=
 (if (x2 == x1.Start) = true then
 some x1.StartTerm
 else
 (if (decide (x2 < x1.Start)) = true then
 some (-1 : Int)
 else
 (s_l12Last N x1).bind fun y124 =>
 (if (decide (x2 > y124)) = true then
 some (-1 : Int)
 else
 (at? x1.Entries (w64 ((w64 (x2 - x1.Start)) - 1))).bind fun x127 =>
 some x127.Term)))
theorem sem_s_LogTerm (N : Nat) (x1 : Log) (x2 : Int) (r : Int) (h : s_LogTerm N x1 x2 = some r) : Says Tryz.prog 82 [.agg [VI x1.Start,VI x1.StartTerm,RO 40 (x1.Entries.map eE)],VI x2] 0 [] (VI r) [] := by
 unfold s_LogTerm at h
 refine Says.of_norm e Tryz.call82 e fun B hB => ?_
 have hm : B.m ≤ 1000 := by omega
 refine Run.so hm (.z 1000 (.bx e e) e e (.p e (.nil (.seq (.so hm (.p3 e e e (.p e (.nil (.condO e h (fun g115 h => ?_) (fun g115 h => ?_))))))))))
 ·refine Run.so hm (.p3 e e e (.nil (.ret ?_)))
  obtain rfl := someO h
  exact Ends.mkG (.inl e) e (gh_pk [0] [] hB e e e e) e e
 ·refine Run.skip (.seq (.so hm (.p3 e e e (.p2 e e (.askO (x := .t 15) e h (fun g123 h => ?_) (fun g123 h => ?_))))))
  ·refine Ops.gn e g123 (.gn e g123 (.gn e g123 (.gn e g123 (.z 13432 (.pkT e g123 e) e e (.nil (.condT e e (.so hm (.p e (.nil (.ret ?_))))))))))
   obtain rfl := someO h
   exact Ends.mkG (.inl e) e (gh_pk [0] [] hB e e e e) e e
  ·refine Ops.gp e g123 e (.gp e g123 e ?_)
   obtain ⟨y124,hy124,h⟩ := bindO h
   refine Ops.gs (s := 13400) e g123 (Ev.call [] [] 0 (sem_s_l12Last _ _ _ hy124) e e (.cons (.agg (.d2 (.d1 .nil))) .nil) e (.inl e) e e) e e (.gp e g123 e (.z 13432 (.pkF e g123 e) e e (.nil (.condO e h (fun g125 h => ?_) (fun g125 h => ?_)))))
   ·refine Run.so hm (.p e (.nil (.ret ?_)))
    obtain rfl := someO h
    exact Ends.mkG (.inl e) e (gh_pk [0] [] hB e e e e) e e
   ·refine Run.skip (.so hm (.p3 e e e (.p3 e e e (.p e ?_))))
    obtain ⟨x127,hx127,h⟩ := bindO h
    refine Ops.z 21592 (Ev.iaF e e hx127) e e (.p3 e e e (.nil (.ret ?_)))
    obtain rfl := someO h
    exact Ends.mkG (.inl e) e (gh_pk [0] [] hB e e e e) e e
def s_l16Send_l1 (N : Nat) (x1 : TR) : Nat → Int → (List Entry) → Option ((List Entry))
 | 0,_,_ => none
 | m + 1,x312,x340 =>
 (if (decide (x312 < ((x1.n.Log.Entries.length : Nat) : Int))) = true then
 (if (decide (((x340.length : Nat) : Int) < 4)) = true then
 (at? x1.n.Log.Entries x312).bind fun x370 =>
 (cat? x340 ([x370] : List Entry)).bind fun x371 =>
 s_l16Send_l1 N x1 m (w64 (x312 + 1)) x371
 else
 some x340)
 else
 some x340)
def s_l16Send (N : Nat) (x1 : TR) (x2 : Peer) : Option (TR) :=
 (if (decide (x2.Next ≤ x1.n.Log.Start)) = true then
 (cat? ([] : List Int) x1.n.Conf).bind fun x245 =>
 (s_l16Tell_i1 N x1 (Message.mk 5 0 x2.Id 0 x1.n.Log.Start x1.n.Log.StartTerm x2.Sent false ([]) x245 (⟨#[]⟩ : ByteArray) false)).bind fun y246 =>
 some (TR.mk (Node.mk y246.1.n.Id y246.1.n.Term y246.1.n.Vote y246.1.n.Role y246.1.n.Lead x1.n.Conf (Log.mk y246.1.n.Log.Start y246.1.n.Log.StartTerm x1.n.Log.Entries) y246.1.n.Commit y246.1.n.Clock y246.1.n.Limit x1.n.Votes x1.n.Peers) y246.1.told)
 else
 (s_LogTerm N x1.n.Log (w64 (x2.Next - 1))).bind fun y250 =>
 joinP (fun (v311 : (List Entry)) =>
 (s_l16Tell N x1 (Message.mk 3 0 x2.Id 0 (w64 (x2.Next - 1)) y250 x1.n.Commit false v311 ([] : (List Int)) (⟨#[]⟩ : ByteArray) false)).bind fun y373 =>
 some (TR.mk (Node.mk y373.n.Id y373.n.Term y373.n.Vote y373.n.Role y373.n.Lead x1.n.Conf (Log.mk y373.n.Log.Start y373.n.Log.StartTerm x1.n.Log.Entries) y373.n.Commit y373.n.Clock y373.n.Limit x1.n.Votes x1.n.Peers) y373.told)) fun j311 =>
 (s_l16Send_l1 N x1 N (w64 ((w64 (x2.Next - x1.n.Log.Start)) - 1)) ([] : (List Entry))).bind (fun v356 => j311 v356))
theorem sem_s_l16Send (N : Nat) (x1 : TR) (x2 : Peer) (r : TR) (h : s_l16Send N x1 x2 = some r) : Says Tryz.prog 84 [.ptr 0 0,.agg [VI x2.Id,VI x2.Next,VI x2.Match,VI x2.Sent]] 6 [(0,.box [VI x1.n.Id,VI x1.n.Term,VI x1.n.Vote,VI x1.n.Role,VI x1.n.Lead,.sl 1 3 0 x1.n.Conf.length,VI x1.n.Log.Start,VI x1.n.Log.StartTerm,.sl 2 40 0 x1.n.Log.Entries.length,VI x1.n.Commit,VI x1.n.Clock,VI x1.n.Limit,.sl 3 3 0 x1.n.Votes.length,.sl 4 98 0 x1.n.Peers.length,.sl 5 32 0 x1.told.length]),(1,.vec 3 (x1.n.Conf.map encI)),(2,.vec 40 (x1.n.Log.Entries.map eE)),(3,.vec 3 (x1.n.Votes.map encI)),(4,.vec 98 (x1.n.Peers.map eP)),(5,.vec 32 (x1.told.map (eM false)))] (.tup []) [(0,.box [VI r.n.Id,VI r.n.Term,VI r.n.Vote,VI r.n.Role,VI r.n.Lead,.sl 1 3 0 x1.n.Conf.length,VI r.n.Log.Start,VI r.n.Log.StartTerm,.sl 2 40 0 x1.n.Log.Entries.length,VI r.n.Commit,VI r.n.Clock,VI r.n.Limit,.sl 3 3 0 x1.n.Votes.length,.sl 4 98 0 x1.n.Peers.length,.sl 6 32 0 r.told.length]),(1,.vec 3 (x1.n.Conf.map encI)),(2,.vec 40 (x1.n.Log.Entries.map eE)),(3,.vec 3 (x1.n.Votes.map encI)),(4,.vec 98 (x1.n.Peers.map eP)),(5,.gone),(6,.vec 32 (r.told.map (eM false)))] := by
 unfold s_l16Send at h
 refine Says.of_norm e Tryz.call84 e fun B hB => ?_
 have hm : B.m ≤ 1000 := by omega
 refine Run.so hm (.z 1000 (.bx e e) e e (.nil (.so hm (.p3 e e e (.p2 e e (.z 5176 (.al e e) e e (.y 5192 (.sto e e e e e e) e e (.nil (.seq (.so hm (.p3 e e e (.p2 e e (.nil (.condO e h (fun g242 h => ?_) (fun g242 h => ?_)))))))))))))))
 ·refine Run.seq (.draw hm hmix (.p e (.p e (.p e (.p e (.p e (.p e (.p e (.z 13400 (Ev.bsW (ys := ([] : List Int)) (f := encI) e .nil e e e e e) e e (.p e (.p e (.p e (.p e (.p e ?_))))))))))))))
  obtain ⟨x245,hx245,h⟩ := bindO h
  refine OpsD.z 13496 (Ev.apW (f := encI) (ontoW e e e) (addsW e e e (fun _ => e)) e bt3 e hx245) e e (.p e (.p e (.z 13544 (.bd e e) e e ?_)))
  obtain ⟨y246,hy246,h⟩ := bindO h
  refine OpsD.z 13560 (Ev.call [0,13496,1,2,3,4,5] [] 1 (sem_s_l16Tell_i1 _ _ _ _ hy246) e e (.cons (.ptr e) (.cons (.agg (.d4 (.d4 (.d1 (.cons (.sl e) (.d2 .nil)))))) .nil)) e (.inl e) e e) e e (.nil ⟨by kernel_rfl,?_⟩)
  refine Run.ret ?_
  obtain rfl := someO h
  exact Ends.mkG (.inl e) e (gh_pk [] [0,1,2,3,4,5,13560] hB e e e e) e e
 ·refine Run.skip (.seq (.draw hm hmix (.p e (.p e (.p e (.p e (.p e (.p e (.p e (.p e (.p e ?_)))))))))))
  obtain ⟨y250,hy250,h⟩ := bindO h
  refine OpsD.z 17528 (Ev.call [] [2] 0 (sem_s_LogTerm _ _ _ _ hy250) e e (.cons (.agg (.d2 (.cons (.borrow e (by decide) (lendW (fun _ => e) _ e)) .nil))) (.d1 .nil)) e (.inr ⟨e,ownL_root trivial⟩) e e) e e ?_
  refine OpsD.p e (.p e (.p e (.p e (.p e (.z 17624 (.bd e e) e e (.z 17640 (.al e e) e e (.y 17656 (.sto e e e e e e) e e (.nil ⟨by kernel_rfl,?_⟩))))))))
  refine Run.seqO h (fun v311 => [(0,.ptr 0 0),(5,.ptr 6 0)]) (fun (v311 : (List Entry)) => [(0,.box [VI x1.n.Id,VI x1.n.Term,VI x1.n.Vote,VI x1.n.Role,VI x1.n.Lead,.sl 1 3 0 x1.n.Conf.length,VI x1.n.Log.Start,VI x1.n.Log.StartTerm,.sl 2 40 0 x1.n.Log.Entries.length,VI x1.n.Commit,VI x1.n.Clock,VI x1.n.Limit,.sl 3 3 0 x1.n.Votes.length,.sl 4 98 0 x1.n.Peers.length,.sl 5 32 0 x1.told.length]),(1,.vec 3 (x1.n.Conf.map encI)),(2,.vec 40 (x1.n.Log.Entries.map eE)),(3,.vec 3 (x1.n.Votes.map encI)),(4,.vec 98 (x1.n.Peers.map eP)),(5,.vec 32 (x1.told.map (eM false))),(6,.box [VI 3,VI 0,VI x2.Id,VI 0,VI (w64 (x2.Next - 1)),VI y250,VI x1.n.Commit,VB false,.sl 7 40 0 v311.length,.sl 8 3 0 (([] : (List Int)).length),VS (⟨#[]⟩ : ByteArray),VB false]),(7,.vec 40 (v311.map eE)),(8,.vec 3 (([] : (List Int)).map encI))]) (fun h => ?_) (fun v311 h => ?_)
  ·refine Run.so hm (.p3 e e e (.p3 e e e (.p e (.nil (.block ?_)))))
   obtain ⟨res356,h,hk356⟩ := bindO h
   refine Run.loop (n := N) (fun m356 fr σ => ∃ (x312 : Int),∃ (x340 : (List Entry)),s_l16Send_l1 N x1 m356 x312 x340 = some res356 ∧ fr = [(0,.ptr 0 0),(4,.ptr 6 0),(5,.ptr 7 0),(6,VI x312)] ∧ σ = [(0,.box [VI x1.n.Id,VI x1.n.Term,VI x1.n.Vote,VI x1.n.Role,VI x1.n.Lead,.sl 1 3 0 x1.n.Conf.length,VI x1.n.Log.Start,VI x1.n.Log.StartTerm,.sl 2 40 0 x1.n.Log.Entries.length,VI x1.n.Commit,VI x1.n.Clock,VI x1.n.Limit,.sl 3 3 0 x1.n.Votes.length,.sl 4 98 0 x1.n.Peers.length,.sl 5 32 0 x1.told.length]),(1,.vec 3 (x1.n.Conf.map encI)),(2,.vec 40 (x1.n.Log.Entries.map eE)),(3,.vec 3 (x1.n.Votes.map encI)),(4,.vec 98 (x1.n.Peers.map eP)),(5,.vec 32 (x1.told.map (eM false))),(6,.box [VI x1.n.Log.Start,VI x1.n.Log.StartTerm,.sl 2 40 0 x1.n.Log.Entries.length]),(7,.box [VI 3,VI 0,VI x2.Id,VI 0,VI (w64 (x2.Next - 1)),VI y250,VI x1.n.Commit,VB false,.sl 8 40 0 x340.length,.sl 9 3 0 (([] : (List Int)).length),VS (⟨#[]⟩ : ByteArray),VB false]),(8,.vec 40 (x340.map eE)),(9,.vec 3 (([] : (List Int)).map encI))]) (Gh.trans (Gh.trans (gh_prn [0,4,5,6] [0,1,2,3,4,5,5176,17640] hB e) (gh_nil [] [17640] hB e e e)) (gh_pk [0,4,5,6] [0,1,2,3,4,5,5176,17640,20000000,20000001] hB e e e e)) ⟨_,_,h,e,e⟩ ?_
   rintro m356 fr σ ⟨x312,x340,h,rfl,rfl⟩
   obtain _ | m356 := m356
   ·rw [s_l16Send_l1] at h; cases h
   rw [s_l16Send_l1] at h
   refine Run.seq (.so hm (.p3 e e e (.p3 e e e (.askO (x := .t 62) e h (fun g362 h => ?_) (fun g362 h => ?_)))))
   ·refine Ops.gp e g362 e (.gp e g362 e (.gp e g362 e (.gp e g362 e (.z 25736 (.pkT e g362 e) e e (.nil (.condO e h (fun g363 h => ?_) (fun g363 h => ?_)))))))
    ·refine Run.skip (.seq (.block (.draw hm hmix (.p e (.p e (.p e (.p e (.p e ?_))))))))
     obtain ⟨x370,hx370,h⟩ := bindO h
     refine OpsD.z 33848 (Ev.iaW e e e hx370) e e (.z 33864 (Ev.ldE (f := eE) e e (at_some hx370).2 e e e) e e (.z 33880 (Ev.bsW (ys := ([x370] : List Entry)) (f := eE) e (.d2 (.d1 .nil)) e e e e e) e e ?_))
     obtain ⟨x371,hx371,h⟩ := bindO h
     refine OpsD.z 33896 (Ev.apW (f := eE) (ontoW e e e) (addsW e e e (fun _ => e)) e bt40 e hx371) e e (.p e (.y 33928 (.sto e e e e e e) e e (.nil ⟨by kernel_rfl,?_⟩)))
     exact Run.ops hm (.p3 e e e (.nil (⟨m356,Nat.lt_succ_self m356,_,_,(gh_pk [0,4,5,6] [0,1,2,3,4,5,6,7,33896,9] hB e e e e),_,_,h,e,e⟩)))
    ·refine Run.exit ?_
     obtain rfl := someO h
     have h := hk356
     exact ⟨_,_,(gh_pk [0,5] [0,1,2,3,4,5,7,8,9] hB e e e e),_,h,e,e⟩
   ·refine Ops.gn e g362 (.gn e g362 (.gn e g362 (.gn e g362 (.z 25736 (.pkF e g362 e) e e (.nil (.condF e e (.exit ?_)))))))
    obtain rfl := someO h
    have h := hk356
    exact ⟨_,_,(gh_pk [0,5] [0,1,2,3,4,5,7,8,9] hB e e e e),_,h,e,e⟩
  ·refine Run.ops hm (.p2 e e ?_)
   obtain ⟨y373,hy373,h⟩ := bindO h
   refine Ops.stz (s := 37896) (EvZ.frz (f := eE) (g := eE) (xs := v311) 7 (fun _ => e) e (EvZ.frz (f := encI) (g := encI) (xs := ([] : (List Int))) 8 (fun _ => e) e (.mk (Ev.call [0,1,2,3,4,5] [] 1 (sem_s_l16Tell _ _ _ _ hy373) e e (.cons (.ptr e) (.cons (.agg (.d4 (.d4 (.cons (.share e (shareW _ e)) (.cons (.share e (shareW _ e)) (.d2 .nil)))))) .nil)) e (.inl e) e e)))) e e (.nil ?_)
   obtain rfl := someO h
   exact Ends.mkG (.inr e) e (gh_pk [] [0,1,2,3,4,5,37896] hB e e e e) e e
def s_l16SendAll_l1 (N : Nat) (x1 : TR) : Nat → Int → Int → Int → Int → Int → Int → Int → Int → Int → Int → Int → (List Message) → Option (Int × Int × Int × Int × Int × Int × Int × Int × Int × Int × (List Message))
 | 0,_,_,_,_,_,_,_,_,_,_,_,_ => none
 | m + 1,x138,x139,x140,x141,x142,x143,x144,x145,x146,x147,x148,x153 =>
 (if (decide (x138 < ((x1.n.Peers.length : Nat) : Int))) = true then
 (at? x1.n.Peers x138).bind fun x174 =>
 (s_l16Send N (TR.mk (Node.mk x139 x140 x141 x142 x143 x1.n.Conf (Log.mk x144 x145 x1.n.Log.Entries) x146 x147 x148 x1.n.Votes x1.n.Peers) x153) x174).bind fun y175 =>
 s_l16SendAll_l1 N x1 m (w64 (x138 + 1)) y175.n.Id y175.n.Term y175.n.Vote y175.n.Role y175.n.Lead y175.n.Log.Start y175.n.Log.StartTerm y175.n.Commit y175.n.Clock y175.n.Limit y175.told
 else
 some (x139,x140,x141,x142,x143,x144,x145,x146,x147,x148,x153))
def s_l16SendAll (N : Nat) (x1 : TR) : Option (TR) :=
 (s_l16SendAll_l1 N x1 N 0 x1.n.Id x1.n.Term x1.n.Vote x1.n.Role x1.n.Lead x1.n.Log.Start x1.n.Log.StartTerm x1.n.Commit x1.n.Clock x1.n.Limit ([] : (List Message))).bind (fun v164 => some (TR.mk (Node.mk v164.1 v164.2.1 v164.2.2.1 v164.2.2.2.1 v164.2.2.2.2.1 x1.n.Conf (Log.mk v164.2.2.2.2.2.1 v164.2.2.2.2.2.2.1 x1.n.Log.Entries) v164.2.2.2.2.2.2.2.1 v164.2.2.2.2.2.2.2.2.1 v164.2.2.2.2.2.2.2.2.2.1 x1.n.Votes x1.n.Peers) v164.2.2.2.2.2.2.2.2.2.2))
theorem sem_s_l16SendAll (N : Nat) (x1 : TR) (r : TR) (h : s_l16SendAll N x1 = some r) : Says Tryz.prog 91 [.ptr 0 0] 5 [(0,.box [VI x1.n.Id,VI x1.n.Term,VI x1.n.Vote,VI x1.n.Role,VI x1.n.Lead,.sl 1 3 0 x1.n.Conf.length,VI x1.n.Log.Start,VI x1.n.Log.StartTerm,.sl 2 40 0 x1.n.Log.Entries.length,VI x1.n.Commit,VI x1.n.Clock,VI x1.n.Limit,.sl 3 3 0 x1.n.Votes.length,.sl 4 98 0 x1.n.Peers.length,NI 32]),(1,.vec 3 (x1.n.Conf.map encI)),(2,.vec 40 (x1.n.Log.Entries.map eE)),(3,.vec 3 (x1.n.Votes.map encI)),(4,.vec 98 (x1.n.Peers.map eP))] (.tup []) [(0,.box [VI r.n.Id,VI r.n.Term,VI r.n.Vote,VI r.n.Role,VI r.n.Lead,.sl 1 3 0 x1.n.Conf.length,VI r.n.Log.Start,VI r.n.Log.StartTerm,.sl 2 40 0 x1.n.Log.Entries.length,VI r.n.Commit,VI r.n.Clock,VI r.n.Limit,.sl 3 3 0 x1.n.Votes.length,.sl 4 98 0 x1.n.Peers.length,.sl 5 32 0 r.told.length]),(1,.vec 3 (x1.n.Conf.map encI)),(2,.vec 40 (x1.n.Log.Entries.map eE)),(3,.vec 3 (x1.n.Votes.map encI)),(4,.vec 98 (x1.n.Peers.map eP)),(5,.vec 32 (r.told.map (eM false)))] := by
 unfold s_l16SendAll at h
 refine Says.of_norm e Tryz.call91 e fun B hB => ?_
 have hm : B.m ≤ 1000 := by omega
 refine Run.so hm (.p e (.nil (.block ?_)))
 obtain ⟨res164,h,hk164⟩ := bindO h
 refine Run.loop (n := N) (fun m164 fr σ => ∃ (x138 : Int),∃ (x139 : Int),∃ (x140 : Int),∃ (x141 : Int),∃ (x142 : Int),∃ (x143 : Int),∃ (x144 : Int),∃ (x145 : Int),∃ (x146 : Int),∃ (x147 : Int),∃ (x148 : Int),∃ (x153 : (List Message)),s_l16SendAll_l1 N x1 m164 x138 x139 x140 x141 x142 x143 x144 x145 x146 x147 x148 x153 = some res164 ∧ fr = [(0,.ptr 0 0),(2,VI x138)] ∧ σ = [(0,.box [VI x139,VI x140,VI x141,VI x142,VI x143,.sl 1 3 0 x1.n.Conf.length,VI x144,VI x145,.sl 2 40 0 x1.n.Log.Entries.length,VI x146,VI x147,VI x148,.sl 3 3 0 x1.n.Votes.length,.sl 4 98 0 x1.n.Peers.length,.sl 5 32 0 x153.length]),(1,.vec 3 (x1.n.Conf.map encI)),(2,.vec 40 (x1.n.Log.Entries.map eE)),(3,.vec 3 (x1.n.Votes.map encI)),(4,.vec 98 (x1.n.Peers.map eP)),(5,.vec 32 (x153.map (eM false)))]) (Gh.trans (Gh.trans (gh_prn [0,2] [0,1,2,3,4] hB e) (gh_nil [] [0] hB e e e)) (gh_pk [0,2] [0,1,2,3,4,20000000] hB e e e e)) ⟨_,_,_,_,_,_,_,_,_,_,_,_,h,e,e⟩ ?_
 rintro m164 fr σ ⟨x138,x139,x140,x141,x142,x143,x144,x145,x146,x147,x148,x153,h,rfl,rfl⟩
 obtain _ | m164 := m164
 ·rw [s_l16SendAll_l1] at h; cases h
 rw [s_l16SendAll_l1] at h
 refine Run.seq (.so hm (.p3 e e e (.p3 e e e (.p2 e e (.nil (.condO e h (fun g167 h => ?_) (fun g167 h => ?_)))))))
 ·refine Run.skip (.seq (.block (.ops hm (.p3 e e e (.p3 e e e (.p e ?_))))))
  obtain ⟨x174,hx174,h⟩ := bindO h
  refine Ops.z 13400 (Ev.iaW e e e hx174) e e (.z 13416 (Ev.ldE (f := eP) e e (at_some hx174).2 e e e) e e ?_)
  obtain ⟨y175,hy175,h⟩ := bindO h
  exact Ops.z 13432 (Ev.call [0,1,2,3,4,5] [] 1 (sem_s_l16Send _ _ _ _ hy175) e e (.cons (.ptr e) (.cons (.agg (.d4 .nil)) .nil)) e (.inl e) e e) e e (.nil (.ops hm (.p3 e e e (.nil (⟨m164,Nat.lt_succ_self m164,_,_,(gh_pk [0,2] [0,1,2,3,4,13432] hB e e e e),_,_,_,_,_,_,_,_,_,_,_,_,h,e,e⟩)))))
 ·refine Run.exit ?_
  obtain rfl := someO h
  have h := hk164
  obtain rfl := someO h
  exact Ends.mkG (.inr e) e (gh_pk [] [0,1,2,3,4,5] hB e e e e) e e
def s_l09In_l1 (N : Nat) (x1 : (List Int)) (x2 : Int) : Nat → Int → Option ((Bool) ⊕ (Unit))
 | 0,_ => none
 | m + 1,x170 =>
 (if (decide (x170 < (x1.length : Int))) = true then
 (at? x1 x170).bind fun x188 =>
 (if (x188 == x2) = true then
 some (Sum.inl true)
 else
 s_l09In_l1 N x1 x2 m (w64 (x170 + 1)))
 else
 some (Sum.inr ()))
def s_l09In_l1_r (N : Nat) (x1 : (List Int)) (x2 : Int) : (List Int) → Int → Option ((Bool) ⊕ (Unit))
 | [],x170 =>
 some (Sum.inr ())
 | hd :: tl,x170 =>
 (some hd).bind fun x188 =>
 (if (x188 == x2) = true then
 some (Sum.inl true)
 else
 s_l09In_l1_r N x1 x2 tl (w64 (x170 + 1)))
theorem s_l09In_l1_rng (N : Nat) (x1 : (List Int)) (x2 : Int) (hx : x1.length ≤ 1099511627776) : ∀ (d k m : Nat),x1.length = k + d → d < m → s_l09In_l1 N x1 x2 m (k : Int) = s_l09In_l1_r N x1 x2 (x1.drop k) (k : Int) := by
 intro d
 induction d with
 | zero =>
  intro k m hd hm
  obtain ⟨m,rfl⟩ : ∃ q,m = q + 1 := ⟨m - 1,by omega⟩
  rw [s_l09In_l1,if_neg (by simp; omega),List.drop_eq_nil_of_le (by omega),s_l09In_l1_r]
 | succ d ih =>
  intro k m hd hm
  obtain ⟨m,rfl⟩ : ∃ q,m = q + 1 := ⟨m - 1,by omega⟩
  have hk : k < x1.length := by omega
  rw [s_l09In_l1,if_pos (by simp; omega),List.drop_eq_getElem_cons hk,s_l09In_l1_r]
  have h1 := at_lt hk
  have h2 := w64_succ (k := k) (by omega)
  have h3 := ih (k + 1) m
  simp only [h1,h2,h3 (by omega) (by omega)]
theorem s_l09In_l1_eq {N : Nat} (x1 : (List Int)) (x2 : Int) (hx : x1.length ≤ 1099511627776) (hN : x1.length < N) : s_l09In_l1 N x1 x2 N 0 = s_l09In_l1_r N x1 x2 x1 0 := s_l09In_l1_rng N x1 x2 hx x1.length 0 N (by omega) hN
def s_l09In (N : Nat) (x1 : (List Int)) (x2 : Int) : Option (Bool) :=
 joinP (fun (v167 : Unit) =>
 some false) fun j167 =>
 (s_l09In_l1 N x1 x2 N 0).bind (Sum.elim (fun v179 => some v179) (fun (v180 : Unit) => j167 ()))
theorem sem_s_l09In (N : Nat) (x1 : (List Int)) (x2 : Int) (r : Bool) (h : s_l09In N x1 x2 = some r) : Says Tryz.prog 77 [RO 3 (x1.map encI),VI x2] 0 [] (VB r) [] := by
 unfold s_l09In at h
 refine Says.of_norm e Tryz.call77 e fun B hB => ?_
 have hm : B.m ≤ 1000 := by omega
 refine Run.so hm (.p e (.nil (.seqO h (fun v167 => []) (fun (v167 : Unit) => []) (fun h => ?_) (fun v167 h => ?_))))
 ·refine Run.so hm (.p e (.nil (.block ?_)))
  obtain ⟨res180,h,hk180⟩ := bindO h
  refine Run.loop (n := N) (fun m180 fr σ => ∃ (x170 : Int),s_l09In_l1 N x1 x2 m180 x170 = some res180 ∧ fr = [(0,RO 3 (x1.map encI)),(1,VI x2),(5,VI x170)] ∧ σ = []) (gh_pk [0,1,5] [] hB e e e e) ⟨_,h,e,e⟩ ?_
  rintro m180 fr σ ⟨x170,h,rfl,rfl⟩
  obtain _ | m180 := m180
  ·rw [s_l09In_l1] at h; cases h
  rw [s_l09In_l1] at h
  refine Run.seq (.so hm (.p2 e e (.z 9224 (Ev.lnF e) e e (.p e (.nil (.condO e h (fun g183 h => ?_) (fun g183 h => ?_)))))))
  ·refine Run.skip (.seq (.block (.so hm (.p2 e e ?_))))
   obtain ⟨x188,hx188,h⟩ := bindO h
   refine Ops.z 17416 (Ev.iaF e e hx188) e e (.p3 e e e (.nil (.condO e h (fun g189 h => ?_) (fun g189 h => ?_))))
   ·refine Run.so hm (.p e (.nil (.ret ?_)))
    obtain rfl := someO h
    have h := hk180
    replace h := inlO h
    obtain rfl := someO h
    exact Ends.mkG (.inl e) e (gh_pk [0] [] hB e e e e) e e
   ·exact Run.skip (.ops hm (.p3 e e e (.nil (⟨m180,Nat.lt_succ_self m180,_,_,(gh_pk [0,1,5] [] hB e e e e),_,h,e,e⟩))))
  ·refine Run.exit ?_
   obtain rfl := someO h
   have h := hk180
   replace h := inrO h
   exact ⟨_,_,(gh_pk [] [] hB e e e e),(),h,e,e⟩
 ·refine Run.so hm (.p e (.nil (.ret ?_)))
  obtain rfl := someO h
  exact Ends.mkG (.inl e) e (gh_pk [0] [] hB e e e e) e e
def s_Most_l1 (N : Nat) (x1 : (List Int)) (x2 : (List Int)) : Nat → Int → Int → Option (Int)
 | 0,_,_ => none
 | m + 1,x204,x205 =>
 (if (decide (x205 < (x1.length : Int))) = true then
 joinP (fun (v228 : Int) =>
 s_Most_l1 N x1 x2 m v228 (w64 (x205 + 1))) fun j228 =>
 (at? x1 x205).bind fun x231 =>
 (s_l09In N x2 x231).bind fun y232 =>
 (if y232 = true then
 j228 (w64 (x204 + 1))
 else
 j228 x204)
 else
 some x204)
def s_Most_l1_r (N : Nat) (x1 : (List Int)) (x2 : (List Int)) : (List Int) → Int → Int → Option (Int)
 | [],x204,x205 =>
 some x204
 | hd :: tl,x204,x205 =>
 joinP (fun (v228 : Int) =>
 s_Most_l1_r N x1 x2 tl v228 (w64 (x205 + 1))) fun j228 =>
 (some hd).bind fun x231 =>
 (s_l09In N x2 x231).bind fun y232 =>
 (if y232 = true then
 j228 (w64 (x204 + 1))
 else
 j228 x204)
theorem s_Most_l1_rng (N : Nat) (x1 : (List Int)) (x2 : (List Int)) (hx : x1.length ≤ 1099511627776) : ∀ (d k m : Nat) (x204 : Int),x1.length = k + d → d < m → s_Most_l1 N x1 x2 m x204 (k : Int) = s_Most_l1_r N x1 x2 (x1.drop k) x204 (k : Int) := by
 intro d
 induction d with
 | zero =>
  intro k m x204 hd hm
  obtain ⟨m,rfl⟩ : ∃ q,m = q + 1 := ⟨m - 1,by omega⟩
  rw [s_Most_l1,if_neg (by simp; omega),List.drop_eq_nil_of_le (by omega),s_Most_l1_r]
 | succ d ih =>
  intro k m x204 hd hm
  obtain ⟨m,rfl⟩ : ∃ q,m = q + 1 := ⟨m - 1,by omega⟩
  have hk : k < x1.length := by omega
  rw [s_Most_l1,if_pos (by simp; omega),List.drop_eq_getElem_cons hk,s_Most_l1_r]
  have h1 := at_lt hk
  have h2 := w64_succ (k := k) (by omega)
  have h3 := ih (k + 1) m
  simp only [h1,h2,h3 _ (by omega) (by omega)]
theorem s_Most_l1_eq {N : Nat} (x1 : (List Int)) (x2 : (List Int)) (hx : x1.length ≤ 1099511627776) (hN : x1.length < N) (x204 : Int) : s_Most_l1 N x1 x2 N x204 0 = s_Most_l1_r N x1 x2 x1 x204 0 := s_Most_l1_rng N x1 x2 hx x1.length 0 N x204 (by omega) hN
def s_Most (N : Nat) (x1 : (List Int)) (x2 : (List Int)) : Option (Bool) :=
 joinP (fun (v201 : Int) =>
 (s_ConfOk N x1).bind fun y236 =>
 (if y236 = true then
 some (decide ((w64 (2 * v201)) > (x1.length : Int)))
 else
 some false)) fun j201 =>
 (s_Most_l1 N x1 x2 N 0 0).bind (fun v219 => j201 v219)
theorem sem_s_Most (N : Nat) (x1 : (List Int)) (x2 : (List Int)) (r : Bool) (h : s_Most N x1 x2 = some r) : Says Tryz.prog 108 [RO 3 (x1.map encI),RO 3 (x2.map encI)] 0 [] (VB r) [] := by
 unfold s_Most at h
 refine Says.of_norm e Tryz.call108 e fun B hB => ?_
 have hm : B.m ≤ 1000 := by omega
 refine Run.so hm (.p e (.nil (.so hm (.p e (.nil (.seqO h (fun v201 => [(0,RO 3 (x1.map encI)),(5,VI v201)]) (fun (v201 : Int) => []) (fun h => ?_) (fun v201 h => ?_)))))))
 ·refine Run.so hm (.p e (.nil (.block ?_)))
  obtain ⟨res219,h,hk219⟩ := bindO h
  refine Run.loop (n := N) (fun m219 fr σ => ∃ (x204 : Int),∃ (x205 : Int),s_Most_l1 N x1 x2 m219 x204 x205 = some res219 ∧ fr = [(0,RO 3 (x1.map encI)),(1,RO 3 (x2.map encI)),(5,VI x204),(6,VI x205)] ∧ σ = []) (gh_pk [0,1,5,6] [] hB e e e e) ⟨_,_,h,e,e⟩ ?_
  rintro m219 fr σ ⟨x204,x205,h,rfl,rfl⟩
  obtain _ | m219 := m219
  ·rw [s_Most_l1] at h; cases h
  rw [s_Most_l1] at h
  refine Run.seq (.so hm (.p2 e e (.z 13320 (Ev.lnF e) e e (.p e (.nil (.condO e h (fun g222 h => ?_) (fun g222 h => ?_)))))))
  ·refine Run.skip (.seqO h (fun v228 => [(0,RO 3 (x1.map encI)),(1,RO 3 (x2.map encI)),(5,VI v228),(6,VI x205)]) (fun (v228 : Int) => []) (fun h => ?_) (fun v228 h => ?_))
   ·refine Run.block (.so hm (.p3 e e e ?_))
    obtain ⟨x231,hx231,h⟩ := bindO h
    refine Ops.z 21528 (Ev.iaF e e hx231) e e (.p e ?_)
    obtain ⟨y232,hy232,h⟩ := bindO h
    refine Ops.z 21560 (Ev.call [] [] 0 (sem_s_l09In _ _ _ _ hy232) e e (.d2 .nil) e (.inl e) e e) e e (.nil (.condO e h (fun g233 h => ?_) (fun g233 h => ?_)))
    ·exact Run.ops hm (.p3 e e e (.nil (⟨_,_,(gh_pk [0,1,5,6] [] hB e e e e),_,h,e,e⟩)))
    ·exact Run.skip (⟨_,_,(gh_pk [0,1,5,6] [] hB e e e e),_,h,e,e⟩)
   ·exact Run.ops hm (.p3 e e e (.nil (⟨m219,Nat.lt_succ_self m219,_,_,(gh_pk [0,1,5,6] [] hB e e e e),_,_,h,e,e⟩)))
  ·refine Run.exit ?_
   obtain rfl := someO h
   have h := hk219
   exact ⟨_,_,(gh_pk [0,5] [] hB e e e e),_,h,e,e⟩
 ·refine Run.so hm (.p e ?_)
  obtain ⟨y236,hy236,h⟩ := bindO h
  refine Ops.z 29688 (Ev.call [] [] 0 (sem_s_ConfOk _ _ _ hy236) e e (.d1 .nil) e (.inl e) e e) e e (.p e (.askO (x := .t 23) e h (fun g237 h => ?_) (fun g237 h => ?_)))
  ·refine Ops.gp e g237 e (.gp e g237 e (.gp e g237 e (.gs (s := 29768) e g237 (Ev.lnF e) e e (.gp e g237 e (.z 29800 (.pkT e g237 e) e e (.p e (.nil (.ret ?_))))))))
   obtain rfl := someO h
   exact Ends.mkG (.inl e) e (gh_pk [0] [] hB e e e e) e e
  ·refine Ops.gn e g237 (.gn e g237 (.gn e g237 (.gn e g237 (.gn e g237 (.z 29800 (.pkF e g237 e) e e (.p e (.nil (.ret ?_))))))))
   obtain rfl := someO h
   exact Ends.mkG (.inl e) e (gh_pk [0] [] hB e e e e) e e
def s_l16Elected (N : Nat) (x1 : TR) : Option (Bool × TR) :=
 (s_ConfOf N x1.n).bind fun y106 =>
 (s_Most N y106 x1.n.Votes).bind fun y107 =>
 some (y107,(TR.mk x1.n ([])))
theorem sem_s_l16Elected (N : Nat) (x1 : TR) (r : Bool × TR) (h : s_l16Elected N x1 = some r) : Says Tryz.prog 78 [.ptr 0 0] 5 [(0,.box [VI x1.n.Id,VI x1.n.Term,VI x1.n.Vote,VI x1.n.Role,VI x1.n.Lead,.sl 1 3 0 x1.n.Conf.length,VI x1.n.Log.Start,VI x1.n.Log.StartTerm,.sl 2 40 0 x1.n.Log.Entries.length,VI x1.n.Commit,VI x1.n.Clock,VI x1.n.Limit,.sl 3 3 0 x1.n.Votes.length,.sl 4 98 0 x1.n.Peers.length,NI 32]),(1,.vec 3 (x1.n.Conf.map encI)),(2,.vec 40 (x1.n.Log.Entries.map eE)),(3,.vec 3 (x1.n.Votes.map encI)),(4,.vec 98 (x1.n.Peers.map eP))] (VB r.1) [(0,.box [VI r.2.n.Id,VI r.2.n.Term,VI r.2.n.Vote,VI r.2.n.Role,VI r.2.n.Lead,.sl 1 3 0 x1.n.Conf.length,VI r.2.n.Log.Start,VI r.2.n.Log.StartTerm,.sl 2 40 0 x1.n.Log.Entries.length,VI r.2.n.Commit,VI r.2.n.Clock,VI r.2.n.Limit,.sl 3 3 0 x1.n.Votes.length,.sl 4 98 0 x1.n.Peers.length,.sl 5 32 0 r.2.told.length]),(1,.vec 3 (x1.n.Conf.map encI)),(2,.vec 40 (x1.n.Log.Entries.map eE)),(3,.vec 3 (x1.n.Votes.map encI)),(4,.vec 98 (x1.n.Peers.map eP)),(5,.vec 32 (r.2.told.map (eM false)))] := by
 unfold s_l16Elected at h
 refine Says.of_norm e Tryz.call78 e fun B hB => ?_
 have hm : B.m ≤ 1000 := by omega
 refine Run.so hm (.p e (.nil (.seq (.draw hm hmix (.p e (.p e (.p e (.p e ?_))))))))
 obtain ⟨y106,hy106,h⟩ := bindO h
 refine OpsD.z 5160 (Ev.call [] [1,2,3,4] 1 (sem_s_ConfOf _ _ _ hy106) e e (.cons (.agg (.d4 (.d1 (.cons (.borrow e (by decide) (lendW (fun _ => e) _ e)) (.d2 (.cons (.borrow e (by decide) (lendW (fun _ => e) _ e)) (.d2 (.d1 (.cons (.borrow e (by decide) (lendW (fun _ => e) _ e)) (.cons (.borrow e (by decide) (lendW (fun _ => e) _ e)) .nil)))))))))) .nil) e (.inr ⟨e,ownL_root ⟨own_rows (fun _ => e) _,trivial⟩⟩) e e) e e ?_
 refine OpsD.p e (.p e (.p e (.p e (.p e ?_))))
 obtain ⟨y107,hy107,h⟩ := bindO h
 refine OpsD.z 5256 (Ev.call [] [5160,3] 0 (sem_s_Most _ _ _ _ hy107) e e (.cons (.borrow e (by decide) (lendW (fun _ => e) _ e)) (.cons (.borrow e (by decide) (lendW (fun _ => e) _ e)) .nil)) e (.inr ⟨e,ownL_root trivial⟩) e e) e e ?_
 refine OpsD.p e (.nil ⟨by kernel_rfl,?_⟩)
 refine Run.ret ?_
 obtain rfl := someO h
 exact Ends.mkG (.inl e) e (Gh.trans (Gh.trans (gh_prn [0] [0,1,2,3,4] hB e) (gh_nil [] [0] hB e e e)) (gh_pk [0] [0,1,2,3,4,20000000] hB e e e e)) e e
def s_l16Room (N : Nat) (x1 : Node) : Option (Bool) :=
 (if (decide ((x1.Log.Entries.length : Int) < 120)) = true then
 (s_l12Last N x1.Log).bind fun y107 =>
 some (decide (y107 < 100000))
 else
 some false)
theorem sem_s_l16Room (N : Nat) (x1 : Node) (r : Bool) (h : s_l16Room N x1 = some r) : Says Tryz.prog 96 [.agg [VI x1.Id,VI x1.Term,VI x1.Vote,VI x1.Role,VI x1.Lead,RO 3 (x1.Conf.map encI),VI x1.Log.Start,VI x1.Log.StartTerm,RO 40 (x1.Log.Entries.map eE),VI x1.Commit,VI x1.Clock,VI x1.Limit,RO 3 (x1.Votes.map encI),RO 98 (x1.Peers.map eP)]] 0 [] (VB r) [] := by
 unfold s_l16Room at h
 refine Says.of_norm e Tryz.call96 e fun B hB => ?_
 have hm : B.m ≤ 1000 := by omega
 refine Run.so hm (.z 1000 (.bx e e) e e (.p e (.nil (.so hm (.p3 e e e (.z 5144 (Ev.lnF e) e e (.p2 e e (.askO (x := .t 8) e h (fun g106 h => ?_) (fun g106 h => ?_)))))))))
 ·refine Ops.gp e g106 e (.gp e g106 e ?_)
  obtain ⟨y107,hy107,h⟩ := bindO h
  refine Ops.gs (s := 5224) e g106 (Ev.call [] [] 0 (sem_s_l12Last _ _ _ hy107) e e (.cons (.agg (.d2 (.d1 .nil))) .nil) e (.inl e) e e) e e (.gp e g106 e (.z 5256 (.pkT e g106 e) e e (.p e (.nil (.ret ?_)))))
  obtain rfl := someO h
  exact Ends.mkG (.inl e) e (gh_pk [0] [] hB e e e e) e e
 ·refine Ops.gn e g106 (.gn e g106 (.gn e g106 (.gn e g106 (.z 5256 (.pkF e g106 e) e e (.p e (.nil (.ret ?_)))))))
  obtain rfl := someO h
  exact Ends.mkG (.inl e) e (gh_pk [0] [] hB e e e e) e e
def s_l16ConfIndex_l1 (N : Nat) (x1 : Node) : Nat → Int → Int → Option (Int)
 | 0,_,_ => none
 | m + 1,x210,x211 =>
 (if (decide (x211 < (x1.Log.Entries.length : Int))) = true then
 joinP (fun (v242 : Int) =>
 s_l16ConfIndex_l1 N x1 m v242 (w64 (x211 + 1))) fun j242 =>
 (at? x1.Log.Entries x211).bind fun x244 =>
 (if (x244.Kind == 2) = true then
 j242 (w64 ((w64 (x1.Log.Start + 1)) + x211))
 else
 j242 x210)
 else
 some x210)
def s_l16ConfIndex_l1_r (N : Nat) (x1 : Node) : (List Entry) → Int → Int → Option (Int)
 | [],x210,x211 =>
 some x210
 | hd :: tl,x210,x211 =>
 joinP (fun (v242 : Int) =>
 s_l16ConfIndex_l1_r N x1 tl v242 (w64 (x211 + 1))) fun j242 =>
 (some hd).bind fun x244 =>
 (if (x244.Kind == 2) = true then
 j242 (w64 ((w64 (x1.Log.Start + 1)) + x211))
 else
 j242 x210)
theorem s_l16ConfIndex_l1_rng (N : Nat) (x1 : Node) (hx : x1.Log.Entries.length ≤ 1099511627776) : ∀ (d k m : Nat) (x210 : Int),x1.Log.Entries.length = k + d → d < m → s_l16ConfIndex_l1 N x1 m x210 (k : Int) = s_l16ConfIndex_l1_r N x1 (x1.Log.Entries.drop k) x210 (k : Int) := by
 intro d
 induction d with
 | zero =>
  intro k m x210 hd hm
  obtain ⟨m,rfl⟩ : ∃ q,m = q + 1 := ⟨m - 1,by omega⟩
  rw [s_l16ConfIndex_l1,if_neg (by simp; omega),List.drop_eq_nil_of_le (by omega),s_l16ConfIndex_l1_r]
 | succ d ih =>
  intro k m x210 hd hm
  obtain ⟨m,rfl⟩ : ∃ q,m = q + 1 := ⟨m - 1,by omega⟩
  have hk : k < x1.Log.Entries.length := by omega
  rw [s_l16ConfIndex_l1,if_pos (by simp; omega),List.drop_eq_getElem_cons hk,s_l16ConfIndex_l1_r]
  have h1 := at_lt hk
  have h2 := w64_succ (k := k) (by omega)
  have h3 := ih (k + 1) m
  simp only [h1,h2,h3 _ (by omega) (by omega)]
theorem s_l16ConfIndex_l1_eq {N : Nat} (x1 : Node) (hx : x1.Log.Entries.length ≤ 1099511627776) (hN : x1.Log.Entries.length < N) (x210 : Int) : s_l16ConfIndex_l1 N x1 N x210 0 = s_l16ConfIndex_l1_r N x1 x1.Log.Entries x210 0 := s_l16ConfIndex_l1_rng N x1 hx x1.Log.Entries.length 0 N x210 (by omega) hN
def s_l16ConfIndex (N : Nat) (x1 : Node) : Option (Int) :=
 joinP (fun (v209 : Int) =>
 some v209) fun j209 =>
 (s_l16ConfIndex_l1 N x1 N x1.Log.Start 0).bind (fun v235 => j209 v235)
theorem sem_s_l16ConfIndex (N : Nat) (x1 : Node) (r : Int) (h : s_l16ConfIndex N x1 = some r) : Says Tryz.prog 98 [.agg [VI x1.Id,VI x1.Term,VI x1.Vote,VI x1.Role,VI x1.Lead,RO 3 (x1.Conf.map encI),VI x1.Log.Start,VI x1.Log.StartTerm,RO 40 (x1.Log.Entries.map eE),VI x1.Commit,VI x1.Clock,VI x1.Limit,RO 3 (x1.Votes.map encI),RO 98 (x1.Peers.map eP)]] 0 [] (VI r) [] := by
 unfold s_l16ConfIndex at h
 refine Says.of_norm e Tryz.call98 e fun B hB => ?_
 have hm : B.m ≤ 1000 := by omega
 refine Run.so hm (.z 1000 (.bx e e) e e (.p e (.nil (.so hm (.p3 e e e (.p e (.nil (.seqO h (fun v209 => [(3,VI v209)]) (fun (v209 : Int) => []) (fun h => ?_) (fun v209 h => ?_)))))))))
 ·refine Run.so hm (.p e (.nil (.block ?_)))
  obtain ⟨res235,h,hk235⟩ := bindO h
  refine Run.loop (n := N) (fun m235 fr σ => ∃ (x210 : Int),∃ (x211 : Int),s_l16ConfIndex_l1 N x1 m235 x210 x211 = some res235 ∧ fr = [(1,.ptr 0 0),(3,VI x210),(4,VI x211)] ∧ σ = [(0,.box [VI x1.Id,VI x1.Term,VI x1.Vote,VI x1.Role,VI x1.Lead,RO 3 (x1.Conf.map encI),VI x1.Log.Start,VI x1.Log.StartTerm,RO 40 (x1.Log.Entries.map eE),VI x1.Commit,VI x1.Clock,VI x1.Limit,RO 3 (x1.Votes.map encI),RO 98 (x1.Peers.map eP)])]) (gh_pk [1,3,4] [1000] hB e e e e) ⟨_,_,h,e,e⟩ ?_
  rintro m235 fr σ ⟨x210,x211,h,rfl,rfl⟩
  obtain _ | m235 := m235
  ·rw [s_l16ConfIndex_l1] at h; cases h
  rw [s_l16ConfIndex_l1] at h
  refine Run.seq (.so hm (.p3 e e e (.p e (.z 13352 (Ev.lnF e) e e (.p e (.nil (.condO e h (fun g238 h => ?_) (fun g238 h => ?_))))))))
  ·refine Run.skip (.seqO h (fun v242 => [(1,.ptr 0 0),(3,VI v242),(4,VI x211)]) (fun (v242 : Int) => [(0,.box [VI x1.Id,VI x1.Term,VI x1.Vote,VI x1.Role,VI x1.Lead,RO 3 (x1.Conf.map encI),VI x1.Log.Start,VI x1.Log.StartTerm,RO 40 (x1.Log.Entries.map eE),VI x1.Commit,VI x1.Clock,VI x1.Limit,RO 3 (x1.Votes.map encI),RO 98 (x1.Peers.map eP)])]) (fun h => ?_) (fun v242 h => ?_))
   ·refine Run.block (.so hm (.p3 e e e (.p e ?_)))
    obtain ⟨x244,hx244,h⟩ := bindO h
    refine Ops.z 21544 (Ev.iaF e e hx244) e e (.p3 e e e (.nil (.condO e h (fun g245 h => ?_) (fun g245 h => ?_))))
    ·exact Run.ops hm (.p3 e e e (.p3 e e e (.p e (.nil (⟨_,_,(gh_pk [1,3,4] [0] hB e e e e),_,h,e,e⟩)))))
    ·exact Run.skip (⟨_,_,(gh_pk [1,3,4] [0] hB e e e e),_,h,e,e⟩)
   ·exact Run.ops hm (.p3 e e e (.nil (⟨m235,Nat.lt_succ_self m235,_,_,(gh_pk [1,3,4] [0] hB e e e e),_,_,h,e,e⟩)))
  ·refine Run.exit ?_
   obtain rfl := someO h
   have h := hk235
   exact ⟨_,_,(gh_pk [3] [] hB e e e e),_,h,e,e⟩
 ·refine Run.so hm (.p2 e e (.nil (.ret ?_)))
  obtain rfl := someO h
  exact Ends.mkG (.inl e) e (gh_pk [0] [] hB e e e e) e e
def s_l16Follow (N : Nat) (x1 : TR) (x2 : Int) : Option (TR) :=
 some (TR.mk (Node.mk x1.n.Id x1.n.Term x1.n.Vote 0 x2 x1.n.Conf x1.n.Log x1.n.Commit x1.n.Clock x1.n.Limit ([] : List Int) ([] : List Peer)) x1.told)
theorem sem_s_l16Follow (N : Nat) (x1 : TR) (x2 : Int) (r : TR) (h : s_l16Follow N x1 x2 = some r) : Says Tryz.prog 32 [.ptr 0 0,VI x2] 6 [(0,.box [VI x1.n.Id,VI x1.n.Term,VI x1.n.Vote,VI x1.n.Role,VI x1.n.Lead,.sl 1 3 0 x1.n.Conf.length,VI x1.n.Log.Start,VI x1.n.Log.StartTerm,.sl 2 40 0 x1.n.Log.Entries.length,VI x1.n.Commit,VI x1.n.Clock,VI x1.n.Limit,.sl 3 3 0 x1.n.Votes.length,.sl 4 98 0 x1.n.Peers.length,.sl 5 32 0 x1.told.length]),(1,.vec 3 (x1.n.Conf.map encI)),(2,.vec 40 (x1.n.Log.Entries.map eE)),(3,.vec 3 (x1.n.Votes.map encI)),(4,.vec 98 (x1.n.Peers.map eP)),(5,.vec 32 (x1.told.map (eM false)))] (.tup []) [(0,.box [VI r.n.Id,VI r.n.Term,VI r.n.Vote,VI r.n.Role,VI r.n.Lead,.sl 1 3 0 x1.n.Conf.length,VI r.n.Log.Start,VI r.n.Log.StartTerm,.sl 2 40 0 x1.n.Log.Entries.length,VI r.n.Commit,VI r.n.Clock,VI r.n.Limit,.sl 6 3 0 r.n.Votes.length,.sl 7 98 0 r.n.Peers.length,.sl 5 32 0 x1.told.length]),(1,.vec 3 (x1.n.Conf.map encI)),(2,.vec 40 (x1.n.Log.Entries.map eE)),(3,.gone),(4,.gone),(5,.vec 32 (x1.told.map (eM false))),(6,.vec 3 (r.n.Votes.map encI)),(7,.vec 98 (r.n.Peers.map eP))] := by
 unfold s_l16Follow at h
 refine Says.of_norm e Tryz.call32 e fun B hB => ?_
 have hm : B.m ≤ 1000 := by omega
 refine Run.so hm (.p3 e e e (.p e (.y 1064 (.sto e e e e e e) e e (.nil (.so hm (.p3 e e e (.p2 e e (.y 5176 (.sto e e e e e e) e e (.nil (.so hm (.p e (.z 9208 (Ev.bsW (ys := ([] : List Int)) (f := encI) e .nil e e e e e) e e (.p3 e e e (.y 9272 (.sto e e e e e e) e e (.nil (.ops hm (.p e (.z 13304 (Ev.bsW (ys := ([] : List Peer)) (f := eP) e .nil e e e e e) e e (.p3 e e e (.y 13368 (.sto e e e e e e) e e (.nil ?_)))))))))))))))))))))
 obtain rfl := someO h
 exact Ends.mkG (.inr e) e (Gh.trans (Gh.trans (gh_prn [] [0,1,2,3,4,5,9208,13304] hB e) (gh_mvE [] [3,4] hB e e)) (gh_pk [] [0,1,2,3,4,5,9208,13304] hB e e e e)) e e
def s_l16Commit_l2 (N : Nat) (x1 : TR) (x1620 : Int) : Nat → Int → (List Int) → Option ((List Int))
 | 0,_,_ => none
 | m + 1,x2056,x2073 =>
 (if (decide (x2056 < ((x1.n.Peers.length : Nat) : Int))) = true then
 joinP (fun (v2102 : (List Int)) =>
 s_l16Commit_l2 N x1 x1620 m (w64 (x2056 + 1)) v2102) fun j2102 =>
 (at? x1.n.Peers x2056).bind fun x2104 =>
 (if (decide (x2104.Match ≥ x1620)) = true then
 (at? x1.n.Peers x2056).bind fun x2108 =>
 (cat? x2073 ([x2108.Id] : List Int)).bind fun x2109 =>
 j2102 x2109
 else
 j2102 x2073)
 else
 some x2073)
def s_l16Commit_l1 (N : Nat) (x1 : TR) (y1117 : (List Int)) : Nat → Int → Int → Option (Int)
 | 0,_,_ => none
 | m + 1,x1620,x1628 =>
 (if (decide (x1620 > x1628)) = true then
 joinP (fun (v1998 : Int) =>
 s_l16Commit_l1 N x1 y1117 m (w64 (x1620 - 1)) v1998) fun j1998 =>
 joinP (fun (v2054 : (List Int)) =>
 (s_LogTerm N x1.n.Log x1620).bind fun y2113 =>
 (if (y2113 == x1.n.Term) = true then
 (s_Most N y1117 v2054).bind fun y2115 =>
 (if y2115 = true then
 j1998 x1620
 else
 j1998 x1628)
 else
 j1998 x1628)) fun j2054 =>
 (s_l16Commit_l2 N x1 x1620 N 0 ([x1.n.Id] : List Int)).bind (fun v2091 => j2054 v2091)
 else
 some x1628)
def s_l16Commit (N : Nat) (x1 : TR) : Option (TR) :=
 (s_ConfOf N x1.n).bind fun y1117 =>
 (s_l12Last N x1.n.Log).bind fun y1121 =>
 joinP (fun (v1619 : Int) =>
 (if (x1.n.Role == 2) = true then
 (s_l09In N y1117 x1.n.Id).bind fun y2122 =>
 (if (!y2122) = true then
 (s_l16ConfIndex N (Node.mk x1.n.Id x1.n.Term x1.n.Vote x1.n.Role x1.n.Lead x1.n.Conf x1.n.Log v1619 x1.n.Clock x1.n.Limit x1.n.Votes x1.n.Peers)).bind fun y2124 =>
 (if (decide (y2124 ≤ v1619)) = true then
 (s_l16Follow N (TR.mk (Node.mk x1.n.Id x1.n.Term x1.n.Vote x1.n.Role x1.n.Lead x1.n.Conf x1.n.Log v1619 x1.n.Clock x1.n.Limit x1.n.Votes x1.n.Peers) x1.told) 0).bind fun y2127 =>
 some (TR.mk (Node.mk y2127.n.Id y2127.n.Term y2127.n.Vote y2127.n.Role y2127.n.Lead x1.n.Conf (Log.mk y2127.n.Log.Start y2127.n.Log.StartTerm x1.n.Log.Entries) y2127.n.Commit y2127.n.Clock y2127.n.Limit y2127.n.Votes y2127.n.Peers) x1.told)
 else
 some (TR.mk (Node.mk x1.n.Id x1.n.Term x1.n.Vote x1.n.Role x1.n.Lead x1.n.Conf x1.n.Log v1619 x1.n.Clock x1.n.Limit x1.n.Votes x1.n.Peers) x1.told))
 else
 some (TR.mk (Node.mk x1.n.Id x1.n.Term x1.n.Vote x1.n.Role x1.n.Lead x1.n.Conf x1.n.Log v1619 x1.n.Clock x1.n.Limit x1.n.Votes x1.n.Peers) x1.told))
 else
 some (TR.mk (Node.mk x1.n.Id x1.n.Term x1.n.Vote x1.n.Role x1.n.Lead x1.n.Conf x1.n.Log v1619 x1.n.Clock x1.n.Limit x1.n.Votes x1.n.Peers) x1.told))) fun j1619 =>
 (s_l16Commit_l1 N x1 y1117 N y1121 x1.n.Commit).bind (fun v1876 => j1619 v1876)
theorem sem_s_l16Commit (N : Nat) (x1 : TR) (r : TR) (h : s_l16Commit N x1 = some r) : Says Tryz.prog 83 [.ptr 0 0] 6 [(0,.box [VI x1.n.Id,VI x1.n.Term,VI x1.n.Vote,VI x1.n.Role,VI x1.n.Lead,.sl 1 3 0 x1.n.Conf.length,VI x1.n.Log.Start,VI x1.n.Log.StartTerm,.sl 2 40 0 x1.n.Log.Entries.length,VI x1.n.Commit,VI x1.n.Clock,VI x1.n.Limit,.sl 3 3 0 x1.n.Votes.length,.sl 4 98 0 x1.n.Peers.length,.sl 5 32 0 x1.told.length]),(1,.vec 3 (x1.n.Conf.map encI)),(2,.vec 40 (x1.n.Log.Entries.map eE)),(3,.vec 3 (x1.n.Votes.map encI)),(4,.vec 98 (x1.n.Peers.map eP)),(5,.vec 32 (x1.told.map (eM false)))] (.tup []) [(0,.box [VI r.n.Id,VI r.n.Term,VI r.n.Vote,VI r.n.Role,VI r.n.Lead,.sl 6 3 0 r.n.Conf.length,VI r.n.Log.Start,VI r.n.Log.StartTerm,.sl 7 40 0 r.n.Log.Entries.length,VI r.n.Commit,VI r.n.Clock,VI r.n.Limit,.sl 8 3 0 r.n.Votes.length,.sl 9 98 0 r.n.Peers.length,.sl 10 32 0 r.told.length]),(1,.gone),(2,.gone),(3,.gone),(4,.gone),(5,.gone),(6,.vec 3 (r.n.Conf.map encI)),(7,.vec 40 (r.n.Log.Entries.map eE)),(8,.vec 3 (r.n.Votes.map encI)),(9,.vec 98 (r.n.Peers.map eP)),(10,.vec 32 (r.told.map (eM false)))] := by
 unfold s_l16Commit at h
 refine Says.of_norm e Tryz.call83 e fun B hB => ?_
 have hm : B.m ≤ 1000 := by omega
 refine Run.so hm (.p3 e e e (.p e ?_))
 obtain ⟨y1117,hy1117,h⟩ := bindO h
 refine Ops.z 1064 (Ev.call [] [1,2,3,4] 1 (sem_s_ConfOf _ _ _ hy1117) e e (.cons (.agg (.d4 (.d1 (.cons (.borrow e (by decide) (lendW (fun _ => e) _ e)) (.d2 (.cons (.borrow e (by decide) (lendW (fun _ => e) _ e)) (.d2 (.d1 (.cons (.borrow e (by decide) (lendW (fun _ => e) _ e)) (.cons (.borrow e (by decide) (lendW (fun _ => e) _ e)) .nil)))))))))) .nil) e (.inr ⟨e,ownL_root ⟨own_rows (fun _ => e) _,trivial⟩⟩) e e) e e ?_
 refine Ops.p e (.nil (.so hm (.p3 e e e (.p2 e e ?_))))
 obtain ⟨y1121,hy1121,h⟩ := bindO h
 refine Ops.z 5176 (Ev.call [] [2] 0 (sem_s_l12Last _ _ _ hy1121) e e (.cons (.agg (.d2 (.cons (.borrow e (by decide) (lendW (fun _ => e) _ e)) .nil))) .nil) e (.inr ⟨e,ownL_root trivial⟩) e e) e e ?_
 refine Ops.p e (.nil (.seqO h (fun v1619 => [(0,.ptr 0 0),(2,.sl 6 3 0 y1117.length)]) (fun (v1619 : Int) => [(0,.box [VI x1.n.Id,VI x1.n.Term,VI x1.n.Vote,VI x1.n.Role,VI x1.n.Lead,.sl 1 3 0 x1.n.Conf.length,VI x1.n.Log.Start,VI x1.n.Log.StartTerm,.sl 2 40 0 x1.n.Log.Entries.length,VI v1619,VI x1.n.Clock,VI x1.n.Limit,.sl 3 3 0 x1.n.Votes.length,.sl 4 98 0 x1.n.Peers.length,.sl 5 32 0 x1.told.length]),(1,.vec 3 (x1.n.Conf.map encI)),(2,.vec 40 (x1.n.Log.Entries.map eE)),(3,.vec 3 (x1.n.Votes.map encI)),(4,.vec 98 (x1.n.Peers.map eP)),(5,.vec 32 (x1.told.map (eM false))),(6,.vec 3 (y1117.map encI))]) (fun h => ?_) (fun v1619 h => ?_)))
 ·refine Run.so hm (.p2 e e (.nil (.block ?_)))
  obtain ⟨res1876,h,hk1876⟩ := bindO h
  refine Run.loop (n := N) (fun m1876 fr σ => ∃ (x1620 : Int),∃ (x1628 : Int),s_l16Commit_l1 N x1 y1117 m1876 x1620 x1628 = some res1876 ∧ fr = [(0,.ptr 0 0),(2,.sl 6 3 0 y1117.length),(4,VI x1620)] ∧ σ = [(0,.box [VI x1.n.Id,VI x1.n.Term,VI x1.n.Vote,VI x1.n.Role,VI x1.n.Lead,.sl 1 3 0 x1.n.Conf.length,VI x1.n.Log.Start,VI x1.n.Log.StartTerm,.sl 2 40 0 x1.n.Log.Entries.length,VI x1628,VI x1.n.Clock,VI x1.n.Limit,.sl 3 3 0 x1.n.Votes.length,.sl 4 98 0 x1.n.Peers.length,.sl 5 32 0 x1.told.length]),(1,.vec 3 (x1.n.Conf.map encI)),(2,.vec 40 (x1.n.Log.Entries.map eE)),(3,.vec 3 (x1.n.Votes.map encI)),(4,.vec 98 (x1.n.Peers.map eP)),(5,.vec 32 (x1.told.map (eM false))),(6,.vec 3 (y1117.map encI))]) (gh_pk [0,2,4] [0,1,2,3,4,5,1064] hB e e e e) ⟨_,_,h,e,e⟩ ?_
  rintro m1876 fr σ ⟨x1620,x1628,h,rfl,rfl⟩
  obtain _ | m1876 := m1876
  ·rw [s_l16Commit_l1] at h; cases h
  rw [s_l16Commit_l1] at h
  refine Run.seq (.so hm (.p3 e e e (.p3 e e e (.p e (.nil (.condO e h (fun g1879 h => ?_) (fun g1879 h => ?_)))))))
  ·refine Run.skip (.seqO h (fun v1998 => [(0,.ptr 0 0),(2,.sl 6 3 0 y1117.length),(4,VI x1620)]) (fun (v1998 : Int) => [(0,.box [VI x1.n.Id,VI x1.n.Term,VI x1.n.Vote,VI x1.n.Role,VI x1.n.Lead,.sl 1 3 0 x1.n.Conf.length,VI x1.n.Log.Start,VI x1.n.Log.StartTerm,.sl 2 40 0 x1.n.Log.Entries.length,VI v1998,VI x1.n.Clock,VI x1.n.Limit,.sl 3 3 0 x1.n.Votes.length,.sl 4 98 0 x1.n.Peers.length,.sl 5 32 0 x1.told.length]),(1,.vec 3 (x1.n.Conf.map encI)),(2,.vec 40 (x1.n.Log.Entries.map eE)),(3,.vec 3 (x1.n.Votes.map encI)),(4,.vec 98 (x1.n.Peers.map eP)),(5,.vec 32 (x1.told.map (eM false))),(6,.vec 3 (y1117.map encI))]) (fun h => ?_) (fun v1998 h => ?_))
   ·refine Run.block (.so hm (.p3 e e e (.p2 e e (.z 21560 (Ev.bsW (ys := ([x1.n.Id] : List Int)) (f := encI) e (.d1 .nil) e e e e e) e e (.p e (.nil (.seqO h (fun v2054 => [(0,.ptr 0 0),(2,.sl 6 3 0 y1117.length),(4,VI x1620),(5,.sl 7 3 0 v2054.length)]) (fun (v2054 : (List Int)) => [(0,.box [VI x1.n.Id,VI x1.n.Term,VI x1.n.Vote,VI x1.n.Role,VI x1.n.Lead,.sl 1 3 0 x1.n.Conf.length,VI x1.n.Log.Start,VI x1.n.Log.StartTerm,.sl 2 40 0 x1.n.Log.Entries.length,VI x1628,VI x1.n.Clock,VI x1.n.Limit,.sl 3 3 0 x1.n.Votes.length,.sl 4 98 0 x1.n.Peers.length,.sl 5 32 0 x1.told.length]),(1,.vec 3 (x1.n.Conf.map encI)),(2,.vec 40 (x1.n.Log.Entries.map eE)),(3,.vec 3 (x1.n.Votes.map encI)),(4,.vec 98 (x1.n.Peers.map eP)),(5,.vec 32 (x1.told.map (eM false))),(6,.vec 3 (y1117.map encI)),(7,.vec 3 (v2054.map encI))]) (fun h => ?_) (fun v2054 h => ?_))))))))
    ·refine Run.so hm (.p e (.nil (.block ?_)))
     obtain ⟨res2091,h,hk2091⟩ := bindO h
     refine Run.loop (n := N) (fun m2091 fr σ => ∃ (x2056 : Int),∃ (x2073 : (List Int)),s_l16Commit_l2 N x1 x1620 m2091 x2056 x2073 = some res2091 ∧ fr = [(0,.ptr 0 0),(2,.sl 6 3 0 y1117.length),(4,VI x1620),(5,.sl 7 3 0 x2073.length),(6,VI x2056)] ∧ σ = [(0,.box [VI x1.n.Id,VI x1.n.Term,VI x1.n.Vote,VI x1.n.Role,VI x1.n.Lead,.sl 1 3 0 x1.n.Conf.length,VI x1.n.Log.Start,VI x1.n.Log.StartTerm,.sl 2 40 0 x1.n.Log.Entries.length,VI x1628,VI x1.n.Clock,VI x1.n.Limit,.sl 3 3 0 x1.n.Votes.length,.sl 4 98 0 x1.n.Peers.length,.sl 5 32 0 x1.told.length]),(1,.vec 3 (x1.n.Conf.map encI)),(2,.vec 40 (x1.n.Log.Entries.map eE)),(3,.vec 3 (x1.n.Votes.map encI)),(4,.vec 98 (x1.n.Peers.map eP)),(5,.vec 32 (x1.told.map (eM false))),(6,.vec 3 (y1117.map encI)),(7,.vec 3 (x2073.map encI))]) (gh_pk [0,2,4,5,6] [0,1,2,3,4,5,6,21560] hB e e e e) ⟨_,_,h,e,e⟩ ?_
     rintro m2091 fr σ ⟨x2056,x2073,h,rfl,rfl⟩
     obtain _ | m2091 := m2091
     ·rw [s_l16Commit_l2] at h; cases h
     rw [s_l16Commit_l2] at h
     refine Run.seq (.so hm (.p3 e e e (.p3 e e e (.p2 e e (.nil (.condO e h (fun g2094 h => ?_) (fun g2094 h => ?_)))))))
     ·refine Run.skip (.seqO h (fun v2102 => [(0,.ptr 0 0),(2,.sl 6 3 0 y1117.length),(4,VI x1620),(5,.sl 7 3 0 v2102.length),(6,VI x2056)]) (fun (v2102 : (List Int)) => [(0,.box [VI x1.n.Id,VI x1.n.Term,VI x1.n.Vote,VI x1.n.Role,VI x1.n.Lead,.sl 1 3 0 x1.n.Conf.length,VI x1.n.Log.Start,VI x1.n.Log.StartTerm,.sl 2 40 0 x1.n.Log.Entries.length,VI x1628,VI x1.n.Clock,VI x1.n.Limit,.sl 3 3 0 x1.n.Votes.length,.sl 4 98 0 x1.n.Peers.length,.sl 5 32 0 x1.told.length]),(1,.vec 3 (x1.n.Conf.map encI)),(2,.vec 40 (x1.n.Log.Entries.map eE)),(3,.vec 3 (x1.n.Votes.map encI)),(4,.vec 98 (x1.n.Peers.map eP)),(5,.vec 32 (x1.told.map (eM false))),(6,.vec 3 (y1117.map encI)),(7,.vec 3 (v2102.map encI))]) (fun h => ?_) (fun v2102 h => ?_))
      ·refine Run.block (.so hm (.p3 e e e (.p3 e e e ?_)))
       obtain ⟨x2104,hx2104,h⟩ := bindO h
       refine Ops.z 37960 (Ev.iaW e e e hx2104) e e (.p e (.z 37992 (Ev.ldE (f := eP) e e (at_some hx2104).2 e e e) e e (.p2 e e (.nil (.condO e h (fun g2105 h => ?_) (fun g2105 h => ?_))))))
       ·refine Run.ops hm (.p3 e e e (.p3 e e e (.p e ?_)))
        obtain ⟨x2108,hx2108,h⟩ := bindO h
        refine Ops.z 42072 (Ev.iaW e e e hx2108) e e (.p e (.z 42104 (Ev.ldE (f := eP) e e (at_some hx2108).2 e e e) e e (.z 42120 (Ev.bsW (ys := ([x2108.Id] : List Int)) (f := encI) e (.d1 .nil) e e e e e) e e ?_)))
        obtain ⟨x2109,hx2109,h⟩ := bindO h
        exact Ops.z 42136 (Ev.apW (f := encI) (ontoW e e e) (addsW e e e (fun _ => e)) e bt3 e hx2109) e e (.p e (.nil (⟨_,_,(gh_pk [0,2,4,5,6] [0,1,2,3,4,5,6,42136] hB e e e e),_,h,e,e⟩)))
       ·exact Run.skip (⟨_,_,(gh_pk [0,2,4,5,6] [0,1,2,3,4,5,6,7] hB e e e e),_,h,e,e⟩)
      ·exact Run.ops hm (.p3 e e e (.nil (⟨m2091,Nat.lt_succ_self m2091,_,_,(gh_pk [0,2,4,5,6] [0,1,2,3,4,5,6,7] hB e e e e),_,_,h,e,e⟩)))
     ·refine Run.exit ?_
      obtain rfl := someO h
      have h := hk2091
      exact ⟨_,_,(gh_pk [0,2,4,5] [0,1,2,3,4,5,6,7] hB e e e e),_,h,e,e⟩
    ·refine Run.seq (.draw hm hmix (.p e (.p e (.p e (.p e (.p e (.p e ?_)))))))
     obtain ⟨y2113,hy2113,h⟩ := bindO h
     refine OpsD.z 46152 (Ev.call [] [2] 0 (sem_s_LogTerm _ _ _ _ hy2113) e e (.cons (.agg (.d2 (.cons (.borrow e (by decide) (lendW (fun _ => e) _ e)) .nil))) (.d1 .nil)) e (.inr ⟨e,ownL_root trivial⟩) e e) e e ?_
     refine OpsD.p e (.p e (.p e (.p e (.p e (.p e (.p e (.askO (x := .t 80) e h (fun g2114 h => ?_) (fun g2114 h => ?_))))))))
     ·refine OpsD.gp e g2114 e (.gp e g2114 e ?_)
      obtain ⟨y2115,hy2115,h⟩ := bindO h
      refine OpsD.gs (s := 46312) e g2114 (Ev.call [] [6,7] 0 (sem_s_Most _ _ _ _ hy2115) e e (.cons (.borrow e (by decide) (lendW (fun _ => e) _ e)) (.cons (.borrow e (by decide) (lendW (fun _ => e) _ e)) .nil)) e (.inr ⟨e,ownL_root trivial⟩) e e) e e ?_
      refine OpsD.z 46328 (.pkT e g2114 e) e e (.nil ⟨by kernel_rfl,?_⟩)
      refine Run.condO e h (fun g2116 h => ?_) (fun g2116 h => ?_)
      ·exact Run.ops hm (.p3 e e e (.p2 e e (.y 50232 (.sto e e e e e e) e e (.nil (⟨_,_,(gh_pk [0,2,4] [0,1,2,3,4,5,6] hB e e e e),_,h,e,e⟩)))))
      ·exact Run.skip (⟨_,_,(gh_pk [0,2,4] [0,1,2,3,4,5,6] hB e e e e),_,h,e,e⟩)
     ·refine OpsD.gn e g2114 (.gn e g2114 (.gn e g2114 (.z 46328 (.pkF e g2114 e) e e (.nil ⟨by kernel_rfl,?_⟩))))
      exact Run.condF e e (.skip (⟨_,_,(gh_pk [0,2,4] [0,1,2,3,4,5,6] hB e e e e),_,h,e,e⟩))
   ·exact Run.ops hm (.p3 e e e (.nil (⟨m1876,Nat.lt_succ_self m1876,_,_,(gh_pk [0,2,4] [0,1,2,3,4,5,6] hB e e e e),_,_,h,e,e⟩)))
  ·refine Run.exit ?_
   obtain rfl := someO h
   have h := hk1876
   exact ⟨_,_,(gh_pk [0,2] [0,1,2,3,4,5,6] hB e e e e),_,h,e,e⟩
 ·refine Run.seq (.draw hm hmix (.p e (.p e (.p e (.p e (.p e (.p e (.p e (.askO (x := .t 96) e h (fun g2121 h => ?_) (fun g2121 h => ?_))))))))))
  ·refine OpsD.gp e g2121 e (.gp e g2121 e (.gp e g2121 e (.gp e g2121 e (.gp e g2121 e (.gp e g2121 e ?_)))))
   obtain ⟨y2122,hy2122,h⟩ := bindO h
   refine OpsD.gs (s := 54456) e g2121 (Ev.call [] [6] 0 (sem_s_l09In _ _ _ _ hy2122) e e (.cons (.borrow e (by decide) (lendW (fun _ => e) _ e)) (.d1 .nil)) e (.inr ⟨e,ownL_root trivial⟩) e e) e e ?_
   refine OpsD.gp e g2121 e (.z 54488 (.pkT e g2121 e) e e (.p e (.askO (x := .t 106) e h (fun g2123 h => ?_) (fun g2123 h => ?_))))
   ·refine OpsD.gp e g2123 e (.gp e g2123 e (.gp e g2123 e (.gp e g2123 e ?_)))
    obtain ⟨y2124,hy2124,h⟩ := bindO h
    refine OpsD.gs (s := 54584) e g2123 (Ev.call [] [1,2,3,4] 0 (sem_s_l16ConfIndex _ _ _ hy2124) e e (.cons (.agg (.d4 (.d1 (.cons (.borrow e (by decide) (lendW (fun _ => e) _ e)) (.d2 (.cons (.borrow e (by decide) (lendW (fun _ => e) _ e)) (.d2 (.d1 (.cons (.borrow e (by decide) (lendW (fun _ => e) _ e)) (.cons (.borrow e (by decide) (lendW (fun _ => e) _ e)) .nil)))))))))) .nil) e (.inr ⟨e,ownL_root trivial⟩) e e) e e ?_
    refine OpsD.gp e g2123 e (.gp e g2123 e (.gp e g2123 e (.gp e g2123 e (.gp e g2123 e (.gp e g2123 e (.z 54696 (.pkT e g2123 e) e e (.nil ⟨by kernel_rfl,?_⟩)))))))
    refine Run.condO e h (fun g2125 h => ?_) (fun g2125 h => ?_)
    ·refine Run.ops hm (.p e ?_)
     obtain ⟨y2127,hy2127,h⟩ := bindO h
     refine Ops.z 58360 (Ev.call [0,1,2,3,4,5] [] 2 (sem_s_l16Follow _ _ _ _ hy2127) e e (.cons (.ptr e) (.d1 .nil)) e (.inl e) e e) e e (.nil ?_)
     obtain rfl := someO h
     exact Ends.mkG (.inr e) e (Gh.trans (Gh.trans (gh_prn [] [0,1,2,3,4,5,58360,58361] hB e) (gh_mvE [] [1,2,5] hB e e)) (gh_pk [] [0,1,2,3,4,5,30000001,30000002,58360,58361,30000005] hB e e e e)) e e
    ·refine Run.skip ?_
     obtain rfl := someO h
     exact Ends.mkG (.inr e) e (Gh.trans (Gh.trans (gh_prn [] [0,1,2,3,4,5] hB e) (gh_mvE [] [1,2,3,4,5] hB e e)) (gh_pk [] [0,1,2,3,4,5,30000001,30000002,30000003,30000004,30000005] hB e e e e)) e e
   ·refine OpsD.gn e g2123 (.gn e g2123 (.gn e g2123 (.gn e g2123 (.gn e g2123 (.gn e g2123 (.gn e g2123 (.gn e g2123 (.gn e g2123 (.gn e g2123 (.gn e g2123 (.z 54696 (.pkF e g2123 e) e e (.nil ⟨by kernel_rfl,?_⟩))))))))))))
    refine Run.condF e e (.skip ?_)
    obtain rfl := someO h
    exact Ends.mkG (.inr e) e (Gh.trans (Gh.trans (gh_prn [] [0,1,2,3,4,5] hB e) (gh_mvE [] [1,2,3,4,5] hB e e)) (gh_pk [] [0,1,2,3,4,5,30000001,30000002,30000003,30000004,30000005] hB e e e e)) e e
  ·refine OpsD.gn e g2121 (.gn e g2121 (.gn e g2121 (.gn e g2121 (.gn e g2121 (.gn e g2121 (.gn e g2121 (.gn e g2121 (.z 54488 (.pkF e g2121 e) e e (.p e (.gn e e (.gn e e (.gn e e (.gn e e (.gn e e (.gn e e (.gn e e (.gn e e (.gn e e (.gn e e (.gn e e (.z 54696 (.pkF e e e) e e (.nil ⟨by kernel_rfl,?_⟩))))))))))))))))))))))
   refine Run.condF e e (.skip ?_)
   obtain rfl := someO h
   exact Ends.mkG (.inr e) e (Gh.trans (Gh.trans (gh_prn [] [0,1,2,3,4,5] hB e) (gh_mvE [] [1,2,3,4,5] hB e e)) (gh_pk [] [0,1,2,3,4,5,30000001,30000002,30000003,30000004,30000005] hB e e e e)) e e
def s_l16SendAll_i1_l1 (N : Nat) (x1 : TR) : Nat → Int → Int → Int → Int → Int → Int → Int → Int → Int → Int → Int → (List Message) → Option (Int × Int × Int × Int × Int × Int × Int × Int × Int × Int × (List Message))
 | 0,_,_,_,_,_,_,_,_,_,_,_,_ => none
 | m + 1,x190,x191,x192,x193,x194,x195,x196,x197,x198,x199,x200,x205 =>
 (if (decide (x190 < ((x1.n.Peers.length : Nat) : Int))) = true then
 (at? x1.n.Peers x190).bind fun x226 =>
 (s_l16Send N (TR.mk (Node.mk x191 x192 x193 x194 x195 x1.n.Conf (Log.mk x196 x197 x1.n.Log.Entries) x198 x199 x200 x1.n.Votes x1.n.Peers) x205) x226).bind fun y227 =>
 s_l16SendAll_i1_l1 N x1 m (w64 (x190 + 1)) y227.n.Id y227.n.Term y227.n.Vote y227.n.Role y227.n.Lead y227.n.Log.Start y227.n.Log.StartTerm y227.n.Commit y227.n.Clock y227.n.Limit y227.told
 else
 some (x191,x192,x193,x194,x195,x196,x197,x198,x199,x200,x205))
def s_l16SendAll_i1 (N : Nat) (x1 : TR) : Option (TR) :=
 (s_l16SendAll_i1_l1 N x1 N 0 x1.n.Id x1.n.Term x1.n.Vote x1.n.Role x1.n.Lead x1.n.Log.Start x1.n.Log.StartTerm x1.n.Commit x1.n.Clock x1.n.Limit x1.told).bind (fun v216 => some (TR.mk (Node.mk v216.1 v216.2.1 v216.2.2.1 v216.2.2.2.1 v216.2.2.2.2.1 x1.n.Conf (Log.mk v216.2.2.2.2.2.1 v216.2.2.2.2.2.2.1 x1.n.Log.Entries) v216.2.2.2.2.2.2.2.1 v216.2.2.2.2.2.2.2.2.1 v216.2.2.2.2.2.2.2.2.2.1 x1.n.Votes x1.n.Peers) v216.2.2.2.2.2.2.2.2.2.2))
theorem sem_s_l16SendAll_i1 (N : Nat) (x1 : TR) (r : TR) (h : s_l16SendAll_i1 N x1 = some r) : Says Tryz.prog 91 [.ptr 0 0] 6 [(0,.box [VI x1.n.Id,VI x1.n.Term,VI x1.n.Vote,VI x1.n.Role,VI x1.n.Lead,.sl 1 3 0 x1.n.Conf.length,VI x1.n.Log.Start,VI x1.n.Log.StartTerm,.sl 2 40 0 x1.n.Log.Entries.length,VI x1.n.Commit,VI x1.n.Clock,VI x1.n.Limit,.sl 3 3 0 x1.n.Votes.length,.sl 4 98 0 x1.n.Peers.length,.sl 5 32 0 x1.told.length]),(1,.vec 3 (x1.n.Conf.map encI)),(2,.vec 40 (x1.n.Log.Entries.map eE)),(3,.vec 3 (x1.n.Votes.map encI)),(4,.vec 98 (x1.n.Peers.map eP)),(5,.vec 32 (x1.told.map (eM false)))] (.tup []) [(0,.box [VI r.n.Id,VI r.n.Term,VI r.n.Vote,VI r.n.Role,VI r.n.Lead,.sl 6 3 0 r.n.Conf.length,VI r.n.Log.Start,VI r.n.Log.StartTerm,.sl 7 40 0 r.n.Log.Entries.length,VI r.n.Commit,VI r.n.Clock,VI r.n.Limit,.sl 8 3 0 r.n.Votes.length,.sl 9 98 0 r.n.Peers.length,.sl 10 32 0 r.told.length]),(1,.gone),(2,.gone),(3,.gone),(4,.gone),(5,.gone),(6,.vec 3 (r.n.Conf.map encI)),(7,.vec 40 (r.n.Log.Entries.map eE)),(8,.vec 3 (r.n.Votes.map encI)),(9,.vec 98 (r.n.Peers.map eP)),(10,.vec 32 (r.told.map (eM false)))] := by
 unfold s_l16SendAll_i1 at h
 refine Says.of_norm e Tryz.call91 e fun B hB => ?_
 have hm : B.m ≤ 1000 := by omega
 refine Run.so hm (.p e (.nil (.block ?_)))
 obtain ⟨res216,h,hk216⟩ := bindO h
 refine Run.loop (n := N) (fun m216 fr σ => ∃ (x190 : Int),∃ (x191 : Int),∃ (x192 : Int),∃ (x193 : Int),∃ (x194 : Int),∃ (x195 : Int),∃ (x196 : Int),∃ (x197 : Int),∃ (x198 : Int),∃ (x199 : Int),∃ (x200 : Int),∃ (x205 : (List Message)),s_l16SendAll_i1_l1 N x1 m216 x190 x191 x192 x193 x194 x195 x196 x197 x198 x199 x200 x205 = some res216 ∧ fr = [(0,.ptr 0 0),(2,VI x190)] ∧ σ = [(0,.box [VI x191,VI x192,VI x193,VI x194,VI x195,.sl 6 3 0 x1.n.Conf.length,VI x196,VI x197,.sl 7 40 0 x1.n.Log.Entries.length,VI x198,VI x199,VI x200,.sl 8 3 0 x1.n.Votes.length,.sl 9 98 0 x1.n.Peers.length,.sl 10 32 0 x205.length]),(1,.gone),(2,.gone),(3,.gone),(4,.gone),(5,.gone),(6,.vec 3 (x1.n.Conf.map encI)),(7,.vec 40 (x1.n.Log.Entries.map eE)),(8,.vec 3 (x1.n.Votes.map encI)),(9,.vec 98 (x1.n.Peers.map eP)),(10,.vec 32 (x205.map (eM false)))]) (Gh.trans (Gh.trans (gh_prn [0,2] [0,1,2,3,4,5] hB e) (gh_mvE [0,2] [1,2,3,4,5] hB e e)) (gh_pk [0,2] [0,1,2,3,4,5,30000001,30000002,30000003,30000004,30000005] hB e e e e)) ⟨_,_,_,_,_,_,_,_,_,_,_,_,h,e,e⟩ ?_
 rintro m216 fr σ ⟨x190,x191,x192,x193,x194,x195,x196,x197,x198,x199,x200,x205,h,rfl,rfl⟩
 obtain _ | m216 := m216
 ·rw [s_l16SendAll_i1_l1] at h; cases h
 rw [s_l16SendAll_i1_l1] at h
 refine Run.seq (.so hm (.p3 e e e (.p3 e e e (.p2 e e (.nil (.condO e h (fun g219 h => ?_) (fun g219 h => ?_)))))))
 ·refine Run.skip (.seq (.block (.ops hm (.p3 e e e (.p3 e e e (.p e ?_))))))
  obtain ⟨x226,hx226,h⟩ := bindO h
  refine Ops.z 13400 (Ev.iaW e e e hx226) e e (.z 13416 (Ev.ldE (f := eP) e e (at_some hx226).2 e e e) e e ?_)
  obtain ⟨y227,hy227,h⟩ := bindO h
  exact Ops.z 13432 (Ev.call [0,6,7,8,9,10] [] 1 (sem_s_l16Send _ _ _ _ hy227) e e (.cons (.ptr e) (.cons (.agg (.d4 .nil)) .nil)) e (.inl e) e e) e e (.nil (.ops hm (.p3 e e e (.nil (⟨m216,Nat.lt_succ_self m216,_,_,(gh_pk [0,2] [0,1,2,3,4,5,6,7,8,9,13432] hB e e e e),_,_,_,_,_,_,_,_,_,_,_,_,h,e,e⟩)))))
 ·refine Run.exit ?_
  obtain rfl := someO h
  have h := hk216
  obtain rfl := someO h
  exact Ends.mkG (.inr e) e (gh_pk [] [0,1,2,3,4,5,6,7,8,9,10] hB e e e e) e e
def s_l16Lead_l1 (N : Nat) (y211 : Int) (y230 : (List Int)) : Nat → Int → (List Peer) → Option ((List Peer))
 | 0,_,_ => none
 | m + 1,x273,x288 =>
 (if (decide (x273 < ((y230.length : Nat) : Int))) = true then
 (at? y230 x273).bind fun x310 =>
 (cat? x288 ([(Peer.mk x310 (w64 (y211 + 1)) 0 0)] : List Peer)).bind fun x311 =>
 s_l16Lead_l1 N y211 y230 m (w64 (x273 + 1)) x311
 else
 some x288)
def s_l16Lead (N : Nat) (x1 : TR) : Option (TR) :=
 (s_l12Last N x1.n.Log).bind fun y211 =>
 joinP (fun (v217 : (List Entry)) =>
 (s_ConfOf N (Node.mk x1.n.Id x1.n.Term x1.n.Vote 2 x1.n.Id x1.n.Conf (Log.mk x1.n.Log.Start x1.n.Log.StartTerm v217) x1.n.Commit x1.n.Clock x1.n.Limit ([] : List Int) x1.n.Peers)).bind fun y229 =>
 (s_l16Others N y229 x1.n.Id).bind fun y230 =>
 joinP (fun (v271 : (List Peer)) =>
 (s_l16Commit N (TR.mk (Node.mk x1.n.Id x1.n.Term x1.n.Vote 2 x1.n.Id x1.n.Conf (Log.mk x1.n.Log.Start x1.n.Log.StartTerm v217) x1.n.Commit x1.n.Clock x1.n.Limit ([] : List Int) v271) x1.told)).bind fun y313 =>
 (s_l16SendAll_i1 N y313).bind fun y315 =>
 some y315) fun j271 =>
 (s_l16Lead_l1 N y211 y230 N 0 ([] : List Peer)).bind (fun v300 => j271 v300)) fun j217 =>
 (s_l16Room N (Node.mk x1.n.Id x1.n.Term x1.n.Vote 2 x1.n.Id x1.n.Conf x1.n.Log x1.n.Commit x1.n.Clock x1.n.Limit ([] : List Int) x1.n.Peers)).bind fun y219 =>
 (if y219 = true then
 (cat? x1.n.Log.Entries ([(Entry.mk x1.n.Term 1 (⟨#[]⟩ : ByteArray))] : List Entry)).bind fun x222 =>
 j217 x222
 else
 j217 x1.n.Log.Entries)
theorem sem_s_l16Lead (N : Nat) (x1 : TR) (r : TR) (h : s_l16Lead N x1 = some r) : Says Tryz.prog 79 [.ptr 0 0] 6 [(0,.box [VI x1.n.Id,VI x1.n.Term,VI x1.n.Vote,VI x1.n.Role,VI x1.n.Lead,.sl 1 3 0 x1.n.Conf.length,VI x1.n.Log.Start,VI x1.n.Log.StartTerm,.sl 2 40 0 x1.n.Log.Entries.length,VI x1.n.Commit,VI x1.n.Clock,VI x1.n.Limit,.sl 3 3 0 x1.n.Votes.length,.sl 4 98 0 x1.n.Peers.length,.sl 5 32 0 x1.told.length]),(1,.vec 3 (x1.n.Conf.map encI)),(2,.vec 40 (x1.n.Log.Entries.map eE)),(3,.vec 3 (x1.n.Votes.map encI)),(4,.vec 98 (x1.n.Peers.map eP)),(5,.vec 32 (x1.told.map (eM false)))] (.tup []) [(0,.box [VI r.n.Id,VI r.n.Term,VI r.n.Vote,VI r.n.Role,VI r.n.Lead,.sl 6 3 0 r.n.Conf.length,VI r.n.Log.Start,VI r.n.Log.StartTerm,.sl 7 40 0 r.n.Log.Entries.length,VI r.n.Commit,VI r.n.Clock,VI r.n.Limit,.sl 8 3 0 r.n.Votes.length,.sl 9 98 0 r.n.Peers.length,.sl 10 32 0 r.told.length]),(1,.gone),(2,.gone),(3,.gone),(4,.gone),(5,.gone),(6,.vec 3 (r.n.Conf.map encI)),(7,.vec 40 (r.n.Log.Entries.map eE)),(8,.vec 3 (r.n.Votes.map encI)),(9,.vec 98 (r.n.Peers.map eP)),(10,.vec 32 (r.told.map (eM false)))] := by
 unfold s_l16Lead at h
 refine Says.of_norm e Tryz.call79 e fun B hB => ?_
 have hm : B.m ≤ 1000 := by omega
 refine Run.so hm (.p3 e e e (.p2 e e ?_))
 obtain ⟨y211,hy211,h⟩ := bindO h
 refine Ops.z 1080 (Ev.call [] [2] 0 (sem_s_l12Last _ _ _ hy211) e e (.cons (.agg (.d2 (.cons (.borrow e (by decide) (lendW (fun _ => e) _ e)) .nil))) .nil) e (.inr ⟨e,ownL_root trivial⟩) e e) e e ?_
 refine Ops.p e (.nil (.so hm (.p3 e e e (.p e (.y 5160 (.sto e e e e e e) e e (.nil (.so hm (.p3 e e e (.p3 e e e (.p3 e e e (.y 9336 (.sto e e e e e e) e e (.nil (.so hm (.p e (.z 13304 (Ev.bsW (ys := ([] : List Int)) (f := encI) e .nil e e e e e) e e (.p3 e e e (.y 13368 (.sto e e e e e e) e e (.nil (.seqO h (fun v217 => [(0,.ptr 0 0),(2,VI y211)]) (fun (v217 : (List Entry)) => [(0,.box [VI x1.n.Id,VI x1.n.Term,VI x1.n.Vote,VI 2,VI x1.n.Id,.sl 6 3 0 x1.n.Conf.length,VI x1.n.Log.Start,VI x1.n.Log.StartTerm,.sl 7 40 0 v217.length,VI x1.n.Commit,VI x1.n.Clock,VI x1.n.Limit,.sl 8 3 0 (([] : List Int).length),.sl 9 98 0 x1.n.Peers.length,.sl 10 32 0 x1.told.length]),(1,.gone),(2,.gone),(3,.gone),(4,.gone),(5,.gone),(6,.vec 3 (x1.n.Conf.map encI)),(7,.vec 40 (v217.map eE)),(8,.vec 3 (([] : List Int).map encI)),(9,.vec 98 (x1.n.Peers.map eP)),(10,.vec 32 (x1.told.map (eM false)))]) (fun h => ?_) (fun v217 h => ?_))))))))))))))))))))
 ·refine Run.so hm (.p3 e e e (.p e ?_))
  obtain ⟨y219,hy219,h⟩ := bindO h
  refine Ops.z 17448 (Ev.call [] [1,2,13304,4] 0 (sem_s_l16Room _ _ _ hy219) e e (.cons (.agg (.d4 (.d1 (.cons (.borrow e (by decide) (lendW (fun _ => e) _ e)) (.d2 (.cons (.borrow e (by decide) (lendW (fun _ => e) _ e)) (.d2 (.d1 (.cons (.borrow e (by decide) (lendW (fun _ => e) _ e)) (.cons (.borrow e (by decide) (lendW (fun _ => e) _ e)) .nil)))))))))) .nil) e (.inr ⟨e,ownL_root trivial⟩) e e) e e ?_
  refine Ops.nil (.condO e h (fun g220 h => ?_) (fun g220 h => ?_))
  ·refine Run.draw hm hmix (.p e (.p e (.p e (.p e (.p e (.p e (.p e (.p e (.p e (.p e (.p e (.p e (.z 21672 (.bd e e) e e (.z 21688 (Ev.bsW (ys := ([(Entry.mk x1.n.Term 1 (⟨#[]⟩ : ByteArray))] : List Entry)) (f := eE) e (.d2 (.d1 .nil)) e e e e e) e e ?_))))))))))))))
   obtain ⟨x222,hx222,h⟩ := bindO h
   refine OpsD.z 21704 (Ev.apW (f := eE) (ontoW e e e) (addsW e e e (fun _ => e)) e bt40 e hx222) e e (.p e (.p e (.p e (.p e (.y 21784 (.sto e e e e e e) e e (.nil ⟨by kernel_rfl,?_⟩))))))
   exact ⟨_,_,(Gh.trans (Gh.trans (gh_prn [0,2] [0,1,2,3,4,5,21704,13304] hB e) (gh_mvE [0,2] [1,3,4,5] hB e e)) (gh_pk [0,2] [0,1,2,3,4,5,30000001,21704,13304,30000004,30000005] hB e e e e)),_,h,e,e⟩
  ·exact Run.skip (⟨_,_,(Gh.trans (Gh.trans (gh_prn [0,2] [0,1,2,3,4,5,13304] hB e) (gh_mvE [0,2] [1,2,3,4,5] hB e e)) (gh_pk [0,2] [0,1,2,3,4,5,30000001,30000002,13304,30000004,30000005] hB e e e e)),_,h,e,e⟩)
 ·refine Run.seq (.draw hm hmix (.p e (.p e (.p e (.p e ?_)))))
  obtain ⟨y229,hy229,h⟩ := bindO h
  refine OpsD.z 25640 (Ev.call [] [6,7,8,9] 1 (sem_s_ConfOf _ _ _ hy229) e e (.cons (.agg (.d4 (.d1 (.cons (.borrow e (by decide) (lendW (fun _ => e) _ e)) (.d2 (.cons (.borrow e (by decide) (lendW (fun _ => e) _ e)) (.d2 (.d1 (.cons (.borrow e (by decide) (lendW (fun _ => e) _ e)) (.cons (.borrow e (by decide) (lendW (fun _ => e) _ e)) .nil)))))))))) .nil) e (.inr ⟨e,ownL_root ⟨own_rows (fun _ => e) _,trivial⟩⟩) e e) e e ?_
  refine OpsD.p e (.p e (.p e (.p e (.p e ?_))))
  obtain ⟨y230,hy230,h⟩ := bindO h
  refine OpsD.z 25736 (Ev.call [] [25640] 1 (sem_s_l16Others _ _ _ _ hy230) e e (.cons (.borrow e (by decide) (lendW (fun _ => e) _ e)) (.d1 .nil)) e (.inr ⟨e,ownL_root ⟨own_rows (fun _ => e) _,trivial⟩⟩) e e) e e ?_
  refine OpsD.p e (.nil ⟨by kernel_rfl,?_⟩)
  refine Run.so hm (.p e (.z 29688 (Ev.bsW (ys := ([] : List Peer)) (f := eP) e .nil e e e e e) e e (.p3 e e e (.y 29752 (.sto e e e e e e) e e (.nil (.seqO h (fun v271 => [(0,.ptr 0 0)]) (fun (v271 : (List Peer)) => [(0,.box [VI x1.n.Id,VI x1.n.Term,VI x1.n.Vote,VI 2,VI x1.n.Id,.sl 6 3 0 x1.n.Conf.length,VI x1.n.Log.Start,VI x1.n.Log.StartTerm,.sl 7 40 0 v217.length,VI x1.n.Commit,VI x1.n.Clock,VI x1.n.Limit,.sl 8 3 0 (([] : List Int).length),.sl 9 98 0 v271.length,.sl 10 32 0 x1.told.length]),(1,.gone),(2,.gone),(3,.gone),(4,.gone),(5,.gone),(6,.vec 3 (x1.n.Conf.map encI)),(7,.vec 40 (v217.map eE)),(8,.vec 3 (([] : List Int).map encI)),(9,.vec 98 (v271.map eP)),(10,.vec 32 (x1.told.map (eM false)))]) (fun h => ?_) (fun v271 h => ?_)))))))
  ·refine Run.so hm (.p e (.nil (.block ?_)))
   obtain ⟨res300,h,hk300⟩ := bindO h
   refine Run.loop (n := N) (fun m300 fr σ => ∃ (x273 : Int),∃ (x288 : (List Peer)),s_l16Lead_l1 N y211 y230 m300 x273 x288 = some res300 ∧ fr = [(0,.ptr 0 0),(2,VI y211),(3,.sl 6 3 0 y230.length),(4,VI x273)] ∧ σ = [(0,.box [VI x1.n.Id,VI x1.n.Term,VI x1.n.Vote,VI 2,VI x1.n.Id,.sl 7 3 0 x1.n.Conf.length,VI x1.n.Log.Start,VI x1.n.Log.StartTerm,.sl 8 40 0 v217.length,VI x1.n.Commit,VI x1.n.Clock,VI x1.n.Limit,.sl 9 3 0 (([] : List Int).length),.sl 10 98 0 x288.length,.sl 11 32 0 x1.told.length]),(1,.gone),(2,.gone),(3,.gone),(4,.gone),(5,.gone),(6,.vec 3 (y230.map encI)),(7,.vec 3 (x1.n.Conf.map encI)),(8,.vec 40 (v217.map eE)),(9,.vec 3 (([] : List Int).map encI)),(10,.vec 98 (x288.map eP)),(11,.vec 32 (x1.told.map (eM false)))]) (gh_pk [0,2,3,4] [0,1,2,3,4,5,25736,6,7,8,29688,10] hB e e e e) ⟨_,_,h,e,e⟩ ?_
   rintro m300 fr σ ⟨x273,x288,h,rfl,rfl⟩
   obtain _ | m300 := m300
   ·rw [s_l16Lead_l1] at h; cases h
   rw [s_l16Lead_l1] at h
   refine Run.seq (.so hm (.p3 e e e (.p e (.nil (.condO e h (fun g303 h => ?_) (fun g303 h => ?_))))))
   ·refine Run.skip (.seq (.block (.draw hm hmix (.p e (.p e (.p e (.p e (.p e (.p e (.p e (.p e ?_)))))))))))
    obtain ⟨x310,hx310,h⟩ := bindO h
    refine OpsD.z 46184 (Ev.iaW e e e hx310) e e (.z 46200 (Ev.ldE (f := encI) e e (at_some hx310).2 e e e) e e (.p e (.p e (.z 46248 (.bd e e) e e (.z 46264 (Ev.bsW (ys := ([(Peer.mk x310 (w64 (y211 + 1)) 0 0)] : List Peer)) (f := eP) e (.d4 .nil) e e e e e) e e ?_)))))
    obtain ⟨x311,hx311,h⟩ := bindO h
    refine OpsD.z 46280 (Ev.apW (f := eP) (ontoW e e e) (addsW e e e (fun _ => e)) e bt98 e hx311) e e (.p e (.p e (.p e (.y 46344 (.sto e e e e e e) e e (.nil ⟨by kernel_rfl,?_⟩)))))
    exact Run.ops hm (.p3 e e e (.nil (⟨m300,Nat.lt_succ_self m300,_,_,(gh_pk [0,2,3,4] [0,1,2,3,4,5,6,7,8,9,46280,11] hB e e e e),_,_,h,e,e⟩)))
   ·refine Run.exit ?_
    obtain rfl := someO h
    have h := hk300
    exact ⟨_,_,(gh_pk [0] [0,1,2,3,4,5,7,8,9,10,11] hB e e e e),_,h,e,e⟩
  ·refine Run.so hm (.p e ?_)
   obtain ⟨y313,hy313,h⟩ := bindO h
   refine Ops.z 50168 (Ev.call [0,6,7,8,9,10] [] 5 (sem_s_l16Commit _ _ _ hy313) e e (.cons (.ptr e) .nil) e (.inl e) e e) e e (.nil (.ops hm (.p e ?_)))
   obtain ⟨y315,hy315,h⟩ := bindO h
   refine Ops.z 54264 (Ev.call [0,50168,50169,50170,50171,50172] [] 5 (sem_s_l16SendAll_i1 _ _ _ hy315) e e (.cons (.ptr e) .nil) e (.inl e) e e) e e (.nil ?_)
   obtain rfl := someO h
   exact Ends.mkG (.inr e) e (gh_pk [] [0,1,2,3,4,5,54264,54265,54266,54267,54268] hB e e e e) e e
end Go.Proofs.YtkojbcnafckofaaGreat.Pe.FnNodes
