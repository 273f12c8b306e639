/- Functions,as pure functions; and that Go does just that. -/
import Derived.Test.YtkojbcnafckofaaGreatPeFFnNodes2
namespace Go.Proofs.YtkojbcnafckofaaGreat.Pe.FnNodes
open Go Go.RowKit
set_option linter.unusedVariables false
set_option linter.unusedSimpArgs false
set_option maxHeartbeats 40000000
set_option maxRecDepth 100000
def s_LogBehind (N : Nat) (x1 : Log) (x2 : Int) (x3 : Int) : Option (Log) :=
 joinP (fun (v152 : (List Entry)) =>
 some (Log.mk x2 x3 v152)) fun j152 =>
 (s_LogOk N x1).bind fun y159 =>
 (if y159 = true then
 (s_l12Last N x1).bind fun y161 =>
 (s_l01In N x2 x1.Start y161).bind fun y162 =>
 (if y162 = true then
 (s_LogTerm N x1 x2).bind fun y164 =>
 (if (y164 == x3) = true then
 (drop? x1.Entries (w64 (x2 - x1.Start))).bind fun x168 =>
 (cat? ([] : List Entry) x168).bind fun x169 =>
 j152 x169
 else
 j152 ([] : (List Entry)))
 else
 j152 ([] : (List Entry)))
 else
 j152 ([] : (List Entry)))
theorem sem_s_LogBehind (N : Nat) (x1 : Log) (x2 : Int) (x3 : Int) (r : Log) (h : s_LogBehind N x1 x2 x3 = some r) : Says Tryz.prog 101 [.agg [VI x1.Start,VI x1.StartTerm,RO 40 (x1.Entries.map eE)],VI x2,VI x3] 0 [] (.agg [VI r.Start,VI r.StartTerm,.sl 0 40 0 r.Entries.length]) [(0,.vec 40 (r.Entries.map eE))] := by
 unfold s_LogBehind at h
 refine Says.of_norm e Tryz.call101 e fun B hB => ?_
 have hm : B.m ≤ 1000 := by omega
 refine Run.so hm (.z 1000 (.bx e e) e e (.z 1016 (.al e e) e e (.nil (.so hm (.p2 e e (.z 5128 (.bd e e) e e (.z 5144 (.al e e) e e (.y 5160 (.sto e e e e e e) e e (.nil (.seqO h (fun v152 => [(6,.ptr 0 0),(7,.ptr 1 0)]) (fun (v152 : (List Entry)) => [(0,.box [VI 0,VI 0,.sl 2 40 0 (([] : List Entry).length)]),(1,.box [VI x2,VI x3,.sl 3 40 0 v152.length]),(2,.vec 40 (([] : List Entry).map eE)),(3,.vec 40 (v152.map eE))]) (fun h => ?_) (fun v152 h => ?_)))))))))))
 ·refine Run.seq (.draw hm hmix (.p e ?_))
  obtain ⟨y159,hy159,h⟩ := bindO h
  refine OpsD.z 9208 (Ev.call [] [] 0 (sem_s_LogOk _ _ _ hy159) e e (.cons (.agg (.d2 (.d1 .nil))) .nil) e (.inl e) e e) e e (.p e (.askO (x := .t 13) e h (fun g160 h => ?_) (fun g160 h => ?_)))
  ·refine OpsD.gp e g160 e (.gp e g160 e (.gp e g160 e (.gp e g160 e ?_)))
   obtain ⟨y161,hy161,h⟩ := bindO h
   refine OpsD.gs (s := 9304) e g160 (Ev.call [] [] 0 (sem_s_l12Last _ _ _ hy161) e e (.cons (.agg (.d2 (.d1 .nil))) .nil) e (.inl e) e e) e e ?_
   obtain ⟨y162,hy162,h⟩ := bindO h
   refine OpsD.gs (s := 9320) e g160 (Ev.call [] [] 0 (sem_s_l01In _ _ _ _ _ hy162) e e (.d2 (.d1 .nil)) e (.inl e) e e) e e (.z 9336 (.pkT e g160 e) e e (.p e (.askO (x := .t 21) e h (fun g163 h => ?_) (fun g163 h => ?_))))
   ·refine OpsD.gp e g163 e (.gp e g163 e ?_)
    obtain ⟨y164,hy164,h⟩ := bindO h
    refine OpsD.gs (s := 9400) e g163 (Ev.call [] [] 0 (sem_s_LogTerm _ _ _ _ hy164) e e (.cons (.agg (.d2 (.d1 .nil))) (.d1 .nil)) e (.inl e) e e) e e (.gp e g163 e (.gp e g163 e (.z 9448 (.pkT e g163 e) e e (.nil ⟨by kernel_rfl,?_⟩))))
    refine Run.condO e h (fun g165 h => ?_) (fun g165 h => ?_)
    ·refine Run.ops hm (.z 13288 (Ev.bsW (ys := ([] : List Entry)) (f := eE) e .nil e e e e e) e e (.p3 e e e (.p3 e e e ?_)))
     obtain ⟨x168,hx168,h⟩ := bindO h
     refine Ops.z 13400 (Ev.slFl e e hx168) e e ?_
     obtain ⟨x169,hx169,h⟩ := bindO h
     exact Ops.z 13416 (Ev.apW (f := eE) (ontoW e e e) (addsF e) e bt40 e hx169) e e (.p e (.y 13448 (.sto e e e e e e) e e (.nil (⟨_,_,(Gh.trans (Gh.trans (gh_prn [6,7] [1016,5144,13416] hB e) (gh_nil [] [1016] hB e e e)) (gh_pk [6,7] [1016,5144,20000000,13416] hB e e e e)),_,h,e,e⟩))))
    ·exact Run.skip (⟨_,_,(Gh.trans (Gh.trans (gh_prn [6,7] [1016,5144] hB e) (gh_nil [] [1016,5144] hB e e e)) (gh_pk [6,7] [1016,5144,20000000,20000064] hB e e e e)),_,h,e,e⟩)
   ·refine OpsD.gn e g163 (.gn e g163 (.gn e g163 (.gn e g163 (.gn e g163 (.z 9448 (.pkF e g163 e) e e (.nil ⟨by kernel_rfl,?_⟩))))))
    exact Run.condF e e (.skip (⟨_,_,(Gh.trans (Gh.trans (gh_prn [6,7] [1016,5144] hB e) (gh_nil [] [1016,5144] hB e e e)) (gh_pk [6,7] [1016,5144,20000000,20000064] hB e e e e)),_,h,e,e⟩))
  ·refine OpsD.gn e g160 (.gn e g160 (.gn e g160 (.gn e g160 (.gn e g160 (.gn e g160 (.z 9336 (.pkF e g160 e) e e (.p e (.gn e e (.gn e e (.gn e e (.gn e e (.gn e e (.z 9448 (.pkF e e e) e e (.nil ⟨by kernel_rfl,?_⟩))))))))))))))
   exact Run.condF e e (.skip (⟨_,_,(Gh.trans (Gh.trans (gh_prn [6,7] [1016,5144] hB e) (gh_nil [] [1016,5144] hB e e e)) (gh_pk [6,7] [1016,5144,20000000,20000064] hB e e e e)),_,h,e,e⟩))
 ·refine Run.so hm (.p e (.y 17400 (.sto e e e e e e) e e (.nil (.ret ?_))))
  obtain rfl := someO h
  exact Ends.mkG (.inl e) e (gh_pk [0] [3] hB e e e e) e e
def s_Settle (N : Nat) (x1 : Node) (x2 : Int) : Option (Node × Bool) :=
 (s_NodeOk N x1).bind fun y140 =>
 (if (!y140) = true then
 some ((Node.mk 0 0 0 0 0 ([]) (Log.mk 0 0 ([])) 0 0 0 ([]) ([])),false)
 else
 (s_l01In N x2 x1.Log.Start x1.Commit).bind fun y142 =>
 (if (!y142) = true then
 some ((Node.mk 0 0 0 0 0 ([]) (Log.mk 0 0 ([])) 0 0 0 ([]) ([])),false)
 else
 (s_l16Copy N x1).bind fun y147 =>
 (s_ConfAt N x1 x2).bind fun y151 =>
 (s_LogTerm N x1.Log x2).bind fun y158 =>
 (s_LogBehind N x1.Log x2 y158).bind fun y159 =>
 some ((Node.mk y147.Id y147.Term y147.Vote y147.Role y147.Lead y151 y159 y147.Commit y147.Clock y147.Limit y147.Votes y147.Peers),true)))
theorem sem_s_Settle (N : Nat) (x1 : Node) (x2 : Int) (r : Node × Bool) (h : s_Settle N x1 x2 = some r) : Says Tryz.prog 57 [.agg [VI x1.Id,VI x1.Term,VI x1.Vote,VI x1.Role,VI x1.Lead,RO 3 (x1.Conf.map encI),VI x1.Log.Start,VI x1.Log.StartTerm,RO 40 (x1.Log.Entries.map eE),VI x1.Commit,VI x1.Clock,VI x1.Limit,RO 3 (x1.Votes.map encI),RO 98 (x1.Peers.map eP)],VI x2] 0 [] (.tup [.agg [VI r.1.Id,VI r.1.Term,VI r.1.Vote,VI r.1.Role,VI r.1.Lead,.sl 0 3 0 r.1.Conf.length,VI r.1.Log.Start,VI r.1.Log.StartTerm,.sl 1 40 0 r.1.Log.Entries.length,VI r.1.Commit,VI r.1.Clock,VI r.1.Limit,.sl 2 3 0 r.1.Votes.length,.sl 3 98 0 r.1.Peers.length],VB r.2]) [(0,.vec 3 (r.1.Conf.map encI)),(1,.vec 40 (r.1.Log.Entries.map eE)),(2,.vec 3 (r.1.Votes.map encI)),(3,.vec 98 (r.1.Peers.map eP))] := by
 unfold s_Settle at h
 refine Says.of_norm e Tryz.call57 e fun B hB => ?_
 have hm : B.m ≤ 1000 := by omega
 refine Run.so hm (.z 1000 (.bx e e) e e (.z 1016 (.al e e) e e (.p e (.nil (.seq (.so hm (.p e ?_)))))))
 obtain ⟨y140,hy140,h⟩ := bindO h
 refine Ops.z 5112 (Ev.call [] [] 0 (sem_s_NodeOk _ _ _ hy140) e e (.cons (.agg (.d4 (.d4 (.d4 (.d2 .nil))))) .nil) e (.inl e) e e) e e (.p2 e e (.askO (x := .t 10) e h (fun g141 h => ?_) (fun g141 h => ?_)))
 ·refine Ops.gn e g141 (.gn e g141 (.gn e g141 (.gn e g141 (.gn e g141 (.gn e g141 (.gn e g141 (.gn e g141 (.z 5288 (.pkT e g141 e) e e (.nil (.condT e e (.so hm (.z 9192 (.bd e e) e e (.y 9208 (.sto e e e e e e) e e (.p e (.nil (.ret ?_))))))))))))))))
  obtain rfl := someO h
  exact Ends.mkG (.inl e) e (Gh.trans (Gh.trans (gh_prn [0,1] [] hB e) (gh_nil [0] [] hB e e e)) (gh_pk [0,1] [10000000,10000001,10000002,10000003] hB e e e e)) e e
 ·refine Ops.gp e g141 e (.gp e g141 e (.gp e g141 e (.gp e g141 e (.gp e g141 e (.gp e g141 e ?_)))))
  obtain ⟨y142,hy142,h⟩ := bindO h
  refine Ops.gs (s := 5256) e g141 (Ev.call [] [] 0 (sem_s_l01In _ _ _ _ _ hy142) e e (.d2 (.d1 .nil)) e (.inl e) e e) e e (.gp e g141 e (.z 5288 (.pkF e g141 e) e e (.nil (.condO e h (fun g143 h => ?_) (fun g143 h => ?_)))))
  ·refine Run.so hm (.z 9192 (.bd e e) e e (.y 9208 (.sto e e e e e e) e e (.p e (.nil (.ret ?_)))))
   obtain rfl := someO h
   exact Ends.mkG (.inl e) e (Gh.trans (Gh.trans (gh_prn [0,1] [] hB e) (gh_nil [0] [] hB e e e)) (gh_pk [0,1] [10000000,10000001,10000002,10000003] hB e e e e)) e e
  ·refine Run.skip (.so hm (.p e ?_))
   obtain ⟨y147,hy147,h⟩ := bindO h
   refine Ops.z 13304 (Ev.call [] [] 4 (sem_s_l16Copy _ _ _ hy147) e e (.cons (.agg (.d4 (.d4 (.d4 (.d2 .nil))))) .nil) e (.inl e) e e) e e (.z 13320 (.al e e) e e (.y 13336 (.sto e e e e e e) e e (.nil (.so hm (.p2 e e ?_)))))
   obtain ⟨y151,hy151,h⟩ := bindO h
   refine Ops.z 17416 (Ev.call [] [] 1 (sem_s_ConfAt _ _ _ _ hy151) e e (.cons (.agg (.d4 (.d4 (.d4 (.d2 .nil))))) (.d1 .nil)) e (.inl e) e e) e e (.p e (.y 17448 (.sto e e e e e e) e e (.nil (.seq (.draw hm hmix (.p e (.p e (.p e (.p e (.p e (.p e ?_)))))))))))
   obtain ⟨y158,hy158,h⟩ := bindO h
   refine OpsD.z 21576 (Ev.call [] [] 0 (sem_s_LogTerm _ _ _ _ hy158) e e (.cons (.agg (.d2 (.d1 .nil))) (.d1 .nil)) e (.inl e) e e) e e ?_
   obtain ⟨y159,hy159,h⟩ := bindO h
   refine OpsD.z 21592 (Ev.call [] [] 1 (sem_s_LogBehind _ _ _ _ _ hy159) e e (.cons (.agg (.d2 (.d1 .nil))) (.d2 .nil)) e (.inl e) e e) e e (.p e (.y 21624 (.sto e e e e e e) e e (.nil ⟨by kernel_rfl,?_⟩)))
   refine Run.so hm (.p e (.y 25592 (.sto e e e e e e) e e (.p e (.nil (.ret ?_)))))
   obtain rfl := someO h
   exact Ends.mkG (.inl e) e (gh_pk [0,1] [17416,21592,13306,13307] hB e e e e) e e
def s_MessageOk_l1 (N : Nat) (x1 : Message) : Nat → Int → Int → Option ((Bool) ⊕ (Unit))
 | 0,_,_ => none
 | m + 1,x649,x650 =>
 (if (decide (x650 < (x1.Entries.length : Int))) = true then
 (at? x1.Entries x650).bind fun x773 =>
 (s_EntryOk N x773).bind fun y774 =>
 (if (!y774) = true then
 some (Sum.inl false)
 else
 (at? x1.Entries x650).bind fun x776 =>
 (if (decide (x776.Term < x649)) = true then
 some (Sum.inl false)
 else
 (at? x1.Entries x650).bind fun x778 =>
 (if (decide (x778.Term > x1.Term)) = true then
 some (Sum.inl false)
 else
 (at? x1.Entries x650).bind fun x781 =>
 s_MessageOk_l1 N x1 m x781.Term (w64 (x650 + 1)))))
 else
 some (Sum.inr ()))
def s_MessageOk_l1_r (N : Nat) (x1 : Message) : (List Entry) → Int → Int → Option ((Bool) ⊕ (Unit))
 | [],x649,x650 =>
 some (Sum.inr ())
 | hd :: tl,x649,x650 =>
 (some hd).bind fun x773 =>
 (s_EntryOk N x773).bind fun y774 =>
 (if (!y774) = true then
 some (Sum.inl false)
 else
 (some hd).bind fun x776 =>
 (if (decide (x776.Term < x649)) = true then
 some (Sum.inl false)
 else
 (some hd).bind fun x778 =>
 (if (decide (x778.Term > x1.Term)) = true then
 some (Sum.inl false)
 else
 (some hd).bind fun x781 =>
 s_MessageOk_l1_r N x1 tl x781.Term (w64 (x650 + 1)))))
theorem s_MessageOk_l1_rng (N : Nat) (x1 : Message) (hx : x1.Entries.length ≤ 1099511627776) : ∀ (d k m : Nat) (x649 : Int),x1.Entries.length = k + d → d < m → s_MessageOk_l1 N x1 m x649 (k : Int) = s_MessageOk_l1_r N x1 (x1.Entries.drop k) x649 (k : Int) := by
 intro d
 induction d with
 | zero =>
  intro k m x649 hd hm
  obtain ⟨m,rfl⟩ : ∃ q,m = q + 1 := ⟨m - 1,by omega⟩
  rw [s_MessageOk_l1,if_neg (by simp; omega),List.drop_eq_nil_of_le (by omega),s_MessageOk_l1_r]
 | succ d ih =>
  intro k m x649 hd hm
  obtain ⟨m,rfl⟩ : ∃ q,m = q + 1 := ⟨m - 1,by omega⟩
  have hk : k < x1.Entries.length := by omega
  rw [s_MessageOk_l1,if_pos (by simp; omega),List.drop_eq_getElem_cons hk,s_MessageOk_l1_r]
  have h1 := at_lt hk
  have h2 := w64_succ (k := k) (by omega)
  have h3 := ih (k + 1) m
  simp only [h1,h2,h3 _ (by omega) (by omega)]
theorem s_MessageOk_l1_eq {N : Nat} (x1 : Message) (hx : x1.Entries.length ≤ 1099511627776) (hN : x1.Entries.length < N) (x649 : Int) : s_MessageOk_l1 N x1 N x649 0 = s_MessageOk_l1_r N x1 x1.Entries x649 0 := s_MessageOk_l1_rng N x1 hx x1.Entries.length 0 N x649 (by omega) hN
def s_MessageOk (N : Nat) (x1 : Message) : Option (Bool) :=
 (s_l01In N x1.Kind 1 6).bind fun y467 =>
 (if (!y467) = true then
 some false
 else
 (s_l01In N x1.From 1 4).bind fun y469 =>
 (if (!y469) = true then
 some false
 else
 (s_l01In N x1.To 1 4).bind fun y471 =>
 (if (!y471) = true then
 some false
 else
 (if (x1.From == x1.To) = true then
 some false
 else
 (s_l01In N x1.Term 0 100000).bind fun y496 =>
 (if (!y496) = true then
 some false
 else
 (s_l01In N x1.LogTerm 0 100000).bind fun y498 =>
 (if (!y498) = true then
 some false
 else
 (s_l01In N x1.Index 0 100000).bind fun y500 =>
 (if (!y500) = true then
 some false
 else
 (s_l01In N x1.Commit 0 100000).bind fun y502 =>
 (if (!y502) = true then
 some false
 else
 joinP (fun (v509 : Unit) =>
 joinP (fun (v648 : Unit) =>
 (if (x1.Kind == 5) = true then
 (s_ConfOk N x1.Conf).bind fun y790 =>
 (if y790 = true then
 some (decide ((x1.Data.size : Int) ≤ 60))
 else
 some false)
 else
 (if ((x1.Conf.length : Int) == 0) = true then
 (if (decide (x1.Data = (⟨#[]⟩ : ByteArray))) = true then
 some (!x1.Last)
 else
 some false)
 else
 some false))) fun j648 =>
 (s_MessageOk_l1 N x1 N x1.LogTerm 0).bind (Sum.elim (fun v721 => some v721) (fun (v722 : Unit) => j648 ()))) fun j509 =>
 (if (decide ((x1.Entries.length : Int) > 4)) = true then
 some false
 else
 (if (decide ((x1.Entries.length : Int) > 0)) = true then
 (if (x1.Kind != 3) = true then
 some false
 else
 j509 ())
 else
 j509 ()))))))))))
theorem sem_s_MessageOk (N : Nat) (x1 : Message) (r : Bool) (h : s_MessageOk N x1 = some r) : Says Tryz.prog 30 [.agg [VI x1.Kind,VI x1.From,VI x1.To,VI x1.Term,VI x1.Index,VI x1.LogTerm,VI x1.Commit,VB x1.Ok,RO 40 (x1.Entries.map eE),RO 3 (x1.Conf.map encI),VS x1.Data,VB x1.Last]] 0 [] (VB r) [] := by
 unfold s_MessageOk at h
 refine Says.of_norm e Tryz.call30 e fun B hB => ?_
 have hm : B.m ≤ 1000 := by omega
 refine Run.so hm (.z 1000 (.bx e e) e e (.p e (.nil (.seq (.so hm (.p2 e e ?_))))))
 obtain ⟨y467,hy467,h⟩ := bindO h
 refine Ops.z 5128 (Ev.call [] [] 0 (sem_s_l01In _ _ _ _ _ hy467) e e (.d2 (.d1 .nil)) e (.inl e) e e) e e (.p2 e e (.askO (x := .t 9) e h (fun g468 h => ?_) (fun g468 h => ?_)))
 ·refine Ops.gn e g468 (.gn e g468 (.gn e g468 (.gn e g468 (.z 5240 (.pkT e g468 e) e e (.p e (.gn e e (.gn e e (.gn e e (.gn e e (.z 5336 (.pkT e e e) e e (.p e (.gn e e (.gn e e (.gn e e (.gn e e (.gn e e (.z 5448 (.pkT e e e) e e (.nil (.condT e e (.so hm (.p e (.nil (.ret ?_)))))))))))))))))))))))
  obtain rfl := someO h
  exact Ends.mkG (.inl e) e (gh_pk [0] [] hB e e e e) e e
 ·refine Ops.gp e g468 e (.gp e g468 e ?_)
  obtain ⟨y469,hy469,h⟩ := bindO h
  refine Ops.gs (s := 5208) e g468 (Ev.call [] [] 0 (sem_s_l01In _ _ _ _ _ hy469) e e (.d2 (.d1 .nil)) e (.inl e) e e) e e (.gp e g468 e (.z 5240 (.pkF e g468 e) e e (.p e (.askO (x := .t 15) e h (fun g470 h => ?_) (fun g470 h => ?_)))))
  ·refine Ops.gn e g470 (.gn e g470 (.gn e g470 (.gn e g470 (.z 5336 (.pkT e g470 e) e e (.p e (.gn e e (.gn e e (.gn e e (.gn e e (.gn e e (.z 5448 (.pkT e e e) e e (.nil (.condT e e (.so hm (.p e (.nil (.ret ?_)))))))))))))))))
   obtain rfl := someO h
   exact Ends.mkG (.inl e) e (gh_pk [0] [] hB e e e e) e e
  ·refine Ops.gp e g470 e (.gp e g470 e ?_)
   obtain ⟨y471,hy471,h⟩ := bindO h
   refine Ops.gs (s := 5304) e g470 (Ev.call [] [] 0 (sem_s_l01In _ _ _ _ _ hy471) e e (.d2 (.d1 .nil)) e (.inl e) e e) e e (.gp e g470 e (.z 5336 (.pkF e g470 e) e e (.p e (.askO (x := .t 21) e h (fun g472 h => ?_) (fun g472 h => ?_)))))
   ·refine Ops.gn e g472 (.gn e g472 (.gn e g472 (.gn e g472 (.gn e g472 (.z 5448 (.pkT e g472 e) e e (.nil (.condT e e (.so hm (.p e (.nil (.ret ?_)))))))))))
    obtain rfl := someO h
    exact Ends.mkG (.inl e) e (gh_pk [0] [] hB e e e e) e e
   ·refine Ops.gp e g472 e (.gp e g472 e (.gp e g472 e (.gp e g472 e (.gp e g472 e (.z 5448 (.pkF e g472 e) e e (.nil (.condO e h (fun g473 h => ?_) (fun g473 h => ?_))))))))
    ·refine Run.so hm (.p e (.nil (.ret ?_)))
     obtain rfl := someO h
     exact Ends.mkG (.inl e) e (gh_pk [0] [] hB e e e e) e e
    ·refine Run.skip (.seq (.so hm (.p2 e e ?_)))
     obtain ⟨y496,hy496,h⟩ := bindO h
     refine Ops.z 13320 (Ev.call [] [] 0 (sem_s_l01In _ _ _ _ _ hy496) e e (.d2 (.d1 .nil)) e (.inl e) e e) e e (.p2 e e (.askO (x := .t 32) e h (fun g497 h => ?_) (fun g497 h => ?_)))
     ·refine Ops.gn e g497 (.gn e g497 (.gn e g497 (.gn e g497 (.z 13432 (.pkT e g497 e) e e (.p e (.gn e e (.gn e e (.gn e e (.gn e e (.z 13528 (.pkT e e e) e e (.p e (.gn e e (.gn e e (.gn e e (.gn e e (.z 13624 (.pkT e e e) e e (.nil (.condT e e (.so hm (.p e (.nil (.ret ?_))))))))))))))))))))))
      obtain rfl := someO h
      exact Ends.mkG (.inl e) e (gh_pk [0] [] hB e e e e) e e
     ·refine Ops.gp e g497 e (.gp e g497 e ?_)
      obtain ⟨y498,hy498,h⟩ := bindO h
      refine Ops.gs (s := 13400) e g497 (Ev.call [] [] 0 (sem_s_l01In _ _ _ _ _ hy498) e e (.d2 (.d1 .nil)) e (.inl e) e e) e e (.gp e g497 e (.z 13432 (.pkF e g497 e) e e (.p e (.askO (x := .t 38) e h (fun g499 h => ?_) (fun g499 h => ?_)))))
      ·refine Ops.gn e g499 (.gn e g499 (.gn e g499 (.gn e g499 (.z 13528 (.pkT e g499 e) e e (.p e (.gn e e (.gn e e (.gn e e (.gn e e (.z 13624 (.pkT e e e) e e (.nil (.condT e e (.so hm (.p e (.nil (.ret ?_))))))))))))))))
       obtain rfl := someO h
       exact Ends.mkG (.inl e) e (gh_pk [0] [] hB e e e e) e e
      ·refine Ops.gp e g499 e (.gp e g499 e ?_)
       obtain ⟨y500,hy500,h⟩ := bindO h
       refine Ops.gs (s := 13496) e g499 (Ev.call [] [] 0 (sem_s_l01In _ _ _ _ _ hy500) e e (.d2 (.d1 .nil)) e (.inl e) e e) e e (.gp e g499 e (.z 13528 (.pkF e g499 e) e e (.p e (.askO (x := .t 44) e h (fun g501 h => ?_) (fun g501 h => ?_)))))
       ·refine Ops.gn e g501 (.gn e g501 (.gn e g501 (.gn e g501 (.z 13624 (.pkT e g501 e) e e (.nil (.condT e e (.so hm (.p e (.nil (.ret ?_))))))))))
        obtain rfl := someO h
        exact Ends.mkG (.inl e) e (gh_pk [0] [] hB e e e e) e e
       ·refine Ops.gp e g501 e (.gp e g501 e ?_)
        obtain ⟨y502,hy502,h⟩ := bindO h
        refine Ops.gs (s := 13592) e g501 (Ev.call [] [] 0 (sem_s_l01In _ _ _ _ _ hy502) e e (.d2 (.d1 .nil)) e (.inl e) e e) e e (.gp e g501 e (.z 13624 (.pkF e g501 e) e e (.nil (.condO e h (fun g503 h => ?_) (fun g503 h => ?_)))))
        ·refine Run.so hm (.p e (.nil (.ret ?_)))
         obtain rfl := someO h
         exact Ends.mkG (.inl e) e (gh_pk [0] [] hB e e e e) e e
        ·refine Run.skip (.seqO h (fun v509 => [(1,.ptr 0 0)]) (fun (v509 : Unit) => [(0,.box [VI x1.Kind,VI x1.From,VI x1.To,VI x1.Term,VI x1.Index,VI x1.LogTerm,VI x1.Commit,VB x1.Ok,RO 40 (x1.Entries.map eE),RO 3 (x1.Conf.map encI),VS x1.Data,VB x1.Last])]) (fun h => ?_) (fun v509 h => ?_))
         ·refine Run.so hm (.p2 e e (.z 21512 (Ev.lnF e) e e (.p2 e e (.askO (x := .t 54) e h (fun g512 h => ?_) (fun g512 h => ?_)))))
          ·refine Ops.gn e g512 (.gn e g512 (.gn e g512 (.gn e g512 (.gn e g512 (.gu e (.gu e (.gu e (.gn e g512 (.z 21704 (.pkT e g512 e) e e (.nil (.condT e e (.so hm (.p e (.nil (.ret ?_)))))))))))))))
           obtain rfl := someO h
           exact Ends.mkG (.inl e) e (gh_pk [0] [] hB e e e e) e e
          ·refine Ops.gp e g512 e (.gp e g512 e (.gs (s := 21592) e g512 (Ev.lnF e) e e (.gp e g512 e (.gp e g512 e (.askO (x := .t 59) e h (fun g513 h => ?_) (fun g513 h => ?_))))))
           ·refine Ops.gp e g513 e (.gp e g513 e (.gp e g513 e (.gs (s := 21688) e g512 (.pkT e g513 e) e e (.z 21704 (.pkF e g512 e) e e (.nil (.condO e h (fun g514 h => ?_) (fun g514 h => ?_)))))))
            ·refine Run.so hm (.p e (.nil (.ret ?_)))
             obtain rfl := someO h
             exact Ends.mkG (.inl e) e (gh_pk [0] [] hB e e e e) e e
            ·exact Run.skip (⟨_,_,(gh_pk [1] [1000] hB e e e e),(),h,e,e⟩)
           ·exact Ops.gn e g513 (.gn e g513 (.gn e g513 (.gs (s := 21688) e g512 (.pkF e g513 e) e e (.z 21704 (.pkF e g512 e) e e (.nil (.condF e e (.skip (⟨_,_,(gh_pk [1] [1000] hB e e e e),(),h,e,e⟩))))))))
         ·refine Run.so hm (.p3 e e e (.nil (.seqO h (fun v648 => [(1,.ptr 0 0)]) (fun (v648 : Unit) => [(0,.box [VI x1.Kind,VI x1.From,VI x1.To,VI x1.Term,VI x1.Index,VI x1.LogTerm,VI x1.Commit,VB x1.Ok,RO 40 (x1.Entries.map eE),RO 3 (x1.Conf.map encI),VS x1.Data,VB x1.Last])]) (fun h => ?_) (fun v648 h => ?_))))
          ·refine Run.so hm (.p e (.nil (.block ?_)))
           obtain ⟨res722,h,hk722⟩ := bindO h
           refine Run.loop (n := N) (fun m722 fr σ => ∃ (x649 : Int),∃ (x650 : Int),s_MessageOk_l1 N x1 m722 x649 x650 = some res722 ∧ fr = [(1,.ptr 0 0),(3,VI x649),(4,VI x650)] ∧ σ = [(0,.box [VI x1.Kind,VI x1.From,VI x1.To,VI x1.Term,VI x1.Index,VI x1.LogTerm,VI x1.Commit,VB x1.Ok,RO 40 (x1.Entries.map eE),RO 3 (x1.Conf.map encI),VS x1.Data,VB x1.Last])]) (gh_pk [1,3,4] [0] hB e e e e) ⟨_,_,h,e,e⟩ ?_
           rintro m722 fr σ ⟨x649,x650,h,rfl,rfl⟩
           obtain _ | m722 := m722
           ·rw [s_MessageOk_l1] at h; cases h
           rw [s_MessageOk_l1] at h
           refine Run.seq (.so hm (.p3 e e e (.z 37912 (Ev.lnF e) e e (.p e (.nil (.condO e h (fun g725 h => ?_) (fun g725 h => ?_)))))))
           ·refine Run.skip (.seq (.block (.seq (.seq (.draw hm hmix (.p e (.p e (.p e ?_))))))))
            obtain ⟨x773,hx773,h⟩ := bindO h
            refine OpsD.z 46104 (Ev.iaF e e hx773) e e (.p e ?_)
            obtain ⟨y774,hy774,h⟩ := bindO h
            refine OpsD.z 46136 (Ev.call [] [] 0 (sem_s_EntryOk _ _ _ hy774) e e (.cons (.agg (.d2 (.d1 .nil))) .nil) e (.inl e) e e) e e (.p e (.p e (.askO (x := .t 81) e h (fun g775 h => ?_) (fun g775 h => ?_))))
            ·refine OpsD.gn e g775 (.gn e g775 (.gn e g775 (.gn e g775 (.gn e g775 (.gn e g775 (.gn e g775 (.gn e g775 (.z 46312 (.pkT e g775 e) e e (.p e (.gn e e (.gn e e (.gn e e (.gn e e (.gn e e (.gn e e (.gn e e (.gn e e (.gn e e (.z 46488 (.pkT e e e) e e (.nil ⟨by kernel_rfl,?_⟩))))))))))))))))))))
             refine Run.condT e e (.so hm (.p e (.nil (.ret ?_))))
             obtain rfl := someO h
             have h := hk722
             replace h := inlO h
             obtain rfl := someO h
             exact Ends.mkG (.inl e) e (gh_pk [0] [] hB e e e e) e e
            ·refine OpsD.gp e g775 e (.gp e g775 e (.gp e g775 e ?_))
             obtain ⟨x776,hx776,h⟩ := bindO h
             refine OpsD.gs (s := 46232) e g775 (Ev.iaF e e hx776) e e (.gp e g775 e (.gp e g775 e (.gp e g775 e (.gp e g775 e (.z 46312 (.pkF e g775 e) e e (.p e (.askO (x := .t 91) e h (fun g777 h => ?_) (fun g777 h => ?_))))))))
             ·refine OpsD.gn e g777 (.gn e g777 (.gn e g777 (.gn e g777 (.gn e g777 (.gn e g777 (.gn e g777 (.gn e g777 (.gn e g777 (.z 46488 (.pkT e g777 e) e e (.nil ⟨by kernel_rfl,?_⟩))))))))))
              refine Run.condT e e (.so hm (.p e (.nil (.ret ?_))))
              obtain rfl := someO h
              have h := hk722
              replace h := inlO h
              obtain rfl := someO h
              exact Ends.mkG (.inl e) e (gh_pk [0] [] hB e e e e) e e
             ·refine OpsD.gp e g777 e (.gp e g777 e (.gp e g777 e ?_))
              obtain ⟨x778,hx778,h⟩ := bindO h
              refine OpsD.gs (s := 46392) e g777 (Ev.iaF e e hx778) e e (.gp e g777 e (.gp e g777 e (.gp e g777 e (.gp e g777 e (.gp e g777 e (.z 46488 (.pkF e g777 e) e e (.nil ⟨by kernel_rfl,?_⟩)))))))
              refine Run.condO e h (fun g779 h => ?_) (fun g779 h => ?_)
              ·refine Run.so hm (.p e (.nil (.ret ?_)))
               obtain rfl := someO h
               have h := hk722
               replace h := inlO h
               obtain rfl := someO h
               exact Ends.mkG (.inl e) e (gh_pk [0] [] hB e e e e) e e
              ·refine Run.skip (.ops hm (.p3 e e e ?_))
               obtain ⟨x781,hx781,h⟩ := bindO h
               exact Ops.z 54296 (Ev.iaF e e hx781) e e (.p3 e e e (.nil (.ops hm (.p3 e e e (.nil (⟨m722,Nat.lt_succ_self m722,_,_,(gh_pk [1,3,4] [0] hB e e e e),_,_,h,e,e⟩))))))
           ·refine Run.exit ?_
            obtain rfl := someO h
            have h := hk722
            replace h := inrO h
            exact ⟨_,_,(gh_pk [1] [0] hB e e e e),(),h,e,e⟩
          ·refine Run.seq (.so hm (.p3 e e e (.nil (.condO e h (fun g787 h => ?_) (fun g787 h => ?_)))))
           ·refine Run.so hm (.p2 e e ?_)
            obtain ⟨y790,hy790,h⟩ := bindO h
            refine Ops.z 62472 (Ev.call [] [] 0 (sem_s_ConfOk _ _ _ hy790) e e (.d1 .nil) e (.inl e) e e) e e (.p e (.askO (x := .t 114) e h (fun g791 h => ?_) (fun g791 h => ?_)))
            ·refine Ops.gp e g791 e (.gp e g791 e (.gp e g791 e (.gp e g791 e (.z 62568 (.pkT e g791 e) e e (.p e (.nil (.ret ?_)))))))
             obtain rfl := someO h
             exact Ends.mkG (.inl e) e (gh_pk [0] [] hB e e e e) e e
            ·refine Ops.gn e g791 (.gn e g791 (.gn e g791 (.gn e g791 (.z 62568 (.pkF e g791 e) e e (.p e (.nil (.ret ?_)))))))
             obtain rfl := someO h
             exact Ends.mkG (.inl e) e (gh_pk [0] [] hB e e e e) e e
           ·refine Run.skip (.so hm (.p2 e e (.z 66568 (Ev.lnF e) e e (.p2 e e (.askO (x := .t 124) e h (fun g794 h => ?_) (fun g794 h => ?_))))))
            ·refine Ops.gp e g794 e (.gp e g794 e (.gp e g794 e (.z 66664 (.pkT e g794 e) e e (.p e (.askO (x := .t 129) e h (fun g795 h => ?_) (fun g795 h => ?_))))))
             ·refine Ops.gp e g795 e (.gp e g795 e (.gp e g795 e (.z 66744 (.pkT e g795 e) e e (.p e (.nil (.ret ?_))))))
              obtain rfl := someO h
              exact Ends.mkG (.inl e) e (gh_pk [0] [] hB e e e e) e e
             ·refine Ops.gn e g795 (.gn e g795 (.gn e g795 (.z 66744 (.pkF e g795 e) e e (.p e (.nil (.ret ?_))))))
              obtain rfl := someO h
              exact Ends.mkG (.inl e) e (gh_pk [0] [] hB e e e e) e e
            ·refine Ops.gn e g794 (.gn e g794 (.gn e g794 (.z 66664 (.pkF e g794 e) e e (.p e (.gn e e (.gn e e (.gn e e (.z 66744 (.pkF e e e) e e (.p e (.nil (.ret ?_)))))))))))
             obtain rfl := someO h
             exact Ends.mkG (.inl e) e (gh_pk [0] [] hB e e e e) e e
def s_l16Follow_i1 (N : Nat) (x1 : TR) (x2 : Int) : Option (TR) :=
 some (TR.mk (Node.mk x1.n.Id x1.n.Term x1.n.Vote 0 x2 x1.n.Conf x1.n.Log x1.n.Commit x1.n.Clock x1.n.Limit ([] : List Int) ([] : List Peer)) ([]))
theorem sem_s_l16Follow_i1 (N : Nat) (x1 : TR) (x2 : Int) (r : TR) (h : s_l16Follow_i1 N x1 x2 = some r) : Says Tryz.prog 32 [.ptr 0 0,VI x2] 5 [(0,.box [VI x1.n.Id,VI x1.n.Term,VI x1.n.Vote,VI x1.n.Role,VI x1.n.Lead,.sl 1 3 0 x1.n.Conf.length,VI x1.n.Log.Start,VI x1.n.Log.StartTerm,.sl 2 40 0 x1.n.Log.Entries.length,VI x1.n.Commit,VI x1.n.Clock,VI x1.n.Limit,.sl 3 3 0 x1.n.Votes.length,.sl 4 98 0 x1.n.Peers.length,NI 32]),(1,.vec 3 (x1.n.Conf.map encI)),(2,.vec 40 (x1.n.Log.Entries.map eE)),(3,.vec 3 (x1.n.Votes.map encI)),(4,.vec 98 (x1.n.Peers.map eP))] (.tup []) [(0,.box [VI r.n.Id,VI r.n.Term,VI r.n.Vote,VI r.n.Role,VI r.n.Lead,.sl 1 3 0 x1.n.Conf.length,VI r.n.Log.Start,VI r.n.Log.StartTerm,.sl 2 40 0 x1.n.Log.Entries.length,VI r.n.Commit,VI r.n.Clock,VI r.n.Limit,.sl 5 3 0 r.n.Votes.length,.sl 6 98 0 r.n.Peers.length,.sl 7 32 0 r.told.length]),(1,.vec 3 (x1.n.Conf.map encI)),(2,.vec 40 (x1.n.Log.Entries.map eE)),(3,.gone),(4,.gone),(5,.vec 3 (r.n.Votes.map encI)),(6,.vec 98 (r.n.Peers.map eP)),(7,.vec 32 (r.told.map (eM false)))] := by
 unfold s_l16Follow_i1 at h
 refine Says.of_norm e Tryz.call32 e fun B hB => ?_
 have hm : B.m ≤ 1000 := by omega
 refine Run.so hm (.p3 e e e (.p e (.y 1064 (.sto e e e e e e) e e (.nil (.so hm (.p3 e e e (.p2 e e (.y 5176 (.sto e e e e e e) e e (.nil (.so hm (.p e (.z 9208 (Ev.bsW (ys := ([] : List Int)) (f := encI) e .nil e e e e e) e e (.p3 e e e (.y 9272 (.sto e e e e e e) e e (.nil (.ops hm (.p e (.z 13304 (Ev.bsW (ys := ([] : List Peer)) (f := eP) e .nil e e e e e) e e (.p3 e e e (.y 13368 (.sto e e e e e e) e e (.nil ?_)))))))))))))))))))))
 obtain rfl := someO h
 exact Ends.mkG (.inr e) e (Gh.trans (Gh.trans (Gh.trans (gh_prn [] [0,1,2,3,4,9208,13304] hB e) (gh_mvE [] [3,4] hB e e)) (gh_nil [] [0] hB e e e)) (gh_pk [] [0,1,2,3,4,9208,13304,20000000] hB e e e e)) e e
def s_l16AskVote (N : Nat) (x1 : TR) (x2 : Message) : Option (TR) :=
 (s_LogLast N x1.n.Log).bind fun y134 =>
 joinP (fun (v139 : Bool) =>
 joinP (fun (v150 : Bool) =>
 joinP (fun (v158 : Int × Int) =>
 (s_l16Tell N (TR.mk (Node.mk x1.n.Id x1.n.Term v158.1 x1.n.Role x1.n.Lead x1.n.Conf x1.n.Log x1.n.Commit v158.2 x1.n.Limit x1.n.Votes x1.n.Peers) x1.told) (Message.mk 2 0 x2.From 0 0 0 0 v150 ([]) ([]) (⟨#[]⟩ : ByteArray) false)).bind fun y161 =>
 some (TR.mk (Node.mk y161.n.Id y161.n.Term y161.n.Vote y161.n.Role y161.n.Lead x1.n.Conf (Log.mk y161.n.Log.Start y161.n.Log.StartTerm x1.n.Log.Entries) y161.n.Commit y161.n.Clock y161.n.Limit x1.n.Votes x1.n.Peers) y161.told)) fun j158 =>
 (if v150 = true then
 j158 (x2.From,0)
 else
 j158 (x1.n.Vote,x1.n.Clock))) fun j150 =>
 (if (x2.Term == x1.n.Term) = true then
 (if (x1.n.Vote == 0) = true then
 j150 v139
 else
 (if (x1.n.Vote == x2.From) = true then
 j150 v139
 else
 j150 false))
 else
 j150 false)) fun j139 =>
 (if (decide (x2.LogTerm > y134.2)) = true then
 j139 true
 else
 (if (x2.LogTerm == y134.2) = true then
 j139 (decide (x2.Index ≥ y134.1))
 else
 j139 false))
theorem sem_s_l16AskVote (N : Nat) (x1 : TR) (x2 : Message) (r : TR) (h : s_l16AskVote N x1 x2 = some r) : Says Tryz.prog 33 [.ptr 0 0,.agg [VI x2.Kind,VI x2.From,VI x2.To,VI x2.Term,VI x2.Index,VI x2.LogTerm,VI x2.Commit,VB x2.Ok,RO 40 (x2.Entries.map eE),RO 3 (x2.Conf.map encI),VS x2.Data,VB x2.Last]] 6 [(0,.box [VI x1.n.Id,VI x1.n.Term,VI x1.n.Vote,VI x1.n.Role,VI x1.n.Lead,.sl 1 3 0 x1.n.Conf.length,VI x1.n.Log.Start,VI x1.n.Log.StartTerm,.sl 2 40 0 x1.n.Log.Entries.length,VI x1.n.Commit,VI x1.n.Clock,VI x1.n.Limit,.sl 3 3 0 x1.n.Votes.length,.sl 4 98 0 x1.n.Peers.length,.sl 5 32 0 x1.told.length]),(1,.vec 3 (x1.n.Conf.map encI)),(2,.vec 40 (x1.n.Log.Entries.map eE)),(3,.vec 3 (x1.n.Votes.map encI)),(4,.vec 98 (x1.n.Peers.map eP)),(5,.vec 32 (x1.told.map (eM false)))] (.tup []) [(0,.box [VI r.n.Id,VI r.n.Term,VI r.n.Vote,VI r.n.Role,VI r.n.Lead,.sl 1 3 0 x1.n.Conf.length,VI r.n.Log.Start,VI r.n.Log.StartTerm,.sl 2 40 0 x1.n.Log.Entries.length,VI r.n.Commit,VI r.n.Clock,VI r.n.Limit,.sl 3 3 0 x1.n.Votes.length,.sl 4 98 0 x1.n.Peers.length,.sl 6 32 0 r.told.length]),(1,.vec 3 (x1.n.Conf.map encI)),(2,.vec 40 (x1.n.Log.Entries.map eE)),(3,.vec 3 (x1.n.Votes.map encI)),(4,.vec 98 (x1.n.Peers.map eP)),(5,.gone),(6,.vec 32 (r.told.map (eM false)))] := by
 unfold s_l16AskVote at h
 refine Says.of_norm e Tryz.call33 e fun B hB => ?_
 have hm : B.m ≤ 1000 := by omega
 refine Run.so hm (.z 1000 (.bx e e) e e (.nil (.so hm (.p3 e e e (.p2 e e ?_)))))
 obtain ⟨y134,hy134,h⟩ := bindO h
 refine Ops.z 5176 (Ev.call [] [2] 0 (sem_s_LogLast _ _ _ hy134) e e (.cons (.agg (.d2 (.cons (.borrow e (by decide) (lendW (fun _ => e) _ e)) .nil))) .nil) e (.inr ⟨e,ownL_root trivial⟩) e e) e e ?_
 refine Ops.p e (.p3 e e e (.p e (.nil (.seqO h (fun v139 => [(0,.ptr 0 0),(3,.ptr 6 0),(6,VB v139)]) (fun (v139 : Bool) => [(0,.box [VI x1.n.Id,VI x1.n.Term,VI x1.n.Vote,VI x1.n.Role,VI x1.n.Lead,.sl 1 3 0 x1.n.Conf.length,VI x1.n.Log.Start,VI x1.n.Log.StartTerm,.sl 2 40 0 x1.n.Log.Entries.length,VI x1.n.Commit,VI x1.n.Clock,VI x1.n.Limit,.sl 3 3 0 x1.n.Votes.length,.sl 4 98 0 x1.n.Peers.length,.sl 5 32 0 x1.told.length]),(1,.vec 3 (x1.n.Conf.map encI)),(2,.vec 40 (x1.n.Log.Entries.map eE)),(3,.vec 3 (x1.n.Votes.map encI)),(4,.vec 98 (x1.n.Peers.map eP)),(5,.vec 32 (x1.told.map (eM false))),(6,.box [VI x2.Kind,VI x2.From,VI x2.To,VI x2.Term,VI x2.Index,VI x2.LogTerm,VI x2.Commit,VB x2.Ok,RO 40 (x2.Entries.map eE),RO 3 (x2.Conf.map encI),VS x2.Data,VB x2.Last])]) (fun h => ?_) (fun v139 h => ?_)))))
 ·refine Run.ops hm (.p3 e e e (.p2 e e (.askO (x := .t 21) e h (fun g142 h => ?_) (fun g142 h => ?_))))
  ·exact Ops.gn e g142 (.gn e g142 (.gn e g142 (.gn e g142 (.gn e g142 (.gu e (.gu e (.gu e (.gu e (.gn e g142 (.z 9432 (.pkT e g142 e) e e (.p e (.nil (⟨_,_,(gh_pk [0,3,6] [0,1,2,3,4,5,1000] hB e e e e),_,h,e,e⟩)))))))))))))
  ·refine Ops.gp e g142 e (.gp e g142 e (.gp e g142 e (.gp e g142 e (.gp e g142 e (.askO (x := .t 26) e h (fun g143 h => ?_) (fun g143 h => ?_))))))
   ·exact Ops.gp e g143 e (.gp e g143 e (.gp e g143 e (.gp e g143 e (.gs (s := 9416) e g142 (.pkT e g143 e) e e (.z 9432 (.pkF e g142 e) e e (.p e (.nil (⟨_,_,(gh_pk [0,3,6] [0,1,2,3,4,5,1000] hB e e e e),_,h,e,e⟩))))))))
   ·exact Ops.gn e g143 (.gn e g143 (.gn e g143 (.gn e g143 (.gs (s := 9416) e g142 (.pkF e g143 e) e e (.z 9432 (.pkF e g142 e) e e (.p e (.nil (⟨_,_,(gh_pk [0,3,6] [0,1,2,3,4,5,1000] hB e e e e),_,h,e,e⟩))))))))
 ·refine Run.seqO h (fun v150 => [(0,.ptr 0 0),(3,.ptr 6 0),(7,VB v150)]) (fun (v150 : Bool) => [(0,.box [VI x1.n.Id,VI x1.n.Term,VI x1.n.Vote,VI x1.n.Role,VI x1.n.Lead,.sl 1 3 0 x1.n.Conf.length,VI x1.n.Log.Start,VI x1.n.Log.StartTerm,.sl 2 40 0 x1.n.Log.Entries.length,VI x1.n.Commit,VI x1.n.Clock,VI x1.n.Limit,.sl 3 3 0 x1.n.Votes.length,.sl 4 98 0 x1.n.Peers.length,.sl 5 32 0 x1.told.length]),(1,.vec 3 (x1.n.Conf.map encI)),(2,.vec 40 (x1.n.Log.Entries.map eE)),(3,.vec 3 (x1.n.Votes.map encI)),(4,.vec 98 (x1.n.Peers.map eP)),(5,.vec 32 (x1.told.map (eM false))),(6,.box [VI x2.Kind,VI x2.From,VI x2.To,VI x2.Term,VI x2.Index,VI x2.LogTerm,VI x2.Commit,VB x2.Ok,RO 40 (x2.Entries.map eE),RO 3 (x2.Conf.map encI),VS x2.Data,VB x2.Last])]) (fun h => ?_) (fun v150 h => ?_)
  ·refine Run.draw hm hmix (.p e (.p e (.p e (.p e (.p e (.p e (.p e (.p e (.p e (.askO (x := .t 41) e h (fun g154 h => ?_) (fun g154 h => ?_)))))))))))
   ·refine OpsD.gp e g154 e (.gp e g154 e (.gp e g154 e (.gp e g154 e (.gp e g154 e (.gp e g154 e (.gp e g154 e (.askO (x := .t 48) e h (fun g155 h => ?_) (fun g155 h => ?_))))))))
    ·refine OpsD.gn e g155 (.gn e g155 (.gn e g155 (.gn e g155 (.gn e g155 (.gn e g155 (.gn e g155 (.gn e g155 (.gs (s := 13672) e g154 (.pkT e g155 e) e e (.z 13688 (.pkT e g154 e) e e (.p e (.gp e e e (.z 13736 (.pkT e e e) e e (.p e (.nil ⟨by kernel_rfl,?_⟩))))))))))))))
     exact ⟨_,_,(gh_pk [0,3,7] [0,1,2,3,4,5,6] hB e e e e),_,h,e,e⟩
    ·refine OpsD.gp e g155 e (.gp e g155 e (.gp e g155 e (.gp e g155 e (.gp e g155 e (.gp e g155 e (.gp e g155 e (.gp e g155 e (.gs (s := 13672) e g154 (.pkF e g155 e) e e (.z 13688 (.pkT e g154 e) e e (.p e (.askO (x := .t 59) e h (fun g156 h => ?_) (fun g156 h => ?_))))))))))))
     ·refine OpsD.gp e g156 e (.z 13736 (.pkT e g156 e) e e (.p e (.nil ⟨by kernel_rfl,?_⟩)))
      exact ⟨_,_,(gh_pk [0,3,7] [0,1,2,3,4,5,6] hB e e e e),_,h,e,e⟩
     ·refine OpsD.gn e g156 (.z 13736 (.pkF e g156 e) e e (.p e (.nil ⟨by kernel_rfl,?_⟩)))
      exact ⟨_,_,(gh_pk [0,3,7] [0,1,2,3,4,5,6] hB e e e e),_,h,e,e⟩
   ·refine OpsD.gn e g154 (.gn e g154 (.gn e g154 (.gn e g154 (.gn e g154 (.gn e g154 (.gn e g154 (.gu e (.gu e (.gu e (.gu e (.gu e (.gu e (.gu e (.gu e (.gn e g154 (.z 13688 (.pkF e g154 e) e e (.p e (.gn e e (.z 13736 (.pkF e e e) e e (.p e (.nil ⟨by kernel_rfl,?_⟩)))))))))))))))))))))
    exact ⟨_,_,(gh_pk [0,3,7] [0,1,2,3,4,5,6] hB e e e e),_,h,e,e⟩
  ·refine Run.seqO h (fun v158 => [(0,.ptr 0 0),(3,.ptr 6 0),(7,VB v150)]) (fun (v158 : Int × Int) => [(0,.box [VI x1.n.Id,VI x1.n.Term,VI v158.1,VI x1.n.Role,VI x1.n.Lead,.sl 1 3 0 x1.n.Conf.length,VI x1.n.Log.Start,VI x1.n.Log.StartTerm,.sl 2 40 0 x1.n.Log.Entries.length,VI x1.n.Commit,VI v158.2,VI x1.n.Limit,.sl 3 3 0 x1.n.Votes.length,.sl 4 98 0 x1.n.Peers.length,.sl 5 32 0 x1.told.length]),(1,.vec 3 (x1.n.Conf.map encI)),(2,.vec 40 (x1.n.Log.Entries.map eE)),(3,.vec 3 (x1.n.Votes.map encI)),(4,.vec 98 (x1.n.Peers.map eP)),(5,.vec 32 (x1.told.map (eM false))),(6,.box [VI x2.Kind,VI x2.From,VI x2.To,VI x2.Term,VI x2.Index,VI x2.LogTerm,VI x2.Commit,VB x2.Ok,RO 40 (x2.Entries.map eE),RO 3 (x2.Conf.map encI),VS x2.Data,VB x2.Last])]) (fun h => ?_) (fun v158 h => ?_)
   ·refine Run.so hm (.p e (.nil (.condO e h (fun g159 h => ?_) (fun g159 h => ?_))))
    ·exact Run.so hm (.p3 e e e (.p3 e e e (.y 21576 (.sto e e e e e e) e e (.nil (.ops hm (.p3 e e e (.p e (.y 25640 (.sto e e e e e e) e e (.nil (⟨_,_,(gh_pk [0,3,7] [0,1,2,3,4,5,6] hB e e e e),_,h,e,e⟩))))))))))
    ·exact Run.skip (⟨_,_,(gh_pk [0,3,7] [0,1,2,3,4,5,6] hB e e e e),_,h,e,e⟩)
   ·refine Run.ops hm (.p3 e e e (.p e (.z 29736 (.bd e e) e e ?_)))
    obtain ⟨y161,hy161,h⟩ := bindO h
    refine Ops.z 29752 (Ev.call [0,1,2,3,4,5] [] 1 (sem_s_l16Tell _ _ _ _ hy161) e e (.cons (.ptr e) (.cons (.agg (.d4 (.d4 (.cons (.nil _ _) (.cons (.nil _ _) (.d2 .nil)))))) .nil)) e (.inl e) e e) e e (.nil ?_)
    obtain rfl := someO h
    exact Ends.mkG (.inr e) e (gh_pk [] [0,1,2,3,4,5,29752] hB e e e e) e e
def s_l16Elected_i1 (N : Nat) (x1 : TR) : Option (Bool) :=
 (s_ConfOf N x1.n).bind fun y106 =>
 (s_Most N y106 x1.n.Votes).bind fun y107 =>
 some y107
theorem sem_s_l16Elected_i1 (N : Nat) (x1 : TR) (r : Bool) (h : s_l16Elected_i1 N x1 = some r) : Says Tryz.prog 78 [.ptr 0 0] 6 [(0,.box [VI x1.n.Id,VI x1.n.Term,VI x1.n.Vote,VI x1.n.Role,VI x1.n.Lead,.sl 1 3 0 x1.n.Conf.length,VI x1.n.Log.Start,VI x1.n.Log.StartTerm,.sl 2 40 0 x1.n.Log.Entries.length,VI x1.n.Commit,VI x1.n.Clock,VI x1.n.Limit,.sl 3 3 0 x1.n.Votes.length,.sl 4 98 0 x1.n.Peers.length,.sl 5 32 0 x1.told.length]),(1,.vec 3 (x1.n.Conf.map encI)),(2,.vec 40 (x1.n.Log.Entries.map eE)),(3,.vec 3 (x1.n.Votes.map encI)),(4,.vec 98 (x1.n.Peers.map eP)),(5,.vec 32 (x1.told.map (eM false)))] (VB r) [(0,.box [VI x1.n.Id,VI x1.n.Term,VI x1.n.Vote,VI x1.n.Role,VI x1.n.Lead,.sl 1 3 0 x1.n.Conf.length,VI x1.n.Log.Start,VI x1.n.Log.StartTerm,.sl 2 40 0 x1.n.Log.Entries.length,VI x1.n.Commit,VI x1.n.Clock,VI x1.n.Limit,.sl 3 3 0 x1.n.Votes.length,.sl 4 98 0 x1.n.Peers.length,.sl 5 32 0 x1.told.length]),(1,.vec 3 (x1.n.Conf.map encI)),(2,.vec 40 (x1.n.Log.Entries.map eE)),(3,.vec 3 (x1.n.Votes.map encI)),(4,.vec 98 (x1.n.Peers.map eP)),(5,.vec 32 (x1.told.map (eM false)))] := by
 unfold s_l16Elected_i1 at h
 refine Says.of_norm e Tryz.call78 e fun B hB => ?_
 have hm : B.m ≤ 1000 := by omega
 refine Run.so hm (.p e (.nil (.seq (.draw hm hmix (.p e (.p e (.p e (.p e ?_))))))))
 obtain ⟨y106,hy106,h⟩ := bindO h
 refine OpsD.z 5160 (Ev.call [] [1,2,3,4] 1 (sem_s_ConfOf _ _ _ hy106) e e (.cons (.agg (.d4 (.d1 (.cons (.borrow e (by decide) (lendW (fun _ => e) _ e)) (.d2 (.cons (.borrow e (by decide) (lendW (fun _ => e) _ e)) (.d2 (.d1 (.cons (.borrow e (by decide) (lendW (fun _ => e) _ e)) (.cons (.borrow e (by decide) (lendW (fun _ => e) _ e)) .nil)))))))))) .nil) e (.inr ⟨e,ownL_root ⟨own_rows (fun _ => e) _,trivial⟩⟩) e e) e e ?_
 refine OpsD.p e (.p e (.p e (.p e (.p e ?_))))
 obtain ⟨y107,hy107,h⟩ := bindO h
 refine OpsD.z 5256 (Ev.call [] [5160,3] 0 (sem_s_Most _ _ _ _ hy107) e e (.cons (.borrow e (by decide) (lendW (fun _ => e) _ e)) (.cons (.borrow e (by decide) (lendW (fun _ => e) _ e)) .nil)) e (.inr ⟨e,ownL_root trivial⟩) e e) e e ?_
 refine OpsD.p e (.nil ⟨by kernel_rfl,?_⟩)
 refine Run.ret ?_
 obtain rfl := someO h
 exact Ends.mkG (.inl e) e (gh_pk [0] [0,1,2,3,4,5] hB e e e e) e e
def s_l16TellVote_l1 (N : Nat) (x1 : TR) (x2 : Message) : Nat → Int → (List Int) → Option ((List Int))
 | 0,_,_ => none
 | m + 1,x346,x374 =>
 (if (decide (x346 ≤ 4)) = true then
 joinP (fun (v409 : (List Int)) =>
 s_l16TellVote_l1 N x1 x2 m (w64 (x346 + 1)) v409) fun j409 =>
 (if (x346 == x2.From) = true then
 (cat? x374 ([x346] : List Int)).bind fun x414 =>
 j409 x414
 else
 (s_l09In N x1.n.Votes x346).bind fun y415 =>
 (if y415 = true then
 (cat? x374 ([x346] : List Int)).bind fun x418 =>
 j409 x418
 else
 j409 x374))
 else
 some x374)
def s_l16TellVote (N : Nat) (x1 : TR) (x2 : Message) : Option (TR) :=
 (if (!x2.Ok) = true then
 some x1
 else
 (if (x2.Term != x1.n.Term) = true then
 some x1
 else
 (if (x1.n.Role != 1) = true then
 some x1
 else
 joinP (fun (v345 : (List Int)) =>
 (s_l16Elected_i1 N (TR.mk (Node.mk x1.n.Id x1.n.Term x1.n.Vote x1.n.Role x1.n.Lead x1.n.Conf x1.n.Log x1.n.Commit x1.n.Clock x1.n.Limit v345 x1.n.Peers) x1.told)).bind fun y420 =>
 (if y420 = true then
 (s_l16Lead N (TR.mk (Node.mk x1.n.Id x1.n.Term x1.n.Vote x1.n.Role x1.n.Lead x1.n.Conf x1.n.Log x1.n.Commit x1.n.Clock x1.n.Limit v345 x1.n.Peers) x1.told)).bind fun y423 =>
 some y423
 else
 some (TR.mk (Node.mk x1.n.Id x1.n.Term x1.n.Vote x1.n.Role x1.n.Lead x1.n.Conf x1.n.Log x1.n.Commit x1.n.Clock x1.n.Limit v345 x1.n.Peers) x1.told))) fun j345 =>
 (s_l16TellVote_l1 N x1 x2 N 1 ([] : List Int)).bind (fun v396 => j345 v396))))
theorem sem_s_l16TellVote (N : Nat) (x1 : TR) (x2 : Message) (r : TR) (h : s_l16TellVote N x1 x2 = some r) : Says Tryz.prog 34 [.ptr 0 0,.agg [VI x2.Kind,VI x2.From,VI x2.To,VI x2.Term,VI x2.Index,VI x2.LogTerm,VI x2.Commit,VB x2.Ok,RO 40 (x2.Entries.map eE),RO 3 (x2.Conf.map encI),VS x2.Data,VB x2.Last]] 6 [(0,.box [VI x1.n.Id,VI x1.n.Term,VI x1.n.Vote,VI x1.n.Role,VI x1.n.Lead,.sl 1 3 0 x1.n.Conf.length,VI x1.n.Log.Start,VI x1.n.Log.StartTerm,.sl 2 40 0 x1.n.Log.Entries.length,VI x1.n.Commit,VI x1.n.Clock,VI x1.n.Limit,.sl 3 3 0 x1.n.Votes.length,.sl 4 98 0 x1.n.Peers.length,.sl 5 32 0 x1.told.length]),(1,.vec 3 (x1.n.Conf.map encI)),(2,.vec 40 (x1.n.Log.Entries.map eE)),(3,.vec 3 (x1.n.Votes.map encI)),(4,.vec 98 (x1.n.Peers.map eP)),(5,.vec 32 (x1.told.map (eM false)))] (.tup []) [(0,.box [VI r.n.Id,VI r.n.Term,VI r.n.Vote,VI r.n.Role,VI r.n.Lead,.sl 6 3 0 r.n.Conf.length,VI r.n.Log.Start,VI r.n.Log.StartTerm,.sl 7 40 0 r.n.Log.Entries.length,VI r.n.Commit,VI r.n.Clock,VI r.n.Limit,.sl 8 3 0 r.n.Votes.length,.sl 9 98 0 r.n.Peers.length,.sl 10 32 0 r.told.length]),(1,.gone),(2,.gone),(3,.gone),(4,.gone),(5,.gone),(6,.vec 3 (r.n.Conf.map encI)),(7,.vec 40 (r.n.Log.Entries.map eE)),(8,.vec 3 (r.n.Votes.map encI)),(9,.vec 98 (r.n.Peers.map eP)),(10,.vec 32 (r.told.map (eM false)))] := by
 unfold s_l16TellVote at h
 refine Says.of_norm e Tryz.call34 e fun B hB => ?_
 have hm : B.m ≤ 1000 := by omega
 refine Run.so hm (.z 1000 (.bx e e) e e (.nil (.seq (.seq (.draw hm hmix (.p e (.p e (.p e (.p e (.askO (x := .t 9) e h (fun g269 h => ?_) (fun g269 h => ?_)))))))))))
 ·refine OpsD.gn e g269 (.gn e g269 (.gn e g269 (.gn e g269 (.gn e g269 (.gn e g269 (.gn e g269 (.gn e g269 (.z 5288 (.pkT e g269 e) e e (.p e (.gn e e (.gn e e (.gn e e (.gn e e (.gn e e (.gn e e (.z 5416 (.pkT e e e) e e (.nil ⟨by kernel_rfl,?_⟩)))))))))))))))))
  refine Run.condT e e (.ret ?_)
  obtain rfl := someO h
  exact Ends.mkG (.inl e) e (Gh.trans (Gh.trans (gh_prn [] [0,1,2,3,4,5] hB e) (gh_mvE [] [1,2,3,4,5] hB e e)) (gh_pk [] [0,1,2,3,4,5,30000001,30000002,30000003,30000004,30000005] hB e e e e)) e e
 ·refine OpsD.gp e g269 e (.gp e g269 e (.gp e g269 e (.gp e g269 e (.gp e g269 e (.gp e g269 e (.gp e g269 e (.gp e g269 e (.z 5288 (.pkF e g269 e) e e (.p e (.askO (x := .t 19) e h (fun g270 h => ?_) (fun g270 h => ?_)))))))))))
  ·refine OpsD.gn e g270 (.gn e g270 (.gn e g270 (.gn e g270 (.gn e g270 (.gn e g270 (.z 5416 (.pkT e g270 e) e e (.nil ⟨by kernel_rfl,?_⟩)))))))
   refine Run.condT e e (.ret ?_)
   obtain rfl := someO h
   exact Ends.mkG (.inl e) e (Gh.trans (Gh.trans (gh_prn [] [0,1,2,3,4,5] hB e) (gh_mvE [] [1,2,3,4,5] hB e e)) (gh_pk [] [0,1,2,3,4,5,30000001,30000002,30000003,30000004,30000005] hB e e e e)) e e
  ·refine OpsD.gp e g270 e (.gp e g270 e (.gp e g270 e (.gp e g270 e (.gp e g270 e (.gp e g270 e (.z 5416 (.pkF e g270 e) e e (.nil ⟨by kernel_rfl,?_⟩)))))))
   refine Run.condO e h (fun g271 h => ?_) (fun g271 h => ?_)
   ·refine Run.ret ?_
    obtain rfl := someO h
    exact Ends.mkG (.inl e) e (Gh.trans (Gh.trans (gh_prn [] [0,1,2,3,4,5] hB e) (gh_mvE [] [1,2,3,4,5] hB e e)) (gh_pk [] [0,1,2,3,4,5,30000001,30000002,30000003,30000004,30000005] hB e e e e)) e e
   ·refine Run.skip (.so hm (.z 9192 (Ev.bsW (ys := ([] : List Int)) (f := encI) e .nil e e e e e) e e (.p e (.nil (.seqO h (fun v345 => [(0,.ptr 0 0),(4,.sl 6 3 0 v345.length)]) (fun (v345 : (List Int)) => [(0,.box [VI x1.n.Id,VI x1.n.Term,VI x1.n.Vote,VI x1.n.Role,VI x1.n.Lead,.sl 1 3 0 x1.n.Conf.length,VI x1.n.Log.Start,VI x1.n.Log.StartTerm,.sl 2 40 0 x1.n.Log.Entries.length,VI x1.n.Commit,VI x1.n.Clock,VI x1.n.Limit,.sl 3 3 0 x1.n.Votes.length,.sl 4 98 0 x1.n.Peers.length,.sl 5 32 0 x1.told.length]),(1,.vec 3 (x1.n.Conf.map encI)),(2,.vec 40 (x1.n.Log.Entries.map eE)),(3,.vec 3 (x1.n.Votes.map encI)),(4,.vec 98 (x1.n.Peers.map eP)),(5,.vec 32 (x1.told.map (eM false))),(6,.vec 3 (v345.map encI))]) (fun h => ?_) (fun v345 h => ?_))))))
    ·refine Run.so hm (.p e (.nil (.block ?_)))
     obtain ⟨res396,h,hk396⟩ := bindO h
     refine Run.loop (n := N) (fun m396 fr σ => ∃ (x346 : Int),∃ (x374 : (List Int)),s_l16TellVote_l1 N x1 x2 m396 x346 x374 = some res396 ∧ fr = [(0,.ptr 0 0),(3,.ptr 6 0),(4,.sl 7 3 0 x374.length),(5,VI x346)] ∧ σ = [(0,.box [VI x1.n.Id,VI x1.n.Term,VI x1.n.Vote,VI x1.n.Role,VI x1.n.Lead,.sl 1 3 0 x1.n.Conf.length,VI x1.n.Log.Start,VI x1.n.Log.StartTerm,.sl 2 40 0 x1.n.Log.Entries.length,VI x1.n.Commit,VI x1.n.Clock,VI x1.n.Limit,.sl 3 3 0 x1.n.Votes.length,.sl 4 98 0 x1.n.Peers.length,.sl 5 32 0 x1.told.length]),(1,.vec 3 (x1.n.Conf.map encI)),(2,.vec 40 (x1.n.Log.Entries.map eE)),(3,.vec 3 (x1.n.Votes.map encI)),(4,.vec 98 (x1.n.Peers.map eP)),(5,.vec 32 (x1.told.map (eM false))),(6,.box [VI x2.Kind,VI x2.From,VI x2.To,VI x2.Term,VI x2.Index,VI x2.LogTerm,VI x2.Commit,VB x2.Ok,RO 40 (x2.Entries.map eE),RO 3 (x2.Conf.map encI),VS x2.Data,VB x2.Last]),(7,.vec 3 (x374.map encI))]) (gh_pk [0,3,4,5] [0,1,2,3,4,5,1000,9192] hB e e e e) ⟨_,_,h,e,e⟩ ?_
     rintro m396 fr σ ⟨x346,x374,h,rfl,rfl⟩
     obtain _ | m396 := m396
     ·rw [s_l16TellVote_l1] at h; cases h
     rw [s_l16TellVote_l1] at h
     refine Run.seq (.so hm (.p2 e e (.nil (.condO e h (fun g399 h => ?_) (fun g399 h => ?_)))))
     ·refine Run.skip (.seqO h (fun v409 => [(0,.ptr 0 0),(3,.ptr 6 0),(4,.sl 7 3 0 v409.length),(5,VI x346)]) (fun (v409 : (List Int)) => [(0,.box [VI x1.n.Id,VI x1.n.Term,VI x1.n.Vote,VI x1.n.Role,VI x1.n.Lead,.sl 1 3 0 x1.n.Conf.length,VI x1.n.Log.Start,VI x1.n.Log.StartTerm,.sl 2 40 0 x1.n.Log.Entries.length,VI x1.n.Commit,VI x1.n.Clock,VI x1.n.Limit,.sl 3 3 0 x1.n.Votes.length,.sl 4 98 0 x1.n.Peers.length,.sl 5 32 0 x1.told.length]),(1,.vec 3 (x1.n.Conf.map encI)),(2,.vec 40 (x1.n.Log.Entries.map eE)),(3,.vec 3 (x1.n.Votes.map encI)),(4,.vec 98 (x1.n.Peers.map eP)),(5,.vec 32 (x1.told.map (eM false))),(6,.box [VI x2.Kind,VI x2.From,VI x2.To,VI x2.Term,VI x2.Index,VI x2.LogTerm,VI x2.Commit,VB x2.Ok,RO 40 (x2.Entries.map eE),RO 3 (x2.Conf.map encI),VS x2.Data,VB x2.Last]),(7,.vec 3 (v409.map encI))]) (fun h => ?_) (fun v409 h => ?_))
      ·refine Run.block (.so hm (.p3 e e e (.p2 e e (.askO (x := .t 36) e h (fun g412 h => ?_) (fun g412 h => ?_)))))
       ·refine Ops.gn e g412 (.gn e g412 (.gn e g412 (.gn e g412 (.gn e g412 (.gn e g412 (.gn e g412 (.z 25768 (.pkT e g412 e) e e (.nil (.condT e e (.ops hm (.p2 e e (.z 29704 (Ev.bsW (ys := ([x346] : List Int)) (f := encI) e (.d1 .nil) e e e e e) e e ?_))))))))))))
        obtain ⟨x414,hx414,h⟩ := bindO h
        exact Ops.z 29720 (Ev.apW (f := encI) (ontoW e e e) (addsW e e e (fun _ => e)) e bt3 e hx414) e e (.p e (.nil (⟨_,_,(gh_pk [0,3,4,5] [0,1,2,3,4,5,6,29720] hB e e e e),_,h,e,e⟩)))
       ·refine Ops.gp e g412 e (.gp e g412 e (.gp e g412 e (.gp e g412 e (.gp e g412 e (.gp e g412 e ?_)))))
        obtain ⟨y415,hy415,h⟩ := bindO h
        refine Ops.gs (s := 25752) e g412 (Ev.call [] [3] 0 (sem_s_l09In _ _ _ _ hy415) e e (.cons (.borrow e (by decide) (lendW (fun _ => e) _ e)) (.d1 .nil)) e (.inr ⟨e,ownL_root trivial⟩) e e) e e ?_
        refine Ops.z 25768 (.pkF e g412 e) e e (.nil (.condO e h (fun g416 h => ?_) (fun g416 h => ?_)))
        ·refine Run.ops hm (.p2 e e (.z 29704 (Ev.bsW (ys := ([x346] : List Int)) (f := encI) e (.d1 .nil) e e e e e) e e ?_))
         obtain ⟨x418,hx418,h⟩ := bindO h
         exact Ops.z 29720 (Ev.apW (f := encI) (ontoW e e e) (addsW e e e (fun _ => e)) e bt3 e hx418) e e (.p e (.nil (⟨_,_,(gh_pk [0,3,4,5] [0,1,2,3,4,5,6,29720] hB e e e e),_,h,e,e⟩)))
        ·exact Run.skip (⟨_,_,(gh_pk [0,3,4,5] [0,1,2,3,4,5,6,7] hB e e e e),_,h,e,e⟩)
      ·exact Run.ops hm (.p3 e e e (.nil (⟨m396,Nat.lt_succ_self m396,_,_,(gh_pk [0,3,4,5] [0,1,2,3,4,5,6,7] hB e e e e),_,_,h,e,e⟩)))
     ·refine Run.exit ?_
      obtain rfl := someO h
      have h := hk396
      exact ⟨_,_,(gh_pk [0,4] [0,1,2,3,4,5,7] hB e e e e),_,h,e,e⟩
    ·refine Run.so hm (.p3 e e e (.p2 e e (.y 33848 (.sto e e e e e e) e e (.nil (.so hm (.p e ?_))))))
     obtain ⟨y420,hy420,h⟩ := bindO h
     refine Ops.z 37880 (Ev.call [0,1,2,6,4,5] [] 0 (sem_s_l16Elected_i1 _ _ _ hy420) e e (.cons (.ptr e) .nil) e (.inl e) e e) e e (.nil (.condO e h (fun g421 h => ?_) (fun g421 h => ?_)))
     ·refine Run.ops hm (.p e ?_)
      obtain ⟨y423,hy423,h⟩ := bindO h
      refine Ops.z 41976 (Ev.call [0,1,2,6,4,5] [] 5 (sem_s_l16Lead _ _ _ hy423) e e (.cons (.ptr e) .nil) e (.inl e) e e) e e (.nil ?_)
      obtain rfl := someO h
      exact Ends.mkG (.inr e) e (Gh.trans (Gh.trans (gh_prn [] [0,1,2,3,4,5,41976,41977,41978,41979,41980] hB e) (gh_mvE [] [3] hB e e)) (gh_pk [] [0,1,2,3,4,5,41976,41977,41978,41979,41980] hB e e e e)) e e
     ·refine Run.skip ?_
      obtain rfl := someO h
      exact Ends.mkG (.inr e) e (Gh.trans (Gh.trans (gh_prn [] [0,1,2,3,4,5,6] hB e) (gh_mvE [] [1,2,3,4,5] hB e e)) (gh_pk [] [0,1,2,3,4,5,30000001,30000002,6,30000004,30000005] hB e e e e)) e e
def s_l16Refuse (N : Nat) (x1 : TR) (x2 : Message) (x3 : Int) : Option (TR) :=
 (s_l16Tell N x1 (Message.mk 4 0 x2.From 0 x3 0 0 false ([]) ([]) (⟨#[]⟩ : ByteArray) false)).bind fun y103 =>
 some (TR.mk (Node.mk y103.n.Id y103.n.Term y103.n.Vote y103.n.Role y103.n.Lead x1.n.Conf (Log.mk y103.n.Log.Start y103.n.Log.StartTerm x1.n.Log.Entries) y103.n.Commit y103.n.Clock y103.n.Limit x1.n.Votes x1.n.Peers) y103.told)
theorem sem_s_l16Refuse (N : Nat) (x1 : TR) (x2 : Message) (x3 : Int) (r : TR) (h : s_l16Refuse N x1 x2 x3 = some r) : Says Tryz.prog 81 [.ptr 0 0,.agg [VI x2.Kind,VI x2.From,VI x2.To,VI x2.Term,VI x2.Index,VI x2.LogTerm,VI x2.Commit,VB x2.Ok,RO 40 (x2.Entries.map eE),RO 3 (x2.Conf.map encI),VS x2.Data,VB x2.Last],VI x3] 6 [(0,.box [VI x1.n.Id,VI x1.n.Term,VI x1.n.Vote,VI x1.n.Role,VI x1.n.Lead,.sl 1 3 0 x1.n.Conf.length,VI x1.n.Log.Start,VI x1.n.Log.StartTerm,.sl 2 40 0 x1.n.Log.Entries.length,VI x1.n.Commit,VI x1.n.Clock,VI x1.n.Limit,.sl 3 3 0 x1.n.Votes.length,.sl 4 98 0 x1.n.Peers.length,.sl 5 32 0 x1.told.length]),(1,.vec 3 (x1.n.Conf.map encI)),(2,.vec 40 (x1.n.Log.Entries.map eE)),(3,.vec 3 (x1.n.Votes.map encI)),(4,.vec 98 (x1.n.Peers.map eP)),(5,.vec 32 (x1.told.map (eM false)))] (.tup []) [(0,.box [VI r.n.Id,VI r.n.Term,VI r.n.Vote,VI r.n.Role,VI r.n.Lead,.sl 1 3 0 x1.n.Conf.length,VI r.n.Log.Start,VI r.n.Log.StartTerm,.sl 2 40 0 x1.n.Log.Entries.length,VI r.n.Commit,VI r.n.Clock,VI r.n.Limit,.sl 3 3 0 x1.n.Votes.length,.sl 4 98 0 x1.n.Peers.length,.sl 6 32 0 r.told.length]),(1,.vec 3 (x1.n.Conf.map encI)),(2,.vec 40 (x1.n.Log.Entries.map eE)),(3,.vec 3 (x1.n.Votes.map encI)),(4,.vec 98 (x1.n.Peers.map eP)),(5,.gone),(6,.vec 32 (r.told.map (eM false)))] := by
 unfold s_l16Refuse at h
 refine Says.of_norm e Tryz.call81 e fun B hB => ?_
 have hm : B.m ≤ 1000 := by omega
 refine Run.so hm (.z 1000 (.bx e e) e e (.nil (.ops hm (.p3 e e e (.p e (.z 5160 (.bd e e) e e ?_))))))
 obtain ⟨y103,hy103,h⟩ := bindO h
 refine Ops.z 5176 (Ev.call [0,1,2,3,4,5] [] 1 (sem_s_l16Tell _ _ _ _ hy103) e e (.cons (.ptr e) (.cons (.agg (.d4 (.d4 (.cons (.nil _ _) (.cons (.nil _ _) (.d2 .nil)))))) .nil)) e (.inl e) e e) e e (.nil ?_)
 obtain rfl := someO h
 exact Ends.mkG (.inr e) e (gh_pk [] [0,1,2,3,4,5,5176] hB e e e e) e e
def s_l16AskAppend_l1 (N : Nat) (x1 : TR) (y368 : TR) (v377 : Int × Int × (List Entry)) : Nat → Int → Option (Int)
 | 0,_ => none
 | m + 1,x471 =>
 (if (decide (x471 < (v377.2.2.length : Int))) = true then
 (s_LogTerm N (Log.mk y368.n.Log.Start y368.n.Log.StartTerm x1.n.Log.Entries) (w64 ((w64 (v377.1 + 1)) + x471))).bind fun y528 =>
 (at? v377.2.2 x471).bind fun x529 =>
 (if (y528 == x529.Term) = true then
 s_l16AskAppend_l1 N x1 y368 v377 m (w64 (x471 + 1))
 else
 some x471)
 else
 some x471)
def s_l16AskAppend_l1_r (N : Nat) (x1 : TR) (y368 : TR) (v377 : Int × Int × (List Entry)) : (List Entry) → Int → Option (Int)
 | [],x471 =>
 some x471
 | hd :: tl,x471 =>
 (s_LogTerm N (Log.mk y368.n.Log.Start y368.n.Log.StartTerm x1.n.Log.Entries) (w64 ((w64 (v377.1 + 1)) + x471))).bind fun y528 =>
 (some hd).bind fun x529 =>
 (if (y528 == x529.Term) = true then
 s_l16AskAppend_l1_r N x1 y368 v377 tl (w64 (x471 + 1))
 else
 some x471)
theorem s_l16AskAppend_l1_rng (N : Nat) (x1 : TR) (y368 : TR) (v377 : Int × Int × (List Entry)) (hx : v377.2.2.length ≤ 1099511627776) : ∀ (d k m : Nat),v377.2.2.length = k + d → d < m → s_l16AskAppend_l1 N x1 y368 v377 m (k : Int) = s_l16AskAppend_l1_r N x1 y368 v377 (v377.2.2.drop k) (k : Int) := by
 intro d
 induction d with
 | zero =>
  intro k m hd hm
  obtain ⟨m,rfl⟩ : ∃ q,m = q + 1 := ⟨m - 1,by omega⟩
  rw [s_l16AskAppend_l1,if_neg (by simp; omega),List.drop_eq_nil_of_le (by omega),s_l16AskAppend_l1_r]
 | succ d ih =>
  intro k m hd hm
  obtain ⟨m,rfl⟩ : ∃ q,m = q + 1 := ⟨m - 1,by omega⟩
  have hk : k < v377.2.2.length := by omega
  rw [s_l16AskAppend_l1,if_pos (by simp; omega),List.drop_eq_getElem_cons hk,s_l16AskAppend_l1_r]
  have h1 := at_lt hk
  have h2 := w64_succ (k := k) (by omega)
  have h3 := ih (k + 1) m
  simp only [h1,h2,h3 (by omega) (by omega)]
theorem s_l16AskAppend_l1_eq {N : Nat} (x1 : TR) (y368 : TR) (v377 : Int × Int × (List Entry)) (hx : v377.2.2.length ≤ 1099511627776) (hN : v377.2.2.length < N) : s_l16AskAppend_l1 N x1 y368 v377 N 0 = s_l16AskAppend_l1_r N x1 y368 v377 v377.2.2 0 := s_l16AskAppend_l1_rng N x1 y368 v377 hx v377.2.2.length 0 N (by omega) hN
def s_l16AskAppend (N : Nat) (x1 : TR) (x2 : Message) : Option (TR) :=
 (s_l12Last N x1.n.Log).bind fun y358 =>
 (if (decide (x2.Term < x1.n.Term)) = true then
 (s_l16Refuse N x1 x2 0).bind fun y364 =>
 some (TR.mk (Node.mk y364.n.Id y364.n.Term y364.n.Vote y364.n.Role y364.n.Lead x1.n.Conf (Log.mk y364.n.Log.Start y364.n.Log.StartTerm x1.n.Log.Entries) y364.n.Commit y364.n.Clock y364.n.Limit x1.n.Votes x1.n.Peers) y364.told)
 else
 (s_l16Follow N x1 x2.From).bind fun y368 =>
 joinP (fun (v377 : Int × Int × (List Entry)) =>
 (s_LogTerm N (Log.mk y368.n.Log.Start y368.n.Log.StartTerm x1.n.Log.Entries) v377.1).bind fun y398 =>
 (if (y398 != v377.2.1) = true then
 joinP (fun (v401 : Int) =>
 joinP (fun (v404 : Int) =>
 (s_l16Refuse N (TR.mk (Node.mk y368.n.Id y368.n.Term y368.n.Vote y368.n.Role y368.n.Lead x1.n.Conf (Log.mk y368.n.Log.Start y368.n.Log.StartTerm x1.n.Log.Entries) y368.n.Commit 0 y368.n.Limit y368.n.Votes y368.n.Peers) x1.told) (Message.mk x2.Kind x2.From x2.To x2.Term v377.1 v377.2.1 x2.Commit x2.Ok v377.2.2 x2.Conf x2.Data x2.Last) v404).bind fun y407 =>
 some (TR.mk (Node.mk y407.n.Id y407.n.Term y407.n.Vote y407.n.Role y407.n.Lead x1.n.Conf (Log.mk y407.n.Log.Start y407.n.Log.StartTerm x1.n.Log.Entries) y407.n.Commit y407.n.Clock y407.n.Limit y368.n.Votes y368.n.Peers) y407.told)) fun j404 =>
 (if (decide (v401 > y358)) = true then
 j404 y358
 else
 j404 v401)) fun j401 =>
 (if (decide ((w64 (v377.1 - 1)) < 0)) = true then
 j401 0
 else
 j401 (w64 (v377.1 - 1)))
 else
 joinP (fun (v469 : Int) =>
 joinP (fun (v566 : (List Entry)) =>
 joinP (fun (v603 : Int) =>
 joinP (fun (v606 : Int) =>
 (s_l16Tell N (TR.mk (Node.mk y368.n.Id y368.n.Term y368.n.Vote y368.n.Role y368.n.Lead x1.n.Conf (Log.mk y368.n.Log.Start y368.n.Log.StartTerm v566) v606 0 y368.n.Limit y368.n.Votes y368.n.Peers) x1.told) (Message.mk 4 0 x2.From 0 (w64 (v377.1 + (v377.2.2.length : Int))) 0 0 true ([]) ([]) (⟨#[]⟩ : ByteArray) false)).bind fun y609 =>
 some (TR.mk (Node.mk y609.n.Id y609.n.Term y609.n.Vote y609.n.Role y609.n.Lead x1.n.Conf (Log.mk y609.n.Log.Start y609.n.Log.StartTerm v566) y609.n.Commit y609.n.Clock y609.n.Limit y368.n.Votes y368.n.Peers) y609.told)) fun j606 =>
 (if (decide (v603 > y368.n.Commit)) = true then
 j606 v603
 else
 j606 y368.n.Commit)) fun j603 =>
 (if (decide (x2.Commit > (w64 (v377.1 + (v377.2.2.length : Int))))) = true then
 j603 (w64 (v377.1 + (v377.2.2.length : Int)))
 else
 j603 x2.Commit)) fun j566 =>
 (if (decide (v469 < (v377.2.2.length : Int))) = true then
 (take? x1.n.Log.Entries (w64 ((w64 (v377.1 + v469)) - y368.n.Log.Start))).bind fun x580 =>
 (cat? ([] : List Entry) (x1.n.Log.Entries.take ((w64 ((w64 (v377.1 + v469)) - y368.n.Log.Start)).toNat))).bind fun x581 =>
 (drop? v377.2.2 v469).bind fun x582 =>
 (cat? x581 x582).bind fun x583 =>
 (if (decide ((w64 (v377.1 + v469)) < y368.n.Commit)) = true then
 (s_l16Refuse N (TR.mk (Node.mk y368.n.Id y368.n.Term y368.n.Vote y368.n.Role y368.n.Lead x1.n.Conf (Log.mk y368.n.Log.Start y368.n.Log.StartTerm x1.n.Log.Entries) y368.n.Commit 0 y368.n.Limit y368.n.Votes y368.n.Peers) x1.told) (Message.mk x2.Kind x2.From x2.To x2.Term v377.1 v377.2.1 x2.Commit x2.Ok v377.2.2 x2.Conf x2.Data x2.Last) y358).bind fun y597 =>
 some (TR.mk (Node.mk y597.n.Id y597.n.Term y597.n.Vote y597.n.Role y597.n.Lead x1.n.Conf (Log.mk y597.n.Log.Start y597.n.Log.StartTerm x1.n.Log.Entries) y597.n.Commit y597.n.Clock y597.n.Limit y368.n.Votes y368.n.Peers) y597.told)
 else
 (s_LogOk N (Log.mk y368.n.Log.Start y368.n.Log.StartTerm x583)).bind fun y598 =>
 (if (!y598) = true then
 (s_l16Refuse N (TR.mk (Node.mk y368.n.Id y368.n.Term y368.n.Vote y368.n.Role y368.n.Lead x1.n.Conf (Log.mk y368.n.Log.Start y368.n.Log.StartTerm x1.n.Log.Entries) y368.n.Commit 0 y368.n.Limit y368.n.Votes y368.n.Peers) x1.told) (Message.mk x2.Kind x2.From x2.To x2.Term v377.1 v377.2.1 x2.Commit x2.Ok v377.2.2 x2.Conf x2.Data x2.Last) y358).bind fun y601 =>
 some (TR.mk (Node.mk y601.n.Id y601.n.Term y601.n.Vote y601.n.Role y601.n.Lead x1.n.Conf (Log.mk y601.n.Log.Start y601.n.Log.StartTerm x1.n.Log.Entries) y601.n.Commit y601.n.Clock y601.n.Limit y368.n.Votes y368.n.Peers) y601.told)
 else
 j566 x583))
 else
 j566 x1.n.Log.Entries)) fun j469 =>
 (s_l16AskAppend_l1 N x1 y368 v377 N 0).bind (fun v515 => j469 v515))) fun j377 =>
 (if (decide (x2.Index < y368.n.Log.Start)) = true then
 joinP (fun (v380 : Int) =>
 (drop? x2.Entries v380).bind fun x385 =>
 j377 (y368.n.Log.Start,y368.n.Log.StartTerm,x385)) fun j380 =>
 (if (decide ((w64 (y368.n.Log.Start - x2.Index)) > (x2.Entries.length : Int))) = true then
 j380 (x2.Entries.length : Int)
 else
 j380 (w64 (y368.n.Log.Start - x2.Index)))
 else
 j377 (x2.Index,x2.LogTerm,x2.Entries)))
theorem sem_s_l16AskAppend (N : Nat) (x1 : TR) (x2 : Message) (r : TR) (h : s_l16AskAppend N x1 x2 = some r) : Says Tryz.prog 35 [.ptr 0 0,.agg [VI x2.Kind,VI x2.From,VI x2.To,VI x2.Term,VI x2.Index,VI x2.LogTerm,VI x2.Commit,VB x2.Ok,RO 40 (x2.Entries.map eE),RO 3 (x2.Conf.map encI),VS x2.Data,VB x2.Last]] 6 [(0,.box [VI x1.n.Id,VI x1.n.Term,VI x1.n.Vote,VI x1.n.Role,VI x1.n.Lead,.sl 1 3 0 x1.n.Conf.length,VI x1.n.Log.Start,VI x1.n.Log.StartTerm,.sl 2 40 0 x1.n.Log.Entries.length,VI x1.n.Commit,VI x1.n.Clock,VI x1.n.Limit,.sl 3 3 0 x1.n.Votes.length,.sl 4 98 0 x1.n.Peers.length,.sl 5 32 0 x1.told.length]),(1,.vec 3 (x1.n.Conf.map encI)),(2,.vec 40 (x1.n.Log.Entries.map eE)),(3,.vec 3 (x1.n.Votes.map encI)),(4,.vec 98 (x1.n.Peers.map eP)),(5,.vec 32 (x1.told.map (eM false)))] (.tup []) [(0,.box [VI r.n.Id,VI r.n.Term,VI r.n.Vote,VI r.n.Role,VI r.n.Lead,.sl 6 3 0 r.n.Conf.length,VI r.n.Log.Start,VI r.n.Log.StartTerm,.sl 7 40 0 r.n.Log.Entries.length,VI r.n.Commit,VI r.n.Clock,VI r.n.Limit,.sl 8 3 0 r.n.Votes.length,.sl 9 98 0 r.n.Peers.length,.sl 10 32 0 r.told.length]),(1,.gone),(2,.gone),(3,.gone),(4,.gone),(5,.gone),(6,.vec 3 (r.n.Conf.map encI)),(7,.vec 40 (r.n.Log.Entries.map eE)),(8,.vec 3 (r.n.Votes.map encI)),(9,.vec 98 (r.n.Peers.map eP)),(10,.vec 32 (r.told.map (eM false)))] := by
 unfold s_l16AskAppend at h
 refine Says.of_norm e Tryz.call35 e fun B hB => ?_
 have hm : B.m ≤ 1000 := by omega
 refine Run.so hm (.z 1000 (.bx e e) e e (.nil (.so hm (.p3 e e e (.p2 e e ?_)))))
 obtain ⟨y358,hy358,h⟩ := bindO h
 refine Ops.z 5176 (Ev.call [] [2] 0 (sem_s_l12Last _ _ _ hy358) e e (.cons (.agg (.d2 (.cons (.borrow e (by decide) (lendW (fun _ => e) _ e)) .nil))) .nil) e (.inr ⟨e,ownL_root trivial⟩) e e) e e ?_
 refine Ops.p e (.nil (.seq (.seq (.draw hm hmix (.p e (.p e (.p e (.p e (.p e (.p e (.p e (.p e (.nil ⟨by kernel_rfl,?_⟩)))))))))))))
 refine Run.condO e h (fun g362 h => ?_) (fun g362 h => ?_)
 ·refine Run.so hm (.p2 e e ?_)
  obtain ⟨y364,hy364,h⟩ := bindO h
  refine Ops.z 13320 (Ev.call [0,1,2,3,4,5] [] 1 (sem_s_l16Refuse _ _ _ _ _ hy364) e e (.cons (.ptr e) (.cons (.agg (.d4 (.d4 (.d4 .nil)))) (.d1 .nil))) e (.inl e) e e) e e (.nil (.ret ?_))
  obtain rfl := someO h
  exact Ends.mkG (.inl e) e (Gh.trans (Gh.trans (gh_prn [] [0,1,2,3,4,5,13320] hB e) (gh_mvE [] [1,2,3,4] hB e e)) (gh_pk [] [0,1,2,3,4,5,30000001,30000002,30000003,30000004,13320] hB e e e e)) e e
 ·refine Run.skip (.so hm (.p3 e e e ?_))
  obtain ⟨y368,hy368,h⟩ := bindO h
  refine Ops.z 17432 (Ev.call [0,1,2,3,4,5] [] 2 (sem_s_l16Follow _ _ _ _ hy368) e e (.cons (.ptr e) (.d1 .nil)) e (.inl e) e e) e e (.nil (.so hm (.p3 e e e (.p e (.y 21544 (.sto e e e e e e) e e (.nil (.so hm (.p3 e e e (.p2 e e (.z 25656 (.al e e) e e (.y 25672 (.sto e e e e e e) e e (.nil (.seqO h (fun v377 => [(0,.ptr 0 0),(3,.ptr 6 0),(4,VI y358),(5,.ptr 7 0)]) (fun (v377 : Int × Int × (List Entry)) => [(0,.box [VI y368.n.Id,VI y368.n.Term,VI y368.n.Vote,VI y368.n.Role,VI y368.n.Lead,.sl 1 3 0 x1.n.Conf.length,VI y368.n.Log.Start,VI y368.n.Log.StartTerm,.sl 2 40 0 x1.n.Log.Entries.length,VI y368.n.Commit,VI 0,VI y368.n.Limit,.sl 8 3 0 y368.n.Votes.length,.sl 9 98 0 y368.n.Peers.length,.sl 5 32 0 x1.told.length]),(1,.vec 3 (x1.n.Conf.map encI)),(2,.vec 40 (x1.n.Log.Entries.map eE)),(3,.gone),(4,.gone),(5,.vec 32 (x1.told.map (eM false))),(6,.box [VI x2.Kind,VI x2.From,VI x2.To,VI x2.Term,VI v377.1,VI v377.2.1,VI x2.Commit,VB x2.Ok,RO 40 (v377.2.2.map eE),RO 3 (x2.Conf.map encI),VS x2.Data,VB x2.Last]),(7,.box [VI y368.n.Log.Start,VI y368.n.Log.StartTerm,.sl 2 40 0 x1.n.Log.Entries.length]),(8,.vec 3 (y368.n.Votes.map encI)),(9,.vec 98 (y368.n.Peers.map eP))]) (fun h => ?_) (fun v377 h => ?_))))))))))))))
  ·refine Run.so hm (.p3 e e e (.p2 e e (.nil (.condO e h (fun g378 h => ?_) (fun g378 h => ?_)))))
   ·refine Run.so hm (.p3 e e e (.p3 e e e (.nil (.seqO h (fun v380 => [(0,.ptr 0 0),(3,.ptr 6 0),(4,VI y358),(5,.ptr 7 0),(6,VI v380)]) (fun (v380 : Int) => [(0,.box [VI y368.n.Id,VI y368.n.Term,VI y368.n.Vote,VI y368.n.Role,VI y368.n.Lead,.sl 1 3 0 x1.n.Conf.length,VI y368.n.Log.Start,VI y368.n.Log.StartTerm,.sl 2 40 0 x1.n.Log.Entries.length,VI y368.n.Commit,VI 0,VI y368.n.Limit,.sl 8 3 0 y368.n.Votes.length,.sl 9 98 0 y368.n.Peers.length,.sl 5 32 0 x1.told.length]),(1,.vec 3 (x1.n.Conf.map encI)),(2,.vec 40 (x1.n.Log.Entries.map eE)),(3,.gone),(4,.gone),(5,.vec 32 (x1.told.map (eM false))),(6,.box [VI x2.Kind,VI x2.From,VI x2.To,VI x2.Term,VI x2.Index,VI x2.LogTerm,VI x2.Commit,VB x2.Ok,RO 40 (x2.Entries.map eE),RO 3 (x2.Conf.map encI),VS x2.Data,VB x2.Last]),(7,.box [VI y368.n.Log.Start,VI y368.n.Log.StartTerm,.sl 2 40 0 x1.n.Log.Entries.length]),(8,.vec 3 (y368.n.Votes.map encI)),(9,.vec 98 (y368.n.Peers.map eP))]) (fun h => ?_) (fun v380 h => ?_)))))
    ·refine Run.so hm (.p3 e e e (.z 37912 (Ev.lnF e) e e (.p e (.nil (.condO e h (fun g381 h => ?_) (fun g381 h => ?_))))))
     ·exact Run.ops hm (.p2 e e (.z 41992 (Ev.lnF e) e e (.p e (.nil (⟨_,_,(gh_pk [0,3,4,5,6] [0,1,2,3,4,5,1000,25656,17432,17433] hB e e e e),_,h,e,e⟩)))))
     ·exact Run.skip (⟨_,_,(gh_pk [0,3,4,5,6] [0,1,2,3,4,5,1000,25656,17432,17433] hB e e e e),_,h,e,e⟩)
    ·refine Run.so hm (.p3 e e e ?_)
     obtain ⟨x385,hx385,h⟩ := bindO h
     exact Ops.z 46104 (Ev.slFl e e hx385) e e (.p e (.y 46136 (.sto e e e e e e) e e (.nil (.so hm (.p3 e e e (.y 50200 (.sto e e e e e e) e e (.nil (.ops hm (.p3 e e e (.y 54296 (.sto e e e e e e) e e (.nil (⟨_,_,(gh_pk [0,3,4,5] [0,1,2,3,4,5,6,7,8,9] hB e e e e),_,h,e,e⟩))))))))))))
   ·exact Run.skip (⟨_,_,(gh_pk [0,3,4,5] [0,1,2,3,4,5,1000,25656,17432,17433] hB e e e e),_,h,e,e⟩)
  ·refine Run.seq (.seq (.draw hm hmix (.p e (.p e (.p e ?_)))))
   obtain ⟨y398,hy398,h⟩ := bindO h
   refine OpsD.z 58392 (Ev.call [] [2] 0 (sem_s_LogTerm _ _ _ _ hy398) e e (.cons (.agg (.d2 (.cons (.borrow e (by decide) (lendW (fun _ => e) _ e)) .nil))) (.d1 .nil)) e (.inr ⟨e,ownL_root trivial⟩) e e) e e ?_
   refine OpsD.p e (.p e (.p e (.nil ⟨by kernel_rfl,?_⟩)))
   refine Run.condO e h (fun g399 h => ?_) (fun g399 h => ?_)
   ·refine Run.so hm (.p3 e e e (.p e (.nil (.seqO h (fun v401 => [(0,.ptr 0 0),(3,.ptr 6 0),(4,VI y358),(7,VI v401)]) (fun (v401 : Int) => [(0,.box [VI y368.n.Id,VI y368.n.Term,VI y368.n.Vote,VI y368.n.Role,VI y368.n.Lead,.sl 1 3 0 x1.n.Conf.length,VI y368.n.Log.Start,VI y368.n.Log.StartTerm,.sl 2 40 0 x1.n.Log.Entries.length,VI y368.n.Commit,VI 0,VI y368.n.Limit,.sl 7 3 0 y368.n.Votes.length,.sl 8 98 0 y368.n.Peers.length,.sl 5 32 0 x1.told.length]),(1,.vec 3 (x1.n.Conf.map encI)),(2,.vec 40 (x1.n.Log.Entries.map eE)),(3,.gone),(4,.gone),(5,.vec 32 (x1.told.map (eM false))),(6,.box [VI x2.Kind,VI x2.From,VI x2.To,VI x2.Term,VI v377.1,VI v377.2.1,VI x2.Commit,VB x2.Ok,RO 40 (v377.2.2.map eE),RO 3 (x2.Conf.map encI),VS x2.Data,VB x2.Last]),(7,.vec 3 (y368.n.Votes.map encI)),(8,.vec 98 (y368.n.Peers.map eP))]) (fun h => ?_) (fun v401 h => ?_)))))
    ·refine Run.so hm (.p2 e e (.nil (.condO e h (fun g402 h => ?_) (fun g402 h => ?_))))
     ·exact Run.ops hm (.p e (.nil (⟨_,_,(gh_pk [0,3,4,7] [0,1,2,3,4,5,6,8,9] hB e e e e),_,h,e,e⟩)))
     ·exact Run.skip (⟨_,_,(gh_pk [0,3,4,7] [0,1,2,3,4,5,6,8,9] hB e e e e),_,h,e,e⟩)
    ·refine Run.seqO h (fun v404 => [(0,.ptr 0 0),(3,.ptr 6 0),(7,VI v404)]) (fun (v404 : Int) => [(0,.box [VI y368.n.Id,VI y368.n.Term,VI y368.n.Vote,VI y368.n.Role,VI y368.n.Lead,.sl 1 3 0 x1.n.Conf.length,VI y368.n.Log.Start,VI y368.n.Log.StartTerm,.sl 2 40 0 x1.n.Log.Entries.length,VI y368.n.Commit,VI 0,VI y368.n.Limit,.sl 7 3 0 y368.n.Votes.length,.sl 8 98 0 y368.n.Peers.length,.sl 5 32 0 x1.told.length]),(1,.vec 3 (x1.n.Conf.map encI)),(2,.vec 40 (x1.n.Log.Entries.map eE)),(3,.gone),(4,.gone),(5,.vec 32 (x1.told.map (eM false))),(6,.box [VI x2.Kind,VI x2.From,VI x2.To,VI x2.Term,VI v377.1,VI v377.2.1,VI x2.Commit,VB x2.Ok,RO 40 (v377.2.2.map eE),RO 3 (x2.Conf.map encI),VS x2.Data,VB x2.Last]),(7,.vec 3 (y368.n.Votes.map encI)),(8,.vec 98 (y368.n.Peers.map eP))]) (fun h => ?_) (fun v404 h => ?_)
     ·refine Run.so hm (.p3 e e e (.nil (.condO e h (fun g405 h => ?_) (fun g405 h => ?_))))
      ·exact Run.ops hm (.p2 e e (.nil (⟨_,_,(gh_pk [0,3,7] [0,1,2,3,4,5,6,7,8] hB e e e e),_,h,e,e⟩)))
      ·exact Run.skip (⟨_,_,(gh_pk [0,3,7] [0,1,2,3,4,5,6,7,8] hB e e e e),_,h,e,e⟩)
     ·refine Run.so hm (.p3 e e e ?_)
      obtain ⟨y407,hy407,h⟩ := bindO h
      refine Ops.z 82968 (Ev.call [0,1,2,7,8,5] [] 1 (sem_s_l16Refuse _ _ _ _ _ hy407) e e (.cons (.ptr e) (.cons (.agg (.d4 (.d4 (.d4 .nil)))) (.d1 .nil))) e (.inl e) e e) e e (.nil (.ret ?_))
      obtain rfl := someO h
      exact Ends.mkG (.inl e) e (Gh.trans (Gh.trans (gh_prn [] [0,1,2,3,4,5,7,8,82968] hB e) (gh_mvE [] [1,2] hB e e)) (gh_pk [] [0,1,2,3,4,5,30000001,30000002,7,8,82968] hB e e e e)) e e
   ·refine Run.skip (.so hm (.p e (.nil (.seqO h (fun v469 => [(0,.ptr 0 0),(3,.ptr 6 0),(4,VI y358),(5,.ptr 7 0),(8,VI v469)]) (fun (v469 : Int) => [(0,.box [VI y368.n.Id,VI y368.n.Term,VI y368.n.Vote,VI y368.n.Role,VI y368.n.Lead,.sl 1 3 0 x1.n.Conf.length,VI y368.n.Log.Start,VI y368.n.Log.StartTerm,.sl 2 40 0 x1.n.Log.Entries.length,VI y368.n.Commit,VI 0,VI y368.n.Limit,.sl 8 3 0 y368.n.Votes.length,.sl 9 98 0 y368.n.Peers.length,.sl 5 32 0 x1.told.length]),(1,.vec 3 (x1.n.Conf.map encI)),(2,.vec 40 (x1.n.Log.Entries.map eE)),(3,.gone),(4,.gone),(5,.vec 32 (x1.told.map (eM false))),(6,.box [VI x2.Kind,VI x2.From,VI x2.To,VI x2.Term,VI v377.1,VI v377.2.1,VI x2.Commit,VB x2.Ok,RO 40 (v377.2.2.map eE),RO 3 (x2.Conf.map encI),VS x2.Data,VB x2.Last]),(7,.box [VI y368.n.Log.Start,VI y368.n.Log.StartTerm,.sl 2 40 0 x1.n.Log.Entries.length]),(8,.vec 3 (y368.n.Votes.map encI)),(9,.vec 98 (y368.n.Peers.map eP))]) (fun h => ?_) (fun v469 h => ?_)))))
    ·refine Run.block ?_
     obtain ⟨res515,h,hk515⟩ := bindO h
     refine Run.loop (n := N) (fun m515 fr σ => ∃ (x471 : Int),s_l16AskAppend_l1 N x1 y368 v377 m515 x471 = some res515 ∧ fr = [(0,.ptr 0 0),(3,.ptr 6 0),(4,VI y358),(5,.ptr 7 0),(8,VI x471)] ∧ σ = [(0,.box [VI y368.n.Id,VI y368.n.Term,VI y368.n.Vote,VI y368.n.Role,VI y368.n.Lead,.sl 1 3 0 x1.n.Conf.length,VI y368.n.Log.Start,VI y368.n.Log.StartTerm,.sl 2 40 0 x1.n.Log.Entries.length,VI y368.n.Commit,VI 0,VI y368.n.Limit,.sl 8 3 0 y368.n.Votes.length,.sl 9 98 0 y368.n.Peers.length,.sl 5 32 0 x1.told.length]),(1,.vec 3 (x1.n.Conf.map encI)),(2,.vec 40 (x1.n.Log.Entries.map eE)),(3,.gone),(4,.gone),(5,.vec 32 (x1.told.map (eM false))),(6,.box [VI x2.Kind,VI x2.From,VI x2.To,VI x2.Term,VI v377.1,VI v377.2.1,VI x2.Commit,VB x2.Ok,RO 40 (v377.2.2.map eE),RO 3 (x2.Conf.map encI),VS x2.Data,VB x2.Last]),(7,.box [VI y368.n.Log.Start,VI y368.n.Log.StartTerm,.sl 2 40 0 x1.n.Log.Entries.length]),(8,.vec 3 (y368.n.Votes.map encI)),(9,.vec 98 (y368.n.Peers.map eP))]) (gh_pk [0,3,4,5,8] [0,1,2,3,4,5,6,7,8,9] hB e e e e) ⟨_,h,e,e⟩ ?_
     rintro m515 fr σ ⟨x471,h,rfl,rfl⟩
     obtain _ | m515 := m515
     ·rw [s_l16AskAppend_l1] at h; cases h
     rw [s_l16AskAppend_l1] at h
     refine Run.seq (.seq (.draw hm hmix (.p e (.p e (.p e (.z 91160 (Ev.lnF e) e e (.p e (.p e (.askO (x := .t 97) e h (fun g527 h => ?_) (fun g527 h => ?_))))))))))
     ·refine OpsD.gp e g527 e (.gp e g527 e (.gp e g527 e (.gp e g527 e (.gp e g527 e (.gp e g527 e ?_)))))
      obtain ⟨y528,hy528,h⟩ := bindO h
      refine OpsD.gs (s := 91304) e g527 (Ev.call [] [2] 0 (sem_s_LogTerm _ _ _ _ hy528) e e (.cons (.agg (.d2 (.cons (.borrow e (by decide) (lendW (fun _ => e) _ e)) .nil))) (.d1 .nil)) e (.inr ⟨e,ownL_root trivial⟩) e e) e e ?_
      refine OpsD.gp e g527 e (.gp e g527 e (.gp e g527 e ?_))
      obtain ⟨x529,hx529,h⟩ := bindO h
      refine OpsD.gs (s := 91368) e g527 (Ev.iaF e e hx529) e e (.gp e g527 e (.gp e g527 e (.gp e g527 e (.z 91432 (.pkT e g527 e) e e (.nil ⟨by kernel_rfl,?_⟩)))))
      refine Run.condO e h (fun g530 h => ?_) (fun g530 h => ?_)
      ·exact Run.skip (.block (.ops hm (.p3 e e e (.nil (⟨m515,Nat.lt_succ_self m515,_,_,(gh_pk [0,3,4,5,8] [0,1,2,3,4,5,6,7,8,9] hB e e e e),_,h,e,e⟩)))))
      ·refine Run.exit ?_
       obtain rfl := someO h
       have h := hk515
       exact ⟨_,_,(gh_pk [0,3,4,5,8] [0,1,2,3,4,5,6,7,8,9] hB e e e e),_,h,e,e⟩
     ·refine OpsD.gn e g527 (.gn e g527 (.gn e g527 (.gn e g527 (.gn e g527 (.gn e g527 (.gn e g527 (.gn e g527 (.gn e g527 (.gn e g527 (.gn e g527 (.gn e g527 (.gn e g527 (.gn e g527 (.z 91432 (.pkF e g527 e) e e (.nil ⟨by kernel_rfl,?_⟩)))))))))))))))
      refine Run.condF e e (.exit ?_)
      obtain rfl := someO h
      have h := hk515
      exact ⟨_,_,(gh_pk [0,3,4,5,8] [0,1,2,3,4,5,6,7,8,9] hB e e e e),_,h,e,e⟩
    ·refine Run.so hm (.p3 e e e (.p e (.z 99368 (Ev.lnF e) e e (.p2 e e (.nil (.seqO h (fun v566 => [(0,.ptr 0 0),(3,.ptr 6 0),(9,VI (w64 (v377.1 + (v377.2.2.length : Int))))]) (fun (v566 : (List Entry)) => [(0,.box [VI y368.n.Id,VI y368.n.Term,VI y368.n.Vote,VI y368.n.Role,VI y368.n.Lead,.sl 7 3 0 x1.n.Conf.length,VI y368.n.Log.Start,VI y368.n.Log.StartTerm,.sl 8 40 0 v566.length,VI y368.n.Commit,VI 0,VI y368.n.Limit,.sl 9 3 0 y368.n.Votes.length,.sl 10 98 0 y368.n.Peers.length,.sl 11 32 0 x1.told.length]),(1,.gone),(2,.gone),(3,.gone),(4,.gone),(5,.gone),(6,.box [VI x2.Kind,VI x2.From,VI x2.To,VI x2.Term,VI v377.1,VI v377.2.1,VI x2.Commit,VB x2.Ok,RO 40 (v377.2.2.map eE),RO 3 (x2.Conf.map encI),VS x2.Data,VB x2.Last]),(7,.vec 3 (x1.n.Conf.map encI)),(8,.vec 40 (v566.map eE)),(9,.vec 3 (y368.n.Votes.map encI)),(10,.vec 98 (y368.n.Peers.map eP)),(11,.vec 32 (x1.told.map (eM false)))]) (fun h => ?_) (fun v566 h => ?_)))))))
     ·refine Run.so hm (.p3 e e e (.z 103448 (Ev.lnF e) e e (.p e (.nil (.condO e h (fun g567 h => ?_) (fun g567 h => ?_))))))
      ·refine Run.so hm (.p3 e e e (.p3 e e e (.p2 e e (.nil (.seq (.draw hm hmix (.p e (.p e (.p e (.p e (.z 111656 (Ev.bsW (ys := ([] : List Entry)) (f := eE) e .nil e e e e e) e e (.p e (.p e (.p e ?_))))))))))))))
       obtain ⟨x580,hx580,h⟩ := bindO h
       refine OpsD.z 111720 (Ev.slWh (xs := x1.n.Log.Entries) e e e hx580) e e ?_
       obtain ⟨x581,hx581,h⟩ := bindO h
       refine OpsD.z 111736 (Ev.apW (f := eE) (ontoW e e e) (addsP e e (fun _ => e)) e bt40 e hx581) e e (.p e (.p e (.p e ?_)))
       obtain ⟨x582,hx582,h⟩ := bindO h
       refine OpsD.z 111800 (Ev.slFl e e hx582) e e ?_
       obtain ⟨x583,hx583,h⟩ := bindO h
       refine OpsD.z 111816 (Ev.apW (f := eE) (ontoW e e e) (addsF e) e bt40 e hx583) e e (.z 111832 (.bd e e) e e (.z 111848 (.al e e) e e (.y 111864 (.sto e e e e e e) e e (.nil ⟨by kernel_rfl,?_⟩))))
       refine Run.seq (.seq (.draw hm hmix (.p e (.p e (.p e (.p e (.p e (.p e (.p e (.p e (.p e (.p e (.p e (.askO (x := .t 159) e h (fun g595 h => ?_) (fun g595 h => ?_)))))))))))))))
       ·refine OpsD.gn e g595 (.gn e g595 (.gn e g595 (.z 115912 (.pkT e g595 e) e e (.nil ⟨by kernel_rfl,?_⟩))))
        refine Run.condT e e (.so hm (.p3 e e e ?_))
        obtain ⟨y597,hy597,h⟩ := bindO h
        refine Ops.z 119832 (Ev.call [0,1,2,8,9,5] [] 1 (sem_s_l16Refuse _ _ _ _ _ hy597) e e (.cons (.ptr e) (.cons (.agg (.d4 (.d4 (.d4 .nil)))) (.d1 .nil))) e (.inl e) e e) e e (.nil (.ret ?_))
        obtain rfl := someO h
        exact Ends.mkG (.inl e) e (Gh.trans (Gh.trans (gh_prn [] [0,1,2,3,4,5,8,9,119832] hB e) (gh_mvE [] [1,2] hB e e)) (gh_pk [] [0,1,2,3,4,5,30000001,30000002,8,9,119832] hB e e e e)) e e
       ·refine OpsD.gp e g595 e ?_
        obtain ⟨y598,hy598,h⟩ := bindO h
        refine OpsD.gs (s := 115880) e g595 (Ev.call [] [111816] 0 (sem_s_LogOk _ _ _ hy598) e e (.cons (.agg (.d2 (.cons (.borrow e (by decide) (lendW (fun _ => e) _ e)) .nil))) .nil) e (.inr ⟨e,ownL_root trivial⟩) e e) e e ?_
        refine OpsD.gp e g595 e (.z 115912 (.pkF e g595 e) e e (.nil ⟨by kernel_rfl,?_⟩))
        refine Run.condO e h (fun g599 h => ?_) (fun g599 h => ?_)
        ·refine Run.so hm (.p3 e e e ?_)
         obtain ⟨y601,hy601,h⟩ := bindO h
         refine Ops.z 119832 (Ev.call [0,1,2,8,9,5] [] 1 (sem_s_l16Refuse _ _ _ _ _ hy601) e e (.cons (.ptr e) (.cons (.agg (.d4 (.d4 (.d4 .nil)))) (.d1 .nil))) e (.inl e) e e) e e (.nil (.ret ?_))
         obtain rfl := someO h
         exact Ends.mkG (.inl e) e (Gh.trans (Gh.trans (gh_prn [] [0,1,2,3,4,5,8,9,119832] hB e) (gh_mvE [] [1,2] hB e e)) (gh_pk [] [0,1,2,3,4,5,30000001,30000002,8,9,119832] hB e e e e)) e e
        ·exact Run.skip (.ops hm (.p3 e e e (.p2 e e (.y 123960 (.sto e e e e e e) e e (.nil (⟨_,_,(Gh.trans (Gh.trans (gh_prn [0,3,9] [0,1,2,3,4,5,6,111816,8,9] hB e) (gh_mvE [0,3,9] [1,2,5] hB e e)) (gh_pk [0,3,9] [0,1,2,3,4,5,6,30000001,111816,8,9,30000005] hB e e e e)),_,h,e,e⟩))))))
      ·exact Run.skip (⟨_,_,(Gh.trans (Gh.trans (gh_prn [0,3,9] [0,1,2,3,4,5,6,8,9] hB e) (gh_mvE [0,3,9] [1,2,5] hB e e)) (gh_pk [0,3,9] [0,1,2,3,4,5,6,30000001,30000002,8,9,30000005] hB e e e e)),_,h,e,e⟩)
     ·refine Run.so hm (.p3 e e e (.nil (.seqO h (fun v603 => [(0,.ptr 0 0),(3,.ptr 6 0),(9,VI (w64 (v377.1 + (v377.2.2.length : Int)))),(12,VI v603)]) (fun (v603 : Int) => [(0,.box [VI y368.n.Id,VI y368.n.Term,VI y368.n.Vote,VI y368.n.Role,VI y368.n.Lead,.sl 7 3 0 x1.n.Conf.length,VI y368.n.Log.Start,VI y368.n.Log.StartTerm,.sl 8 40 0 v566.length,VI y368.n.Commit,VI 0,VI y368.n.Limit,.sl 9 3 0 y368.n.Votes.length,.sl 10 98 0 y368.n.Peers.length,.sl 11 32 0 x1.told.length]),(1,.gone),(2,.gone),(3,.gone),(4,.gone),(5,.gone),(6,.box [VI x2.Kind,VI x2.From,VI x2.To,VI x2.Term,VI v377.1,VI v377.2.1,VI x2.Commit,VB x2.Ok,RO 40 (v377.2.2.map eE),RO 3 (x2.Conf.map encI),VS x2.Data,VB x2.Last]),(7,.vec 3 (x1.n.Conf.map encI)),(8,.vec 40 (v566.map eE)),(9,.vec 3 (y368.n.Votes.map encI)),(10,.vec 98 (y368.n.Peers.map eP)),(11,.vec 32 (x1.told.map (eM false)))]) (fun h => ?_) (fun v603 h => ?_))))
      ·refine Run.so hm (.p3 e e e (.nil (.condO e h (fun g604 h => ?_) (fun g604 h => ?_))))
       ·exact Run.ops hm (.p2 e e (.nil (⟨_,_,(gh_pk [0,3,9,12] [0,1,2,3,4,5,6,7,8,9,10,11] hB e e e e),_,h,e,e⟩)))
       ·exact Run.skip (⟨_,_,(gh_pk [0,3,9,12] [0,1,2,3,4,5,6,7,8,9,10,11] hB e e e e),_,h,e,e⟩)
      ·refine Run.seqO h (fun v606 => [(0,.ptr 0 0),(3,.ptr 6 0),(9,VI (w64 (v377.1 + (v377.2.2.length : Int))))]) (fun (v606 : Int) => [(0,.box [VI y368.n.Id,VI y368.n.Term,VI y368.n.Vote,VI y368.n.Role,VI y368.n.Lead,.sl 7 3 0 x1.n.Conf.length,VI y368.n.Log.Start,VI y368.n.Log.StartTerm,.sl 8 40 0 v566.length,VI v606,VI 0,VI y368.n.Limit,.sl 9 3 0 y368.n.Votes.length,.sl 10 98 0 y368.n.Peers.length,.sl 11 32 0 x1.told.length]),(1,.gone),(2,.gone),(3,.gone),(4,.gone),(5,.gone),(6,.box [VI x2.Kind,VI x2.From,VI x2.To,VI x2.Term,VI v377.1,VI v377.2.1,VI x2.Commit,VB x2.Ok,RO 40 (v377.2.2.map eE),RO 3 (x2.Conf.map encI),VS x2.Data,VB x2.Last]),(7,.vec 3 (x1.n.Conf.map encI)),(8,.vec 40 (v566.map eE)),(9,.vec 3 (y368.n.Votes.map encI)),(10,.vec 98 (y368.n.Peers.map eP)),(11,.vec 32 (x1.told.map (eM false)))]) (fun h => ?_) (fun v606 h => ?_)
       ·refine Run.so hm (.p3 e e e (.p3 e e e (.p e (.nil (.condO e h (fun g607 h => ?_) (fun g607 h => ?_))))))
        ·exact Run.ops hm (.p3 e e e (.p2 e e (.y 144440 (.sto e e e e e e) e e (.nil (⟨_,_,(gh_pk [0,3,9] [0,1,2,3,4,5,6,7,8,9,10,11] hB e e e e),_,h,e,e⟩)))))
        ·exact Run.skip (⟨_,_,(gh_pk [0,3,9] [0,1,2,3,4,5,6,7,8,9,10,11] hB e e e e),_,h,e,e⟩)
       ·refine Run.ops hm (.p3 e e e (.p e (.z 148520 (.bd e e) e e ?_)))
        obtain ⟨y609,hy609,h⟩ := bindO h
        refine Ops.z 148536 (Ev.call [0,7,8,9,10,11] [] 1 (sem_s_l16Tell _ _ _ _ hy609) e e (.cons (.ptr e) (.cons (.agg (.d4 (.d4 (.cons (.nil _ _) (.cons (.nil _ _) (.d2 .nil)))))) .nil)) e (.inl e) e e) e e (.nil ?_)
        obtain rfl := someO h
        exact Ends.mkG (.inr e) e (gh_pk [] [0,1,2,3,4,5,7,8,9,10,148536] hB e e e e) e e
end Go.Proofs.YtkojbcnafckofaaGreat.Pe.FnNodes
