/- Functions,as pure functions; and that Go does just that. -/
import Derived.Test.YthlhkcnilehbbaaPeFFnLogs4
namespace Go.Proofs.Ythlhkcnilehbbaa.Pe.FnLogs
open Go Go.RowKit
set_option linter.unusedVariables false
set_option linter.unusedSimpArgs false
set_option maxHeartbeats 40000000
set_option maxRecDepth 100000
def spec_l05Var (N : Nat) (x1 : Tl05Cur) : Option (Int × Tl05Cur) :=
 (spec_ReadVar N x1.text x1.at').bind fun y113 =>
 (if x1.bad = true then
 some (0,(Tl05Cur.mk x1.text x1.at' true))
 else
 (if (!y113.2.2) = true then
 some (0,(Tl05Cur.mk x1.text x1.at' true))
 else
 some (y113.1,(Tl05Cur.mk x1.text y113.2.1 x1.bad))))
theorem sem_spec_l05Var (N : Nat) (x1 : Tl05Cur) (r : Int × Tl05Cur) (h : spec_l05Var N x1 = some r) : Says Try.prog 77 [.ptr 0 0] 1 [(0,.box [VS x1.text,VI x1.at',VB x1.bad])] (VI r.1) [(0,.box [VS r.2.text,VI r.2.at',VB r.2.bad])] := by
 unfold spec_l05Var at h
 refine Says.of_norm e Try.call77 e fun B hB => ?_
 have hm : B.m ≤ 1000 := by omega
 refine Run.so hm (.p e (.nil (.seq (.draw hm hmix (.p e (.p e (.p e (.p e (.p e (.p e (.p e (.p e ?_))))))))))))
 obtain ⟨y113,hy113,h⟩ := bindO h
 refine OpsD.z 5224 (Ev.call [] [] 0 (sem_spec_ReadVar _ _ _ _ hy113) e e (.d2 .nil) e (.inl e) e e) e e (.p e (.p e (.p e (.p e (.p e (.p e (.p e (.nil ⟨by kernel_rfl,?_⟩))))))))
 refine Run.seq (.so hm (.p3 e e e (.p2 e e (.askO (x := .t 23) e h (fun g118 h => ?_) (fun g118 h => ?_)))))
 ·refine Ops.gn e g118 (.gn e g118 (.z 9304 (.pkT e g118 e) e e (.nil (.condT e e (.so hm (.p3 e e e (.y 13336 (.sto e e e e e e) e e (.nil (.so hm (.p e (.nil (.ret ?_))))))))))))
  obtain rfl := someO h
  exact Ends.mkG (.inl e) e (gh_pk [0] [0] hB e e e e) e e
 ·refine Ops.gp e g118 e (.gp e g118 e (.z 9304 (.pkF e g118 e) e e (.nil (.condO e h (fun g119 h => ?_) (fun g119 h => ?_)))))
  ·refine Run.so hm (.p3 e e e (.y 13336 (.sto e e e e e e) e e (.nil (.so hm (.p e (.nil (.ret ?_)))))))
   obtain rfl := someO h
   exact Ends.mkG (.inl e) e (gh_pk [0] [0] hB e e e e) e e
  ·refine Run.skip (.so hm (.p3 e e e (.p e (.y 21544 (.sto e e e e e e) e e (.nil (.so hm (.p2 e e (.nil (.ret ?_)))))))))
   obtain rfl := someO h
   exact Ends.mkG (.inl e) e (gh_pk [0] [0] hB e e e e) e e
def spec_l12Start (N : Nat) (x1 : ByteArray) : Option (Log × Bool) :=
 (spec_l05Take N (Tl05Cur.mk x1 0 false) 1).bind fun y137 =>
 (spec_l05Var N y137.2).bind fun y141 =>
 (spec_l05Var N y141.2).bind fun y145 =>
 (if y145.2.bad = true then
 some ((Log.mk 0 0 ([])),false)
 else
 (spec_l01Var N y141.1).bind fun y163 =>
 (scat? (⟨#[83]⟩ : ByteArray) y163).bind fun x164 =>
 (spec_l01Var N y145.1).bind fun y165 =>
 (scat? x164 y165).bind fun x166 =>
 (if (!decide (x166 = x1)) = true then
 some ((Log.mk 0 0 ([])),false)
 else
 some ((Log.mk y141.1 y145.1 ([])),true)))
theorem sem_spec_l12Start (N : Nat) (x1 : ByteArray) (r : Log × Bool) (h : spec_l12Start N x1 = some r) : Says Try.prog 58 [VS x1] 0 [] (.tup [.agg [VI r.1.Start,VI r.1.StartTerm,.sl 0 51 0 r.1.Entries.length],VB r.2]) [(0,.vec 51 (r.1.Entries.map encEntry))] := by
 unfold spec_l12Start at h
 refine Says.of_norm e Try.call58 e fun B hB => ?_
 have hm : B.m ≤ 1000 := by omega
 refine Run.so hm (.z 1000 (.al e e) e e (.p e (.nil (.so hm (.p e (.z 5112 (.bd e e) e e (.z 5128 (.bx e e) e e (.p e (.nil (.so hm (.p e ?_)))))))))))
 obtain ⟨y137,hy137,h⟩ := bindO h
 refine Ops.z 9208 (Ev.call [5128] [] 0 (sem_spec_l05Take _ _ _ _ hy137) e e (.cons (.ptr e) (.d1 .nil)) e (.inl e) e e) e e (.nil (.so hm (.z 13288 (.bd e e) e e (.z 13304 (.al e e) e e (.y 13320 (.sto e e e e e e) e e (.nil (.so hm (.p e ?_))))))))
 obtain ⟨y141,hy141,h⟩ := bindO h
 refine Ops.z 17400 (Ev.call [5128] [] 0 (sem_spec_l05Var _ _ _ hy141) e e (.cons (.ptr e) .nil) e (.inl e) e e) e e (.p e (.y 17432 (.sto e e e e e e) e e (.nil (.so hm (.p e ?_)))))
 obtain ⟨y145,hy145,h⟩ := bindO h
 refine Ops.z 21496 (Ev.call [5128] [] 0 (sem_spec_l05Var _ _ _ hy145) e e (.cons (.ptr e) .nil) e (.inl e) e e) e e (.p e (.y 21528 (.sto e e e e e e) e e (.nil (.seq (.seq (.draw hm hmix (.p e (.p e (.p e (.p e (.p e (.askO (x := .t 22) e h (fun g162 h => ?_) (fun g162 h => ?_)))))))))))))
 ·refine OpsD.gn e g162 (.gn e g162 (.gn e g162 (.gn e g162 (.gn e g162 (.gn e g162 (.gn e g162 (.gn e g162 (.gn e g162 (.gn e g162 (.z 25816 (.pkT e g162 e) e e (.nil ⟨by kernel_rfl,?_⟩)))))))))))
  refine Run.condT e e (.so hm (.z 29672 (.bd e e) e e (.y 29688 (.sto e e e e e e) e e (.p e (.nil (.ret ?_))))))
  obtain rfl := someO h
  exact Ends.mkG (.inl e) e (Gh.trans (Gh.trans (gh_prn [0,1] [] hB e) (gh_nil [0] [] hB e e e)) (gh_pk [0,1] [10000000] hB e e e e)) e e
 ·refine OpsD.gp e g162 e (.gp e g162 e ?_)
  obtain ⟨y163,hy163,h⟩ := bindO h
  refine OpsD.gs (s := 25688) e g162 (Ev.call [] [] 0 (sem_spec_l01Var _ _ _ hy163) e e (.d1 .nil) e (.inl e) e e) e e ?_
  obtain ⟨x164,hx164,h⟩ := bindO h
  refine OpsD.gs (s := 25704) e g162 (Ev.addS e e hx164) e e (.gp e g162 e (.gp e g162 e ?_))
  obtain ⟨y165,hy165,h⟩ := bindO h
  refine OpsD.gs (s := 25752) e g162 (Ev.call [] [] 0 (sem_spec_l01Var _ _ _ hy165) e e (.d1 .nil) e (.inl e) e e) e e ?_
  obtain ⟨x166,hx166,h⟩ := bindO h
  refine OpsD.gs (s := 25768) e g162 (Ev.addS e e hx166) e e (.gp e g162 e (.gp e g162 e (.z 25816 (.pkF e g162 e) e e (.nil ⟨by kernel_rfl,?_⟩))))
  refine Run.condO e h (fun g167 h => ?_) (fun g167 h => ?_)
  ·refine Run.so hm (.z 29672 (.bd e e) e e (.y 29688 (.sto e e e e e e) e e (.p e (.nil (.ret ?_)))))
   obtain rfl := someO h
   exact Ends.mkG (.inl e) e (Gh.trans (Gh.trans (gh_prn [0,1] [] hB e) (gh_nil [0] [] hB e e e)) (gh_pk [0,1] [10000000] hB e e e e)) e e
  ·refine Run.skip (.so hm (.p e (.y 33784 (.sto e e e e e e) e e (.p e (.nil (.ret ?_))))))
   obtain rfl := someO h
   exact Ends.mkG (.inl e) e (Gh.trans (Gh.trans (gh_prn [0,1] [] hB e) (gh_nil [0] [] hB e e e)) (gh_pk [0,1] [10000000] hB e e e e)) e e
def spec_ReadEntry (N : Nat) (x1 : ByteArray) : Option (Int × Entry × Bool) :=
 (spec_l05Take N (Tl05Cur.mk x1 0 false) 1).bind fun y139 =>
 (spec_l05Var N y139.2).bind fun y143 =>
 (spec_l05Var N y143.2).bind fun y147 =>
 (spec_l05Take N y147.2 1).bind fun y151 =>
 (if y151.2.bad = true then
 some (0,(Entry.mk 0 0 (⟨#[]⟩ : ByteArray)),false)
 else
 (sat? y151.1 0).bind fun x157 =>
 (sdrop? x1 y151.2.at').bind fun x161 =>
 (spec_EntryText N y143.1 (Entry.mk y147.1 (w64 (x157)) x161)).bind fun y165 =>
 (if (!y165.2) = true then
 some (0,(Entry.mk 0 0 (⟨#[]⟩ : ByteArray)),false)
 else
 (if (!decide (y165.1 = x1)) = true then
 some (0,(Entry.mk 0 0 (⟨#[]⟩ : ByteArray)),false)
 else
 some (y143.1,(Entry.mk y147.1 (w64 (x157)) x161),true))))
theorem sem_spec_ReadEntry (N : Nat) (x1 : ByteArray) (r : Int × Entry × Bool) (h : spec_ReadEntry N x1 = some r) : Says Try.prog 59 [VS x1] 0 [] (.tup [VI r.1,.agg [VI r.2.1.Term,VI r.2.1.Kind,VS r.2.1.Data],VB r.2.2]) [] := by
 unfold spec_ReadEntry at h
 refine Says.of_norm e Try.call59 e fun B hB => ?_
 have hm : B.m ≤ 1000 := by omega
 refine Run.so hm (.p e (.z 1016 (.al e e) e e (.p e (.nil (.so hm (.p e (.z 5112 (.bd e e) e e (.z 5128 (.bx e e) e e (.p e (.nil (.so hm (.p e ?_))))))))))))
 obtain ⟨y139,hy139,h⟩ := bindO h
 refine Ops.z 9208 (Ev.call [5128] [] 0 (sem_spec_l05Take _ _ _ _ hy139) e e (.cons (.ptr e) (.d1 .nil)) e (.inl e) e e) e e (.nil (.so hm (.p e ?_)))
 obtain ⟨y143,hy143,h⟩ := bindO h
 refine Ops.z 13304 (Ev.call [5128] [] 0 (sem_spec_l05Var _ _ _ hy143) e e (.cons (.ptr e) .nil) e (.inl e) e e) e e (.p e (.nil (.so hm (.z 17384 (.bd e e) e e (.z 17400 (.al e e) e e (.y 17416 (.sto e e e e e e) e e (.nil (.so hm (.p e ?_)))))))))
 obtain ⟨y147,hy147,h⟩ := bindO h
 refine Ops.z 21496 (Ev.call [5128] [] 0 (sem_spec_l05Var _ _ _ hy147) e e (.cons (.ptr e) .nil) e (.inl e) e e) e e (.p e (.y 21528 (.sto e e e e e e) e e (.nil (.so hm (.p e ?_)))))
 obtain ⟨y151,hy151,h⟩ := bindO h
 refine Ops.z 25592 (Ev.call [5128] [] 0 (sem_spec_l05Take _ _ _ _ hy151) e e (.cons (.ptr e) (.d1 .nil)) e (.inl e) e e) e e (.p e (.nil (.seq (.so hm (.p3 e e e (.p e (.nil (.condO e h (fun g153 h => ?_) (fun g153 h => ?_)))))))))
 ·refine Run.so hm (.z 33768 (.bd e e) e e (.p e (.y 33800 (.sto e e e e e e) e e (.p e (.nil (.ret ?_))))))
  obtain rfl := someO h
  exact Ends.mkG (.inl e) e (gh_pk [0,1,2] [] hB e e e e) e e
 ·refine Run.skip (.so hm (.p e ?_))
  obtain ⟨x157,hx157,h⟩ := bindO h
  refine Ops.z 37880 (Ev.ixS e e hx157) e e (.p2 e e (.y 37928 (.sto e e e e e e) e e (.nil (.so hm (.p3 e e e (.p2 e e ?_))))))
  obtain ⟨x161,hx161,h⟩ := bindO h
  refine Ops.z 42040 (Ev.ssL e e hx161) e e (.p e (.y 42072 (.sto e e e e e e) e e (.nil (.so hm (.p2 e e ?_)))))
  obtain ⟨y165,hy165,h⟩ := bindO h
  refine Ops.z 46088 (Ev.call [] [] 0 (sem_spec_EntryText _ _ _ _ hy165) e e (.d1 (.cons (.agg (.d2 (.d1 .nil))) .nil)) e (.inl e) e e) e e (.p3 e e e (.p2 e e (.nil (.seq (.so hm (.p3 e e e (.askO (x := .t 48) e h (fun g170 h => ?_) (fun g170 h => ?_))))))))
  ·refine Ops.gn e g170 (.gn e g170 (.gn e g170 (.z 50248 (.pkT e g170 e) e e (.nil (.condT e e (.so hm (.z 54248 (.bd e e) e e (.p e (.y 54280 (.sto e e e e e e) e e (.p e (.nil (.ret ?_))))))))))))
   obtain rfl := someO h
   exact Ends.mkG (.inl e) e (gh_pk [0,1,2] [] hB e e e e) e e
  ·refine Ops.gp e g170 e (.gp e g170 e (.gp e g170 e (.z 50248 (.pkF e g170 e) e e (.nil (.condO e h (fun g171 h => ?_) (fun g171 h => ?_))))))
   ·refine Run.so hm (.z 54248 (.bd e e) e e (.p e (.y 54280 (.sto e e e e e e) e e (.p e (.nil (.ret ?_))))))
    obtain rfl := someO h
    exact Ends.mkG (.inl e) e (gh_pk [0,1,2] [] hB e e e e) e e
   ·refine Run.skip (.seq (.draw hm hmix (.p e (.p e (.p e (.y 58392 (.sto e e e e e e) e e (.p e (.nil ⟨by kernel_rfl,?_⟩))))))))
    refine Run.ret ?_
    obtain rfl := someO h
    exact Ends.mkG (.inl e) e (gh_pk [0,1,2] [] hB e e e e) e e
def spec_ReadLog_l1 (N : Nat) (y490 : (List ByteArray) × Int) : Nat → Int → Int → Int → (List Entry) → Option ((Log × Int × Bool) ⊕ (Int × Int × (List Entry)))
 | 0,_,_,_,_ => none
 | m + 1,x679,x683,x684,x686 =>
 (if (decide (x679 < ((y490.1.length : Nat) : Int))) = true then
 joinP (fun (v821 : Int × Int × (List Entry)) =>
 spec_ReadLog_l1 N y490 m (w64 (x679 + 1)) v821.1 v821.2.1 v821.2.2) fun j821 =>
 (at? y490.1 x679).bind fun x828 =>
 (spec_l12Start N x828).bind fun y829 =>
 (if y829.2 = true then
 j821 (y829.1.Start,y829.1.StartTerm,y829.1.Entries)
 else
 (at? y490.1 x679).bind fun x838 =>
 (spec_ReadEntry N x838).bind fun y839 =>
 (if (x679 == 0) = true then
 some (Sum.inl ((Log.mk 0 0 ([])),0,false))
 else
 (if (!y839.2.2) = true then
 some (Sum.inl ((Log.mk 0 0 ([])),0,false))
 else
 (if (decide (y839.1 ≤ x683)) = true then
 some (Sum.inl ((Log.mk 0 0 ([])),0,false))
 else
 (spec_l12Last N (Log.mk x683 x684 x686)).bind fun y856 =>
 (if (decide (y839.1 > (w64 (y856 + 1)))) = true then
 some (Sum.inl ((Log.mk 0 0 ([])),0,false))
 else
 (take? x686 (w64 ((w64 (y839.1 - x683)) - 1))).bind fun x861 =>
 (cat? ([] : List Entry) (x686.take ((w64 ((w64 (y839.1 - x683)) - 1)).toNat))).bind fun x862 =>
 (cat? x862 ([y839.2.1] : List Entry)).bind fun x863 =>
 j821 (x683,x684,x863))))))
 else
 some (Sum.inr (x683,x684,x686)))
def spec_ReadLog (N : Nat) (x1 : ByteArray) : Option (Log × Int × Bool) :=
 (spec_Unframe N x1).bind fun y490 =>
 joinP (fun (v677 : Int × Int × (List Entry)) =>
 (if (((y490.1.length : Nat) : Int) == 0) = true then
 some ((Log.mk 0 0 ([])),0,false)
 else
 (spec_LogOk N (Log.mk v677.1 v677.2.1 v677.2.2)).bind fun y872 =>
 (if (!y872) = true then
 some ((Log.mk 0 0 ([])),0,false)
 else
 some ((Log.mk v677.1 v677.2.1 v677.2.2),y490.2,true)))) fun j677 =>
 (spec_ReadLog_l1 N y490 N 0 0 0 ([] : (List Entry))).bind (Sum.elim (fun v774 => some v774) (fun (v775 : Int × Int × (List Entry)) => j677 (v775.1,v775.2.1,v775.2.2)))
theorem sem_spec_ReadLog (N : Nat) (x1 : ByteArray) (r : Log × Int × Bool) (h : spec_ReadLog N x1 = some r) : Says Try.prog 30 [VS x1] 0 [] (.tup [.agg [VI r.1.Start,VI r.1.StartTerm,.sl 0 51 0 r.1.Entries.length],VI r.2.1,VB r.2.2]) [(0,.vec 51 (r.1.Entries.map encEntry))] := by
 unfold spec_ReadLog at h
 refine Says.of_norm e Try.call30 e fun B hB => ?_
 have hm : B.m ≤ 1000 := by omega
 refine Run.so hm (.z 1000 (.al e e) e e (.p2 e e (.nil (.so hm (.p e ?_)))))
 obtain ⟨y490,hy490,h⟩ := bindO h
 refine Ops.z 5112 (Ev.call [] [] 1 (sem_spec_Unframe _ _ _ hy490) e e (.d1 .nil) e (.inl e) e e) e e (.p3 e e e (.p2 e e (.nil (.so hm (.z 9192 (.bd e e) e e (.z 9208 (.al e e) e e (.y 9224 (.sto e e e e e e) e e (.nil (.seqO h (fun v677 => [(2,.ptr 0 0),(5,.sl 1 9 0 y490.1.length),(6,VI y490.2),(7,.ptr 2 0)]) (fun (v677 : Int × Int × (List Entry)) => [(0,.box [VI 0,VI 0,.sl 3 51 0 (([] : (List Entry)).length)]),(1,.vec 9 (y490.1.map encS)),(2,.box [VI v677.1,VI v677.2.1,.sl 4 51 0 v677.2.2.length]),(3,.vec 51 (([] : (List Entry)).map encEntry)),(4,.vec 51 (v677.2.2.map encEntry))]) (fun h => ?_) (fun v677 h => ?_))))))))))
 ·refine Run.so hm (.p e (.nil (.block ?_)))
  obtain ⟨res775,h,hk775⟩ := bindO h
  refine Run.loop (n := N) (fun m775 fr σ => ∃ (x679 : Int),∃ (x683 : Int),∃ (x684 : Int),∃ (x686 : (List Entry)),spec_ReadLog_l1 N y490 m775 x679 x683 x684 x686 = some res775 ∧ fr = [(2,.ptr 0 0),(5,.sl 1 9 0 y490.1.length),(6,VI y490.2),(7,.ptr 2 0),(8,VI x679)] ∧ σ = [(0,.box [VI 0,VI 0,.sl 3 51 0 (([] : (List Entry)).length)]),(1,.vec 9 (y490.1.map encS)),(2,.box [VI x683,VI x684,.sl 4 51 0 x686.length]),(3,.vec 51 (([] : (List Entry)).map encEntry)),(4,.vec 51 (x686.map encEntry))]) (Gh.trans (Gh.trans (gh_prn [2,5,6,7,8] [1000,5112,9208] hB e) (gh_nil [] [1000,9208] hB e e e)) (gh_pk [2,5,6,7,8] [1000,5112,9208,20000000,20000064] hB e e e e)) ⟨_,_,_,_,h,e,e⟩ ?_
  rintro m775 fr σ ⟨x679,x683,x684,x686,h,rfl,rfl⟩
  obtain _ | m775 := m775
  ·rw [spec_ReadLog_l1] at h; cases h
  rw [spec_ReadLog_l1] at h
  refine Run.seq (.so hm (.p3 e e e (.p e (.nil (.condO e h (fun g778 h => ?_) (fun g778 h => ?_))))))
  ·refine Run.skip (.seqO h (fun v821 => [(2,.ptr 0 0),(5,.sl 1 9 0 y490.1.length),(6,VI y490.2),(7,.ptr 2 0),(8,VI x679)]) (fun (v821 : Int × Int × (List Entry)) => [(0,.box [VI 0,VI 0,.sl 3 51 0 (([] : (List Entry)).length)]),(1,.vec 9 (y490.1.map encS)),(2,.box [VI v821.1,VI v821.2.1,.sl 4 51 0 v821.2.2.length]),(3,.vec 51 (([] : (List Entry)).map encEntry)),(4,.vec 51 (v821.2.2.map encEntry))]) (fun h => ?_) (fun v821 h => ?_))
   ·refine Run.block (.so hm (.p2 e e ?_))
    obtain ⟨x828,hx828,h⟩ := bindO h
    refine Ops.z 25608 (Ev.iaW e e e hx828) e e (.z 25624 (Ev.ldE (f := encS) e e (at_some hx828).2 e e e) e e ?_)
    obtain ⟨y829,hy829,h⟩ := bindO h
    refine Ops.z 25640 (Ev.call [] [] 1 (sem_spec_l12Start _ _ _ hy829) e e (.d1 .nil) e (.inl e) e e) e e (.p3 e e e (.z 25704 (.al e e) e e (.y 25720 (.sto e e e e e e) e e (.p e (.nil (.seq (.so hm (.p e (.nil (.condO e h (fun g831 h => ?_) (fun g831 h => ?_)))))))))))
    ·exact Run.so hm (.p e (.y 33784 (.sto e e e e e e) e e (.nil (.exit (⟨_,_,(gh_pk [2,5,6,7,8] [0,1,2,3,25640] hB e e e e),_,h,e,e⟩)))))
    ·refine Run.skip (.so hm (.p2 e e ?_))
     obtain ⟨x838,hx838,h⟩ := bindO h
     refine Ops.z 37896 (Ev.iaW e e e hx838) e e (.z 37912 (Ev.ldE (f := encS) e e (at_some hx838).2 e e e) e e ?_)
     obtain ⟨y839,hy839,h⟩ := bindO h
     refine Ops.z 37928 (Ev.call [] [] 0 (sem_spec_ReadEntry _ _ _ hy839) e e (.d1 .nil) e (.inl e) e e) e e (.p3 e e e (.p e (.z 38008 (.al e e) e e (.p e (.y 38040 (.sto e e e e e e) e e (.p e (.nil (.seq (.so hm (.p3 e e e (.askO (x := .t 47) e h (fun g853 h => ?_) (fun g853 h => ?_))))))))))))
     ·refine Ops.gn e g853 (.gn e g853 (.z 42040 (.pkT e g853 e) e e (.p e (.gn e e (.gn e e (.gn e e (.gn e e (.z 42136 (.pkT e e e) e e (.p e (.gn e e (.gn e e (.gn e e (.gn e e (.gn e e (.z 42248 (.pkT e e e) e e (.nil (.condT e e (.so hm (.z 46056 (.bd e e) e e (.y 46072 (.sto e e e e e e) e e (.p2 e e (.nil (.ret ?_)))))))))))))))))))))))
      obtain rfl := someO h
      have h := hk775
      replace h := inlO h
      obtain rfl := someO h
      exact Ends.mkG (.inl e) e (Gh.trans (Gh.trans (gh_prn [0,1,2] [] hB e) (gh_nil [0] [] hB e e e)) (gh_pk [0,1,2] [10000000] hB e e e e)) e e
     ·refine Ops.gp e g853 e (.gp e g853 e (.z 42040 (.pkF e g853 e) e e (.p e (.askO (x := .t 51) e h (fun g854 h => ?_) (fun g854 h => ?_)))))
      ·refine Ops.gn e g854 (.gn e g854 (.gn e g854 (.gn e g854 (.z 42136 (.pkT e g854 e) e e (.p e (.gn e e (.gn e e (.gn e e (.gn e e (.gn e e (.z 42248 (.pkT e e e) e e (.nil (.condT e e (.so hm (.z 46056 (.bd e e) e e (.y 46072 (.sto e e e e e e) e e (.p2 e e (.nil (.ret ?_)))))))))))))))))))
       obtain rfl := someO h
       have h := hk775
       replace h := inlO h
       obtain rfl := someO h
       exact Ends.mkG (.inl e) e (Gh.trans (Gh.trans (gh_prn [0,1,2] [] hB e) (gh_nil [0] [] hB e e e)) (gh_pk [0,1,2] [10000000] hB e e e e)) e e
      ·refine Ops.gp e g854 e (.gp e g854 e (.gp e g854 e (.gp e g854 e (.z 42136 (.pkF e g854 e) e e (.p e (.askO (x := .t 57) e h (fun g855 h => ?_) (fun g855 h => ?_)))))))
       ·refine Ops.gn e g855 (.gn e g855 (.gn e g855 (.gn e g855 (.gn e g855 (.z 42248 (.pkT e g855 e) e e (.nil (.condT e e (.so hm (.z 46056 (.bd e e) e e (.y 46072 (.sto e e e e e e) e e (.p2 e e (.nil (.ret ?_)))))))))))))
        obtain rfl := someO h
        have h := hk775
        replace h := inlO h
        obtain rfl := someO h
        exact Ends.mkG (.inl e) e (Gh.trans (Gh.trans (gh_prn [0,1,2] [] hB e) (gh_nil [0] [] hB e e e)) (gh_pk [0,1,2] [10000000] hB e e e e)) e e
       ·refine Ops.gp e g855 e (.gp e g855 e ?_)
        obtain ⟨y856,hy856,h⟩ := bindO h
        refine Ops.gs (s := 42200) e g855 (Ev.call [] [4] 0 (sem_spec_l12Last _ _ _ hy856) e e (.cons (.agg (.d2 (.cons (.borrow e (by decide) (lendW (fun _ => e) _ e)) .nil))) .nil) e (.inr ⟨e,ownL_root trivial⟩) e e) e e ?_
        refine Ops.gp e g855 e (.gp e g855 e (.z 42248 (.pkF e g855 e) e e (.nil (.condO e h (fun g857 h => ?_) (fun g857 h => ?_)))))
        ·refine Run.so hm (.z 46056 (.bd e e) e e (.y 46072 (.sto e e e e e e) e e (.p2 e e (.nil (.ret ?_)))))
         obtain rfl := someO h
         have h := hk775
         replace h := inlO h
         obtain rfl := someO h
         exact Ends.mkG (.inl e) e (Gh.trans (Gh.trans (gh_prn [0,1,2] [] hB e) (gh_nil [0] [] hB e e e)) (gh_pk [0,1,2] [10000000] hB e e e e)) e e
        ·refine Run.skip (.draw hm hmix (.z 50152 (Ev.bsW (ys := ([] : List Entry)) (f := encEntry) e .nil e e e e e) e e (.p e (.p e (.p e (.p e (.p e (.p e (.p e ?_)))))))))
         obtain ⟨x861,hx861,h⟩ := bindO h
         refine OpsD.z 50280 (Ev.slWh (xs := x686) e e e hx861) e e ?_
         obtain ⟨x862,hx862,h⟩ := bindO h
         refine OpsD.z 50296 (Ev.apW (f := encEntry) (ontoW e e e) (addsP e e (fun _ => e)) e bt51 e hx862) e e (.p e (.z 50328 (Ev.bsW (ys := ([y839.2.1] : List Entry)) (f := encEntry) e (.d2 (.d1 .nil)) e e e e e) e e ?_))
         obtain ⟨x863,hx863,h⟩ := bindO h
         refine OpsD.z 50344 (Ev.apW (f := encEntry) (ontoW e e e) (addsW e e e (fun _ => e)) e bt51 e hx863) e e (.p e (.y 50376 (.sto e e e e e e) e e (.nil ⟨by kernel_rfl,?_⟩)))
         exact ⟨_,_,(gh_pk [2,5,6,7,8] [0,1,2,3,50344] hB e e e e),_,h,e,e⟩
   ·exact Run.ops hm (.p3 e e e (.nil (⟨m775,Nat.lt_succ_self m775,_,_,(gh_pk [2,5,6,7,8] [0,1,2,3,4] hB e e e e),_,_,_,_,h,e,e⟩)))
  ·refine Run.exit ?_
   obtain rfl := someO h
   have h := hk775
   replace h := inrO h
   exact ⟨_,_,(gh_pk [2,5,6,7] [0,1,2,3,4] hB e e e e),_,h,e,e⟩
 ·refine Run.seq (.so hm (.p3 e e e (.p e (.askO (x := .t 82) e h (fun g871 h => ?_) (fun g871 h => ?_)))))
  ·refine Ops.gn e g871 (.gn e g871 (.gn e g871 (.z 54360 (.pkT e g871 e) e e (.nil (.condT e e (.so hm (.z 58344 (.bd e e) e e (.y 58360 (.sto e e e e e e) e e (.p2 e e (.nil (.ret ?_)))))))))))
   obtain rfl := someO h
   exact Ends.mkG (.inl e) e (Gh.trans (Gh.trans (gh_prn [0,1,2] [] hB e) (gh_nil [0] [] hB e e e)) (gh_pk [0,1,2] [10000000] hB e e e e)) e e
  ·refine Ops.gp e g871 e ?_
   obtain ⟨y872,hy872,h⟩ := bindO h
   refine Ops.gs (s := 54328) e g871 (Ev.call [] [4] 0 (sem_spec_LogOk _ _ _ hy872) e e (.cons (.agg (.d2 (.cons (.borrow e (by decide) (lendW (fun _ => e) _ e)) .nil))) .nil) e (.inr ⟨e,ownL_root trivial⟩) e e) e e ?_
   refine Ops.gp e g871 e (.z 54360 (.pkF e g871 e) e e (.nil (.condO e h (fun g873 h => ?_) (fun g873 h => ?_))))
   ·refine Run.so hm (.z 58344 (.bd e e) e e (.y 58360 (.sto e e e e e e) e e (.p2 e e (.nil (.ret ?_)))))
    obtain rfl := someO h
    exact Ends.mkG (.inl e) e (Gh.trans (Gh.trans (gh_prn [0,1,2] [] hB e) (gh_nil [0] [] hB e e e)) (gh_pk [0,1,2] [10000000] hB e e e e)) e e
   ·refine Run.skip (.so hm (.p2 e e (.y 62472 (.sto e e e e e e) e e (.p2 e e (.nil (.ret ?_))))))
    obtain rfl := someO h
    exact Ends.mkG (.inl e) e (gh_pk [0,1,2] [4] hB e e e e) e e
def spec_l12Same_l1 (N : Nat) (x1 : Log) (x2 : Log) : Nat → Int → Option ((Bool) ⊕ (Unit))
 | 0,_ => none
 | m + 1,x224 =>
 (if (decide (x224 < (x1.Entries.length : Int))) = true then
 (at? x1.Entries x224).bind fun x255 =>
 (at? x2.Entries x224).bind fun x256 =>
 (if (((x255.Term == x256.Term) && ((x255.Kind == x256.Kind) && (decide (x255.Data = x256.Data) && true))) ^^ true) = true then
 some (Sum.inl false)
 else
 spec_l12Same_l1 N x1 x2 m (w64 (x224 + 1)))
 else
 some (Sum.inr ()))
def spec_l12Same_l1_r (N : Nat) (x1 : Log) (x2 : Log) : (List Entry) → Int → Option ((Bool) ⊕ (Unit))
 | [],x224 =>
 some (Sum.inr ())
 | hd :: tl,x224 =>
 (some hd).bind fun x255 =>
 (at? x2.Entries x224).bind fun x256 =>
 (if (((x255.Term == x256.Term) && ((x255.Kind == x256.Kind) && (decide (x255.Data = x256.Data) && true))) ^^ true) = true then
 some (Sum.inl false)
 else
 spec_l12Same_l1_r N x1 x2 tl (w64 (x224 + 1)))
theorem spec_l12Same_l1_rng (N : Nat) (x1 : Log) (x2 : Log) (hx : x1.Entries.length ≤ 1099511627776) : ∀ (d k m : Nat),x1.Entries.length = k + d → d < m → spec_l12Same_l1 N x1 x2 m (k : Int) = spec_l12Same_l1_r N x1 x2 (x1.Entries.drop k) (k : Int) := by
 intro d
 induction d with
 | zero =>
  intro k m hd hm
  obtain ⟨m,rfl⟩ : ∃ q,m = q + 1 := ⟨m - 1,by omega⟩
  rw [spec_l12Same_l1,if_neg (by simp; omega),List.drop_eq_nil_of_le (by omega),spec_l12Same_l1_r]
 | succ d ih =>
  intro k m hd hm
  obtain ⟨m,rfl⟩ : ∃ q,m = q + 1 := ⟨m - 1,by omega⟩
  have hk : k < x1.Entries.length := by omega
  rw [spec_l12Same_l1,if_pos (by simp; omega),List.drop_eq_getElem_cons hk,spec_l12Same_l1_r]
  have h1 := at_lt hk
  have h2 := w64_succ (k := k) (by omega)
  have h3 := ih (k + 1) m
  simp only [h1,h2,h3 (by omega) (by omega)]
theorem spec_l12Same_l1_eq {N : Nat} (x1 : Log) (x2 : Log) (hx : x1.Entries.length ≤ 1099511627776) (hN : x1.Entries.length < N) : spec_l12Same_l1 N x1 x2 N 0 = spec_l12Same_l1_r N x1 x2 x1.Entries 0 := spec_l12Same_l1_rng N x1 x2 hx x1.Entries.length 0 N (by omega) hN
def spec_l12Same (N : Nat) (x1 : Log) (x2 : Log) : Option (Bool) :=
 (if (x1.Start != x2.Start) = true then
 some false
 else
 (if (x1.StartTerm != x2.StartTerm) = true then
 some false
 else
 (if ((x1.Entries.length : Int) != (x2.Entries.length : Int)) = true then
 some false
 else
 joinP (fun (v223 : Unit) =>
 some true) fun j223 =>
 (spec_l12Same_l1 N x1 x2 N 0).bind (Sum.elim (fun v243 => some v243) (fun (v244 : Unit) => j223 ())))))
theorem sem_spec_l12Same (N : Nat) (x1 : Log) (x2 : Log) (r : Bool) (h : spec_l12Same N x1 x2 = some r) : Says Try.prog 31 [.agg [VI x1.Start,VI x1.StartTerm,RO 51 (x1.Entries.map encEntry)],.agg [VI x2.Start,VI x2.StartTerm,RO 51 (x2.Entries.map encEntry)]] 0 [] (VB r) [] := by
 unfold spec_l12Same at h
 refine Says.of_run s31 Try.call31 e fun B hB => ?_
 have hm : B.m ≤ 1000 := by omega
 refine Run.so hm (.z 1000 (.bx e e) e e (.z 1016 (.bx e e) e e (.p e (.nil (.seq (.so hm (.p3 e e e (.p3 e e e (.askO (x := .t 11) e h (fun g186 h => ?_) (fun g186 h => ?_))))))))))
 ·refine Ops.gn e g186 (.gn e g186 (.gn e g186 (.gn e g186 (.gn e g186 (.z 5272 (.pkT e g186 e) e e (.p e (.gn e e (.gn e e (.gn e e (.gn e e (.gn e e (.gn e e (.gn e e (.z 5416 (.pkT e e e) e e (.nil (.condT e e (.so hm (.p e (.nil (.ret ?_))))))))))))))))))))
  obtain rfl := someO h
  exact Ends.mkG (.inl e) e (gh_pk [0] [] hB e e e e) e e
 ·refine Ops.gp e g186 e (.gp e g186 e (.gp e g186 e (.gp e g186 e (.gp e g186 e (.z 5272 (.pkF e g186 e) e e (.p e (.askO (x := .t 18) e h (fun g187 h => ?_) (fun g187 h => ?_))))))))
  ·refine Ops.gn e g187 (.gn e g187 (.gn e g187 (.gn e g187 (.gn e g187 (.gn e g187 (.gn e g187 (.z 5416 (.pkT e g187 e) e e (.nil (.condT e e (.so hm (.p e (.nil (.ret ?_)))))))))))))
   obtain rfl := someO h
   exact Ends.mkG (.inl e) e (gh_pk [0] [] hB e e e e) e e
  ·refine Ops.gp e g187 e (.gp e g187 e (.gs (s := 5336) e g187 (Ev.lnF e) e e (.gp e g187 e (.gp e g187 e (.gs (s := 5384) e g187 (Ev.lnF e) e e (.gp e g187 e (.z 5416 (.pkF e g187 e) e e (.nil (.condO e h (fun g188 h => ?_) (fun g188 h => ?_))))))))))
   ·refine Run.so hm (.p e (.nil (.ret ?_)))
    obtain rfl := someO h
    exact Ends.mkG (.inl e) e (gh_pk [0] [] hB e e e e) e e
   ·refine Run.skip (.seqO h (fun v223 => []) (fun (v223 : Unit) => []) (fun h => ?_) (fun v223 h => ?_))
    ·refine Run.so hm (.p e (.nil (.block ?_)))
     obtain ⟨res244,h,hk244⟩ := bindO h
     refine Run.loop (n := N) (fun m244 fr σ => ∃ (x224 : Int),spec_l12Same_l1 N x1 x2 m244 x224 = some res244 ∧ fr = [(2,.ptr 0 0),(3,.ptr 1 0),(5,VI x224)] ∧ σ = [(0,.box [VI x1.Start,VI x1.StartTerm,RO 51 (x1.Entries.map encEntry)]),(1,.box [VI x2.Start,VI x2.StartTerm,RO 51 (x2.Entries.map encEntry)])]) (gh_pk [2,3,5] [1000,1016] hB e e e e) ⟨_,h,e,e⟩ ?_
     rintro m244 fr σ ⟨x224,h,rfl,rfl⟩
     obtain _ | m244 := m244
     ·rw [spec_l12Same_l1] at h; cases h
     rw [spec_l12Same_l1] at h
     refine Run.seq (.so hm (.p3 e e e (.z 17432 (Ev.lnF e) e e (.p e (.nil (.condO e h (fun g247 h => ?_) (fun g247 h => ?_)))))))
     ·refine Run.skip (.seq (.block (.seq (.draw hm hmix (.p e (.p e (.p e ?_)))))))
      obtain ⟨x255,hx255,h⟩ := bindO h
      refine OpsD.z 25624 (Ev.iaF e e hx255) e e (.p e (.p e (.p e (.p e ?_))))
      obtain ⟨x256,hx256,h⟩ := bindO h
      refine OpsD.z 25704 (Ev.iaF e e hx256) e e (.p e (.p e (.nil ⟨by kernel_rfl,?_⟩)))
      refine Run.condO e h (fun g257 h => ?_) (fun g257 h => ?_)
      ·refine Run.so hm (.p e (.nil (.ret ?_)))
       obtain rfl := someO h
       have h := hk244
       replace h := inlO h
       obtain rfl := someO h
       exact Ends.mkG (.inl e) e (gh_pk [0] [] hB e e e e) e e
      ·exact Run.skip (.ops hm (.p3 e e e (.nil (⟨m244,Nat.lt_succ_self m244,_,_,(gh_pk [2,3,5] [0,1] hB e e e e),_,h,e,e⟩))))
     ·refine Run.exit ?_
      obtain rfl := someO h
      have h := hk244
      replace h := inrO h
      exact ⟨_,_,(gh_pk [] [] hB e e e e),(),h,e,e⟩
    ·refine Run.so hm (.p e (.nil (.ret ?_)))
     obtain rfl := someO h
     exact Ends.mkG (.inl e) e (gh_pk [0] [] hB e e e e) e e
def spec_LogSteps_l1 (N : Nat) (x2 : Log) (x3 : Log) : Nat → Int → Option (Int)
 | 0,_ => none
 | m + 1,x344 =>
 (if (decide (x344 < (x2.Entries.length : Int))) = true then
 (if (decide (x344 < (x3.Entries.length : Int))) = true then
 (at? x2.Entries x344).bind fun x386 =>
 (at? x3.Entries x344).bind fun x387 =>
 (if (((x386.Term == x387.Term) && ((x386.Kind == x387.Kind) && (decide (x386.Data = x387.Data) && true))) ^^ false) = true then
 spec_LogSteps_l1 N x2 x3 m (w64 (x344 + 1))
 else
 some x344)
 else
 some x344)
 else
 some x344)
def spec_LogSteps_l1_r (N : Nat) (x2 : Log) (x3 : Log) : (List Entry) → Int → Option (Int)
 | [],x344 =>
 some x344
 | hd :: tl,x344 =>
 (if (decide (x344 < (x3.Entries.length : Int))) = true then
 (some hd).bind fun x386 =>
 (at? x3.Entries x344).bind fun x387 =>
 (if (((x386.Term == x387.Term) && ((x386.Kind == x387.Kind) && (decide (x386.Data = x387.Data) && true))) ^^ false) = true then
 spec_LogSteps_l1_r N x2 x3 tl (w64 (x344 + 1))
 else
 some x344)
 else
 some x344)
theorem spec_LogSteps_l1_rng (N : Nat) (x2 : Log) (x3 : Log) (hx : x2.Entries.length ≤ 1099511627776) : ∀ (d k m : Nat),x2.Entries.length = k + d → d < m → spec_LogSteps_l1 N x2 x3 m (k : Int) = spec_LogSteps_l1_r N x2 x3 (x2.Entries.drop k) (k : Int) := by
 intro d
 induction d with
 | zero =>
  intro k m hd hm
  obtain ⟨m,rfl⟩ : ∃ q,m = q + 1 := ⟨m - 1,by omega⟩
  rw [spec_LogSteps_l1,if_neg (by simp; omega),List.drop_eq_nil_of_le (by omega),spec_LogSteps_l1_r]
 | succ d ih =>
  intro k m hd hm
  obtain ⟨m,rfl⟩ : ∃ q,m = q + 1 := ⟨m - 1,by omega⟩
  have hk : k < x2.Entries.length := by omega
  rw [spec_LogSteps_l1,if_pos (by simp; omega),List.drop_eq_getElem_cons hk,spec_LogSteps_l1_r]
  have h1 := at_lt hk
  have h2 := w64_succ (k := k) (by omega)
  have h3 := ih (k + 1) m
  simp only [h1,h2,h3 (by omega) (by omega)]
theorem spec_LogSteps_l1_eq {N : Nat} (x2 : Log) (x3 : Log) (hx : x2.Entries.length ≤ 1099511627776) (hN : x2.Entries.length < N) : spec_LogSteps_l1 N x2 x3 N 0 = spec_LogSteps_l1_r N x2 x3 x2.Entries 0 := spec_LogSteps_l1_rng N x2 x3 hx x2.Entries.length 0 N (by omega) hN
def spec_LogSteps (N : Nat) (x1 : ByteArray) (x2 : Log) (x3 : Log) : Option ((List Raw) × Bool) :=
 (spec_ReadLog N x1).bind fun y257 =>
 (spec_LogFile N x3).bind fun y261 =>
 (spec_LogOk N x2).bind fun y281 =>
 (if (!y281) = true then
 some (([] : List Raw),false)
 else
 (if (!y261.2) = true then
 some (([] : List Raw),false)
 else
 (if (!y257.2.2) = true then
 some (([] : List Raw),false)
 else
 (if (y257.2.1 != (x1.size : Int)) = true then
 some (([] : List Raw),false)
 else
 (spec_l12Same N y257.1 x2).bind fun y286 =>
 (if (!y286) = true then
 some (([] : List Raw),false)
 else
 (spec_l12Same N x2 x3).bind fun y292 =>
 (if y292 = true then
 some (([] : List Raw),true)
 else
 joinP (fun (v341 : Int) =>
 (spec_l12Frames N x3 v341).bind fun y392 =>
 joinP (fun (v400 : Unit) =>
 some (([(Raw.mk 1 (⟨#[108,111,103,43]⟩ : ByteArray) (⟨#[]⟩ : ByteArray) y261.1),(Raw.mk 3 (⟨#[108,111,103,43]⟩ : ByteArray) (⟨#[108,111,103]⟩ : ByteArray) (⟨#[]⟩ : ByteArray))] : List Raw),true)) fun j400 =>
 (if (x2.Start == x3.Start) = true then
 (if (x2.StartTerm == x3.StartTerm) = true then
 (if (decide (v341 < (x3.Entries.length : Int))) = true then
 (if (decide ((w64 ((x1.size : Int) + (y392.size : Int))) ≤ 20000)) = true then
 some (([(Raw.mk 2 (⟨#[108,111,103]⟩ : ByteArray) (⟨#[]⟩ : ByteArray) y392)] : List Raw),true)
 else
 j400 ())
 else
 j400 ())
 else
 j400 ())
 else
 j400 ())) fun j341 =>
 (spec_LogSteps_l1 N x2 x3 N 0).bind (fun v369 => j341 v369)))))))
theorem sem_spec_LogSteps (N : Nat) (x1 : ByteArray) (x2 : Log) (x3 : Log) (r : (List Raw) × Bool) (h : spec_LogSteps N x1 x2 x3 = some r) : Says Try.prog 10 [VS x1,.agg [VI x2.Start,VI x2.StartTerm,RO 51 (x2.Entries.map encEntry)],.agg [VI x3.Start,VI x3.StartTerm,RO 51 (x3.Entries.map encEntry)]] 0 [] (.tup [.sl 0 70 0 r.1.length,VB r.2]) [(0,.vec 70 (r.1.map encRaw))] := by
 unfold spec_LogSteps at h
 refine Says.of_run s10 Try.call10 e fun B hB => ?_
 have hm : B.m ≤ 1000 := by omega
 refine Run.so hm (.z 1000 (.bx e e) e e (.z 1016 (.bx e e) e e (.p2 e e (.nil (.so hm (.z 5096 (Ev.bsW (ys := ([] : List Raw)) (f := encRaw) e .nil e e e e e) e e (.p e (.nil (.so hm (.p e ?_))))))))))
 obtain ⟨y257,hy257,h⟩ := bindO h
 refine Ops.z 9208 (Ev.call [] [] 1 (sem_spec_ReadLog _ _ _ hy257) e e (.d1 .nil) e (.inl e) e e) e e (.p3 e e e (.p e (.z 9288 (.al e e) e e (.y 9304 (.sto e e e e e e) e e (.p2 e e (.nil (.so hm (.p e ?_))))))))
 obtain ⟨y261,hy261,h⟩ := bindO h
 refine Ops.z 13304 (Ev.call [] [] 0 (sem_spec_LogFile _ _ _ hy261) e e (.cons (.agg (.d2 (.d1 .nil))) .nil) e (.inl e) e e) e e (.p3 e e e (.p2 e e (.nil (.seq (.so hm (.p e ?_))))))
 obtain ⟨y281,hy281,h⟩ := bindO h
 refine Ops.z 17400 (Ev.call [] [] 0 (sem_spec_LogOk _ _ _ hy281) e e (.cons (.agg (.d2 (.d1 .nil))) .nil) e (.inl e) e e) e e (.p2 e e (.askO (x := .t 31) e h (fun g282 h => ?_) (fun g282 h => ?_)))
 ·refine Ops.gn e g282 (.gn e g282 (.z 17480 (.pkT e g282 e) e e (.p e (.gn e e (.gn e e (.z 17544 (.pkT e e e) e e (.p e (.gn e e (.gn e e (.gn e e (.gn e e (.z 17640 (.pkT e e e) e e (.p e (.gn e e (.gn e e (.gn e e (.gn e e (.z 17736 (.pkT e e e) e e (.nil (.condT e e (.so hm (.p3 e e e (.nil (.ret ?_))))))))))))))))))))))))
  obtain rfl := someO h
  exact Ends.mkG (.inl e) e (gh_pk [0,1] [5096] hB e e e e) e e
 ·refine Ops.gp e g282 e (.gp e g282 e (.z 17480 (.pkF e g282 e) e e (.p e (.askO (x := .t 35) e h (fun g283 h => ?_) (fun g283 h => ?_)))))
  ·refine Ops.gn e g283 (.gn e g283 (.z 17544 (.pkT e g283 e) e e (.p e (.gn e e (.gn e e (.gn e e (.gn e e (.z 17640 (.pkT e e e) e e (.p e (.gn e e (.gn e e (.gn e e (.gn e e (.z 17736 (.pkT e e e) e e (.nil (.condT e e (.so hm (.p3 e e e (.nil (.ret ?_))))))))))))))))))))
   obtain rfl := someO h
   exact Ends.mkG (.inl e) e (gh_pk [0,1] [5096] hB e e e e) e e
  ·refine Ops.gp e g283 e (.gp e g283 e (.z 17544 (.pkF e g283 e) e e (.p e (.askO (x := .t 39) e h (fun g284 h => ?_) (fun g284 h => ?_)))))
   ·refine Ops.gn e g284 (.gn e g284 (.gn e g284 (.gn e g284 (.z 17640 (.pkT e g284 e) e e (.p e (.gn e e (.gn e e (.gn e e (.gn e e (.z 17736 (.pkT e e e) e e (.nil (.condT e e (.so hm (.p3 e e e (.nil (.ret ?_))))))))))))))))
    obtain rfl := someO h
    exact Ends.mkG (.inl e) e (gh_pk [0,1] [5096] hB e e e e) e e
   ·refine Ops.gp e g284 e (.gp e g284 e (.gp e g284 e (.gp e g284 e (.z 17640 (.pkF e g284 e) e e (.p e (.askO (x := .t 45) e h (fun g285 h => ?_) (fun g285 h => ?_)))))))
    ·refine Ops.gn e g285 (.gn e g285 (.gn e g285 (.gn e g285 (.z 17736 (.pkT e g285 e) e e (.nil (.condT e e (.so hm (.p3 e e e (.nil (.ret ?_))))))))))
     obtain rfl := someO h
     exact Ends.mkG (.inl e) e (gh_pk [0,1] [5096] hB e e e e) e e
    ·refine Ops.gp e g285 e (.gp e g285 e ?_)
     obtain ⟨y286,hy286,h⟩ := bindO h
     refine Ops.gs (s := 17704) e g285 (Ev.call [] [9208] 0 (sem_spec_l12Same _ _ _ _ hy286) e e (.cons (.agg (.d2 (.cons (.borrow e (by decide) (lendW (fun _ => e) _ e)) .nil))) (.cons (.agg (.d2 (.d1 .nil))) .nil)) e (.inr ⟨e,ownL_root trivial⟩) e e) e e ?_
     refine Ops.gp e g285 e (.z 17736 (.pkF e g285 e) e e (.nil (.condO e h (fun g287 h => ?_) (fun g287 h => ?_))))
     ·refine Run.so hm (.p3 e e e (.nil (.ret ?_)))
      obtain rfl := someO h
      exact Ends.mkG (.inl e) e (gh_pk [0,1] [5096] hB e e e e) e e
     ·refine Run.skip (.seq (.so hm (.p2 e e ?_)))
      obtain ⟨y292,hy292,h⟩ := bindO h
      refine Ops.z 25608 (Ev.call [] [] 0 (sem_spec_l12Same _ _ _ _ hy292) e e (.cons (.agg (.d2 (.d1 .nil))) (.cons (.agg (.d2 (.d1 .nil))) .nil)) e (.inl e) e e) e e (.nil (.condO e h (fun g293 h => ?_) (fun g293 h => ?_)))
      ·refine Run.so hm (.p3 e e e (.nil (.ret ?_)))
       obtain rfl := someO h
       exact Ends.mkG (.inl e) e (gh_pk [0,1] [5096] hB e e e e) e e
      ·refine Run.skip (.so hm (.p e (.nil (.seqO h (fun v341 => [(0,VS x1),(4,.ptr 0 0),(5,.ptr 1 0),(12,VS y261.1),(14,VI v341)]) (fun (v341 : Int) => [(0,.box [VI x2.Start,VI x2.StartTerm,RO 51 (x2.Entries.map encEntry)]),(1,.box [VI x3.Start,VI x3.StartTerm,RO 51 (x3.Entries.map encEntry)])]) (fun h => ?_) (fun v341 h => ?_)))))
       ·refine Run.block ?_
        obtain ⟨res369,h,hk369⟩ := bindO h
        refine Run.loop (n := N) (fun m369 fr σ => ∃ (x344 : Int),spec_LogSteps_l1 N x2 x3 m369 x344 = some res369 ∧ fr = [(0,VS x1),(4,.ptr 0 0),(5,.ptr 1 0),(12,VS y261.1),(14,VI x344)] ∧ σ = [(0,.box [VI x2.Start,VI x2.StartTerm,RO 51 (x2.Entries.map encEntry)]),(1,.box [VI x3.Start,VI x3.StartTerm,RO 51 (x3.Entries.map encEntry)])]) (gh_pk [0,4,5,12,14] [1000,1016] hB e e e e) ⟨_,h,e,e⟩ ?_
        rintro m369 fr σ ⟨x344,h,rfl,rfl⟩
        obtain _ | m369 := m369
        ·rw [spec_LogSteps_l1] at h; cases h
        rw [spec_LogSteps_l1] at h
        refine Run.seq (.seq (.draw hm hmix (.p e (.p e (.p e (.z 37912 (Ev.lnF e) e e (.p e (.p e (.askO (x := .t 61) e h (fun g384 h => ?_) (fun g384 h => ?_))))))))))
        ·refine OpsD.gp e g384 e (.gp e g384 e (.gp e g384 e (.gs (s := 38008) e g384 (Ev.lnF e) e e (.gp e g384 e (.z 38040 (.pkT e g384 e) e e (.p e (.askO (x := .t 68) e h (fun g385 h => ?_) (fun g385 h => ?_))))))))
         ·refine OpsD.gp e g385 e (.gp e g385 e (.gp e g385 e ?_))
          obtain ⟨x386,hx386,h⟩ := bindO h
          refine OpsD.gs (s := 38120) e g385 (Ev.iaF e e hx386) e e (.gp e g385 e (.gp e g385 e (.gp e g385 e (.gp e g385 e ?_))))
          obtain ⟨x387,hx387,h⟩ := bindO h
          refine OpsD.gs (s := 38200) e g385 (Ev.iaF e e hx387) e e (.gp e g385 e (.gp e g385 e (.z 38248 (.pkT e g385 e) e e (.nil ⟨by kernel_rfl,?_⟩))))
          refine Run.condO e h (fun g388 h => ?_) (fun g388 h => ?_)
          ·exact Run.skip (.block (.ops hm (.p3 e e e (.nil (⟨m369,Nat.lt_succ_self m369,_,_,(gh_pk [0,4,5,12,14] [0,1] hB e e e e),_,h,e,e⟩)))))
          ·refine Run.exit ?_
           obtain rfl := someO h
           have h := hk369
           exact ⟨_,_,(gh_pk [0,4,5,12,14] [0,1] hB e e e e),_,h,e,e⟩
         ·refine OpsD.gn e g385 (.gn e g385 (.gn e g385 (.gn e g385 (.gn e g385 (.gn e g385 (.gn e g385 (.gn e g385 (.gn e g385 (.gn e g385 (.gn e g385 (.z 38248 (.pkF e g385 e) e e (.nil ⟨by kernel_rfl,?_⟩))))))))))))
          refine Run.condF e e (.exit ?_)
          obtain rfl := someO h
          have h := hk369
          exact ⟨_,_,(gh_pk [0,4,5,12,14] [0,1] hB e e e e),_,h,e,e⟩
        ·refine OpsD.gn e g384 (.gn e g384 (.gn e g384 (.gn e g384 (.gn e g384 (.z 38040 (.pkF e g384 e) e e (.p e (.gn e e (.gn e e (.gn e e (.gn e e (.gn e e (.gn e e (.gn e e (.gn e e (.gn e e (.gn e e (.gn e e (.z 38248 (.pkF e e e) e e (.nil ⟨by kernel_rfl,?_⟩)))))))))))))))))))
         refine Run.condF e e (.exit ?_)
         obtain rfl := someO h
         have h := hk369
         exact ⟨_,_,(gh_pk [0,4,5,12,14] [0,1] hB e e e e),_,h,e,e⟩
       ·refine Run.so hm (.p2 e e ?_)
        obtain ⟨y392,hy392,h⟩ := bindO h
        refine Ops.z 46088 (Ev.call [] [] 0 (sem_spec_l12Frames _ _ _ _ hy392) e e (.cons (.agg (.d2 (.d1 .nil))) (.d1 .nil)) e (.inl e) e e) e e (.p e (.nil (.seqO h (fun v400 => [(12,VS y261.1)]) (fun (v400 : Unit) => []) (fun h => ?_) (fun v400 h => ?_))))
        ·refine Run.so hm (.p3 e e e (.p3 e e e (.askO (x := .t 91) e h (fun g404 h => ?_) (fun g404 h => ?_))))
         ·refine Ops.gp e g404 e (.gp e g404 e (.gp e g404 e (.gp e g404 e (.gp e g404 e (.z 50328 (.pkT e g404 e) e e (.p e (.askO (x := .t 98) e h (fun g405 h => ?_) (fun g405 h => ?_))))))))
          ·refine Ops.gp e g405 e (.gp e g405 e (.gp e g405 e (.gs (s := 50408) e g405 (Ev.lnF e) e e (.gp e g405 e (.z 50440 (.pkT e g405 e) e e (.p e (.askO (x := .t 105) e h (fun g406 h => ?_) (fun g406 h => ?_))))))))
           ·refine Ops.gp e g406 e (.gp e g406 e (.gp e g406 e (.gp e g406 e (.gp e g406 e (.gp e g406 e (.z 50568 (.pkT e g406 e) e e (.nil (.condO e h (fun g407 h => ?_) (fun g407 h => ?_)))))))))
            ·refine Run.so hm (.p e (.z 54264 (.bd e e) e e (.z 54280 (Ev.bsW (ys := ([(Raw.mk 2 (⟨#[108,111,103]⟩ : ByteArray) (⟨#[]⟩ : ByteArray) y392)] : List Raw)) (f := encRaw) e (.d4 .nil) e e e e e) e e (.p2 e e (.nil (.ret ?_))))))
             obtain rfl := someO h
             exact Ends.mkG (.inl e) e (gh_pk [0,1] [54280] hB e e e e) e e
            ·exact Run.skip (⟨_,_,(gh_pk [12] [] hB e e e e),(),h,e,e⟩)
           ·exact Ops.gn e g406 (.gn e g406 (.gn e g406 (.gn e g406 (.gn e g406 (.gn e g406 (.z 50568 (.pkF e g406 e) e e (.nil (.condF e e (.skip (⟨_,_,(gh_pk [12] [] hB e e e e),(),h,e,e⟩))))))))))
          ·exact Ops.gn e g405 (.gn e g405 (.gn e g405 (.gn e g405 (.gn e g405 (.z 50440 (.pkF e g405 e) e e (.p e (.gn e e (.gn e e (.gn e e (.gn e e (.gn e e (.gn e e (.z 50568 (.pkF e e e) e e (.nil (.condF e e (.skip (⟨_,_,(gh_pk [12] [] hB e e e e),(),h,e,e⟩)))))))))))))))))
         ·exact Ops.gn e g404 (.gn e g404 (.gn e g404 (.gn e g404 (.gn e g404 (.z 50328 (.pkF e g404 e) e e (.p e (.gn e e (.gn e e (.gn e e (.gn e e (.gn e e (.z 50440 (.pkF e e e) e e (.p e (.gn e e (.gn e e (.gn e e (.gn e e (.gn e e (.gn e e (.z 50568 (.pkF e e e) e e (.nil (.condF e e (.skip (⟨_,_,(gh_pk [12] [] hB e e e e),(),h,e,e⟩))))))))))))))))))))))))
        ·refine Run.so hm (.p e (.z 58360 (.bd e e) e e (.z 58376 (.bd e e) e e (.z 58392 (Ev.bsW (ys := ([(Raw.mk 1 (⟨#[108,111,103,43]⟩ : ByteArray) (⟨#[]⟩ : ByteArray) y261.1),(Raw.mk 3 (⟨#[108,111,103,43]⟩ : ByteArray) (⟨#[108,111,103]⟩ : ByteArray) (⟨#[]⟩ : ByteArray))] : List Raw)) (f := encRaw) e (.d4 (.d4 .nil)) e e e e e) e e (.p2 e e (.nil (.ret ?_)))))))
         obtain rfl := someO h
         exact Ends.mkG (.inl e) e (gh_pk [0,1] [58392] hB e e e e) e e
def spec_DiskOk_l1 (N : Nat) (x1 : Disk) : Nat → Int → Option ((Bool) ⊕ (Unit))
 | 0,_ => none
 | m + 1,x343 =>
 (if (decide (x343 < (x1.Files.length : Int))) = true then
 joinP (fun (v404 : Unit) =>
 spec_DiskOk_l1 N x1 m (w64 (x343 + 1))) fun j404 =>
 (at? x1.Files x343).bind fun x413 =>
 (spec_l01In N (x413.Name.size : Int) 1 12).bind fun y414 =>
 (if (!y414) = true then
 some (Sum.inl false)
 else
 (at? x1.Files x343).bind fun x416 =>
 (if (decide ((x416.Text.size : Int) > 20000)) = true then
 some (Sum.inl false)
 else
 (if (decide (x343 > 0)) = true then
 (at? x1.Files (w64 (x343 - 1))).bind fun x419 =>
 (at? x1.Files x343).bind fun x420 =>
 (if (!Op.bytesLess x419.Name.toList x420.Name.toList) = true then
 some (Sum.inl false)
 else
 j404 ())
 else
 j404 ())))
 else
 some (Sum.inr ()))
def spec_DiskOk_l1_r (N : Nat) (x1 : Disk) : (List File) → Int → Option ((Bool) ⊕ (Unit))
 | [],x343 =>
 some (Sum.inr ())
 | hd :: tl,x343 =>
 joinP (fun (v404 : Unit) =>
 spec_DiskOk_l1_r N x1 tl (w64 (x343 + 1))) fun j404 =>
 (some hd).bind fun x413 =>
 (spec_l01In N (x413.Name.size : Int) 1 12).bind fun y414 =>
 (if (!y414) = true then
 some (Sum.inl false)
 else
 (some hd).bind fun x416 =>
 (if (decide ((x416.Text.size : Int) > 20000)) = true then
 some (Sum.inl false)
 else
 (if (decide (x343 > 0)) = true then
 (at? x1.Files (w64 (x343 - 1))).bind fun x419 =>
 (some hd).bind fun x420 =>
 (if (!Op.bytesLess x419.Name.toList x420.Name.toList) = true then
 some (Sum.inl false)
 else
 j404 ())
 else
 j404 ())))
theorem spec_DiskOk_l1_rng (N : Nat) (x1 : Disk) (hx : x1.Files.length ≤ 1099511627776) : ∀ (d k m : Nat),x1.Files.length = k + d → d < m → spec_DiskOk_l1 N x1 m (k : Int) = spec_DiskOk_l1_r N x1 (x1.Files.drop k) (k : Int) := by
 intro d
 induction d with
 | zero =>
  intro k m hd hm
  obtain ⟨m,rfl⟩ : ∃ q,m = q + 1 := ⟨m - 1,by omega⟩
  rw [spec_DiskOk_l1,if_neg (by simp; omega),List.drop_eq_nil_of_le (by omega),spec_DiskOk_l1_r]
 | succ d ih =>
  intro k m hd hm
  obtain ⟨m,rfl⟩ : ∃ q,m = q + 1 := ⟨m - 1,by omega⟩
  have hk : k < x1.Files.length := by omega
  rw [spec_DiskOk_l1,if_pos (by simp; omega),List.drop_eq_getElem_cons hk,spec_DiskOk_l1_r]
  have h1 := at_lt hk
  have h2 := w64_succ (k := k) (by omega)
  have h3 := ih (k + 1) m
  simp only [h1,h2,h3 (by omega) (by omega)]
theorem spec_DiskOk_l1_eq {N : Nat} (x1 : Disk) (hx : x1.Files.length ≤ 1099511627776) (hN : x1.Files.length < N) : spec_DiskOk_l1 N x1 N 0 = spec_DiskOk_l1_r N x1 x1.Files 0 := spec_DiskOk_l1_rng N x1 hx x1.Files.length 0 N (by omega) hN
def spec_DiskOk (N : Nat) (x1 : Disk) : Option (Bool) :=
 (if (decide ((x1.Files.length : Int) > 30)) = true then
 some false
 else
 joinP (fun (v342 : Unit) =>
 some true) fun j342 =>
 (spec_DiskOk_l1 N x1 N 0).bind (Sum.elim (fun v382 => some v382) (fun (v383 : Unit) => j342 ())))
theorem sem_spec_DiskOk (N : Nat) (x1 : Disk) (r : Bool) (h : spec_DiskOk N x1 = some r) : Says Try.prog 33 [.agg [RO 38 (x1.Files.map encFile)]] 0 [] (VB r) [] := by
 unfold spec_DiskOk at h
 refine Says.of_norm e Try.call33 e fun B hB => ?_
 have hm : B.m ≤ 1000 := by omega
 refine Run.so hm (.z 1000 (.bx e e) e e (.p e (.nil (.seq (.so hm (.p2 e e (.z 5128 (Ev.lnF e) e e (.p e (.nil (.condO e h (fun g262 h => ?_) (fun g262 h => ?_)))))))))))
 ·refine Run.so hm (.p e (.nil (.ret ?_)))
  obtain rfl := someO h
  exact Ends.mkG (.inl e) e (gh_pk [0] [] hB e e e e) e e
 ·refine Run.skip (.seqO h (fun v342 => []) (fun (v342 : Unit) => []) (fun h => ?_) (fun v342 h => ?_))
  ·refine Run.so hm (.p e (.nil (.block ?_)))
   obtain ⟨res383,h,hk383⟩ := bindO h
   refine Run.loop (n := N) (fun m383 fr σ => ∃ (x343 : Int),spec_DiskOk_l1 N x1 m383 x343 = some res383 ∧ fr = [(1,.ptr 0 0),(3,VI x343)] ∧ σ = [(0,.box [RO 38 (x1.Files.map encFile)])]) (gh_pk [1,3] [1000] hB e e e e) ⟨_,h,e,e⟩ ?_
   rintro m383 fr σ ⟨x343,h,rfl,rfl⟩
   obtain _ | m383 := m383
   ·rw [spec_DiskOk_l1] at h; cases h
   rw [spec_DiskOk_l1] at h
   refine Run.seq (.so hm (.p3 e e e (.z 17432 (Ev.lnF e) e e (.p e (.nil (.condO e h (fun g386 h => ?_) (fun g386 h => ?_)))))))
   ·refine Run.skip (.seqO h (fun v404 => [(1,.ptr 0 0),(3,VI x343)]) (fun (v404 : Unit) => [(0,.box [RO 38 (x1.Files.map encFile)])]) (fun h => ?_) (fun v404 h => ?_))
    ·refine Run.block (.seq (.draw hm hmix (.p e (.p e (.p e ?_)))))
     obtain ⟨x413,hx413,h⟩ := bindO h
     refine OpsD.z 25624 (Ev.iaF e e hx413) e e (.p e (.p e (.p e ?_)))
     obtain ⟨y414,hy414,h⟩ := bindO h
     refine OpsD.z 25688 (Ev.call [] [] 0 (sem_spec_l01In _ _ _ _ _ hy414) e e (.d2 (.d1 .nil)) e (.inl e) e e) e e (.p e (.p e (.askO (x := .t 24) e h (fun g415 h => ?_) (fun g415 h => ?_))))
     ·refine OpsD.gn e g415 (.gn e g415 (.gn e g415 (.gn e g415 (.gn e g415 (.gn e g415 (.gn e g415 (.gn e g415 (.z 25864 (.pkT e g415 e) e e (.p e (.gn e e (.gn e e (.gn e e (.gu e (.gu e (.gu e (.gu e (.gu e (.gu e (.gu e (.gu e (.gu e (.gu e (.gu e (.gu e (.gu e (.gu e (.gn e e (.z 26184 (.pkT e e e) e e (.nil ⟨by kernel_rfl,?_⟩)))))))))))))))))))))))))))))
      refine Run.condT e e (.so hm (.p e (.nil (.ret ?_))))
      obtain rfl := someO h
      have h := hk383
      replace h := inlO h
      obtain rfl := someO h
      exact Ends.mkG (.inl e) e (gh_pk [0] [] hB e e e e) e e
     ·refine OpsD.gp e g415 e (.gp e g415 e (.gp e g415 e ?_))
      obtain ⟨x416,hx416,h⟩ := bindO h
      refine OpsD.gs (s := 25784) e g415 (Ev.iaF e e hx416) e e (.gp e g415 e (.gp e g415 e (.gp e g415 e (.gp e g415 e (.z 25864 (.pkF e g415 e) e e (.p e (.askO (x := .t 34) e h (fun g417 h => ?_) (fun g417 h => ?_))))))))
      ·refine OpsD.gn e g417 (.gn e g417 (.gn e g417 (.gu e (.gu e (.gu e (.gu e (.gu e (.gu e (.gu e (.gu e (.gu e (.gu e (.gu e (.gu e (.gu e (.gu e (.gn e g417 (.z 26184 (.pkT e g417 e) e e (.nil ⟨by kernel_rfl,?_⟩)))))))))))))))))))
       refine Run.condT e e (.so hm (.p e (.nil (.ret ?_))))
       obtain rfl := someO h
       have h := hk383
       replace h := inlO h
       obtain rfl := someO h
       exact Ends.mkG (.inl e) e (gh_pk [0] [] hB e e e e) e e
      ·refine OpsD.gp e g417 e (.gp e g417 e (.gp e g417 e (.askO (x := .t 37) e h (fun g418 h => ?_) (fun g418 h => ?_))))
       ·refine OpsD.gp e g418 e (.gp e g418 e (.gp e g418 e (.gp e g418 e ?_)))
        obtain ⟨x419,hx419,h⟩ := bindO h
        refine OpsD.gs (s := 26008) e g418 (Ev.iaF e e hx419) e e (.gp e g418 e (.gp e g418 e (.gp e g418 e (.gp e g418 e (.gp e g418 e ?_)))))
        obtain ⟨x420,hx420,h⟩ := bindO h
        refine OpsD.gs (s := 26104) e g418 (Ev.iaF e e hx420) e e (.gp e g418 e (.gp e g418 e (.gp e g418 e (.gs (s := 26168) e g417 (.pkT e g418 e) e e (.z 26184 (.pkF e g417 e) e e (.nil ⟨by kernel_rfl,?_⟩))))))
        refine Run.condO e h (fun g421 h => ?_) (fun g421 h => ?_)
        ·refine Run.so hm (.p e (.nil (.ret ?_)))
         obtain rfl := someO h
         have h := hk383
         replace h := inlO h
         obtain rfl := someO h
         exact Ends.mkG (.inl e) e (gh_pk [0] [] hB e e e e) e e
        ·exact Run.skip (⟨_,_,(gh_pk [1,3] [0] hB e e e e),(),h,e,e⟩)
       ·refine OpsD.gn e g418 (.gn e g418 (.gn e g418 (.gn e g418 (.gn e g418 (.gn e g418 (.gn e g418 (.gn e g418 (.gn e g418 (.gn e g418 (.gn e g418 (.gn e g418 (.gn e g418 (.gn e g418 (.gs (s := 26168) e g417 (.pkF e g418 e) e e (.z 26184 (.pkF e g417 e) e e (.nil ⟨by kernel_rfl,?_⟩))))))))))))))))
        exact Run.condF e e (.skip (⟨_,_,(gh_pk [1,3] [0] hB e e e e),(),h,e,e⟩))
    ·exact Run.ops hm (.p3 e e e (.nil (⟨m383,Nat.lt_succ_self m383,_,_,(gh_pk [1,3] [0] hB e e e e),_,h,e,e⟩)))
   ·refine Run.exit ?_
    obtain rfl := someO h
    have h := hk383
    replace h := inrO h
    exact ⟨_,_,(gh_pk [] [] hB e e e e),(),h,e,e⟩
  ·refine Run.so hm (.p e (.nil (.ret ?_)))
   obtain rfl := someO h
   exact Ends.mkG (.inl e) e (gh_pk [0] [] hB e e e e) e e
end Go.Proofs.Ythlhkcnilehbbaa.Pe.FnLogs
