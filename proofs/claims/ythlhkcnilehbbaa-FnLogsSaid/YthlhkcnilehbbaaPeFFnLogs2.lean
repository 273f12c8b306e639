/- Functions,as pure functions; and that Go does just that. -/
import Derived.Test.YthlhkcnilehbbaaPeFFnLogs1
namespace Go.Proofs.Ythlhkcnilehbbaa.Pe.FnLogs
open Go Go.RowKit
set_option linter.unusedVariables false
set_option linter.unusedSimpArgs false
set_option maxHeartbeats 40000000
set_option maxRecDepth 100000
def spec_LogFile (N : Nat) (x1 : Log) : Option (ByteArray × Bool) :=
 (spec_LogOk N x1).bind fun y124 =>
 (if (!y124) = true then
 some ((⟨#[]⟩ : ByteArray),false)
 else
 (spec_l12Head N x1).bind fun y135 =>
 (spec_l12Frames N x1 0).bind fun y136 =>
 (scat? y135 y136).bind fun x137 =>
 (if (decide ((x137.size : Int) > 20000)) = true then
 some ((⟨#[]⟩ : ByteArray),false)
 else
 some (x137,true)))
theorem sem_spec_LogFile (N : Nat) (x1 : Log) (r : ByteArray × Bool) (h : spec_LogFile N x1 = some r) : Says Try.prog 19 [.agg [VI x1.Start,VI x1.StartTerm,RO 51 (x1.Entries.map encEntry)]] 0 [] (.tup [VS r.1,VB r.2]) [] := by
 unfold spec_LogFile at h
 refine Says.of_norm e Try.call19 e fun B hB => ?_
 have hm : B.m ≤ 1000 := by omega
 refine Run.so hm (.z 1000 (.bx e e) e e (.p2 e e (.nil (.seq (.so hm (.p e ?_))))))
 obtain ⟨y124,hy124,h⟩ := bindO h
 refine Ops.z 5112 (Ev.call [] [] 0 (sem_spec_LogOk _ _ _ hy124) e e (.cons (.agg (.d2 (.d1 .nil))) .nil) e (.inl e) e e) e e (.p e (.nil (.condO e h (fun g125 h => ?_) (fun g125 h => ?_))))
 ·refine Run.so hm (.p2 e e (.nil (.ret ?_)))
  obtain rfl := someO h
  exact Ends.mkG (.inl e) e (gh_pk [0,1] [] hB e e e e) e e
 ·refine Run.skip (.seq (.draw hm hmix (.p e ?_)))
  obtain ⟨y135,hy135,h⟩ := bindO h
  refine OpsD.z 13304 (Ev.call [] [] 0 (sem_spec_l12Head _ _ _ hy135) e e (.cons (.agg (.d2 (.d1 .nil))) .nil) e (.inl e) e e) e e (.p e ?_)
  obtain ⟨y136,hy136,h⟩ := bindO h
  refine OpsD.z 13336 (Ev.call [] [] 0 (sem_spec_l12Frames _ _ _ _ hy136) e e (.cons (.agg (.d2 (.d1 .nil))) (.d1 .nil)) e (.inl e) e e) e e ?_
  obtain ⟨x137,hx137,h⟩ := bindO h
  refine OpsD.z 13352 (Ev.addS e e hx137) e e (.p e (.nil ⟨by kernel_rfl,?_⟩))
  refine Run.seq (.so hm (.p3 e e e (.nil (.condO e h (fun g139 h => ?_) (fun g139 h => ?_)))))
  ·refine Run.so hm (.p2 e e (.nil (.ret ?_)))
   obtain rfl := someO h
   exact Ends.mkG (.inl e) e (gh_pk [0,1] [] hB e e e e) e e
  ·refine Run.skip (.so hm (.p3 e e e (.nil (.ret ?_))))
   obtain rfl := someO h
   exact Ends.mkG (.inl e) e (gh_pk [0,1] [] hB e e e e) e e
def spec_LogLast (N : Nat) (x1 : Log) : Option (Int × Int) :=
 (if ((x1.Entries.length : Int) == 0) = true then
 some (x1.Start,x1.StartTerm)
 else
 (at? x1.Entries (w64 ((x1.Entries.length : Int) - 1))).bind fun x107 =>
 some (w64 (x1.Start + (x1.Entries.length : Int)),x107.Term))
theorem sem_spec_LogLast (N : Nat) (x1 : Log) (r : Int × Int) (h : spec_LogLast N x1 = some r) : Says Try.prog 45 [.agg [VI x1.Start,VI x1.StartTerm,RO 51 (x1.Entries.map encEntry)]] 0 [] (.tup [VI r.1,VI r.2]) [] := by
 unfold spec_LogLast at h
 refine Says.of_norm e Try.call45 e fun B hB => ?_
 have hm : B.m ≤ 1000 := by omega
 refine Run.so hm (.z 1000 (.bx e e) e e (.p2 e e (.nil (.so hm (.p2 e e (.z 5128 (Ev.lnF e) e e (.p e (.nil (.seq (.so hm (.p2 e e (.nil (.condO e h (fun g105 h => ?_) (fun g105 h => ?_))))))))))))))
 ·refine Run.seq (.draw hm hmix (.p e (.p e (.p e (.p e (.p e (.p e (.nil ⟨by kernel_rfl,?_⟩))))))))
  refine Run.ret ?_
  obtain rfl := someO h
  exact Ends.mkG (.inl e) e (gh_pk [0,1] [] hB e e e e) e e
 ·refine Run.skip (.seq (.draw hm hmix (.p e (.p e (.p e (.p e (.p e (.p e (.p e (.p e ?_))))))))))
  obtain ⟨x107,hx107,h⟩ := bindO h
  refine OpsD.z 17512 (Ev.iaF e e hx107) e e (.p e (.p e (.p e (.p e (.nil ⟨by kernel_rfl,?_⟩)))))
  refine Run.ret ?_
  obtain rfl := someO h
  exact Ends.mkG (.inl e) e (gh_pk [0,1] [] hB e e e e) e e
def spec_l12Last (N : Nat) (x1 : Log) : Option (Int) :=
 some (w64 (x1.Start + (x1.Entries.length : Int)))
theorem sem_spec_l12Last (N : Nat) (x1 : Log) (r : Int) (h : spec_l12Last N x1 = some r) : Says Try.prog 41 [.agg [VI x1.Start,VI x1.StartTerm,RO 51 (x1.Entries.map encEntry)]] 0 [] (VI r) [] := by
 unfold spec_l12Last at h
 refine Says.of_norm e Try.call41 e fun B hB => ?_
 have hm : B.m ≤ 1000 := by omega
 refine Run.so hm (.z 1000 (.bx e e) e e (.p e (.nil (.so hm (.p3 e e e (.p e (.z 5160 (Ev.lnF e) e e (.p2 e e (.nil (.ret ?_))))))))))
 obtain rfl := someO h
 exact Ends.mkG (.inl e) e (gh_pk [0] [] hB e e e e) e e
def spec_LogTerm (N : Nat) (x1 : Log) (x2 : Int) : Option (Int) :=
 (if (x2 == x1.Start) = true then
 some x1.StartTerm
 else
 (if (decide (x2 < x1.Start)) = true then
 some (-1 : Int)
 else
 (spec_l12Last N x1).bind fun y124 =>
 (if (decide (x2 > y124)) = true then
 some (-1 : Int)
 else
 (at? x1.Entries (w64 ((w64 (x2 - x1.Start)) - 1))).bind fun x127 =>
 some x127.Term)))
theorem sem_spec_LogTerm (N : Nat) (x1 : Log) (x2 : Int) (r : Int) (h : spec_LogTerm N x1 x2 = some r) : Says Try.prog 47 [.agg [VI x1.Start,VI x1.StartTerm,RO 51 (x1.Entries.map encEntry)],VI x2] 0 [] (VI r) [] := by
 unfold spec_LogTerm at h
 refine Says.of_norm e Try.call47 e fun B hB => ?_
 have hm : B.m ≤ 1000 := by omega
 refine Run.so hm (.z 1000 (.bx e e) e e (.p e (.nil (.seq (.so hm (.p3 e e e (.p e (.nil (.condO e h (fun g115 h => ?_) (fun g115 h => ?_))))))))))
 ·refine Run.so hm (.p3 e e e (.nil (.ret ?_)))
  obtain rfl := someO h
  exact Ends.mkG (.inl e) e (gh_pk [0] [] hB e e e e) e e
 ·refine Run.skip (.seq (.so hm (.p3 e e e (.p2 e e (.askO (x := .t 15) e h (fun g123 h => ?_) (fun g123 h => ?_))))))
  ·refine Ops.gn e g123 (.gn e g123 (.gn e g123 (.gn e g123 (.z 13432 (.pkT e g123 e) e e (.nil (.condT e e (.so hm (.p e (.nil (.ret ?_))))))))))
   obtain rfl := someO h
   exact Ends.mkG (.inl e) e (gh_pk [0] [] hB e e e e) e e
  ·refine Ops.gp e g123 e (.gp e g123 e ?_)
   obtain ⟨y124,hy124,h⟩ := bindO h
   refine Ops.gs (s := 13400) e g123 (Ev.call [] [] 0 (sem_spec_l12Last _ _ _ hy124) e e (.cons (.agg (.d2 (.d1 .nil))) .nil) e (.inl e) e e) e e (.gp e g123 e (.z 13432 (.pkF e g123 e) e e (.nil (.condO e h (fun g125 h => ?_) (fun g125 h => ?_)))))
   ·refine Run.so hm (.p e (.nil (.ret ?_)))
    obtain rfl := someO h
    exact Ends.mkG (.inl e) e (gh_pk [0] [] hB e e e e) e e
   ·refine Run.skip (.so hm (.p3 e e e (.p3 e e e (.p e ?_))))
    obtain ⟨x127,hx127,h⟩ := bindO h
    refine Ops.z 21592 (Ev.iaF e e hx127) e e (.p3 e e e (.nil (.ret ?_)))
    obtain rfl := someO h
    exact Ends.mkG (.inl e) e (gh_pk [0] [] hB e e e e) e e
def spec_LogBehind (N : Nat) (x1 : Log) (x2 : Int) (x3 : Int) : Option (Log) :=
 joinP (fun (v152 : (List Entry)) =>
 some (Log.mk x2 x3 v152)) fun j152 =>
 (spec_LogOk N x1).bind fun y159 =>
 (if y159 = true then
 (spec_l12Last N x1).bind fun y161 =>
 (spec_l01In N x2 x1.Start y161).bind fun y162 =>
 (if y162 = true then
 (spec_LogTerm N x1 x2).bind fun y164 =>
 (if (y164 == x3) = true then
 (drop? x1.Entries (w64 (x2 - x1.Start))).bind fun x168 =>
 (cat? ([] : List Entry) x168).bind fun x169 =>
 j152 x169
 else
 j152 ([] : (List Entry)))
 else
 j152 ([] : (List Entry)))
 else
 j152 ([] : (List Entry)))
theorem sem_spec_LogBehind (N : Nat) (x1 : Log) (x2 : Int) (x3 : Int) (r : Log) (h : spec_LogBehind N x1 x2 x3 = some r) : Says Try.prog 46 [.agg [VI x1.Start,VI x1.StartTerm,RO 51 (x1.Entries.map encEntry)],VI x2,VI x3] 0 [] (.agg [VI r.Start,VI r.StartTerm,.sl 0 51 0 r.Entries.length]) [(0,.vec 51 (r.Entries.map encEntry))] := by
 unfold spec_LogBehind at h
 refine Says.of_norm e Try.call46 e fun B hB => ?_
 have hm : B.m ≤ 1000 := by omega
 refine Run.so hm (.z 1000 (.bx e e) e e (.z 1016 (.al e e) e e (.nil (.so hm (.p2 e e (.z 5128 (.bd e e) e e (.z 5144 (.al e e) e e (.y 5160 (.sto e e e e e e) e e (.nil (.seqO h (fun v152 => [(6,.ptr 0 0),(7,.ptr 1 0)]) (fun (v152 : (List Entry)) => [(0,.box [VI 0,VI 0,.sl 2 51 0 (([] : List Entry).length)]),(1,.box [VI x2,VI x3,.sl 3 51 0 v152.length]),(2,.vec 51 (([] : List Entry).map encEntry)),(3,.vec 51 (v152.map encEntry))]) (fun h => ?_) (fun v152 h => ?_)))))))))))
 ·refine Run.seq (.draw hm hmix (.p e ?_))
  obtain ⟨y159,hy159,h⟩ := bindO h
  refine OpsD.z 9208 (Ev.call [] [] 0 (sem_spec_LogOk _ _ _ hy159) e e (.cons (.agg (.d2 (.d1 .nil))) .nil) e (.inl e) e e) e e (.p e (.askO (x := .t 13) e h (fun g160 h => ?_) (fun g160 h => ?_)))
  ·refine OpsD.gp e g160 e (.gp e g160 e (.gp e g160 e (.gp e g160 e ?_)))
   obtain ⟨y161,hy161,h⟩ := bindO h
   refine OpsD.gs (s := 9304) e g160 (Ev.call [] [] 0 (sem_spec_l12Last _ _ _ hy161) e e (.cons (.agg (.d2 (.d1 .nil))) .nil) e (.inl e) e e) e e ?_
   obtain ⟨y162,hy162,h⟩ := bindO h
   refine OpsD.gs (s := 9320) e g160 (Ev.call [] [] 0 (sem_spec_l01In _ _ _ _ _ hy162) e e (.d2 (.d1 .nil)) e (.inl e) e e) e e (.z 9336 (.pkT e g160 e) e e (.p e (.askO (x := .t 21) e h (fun g163 h => ?_) (fun g163 h => ?_))))
   ·refine OpsD.gp e g163 e (.gp e g163 e ?_)
    obtain ⟨y164,hy164,h⟩ := bindO h
    refine OpsD.gs (s := 9400) e g163 (Ev.call [] [] 0 (sem_spec_LogTerm _ _ _ _ hy164) e e (.cons (.agg (.d2 (.d1 .nil))) (.d1 .nil)) e (.inl e) e e) e e (.gp e g163 e (.gp e g163 e (.z 9448 (.pkT e g163 e) e e (.nil ⟨by kernel_rfl,?_⟩))))
    refine Run.condO e h (fun g165 h => ?_) (fun g165 h => ?_)
    ·refine Run.ops hm (.z 13288 (Ev.bsW (ys := ([] : List Entry)) (f := encEntry) e .nil e e e e e) e e (.p3 e e e (.p3 e e e ?_)))
     obtain ⟨x168,hx168,h⟩ := bindO h
     refine Ops.z 13400 (Ev.slFl e e hx168) e e ?_
     obtain ⟨x169,hx169,h⟩ := bindO h
     exact Ops.z 13416 (Ev.apW (f := encEntry) (ontoW e e e) (addsF e) e bt51 e hx169) e e (.p e (.y 13448 (.sto e e e e e e) e e (.nil (⟨_,_,(Gh.trans (Gh.trans (gh_prn [6,7] [1016,5144,13416] hB e) (gh_nil [] [1016] hB e e e)) (gh_pk [6,7] [1016,5144,20000000,13416] hB e e e e)),_,h,e,e⟩))))
    ·exact Run.skip (⟨_,_,(Gh.trans (Gh.trans (gh_prn [6,7] [1016,5144] hB e) (gh_nil [] [1016,5144] hB e e e)) (gh_pk [6,7] [1016,5144,20000000,20000064] hB e e e e)),_,h,e,e⟩)
   ·refine OpsD.gn e g163 (.gn e g163 (.gn e g163 (.gn e g163 (.gn e g163 (.z 9448 (.pkF e g163 e) e e (.nil ⟨by kernel_rfl,?_⟩))))))
    exact Run.condF e e (.skip (⟨_,_,(Gh.trans (Gh.trans (gh_prn [6,7] [1016,5144] hB e) (gh_nil [] [1016,5144] hB e e e)) (gh_pk [6,7] [1016,5144,20000000,20000064] hB e e e e)),_,h,e,e⟩))
  ·refine OpsD.gn e g160 (.gn e g160 (.gn e g160 (.gn e g160 (.gn e g160 (.gn e g160 (.z 9336 (.pkF e g160 e) e e (.p e (.gn e e (.gn e e (.gn e e (.gn e e (.gn e e (.z 9448 (.pkF e e e) e e (.nil ⟨by kernel_rfl,?_⟩))))))))))))))
   exact Run.condF e e (.skip (⟨_,_,(Gh.trans (Gh.trans (gh_prn [6,7] [1016,5144] hB e) (gh_nil [] [1016,5144] hB e e e)) (gh_pk [6,7] [1016,5144,20000000,20000064] hB e e e e)),_,h,e,e⟩))
 ·refine Run.so hm (.p e (.y 17400 (.sto e e e e e e) e e (.nil (.ret ?_))))
  obtain rfl := someO h
  exact Ends.mkG (.inl e) e (gh_pk [0] [3] hB e e e e) e e
def spec_l12Next_l1 (N : Nat) (x2 : Log) : Nat → Int → Int → (List Int) → Int → Int → (List Entry) → Option ((List Int) × Int × Int × (List Entry))
 | 0,_,_,_,_,_,_ => none
 | m + 1,x414,x415,x416,x417,x418,x424 =>
 (spec_l01Below N (Tl01Cur.mk x416 x417 x418) 4).bind fun y465 =>
 (if (decide (x415 < y465.1)) = true then
 (spec_l01Below N y465.2 2).bind fun y490 =>
 (spec_l11Right N y490.2 (w64 (x414 + y490.1))).bind fun y491 =>
 (cat? x424 ([y491.1] : List Entry)).bind fun x492 =>
 (spec_LogLast N (Log.mk x2.Start x2.StartTerm x492)).bind fun y494 =>
 spec_l12Next_l1 N x2 m y494.2 (w64 (x415 + 1)) y491.2.b y491.2.i y491.2.h x492
 else
 some (y465.2.b,y465.2.i,y465.2.h,x424))
def spec_l12Next (N : Nat) (x1 : Tl01Cur) (x2 : Log) : Option (Log × Tl01Cur) :=
 (spec_LogLast N x2).bind fun y312 =>
 joinP (fun (v318 : Int × (List Int) × Int × Int) =>
 (take? x2.Entries v318.1).bind fun x330 =>
 (cat? ([] : List Entry) x330).bind fun x331 =>
 joinP (fun (v413 : (List Int) × Int × Int × (List Entry)) =>
 joinP (fun (v506 : (List Int) × Int × Int × Int × Int × (List Entry)) =>
 some ((Log.mk v506.2.2.2.1 v506.2.2.2.2.1 v506.2.2.2.2.2),(Tl01Cur.mk v506.1 v506.2.1 v506.2.2.1))) fun j506 =>
 (spec_l01Once N (Tl01Cur.mk v413.1 v413.2.1 v413.2.2.1) 4).bind fun y508 =>
 (if y508.1 = true then
 (spec_l01Below N y508.2 (w64 (((v413.2.2.2.length : Nat) : Int) + 1))).bind fun y513 =>
 (spec_LogTerm N (Log.mk x2.Start x2.StartTerm v413.2.2.2) (w64 (x2.Start + y513.1))).bind fun y516 =>
 (spec_LogBehind N (Log.mk x2.Start x2.StartTerm v413.2.2.2) (w64 (x2.Start + y513.1)) y516).bind fun y517 =>
 j506 (y513.2.b,y513.2.i,y513.2.h,y517.Start,y517.StartTerm,y517.Entries)
 else
 j506 (y508.2.b,y508.2.i,y508.2.h,x2.Start,x2.StartTerm,v413.2.2.2))) fun j413 =>
 (spec_l12Next_l1 N x2 N y312.2 0 v318.2.1 v318.2.2.1 v318.2.2.2 x331).bind (fun v459 => j413 (v459.1,v459.2.1,v459.2.2.1,v459.2.2.2))) fun j318 =>
 (spec_l01Once N x1 2).bind fun y320 =>
 (if y320.1 = true then
 (spec_l01Below N y320.2 (w64 ((x2.Entries.length : Int) + 1))).bind fun y323 =>
 j318 (y323.1,y323.2.b,y323.2.i,y323.2.h)
 else
 j318 ((x2.Entries.length : Int),y320.2.b,y320.2.i,y320.2.h))
theorem sem_spec_l12Next (N : Nat) (x1 : Tl01Cur) (x2 : Log) (r : Log × Tl01Cur) (h : spec_l12Next N x1 x2 = some r) : Says Try.prog 20 [.ptr 0 0,.agg [VI x2.Start,VI x2.StartTerm,RO 51 (x2.Entries.map encEntry)]] 1 [(0,.box [RO 5 (x1.b.map encU),VI x1.i,VI x1.h])] (.agg [VI r.1.Start,VI r.1.StartTerm,.sl 1 51 0 r.1.Entries.length]) [(0,.box [RO 5 (r.2.b.map encU),VI r.2.i,VI r.2.h]),(1,.vec 51 (r.1.Entries.map encEntry))] := by
 unfold spec_l12Next at h
 refine Says.of_norm e Try.call20 e fun B hB => ?_
 have hm : B.m ≤ 1000 := by omega
 refine Run.so hm (.z 1000 (.bx e e) e e (.z 1016 (.al e e) e e (.nil (.so hm (.p e ?_)))))
 obtain ⟨y312,hy312,h⟩ := bindO h
 refine Ops.z 5112 (Ev.call [] [] 0 (sem_spec_LogLast _ _ _ hy312) e e (.cons (.agg (.d2 (.d1 .nil))) .nil) e (.inl e) e e) e e (.p3 e e e (.p2 e e (.nil (.so hm (.p2 e e (.z 9224 (Ev.lnF e) e e (.p e (.nil (.seqO h (fun v318 => [(0,.ptr 0 0),(3,.ptr 1 0),(4,.ptr 2 0),(6,VI y312.2),(7,VI v318.1)]) (fun (v318 : Int × (List Int) × Int × Int) => [(0,.box [RO 5 (v318.2.1.map encU),VI v318.2.2.1,VI v318.2.2.2]),(1,.box [VI x2.Start,VI x2.StartTerm,RO 51 (x2.Entries.map encEntry)]),(2,.box [VI 0,VI 0,.sl 3 51 0 (([] : List Entry).length)]),(3,.vec 51 (([] : List Entry).map encEntry))]) (fun h => ?_) (fun v318 h => ?_))))))))))
 ·refine Run.so hm (.p e ?_)
  obtain ⟨y320,hy320,h⟩ := bindO h
  refine Ops.z 13304 (Ev.call [0] [] 0 (sem_spec_l01Once _ _ _ _ hy320) e e (.cons (.ptr e) (.d1 .nil)) e (.inl e) e e) e e (.nil (.condO e h (fun g321 h => ?_) (fun g321 h => ?_)))
  ·refine Run.ops hm (.p3 e e e ?_)
   obtain ⟨y323,hy323,h⟩ := bindO h
   exact Ops.z 17432 (Ev.call [0] [] 0 (sem_spec_l01Below _ _ _ _ hy323) e e (.cons (.ptr e) (.d1 .nil)) e (.inl e) e e) e e (.p e (.nil (⟨_,_,(Gh.trans (Gh.trans (gh_prn [0,3,4,6,7] [0,1000,1016] hB e) (gh_nil [] [1016] hB e e e)) (gh_pk [0,3,4,6,7] [0,1000,1016,20000000] hB e e e e)),_,h,e,e⟩)))
  ·exact Run.skip (⟨_,_,(Gh.trans (Gh.trans (gh_prn [0,3,4,6,7] [0,1000,1016] hB e) (gh_nil [] [1016] hB e e e)) (gh_pk [0,3,4,6,7] [0,1000,1016,20000000] hB e e e e)),_,h,e,e⟩)
 ·refine Run.seq (.draw hm hmix (.p e (.p e (.p e (.p e (.z 21544 (Ev.bsW (ys := ([] : List Entry)) (f := encEntry) e .nil e e e e e) e e (.p e (.p e (.p e ?_)))))))))
  obtain ⟨x330,hx330,h⟩ := bindO h
  refine OpsD.z 21608 (Ev.slFh e e hx330) e e ?_
  obtain ⟨x331,hx331,h⟩ := bindO h
  refine OpsD.z 21624 (Ev.apW (f := encEntry) (ontoW e e e) (addsF e) e bt51 e hx331) e e (.z 21640 (.bd e e) e e (.z 21656 (.al e e) e e (.y 21672 (.sto e e e e e e) e e (.nil ⟨by kernel_rfl,?_⟩))))
  refine Run.seqO h (fun v413 => [(0,.ptr 0 0),(4,.ptr 1 0),(8,.ptr 2 0)]) (fun (v413 : (List Int) × Int × Int × (List Entry)) => [(0,.box [RO 5 (v413.1.map encU),VI v413.2.1,VI v413.2.2.1]),(1,.box [VI 0,VI 0,.sl 3 51 0 (([] : (List Entry)).length)]),(2,.box [VI x2.Start,VI x2.StartTerm,.sl 4 51 0 v413.2.2.2.length]),(3,.vec 51 (([] : (List Entry)).map encEntry)),(4,.vec 51 (v413.2.2.2.map encEntry))]) (fun h => ?_) (fun v413 h => ?_)
  ·refine Run.so hm (.p e (.nil (.block ?_)))
   obtain ⟨res459,h,hk459⟩ := bindO h
   refine Run.loop (n := N) (fun m459 fr σ => ∃ (x414 : Int),∃ (x415 : Int),∃ (x416 : (List Int)),∃ (x417 : Int),∃ (x418 : Int),∃ (x424 : (List Entry)),spec_l12Next_l1 N x2 m459 x414 x415 x416 x417 x418 x424 = some res459 ∧ fr = [(0,.ptr 0 0),(4,.ptr 1 0),(6,VI x414),(8,.ptr 2 0),(9,VI x415)] ∧ σ = [(0,.box [RO 5 (x416.map encU),VI x417,VI x418]),(1,.box [VI 0,VI 0,.sl 3 51 0 (([] : (List Entry)).length)]),(2,.box [VI x2.Start,VI x2.StartTerm,.sl 4 51 0 x424.length]),(3,.vec 51 (([] : (List Entry)).map encEntry)),(4,.vec 51 (x424.map encEntry))]) (gh_pk [0,4,6,8,9] [0,2,21656,3,21624] hB e e e e) ⟨_,_,_,_,_,_,h,e,e⟩ ?_
   rintro m459 fr σ ⟨x414,x415,x416,x417,x418,x424,h,rfl,rfl⟩
   obtain _ | m459 := m459
   ·rw [spec_l12Next_l1] at h; cases h
   rw [spec_l12Next_l1] at h
   refine Run.seq (.so hm (.p2 e e ?_))
   obtain ⟨y465,hy465,h⟩ := bindO h
   refine Ops.z 29704 (Ev.call [0] [] 0 (sem_spec_l01Below _ _ _ _ hy465) e e (.cons (.ptr e) (.d1 .nil)) e (.inl e) e e) e e (.p e (.nil (.condO e h (fun g466 h => ?_) (fun g466 h => ?_))))
   ·refine Run.skip (.seq (.block (.seq (.draw hm hmix (.p e (.p e (.p e (.p e (.p e ?_)))))))))
    obtain ⟨y490,hy490,h⟩ := bindO h
    refine OpsD.z 37944 (Ev.call [0] [] 0 (sem_spec_l01Below _ _ _ _ hy490) e e (.cons (.ptr e) (.d1 .nil)) e (.inl e) e e) e e (.p e ?_)
    obtain ⟨y491,hy491,h⟩ := bindO h
    refine OpsD.z 37976 (Ev.call [0] [] 0 (sem_spec_l11Right _ _ _ _ hy491) e e (.cons (.ptr e) (.d1 .nil)) e (.inl e) e e) e e (.z 37992 (Ev.bsW (ys := ([y491.1] : List Entry)) (f := encEntry) e (.d2 (.d1 .nil)) e e e e e) e e ?_)
    obtain ⟨x492,hx492,h⟩ := bindO h
    refine OpsD.z 38008 (Ev.apW (f := encEntry) (ontoW e e e) (addsW e e e (fun _ => e)) e bt51 e hx492) e e (.p e (.y 38040 (.sto e e e e e e) e e (.nil ⟨by kernel_rfl,?_⟩)))
    refine Run.ops hm (.p e ?_)
    obtain ⟨y494,hy494,h⟩ := bindO h
    refine Ops.z 41976 (Ev.call [] [38008] 0 (sem_spec_LogLast _ _ _ hy494) e e (.cons (.agg (.d2 (.cons (.borrow e (by decide) (lendW (fun _ => e) _ e)) .nil))) .nil) e (.inr ⟨e,ownL_root trivial⟩) e e) e e ?_
    exact Ops.p e (.p3 e e e (.nil (.ops hm (.p3 e e e (.nil (⟨m459,Nat.lt_succ_self m459,_,_,(gh_pk [0,4,6,8,9] [0,1,2,3,38008] hB e e e e),_,_,_,_,_,_,h,e,e⟩))))))
   ·refine Run.exit ?_
    obtain rfl := someO h
    have h := hk459
    exact ⟨_,_,(gh_pk [0,4,8] [0,1,2,3,4] hB e e e e),_,h,e,e⟩
  ·refine Run.seqO h (fun v506 => [(4,.ptr 1 0),(8,.ptr 2 0)]) (fun (v506 : (List Int) × Int × Int × Int × Int × (List Entry)) => [(0,.box [RO 5 (v506.1.map encU),VI v506.2.1,VI v506.2.2.1]),(1,.box [VI 0,VI 0,.sl 3 51 0 (([] : (List Entry)).length)]),(2,.box [VI v506.2.2.2.1,VI v506.2.2.2.2.1,.sl 4 51 0 v506.2.2.2.2.2.length]),(3,.vec 51 (([] : (List Entry)).map encEntry)),(4,.vec 51 (v506.2.2.2.2.2.map encEntry))]) (fun h => ?_) (fun v506 h => ?_)
   ·refine Run.so hm (.p e ?_)
    obtain ⟨y508,hy508,h⟩ := bindO h
    refine Ops.z 46072 (Ev.call [0] [] 0 (sem_spec_l01Once _ _ _ _ hy508) e e (.cons (.ptr e) (.d1 .nil)) e (.inl e) e e) e e (.nil (.condO e h (fun g509 h => ?_) (fun g509 h => ?_)))
    ·refine Run.so hm (.p3 e e e (.p2 e e ?_))
     obtain ⟨y513,hy513,h⟩ := bindO h
     refine Ops.z 50232 (Ev.call [0] [] 0 (sem_spec_l01Below _ _ _ _ hy513) e e (.cons (.ptr e) (.d1 .nil)) e (.inl e) e e) e e (.p e (.nil (.draw hm hmix (.p e (.p e (.p e (.p e (.p e (.p e (.p e (.p e (.p e (.p e ?_)))))))))))))
     obtain ⟨y516,hy516,h⟩ := bindO h
     refine OpsD.z 54408 (Ev.call [] [4] 0 (sem_spec_LogTerm _ _ _ _ hy516) e e (.cons (.agg (.d2 (.cons (.borrow e (by decide) (lendW (fun _ => e) _ e)) .nil))) (.d1 .nil)) e (.inr ⟨e,ownL_root trivial⟩) e e) e e ?_
     obtain ⟨y517,hy517,h⟩ := bindO h
     refine OpsD.z 54424 (Ev.call [] [4] 1 (sem_spec_LogBehind _ _ _ _ _ hy517) e e (.cons (.agg (.d2 (.cons (.borrow e (by decide) (lendW (fun _ => e) _ e)) .nil))) (.d2 .nil)) e (.inr ⟨e,ownL_root ⟨own_rows (fun _ => e) _,trivial⟩⟩) e e) e e ?_
     refine OpsD.y 54440 (.sto e e e e e e) e e (.nil ⟨by kernel_rfl,?_⟩)
     exact ⟨_,_,(gh_pk [4,8] [0,1,2,3,54424] hB e e e e),_,h,e,e⟩
    ·exact Run.skip (⟨_,_,(gh_pk [4,8] [0,1,2,3,4] hB e e e e),_,h,e,e⟩)
   ·refine Run.so hm (.p e (.y 58360 (.sto e e e e e e) e e (.nil (.ret ?_))))
    obtain rfl := someO h
    exact Ends.mkG (.inl e) e (gh_pk [0] [0,4] hB e e e e) e e
def spec_l12Next_i1_l1 (N : Nat) (x2 : Log) : Nat → Int → Int → (List Int) → Int → Int → (List Entry) → Option ((List Int) × Int × Int × (List Entry))
 | 0,_,_,_,_,_,_ => none
 | m + 1,x417,x418,x419,x420,x421,x428 =>
 (spec_l01Below N (Tl01Cur.mk x419 x420 x421) 4).bind fun y469 =>
 (if (decide (x418 < y469.1)) = true then
 (spec_l01Below N y469.2 2).bind fun y494 =>
 (spec_l11Right N y494.2 (w64 (x417 + y494.1))).bind fun y495 =>
 (cat? x428 ([y495.1] : List Entry)).bind fun x496 =>
 (spec_LogLast N (Log.mk x2.Start x2.StartTerm x496)).bind fun y498 =>
 spec_l12Next_i1_l1 N x2 m y498.2 (w64 (x418 + 1)) y495.2.b y495.2.i y495.2.h x496
 else
 some (y469.2.b,y469.2.i,y469.2.h,x428))
def spec_l12Next_i1 (N : Nat) (x1 : Tl01Cur) (x2 : Log) : Option (Log × Tl01Cur) :=
 (spec_LogLast N x2).bind fun y314 =>
 joinP (fun (v320 : Int × (List Int) × Int × Int) =>
 (take? x2.Entries v320.1).bind fun x332 =>
 (cat? ([] : List Entry) (x2.Entries.take v320.1.toNat)).bind fun x333 =>
 joinP (fun (v416 : (List Int) × Int × Int × (List Entry)) =>
 joinP (fun (v510 : (List Int) × Int × Int × Int × Int × (List Entry)) =>
 some ((Log.mk v510.2.2.2.1 v510.2.2.2.2.1 v510.2.2.2.2.2),(Tl01Cur.mk v510.1 v510.2.1 v510.2.2.1))) fun j510 =>
 (spec_l01Once N (Tl01Cur.mk v416.1 v416.2.1 v416.2.2.1) 4).bind fun y512 =>
 (if y512.1 = true then
 (spec_l01Below N y512.2 (w64 (((v416.2.2.2.length : Nat) : Int) + 1))).bind fun y517 =>
 (spec_LogTerm N (Log.mk x2.Start x2.StartTerm v416.2.2.2) (w64 (x2.Start + y517.1))).bind fun y520 =>
 (spec_LogBehind N (Log.mk x2.Start x2.StartTerm v416.2.2.2) (w64 (x2.Start + y517.1)) y520).bind fun y521 =>
 j510 (y517.2.b,y517.2.i,y517.2.h,y521.Start,y521.StartTerm,y521.Entries)
 else
 j510 (y512.2.b,y512.2.i,y512.2.h,x2.Start,x2.StartTerm,v416.2.2.2))) fun j416 =>
 (spec_l12Next_i1_l1 N x2 N y314.2 0 v320.2.1 v320.2.2.1 v320.2.2.2 x333).bind (fun v463 => j416 (v463.1,v463.2.1,v463.2.2.1,v463.2.2.2))) fun j320 =>
 (spec_l01Once N x1 2).bind fun y322 =>
 (if y322.1 = true then
 (spec_l01Below N y322.2 (w64 (((x2.Entries.length : Nat) : Int) + 1))).bind fun y325 =>
 j320 (y325.1,y325.2.b,y325.2.i,y325.2.h)
 else
 j320 (((x2.Entries.length : Nat) : Int),y322.2.b,y322.2.i,y322.2.h))
theorem sem_spec_l12Next_i1 (N : Nat) (x1 : Tl01Cur) (x2 : Log) (r : Log × Tl01Cur) (h : spec_l12Next_i1 N x1 x2 = some r) : Says Try.prog 20 [.ptr 0 0,.agg [VI x2.Start,VI x2.StartTerm,.sl 1 51 0 x2.Entries.length]] 2 [(0,.box [RO 5 (x1.b.map encU),VI x1.i,VI x1.h]),(1,.vec 51 (x2.Entries.map encEntry))] (.agg [VI r.1.Start,VI r.1.StartTerm,.sl 2 51 0 r.1.Entries.length]) [(0,.box [RO 5 (r.2.b.map encU),VI r.2.i,VI r.2.h]),(1,.vec 51 (x2.Entries.map encEntry)),(2,.vec 51 (r.1.Entries.map encEntry))] := by
 unfold spec_l12Next_i1 at h
 refine Says.of_norm e Try.call20 e fun B hB => ?_
 have hm : B.m ≤ 1000 := by omega
 refine Run.so hm (.z 1000 (.bx e e) e e (.z 1016 (.al e e) e e (.nil (.so hm (.p e ?_)))))
 obtain ⟨y314,hy314,h⟩ := bindO h
 refine Ops.z 5112 (Ev.call [] [1] 0 (sem_spec_LogLast _ _ _ hy314) e e (.cons (.agg (.d2 (.cons (.borrow e (by decide) (lendW (fun _ => e) _ e)) .nil))) .nil) e (.inr ⟨e,ownL_root trivial⟩) e e) e e ?_
 refine Ops.p e (.p3 e e e (.p e (.nil (.so hm (.p3 e e e (.p e (.nil (.seqO h (fun v320 => [(0,.ptr 0 0),(3,.ptr 2 0),(4,.ptr 3 0),(6,VI y314.2),(7,VI v320.1)]) (fun (v320 : Int × (List Int) × Int × Int) => [(0,.box [RO 5 (v320.2.1.map encU),VI v320.2.2.1,VI v320.2.2.2]),(1,.vec 51 (x2.Entries.map encEntry)),(2,.box [VI x2.Start,VI x2.StartTerm,.sl 1 51 0 x2.Entries.length]),(3,.box [VI 0,VI 0,.sl 4 51 0 (([] : List Entry).length)]),(4,.vec 51 (([] : List Entry).map encEntry))]) (fun h => ?_) (fun v320 h => ?_)))))))))
 ·refine Run.so hm (.p e ?_)
  obtain ⟨y322,hy322,h⟩ := bindO h
  refine Ops.z 13304 (Ev.call [0] [] 0 (sem_spec_l01Once _ _ _ _ hy322) e e (.cons (.ptr e) (.d1 .nil)) e (.inl e) e e) e e (.nil (.condO e h (fun g323 h => ?_) (fun g323 h => ?_)))
  ·refine Run.ops hm (.p3 e e e ?_)
   obtain ⟨y325,hy325,h⟩ := bindO h
   exact Ops.z 17432 (Ev.call [0] [] 0 (sem_spec_l01Below _ _ _ _ hy325) e e (.cons (.ptr e) (.d1 .nil)) e (.inl e) e e) e e (.p e (.nil (⟨_,_,(Gh.trans (Gh.trans (gh_prn [0,3,4,6,7] [0,1,1000,1016] hB e) (gh_nil [] [1016] hB e e e)) (gh_pk [0,3,4,6,7] [0,1,1000,1016,20000000] hB e e e e)),_,h,e,e⟩)))
  ·exact Run.skip (⟨_,_,(Gh.trans (Gh.trans (gh_prn [0,3,4,6,7] [0,1,1000,1016] hB e) (gh_nil [] [1016] hB e e e)) (gh_pk [0,3,4,6,7] [0,1,1000,1016,20000000] hB e e e e)),_,h,e,e⟩)
 ·refine Run.seq (.draw hm hmix (.p e (.p e (.p e (.p e (.z 21544 (Ev.bsW (ys := ([] : List Entry)) (f := encEntry) e .nil e e e e e) e e (.p e (.p e (.p e ?_)))))))))
  obtain ⟨x332,hx332,h⟩ := bindO h
  refine OpsD.z 21608 (Ev.slWh (xs := x2.Entries) e e e hx332) e e ?_
  obtain ⟨x333,hx333,h⟩ := bindO h
  refine OpsD.z 21624 (Ev.apW (f := encEntry) (ontoW e e e) (addsP e e (fun _ => e)) e bt51 e hx333) e e (.z 21640 (.bd e e) e e (.z 21656 (.al e e) e e (.y 21672 (.sto e e e e e e) e e (.nil ⟨by kernel_rfl,?_⟩))))
  refine Run.seqO h (fun v416 => [(0,.ptr 0 0),(4,.ptr 2 0),(8,.ptr 3 0)]) (fun (v416 : (List Int) × Int × Int × (List Entry)) => [(0,.box [RO 5 (v416.1.map encU),VI v416.2.1,VI v416.2.2.1]),(1,.vec 51 (x2.Entries.map encEntry)),(2,.box [VI 0,VI 0,.sl 4 51 0 (([] : (List Entry)).length)]),(3,.box [VI x2.Start,VI x2.StartTerm,.sl 5 51 0 v416.2.2.2.length]),(4,.vec 51 (([] : (List Entry)).map encEntry)),(5,.vec 51 (v416.2.2.2.map encEntry))]) (fun h => ?_) (fun v416 h => ?_)
  ·refine Run.so hm (.p e (.nil (.block ?_)))
   obtain ⟨res463,h,hk463⟩ := bindO h
   refine Run.loop (n := N) (fun m463 fr σ => ∃ (x417 : Int),∃ (x418 : Int),∃ (x419 : (List Int)),∃ (x420 : Int),∃ (x421 : Int),∃ (x428 : (List Entry)),spec_l12Next_i1_l1 N x2 m463 x417 x418 x419 x420 x421 x428 = some res463 ∧ fr = [(0,.ptr 0 0),(4,.ptr 2 0),(6,VI x417),(8,.ptr 3 0),(9,VI x418)] ∧ σ = [(0,.box [RO 5 (x419.map encU),VI x420,VI x421]),(1,.vec 51 (x2.Entries.map encEntry)),(2,.box [VI 0,VI 0,.sl 4 51 0 (([] : (List Entry)).length)]),(3,.box [VI x2.Start,VI x2.StartTerm,.sl 5 51 0 x428.length]),(4,.vec 51 (([] : (List Entry)).map encEntry)),(5,.vec 51 (x428.map encEntry))]) (gh_pk [0,4,6,8,9] [0,1,3,21656,4,21624] hB e e e e) ⟨_,_,_,_,_,_,h,e,e⟩ ?_
   rintro m463 fr σ ⟨x417,x418,x419,x420,x421,x428,h,rfl,rfl⟩
   obtain _ | m463 := m463
   ·rw [spec_l12Next_i1_l1] at h; cases h
   rw [spec_l12Next_i1_l1] at h
   refine Run.seq (.so hm (.p2 e e ?_))
   obtain ⟨y469,hy469,h⟩ := bindO h
   refine Ops.z 29704 (Ev.call [0] [] 0 (sem_spec_l01Below _ _ _ _ hy469) e e (.cons (.ptr e) (.d1 .nil)) e (.inl e) e e) e e (.p e (.nil (.condO e h (fun g470 h => ?_) (fun g470 h => ?_))))
   ·refine Run.skip (.seq (.block (.seq (.draw hm hmix (.p e (.p e (.p e (.p e (.p e ?_)))))))))
    obtain ⟨y494,hy494,h⟩ := bindO h
    refine OpsD.z 37944 (Ev.call [0] [] 0 (sem_spec_l01Below _ _ _ _ hy494) e e (.cons (.ptr e) (.d1 .nil)) e (.inl e) e e) e e (.p e ?_)
    obtain ⟨y495,hy495,h⟩ := bindO h
    refine OpsD.z 37976 (Ev.call [0] [] 0 (sem_spec_l11Right _ _ _ _ hy495) e e (.cons (.ptr e) (.d1 .nil)) e (.inl e) e e) e e (.z 37992 (Ev.bsW (ys := ([y495.1] : List Entry)) (f := encEntry) e (.d2 (.d1 .nil)) e e e e e) e e ?_)
    obtain ⟨x496,hx496,h⟩ := bindO h
    refine OpsD.z 38008 (Ev.apW (f := encEntry) (ontoW e e e) (addsW e e e (fun _ => e)) e bt51 e hx496) e e (.p e (.y 38040 (.sto e e e e e e) e e (.nil ⟨by kernel_rfl,?_⟩)))
    refine Run.ops hm (.p e ?_)
    obtain ⟨y498,hy498,h⟩ := bindO h
    refine Ops.z 41976 (Ev.call [] [38008] 0 (sem_spec_LogLast _ _ _ hy498) e e (.cons (.agg (.d2 (.cons (.borrow e (by decide) (lendW (fun _ => e) _ e)) .nil))) .nil) e (.inr ⟨e,ownL_root trivial⟩) e e) e e ?_
    exact Ops.p e (.p3 e e e (.nil (.ops hm (.p3 e e e (.nil (⟨m463,Nat.lt_succ_self m463,_,_,(gh_pk [0,4,6,8,9] [0,1,2,3,4,38008] hB e e e e),_,_,_,_,_,_,h,e,e⟩))))))
   ·refine Run.exit ?_
    obtain rfl := someO h
    have h := hk463
    exact ⟨_,_,(gh_pk [0,4,8] [0,1,2,3,4,5] hB e e e e),_,h,e,e⟩
  ·refine Run.seqO h (fun v510 => [(4,.ptr 2 0),(8,.ptr 3 0)]) (fun (v510 : (List Int) × Int × Int × Int × Int × (List Entry)) => [(0,.box [RO 5 (v510.1.map encU),VI v510.2.1,VI v510.2.2.1]),(1,.vec 51 (x2.Entries.map encEntry)),(2,.box [VI 0,VI 0,.sl 4 51 0 (([] : (List Entry)).length)]),(3,.box [VI v510.2.2.2.1,VI v510.2.2.2.2.1,.sl 5 51 0 v510.2.2.2.2.2.length]),(4,.vec 51 (([] : (List Entry)).map encEntry)),(5,.vec 51 (v510.2.2.2.2.2.map encEntry))]) (fun h => ?_) (fun v510 h => ?_)
   ·refine Run.so hm (.p e ?_)
    obtain ⟨y512,hy512,h⟩ := bindO h
    refine Ops.z 46072 (Ev.call [0] [] 0 (sem_spec_l01Once _ _ _ _ hy512) e e (.cons (.ptr e) (.d1 .nil)) e (.inl e) e e) e e (.nil (.condO e h (fun g513 h => ?_) (fun g513 h => ?_)))
    ·refine Run.so hm (.p3 e e e (.p2 e e ?_))
     obtain ⟨y517,hy517,h⟩ := bindO h
     refine Ops.z 50232 (Ev.call [0] [] 0 (sem_spec_l01Below _ _ _ _ hy517) e e (.cons (.ptr e) (.d1 .nil)) e (.inl e) e e) e e (.p e (.nil (.draw hm hmix (.p e (.p e (.p e (.p e (.p e (.p e (.p e (.p e (.p e (.p e ?_)))))))))))))
     obtain ⟨y520,hy520,h⟩ := bindO h
     refine OpsD.z 54408 (Ev.call [] [5] 0 (sem_spec_LogTerm _ _ _ _ hy520) e e (.cons (.agg (.d2 (.cons (.borrow e (by decide) (lendW (fun _ => e) _ e)) .nil))) (.d1 .nil)) e (.inr ⟨e,ownL_root trivial⟩) e e) e e ?_
     obtain ⟨y521,hy521,h⟩ := bindO h
     refine OpsD.z 54424 (Ev.call [] [5] 1 (sem_spec_LogBehind _ _ _ _ _ hy521) e e (.cons (.agg (.d2 (.cons (.borrow e (by decide) (lendW (fun _ => e) _ e)) .nil))) (.d2 .nil)) e (.inr ⟨e,ownL_root ⟨own_rows (fun _ => e) _,trivial⟩⟩) e e) e e ?_
     refine OpsD.y 54440 (.sto e e e e e e) e e (.nil ⟨by kernel_rfl,?_⟩)
     exact ⟨_,_,(gh_pk [4,8] [0,1,2,3,4,54424] hB e e e e),_,h,e,e⟩
    ·exact Run.skip (⟨_,_,(gh_pk [4,8] [0,1,2,3,4,5] hB e e e e),_,h,e,e⟩)
   ·refine Run.so hm (.p e (.y 58360 (.sto e e e e e e) e e (.nil (.ret ?_))))
    obtain rfl := someO h
    exact Ends.mkG (.inl e) e (gh_pk [0] [0,1,5] hB e e e e) e e
def spec_DrawRightLogs (N : Nat) (x1 : (List Int)) : Option (ByteArray × Log × Log) :=
 (spec_l01New N x1).bind fun y117 =>
 (spec_l12Right N y117).bind fun y121 =>
 (spec_LogFile N y121.1).bind fun y125 =>
 (spec_l12Next_i1 N y121.2 y121.1).bind fun y127 =>
 some (y125.1,y121.1,y127.1)
theorem sem_spec_DrawRightLogs (N : Nat) (x1 : (List Int)) (r : ByteArray × Log × Log) (h : spec_DrawRightLogs N x1 = some r) : Says Try.prog 5 [RO 5 (x1.map encU)] 0 [] (.tup [VS r.1,.agg [VI r.2.1.Start,VI r.2.1.StartTerm,.sl 0 51 0 r.2.1.Entries.length],.agg [VI r.2.2.Start,VI r.2.2.StartTerm,.sl 1 51 0 r.2.2.Entries.length]]) [(0,.vec 51 (r.2.1.Entries.map encEntry)),(1,.vec 51 (r.2.2.Entries.map encEntry))] := by
 unfold spec_DrawRightLogs at h
 refine Says.of_norm e Try.call5 e fun B hB => ?_
 have hm : B.m ≤ 1000 := by omega
 refine Run.so hm (.p e (.z 1016 (.al e e) e e (.z 1032 (.al e e) e e (.nil (.so hm (.p e ?_))))))
 obtain ⟨y117,hy117,h⟩ := bindO h
 refine Ops.z 5112 (Ev.call [] [] 1 (sem_spec_l01New _ _ _ hy117) e e (.d1 .nil) e (.inl e) e e) e e (.p e (.nil (.so hm (.p e ?_))))
 obtain ⟨y121,hy121,h⟩ := bindO h
 refine Ops.z 9208 (Ev.call [5112] [] 1 (sem_spec_l12Right _ _ _ hy121) e e (.cons (.ptr e) .nil) e (.inl e) e e) e e (.z 9224 (.al e e) e e (.y 9240 (.sto e e e e e e) e e (.nil (.so hm (.p e ?_)))))
 obtain ⟨y125,hy125,h⟩ := bindO h
 refine Ops.z 13304 (Ev.call [] [9208] 0 (sem_spec_LogFile _ _ _ hy125) e e (.cons (.agg (.d2 (.cons (.borrow e (by decide) (lendW (fun _ => e) _ e)) .nil))) .nil) e (.inr ⟨e,ownL_root trivial⟩) e e) e e ?_
 refine Ops.p e (.p3 e e e (.p e (.nil (.seq (.draw hm hmix (.p e (.p e (.p e (.p e ?_)))))))))
 obtain ⟨y127,hy127,h⟩ := bindO h
 refine OpsD.z 17448 (Ev.call [5112,9208] [] 1 (sem_spec_l12Next_i1 _ _ _ _ hy127) e e (.cons (.ptr e) (.cons (.agg (.d2 (.cons (.sl e) .nil))) .nil)) e (.inl e) e e) e e (.p e (.y 17480 (.sto e e e e e e) e e (.y 17496 (.sto e e e e e e) e e (.nil ⟨by kernel_rfl,?_⟩))))
 refine Run.ret ?_
 obtain rfl := someO h
 exact Ends.mkG (.inl e) e (gh_pk [0,1,2] [9208,17448] hB e e e e) e e
def impl_within (N : Nat) (x1 : Int) (x2 : Int) (x3 : Int) : Option (Bool) :=
 (if (decide (x1 ≥ x2)) = true then
 some (decide (x1 ≤ x3))
 else
 some false)
theorem sem_impl_within (N : Nat) (x1 : Int) (x2 : Int) (x3 : Int) (r : Bool) (h : impl_within N x1 x2 x3 = some r) : Says Try.prog 28 [VI x1,VI x2,VI x3] 0 [] (VB r) [] := by
 unfold impl_within at h
 refine Says.of_norm e Try.call28 e fun B hB => ?_
 have hm : B.m ≤ 1000 := by omega
 refine Run.so hm (.p e (.nil (.so hm (.p3 e e e (.p e (.askO (x := .t 10) e h (fun g103 h => ?_) (fun g103 h => ?_)))))))
 ·refine Ops.gp e g103 e (.gp e g103 e (.gp e g103 e (.z 5208 (.pkT e g103 e) e e (.p e (.nil (.ret ?_))))))
  obtain rfl := someO h
  exact Ends.mkG (.inl e) e (gh_pk [0] [] hB e e e e) e e
 ·refine Ops.gn e g103 (.gn e g103 (.gn e g103 (.z 5208 (.pkF e g103 e) e e (.p e (.nil (.ret ?_))))))
  obtain rfl := someO h
  exact Ends.mkG (.inl e) e (gh_pk [0] [] hB e e e e) e e
def impl_ConfOk_l1 (N : Nat) (x1 : (List Int)) : Nat → Int → Option ((Bool) ⊕ (Unit))
 | 0,_ => none
 | m + 1,x218 =>
 (if (decide (x218 < (x1.length : Int))) = true then
 (at? x1 x218).bind fun x242 =>
 (impl_within N x242 1 4).bind fun y247 =>
 (if (!y247) = true then
 some (Sum.inl false)
 else
 (if (decide (x218 > 0)) = true then
 (at? x1 (w64 (x218 - 1))).bind fun x250 =>
 (if (decide (x250 ≥ x242)) = true then
 some (Sum.inl false)
 else
 impl_ConfOk_l1 N x1 m (w64 (x218 + 1)))
 else
 impl_ConfOk_l1 N x1 m (w64 (x218 + 1))))
 else
 some (Sum.inr ()))
def impl_ConfOk_l1_r (N : Nat) (x1 : (List Int)) : (List Int) → Int → Option ((Bool) ⊕ (Unit))
 | [],x218 =>
 some (Sum.inr ())
 | hd :: tl,x218 =>
 (some hd).bind fun x242 =>
 (impl_within N x242 1 4).bind fun y247 =>
 (if (!y247) = true then
 some (Sum.inl false)
 else
 (if (decide (x218 > 0)) = true then
 (at? x1 (w64 (x218 - 1))).bind fun x250 =>
 (if (decide (x250 ≥ x242)) = true then
 some (Sum.inl false)
 else
 impl_ConfOk_l1_r N x1 tl (w64 (x218 + 1)))
 else
 impl_ConfOk_l1_r N x1 tl (w64 (x218 + 1))))
theorem impl_ConfOk_l1_rng (N : Nat) (x1 : (List Int)) (hx : x1.length ≤ 1099511627776) : ∀ (d k m : Nat),x1.length = k + d → d < m → impl_ConfOk_l1 N x1 m (k : Int) = impl_ConfOk_l1_r N x1 (x1.drop k) (k : Int) := by
 intro d
 induction d with
 | zero =>
  intro k m hd hm
  obtain ⟨m,rfl⟩ : ∃ q,m = q + 1 := ⟨m - 1,by omega⟩
  rw [impl_ConfOk_l1,if_neg (by simp; omega),List.drop_eq_nil_of_le (by omega),impl_ConfOk_l1_r]
 | succ d ih =>
  intro k m hd hm
  obtain ⟨m,rfl⟩ : ∃ q,m = q + 1 := ⟨m - 1,by omega⟩
  have hk : k < x1.length := by omega
  rw [impl_ConfOk_l1,if_pos (by simp; omega),List.drop_eq_getElem_cons hk,impl_ConfOk_l1_r]
  have h1 := at_lt hk
  have h2 := w64_succ (k := k) (by omega)
  have h3 := ih (k + 1) m
  simp only [h1,h2,h3 (by omega) (by omega)]
theorem impl_ConfOk_l1_eq {N : Nat} (x1 : (List Int)) (hx : x1.length ≤ 1099511627776) (hN : x1.length < N) : impl_ConfOk_l1 N x1 N 0 = impl_ConfOk_l1_r N x1 x1 0 := impl_ConfOk_l1_rng N x1 hx x1.length 0 N (by omega) hN
def impl_ConfOk (N : Nat) (x1 : (List Int)) : Option (Bool) :=
 joinP (fun (v214 : Unit) =>
 (impl_within N (x1.length : Int) 1 4).bind fun y253 =>
 some y253) fun j214 =>
 (impl_ConfOk_l1 N x1 N 0).bind (Sum.elim (fun v234 => some v234) (fun (v235 : Unit) => j214 ()))
theorem sem_impl_ConfOk (N : Nat) (x1 : (List Int)) (r : Bool) (h : impl_ConfOk N x1 = some r) : Says Try.prog 84 [RO 3 (x1.map encI)] 0 [] (VB r) [] := by
 unfold impl_ConfOk at h
 refine Says.of_norm e Try.call84 e fun B hB => ?_
 have hm : B.m ≤ 1000 := by omega
 refine Run.so hm (.p e (.nil (.seqO h (fun v214 => [(0,RO 3 (x1.map encI))]) (fun (v214 : Unit) => []) (fun h => ?_) (fun v214 h => ?_))))
 ·refine Run.so hm (.p e (.z 5112 (Ev.lnF e) e e (.p e (.nil (.block ?_)))))
  obtain ⟨res235,h,hk235⟩ := bindO h
  refine Run.loop (n := N) (fun m235 fr σ => ∃ (x218 : Int),impl_ConfOk_l1 N x1 m235 x218 = some res235 ∧ fr = [(0,RO 3 (x1.map encI)),(5,RO 3 (x1.map encI)),(6,VI (x1.length : Int)),(7,VI x218)] ∧ σ = []) (gh_pk [0,5,6,7] [] hB e e e e) ⟨_,h,e,e⟩ ?_
  rintro m235 fr σ ⟨x218,h,rfl,rfl⟩
  obtain _ | m235 := m235
  ·rw [impl_ConfOk_l1] at h; cases h
  rw [impl_ConfOk_l1] at h
  refine Run.so hm (.p e (.nil (.seq (.condO e h (fun g238 h => ?_) (fun g238 h => ?_)))))
  ·refine Run.skip (.seq (.block (.so hm (.p e ?_))))
   obtain ⟨x242,hx242,h⟩ := bindO h
   refine Ops.z 13304 (Ev.iaF e e hx242) e e (.p3 e e e (.nil (.so hm (.p e ?_))))
   obtain ⟨y247,hy247,h⟩ := bindO h
   refine Ops.z 17400 (Ev.call [] [] 0 (sem_impl_within _ _ _ _ _ hy247) e e (.d2 (.d1 .nil)) e (.inl e) e e) e e (.p2 e e (.askO (x := .t 15) e h (fun g248 h => ?_) (fun g248 h => ?_)))
   ·refine Ops.gn e g248 (.gn e g248 (.gn e g248 (.gu e (.gu e (.gu e (.gu e (.gu e (.gu e (.gu e (.gn e g248 (.z 17624 (.pkT e g248 e) e e (.nil (.condT e e (.so hm (.p e (.nil (.ret ?_)))))))))))))))))
    obtain rfl := someO h
    have h := hk235
    replace h := inlO h
    obtain rfl := someO h
    exact Ends.mkG (.inl e) e (gh_pk [0] [] hB e e e e) e e
   ·refine Ops.gp e g248 e (.gp e g248 e (.gp e g248 e (.askO (x := .t 18) e h (fun g249 h => ?_) (fun g249 h => ?_))))
    ·refine Ops.gp e g249 e (.gp e g249 e (.gp e g249 e ?_))
     obtain ⟨x250,hx250,h⟩ := bindO h
     refine Ops.gs (s := 17544) e g249 (Ev.iaF e e hx250) e e (.gp e g249 e (.gp e g249 e (.gp e g249 e (.gs (s := 17608) e g248 (.pkT e g249 e) e e (.z 17624 (.pkF e g248 e) e e (.nil (.condO e h (fun g251 h => ?_) (fun g251 h => ?_))))))))
     ·refine Run.so hm (.p e (.nil (.ret ?_)))
      obtain rfl := someO h
      have h := hk235
      replace h := inlO h
      obtain rfl := someO h
      exact Ends.mkG (.inl e) e (gh_pk [0] [] hB e e e e) e e
     ·exact Run.skip (.ops hm (.p2 e e (.nil (⟨m235,Nat.lt_succ_self m235,_,_,(gh_pk [0,5,6,7] [] hB e e e e),_,h,e,e⟩))))
    ·exact Ops.gn e g249 (.gn e g249 (.gn e g249 (.gn e g249 (.gn e g249 (.gn e g249 (.gn e g249 (.gs (s := 17608) e g248 (.pkF e g249 e) e e (.z 17624 (.pkF e g248 e) e e (.nil (.condF e e (.skip (.ops hm (.p2 e e (.nil (⟨m235,Nat.lt_succ_self m235,_,_,(gh_pk [0,5,6,7] [] hB e e e e),_,h,e,e⟩)))))))))))))))
  ·refine Run.exit ?_
   obtain rfl := someO h
   have h := hk235
   replace h := inrO h
   exact ⟨_,_,(gh_pk [0] [] hB e e e e),(),h,e,e⟩
 ·refine Run.so hm (.p e (.z 29688 (Ev.lnF e) e e ?_))
  obtain ⟨y253,hy253,h⟩ := bindO h
  refine Ops.z 29704 (Ev.call [] [] 0 (sem_impl_within _ _ _ _ _ hy253) e e (.d2 (.d1 .nil)) e (.inl e) e e) e e (.p e (.nil (.ret ?_)))
  obtain rfl := someO h
  exact Ends.mkG (.inl e) e (gh_pk [0] [] hB e e e e) e e
def impl_ReadConf_l1 (N : Nat) (x1 : ByteArray) : Nat → Int → (List Int) → Option ((List Int))
 | 0,_,_ => none
 | m + 1,x184,x185 =>
 (if (decide (x184 < (x1.size : Int))) = true then
 (sat? x1 x184).bind fun x206 =>
 (cat? x185 ([w64 (x206)] : List Int)).bind fun x207 =>
 impl_ReadConf_l1 N x1 m (w64 (x184 + 1)) x207
 else
 some x185)
def impl_ReadConf (N : Nat) (x1 : ByteArray) : Option ((List Int) × Bool) :=
 joinP (fun (v182 : (List Int)) =>
 (impl_ConfOk N v182).bind fun y212 =>
 (if (!y212) = true then
 some ([],false)
 else
 some (v182,true))) fun j182 =>
 (impl_ReadConf_l1 N x1 N 0 ([] : (List Int))).bind (fun v196 => j182 v196)
theorem sem_impl_ReadConf (N : Nat) (x1 : ByteArray) (r : (List Int) × Bool) (h : impl_ReadConf N x1 = some r) : Says Try.prog 73 [VS x1] 0 [] (.tup [.sl 0 3 0 r.1.length,VB r.2]) [(0,.vec 3 (r.1.map encI))] := by
 unfold impl_ReadConf at h
 refine Says.of_norm e Try.call73 e fun B hB => ?_
 have hm : B.m ≤ 1000 := by omega
 refine Run.so hm (.p2 e e (.nil (.so hm (.p e (.nil (.seqO h (fun v182 => [(4,.sl 0 3 0 v182.length)]) (fun (v182 : (List Int)) => [(0,.vec 3 (v182.map encI))]) (fun h => ?_) (fun v182 h => ?_)))))))
 ·refine Run.so hm (.p e (.nil (.block ?_)))
  obtain ⟨res196,h,hk196⟩ := bindO h
  refine Run.loop (n := N) (fun m196 fr σ => ∃ (x184 : Int),∃ (x185 : (List Int)),impl_ReadConf_l1 N x1 m196 x184 x185 = some res196 ∧ fr = [(0,VS x1),(4,.sl 0 3 0 x185.length),(5,VI x184)] ∧ σ = [(0,.vec 3 (x185.map encI))]) (Gh.trans (Gh.trans (gh_prn [0,4,5] [] hB e) (gh_nil [4] [] hB e e e)) (gh_pk [0,4,5] [10000000] hB e e e e)) ⟨_,_,h,e,e⟩ ?_
  rintro m196 fr σ ⟨x184,x185,h,rfl,rfl⟩
  obtain _ | m196 := m196
  ·rw [impl_ReadConf_l1] at h; cases h
  rw [impl_ReadConf_l1] at h
  refine Run.seq (.so hm (.p3 e e e (.p e (.nil (.condO e h (fun g199 h => ?_) (fun g199 h => ?_))))))
  ·refine Run.skip (.seq (.block (.ops hm (.p3 e e e ?_))))
   obtain ⟨x206,hx206,h⟩ := bindO h
   refine Ops.z 21528 (Ev.ixS e e hx206) e e (.p e (.z 21560 (Ev.bsW (ys := ([w64 (x206)] : List Int)) (f := encI) e (.d1 .nil) e e e e e) e e ?_))
   obtain ⟨x207,hx207,h⟩ := bindO h
   exact Ops.z 21576 (Ev.apW (f := encI) (ontoW e e e) (addsW e e e (fun _ => e)) e bt3 e hx207) e e (.p e (.nil (.ops hm (.p3 e e e (.nil (⟨m196,Nat.lt_succ_self m196,_,_,(gh_pk [0,4,5] [21576] hB e e e e),_,_,h,e,e⟩))))))
  ·refine Run.exit ?_
   obtain rfl := someO h
   have h := hk196
   exact ⟨_,_,(gh_pk [4] [0] hB e e e e),_,h,e,e⟩
 ·refine Run.seq (.so hm (.p e ?_))
  obtain ⟨y212,hy212,h⟩ := bindO h
  refine Ops.z 25592 (Ev.call [] [0] 0 (sem_impl_ConfOk _ _ _ hy212) e e (.cons (.borrow e (by decide) (lendW (fun _ => e) _ e)) .nil) e (.inr ⟨e,ownL_root trivial⟩) e e) e e ?_
  refine Ops.p e (.nil (.condO e h (fun g213 h => ?_) (fun g213 h => ?_)))
  ·refine Run.so hm (.p2 e e (.nil (.ret ?_)))
   obtain rfl := someO h
   exact Ends.mkG (.inl e) e (Gh.trans (Gh.trans (gh_prn [0,1] [] hB e) (gh_nil [0] [] hB e e e)) (gh_pk [0,1] [10000000] hB e e e e)) e e
  ·refine Run.skip (.so hm (.p3 e e e (.nil (.ret ?_))))
   obtain rfl := someO h
   exact Ends.mkG (.inl e) e (gh_pk [0,1] [0] hB e e e e) e e
def impl_EntryOk (N : Nat) (x1 : Entry) : Option (Bool) :=
 (impl_within N x1.Term 0 100000).bind fun y117 =>
 (if (!y117) = true then
 some false
 else
 (if (x1.Kind == 1) = true then
 some (decide (x1.Data = (⟨#[]⟩ : ByteArray)))
 else
 (if (x1.Kind == 2) = true then
 (impl_ReadConf N x1.Data).bind fun y124 =>
 some y124.2
 else
 (if (x1.Kind == 3) = true then
 some (decide ((x1.Data.size : Int) ≤ 120))
 else
 some false))))
theorem sem_impl_EntryOk (N : Nat) (x1 : Entry) (r : Bool) (h : impl_EntryOk N x1 = some r) : Says Try.prog 48 [.agg [VI x1.Term,VI x1.Kind,VS x1.Data]] 0 [] (VB r) [] := by
 unfold impl_EntryOk at h
 refine Says.of_norm e Try.call48 e fun B hB => ?_
 have hm : B.m ≤ 1000 := by omega
 refine Run.so hm (.z 1000 (.bx e e) e e (.p e (.nil (.seq (.so hm (.p2 e e ?_))))))
 obtain ⟨y117,hy117,h⟩ := bindO h
 refine Ops.z 5128 (Ev.call [] [] 0 (sem_impl_within _ _ _ _ _ hy117) e e (.d2 (.d1 .nil)) e (.inl e) e e) e e (.p e (.nil (.condO e h (fun g118 h => ?_) (fun g118 h => ?_))))
 ·refine Run.so hm (.p e (.nil (.ret ?_)))
  obtain rfl := someO h
  exact Ends.mkG (.inl e) e (gh_pk [0] [] hB e e e e) e e
 ·refine Run.skip (.seq (.so hm (.p2 e e (.nil (.block (.so hm (.p2 e e (.nil (.condO e h (fun g119 h => ?_) (fun g119 h => ?_))))))))))
  ·refine Run.so hm (.p3 e e e (.p e (.nil (.ret ?_))))
   obtain rfl := someO h
   exact Ends.mkG (.inl e) e (gh_pk [0] [] hB e e e e) e e
  ·refine Run.so hm (.p2 e e (.nil (.condO e h (fun g120 h => ?_) (fun g120 h => ?_))))
   ·refine Run.so hm (.p2 e e ?_)
    obtain ⟨y124,hy124,h⟩ := bindO h
    refine Ops.z 29704 (Ev.call [] [] 1 (sem_impl_ReadConf _ _ _ hy124) e e (.d1 .nil) e (.inl e) e e) e e (.p3 e e e (.p2 e e (.nil (.so hm (.p2 e e (.nil (.ret ?_)))))))
    obtain rfl := someO h
    exact Ends.mkG (.inl e) e (gh_pk [0] [] hB e e e e) e e
   ·refine Run.so hm (.p2 e e (.nil (.condO e h (fun g125 h => ?_) (fun g125 h => ?_))))
    ·refine Run.so hm (.p3 e e e (.p2 e e (.nil (.ret ?_))))
     obtain rfl := someO h
     exact Ends.mkG (.inl e) e (gh_pk [0] [] hB e e e e) e e
    ·refine Run.skip (.so hm (.p e (.nil (.ret ?_))))
     obtain rfl := someO h
     exact Ends.mkG (.inl e) e (gh_pk [0] [] hB e e e e) e e
def impl_LogOk_l1 (N : Nat) (x1 : Log) : Nat → Int → Int → Option ((Bool) ⊕ (Unit))
 | 0,_,_ => none
 | m + 1,x263,x266 =>
 (if (decide (x266 < (x1.Entries.length : Int))) = true then
 (at? x1.Entries x266).bind fun x291 =>
 (impl_EntryOk N x291).bind fun y299 =>
 (if (!y299) = true then
 some (Sum.inl false)
 else
 (if (decide (x291.Term < x263)) = true then
 some (Sum.inl false)
 else
 impl_LogOk_l1 N x1 m x291.Term (w64 (x266 + 1))))
 else
 some (Sum.inr ()))
def impl_LogOk_l1_r (N : Nat) (x1 : Log) : (List Entry) → Int → Int → Option ((Bool) ⊕ (Unit))
 | [],x263,x266 =>
 some (Sum.inr ())
 | hd :: tl,x263,x266 =>
 (some hd).bind fun x291 =>
 (impl_EntryOk N x291).bind fun y299 =>
 (if (!y299) = true then
 some (Sum.inl false)
 else
 (if (decide (x291.Term < x263)) = true then
 some (Sum.inl false)
 else
 impl_LogOk_l1_r N x1 tl x291.Term (w64 (x266 + 1))))
theorem impl_LogOk_l1_rng (N : Nat) (x1 : Log) (hx : x1.Entries.length ≤ 1099511627776) : ∀ (d k m : Nat) (x263 : Int),x1.Entries.length = k + d → d < m → impl_LogOk_l1 N x1 m x263 (k : Int) = impl_LogOk_l1_r N x1 (x1.Entries.drop k) x263 (k : Int) := by
 intro d
 induction d with
 | zero =>
  intro k m x263 hd hm
  obtain ⟨m,rfl⟩ : ∃ q,m = q + 1 := ⟨m - 1,by omega⟩
  rw [impl_LogOk_l1,if_neg (by simp; omega),List.drop_eq_nil_of_le (by omega),impl_LogOk_l1_r]
 | succ d ih =>
  intro k m x263 hd hm
  obtain ⟨m,rfl⟩ : ∃ q,m = q + 1 := ⟨m - 1,by omega⟩
  have hk : k < x1.Entries.length := by omega
  rw [impl_LogOk_l1,if_pos (by simp; omega),List.drop_eq_getElem_cons hk,impl_LogOk_l1_r]
  have h1 := at_lt hk
  have h2 := w64_succ (k := k) (by omega)
  have h3 := ih (k + 1) m
  simp only [h1,h2,h3 _ (by omega) (by omega)]
theorem impl_LogOk_l1_eq {N : Nat} (x1 : Log) (hx : x1.Entries.length ≤ 1099511627776) (hN : x1.Entries.length < N) (x263 : Int) : impl_LogOk_l1 N x1 N x263 0 = impl_LogOk_l1_r N x1 x1.Entries x263 0 := impl_LogOk_l1_rng N x1 hx x1.Entries.length 0 N x263 (by omega) hN
def impl_LogOk (N : Nat) (x1 : Log) : Option (Bool) :=
 (impl_within N x1.Start 0 100000).bind fun y217 =>
 (if (!y217) = true then
 some false
 else
 (impl_within N x1.StartTerm 0 100000).bind fun y219 =>
 (if (!y219) = true then
 some false
 else
 (if (decide ((x1.Entries.length : Int) > 120)) = true then
 some false
 else
 (if (decide ((w64 (x1.Start + (x1.Entries.length : Int))) > 100000)) = true then
 some false
 else
 joinP (fun (v262 : Unit) =>
 some true) fun j262 =>
 (impl_LogOk_l1 N x1 N x1.StartTerm 0).bind (Sum.elim (fun v283 => some v283) (fun (v284 : Unit) => j262 ()))))))
theorem sem_impl_LogOk (N : Nat) (x1 : Log) (r : Bool) (h : impl_LogOk N x1 = some r) : Says Try.prog 21 [.agg [VI x1.Start,VI x1.StartTerm,RO 51 (x1.Entries.map encEntry)]] 0 [] (VB r) [] := by
 unfold impl_LogOk at h
 refine Says.of_norm e Try.call21 e fun B hB => ?_
 have hm : B.m ≤ 1000 := by omega
 refine Run.so hm (.z 1000 (.bx e e) e e (.p e (.nil (.seq (.so hm (.p2 e e ?_))))))
 obtain ⟨y217,hy217,h⟩ := bindO h
 refine Ops.z 5128 (Ev.call [] [] 0 (sem_impl_within _ _ _ _ _ hy217) e e (.d2 (.d1 .nil)) e (.inl e) e e) e e (.p2 e e (.askO (x := .t 10) e h (fun g218 h => ?_) (fun g218 h => ?_)))
 ·refine Ops.gn e g218 (.gn e g218 (.gn e g218 (.gn e g218 (.z 5240 (.pkT e g218 e) e e (.p e (.gn e e (.gn e e (.gn e e (.gn e e (.z 5336 (.pkT e e e) e e (.p e (.gn e e (.gn e e (.gn e e (.gn e e (.gn e e (.gn e e (.gn e e (.z 5480 (.pkT e e e) e e (.nil (.condT e e (.so hm (.p e (.nil (.ret ?_)))))))))))))))))))))))))
  obtain rfl := someO h
  exact Ends.mkG (.inl e) e (gh_pk [0] [] hB e e e e) e e
 ·refine Ops.gp e g218 e (.gp e g218 e ?_)
  obtain ⟨y219,hy219,h⟩ := bindO h
  refine Ops.gs (s := 5208) e g218 (Ev.call [] [] 0 (sem_impl_within _ _ _ _ _ hy219) e e (.d2 (.d1 .nil)) e (.inl e) e e) e e (.gp e g218 e (.z 5240 (.pkF e g218 e) e e (.p e (.askO (x := .t 16) e h (fun g220 h => ?_) (fun g220 h => ?_)))))
  ·refine Ops.gn e g220 (.gn e g220 (.gn e g220 (.gn e g220 (.z 5336 (.pkT e g220 e) e e (.p e (.gn e e (.gn e e (.gn e e (.gn e e (.gn e e (.gn e e (.gn e e (.z 5480 (.pkT e e e) e e (.nil (.condT e e (.so hm (.p e (.nil (.ret ?_)))))))))))))))))))
   obtain rfl := someO h
   exact Ends.mkG (.inl e) e (gh_pk [0] [] hB e e e e) e e
  ·refine Ops.gp e g220 e (.gp e g220 e (.gs (s := 5304) e g220 (Ev.lnF e) e e (.gp e g220 e (.z 5336 (.pkF e g220 e) e e (.p e (.askO (x := .t 22) e h (fun g221 h => ?_) (fun g221 h => ?_)))))))
   ·refine Ops.gn e g221 (.gn e g221 (.gn e g221 (.gn e g221 (.gn e g221 (.gn e g221 (.gn e g221 (.z 5480 (.pkT e g221 e) e e (.nil (.condT e e (.so hm (.p e (.nil (.ret ?_)))))))))))))
    obtain rfl := someO h
    exact Ends.mkG (.inl e) e (gh_pk [0] [] hB e e e e) e e
   ·refine Ops.gp e g221 e (.gp e g221 e (.gp e g221 e (.gp e g221 e (.gs (s := 5432) e g221 (Ev.lnF e) e e (.gp e g221 e (.gp e g221 e (.z 5480 (.pkF e g221 e) e e (.nil (.condO e h (fun g222 h => ?_) (fun g222 h => ?_))))))))))
    ·refine Run.so hm (.p e (.nil (.ret ?_)))
     obtain rfl := someO h
     exact Ends.mkG (.inl e) e (gh_pk [0] [] hB e e e e) e e
    ·refine Run.skip (.so hm (.p3 e e e (.nil (.seqO h (fun v262 => []) (fun (v262 : Unit) => []) (fun h => ?_) (fun v262 h => ?_)))))
     ·refine Run.so hm (.p2 e e (.z 17416 (Ev.lnF e) e e (.p e (.nil (.block ?_)))))
      obtain ⟨res284,h,hk284⟩ := bindO h
      refine Run.loop (n := N) (fun m284 fr σ => ∃ (x263 : Int),∃ (x266 : Int),impl_LogOk_l1 N x1 m284 x263 x266 = some res284 ∧ fr = [(3,VI x263),(34,RO 51 (x1.Entries.map encEntry)),(35,VI (x1.Entries.length : Int)),(36,VI x266)] ∧ σ = []) (gh_pk [3,34,35,36] [] hB e e e e) ⟨_,_,h,e,e⟩ ?_
      rintro m284 fr σ ⟨x263,x266,h,rfl,rfl⟩
      obtain _ | m284 := m284
      ·rw [impl_LogOk_l1] at h; cases h
      rw [impl_LogOk_l1] at h
      refine Run.so hm (.p e (.nil (.seq (.condO e h (fun g287 h => ?_) (fun g287 h => ?_)))))
      ·refine Run.skip (.seq (.block (.so hm ?_)))
       obtain ⟨x291,hx291,h⟩ := bindO h
       refine Ops.z 25576 (Ev.iaF e e hx291) e e (.p e (.z 25608 (.al e e) e e (.y 25624 (.sto e e e e e e) e e (.nil (.seq (.so hm (.p e ?_)))))))
       obtain ⟨y299,hy299,h⟩ := bindO h
       refine Ops.z 29688 (Ev.call [] [] 0 (sem_impl_EntryOk _ _ _ hy299) e e (.cons (.agg (.d2 (.d1 .nil))) .nil) e (.inl e) e e) e e (.p2 e e (.askO (x := .t 43) e h (fun g300 h => ?_) (fun g300 h => ?_)))
       ·refine Ops.gn e g300 (.gn e g300 (.gn e g300 (.gn e g300 (.z 29800 (.pkT e g300 e) e e (.nil (.condT e e (.so hm (.p e (.nil (.ret ?_))))))))))
        obtain rfl := someO h
        have h := hk284
        replace h := inlO h
        obtain rfl := someO h
        exact Ends.mkG (.inl e) e (gh_pk [0] [] hB e e e e) e e
       ·refine Ops.gp e g300 e (.gp e g300 e (.gp e g300 e (.gp e g300 e (.z 29800 (.pkF e g300 e) e e (.nil (.condO e h (fun g301 h => ?_) (fun g301 h => ?_)))))))
        ·refine Run.so hm (.p e (.nil (.ret ?_)))
         obtain rfl := someO h
         have h := hk284
         replace h := inlO h
         obtain rfl := someO h
         exact Ends.mkG (.inl e) e (gh_pk [0] [] hB e e e e) e e
        ·exact Run.skip (.ops hm (.p3 e e e (.nil (.ops hm (.p2 e e (.nil (⟨m284,Nat.lt_succ_self m284,_,_,(gh_pk [3,34,35,36] [] hB e e e e),_,_,h,e,e⟩)))))))
      ·refine Run.exit ?_
       obtain rfl := someO h
       have h := hk284
       replace h := inrO h
       exact ⟨_,_,(gh_pk [] [] hB e e e e),(),h,e,e⟩
     ·refine Run.so hm (.p e (.nil (.ret ?_)))
      obtain rfl := someO h
      exact Ends.mkG (.inl e) e (gh_pk [0] [] hB e e e e) e e
end Go.Proofs.Ythlhkcnilehbbaa.Pe.FnLogs
