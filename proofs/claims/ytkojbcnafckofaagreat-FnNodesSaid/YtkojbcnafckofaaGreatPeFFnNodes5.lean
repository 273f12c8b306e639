/- Functions,as pure functions; and that Go does just that. -/
import Derived.Test.YtkojbcnafckofaaGreatPeFFnNodes4
namespace Go.Proofs.YtkojbcnafckofaaGreat.Pe.FnNodes
open Go Go.RowKit
set_option linter.unusedVariables false
set_option linter.unusedSimpArgs false
set_option maxHeartbeats 40000000
set_option maxRecDepth 100000
def s_l01Text_l1 (N : Nat) (v161 : Int) : Nat → Int → (List Int) → Int → Int → (List Int) → Option ((List Int) × Int × Int × (List Int))
 | 0,_,_,_,_,_ => none
 | m + 1,x193,x194,x195,x196,x197 =>
 (if (decide (x193 < v161)) = true then
 (s_l01Byte N (TU.mk x194 x195 x196)).bind fun y218 =>
 (cat? x197 ([IntKind.wrap .u8 (y218.1)] : List Int)).bind fun x219 =>
 s_l01Text_l1 N v161 m (w64 (x193 + 1)) y218.2.b y218.2.i y218.2.h x219
 else
 some (x194,x195,x196,x197))
def s_l01Text (N : Nat) (x1 : TU) (x2 : Int) : Option (ByteArray × TU) :=
 joinP (fun (v161 : Int) =>
 joinP (fun (v191 : (List Int) × Int × Int × (List Int)) =>
 some (strOf v191.2.2.2,(TU.mk v191.1 v191.2.1 v191.2.2.1))) fun j191 =>
 (s_l01Text_l1 N v161 N 0 x1.b x1.i x1.h ([] : List Int)).bind (fun v208 => j191 (v208.1,v208.2.1,v208.2.2.1,v208.2.2.2))) fun j161 =>
 (if (decide (x2 > 5000)) = true then
 j161 5000
 else
 j161 x2)
theorem sem_s_l01Text (N : Nat) (x1 : TU) (x2 : Int) (r : ByteArray × TU) (h : s_l01Text N x1 x2 = some r) : Says Tryz.prog 58 [.ptr 0 0,VI x2] 1 [(0,.box [RO 5 (x1.b.map encU),VI x1.i,VI x1.h])] (VS r.1) [(0,.box [RO 5 (r.2.b.map encU),VI r.2.i,VI r.2.h])] := by
 unfold s_l01Text at h
 refine Says.of_norm e Tryz.call58 e fun B hB => ?_
 have hm : B.m ≤ 1000 := by omega
 refine Run.so hm (.p e (.nil (.seqO h (fun v161 => [(0,.ptr 0 0),(1,VI v161)]) (fun (v161 : Int) => [(0,.box [RO 5 (x1.b.map encU),VI x1.i,VI x1.h])]) (fun h => ?_) (fun v161 h => ?_))))
 ·refine Run.so hm (.p2 e e (.nil (.condO e h (fun g162 h => ?_) (fun g162 h => ?_))))
  ·exact Run.ops hm (.p e (.nil (⟨_,_,(gh_pk [0,1] [0] hB e e e e),_,h,e,e⟩)))
  ·exact Run.skip (⟨_,_,(gh_pk [0,1] [0] hB e e e e),_,h,e,e⟩)
 ·refine Run.so hm (.z 13288 (Ev.bsW (ys := ([] : List Int)) (f := encU) e .nil e e e e e) e e (.p e (.nil (.seqO h (fun v191 => [(5,.sl 1 5 0 v191.2.2.2.length)]) (fun (v191 : (List Int) × Int × Int × (List Int)) => [(0,.box [RO 5 (v191.1.map encU),VI v191.2.1,VI v191.2.2.1]),(1,.vec 5 (v191.2.2.2.map encU))]) (fun h => ?_) (fun v191 h => ?_)))))
  ·refine Run.so hm (.p e (.nil (.block ?_)))
   obtain ⟨res208,h,hk208⟩ := bindO h
   refine Run.loop (n := N) (fun m208 fr σ => ∃ (x193 : Int),∃ (x194 : (List Int)),∃ (x195 : Int),∃ (x196 : Int),∃ (x197 : (List Int)),s_l01Text_l1 N v161 m208 x193 x194 x195 x196 x197 = some res208 ∧ fr = [(0,.ptr 0 0),(1,VI v161),(5,.sl 1 5 0 x197.length),(6,VI x193)] ∧ σ = [(0,.box [RO 5 (x194.map encU),VI x195,VI x196]),(1,.vec 5 (x197.map encU))]) (gh_pk [0,1,5,6] [0,13288] hB e e e e) ⟨_,_,_,_,_,h,e,e⟩ ?_
   rintro m208 fr σ ⟨x193,x194,x195,x196,x197,h,rfl,rfl⟩
   obtain _ | m208 := m208
   ·rw [s_l01Text_l1] at h; cases h
   rw [s_l01Text_l1] at h
   refine Run.seq (.so hm (.p3 e e e (.nil (.condO e h (fun g211 h => ?_) (fun g211 h => ?_)))))
   ·refine Run.skip (.seq (.block (.ops hm (.p2 e e ?_))))
    obtain ⟨y218,hy218,h⟩ := bindO h
    refine Ops.z 29704 (Ev.call [0] [] 0 (sem_s_l01Byte _ _ _ hy218) e e (.cons (.ptr e) .nil) e (.inl e) e e) e e (.p e (.z 29736 (Ev.bsW (ys := ([IntKind.wrap .u8 (y218.1)] : List Int)) (f := encU) e (.d1 .nil) e e e e e) e e ?_))
    obtain ⟨x219,hx219,h⟩ := bindO h
    exact Ops.z 29752 (Ev.apW (f := encU) (ontoW e e e) (addsW e e e (fun _ => e)) e bt5 e hx219) e e (.p e (.nil (.ops hm (.p3 e e e (.nil (⟨m208,Nat.lt_succ_self m208,_,_,(gh_pk [0,1,5,6] [0,29752] hB e e e e),_,_,_,_,_,h,e,e⟩))))))
   ·refine Run.exit ?_
    obtain rfl := someO h
    have h := hk208
    exact ⟨_,_,(gh_pk [5] [0,1] hB e e e e),_,h,e,e⟩
  ·refine Run.so hm (.p e (.z 33784 (.sbC (addsW (f := encU) e e e (fun _ => e))) e e (.p e (.nil (.ret ?_)))))
   obtain rfl := someO h
   exact Ends.mkG (.inl e) e (gh_pk [0] [0] hB e e e e) e e
def s_l14Right_l1 (N : Nat) (y346 : Int × TU) : Nat → Int → Int → (List Int) → Int → Int → (List Entry) → Option ((List Int) × Int × Int × (List Entry))
 | 0,_,_,_,_,_,_ => none
 | m + 1,x456,x457,x458,x459,x460,x483 =>
 (s_l01Below N (TU.mk x458 x459 x460) 5).bind fun y513 =>
 (if (decide (x457 < y513.1)) = true then
 (s_l01Below N y513.2 (w64 ((w64 (y346.1 - x456)) + 1))).bind fun y526 =>
 (s_l11Right N y526.2 (w64 (x456 + y526.1))).bind fun y529 =>
 (cat? x483 ([y529.1] : List Entry)).bind fun x530 =>
 s_l14Right_l1 N y346 m (w64 (x456 + y526.1)) (w64 (x457 + 1)) y529.2.b y529.2.i y529.2.h x530
 else
 some (y513.2.b,y513.2.i,y513.2.h,x483))
def s_l14Right (N : Nat) (x1 : TU) : Option (Message × TU) :=
 (s_l01Below N x1 6).bind fun y344 =>
 (s_l01Below N y344.2 4).bind fun y345 =>
 (s_l01Below N y345.2 8).bind fun y346 =>
 (s_l01Below N y346.2 12).bind fun y347 =>
 (s_l01Below N y347.2 5).bind fun y348 =>
 (s_l01Below N y348.2 9).bind fun y349 =>
 (s_l01Once N y349.2 2).bind fun y350 =>
 (intD .rem .i64 (w64 (1 + y345.1)) 4).bind fun x354 =>
 joinP (fun (v450 : (List Int) × Int × Int × Int × Int × Int × Int × ByteArray × Bool × (List Entry) × (List Int) × (List Entry) × (List Int)) =>
 some ((Message.mk v450.2.2.2.1 v450.2.2.2.2.1 v450.2.2.2.2.2.1 y346.1 y347.1 v450.2.2.2.2.2.2.1 y349.1 y350.1 v450.2.2.2.2.2.2.2.2.2.2.2.1 v450.2.2.2.2.2.2.2.2.2.2.2.2 v450.2.2.2.2.2.2.2.1 v450.2.2.2.2.2.2.2.2.1),(TU.mk v450.1 v450.2.1 v450.2.2.1))) fun j450 =>
 (if ((w64 (1 + y344.1)) == 3) = true then
 (s_l01Below N y350.2 (w64 (y346.1 + 1))).bind fun y455 =>
 (s_l14Right_l1 N y346 N y455.1 0 y455.2.b y455.2.i y455.2.h ([] : (List Entry))).bind (fun v507 => j450 (v507.1,v507.2.1,v507.2.2.1,(w64 (1 + y344.1)),(w64 (1 + y345.1)),(w64 (x354 + 1)),y455.1,(⟨#[]⟩ : ByteArray),false,([] : (List Entry)),([] : (List Int)),v507.2.2.2,([] : (List Int))))
 else
 (if ((w64 (1 + y344.1)) == 5) = true then
 (s_l07Conf N y350.2).bind fun y535 =>
 (s_l01Below N y535.2 9).bind fun y542 =>
 (s_l01Text N y542.2 y542.1).bind fun y543 =>
 (s_l01Once N y543.2 2).bind fun y545 =>
 j450 (y545.2.b,y545.2.i,y545.2.h,w64 (1 + y344.1),w64 (1 + y345.1),w64 (x354 + 1),y348.1,y543.1,y545.1,([] : (List Entry)),([] : (List Int)),([] : (List Entry)),y535.1)
 else
 j450 (y350.2.b,y350.2.i,y350.2.h,w64 (1 + y344.1),w64 (1 + y345.1),w64 (x354 + 1),y348.1,(⟨#[]⟩ : ByteArray),false,([] : (List Entry)),([] : (List Int)),([] : (List Entry)),([] : (List Int)))))
theorem sem_s_l14Right (N : Nat) (x1 : TU) (r : Message × TU) (h : s_l14Right N x1 = some r) : Says Tryz.prog 20 [.ptr 0 0] 1 [(0,.box [RO 5 (x1.b.map encU),VI x1.i,VI x1.h])] (.agg [VI r.1.Kind,VI r.1.From,VI r.1.To,VI r.1.Term,VI r.1.Index,VI r.1.LogTerm,VI r.1.Commit,VB r.1.Ok,.sl 1 40 0 r.1.Entries.length,.sl 2 3 0 r.1.Conf.length,VS r.1.Data,VB r.1.Last]) [(0,.box [RO 5 (r.2.b.map encU),VI r.2.i,VI r.2.h]),(1,.vec 40 (r.1.Entries.map eE)),(2,.vec 3 (r.1.Conf.map encI))] := by
 unfold s_l14Right at h
 refine Says.of_norm e Tryz.call20 e fun B hB => ?_
 have hm : B.m ≤ 1000 := by omega
 refine Run.so hm (.z 1000 (.al e e) e e (.nil (.so hm (.p e ?_))))
 obtain ⟨y344,hy344,h⟩ := bindO h
 refine Ops.z 5112 (Ev.call [0] [] 0 (sem_s_l01Below _ _ _ _ hy344) e e (.cons (.ptr e) (.d1 .nil)) e (.inl e) e e) e e (.p2 e e ?_)
 obtain ⟨y345,hy345,h⟩ := bindO h
 refine Ops.z 5160 (Ev.call [0] [] 0 (sem_s_l01Below _ _ _ _ hy345) e e (.cons (.ptr e) (.d1 .nil)) e (.inl e) e e) e e (.p2 e e ?_)
 obtain ⟨y346,hy346,h⟩ := bindO h
 refine Ops.z 5208 (Ev.call [0] [] 0 (sem_s_l01Below _ _ _ _ hy346) e e (.cons (.ptr e) (.d1 .nil)) e (.inl e) e e) e e (.p e ?_)
 obtain ⟨y347,hy347,h⟩ := bindO h
 refine Ops.z 5240 (Ev.call [0] [] 0 (sem_s_l01Below _ _ _ _ hy347) e e (.cons (.ptr e) (.d1 .nil)) e (.inl e) e e) e e (.p e ?_)
 obtain ⟨y348,hy348,h⟩ := bindO h
 refine Ops.z 5272 (Ev.call [0] [] 0 (sem_s_l01Below _ _ _ _ hy348) e e (.cons (.ptr e) (.d1 .nil)) e (.inl e) e e) e e (.p e ?_)
 obtain ⟨y349,hy349,h⟩ := bindO h
 refine Ops.z 5304 (Ev.call [0] [] 0 (sem_s_l01Below _ _ _ _ hy349) e e (.cons (.ptr e) (.d1 .nil)) e (.inl e) e e) e e (.p e ?_)
 obtain ⟨y350,hy350,h⟩ := bindO h
 refine Ops.z 5336 (Ev.call [0] [] 0 (sem_s_l01Once _ _ _ _ hy350) e e (.cons (.ptr e) (.d1 .nil)) e (.inl e) e e) e e (.z 5352 (.bd e e) e e (.z 5368 (.al e e) e e (.y 5384 (.sto e e e e e e) e e (.nil (.so hm (.p2 e e ?_))))))
 obtain ⟨x354,hx354,h⟩ := bindO h
 refine Ops.z 9224 (.bin e e hx354) e e (.p2 e e (.y 9272 (.sto e e e e e e) e e (.nil (.seqO h (fun v450 => [(2,.ptr 1 0),(3,.ptr 2 0)]) (fun (v450 : (List Int) × Int × Int × Int × Int × Int × Int × ByteArray × Bool × (List Entry) × (List Int) × (List Entry) × (List Int)) => [(0,.box [RO 5 (v450.1.map encU),VI v450.2.1,VI v450.2.2.1]),(1,.box [VI 0,VI 0,VI 0,VI 0,VI 0,VI 0,VI 0,VB false,.sl 3 40 0 v450.2.2.2.2.2.2.2.2.2.1.length,.sl 4 3 0 v450.2.2.2.2.2.2.2.2.2.2.1.length,VS (⟨#[]⟩ : ByteArray),VB false]),(2,.box [VI v450.2.2.2.1,VI v450.2.2.2.2.1,VI v450.2.2.2.2.2.1,VI y346.1,VI y347.1,VI v450.2.2.2.2.2.2.1,VI y349.1,VB y350.1,.sl 5 40 0 v450.2.2.2.2.2.2.2.2.2.2.2.1.length,.sl 6 3 0 v450.2.2.2.2.2.2.2.2.2.2.2.2.length,VS v450.2.2.2.2.2.2.2.1,VB v450.2.2.2.2.2.2.2.2.1]),(3,.vec 40 (v450.2.2.2.2.2.2.2.2.2.1.map eE)),(4,.vec 3 (v450.2.2.2.2.2.2.2.2.2.2.1.map encI)),(5,.vec 40 (v450.2.2.2.2.2.2.2.2.2.2.2.1.map eE)),(6,.vec 3 (v450.2.2.2.2.2.2.2.2.2.2.2.2.map encI))]) (fun h => ?_) (fun v450 h => ?_)))))
 ·refine Run.so hm (.p2 e e (.nil (.block (.so hm (.p2 e e (.nil (.condO e h (fun g451 h => ?_) (fun g451 h => ?_))))))))
  ·refine Run.so hm (.p3 e e e (.p e ?_))
   obtain ⟨y455,hy455,h⟩ := bindO h
   refine Ops.z 21544 (Ev.call [0] [] 0 (sem_s_l01Below _ _ _ _ hy455) e e (.cons (.ptr e) (.d1 .nil)) e (.inl e) e e) e e (.p e (.y 21576 (.sto e e e e e e) e e (.nil (.so hm (.p3 e e e (.nil (.so hm (.p e (.nil (.block ?_))))))))))
   obtain ⟨res507,h,hk507⟩ := bindO h
   refine Run.loop (n := N) (fun m507 fr σ => ∃ (x456 : Int),∃ (x457 : Int),∃ (x458 : (List Int)),∃ (x459 : Int),∃ (x460 : Int),∃ (x483 : (List Entry)),s_l14Right_l1 N y346 m507 x456 x457 x458 x459 x460 x483 = some res507 ∧ fr = [(0,.ptr 0 0),(2,.ptr 1 0),(3,.ptr 2 0),(4,VI x456),(5,VI x457)] ∧ σ = [(0,.box [RO 5 (x458.map encU),VI x459,VI x460]),(1,.box [VI 0,VI 0,VI 0,VI 0,VI 0,VI 0,VI 0,VB false,.sl 3 40 0 (([] : (List Entry)).length),.sl 4 3 0 (([] : (List Int)).length),VS (⟨#[]⟩ : ByteArray),VB false]),(2,.box [VI (w64 (1 + y344.1)),VI (w64 (1 + y345.1)),VI (w64 (x354 + 1)),VI y346.1,VI y347.1,VI y455.1,VI y349.1,VB y350.1,.sl 5 40 0 x483.length,.sl 6 3 0 (([] : (List Int)).length),VS (⟨#[]⟩ : ByteArray),VB false]),(3,.vec 40 (([] : (List Entry)).map eE)),(4,.vec 3 (([] : (List Int)).map encI)),(5,.vec 40 (x483.map eE)),(6,.vec 3 (([] : (List Int)).map encI))]) (Gh.trans (Gh.trans (gh_prn [0,2,3,4,5] [0,1000,5368] hB e) (gh_nil [] [1000,5368] hB e e e)) (gh_pk [0,2,3,4,5] [0,1000,5368,20000000,20000001,20000064,20000065] hB e e e e)) ⟨_,_,_,_,_,_,h,e,e⟩ ?_
   rintro m507 fr σ ⟨x456,x457,x458,x459,x460,x483,h,rfl,rfl⟩
   obtain _ | m507 := m507
   ·rw [s_l14Right_l1] at h; cases h
   rw [s_l14Right_l1] at h
   refine Run.seq (.so hm (.p2 e e ?_))
   obtain ⟨y513,hy513,h⟩ := bindO h
   refine Ops.z 33800 (Ev.call [0] [] 0 (sem_s_l01Below _ _ _ _ hy513) e e (.cons (.ptr e) (.d1 .nil)) e (.inl e) e e) e e (.p e (.nil (.condO e h (fun g514 h => ?_) (fun g514 h => ?_))))
   ·refine Run.skip (.seq (.block (.so hm (.p3 e e e (.p3 e e e (.p e ?_))))))
    obtain ⟨y526,hy526,h⟩ := bindO h
    refine Ops.z 42072 (Ev.call [0] [] 0 (sem_s_l01Below _ _ _ _ hy526) e e (.cons (.ptr e) (.d1 .nil)) e (.inl e) e e) e e (.p2 e e (.nil (.draw hm hmix (.p e (.p e (.p e (.p e ?_)))))))
    obtain ⟨y529,hy529,h⟩ := bindO h
    refine OpsD.z 46120 (Ev.call [0] [] 0 (sem_s_l11Right _ _ _ _ hy529) e e (.cons (.ptr e) (.d1 .nil)) e (.inl e) e e) e e (.z 46136 (Ev.bsW (ys := ([y529.1] : List Entry)) (f := eE) e (.d2 (.d1 .nil)) e e e e e) e e ?_)
    obtain ⟨x530,hx530,h⟩ := bindO h
    refine OpsD.z 46152 (Ev.apW (f := eE) (ontoW e e e) (addsW e e e (fun _ => e)) e bt40 e hx530) e e (.p e (.y 46184 (.sto e e e e e e) e e (.nil ⟨by kernel_rfl,?_⟩)))
    exact Run.ops hm (.p3 e e e (.nil (⟨m507,Nat.lt_succ_self m507,_,_,(gh_pk [0,2,3,4,5] [0,1,2,3,4,46152,6] hB e e e e),_,_,_,_,_,_,h,e,e⟩)))
   ·refine Run.exit ?_
    obtain rfl := someO h
    have h := hk507
    exact ⟨_,_,(gh_pk [2,3] [0,1,2,3,4,5,6] hB e e e e),_,h,e,e⟩
  ·refine Run.so hm (.p2 e e (.nil (.condO e h (fun g531 h => ?_) (fun g531 h => ?_))))
   ·refine Run.so hm (.p e ?_)
    obtain ⟨y535,hy535,h⟩ := bindO h
    refine Ops.z 54264 (Ev.call [0] [] 1 (sem_s_l07Conf _ _ _ hy535) e e (.cons (.ptr e) .nil) e (.inl e) e e) e e (.p e (.y 54296 (.sto e e e e e e) e e (.nil (.so hm (.p2 e e ?_)))))
    obtain ⟨y542,hy542,h⟩ := bindO h
    refine Ops.z 58376 (Ev.call [0] [] 0 (sem_s_l01Below _ _ _ _ hy542) e e (.cons (.ptr e) (.d1 .nil)) e (.inl e) e e) e e ?_
    obtain ⟨y543,hy543,h⟩ := bindO h
    refine Ops.z 58392 (Ev.call [0] [] 0 (sem_s_l01Text _ _ _ _ hy543) e e (.cons (.ptr e) (.d1 .nil)) e (.inl e) e e) e e (.p e (.y 58424 (.sto e e e e e e) e e (.nil (.ops hm (.p e ?_)))))
    obtain ⟨y545,hy545,h⟩ := bindO h
    exact Ops.z 62456 (Ev.call [0] [] 0 (sem_s_l01Once _ _ _ _ hy545) e e (.cons (.ptr e) (.d1 .nil)) e (.inl e) e e) e e (.p e (.y 62488 (.sto e e e e e e) e e (.nil (⟨_,_,(Gh.trans (Gh.trans (gh_prn [2,3] [0,1000,5368,54264] hB e) (gh_nil [] [1000,5368] hB e e e)) (gh_pk [2,3] [0,1000,5368,20000000,20000001,20000064,54264] hB e e e e)),_,h,e,e⟩))))
   ·exact Run.skip (⟨_,_,(Gh.trans (Gh.trans (gh_prn [2,3] [0,1000,5368] hB e) (gh_nil [] [1000,5368] hB e e e)) (gh_pk [2,3] [0,1000,5368,20000000,20000001,20000064,20000065] hB e e e e)),_,h,e,e⟩)
 ·refine Run.so hm (.p e (.y 66552 (.sto e e e e e e) e e (.nil (.ret ?_))))
  obtain rfl := someO h
  exact Ends.mkG (.inl e) e (gh_pk [0] [0,5,6] hB e e e e) e e
def s_DrawRightNode (N : Nat) (x1 : (List Int)) : Option (Node × Message) :=
 (s_l01New N x1).bind fun y159 =>
 (s_l16Steps N x1).bind fun y166 =>
 (s_l16Play N y159 y166).bind fun y167 =>
 (s_l01Below N y167.2 4).bind fun y171 =>
 (s_l14Right N y171.2).bind fun y175 =>
 joinP (fun (v189 : Int × Int × Int × Int × Int × Int × Int × Int × Bool × (List Entry) × (List Int) × ByteArray × Bool) =>
 joinP (fun (v206 : Int) =>
 (at? y167.1.nodes v189.1).bind fun x211 =>
 some (x211,(Message.mk v189.2.1 v206 (w64 (v189.1 + 1)) v189.2.2.2.2.1 v189.2.2.2.2.2.1 v189.2.2.2.2.2.2.1 v189.2.2.2.2.2.2.2.1 v189.2.2.2.2.2.2.2.2.1 v189.2.2.2.2.2.2.2.2.2.1 v189.2.2.2.2.2.2.2.2.2.2.1 v189.2.2.2.2.2.2.2.2.2.2.2.1 v189.2.2.2.2.2.2.2.2.2.2.2.2))) fun j206 =>
 (if (v189.2.2.1 == (w64 (v189.1 + 1))) = true then
 (intD .rem .i64 (w64 (v189.1 + 1)) 4).bind fun x209 =>
 j206 (w64 (x209 + 1))
 else
 j206 v189.2.2.1)) fun j189 =>
 (if (decide (((y167.1.net.length : Nat) : Int) > 0)) = true then
 (s_l01Once N y175.2 3).bind fun y193 =>
 (if (!y193.1) = true then
 (s_l01Below N y193.2 ((y167.1.net.length : Nat) : Int)).bind fun y201 =>
 (at? y167.1.net y201.1).bind fun x202 =>
 j189 (w64 (x202.To - 1),x202.Kind,x202.From,x202.To,x202.Term,x202.Index,x202.LogTerm,x202.Commit,x202.Ok,x202.Entries,x202.Conf,x202.Data,x202.Last)
 else
 j189 (y171.1,y175.1.Kind,y175.1.From,y175.1.To,y175.1.Term,y175.1.Index,y175.1.LogTerm,y175.1.Commit,y175.1.Ok,y175.1.Entries,y175.1.Conf,y175.1.Data,y175.1.Last))
 else
 j189 (y171.1,y175.1.Kind,y175.1.From,y175.1.To,y175.1.Term,y175.1.Index,y175.1.LogTerm,y175.1.Commit,y175.1.Ok,y175.1.Entries,y175.1.Conf,y175.1.Data,y175.1.Last))
theorem sem_s_DrawRightNode (N : Nat) (x1 : (List Int)) (r : Node × Message) (h : s_DrawRightNode N x1 = some r) : Says Tryz.prog 7 [RO 5 (x1.map encU)] 0 [] (.tup [.agg [VI r.1.Id,VI r.1.Term,VI r.1.Vote,VI r.1.Role,VI r.1.Lead,RO 3 (r.1.Conf.map encI),VI r.1.Log.Start,VI r.1.Log.StartTerm,RO 40 (r.1.Log.Entries.map eE),VI r.1.Commit,VI r.1.Clock,VI r.1.Limit,RO 3 (r.1.Votes.map encI),RO 98 (r.1.Peers.map eP)],.agg [VI r.2.Kind,VI r.2.From,VI r.2.To,VI r.2.Term,VI r.2.Index,VI r.2.LogTerm,VI r.2.Commit,VB r.2.Ok,RO 40 (r.2.Entries.map eE),RO 3 (r.2.Conf.map encI),VS r.2.Data,VB r.2.Last]]) [] := by
 unfold s_DrawRightNode at h
 refine Says.of_norm e Tryz.call7 e fun B hB => ?_
 have hm : B.m ≤ 1000 := by omega
 refine Run.so hm (.z 1000 (.al e e) e e (.z 1016 (.al e e) e e (.nil (.so hm (.p e ?_)))))
 obtain ⟨y159,hy159,h⟩ := bindO h
 refine Ops.z 5112 (Ev.call [] [] 1 (sem_s_l01New _ _ _ hy159) e e (.d1 .nil) e (.inl e) e e) e e (.p e (.nil (.so hm (.p2 e e ?_))))
 obtain ⟨y166,hy166,h⟩ := bindO h
 refine Ops.z 9224 (Ev.call [] [] 0 (sem_s_l16Steps _ _ _ hy166) e e (.d1 .nil) e (.inl e) e e) e e ?_
 obtain ⟨y167,hy167,h⟩ := bindO h
 refine Ops.z 9240 (Ev.call [5112] [] 3 (sem_s_l16Play _ _ _ _ hy167) e e (.cons (.ptr e) (.d1 .nil)) e (.inl e) e e) e e (.p e (.nil (.so hm (.p e ?_))))
 obtain ⟨y171,hy171,h⟩ := bindO h
 refine Ops.z 13304 (Ev.call [5112] [] 0 (sem_s_l01Below _ _ _ _ hy171) e e (.cons (.ptr e) (.d1 .nil)) e (.inl e) e e) e e (.p e (.nil (.so hm (.p e ?_))))
 obtain ⟨y175,hy175,h⟩ := bindO h
 refine Ops.z 17400 (Ev.call [5112] [] 2 (sem_s_l14Right _ _ _ hy175) e e (.cons (.ptr e) .nil) e (.inl e) e e) e e (.z 17416 (.al e e) e e (.y 17432 (.sto e e e e e e) e e (.nil (.seqO h (fun v189 => [(2,.ptr 0 0),(3,.ptr 1 0),(5,.ptr 2 0),(6,VI v189.1),(7,.ptr 3 0)]) (fun (v189 : Int × Int × Int × Int × Int × Int × Int × Int × Bool × (List Entry) × (List Int) × ByteArray × Bool) => [(0,.box [VI 0,VI 0,VI 0,VI 0,VI 0,RO 3 (([] : List Int).map encI),VI 0,VI 0,RO 40 (([] : List Entry).map eE),VI 0,VI 0,VI 0,RO 3 (([] : List Int).map encI),RO 98 (([] : List Peer).map eP)]),(1,.box [VI 0,VI 0,VI 0,VI 0,VI 0,VI 0,VI 0,VB false,RO 40 (([] : List Entry).map eE),RO 3 (([] : List Int).map encI),VS (⟨#[]⟩ : ByteArray),VB false]),(2,.box [.sl 4 30 0 y167.1.nodes.length,.sl 5 32 0 y167.1.net.length]),(3,.box [VI v189.2.1,VI v189.2.2.1,VI v189.2.2.2.1,VI v189.2.2.2.2.1,VI v189.2.2.2.2.2.1,VI v189.2.2.2.2.2.2.1,VI v189.2.2.2.2.2.2.2.1,VB v189.2.2.2.2.2.2.2.2.1,RO 40 (v189.2.2.2.2.2.2.2.2.2.1.map eE),RO 3 (v189.2.2.2.2.2.2.2.2.2.2.1.map encI),VS v189.2.2.2.2.2.2.2.2.2.2.2.1,VB v189.2.2.2.2.2.2.2.2.2.2.2.2]),(4,.vec 30 (y167.1.nodes.map (encNode false))),(5,.vec 32 (y167.1.net.map (eM false)))]) (fun h => ?_) (fun v189 h => ?_)))))
 ·refine Run.so hm (.p3 e e e (.p3 e e e (.p e (.askO (x := .t 24) e h (fun g192 h => ?_) (fun g192 h => ?_)))))
  ·refine Ops.gp e g192 e ?_
   obtain ⟨y193,hy193,h⟩ := bindO h
   refine Ops.gs (s := 21608) e g192 (Ev.call [5112] [] 0 (sem_s_l01Once _ _ _ _ hy193) e e (.cons (.ptr e) (.d1 .nil)) e (.inl e) e e) e e (.gp e g192 e (.z 21640 (.pkT e g192 e) e e (.nil (.condO e h (fun g194 h => ?_) (fun g194 h => ?_)))))
   ·refine Run.seq (.draw hm hmix (.p e (.p e (.p e (.p e (.p e (.p e (.p e (.p e (.p e (.p e ?_)))))))))))
    obtain ⟨y201,hy201,h⟩ := bindO h
    refine OpsD.z 25736 (Ev.call [5112] [] 0 (sem_s_l01Below _ _ _ _ hy201) e e (.cons (.ptr e) (.d1 .nil)) e (.inl e) e e) e e ?_
    obtain ⟨x202,hx202,h⟩ := bindO h
    refine OpsD.z 25752 (Ev.iaW e e e hx202) e e (.z 25768 (Ev.ldE (f := (eM false)) e e (at_some hx202).2 e e e) e e (.y 25784 (.sto e e e e e e) e e (.nil ⟨by kernel_rfl,?_⟩)))
    exact Run.ops hm (.p3 e e e (.p e (.nil (⟨_,_,(Gh.trans (Gh.trans (gh_prn [2,3,5,6,7] [1000,1016,9240,17416,9241,9242] hB e) (gh_ro [2,3,5,6,7] [1000,1016,17416] [] [1001000,1001016,1017416] e)) (gh_pk [2,3,5,6,7] [1000,1016,9240,17416,9241,9242] hB e e (by first | rfl | (simp only [List.length_set,takeMap,List.drop_zero,List.map_nil]; done) | (simp only [List.length_set,takeMap,List.drop_zero,List.map_nil]; rfl)) (by first | rfl | (simp only [List.length_set,takeMap,List.drop_zero,List.map_nil]; done) | (simp only [List.length_set,takeMap,List.drop_zero,List.map_nil]; rfl)))),_,h,e,e⟩))))
   ·exact Run.skip (⟨_,_,(Gh.trans (Gh.trans (Gh.trans (Gh.trans ((Gh.frz (f := eE) (g := eE) (xs := y175.1.Entries) 17400 (fun _ => e) e)) ((Gh.frz (f := encI) (g := encI) (xs := y175.1.Conf) 17401 (fun _ => e) e))) (gh_prn [2,3,5,6,7] [1000,1016,9240,17416,9241,9242,17400,17401] hB e)) (gh_ro [2,3,5,6,7] [1000,1016,17416] [17400,17401] [1001000,1001016,1017416] e)) (gh_pk [2,3,5,6,7] [1000,1016,9240,17416,9241,9242] hB e e (by first | rfl | (simp only [List.length_set,takeMap,List.drop_zero,List.map_nil]; done) | (simp only [List.length_set,takeMap,List.drop_zero,List.map_nil]; rfl)) (by first | rfl | (simp only [List.length_set,takeMap,List.drop_zero,List.map_nil]; done) | (simp only [List.length_set,takeMap,List.drop_zero,List.map_nil]; rfl)))),_,h,e,e⟩)
  ·exact Ops.gn e g192 (.gn e g192 (.gn e g192 (.z 21640 (.pkF e g192 e) e e (.nil (.condF e e (.skip (⟨_,_,(Gh.trans (Gh.trans (Gh.trans (Gh.trans ((Gh.frz (f := eE) (g := eE) (xs := y175.1.Entries) 17400 (fun _ => e) e)) ((Gh.frz (f := encI) (g := encI) (xs := y175.1.Conf) 17401 (fun _ => e) e))) (gh_prn [2,3,5,6,7] [1000,1016,9240,17416,9241,9242,17400,17401] hB e)) (gh_ro [2,3,5,6,7] [1000,1016,17416] [17400,17401] [1001000,1001016,1017416] e)) (gh_pk [2,3,5,6,7] [1000,1016,9240,17416,9241,9242] hB e e (by first | rfl | (simp only [List.length_set,takeMap,List.drop_zero,List.map_nil]; done) | (simp only [List.length_set,takeMap,List.drop_zero,List.map_nil]; rfl)) (by first | rfl | (simp only [List.length_set,takeMap,List.drop_zero,List.map_nil]; done) | (simp only [List.length_set,takeMap,List.drop_zero,List.map_nil]; rfl)))),_,h,e,e⟩)))))))
 ·refine Run.so hm (.p3 e e e (.y 33816 (.sto e e e e e e) e e (.nil (.seqO h (fun v206 => [(2,.ptr 0 0),(3,.ptr 1 0),(5,.ptr 2 0),(6,VI v189.1),(7,.ptr 3 0)]) (fun (v206 : Int) => [(0,.box [VI 0,VI 0,VI 0,VI 0,VI 0,RO 3 (([] : List Int).map encI),VI 0,VI 0,RO 40 (([] : List Entry).map eE),VI 0,VI 0,VI 0,RO 3 (([] : List Int).map encI),RO 98 (([] : List Peer).map eP)]),(1,.box [VI 0,VI 0,VI 0,VI 0,VI 0,VI 0,VI 0,VB false,RO 40 (([] : List Entry).map eE),RO 3 (([] : List Int).map encI),VS (⟨#[]⟩ : ByteArray),VB false]),(2,.box [.sl 4 30 0 y167.1.nodes.length,.sl 5 32 0 y167.1.net.length]),(3,.box [VI v189.2.1,VI v206,VI (w64 (v189.1 + 1)),VI v189.2.2.2.2.1,VI v189.2.2.2.2.2.1,VI v189.2.2.2.2.2.2.1,VI v189.2.2.2.2.2.2.2.1,VB v189.2.2.2.2.2.2.2.2.1,RO 40 (v189.2.2.2.2.2.2.2.2.2.1.map eE),RO 3 (v189.2.2.2.2.2.2.2.2.2.2.1.map encI),VS v189.2.2.2.2.2.2.2.2.2.2.2.1,VB v189.2.2.2.2.2.2.2.2.2.2.2.2]),(4,.vec 30 (y167.1.nodes.map (encNode false))),(5,.vec 32 (y167.1.net.map (eM false)))]) (fun h => ?_) (fun v206 h => ?_)))))
  ·refine Run.so hm (.p3 e e e (.p2 e e (.nil (.condO e h (fun g207 h => ?_) (fun g207 h => ?_)))))
   ·refine Run.ops hm (.p2 e e ?_)
    obtain ⟨x209,hx209,h⟩ := bindO h
    exact Ops.z 41992 (.bin e e hx209) e e (.p2 e e (.y 42040 (.sto e e e e e e) e e (.nil (⟨_,_,(gh_pk [2,3,5,6,7] [0,1,2,3,4,5] hB e e e e),_,h,e,e⟩))))
   ·exact Run.skip (⟨_,_,(gh_pk [2,3,5,6,7] [0,1,2,3,4,5] hB e e e e),_,h,e,e⟩)
  ·refine Run.seq (.draw hm hmix (.p e (.p e (.p e (.p e (.p e ?_))))))
   obtain ⟨x211,hx211,h⟩ := bindO h
   refine OpsD.z 46136 (Ev.iaW e e e hx211) e e (.z 46152 (Ev.ldE (f := (encNode false)) e e (at_some hx211).2 e e e) e e (.p e (.y 46184 (.sto e e e e e e) e e (.y 46200 (.sto e e e e e e) e e (.nil ⟨by kernel_rfl,?_⟩)))))
   refine Run.ret ?_
   obtain rfl := someO h
   exact Ends.mkG (.inl e) e (gh_pk [0,1] [] hB e e e e) e e
def i_within (N : Nat) (x1 : Int) (x2 : Int) (x3 : Int) : Option (Bool) :=
 (if (decide (x1 ≥ x2)) = true then
 some (decide (x1 ≤ x3))
 else
 some false)
theorem sem_i_within (N : Nat) (x1 : Int) (x2 : Int) (x3 : Int) (r : Bool) (h : i_within N x1 x2 x3 = some r) : Says Tryz.prog 38 [VI x1,VI x2,VI x3] 0 [] (VB r) [] := by
 unfold i_within at h
 refine Says.of_norm e Tryz.call38 e fun B hB => ?_
 have hm : B.m ≤ 1000 := by omega
 refine Run.so hm (.p e (.nil (.so hm (.p3 e e e (.p e (.askO (x := .t 10) e h (fun g103 h => ?_) (fun g103 h => ?_)))))))
 ·refine Ops.gp e g103 e (.gp e g103 e (.gp e g103 e (.z 5208 (.pkT e g103 e) e e (.p e (.nil (.ret ?_))))))
  obtain rfl := someO h
  exact Ends.mkG (.inl e) e (gh_pk [0] [] hB e e e e) e e
 ·refine Ops.gn e g103 (.gn e g103 (.gn e g103 (.z 5208 (.pkF e g103 e) e e (.p e (.nil (.ret ?_))))))
  obtain rfl := someO h
  exact Ends.mkG (.inl e) e (gh_pk [0] [] hB e e e e) e e
def i_ConfOk_l1 (N : Nat) (x1 : (List Int)) : Nat → Int → Option ((Bool) ⊕ (Unit))
 | 0,_ => none
 | m + 1,x218 =>
 (if (decide (x218 < (x1.length : Int))) = true then
 (at? x1 x218).bind fun x242 =>
 (i_within N x242 1 4).bind fun y247 =>
 (if (!y247) = true then
 some (Sum.inl false)
 else
 (if (decide (x218 > 0)) = true then
 (at? x1 (w64 (x218 - 1))).bind fun x250 =>
 (if (decide (x250 ≥ x242)) = true then
 some (Sum.inl false)
 else
 i_ConfOk_l1 N x1 m (w64 (x218 + 1)))
 else
 i_ConfOk_l1 N x1 m (w64 (x218 + 1))))
 else
 some (Sum.inr ()))
def i_ConfOk_l1_r (N : Nat) (x1 : (List Int)) : (List Int) → Int → Option ((Bool) ⊕ (Unit))
 | [],x218 =>
 some (Sum.inr ())
 | hd :: tl,x218 =>
 (some hd).bind fun x242 =>
 (i_within N x242 1 4).bind fun y247 =>
 (if (!y247) = true then
 some (Sum.inl false)
 else
 (if (decide (x218 > 0)) = true then
 (at? x1 (w64 (x218 - 1))).bind fun x250 =>
 (if (decide (x250 ≥ x242)) = true then
 some (Sum.inl false)
 else
 i_ConfOk_l1_r N x1 tl (w64 (x218 + 1)))
 else
 i_ConfOk_l1_r N x1 tl (w64 (x218 + 1))))
theorem i_ConfOk_l1_rng (N : Nat) (x1 : (List Int)) (hx : x1.length ≤ 1099511627776) : ∀ (d k m : Nat),x1.length = k + d → d < m → i_ConfOk_l1 N x1 m (k : Int) = i_ConfOk_l1_r N x1 (x1.drop k) (k : Int) := by
 intro d
 induction d with
 | zero =>
  intro k m hd hm
  obtain ⟨m,rfl⟩ : ∃ q,m = q + 1 := ⟨m - 1,by omega⟩
  rw [i_ConfOk_l1,if_neg (by simp; omega),List.drop_eq_nil_of_le (by omega),i_ConfOk_l1_r]
 | succ d ih =>
  intro k m hd hm
  obtain ⟨m,rfl⟩ : ∃ q,m = q + 1 := ⟨m - 1,by omega⟩
  have hk : k < x1.length := by omega
  rw [i_ConfOk_l1,if_pos (by simp; omega),List.drop_eq_getElem_cons hk,i_ConfOk_l1_r]
  have h1 := at_lt hk
  have h2 := w64_succ (k := k) (by omega)
  have h3 := ih (k + 1) m
  simp only [h1,h2,h3 (by omega) (by omega)]
theorem i_ConfOk_l1_eq {N : Nat} (x1 : (List Int)) (hx : x1.length ≤ 1099511627776) (hN : x1.length < N) : i_ConfOk_l1 N x1 N 0 = i_ConfOk_l1_r N x1 x1 0 := i_ConfOk_l1_rng N x1 hx x1.length 0 N (by omega) hN
def i_ConfOk (N : Nat) (x1 : (List Int)) : Option (Bool) :=
 joinP (fun (v214 : Unit) =>
 (i_within N (x1.length : Int) 1 4).bind fun y253 =>
 some y253) fun j214 =>
 (i_ConfOk_l1 N x1 N 0).bind (Sum.elim (fun v234 => some v234) (fun (v235 : Unit) => j214 ()))
theorem sem_i_ConfOk (N : Nat) (x1 : (List Int)) (r : Bool) (h : i_ConfOk N x1 = some r) : Says Tryz.prog 39 [RO 3 (x1.map encI)] 0 [] (VB r) [] := by
 unfold i_ConfOk at h
 refine Says.of_norm e Tryz.call39 e fun B hB => ?_
 have hm : B.m ≤ 1000 := by omega
 refine Run.so hm (.p e (.nil (.seqO h (fun v214 => [(0,RO 3 (x1.map encI))]) (fun (v214 : Unit) => []) (fun h => ?_) (fun v214 h => ?_))))
 ·refine Run.so hm (.p e (.z 5112 (Ev.lnF e) e e (.p e (.nil (.block ?_)))))
  obtain ⟨res235,h,hk235⟩ := bindO h
  refine Run.loop (n := N) (fun m235 fr σ => ∃ (x218 : Int),i_ConfOk_l1 N x1 m235 x218 = some res235 ∧ fr = [(0,RO 3 (x1.map encI)),(5,RO 3 (x1.map encI)),(6,VI (x1.length : Int)),(7,VI x218)] ∧ σ = []) (gh_pk [0,5,6,7] [] hB e e e e) ⟨_,h,e,e⟩ ?_
  rintro m235 fr σ ⟨x218,h,rfl,rfl⟩
  obtain _ | m235 := m235
  ·rw [i_ConfOk_l1] at h; cases h
  rw [i_ConfOk_l1] at h
  refine Run.so hm (.p e (.nil (.seq (.condO e h (fun g238 h => ?_) (fun g238 h => ?_)))))
  ·refine Run.skip (.seq (.block (.so hm (.p e ?_))))
   obtain ⟨x242,hx242,h⟩ := bindO h
   refine Ops.z 13304 (Ev.iaF e e hx242) e e (.p3 e e e (.nil (.so hm (.p e ?_))))
   obtain ⟨y247,hy247,h⟩ := bindO h
   refine Ops.z 17400 (Ev.call [] [] 0 (sem_i_within _ _ _ _ _ hy247) e e (.d2 (.d1 .nil)) e (.inl e) e e) e e (.p2 e e (.askO (x := .t 15) e h (fun g248 h => ?_) (fun g248 h => ?_)))
   ·refine Ops.gn e g248 (.gn e g248 (.gn e g248 (.gu e (.gu e (.gu e (.gu e (.gu e (.gu e (.gu e (.gn e g248 (.z 17624 (.pkT e g248 e) e e (.nil (.condT e e (.so hm (.p e (.nil (.ret ?_)))))))))))))))))
    obtain rfl := someO h
    have h := hk235
    replace h := inlO h
    obtain rfl := someO h
    exact Ends.mkG (.inl e) e (gh_pk [0] [] hB e e e e) e e
   ·refine Ops.gp e g248 e (.gp e g248 e (.gp e g248 e (.askO (x := .t 18) e h (fun g249 h => ?_) (fun g249 h => ?_))))
    ·refine Ops.gp e g249 e (.gp e g249 e (.gp e g249 e ?_))
     obtain ⟨x250,hx250,h⟩ := bindO h
     refine Ops.gs (s := 17544) e g249 (Ev.iaF e e hx250) e e (.gp e g249 e (.gp e g249 e (.gp e g249 e (.gs (s := 17608) e g248 (.pkT e g249 e) e e (.z 17624 (.pkF e g248 e) e e (.nil (.condO e h (fun g251 h => ?_) (fun g251 h => ?_))))))))
     ·refine Run.so hm (.p e (.nil (.ret ?_)))
      obtain rfl := someO h
      have h := hk235
      replace h := inlO h
      obtain rfl := someO h
      exact Ends.mkG (.inl e) e (gh_pk [0] [] hB e e e e) e e
     ·exact Run.skip (.ops hm (.p2 e e (.nil (⟨m235,Nat.lt_succ_self m235,_,_,(gh_pk [0,5,6,7] [] hB e e e e),_,h,e,e⟩))))
    ·exact Ops.gn e g249 (.gn e g249 (.gn e g249 (.gn e g249 (.gn e g249 (.gn e g249 (.gn e g249 (.gs (s := 17608) e g248 (.pkF e g249 e) e e (.z 17624 (.pkF e g248 e) e e (.nil (.condF e e (.skip (.ops hm (.p2 e e (.nil (⟨m235,Nat.lt_succ_self m235,_,_,(gh_pk [0,5,6,7] [] hB e e e e),_,h,e,e⟩)))))))))))))))
  ·refine Run.exit ?_
   obtain rfl := someO h
   have h := hk235
   replace h := inrO h
   exact ⟨_,_,(gh_pk [0] [] hB e e e e),(),h,e,e⟩
 ·refine Run.so hm (.p e (.z 29688 (Ev.lnF e) e e ?_))
  obtain ⟨y253,hy253,h⟩ := bindO h
  refine Ops.z 29704 (Ev.call [] [] 0 (sem_i_within _ _ _ _ _ hy253) e e (.d2 (.d1 .nil)) e (.inl e) e e) e e (.p e (.nil (.ret ?_)))
  obtain rfl := someO h
  exact Ends.mkG (.inl e) e (gh_pk [0] [] hB e e e e) e e
def i_ReadConf_l1 (N : Nat) (x1 : ByteArray) : Nat → Int → (List Int) → Option ((List Int))
 | 0,_,_ => none
 | m + 1,x184,x185 =>
 (if (decide (x184 < (x1.size : Int))) = true then
 (sat? x1 x184).bind fun x206 =>
 (cat? x185 ([w64 (x206)] : List Int)).bind fun x207 =>
 i_ReadConf_l1 N x1 m (w64 (x184 + 1)) x207
 else
 some x185)
def i_ReadConf (N : Nat) (x1 : ByteArray) : Option ((List Int) × Bool) :=
 joinP (fun (v182 : (List Int)) =>
 (i_ConfOk N v182).bind fun y212 =>
 (if (!y212) = true then
 some ([],false)
 else
 some (v182,true))) fun j182 =>
 (i_ReadConf_l1 N x1 N 0 ([] : (List Int))).bind (fun v196 => j182 v196)
theorem sem_i_ReadConf (N : Nat) (x1 : ByteArray) (r : (List Int) × Bool) (h : i_ReadConf N x1 = some r) : Says Tryz.prog 102 [VS x1] 0 [] (.tup [.sl 0 3 0 r.1.length,VB r.2]) [(0,.vec 3 (r.1.map encI))] := by
 unfold i_ReadConf at h
 refine Says.of_norm e Tryz.call102 e fun B hB => ?_
 have hm : B.m ≤ 1000 := by omega
 refine Run.so hm (.p2 e e (.nil (.so hm (.p e (.nil (.seqO h (fun v182 => [(4,.sl 0 3 0 v182.length)]) (fun (v182 : (List Int)) => [(0,.vec 3 (v182.map encI))]) (fun h => ?_) (fun v182 h => ?_)))))))
 ·refine Run.so hm (.p e (.nil (.block ?_)))
  obtain ⟨res196,h,hk196⟩ := bindO h
  refine Run.loop (n := N) (fun m196 fr σ => ∃ (x184 : Int),∃ (x185 : (List Int)),i_ReadConf_l1 N x1 m196 x184 x185 = some res196 ∧ fr = [(0,VS x1),(4,.sl 0 3 0 x185.length),(5,VI x184)] ∧ σ = [(0,.vec 3 (x185.map encI))]) (Gh.trans (Gh.trans (gh_prn [0,4,5] [] hB e) (gh_nil [4] [] hB e e e)) (gh_pk [0,4,5] [10000000] hB e e e e)) ⟨_,_,h,e,e⟩ ?_
  rintro m196 fr σ ⟨x184,x185,h,rfl,rfl⟩
  obtain _ | m196 := m196
  ·rw [i_ReadConf_l1] at h; cases h
  rw [i_ReadConf_l1] at h
  refine Run.seq (.so hm (.p3 e e e (.p e (.nil (.condO e h (fun g199 h => ?_) (fun g199 h => ?_))))))
  ·refine Run.skip (.seq (.block (.ops hm (.p3 e e e ?_))))
   obtain ⟨x206,hx206,h⟩ := bindO h
   refine Ops.z 21528 (Ev.ixS e e hx206) e e (.p e (.z 21560 (Ev.bsW (ys := ([w64 (x206)] : List Int)) (f := encI) e (.d1 .nil) e e e e e) e e ?_))
   obtain ⟨x207,hx207,h⟩ := bindO h
   exact Ops.z 21576 (Ev.apW (f := encI) (ontoW e e e) (addsW e e e (fun _ => e)) e bt3 e hx207) e e (.p e (.nil (.ops hm (.p3 e e e (.nil (⟨m196,Nat.lt_succ_self m196,_,_,(gh_pk [0,4,5] [21576] hB e e e e),_,_,h,e,e⟩))))))
  ·refine Run.exit ?_
   obtain rfl := someO h
   have h := hk196
   exact ⟨_,_,(gh_pk [4] [0] hB e e e e),_,h,e,e⟩
 ·refine Run.seq (.so hm (.p e ?_))
  obtain ⟨y212,hy212,h⟩ := bindO h
  refine Ops.z 25592 (Ev.call [] [0] 0 (sem_i_ConfOk _ _ _ hy212) e e (.cons (.borrow e (by decide) (lendW (fun _ => e) _ e)) .nil) e (.inr ⟨e,ownL_root trivial⟩) e e) e e ?_
  refine Ops.p e (.nil (.condO e h (fun g213 h => ?_) (fun g213 h => ?_)))
  ·refine Run.so hm (.p2 e e (.nil (.ret ?_)))
   obtain rfl := someO h
   exact Ends.mkG (.inl e) e (Gh.trans (Gh.trans (gh_prn [0,1] [] hB e) (gh_nil [0] [] hB e e e)) (gh_pk [0,1] [10000000] hB e e e e)) e e
  ·refine Run.skip (.so hm (.p3 e e e (.nil (.ret ?_))))
   obtain rfl := someO h
   exact Ends.mkG (.inl e) e (gh_pk [0,1] [0] hB e e e e) e e
def i_EntryOk (N : Nat) (x1 : Entry) : Option (Bool) :=
 (i_within N x1.Term 0 100000).bind fun y117 =>
 (if (!y117) = true then
 some false
 else
 (if (x1.Kind == 1) = true then
 some (decide (x1.Data = (⟨#[]⟩ : ByteArray)))
 else
 (if (x1.Kind == 2) = true then
 (i_ReadConf N x1.Data).bind fun y124 =>
 some y124.2
 else
 (if (x1.Kind == 3) = true then
 some (decide ((x1.Data.size : Int) ≤ 120))
 else
 some false))))
theorem sem_i_EntryOk (N : Nat) (x1 : Entry) (r : Bool) (h : i_EntryOk N x1 = some r) : Says Tryz.prog 59 [.agg [VI x1.Term,VI x1.Kind,VS x1.Data]] 0 [] (VB r) [] := by
 unfold i_EntryOk at h
 refine Says.of_norm e Tryz.call59 e fun B hB => ?_
 have hm : B.m ≤ 1000 := by omega
 refine Run.so hm (.z 1000 (.bx e e) e e (.p e (.nil (.seq (.so hm (.p2 e e ?_))))))
 obtain ⟨y117,hy117,h⟩ := bindO h
 refine Ops.z 5128 (Ev.call [] [] 0 (sem_i_within _ _ _ _ _ hy117) e e (.d2 (.d1 .nil)) e (.inl e) e e) e e (.p e (.nil (.condO e h (fun g118 h => ?_) (fun g118 h => ?_))))
 ·refine Run.so hm (.p e (.nil (.ret ?_)))
  obtain rfl := someO h
  exact Ends.mkG (.inl e) e (gh_pk [0] [] hB e e e e) e e
 ·refine Run.skip (.seq (.so hm (.p2 e e (.nil (.block (.so hm (.p2 e e (.nil (.condO e h (fun g119 h => ?_) (fun g119 h => ?_))))))))))
  ·refine Run.so hm (.p3 e e e (.p e (.nil (.ret ?_))))
   obtain rfl := someO h
   exact Ends.mkG (.inl e) e (gh_pk [0] [] hB e e e e) e e
  ·refine Run.so hm (.p2 e e (.nil (.condO e h (fun g120 h => ?_) (fun g120 h => ?_))))
   ·refine Run.so hm (.p2 e e ?_)
    obtain ⟨y124,hy124,h⟩ := bindO h
    refine Ops.z 29704 (Ev.call [] [] 1 (sem_i_ReadConf _ _ _ hy124) e e (.d1 .nil) e (.inl e) e e) e e (.p3 e e e (.p2 e e (.nil (.so hm (.p2 e e (.nil (.ret ?_)))))))
    obtain rfl := someO h
    exact Ends.mkG (.inl e) e (gh_pk [0] [] hB e e e e) e e
   ·refine Run.so hm (.p2 e e (.nil (.condO e h (fun g125 h => ?_) (fun g125 h => ?_))))
    ·refine Run.so hm (.p3 e e e (.p2 e e (.nil (.ret ?_))))
     obtain rfl := someO h
     exact Ends.mkG (.inl e) e (gh_pk [0] [] hB e e e e) e e
    ·refine Run.skip (.so hm (.p e (.nil (.ret ?_))))
     obtain rfl := someO h
     exact Ends.mkG (.inl e) e (gh_pk [0] [] hB e e e e) e e
def i_LogOk_l1 (N : Nat) (x1 : Log) : Nat → Int → Int → Option ((Bool) ⊕ (Unit))
 | 0,_,_ => none
 | m + 1,x263,x266 =>
 (if (decide (x266 < (x1.Entries.length : Int))) = true then
 (at? x1.Entries x266).bind fun x291 =>
 (i_EntryOk N x291).bind fun y299 =>
 (if (!y299) = true then
 some (Sum.inl false)
 else
 (if (decide (x291.Term < x263)) = true then
 some (Sum.inl false)
 else
 i_LogOk_l1 N x1 m x291.Term (w64 (x266 + 1))))
 else
 some (Sum.inr ()))
def i_LogOk_l1_r (N : Nat) (x1 : Log) : (List Entry) → Int → Int → Option ((Bool) ⊕ (Unit))
 | [],x263,x266 =>
 some (Sum.inr ())
 | hd :: tl,x263,x266 =>
 (some hd).bind fun x291 =>
 (i_EntryOk N x291).bind fun y299 =>
 (if (!y299) = true then
 some (Sum.inl false)
 else
 (if (decide (x291.Term < x263)) = true then
 some (Sum.inl false)
 else
 i_LogOk_l1_r N x1 tl x291.Term (w64 (x266 + 1))))
theorem i_LogOk_l1_rng (N : Nat) (x1 : Log) (hx : x1.Entries.length ≤ 1099511627776) : ∀ (d k m : Nat) (x263 : Int),x1.Entries.length = k + d → d < m → i_LogOk_l1 N x1 m x263 (k : Int) = i_LogOk_l1_r N x1 (x1.Entries.drop k) x263 (k : Int) := by
 intro d
 induction d with
 | zero =>
  intro k m x263 hd hm
  obtain ⟨m,rfl⟩ : ∃ q,m = q + 1 := ⟨m - 1,by omega⟩
  rw [i_LogOk_l1,if_neg (by simp; omega),List.drop_eq_nil_of_le (by omega),i_LogOk_l1_r]
 | succ d ih =>
  intro k m x263 hd hm
  obtain ⟨m,rfl⟩ : ∃ q,m = q + 1 := ⟨m - 1,by omega⟩
  have hk : k < x1.Entries.length := by omega
  rw [i_LogOk_l1,if_pos (by simp; omega),List.drop_eq_getElem_cons hk,i_LogOk_l1_r]
  have h1 := at_lt hk
  have h2 := w64_succ (k := k) (by omega)
  have h3 := ih (k + 1) m
  simp only [h1,h2,h3 _ (by omega) (by omega)]
theorem i_LogOk_l1_eq {N : Nat} (x1 : Log) (hx : x1.Entries.length ≤ 1099511627776) (hN : x1.Entries.length < N) (x263 : Int) : i_LogOk_l1 N x1 N x263 0 = i_LogOk_l1_r N x1 x1.Entries x263 0 := i_LogOk_l1_rng N x1 hx x1.Entries.length 0 N x263 (by omega) hN
def i_LogOk (N : Nat) (x1 : Log) : Option (Bool) :=
 (i_within N x1.Start 0 100000).bind fun y217 =>
 (if (!y217) = true then
 some false
 else
 (i_within N x1.StartTerm 0 100000).bind fun y219 =>
 (if (!y219) = true then
 some false
 else
 (if (decide ((x1.Entries.length : Int) > 120)) = true then
 some false
 else
 (if (decide ((w64 (x1.Start + (x1.Entries.length : Int))) > 100000)) = true then
 some false
 else
 joinP (fun (v262 : Unit) =>
 some true) fun j262 =>
 (i_LogOk_l1 N x1 N x1.StartTerm 0).bind (Sum.elim (fun v283 => some v283) (fun (v284 : Unit) => j262 ()))))))
theorem sem_i_LogOk (N : Nat) (x1 : Log) (r : Bool) (h : i_LogOk N x1 = some r) : Says Tryz.prog 40 [.agg [VI x1.Start,VI x1.StartTerm,RO 40 (x1.Entries.map eE)]] 0 [] (VB r) [] := by
 unfold i_LogOk at h
 refine Says.of_norm e Tryz.call40 e fun B hB => ?_
 have hm : B.m ≤ 1000 := by omega
 refine Run.so hm (.z 1000 (.bx e e) e e (.p e (.nil (.seq (.so hm (.p2 e e ?_))))))
 obtain ⟨y217,hy217,h⟩ := bindO h
 refine Ops.z 5128 (Ev.call [] [] 0 (sem_i_within _ _ _ _ _ hy217) e e (.d2 (.d1 .nil)) e (.inl e) e e) e e (.p2 e e (.askO (x := .t 10) e h (fun g218 h => ?_) (fun g218 h => ?_)))
 ·refine Ops.gn e g218 (.gn e g218 (.gn e g218 (.gn e g218 (.z 5240 (.pkT e g218 e) e e (.p e (.gn e e (.gn e e (.gn e e (.gn e e (.z 5336 (.pkT e e e) e e (.p e (.gn e e (.gn e e (.gn e e (.gn e e (.gn e e (.gn e e (.gn e e (.z 5480 (.pkT e e e) e e (.nil (.condT e e (.so hm (.p e (.nil (.ret ?_)))))))))))))))))))))))))
  obtain rfl := someO h
  exact Ends.mkG (.inl e) e (gh_pk [0] [] hB e e e e) e e
 ·refine Ops.gp e g218 e (.gp e g218 e ?_)
  obtain ⟨y219,hy219,h⟩ := bindO h
  refine Ops.gs (s := 5208) e g218 (Ev.call [] [] 0 (sem_i_within _ _ _ _ _ hy219) e e (.d2 (.d1 .nil)) e (.inl e) e e) e e (.gp e g218 e (.z 5240 (.pkF e g218 e) e e (.p e (.askO (x := .t 16) e h (fun g220 h => ?_) (fun g220 h => ?_)))))
  ·refine Ops.gn e g220 (.gn e g220 (.gn e g220 (.gn e g220 (.z 5336 (.pkT e g220 e) e e (.p e (.gn e e (.gn e e (.gn e e (.gn e e (.gn e e (.gn e e (.gn e e (.z 5480 (.pkT e e e) e e (.nil (.condT e e (.so hm (.p e (.nil (.ret ?_)))))))))))))))))))
   obtain rfl := someO h
   exact Ends.mkG (.inl e) e (gh_pk [0] [] hB e e e e) e e
  ·refine Ops.gp e g220 e (.gp e g220 e (.gs (s := 5304) e g220 (Ev.lnF e) e e (.gp e g220 e (.z 5336 (.pkF e g220 e) e e (.p e (.askO (x := .t 22) e h (fun g221 h => ?_) (fun g221 h => ?_)))))))
   ·refine Ops.gn e g221 (.gn e g221 (.gn e g221 (.gn e g221 (.gn e g221 (.gn e g221 (.gn e g221 (.z 5480 (.pkT e g221 e) e e (.nil (.condT e e (.so hm (.p e (.nil (.ret ?_)))))))))))))
    obtain rfl := someO h
    exact Ends.mkG (.inl e) e (gh_pk [0] [] hB e e e e) e e
   ·refine Ops.gp e g221 e (.gp e g221 e (.gp e g221 e (.gp e g221 e (.gs (s := 5432) e g221 (Ev.lnF e) e e (.gp e g221 e (.gp e g221 e (.z 5480 (.pkF e g221 e) e e (.nil (.condO e h (fun g222 h => ?_) (fun g222 h => ?_))))))))))
    ·refine Run.so hm (.p e (.nil (.ret ?_)))
     obtain rfl := someO h
     exact Ends.mkG (.inl e) e (gh_pk [0] [] hB e e e e) e e
    ·refine Run.skip (.so hm (.p3 e e e (.nil (.seqO h (fun v262 => []) (fun (v262 : Unit) => []) (fun h => ?_) (fun v262 h => ?_)))))
     ·refine Run.so hm (.p2 e e (.z 17416 (Ev.lnF e) e e (.p e (.nil (.block ?_)))))
      obtain ⟨res284,h,hk284⟩ := bindO h
      refine Run.loop (n := N) (fun m284 fr σ => ∃ (x263 : Int),∃ (x266 : Int),i_LogOk_l1 N x1 m284 x263 x266 = some res284 ∧ fr = [(3,VI x263),(34,RO 40 (x1.Entries.map eE)),(35,VI (x1.Entries.length : Int)),(36,VI x266)] ∧ σ = []) (gh_pk [3,34,35,36] [] hB e e e e) ⟨_,_,h,e,e⟩ ?_
      rintro m284 fr σ ⟨x263,x266,h,rfl,rfl⟩
      obtain _ | m284 := m284
      ·rw [i_LogOk_l1] at h; cases h
      rw [i_LogOk_l1] at h
      refine Run.so hm (.p e (.nil (.seq (.condO e h (fun g287 h => ?_) (fun g287 h => ?_)))))
      ·refine Run.skip (.seq (.block (.so hm ?_)))
       obtain ⟨x291,hx291,h⟩ := bindO h
       refine Ops.z 25576 (Ev.iaF e e hx291) e e (.p e (.z 25608 (.al e e) e e (.y 25624 (.sto e e e e e e) e e (.nil (.seq (.so hm (.p e ?_)))))))
       obtain ⟨y299,hy299,h⟩ := bindO h
       refine Ops.z 29688 (Ev.call [] [] 0 (sem_i_EntryOk _ _ _ hy299) e e (.cons (.agg (.d2 (.d1 .nil))) .nil) e (.inl e) e e) e e (.p2 e e (.askO (x := .t 43) e h (fun g300 h => ?_) (fun g300 h => ?_)))
       ·refine Ops.gn e g300 (.gn e g300 (.gn e g300 (.gn e g300 (.z 29800 (.pkT e g300 e) e e (.nil (.condT e e (.so hm (.p e (.nil (.ret ?_))))))))))
        obtain rfl := someO h
        have h := hk284
        replace h := inlO h
        obtain rfl := someO h
        exact Ends.mkG (.inl e) e (gh_pk [0] [] hB e e e e) e e
       ·refine Ops.gp e g300 e (.gp e g300 e (.gp e g300 e (.gp e g300 e (.z 29800 (.pkF e g300 e) e e (.nil (.condO e h (fun g301 h => ?_) (fun g301 h => ?_)))))))
        ·refine Run.so hm (.p e (.nil (.ret ?_)))
         obtain rfl := someO h
         have h := hk284
         replace h := inlO h
         obtain rfl := someO h
         exact Ends.mkG (.inl e) e (gh_pk [0] [] hB e e e e) e e
        ·exact Run.skip (.ops hm (.p3 e e e (.nil (.ops hm (.p2 e e (.nil (⟨m284,Nat.lt_succ_self m284,_,_,(gh_pk [3,34,35,36] [] hB e e e e),_,_,h,e,e⟩)))))))
      ·refine Run.exit ?_
       obtain rfl := someO h
       have h := hk284
       replace h := inrO h
       exact ⟨_,_,(gh_pk [] [] hB e e e e),(),h,e,e⟩
     ·refine Run.so hm (.p e (.nil (.ret ?_)))
      obtain rfl := someO h
      exact Ends.mkG (.inl e) e (gh_pk [0] [] hB e e e e) e e
def i_LogLast (N : Nat) (x1 : Log) : Option (Int × Int) :=
 (if ((x1.Entries.length : Int) == 0) = true then
 some (x1.Start,x1.StartTerm)
 else
 (at? x1.Entries (w64 ((x1.Entries.length : Int) - 1))).bind fun x107 =>
 some (w64 (x1.Start + (x1.Entries.length : Int)),x107.Term))
theorem sem_i_LogLast (N : Nat) (x1 : Log) (r : Int × Int) (h : i_LogLast N x1 = some r) : Says Tryz.prog 41 [.agg [VI x1.Start,VI x1.StartTerm,RO 40 (x1.Entries.map eE)]] 0 [] (.tup [VI r.1,VI r.2]) [] := by
 unfold i_LogLast at h
 refine Says.of_norm e Tryz.call41 e fun B hB => ?_
 have hm : B.m ≤ 1000 := by omega
 refine Run.so hm (.z 1000 (.bx e e) e e (.p2 e e (.nil (.so hm (.p2 e e (.z 5128 (Ev.lnF e) e e (.p e (.nil (.seq (.so hm (.p2 e e (.nil (.condO e h (fun g105 h => ?_) (fun g105 h => ?_))))))))))))))
 ·refine Run.seq (.draw hm hmix (.p e (.p e (.p e (.p e (.p e (.p e (.nil ⟨by kernel_rfl,?_⟩))))))))
  refine Run.ret ?_
  obtain rfl := someO h
  exact Ends.mkG (.inl e) e (gh_pk [0,1] [] hB e e e e) e e
 ·refine Run.skip (.seq (.draw hm hmix (.p e (.p e (.p e (.p e (.p e (.p e (.p e (.p e ?_))))))))))
  obtain ⟨x107,hx107,h⟩ := bindO h
  refine OpsD.z 17512 (Ev.iaF e e hx107) e e (.p e (.p e (.p e (.p e (.nil ⟨by kernel_rfl,?_⟩)))))
  refine Run.ret ?_
  obtain rfl := someO h
  exact Ends.mkG (.inl e) e (gh_pk [0,1] [] hB e e e e) e e
def i_last (N : Nat) (x1 : Log) : Option (Int) :=
 some (w64 (x1.Start + (x1.Entries.length : Int)))
theorem sem_i_last (N : Nat) (x1 : Log) (r : Int) (h : i_last N x1 = some r) : Says Tryz.prog 63 [.agg [VI x1.Start,VI x1.StartTerm,RO 40 (x1.Entries.map eE)]] 0 [] (VI r) [] := by
 unfold i_last at h
 refine Says.of_norm e Tryz.call63 e fun B hB => ?_
 have hm : B.m ≤ 1000 := by omega
 refine Run.so hm (.z 1000 (.bx e e) e e (.p e (.nil (.so hm (.p3 e e e (.p e (.z 5160 (Ev.lnF e) e e (.p2 e e (.nil (.ret ?_))))))))))
 obtain rfl := someO h
 exact Ends.mkG (.inl e) e (gh_pk [0] [] hB e e e e) e e
def i_ConfAt_l1 (N : Nat) (x1 : Node) (x2 : Int) : Nat → Int → Option (((List Int)) ⊕ (Unit))
 | 0,_ => none
 | m + 1,x336 =>
 (if (decide (x336 ≥ 0)) = true then
 joinP (fun (v398 : Unit) =>
 i_ConfAt_l1 N x1 x2 m (w64 (x336 - 1))) fun j398 =>
 (at? x1.Log.Entries x336).bind fun x402 =>
 (i_ReadConf N x402.Data).bind fun y406 =>
 (if y406.2 = true then
 (if (x402.Kind == 2) = true then
 (if (decide ((w64 ((w64 (x1.Log.Start + x336)) + 1)) ≤ x2)) = true then
 some (Sum.inl y406.1)
 else
 j398 ())
 else
 j398 ())
 else
 j398 ())
 else
 some (Sum.inr ()))
def i_ConfAt (N : Nat) (x1 : Node) (x2 : Int) : Option ((List Int)) :=
 joinP (fun (v334 : Unit) =>
 (cat? ([] : List Int) x1.Conf).bind fun x413 =>
 some x413) fun j334 =>
 (i_ConfAt_l1 N x1 x2 N (w64 ((x1.Log.Entries.length : Int) - 1))).bind (Sum.elim (fun v380 => some v380) (fun (v381 : Unit) => j334 ()))
theorem sem_i_ConfAt (N : Nat) (x1 : Node) (x2 : Int) (r : (List Int)) (h : i_ConfAt N x1 x2 = some r) : Says Tryz.prog 86 [.agg [VI x1.Id,VI x1.Term,VI x1.Vote,VI x1.Role,VI x1.Lead,RO 3 (x1.Conf.map encI),VI x1.Log.Start,VI x1.Log.StartTerm,RO 40 (x1.Log.Entries.map eE),VI x1.Commit,VI x1.Clock,VI x1.Limit,RO 3 (x1.Votes.map encI),RO 98 (x1.Peers.map eP)],VI x2] 0 [] (.sl 0 3 0 r.length) [(0,.vec 3 (r.map encI))] := by
 unfold i_ConfAt at h
 refine Says.of_norm e Tryz.call86 e fun B hB => ?_
 have hm : B.m ≤ 1000 := by omega
 refine Run.so hm (.z 1000 (.bx e e) e e (.p e (.nil (.seqO h (fun v334 => [(2,.ptr 0 0)]) (fun (v334 : Unit) => [(0,.box [VI x1.Id,VI x1.Term,VI x1.Vote,VI x1.Role,VI x1.Lead,RO 3 (x1.Conf.map encI),VI x1.Log.Start,VI x1.Log.StartTerm,RO 40 (x1.Log.Entries.map eE),VI x1.Commit,VI x1.Clock,VI x1.Limit,RO 3 (x1.Votes.map encI),RO 98 (x1.Peers.map eP)])]) (fun h => ?_) (fun v334 h => ?_)))))
 ·refine Run.so hm (.p3 e e e (.z 5144 (Ev.lnF e) e e (.p2 e e (.nil (.block ?_)))))
  obtain ⟨res381,h,hk381⟩ := bindO h
  refine Run.loop (n := N) (fun m381 fr σ => ∃ (x336 : Int),i_ConfAt_l1 N x1 x2 m381 x336 = some res381 ∧ fr = [(1,VI x2),(2,.ptr 0 0),(5,VI x336)] ∧ σ = [(0,.box [VI x1.Id,VI x1.Term,VI x1.Vote,VI x1.Role,VI x1.Lead,RO 3 (x1.Conf.map encI),VI x1.Log.Start,VI x1.Log.StartTerm,RO 40 (x1.Log.Entries.map eE),VI x1.Commit,VI x1.Clock,VI x1.Limit,RO 3 (x1.Votes.map encI),RO 98 (x1.Peers.map eP)])]) (gh_pk [1,2,5] [1000] hB e e e e) ⟨_,h,e,e⟩ ?_
  rintro m381 fr σ ⟨x336,h,rfl,rfl⟩
  obtain _ | m381 := m381
  ·rw [i_ConfAt_l1] at h; cases h
  rw [i_ConfAt_l1] at h
  refine Run.seq (.so hm (.p2 e e (.nil (.condO e h (fun g384 h => ?_) (fun g384 h => ?_)))))
  ·refine Run.skip (.seqO h (fun v398 => [(1,VI x2),(2,.ptr 0 0),(5,VI x336)]) (fun (v398 : Unit) => [(0,.box [VI x1.Id,VI x1.Term,VI x1.Vote,VI x1.Role,VI x1.Lead,RO 3 (x1.Conf.map encI),VI x1.Log.Start,VI x1.Log.StartTerm,RO 40 (x1.Log.Entries.map eE),VI x1.Commit,VI x1.Clock,VI x1.Limit,RO 3 (x1.Votes.map encI),RO 98 (x1.Peers.map eP)])]) (fun h => ?_) (fun v398 h => ?_))
   ·refine Run.block (.so hm (.p3 e e e (.p e ?_)))
    obtain ⟨x402,hx402,h⟩ := bindO h
    refine Ops.z 17448 (Ev.iaF e e hx402) e e (.p e (.z 17480 (.al e e) e e (.y 17496 (.sto e e e e e e) e e (.nil (.so hm (.p2 e e ?_))))))
    obtain ⟨y406,hy406,h⟩ := bindO h
    refine Ops.z 21512 (Ev.call [] [] 1 (sem_i_ReadConf _ _ _ hy406) e e (.d1 .nil) e (.inl e) e e) e e (.p3 e e e (.p2 e e (.nil (.so hm (.p2 e e (.askO (x := .t 31) e h (fun g409 h => ?_) (fun g409 h => ?_)))))))
    ·refine Ops.gp e g409 e (.gp e g409 e (.gp e g409 e (.z 25656 (.pkT e g409 e) e e (.p e (.askO (x := .t 36) e h (fun g410 h => ?_) (fun g410 h => ?_))))))
     ·refine Ops.gp e g410 e (.gp e g410 e (.gp e g410 e (.gp e g410 e (.gp e g410 e (.gp e g410 e (.gp e g410 e (.gp e g410 e (.z 25816 (.pkT e g410 e) e e (.nil (.condO e h (fun g411 h => ?_) (fun g411 h => ?_)))))))))))
      ·refine Run.so hm (.p2 e e (.nil (.ret ?_)))
       obtain rfl := someO h
       have h := hk381
       replace h := inlO h
       obtain rfl := someO h
       exact Ends.mkG (.inl e) e (gh_pk [0] [21512] hB e e e e) e e
      ·exact Run.skip (⟨_,_,(gh_pk [1,2,5] [0] hB e e e e),(),h,e,e⟩)
     ·exact Ops.gn e g410 (.gn e g410 (.gn e g410 (.gn e g410 (.gn e g410 (.gn e g410 (.gn e g410 (.gn e g410 (.z 25816 (.pkF e g410 e) e e (.nil (.condF e e (.skip (⟨_,_,(gh_pk [1,2,5] [0] hB e e e e),(),h,e,e⟩))))))))))))
    ·exact Ops.gn e g409 (.gn e g409 (.gn e g409 (.z 25656 (.pkF e g409 e) e e (.p e (.gn e e (.gn e e (.gn e e (.gn e e (.gn e e (.gn e e (.gn e e (.gn e e (.z 25816 (.pkF e e e) e e (.nil (.condF e e (.skip (⟨_,_,(gh_pk [1,2,5] [0] hB e e e e),(),h,e,e⟩)))))))))))))))))
   ·exact Run.ops hm (.p3 e e e (.nil (⟨m381,Nat.lt_succ_self m381,_,_,(gh_pk [1,2,5] [0] hB e e e e),_,h,e,e⟩)))
  ·refine Run.exit ?_
   obtain rfl := someO h
   have h := hk381
   replace h := inrO h
   exact ⟨_,_,(gh_pk [2] [0] hB e e e e),(),h,e,e⟩
 ·refine Run.so hm (.p2 e e ?_)
  obtain ⟨x413,hx413,h⟩ := bindO h
  refine Ops.z 33800 (Ev.apW (f := encI) (ontoN (f := encI) e) (addsF e) e bt3 e hx413) e e (.p e (.nil (.ret ?_)))
  obtain rfl := someO h
  exact Ends.mkG (.inl e) e (gh_pk [0] [33800] hB e e e e) e e
def i_ConfOf (N : Nat) (x1 : Node) : Option ((List Int)) :=
 (i_ConfAt N x1 9223372036854775807).bind fun y103 =>
 some y103
theorem sem_i_ConfOf (N : Nat) (x1 : Node) (r : (List Int)) (h : i_ConfOf N x1 = some r) : Says Tryz.prog 44 [.agg [VI x1.Id,VI x1.Term,VI x1.Vote,VI x1.Role,VI x1.Lead,RO 3 (x1.Conf.map encI),VI x1.Log.Start,VI x1.Log.StartTerm,RO 40 (x1.Log.Entries.map eE),VI x1.Commit,VI x1.Clock,VI x1.Limit,RO 3 (x1.Votes.map encI),RO 98 (x1.Peers.map eP)]] 0 [] (.sl 0 3 0 r.length) [(0,.vec 3 (r.map encI))] := by
 unfold i_ConfOf at h
 refine Says.of_norm e Tryz.call44 e fun B hB => ?_
 have hm : B.m ≤ 1000 := by omega
 refine Run.so hm (.z 1000 (.bx e e) e e (.p e (.nil (.so hm (.p e ?_)))))
 obtain ⟨y103,hy103,h⟩ := bindO h
 refine Ops.z 5112 (Ev.call [] [] 1 (sem_i_ConfAt _ _ _ _ hy103) e e (.cons (.agg (.d4 (.d4 (.d4 (.d2 .nil))))) (.d1 .nil)) e (.inl e) e e) e e (.p e (.nil (.ret ?_)))
 obtain rfl := someO h
 exact Ends.mkG (.inl e) e (gh_pk [0] [5112] hB e e e e) e e
def i_othersOf_1 (N : Nat) (x1 : Int) (x2 : Node) : Option (Bool) :=
 some (x1 == x2.Id)
theorem sem_i_othersOf_1 (N : Nat) (x1 : Int) (x2 : Node) (r : Bool) (h : i_othersOf_1 N x1 x2 = some r) : Says Tryz.prog 90 [VI x1,.ptr 0 0] 1 [(0,.box [VI x2.Id,VI x2.Term,VI x2.Vote,VI x2.Role,VI x2.Lead,RO 3 (x2.Conf.map encI),VI x2.Log.Start,VI x2.Log.StartTerm,RO 40 (x2.Log.Entries.map eE),VI x2.Commit,VI x2.Clock,VI x2.Limit,RO 3 (x2.Votes.map encI),RO 98 (x2.Peers.map eP)])] (VB r) [(0,.box [VI x2.Id,VI x2.Term,VI x2.Vote,VI x2.Role,VI x2.Lead,RO 3 (x2.Conf.map encI),VI x2.Log.Start,VI x2.Log.StartTerm,RO 40 (x2.Log.Entries.map eE),VI x2.Commit,VI x2.Clock,VI x2.Limit,RO 3 (x2.Votes.map encI),RO 98 (x2.Peers.map eP)])] := by
 unfold i_othersOf_1 at h
 refine Says.of_norm e Tryz.call90 e fun B hB => ?_
 have hm : B.m ≤ 1000 := by omega
 refine Run.so hm (.p e (.nil (.so hm (.p3 e e e (.p2 e e (.nil (.ret ?_)))))))
 obtain rfl := someO h
 exact Ends.mkG (.inl e) e (gh_pk [0] [0] hB e e e e) e e
def L_IndexFunc_int_i1_l1 (N : Nat) (x1 : (List Int)) (x2 : Node) : Nat → Int → Option ((Int) ⊕ (Unit))
 | 0,_ => none
 | m + 1,x205 =>
 (if (decide (x205 < ((x1.length : Nat) : Int))) = true then
 (at? x1 x205).bind fun x235 =>
 (i_othersOf_1 N x235 x2).bind fun y236 =>
 (if y236 = true then
 some (Sum.inl x205)
 else
 L_IndexFunc_int_i1_l1 N x1 x2 m (w64 (x205 + 1)))
 else
 some (Sum.inr ()))
def L_IndexFunc_int_i1 (N : Nat) (x1 : (List Int)) (x2 : Node) : Option (Int) :=
 joinP (fun (v203 : Unit) =>
 some (-1 : Int)) fun j203 =>
 (L_IndexFunc_int_i1_l1 N x1 x2 N 0).bind (Sum.elim (fun v228 => some v228) (fun (v229 : Unit) => j203 ()))
theorem sem_L_IndexFunc_int_i1 (N : Nat) (x1 : (List Int)) (x2 : Node) (r : Int) (h : L_IndexFunc_int_i1 N x1 x2 = some r) : Says Tryz.prog 110 [.sl 0 3 0 x1.length,.fn 90 [.ptr 1 0]] 2 [(0,.vec 3 (x1.map encI)),(1,.box [VI x2.Id,VI x2.Term,VI x2.Vote,VI x2.Role,VI x2.Lead,RO 3 (x2.Conf.map encI),VI x2.Log.Start,VI x2.Log.StartTerm,RO 40 (x2.Log.Entries.map eE),VI x2.Commit,VI x2.Clock,VI x2.Limit,RO 3 (x2.Votes.map encI),RO 98 (x2.Peers.map eP)])] (VI r) [(0,.vec 3 (x1.map encI)),(1,.box [VI x2.Id,VI x2.Term,VI x2.Vote,VI x2.Role,VI x2.Lead,RO 3 (x2.Conf.map encI),VI x2.Log.Start,VI x2.Log.StartTerm,RO 40 (x2.Log.Entries.map eE),VI x2.Commit,VI x2.Clock,VI x2.Limit,RO 3 (x2.Votes.map encI),RO 98 (x2.Peers.map eP)])] := by
 unfold L_IndexFunc_int_i1 at h
 refine Says.of_norm e Tryz.call110 e fun B hB => ?_
 have hm : B.m ≤ 1000 := by omega
 refine Run.so hm (.p e (.nil (.seqO h (fun v203 => []) (fun (v203 : Unit) => [(0,.vec 3 (x1.map encI)),(1,.box [VI x2.Id,VI x2.Term,VI x2.Vote,VI x2.Role,VI x2.Lead,RO 3 (x2.Conf.map encI),VI x2.Log.Start,VI x2.Log.StartTerm,RO 40 (x2.Log.Entries.map eE),VI x2.Commit,VI x2.Clock,VI x2.Limit,RO 3 (x2.Votes.map encI),RO 98 (x2.Peers.map eP)])]) (fun h => ?_) (fun v203 h => ?_))))
 ·refine Run.so hm (.p3 e e e (.nil (.block ?_)))
  obtain ⟨res229,h,hk229⟩ := bindO h
  refine Run.loop (n := N) (fun m229 fr σ => ∃ (x205 : Int),L_IndexFunc_int_i1_l1 N x1 x2 m229 x205 = some res229 ∧ fr = [(0,.sl 0 3 0 x1.length),(1,.fn 90 [.ptr 1 0]),(7,VI ((x1.length : Nat) : Int)),(8,VI x205)] ∧ σ = [(0,.vec 3 (x1.map encI)),(1,.box [VI x2.Id,VI x2.Term,VI x2.Vote,VI x2.Role,VI x2.Lead,RO 3 (x2.Conf.map encI),VI x2.Log.Start,VI x2.Log.StartTerm,RO 40 (x2.Log.Entries.map eE),VI x2.Commit,VI x2.Clock,VI x2.Limit,RO 3 (x2.Votes.map encI),RO 98 (x2.Peers.map eP)])]) (gh_pk [0,1,7,8] [0,1] hB e e e e) ⟨_,h,e,e⟩ ?_
  rintro m229 fr σ ⟨x205,h,rfl,rfl⟩
  obtain _ | m229 := m229
  ·rw [L_IndexFunc_int_i1_l1] at h; cases h
  rw [L_IndexFunc_int_i1_l1] at h
  refine Run.so hm (.p e (.nil (.seq (.condO e h (fun g232 h => ?_) (fun g232 h => ?_)))))
  ·refine Run.skip (.seq (.block (.so hm (.p2 e e (.nil (.so hm (.p3 e e e ?_)))))))
   obtain ⟨x235,hx235,h⟩ := bindO h
   refine Ops.z 17432 (Ev.iaW e e e hx235) e e (.z 17448 (Ev.ldE (f := encI) e e (at_some hx235).2 e e e) e e ?_)
   obtain ⟨y236,hy236,h⟩ := bindO h
   refine Ops.z 17464 (Ev.callx [1] [] 0 e (sem_i_othersOf_1 _ _ _ _ hy236) e e (.d1 (.cons (.ptr e) .nil)) e (.inl e) e e) e e (.nil (.condO e h (fun g237 h => ?_) (fun g237 h => ?_)))
   ·refine Run.so hm (.p2 e e (.nil (.ret ?_)))
    obtain rfl := someO h
    have h := hk229
    replace h := inlO h
    obtain rfl := someO h
    exact Ends.mkG (.inl e) e (gh_pk [0] [0,1] hB e e e e) e e
   ·exact Run.skip (.ops hm (.p2 e e (.nil (⟨m229,Nat.lt_succ_self m229,_,_,(gh_pk [0,1,7,8] [0,1] hB e e e e),_,h,e,e⟩))))
  ·refine Run.exit ?_
   obtain rfl := someO h
   have h := hk229
   replace h := inrO h
   exact ⟨_,_,(gh_pk [] [0,1] hB e e e e),(),h,e,e⟩
 ·refine Run.so hm (.p e (.nil (.ret ?_)))
  obtain rfl := someO h
  exact Ends.mkG (.inl e) e (gh_pk [0] [0,1] hB e e e e) e e
def L_DeleteFunc_int_l1 (N : Nat) (x2 : Node) : Nat → Int → Int → (List Int) → Option (Int × (List Int))
 | 0,_,_,_ => none
 | m + 1,x331,x332,x333 =>
 (if (decide (x332 < ((x333.length : Nat) : Int))) = true then
 joinP (fun (v388 : Int × (List Int)) =>
 L_DeleteFunc_int_l1 N x2 m v388.1 (w64 (x332 + 1)) v388.2) fun j388 =>
 (at? x333 x332).bind fun x392 =>
 (i_othersOf_1 N x392 x2).bind fun y394 =>
 (if (!y394) = true then
 (at? x333 x331).bind fun x399 =>
 j388 (w64 (x331 + 1),(x333.set x331.toNat x392))
 else
 j388 (x331,x333))
 else
 some (x331,x333))
def L_DeleteFunc_int (N : Nat) (x1 : (List Int)) (x2 : Node) : Option (Nat × (List Int)) :=
 (L_IndexFunc_int_i1 N x1 x2).bind fun y258 =>
 (if (y258 == (-1 : Int)) = true then
 some (x1.length,x1)
 else
 joinP (fun (v330 : Int × (List Int)) =>
 (drop? v330.2 v330.1).bind fun x406 =>
 (clr? 0 v330.2 v330.1.toNat (v330.2.length - v330.1.toNat)).bind fun x407 =>
 (take? x407 v330.1).bind fun x409 =>
 some (v330.1.toNat,x407)) fun j330 =>
 (L_DeleteFunc_int_l1 N x2 N y258 (w64 (y258 + 1)) x1).bind (fun v373 => j330 (v373.1,v373.2)))
theorem sem_L_DeleteFunc_int (N : Nat) (x1 : (List Int)) (x2 : Node) (r : Nat × (List Int)) (h : L_DeleteFunc_int N x1 x2 = some r) : Says Tryz.prog 89 [.sl 0 3 0 x1.length,.fn 90 [.ptr 1 0]] 2 [(0,.vec 3 (x1.map encI)),(1,.box [VI x2.Id,VI x2.Term,VI x2.Vote,VI x2.Role,VI x2.Lead,RO 3 (x2.Conf.map encI),VI x2.Log.Start,VI x2.Log.StartTerm,RO 40 (x2.Log.Entries.map eE),VI x2.Commit,VI x2.Clock,VI x2.Limit,RO 3 (x2.Votes.map encI),RO 98 (x2.Peers.map eP)])] (.sl 0 3 0 r.1) [(0,.vec 3 (r.2.map encI)),(1,.box [VI x2.Id,VI x2.Term,VI x2.Vote,VI x2.Role,VI x2.Lead,RO 3 (x2.Conf.map encI),VI x2.Log.Start,VI x2.Log.StartTerm,RO 40 (x2.Log.Entries.map eE),VI x2.Commit,VI x2.Clock,VI x2.Limit,RO 3 (x2.Votes.map encI),RO 98 (x2.Peers.map eP)])] := by
 unfold L_DeleteFunc_int at h
 refine Says.of_norm e Tryz.call89 e fun B hB => ?_
 have hm : B.m ≤ 1000 := by omega
 refine Run.so hm (.p e (.nil (.so hm (.p2 e e ?_))))
 obtain ⟨y258,hy258,h⟩ := bindO h
 refine Ops.z 5128 (Ev.call [0,1] [] 0 (sem_L_IndexFunc_int_i1 _ _ _ _ hy258) e e (.cons (.sl e) (.cons (.fn (.cons (.ptr e) .nil)) .nil)) e (.inl e) e e) e e (.p e (.nil (.seq (.so hm (.p2 e e (.nil (.condO e h (fun g260 h => ?_) (fun g260 h => ?_))))))))
 ·refine Run.so hm (.p2 e e (.nil (.ret ?_)))
  obtain rfl := someO h
  exact Ends.mkG (.inl e) e (gh_pk [0] [0,1] hB e e e e) e e
 ·refine Run.skip (.seqO h (fun v330 => [(0,.sl 0 3 0 v330.2.length),(5,VI v330.1)]) (fun (v330 : Int × (List Int)) => [(0,.vec 3 (v330.2.map encI)),(1,.box [VI x2.Id,VI x2.Term,VI x2.Vote,VI x2.Role,VI x2.Lead,RO 3 (x2.Conf.map encI),VI x2.Log.Start,VI x2.Log.StartTerm,RO 40 (x2.Log.Entries.map eE),VI x2.Commit,VI x2.Clock,VI x2.Limit,RO 3 (x2.Votes.map encI),RO 98 (x2.Peers.map eP)])]) (fun h => ?_) (fun v330 h => ?_))
  ·refine Run.so hm (.p3 e e e (.nil (.block ?_)))
   obtain ⟨res373,h,hk373⟩ := bindO h
   refine Run.loop (n := N) (fun m373 fr σ => ∃ (x331 : Int),∃ (x332 : Int),∃ (x333 : (List Int)),L_DeleteFunc_int_l1 N x2 m373 x331 x332 x333 = some res373 ∧ fr = [(0,.sl 0 3 0 x333.length),(1,.fn 90 [.ptr 1 0]),(5,VI x331),(6,VI x332)] ∧ σ = [(0,.vec 3 (x333.map encI)),(1,.box [VI x2.Id,VI x2.Term,VI x2.Vote,VI x2.Role,VI x2.Lead,RO 3 (x2.Conf.map encI),VI x2.Log.Start,VI x2.Log.StartTerm,RO 40 (x2.Log.Entries.map eE),VI x2.Commit,VI x2.Clock,VI x2.Limit,RO 3 (x2.Votes.map encI),RO 98 (x2.Peers.map eP)])]) (gh_pk [0,1,5,6] [0,1] hB e e e e) ⟨_,_,_,h,e,e⟩ ?_
   rintro m373 fr σ ⟨x331,x332,x333,h,rfl,rfl⟩
   obtain _ | m373 := m373
   ·rw [L_DeleteFunc_int_l1] at h; cases h
   rw [L_DeleteFunc_int_l1] at h
   refine Run.seq (.so hm (.p3 e e e (.p e (.nil (.condO e h (fun g376 h => ?_) (fun g376 h => ?_))))))
   ·refine Run.skip (.seqO h (fun v388 => [(0,.sl 0 3 0 v388.2.length),(1,.fn 90 [.ptr 1 0]),(5,VI v388.1),(6,VI x332)]) (fun (v388 : Int × (List Int)) => [(0,.vec 3 (v388.2.map encI)),(1,.box [VI x2.Id,VI x2.Term,VI x2.Vote,VI x2.Role,VI x2.Lead,RO 3 (x2.Conf.map encI),VI x2.Log.Start,VI x2.Log.StartTerm,RO 40 (x2.Log.Entries.map eE),VI x2.Commit,VI x2.Clock,VI x2.Limit,RO 3 (x2.Votes.map encI),RO 98 (x2.Peers.map eP)])]) (fun h => ?_) (fun v388 h => ?_))
    ·refine Run.block (.so hm (.p2 e e ?_))
     obtain ⟨x392,hx392,h⟩ := bindO h
     refine Ops.z 29704 (Ev.iaW e e e hx392) e e (.z 29720 (Ev.ldE (f := encI) e e (at_some hx392).2 e e e) e e (.p e (.nil (.so hm (.p2 e e ?_)))))
     obtain ⟨y394,hy394,h⟩ := bindO h
     refine Ops.z 33800 (Ev.callx [1] [] 0 e (sem_i_othersOf_1 _ _ _ _ hy394) e e (.d1 (.cons (.ptr e) .nil)) e (.inl e) e e) e e (.p e (.nil (.condO e h (fun g395 h => ?_) (fun g395 h => ?_))))
     ·refine Run.so hm (.p3 e e e ?_)
      obtain ⟨x399,hx399,h⟩ := bindO h
      exact Ops.z 37912 (Ev.iaW e e e hx399) e e (.y 37928 (Ev.stE (f := encI) (v' := x392) e e (at_some hx399).2 e (.d1 .nil) e e e e e) e e (.nil (.ops hm (.p3 e e e (.nil (⟨_,_,(gh_pk [0,1,5,6] [0,1] hB e e (by first | rfl | (simp only [List.length_set]; done) | (simp only [List.length_set]; rfl)) (by first | rfl | (simp only [List.length_set]; done) | (simp only [List.length_set]; rfl))),_,h,e,e⟩))))))
     ·exact Run.skip (⟨_,_,(gh_pk [0,1,5,6] [0,1] hB e e e e),_,h,e,e⟩)
    ·exact Run.ops hm (.p3 e e e (.nil (⟨m373,Nat.lt_succ_self m373,_,_,(gh_pk [0,1,5,6] [0,1] hB e e e e),_,_,_,h,e,e⟩)))
   ·refine Run.exit ?_
    obtain rfl := someO h
    have h := hk373
    exact ⟨_,_,(gh_pk [0,5] [0,1] hB e e e e),_,h,e,e⟩
  ·refine Run.so hm (.p2 e e ?_)
   obtain ⟨x406,hx406,h⟩ := bindO h
   refine Ops.z 46088 (Ev.slWl (xs := v330.2) e e e hx406) e e ?_
   obtain ⟨x407,hx407,h⟩ := bindO h
   refine Ops.y 46104 (Ev.clrW (f := encI) (zv := 0) e e e hx407) e e (.nil (.so hm (.p2 e e ?_)))
   obtain ⟨x409,hx409,h⟩ := bindO h
   refine Ops.z 50184 (Ev.slWh (xs := x407) e (clr_len hx407) e hx409) e e (.p e (.nil (.ret ?_)))
   obtain rfl := someO h
   exact Ends.mkG (.inl e) e (gh_pk [0] [0,1] hB e e e e) (by first | rfl | (simp only [List.length_set,(clr_len hx407)]; done) | (simp only [List.length_set,(clr_len hx407)]; rfl)) (by first | rfl | (simp only [List.length_set,(clr_len hx407)]; done) | (simp only [List.length_set,(clr_len hx407)]; rfl))
def i_othersOf (N : Nat) (x1 : Node) : Option (Nat × (List Int)) :=
 (i_ConfOf N x1).bind fun y109 =>
 (L_DeleteFunc_int N y109 x1).bind fun y110 =>
 (len? y109 y110.2).bind fun y111 =>
 some (y110.1,y110.2)
theorem sem_i_othersOf (N : Nat) (x1 : Node) (r : Nat × (List Int)) (h : i_othersOf N x1 = some r) : Says Tryz.prog 48 [.agg [VI x1.Id,VI x1.Term,VI x1.Vote,VI x1.Role,VI x1.Lead,RO 3 (x1.Conf.map encI),VI x1.Log.Start,VI x1.Log.StartTerm,RO 40 (x1.Log.Entries.map eE),VI x1.Commit,VI x1.Clock,VI x1.Limit,RO 3 (x1.Votes.map encI),RO 98 (x1.Peers.map eP)]] 0 [] (.sl 0 3 0 r.1) [(0,.vec 3 (r.2.map encI))] := by
 unfold i_othersOf at h
 refine Says.of_norm e Tryz.call48 e fun B hB => ?_
 have hm : B.m ≤ 1000 := by omega
 refine Run.so hm (.z 1000 (.bx e e) e e (.p e (.nil (.so hm (.p e ?_)))))
 obtain ⟨y109,hy109,h⟩ := bindO h
 refine Ops.z 5112 (Ev.call [] [] 1 (sem_i_ConfOf _ _ _ hy109) e e (.cons (.agg (.d4 (.d4 (.d4 (.d2 .nil))))) .nil) e (.inl e) e e) e e (.p e ?_)
 obtain ⟨y110,hy110,h⟩ := bindO h
 obtain ⟨y111,hy111,h⟩ := bindO h
 refine Ops.z 5144 (Ev.call [5112,1000] [] 0 (sem_L_DeleteFunc_int _ _ _ _ hy110) e e (.cons (.sl e) (.cons (.fn (.cons (.ptr e) .nil)) .nil)) e (.inl e) e e) e e (.p e (.nil (.ret ?_)))
 obtain rfl := someO h
 exact Ends.mkG (.inl e) e (gh_pk [0] [5112] hB e e e e) (by first | rfl | (simp only [List.length_set,(len_some hy111)]; done) | (simp only [List.length_set,(len_some hy111)]; rfl)) (by first | rfl | (simp only [List.length_set,(len_some hy111)]; done) | (simp only [List.length_set,(len_some hy111)]; rfl))
def L_Equal_int_l1 (N : Nat) (x1 : (List Int)) (x2 : (List Int)) : Nat → Int → Option ((Bool) ⊕ (Unit))
 | 0,_ => none
 | m + 1,x172 =>
 (if (decide (x172 < (x1.length : Int))) = true then
 (at? x1 x172).bind fun x187 =>
 (at? x2 x172).bind fun x188 =>
 (if (x187 != x188) = true then
 some (Sum.inl false)
 else
 L_Equal_int_l1 N x1 x2 m (w64 (x172 + 1)))
 else
 some (Sum.inr ()))
def L_Equal_int_l1_r (N : Nat) (x1 : (List Int)) (x2 : (List Int)) : (List Int) → Int → Option ((Bool) ⊕ (Unit))
 | [],x172 =>
 some (Sum.inr ())
 | hd :: tl,x172 =>
 (some hd).bind fun x187 =>
 (at? x2 x172).bind fun x188 =>
 (if (x187 != x188) = true then
 some (Sum.inl false)
 else
 L_Equal_int_l1_r N x1 x2 tl (w64 (x172 + 1)))
theorem L_Equal_int_l1_rng (N : Nat) (x1 : (List Int)) (x2 : (List Int)) (hx : x1.length ≤ 1099511627776) : ∀ (d k m : Nat),x1.length = k + d → d < m → L_Equal_int_l1 N x1 x2 m (k : Int) = L_Equal_int_l1_r N x1 x2 (x1.drop k) (k : Int) := by
 intro d
 induction d with
 | zero =>
  intro k m hd hm
  obtain ⟨m,rfl⟩ : ∃ q,m = q + 1 := ⟨m - 1,by omega⟩
  rw [L_Equal_int_l1,if_neg (by simp; omega),List.drop_eq_nil_of_le (by omega),L_Equal_int_l1_r]
 | succ d ih =>
  intro k m hd hm
  obtain ⟨m,rfl⟩ : ∃ q,m = q + 1 := ⟨m - 1,by omega⟩
  have hk : k < x1.length := by omega
  rw [L_Equal_int_l1,if_pos (by simp; omega),List.drop_eq_getElem_cons hk,L_Equal_int_l1_r]
  have h1 := at_lt hk
  have h2 := w64_succ (k := k) (by omega)
  have h3 := ih (k + 1) m
  simp only [h1,h2,h3 (by omega) (by omega)]
theorem L_Equal_int_l1_eq {N : Nat} (x1 : (List Int)) (x2 : (List Int)) (hx : x1.length ≤ 1099511627776) (hN : x1.length < N) : L_Equal_int_l1 N x1 x2 N 0 = L_Equal_int_l1_r N x1 x2 x1 0 := L_Equal_int_l1_rng N x1 x2 hx x1.length 0 N (by omega) hN
def L_Equal_int (N : Nat) (x1 : (List Int)) (x2 : (List Int)) : Option (Bool) :=
 (if ((x1.length : Int) != (x2.length : Int)) = true then
 some false
 else
 joinP (fun (v168 : Unit) =>
 some true) fun j168 =>
 (L_Equal_int_l1 N x1 x2 N 0).bind (Sum.elim (fun v180 => some v180) (fun (v181 : Unit) => j168 ())))
theorem sem_L_Equal_int (N : Nat) (x1 : (List Int)) (x2 : (List Int)) (r : Bool) (h : L_Equal_int N x1 x2 = some r) : Says Tryz.prog 85 [RO 3 (x1.map encI),RO 3 (x2.map encI)] 0 [] (VB r) [] := by
 unfold L_Equal_int at h
 refine Says.of_norm e Tryz.call85 e fun B hB => ?_
 have hm : B.m ≤ 1000 := by omega
 refine Run.so hm (.p e (.nil (.seq (.so hm (.p e (.z 5112 (Ev.lnF e) e e (.p e (.z 5144 (Ev.lnF e) e e (.p e (.nil (.condO e h (fun g146 h => ?_) (fun g146 h => ?_))))))))))))
 ·refine Run.so hm (.p e (.nil (.ret ?_)))
  obtain rfl := someO h
  exact Ends.mkG (.inl e) e (gh_pk [0] [] hB e e e e) e e
 ·refine Run.skip (.seqO h (fun v168 => []) (fun (v168 : Unit) => []) (fun h => ?_) (fun v168 h => ?_))
  ·refine Run.so hm (.p e (.z 13304 (Ev.lnF e) e e (.p e (.nil (.block ?_)))))
   obtain ⟨res181,h,hk181⟩ := bindO h
   refine Run.loop (n := N) (fun m181 fr σ => ∃ (x172 : Int),L_Equal_int_l1 N x1 x2 m181 x172 = some res181 ∧ fr = [(0,RO 3 (x1.map encI)),(1,RO 3 (x2.map encI)),(12,VI (x1.length : Int)),(13,VI x172)] ∧ σ = []) (gh_pk [0,1,12,13] [] hB e e e e) ⟨_,h,e,e⟩ ?_
   rintro m181 fr σ ⟨x172,h,rfl,rfl⟩
   obtain _ | m181 := m181
   ·rw [L_Equal_int_l1] at h; cases h
   rw [L_Equal_int_l1] at h
   refine Run.so hm (.p e (.nil (.seq (.condO e h (fun g184 h => ?_) (fun g184 h => ?_)))))
   ·refine Run.skip (.seq (.block (.so hm (.p2 e e (.nil (.seq (.draw hm hmix (.p e (.p e ?_)))))))))
    obtain ⟨x187,hx187,h⟩ := bindO h
    refine OpsD.z 25608 (Ev.iaF e e hx187) e e (.p e (.p e (.p e ?_)))
    obtain ⟨x188,hx188,h⟩ := bindO h
    refine OpsD.z 25672 (Ev.iaF e e hx188) e e (.p e (.p e (.nil ⟨by kernel_rfl,?_⟩)))
    refine Run.condO e h (fun g189 h => ?_) (fun g189 h => ?_)
    ·refine Run.so hm (.p e (.nil (.ret ?_)))
     obtain rfl := someO h
     have h := hk181
     replace h := inlO h
     obtain rfl := someO h
     exact Ends.mkG (.inl e) e (gh_pk [0] [] hB e e e e) e e
    ·exact Run.skip (.ops hm (.p2 e e (.nil (⟨m181,Nat.lt_succ_self m181,_,_,(gh_pk [0,1,12,13] [] hB e e e e),_,h,e,e⟩))))
   ·refine Run.exit ?_
    obtain rfl := someO h
    have h := hk181
    replace h := inrO h
    exact ⟨_,_,(gh_pk [] [] hB e e e e),(),h,e,e⟩
  ·refine Run.so hm (.p e (.nil (.ret ?_)))
   obtain rfl := someO h
   exact Ends.mkG (.inl e) e (gh_pk [0] [] hB e e e e) e e
end Go.Proofs.YtkojbcnafckofaaGreat.Pe.FnNodes
