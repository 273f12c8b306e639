/- Functions,as pure functions; and that Go does just that. -/
import Derived.Test.YtlkdjdfcihjplaaGreatDoorPeFFnExactFold1
namespace Go.Proofs.YtlkdjdfcihjplaaGreatDoor.Pe.FnExactFold
open Go Go.RowKit
set_option linter.unusedVariables false
set_option linter.unusedSimpArgs false
set_option maxHeartbeats 40000000
set_option maxRecDepth 100000
def spec_l17Acted (N : Nat) (x1 : (List Pair)) (x2 : Int) (x3 : Entry) : Option ((List Pair) × ByteArray) :=
 (spec_ReadCommand N x3.Data).bind fun y119 =>
 (if (x3.Kind != 3) = true then
 some (x1,(⟨#[]⟩ : ByteArray))
 else
 (if (!y119.2) = true then
 some (x1,(⟨#[]⟩ : ByteArray))
 else
 (spec_Act N x1 x2 y119.1).bind fun y129 =>
 (if (!y129.2.2) = true then
 some (x1,(⟨#[]⟩ : ByteArray))
 else
 some (y129.1,y129.2.1))))
theorem sem_spec_l17Acted (N : Nat) (x1 : (List Pair)) (x2 : Int) (x3 : Entry) (r : (List Pair) × ByteArray) (h : spec_l17Acted N x1 x2 x3 = some r) : Says Tryz.prog 15 [RO 50 (x1.map encPair),VI x2,.agg [VI x3.Term,VI x3.Kind,VS x3.Data]] 0 [] (.tup [RO 50 (r.1.map encPair),VS r.2]) [] := by
 unfold spec_l17Acted at h
 refine Says.of_norm e Tryz.call15 e fun B hB => ?_
 have hm : B.m ≤ 1000 := by omega
 refine Run.so hm (.z 1000 (.bx e e) e e (.p2 e e (.nil (.so hm (.p2 e e ?_)))))
 obtain ⟨y119,hy119,h⟩ := bindO h
 refine Ops.z 5128 (Ev.call [] [] 0 (sem_spec_ReadCommand _ _ _ hy119) e e (.d1 .nil) e (.inl e) e e) e e (.p3 e e e (.z 5192 (.al e e) e e (.y 5208 (.sto e e e e e e) e e (.p e (.nil (.seq (.so hm (.p3 e e e (.p e (.askO (x := .t 22) e h (fun g124 h => ?_) (fun g124 h => ?_)))))))))))
 ·refine Ops.gn e g124 (.gn e g124 (.z 9288 (.pkT e g124 e) e e (.nil (.condT e e (.so hm (.p3 e e e (.nil (.ret ?_))))))))
  obtain rfl := someO h
  exact Ends.mkG (.inl e) e (gh_pk [0,1] [] hB e e e e) e e
 ·refine Ops.gp e g124 e (.gp e g124 e (.z 9288 (.pkF e g124 e) e e (.nil (.condO e h (fun g125 h => ?_) (fun g125 h => ?_)))))
  ·refine Run.so hm (.p3 e e e (.nil (.ret ?_)))
   obtain rfl := someO h
   exact Ends.mkG (.inl e) e (gh_pk [0,1] [] hB e e e e) e e
  ·refine Run.skip (.so hm (.p3 e e e ?_))
   obtain ⟨y129,hy129,h⟩ := bindO h
   refine Ops.z 17432 (Ev.call [] [] 0 (sem_spec_Act _ _ _ _ _ hy129) e e (.d2 (.cons (.agg (.d4 (.d2 .nil))) .nil)) e (.inl e) e e) e e (.p3 e e e (.p3 e e e (.p e (.nil (.seq (.so hm (.p2 e e (.nil (.condO e h (fun g131 h => ?_) (fun g131 h => ?_))))))))))
   ·refine Run.so hm (.p3 e e e (.nil (.ret ?_)))
    obtain rfl := someO h
    exact Ends.mkG (.inl e) e (gh_pk [0,1] [] hB e e e e) e e
   ·refine Run.skip (.so hm (.p3 e e e (.p e (.nil (.ret ?_)))))
    obtain rfl := someO h
    exact Ends.mkG (.inl e) e (gh_pk [0,1] [] hB e e e e) e e
def spec_Act_i1_l1 (N : Nat) (x3 : Command) (y288 : (List Tl15State) × Bool) : Nat → Int → Int → Option (Int)
 | 0,_,_ => none
 | m + 1,x360,x361 =>
 (if (decide (x361 < ((y288.1.length : Nat) : Int))) = true then
 joinP (fun (v388 : Int) =>
 spec_Act_i1_l1 N x3 y288 m v388 (w64 (x361 + 1))) fun j388 =>
 (at? y288.1 x361).bind fun x390 =>
 (if (x390.id == x3.Session) = true then
 j388 x361
 else
 j388 x360)
 else
 some x360)
def spec_Act_i1 (N : Nat) (x1 : (List Pair)) (x2 : Int) (x3 : Command) : Option ((List Pair) × ByteArray × Bool) :=
 (spec_MapOk N x1).bind fun y279 =>
 (if (!y279) = true then
 some (([] : List Pair),(⟨#[]⟩ : ByteArray),false)
 else
 (spec_CommandOk N x3).bind fun y281 =>
 (if (!y281) = true then
 some (([] : List Pair),(⟨#[]⟩ : ByteArray),false)
 else
 (spec_l01In N x2 0 100000).bind fun y283 =>
 (if (!y283) = true then
 some (([] : List Pair),(⟨#[]⟩ : ByteArray),false)
 else
 (spec_l15Sessions N x1).bind fun y288 =>
 (if (!y288.2) = true then
 some (([] : List Pair),(⟨#[]⟩ : ByteArray),false)
 else
 (cat? ([] : List Pair) x1).bind fun x294 =>
 (if (x3.Op == 1) = true then
 (spec_l15Open_i1 N x294 x2 y288.1).bind fun y314 =>
 (if (!y314.2.2) = true then
 some (([] : List Pair),(⟨#[]⟩ : ByteArray),false)
 else
 (spec_MapOk N y314.1).bind fun y323 =>
 (if (!y323) = true then
 some (([] : List Pair),(⟨#[]⟩ : ByteArray),false)
 else
 some (y314.1,y314.2.1,true)))
 else
 joinP (fun (v358 : Int) =>
 (if (decide (v358 < 0)) = true then
 some (x294,(⟨#[101,120,112,105,114,101,100]⟩ : ByteArray),true)
 else
 (at? y288.1 v358).bind fun x397 =>
 (if (decide (x3.Seq < x397.seq)) = true then
 some (x294,(⟨#[115,116,97,108,101]⟩ : ByteArray),true)
 else
 (if (x3.Seq == x397.seq) = true then
 some (x294,x397.reply,true)
 else
 (if (decide (x3.Seq > (w64 (x397.seq + 1)))) = true then
 some (x294,(⟨#[103,97,112]⟩ : ByteArray),true)
 else
 (spec_l15Op_i1 N x294 x3).bind fun y407 =>
 (spec_l15Key N x397.id).bind fun y417 =>
 (spec_l15Text N (Tl15State.mk x397.id x3.Seq x2 y407.2)).bind fun y418 =>
 (spec_l06Put N y407.1 y417 y418).bind fun y419 =>
 (spec_MapOk N y419).bind fun y424 =>
 (if (!y424) = true then
 some (([] : List Pair),(⟨#[]⟩ : ByteArray),false)
 else
 some (y419,y407.2,true))))))) fun j358 =>
 (spec_Act_i1_l1 N x3 y288 N (-1 : Int) 0).bind (fun v381 => j358 v381))))))
theorem sem_spec_Act_i1 (N : Nat) (x1 : (List Pair)) (x2 : Int) (x3 : Command) (r : (List Pair) × ByteArray × Bool) (h : spec_Act_i1 N x1 x2 x3 = some r) : Says Tryz.prog 26 [.sl 0 50 0 x1.length,VI x2,.agg [VI x3.Op,VI x3.Session,VI x3.Seq,VS x3.Key,VS x3.Value,VS x3.Old]] 1 [(0,.vec 50 (x1.map encPair))] (.tup [RO 50 (r.1.map encPair),VS r.2.1,VB r.2.2]) [(0,.vec 50 (x1.map encPair))] := by
 unfold spec_Act_i1 at h
 refine Says.of_norm e Tryz.call26 e fun B hB => ?_
 have hm : B.m ≤ 1000 := by omega
 refine Run.so hm (.z 1000 (.bx e e) e e (.p3 e e e (.nil (.so hm (.z 5096 (Ev.bsW (ys := ([] : List Pair)) (f := encPair) e .nil e e e e e) e e (.p e (.nil (.seq (.so hm (.p e ?_))))))))))
 obtain ⟨y279,hy279,h⟩ := bindO h
 refine Ops.z 9208 (Ev.call [] [0] 0 (sem_spec_MapOk _ _ _ hy279) e e (.cons (.borrow e (by decide) (lendW (fun _ => e) _ e)) .nil) e (.inr ⟨e,ownL_root trivial⟩) e e) e e ?_
 refine Ops.p e (.p e (.askO (x := .t 21) e h (fun g280 h => ?_) (fun g280 h => ?_)))
 ·refine Ops.gn e g280 (.gn e g280 (.gn e g280 (.z 9304 (.pkT e g280 e) e e (.p e (.gn e e (.gn e e (.gn e e (.z 9384 (.pkT e e e) e e (.nil (.condT e e (.so hm (.p3 e e e (.p e (.nil (.ret ?_)))))))))))))))
  obtain rfl := someO h
  exact Ends.mkG (.inl e) e (Gh.trans (Gh.trans (Gh.trans ((Gh.frz (f := encPair) (g := encPair) (xs := ([] : List Pair)) 5096 (fun _ => e) e)) (gh_prn [0,1,2] [0,5096] hB e)) (gh_ro [0,1,2] [] [5096] [0] e)) (gh_pk [0,1,2] [0] hB e e e e)) (by first | rfl | (simp only [List.length_set,takeMap,List.drop_zero,List.map_nil]; done) | (simp only [List.length_set,takeMap,List.drop_zero,List.map_nil]; rfl)) (by first | rfl | (simp only [List.length_set,takeMap,List.drop_zero,List.map_nil]; done) | (simp only [List.length_set,takeMap,List.drop_zero,List.map_nil]; rfl))
 ·refine Ops.gp e g280 e ?_
  obtain ⟨y281,hy281,h⟩ := bindO h
  refine Ops.gs (s := 9272) e g280 (Ev.call [] [] 0 (sem_spec_CommandOk _ _ _ hy281) e e (.cons (.agg (.d4 (.d2 .nil))) .nil) e (.inl e) e e) e e (.gp e g280 e (.z 9304 (.pkF e g280 e) e e (.p e (.askO (x := .t 26) e h (fun g282 h => ?_) (fun g282 h => ?_)))))
  ·refine Ops.gn e g282 (.gn e g282 (.gn e g282 (.z 9384 (.pkT e g282 e) e e (.nil (.condT e e (.so hm (.p3 e e e (.p e (.nil (.ret ?_))))))))))
   obtain rfl := someO h
   exact Ends.mkG (.inl e) e (Gh.trans (Gh.trans (Gh.trans ((Gh.frz (f := encPair) (g := encPair) (xs := ([] : List Pair)) 5096 (fun _ => e) e)) (gh_prn [0,1,2] [0,5096] hB e)) (gh_ro [0,1,2] [] [5096] [0] e)) (gh_pk [0,1,2] [0] hB e e e e)) (by first | rfl | (simp only [List.length_set,takeMap,List.drop_zero,List.map_nil]; done) | (simp only [List.length_set,takeMap,List.drop_zero,List.map_nil]; rfl)) (by first | rfl | (simp only [List.length_set,takeMap,List.drop_zero,List.map_nil]; done) | (simp only [List.length_set,takeMap,List.drop_zero,List.map_nil]; rfl))
  ·refine Ops.gp e g282 e ?_
   obtain ⟨y283,hy283,h⟩ := bindO h
   refine Ops.gs (s := 9352) e g282 (Ev.call [] [] 0 (sem_spec_l01In _ _ _ _ _ hy283) e e (.d2 (.d1 .nil)) e (.inl e) e e) e e (.gp e g282 e (.z 9384 (.pkF e g282 e) e e (.nil (.condO e h (fun g284 h => ?_) (fun g284 h => ?_)))))
   ·refine Run.so hm (.p3 e e e (.p e (.nil (.ret ?_))))
    obtain rfl := someO h
    exact Ends.mkG (.inl e) e (Gh.trans (Gh.trans (Gh.trans ((Gh.frz (f := encPair) (g := encPair) (xs := ([] : List Pair)) 5096 (fun _ => e) e)) (gh_prn [0,1,2] [0,5096] hB e)) (gh_ro [0,1,2] [] [5096] [0] e)) (gh_pk [0,1,2] [0] hB e e e e)) (by first | rfl | (simp only [List.length_set,takeMap,List.drop_zero,List.map_nil]; done) | (simp only [List.length_set,takeMap,List.drop_zero,List.map_nil]; rfl)) (by first | rfl | (simp only [List.length_set,takeMap,List.drop_zero,List.map_nil]; done) | (simp only [List.length_set,takeMap,List.drop_zero,List.map_nil]; rfl))
   ·refine Run.skip (.so hm (.p e ?_))
    obtain ⟨y288,hy288,h⟩ := bindO h
    refine Ops.z 17400 (Ev.call [] [0] 1 (sem_spec_l15Sessions _ _ _ hy288) e e (.cons (.borrow e (by decide) (lendW (fun _ => e) _ e)) .nil) e (.inr ⟨e,ownL_root ⟨own_rows (fun _ => e) _,trivial⟩⟩) e e) e e ?_
    refine Ops.p e (.p3 e e e (.p e (.nil (.seq (.so hm (.p2 e e (.nil (.condO e h (fun g290 h => ?_) (fun g290 h => ?_)))))))))
    ·refine Run.so hm (.p3 e e e (.p e (.nil (.ret ?_))))
     obtain rfl := someO h
     exact Ends.mkG (.inl e) e (Gh.trans (Gh.trans (Gh.trans ((Gh.frz (f := encPair) (g := encPair) (xs := ([] : List Pair)) 5096 (fun _ => e) e)) (gh_prn [0,1,2] [0,5096] hB e)) (gh_ro [0,1,2] [] [5096] [0] e)) (gh_pk [0,1,2] [0] hB e e e e)) (by first | rfl | (simp only [List.length_set,takeMap,List.drop_zero,List.map_nil]; done) | (simp only [List.length_set,takeMap,List.drop_zero,List.map_nil]; rfl)) (by first | rfl | (simp only [List.length_set,takeMap,List.drop_zero,List.map_nil]; done) | (simp only [List.length_set,takeMap,List.drop_zero,List.map_nil]; rfl))
    ·refine Run.skip (.so hm (.z 29672 (Ev.bsW (ys := ([] : List Pair)) (f := encPair) e .nil e e e e e) e e (.p e ?_)))
     obtain ⟨x294,hx294,h⟩ := bindO h
     refine Ops.z 29704 (Ev.apW (f := encPair) (ontoW e e e) (addsW e e e (fun _ => e)) e bt50 e hx294) e e (.p e (.nil (.so hm (.p e (.nil (.seq (.so hm (.p3 e e e (.nil (.condO e h (fun g310 h => ?_) (fun g310 h => ?_)))))))))))
     ·refine Run.so hm (.p3 e e e ?_)
      obtain ⟨y314,hy314,h⟩ := bindO h
      refine Ops.stz (s := 42008) (EvZ.frz (f := encPair) (g := encPair) (xs := x294) 29704 (fun _ => e) e (.mk (Ev.call [17400] [] 0 (sem_spec_l15Open_i1 _ _ _ _ _ hy314) e e (.cons (.share e (shareW _ e)) (.d1 (.cons (.sl e) .nil))) e (.inl e) e e))) e e (.p3 e e e (.p3 e e e (.p e (.nil (.seq (.so hm (.p3 e e e (.askO (x := .t 56) e h (fun g322 h => ?_) (fun g322 h => ?_)))))))))
      ·refine Ops.gn e g322 (.gn e g322 (.gn e g322 (.z 46152 (.pkT e g322 e) e e (.nil (.condT e e (.so hm (.p3 e e e (.p e (.nil (.ret ?_))))))))))
       obtain rfl := someO h
       exact Ends.mkG (.inl e) e (Gh.trans (Gh.trans (Gh.trans ((Gh.frz (f := encPair) (g := encPair) (xs := ([] : List Pair)) 5096 (fun _ => e) e)) (gh_prn [0,1,2] [0,5096] hB e)) (gh_ro [0,1,2] [] [5096] [0] e)) (gh_pk [0,1,2] [0] hB e e e e)) (by first | rfl | (simp only [List.length_set,takeMap,List.drop_zero,List.map_nil]; done) | (simp only [List.length_set,takeMap,List.drop_zero,List.map_nil]; rfl)) (by first | rfl | (simp only [List.length_set,takeMap,List.drop_zero,List.map_nil]; done) | (simp only [List.length_set,takeMap,List.drop_zero,List.map_nil]; rfl))
      ·refine Ops.gp e g322 e ?_
       obtain ⟨y323,hy323,h⟩ := bindO h
       refine Ops.gs (s := 46120) e g322 (Ev.call [] [] 0 (sem_spec_MapOk _ _ _ hy323) e e (.d1 .nil) e (.inl e) e e) e e (.gp e g322 e (.z 46152 (.pkF e g322 e) e e (.nil (.condO e h (fun g324 h => ?_) (fun g324 h => ?_)))))
       ·refine Run.so hm (.p3 e e e (.p e (.nil (.ret ?_))))
        obtain rfl := someO h
        exact Ends.mkG (.inl e) e (Gh.trans (Gh.trans (Gh.trans ((Gh.frz (f := encPair) (g := encPair) (xs := ([] : List Pair)) 5096 (fun _ => e) e)) (gh_prn [0,1,2] [0,5096] hB e)) (gh_ro [0,1,2] [] [5096] [0] e)) (gh_pk [0,1,2] [0] hB e e e e)) (by first | rfl | (simp only [List.length_set,takeMap,List.drop_zero,List.map_nil]; done) | (simp only [List.length_set,takeMap,List.drop_zero,List.map_nil]; rfl)) (by first | rfl | (simp only [List.length_set,takeMap,List.drop_zero,List.map_nil]; done) | (simp only [List.length_set,takeMap,List.drop_zero,List.map_nil]; rfl))
       ·refine Run.skip (.so hm (.p3 e e e (.p2 e e (.nil (.ret ?_)))))
        obtain rfl := someO h
        exact Ends.mkG (.inl e) e (Gh.trans (Gh.trans (gh_prn [0,1,2] [0] hB e) (gh_ro [0,1,2] [] [] [0] e)) (gh_pk [0,1,2] [0] hB e e e e)) (by first | rfl | (simp only [List.length_set,takeMap,List.drop_zero,List.map_nil]; done) | (simp only [List.length_set,takeMap,List.drop_zero,List.map_nil]; rfl)) (by first | rfl | (simp only [List.length_set,takeMap,List.drop_zero,List.map_nil]; done) | (simp only [List.length_set,takeMap,List.drop_zero,List.map_nil]; rfl))
     ·refine Run.skip (.so hm (.p e (.nil (.seqO h (fun v358 => [(1,VI x2),(5,.ptr 1 0),(9,.sl 2 50 0 (([] : List Pair).length)),(10,.sl 3 78 0 y288.1.length),(12,.sl 4 50 0 x294.length),(14,VI v358)]) (fun (v358 : Int) => [(0,.vec 50 (x1.map encPair)),(1,.box [VI x3.Op,VI x3.Session,VI x3.Seq,VS x3.Key,VS x3.Value,VS x3.Old]),(2,.vec 50 (([] : List Pair).map encPair)),(3,.vec 78 (y288.1.map encTl15State)),(4,.vec 50 (x294.map encPair))]) (fun h => ?_) (fun v358 h => ?_)))))
      ·refine Run.so hm (.p e (.nil (.block ?_)))
       obtain ⟨res381,h,hk381⟩ := bindO h
       refine Run.loop (n := N) (fun m381 fr σ => ∃ (x360 : Int),∃ (x361 : Int),spec_Act_i1_l1 N x3 y288 m381 x360 x361 = some res381 ∧ fr = [(1,VI x2),(5,.ptr 1 0),(9,.sl 2 50 0 (([] : List Pair).length)),(10,.sl 3 78 0 y288.1.length),(12,.sl 4 50 0 x294.length),(14,VI x360),(15,VI x361)] ∧ σ = [(0,.vec 50 (x1.map encPair)),(1,.box [VI x3.Op,VI x3.Session,VI x3.Seq,VS x3.Key,VS x3.Value,VS x3.Old]),(2,.vec 50 (([] : List Pair).map encPair)),(3,.vec 78 (y288.1.map encTl15State)),(4,.vec 50 (x294.map encPair))]) (gh_pk [1,5,9,10,12,14,15] [0,1000,5096,17400,29704] hB e e e e) ⟨_,_,h,e,e⟩ ?_
       rintro m381 fr σ ⟨x360,x361,h,rfl,rfl⟩
       obtain _ | m381 := m381
       ·rw [spec_Act_i1_l1] at h; cases h
       rw [spec_Act_i1_l1] at h
       refine Run.seq (.so hm (.p3 e e e (.p e (.nil (.condO e h (fun g384 h => ?_) (fun g384 h => ?_))))))
       ·refine Run.skip (.seqO h (fun v388 => [(1,VI x2),(5,.ptr 1 0),(9,.sl 2 50 0 (([] : List Pair).length)),(10,.sl 3 78 0 y288.1.length),(12,.sl 4 50 0 x294.length),(14,VI v388),(15,VI x361)]) (fun (v388 : Int) => [(0,.vec 50 (x1.map encPair)),(1,.box [VI x3.Op,VI x3.Session,VI x3.Seq,VS x3.Key,VS x3.Value,VS x3.Old]),(2,.vec 50 (([] : List Pair).map encPair)),(3,.vec 78 (y288.1.map encTl15State)),(4,.vec 50 (x294.map encPair))]) (fun h => ?_) (fun v388 h => ?_))
        ·refine Run.block (.seq (.draw hm hmix (.p e (.p e ?_))))
         obtain ⟨x390,hx390,h⟩ := bindO h
         refine OpsD.z 74760 (Ev.iaW e e e hx390) e e (.p e (.z 74792 (Ev.ldE (f := encTl15State) e e (at_some hx390).2 e e e) e e (.p e (.p e (.p e (.nil ⟨by kernel_rfl,?_⟩))))))
         refine Run.condO e h (fun g391 h => ?_) (fun g391 h => ?_)
         ·exact Run.ops hm (.p2 e e (.nil (⟨_,_,(gh_pk [1,5,9,10,12,14,15] [0,1,2,3,4] hB e e e e),_,h,e,e⟩)))
         ·exact Run.skip (⟨_,_,(gh_pk [1,5,9,10,12,14,15] [0,1,2,3,4] hB e e e e),_,h,e,e⟩)
        ·exact Run.ops hm (.p3 e e e (.nil (⟨m381,Nat.lt_succ_self m381,_,_,(gh_pk [1,5,9,10,12,14,15] [0,1,2,3,4] hB e e e e),_,_,h,e,e⟩)))
       ·refine Run.exit ?_
        obtain rfl := someO h
        have h := hk381
        exact ⟨_,_,(gh_pk [1,5,9,10,12,14] [0,1,2,3,4] hB e e e e),_,h,e,e⟩
      ·refine Run.seq (.so hm (.p2 e e (.nil (.condO e h (fun g393 h => ?_) (fun g393 h => ?_)))))
       ·refine Run.so hm (.p3 e e e (.p e (.nil (.ret ?_))))
        obtain rfl := someO h
        exact Ends.mkG (.inl e) e (Gh.trans (Gh.trans (Gh.trans ((Gh.frz (f := encPair) (g := encPair) (xs := x294) 4 (fun _ => e) e)) (gh_prn [0,1,2] [0,4] hB e)) (gh_ro [0,1,2] [] [4] [0] e)) (gh_pk [0,1,2] [0] hB e e e e)) (by first | rfl | (simp only [List.length_set,takeMap,List.drop_zero,List.map_nil]; done) | (simp only [List.length_set,takeMap,List.drop_zero,List.map_nil]; rfl)) (by first | rfl | (simp only [List.length_set,takeMap,List.drop_zero,List.map_nil]; done) | (simp only [List.length_set,takeMap,List.drop_zero,List.map_nil]; rfl))
       ·refine Run.skip (.so hm (.p2 e e ?_))
        obtain ⟨x397,hx397,h⟩ := bindO h
        refine Ops.z 91144 (Ev.iaW e e e hx397) e e (.z 91160 (Ev.ldE (f := encTl15State) e e (at_some hx397).2 e e e) e e (.z 91176 (.al e e) e e (.y 91192 (.sto e e e e e e) e e (.nil (.seq (.so hm (.p3 e e e (.p2 e e (.nil (.condO e h (fun g399 h => ?_) (fun g399 h => ?_)))))))))))
        ·refine Run.so hm (.p3 e e e (.p e (.nil (.ret ?_))))
         obtain rfl := someO h
         exact Ends.mkG (.inl e) e (Gh.trans (Gh.trans (Gh.trans ((Gh.frz (f := encPair) (g := encPair) (xs := x294) 4 (fun _ => e) e)) (gh_prn [0,1,2] [0,4] hB e)) (gh_ro [0,1,2] [] [4] [0] e)) (gh_pk [0,1,2] [0] hB e e e e)) (by first | rfl | (simp only [List.length_set,takeMap,List.drop_zero,List.map_nil]; done) | (simp only [List.length_set,takeMap,List.drop_zero,List.map_nil]; rfl)) (by first | rfl | (simp only [List.length_set,takeMap,List.drop_zero,List.map_nil]; done) | (simp only [List.length_set,takeMap,List.drop_zero,List.map_nil]; rfl))
        ·refine Run.skip (.seq (.so hm (.p3 e e e (.p2 e e (.nil (.condO e h (fun g401 h => ?_) (fun g401 h => ?_)))))))
         ·refine Run.seq (.draw hm hmix (.p e (.p e (.p e (.p e (.p e (.p e (.nil ⟨by kernel_rfl,?_⟩))))))))
          refine Run.ret ?_
          obtain rfl := someO h
          exact Ends.mkG (.inl e) e (Gh.trans (Gh.trans (Gh.trans ((Gh.frz (f := encPair) (g := encPair) (xs := x294) 4 (fun _ => e) e)) (gh_prn [0,1,2] [0,4] hB e)) (gh_ro [0,1,2] [] [4] [0] e)) (gh_pk [0,1,2] [0] hB e e e e)) (by first | rfl | (simp only [List.length_set,takeMap,List.drop_zero,List.map_nil]; done) | (simp only [List.length_set,takeMap,List.drop_zero,List.map_nil]; rfl)) (by first | rfl | (simp only [List.length_set,takeMap,List.drop_zero,List.map_nil]; done) | (simp only [List.length_set,takeMap,List.drop_zero,List.map_nil]; rfl))
         ·refine Run.skip (.seq (.so hm (.p3 e e e (.p3 e e e (.nil (.condO e h (fun g403 h => ?_) (fun g403 h => ?_)))))))
          ·refine Run.so hm (.p3 e e e (.p e (.nil (.ret ?_))))
           obtain rfl := someO h
           exact Ends.mkG (.inl e) e (Gh.trans (Gh.trans (Gh.trans ((Gh.frz (f := encPair) (g := encPair) (xs := x294) 4 (fun _ => e) e)) (gh_prn [0,1,2] [0,4] hB e)) (gh_ro [0,1,2] [] [4] [0] e)) (gh_pk [0,1,2] [0] hB e e e e)) (by first | rfl | (simp only [List.length_set,takeMap,List.drop_zero,List.map_nil]; done) | (simp only [List.length_set,takeMap,List.drop_zero,List.map_nil]; rfl)) (by first | rfl | (simp only [List.length_set,takeMap,List.drop_zero,List.map_nil]; done) | (simp only [List.length_set,takeMap,List.drop_zero,List.map_nil]; rfl))
          ·refine Run.skip (.so hm (.p2 e e ?_))
           obtain ⟨y407,hy407,h⟩ := bindO h
           refine Ops.z 119816 (Ev.call [4] [] 1 (sem_spec_l15Op_i1 _ _ _ _ hy407) e e (.cons (.sl e) (.cons (.agg (.d4 (.d2 .nil))) .nil)) e (.inl e) e e) e e (.p3 e e e (.p2 e e (.nil (.so hm (.p3 e e e (.y 123928 (.sto e e e e e e) e e (.nil (.so hm (.p2 e e (.y 128008 (.sto e e e e e e) e e (.nil (.so hm (.p2 e e (.y 132104 (.sto e e e e e e) e e (.nil (.seq (.draw hm hmix (.p e (.p e (.p e ?_))))))))))))))))))))
           obtain ⟨y417,hy417,h⟩ := bindO h
           refine OpsD.z 136216 (Ev.call [] [] 0 (sem_spec_l15Key _ _ _ hy417) e e (.d1 .nil) e (.inl e) e e) e e (.p e ?_)
           obtain ⟨y418,hy418,h⟩ := bindO h
           refine OpsD.z 136248 (Ev.call [] [] 0 (sem_spec_l15Text _ _ _ hy418) e e (.cons (.agg (.d4 .nil)) .nil) e (.inl e) e e) e e ?_
           obtain ⟨y419,hy419,h⟩ := bindO h
           refine OpsD.z 136264 (Ev.call [] [119816] 1 (sem_spec_l06Put _ _ _ _ _ hy419) e e (.cons (.borrow e (by decide) (lendW (fun _ => e) _ e)) (.d2 .nil)) e (.inr ⟨e,ownL_root ⟨own_rows (fun _ => e) _,trivial⟩⟩) e e) e e ?_
           refine OpsD.p e (.nil ⟨by kernel_rfl,?_⟩)
           refine Run.seq (.so hm (.p e ?_))
           obtain ⟨y424,hy424,h⟩ := bindO h
           refine Ops.z 140280 (Ev.call [] [136264] 0 (sem_spec_MapOk _ _ _ hy424) e e (.cons (.borrow e (by decide) (lendW (fun _ => e) _ e)) .nil) e (.inr ⟨e,ownL_root trivial⟩) e e) e e ?_
           refine Ops.p e (.nil (.condO e h (fun g425 h => ?_) (fun g425 h => ?_)))
           ·refine Run.so hm (.p3 e e e (.p e (.nil (.ret ?_))))
            obtain rfl := someO h
            exact Ends.mkG (.inl e) e (Gh.trans (Gh.trans (Gh.trans ((Gh.frz (f := encPair) (g := encPair) (xs := ([] : List Pair)) 2 (fun _ => e) e)) (gh_prn [0,1,2] [0,2] hB e)) (gh_ro [0,1,2] [] [2] [0] e)) (gh_pk [0,1,2] [0] hB e e e e)) (by first | rfl | (simp only [List.length_set,takeMap,List.drop_zero,List.map_nil]; done) | (simp only [List.length_set,takeMap,List.drop_zero,List.map_nil]; rfl)) (by first | rfl | (simp only [List.length_set,takeMap,List.drop_zero,List.map_nil]; done) | (simp only [List.length_set,takeMap,List.drop_zero,List.map_nil]; rfl))
           ·refine Run.skip (.so hm (.p3 e e e (.p2 e e (.nil (.ret ?_)))))
            obtain rfl := someO h
            exact Ends.mkG (.inl e) e (Gh.trans (Gh.trans (Gh.trans ((Gh.frz (f := encPair) (g := encPair) (xs := y419) 136264 (fun _ => e) e)) (gh_prn [0,1,2] [0,136264] hB e)) (gh_ro [0,1,2] [] [136264] [0] e)) (gh_pk [0,1,2] [0] hB e e e e)) (by first | rfl | (simp only [List.length_set,takeMap,List.drop_zero,List.map_nil]; done) | (simp only [List.length_set,takeMap,List.drop_zero,List.map_nil]; rfl)) (by first | rfl | (simp only [List.length_set,takeMap,List.drop_zero,List.map_nil]; done) | (simp only [List.length_set,takeMap,List.drop_zero,List.map_nil]; rfl))
def spec_Fold_l2 (N : Nat) (x1 : (List Applied)) (x1374 : Int) : Nat → Int → Int → Option (Int)
 | 0,_,_ => none
 | m + 1,x1592,x1593 =>
 (if (decide (x1593 ≥ 0)) = true then
 joinP (fun (v1610 : Int) =>
 spec_Fold_l2 N x1 x1374 m v1610 (w64 (x1593 - 1))) fun j1610 =>
 (at? x1 x1593).bind fun x1612 =>
 (if (x1612.Index == x1374) = true then
 j1610 x1593
 else
 j1610 x1592)
 else
 some x1592)
def spec_Fold_l1 (N : Nat) (x1 : (List Applied)) (x2 : Int) : Nat → (List Pair) → Int → Option (((List Pair) × Bool) ⊕ ((List Pair)))
 | 0,_,_ => none
 | m + 1,x1373,x1374 =>
 (if (decide (x1374 ≤ x2)) = true then
 joinP (fun (v1560 : (List Pair)) =>
 spec_Fold_l1 N x1 x2 m v1560 (w64 (x1374 + 1))) fun j1560 =>
 joinP (fun (v1587 : Int) =>
 (if (decide (v1587 < 0)) = true then
 some (Sum.inl (([] : List Pair),false))
 else
 (at? x1 v1587).bind fun x1618 =>
 (spec_l17Acted N x1373 x1374 x1618.Entry).bind fun y1619 =>
 j1560 y1619.1)) fun j1587 =>
 (spec_Fold_l2 N x1 x1374 N (-1 : Int) (w64 ((x1.length : Int) - 1))).bind (fun v1603 => j1587 v1603)
 else
 some (Sum.inr x1373))
def spec_Fold (N : Nat) (x1 : (List Applied)) (x2 : Int) : Option ((List Pair) × Bool) :=
 (spec_l01In N x2 0 100000).bind fun y868 =>
 (if (!y868) = true then
 some (([] : List Pair),false)
 else
 (if (decide ((x1.length : Int) > 400)) = true then
 some (([] : List Pair),false)
 else
 joinP (fun (v1245 : (List Pair)) =>
 (cat? ([] : List Pair) v1245).bind fun x1621 =>
 some (x1621,true)) fun j1245 =>
 (spec_Fold_l1 N x1 x2 N ([] : List Pair) 1).bind (Sum.elim (fun v1496 => some v1496) (fun (v1497 : (List Pair)) => j1245 v1497))))
theorem sem_spec_Fold (N : Nat) (x1 : (List Applied)) (x2 : Int) (r : (List Pair) × Bool) (h : spec_Fold N x1 x2 = some r) : Says Tryz.prog 5 [RO 42 (x1.map encApplied),VI x2] 0 [] (.tup [.sl 0 50 0 r.1.length,VB r.2]) [(0,.vec 50 (r.1.map encPair))] := by
 unfold spec_Fold at h
 refine Says.of_norm e Tryz.call5 e fun B hB => ?_
 have hm : B.m ≤ 1000 := by omega
 refine Run.so hm (.p2 e e (.nil (.so hm (.z 5096 (Ev.bsW (ys := ([] : List Pair)) (f := encPair) e .nil e e e e e) e e (.p e (.nil (.seq (.so hm (.p e ?_)))))))))
 obtain ⟨y868,hy868,h⟩ := bindO h
 refine Ops.z 9208 (Ev.call [] [] 0 (sem_spec_l01In _ _ _ _ _ hy868) e e (.d2 (.d1 .nil)) e (.inl e) e e) e e (.p2 e e (.askO (x := .t 14) e h (fun g869 h => ?_) (fun g869 h => ?_)))
 ·refine Ops.gn e g869 (.gn e g869 (.gn e g869 (.z 9304 (.pkT e g869 e) e e (.nil (.condT e e (.so hm (.p3 e e e (.nil (.ret ?_)))))))))
  obtain rfl := someO h
  exact Ends.mkG (.inl e) e (gh_pk [0,1] [5096] hB e e e e) e e
 ·refine Ops.gp e g869 e (.gs (s := 9272) e g869 (Ev.lnF e) e e (.gp e g869 e (.z 9304 (.pkF e g869 e) e e (.nil (.condO e h (fun g870 h => ?_) (fun g870 h => ?_))))))
  ·refine Run.so hm (.p3 e e e (.nil (.ret ?_)))
   obtain rfl := someO h
   exact Ends.mkG (.inl e) e (gh_pk [0,1] [5096] hB e e e e) e e
  ·refine Run.skip (.seqO h (fun v1245 => [(6,RO 50 (v1245.map encPair))]) (fun (v1245 : (List Pair)) => []) (fun h => ?_) (fun v1245 h => ?_))
   ·refine Run.so hm (.p e (.nil (.block ?_)))
    obtain ⟨res1497,h,hk1497⟩ := bindO h
    refine Run.loop (n := N) (fun m1497 fr σ => ∃ (x1373 : (List Pair)),∃ (x1374 : Int),spec_Fold_l1 N x1 x2 m1497 x1373 x1374 = some res1497 ∧ fr = [(0,RO 42 (x1.map encApplied)),(1,VI x2),(6,RO 50 (x1373.map encPair)),(7,VI x1374)] ∧ σ = []) (Gh.trans (Gh.trans (Gh.trans ((Gh.frz (f := encPair) (g := encPair) (xs := ([] : List Pair)) 5096 (fun _ => e) e)) (gh_prn [0,1,6,7] [5096] hB e)) (gh_ro [0,1,6,7] [] [5096] [6] e)) (gh_pk [0,1,6,7] [] hB e e (by first | rfl | (simp only [List.length_set,takeMap,List.drop_zero,List.map_nil]; done) | (simp only [List.length_set,takeMap,List.drop_zero,List.map_nil]; rfl)) (by first | rfl | (simp only [List.length_set,takeMap,List.drop_zero,List.map_nil]; done) | (simp only [List.length_set,takeMap,List.drop_zero,List.map_nil]; rfl)))) ⟨_,_,h,e,e⟩ ?_
    rintro m1497 fr σ ⟨x1373,x1374,h,rfl,rfl⟩
    obtain _ | m1497 := m1497
    ·rw [spec_Fold_l1] at h; cases h
    rw [spec_Fold_l1] at h
    refine Run.seq (.so hm (.p3 e e e (.nil (.condO e h (fun g1500 h => ?_) (fun g1500 h => ?_)))))
    ·refine Run.skip (.seqO h (fun v1560 => [(0,RO 42 (x1.map encApplied)),(1,VI x2),(6,RO 50 (v1560.map encPair)),(7,VI x1374)]) (fun (v1560 : (List Pair)) => []) (fun h => ?_) (fun v1560 h => ?_))
     ·refine Run.block (.so hm (.p e (.nil (.seqO h (fun v1587 => [(0,RO 42 (x1.map encApplied)),(1,VI x2),(6,RO 50 (x1373.map encPair)),(7,VI x1374),(8,VI v1587)]) (fun (v1587 : Int) => []) (fun h => ?_) (fun v1587 h => ?_)))))
      ·refine Run.so hm (.p e (.z 33784 (Ev.lnF e) e e (.p2 e e (.nil (.block ?_)))))
       obtain ⟨res1603,h,hk1603⟩ := bindO h
       refine Run.loop (n := N) (fun m1603 fr σ => ∃ (x1592 : Int),∃ (x1593 : Int),spec_Fold_l2 N x1 x1374 m1603 x1592 x1593 = some res1603 ∧ fr = [(0,RO 42 (x1.map encApplied)),(1,VI x2),(6,RO 50 (x1373.map encPair)),(7,VI x1374),(8,VI x1592),(9,VI x1593)] ∧ σ = []) (gh_pk [0,1,6,7,8,9] [] hB e e e e) ⟨_,_,h,e,e⟩ ?_
       rintro m1603 fr σ ⟨x1592,x1593,h,rfl,rfl⟩
       obtain _ | m1603 := m1603
       ·rw [spec_Fold_l2] at h; cases h
       rw [spec_Fold_l2] at h
       refine Run.seq (.so hm (.p2 e e (.nil (.condO e h (fun g1606 h => ?_) (fun g1606 h => ?_)))))
       ·refine Run.skip (.seqO h (fun v1610 => [(0,RO 42 (x1.map encApplied)),(1,VI x2),(6,RO 50 (x1373.map encPair)),(7,VI x1374),(8,VI v1610),(9,VI x1593)]) (fun (v1610 : Int) => []) (fun h => ?_) (fun v1610 h => ?_))
        ·refine Run.block (.so hm (.p2 e e ?_))
         obtain ⟨x1612,hx1612,h⟩ := bindO h
         refine Ops.z 46088 (Ev.iaF e e hx1612) e e (.p3 e e e (.p e (.nil (.condO e h (fun g1613 h => ?_) (fun g1613 h => ?_)))))
         ·exact Run.ops hm (.p2 e e (.nil (⟨_,_,(gh_pk [0,1,6,7,8,9] [] hB e e e e),_,h,e,e⟩)))
         ·exact Run.skip (⟨_,_,(gh_pk [0,1,6,7,8,9] [] hB e e e e),_,h,e,e⟩)
        ·exact Run.ops hm (.p3 e e e (.nil (⟨m1603,Nat.lt_succ_self m1603,_,_,(gh_pk [0,1,6,7,8,9] [] hB e e e e),_,_,h,e,e⟩)))
       ·refine Run.exit ?_
        obtain rfl := someO h
        have h := hk1603
        exact ⟨_,_,(gh_pk [0,1,6,7,8] [] hB e e e e),_,h,e,e⟩
      ·refine Run.seq (.so hm (.p2 e e (.nil (.condO e h (fun g1615 h => ?_) (fun g1615 h => ?_)))))
       ·refine Run.so hm (.z 58344 (Ev.bsW (ys := ([] : List Pair)) (f := encPair) e .nil e e e e e) e e (.p2 e e (.nil (.ret ?_))))
        obtain rfl := someO h
        have h := hk1497
        replace h := inlO h
        obtain rfl := someO h
        exact Ends.mkG (.inl e) e (gh_pk [0,1] [58344] hB e e e e) e e
       ·refine Run.skip (.ops hm (.p3 e e e (.p e ?_)))
        obtain ⟨x1618,hx1618,h⟩ := bindO h
        refine Ops.z 62504 (Ev.iaF e e hx1618) e e (.p2 e e ?_)
        obtain ⟨y1619,hy1619,h⟩ := bindO h
        exact Ops.z 62552 (Ev.call [] [] 0 (sem_spec_l17Acted _ _ _ _ _ hy1619) e e (.d2 (.cons (.agg (.d2 (.d1 .nil))) .nil)) e (.inl e) e e) e e (.p3 e e e (.p e (.nil (⟨_,_,(gh_pk [0,1,6,7] [] hB e e e e),_,h,e,e⟩))))
     ·exact Run.ops hm (.p3 e e e (.nil (⟨m1497,Nat.lt_succ_self m1497,_,_,(Gh.trans (Gh.trans (gh_prn [0,1,6,7] [] hB e) (gh_ro [0,1,6,7] [] [] [6] e)) (gh_pk [0,1,6,7] [] hB e e (by first | rfl | (simp only [List.length_set,takeMap,List.drop_zero,List.map_nil]; done) | (simp only [List.length_set,takeMap,List.drop_zero,List.map_nil]; rfl)) (by first | rfl | (simp only [List.length_set,takeMap,List.drop_zero,List.map_nil]; done) | (simp only [List.length_set,takeMap,List.drop_zero,List.map_nil]; rfl)))),_,_,h,e,e⟩)))
    ·refine Run.exit ?_
     obtain rfl := someO h
     have h := hk1497
     replace h := inrO h
     exact ⟨_,_,(gh_pk [6] [] hB e e e e),_,h,e,e⟩
   ·refine Run.so hm (.z 66536 (Ev.bsW (ys := ([] : List Pair)) (f := encPair) e .nil e e e e e) e e (.p e ?_))
    obtain ⟨x1621,hx1621,h⟩ := bindO h
    refine Ops.z 66568 (Ev.apW (f := encPair) (ontoW e e e) (addsF e) e bt50 e hx1621) e e (.p2 e e (.nil (.ret ?_)))
    obtain rfl := someO h
    exact Ends.mkG (.inl e) e (gh_pk [0,1] [66568] hB e e e e) e e
def impl_within (N : Nat) (x1 : Int) (x2 : Int) (x3 : Int) : Option (Bool) :=
 (if (decide (x1 ≥ x2)) = true then
 some (decide (x1 ≤ x3))
 else
 some false)
theorem sem_impl_within (N : Nat) (x1 : Int) (x2 : Int) (x3 : Int) (r : Bool) (h : impl_within N x1 x2 x3 = some r) : Says Tryz.prog 17 [VI x1,VI x2,VI x3] 0 [] (VB r) [] := by
 unfold impl_within at h
 refine Says.of_norm e Tryz.call17 e fun B hB => ?_
 have hm : B.m ≤ 1000 := by omega
 refine Run.so hm (.p e (.nil (.so hm (.p3 e e e (.p e (.askO (x := .t 10) e h (fun g103 h => ?_) (fun g103 h => ?_)))))))
 ·refine Ops.gp e g103 e (.gp e g103 e (.gp e g103 e (.z 5208 (.pkT e g103 e) e e (.p e (.nil (.ret ?_))))))
  obtain rfl := someO h
  exact Ends.mkG (.inl e) e (gh_pk [0] [] hB e e e e) e e
 ·refine Ops.gn e g103 (.gn e g103 (.gn e g103 (.z 5208 (.pkF e g103 e) e e (.p e (.nil (.ret ?_))))))
  obtain rfl := someO h
  exact Ends.mkG (.inl e) e (gh_pk [0] [] hB e e e e) e e
def impl_Fold_1 (N : Nat) (x1 : Applied) (x2 : Int) : Option (Bool) :=
 some (x1.Index == x2)
theorem sem_impl_Fold_1 (N : Nat) (x1 : Applied) (x2 : Int) (r : Bool) (h : impl_Fold_1 N x1 x2 = some r) : Says Tryz.prog 19 [.agg [VI x1.Node,VI x1.Term,VI x1.Index,VI x1.Entry.Term,VI x1.Entry.Kind,VS x1.Entry.Data],.ptr 0 0] 1 [(0,.box [VI x2])] (VB r) [(0,.box [VI x2])] := by
 unfold impl_Fold_1 at h
 refine Says.of_norm e Tryz.call19 e fun B hB => ?_
 have hm : B.m ≤ 1000 := by omega
 refine Run.so hm (.z 1000 (.bx e e) e e (.p e (.nil (.so hm (.p3 e e e (.p2 e e (.nil (.ret ?_))))))))
 obtain rfl := someO h
 exact Ends.mkG (.inl e) e (gh_pk [0] [0] hB e e e e) e e
def slices_IndexFunc_Applied_l1 (N : Nat) (x1 : (List Applied)) (x2 : Int) : Nat → Int → Option ((Int) ⊕ (Unit))
 | 0,_ => none
 | m + 1,x167 =>
 (if (decide (x167 < (x1.length : Int))) = true then
 (at? x1 x167).bind fun x183 =>
 (impl_Fold_1 N x183 x2).bind fun y184 =>
 (if y184 = true then
 some (Sum.inl x167)
 else
 slices_IndexFunc_Applied_l1 N x1 x2 m (w64 (x167 + 1)))
 else
 some (Sum.inr ()))
def slices_IndexFunc_Applied_l1_r (N : Nat) (x1 : (List Applied)) (x2 : Int) : (List Applied) → Int → Option ((Int) ⊕ (Unit))
 | [],x167 =>
 some (Sum.inr ())
 | hd :: tl,x167 =>
 (some hd).bind fun x183 =>
 (impl_Fold_1 N x183 x2).bind fun y184 =>
 (if y184 = true then
 some (Sum.inl x167)
 else
 slices_IndexFunc_Applied_l1_r N x1 x2 tl (w64 (x167 + 1)))
theorem slices_IndexFunc_Applied_l1_rng (N : Nat) (x1 : (List Applied)) (x2 : Int) (hx : x1.length ≤ 1099511627776) : ∀ (d k m : Nat),x1.length = k + d → d < m → slices_IndexFunc_Applied_l1 N x1 x2 m (k : Int) = slices_IndexFunc_Applied_l1_r N x1 x2 (x1.drop k) (k : Int) := by
 intro d
 induction d with
 | zero =>
  intro k m hd hm
  obtain ⟨m,rfl⟩ : ∃ q,m = q + 1 := ⟨m - 1,by omega⟩
  rw [slices_IndexFunc_Applied_l1,if_neg (by simp; omega),List.drop_eq_nil_of_le (by omega),slices_IndexFunc_Applied_l1_r]
 | succ d ih =>
  intro k m hd hm
  obtain ⟨m,rfl⟩ : ∃ q,m = q + 1 := ⟨m - 1,by omega⟩
  have hk : k < x1.length := by omega
  rw [slices_IndexFunc_Applied_l1,if_pos (by simp; omega),List.drop_eq_getElem_cons hk,slices_IndexFunc_Applied_l1_r]
  have h1 := at_lt hk
  have h2 := w64_succ (k := k) (by omega)
  have h3 := ih (k + 1) m
  simp only [h1,h2,h3 (by omega) (by omega)]
theorem slices_IndexFunc_Applied_l1_eq {N : Nat} (x1 : (List Applied)) (x2 : Int) (hx : x1.length ≤ 1099511627776) (hN : x1.length < N) : slices_IndexFunc_Applied_l1 N x1 x2 N 0 = slices_IndexFunc_Applied_l1_r N x1 x2 x1 0 := slices_IndexFunc_Applied_l1_rng N x1 x2 hx x1.length 0 N (by omega) hN
def slices_IndexFunc_Applied (N : Nat) (x1 : (List Applied)) (x2 : Int) : Option (Int) :=
 joinP (fun (v164 : Unit) =>
 some (-1 : Int)) fun j164 =>
 (slices_IndexFunc_Applied_l1 N x1 x2 N 0).bind (Sum.elim (fun v176 => some v176) (fun (v177 : Unit) => j164 ()))
theorem sem_slices_IndexFunc_Applied (N : Nat) (x1 : (List Applied)) (x2 : Int) (r : Int) (h : slices_IndexFunc_Applied N x1 x2 = some r) : Says Tryz.prog 18 [RO 42 (x1.map encApplied),.fn 19 [.ptr 0 0]] 1 [(0,.box [VI x2])] (VI r) [(0,.box [VI x2])] := by
 unfold slices_IndexFunc_Applied at h
 refine Says.of_norm e Tryz.call18 e fun B hB => ?_
 have hm : B.m ≤ 1000 := by omega
 refine Run.so hm (.p e (.nil (.seqO h (fun v164 => []) (fun (v164 : Unit) => [(0,.box [VI x2])]) (fun h => ?_) (fun v164 h => ?_))))
 ·refine Run.so hm (.p e (.z 5112 (Ev.lnF e) e e (.p e (.nil (.block ?_)))))
  obtain ⟨res177,h,hk177⟩ := bindO h
  refine Run.loop (n := N) (fun m177 fr σ => ∃ (x167 : Int),slices_IndexFunc_Applied_l1 N x1 x2 m177 x167 = some res177 ∧ fr = [(0,RO 42 (x1.map encApplied)),(1,.fn 19 [.ptr 0 0]),(7,VI (x1.length : Int)),(8,VI x167)] ∧ σ = [(0,.box [VI x2])]) (gh_pk [0,1,7,8] [0] hB e e e e) ⟨_,h,e,e⟩ ?_
  rintro m177 fr σ ⟨x167,h,rfl,rfl⟩
  obtain _ | m177 := m177
  ·rw [slices_IndexFunc_Applied_l1] at h; cases h
  rw [slices_IndexFunc_Applied_l1] at h
  refine Run.so hm (.p e (.nil (.seq (.condO e h (fun g180 h => ?_) (fun g180 h => ?_)))))
  ·refine Run.skip (.seq (.block (.so hm (.p2 e e (.nil (.so hm (.p3 e e e ?_)))))))
   obtain ⟨x183,hx183,h⟩ := bindO h
   refine Ops.z 17432 (Ev.iaF e e hx183) e e (.p e ?_)
   obtain ⟨y184,hy184,h⟩ := bindO h
   refine Ops.z 17464 (Ev.callx [0] [] 0 e (sem_impl_Fold_1 _ _ _ _ hy184) e e (.cons (.agg (.d4 (.d2 .nil))) (.cons (.ptr e) .nil)) e (.inl e) e e) e e (.nil (.condO e h (fun g185 h => ?_) (fun g185 h => ?_)))
   ·refine Run.so hm (.p2 e e (.nil (.ret ?_)))
    obtain rfl := someO h
    have h := hk177
    replace h := inlO h
    obtain rfl := someO h
    exact Ends.mkG (.inl e) e (gh_pk [0] [0] hB e e e e) e e
   ·exact Run.skip (.ops hm (.p2 e e (.nil (⟨m177,Nat.lt_succ_self m177,_,_,(gh_pk [0,1,7,8] [0] hB e e e e),_,h,e,e⟩))))
  ·refine Run.exit ?_
   obtain rfl := someO h
   have h := hk177
   replace h := inrO h
   exact ⟨_,_,(gh_pk [] [0] hB e e e e),(),h,e,e⟩
 ·refine Run.so hm (.p e (.nil (.ret ?_)))
  obtain rfl := someO h
  exact Ends.mkG (.inl e) e (gh_pk [0] [0] hB e e e e) e e
def reader_byte (N : Nat) (x1 : Treader) : Option (Int × Treader) :=
 (if x1.bad = true then
 some (0,(Treader.mk x1.s x1.at' true))
 else
 (if (decide (x1.at' ≥ (x1.s.size : Int))) = true then
 some (0,(Treader.mk x1.s x1.at' true))
 else
 (sat? x1.s (w64 ((w64 (x1.at' + 1)) - 1))).bind fun x115 =>
 some (w64 (x115),(Treader.mk x1.s (w64 (x1.at' + 1)) x1.bad))))
theorem sem_reader_byte (N : Nat) (x1 : Treader) (r : Int × Treader) (h : reader_byte N x1 = some r) : Says Tryz.prog 43 [.ptr 0 0] 1 [(0,.box [VS x1.s,VI x1.at',VB x1.bad])] (VI r.1) [(0,.box [VS r.2.s,VI r.2.at',VB r.2.bad])] := by
 unfold reader_byte at h
 refine Says.of_norm e Tryz.call43 e fun B hB => ?_
 have hm : B.m ≤ 1000 := by omega
 refine Run.so hm (.p e (.nil (.seq (.seq (.draw hm hmix (.p e (.p e (.p e (.p e (.p e (.askO (x := .t 7) e h (fun g112 h => ?_) (fun g112 h => ?_))))))))))))
 ·refine OpsD.gn e g112 (.gn e g112 (.gn e g112 (.gn e g112 (.gn e g112 (.gn e g112 (.gn e g112 (.gn e g112 (.gn e g112 (.gn e g112 (.z 5336 (.pkT e g112 e) e e (.nil ⟨by kernel_rfl,?_⟩)))))))))))
  refine Run.condT e e (.so hm (.p3 e e e (.y 9240 (.sto e e e e e e) e e (.nil (.so hm (.p e (.nil (.ret ?_))))))))
  obtain rfl := someO h
  exact Ends.mkG (.inl e) e (gh_pk [0] [0] hB e e e e) e e
 ·refine OpsD.gp e g112 e (.gp e g112 e (.gp e g112 e (.gp e g112 e (.gp e g112 e (.gp e g112 e (.gp e g112 e (.gp e g112 e (.gp e g112 e (.gp e g112 e (.z 5336 (.pkF e g112 e) e e (.nil ⟨by kernel_rfl,?_⟩)))))))))))
  refine Run.condO e h (fun g113 h => ?_) (fun g113 h => ?_)
  ·refine Run.so hm (.p3 e e e (.y 9240 (.sto e e e e e e) e e (.nil (.so hm (.p e (.nil (.ret ?_)))))))
   obtain rfl := someO h
   exact Ends.mkG (.inl e) e (gh_pk [0] [0] hB e e e e) e e
  ·refine Run.skip (.so hm (.p3 e e e (.p3 e e e (.p e (.y 17496 (.sto e e e e e e) e e (.nil (.seq (.draw hm hmix (.p e (.p e (.p e (.p e (.p e (.p e (.p e (.p e (.p e ?_)))))))))))))))))
   obtain ⟨x115,hx115,h⟩ := bindO h
   refine OpsD.z 21624 (Ev.ixS e e hx115) e e (.p e (.p e (.nil ⟨by kernel_rfl,?_⟩)))
   refine Run.ret ?_
   obtain rfl := someO h
   exact Ends.mkG (.inl e) e (gh_pk [0] [0] hB e e e e) e e
def impl_VarText_l1 (N : Nat) : Nat → Int → (List Int) → Option (Int × (List Int))
 | 0,_,_ => none
 | m + 1,x200,x201 =>
 (if (decide (x200 > 127)) = true then
 (intD .rem .i64 x200 128).bind fun x224 =>
 (cat? x201 ([IntKind.wrap .u8 (w64 (x224 + 128))] : List Int)).bind fun x225 =>
 (intD .quo .i64 x200 128).bind fun x227 =>
 impl_VarText_l1 N m x227 x225
 else
 some (x200,x201))
def impl_VarText (N : Nat) (x1 : Int) : Option (ByteArray × Bool) :=
 (impl_within N x1 0 1000000000).bind fun y169 =>
 (if (!y169) = true then
 some ((⟨#[]⟩ : ByteArray),false)
 else
 joinP (fun (v199 : Int × (List Int)) =>
 (cat? v199.2 ([IntKind.wrap .u8 (v199.1)] : List Int)).bind fun x229 =>
 some (strOf x229,true)) fun j199 =>
 (impl_VarText_l1 N N x1 ([] : (List Int))).bind (fun v214 => j199 (v214.1,v214.2)))
theorem sem_impl_VarText (N : Nat) (x1 : Int) (r : ByteArray × Bool) (h : impl_VarText N x1 = some r) : Says Tryz.prog 72 [VI x1] 0 [] (.tup [VS r.1,VB r.2]) [] := by
 unfold impl_VarText at h
 refine Says.of_norm e Tryz.call72 e fun B hB => ?_
 have hm : B.m ≤ 1000 := by omega
 refine Run.so hm (.p2 e e (.nil (.seq (.so hm (.p e ?_)))))
 obtain ⟨y169,hy169,h⟩ := bindO h
 refine Ops.z 5112 (Ev.call [] [] 0 (sem_impl_within _ _ _ _ _ hy169) e e (.d2 (.d1 .nil)) e (.inl e) e e) e e (.p e (.nil (.condO e h (fun g170 h => ?_) (fun g170 h => ?_))))
 ·refine Run.so hm (.p2 e e (.nil (.ret ?_)))
  obtain rfl := someO h
  exact Ends.mkG (.inl e) e (gh_pk [0,1] [] hB e e e e) e e
 ·refine Run.skip (.so hm (.p e (.nil (.seqO h (fun v199 => [(0,VI v199.1),(4,.sl 0 5 0 v199.2.length)]) (fun (v199 : Int × (List Int)) => [(0,.vec 5 (v199.2.map encU))]) (fun h => ?_) (fun v199 h => ?_)))))
  ·refine Run.block ?_
   obtain ⟨res214,h,hk214⟩ := bindO h
   refine Run.loop (n := N) (fun m214 fr σ => ∃ (x200 : Int),∃ (x201 : (List Int)),impl_VarText_l1 N m214 x200 x201 = some res214 ∧ fr = [(0,VI x200),(4,.sl 0 5 0 x201.length)] ∧ σ = [(0,.vec 5 (x201.map encU))]) (Gh.trans (Gh.trans (gh_prn [0,4] [] hB e) (gh_nil [4] [] hB e e e)) (gh_pk [0,4] [10000000] hB e e e e)) ⟨_,_,h,e,e⟩ ?_
   rintro m214 fr σ ⟨x200,x201,h,rfl,rfl⟩
   obtain _ | m214 := m214
   ·rw [impl_VarText_l1] at h; cases h
   rw [impl_VarText_l1] at h
   refine Run.seq (.so hm (.p2 e e (.nil (.condO e h (fun g217 h => ?_) (fun g217 h => ?_)))))
   ·refine Run.skip (.block (.so hm (.p2 e e ?_)))
    obtain ⟨x224,hx224,h⟩ := bindO h
    refine Ops.z 21512 (.bin e e hx224) e e (.p2 e e (.z 21560 (Ev.bsW (ys := ([IntKind.wrap .u8 (w64 (x224 + 128))] : List Int)) (f := encU) e (.d1 .nil) e e e e e) e e ?_))
    obtain ⟨x225,hx225,h⟩ := bindO h
    refine Ops.z 21576 (Ev.apW (f := encU) (ontoW e e e) (addsW e e e (fun _ => e)) e bt5 e hx225) e e (.p e (.nil (.ops hm (.p e ?_))))
    obtain ⟨x227,hx227,h⟩ := bindO h
    exact Ops.z 25592 (.bin e e hx227) e e (.p e (.nil (⟨m214,Nat.lt_succ_self m214,_,_,(gh_pk [0,4] [21576] hB e e e e),_,_,h,e,e⟩)))
   ·refine Run.exit ?_
    obtain rfl := someO h
    have h := hk214
    exact ⟨_,_,(gh_pk [0,4] [0] hB e e e e),_,h,e,e⟩
  ·refine Run.so hm (.p3 e e e (.z 29720 (Ev.bsW (ys := ([IntKind.wrap .u8 (v199.1)] : List Int)) (f := encU) e (.d1 .nil) e e e e e) e e ?_))
   obtain ⟨x229,hx229,h⟩ := bindO h
   refine Ops.z 29736 (Ev.apW (f := encU) (ontoW e e e) (addsW e e e (fun _ => e)) e bt5 e hx229) e e (.z 29752 (.sbC (addsW (f := encU) e e e (fun _ => e))) e e (.p2 e e (.nil (.ret ?_))))
   obtain rfl := someO h
   exact Ends.mkG (.inl e) e (gh_pk [0,1] [] hB e e e e) e e
def impl_ReadVar_l1 (N : Nat) (x1 : ByteArray) (x2 : Int) : Nat → Int → Int → Option ((Int × Int × Bool) ⊕ (Unit))
 | 0,_,_ => none
 | m + 1,x497,x498 =>
 (if (decide (x498 < 5)) = true then
 (if (decide ((w64 (x2 + x498)) < (x1.size : Int))) = true then
 (sat? x1 (w64 (x2 + x498))).bind fun x598 =>
 (intD .rem .i64 (w64 (x598)) 128).bind fun x605 =>
 (intSh .shl .i64 x605 (w64 (7 * x498))).bind fun x606 =>
 (if (decide ((w64 (x598)) < 128)) = true then
 (impl_VarText N (w64 (x497 + x606))).bind fun y618 =>
 (if (!y618.2) = true then
 some (Sum.inl (0,0,false))
 else
 (if ((y618.1.size : Int) != (w64 (x498 + 1))) = true then
 some (Sum.inl (0,0,false))
 else
 some (Sum.inl (w64 (x497 + x606),w64 ((w64 (x2 + x498)) + 1),true))))
 else
 impl_ReadVar_l1 N x1 x2 m (w64 (x497 + x606)) (w64 (x498 + 1)))
 else
 some (Sum.inr ()))
 else
 some (Sum.inr ()))
def impl_ReadVar (N : Nat) (x1 : ByteArray) (x2 : Int) : Option (Int × Int × Bool) :=
 (impl_within N x2 0 (x1.size : Int)).bind fun y365 =>
 (if (!y365) = true then
 some (0,0,false)
 else
 joinP (fun (v494 : Unit) =>
 some (0,0,false)) fun j494 =>
 (impl_ReadVar_l1 N x1 x2 N 0 0).bind (Sum.elim (fun v559 => some v559) (fun (v560 : Unit) => j494 ())))
theorem sem_impl_ReadVar (N : Nat) (x1 : ByteArray) (x2 : Int) (r : Int × Int × Bool) (h : impl_ReadVar N x1 x2 = some r) : Says Tryz.prog 62 [VS x1,VI x2] 0 [] (.tup [VI r.1,VI r.2.1,VB r.2.2]) [] := by
 unfold impl_ReadVar at h
 refine Says.of_norm e Tryz.call62 e fun B hB => ?_
 have hm : B.m ≤ 1000 := by omega
 refine Run.so hm (.p3 e e e (.nil (.seq (.so hm (.p3 e e e ?_)))))
 obtain ⟨y365,hy365,h⟩ := bindO h
 refine Ops.z 5144 (Ev.call [] [] 0 (sem_impl_within _ _ _ _ _ hy365) e e (.d2 (.d1 .nil)) e (.inl e) e e) e e (.p e (.nil (.condO e h (fun g366 h => ?_) (fun g366 h => ?_))))
 ·refine Run.so hm (.p3 e e e (.nil (.ret ?_)))
  obtain rfl := someO h
  exact Ends.mkG (.inl e) e (gh_pk [0,1,2] [] hB e e e e) e e
 ·refine Run.skip (.so hm (.p e (.nil (.seqO h (fun v494 => []) (fun (v494 : Unit) => []) (fun h => ?_) (fun v494 h => ?_)))))
  ·refine Run.so hm (.p e (.nil (.block ?_)))
   obtain ⟨res560,h,hk560⟩ := bindO h
   refine Run.loop (n := N) (fun m560 fr σ => ∃ (x497 : Int),∃ (x498 : Int),impl_ReadVar_l1 N x1 x2 m560 x497 x498 = some res560 ∧ fr = [(0,VS x1),(1,VI x2),(7,VI x497),(8,VI x498)] ∧ σ = []) (gh_pk [0,1,7,8] [] hB e e e e) ⟨_,_,h,e,e⟩ ?_
   rintro m560 fr σ ⟨x497,x498,h,rfl,rfl⟩
   obtain _ | m560 := m560
   ·rw [impl_ReadVar_l1] at h; cases h
   rw [impl_ReadVar_l1] at h
   refine Run.seq (.so hm (.p3 e e e (.askO (x := .t 19) e h (fun g566 h => ?_) (fun g566 h => ?_))))
   ·refine Ops.gp e g566 e (.gp e g566 e (.gp e g566 e (.gp e g566 e (.gp e g566 e (.gp e g566 e (.z 21624 (.pkT e g566 e) e e (.nil (.condO e h (fun g567 h => ?_) (fun g567 h => ?_)))))))))
    ·refine Run.skip (.seq (.block (.so hm (.p3 e e e (.p e ?_)))))
     obtain ⟨x598,hx598,h⟩ := bindO h
     refine Ops.z 29736 (Ev.ixS e e hx598) e e (.p2 e e (.nil (.so hm (.p2 e e ?_))))
     obtain ⟨x605,hx605,h⟩ := bindO h
     refine Ops.z 33800 (.bin e e hx605) e e (.p2 e e ?_)
     obtain ⟨x606,hx606,h⟩ := bindO h
     refine Ops.z 33848 (.sh e e hx606) e e (.p2 e e (.nil (.so hm (.p2 e e (.nil (.condO e h (fun g607 h => ?_) (fun g607 h => ?_)))))))
     ·refine Run.seq (.so hm (.p e ?_))
      obtain ⟨y618,hy618,h⟩ := bindO h
      refine Ops.z 41976 (Ev.call [] [] 0 (sem_impl_VarText _ _ _ hy618) e e (.d1 .nil) e (.inl e) e e) e e (.p3 e e e (.p2 e e (.nil (.so hm (.p3 e e e (.askO (x := .t 51) e h (fun g620 h => ?_) (fun g620 h => ?_)))))))
      ·refine Ops.gn e g620 (.gn e g620 (.gn e g620 (.gn e g620 (.gn e g620 (.z 46184 (.pkT e g620 e) e e (.nil (.condT e e (.so hm (.p3 e e e (.nil (.ret ?_)))))))))))
       obtain rfl := someO h
       have h := hk560
       replace h := inlO h
       obtain rfl := someO h
       exact Ends.mkG (.inl e) e (gh_pk [0,1,2] [] hB e e e e) e e
      ·refine Ops.gp e g620 e (.gp e g620 e (.gp e g620 e (.gp e g620 e (.gp e g620 e (.z 46184 (.pkF e g620 e) e e (.nil (.condO e h (fun g621 h => ?_) (fun g621 h => ?_))))))))
       ·refine Run.so hm (.p3 e e e (.nil (.ret ?_)))
        obtain rfl := someO h
        have h := hk560
        replace h := inlO h
        obtain rfl := someO h
        exact Ends.mkG (.inl e) e (gh_pk [0,1,2] [] hB e e e e) e e
       ·refine Run.skip (.so hm (.p3 e e e (.p3 e e e (.p2 e e (.nil (.ret ?_))))))
        obtain rfl := someO h
        have h := hk560
        replace h := inlO h
        obtain rfl := someO h
        exact Ends.mkG (.inl e) e (gh_pk [0,1,2] [] hB e e e e) e e
     ·exact Run.skip (.ops hm (.p3 e e e (.nil (⟨m560,Nat.lt_succ_self m560,_,_,(gh_pk [0,1,7,8] [] hB e e e e),_,_,h,e,e⟩))))
    ·refine Run.exit ?_
     obtain rfl := someO h
     have h := hk560
     replace h := inrO h
     exact ⟨_,_,(gh_pk [] [] hB e e e e),(),h,e,e⟩
   ·refine Ops.gn e g566 (.gn e g566 (.gn e g566 (.gn e g566 (.gn e g566 (.gn e g566 (.z 21624 (.pkF e g566 e) e e (.nil (.condF e e (.exit ?_)))))))))
    obtain rfl := someO h
    have h := hk560
    replace h := inrO h
    exact ⟨_,_,(gh_pk [] [] hB e e e e),(),h,e,e⟩
  ·refine Run.so hm (.p3 e e e (.nil (.ret ?_)))
   obtain rfl := someO h
   exact Ends.mkG (.inl e) e (gh_pk [0,1,2] [] hB e e e e) e e
def reader_num (N : Nat) (x1 : Treader) : Option (Int × Treader) :=
 (impl_ReadVar N x1.s x1.at').bind fun y113 =>
 (if x1.bad = true then
 some (0,(Treader.mk x1.s x1.at' true))
 else
 (if (!y113.2.2) = true then
 some (0,(Treader.mk x1.s x1.at' true))
 else
 some (y113.1,(Treader.mk x1.s y113.2.1 x1.bad))))
theorem sem_reader_num (N : Nat) (x1 : Treader) (r : Int × Treader) (h : reader_num N x1 = some r) : Says Tryz.prog 44 [.ptr 0 0] 1 [(0,.box [VS x1.s,VI x1.at',VB x1.bad])] (VI r.1) [(0,.box [VS r.2.s,VI r.2.at',VB r.2.bad])] := by
 unfold reader_num at h
 refine Says.of_norm e Tryz.call44 e fun B hB => ?_
 have hm : B.m ≤ 1000 := by omega
 refine Run.so hm (.p e (.nil (.seq (.draw hm hmix (.p e (.p e (.p e (.p e (.p e (.p e (.p e (.p e ?_))))))))))))
 obtain ⟨y113,hy113,h⟩ := bindO h
 refine OpsD.z 5224 (Ev.call [] [] 0 (sem_impl_ReadVar _ _ _ _ hy113) e e (.d2 .nil) e (.inl e) e e) e e (.p e (.p e (.p e (.p e (.p e (.p e (.p e (.nil ⟨by kernel_rfl,?_⟩))))))))
 refine Run.seq (.so hm (.p3 e e e (.p2 e e (.askO (x := .t 23) e h (fun g118 h => ?_) (fun g118 h => ?_)))))
 ·refine Ops.gn e g118 (.gn e g118 (.z 9304 (.pkT e g118 e) e e (.nil (.condT e e (.so hm (.p3 e e e (.y 13336 (.sto e e e e e e) e e (.nil (.so hm (.p e (.nil (.ret ?_))))))))))))
  obtain rfl := someO h
  exact Ends.mkG (.inl e) e (gh_pk [0] [0] hB e e e e) e e
 ·refine Ops.gp e g118 e (.gp e g118 e (.z 9304 (.pkF e g118 e) e e (.nil (.condO e h (fun g119 h => ?_) (fun g119 h => ?_)))))
  ·refine Run.so hm (.p3 e e e (.y 13336 (.sto e e e e e e) e e (.nil (.so hm (.p e (.nil (.ret ?_)))))))
   obtain rfl := someO h
   exact Ends.mkG (.inl e) e (gh_pk [0] [0] hB e e e e) e e
  ·refine Run.skip (.so hm (.p3 e e e (.p e (.y 21544 (.sto e e e e e e) e e (.nil (.so hm (.p2 e e (.nil (.ret ?_)))))))))
   obtain rfl := someO h
   exact Ends.mkG (.inl e) e (gh_pk [0] [0] hB e e e e) e e
def impl_ReadShort (N : Nat) (x1 : ByteArray) (x2 : Int) : Option (ByteArray × Int × Bool) :=
 (impl_ReadVar N x1 x2).bind fun y119 =>
 (if (!y119.2.2) = true then
 some ((⟨#[]⟩ : ByteArray),0,false)
 else
 (if (decide (y119.1 > 20000)) = true then
 some ((⟨#[]⟩ : ByteArray),0,false)
 else
 (if (decide (y119.1 > (w64 ((x1.size : Int) - y119.2.1)))) = true then
 some ((⟨#[]⟩ : ByteArray),0,false)
 else
 (scut? x1 y119.2.1 (w64 (y119.2.1 + y119.1))).bind fun x131 =>
 some (x131,w64 (y119.2.1 + y119.1),true))))
theorem sem_impl_ReadShort (N : Nat) (x1 : ByteArray) (x2 : Int) (r : ByteArray × Int × Bool) (h : impl_ReadShort N x1 x2 = some r) : Says Tryz.prog 63 [VS x1,VI x2] 0 [] (.tup [VS r.1,VI r.2.1,VB r.2.2]) [] := by
 unfold impl_ReadShort at h
 refine Says.of_norm e Tryz.call63 e fun B hB => ?_
 have hm : B.m ≤ 1000 := by omega
 refine Run.so hm (.p3 e e e (.nil (.so hm (.p2 e e ?_))))
 obtain ⟨y119,hy119,h⟩ := bindO h
 refine Ops.z 5128 (Ev.call [] [] 0 (sem_impl_ReadVar _ _ _ _ hy119) e e (.d2 .nil) e (.inl e) e e) e e (.p3 e e e (.p3 e e e (.p e (.nil (.seq (.so hm (.p3 e e e (.askO (x := .t 19) e h (fun g127 h => ?_) (fun g127 h => ?_)))))))))
 ·refine Ops.gn e g127 (.gn e g127 (.z 9272 (.pkT e g127 e) e e (.p e (.gn e e (.gn e e (.gn e e (.gn e e (.gn e e (.gn e e (.z 9400 (.pkT e e e) e e (.nil (.condT e e (.so hm (.p3 e e e (.nil (.ret ?_))))))))))))))))
  obtain rfl := someO h
  exact Ends.mkG (.inl e) e (gh_pk [0,1,2] [] hB e e e e) e e
 ·refine Ops.gp e g127 e (.gp e g127 e (.z 9272 (.pkF e g127 e) e e (.p e (.askO (x := .t 23) e h (fun g128 h => ?_) (fun g128 h => ?_)))))
  ·refine Ops.gn e g128 (.gn e g128 (.gn e g128 (.gn e g128 (.gn e g128 (.gn e g128 (.z 9400 (.pkT e g128 e) e e (.nil (.condT e e (.so hm (.p3 e e e (.nil (.ret ?_))))))))))))
   obtain rfl := someO h
   exact Ends.mkG (.inl e) e (gh_pk [0,1,2] [] hB e e e e) e e
  ·refine Ops.gp e g128 e (.gp e g128 e (.gp e g128 e (.gp e g128 e (.gp e g128 e (.gp e g128 e (.z 9400 (.pkF e g128 e) e e (.nil (.condO e h (fun g129 h => ?_) (fun g129 h => ?_)))))))))
   ·refine Run.so hm (.p3 e e e (.nil (.ret ?_)))
    obtain rfl := someO h
    exact Ends.mkG (.inl e) e (gh_pk [0,1,2] [] hB e e e e) e e
   ·refine Run.skip (.so hm (.p3 e e e (.p2 e e ?_)))
    obtain ⟨x131,hx131,h⟩ := bindO h
    refine Ops.z 17464 (Ev.ssB e e e hx131) e e (.p3 e e e (.p3 e e e (.nil (.ret ?_))))
    obtain rfl := someO h
    exact Ends.mkG (.inl e) e (gh_pk [0,1,2] [] hB e e e e) e e
def reader_text (N : Nat) (x1 : Treader) : Option (ByteArray × Treader) :=
 (impl_ReadShort N x1.s x1.at').bind fun y113 =>
 (if x1.bad = true then
 some ((⟨#[]⟩ : ByteArray),(Treader.mk x1.s x1.at' true))
 else
 (if (!y113.2.2) = true then
 some ((⟨#[]⟩ : ByteArray),(Treader.mk x1.s x1.at' true))
 else
 some (y113.1,(Treader.mk x1.s y113.2.1 x1.bad))))
theorem sem_reader_text (N : Nat) (x1 : Treader) (r : ByteArray × Treader) (h : reader_text N x1 = some r) : Says Tryz.prog 45 [.ptr 0 0] 1 [(0,.box [VS x1.s,VI x1.at',VB x1.bad])] (VS r.1) [(0,.box [VS r.2.s,VI r.2.at',VB r.2.bad])] := by
 unfold reader_text at h
 refine Says.of_norm e Tryz.call45 e fun B hB => ?_
 have hm : B.m ≤ 1000 := by omega
 refine Run.so hm (.p e (.nil (.seq (.draw hm hmix (.p e (.p e (.p e (.p e (.p e (.p e (.p e (.p e ?_))))))))))))
 obtain ⟨y113,hy113,h⟩ := bindO h
 refine OpsD.z 5224 (Ev.call [] [] 0 (sem_impl_ReadShort _ _ _ _ hy113) e e (.d2 .nil) e (.inl e) e e) e e (.p e (.p e (.p e (.p e (.p e (.p e (.p e (.nil ⟨by kernel_rfl,?_⟩))))))))
 refine Run.seq (.so hm (.p3 e e e (.p2 e e (.askO (x := .t 23) e h (fun g118 h => ?_) (fun g118 h => ?_)))))
 ·refine Ops.gn e g118 (.gn e g118 (.z 9304 (.pkT e g118 e) e e (.nil (.condT e e (.so hm (.p3 e e e (.y 13336 (.sto e e e e e e) e e (.nil (.so hm (.p e (.nil (.ret ?_))))))))))))
  obtain rfl := someO h
  exact Ends.mkG (.inl e) e (gh_pk [0] [0] hB e e e e) e e
 ·refine Ops.gp e g118 e (.gp e g118 e (.z 9304 (.pkF e g118 e) e e (.nil (.condO e h (fun g119 h => ?_) (fun g119 h => ?_)))))
  ·refine Run.so hm (.p3 e e e (.y 13336 (.sto e e e e e e) e e (.nil (.so hm (.p e (.nil (.ret ?_)))))))
   obtain rfl := someO h
   exact Ends.mkG (.inl e) e (gh_pk [0] [0] hB e e e e) e e
  ·refine Run.skip (.so hm (.p3 e e e (.p e (.y 21544 (.sto e e e e e e) e e (.nil (.so hm (.p2 e e (.nil (.ret ?_)))))))))
   obtain rfl := someO h
   exact Ends.mkG (.inl e) e (gh_pk [0] [0] hB e e e e) e e
def reader_done (N : Nat) (x1 : Treader) : Option (Bool) :=
 (if (!x1.bad) = true then
 some (x1.at' == (x1.s.size : Int))
 else
 some false)
theorem sem_reader_done (N : Nat) (x1 : Treader) (r : Bool) (h : reader_done N x1 = some r) : Says Tryz.prog 46 [.ptr 0 0] 1 [(0,.box [VS x1.s,VI x1.at',VB x1.bad])] (VB r) [(0,.box [VS x1.s,VI x1.at',VB x1.bad])] := by
 unfold reader_done at h
 refine Says.of_norm e Tryz.call46 e fun B hB => ?_
 have hm : B.m ≤ 1000 := by omega
 refine Run.so hm (.p e (.nil (.seq (.draw hm hmix (.p e (.p e (.p e (.p e (.p e (.p e (.askO (x := .t 8) e h (fun g103 h => ?_) (fun g103 h => ?_))))))))))))
 ·refine OpsD.gp e g103 e (.gp e g103 e (.gp e g103 e (.gp e g103 e (.gp e g103 e (.gp e g103 e (.gp e g103 e (.gp e g103 e (.gp e g103 e (.gp e g103 e (.z 5352 (.pkT e g103 e) e e (.p e (.nil ⟨by kernel_rfl,?_⟩))))))))))))
  refine Run.ret ?_
  obtain rfl := someO h
  exact Ends.mkG (.inl e) e (gh_pk [0] [0] hB e e e e) e e
 ·refine OpsD.gn e g103 (.gn e g103 (.gn e g103 (.gn e g103 (.gn e g103 (.gn e g103 (.gn e g103 (.gn e g103 (.gn e g103 (.gn e g103 (.z 5352 (.pkF e g103 e) e e (.p e (.nil ⟨by kernel_rfl,?_⟩))))))))))))
  refine Run.ret ?_
  obtain rfl := someO h
  exact Ends.mkG (.inl e) e (gh_pk [0] [0] hB e e e e) e e
def impl_CommandOk (N : Nat) (x1 : Command) : Option (Bool) :=
 joinP (fun (v130 : Bool × Bool) =>
 (impl_within N x1.Session 0 100000).bind fun y143 =>
 (if y143 = true then
 (impl_within N x1.Seq 0 100000).bind fun y145 =>
 (if y145 = true then
 (impl_within N (x1.Key.size : Int) 1 9).bind fun y147 =>
 (if y147 = true then
 (if v130.1 = true then
 some v130.2
 else
 some false)
 else
 some false)
 else
 some false)
 else
 some false)) fun j130 =>
 (if (x1.Op == 1) = true then
 some (((x1.Op == 1) && ((x1.Session == 0) && ((x1.Seq == 0) && (decide (x1.Key = (⟨#[]⟩ : ByteArray)) && (decide (x1.Value = (⟨#[]⟩ : ByteArray)) && (decide (x1.Old = (⟨#[]⟩ : ByteArray)) && true)))))) ^^ false)
 else
 (if (x1.Op == 2) = true then
 j130 (decide (x1.Value = (⟨#[]⟩ : ByteArray)),decide (x1.Old = (⟨#[]⟩ : ByteArray)))
 else
 (if (x1.Op == 4) = true then
 j130 (decide (x1.Value = (⟨#[]⟩ : ByteArray)),decide (x1.Old = (⟨#[]⟩ : ByteArray)))
 else
 (if (x1.Op == 3) = true then
 j130 (decide ((x1.Value.size : Int) ≤ 12),decide (x1.Old = (⟨#[]⟩ : ByteArray)))
 else
 (if (x1.Op == 5) = true then
 j130 (decide ((x1.Value.size : Int) ≤ 12),decide ((x1.Old.size : Int) ≤ 12))
 else
 some false)))))
theorem sem_impl_CommandOk (N : Nat) (x1 : Command) (r : Bool) (h : impl_CommandOk N x1 = some r) : Says Tryz.prog 47 [.agg [VI x1.Op,VI x1.Session,VI x1.Seq,VS x1.Key,VS x1.Value,VS x1.Old]] 0 [] (VB r) [] := by
 unfold impl_CommandOk at h
 refine Says.of_run s47 Tryz.call47 e fun B hB => ?_
 have hm : B.m ≤ 1000 := by omega
 refine Run.so hm (.z 1000 (.bx e e) e e (.p e (.nil (.seq (.draw hm hmix (.p e (.p e (.p e (.p e (.p e (.p e (.p e (.p e (.p e (.p e (.nil ⟨by kernel_rfl,?_⟩))))))))))))))))
 refine Run.seqO h (fun v130 => [(1,.ptr 0 0),(3,VB v130.1),(4,VB v130.2)]) (fun (v130 : Bool × Bool) => [(0,.box [VI x1.Op,VI x1.Session,VI x1.Seq,VS x1.Key,VS x1.Value,VS x1.Old])]) (fun h => ?_) (fun v130 h => ?_)
 ·refine Run.so hm (.p2 e e (.nil (.block (.so hm (.p2 e e (.nil (.condO e h (fun g131 h => ?_) (fun g131 h => ?_))))))))
  ·refine Run.so hm (.p e (.z 21496 (.bd e e) e e (.p2 e e (.nil (.ret ?_)))))
   obtain rfl := someO h
   exact Ends.mkG (.inl e) e (gh_pk [0] [] hB e e e e) e e
  ·refine Run.seq (.so hm (.p2 e e (.nil (.condO e h (fun g132 h => ?_) (fun g132 h => ?_)))))
   ·refine Run.skip (.condT e g132 (.draw hm hmix (.p e (.p e (.p e (.p e (.p e (.p e (.p e (.p e (.nil ⟨by kernel_rfl,?_⟩)))))))))))
    exact ⟨_,_,(gh_pk [1,3,4] [1000] hB e e e e),_,h,e,e⟩
   ·refine Run.ops hm (.p2 e e (.nil (.condO e h (fun g133 h => ?_) (fun g133 h => ?_))))
    ·refine Run.draw hm hmix (.p e (.p e (.p e (.p e (.p e (.p e (.p e (.p e (.nil ⟨by kernel_rfl,?_⟩)))))))))
     exact ⟨_,_,(gh_pk [1,3,4] [1000] hB e e e e),_,h,e,e⟩
    ·refine Run.so hm (.p2 e e (.nil (.condO e h (fun g134 h => ?_) (fun g134 h => ?_))))
     ·exact Run.ops hm (.p3 e e e (.p e (.nil (⟨_,_,(gh_pk [1,3,4] [1000] hB e e e e),_,h,e,e⟩))))
     ·refine Run.so hm (.p2 e e (.nil (.condO e h (fun g135 h => ?_) (fun g135 h => ?_))))
      ·exact Run.skip (⟨_,_,(gh_pk [1,3,4] [1000] hB e e e e),_,h,e,e⟩)
      ·refine Run.so hm (.p e (.nil (.ret ?_)))
       obtain rfl := someO h
       exact Ends.mkG (.inl e) e (gh_pk [0] [] hB e e e e) e e
 ·refine Run.so hm (.p2 e e ?_)
  obtain ⟨y143,hy143,h⟩ := bindO h
  refine Ops.z 50184 (Ev.call [] [] 0 (sem_impl_within _ _ _ _ _ hy143) e e (.d2 (.d1 .nil)) e (.inl e) e e) e e (.p e (.askO (x := .t 39) e h (fun g144 h => ?_) (fun g144 h => ?_)))
  ·refine Ops.gp e g144 e (.gp e g144 e ?_)
   obtain ⟨y145,hy145,h⟩ := bindO h
   refine Ops.gs (s := 50248) e g144 (Ev.call [] [] 0 (sem_impl_within _ _ _ _ _ hy145) e e (.d2 (.d1 .nil)) e (.inl e) e e) e e (.z 50264 (.pkT e g144 e) e e (.p e (.askO (x := .t 44) e h (fun g146 h => ?_) (fun g146 h => ?_))))
   ·refine Ops.gp e g146 e (.gp e g146 e (.gp e g146 e ?_))
    obtain ⟨y147,hy147,h⟩ := bindO h
    refine Ops.gs (s := 50344) e g146 (Ev.call [] [] 0 (sem_impl_within _ _ _ _ _ hy147) e e (.d2 (.d1 .nil)) e (.inl e) e e) e e (.z 50360 (.pkT e g146 e) e e (.p e (.askO (x := .t 50) e h (fun g148 h => ?_) (fun g148 h => ?_))))
    ·refine Ops.gp e g148 e (.z 50408 (.pkT e g148 e) e e (.p e (.askO (x := .t 53) e h (fun g149 h => ?_) (fun g149 h => ?_))))
     ·refine Ops.gp e g149 e (.z 50456 (.pkT e g149 e) e e (.p e (.nil (.ret ?_))))
      obtain rfl := someO h
      exact Ends.mkG (.inl e) e (gh_pk [0] [] hB e e e e) e e
     ·refine Ops.gn e g149 (.z 50456 (.pkF e g149 e) e e (.p e (.nil (.ret ?_))))
      obtain rfl := someO h
      exact Ends.mkG (.inl e) e (gh_pk [0] [] hB e e e e) e e
    ·refine Ops.gn e g148 (.z 50408 (.pkF e g148 e) e e (.p e (.gn e e (.z 50456 (.pkF e e e) e e (.p e (.nil (.ret ?_)))))))
     obtain rfl := someO h
     exact Ends.mkG (.inl e) e (gh_pk [0] [] hB e e e e) e e
   ·refine Ops.gn e g146 (.gn e g146 (.gn e g146 (.gn e g146 (.z 50360 (.pkF e g146 e) e e (.p e (.gn e e (.z 50408 (.pkF e e e) e e (.p e (.gn e e (.z 50456 (.pkF e e e) e e (.p e (.nil (.ret ?_)))))))))))))
    obtain rfl := someO h
    exact Ends.mkG (.inl e) e (gh_pk [0] [] hB e e e e) e e
  ·refine Ops.gn e g144 (.gn e g144 (.gn e g144 (.z 50264 (.pkF e g144 e) e e (.p e (.gn e e (.gn e e (.gn e e (.gn e e (.z 50360 (.pkF e e e) e e (.p e (.gn e e (.z 50408 (.pkF e e e) e e (.p e (.gn e e (.z 50456 (.pkF e e e) e e (.p e (.nil (.ret ?_))))))))))))))))))
   obtain rfl := someO h
   exact Ends.mkG (.inl e) e (gh_pk [0] [] hB e e e e) e e
def impl_ReadCommand (N : Nat) (x1 : ByteArray) : Option (Command × Bool) :=
 (reader_byte N (Treader.mk x1 0 false)).bind fun y141 =>
 (reader_num N y141.2).bind fun y145 =>
 (reader_num N y145.2).bind fun y149 =>
 (reader_text N y149.2).bind fun y153 =>
 (reader_text N y153.2).bind fun y157 =>
 (reader_text N y157.2).bind fun y161 =>
 (reader_done N y161.2).bind fun y172 =>
 (if (!y172) = true then
 some ((Command.mk 0 0 0 (⟨#[]⟩ : ByteArray) (⟨#[]⟩ : ByteArray) (⟨#[]⟩ : ByteArray)),false)
 else
 (impl_CommandOk N (Command.mk y141.1 y145.1 y149.1 y153.1 y157.1 y161.1)).bind fun y174 =>
 (if (!y174) = true then
 some ((Command.mk 0 0 0 (⟨#[]⟩ : ByteArray) (⟨#[]⟩ : ByteArray) (⟨#[]⟩ : ByteArray)),false)
 else
 some ((Command.mk y141.1 y145.1 y149.1 y153.1 y157.1 y161.1),true)))
theorem sem_impl_ReadCommand (N : Nat) (x1 : ByteArray) (r : Command × Bool) (h : impl_ReadCommand N x1 = some r) : Says Tryz.prog 28 [VS x1] 0 [] (.tup [.agg [VI r.1.Op,VI r.1.Session,VI r.1.Seq,VS r.1.Key,VS r.1.Value,VS r.1.Old],VB r.2]) [] := by
 unfold impl_ReadCommand at h
 refine Says.of_norm e Tryz.call28 e fun B hB => ?_
 have hm : B.m ≤ 1000 := by omega
 refine Run.so hm (.z 1000 (.al e e) e e (.p e (.nil (.so hm (.p e (.z 5112 (.bd e e) e e (.z 5128 (.bx e e) e e (.p e (.nil (.so hm (.p e ?_)))))))))))
 obtain ⟨y141,hy141,h⟩ := bindO h
 refine Ops.z 9208 (Ev.call [5128] [] 0 (sem_reader_byte _ _ _ hy141) e e (.cons (.ptr e) .nil) e (.inl e) e e) e e (.z 9224 (.bd e e) e e (.z 9240 (.al e e) e e (.y 9256 (.sto e e e e e e) e e (.nil (.so hm (.p e ?_))))))
 obtain ⟨y145,hy145,h⟩ := bindO h
 refine Ops.z 13304 (Ev.call [5128] [] 0 (sem_reader_num _ _ _ hy145) e e (.cons (.ptr e) .nil) e (.inl e) e e) e e (.p e (.y 13336 (.sto e e e e e e) e e (.nil (.so hm (.p e ?_)))))
 obtain ⟨y149,hy149,h⟩ := bindO h
 refine Ops.z 17400 (Ev.call [5128] [] 0 (sem_reader_num _ _ _ hy149) e e (.cons (.ptr e) .nil) e (.inl e) e e) e e (.p e (.y 17432 (.sto e e e e e e) e e (.nil (.so hm (.p e ?_)))))
 obtain ⟨y153,hy153,h⟩ := bindO h
 refine Ops.z 21496 (Ev.call [5128] [] 0 (sem_reader_text _ _ _ hy153) e e (.cons (.ptr e) .nil) e (.inl e) e e) e e (.p e (.y 21528 (.sto e e e e e e) e e (.nil (.so hm (.p e ?_)))))
 obtain ⟨y157,hy157,h⟩ := bindO h
 refine Ops.z 25592 (Ev.call [5128] [] 0 (sem_reader_text _ _ _ hy157) e e (.cons (.ptr e) .nil) e (.inl e) e e) e e (.p e (.y 25624 (.sto e e e e e e) e e (.nil (.so hm (.p e ?_)))))
 obtain ⟨y161,hy161,h⟩ := bindO h
 refine Ops.z 29688 (Ev.call [5128] [] 0 (sem_reader_text _ _ _ hy161) e e (.cons (.ptr e) .nil) e (.inl e) e e) e e (.p e (.y 29720 (.sto e e e e e e) e e (.nil (.seq (.so hm (.p e ?_))))))
 obtain ⟨y172,hy172,h⟩ := bindO h
 refine Ops.z 33784 (Ev.call [5128] [] 0 (sem_reader_done _ _ _ hy172) e e (.cons (.ptr e) .nil) e (.inl e) e e) e e (.p2 e e (.askO (x := .t 30) e h (fun g173 h => ?_) (fun g173 h => ?_)))
 ·refine Ops.gn e g173 (.gn e g173 (.gn e g173 (.z 33880 (.pkT e g173 e) e e (.nil (.condT e e (.so hm (.z 37864 (.bd e e) e e (.y 37880 (.sto e e e e e e) e e (.p e (.nil (.ret ?_)))))))))))
  obtain rfl := someO h
  exact Ends.mkG (.inl e) e (gh_pk [0,1] [] hB e e e e) e e
 ·refine Ops.gp e g173 e ?_
  obtain ⟨y174,hy174,h⟩ := bindO h
  refine Ops.gs (s := 33848) e g173 (Ev.call [] [] 0 (sem_impl_CommandOk _ _ _ hy174) e e (.cons (.agg (.d4 (.d2 .nil))) .nil) e (.inl e) e e) e e (.gp e g173 e (.z 33880 (.pkF e g173 e) e e (.nil (.condO e h (fun g175 h => ?_) (fun g175 h => ?_)))))
  ·refine Run.so hm (.z 37864 (.bd e e) e e (.y 37880 (.sto e e e e e e) e e (.p e (.nil (.ret ?_)))))
   obtain rfl := someO h
   exact Ends.mkG (.inl e) e (gh_pk [0,1] [] hB e e e e) e e
  ·refine Run.skip (.so hm (.p e (.y 41976 (.sto e e e e e e) e e (.p e (.nil (.ret ?_))))))
   obtain rfl := someO h
   exact Ends.mkG (.inl e) e (gh_pk [0,1] [] hB e e e e) e e
def internal_stringslite_HasPrefix (N : Nat) (x1 : ByteArray) (x2 : ByteArray) : Option (Bool) :=
 (if (decide ((x1.size : Int) ≥ (x2.size : Int))) = true then
 (stake? x1 (x2.size : Int)).bind fun x107 =>
 some (decide (x107 = x2))
 else
 some false)
theorem sem_internal_stringslite_HasPrefix (N : Nat) (x1 : ByteArray) (x2 : ByteArray) (r : Bool) (h : internal_stringslite_HasPrefix N x1 x2 = some r) : Says Tryz.prog 95 [VS x1,VS x2] 0 [] (VB r) [] := by
 unfold internal_stringslite_HasPrefix at h
 refine Says.of_norm e Tryz.call95 e fun B hB => ?_
 have hm : B.m ≤ 1000 := by omega
 refine Run.so hm (.p e (.nil (.so hm (.p3 e e e (.p3 e e e (.askO (x := .t 10) e h (fun g106 h => ?_) (fun g106 h => ?_)))))))
 ·refine Ops.gp e g106 e (.gp e g106 e (.gp e g106 e ?_))
  obtain ⟨x107,hx107,h⟩ := bindO h
  refine Ops.gs (s := 5240) e g106 (Ev.ssH e e hx107) e e (.gp e g106 e (.gp e g106 e (.z 5288 (.pkT e g106 e) e e (.p e (.nil (.ret ?_))))))
  obtain rfl := someO h
  exact Ends.mkG (.inl e) e (gh_pk [0] [] hB e e e e) e e
 ·refine Ops.gn e g106 (.gn e g106 (.gn e g106 (.gn e g106 (.gn e g106 (.gn e g106 (.z 5288 (.pkF e g106 e) e e (.p e (.nil (.ret ?_)))))))))
  obtain rfl := someO h
  exact Ends.mkG (.inl e) e (gh_pk [0] [] hB e e e e) e e
def internal_stringslite_CutPrefix (N : Nat) (x1 : ByteArray) (x2 : ByteArray) : Option (ByteArray × Bool) :=
 (internal_stringslite_HasPrefix N x1 x2).bind fun y112 =>
 (if (!y112) = true then
 some (x1,false)
 else
 (sdrop? x1 (x2.size : Int)).bind fun x115 =>
 some (x115,true))
theorem sem_internal_stringslite_CutPrefix (N : Nat) (x1 : ByteArray) (x2 : ByteArray) (r : ByteArray × Bool) (h : internal_stringslite_CutPrefix N x1 x2 = some r) : Says Tryz.prog 85 [VS x1,VS x2] 0 [] (.tup [VS r.1,VB r.2]) [] := by
 unfold internal_stringslite_CutPrefix at h
 refine Says.of_norm e Tryz.call85 e fun B hB => ?_
 have hm : B.m ≤ 1000 := by omega
 refine Run.so hm (.p2 e e (.nil (.seq (.so hm (.p2 e e ?_)))))
 obtain ⟨y112,hy112,h⟩ := bindO h
 refine Ops.z 5128 (Ev.call [] [] 0 (sem_internal_stringslite_HasPrefix _ _ _ _ hy112) e e (.d2 .nil) e (.inl e) e e) e e (.p e (.nil (.condO e h (fun g113 h => ?_) (fun g113 h => ?_))))
 ·refine Run.so hm (.p3 e e e (.nil (.ret ?_)))
  obtain rfl := someO h
  exact Ends.mkG (.inl e) e (gh_pk [0,1] [] hB e e e e) e e
 ·refine Run.skip (.so hm (.p3 e e e ?_))
  obtain ⟨x115,hx115,h⟩ := bindO h
  refine Ops.z 13336 (Ev.ssL e e hx115) e e (.p2 e e (.nil (.ret ?_)))
  obtain rfl := someO h
  exact Ends.mkG (.inl e) e (gh_pk [0,1] [] hB e e e e) e e
def strings_CutPrefix (N : Nat) (x1 : ByteArray) (x2 : ByteArray) : Option (ByteArray × Bool) :=
 (internal_stringslite_CutPrefix N x1 x2).bind fun y103 =>
 some (y103.1,y103.2)
theorem sem_strings_CutPrefix (N : Nat) (x1 : ByteArray) (x2 : ByteArray) (r : ByteArray × Bool) (h : strings_CutPrefix N x1 x2 = some r) : Says Tryz.prog 73 [VS x1,VS x2] 0 [] (.tup [VS r.1,VB r.2]) [] := by
 unfold strings_CutPrefix at h
 refine Says.of_norm e Tryz.call73 e fun B hB => ?_
 have hm : B.m ≤ 1000 := by omega
 refine Run.so hm (.p2 e e (.nil (.so hm (.p2 e e ?_))))
 obtain ⟨y103,hy103,h⟩ := bindO h
 refine Ops.z 5128 (Ev.call [] [] 0 (sem_internal_stringslite_CutPrefix _ _ _ _ hy103) e e (.d2 .nil) e (.inl e) e e) e e (.p3 e e e (.p e (.nil (.ret ?_))))
 obtain rfl := someO h
 exact Ends.mkG (.inl e) e (gh_pk [0,1] [] hB e e e e) e e
def impl_ReadDecimal (N : Nat) (x1 : ByteArray) : Option (Int × Bool) := rdec? x1
theorem sem_impl_ReadDecimal (N : Nat) (x1 : ByteArray) (r : Int × Bool) (h : impl_ReadDecimal N x1 = some r) : Says Tryz.prog 74 [VS x1] 0 [] (.tup [VI r.1,VB r.2]) [] := says_rdec Tryz.call74 Pe.ins74 (g := 5) (by kernel_rfl) (.head _) (g1 := 1) (by kernel_rfl) (.tail _ (.head _)) (g2 := 2) (by kernel_rfl) (.tail _ (.tail _ (.head _))) h
def strings_Index (N : Nat) (x1 : ByteArray) (x2 : ByteArray) : Option (Int) := index1? x1 x2
theorem sem_strings_Index (N : Nat) (x1 : ByteArray) (x2 : ByteArray) (r : Int) (h : strings_Index N x1 x2 = some r) : Says Tryz.prog 100 [VS x1,VS x2] 0 [] (VI r) [] := says_index1 Tryz.call100 Go.Proofs.Tryz.strings_Index_one h
def strings_genSplit_l1 (N : Nat) (x1 : ByteArray) (x2 : ByteArray) (x3 : Int) (x4 : Int) : Nat → ByteArray → Int → (List ByteArray) → Option (ByteArray × Int × (List ByteArray))
 | 0,_,_,_ => none
 | m + 1,x272,x276,x277 =>
 (if (decide (x276 < (w64 ((imin x4 (w64 ((x1.size : Int) + 1))) - 1)))) = true then
 (strings_Index N x272 x2).bind fun y305 =>
 (if (decide (y305 < 0)) = true then
 some (x272,x276,x277)
 else
 (stake? x272 (w64 (y305 + x3))).bind fun x314 =>
 (at? x277 x276).bind fun x315 =>
 (sdrop? x272 (w64 (y305 + (x2.size : Int)))).bind fun x319 =>
 strings_genSplit_l1 N x1 x2 x3 x4 m x319 (w64 (x276 + 1)) (x277.set x276.toNat x314))
 else
 some (x272,x276,x277))
def strings_genSplit (N : Nat) (x1 : ByteArray) (x2 : ByteArray) (x3 : Int) (x4 : Int) : Option (Nat × (List ByteArray)) :=
 (if (x4 == 0) = true then
 some (0,[])
 else
 (if (decide (x2 = (⟨#[]⟩ : ByteArray))) = true then
 none
 else
 (if (decide (x4 < 0)) = true then
 none
 else
 (mk? (⟨#[]⟩ : ByteArray) (imin x4 (w64 ((x1.size : Int) + 1)))).bind fun x222 =>
 joinP (fun (v271 : ByteArray × Int × (List ByteArray)) =>
 (at? v271.2.2 v271.2.1).bind fun x323 =>
 (take? (v271.2.2.set v271.2.1.toNat v271.1) (w64 (v271.2.1 + 1))).bind fun x325 =>
 some ((w64 (v271.2.1 + 1)).toNat,(v271.2.2.set v271.2.1.toNat v271.1))) fun j271 =>
 (strings_genSplit_l1 N x1 x2 x3 x4 N x1 0 x222).bind (fun v298 => j271 (v298.1,v298.2.1,v298.2.2)))))
theorem sem_strings_genSplit (N : Nat) (x1 : ByteArray) (x2 : ByteArray) (x3 : Int) (x4 : Int) (r : Nat × (List ByteArray)) (h : strings_genSplit N x1 x2 x3 x4 = some r) : Says Tryz.prog 87 [VS x1,VS x2,VI x3,VI x4] 0 [] (.sl 0 9 0 r.1) [(0,.vec 9 (r.2.map encS))] := by
 unfold strings_genSplit at h
 refine Says.of_norm e Tryz.call87 e fun B hB => ?_
 have hm : B.m ≤ 1000 := by omega
 refine Run.so hm (.p e (.nil (.seq (.so hm (.p2 e e (.nil (.condO e h (fun g214 h => ?_) (fun g214 h => ?_))))))))
 ·refine Run.so hm (.p e (.nil (.ret ?_)))
  obtain rfl := someO h
  exact Ends.mkG (.inl e) e (Gh.trans (Gh.trans (gh_prn [0] [] hB e) (gh_nil [0] [] hB e e e)) (gh_pk [0] [10000000] hB e e e e)) e e
 ·refine Run.skip (.seq (.so hm (.p2 e e (.nil (.condO e h (fun g216 h => ?_) (fun g216 h => ?_))))))
  ·exact Run.so hm (.p2 e e (noO h))
  ·refine Run.skip (.seq (.so hm (.p2 e e (.nil (.condO e h (fun g218 h => ?_) (fun g218 h => ?_))))))
   ·exact Run.ops hm (.p2 e e (noO h))
   ·refine Run.skip (.so hm (.p3 e e e (.p3 e e e (.nil (.so hm (.p e ?_))))))
    obtain ⟨x222,hx222,h⟩ := bindO h
    refine Ops.z 33784 (Ev.msW (f := encS) (zv := (⟨#[]⟩ : ByteArray)) e e e bt9 e hx222) e e (.p e (.nil (.so hm (.p3 e e e (.nil (.so hm (.p e (.nil (.seqO h (fun v271 => [(0,VS v271.1),(9,.sl 0 9 0 v271.2.2.length),(10,VI v271.2.1)]) (fun (v271 : ByteArray × Int × (List ByteArray)) => [(0,.vec 9 (v271.2.2.map encS))]) (fun h => ?_) (fun v271 h => ?_))))))))))
    ·refine Run.block ?_
     obtain ⟨res298,h,hk298⟩ := bindO h
     refine Run.loop (n := N) (fun m298 fr σ => ∃ (x272 : ByteArray),∃ (x276 : Int),∃ (x277 : (List ByteArray)),strings_genSplit_l1 N x1 x2 x3 x4 m298 x272 x276 x277 = some res298 ∧ fr = [(0,VS x272),(1,VS x2),(2,VI x3),(3,VI (w64 ((imin x4 (w64 ((x1.size : Int) + 1))) - 1))),(9,.sl 0 9 0 x277.length),(10,VI x276)] ∧ σ = [(0,.vec 9 (x277.map encS))]) (gh_pk [0,1,2,3,9,10] [33784] hB e e e e) ⟨_,_,_,h,e,e⟩ ?_
     rintro m298 fr σ ⟨x272,x276,x277,h,rfl,rfl⟩
     obtain _ | m298 := m298
     ·rw [strings_genSplit_l1] at h; cases h
     rw [strings_genSplit_l1] at h
     refine Run.seq (.so hm (.p3 e e e (.nil (.condO e h (fun g301 h => ?_) (fun g301 h => ?_)))))
     ·refine Run.skip (.block (.so hm (.p2 e e ?_)))
      obtain ⟨y305,hy305,h⟩ := bindO h
      refine Ops.z 50184 (Ev.call [] [] 0 (sem_strings_Index _ _ _ _ hy305) e e (.d2 .nil) e (.inl e) e e) e e (.p e (.nil (.seq (.so hm (.p2 e e (.nil (.condO e h (fun g307 h => ?_) (fun g307 h => ?_))))))))
      ·refine Run.exit ?_
       obtain rfl := someO h
       have h := hk298
       exact ⟨_,_,(gh_pk [0,9,10] [0] hB e e e e),_,h,e,e⟩
      ·refine Run.skip (.so hm (.p3 e e e (.p3 e e e ?_)))
       obtain ⟨x314,hx314,h⟩ := bindO h
       refine Ops.z 58440 (Ev.ssH e e hx314) e e ?_
       obtain ⟨x315,hx315,h⟩ := bindO h
       refine Ops.z 58456 (Ev.iaW e e e hx315) e e (.y 58472 (Ev.stE (f := encS) (v' := x314) e e (at_some hx315).2 e (.d1 .nil) e e e e e) e e (.nil (.so hm (.p3 e e e (.p2 e e ?_)))))
       obtain ⟨x319,hx319,h⟩ := bindO h
       exact Ops.z 62520 (Ev.ssL e e hx319) e e (.p e (.nil (.ops hm (.p3 e e e (.nil (⟨m298,Nat.lt_succ_self m298,_,_,(gh_pk [0,1,2,3,9,10] [0] hB e e (by first | rfl | (simp only [List.length_set]; done) | (simp only [List.length_set]; rfl)) (by first | rfl | (simp only [List.length_set]; done) | (simp only [List.length_set]; rfl))),_,_,_,h,e,e⟩))))))
     ·refine Run.exit ?_
      obtain rfl := someO h
      have h := hk298
      exact ⟨_,_,(gh_pk [0,9,10] [0] hB e e e e),_,h,e,e⟩
    ·refine Run.so hm (.p3 e e e ?_)
     obtain ⟨x323,hx323,h⟩ := bindO h
     refine Ops.z 70680 (Ev.iaW e e e hx323) e e (.y 70696 (Ev.stE (f := encS) (v' := v271.1) e e (at_some hx323).2 e (.d1 .nil) e e e e e) e e (.nil (.so hm (.p3 e e e ?_))))
     obtain ⟨x325,hx325,h⟩ := bindO h
     refine Ops.z 74776 (Ev.slWh (xs := (v271.2.2.set v271.2.1.toNat v271.1)) e (by simp) e hx325) e e ?_
     refine Ops.p e (.nil (.ret ?_))
     obtain rfl := someO h
     exact Ends.mkG (.inl e) e (gh_pk [0] [0] hB e e e e) (by first | rfl | (simp only [List.length_set]; done) | (simp only [List.length_set]; rfl)) (by first | rfl | (simp only [List.length_set]; done) | (simp only [List.length_set]; rfl))
end Go.Proofs.YtlkdjdfcihjplaaGreatDoor.Pe.FnExactFold
