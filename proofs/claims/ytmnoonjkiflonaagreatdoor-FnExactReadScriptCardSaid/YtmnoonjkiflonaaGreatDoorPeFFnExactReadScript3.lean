/- Functions,as pure functions; and that Go does just that. -/
import Derived.Test.YtmnoonjkiflonaaGreatDoorPeFFnExactReadScript2
namespace Go.Proofs.YtmnoonjkiflonaaGreatDoor.Pe.FnExactReadScript
open Go Go.RowKit
set_option linter.unusedVariables false
set_option linter.unusedSimpArgs false
set_option maxHeartbeats 40000000
set_option maxRecDepth 100000
def spec_WorldNew_l1 (N : Nat) (x1 : Int) (y252 : Disk × Bool) : Nat → Int → (List Bool) → (List Server) → Option ((List Bool) × (List Server))
 | 0,_,_,_ => none
 | m + 1,x336,x345,x346 =>
 (if (decide (x336 ≤ x1)) = true then
 (spec_Boot N x336 y252.1 20).bind fun y391 =>
 (cat? x346 ([y391.1] : List Server)).bind fun x395 =>
 (cat? x345 ([true] : List Bool)).bind fun x397 =>
 spec_WorldNew_l1 N x1 y252 m (w64 (x336 + 1)) x397 x395
 else
 some (x345,x346))
def spec_WorldNew (N : Nat) (x1 : Int) (x2 : (List Int)) : Option (World × Bool) :=
 (spec_FormatDisk N x2).bind fun y252 =>
 (if (!y252.2) = true then
 some ((World.mk ([]) ([]) ([]) ([]) ([]) ([]) ([])),false)
 else
 (spec_l01In N x1 1 4).bind fun y267 =>
 (if (!y267) = true then
 some ((World.mk ([]) ([]) ([]) ([]) ([]) ([]) ([])),false)
 else
 (at? x2 (w64 ((x2.length : Int) - 1))).bind fun x269 =>
 (if (decide (x269 > x1)) = true then
 some ((World.mk ([]) ([]) ([]) ([]) ([]) ([]) ([])),false)
 else
 joinP (fun (v334 : (List Bool) × (List Server)) =>
 some ((World.mk v334.1 v334.2 ([] : (List Message)) ([] : (List Wait)) ([] : (List Leader)) ([] : (List Applied)) ([] : (List Reply))),true)) fun j334 =>
 (spec_WorldNew_l1 N x1 y252 N 1 ([] : (List Bool)) ([] : (List Server))).bind (fun v374 => j334 (v374.1,v374.2)))))
theorem sem_spec_WorldNew (N : Nat) (x1 : Int) (x2 : (List Int)) (r : World × Bool) (h : spec_WorldNew N x1 x2 = some r) : Says Tryz.prog 16 [VI x1,RO 3 (x2.map encI)] 0 [] (.tup [.agg [.sl 0 4 0 r.1.Up.length,.sl 1 83 0 r.1.Servers.length,.sl 2 312 0 r.1.Net.length,.sl 3 314 0 r.1.Waits.length,.sl 4 316 0 r.1.Leaders.length,.sl 5 318 0 r.1.Applied.length,.sl 6 320 0 r.1.Replies.length],VB r.2]) [(0,.vec 4 (r.1.Up.map encB)),(1,.vec 83 (r.1.Servers.map (encServer true))),(2,.vec 312 (r.1.Net.map (encMessage true))),(3,.vec 314 (r.1.Waits.map encWait)),(4,.vec 316 (r.1.Leaders.map (encLeader true))),(5,.vec 318 (r.1.Applied.map encApplied)),(6,.vec 320 (r.1.Replies.map encReply))] := by
 unfold spec_WorldNew at h
 refine Says.of_norm e Tryz.call16 e fun B hB => ?_
 have hm : B.m ≤ 1000 := by omega
 refine Run.so hm (.z 1000 (.al e e) e e (.p e (.nil (.so hm (.p e ?_)))))
 obtain ⟨y252,hy252,h⟩ := bindO h
 refine Ops.z 5112 (Ev.call [] [] 1 (sem_spec_FormatDisk _ _ _ hy252) e e (.d1 .nil) e (.inl e) e e) e e (.p3 e e e (.z 5176 (.al e e) e e (.y 5192 (.sto e e e e e e) e e (.p e (.nil (.seq (.so hm (.p3 e e e (.askO (x := .t 20) e h (fun g266 h => ?_) (fun g266 h => ?_))))))))))
 ·refine Ops.gn e g266 (.gn e g266 (.gn e g266 (.z 9288 (.pkT e g266 e) e e (.p e (.gn e e (.gn e e (.gn e e (.gn e e (.gn e e (.gn e e (.gn e e (.gn e e (.z 9448 (.pkT e e e) e e (.nil (.condT e e (.so hm (.z 13288 (.bd e e) e e (.y 13304 (.sto e e e e e e) e e (.p e (.nil (.ret ?_)))))))))))))))))))))
  obtain rfl := someO h
  exact Ends.mkG (.inl e) e (Gh.trans (Gh.trans (gh_prn [0,1] [] hB e) (gh_nil [0] [] hB e e e)) (gh_pk [0,1] [10000000,10000001,10000002,10000003,10000004,10000005,10000006] hB e e e e)) e e
 ·refine Ops.gp e g266 e ?_
  obtain ⟨y267,hy267,h⟩ := bindO h
  refine Ops.gs (s := 9256) e g266 (Ev.call [] [] 0 (sem_spec_l01In _ _ _ _ _ hy267) e e (.d2 (.d1 .nil)) e (.inl e) e e) e e (.gp e g266 e (.z 9288 (.pkF e g266 e) e e (.p e (.askO (x := .t 25) e h (fun g268 h => ?_) (fun g268 h => ?_)))))
  ·refine Ops.gn e g268 (.gn e g268 (.gn e g268 (.gn e g268 (.gn e g268 (.gn e g268 (.gn e g268 (.gn e g268 (.z 9448 (.pkT e g268 e) e e (.nil (.condT e e (.so hm (.z 13288 (.bd e e) e e (.y 13304 (.sto e e e e e e) e e (.p e (.nil (.ret ?_))))))))))))))))
   obtain rfl := someO h
   exact Ends.mkG (.inl e) e (Gh.trans (Gh.trans (gh_prn [0,1] [] hB e) (gh_nil [0] [] hB e e e)) (gh_pk [0,1] [10000000,10000001,10000002,10000003,10000004,10000005,10000006] hB e e e e)) e e
  ·refine Ops.gp e g268 e (.gp e g268 e (.gs (s := 9352) e g268 (Ev.lnF e) e e (.gp e g268 e ?_)))
   obtain ⟨x269,hx269,h⟩ := bindO h
   refine Ops.gs (s := 9384) e g268 (Ev.iaF e e hx269) e e (.gp e g268 e (.gp e g268 e (.gp e g268 e (.z 9448 (.pkF e g268 e) e e (.nil (.condO e h (fun g270 h => ?_) (fun g270 h => ?_)))))))
   ·refine Run.so hm (.z 13288 (.bd e e) e e (.y 13304 (.sto e e e e e e) e e (.p e (.nil (.ret ?_)))))
    obtain rfl := someO h
    exact Ends.mkG (.inl e) e (Gh.trans (Gh.trans (gh_prn [0,1] [] hB e) (gh_nil [0] [] hB e e e)) (gh_pk [0,1] [10000000,10000001,10000002,10000003,10000004,10000005,10000006] hB e e e e)) e e
   ·refine Run.skip (.so hm (.z 17384 (.bd e e) e e (.z 17400 (.al e e) e e (.y 17416 (.sto e e e e e e) e e (.nil (.seqO h (fun v334 => [(4,.ptr 0 0),(8,.ptr 1 0)]) (fun (v334 : (List Bool) × (List Server)) => [(0,.box [.sl 2 4 0 (([] : (List Bool)).length),.sl 3 83 0 (([] : (List Server)).length),.sl 4 312 0 (([] : (List Message)).length),.sl 5 314 0 (([] : (List Wait)).length),.sl 6 316 0 (([] : (List Leader)).length),.sl 7 318 0 (([] : (List Applied)).length),.sl 8 320 0 (([] : (List Reply)).length)]),(1,.box [.sl 9 4 0 v334.1.length,.sl 10 83 0 v334.2.length,.sl 11 312 0 (([] : (List Message)).length),.sl 12 314 0 (([] : (List Wait)).length),.sl 13 316 0 (([] : (List Leader)).length),.sl 14 318 0 (([] : (List Applied)).length),.sl 15 320 0 (([] : (List Reply)).length)]),(2,.vec 4 (([] : (List Bool)).map encB)),(3,.vec 83 (([] : (List Server)).map (encServer true))),(4,.vec 312 (([] : (List Message)).map (encMessage true))),(5,.vec 314 (([] : (List Wait)).map encWait)),(6,.vec 316 (([] : (List Leader)).map (encLeader true))),(7,.vec 318 (([] : (List Applied)).map encApplied)),(8,.vec 320 (([] : (List Reply)).map encReply)),(9,.vec 4 (v334.1.map encB)),(10,.vec 83 (v334.2.map (encServer true))),(11,.vec 312 (([] : (List Message)).map (encMessage true))),(12,.vec 314 (([] : (List Wait)).map encWait)),(13,.vec 316 (([] : (List Leader)).map (encLeader true))),(14,.vec 318 (([] : (List Applied)).map encApplied)),(15,.vec 320 (([] : (List Reply)).map encReply))]) (fun h => ?_) (fun v334 h => ?_)))))))
    ·refine Run.so hm (.p e (.nil (.block ?_)))
     obtain ⟨res374,h,hk374⟩ := bindO h
     refine Run.loop (n := N) (fun m374 fr σ => ∃ (x336 : Int),∃ (x345 : (List Bool)),∃ (x346 : (List Server)),spec_WorldNew_l1 N x1 y252 m374 x336 x345 x346 = some res374 ∧ fr = [(0,VI x1),(4,.ptr 0 0),(6,.ptr 1 0),(8,.ptr 2 0),(9,VI x336)] ∧ σ = [(0,.box [.sl 3 4 0 (([] : (List Bool)).length),.sl 4 83 0 (([] : (List Server)).length),.sl 5 312 0 (([] : (List Message)).length),.sl 6 314 0 (([] : (List Wait)).length),.sl 7 316 0 (([] : (List Leader)).length),.sl 8 318 0 (([] : (List Applied)).length),.sl 9 320 0 (([] : (List Reply)).length)]),(1,.box [.sl 10 98 0 y252.1.Files.length]),(2,.box [.sl 11 4 0 x345.length,.sl 12 83 0 x346.length,.sl 13 312 0 (([] : (List Message)).length),.sl 14 314 0 (([] : (List Wait)).length),.sl 15 316 0 (([] : (List Leader)).length),.sl 16 318 0 (([] : (List Applied)).length),.sl 17 320 0 (([] : (List Reply)).length)]),(3,.vec 4 (([] : (List Bool)).map encB)),(4,.vec 83 (([] : (List Server)).map (encServer true))),(5,.vec 312 (([] : (List Message)).map (encMessage true))),(6,.vec 314 (([] : (List Wait)).map encWait)),(7,.vec 316 (([] : (List Leader)).map (encLeader true))),(8,.vec 318 (([] : (List Applied)).map encApplied)),(9,.vec 320 (([] : (List Reply)).map encReply)),(10,.vec 98 (y252.1.Files.map encFile)),(11,.vec 4 (x345.map encB)),(12,.vec 83 (x346.map (encServer true))),(13,.vec 312 (([] : (List Message)).map (encMessage true))),(14,.vec 314 (([] : (List Wait)).map encWait)),(15,.vec 316 (([] : (List Leader)).map (encLeader true))),(16,.vec 318 (([] : (List Applied)).map encApplied)),(17,.vec 320 (([] : (List Reply)).map encReply))]) (Gh.trans (Gh.trans (gh_prn [0,4,6,8,9] [1000,5176,17400,5112] hB e) (gh_nil [] [1000,17400] hB e e e)) (gh_pk [0,4,6,8,9] [1000,5176,17400,20000000,20000001,20000002,20000003,20000004,20000005,20000006,5112,20000064,20000065,20000066,20000067,20000068,20000069,20000070] hB e e e e)) ⟨_,_,_,h,e,e⟩ ?_
     rintro m374 fr σ ⟨x336,x345,x346,h,rfl,rfl⟩
     obtain _ | m374 := m374
     ·rw [spec_WorldNew_l1] at h; cases h
     rw [spec_WorldNew_l1] at h
     refine Run.seq (.so hm (.p3 e e e (.nil (.condO e h (fun g377 h => ?_) (fun g377 h => ?_)))))
     ·refine Run.skip (.seq (.block (.so hm (.p2 e e ?_))))
      obtain ⟨y391,hy391,h⟩ := bindO h
      refine Ops.z 33800 (Ev.call [] [10] 9 (sem_spec_Boot _ _ _ _ _ hy391) e e (.d1 (.cons (.agg (.cons (.borrow e (by decide) (lendW (fun _ => e) _ e)) .nil)) (.d1 .nil))) e (.inr ⟨e,ownL_root ⟨own_rows (fun _ => e) _,own_rows (fun _ => e) _,own_rows (fun _ => e) _,own_rows (fun _ => e) _,own_rows (fun _ => e) _,own_rows (fun _ => e) _,own_rows (fun _ => e) _,own_rows (fun _ => e) _,own_rows (fun _ => e) _,trivial⟩⟩) e e) e e ?_
      refine Ops.p e (.p3 e e e (.z 33880 (.al e e) e e (.y 33896 (.sto e e e e e e) e e (.p2 e e (.nil (.so hm (.p3 e e e (.z 37912 (Ev.bsW (ys := ([y391.1] : List Server)) (f := (encServer true)) e (.d4 (.d1 (.cons (.own e (lenmap e)) (.d2 (.cons (.own e (lenmap e)) (.d2 (.d1 (.cons (.own e (lenmap e)) (.cons (.own e (lenmap e)) (.cons (.own e (lenmap e)) (.cons (.own e (lenmap e)) (.d2 (.d1 (.cons (.own e (lenmap e)) (.cons (.own e (lenmap e)) (.d4 .nil)))))))))))))))) e e e e e) e e ?_))))))))
      obtain ⟨x395,hx395,h⟩ := bindO h
      refine Ops.z 37928 (Ev.apW (f := (encServer true)) (ontoW e e e) (addsO e e e) e bt83 e hx395) e e (.p e (.y 37960 (.sto e e e e e e) e e (.nil (.ops hm (.p2 e e (.z 41992 (Ev.bsW (ys := ([true] : List Bool)) (f := encB) e (.d1 .nil) e e e e e) e e ?_))))))
      obtain ⟨x397,hx397,h⟩ := bindO h
      exact Ops.z 42008 (Ev.apW (f := encB) (ontoW e e e) (addsW e e e (fun _ => e)) e bt4 e hx397) e e (.p e (.y 42040 (.sto e e e e e e) e e (.nil (.ops hm (.p3 e e e (.nil (⟨m374,Nat.lt_succ_self m374,_,_,(gh_pk [0,4,6,8,9] [0,1,2,3,4,5,6,7,8,9,10,42008,37928,13,14,15,16,17] hB e e e e),_,_,_,h,e,e⟩)))))))
     ·refine Run.exit ?_
      obtain rfl := someO h
      have h := hk374
      exact ⟨_,_,(gh_pk [4,8] [0,2,3,4,5,6,7,8,9,11,12,13,14,15,16,17] hB e e e e),_,h,e,e⟩
    ·refine Run.so hm (.p e (.y 46072 (.sto e e e e e e) e e (.p e (.nil (.ret ?_)))))
     obtain rfl := someO h
     exact Ends.mkG (.inl e) e (gh_pk [0,1] [9,10,11,12,13,14,15] hB e e e e) e e
def spec_l20Nums_l1 (N : Nat) (x1 : (List ByteArray)) : Nat → Int → (List Int) → Option (((List Int) × Bool) ⊕ ((List Int)))
 | 0,_,_ => none
 | m + 1,x277,x278 =>
 (if (decide (x277 < (x1.length : Int))) = true then
 (at? x1 x277).bind fun x328 =>
 (spec_ReadDecimal N x328).bind fun y329 =>
 (if (!y329.2) = true then
 some (Sum.inl (([] : List Int),false))
 else
 (cat? x278 ([y329.1] : List Int)).bind fun x333 =>
 spec_l20Nums_l1 N x1 m (w64 (x277 + 1)) x333)
 else
 some (Sum.inr x278))
def spec_l20Nums_l1_r (N : Nat) (x1 : (List ByteArray)) : (List ByteArray) → Int → (List Int) → Option (((List Int) × Bool) ⊕ ((List Int)))
 | [],x277,x278 =>
 some (Sum.inr x278)
 | hd :: tl,x277,x278 =>
 (some hd).bind fun x328 =>
 (spec_ReadDecimal N x328).bind fun y329 =>
 (if (!y329.2) = true then
 some (Sum.inl (([] : List Int),false))
 else
 (cat? x278 ([y329.1] : List Int)).bind fun x333 =>
 spec_l20Nums_l1_r N x1 tl (w64 (x277 + 1)) x333)
theorem spec_l20Nums_l1_rng (N : Nat) (x1 : (List ByteArray)) (hx : x1.length ≤ 1099511627776) : ∀ (d k m : Nat) (x278 : (List Int)),x1.length = k + d → d < m → spec_l20Nums_l1 N x1 m (k : Int) x278 = spec_l20Nums_l1_r N x1 (x1.drop k) (k : Int) x278 := by
 intro d
 induction d with
 | zero =>
  intro k m x278 hd hm
  obtain ⟨m,rfl⟩ : ∃ q,m = q + 1 := ⟨m - 1,by omega⟩
  rw [spec_l20Nums_l1,if_neg (by simp; omega),List.drop_eq_nil_of_le (by omega),spec_l20Nums_l1_r]
 | succ d ih =>
  intro k m x278 hd hm
  obtain ⟨m,rfl⟩ : ∃ q,m = q + 1 := ⟨m - 1,by omega⟩
  have hk : k < x1.length := by omega
  rw [spec_l20Nums_l1,if_pos (by simp; omega),List.drop_eq_getElem_cons hk,spec_l20Nums_l1_r]
  have h1 := at_lt hk
  have h2 := w64_succ (k := k) (by omega)
  have h3 := ih (k + 1) m
  simp only [h1,h2,h3 _ (by omega) (by omega)]
theorem spec_l20Nums_l1_eq {N : Nat} (x1 : (List ByteArray)) (hx : x1.length ≤ 1099511627776) (hN : x1.length < N) (x278 : (List Int)) : spec_l20Nums_l1 N x1 N 0 x278 = spec_l20Nums_l1_r N x1 x1 0 x278 := spec_l20Nums_l1_rng N x1 hx x1.length 0 N x278 (by omega) hN
def spec_l20Nums (N : Nat) (x1 : (List ByteArray)) : Option ((List Int) × Bool) :=
 joinP (fun (v275 : (List Int)) =>
 some (v275,true)) fun j275 =>
 (spec_l20Nums_l1 N x1 N 0 ([] : List Int)).bind (Sum.elim (fun v305 => some v305) (fun (v306 : (List Int)) => j275 v306))
theorem sem_spec_l20Nums (N : Nat) (x1 : (List ByteArray)) (r : (List Int) × Bool) (h : spec_l20Nums N x1 = some r) : Says Tryz.prog 31 [RO 9 (x1.map encS)] 0 [] (.tup [.sl 0 3 0 r.1.length,VB r.2]) [(0,.vec 3 (r.1.map encI))] := by
 unfold spec_l20Nums at h
 refine Says.of_norm e Tryz.call31 e fun B hB => ?_
 have hm : B.m ≤ 1000 := by omega
 refine Run.so hm (.p2 e e (.nil (.so hm (.z 5096 (Ev.bsW (ys := ([] : List Int)) (f := encI) e .nil e e e e e) e e (.p e (.nil (.seqO h (fun v275 => [(4,.sl 0 3 0 v275.length)]) (fun (v275 : (List Int)) => [(0,.vec 3 (v275.map encI))]) (fun h => ?_) (fun v275 h => ?_))))))))
 ·refine Run.so hm (.p e (.nil (.block ?_)))
  obtain ⟨res306,h,hk306⟩ := bindO h
  refine Run.loop (n := N) (fun m306 fr σ => ∃ (x277 : Int),∃ (x278 : (List Int)),spec_l20Nums_l1 N x1 m306 x277 x278 = some res306 ∧ fr = [(0,RO 9 (x1.map encS)),(4,.sl 0 3 0 x278.length),(5,VI x277)] ∧ σ = [(0,.vec 3 (x278.map encI))]) (gh_pk [0,4,5] [5096] hB e e e e) ⟨_,_,h,e,e⟩ ?_
  rintro m306 fr σ ⟨x277,x278,h,rfl,rfl⟩
  obtain _ | m306 := m306
  ·rw [spec_l20Nums_l1] at h; cases h
  rw [spec_l20Nums_l1] at h
  refine Run.seq (.so hm (.p2 e e (.z 13320 (Ev.lnF e) e e (.p e (.nil (.condO e h (fun g309 h => ?_) (fun g309 h => ?_)))))))
  ·refine Run.skip (.seq (.block (.so hm (.p2 e e ?_))))
   obtain ⟨x328,hx328,h⟩ := bindO h
   refine Ops.z 21512 (Ev.iaF e e hx328) e e (.p e ?_)
   obtain ⟨y329,hy329,h⟩ := bindO h
   refine Ops.z 21544 (Ev.call [] [] 0 (sem_spec_ReadDecimal _ _ _ hy329) e e (.d1 .nil) e (.inl e) e e) e e (.p3 e e e (.p2 e e (.nil (.seq (.so hm (.p2 e e (.nil (.condO e h (fun g331 h => ?_) (fun g331 h => ?_)))))))))
   ·refine Run.so hm (.z 29672 (Ev.bsW (ys := ([] : List Int)) (f := encI) e .nil e e e e e) e e (.p2 e e (.nil (.ret ?_))))
    obtain rfl := someO h
    have h := hk306
    replace h := inlO h
    obtain rfl := someO h
    exact Ends.mkG (.inl e) e (gh_pk [0,1] [29672] hB e e e e) e e
   ·refine Run.skip (.ops hm (.p2 e e (.z 33800 (Ev.bsW (ys := ([y329.1] : List Int)) (f := encI) e (.d1 .nil) e e e e e) e e ?_)))
    obtain ⟨x333,hx333,h⟩ := bindO h
    exact Ops.z 33816 (Ev.apW (f := encI) (ontoW e e e) (addsW e e e (fun _ => e)) e bt3 e hx333) e e (.p e (.nil (.ops hm (.p3 e e e (.nil (⟨m306,Nat.lt_succ_self m306,_,_,(gh_pk [0,4,5] [33816] hB e e e e),_,_,h,e,e⟩))))))
  ·refine Run.exit ?_
   obtain rfl := someO h
   have h := hk306
   replace h := inrO h
   exact ⟨_,_,(gh_pk [4] [0] hB e e e e),_,h,e,e⟩
 ·refine Run.so hm (.p3 e e e (.nil (.ret ?_)))
  obtain rfl := someO h
  exact Ends.mkG (.inl e) e (gh_pk [0,1] [0] hB e e e e) e e
def spec_l20Text (N : Nat) (x1 : ByteArray) : Option (ByteArray) :=
 (if (decide (x1 = (⟨#[45]⟩ : ByteArray))) = true then
 some (⟨#[]⟩ : ByteArray)
 else
 some x1)
theorem sem_spec_l20Text (N : Nat) (x1 : ByteArray) (r : ByteArray) (h : spec_l20Text N x1 = some r) : Says Tryz.prog 95 [VS x1] 0 [] (VS r) [] := by
 unfold spec_l20Text at h
 refine Says.of_norm e Tryz.call95 e fun B hB => ?_
 have hm : B.m ≤ 1000 := by omega
 refine Run.so hm (.p e (.nil (.seq (.so hm (.p2 e e (.nil (.condO e h (fun g103 h => ?_) (fun g103 h => ?_))))))))
 ·refine Run.so hm (.p e (.nil (.ret ?_)))
  obtain rfl := someO h
  exact Ends.mkG (.inl e) e (gh_pk [0] [] hB e e e e) e e
 ·refine Run.skip (.so hm (.p2 e e (.nil (.ret ?_))))
  obtain rfl := someO h
  exact Ends.mkG (.inl e) e (gh_pk [0] [] hB e e e e) e e
def spec_l20Call (N : Nat) (x1 : ByteArray) (x2 : (List ByteArray)) : Option (Command × Bool) :=
 joinP (fun (v186 : Int × Int) =>
 (if ((x2.length : Int) != v186.1) = true then
 some ((Command.mk v186.2 0 0 (⟨#[]⟩ : ByteArray) (⟨#[]⟩ : ByteArray) (⟨#[]⟩ : ByteArray)),false)
 else
 (take? x2 2).bind fun x200 =>
 (spec_l20Nums N x200).bind fun y201 =>
 (if (!y201.2) = true then
 some ((Command.mk v186.2 0 0 (⟨#[]⟩ : ByteArray) (⟨#[]⟩ : ByteArray) (⟨#[]⟩ : ByteArray)),false)
 else
 (at? x2 2).bind fun x210 =>
 (if (decide (x210 = (⟨#[45]⟩ : ByteArray))) = true then
 some ((Command.mk v186.2 0 0 (⟨#[]⟩ : ByteArray) (⟨#[]⟩ : ByteArray) (⟨#[]⟩ : ByteArray)),false)
 else
 (at? y201.1 0).bind fun x215 =>
 (at? y201.1 1).bind fun x219 =>
 (at? x2 2).bind fun x223 =>
 joinP (fun (v229 : ByteArray) =>
 joinP (fun (v248 : ByteArray × ByteArray) =>
 some ((Command.mk v186.2 x215 x219 x223 v248.1 v248.2),true)) fun j248 =>
 (if (v186.1 == 5) = true then
 (at? x2 3).bind fun x256 =>
 (spec_l20Text N x256).bind fun y257 =>
 (at? x2 4).bind fun x260 =>
 (spec_l20Text N x260).bind fun y261 =>
 j248 (y261,y257)
 else
 j248 (v229,(⟨#[]⟩ : ByteArray)))) fun j229 =>
 (if (v186.1 == 4) = true then
 (at? x2 3).bind fun x233 =>
 (spec_l20Text N x233).bind fun y234 =>
 j229 y234
 else
 j229 (⟨#[]⟩ : ByteArray)))))) fun j186 =>
 (if (decide (x1 = (⟨#[111,112,101,110]⟩ : ByteArray))) = true then
 some ((Command.mk 1 0 0 (⟨#[]⟩ : ByteArray) (⟨#[]⟩ : ByteArray) (⟨#[]⟩ : ByteArray)),((x2.length : Int) == 0))
 else
 (if (decide (x1 = (⟨#[103,101,116]⟩ : ByteArray))) = true then
 j186 (3,2)
 else
 (if (decide (x1 = (⟨#[99,117,116]⟩ : ByteArray))) = true then
 j186 (3,4)
 else
 (if (decide (x1 = (⟨#[112,117,116]⟩ : ByteArray))) = true then
 j186 (4,3)
 else
 (if (decide (x1 = (⟨#[115,119,97,112]⟩ : ByteArray))) = true then
 j186 (5,5)
 else
 some ((Command.mk 0 0 0 (⟨#[]⟩ : ByteArray) (⟨#[]⟩ : ByteArray) (⟨#[]⟩ : ByteArray)),false))))))
theorem sem_spec_l20Call (N : Nat) (x1 : ByteArray) (x2 : (List ByteArray)) (r : Command × Bool) (h : spec_l20Call N x1 x2 = some r) : Says Tryz.prog 61 [VS x1,RO 9 (x2.map encS)] 0 [] (.tup [.agg [VI r.1.Op,VI r.1.Session,VI r.1.Seq,VS r.1.Key,VS r.1.Value,VS r.1.Old],VB r.2]) [] := by
 unfold spec_l20Call at h
 refine Says.of_norm e Tryz.call61 e fun B hB => ?_
 have hm : B.m ≤ 1000 := by omega
 refine Run.so hm (.z 1000 (.al e e) e e (.p e (.nil (.so hm (.z 5096 (.bd e e) e e (.z 5112 (.al e e) e e (.y 5128 (.sto e e e e e e) e e (.nil (.so hm (.p e (.nil (.seqO h (fun v186 => [(1,RO 9 (x2.map encS)),(4,.ptr 0 0),(6,.ptr 1 0),(7,VI v186.1)]) (fun (v186 : Int × Int) => [(0,.box [VI 0,VI 0,VI 0,VS (⟨#[]⟩ : ByteArray),VS (⟨#[]⟩ : ByteArray),VS (⟨#[]⟩ : ByteArray)]),(1,.box [VI v186.2,VI 0,VI 0,VS (⟨#[]⟩ : ByteArray),VS (⟨#[]⟩ : ByteArray),VS (⟨#[]⟩ : ByteArray)])]) (fun h => ?_) (fun v186 h => ?_)))))))))))))
 ·refine Run.so hm (.p e (.nil (.block (.so hm (.p2 e e (.nil (.condO e h (fun g187 h => ?_) (fun g187 h => ?_))))))))
  ·refine Run.so hm (.p e (.y 25592 (.sto e e e e e e) e e (.nil (.so hm (.p2 e e (.z 29704 (Ev.lnF e) e e (.p e (.y 29736 (.sto e e e e e e) e e (.p e (.nil (.ret ?_)))))))))))
   obtain rfl := someO h
   exact Ends.mkG (.inl e) e (gh_pk [0,1] [] hB e e e e) e e
  ·refine Run.so hm (.p2 e e (.nil (.condO e h (fun g188 h => ?_) (fun g188 h => ?_))))
   ·exact Run.ops hm (.p e (.y 37880 (.sto e e e e e e) e e (.nil (⟨_,_,(gh_pk [1,4,6,7] [1000,5112] hB e e e e),_,h,e,e⟩))))
   ·refine Run.so hm (.p2 e e (.nil (.condO e h (fun g189 h => ?_) (fun g189 h => ?_))))
    ·exact Run.ops hm (.p e (.y 46072 (.sto e e e e e e) e e (.nil (⟨_,_,(gh_pk [1,4,6,7] [1000,5112] hB e e e e),_,h,e,e⟩))))
    ·refine Run.so hm (.p2 e e (.nil (.condO e h (fun g190 h => ?_) (fun g190 h => ?_))))
     ·exact Run.so hm (.p e (.y 54264 (.sto e e e e e e) e e (.nil (.ops hm (.p e (.nil (⟨_,_,(gh_pk [1,4,6,7] [1000,5112] hB e e e e),_,h,e,e⟩)))))))
     ·refine Run.so hm (.p2 e e (.nil (.condO e h (fun g191 h => ?_) (fun g191 h => ?_))))
      ·exact Run.so hm (.p e (.y 66552 (.sto e e e e e e) e e (.nil (.ops hm (.p e (.nil (⟨_,_,(gh_pk [1,4,6,7] [1000,5112] hB e e e e),_,h,e,e⟩)))))))
      ·refine Run.so hm (.p e (.y 17400 (.sto e e e e e e) e e (.p e (.nil (.ret ?_)))))
       obtain rfl := someO h
       exact Ends.mkG (.inl e) e (gh_pk [0,1] [] hB e e e e) e e
 ·refine Run.seq (.so hm (.p e (.z 74744 (Ev.lnF e) e e (.p2 e e (.nil (.condO e h (fun g193 h => ?_) (fun g193 h => ?_)))))))
  ·refine Run.so hm (.p e (.y 78840 (.sto e e e e e e) e e (.p e (.nil (.ret ?_)))))
   obtain rfl := someO h
   exact Ends.mkG (.inl e) e (gh_pk [0,1] [] hB e e e e) e e
  ·refine Run.skip (.so hm (.p e ?_))
   obtain ⟨x200,hx200,h⟩ := bindO h
   refine Ops.z 82936 (Ev.slFh e e hx200) e e ?_
   obtain ⟨y201,hy201,h⟩ := bindO h
   refine Ops.z 82952 (Ev.call [] [] 1 (sem_spec_l20Nums _ _ _ hy201) e e (.d1 .nil) e (.inl e) e e) e e (.p3 e e e (.p2 e e (.nil (.seq (.so hm (.p3 e e e (.askO (x := .t 45) e h (fun g209 h => ?_) (fun g209 h => ?_))))))))
   ·refine Ops.gn e g209 (.gn e g209 (.gn e g209 (.gn e g209 (.z 87128 (.pkT e g209 e) e e (.nil (.condT e e (.so hm (.p e (.y 91128 (.sto e e e e e e) e e (.p e (.nil (.ret ?_))))))))))))
    obtain rfl := someO h
    exact Ends.mkG (.inl e) e (gh_pk [0,1] [] hB e e e e) e e
   ·refine Ops.gp e g209 e ?_
    obtain ⟨x210,hx210,h⟩ := bindO h
    refine Ops.gs (s := 87080) e g209 (Ev.iaF e e hx210) e e (.gp e g209 e (.gp e g209 e (.z 87128 (.pkF e g209 e) e e (.nil (.condO e h (fun g211 h => ?_) (fun g211 h => ?_))))))
    ·refine Run.so hm (.p e (.y 91128 (.sto e e e e e e) e e (.p e (.nil (.ret ?_)))))
     obtain rfl := someO h
     exact Ends.mkG (.inl e) e (gh_pk [0,1] [] hB e e e e) e e
    ·refine Run.skip (.so hm (.p e ?_))
     obtain ⟨x215,hx215,h⟩ := bindO h
     refine Ops.z 95224 (Ev.iaW e e e hx215) e e (.z 95240 (Ev.ldE (f := encI) e e (at_some hx215).2 e e e) e e (.p e (.y 95272 (.sto e e e e e e) e e (.nil (.so hm (.p e ?_))))))
     obtain ⟨x219,hx219,h⟩ := bindO h
     refine Ops.z 99320 (Ev.iaW e e e hx219) e e (.z 99336 (Ev.ldE (f := encI) e e (at_some hx219).2 e e e) e e (.p e (.y 99368 (.sto e e e e e e) e e (.nil (.so hm (.p e ?_))))))
     obtain ⟨x223,hx223,h⟩ := bindO h
     refine Ops.z 103416 (Ev.iaF e e hx223) e e (.p2 e e (.y 103464 (.sto e e e e e e) e e (.nil (.seqO h (fun v229 => [(1,RO 9 (x2.map encS)),(4,.ptr 0 0),(6,.ptr 1 0),(7,VI v186.1)]) (fun (v229 : ByteArray) => [(0,.box [VI 0,VI 0,VI 0,VS (⟨#[]⟩ : ByteArray),VS (⟨#[]⟩ : ByteArray),VS (⟨#[]⟩ : ByteArray)]),(1,.box [VI v186.2,VI x215,VI x219,VS x223,VS v229,VS (⟨#[]⟩ : ByteArray)])]) (fun h => ?_) (fun v229 h => ?_)))))
     ·refine Run.so hm (.p2 e e (.nil (.condO e h (fun g230 h => ?_) (fun g230 h => ?_))))
      ·refine Run.ops hm (.p e ?_)
       obtain ⟨x233,hx233,h⟩ := bindO h
       refine Ops.z 111608 (Ev.iaF e e hx233) e e (.p e ?_)
       obtain ⟨y234,hy234,h⟩ := bindO h
       exact Ops.z 111640 (Ev.call [] [] 0 (sem_spec_l20Text _ _ _ hy234) e e (.d1 .nil) e (.inl e) e e) e e (.p e (.y 111672 (.sto e e e e e e) e e (.nil (⟨_,_,(gh_pk [1,4,6,7] [0,1] hB e e e e),_,h,e,e⟩))))
      ·exact Run.skip (⟨_,_,(gh_pk [1,4,6,7] [0,1] hB e e e e),_,h,e,e⟩)
     ·refine Run.seqO h (fun v248 => [(4,.ptr 0 0),(6,.ptr 1 0)]) (fun (v248 : ByteArray × ByteArray) => [(0,.box [VI 0,VI 0,VI 0,VS (⟨#[]⟩ : ByteArray),VS (⟨#[]⟩ : ByteArray),VS (⟨#[]⟩ : ByteArray)]),(1,.box [VI v186.2,VI x215,VI x219,VS x223,VS v248.1,VS v248.2])]) (fun h => ?_) (fun v248 h => ?_)
      ·refine Run.so hm (.p2 e e (.nil (.condO e h (fun g249 h => ?_) (fun g249 h => ?_))))
       ·refine Run.so hm (.p e ?_)
        obtain ⟨x256,hx256,h⟩ := bindO h
        refine Ops.z 119800 (Ev.iaF e e hx256) e e (.p e ?_)
        obtain ⟨y257,hy257,h⟩ := bindO h
        refine Ops.z 119832 (Ev.call [] [] 0 (sem_spec_l20Text _ _ _ hy257) e e (.d1 .nil) e (.inl e) e e) e e (.p e (.y 119864 (.sto e e e e e e) e e (.nil (.ops hm (.p e ?_)))))
        obtain ⟨x260,hx260,h⟩ := bindO h
        refine Ops.z 123896 (Ev.iaF e e hx260) e e (.p e ?_)
        obtain ⟨y261,hy261,h⟩ := bindO h
        exact Ops.z 123928 (Ev.call [] [] 0 (sem_spec_l20Text _ _ _ hy261) e e (.d1 .nil) e (.inl e) e e) e e (.p e (.y 123960 (.sto e e e e e e) e e (.nil (⟨_,_,(gh_pk [4,6] [0,1] hB e e e e),_,h,e,e⟩))))
       ·exact Run.skip (⟨_,_,(gh_pk [4,6] [0,1] hB e e e e),_,h,e,e⟩)
      ·refine Run.so hm (.p e (.y 127992 (.sto e e e e e e) e e (.p e (.nil (.ret ?_)))))
       obtain rfl := someO h
       exact Ends.mkG (.inl e) e (gh_pk [0,1] [] hB e e e e) e e
def spec_l20Event (N : Nat) (x1 : (List ByteArray)) : Option (Event × Bool) :=
 (if (decide ((x1.length : Int) < 2)) = true then
 some ((Event.mk 0 1 0 0 (Command.mk 0 0 0 (⟨#[]⟩ : ByteArray) (⟨#[]⟩ : ByteArray) (⟨#[]⟩ : ByteArray)) ([]) false 0 0),false)
 else
 (at? x1 1).bind fun x356 =>
 (spec_ReadDecimal N x356).bind fun y357 =>
 (if (!y357.2) = true then
 some ((Event.mk 0 1 0 0 (Command.mk 0 0 0 (⟨#[]⟩ : ByteArray) (⟨#[]⟩ : ByteArray) (⟨#[]⟩ : ByteArray)) ([]) false 0 0),false)
 else
 (at? x1 0).bind fun x475 =>
 (if (decide (x475 = (⟨#[116,105,99,107]⟩ : ByteArray))) = true then
 joinP (fun (v480 : Int) =>
 (if ((x1.length : Int) != 3) = true then
 some ((Event.mk v480 1 0 0 (Command.mk 0 0 0 (⟨#[]⟩ : ByteArray) (⟨#[]⟩ : ByteArray) (⟨#[]⟩ : ByteArray)) ([]) false 0 0),false)
 else
 (at? x1 2).bind fun x492 =>
 (spec_ReadDecimal N x492).bind fun y493 =>
 some ((Event.mk v480 y357.1 0 y493.1 (Command.mk 0 0 0 (⟨#[]⟩ : ByteArray) (⟨#[]⟩ : ByteArray) (⟨#[]⟩ : ByteArray)) ([]) false 0 0),y493.2))) fun j480 =>
 (at? x1 0).bind fun x482 =>
 (if (decide (x482 = (⟨#[117,112]⟩ : ByteArray))) = true then
 j480 9
 else
 j480 1)
 else
 (if (decide (x475 = (⟨#[117,112]⟩ : ByteArray))) = true then
 joinP (fun (v498 : Int) =>
 (if ((x1.length : Int) != 3) = true then
 some ((Event.mk v498 1 0 0 (Command.mk 0 0 0 (⟨#[]⟩ : ByteArray) (⟨#[]⟩ : ByteArray) (⟨#[]⟩ : ByteArray)) ([]) false 0 0),false)
 else
 (at? x1 2).bind fun x510 =>
 (spec_ReadDecimal N x510).bind fun y511 =>
 some ((Event.mk v498 y357.1 0 y511.1 (Command.mk 0 0 0 (⟨#[]⟩ : ByteArray) (⟨#[]⟩ : ByteArray) (⟨#[]⟩ : ByteArray)) ([]) false 0 0),y511.2))) fun j498 =>
 (at? x1 0).bind fun x500 =>
 (if (decide (x500 = (⟨#[117,112]⟩ : ByteArray))) = true then
 j498 9
 else
 j498 1)
 else
 (if (decide (x475 = (⟨#[100,101,108,105,118,101,114]⟩ : ByteArray))) = true then
 joinP (fun (v516 : Int) =>
 joinP (fun (v523 : Int) =>
 some ((Event.mk v523 1 y357.1 0 (Command.mk 0 0 0 (⟨#[]⟩ : ByteArray) (⟨#[]⟩ : ByteArray) (⟨#[]⟩ : ByteArray)) ([]) false 0 0),((x1.length : Int) == 2))) fun j523 =>
 (at? x1 0).bind fun x525 =>
 (if (decide (x525 = (⟨#[99,111,112,121]⟩ : ByteArray))) = true then
 j523 4
 else
 j523 v516)) fun j516 =>
 (at? x1 0).bind fun x518 =>
 (if (decide (x518 = (⟨#[100,114,111,112]⟩ : ByteArray))) = true then
 j516 3
 else
 j516 2)
 else
 (if (decide (x475 = (⟨#[100,114,111,112]⟩ : ByteArray))) = true then
 joinP (fun (v531 : Int) =>
 joinP (fun (v538 : Int) =>
 some ((Event.mk v538 1 y357.1 0 (Command.mk 0 0 0 (⟨#[]⟩ : ByteArray) (⟨#[]⟩ : ByteArray) (⟨#[]⟩ : ByteArray)) ([]) false 0 0),((x1.length : Int) == 2))) fun j538 =>
 (at? x1 0).bind fun x540 =>
 (if (decide (x540 = (⟨#[99,111,112,121]⟩ : ByteArray))) = true then
 j538 4
 else
 j538 v531)) fun j531 =>
 (at? x1 0).bind fun x533 =>
 (if (decide (x533 = (⟨#[100,114,111,112]⟩ : ByteArray))) = true then
 j531 3
 else
 j531 2)
 else
 (if (decide (x475 = (⟨#[99,111,112,121]⟩ : ByteArray))) = true then
 joinP (fun (v546 : Int) =>
 joinP (fun (v553 : Int) =>
 some ((Event.mk v553 1 y357.1 0 (Command.mk 0 0 0 (⟨#[]⟩ : ByteArray) (⟨#[]⟩ : ByteArray) (⟨#[]⟩ : ByteArray)) ([]) false 0 0),((x1.length : Int) == 2))) fun j553 =>
 (at? x1 0).bind fun x555 =>
 (if (decide (x555 = (⟨#[99,111,112,121]⟩ : ByteArray))) = true then
 j553 4
 else
 j553 v546)) fun j546 =>
 (at? x1 0).bind fun x548 =>
 (if (decide (x548 = (⟨#[100,114,111,112]⟩ : ByteArray))) = true then
 j546 3
 else
 j546 2)
 else
 (if (decide (x475 = (⟨#[109,101,114,103,101]⟩ : ByteArray))) = true then
 joinP (fun (v561 : Int) =>
 some ((Event.mk v561 y357.1 0 0 (Command.mk 0 0 0 (⟨#[]⟩ : ByteArray) (⟨#[]⟩ : ByteArray) (⟨#[]⟩ : ByteArray)) ([]) false 0 0),((x1.length : Int) == 2))) fun j561 =>
 (at? x1 0).bind fun x563 =>
 (if (decide (x563 = (⟨#[100,111,119,110]⟩ : ByteArray))) = true then
 j561 8
 else
 j561 7)
 else
 (if (decide (x475 = (⟨#[100,111,119,110]⟩ : ByteArray))) = true then
 joinP (fun (v569 : Int) =>
 some ((Event.mk v569 y357.1 0 0 (Command.mk 0 0 0 (⟨#[]⟩ : ByteArray) (⟨#[]⟩ : ByteArray) (⟨#[]⟩ : ByteArray)) ([]) false 0 0),((x1.length : Int) == 2))) fun j569 =>
 (at? x1 0).bind fun x571 =>
 (if (decide (x571 = (⟨#[100,111,119,110]⟩ : ByteArray))) = true then
 j569 8
 else
 j569 7)
 else
 (if (decide (x475 = (⟨#[99,111,110,102]⟩ : ByteArray))) = true then
 (if ((x1.length : Int) != 3) = true then
 some ((Event.mk 6 y357.1 0 0 (Command.mk 0 0 0 (⟨#[]⟩ : ByteArray) (⟨#[]⟩ : ByteArray) (⟨#[]⟩ : ByteArray)) ([]) false 0 0),false)
 else
 (at? x1 2).bind fun x582 =>
 (spec_l20Conf N x582).bind fun y583 =>
 some ((Event.mk 6 y357.1 0 0 (Command.mk 0 0 0 (⟨#[]⟩ : ByteArray) (⟨#[]⟩ : ByteArray) (⟨#[]⟩ : ByteArray)) y583.1 false 0 0),y583.2))
 else
 (at? x1 0).bind fun x593 =>
 (drop? x1 2).bind fun x594 =>
 (spec_l20Call N x593 x594).bind fun y595 =>
 some ((Event.mk 5 y357.1 0 0 y595.1 ([]) false 0 0),y595.2)))))))))))
theorem sem_spec_l20Event (N : Nat) (x1 : (List ByteArray)) (r : Event × Bool) (h : spec_l20Event N x1 = some r) : Says Tryz.prog 32 [RO 9 (x1.map encS)] 0 [] (.tup [.agg [VI r.1.Kind,VI r.1.Node,VI r.1.At,VI r.1.Limit,VI r.1.Command.Op,VI r.1.Command.Session,VI r.1.Command.Seq,VS r.1.Command.Key,VS r.1.Command.Value,VS r.1.Command.Old,.sl 0 3 0 r.1.Conf.length,VB r.1.Cut,VI r.1.Whole,VI r.1.Part],VB r.2]) [(0,.vec 3 (r.1.Conf.map encI))] := by
 unfold spec_l20Event at h
 refine Says.of_norm e Tryz.call32 e fun B hB => ?_
 have hm : B.m ≤ 1000 := by omega
 refine Run.so hm (.z 1000 (.al e e) e e (.p e (.nil (.so hm (.z 5096 (.bd e e) e e (.z 5112 (.al e e) e e (.y 5128 (.sto e e e e e e) e e (.nil (.seq (.so hm (.p e (.z 9208 (Ev.lnF e) e e (.p e (.nil (.condO e h (fun g349 h => ?_) (fun g349 h => ?_))))))))))))))))
 ·refine Run.so hm (.p e (.y 13304 (.sto e e e e e e) e e (.p e (.nil (.ret ?_)))))
  obtain rfl := someO h
  exact Ends.mkG (.inl e) e (Gh.trans (Gh.trans (gh_prn [0,1] [] hB e) (gh_nil [0] [] hB e e e)) (gh_pk [0,1] [10000000] hB e e e e)) e e
 ·refine Run.skip (.so hm (.p e ?_))
  obtain ⟨x356,hx356,h⟩ := bindO h
  refine Ops.z 17400 (Ev.iaF e e hx356) e e (.p e ?_)
  obtain ⟨y357,hy357,h⟩ := bindO h
  refine Ops.z 17432 (Ev.call [] [] 0 (sem_spec_ReadDecimal _ _ _ hy357) e e (.d1 .nil) e (.inl e) e e) e e (.p3 e e e (.p2 e e (.nil (.seq (.so hm (.p2 e e (.nil (.condO e h (fun g359 h => ?_) (fun g359 h => ?_)))))))))
  ·refine Run.so hm (.p e (.y 25592 (.sto e e e e e e) e e (.p e (.nil (.ret ?_)))))
   obtain rfl := someO h
   exact Ends.mkG (.inl e) e (Gh.trans (Gh.trans (gh_prn [0,1] [] hB e) (gh_nil [0] [] hB e e e)) (gh_pk [0,1] [10000000] hB e e e e)) e e
  ·refine Run.skip (.seq (.so hm (.p e ?_)))
   obtain ⟨x475,hx475,h⟩ := bindO h
   refine Ops.z 29688 (Ev.iaF e e hx475) e e (.p e (.nil (.block (.seq (.so hm (.p2 e e (.nil (.condO e h (fun g476 h => ?_) (fun g476 h => ?_)))))))))
   ·refine Run.skip (.condT e g476 (.so hm (.p e (.y 41976 (.sto e e e e e e) e e (.nil (.seqO h (fun v480 => [(0,RO 9 (x1.map encS)),(2,.ptr 0 0),(4,.ptr 1 0),(5,VI y357.1)]) (fun (v480 : Int) => [(0,.box [VI 0,VI 0,VI 0,VI 0,VI 0,VI 0,VI 0,VS (⟨#[]⟩ : ByteArray),VS (⟨#[]⟩ : ByteArray),VS (⟨#[]⟩ : ByteArray),.sl 2 3 0 (([] : List Int).length),VB false,VI 0,VI 0]),(1,.box [VI v480,VI 1,VI 0,VI 0,VI 0,VI 0,VI 0,VS (⟨#[]⟩ : ByteArray),VS (⟨#[]⟩ : ByteArray),VS (⟨#[]⟩ : ByteArray),.sl 3 3 0 (([] : List Int).length),VB false,VI 0,VI 0]),(2,.vec 3 (([] : List Int).map encI)),(3,.vec 3 (([] : List Int).map encI))]) (fun h => ?_) (fun v480 h => ?_)))))))
    ·refine Run.so hm (.p e ?_)
     obtain ⟨x482,hx482,h⟩ := bindO h
     refine Ops.z 46072 (Ev.iaF e e hx482) e e (.p2 e e (.nil (.condO e h (fun g483 h => ?_) (fun g483 h => ?_))))
     ·exact Run.ops hm (.p e (.y 50168 (.sto e e e e e e) e e (.nil (⟨_,_,(Gh.trans (Gh.trans (gh_prn [0,2,4,5] [1000,5112] hB e) (gh_nil [] [1000,5112] hB e e e)) (gh_pk [0,2,4,5] [1000,5112,20000000,20000064] hB e e e e)),_,h,e,e⟩))))
     ·exact Run.skip (⟨_,_,(Gh.trans (Gh.trans (gh_prn [0,2,4,5] [1000,5112] hB e) (gh_nil [] [1000,5112] hB e e e)) (gh_pk [0,2,4,5] [1000,5112,20000000,20000064] hB e e e e)),_,h,e,e⟩)
    ·refine Run.seq (.so hm (.p e (.z 54264 (Ev.lnF e) e e (.p e (.nil (.condO e h (fun g485 h => ?_) (fun g485 h => ?_)))))))
     ·refine Run.so hm (.p e (.y 58360 (.sto e e e e e e) e e (.p e (.nil (.ret ?_)))))
      obtain rfl := someO h
      exact Ends.mkG (.inl e) e (gh_pk [0,1] [3] hB e e e e) e e
     ·refine Run.skip (.so hm (.p e ?_))
      obtain ⟨x492,hx492,h⟩ := bindO h
      refine Ops.z 62456 (Ev.iaF e e hx492) e e (.p e ?_)
      obtain ⟨y493,hy493,h⟩ := bindO h
      refine Ops.z 62488 (Ev.call [] [] 0 (sem_spec_ReadDecimal _ _ _ hy493) e e (.d1 .nil) e (.inl e) e e) e e (.p3 e e e (.p2 e e (.nil (.so hm (.p2 e e (.y 66568 (.sto e e e e e e) e e (.nil (.so hm (.p2 e e (.y 70664 (.sto e e e e e e) e e (.nil (.so hm (.p2 e e (.y 74760 (.sto e e e e e e) e e (.p e (.nil (.ret ?_)))))))))))))))))
      obtain rfl := someO h
      exact Ends.mkG (.inl e) e (gh_pk [0,1] [3] hB e e e e) e e
   ·refine Run.ops hm (.p2 e e (.nil (.condO e h (fun g494 h => ?_) (fun g494 h => ?_))))
    ·refine Run.so hm (.p e (.y 41976 (.sto e e e e e e) e e (.nil (.seqO h (fun v498 => [(0,RO 9 (x1.map encS)),(2,.ptr 0 0),(4,.ptr 1 0),(5,VI y357.1)]) (fun (v498 : Int) => [(0,.box [VI 0,VI 0,VI 0,VI 0,VI 0,VI 0,VI 0,VS (⟨#[]⟩ : ByteArray),VS (⟨#[]⟩ : ByteArray),VS (⟨#[]⟩ : ByteArray),.sl 2 3 0 (([] : List Int).length),VB false,VI 0,VI 0]),(1,.box [VI v498,VI 1,VI 0,VI 0,VI 0,VI 0,VI 0,VS (⟨#[]⟩ : ByteArray),VS (⟨#[]⟩ : ByteArray),VS (⟨#[]⟩ : ByteArray),.sl 3 3 0 (([] : List Int).length),VB false,VI 0,VI 0]),(2,.vec 3 (([] : List Int).map encI)),(3,.vec 3 (([] : List Int).map encI))]) (fun h => ?_) (fun v498 h => ?_)))))
     ·refine Run.so hm (.p e ?_)
      obtain ⟨x500,hx500,h⟩ := bindO h
      refine Ops.z 46072 (Ev.iaF e e hx500) e e (.p2 e e (.nil (.condO e h (fun g501 h => ?_) (fun g501 h => ?_))))
      ·exact Run.ops hm (.p e (.y 50168 (.sto e e e e e e) e e (.nil (⟨_,_,(Gh.trans (Gh.trans (gh_prn [0,2,4,5] [1000,5112] hB e) (gh_nil [] [1000,5112] hB e e e)) (gh_pk [0,2,4,5] [1000,5112,20000000,20000064] hB e e e e)),_,h,e,e⟩))))
      ·exact Run.skip (⟨_,_,(Gh.trans (Gh.trans (gh_prn [0,2,4,5] [1000,5112] hB e) (gh_nil [] [1000,5112] hB e e e)) (gh_pk [0,2,4,5] [1000,5112,20000000,20000064] hB e e e e)),_,h,e,e⟩)
     ·refine Run.seq (.so hm (.p e (.z 54264 (Ev.lnF e) e e (.p e (.nil (.condO e h (fun g503 h => ?_) (fun g503 h => ?_)))))))
      ·refine Run.so hm (.p e (.y 58360 (.sto e e e e e e) e e (.p e (.nil (.ret ?_)))))
       obtain rfl := someO h
       exact Ends.mkG (.inl e) e (gh_pk [0,1] [3] hB e e e e) e e
      ·refine Run.skip (.so hm (.p e ?_))
       obtain ⟨x510,hx510,h⟩ := bindO h
       refine Ops.z 62456 (Ev.iaF e e hx510) e e (.p e ?_)
       obtain ⟨y511,hy511,h⟩ := bindO h
       refine Ops.z 62488 (Ev.call [] [] 0 (sem_spec_ReadDecimal _ _ _ hy511) e e (.d1 .nil) e (.inl e) e e) e e (.p3 e e e (.p2 e e (.nil (.so hm (.p2 e e (.y 66568 (.sto e e e e e e) e e (.nil (.so hm (.p2 e e (.y 70664 (.sto e e e e e e) e e (.nil (.so hm (.p2 e e (.y 74760 (.sto e e e e e e) e e (.p e (.nil (.ret ?_)))))))))))))))))
       obtain rfl := someO h
       exact Ends.mkG (.inl e) e (gh_pk [0,1] [3] hB e e e e) e e
    ·refine Run.seq (.so hm (.p2 e e (.nil (.condO e h (fun g512 h => ?_) (fun g512 h => ?_)))))
     ·refine Run.skip (.condT e g512 (.so hm (.p e (.y 91128 (.sto e e e e e e) e e (.nil (.seqO h (fun v516 => [(0,RO 9 (x1.map encS)),(2,.ptr 0 0),(4,.ptr 1 0),(5,VI y357.1)]) (fun (v516 : Int) => [(0,.box [VI 0,VI 0,VI 0,VI 0,VI 0,VI 0,VI 0,VS (⟨#[]⟩ : ByteArray),VS (⟨#[]⟩ : ByteArray),VS (⟨#[]⟩ : ByteArray),.sl 2 3 0 (([] : List Int).length),VB false,VI 0,VI 0]),(1,.box [VI v516,VI 1,VI 0,VI 0,VI 0,VI 0,VI 0,VS (⟨#[]⟩ : ByteArray),VS (⟨#[]⟩ : ByteArray),VS (⟨#[]⟩ : ByteArray),.sl 3 3 0 (([] : List Int).length),VB false,VI 0,VI 0]),(2,.vec 3 (([] : List Int).map encI)),(3,.vec 3 (([] : List Int).map encI))]) (fun h => ?_) (fun v516 h => ?_)))))))
      ·refine Run.so hm (.p e ?_)
       obtain ⟨x518,hx518,h⟩ := bindO h
       refine Ops.z 95224 (Ev.iaF e e hx518) e e (.p2 e e (.nil (.condO e h (fun g519 h => ?_) (fun g519 h => ?_))))
       ·exact Run.ops hm (.p e (.y 99320 (.sto e e e e e e) e e (.nil (⟨_,_,(Gh.trans (Gh.trans (gh_prn [0,2,4,5] [1000,5112] hB e) (gh_nil [] [1000,5112] hB e e e)) (gh_pk [0,2,4,5] [1000,5112,20000000,20000064] hB e e e e)),_,h,e,e⟩))))
       ·exact Run.skip (⟨_,_,(Gh.trans (Gh.trans (gh_prn [0,2,4,5] [1000,5112] hB e) (gh_nil [] [1000,5112] hB e e e)) (gh_pk [0,2,4,5] [1000,5112,20000000,20000064] hB e e e e)),_,h,e,e⟩)
      ·refine Run.seqO h (fun v523 => [(0,RO 9 (x1.map encS)),(2,.ptr 0 0),(4,.ptr 1 0),(5,VI y357.1)]) (fun (v523 : Int) => [(0,.box [VI 0,VI 0,VI 0,VI 0,VI 0,VI 0,VI 0,VS (⟨#[]⟩ : ByteArray),VS (⟨#[]⟩ : ByteArray),VS (⟨#[]⟩ : ByteArray),.sl 2 3 0 (([] : List Int).length),VB false,VI 0,VI 0]),(1,.box [VI v523,VI 1,VI 0,VI 0,VI 0,VI 0,VI 0,VS (⟨#[]⟩ : ByteArray),VS (⟨#[]⟩ : ByteArray),VS (⟨#[]⟩ : ByteArray),.sl 3 3 0 (([] : List Int).length),VB false,VI 0,VI 0]),(2,.vec 3 (([] : List Int).map encI)),(3,.vec 3 (([] : List Int).map encI))]) (fun h => ?_) (fun v523 h => ?_)
       ·refine Run.so hm (.p e ?_)
        obtain ⟨x525,hx525,h⟩ := bindO h
        refine Ops.z 103416 (Ev.iaF e e hx525) e e (.p2 e e (.nil (.condO e h (fun g526 h => ?_) (fun g526 h => ?_))))
        ·exact Run.ops hm (.p e (.y 107512 (.sto e e e e e e) e e (.nil (⟨_,_,(gh_pk [0,2,4,5] [0,1,2,3] hB e e e e),_,h,e,e⟩))))
        ·exact Run.skip (⟨_,_,(gh_pk [0,2,4,5] [0,1,2,3] hB e e e e),_,h,e,e⟩)
       ·refine Run.so hm (.p2 e e (.y 111624 (.sto e e e e e e) e e (.nil (.so hm (.p2 e e (.z 115720 (Ev.lnF e) e e (.p e (.y 115752 (.sto e e e e e e) e e (.p e (.nil (.ret ?_)))))))))))
        obtain rfl := someO h
        exact Ends.mkG (.inl e) e (gh_pk [0,1] [3] hB e e e e) e e
     ·refine Run.so hm (.p2 e e (.nil (.condO e h (fun g527 h => ?_) (fun g527 h => ?_))))
      ·refine Run.skip (.condT e g527 (.so hm (.p e (.y 91128 (.sto e e e e e e) e e (.nil (.seqO h (fun v531 => [(0,RO 9 (x1.map encS)),(2,.ptr 0 0),(4,.ptr 1 0),(5,VI y357.1)]) (fun (v531 : Int) => [(0,.box [VI 0,VI 0,VI 0,VI 0,VI 0,VI 0,VI 0,VS (⟨#[]⟩ : ByteArray),VS (⟨#[]⟩ : ByteArray),VS (⟨#[]⟩ : ByteArray),.sl 2 3 0 (([] : List Int).length),VB false,VI 0,VI 0]),(1,.box [VI v531,VI 1,VI 0,VI 0,VI 0,VI 0,VI 0,VS (⟨#[]⟩ : ByteArray),VS (⟨#[]⟩ : ByteArray),VS (⟨#[]⟩ : ByteArray),.sl 3 3 0 (([] : List Int).length),VB false,VI 0,VI 0]),(2,.vec 3 (([] : List Int).map encI)),(3,.vec 3 (([] : List Int).map encI))]) (fun h => ?_) (fun v531 h => ?_)))))))
       ·refine Run.so hm (.p e ?_)
        obtain ⟨x533,hx533,h⟩ := bindO h
        refine Ops.z 95224 (Ev.iaF e e hx533) e e (.p2 e e (.nil (.condO e h (fun g534 h => ?_) (fun g534 h => ?_))))
        ·exact Run.ops hm (.p e (.y 99320 (.sto e e e e e e) e e (.nil (⟨_,_,(Gh.trans (Gh.trans (gh_prn [0,2,4,5] [1000,5112] hB e) (gh_nil [] [1000,5112] hB e e e)) (gh_pk [0,2,4,5] [1000,5112,20000000,20000064] hB e e e e)),_,h,e,e⟩))))
        ·exact Run.skip (⟨_,_,(Gh.trans (Gh.trans (gh_prn [0,2,4,5] [1000,5112] hB e) (gh_nil [] [1000,5112] hB e e e)) (gh_pk [0,2,4,5] [1000,5112,20000000,20000064] hB e e e e)),_,h,e,e⟩)
       ·refine Run.seqO h (fun v538 => [(0,RO 9 (x1.map encS)),(2,.ptr 0 0),(4,.ptr 1 0),(5,VI y357.1)]) (fun (v538 : Int) => [(0,.box [VI 0,VI 0,VI 0,VI 0,VI 0,VI 0,VI 0,VS (⟨#[]⟩ : ByteArray),VS (⟨#[]⟩ : ByteArray),VS (⟨#[]⟩ : ByteArray),.sl 2 3 0 (([] : List Int).length),VB false,VI 0,VI 0]),(1,.box [VI v538,VI 1,VI 0,VI 0,VI 0,VI 0,VI 0,VS (⟨#[]⟩ : ByteArray),VS (⟨#[]⟩ : ByteArray),VS (⟨#[]⟩ : ByteArray),.sl 3 3 0 (([] : List Int).length),VB false,VI 0,VI 0]),(2,.vec 3 (([] : List Int).map encI)),(3,.vec 3 (([] : List Int).map encI))]) (fun h => ?_) (fun v538 h => ?_)
        ·refine Run.so hm (.p e ?_)
         obtain ⟨x540,hx540,h⟩ := bindO h
         refine Ops.z 103416 (Ev.iaF e e hx540) e e (.p2 e e (.nil (.condO e h (fun g541 h => ?_) (fun g541 h => ?_))))
         ·exact Run.ops hm (.p e (.y 107512 (.sto e e e e e e) e e (.nil (⟨_,_,(gh_pk [0,2,4,5] [0,1,2,3] hB e e e e),_,h,e,e⟩))))
         ·exact Run.skip (⟨_,_,(gh_pk [0,2,4,5] [0,1,2,3] hB e e e e),_,h,e,e⟩)
        ·refine Run.so hm (.p2 e e (.y 111624 (.sto e e e e e e) e e (.nil (.so hm (.p2 e e (.z 115720 (Ev.lnF e) e e (.p e (.y 115752 (.sto e e e e e e) e e (.p e (.nil (.ret ?_)))))))))))
         obtain rfl := someO h
         exact Ends.mkG (.inl e) e (gh_pk [0,1] [3] hB e e e e) e e
      ·refine Run.ops hm (.p2 e e (.nil (.condO e h (fun g542 h => ?_) (fun g542 h => ?_))))
       ·refine Run.so hm (.p e (.y 91128 (.sto e e e e e e) e e (.nil (.seqO h (fun v546 => [(0,RO 9 (x1.map encS)),(2,.ptr 0 0),(4,.ptr 1 0),(5,VI y357.1)]) (fun (v546 : Int) => [(0,.box [VI 0,VI 0,VI 0,VI 0,VI 0,VI 0,VI 0,VS (⟨#[]⟩ : ByteArray),VS (⟨#[]⟩ : ByteArray),VS (⟨#[]⟩ : ByteArray),.sl 2 3 0 (([] : List Int).length),VB false,VI 0,VI 0]),(1,.box [VI v546,VI 1,VI 0,VI 0,VI 0,VI 0,VI 0,VS (⟨#[]⟩ : ByteArray),VS (⟨#[]⟩ : ByteArray),VS (⟨#[]⟩ : ByteArray),.sl 3 3 0 (([] : List Int).length),VB false,VI 0,VI 0]),(2,.vec 3 (([] : List Int).map encI)),(3,.vec 3 (([] : List Int).map encI))]) (fun h => ?_) (fun v546 h => ?_)))))
        ·refine Run.so hm (.p e ?_)
         obtain ⟨x548,hx548,h⟩ := bindO h
         refine Ops.z 95224 (Ev.iaF e e hx548) e e (.p2 e e (.nil (.condO e h (fun g549 h => ?_) (fun g549 h => ?_))))
         ·exact Run.ops hm (.p e (.y 99320 (.sto e e e e e e) e e (.nil (⟨_,_,(Gh.trans (Gh.trans (gh_prn [0,2,4,5] [1000,5112] hB e) (gh_nil [] [1000,5112] hB e e e)) (gh_pk [0,2,4,5] [1000,5112,20000000,20000064] hB e e e e)),_,h,e,e⟩))))
         ·exact Run.skip (⟨_,_,(Gh.trans (Gh.trans (gh_prn [0,2,4,5] [1000,5112] hB e) (gh_nil [] [1000,5112] hB e e e)) (gh_pk [0,2,4,5] [1000,5112,20000000,20000064] hB e e e e)),_,h,e,e⟩)
        ·refine Run.seqO h (fun v553 => [(0,RO 9 (x1.map encS)),(2,.ptr 0 0),(4,.ptr 1 0),(5,VI y357.1)]) (fun (v553 : Int) => [(0,.box [VI 0,VI 0,VI 0,VI 0,VI 0,VI 0,VI 0,VS (⟨#[]⟩ : ByteArray),VS (⟨#[]⟩ : ByteArray),VS (⟨#[]⟩ : ByteArray),.sl 2 3 0 (([] : List Int).length),VB false,VI 0,VI 0]),(1,.box [VI v553,VI 1,VI 0,VI 0,VI 0,VI 0,VI 0,VS (⟨#[]⟩ : ByteArray),VS (⟨#[]⟩ : ByteArray),VS (⟨#[]⟩ : ByteArray),.sl 3 3 0 (([] : List Int).length),VB false,VI 0,VI 0]),(2,.vec 3 (([] : List Int).map encI)),(3,.vec 3 (([] : List Int).map encI))]) (fun h => ?_) (fun v553 h => ?_)
         ·refine Run.so hm (.p e ?_)
          obtain ⟨x555,hx555,h⟩ := bindO h
          refine Ops.z 103416 (Ev.iaF e e hx555) e e (.p2 e e (.nil (.condO e h (fun g556 h => ?_) (fun g556 h => ?_))))
          ·exact Run.ops hm (.p e (.y 107512 (.sto e e e e e e) e e (.nil (⟨_,_,(gh_pk [0,2,4,5] [0,1,2,3] hB e e e e),_,h,e,e⟩))))
          ·exact Run.skip (⟨_,_,(gh_pk [0,2,4,5] [0,1,2,3] hB e e e e),_,h,e,e⟩)
         ·refine Run.so hm (.p2 e e (.y 111624 (.sto e e e e e e) e e (.nil (.so hm (.p2 e e (.z 115720 (Ev.lnF e) e e (.p e (.y 115752 (.sto e e e e e e) e e (.p e (.nil (.ret ?_)))))))))))
          obtain rfl := someO h
          exact Ends.mkG (.inl e) e (gh_pk [0,1] [3] hB e e e e) e e
       ·refine Run.seq (.so hm (.p2 e e (.nil (.condO e h (fun g557 h => ?_) (fun g557 h => ?_)))))
        ·refine Run.skip (.condT e g557 (.so hm (.p e (.y 127992 (.sto e e e e e e) e e (.nil (.seqO h (fun v561 => [(0,RO 9 (x1.map encS)),(2,.ptr 0 0),(4,.ptr 1 0),(5,VI y357.1)]) (fun (v561 : Int) => [(0,.box [VI 0,VI 0,VI 0,VI 0,VI 0,VI 0,VI 0,VS (⟨#[]⟩ : ByteArray),VS (⟨#[]⟩ : ByteArray),VS (⟨#[]⟩ : ByteArray),.sl 2 3 0 (([] : List Int).length),VB false,VI 0,VI 0]),(1,.box [VI v561,VI 1,VI 0,VI 0,VI 0,VI 0,VI 0,VS (⟨#[]⟩ : ByteArray),VS (⟨#[]⟩ : ByteArray),VS (⟨#[]⟩ : ByteArray),.sl 3 3 0 (([] : List Int).length),VB false,VI 0,VI 0]),(2,.vec 3 (([] : List Int).map encI)),(3,.vec 3 (([] : List Int).map encI))]) (fun h => ?_) (fun v561 h => ?_)))))))
         ·refine Run.so hm (.p e ?_)
          obtain ⟨x563,hx563,h⟩ := bindO h
          refine Ops.z 132088 (Ev.iaF e e hx563) e e (.p2 e e (.nil (.condO e h (fun g564 h => ?_) (fun g564 h => ?_))))
          ·exact Run.ops hm (.p e (.y 136184 (.sto e e e e e e) e e (.nil (⟨_,_,(Gh.trans (Gh.trans (gh_prn [0,2,4,5] [1000,5112] hB e) (gh_nil [] [1000,5112] hB e e e)) (gh_pk [0,2,4,5] [1000,5112,20000000,20000064] hB e e e e)),_,h,e,e⟩))))
          ·exact Run.skip (⟨_,_,(Gh.trans (Gh.trans (gh_prn [0,2,4,5] [1000,5112] hB e) (gh_nil [] [1000,5112] hB e e e)) (gh_pk [0,2,4,5] [1000,5112,20000000,20000064] hB e e e e)),_,h,e,e⟩)
         ·refine Run.so hm (.p2 e e (.y 140296 (.sto e e e e e e) e e (.nil (.so hm (.p2 e e (.z 144392 (Ev.lnF e) e e (.p e (.y 144424 (.sto e e e e e e) e e (.p e (.nil (.ret ?_)))))))))))
          obtain rfl := someO h
          exact Ends.mkG (.inl e) e (gh_pk [0,1] [3] hB e e e e) e e
        ·refine Run.ops hm (.p2 e e (.nil (.condO e h (fun g565 h => ?_) (fun g565 h => ?_))))
         ·refine Run.so hm (.p e (.y 127992 (.sto e e e e e e) e e (.nil (.seqO h (fun v569 => [(0,RO 9 (x1.map encS)),(2,.ptr 0 0),(4,.ptr 1 0),(5,VI y357.1)]) (fun (v569 : Int) => [(0,.box [VI 0,VI 0,VI 0,VI 0,VI 0,VI 0,VI 0,VS (⟨#[]⟩ : ByteArray),VS (⟨#[]⟩ : ByteArray),VS (⟨#[]⟩ : ByteArray),.sl 2 3 0 (([] : List Int).length),VB false,VI 0,VI 0]),(1,.box [VI v569,VI 1,VI 0,VI 0,VI 0,VI 0,VI 0,VS (⟨#[]⟩ : ByteArray),VS (⟨#[]⟩ : ByteArray),VS (⟨#[]⟩ : ByteArray),.sl 3 3 0 (([] : List Int).length),VB false,VI 0,VI 0]),(2,.vec 3 (([] : List Int).map encI)),(3,.vec 3 (([] : List Int).map encI))]) (fun h => ?_) (fun v569 h => ?_)))))
          ·refine Run.so hm (.p e ?_)
           obtain ⟨x571,hx571,h⟩ := bindO h
           refine Ops.z 132088 (Ev.iaF e e hx571) e e (.p2 e e (.nil (.condO e h (fun g572 h => ?_) (fun g572 h => ?_))))
           ·exact Run.ops hm (.p e (.y 136184 (.sto e e e e e e) e e (.nil (⟨_,_,(Gh.trans (Gh.trans (gh_prn [0,2,4,5] [1000,5112] hB e) (gh_nil [] [1000,5112] hB e e e)) (gh_pk [0,2,4,5] [1000,5112,20000000,20000064] hB e e e e)),_,h,e,e⟩))))
           ·exact Run.skip (⟨_,_,(Gh.trans (Gh.trans (gh_prn [0,2,4,5] [1000,5112] hB e) (gh_nil [] [1000,5112] hB e e e)) (gh_pk [0,2,4,5] [1000,5112,20000000,20000064] hB e e e e)),_,h,e,e⟩)
          ·refine Run.so hm (.p2 e e (.y 140296 (.sto e e e e e e) e e (.nil (.so hm (.p2 e e (.z 144392 (Ev.lnF e) e e (.p e (.y 144424 (.sto e e e e e e) e e (.p e (.nil (.ret ?_)))))))))))
           obtain rfl := someO h
           exact Ends.mkG (.inl e) e (gh_pk [0,1] [3] hB e e e e) e e
         ·refine Run.so hm (.p2 e e (.nil (.condO e h (fun g573 h => ?_) (fun g573 h => ?_))))
          ·refine Run.so hm (.p e (.y 152568 (.sto e e e e e e) e e (.nil (.so hm (.p2 e e (.y 156680 (.sto e e e e e e) e e (.nil (.seq (.so hm (.p e (.z 160760 (Ev.lnF e) e e (.p e (.nil (.condO e h (fun g575 h => ?_) (fun g575 h => ?_)))))))))))))))
           ·refine Run.so hm (.p e (.y 164856 (.sto e e e e e e) e e (.p e (.nil (.ret ?_)))))
            obtain rfl := someO h
            exact Ends.mkG (.inl e) e (Gh.trans (Gh.trans (gh_prn [0,1] [] hB e) (gh_nil [0] [] hB e e e)) (gh_pk [0,1] [10000000] hB e e e e)) e e
           ·refine Run.skip (.so hm (.p e ?_))
            obtain ⟨x582,hx582,h⟩ := bindO h
            refine Ops.z 168952 (Ev.iaF e e hx582) e e (.p e ?_)
            obtain ⟨y583,hy583,h⟩ := bindO h
            refine Ops.z 168984 (Ev.call [] [] 1 (sem_spec_l20Conf _ _ _ hy583) e e (.d1 .nil) e (.inl e) e e) e e (.p3 e e e (.p2 e e (.nil (.so hm (.p2 e e (.y 173064 (.sto e e e e e e) e e (.nil (.so hm (.p2 e e (.y 177160 (.sto e e e e e e) e e (.p e (.nil (.ret ?_)))))))))))))
            obtain rfl := someO h
            exact Ends.mkG (.inl e) e (gh_pk [0,1] [168984] hB e e e e) e e
          ·refine Run.skip (.so hm (.p e (.y 181240 (.sto e e e e e e) e e (.nil (.so hm (.p2 e e (.y 185352 (.sto e e e e e e) e e (.nil (.seq (.draw hm hmix (.p e ?_)))))))))))
           obtain ⟨x593,hx593,h⟩ := bindO h
           refine OpsD.z 189432 (Ev.iaF e e hx593) e e (.p e (.p e ?_))
           obtain ⟨x594,hx594,h⟩ := bindO h
           refine OpsD.z 189480 (Ev.slFl e e hx594) e e ?_
           obtain ⟨y595,hy595,h⟩ := bindO h
           refine OpsD.z 189496 (Ev.call [] [] 0 (sem_spec_l20Call _ _ _ _ hy595) e e (.d2 .nil) e (.inl e) e e) e e (.p e (.p e (.p e (.z 189560 (.al e e) e e (.y 189576 (.sto e e e e e e) e e (.p e (.nil ⟨by kernel_rfl,?_⟩)))))))
           refine Run.so hm (.p2 e e (.y 193544 (.sto e e e e e e) e e (.nil (.so hm (.p2 e e (.y 197640 (.sto e e e e e e) e e (.p e (.nil (.ret ?_)))))))))
           obtain rfl := someO h
           exact Ends.mkG (.inl e) e (Gh.trans (Gh.trans (gh_prn [0,1] [] hB e) (gh_nil [0] [] hB e e e)) (gh_pk [0,1] [10000000] hB e e e e)) e e
def spec_CommandOk (N : Nat) (x1 : Command) : Option (Bool) :=
 (spec_l01In N x1.Op 1 5).bind fun y167 =>
 (if (!y167) = true then
 some false
 else
 (spec_l01In N x1.Session 0 100000).bind fun y169 =>
 (if (!y169) = true then
 some false
 else
 (spec_l01In N x1.Seq 0 100000).bind fun y171 =>
 (if (!y171) = true then
 some false
 else
 (if (decide ((x1.Value.size : Int) > 12)) = true then
 some false
 else
 (if (decide ((x1.Old.size : Int) > 12)) = true then
 some false
 else
 (if (x1.Op == 1) = true then
 some (((x1.Op == 1) && ((x1.Session == 0) && ((x1.Seq == 0) && (decide (x1.Key = (⟨#[]⟩ : ByteArray)) && (decide (x1.Value = (⟨#[]⟩ : ByteArray)) && (decide (x1.Old = (⟨#[]⟩ : ByteArray)) && true)))))) ^^ false)
 else
 (spec_l01In N (x1.Key.size : Int) 1 9).bind fun y181 =>
 (if (!y181) = true then
 some false
 else
 (if (x1.Op == 2) = true then
 (if (decide (x1.Value = (⟨#[]⟩ : ByteArray))) = true then
 some (decide (x1.Old = (⟨#[]⟩ : ByteArray)))
 else
 some false)
 else
 (if (x1.Op == 4) = true then
 (if (decide (x1.Value = (⟨#[]⟩ : ByteArray))) = true then
 some (decide (x1.Old = (⟨#[]⟩ : ByteArray)))
 else
 some false)
 else
 (if (x1.Op == 3) = true then
 some (decide (x1.Old = (⟨#[]⟩ : ByteArray)))
 else
 some true))))))))))
theorem sem_spec_CommandOk (N : Nat) (x1 : Command) (r : Bool) (h : spec_CommandOk N x1 = some r) : Says Tryz.prog 62 [.agg [VI x1.Op,VI x1.Session,VI x1.Seq,VS x1.Key,VS x1.Value,VS x1.Old]] 0 [] (VB r) [] := by
 unfold spec_CommandOk at h
 refine Says.of_run s62 Tryz.call62 e fun B hB => ?_
 have hm : B.m ≤ 1000 := by omega
 refine Run.so hm (.z 1000 (.bx e e) e e (.p e (.nil (.seq (.so hm (.p2 e e ?_))))))
 obtain ⟨y167,hy167,h⟩ := bindO h
 refine Ops.z 5128 (Ev.call [] [] 0 (sem_spec_l01In _ _ _ _ _ hy167) e e (.d2 (.d1 .nil)) e (.inl e) e e) e e (.p2 e e (.askO (x := .t 7) e h (fun g168 h => ?_) (fun g168 h => ?_)))
 ·refine Ops.gn e g168 (.gn e g168 (.gn e g168 (.gn e g168 (.z 5240 (.pkT e g168 e) e e (.p e (.gn e e (.gn e e (.gn e e (.gn e e (.z 5336 (.pkT e e e) e e (.p e (.gn e e (.gn e e (.gn e e (.gn e e (.z 5432 (.pkT e e e) e e (.p e (.gn e e (.gn e e (.gn e e (.gn e e (.z 5528 (.pkT e e e) e e (.nil (.condT e e (.so hm (.p e (.nil (.ret ?_))))))))))))))))))))))))))))
  obtain rfl := someO h
  exact Ends.mkG (.inl e) e (gh_pk [0] [] hB e e e e) e e
 ·refine Ops.gp e g168 e (.gp e g168 e ?_)
  obtain ⟨y169,hy169,h⟩ := bindO h
  refine Ops.gs (s := 5208) e g168 (Ev.call [] [] 0 (sem_spec_l01In _ _ _ _ _ hy169) e e (.d2 (.d1 .nil)) e (.inl e) e e) e e (.gp e g168 e (.z 5240 (.pkF e g168 e) e e (.p e (.askO (x := .t 13) e h (fun g170 h => ?_) (fun g170 h => ?_)))))
  ·refine Ops.gn e g170 (.gn e g170 (.gn e g170 (.gn e g170 (.z 5336 (.pkT e g170 e) e e (.p e (.gn e e (.gn e e (.gn e e (.gn e e (.z 5432 (.pkT e e e) e e (.p e (.gn e e (.gn e e (.gn e e (.gn e e (.z 5528 (.pkT e e e) e e (.nil (.condT e e (.so hm (.p e (.nil (.ret ?_))))))))))))))))))))))
   obtain rfl := someO h
   exact Ends.mkG (.inl e) e (gh_pk [0] [] hB e e e e) e e
  ·refine Ops.gp e g170 e (.gp e g170 e ?_)
   obtain ⟨y171,hy171,h⟩ := bindO h
   refine Ops.gs (s := 5304) e g170 (Ev.call [] [] 0 (sem_spec_l01In _ _ _ _ _ hy171) e e (.d2 (.d1 .nil)) e (.inl e) e e) e e (.gp e g170 e (.z 5336 (.pkF e g170 e) e e (.p e (.askO (x := .t 19) e h (fun g172 h => ?_) (fun g172 h => ?_)))))
   ·refine Ops.gn e g172 (.gn e g172 (.gn e g172 (.gn e g172 (.z 5432 (.pkT e g172 e) e e (.p e (.gn e e (.gn e e (.gn e e (.gn e e (.z 5528 (.pkT e e e) e e (.nil (.condT e e (.so hm (.p e (.nil (.ret ?_))))))))))))))))
    obtain rfl := someO h
    exact Ends.mkG (.inl e) e (gh_pk [0] [] hB e e e e) e e
   ·refine Ops.gp e g172 e (.gp e g172 e (.gp e g172 e (.gp e g172 e (.z 5432 (.pkF e g172 e) e e (.p e (.askO (x := .t 25) e h (fun g173 h => ?_) (fun g173 h => ?_)))))))
    ·refine Ops.gn e g173 (.gn e g173 (.gn e g173 (.gn e g173 (.z 5528 (.pkT e g173 e) e e (.nil (.condT e e (.so hm (.p e (.nil (.ret ?_))))))))))
     obtain rfl := someO h
     exact Ends.mkG (.inl e) e (gh_pk [0] [] hB e e e e) e e
    ·refine Ops.gp e g173 e (.gp e g173 e (.gp e g173 e (.gp e g173 e (.z 5528 (.pkF e g173 e) e e (.nil (.condO e h (fun g174 h => ?_) (fun g174 h => ?_)))))))
     ·refine Run.so hm (.p e (.nil (.ret ?_)))
      obtain rfl := someO h
      exact Ends.mkG (.inl e) e (gh_pk [0] [] hB e e e e) e e
     ·refine Run.skip (.seq (.so hm (.p3 e e e (.nil (.condO e h (fun g176 h => ?_) (fun g176 h => ?_))))))
      ·refine Run.so hm (.p e (.z 17400 (.bd e e) e e (.p2 e e (.nil (.ret ?_)))))
       obtain rfl := someO h
       exact Ends.mkG (.inl e) e (gh_pk [0] [] hB e e e e) e e
      ·refine Run.skip (.seq (.so hm (.p3 e e e ?_)))
       obtain ⟨y181,hy181,h⟩ := bindO h
       refine Ops.z 21528 (Ev.call [] [] 0 (sem_spec_l01In _ _ _ _ _ hy181) e e (.d2 (.d1 .nil)) e (.inl e) e e) e e (.p e (.nil (.condO e h (fun g182 h => ?_) (fun g182 h => ?_))))
       ·refine Run.so hm (.p e (.nil (.ret ?_)))
        obtain rfl := someO h
        exact Ends.mkG (.inl e) e (gh_pk [0] [] hB e e e e) e e
       ·refine Run.skip (.seq (.so hm (.p2 e e (.nil (.block (.seq (.so hm (.p2 e e (.nil (.condO e h (fun g183 h => ?_) (fun g183 h => ?_)))))))))))
        ·refine Run.skip (.condT e g183 (.so hm (.p3 e e e (.p e (.askO (x := .t 50) e h (fun g185 h => ?_) (fun g185 h => ?_))))))
         ·refine Ops.gp e g185 e (.gp e g185 e (.gp e g185 e (.z 42072 (.pkT e g185 e) e e (.p e (.nil (.ret ?_))))))
          obtain rfl := someO h
          exact Ends.mkG (.inl e) e (gh_pk [0] [] hB e e e e) e e
         ·refine Ops.gn e g185 (.gn e g185 (.gn e g185 (.z 42072 (.pkF e g185 e) e e (.p e (.nil (.ret ?_))))))
          obtain rfl := someO h
          exact Ends.mkG (.inl e) e (gh_pk [0] [] hB e e e e) e e
        ·refine Run.ops hm (.p2 e e (.nil (.condO e h (fun g186 h => ?_) (fun g186 h => ?_))))
         ·refine Run.so hm (.p3 e e e (.p e (.askO (x := .t 50) e h (fun g188 h => ?_) (fun g188 h => ?_))))
          ·refine Ops.gp e g188 e (.gp e g188 e (.gp e g188 e (.z 42072 (.pkT e g188 e) e e (.p e (.nil (.ret ?_))))))
           obtain rfl := someO h
           exact Ends.mkG (.inl e) e (gh_pk [0] [] hB e e e e) e e
          ·refine Ops.gn e g188 (.gn e g188 (.gn e g188 (.z 42072 (.pkF e g188 e) e e (.p e (.nil (.ret ?_))))))
           obtain rfl := someO h
           exact Ends.mkG (.inl e) e (gh_pk [0] [] hB e e e e) e e
         ·refine Run.so hm (.p2 e e (.nil (.condO e h (fun g189 h => ?_) (fun g189 h => ?_))))
          ·refine Run.so hm (.p3 e e e (.p e (.nil (.ret ?_))))
           obtain rfl := someO h
           exact Ends.mkG (.inl e) e (gh_pk [0] [] hB e e e e) e e
          ·refine Run.skip (.so hm (.p e (.nil (.ret ?_))))
           obtain rfl := someO h
           exact Ends.mkG (.inl e) e (gh_pk [0] [] hB e e e e) e e
def spec_EventOk (N : Nat) (x1 : Int) (x2 : Event) : Option (Bool) :=
 (spec_l01In N x1 1 4).bind fun y161 =>
 (if (!y161) = true then
 some false
 else
 (spec_l01In N x2.Kind 1 9).bind fun y163 =>
 (if (!y163) = true then
 some false
 else
 (spec_l01In N x2.Node 1 x1).bind fun y165 =>
 (if (!y165) = true then
 some false
 else
 (if (decide (x2.At < 0)) = true then
 some false
 else
 (if (x2.Kind == 1) = true then
 (spec_l01In N x2.Limit 1 20).bind fun y170 =>
 some y170
 else
 (if (x2.Kind == 9) = true then
 (spec_l01In N x2.Limit 1 20).bind fun y173 =>
 some y173
 else
 (if (x2.Kind == 5) = true then
 (spec_CommandOk N x2.Command).bind fun y176 =>
 some y176
 else
 (if (x2.Kind == 6) = true then
 (spec_ConfOk N x2.Conf).bind fun y181 =>
 (if y181 = true then
 (at? x2.Conf (w64 ((x2.Conf.length : Int) - 1))).bind fun x183 =>
 some (decide (x183 ≤ x1))
 else
 some false)
 else
 some true))))))))
theorem sem_spec_EventOk (N : Nat) (x1 : Int) (x2 : Event) (r : Bool) (h : spec_EventOk N x1 x2 = some r) : Says Tryz.prog 33 [VI x1,.agg [VI x2.Kind,VI x2.Node,VI x2.At,VI x2.Limit,VI x2.Command.Op,VI x2.Command.Session,VI x2.Command.Seq,VS x2.Command.Key,VS x2.Command.Value,VS x2.Command.Old,RO 3 (x2.Conf.map encI),VB x2.Cut,VI x2.Whole,VI x2.Part]] 0 [] (VB r) [] := by
 unfold spec_EventOk at h
 refine Says.of_norm e Tryz.call33 e fun B hB => ?_
 have hm : B.m ≤ 1000 := by omega
 refine Run.so hm (.z 1000 (.bx e e) e e (.p e (.nil (.seq (.so hm (.p e ?_))))))
 obtain ⟨y161,hy161,h⟩ := bindO h
 refine Ops.z 5112 (Ev.call [] [] 0 (sem_spec_l01In _ _ _ _ _ hy161) e e (.d2 (.d1 .nil)) e (.inl e) e e) e e (.p2 e e (.askO (x := .t 8) e h (fun g162 h => ?_) (fun g162 h => ?_)))
 ·refine Ops.gn e g162 (.gn e g162 (.gn e g162 (.gn e g162 (.z 5224 (.pkT e g162 e) e e (.p e (.gn e e (.gn e e (.gn e e (.gn e e (.gn e e (.z 5336 (.pkT e e e) e e (.p e (.gn e e (.gn e e (.gn e e (.z 5416 (.pkT e e e) e e (.nil (.condT e e (.so hm (.p e (.nil (.ret ?_))))))))))))))))))))))
  obtain rfl := someO h
  exact Ends.mkG (.inl e) e (gh_pk [0] [] hB e e e e) e e
 ·refine Ops.gp e g162 e (.gp e g162 e ?_)
  obtain ⟨y163,hy163,h⟩ := bindO h
  refine Ops.gs (s := 5192) e g162 (Ev.call [] [] 0 (sem_spec_l01In _ _ _ _ _ hy163) e e (.d2 (.d1 .nil)) e (.inl e) e e) e e (.gp e g162 e (.z 5224 (.pkF e g162 e) e e (.p e (.askO (x := .t 14) e h (fun g164 h => ?_) (fun g164 h => ?_)))))
  ·refine Ops.gn e g164 (.gn e g164 (.gn e g164 (.gn e g164 (.gn e g164 (.z 5336 (.pkT e g164 e) e e (.p e (.gn e e (.gn e e (.gn e e (.z 5416 (.pkT e e e) e e (.nil (.condT e e (.so hm (.p e (.nil (.ret ?_))))))))))))))))
   obtain rfl := someO h
   exact Ends.mkG (.inl e) e (gh_pk [0] [] hB e e e e) e e
  ·refine Ops.gp e g164 e (.gp e g164 e (.gp e g164 e ?_))
   obtain ⟨y165,hy165,h⟩ := bindO h
   refine Ops.gs (s := 5304) e g164 (Ev.call [] [] 0 (sem_spec_l01In _ _ _ _ _ hy165) e e (.d2 (.d1 .nil)) e (.inl e) e e) e e (.gp e g164 e (.z 5336 (.pkF e g164 e) e e (.p e (.askO (x := .t 21) e h (fun g166 h => ?_) (fun g166 h => ?_)))))
   ·refine Ops.gn e g166 (.gn e g166 (.gn e g166 (.z 5416 (.pkT e g166 e) e e (.nil (.condT e e (.so hm (.p e (.nil (.ret ?_)))))))))
    obtain rfl := someO h
    exact Ends.mkG (.inl e) e (gh_pk [0] [] hB e e e e) e e
   ·refine Ops.gp e g166 e (.gp e g166 e (.gp e g166 e (.z 5416 (.pkF e g166 e) e e (.nil (.condO e h (fun g167 h => ?_) (fun g167 h => ?_))))))
    ·refine Run.so hm (.p e (.nil (.ret ?_)))
     obtain rfl := someO h
     exact Ends.mkG (.inl e) e (gh_pk [0] [] hB e e e e) e e
    ·refine Run.skip (.seq (.so hm (.p2 e e (.nil (.block (.seq (.so hm (.p2 e e (.nil (.condO e h (fun g168 h => ?_) (fun g168 h => ?_)))))))))))
     ·refine Run.skip (.condT e g168 (.so hm (.p2 e e ?_)))
      obtain ⟨y170,hy170,h⟩ := bindO h
      refine Ops.z 25608 (Ev.call [] [] 0 (sem_spec_l01In _ _ _ _ _ hy170) e e (.d2 (.d1 .nil)) e (.inl e) e e) e e (.p e (.nil (.ret ?_)))
      obtain rfl := someO h
      exact Ends.mkG (.inl e) e (gh_pk [0] [] hB e e e e) e e
     ·refine Run.ops hm (.p2 e e (.nil (.condO e h (fun g171 h => ?_) (fun g171 h => ?_))))
      ·refine Run.so hm (.p2 e e ?_)
       obtain ⟨y173,hy173,h⟩ := bindO h
       refine Ops.z 25608 (Ev.call [] [] 0 (sem_spec_l01In _ _ _ _ _ hy173) e e (.d2 (.d1 .nil)) e (.inl e) e e) e e (.p e (.nil (.ret ?_)))
       obtain rfl := someO h
       exact Ends.mkG (.inl e) e (gh_pk [0] [] hB e e e e) e e
      ·refine Run.so hm (.p2 e e (.nil (.condO e h (fun g174 h => ?_) (fun g174 h => ?_))))
       ·refine Run.so hm (.p2 e e ?_)
        obtain ⟨y176,hy176,h⟩ := bindO h
        refine Ops.z 33800 (Ev.call [] [] 0 (sem_spec_CommandOk _ _ _ hy176) e e (.cons (.agg (.d4 (.d2 .nil))) .nil) e (.inl e) e e) e e (.p e (.nil (.ret ?_)))
        obtain rfl := someO h
        exact Ends.mkG (.inl e) e (gh_pk [0] [] hB e e e e) e e
       ·refine Run.so hm (.p2 e e (.nil (.condO e h (fun g177 h => ?_) (fun g177 h => ?_))))
        ·refine Run.so hm (.p2 e e ?_)
         obtain ⟨y181,hy181,h⟩ := bindO h
         refine Ops.z 41992 (Ev.call [] [] 0 (sem_spec_ConfOk _ _ _ hy181) e e (.d1 .nil) e (.inl e) e e) e e (.p e (.askO (x := .t 44) e h (fun g182 h => ?_) (fun g182 h => ?_)))
         ·refine Ops.gp e g182 e (.gp e g182 e (.gp e g182 e (.gp e g182 e (.gs (s := 42088) e g182 (Ev.lnF e) e e (.gp e g182 e ?_)))))
          obtain ⟨x183,hx183,h⟩ := bindO h
          refine Ops.gs (s := 42120) e g182 (Ev.iaF e e hx183) e e (.gp e g182 e (.gp e g182 e (.gp e g182 e (.z 42184 (.pkT e g182 e) e e (.p e (.nil (.ret ?_)))))))
          obtain rfl := someO h
          exact Ends.mkG (.inl e) e (gh_pk [0] [] hB e e e e) e e
         ·refine Ops.gn e g182 (.gn e g182 (.gn e g182 (.gn e g182 (.gn e g182 (.gn e g182 (.gn e g182 (.gn e g182 (.gn e g182 (.gn e g182 (.z 42184 (.pkF e g182 e) e e (.p e (.nil (.ret ?_)))))))))))))
          obtain rfl := someO h
          exact Ends.mkG (.inl e) e (gh_pk [0] [] hB e e e e) e e
        ·refine Run.skip (.so hm (.p e (.nil (.ret ?_))))
         obtain rfl := someO h
         exact Ends.mkG (.inl e) e (gh_pk [0] [] hB e e e e) e e
def spec_l20Line (N : Nat) (x1 : Int) (x2 : (List ByteArray)) : Option (Event × Bool) :=
 joinP (fun (v179 : (List ByteArray) × Bool × (List Int)) =>
 (spec_l20Event N v179.1).bind fun y198 =>
 (if (!v179.2.1) = true then
 some ((Event.mk 0 0 0 0 (Command.mk 0 0 0 (⟨#[]⟩ : ByteArray) (⟨#[]⟩ : ByteArray) (⟨#[]⟩ : ByteArray)) ([]) false 0 0),false)
 else
 (if (!y198.2) = true then
 some ((Event.mk 0 0 0 0 (Command.mk 0 0 0 (⟨#[]⟩ : ByteArray) (⟨#[]⟩ : ByteArray) (⟨#[]⟩ : ByteArray)) ([]) false 0 0),false)
 else
 (spec_EventOk N x1 y198.1).bind fun y211 =>
 (if (!y211) = true then
 some ((Event.mk 0 0 0 0 (Command.mk 0 0 0 (⟨#[]⟩ : ByteArray) (⟨#[]⟩ : ByteArray) (⟨#[]⟩ : ByteArray)) ([]) false 0 0),false)
 else
 joinP (fun (v220 : Bool × Int × Int) =>
 some ((Event.mk y198.1.Kind y198.1.Node y198.1.At y198.1.Limit y198.1.Command y198.1.Conf v220.1 v220.2.1 v220.2.2),true)) fun j220 =>
 (if (((v179.2.2.length : Nat) : Int) == 2) = true then
 (at? v179.2.2 0).bind fun x225 =>
 (at? v179.2.2 1).bind fun x227 =>
 j220 (true,x225,x227)
 else
 j220 (y198.1.Cut,y198.1.Whole,y198.1.Part)))))) fun j179 =>
 (at? x2 0).bind fun x181 =>
 (if (decide (x181 = (⟨#[112,111,119,101,114]⟩ : ByteArray))) = true then
 (if (decide ((x2.length : Int) < 4)) = true then
 some ((Event.mk 0 0 0 0 (Command.mk 0 0 0 (⟨#[]⟩ : ByteArray) (⟨#[]⟩ : ByteArray) (⟨#[]⟩ : ByteArray)) ([]) false 0 0),false)
 else
 (cut? x2 1 3).bind fun x191 =>
 (spec_l20Nums N x191).bind fun y192 =>
 (drop? x2 3).bind fun x194 =>
 j179 (x194,y192.2,y192.1))
 else
 j179 (x2,true,([] : List Int)))
theorem sem_spec_l20Line (N : Nat) (x1 : Int) (x2 : (List ByteArray)) (r : Event × Bool) (h : spec_l20Line N x1 x2 = some r) : Says Tryz.prog 17 [VI x1,RO 9 (x2.map encS)] 0 [] (.tup [.agg [VI r.1.Kind,VI r.1.Node,VI r.1.At,VI r.1.Limit,VI r.1.Command.Op,VI r.1.Command.Session,VI r.1.Command.Seq,VS r.1.Command.Key,VS r.1.Command.Value,VS r.1.Command.Old,.sl 0 3 0 r.1.Conf.length,VB r.1.Cut,VI r.1.Whole,VI r.1.Part],VB r.2]) [(0,.vec 3 (r.1.Conf.map encI))] := by
 unfold spec_l20Line at h
 refine Says.of_norm e Tryz.call17 e fun B hB => ?_
 have hm : B.m ≤ 1000 := by omega
 refine Run.so hm (.z 1000 (.al e e) e e (.p e (.nil (.so hm (.p2 e e (.nil (.so hm (.z 9192 (Ev.bsW (ys := ([] : List Int)) (f := encI) e .nil e e e e e) e e (.p e (.nil (.so hm (.p e (.nil (.seqO h (fun v179 => [(0,VI x1),(4,.ptr 0 0),(6,RO 9 (v179.1.map encS)),(7,.sl 1 3 0 v179.2.2.length),(8,VB v179.2.1)]) (fun (v179 : (List ByteArray) × Bool × (List Int)) => [(0,.box [VI 0,VI 0,VI 0,VI 0,VI 0,VI 0,VI 0,VS (⟨#[]⟩ : ByteArray),VS (⟨#[]⟩ : ByteArray),VS (⟨#[]⟩ : ByteArray),.sl 2 3 0 (([] : List Int).length),VB false,VI 0,VI 0]),(1,.vec 3 (v179.2.2.map encI)),(2,.vec 3 (([] : List Int).map encI))]) (fun h => ?_) (fun v179 h => ?_)))))))))))))))
 ·refine Run.so hm (.p e ?_)
  obtain ⟨x181,hx181,h⟩ := bindO h
  refine Ops.z 17400 (Ev.iaF e e hx181) e e (.p2 e e (.nil (.condO e h (fun g182 h => ?_) (fun g182 h => ?_))))
  ·refine Run.seq (.so hm (.p e (.z 21496 (Ev.lnF e) e e (.p e (.nil (.condO e h (fun g184 h => ?_) (fun g184 h => ?_)))))))
   ·refine Run.so hm (.z 25576 (.bd e e) e e (.y 25592 (.sto e e e e e e) e e (.p e (.nil (.ret ?_)))))
    obtain rfl := someO h
    exact Ends.mkG (.inl e) e (Gh.trans (Gh.trans (gh_prn [0,1] [] hB e) (gh_nil [0] [] hB e e e)) (gh_pk [0,1] [10000000] hB e e e e)) e e
   ·refine Run.skip (.so hm (.p e ?_))
    obtain ⟨x191,hx191,h⟩ := bindO h
    refine Ops.z 29688 (Ev.slF e e e hx191) e e ?_
    obtain ⟨y192,hy192,h⟩ := bindO h
    refine Ops.z 29704 (Ev.call [] [] 1 (sem_spec_l20Nums _ _ _ hy192) e e (.d1 .nil) e (.inl e) e e) e e (.p3 e e e (.p2 e e (.nil (.ops hm (.p e ?_)))))
    obtain ⟨x194,hx194,h⟩ := bindO h
    exact Ops.z 33784 (Ev.slFl e e hx194) e e (.p e (.nil (⟨_,_,(Gh.trans (Gh.trans (gh_prn [0,4,6,7,8] [1000,29704] hB e) (gh_nil [] [1000] hB e e e)) (gh_pk [0,4,6,7,8] [1000,29704,20000000] hB e e e e)),_,h,e,e⟩)))
  ·exact Run.skip (⟨_,_,(Gh.trans (Gh.trans (gh_prn [0,4,6,7,8] [1000,9192] hB e) (gh_nil [] [1000] hB e e e)) (gh_pk [0,4,6,7,8] [1000,9192,20000000] hB e e e e)),_,h,e,e⟩)
 ·refine Run.so hm (.p e ?_)
  obtain ⟨y198,hy198,h⟩ := bindO h
  refine Ops.z 37880 (Ev.call [] [] 1 (sem_spec_l20Event _ _ _ hy198) e e (.d1 .nil) e (.inl e) e e) e e (.p3 e e e (.z 37944 (.al e e) e e (.y 37960 (.sto e e e e e e) e e (.p e (.nil (.seq (.so hm (.p3 e e e (.askO (x := .t 36) e h (fun g209 h => ?_) (fun g209 h => ?_))))))))))
  ·refine Ops.gn e g209 (.gn e g209 (.z 42040 (.pkT e g209 e) e e (.p e (.gn e e (.gn e e (.gn e e (.gn e e (.z 42136 (.pkT e e e) e e (.nil (.condT e e (.so hm (.z 46056 (.bd e e) e e (.y 46072 (.sto e e e e e e) e e (.p e (.nil (.ret ?_))))))))))))))))
   obtain rfl := someO h
   exact Ends.mkG (.inl e) e (Gh.trans (Gh.trans (gh_prn [0,1] [] hB e) (gh_nil [0] [] hB e e e)) (gh_pk [0,1] [10000000] hB e e e e)) e e
  ·refine Ops.gp e g209 e (.gp e g209 e (.z 42040 (.pkF e g209 e) e e (.p e (.askO (x := .t 40) e h (fun g210 h => ?_) (fun g210 h => ?_)))))
   ·refine Ops.gn e g210 (.gn e g210 (.gn e g210 (.gn e g210 (.z 42136 (.pkT e g210 e) e e (.nil (.condT e e (.so hm (.z 46056 (.bd e e) e e (.y 46072 (.sto e e e e e e) e e (.p e (.nil (.ret ?_))))))))))))
    obtain rfl := someO h
    exact Ends.mkG (.inl e) e (Gh.trans (Gh.trans (gh_prn [0,1] [] hB e) (gh_nil [0] [] hB e e e)) (gh_pk [0,1] [10000000] hB e e e e)) e e
   ·refine Ops.gp e g210 e (.gp e g210 e ?_)
    obtain ⟨y211,hy211,h⟩ := bindO h
    refine Ops.gs (s := 42104) e g210 (Ev.call [] [37880] 0 (sem_spec_EventOk _ _ _ _ hy211) e e (.d1 (.cons (.agg (.d4 (.d4 (.d2 (.cons (.borrow e (by decide) (lendW (fun _ => e) _ e)) (.d2 (.d1 .nil))))))) .nil)) e (.inr ⟨e,ownL_root trivial⟩) e e) e e ?_
    refine Ops.gp e g210 e (.z 42136 (.pkF e g210 e) e e (.nil (.condO e h (fun g212 h => ?_) (fun g212 h => ?_))))
    ·refine Run.so hm (.z 46056 (.bd e e) e e (.y 46072 (.sto e e e e e e) e e (.p e (.nil (.ret ?_)))))
     obtain rfl := someO h
     exact Ends.mkG (.inl e) e (Gh.trans (Gh.trans (gh_prn [0,1] [] hB e) (gh_nil [0] [] hB e e e)) (gh_pk [0,1] [10000000] hB e e e e)) e e
    ·refine Run.skip (.seqO h (fun v220 => [(4,.ptr 0 0),(9,.ptr 1 0)]) (fun (v220 : Bool × Int × Int) => [(0,.box [VI 0,VI 0,VI 0,VI 0,VI 0,VI 0,VI 0,VS (⟨#[]⟩ : ByteArray),VS (⟨#[]⟩ : ByteArray),VS (⟨#[]⟩ : ByteArray),.sl 2 3 0 (([] : List Int).length),VB false,VI 0,VI 0]),(1,.box [VI y198.1.Kind,VI y198.1.Node,VI y198.1.At,VI y198.1.Limit,VI y198.1.Command.Op,VI y198.1.Command.Session,VI y198.1.Command.Seq,VS y198.1.Command.Key,VS y198.1.Command.Value,VS y198.1.Command.Old,.sl 3 3 0 y198.1.Conf.length,VB v220.1,VI v220.2.1,VI v220.2.2]),(2,.vec 3 (([] : List Int).map encI)),(3,.vec 3 (y198.1.Conf.map encI))]) (fun h => ?_) (fun v220 h => ?_))
     ·refine Run.so hm (.p3 e e e (.nil (.condO e h (fun g221 h => ?_) (fun g221 h => ?_))))
      ·refine Run.so hm (.p e (.y 54264 (.sto e e e e e e) e e (.nil (.so hm (.p e ?_)))))
       obtain ⟨x225,hx225,h⟩ := bindO h
       refine Ops.z 58360 (Ev.iaW e e e hx225) e e (.z 58376 (Ev.ldE (f := encI) e e (at_some hx225).2 e e e) e e (.p e (.y 58408 (.sto e e e e e e) e e (.nil (.ops hm (.p e ?_))))))
       obtain ⟨x227,hx227,h⟩ := bindO h
       exact Ops.z 62456 (Ev.iaW e e e hx227) e e (.z 62472 (Ev.ldE (f := encI) e e (at_some hx227).2 e e e) e e (.p e (.y 62504 (.sto e e e e e e) e e (.nil (⟨_,_,(gh_pk [4,9] [0,37944,2,37880] hB e e e e),_,h,e,e⟩)))))
      ·exact Run.skip (⟨_,_,(gh_pk [4,9] [0,37944,2,37880] hB e e e e),_,h,e,e⟩)
     ·refine Run.so hm (.p e (.y 66552 (.sto e e e e e e) e e (.p e (.nil (.ret ?_)))))
      obtain rfl := someO h
      exact Ends.mkG (.inl e) e (gh_pk [0,1] [3] hB e e e e) e e
def spec_ReadScript_l1 (N : Nat) (y1144 : (List ByteArray)) : Nat → Int → Int → (List Int) → (List Event) → Option ((Int × (List Int) × (List Event) × Int) ⊕ (Int × (List Int) × (List Event)))
 | 0,_,_,_,_ => none
 | m + 1,x1653,x1654,x1657,x1658 =>
 (if (decide (x1654 < ((y1144.length : Nat) : Int))) = true then
 joinP (fun (v2036 : Int × (List Int) × (List Event)) =>
 spec_ReadScript_l1 N y1144 m v2036.1 (w64 (x1654 + 1)) v2036.2.1 v2036.2.2) fun j2036 =>
 (at? y1144 x1654).bind fun x2043 =>
 (spec_PartsOf N x2043).bind fun y2044 =>
 joinP (fun (v2054 : Unit) =>
 (if (!y2044.2) = true then
 some (Sum.inl (0,([] : List Int),([] : List Event),w64 (x1654 + 1)))
 else
 (if (x1653 == 0) = true then
 (if (((y2044.1.length : Nat) : Int) != 3) = true then
 some (Sum.inl (0,([] : List Int),([] : List Event),w64 (x1654 + 1)))
 else
 (at? y2044.1 0).bind fun x2116 =>
 (if (!decide (x2116 = (⟨#[99,108,117,115,116,101,114]⟩ : ByteArray))) = true then
 some (Sum.inl (0,([] : List Int),([] : List Event),w64 (x1654 + 1)))
 else
 (at? y2044.1 1).bind fun x2124 =>
 (spec_ReadDecimal N x2124).bind fun y2125 =>
 (at? y2044.1 2).bind fun x2132 =>
 (spec_l20Conf N x2132).bind fun y2133 =>
 (spec_WorldNew N y2125.1 y2133.1).bind fun y2137 =>
 (if (!y2125.2) = true then
 some (Sum.inl (0,([] : List Int),([] : List Event),w64 (x1654 + 1)))
 else
 (if (!y2133.2) = true then
 some (Sum.inl (0,([] : List Int),([] : List Event),w64 (x1654 + 1)))
 else
 (if (!y2137.2) = true then
 some (Sum.inl (0,([] : List Int),([] : List Event),w64 (x1654 + 1)))
 else
 j2036 (y2125.1,y2133.1,x1658))))))
 else
 (spec_l20Line N x1653 y2044.1).bind fun y2151 =>
 (if (!y2151.2) = true then
 some (Sum.inl (0,([] : List Int),([] : List Event),w64 (x1654 + 1)))
 else
 (if (((x1658.length : Nat) : Int) == 60) = true then
 some (Sum.inl (0,([] : List Int),([] : List Event),w64 (x1654 + 1)))
 else
 (cat? x1658 ([y2151.1] : List Event)).bind fun x2159 =>
 j2036 (x1653,x1657,x2159)))))) fun j2054 =>
 (if y2044.2 = true then
 (if (((y2044.1.length : Nat) : Int) == 0) = true then
 j2036 (x1653,x1657,x1658)
 else
 (at? y2044.1 0).bind fun x2061 =>
 (sat? x2061 0).bind fun x2062 =>
 (if (x2062 == 35) = true then
 j2036 (x1653,x1657,x1658)
 else
 j2054 ()))
 else
 j2054 ())
 else
 some (Sum.inr (x1653,x1657,x1658)))
def spec_ReadScript (N : Nat) (x1 : ByteArray) : Option (Int × (List Int) × (List Event) × Int) :=
 (if (decide ((x1.size : Int) > 8000)) = true then
 some (0,([] : List Int),([] : List Event),(-1 : Int))
 else
 (spec_l20Lines N x1).bind fun y1139 =>
 (if (decide (((y1139.length : Nat) : Int) > 90)) = true then
 some (0,([] : List Int),([] : List Event),(-1 : Int))
 else
 (spec_l20Lines N x1).bind fun y1144 =>
 joinP (fun (v1652 : Int × (List Int) × (List Event)) =>
 (if (v1652.1 == 0) = true then
 some (0,([] : List Int),([] : List Event),1)
 else
 some (v1652.1,v1652.2.1,v1652.2.2,0))) fun j1652 =>
 (spec_ReadScript_l1 N y1144 N 0 0 ([] : List Int) ([] : List Event)).bind (Sum.elim (fun v1908 => some v1908) (fun (v1909 : Int × (List Int) × (List Event)) => j1652 (v1909.1,v1909.2.1,v1909.2.2)))))
theorem sem_spec_ReadScript (N : Nat) (x1 : ByteArray) (r : Int × (List Int) × (List Event) × Int) (h : spec_ReadScript N x1 = some r) : Says Tryz.prog 4 [VS x1] 0 [] (.tup [VI r.1,.sl 0 3 0 r.2.1.length,.sl 1 53 0 r.2.2.1.length,VI r.2.2.2]) [(0,.vec 3 (r.2.1.map encI)),(1,.vec 53 (r.2.2.1.map (encEvent true)))] := by
 unfold spec_ReadScript at h
 refine Says.of_norm e Tryz.call4 e fun B hB => ?_
 have hm : B.m ≤ 1000 := by omega
 refine Run.so hm (.p3 e e e (.p e (.nil (.so hm (.z 5096 (Ev.bsW (ys := ([] : List Event)) (f := (encEvent true)) e .nil e e e e e) e e (.p e (.nil (.seq (.so hm (.p3 e e e (.p e (.askO (x := .t 26) e h (fun g1138 h => ?_) (fun g1138 h => ?_)))))))))))))
 ·refine Ops.gn e g1138 (.gn e g1138 (.gn e g1138 (.gn e g1138 (.z 9320 (.pkT e g1138 e) e e (.nil (.condT e e (.so hm (.z 13288 (Ev.bsW (ys := ([] : List Int)) (f := encI) e .nil e e e e e) e e (.p3 e e e (.p2 e e (.nil (.ret ?_))))))))))))
  obtain rfl := someO h
  exact Ends.mkG (.inl e) e (gh_pk [0,1,2,3] [13288,5096] hB e e e e) e e
 ·refine Ops.gp e g1138 e ?_
  obtain ⟨y1139,hy1139,h⟩ := bindO h
  refine Ops.gs (s := 9272) e g1138 (Ev.call [] [] 1 (sem_spec_l20Lines _ _ _ hy1139) e e (.d1 .nil) e (.inl e) e e) e e (.gp e g1138 e (.gp e g1138 e (.z 9320 (.pkF e g1138 e) e e (.nil (.condO e h (fun g1140 h => ?_) (fun g1140 h => ?_))))))
  ·refine Run.so hm (.z 13288 (Ev.bsW (ys := ([] : List Int)) (f := encI) e .nil e e e e e) e e (.p3 e e e (.p2 e e (.nil (.ret ?_)))))
   obtain rfl := someO h
   exact Ends.mkG (.inl e) e (gh_pk [0,1,2,3] [13288,5096] hB e e e e) e e
  ·refine Run.skip (.so hm (.p e ?_))
   obtain ⟨y1144,hy1144,h⟩ := bindO h
   refine Ops.z 17400 (Ev.call [] [] 1 (sem_spec_l20Lines _ _ _ hy1144) e e (.d1 .nil) e (.inl e) e e) e e (.p e (.nil (.so hm (.p e (.nil (.so hm (.z 25576 (Ev.bsW (ys := ([] : List Int)) (f := encI) e .nil e e e e e) e e (.p e (.nil (.so hm (.z 29672 (Ev.bsW (ys := ([] : List Event)) (f := (encEvent true)) e .nil e e e e e) e e (.p e (.nil (.seqO h (fun v1652 => [(6,.sl 0 53 0 (([] : List Event).length)),(8,VI v1652.1),(9,.sl 1 3 0 v1652.2.1.length),(10,.sl 2 53 0 v1652.2.2.length)]) (fun (v1652 : Int × (List Int) × (List Event)) => [(0,.vec 53 (([] : List Event).map (encEvent true))),(1,.vec 3 (v1652.2.1.map encI)),(2,.vec 53 (v1652.2.2.map (encEvent true)))]) (fun h => ?_) (fun v1652 h => ?_)))))))))))))))
   ·refine Run.so hm (.p e (.nil (.block ?_)))
    obtain ⟨res1909,h,hk1909⟩ := bindO h
    refine Run.loop (n := N) (fun m1909 fr σ => ∃ (x1653 : Int),∃ (x1654 : Int),∃ (x1657 : (List Int)),∃ (x1658 : (List Event)),spec_ReadScript_l1 N y1144 m1909 x1653 x1654 x1657 x1658 = some res1909 ∧ fr = [(6,.sl 0 53 0 (([] : List Event).length)),(7,.sl 1 9 0 y1144.length),(8,VI x1653),(9,.sl 2 3 0 x1657.length),(10,.sl 3 53 0 x1658.length),(11,VI x1654)] ∧ σ = [(0,.vec 53 (([] : List Event).map (encEvent true))),(1,.vec 9 (y1144.map encS)),(2,.vec 3 (x1657.map encI)),(3,.vec 53 (x1658.map (encEvent true)))]) (gh_pk [6,7,8,9,10,11] [5096,17400,25576,29672] hB e e e e) ⟨_,_,_,_,h,e,e⟩ ?_
    rintro m1909 fr σ ⟨x1653,x1654,x1657,x1658,h,rfl,rfl⟩
    obtain _ | m1909 := m1909
    ·rw [spec_ReadScript_l1] at h; cases h
    rw [spec_ReadScript_l1] at h
    refine Run.seq (.so hm (.p3 e e e (.p e (.nil (.condO e h (fun g1912 h => ?_) (fun g1912 h => ?_))))))
    ·refine Run.skip (.seqO h (fun v2036 => [(6,.sl 0 53 0 (([] : List Event).length)),(7,.sl 1 9 0 y1144.length),(8,VI v2036.1),(9,.sl 2 3 0 v2036.2.1.length),(10,.sl 3 53 0 v2036.2.2.length),(11,VI x1654)]) (fun (v2036 : Int × (List Int) × (List Event)) => [(0,.vec 53 (([] : List Event).map (encEvent true))),(1,.vec 9 (y1144.map encS)),(2,.vec 3 (v2036.2.1.map encI)),(3,.vec 53 (v2036.2.2.map (encEvent true)))]) (fun h => ?_) (fun v2036 h => ?_))
     ·refine Run.block (.so hm (.p2 e e ?_))
      obtain ⟨x2043,hx2043,h⟩ := bindO h
      refine Ops.z 46088 (Ev.iaW e e e hx2043) e e (.z 46104 (Ev.ldE (f := encS) e e (at_some hx2043).2 e e e) e e ?_)
      obtain ⟨y2044,hy2044,h⟩ := bindO h
      refine Ops.z 46120 (Ev.call [] [] 1 (sem_spec_PartsOf _ _ _ hy2044) e e (.d1 .nil) e (.inl e) e e) e e (.p3 e e e (.p2 e e (.nil (.seqO h (fun v2054 => [(6,.sl 0 53 0 (([] : List Event).length)),(7,.sl 1 9 0 y1144.length),(8,VI x1653),(9,.sl 2 3 0 x1657.length),(10,.sl 3 53 0 x1658.length),(11,VI x1654),(12,.sl 4 9 0 y2044.1.length),(13,VB y2044.2)]) (fun (v2054 : Unit) => [(0,.vec 53 (([] : List Event).map (encEvent true))),(1,.vec 9 (y1144.map encS)),(2,.vec 3 (x1657.map encI)),(3,.vec 53 (x1658.map (encEvent true))),(4,.vec 9 (y2044.1.map encS))]) (fun h => ?_) (fun v2054 h => ?_)))))
      ·refine Run.so hm (.p2 e e (.askO (x := .t 53) e h (fun g2059 h => ?_) (fun g2059 h => ?_)))
       ·refine Ops.gp e g2059 e (.gp e g2059 e (.gp e g2059 e (.gp e g2059 e (.askO (x := .t 57) e h (fun g2060 h => ?_) (fun g2060 h => ?_)))))
        ·exact Ops.gn e g2060 (.gn e g2060 (.gn e g2060 (.gn e g2060 (.gn e g2060 (.gs (s := 50328) e g2059 (.pkT e g2060 e) e e (.z 50344 (.pkT e g2059 e) e e (.nil (.condT e e (.exit (⟨_,_,(gh_pk [6,7,8,9,10,11] [0,1,2,3] hB e e e e),_,h,e,e⟩))))))))))
        ·refine Ops.gp e g2060 e ?_
         obtain ⟨x2061,hx2061,h⟩ := bindO h
         refine Ops.gs (s := 50264) e g2060 (Ev.iaW e e e hx2061) e e (.gs (s := 50280) e g2060 (Ev.ldE (f := encS) e e (at_some hx2061).2 e e e) e e ?_)
         obtain ⟨x2062,hx2062,h⟩ := bindO h
         refine Ops.gs (s := 50296) e g2060 (Ev.ixS e e hx2062) e e (.gp e g2060 e (.gs (s := 50328) e g2059 (.pkF e g2060 e) e e (.z 50344 (.pkT e g2059 e) e e (.nil (.condO e h (fun g2063 h => ?_) (fun g2063 h => ?_))))))
         ·exact Run.exit (⟨_,_,(gh_pk [6,7,8,9,10,11] [0,1,2,3] hB e e e e),_,h,e,e⟩)
         ·exact Run.skip (⟨_,_,(gh_pk [6,7,8,9,10,11,12,13] [0,1,2,3,46120] hB e e e e),(),h,e,e⟩)
       ·exact Ops.gn e g2059 (.gn e g2059 (.gn e g2059 (.gn e g2059 (.gu e (.gu e (.gu e (.gu e (.gu e (.gn e g2059 (.z 50344 (.pkF e g2059 e) e e (.nil (.condF e e (.skip (⟨_,_,(gh_pk [6,7,8,9,10,11,12,13] [0,1,2,3,46120] hB e e e e),(),h,e,e⟩))))))))))))))
      ·refine Run.seq (.so hm (.p2 e e (.nil (.condO e h (fun g2065 h => ?_) (fun g2065 h => ?_)))))
       ·refine Run.so hm (.z 58344 (Ev.bsW (ys := ([] : List Int)) (f := encI) e .nil e e e e e) e e (.p3 e e e (.p3 e e e (.p e (.nil (.ret ?_))))))
        obtain rfl := someO h
        have h := hk1909
        replace h := inlO h
        obtain rfl := someO h
        exact Ends.mkG (.inl e) e (gh_pk [0,1,2,3] [58344,0] hB e e e e) e e
       ·refine Run.skip (.seq (.so hm (.p2 e e (.nil (.condO e h (fun g2107 h => ?_) (fun g2107 h => ?_))))))
        ·refine Run.seq (.so hm (.p3 e e e (.p e (.askO (x := .t 76) e h (fun g2115 h => ?_) (fun g2115 h => ?_)))))
         ·refine Ops.gn e g2115 (.gn e g2115 (.gn e g2115 (.gn e g2115 (.z 66664 (.pkT e g2115 e) e e (.nil (.condT e e (.so hm (.z 70632 (Ev.bsW (ys := ([] : List Int)) (f := encI) e .nil e e e e e) e e (.p3 e e e (.p3 e e e (.p e (.nil (.ret ?_)))))))))))))
          obtain rfl := someO h
          have h := hk1909
          replace h := inlO h
          obtain rfl := someO h
          exact Ends.mkG (.inl e) e (gh_pk [0,1,2,3] [70632,0] hB e e e e) e e
         ·refine Ops.gp e g2115 e ?_
          obtain ⟨x2116,hx2116,h⟩ := bindO h
          refine Ops.gs (s := 66616) e g2115 (Ev.iaW e e e hx2116) e e (.gs (s := 66632) e g2115 (Ev.ldE (f := encS) e e (at_some hx2116).2 e e e) e e (.gp e g2115 e (.z 66664 (.pkF e g2115 e) e e (.nil (.condO e h (fun g2117 h => ?_) (fun g2117 h => ?_))))))
          ·refine Run.so hm (.z 70632 (Ev.bsW (ys := ([] : List Int)) (f := encI) e .nil e e e e e) e e (.p3 e e e (.p3 e e e (.p e (.nil (.ret ?_))))))
           obtain rfl := someO h
           have h := hk1909
           replace h := inlO h
           obtain rfl := someO h
           exact Ends.mkG (.inl e) e (gh_pk [0,1,2,3] [70632,0] hB e e e e) e e
          ·refine Run.skip (.so hm (.p e ?_))
           obtain ⟨x2124,hx2124,h⟩ := bindO h
           refine Ops.z 74744 (Ev.iaW e e e hx2124) e e (.z 74760 (Ev.ldE (f := encS) e e (at_some hx2124).2 e e e) e e ?_)
           obtain ⟨y2125,hy2125,h⟩ := bindO h
           refine Ops.z 74776 (Ev.call [] [] 0 (sem_spec_ReadDecimal _ _ _ hy2125) e e (.d1 .nil) e (.inl e) e e) e e (.p3 e e e (.p2 e e (.nil (.so hm (.p e ?_)))))
           obtain ⟨x2132,hx2132,h⟩ := bindO h
           refine Ops.z 78840 (Ev.iaW e e e hx2132) e e (.z 78856 (Ev.ldE (f := encS) e e (at_some hx2132).2 e e e) e e ?_)
           obtain ⟨y2133,hy2133,h⟩ := bindO h
           refine Ops.z 78872 (Ev.call [] [] 1 (sem_spec_l20Conf _ _ _ hy2133) e e (.d1 .nil) e (.inl e) e e) e e (.p3 e e e (.p2 e e (.nil (.so hm (.p2 e e ?_)))))
           obtain ⟨y2137,hy2137,h⟩ := bindO h
           refine Ops.z 82952 (Ev.call [] [78872] 7 (sem_spec_WorldNew _ _ _ _ hy2137) e e (.d1 (.cons (.borrow e (by decide) (lendW (fun _ => e) _ e)) .nil)) e (.inr ⟨e,ownL_root ⟨own_rows (fun _ => e) _,own_rows own_encServer _,own_rows own_encMessage _,own_rows (fun _ => e) _,own_rows own_encLeader _,own_rows (fun _ => e) _,own_rows (fun _ => e) _,trivial⟩⟩) e e) e e ?_
           refine Ops.p e (.p2 e e (.z 83016 (.al e e) e e (.y 83032 (.sto e e e e e e) e e (.p e (.nil (.seq (.so hm (.p3 e e e (.askO (x := .t 108) e h (fun g2145 h => ?_) (fun g2145 h => ?_))))))))))
           ·refine Ops.gn e g2145 (.gn e g2145 (.z 87096 (.pkT e g2145 e) e e (.p e (.gn e e (.gn e e (.z 87160 (.pkT e e e) e e (.nil (.condT e e (.so hm (.z 91112 (Ev.bsW (ys := ([] : List Int)) (f := encI) e .nil e e e e e) e e (.p3 e e e (.p3 e e e (.p e (.nil (.ret ?_)))))))))))))))
            obtain rfl := someO h
            have h := hk1909
            replace h := inlO h
            obtain rfl := someO h
            exact Ends.mkG (.inl e) e (gh_pk [0,1,2,3] [91112,0] hB e e e e) e e
           ·refine Ops.gp e g2145 e (.gp e g2145 e (.z 87096 (.pkF e g2145 e) e e (.p e (.askO (x := .t 112) e h (fun g2146 h => ?_) (fun g2146 h => ?_)))))
            ·refine Ops.gn e g2146 (.gn e g2146 (.z 87160 (.pkT e g2146 e) e e (.nil (.condT e e (.so hm (.z 91112 (Ev.bsW (ys := ([] : List Int)) (f := encI) e .nil e e e e e) e e (.p3 e e e (.p3 e e e (.p e (.nil (.ret ?_)))))))))))
             obtain rfl := someO h
             have h := hk1909
             replace h := inlO h
             obtain rfl := someO h
             exact Ends.mkG (.inl e) e (gh_pk [0,1,2,3] [91112,0] hB e e e e) e e
            ·refine Ops.gp e g2146 e (.gp e g2146 e (.z 87160 (.pkF e g2146 e) e e (.nil (.condO e h (fun g2147 h => ?_) (fun g2147 h => ?_)))))
             ·refine Run.so hm (.z 91112 (Ev.bsW (ys := ([] : List Int)) (f := encI) e .nil e e e e e) e e (.p3 e e e (.p3 e e e (.p e (.nil (.ret ?_))))))
              obtain rfl := someO h
              have h := hk1909
              replace h := inlO h
              obtain rfl := someO h
              exact Ends.mkG (.inl e) e (gh_pk [0,1,2,3] [91112,0] hB e e e e) e e
             ·exact Run.skip (.so hm (.p2 e e (.nil (.so hm (.p2 e e (.nil (.exit (⟨_,_,(gh_pk [6,7,8,9,10,11] [0,1,78872,3] hB e e e e),_,h,e,e⟩))))))))
        ·refine Run.skip (.so hm (.p2 e e ?_))
         obtain ⟨y2151,hy2151,h⟩ := bindO h
         refine Ops.z 103432 (Ev.call [] [4] 1 (sem_spec_l20Line _ _ _ _ hy2151) e e (.d1 (.cons (.borrow e (by decide) (lendW (fun _ => e) _ e)) .nil)) e (.inr ⟨e,ownL_root ⟨own_rows (fun _ => e) _,trivial⟩⟩) e e) e e ?_
         refine Ops.p e (.p2 e e (.z 103496 (.al e e) e e (.y 103512 (.sto e e e e e e) e e (.p e (.nil (.seq (.so hm (.p3 e e e (.askO (x := .t 130) e h (fun g2156 h => ?_) (fun g2156 h => ?_))))))))))
         ·refine Ops.gn e g2156 (.gn e g2156 (.gn e g2156 (.z 107592 (.pkT e g2156 e) e e (.nil (.condT e e (.so hm (.z 111592 (Ev.bsW (ys := ([] : List Int)) (f := encI) e .nil e e e e e) e e (.p3 e e e (.p3 e e e (.p e (.nil (.ret ?_))))))))))))
          obtain rfl := someO h
          have h := hk1909
          replace h := inlO h
          obtain rfl := someO h
          exact Ends.mkG (.inl e) e (gh_pk [0,1,2,3] [111592,0] hB e e e e) e e
         ·refine Ops.gp e g2156 e (.gp e g2156 e (.gp e g2156 e (.z 107592 (.pkF e g2156 e) e e (.nil (.condO e h (fun g2157 h => ?_) (fun g2157 h => ?_))))))
          ·refine Run.so hm (.z 111592 (Ev.bsW (ys := ([] : List Int)) (f := encI) e .nil e e e e e) e e (.p3 e e e (.p3 e e e (.p e (.nil (.ret ?_))))))
           obtain rfl := someO h
           have h := hk1909
           replace h := inlO h
           obtain rfl := someO h
           exact Ends.mkG (.inl e) e (gh_pk [0,1,2,3] [111592,0] hB e e e e) e e
          ·refine Run.skip (.ops hm (.p2 e e (.z 115720 (Ev.bsW (ys := ([y2151.1] : List Event)) (f := (encEvent true)) e (.d4 (.d4 (.d2 (.cons (.own e (lenmap e)) (.d2 (.d1 .nil)))))) e e e e e) e e ?_)))
           obtain ⟨x2159,hx2159,h⟩ := bindO h
           exact Ops.z 115736 (Ev.apW (f := (encEvent true)) (ontoW e e e) (addsO e e e) e bt53 e hx2159) e e (.p e (.nil (⟨_,_,(gh_pk [6,7,8,9,10,11] [0,1,2,115736] hB e e e e),_,h,e,e⟩)))
     ·exact Run.ops hm (.p3 e e e (.nil (⟨m1909,Nat.lt_succ_self m1909,_,_,(gh_pk [6,7,8,9,10,11] [0,1,2,3] hB e e e e),_,_,_,_,h,e,e⟩)))
    ·refine Run.exit ?_
     obtain rfl := someO h
     have h := hk1909
     replace h := inrO h
     exact ⟨_,_,(gh_pk [6,8,9,10] [0,2,3] hB e e e e),_,h,e,e⟩
   ·refine Run.seq (.so hm (.p2 e e (.nil (.condO e h (fun g2161 h => ?_) (fun g2161 h => ?_)))))
    ·refine Run.so hm (.z 123880 (Ev.bsW (ys := ([] : List Int)) (f := encI) e .nil e e e e e) e e (.p3 e e e (.p2 e e (.nil (.ret ?_)))))
     obtain rfl := someO h
     exact Ends.mkG (.inl e) e (gh_pk [0,1,2,3] [123880,0] hB e e e e) e e
    ·refine Run.skip (.so hm (.p3 e e e (.p3 e e e (.p e (.nil (.ret ?_))))))
     obtain rfl := someO h
     exact Ends.mkG (.inl e) e (gh_pk [0,1,2,3] [1,2] hB e e e e) e e
end Go.Proofs.YtmnoonjkiflonaaGreatDoor.Pe.FnExactReadScript
