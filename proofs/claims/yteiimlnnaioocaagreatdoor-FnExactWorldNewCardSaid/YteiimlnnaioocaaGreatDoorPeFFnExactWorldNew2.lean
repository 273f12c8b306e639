/- Functions,as pure functions; and that Go does just that. -/
import Derived.Test.YteiimlnnaioocaaGreatDoorPeFFnExactWorldNew1
namespace Go.Proofs.YteiimlnnaioocaaGreatDoor.Pe.FnExactWorldNew
open Go Go.RowKit
set_option linter.unusedVariables false
set_option linter.unusedSimpArgs false
set_option maxHeartbeats 40000000
set_option maxRecDepth 100000
def spec_WorldNew_l1 (N : Nat) (x1 : Int) (y252 : Disk × Bool) : Nat → Int → (List Bool) → (List Server) → Option ((List Bool) × (List Server))
 | 0,_,_,_ => none
 | m + 1,x336,x345,x346 =>
 (if (decide (x336 ≤ x1)) = true then
 (spec_Boot N x336 y252.1 20).bind fun y391 =>
 (cat? x346 ([y391.1] : List Server)).bind fun x395 =>
 (cat? x345 ([true] : List Bool)).bind fun x397 =>
 spec_WorldNew_l1 N x1 y252 m (w64 (x336 + 1)) x397 x395
 else
 some (x345,x346))
def spec_WorldNew (N : Nat) (x1 : Int) (x2 : (List Int)) : Option (World × Bool) :=
 (spec_FormatDisk N x2).bind fun y252 =>
 (if (!y252.2) = true then
 some ((World.mk ([]) ([]) ([]) ([]) ([]) ([]) ([])),false)
 else
 (spec_l01In N x1 1 4).bind fun y267 =>
 (if (!y267) = true then
 some ((World.mk ([]) ([]) ([]) ([]) ([]) ([]) ([])),false)
 else
 (at? x2 (w64 ((x2.length : Int) - 1))).bind fun x269 =>
 (if (decide (x269 > x1)) = true then
 some ((World.mk ([]) ([]) ([]) ([]) ([]) ([]) ([])),false)
 else
 joinP (fun (v334 : (List Bool) × (List Server)) =>
 some ((World.mk v334.1 v334.2 ([] : (List Message)) ([] : (List Wait)) ([] : (List Leader)) ([] : (List Applied)) ([] : (List Reply))),true)) fun j334 =>
 (spec_WorldNew_l1 N x1 y252 N 1 ([] : (List Bool)) ([] : (List Server))).bind (fun v374 => j334 (v374.1,v374.2)))))
theorem sem_spec_WorldNew (N : Nat) (x1 : Int) (x2 : (List Int)) (r : World × Bool) (h : spec_WorldNew N x1 x2 = some r) : Says Tryz.prog 4 [VI x1,RO 3 (x2.map encI)] 0 [] (.tup [.agg [.sl 0 4 0 r.1.Up.length,.sl 1 58 0 r.1.Servers.length,.sl 2 102 0 r.1.Net.length,.sl 3 105 0 r.1.Waits.length,.sl 4 108 0 r.1.Leaders.length,.sl 5 113 0 r.1.Applied.length,.sl 6 118 0 r.1.Replies.length],VB r.2]) [(0,.vec 4 (r.1.Up.map encB)),(1,.vec 58 (r.1.Servers.map (encServer true))),(2,.vec 102 (r.1.Net.map (encMessage true))),(3,.vec 105 (r.1.Waits.map encWait)),(4,.vec 108 (r.1.Leaders.map (encLeader true))),(5,.vec 113 (r.1.Applied.map encApplied)),(6,.vec 118 (r.1.Replies.map encReply))] := by
 unfold spec_WorldNew at h
 refine Says.of_norm e Tryz.call4 e fun B hB => ?_
 have hm : B.m ≤ 1000 := by omega
 refine Run.so hm (.z 1000 (.al e e) e e (.p e (.nil (.so hm (.p e ?_)))))
 obtain ⟨y252,hy252,h⟩ := bindO h
 refine Ops.z 5112 (Ev.call [] [] 1 (sem_spec_FormatDisk _ _ _ hy252) e e (.d1 .nil) e (.inl e) e e) e e (.p3 e e e (.z 5176 (.al e e) e e (.y 5192 (.sto e e e e e e) e e (.p e (.nil (.seq (.so hm (.p3 e e e (.askO (x := .t 20) e h (fun g266 h => ?_) (fun g266 h => ?_))))))))))
 ·refine Ops.gn e g266 (.gn e g266 (.gn e g266 (.z 9288 (.pkT e g266 e) e e (.p e (.gn e e (.gn e e (.gn e e (.gn e e (.gn e e (.gn e e (.gn e e (.gn e e (.z 9448 (.pkT e e e) e e (.nil (.condT e e (.so hm (.z 13288 (.bd e e) e e (.y 13304 (.sto e e e e e e) e e (.p e (.nil (.ret ?_)))))))))))))))))))))
  obtain rfl := someO h
  exact Ends.mkG (.inl e) e (Gh.trans (Gh.trans (gh_prn [0,1] [] hB e) (gh_nil [0] [] hB e e e)) (gh_pk [0,1] [10000000,10000001,10000002,10000003,10000004,10000005,10000006] hB e e e e)) e e
 ·refine Ops.gp e g266 e ?_
  obtain ⟨y267,hy267,h⟩ := bindO h
  refine Ops.gs (s := 9256) e g266 (Ev.call [] [] 0 (sem_spec_l01In _ _ _ _ _ hy267) e e (.d2 (.d1 .nil)) e (.inl e) e e) e e (.gp e g266 e (.z 9288 (.pkF e g266 e) e e (.p e (.askO (x := .t 25) e h (fun g268 h => ?_) (fun g268 h => ?_)))))
  ·refine Ops.gn e g268 (.gn e g268 (.gn e g268 (.gn e g268 (.gn e g268 (.gn e g268 (.gn e g268 (.gn e g268 (.z 9448 (.pkT e g268 e) e e (.nil (.condT e e (.so hm (.z 13288 (.bd e e) e e (.y 13304 (.sto e e e e e e) e e (.p e (.nil (.ret ?_))))))))))))))))
   obtain rfl := someO h
   exact Ends.mkG (.inl e) e (Gh.trans (Gh.trans (gh_prn [0,1] [] hB e) (gh_nil [0] [] hB e e e)) (gh_pk [0,1] [10000000,10000001,10000002,10000003,10000004,10000005,10000006] hB e e e e)) e e
  ·refine Ops.gp e g268 e (.gp e g268 e (.gs (s := 9352) e g268 (Ev.lnF e) e e (.gp e g268 e ?_)))
   obtain ⟨x269,hx269,h⟩ := bindO h
   refine Ops.gs (s := 9384) e g268 (Ev.iaF e e hx269) e e (.gp e g268 e (.gp e g268 e (.gp e g268 e (.z 9448 (.pkF e g268 e) e e (.nil (.condO e h (fun g270 h => ?_) (fun g270 h => ?_)))))))
   ·refine Run.so hm (.z 13288 (.bd e e) e e (.y 13304 (.sto e e e e e e) e e (.p e (.nil (.ret ?_)))))
    obtain rfl := someO h
    exact Ends.mkG (.inl e) e (Gh.trans (Gh.trans (gh_prn [0,1] [] hB e) (gh_nil [0] [] hB e e e)) (gh_pk [0,1] [10000000,10000001,10000002,10000003,10000004,10000005,10000006] hB e e e e)) e e
   ·refine Run.skip (.so hm (.z 17384 (.bd e e) e e (.z 17400 (.al e e) e e (.y 17416 (.sto e e e e e e) e e (.nil (.seqO h (fun v334 => [(4,.ptr 0 0),(8,.ptr 1 0)]) (fun (v334 : (List Bool) × (List Server)) => [(0,.box [.sl 2 4 0 (([] : (List Bool)).length),.sl 3 58 0 (([] : (List Server)).length),.sl 4 102 0 (([] : (List Message)).length),.sl 5 105 0 (([] : (List Wait)).length),.sl 6 108 0 (([] : (List Leader)).length),.sl 7 113 0 (([] : (List Applied)).length),.sl 8 118 0 (([] : (List Reply)).length)]),(1,.box [.sl 9 4 0 v334.1.length,.sl 10 58 0 v334.2.length,.sl 11 102 0 (([] : (List Message)).length),.sl 12 105 0 (([] : (List Wait)).length),.sl 13 108 0 (([] : (List Leader)).length),.sl 14 113 0 (([] : (List Applied)).length),.sl 15 118 0 (([] : (List Reply)).length)]),(2,.vec 4 (([] : (List Bool)).map encB)),(3,.vec 58 (([] : (List Server)).map (encServer true))),(4,.vec 102 (([] : (List Message)).map (encMessage true))),(5,.vec 105 (([] : (List Wait)).map encWait)),(6,.vec 108 (([] : (List Leader)).map (encLeader true))),(7,.vec 113 (([] : (List Applied)).map encApplied)),(8,.vec 118 (([] : (List Reply)).map encReply)),(9,.vec 4 (v334.1.map encB)),(10,.vec 58 (v334.2.map (encServer true))),(11,.vec 102 (([] : (List Message)).map (encMessage true))),(12,.vec 105 (([] : (List Wait)).map encWait)),(13,.vec 108 (([] : (List Leader)).map (encLeader true))),(14,.vec 113 (([] : (List Applied)).map encApplied)),(15,.vec 118 (([] : (List Reply)).map encReply))]) (fun h => ?_) (fun v334 h => ?_)))))))
    ·refine Run.so hm (.p e (.nil (.block ?_)))
     obtain ⟨res374,h,hk374⟩ := bindO h
     refine Run.loop (n := N) (fun m374 fr σ => ∃ (x336 : Int),∃ (x345 : (List Bool)),∃ (x346 : (List Server)),spec_WorldNew_l1 N x1 y252 m374 x336 x345 x346 = some res374 ∧ fr = [(0,VI x1),(4,.ptr 0 0),(6,.ptr 1 0),(8,.ptr 2 0),(9,VI x336)] ∧ σ = [(0,.box [.sl 3 4 0 (([] : (List Bool)).length),.sl 4 58 0 (([] : (List Server)).length),.sl 5 102 0 (([] : (List Message)).length),.sl 6 105 0 (([] : (List Wait)).length),.sl 7 108 0 (([] : (List Leader)).length),.sl 8 113 0 (([] : (List Applied)).length),.sl 9 118 0 (([] : (List Reply)).length)]),(1,.box [.sl 10 80 0 y252.1.Files.length]),(2,.box [.sl 11 4 0 x345.length,.sl 12 58 0 x346.length,.sl 13 102 0 (([] : (List Message)).length),.sl 14 105 0 (([] : (List Wait)).length),.sl 15 108 0 (([] : (List Leader)).length),.sl 16 113 0 (([] : (List Applied)).length),.sl 17 118 0 (([] : (List Reply)).length)]),(3,.vec 4 (([] : (List Bool)).map encB)),(4,.vec 58 (([] : (List Server)).map (encServer true))),(5,.vec 102 (([] : (List Message)).map (encMessage true))),(6,.vec 105 (([] : (List Wait)).map encWait)),(7,.vec 108 (([] : (List Leader)).map (encLeader true))),(8,.vec 113 (([] : (List Applied)).map encApplied)),(9,.vec 118 (([] : (List Reply)).map encReply)),(10,.vec 80 (y252.1.Files.map encFile)),(11,.vec 4 (x345.map encB)),(12,.vec 58 (x346.map (encServer true))),(13,.vec 102 (([] : (List Message)).map (encMessage true))),(14,.vec 105 (([] : (List Wait)).map encWait)),(15,.vec 108 (([] : (List Leader)).map (encLeader true))),(16,.vec 113 (([] : (List Applied)).map encApplied)),(17,.vec 118 (([] : (List Reply)).map encReply))]) (Gh.trans (Gh.trans (gh_prn [0,4,6,8,9] [1000,5176,17400,5112] hB e) (gh_nil [] [1000,17400] hB e e e)) (gh_pk [0,4,6,8,9] [1000,5176,17400,20000000,20000001,20000002,20000003,20000004,20000005,20000006,5112,20000064,20000065,20000066,20000067,20000068,20000069,20000070] hB e e e e)) ⟨_,_,_,h,e,e⟩ ?_
     rintro m374 fr σ ⟨x336,x345,x346,h,rfl,rfl⟩
     obtain _ | m374 := m374
     ·rw [spec_WorldNew_l1] at h; cases h
     rw [spec_WorldNew_l1] at h
     refine Run.seq (.so hm (.p3 e e e (.nil (.condO e h (fun g377 h => ?_) (fun g377 h => ?_)))))
     ·refine Run.skip (.seq (.block (.so hm (.p2 e e ?_))))
      obtain ⟨y391,hy391,h⟩ := bindO h
      refine Ops.z 33800 (Ev.call [] [10] 9 (sem_spec_Boot _ _ _ _ _ hy391) e e (.d1 (.cons (.agg (.cons (.borrow e (by decide) (lendW (fun _ => e) _ e)) .nil)) (.d1 .nil))) e (.inr ⟨e,ownL_root ⟨own_rows (fun _ => e) _,own_rows (fun _ => e) _,own_rows (fun _ => e) _,own_rows (fun _ => e) _,own_rows (fun _ => e) _,own_rows (fun _ => e) _,own_rows (fun _ => e) _,own_rows (fun _ => e) _,own_rows (fun _ => e) _,trivial⟩⟩) e e) e e ?_
      refine Ops.p e (.p3 e e e (.z 33880 (.al e e) e e (.y 33896 (.sto e e e e e e) e e (.p2 e e (.nil (.so hm (.p3 e e e (.z 37912 (Ev.bsW (ys := ([y391.1] : List Server)) (f := (encServer true)) e (.d4 (.d1 (.cons (.own e (lenmap e)) (.d2 (.cons (.own e (lenmap e)) (.d2 (.d1 (.cons (.own e (lenmap e)) (.cons (.own e (lenmap e)) (.cons (.own e (lenmap e)) (.cons (.own e (lenmap e)) (.d2 (.d1 (.cons (.own e (lenmap e)) (.cons (.own e (lenmap e)) (.d4 .nil)))))))))))))))) e e e e e) e e ?_))))))))
      obtain ⟨x395,hx395,h⟩ := bindO h
      refine Ops.z 37928 (Ev.apW (f := (encServer true)) (ontoW e e e) (addsO e e e) e bt58 e hx395) e e (.p e (.y 37960 (.sto e e e e e e) e e (.nil (.ops hm (.p2 e e (.z 41992 (Ev.bsW (ys := ([true] : List Bool)) (f := encB) e (.d1 .nil) e e e e e) e e ?_))))))
      obtain ⟨x397,hx397,h⟩ := bindO h
      exact Ops.z 42008 (Ev.apW (f := encB) (ontoW e e e) (addsW e e e (fun _ => e)) e bt4 e hx397) e e (.p e (.y 42040 (.sto e e e e e e) e e (.nil (.ops hm (.p3 e e e (.nil (⟨m374,Nat.lt_succ_self m374,_,_,(gh_pk [0,4,6,8,9] [0,1,2,3,4,5,6,7,8,9,10,42008,37928,13,14,15,16,17] hB e e e e),_,_,_,h,e,e⟩)))))))
     ·refine Run.exit ?_
      obtain rfl := someO h
      have h := hk374
      exact ⟨_,_,(gh_pk [4,8] [0,2,3,4,5,6,7,8,9,11,12,13,14,15,16,17] hB e e e e),_,h,e,e⟩
    ·refine Run.so hm (.p e (.y 46072 (.sto e e e e e e) e e (.p e (.nil (.ret ?_)))))
     obtain rfl := someO h
     exact Ends.mkG (.inl e) e (gh_pk [0,1] [9,10,11,12,13,14,15] hB e e e e) e e
def impl_within (N : Nat) (x1 : Int) (x2 : Int) (x3 : Int) : Option (Bool) :=
 (if (decide (x1 ≥ x2)) = true then
 some (decide (x1 ≤ x3))
 else
 some false)
theorem sem_impl_within (N : Nat) (x1 : Int) (x2 : Int) (x3 : Int) (r : Bool) (h : impl_within N x1 x2 x3 = some r) : Says Tryz.prog 16 [VI x1,VI x2,VI x3] 0 [] (VB r) [] := by
 unfold impl_within at h
 refine Says.of_norm e Tryz.call16 e fun B hB => ?_
 have hm : B.m ≤ 1000 := by omega
 refine Run.so hm (.p e (.nil (.so hm (.p3 e e e (.p e (.askO (x := .t 10) e h (fun g103 h => ?_) (fun g103 h => ?_)))))))
 ·refine Ops.gp e g103 e (.gp e g103 e (.gp e g103 e (.z 5208 (.pkT e g103 e) e e (.p e (.nil (.ret ?_))))))
  obtain rfl := someO h
  exact Ends.mkG (.inl e) e (gh_pk [0] [] hB e e e e) e e
 ·refine Ops.gn e g103 (.gn e g103 (.gn e g103 (.z 5208 (.pkF e g103 e) e e (.p e (.nil (.ret ?_))))))
  obtain rfl := someO h
  exact Ends.mkG (.inl e) e (gh_pk [0] [] hB e e e e) e e
def impl_ConfOk_l1 (N : Nat) (x1 : (List Int)) : Nat → Int → Option ((Bool) ⊕ (Unit))
 | 0,_ => none
 | m + 1,x218 =>
 (if (decide (x218 < (x1.length : Int))) = true then
 (at? x1 x218).bind fun x242 =>
 (impl_within N x242 1 4).bind fun y247 =>
 (if (!y247) = true then
 some (Sum.inl false)
 else
 (if (decide (x218 > 0)) = true then
 (at? x1 (w64 (x218 - 1))).bind fun x250 =>
 (if (decide (x250 ≥ x242)) = true then
 some (Sum.inl false)
 else
 impl_ConfOk_l1 N x1 m (w64 (x218 + 1)))
 else
 impl_ConfOk_l1 N x1 m (w64 (x218 + 1))))
 else
 some (Sum.inr ()))
def impl_ConfOk_l1_r (N : Nat) (x1 : (List Int)) : (List Int) → Int → Option ((Bool) ⊕ (Unit))
 | [],x218 =>
 some (Sum.inr ())
 | hd :: tl,x218 =>
 (some hd).bind fun x242 =>
 (impl_within N x242 1 4).bind fun y247 =>
 (if (!y247) = true then
 some (Sum.inl false)
 else
 (if (decide (x218 > 0)) = true then
 (at? x1 (w64 (x218 - 1))).bind fun x250 =>
 (if (decide (x250 ≥ x242)) = true then
 some (Sum.inl false)
 else
 impl_ConfOk_l1_r N x1 tl (w64 (x218 + 1)))
 else
 impl_ConfOk_l1_r N x1 tl (w64 (x218 + 1))))
theorem impl_ConfOk_l1_rng (N : Nat) (x1 : (List Int)) (hx : x1.length ≤ 1099511627776) : ∀ (d k m : Nat),x1.length = k + d → d < m → impl_ConfOk_l1 N x1 m (k : Int) = impl_ConfOk_l1_r N x1 (x1.drop k) (k : Int) := by
 intro d
 induction d with
 | zero =>
  intro k m hd hm
  obtain ⟨m,rfl⟩ : ∃ q,m = q + 1 := ⟨m - 1,by omega⟩
  rw [impl_ConfOk_l1,if_neg (by simp; omega),List.drop_eq_nil_of_le (by omega),impl_ConfOk_l1_r]
 | succ d ih =>
  intro k m hd hm
  obtain ⟨m,rfl⟩ : ∃ q,m = q + 1 := ⟨m - 1,by omega⟩
  have hk : k < x1.length := by omega
  rw [impl_ConfOk_l1,if_pos (by simp; omega),List.drop_eq_getElem_cons hk,impl_ConfOk_l1_r]
  have h1 := at_lt hk
  have h2 := w64_succ (k := k) (by omega)
  have h3 := ih (k + 1) m
  simp only [h1,h2,h3 (by omega) (by omega)]
theorem impl_ConfOk_l1_eq {N : Nat} (x1 : (List Int)) (hx : x1.length ≤ 1099511627776) (hN : x1.length < N) : impl_ConfOk_l1 N x1 N 0 = impl_ConfOk_l1_r N x1 x1 0 := impl_ConfOk_l1_rng N x1 hx x1.length 0 N (by omega) hN
def impl_ConfOk (N : Nat) (x1 : (List Int)) : Option (Bool) :=
 joinP (fun (v214 : Unit) =>
 (impl_within N (x1.length : Int) 1 4).bind fun y253 =>
 some y253) fun j214 =>
 (impl_ConfOk_l1 N x1 N 0).bind (Sum.elim (fun v234 => some v234) (fun (v235 : Unit) => j214 ()))
theorem sem_impl_ConfOk (N : Nat) (x1 : (List Int)) (r : Bool) (h : impl_ConfOk N x1 = some r) : Says Tryz.prog 125 [RO 3 (x1.map encI)] 0 [] (VB r) [] := by
 unfold impl_ConfOk at h
 refine Says.of_norm e Tryz.call125 e fun B hB => ?_
 have hm : B.m ≤ 1000 := by omega
 refine Run.so hm (.p e (.nil (.seqO h (fun v214 => [(0,RO 3 (x1.map encI))]) (fun (v214 : Unit) => []) (fun h => ?_) (fun v214 h => ?_))))
 ·refine Run.so hm (.p e (.z 5112 (Ev.lnF e) e e (.p e (.nil (.block ?_)))))
  obtain ⟨res235,h,hk235⟩ := bindO h
  refine Run.loop (n := N) (fun m235 fr σ => ∃ (x218 : Int),impl_ConfOk_l1 N x1 m235 x218 = some res235 ∧ fr = [(0,RO 3 (x1.map encI)),(5,RO 3 (x1.map encI)),(6,VI (x1.length : Int)),(7,VI x218)] ∧ σ = []) (gh_pk [0,5,6,7] [] hB e e e e) ⟨_,h,e,e⟩ ?_
  rintro m235 fr σ ⟨x218,h,rfl,rfl⟩
  obtain _ | m235 := m235
  ·rw [impl_ConfOk_l1] at h; cases h
  rw [impl_ConfOk_l1] at h
  refine Run.so hm (.p e (.nil (.seq (.condO e h (fun g238 h => ?_) (fun g238 h => ?_)))))
  ·refine Run.skip (.seq (.block (.so hm (.p e ?_))))
   obtain ⟨x242,hx242,h⟩ := bindO h
   refine Ops.z 13304 (Ev.iaF e e hx242) e e (.p3 e e e (.nil (.so hm (.p e ?_))))
   obtain ⟨y247,hy247,h⟩ := bindO h
   refine Ops.z 17400 (Ev.call [] [] 0 (sem_impl_within _ _ _ _ _ hy247) e e (.d2 (.d1 .nil)) e (.inl e) e e) e e (.p2 e e (.askO (x := .t 15) e h (fun g248 h => ?_) (fun g248 h => ?_)))
   ·refine Ops.gn e g248 (.gn e g248 (.gn e g248 (.gu e (.gu e (.gu e (.gu e (.gu e (.gu e (.gu e (.gn e g248 (.z 17624 (.pkT e g248 e) e e (.nil (.condT e e (.so hm (.p e (.nil (.ret ?_)))))))))))))))))
    obtain rfl := someO h
    have h := hk235
    replace h := inlO h
    obtain rfl := someO h
    exact Ends.mkG (.inl e) e (gh_pk [0] [] hB e e e e) e e
   ·refine Ops.gp e g248 e (.gp e g248 e (.gp e g248 e (.askO (x := .t 18) e h (fun g249 h => ?_) (fun g249 h => ?_))))
    ·refine Ops.gp e g249 e (.gp e g249 e (.gp e g249 e ?_))
     obtain ⟨x250,hx250,h⟩ := bindO h
     refine Ops.gs (s := 17544) e g249 (Ev.iaF e e hx250) e e (.gp e g249 e (.gp e g249 e (.gp e g249 e (.gs (s := 17608) e g248 (.pkT e g249 e) e e (.z 17624 (.pkF e g248 e) e e (.nil (.condO e h (fun g251 h => ?_) (fun g251 h => ?_))))))))
     ·refine Run.so hm (.p e (.nil (.ret ?_)))
      obtain rfl := someO h
      have h := hk235
      replace h := inlO h
      obtain rfl := someO h
      exact Ends.mkG (.inl e) e (gh_pk [0] [] hB e e e e) e e
     ·exact Run.skip (.ops hm (.p2 e e (.nil (⟨m235,Nat.lt_succ_self m235,_,_,(gh_pk [0,5,6,7] [] hB e e e e),_,h,e,e⟩))))
    ·exact Ops.gn e g249 (.gn e g249 (.gn e g249 (.gn e g249 (.gn e g249 (.gn e g249 (.gn e g249 (.gs (s := 17608) e g248 (.pkF e g249 e) e e (.z 17624 (.pkF e g248 e) e e (.nil (.condF e e (.skip (.ops hm (.p2 e e (.nil (⟨m235,Nat.lt_succ_self m235,_,_,(gh_pk [0,5,6,7] [] hB e e e e),_,h,e,e⟩)))))))))))))))
  ·refine Run.exit ?_
   obtain rfl := someO h
   have h := hk235
   replace h := inrO h
   exact ⟨_,_,(gh_pk [0] [] hB e e e e),(),h,e,e⟩
 ·refine Run.so hm (.p e (.z 29688 (Ev.lnF e) e e ?_))
  obtain ⟨y253,hy253,h⟩ := bindO h
  refine Ops.z 29704 (Ev.call [] [] 0 (sem_impl_within _ _ _ _ _ hy253) e e (.d2 (.d1 .nil)) e (.inl e) e e) e e (.p e (.nil (.ret ?_)))
  obtain rfl := someO h
  exact Ends.mkG (.inl e) e (gh_pk [0] [] hB e e e e) e e
def impl_ManifestOk_l1 (N : Nat) (x1 : Manifest) : Nat → Int → Option ((Bool) ⊕ (Unit))
 | 0,_ => none
 | m + 1,x255 =>
 (if (decide (x255 < (x1.Segs.length : Int))) = true then
 (at? x1.Segs x255).bind fun x286 =>
 (impl_within N x286 0 999).bind fun y292 =>
 (if (!y292) = true then
 some (Sum.inl false)
 else
 (if (decide (x286 ≥ x1.Next)) = true then
 some (Sum.inl false)
 else
 (if (decide (x255 > 0)) = true then
 (at? x1.Segs (w64 (x255 - 1))).bind fun x296 =>
 (if (decide (x296 ≥ x286)) = true then
 some (Sum.inl false)
 else
 impl_ManifestOk_l1 N x1 m (w64 (x255 + 1)))
 else
 impl_ManifestOk_l1 N x1 m (w64 (x255 + 1)))))
 else
 some (Sum.inr ()))
def impl_ManifestOk_l1_r (N : Nat) (x1 : Manifest) : (List Int) → Int → Option ((Bool) ⊕ (Unit))
 | [],x255 =>
 some (Sum.inr ())
 | hd :: tl,x255 =>
 (some hd).bind fun x286 =>
 (impl_within N x286 0 999).bind fun y292 =>
 (if (!y292) = true then
 some (Sum.inl false)
 else
 (if (decide (x286 ≥ x1.Next)) = true then
 some (Sum.inl false)
 else
 (if (decide (x255 > 0)) = true then
 (at? x1.Segs (w64 (x255 - 1))).bind fun x296 =>
 (if (decide (x296 ≥ x286)) = true then
 some (Sum.inl false)
 else
 impl_ManifestOk_l1_r N x1 tl (w64 (x255 + 1)))
 else
 impl_ManifestOk_l1_r N x1 tl (w64 (x255 + 1)))))
theorem impl_ManifestOk_l1_rng (N : Nat) (x1 : Manifest) (hx : x1.Segs.length ≤ 1099511627776) : ∀ (d k m : Nat),x1.Segs.length = k + d → d < m → impl_ManifestOk_l1 N x1 m (k : Int) = impl_ManifestOk_l1_r N x1 (x1.Segs.drop k) (k : Int) := by
 intro d
 induction d with
 | zero =>
  intro k m hd hm
  obtain ⟨m,rfl⟩ : ∃ q,m = q + 1 := ⟨m - 1,by omega⟩
  rw [impl_ManifestOk_l1,if_neg (by simp; omega),List.drop_eq_nil_of_le (by omega),impl_ManifestOk_l1_r]
 | succ d ih =>
  intro k m hd hm
  obtain ⟨m,rfl⟩ : ∃ q,m = q + 1 := ⟨m - 1,by omega⟩
  have hk : k < x1.Segs.length := by omega
  rw [impl_ManifestOk_l1,if_pos (by simp; omega),List.drop_eq_getElem_cons hk,impl_ManifestOk_l1_r]
  have h1 := at_lt hk
  have h2 := w64_succ (k := k) (by omega)
  have h3 := ih (k + 1) m
  simp only [h1,h2,h3 (by omega) (by omega)]
theorem impl_ManifestOk_l1_eq {N : Nat} (x1 : Manifest) (hx : x1.Segs.length ≤ 1099511627776) (hN : x1.Segs.length < N) : impl_ManifestOk_l1 N x1 N 0 = impl_ManifestOk_l1_r N x1 x1.Segs 0 := impl_ManifestOk_l1_rng N x1 hx x1.Segs.length 0 N (by omega) hN
def impl_ManifestOk (N : Nat) (x1 : Manifest) : Option (Bool) :=
 joinP (fun (v252 : Unit) =>
 (impl_within N (x1.Segs.length : Int) 1 8).bind fun y306 =>
 (if y306 = true then
 (if (decide (x1.Next ≤ 1000)) = true then
 (impl_within N x1.Base 0 100000).bind fun y309 =>
 (if y309 = true then
 (impl_within N x1.BaseTerm 0 100000).bind fun y311 =>
 (if y311 = true then
 (impl_ConfOk N x1.Conf).bind fun y313 =>
 some y313
 else
 some false)
 else
 some false)
 else
 some false)
 else
 some false)) fun j252 =>
 (impl_ManifestOk_l1 N x1 N 0).bind (Sum.elim (fun v278 => some v278) (fun (v279 : Unit) => j252 ()))
theorem sem_impl_ManifestOk (N : Nat) (x1 : Manifest) (r : Bool) (h : impl_ManifestOk N x1 = some r) : Says Tryz.prog 154 [.agg [RO 3 (x1.Segs.map encI),VI x1.Next,VI x1.Base,VI x1.BaseTerm,RO 3 (x1.Conf.map encI)]] 0 [] (VB r) [] := by
 unfold impl_ManifestOk at h
 refine Says.of_norm e Tryz.call154 e fun B hB => ?_
 have hm : B.m ≤ 1000 := by omega
 refine Run.so hm (.z 1000 (.bx e e) e e (.p e (.nil (.seqO h (fun v252 => [(1,.ptr 0 0)]) (fun (v252 : Unit) => [(0,.box [RO 3 (x1.Segs.map encI),VI x1.Next,VI x1.Base,VI x1.BaseTerm,RO 3 (x1.Conf.map encI)])]) (fun h => ?_) (fun v252 h => ?_)))))
 ·refine Run.so hm (.p2 e e (.z 5128 (Ev.lnF e) e e (.p e (.nil (.block ?_)))))
  obtain ⟨res279,h,hk279⟩ := bindO h
  refine Run.loop (n := N) (fun m279 fr σ => ∃ (x255 : Int),impl_ManifestOk_l1 N x1 m279 x255 = some res279 ∧ fr = [(1,.ptr 0 0),(6,RO 3 (x1.Segs.map encI)),(7,VI (x1.Segs.length : Int)),(8,VI x255)] ∧ σ = [(0,.box [RO 3 (x1.Segs.map encI),VI x1.Next,VI x1.Base,VI x1.BaseTerm,RO 3 (x1.Conf.map encI)])]) (gh_pk [1,6,7,8] [1000] hB e e e e) ⟨_,h,e,e⟩ ?_
  rintro m279 fr σ ⟨x255,h,rfl,rfl⟩
  obtain _ | m279 := m279
  ·rw [impl_ManifestOk_l1] at h; cases h
  rw [impl_ManifestOk_l1] at h
  refine Run.so hm (.p e (.nil (.seq (.condO e h (fun g282 h => ?_) (fun g282 h => ?_)))))
  ·refine Run.skip (.seq (.block (.so hm (.p e ?_))))
   obtain ⟨x286,hx286,h⟩ := bindO h
   refine Ops.z 13304 (Ev.iaF e e hx286) e e (.p3 e e e (.nil (.so hm (.p e ?_))))
   obtain ⟨y292,hy292,h⟩ := bindO h
   refine Ops.z 17400 (Ev.call [] [] 0 (sem_impl_within _ _ _ _ _ hy292) e e (.d2 (.d1 .nil)) e (.inl e) e e) e e (.p2 e e (.askO (x := .t 16) e h (fun g293 h => ?_) (fun g293 h => ?_)))
   ·refine Ops.gn e g293 (.gn e g293 (.gn e g293 (.gn e g293 (.z 17512 (.pkT e g293 e) e e (.p e (.gn e e (.gn e e (.gn e e (.gu e (.gu e (.gu e (.gu e (.gu e (.gu e (.gu e (.gu e (.gn e e (.z 17736 (.pkT e e e) e e (.nil (.condT e e (.so hm (.p e (.nil (.ret ?_))))))))))))))))))))))))
    obtain rfl := someO h
    have h := hk279
    replace h := inlO h
    obtain rfl := someO h
    exact Ends.mkG (.inl e) e (gh_pk [0] [] hB e e e e) e e
   ·refine Ops.gp e g293 e (.gp e g293 e (.gp e g293 e (.gp e g293 e (.z 17512 (.pkF e g293 e) e e (.p e (.askO (x := .t 22) e h (fun g294 h => ?_) (fun g294 h => ?_)))))))
    ·refine Ops.gn e g294 (.gn e g294 (.gn e g294 (.gu e (.gu e (.gu e (.gu e (.gu e (.gu e (.gu e (.gu e (.gn e g294 (.z 17736 (.pkT e g294 e) e e (.nil (.condT e e (.so hm (.p e (.nil (.ret ?_))))))))))))))))))
     obtain rfl := someO h
     have h := hk279
     replace h := inlO h
     obtain rfl := someO h
     exact Ends.mkG (.inl e) e (gh_pk [0] [] hB e e e e) e e
    ·refine Ops.gp e g294 e (.gp e g294 e (.gp e g294 e (.askO (x := .t 25) e h (fun g295 h => ?_) (fun g295 h => ?_))))
     ·refine Ops.gp e g295 e (.gp e g295 e (.gp e g295 e (.gp e g295 e ?_)))
      obtain ⟨x296,hx296,h⟩ := bindO h
      refine Ops.gs (s := 17656) e g295 (Ev.iaF e e hx296) e e (.gp e g295 e (.gp e g295 e (.gp e g295 e (.gs (s := 17720) e g294 (.pkT e g295 e) e e (.z 17736 (.pkF e g294 e) e e (.nil (.condO e h (fun g297 h => ?_) (fun g297 h => ?_))))))))
      ·refine Run.so hm (.p e (.nil (.ret ?_)))
       obtain rfl := someO h
       have h := hk279
       replace h := inlO h
       obtain rfl := someO h
       exact Ends.mkG (.inl e) e (gh_pk [0] [] hB e e e e) e e
      ·exact Run.skip (.ops hm (.p2 e e (.nil (⟨m279,Nat.lt_succ_self m279,_,_,(gh_pk [1,6,7,8] [0] hB e e e e),_,h,e,e⟩))))
     ·exact Ops.gn e g295 (.gn e g295 (.gn e g295 (.gn e g295 (.gn e g295 (.gn e g295 (.gn e g295 (.gn e g295 (.gs (s := 17720) e g294 (.pkF e g295 e) e e (.z 17736 (.pkF e g294 e) e e (.nil (.condF e e (.skip (.ops hm (.p2 e e (.nil (⟨m279,Nat.lt_succ_self m279,_,_,(gh_pk [1,6,7,8] [0] hB e e e e),_,h,e,e⟩))))))))))))))))
  ·refine Run.exit ?_
   obtain rfl := someO h
   have h := hk279
   replace h := inrO h
   exact ⟨_,_,(gh_pk [1] [0] hB e e e e),(),h,e,e⟩
 ·refine Run.so hm (.p2 e e (.z 29704 (Ev.lnF e) e e ?_))
  obtain ⟨y306,hy306,h⟩ := bindO h
  refine Ops.z 29720 (Ev.call [] [] 0 (sem_impl_within _ _ _ _ _ hy306) e e (.d2 (.d1 .nil)) e (.inl e) e e) e e (.p e (.askO (x := .t 41) e h (fun g307 h => ?_) (fun g307 h => ?_)))
  ·refine Ops.gp e g307 e (.gp e g307 e (.gp e g307 e (.z 29800 (.pkT e g307 e) e e (.p e (.askO (x := .t 46) e h (fun g308 h => ?_) (fun g308 h => ?_))))))
   ·refine Ops.gp e g308 e (.gp e g308 e ?_)
    obtain ⟨y309,hy309,h⟩ := bindO h
    refine Ops.gs (s := 29864) e g308 (Ev.call [] [] 0 (sem_impl_within _ _ _ _ _ hy309) e e (.d2 (.d1 .nil)) e (.inl e) e e) e e (.z 29880 (.pkT e g308 e) e e (.p e (.askO (x := .t 51) e h (fun g310 h => ?_) (fun g310 h => ?_))))
    ·refine Ops.gp e g310 e (.gp e g310 e ?_)
     obtain ⟨y311,hy311,h⟩ := bindO h
     refine Ops.gs (s := 29944) e g310 (Ev.call [] [] 0 (sem_impl_within _ _ _ _ _ hy311) e e (.d2 (.d1 .nil)) e (.inl e) e e) e e (.z 29960 (.pkT e g310 e) e e (.p e (.askO (x := .t 56) e h (fun g312 h => ?_) (fun g312 h => ?_))))
     ·refine Ops.gp e g312 e (.gp e g312 e ?_)
      obtain ⟨y313,hy313,h⟩ := bindO h
      refine Ops.gs (s := 30024) e g312 (Ev.call [] [] 0 (sem_impl_ConfOk _ _ _ hy313) e e (.d1 .nil) e (.inl e) e e) e e (.z 30040 (.pkT e g312 e) e e (.p e (.nil (.ret ?_))))
      obtain rfl := someO h
      exact Ends.mkG (.inl e) e (gh_pk [0] [] hB e e e e) e e
     ·refine Ops.gn e g312 (.gn e g312 (.gn e g312 (.z 30040 (.pkF e g312 e) e e (.p e (.nil (.ret ?_))))))
      obtain rfl := someO h
      exact Ends.mkG (.inl e) e (gh_pk [0] [] hB e e e e) e e
    ·refine Ops.gn e g310 (.gn e g310 (.gn e g310 (.z 29960 (.pkF e g310 e) e e (.p e (.gn e e (.gn e e (.gn e e (.z 30040 (.pkF e e e) e e (.p e (.nil (.ret ?_)))))))))))
     obtain rfl := someO h
     exact Ends.mkG (.inl e) e (gh_pk [0] [] hB e e e e) e e
   ·refine Ops.gn e g308 (.gn e g308 (.gn e g308 (.z 29880 (.pkF e g308 e) e e (.p e (.gn e e (.gn e e (.gn e e (.z 29960 (.pkF e e e) e e (.p e (.gn e e (.gn e e (.gn e e (.z 30040 (.pkF e e e) e e (.p e (.nil (.ret ?_))))))))))))))))
    obtain rfl := someO h
    exact Ends.mkG (.inl e) e (gh_pk [0] [] hB e e e e) e e
  ·refine Ops.gn e g307 (.gn e g307 (.gn e g307 (.z 29800 (.pkF e g307 e) e e (.p e (.gn e e (.gn e e (.gn e e (.z 29880 (.pkF e e e) e e (.p e (.gn e e (.gn e e (.gn e e (.z 29960 (.pkF e e e) e e (.p e (.gn e e (.gn e e (.gn e e (.z 30040 (.pkF e e e) e e (.p e (.nil (.ret ?_)))))))))))))))))))))
   obtain rfl := someO h
   exact Ends.mkG (.inl e) e (gh_pk [0] [] hB e e e e) e e
def slices_Grow_int (N : Nat) (x1 : Int) : Option (Nat × (List Int)) :=
 (if (decide (x1 < 0)) = true then
 none
 else
 joinP (fun (v120 : (List Int)) =>
 some (0,v120)) fun j120 =>
 (if (decide ((w64 (x1 - (w64 (0 - 0)))) > 0)) = true then
 (mkz? (α := Int) 0 (w64 (x1 - (w64 (0 - 0))))).bind fun x124 =>
 (take? x124 0).bind fun x125 =>
 j120 x124
 else
 j120 ([] : (List Int))))
theorem sem_slices_Grow_int (N : Nat) (x1 : Int) (r : Nat × (List Int)) (h : slices_Grow_int N x1 = some r) : Says Tryz.prog 199 [NI 3,VI x1] 0 [] (.sl 0 3 0 r.1) [(0,.vec 3 (r.2.map encI))] := by
 unfold slices_Grow_int at h
 refine Says.of_norm e Tryz.call199 e fun B hB => ?_
 have hm : B.m ≤ 1000 := by omega
 refine Run.so hm (.p e (.nil (.seq (.so hm (.p2 e e (.nil (.condO e h (fun g114 h => ?_) (fun g114 h => ?_))))))))
 ·exact Run.ops hm (noO h)
 ·refine Run.skip (.seqO h (fun v120 => [(0,.sl 0 3 0 0)]) (fun (v120 : (List Int)) => [(0,.vec 3 (v120.map encI))]) (fun h => ?_) (fun v120 h => ?_))
  ·refine Run.so hm (.p3 e e e (.p3 e e e (.p2 e e (.nil (.so hm (.p2 e e (.nil (.condO e h (fun g121 h => ?_) (fun g121 h => ?_)))))))))
   ·refine Run.ops hm (.p3 e e e (.z 21528 (Ev.slNh e e) e e (.p e ?_)))
    obtain ⟨x124,hx124,h⟩ := bindO h
    refine Ops.z 21560 (Ev.apzW (f := encI) (zv := 0) e e e bt3 e hx124) e e (.p2 e e ?_)
    obtain ⟨x125,hx125,h⟩ := bindO h
    exact Ops.z 21608 (Ev.slWh (xs := x124) e e e hx125) e e (.p e (.nil (⟨_,_,(gh_pk [0] [21560] hB e e e e),_,h,e,e⟩)))
   ·exact Run.skip (⟨_,_,(Gh.trans (Gh.trans (gh_prn [0] [] hB e) (gh_nil [0] [] hB e e e)) (gh_pk [0] [10000000] hB e e e e)),_,h,e,e⟩)
  ·refine Run.so hm (.p2 e e (.nil (.ret ?_)))
   obtain rfl := someO h
   exact Ends.mkG (.inl e) e (gh_pk [0] [0] hB e e e e) e e
def slices_Concat_int_l1 (N : Nat) (x1 : (List (List Int))) : Nat → Int → Int → Option (Int)
 | 0,_,_ => none
 | m + 1,x225,x228 =>
 (if (decide (x228 < (x1.length : Int))) = true then
 (at? x1 x228).bind fun x243 =>
 (if (decide ((w64 (x225 + (x243.length : Int))) < 0)) = true then
 none
 else
 slices_Concat_int_l1 N x1 m (w64 (x225 + (x243.length : Int))) (w64 (x228 + 1)))
 else
 some x225)
def slices_Concat_int_l1_r (N : Nat) (x1 : (List (List Int))) : (List (List Int)) → Int → Int → Option (Int)
 | [],x225,x228 =>
 some x225
 | hd :: tl,x225,x228 =>
 (some hd).bind fun x243 =>
 (if (decide ((w64 (x225 + (x243.length : Int))) < 0)) = true then
 none
 else
 slices_Concat_int_l1_r N x1 tl (w64 (x225 + (x243.length : Int))) (w64 (x228 + 1)))
theorem slices_Concat_int_l1_rng (N : Nat) (x1 : (List (List Int))) (hx : x1.length ≤ 1099511627776) : ∀ (d k m : Nat) (x225 : Int),x1.length = k + d → d < m → slices_Concat_int_l1 N x1 m x225 (k : Int) = slices_Concat_int_l1_r N x1 (x1.drop k) x225 (k : Int) := by
 intro d
 induction d with
 | zero =>
  intro k m x225 hd hm
  obtain ⟨m,rfl⟩ : ∃ q,m = q + 1 := ⟨m - 1,by omega⟩
  rw [slices_Concat_int_l1,if_neg (by simp; omega),List.drop_eq_nil_of_le (by omega),slices_Concat_int_l1_r]
 | succ d ih =>
  intro k m x225 hd hm
  obtain ⟨m,rfl⟩ : ∃ q,m = q + 1 := ⟨m - 1,by omega⟩
  have hk : k < x1.length := by omega
  rw [slices_Concat_int_l1,if_pos (by simp; omega),List.drop_eq_getElem_cons hk,slices_Concat_int_l1_r]
  have h1 := at_lt hk
  have h2 := w64_succ (k := k) (by omega)
  have h3 := ih (k + 1) m
  simp only [h1,h2,h3 _ (by omega) (by omega)]
theorem slices_Concat_int_l1_eq {N : Nat} (x1 : (List (List Int))) (hx : x1.length ≤ 1099511627776) (hN : x1.length < N) (x225 : Int) : slices_Concat_int_l1 N x1 N x225 0 = slices_Concat_int_l1_r N x1 x1 x225 0 := slices_Concat_int_l1_rng N x1 hx x1.length 0 N x225 (by omega) hN
def slices_Concat_int_l2 (N : Nat) (x1 : (List (List Int))) : Nat → Nat → Int → (List Int) → Option (Nat × (List Int))
 | 0,_,_,_ => none
 | m + 1,x277,x280,x281 =>
 (if (decide (x280 < (x1.length : Int))) = true then
 (at? x1 x280).bind fun x299 =>
 (le? x277 x281).bind fun x302 =>
 (cat? (x281.take x277) x299).bind fun x303 =>
 slices_Concat_int_l2 N x1 m x303.length (w64 (x280 + 1)) x303
 else
 some (x277,x281))
def slices_Concat_int_l2_r (N : Nat) (x1 : (List (List Int))) : (List (List Int)) → Nat → Int → (List Int) → Option (Nat × (List Int))
 | [],x277,x280,x281 =>
 some (x277,x281)
 | hd :: tl,x277,x280,x281 =>
 (some hd).bind fun x299 =>
 (le? x277 x281).bind fun x302 =>
 (cat? (x281.take x277) x299).bind fun x303 =>
 slices_Concat_int_l2_r N x1 tl x303.length (w64 (x280 + 1)) x303
theorem slices_Concat_int_l2_rng (N : Nat) (x1 : (List (List Int))) (hx : x1.length ≤ 1099511627776) : ∀ (d k m : Nat) (x277 : Nat) (x281 : (List Int)),x1.length = k + d → d < m → slices_Concat_int_l2 N x1 m x277 (k : Int) x281 = slices_Concat_int_l2_r N x1 (x1.drop k) x277 (k : Int) x281 := by
 intro d
 induction d with
 | zero =>
  intro k m x277 x281 hd hm
  obtain ⟨m,rfl⟩ : ∃ q,m = q + 1 := ⟨m - 1,by omega⟩
  rw [slices_Concat_int_l2,if_neg (by simp; omega),List.drop_eq_nil_of_le (by omega),slices_Concat_int_l2_r]
 | succ d ih =>
  intro k m x277 x281 hd hm
  obtain ⟨m,rfl⟩ : ∃ q,m = q + 1 := ⟨m - 1,by omega⟩
  have hk : k < x1.length := by omega
  rw [slices_Concat_int_l2,if_pos (by simp; omega),List.drop_eq_getElem_cons hk,slices_Concat_int_l2_r]
  have h1 := at_lt hk
  have h2 := w64_succ (k := k) (by omega)
  have h3 := ih (k + 1) m
  simp only [h1,h2,h3 _ _ (by omega) (by omega)]
theorem slices_Concat_int_l2_eq {N : Nat} (x1 : (List (List Int))) (hx : x1.length ≤ 1099511627776) (hN : x1.length < N) (x277 : Nat) (x281 : (List Int)) : slices_Concat_int_l2 N x1 N x277 0 x281 = slices_Concat_int_l2_r N x1 x1 x277 0 x281 := slices_Concat_int_l2_rng N x1 hx x1.length 0 N x277 x281 (by omega) hN
def slices_Concat_int (N : Nat) (x1 : (List (List Int))) : Option (Nat × (List Int)) :=
 joinP (fun (v223 : Int) =>
 (slices_Grow_int N v223).bind fun y248 =>
 joinP (fun (v276 : Nat × (List Int)) =>
 some (v276.1,v276.2)) fun j276 =>
 (slices_Concat_int_l2 N x1 N y248.1 0 y248.2).bind (fun v292 => j276 (v292.1,v292.2))) fun j223 =>
 (slices_Concat_int_l1 N x1 N 0 0).bind (fun v236 => j223 v236)
theorem sem_slices_Concat_int (N : Nat) (x1 : (List (List Int))) (r : Nat × (List Int)) (h : slices_Concat_int N x1 = some r) : Says Tryz.prog 155 [RO 22 (x1.map (fun x => [.row false 3 (x.map encI)]))] 0 [] (.sl 0 3 0 r.1) [(0,.vec 3 (r.2.map encI))] := by
 unfold slices_Concat_int at h
 refine Says.of_norm e Tryz.call155 e fun B hB => ?_
 have hm : B.m ≤ 1000 := by omega
 refine Run.so hm (.p e (.nil (.so hm (.p e (.nil (.seqO h (fun v223 => [(0,RO 22 (x1.map (fun x => [.row false 3 (x.map encI)]))),(3,VI v223)]) (fun (v223 : Int) => []) (fun h => ?_) (fun v223 h => ?_)))))))
 ·refine Run.so hm (.p e (.z 9208 (Ev.lnF e) e e (.p e (.nil (.block ?_)))))
  obtain ⟨res236,h,hk236⟩ := bindO h
  refine Run.loop (n := N) (fun m236 fr σ => ∃ (x225 : Int),∃ (x228 : Int),slices_Concat_int_l1 N x1 m236 x225 x228 = some res236 ∧ fr = [(0,RO 22 (x1.map (fun x => [.row false 3 (x.map encI)]))),(3,VI x225),(9,RO 22 (x1.map (fun x => [.row false 3 (x.map encI)]))),(10,VI (x1.length : Int)),(11,VI x228)] ∧ σ = []) (gh_pk [0,3,9,10,11] [] hB e e e e) ⟨_,_,h,e,e⟩ ?_
  rintro m236 fr σ ⟨x225,x228,h,rfl,rfl⟩
  obtain _ | m236 := m236
  ·rw [slices_Concat_int_l1] at h; cases h
  rw [slices_Concat_int_l1] at h
  refine Run.so hm (.p e (.nil (.seq (.condO e h (fun g239 h => ?_) (fun g239 h => ?_)))))
  ·refine Run.skip (.seq (.block (.so hm ?_)))
   obtain ⟨x243,hx243,h⟩ := bindO h
   refine Ops.z 17384 (Ev.iaF e e hx243) e e (.p2 e e (.nil (.so hm (.p2 e e (.z 21512 (Ev.lnF e) e e (.p2 e e (.nil (.so hm (.p2 e e (.nil (.condO e h (fun g244 h => ?_) (fun g244 h => ?_))))))))))))
   ·exact Run.ops hm (noO h)
   ·exact Run.skip (.ops hm (.p2 e e (.nil (⟨m236,Nat.lt_succ_self m236,_,_,(gh_pk [0,3,9,10,11] [] hB e e e e),_,_,h,e,e⟩))))
  ·refine Run.exit ?_
   obtain rfl := someO h
   have h := hk236
   exact ⟨_,_,(gh_pk [0,3] [] hB e e e e),_,h,e,e⟩
 ·refine Run.so hm (.p e ?_)
  obtain ⟨y248,hy248,h⟩ := bindO h
  refine Ops.z 37880 (Ev.call [] [] 1 (sem_slices_Grow_int _ _ _ hy248) e e (.d2 .nil) e (.inl e) e e) e e (.p e (.nil (.seqO h (fun v276 => [(6,.sl 0 3 0 v276.1)]) (fun (v276 : Nat × (List Int)) => [(0,.vec 3 (v276.2.map encI))]) (fun h => ?_) (fun v276 h => ?_))))
  ·refine Run.so hm (.p e (.z 41976 (Ev.lnF e) e e (.p e (.nil (.block ?_)))))
   obtain ⟨res292,h,hk292⟩ := bindO h
   refine Run.loop (n := N) (fun m292 fr σ => ∃ (x277 : Nat),∃ (x280 : Int),∃ (x281 : (List Int)),slices_Concat_int_l2 N x1 m292 x277 x280 x281 = some res292 ∧ fr = [(6,.sl 0 3 0 x277),(25,RO 22 (x1.map (fun x => [.row false 3 (x.map encI)]))),(26,VI (x1.length : Int)),(27,VI x280)] ∧ σ = [(0,.vec 3 (x281.map encI))]) (gh_pk [6,25,26,27] [37880] hB e e e e) ⟨_,_,_,h,e,e⟩ ?_
   rintro m292 fr σ ⟨x277,x280,x281,h,rfl,rfl⟩
   obtain _ | m292 := m292
   ·rw [slices_Concat_int_l2] at h; cases h
   rw [slices_Concat_int_l2] at h
   refine Run.so hm (.p e (.nil (.seq (.condO e h (fun g295 h => ?_) (fun g295 h => ?_)))))
   ·refine Run.skip (.seq (.block (.so hm ?_)))
    obtain ⟨x299,hx299,h⟩ := bindO h
    refine Ops.z 50152 (Ev.iaF e e hx299) e e (.p2 e e (.nil (.ops hm (.p2 e e ?_))))
    obtain ⟨x302,hx302,h⟩ := bindO h
    obtain ⟨x303,hx303,h⟩ := bindO h
    exact Ops.z 54280 (Ev.apW (f := encI) (ontoP e (le_some hx302) e) (addsF e) e bt3 e hx303) e e (.p e (.nil (.ops hm (.p2 e e (.nil (⟨m292,Nat.lt_succ_self m292,_,_,(gh_pk [6,25,26,27] [54280] hB e e e e),_,_,_,h,e,e⟩))))))
   ·refine Run.exit ?_
    obtain rfl := someO h
    have h := hk292
    exact ⟨_,_,(gh_pk [6] [0] hB e e e e),_,h,e,e⟩
  ·refine Run.so hm (.p2 e e (.nil (.ret ?_)))
   obtain rfl := someO h
   exact Ends.mkG (.inl e) e (gh_pk [0] [0] hB e e e e) e e
def impl_VarText_l1 (N : Nat) : Nat → Int → (List Int) → Option (Int × (List Int))
 | 0,_,_ => none
 | m + 1,x200,x201 =>
 (if (decide (x200 > 127)) = true then
 (intD .rem .i64 x200 128).bind fun x224 =>
 (cat? x201 ([IntKind.wrap .u8 (w64 (x224 + 128))] : List Int)).bind fun x225 =>
 (intD .quo .i64 x200 128).bind fun x227 =>
 impl_VarText_l1 N m x227 x225
 else
 some (x200,x201))
def impl_VarText (N : Nat) (x1 : Int) : Option (ByteArray × Bool) :=
 (impl_within N x1 0 1000000000).bind fun y169 =>
 (if (!y169) = true then
 some ((⟨#[]⟩ : ByteArray),false)
 else
 joinP (fun (v199 : Int × (List Int)) =>
 (cat? v199.2 ([IntKind.wrap .u8 (v199.1)] : List Int)).bind fun x229 =>
 some (strOf x229,true)) fun j199 =>
 (impl_VarText_l1 N N x1 ([] : (List Int))).bind (fun v214 => j199 (v214.1,v214.2)))
theorem sem_impl_VarText (N : Nat) (x1 : Int) (r : ByteArray × Bool) (h : impl_VarText N x1 = some r) : Says Tryz.prog 159 [VI x1] 0 [] (.tup [VS r.1,VB r.2]) [] := by
 unfold impl_VarText at h
 refine Says.of_norm e Tryz.call159 e fun B hB => ?_
 have hm : B.m ≤ 1000 := by omega
 refine Run.so hm (.p2 e e (.nil (.seq (.so hm (.p e ?_)))))
 obtain ⟨y169,hy169,h⟩ := bindO h
 refine Ops.z 5112 (Ev.call [] [] 0 (sem_impl_within _ _ _ _ _ hy169) e e (.d2 (.d1 .nil)) e (.inl e) e e) e e (.p e (.nil (.condO e h (fun g170 h => ?_) (fun g170 h => ?_))))
 ·refine Run.so hm (.p2 e e (.nil (.ret ?_)))
  obtain rfl := someO h
  exact Ends.mkG (.inl e) e (gh_pk [0,1] [] hB e e e e) e e
 ·refine Run.skip (.so hm (.p e (.nil (.seqO h (fun v199 => [(0,VI v199.1),(4,.sl 0 5 0 v199.2.length)]) (fun (v199 : Int × (List Int)) => [(0,.vec 5 (v199.2.map encU))]) (fun h => ?_) (fun v199 h => ?_)))))
  ·refine Run.block ?_
   obtain ⟨res214,h,hk214⟩ := bindO h
   refine Run.loop (n := N) (fun m214 fr σ => ∃ (x200 : Int),∃ (x201 : (List Int)),impl_VarText_l1 N m214 x200 x201 = some res214 ∧ fr = [(0,VI x200),(4,.sl 0 5 0 x201.length)] ∧ σ = [(0,.vec 5 (x201.map encU))]) (Gh.trans (Gh.trans (gh_prn [0,4] [] hB e) (gh_nil [4] [] hB e e e)) (gh_pk [0,4] [10000000] hB e e e e)) ⟨_,_,h,e,e⟩ ?_
   rintro m214 fr σ ⟨x200,x201,h,rfl,rfl⟩
   obtain _ | m214 := m214
   ·rw [impl_VarText_l1] at h; cases h
   rw [impl_VarText_l1] at h
   refine Run.seq (.so hm (.p2 e e (.nil (.condO e h (fun g217 h => ?_) (fun g217 h => ?_)))))
   ·refine Run.skip (.block (.so hm (.p2 e e ?_)))
    obtain ⟨x224,hx224,h⟩ := bindO h
    refine Ops.z 21512 (.bin e e hx224) e e (.p2 e e (.z 21560 (Ev.bsW (ys := ([IntKind.wrap .u8 (w64 (x224 + 128))] : List Int)) (f := encU) e (.d1 .nil) e e e e e) e e ?_))
    obtain ⟨x225,hx225,h⟩ := bindO h
    refine Ops.z 21576 (Ev.apW (f := encU) (ontoW e e e) (addsW e e e (fun _ => e)) e bt5 e hx225) e e (.p e (.nil (.ops hm (.p e ?_))))
    obtain ⟨x227,hx227,h⟩ := bindO h
    exact Ops.z 25592 (.bin e e hx227) e e (.p e (.nil (⟨m214,Nat.lt_succ_self m214,_,_,(gh_pk [0,4] [21576] hB e e e e),_,_,h,e,e⟩)))
   ·refine Run.exit ?_
    obtain rfl := someO h
    have h := hk214
    exact ⟨_,_,(gh_pk [0,4] [0] hB e e e e),_,h,e,e⟩
  ·refine Run.so hm (.p3 e e e (.z 29720 (Ev.bsW (ys := ([IntKind.wrap .u8 (v199.1)] : List Int)) (f := encU) e (.d1 .nil) e e e e e) e e ?_))
   obtain ⟨x229,hx229,h⟩ := bindO h
   refine Ops.z 29736 (Ev.apW (f := encU) (ontoW e e e) (addsW e e e (fun _ => e)) e bt5 e hx229) e e (.z 29752 (.sbC (addsW (f := encU) e e e (fun _ => e))) e e (.p2 e e (.nil (.ret ?_))))
   obtain rfl := someO h
   exact Ends.mkG (.inl e) e (gh_pk [0,1] [] hB e e e e) e e
def impl_vars_l1 (N : Nat) (x1 : (List Int)) : Nat → Int → (List Int) → Option ((ByteArray × Bool) ⊕ ((List Int)))
 | 0,_,_ => none
 | m + 1,x209,x210 =>
 (if (decide (x209 < (x1.length : Int))) = true then
 (at? x1 x209).bind fun x233 =>
 (impl_VarText N x233).bind fun y237 =>
 (if (!y237.2) = true then
 some (Sum.inl ((⟨#[]⟩ : ByteArray),false))
 else
 (cat? x210 (intsOf y237.1)).bind fun x241 =>
 impl_vars_l1 N x1 m (w64 (x209 + 1)) x241)
 else
 some (Sum.inr x210))
def impl_vars_l1_r (N : Nat) (x1 : (List Int)) : (List Int) → Int → (List Int) → Option ((ByteArray × Bool) ⊕ ((List Int)))
 | [],x209,x210 =>
 some (Sum.inr x210)
 | hd :: tl,x209,x210 =>
 (some hd).bind fun x233 =>
 (impl_VarText N x233).bind fun y237 =>
 (if (!y237.2) = true then
 some (Sum.inl ((⟨#[]⟩ : ByteArray),false))
 else
 (cat? x210 (intsOf y237.1)).bind fun x241 =>
 impl_vars_l1_r N x1 tl (w64 (x209 + 1)) x241)
theorem impl_vars_l1_rng (N : Nat) (x1 : (List Int)) (hx : x1.length ≤ 1099511627776) : ∀ (d k m : Nat) (x210 : (List Int)),x1.length = k + d → d < m → impl_vars_l1 N x1 m (k : Int) x210 = impl_vars_l1_r N x1 (x1.drop k) (k : Int) x210 := by
 intro d
 induction d with
 | zero =>
  intro k m x210 hd hm
  obtain ⟨m,rfl⟩ : ∃ q,m = q + 1 := ⟨m - 1,by omega⟩
  rw [impl_vars_l1,if_neg (by simp; omega),List.drop_eq_nil_of_le (by omega),impl_vars_l1_r]
 | succ d ih =>
  intro k m x210 hd hm
  obtain ⟨m,rfl⟩ : ∃ q,m = q + 1 := ⟨m - 1,by omega⟩
  have hk : k < x1.length := by omega
  rw [impl_vars_l1,if_pos (by simp; omega),List.drop_eq_getElem_cons hk,impl_vars_l1_r]
  have h1 := at_lt hk
  have h2 := w64_succ (k := k) (by omega)
  have h3 := ih (k + 1) m
  simp only [h1,h2,h3 _ (by omega) (by omega)]
theorem impl_vars_l1_eq {N : Nat} (x1 : (List Int)) (hx : x1.length ≤ 1099511627776) (hN : x1.length < N) (x210 : (List Int)) : impl_vars_l1 N x1 N 0 x210 = impl_vars_l1_r N x1 x1 0 x210 := impl_vars_l1_rng N x1 hx x1.length 0 N x210 (by omega) hN
def impl_vars (N : Nat) (x1 : (List Int)) : Option (ByteArray × Bool) :=
 joinP (fun (v206 : (List Int)) =>
 some (strOf v206,true)) fun j206 =>
 (impl_vars_l1 N x1 N 0 ([] : (List Int))).bind (Sum.elim (fun v225 => some v225) (fun (v226 : (List Int)) => j206 v226))
theorem sem_impl_vars (N : Nat) (x1 : (List Int)) (r : ByteArray × Bool) (h : impl_vars N x1 = some r) : Says Tryz.prog 105 [RO 3 (x1.map encI)] 0 [] (.tup [VS r.1,VB r.2]) [] := by
 unfold impl_vars at h
 refine Says.of_norm e Tryz.call105 e fun B hB => ?_
 have hm : B.m ≤ 1000 := by omega
 refine Run.so hm (.p2 e e (.nil (.so hm (.p e (.nil (.seqO h (fun v206 => [(4,.sl 0 5 0 v206.length)]) (fun (v206 : (List Int)) => [(0,.vec 5 (v206.map encU))]) (fun h => ?_) (fun v206 h => ?_)))))))
 ·refine Run.so hm (.p e (.z 9208 (Ev.lnF e) e e (.p e (.nil (.block ?_)))))
  obtain ⟨res226,h,hk226⟩ := bindO h
  refine Run.loop (n := N) (fun m226 fr σ => ∃ (x209 : Int),∃ (x210 : (List Int)),impl_vars_l1 N x1 m226 x209 x210 = some res226 ∧ fr = [(4,.sl 0 5 0 x210.length),(9,RO 3 (x1.map encI)),(10,VI (x1.length : Int)),(11,VI x209)] ∧ σ = [(0,.vec 5 (x210.map encU))]) (Gh.trans (Gh.trans (gh_prn [4,9,10,11] [] hB e) (gh_nil [4] [] hB e e e)) (gh_pk [4,9,10,11] [10000000] hB e e e e)) ⟨_,_,h,e,e⟩ ?_
  rintro m226 fr σ ⟨x209,x210,h,rfl,rfl⟩
  obtain _ | m226 := m226
  ·rw [impl_vars_l1] at h; cases h
  rw [impl_vars_l1] at h
  refine Run.so hm (.p e (.nil (.seq (.condO e h (fun g229 h => ?_) (fun g229 h => ?_)))))
  ·refine Run.skip (.seq (.block (.so hm ?_)))
   obtain ⟨x233,hx233,h⟩ := bindO h
   refine Ops.z 17384 (Ev.iaF e e hx233) e e (.p2 e e (.nil (.so hm (.p e ?_))))
   obtain ⟨y237,hy237,h⟩ := bindO h
   refine Ops.z 21496 (Ev.call [] [] 0 (sem_impl_VarText _ _ _ hy237) e e (.d1 .nil) e (.inl e) e e) e e (.p3 e e e (.p2 e e (.nil (.seq (.so hm (.p2 e e (.nil (.condO e h (fun g239 h => ?_) (fun g239 h => ?_)))))))))
   ·refine Run.so hm (.p2 e e (.nil (.ret ?_)))
    obtain rfl := someO h
    have h := hk226
    replace h := inlO h
    obtain rfl := someO h
    exact Ends.mkG (.inl e) e (gh_pk [0,1] [] hB e e e e) e e
   ·refine Run.skip (.ops hm (.p2 e e ?_))
    obtain ⟨x241,hx241,h⟩ := bindO h
    exact Ops.z 33800 (Ev.apS (ontoW e e e) e e e hx241) e e (.p e (.nil (.ops hm (.p2 e e (.nil (⟨m226,Nat.lt_succ_self m226,_,_,(gh_pk [4,9,10,11] [33800] hB e e e e),_,_,h,e,e⟩))))))
  ·refine Run.exit ?_
   obtain rfl := someO h
   have h := hk226
   replace h := inrO h
   exact ⟨_,_,(gh_pk [4] [0] hB e e e e),_,h,e,e⟩
 ·refine Run.so hm (.p e (.z 41976 (.sbC (addsW (f := encU) e e e (fun _ => e))) e e (.p2 e e (.nil (.ret ?_)))))
  obtain rfl := someO h
  exact Ends.mkG (.inl e) e (gh_pk [0,1] [] hB e e e e) e e
def impl_SumMore_l2 (N : Nat) : Nat → Int → Int → Option (Int)
 | 0,_,_ => none
 | m + 1,x1114,x1117 =>
 (if (decide (x1117 < 8)) = true then
 joinP (fun (v1158 : Int) =>
 impl_SumMore_l2 N m v1158 (w64 (x1117 + 1))) fun j1158 =>
 (intD .rem .u32 x1114 2).bind fun x1162 =>
 (intD .quo .u32 x1114 2).bind fun x1166 =>
 (if (x1162 == 1) = true then
 (intD .xor .u32 x1166 3558460437).bind fun x1169 =>
 j1158 x1169
 else
 j1158 x1166)
 else
 some x1114)
def impl_SumMore_l1 (N : Nat) (x2 : ByteArray) : Nat → Int → Int → Option (Int)
 | 0,_,_ => none
 | m + 1,x903,x905 =>
 (if (decide (x905 < (x2.size : Int))) = true then
 joinP (fun (v1105 : Int) =>
 impl_SumMore_l1 N x2 m v1105 (w64 (x905 + 1))) fun j1105 =>
 (sat? x2 x905).bind fun x1112 =>
 (intD .xor .u32 x903 (IntKind.wrap .u32 (x1112))).bind fun x1113 =>
 (impl_SumMore_l2 N N x1113 0).bind (fun v1143 => j1105 v1143)
 else
 some x903)
def impl_SumMore (N : Nat) (x1 : Int) (x2 : ByteArray) : Option (Int) :=
 joinP (fun (v902 : Int) =>
 some v902) fun j902 =>
 (impl_SumMore_l1 N x2 N x1 0).bind (fun v1037 => j902 v1037)
theorem sem_impl_SumMore (N : Nat) (x1 : Int) (x2 : ByteArray) (r : Int) (h : impl_SumMore N x1 x2 = some r) : Says Tryz.prog 224 [.c (.i .u32 x1),VS x2] 0 [] (.c (.i .u32 r)) [] := by
 unfold impl_SumMore at h
 refine Says.of_norm e Tryz.call224 e fun B hB => ?_
 have hm : B.m ≤ 1000 := by omega
 refine Run.so hm (.p e (.nil (.seqO h (fun v902 => [(0,.c (.i .u32 v902))]) (fun (v902 : Int) => []) (fun h => ?_) (fun v902 h => ?_))))
 ·refine Run.so hm (.p e (.nil (.block ?_)))
  obtain ⟨res1037,h,hk1037⟩ := bindO h
  refine Run.loop (n := N) (fun m1037 fr σ => ∃ (x903 : Int),∃ (x905 : Int),impl_SumMore_l1 N x2 m1037 x903 x905 = some res1037 ∧ fr = [(0,.c (.i .u32 x903)),(1,VS x2),(5,VI x905)] ∧ σ = []) (gh_pk [0,1,5] [] hB e e e e) ⟨_,_,h,e,e⟩ ?_
  rintro m1037 fr σ ⟨x903,x905,h,rfl,rfl⟩
  obtain _ | m1037 := m1037
  ·rw [impl_SumMore_l1] at h; cases h
  rw [impl_SumMore_l1] at h
  refine Run.seq (.so hm (.p3 e e e (.p e (.nil (.condO e h (fun g1040 h => ?_) (fun g1040 h => ?_))))))
  ·refine Run.skip (.seqO h (fun v1105 => [(0,.c (.i .u32 v1105)),(1,VS x2),(5,VI x905)]) (fun (v1105 : Int) => []) (fun h => ?_) (fun v1105 h => ?_))
   ·refine Run.block (.so hm (.p3 e e e ?_))
    obtain ⟨x1112,hx1112,h⟩ := bindO h
    refine Ops.z 17432 (Ev.ixS e e hx1112) e e (.p e ?_)
    obtain ⟨x1113,hx1113,h⟩ := bindO h
    refine Ops.z 17464 (.bin e e hx1113) e e (.p e (.nil (.so hm (.p e (.nil (.block ?_))))))
    obtain ⟨res1143,h,hk1143⟩ := bindO h
    refine Run.loop (n := N) (fun m1143 fr σ => ∃ (x1114 : Int),∃ (x1117 : Int),impl_SumMore_l2 N m1143 x1114 x1117 = some res1143 ∧ fr = [(0,.c (.i .u32 x1114)),(1,VS x2),(5,VI x905),(6,VI x1117)] ∧ σ = []) (gh_pk [0,1,5,6] [] hB e e e e) ⟨_,_,h,e,e⟩ ?_
    rintro m1143 fr σ ⟨x1114,x1117,h,rfl,rfl⟩
    obtain _ | m1143 := m1143
    ·rw [impl_SumMore_l2] at h; cases h
    rw [impl_SumMore_l2] at h
    refine Run.seq (.so hm (.p2 e e (.nil (.condO e h (fun g1146 h => ?_) (fun g1146 h => ?_)))))
    ·refine Run.skip (.seqO h (fun v1158 => [(0,.c (.i .u32 v1158)),(1,VS x2),(5,VI x905),(6,VI x1117)]) (fun (v1158 : Int) => []) (fun h => ?_) (fun v1158 h => ?_))
     ·refine Run.block (.so hm (.p e ?_))
      obtain ⟨x1162,hx1162,h⟩ := bindO h
      refine Ops.z 33784 (.bin e e hx1162) e e (.p2 e e (.nil (.so hm (.p e ?_))))
      obtain ⟨x1166,hx1166,h⟩ := bindO h
      refine Ops.z 37880 (.bin e e hx1166) e e (.p e (.nil (.so hm (.p e (.nil (.condO e h (fun g1167 h => ?_) (fun g1167 h => ?_)))))))
      ·refine Run.ops hm (.p e ?_)
       obtain ⟨x1169,hx1169,h⟩ := bindO h
       exact Ops.z 46072 (.bin e e hx1169) e e (.p e (.nil (⟨_,_,(gh_pk [0,1,5,6] [] hB e e e e),_,h,e,e⟩)))
      ·exact Run.skip (⟨_,_,(gh_pk [0,1,5,6] [] hB e e e e),_,h,e,e⟩)
     ·exact Run.ops hm (.p3 e e e (.nil (⟨m1143,Nat.lt_succ_self m1143,_,_,(gh_pk [0,1,5,6] [] hB e e e e),_,_,h,e,e⟩)))
    ·refine Run.exit ?_
     obtain rfl := someO h
     have h := hk1143
     exact ⟨_,_,(gh_pk [0,1,5] [] hB e e e e),_,h,e,e⟩
   ·exact Run.ops hm (.p3 e e e (.nil (⟨m1037,Nat.lt_succ_self m1037,_,_,(gh_pk [0,1,5] [] hB e e e e),_,_,h,e,e⟩)))
  ·refine Run.exit ?_
   obtain rfl := someO h
   have h := hk1037
   exact ⟨_,_,(gh_pk [0] [] hB e e e e),_,h,e,e⟩
 ·refine Run.so hm (.p2 e e (.nil (.ret ?_)))
  obtain rfl := someO h
  exact Ends.mkG (.inl e) e (gh_pk [0] [] hB e e e e) e e
def impl_SumOf (N : Nat) (x1 : ByteArray) : Option (Int) :=
 (impl_SumMore N 4294967295 x1).bind fun y103 =>
 some y103
theorem sem_impl_SumOf (N : Nat) (x1 : ByteArray) (r : Int) (h : impl_SumOf N x1 = some r) : Says Tryz.prog 200 [VS x1] 0 [] (.c (.i .u32 r)) [] := by
 unfold impl_SumOf at h
 refine Says.of_norm e Tryz.call200 e fun B hB => ?_
 have hm : B.m ≤ 1000 := by omega
 refine Run.so hm (.p e (.nil (.so hm (.p e ?_))))
 obtain ⟨y103,hy103,h⟩ := bindO h
 refine Ops.z 5112 (Ev.call [] [] 0 (sem_impl_SumMore _ _ _ _ hy103) e e (.d2 .nil) e (.inl e) e e) e e (.p e (.nil (.ret ?_)))
 obtain rfl := someO h
 exact Ends.mkG (.inl e) e (gh_pk [0] [] hB e e e e) e e
def impl_Sealed (N : Nat) (x1 : ByteArray) : Option (ByteArray × Bool) :=
 (if (decide ((x1.size : Int) > 20000)) = true then
 some ((⟨#[]⟩ : ByteArray),false)
 else
 (impl_SumOf N x1).bind fun y119 =>
 (intSh .shr .u32 y119 24).bind fun x124 =>
 (intSh .shr .u32 y119 16).bind fun x125 =>
 (intSh .shr .u32 y119 8).bind fun x126 =>
 (scat? x1 (strOf ([IntKind.wrap .u8 (x124),IntKind.wrap .u8 (x125),IntKind.wrap .u8 (x126),IntKind.wrap .u8 (y119)] : List Int))).bind fun x127 =>
 some (x127,true))
theorem sem_impl_Sealed (N : Nat) (x1 : ByteArray) (r : ByteArray × Bool) (h : impl_Sealed N x1 = some r) : Says Tryz.prog 156 [VS x1] 0 [] (.tup [VS r.1,VB r.2]) [] := by
 unfold impl_Sealed at h
 refine Says.of_norm e Tryz.call156 e fun B hB => ?_
 have hm : B.m ≤ 1000 := by omega
 refine Run.so hm (.p2 e e (.nil (.seq (.so hm (.p3 e e e (.nil (.condO e h (fun g115 h => ?_) (fun g115 h => ?_))))))))
 ·refine Run.so hm (.p2 e e (.nil (.ret ?_)))
  obtain rfl := someO h
  exact Ends.mkG (.inl e) e (gh_pk [0,1] [] hB e e e e) e e
 ·refine Run.skip (.so hm (.p e ?_))
  obtain ⟨y119,hy119,h⟩ := bindO h
  refine Ops.z 13304 (Ev.call [] [] 0 (sem_impl_SumOf _ _ _ hy119) e e (.d1 .nil) e (.inl e) e e) e e (.p e (.nil (.so hm (.p2 e e ?_))))
  obtain ⟨x124,hx124,h⟩ := bindO h
  refine Ops.z 17416 (.sh e e hx124) e e (.p2 e e ?_)
  obtain ⟨x125,hx125,h⟩ := bindO h
  refine Ops.z 17464 (.sh e e hx125) e e (.p2 e e ?_)
  obtain ⟨x126,hx126,h⟩ := bindO h
  refine Ops.z 17512 (.sh e e hx126) e e (.p3 e e e (.z 17576 (Ev.bsW (ys := ([IntKind.wrap .u8 (x124),IntKind.wrap .u8 (x125),IntKind.wrap .u8 (x126),IntKind.wrap .u8 (y119)] : List Int)) (f := encU) e (.d4 .nil) e e e e e) e e (.z 17592 (.sbC (addsW (f := encU) e e e (fun _ => e))) e e ?_)))
  obtain ⟨x127,hx127,h⟩ := bindO h
  refine Ops.z 17608 (Ev.addS e e hx127) e e (.p2 e e (.nil (.ret ?_)))
  obtain rfl := someO h
  exact Ends.mkG (.inl e) e (gh_pk [0,1] [] hB e e e e) e e
def impl_ManifestText (N : Nat) (x1 : Manifest) : Option (ByteArray × Bool) :=
 (impl_ManifestOk N x1).bind fun y120 =>
 (if (!y120) = true then
 some ((⟨#[]⟩ : ByteArray),false)
 else
 (slices_Concat_int N ([([(x1.Segs.length : Int)] : List Int),x1.Segs,([x1.Next,x1.Base,x1.BaseTerm,(x1.Conf.length : Int)] : List Int),x1.Conf] : List (List Int))).bind fun y125 =>
 (impl_vars N (y125.2.take y125.1)).bind fun y129 =>
 (impl_Sealed N y129.1).bind fun y131 =>
 some (y131.1,y131.2))
theorem sem_impl_ManifestText (N : Nat) (x1 : Manifest) (r : ByteArray × Bool) (h : impl_ManifestText N x1 = some r) : Says Tryz.prog 102 [.agg [RO 3 (x1.Segs.map encI),VI x1.Next,VI x1.Base,VI x1.BaseTerm,RO 3 (x1.Conf.map encI)]] 0 [] (.tup [VS r.1,VB r.2]) [] := by
 unfold impl_ManifestText at h
 refine Says.of_norm e Tryz.call102 e fun B hB => ?_
 have hm : B.m ≤ 1000 := by omega
 refine Run.so hm (.z 1000 (.bx e e) e e (.p2 e e (.nil (.seq (.so hm (.p e ?_))))))
 obtain ⟨y120,hy120,h⟩ := bindO h
 refine Ops.z 5112 (Ev.call [] [] 0 (sem_impl_ManifestOk _ _ _ hy120) e e (.cons (.agg (.d4 (.d1 .nil))) .nil) e (.inl e) e e) e e (.p e (.nil (.condO e h (fun g121 h => ?_) (fun g121 h => ?_))))
 ·refine Run.so hm (.p2 e e (.nil (.ret ?_)))
  obtain rfl := someO h
  exact Ends.mkG (.inl e) e (gh_pk [0,1] [] hB e e e e) e e
 ·refine Run.skip (.so hm (.p2 e e (.z 13320 (Ev.lnF e) e e (.z 13336 (Ev.bsW (ys := ([(x1.Segs.length : Int)] : List Int)) (f := encI) e (.d1 .nil) e e e e e) e e (.p3 e e e (.p3 e e e (.p3 e e e (.p e (.z 13512 (Ev.lnF e) e e (.z 13528 (Ev.bsW (ys := ([x1.Next,x1.Base,x1.BaseTerm,(x1.Conf.length : Int)] : List Int)) (f := encI) e (.d4 .nil) e e e e e) e e (.p2 e e (.stz (s := 13576) (EvZ.frz (f := encI) (g := encI) (xs := ([(x1.Segs.length : Int)] : List Int)) 13336 (fun _ => e) e (EvZ.frz (f := encI) (g := encI) (xs := ([x1.Next,x1.Base,x1.BaseTerm,(x1.Conf.length : Int)] : List Int)) 13528 (fun _ => e) e (.mk (Ev.bsW (ys := ([([(x1.Segs.length : Int)] : List Int),x1.Segs,([x1.Next,x1.Base,x1.BaseTerm,(x1.Conf.length : Int)] : List Int),x1.Conf] : List (List Int))) (f := (fun x => [.row false 3 (x.map encI)])) e (.cons (.ro e (shareW _ e)) (.d1 (.cons (.ro e (shareW _ e)) (.d1 .nil)))) e e e e e)))) e e ?_))))))))))))
  obtain ⟨y125,hy125,h⟩ := bindO h
  refine Ops.z 13592 (Ev.call [] [13576] 1 (sem_slices_Concat_int _ _ _ hy125) e e (.cons (.borrow e (by decide) (lendW (fun _ => by simp only [roCs,roC,roRows_mapf (fun _ => e)]) _ e)) .nil) e (.inr ⟨e,ownL_root ⟨own_rows (fun _ => e) _,trivial⟩⟩) e e) e e ?_
  refine Ops.p e (.nil (.so hm (.p e ?_)))
  obtain ⟨y129,hy129,h⟩ := bindO h
  refine Ops.z 17400 (Ev.call [] [13592] 0 (sem_impl_vars _ _ _ hy129) e e (.cons (.borrow e (by decide) (lendP (fun _ => e) _ _ _)) .nil) e (.inr ⟨e,ownL_root trivial⟩) e e) e e ?_
  refine Ops.p e (.p3 e e e (.p e (.nil (.so hm (.p e ?_)))))
  obtain ⟨y131,hy131,h⟩ := bindO h
  refine Ops.z 21496 (Ev.call [] [] 0 (sem_impl_Sealed _ _ _ hy131) e e (.d1 .nil) e (.inl e) e e) e e (.p3 e e e (.p e (.nil (.ret ?_))))
  obtain rfl := someO h
  exact Ends.mkG (.inl e) e (gh_pk [0,1] [] hB e e e e) e e
def strconv_Itoa (N : Nat) (x1 : Int) : Option (ByteArray) := itoa? x1
theorem sem_strconv_Itoa (N : Nat) (x1 : Int) (r : ByteArray) (h : strconv_Itoa N x1 = some r) : Says Tryz.prog 201 [VI x1] 0 [] (VS r) [] := says_itoa Tryz.call201 Go.Proofs.Tryz.strconv_Itoa (g := 1) (by kernel_rfl) (.head _) h
def impl_Decimal (N : Nat) (x1 : Int) : Option (ByteArray) :=
 (strconv_Itoa N x1).bind fun y103 =>
 some y103
theorem sem_impl_Decimal (N : Nat) (x1 : Int) (r : ByteArray) (h : impl_Decimal N x1 = some r) : Says Tryz.prog 157 [VI x1] 0 [] (VS r) [] := by
 unfold impl_Decimal at h
 refine Says.of_norm e Tryz.call157 e fun B hB => ?_
 have hm : B.m ≤ 1000 := by omega
 refine Run.so hm (.p e (.nil (.so hm (.p e ?_))))
 obtain ⟨y103,hy103,h⟩ := bindO h
 refine Ops.z 5112 (Ev.call [] [] 0 (sem_strconv_Itoa _ _ _ hy103) e e (.d1 .nil) e (.inl e) e e) e e (.p e (.nil (.ret ?_)))
 obtain rfl := someO h
 exact Ends.mkG (.inl e) e (gh_pk [0] [] hB e e e e) e e
def impl_SegName (N : Nat) (x1 : Int) : Option (ByteArray) :=
 (impl_within N x1 0 999).bind fun y114 =>
 (if (!y114) = true then
 some (⟨#[]⟩ : ByteArray)
 else
 (impl_Decimal N x1).bind fun y118 =>
 (scat? (⟨#[103]⟩ : ByteArray) y118).bind fun x119 =>
 some x119)
theorem sem_impl_SegName (N : Nat) (x1 : Int) (r : ByteArray) (h : impl_SegName N x1 = some r) : Says Tryz.prog 103 [VI x1] 0 [] (VS r) [] := by
 unfold impl_SegName at h
 refine Says.of_norm e Tryz.call103 e fun B hB => ?_
 have hm : B.m ≤ 1000 := by omega
 refine Run.so hm (.p e (.nil (.seq (.so hm (.p e ?_)))))
 obtain ⟨y114,hy114,h⟩ := bindO h
 refine Ops.z 5112 (Ev.call [] [] 0 (sem_impl_within _ _ _ _ _ hy114) e e (.d2 (.d1 .nil)) e (.inl e) e e) e e (.p e (.nil (.condO e h (fun g115 h => ?_) (fun g115 h => ?_))))
 ·refine Run.so hm (.p e (.nil (.ret ?_)))
  obtain rfl := someO h
  exact Ends.mkG (.inl e) e (gh_pk [0] [] hB e e e e) e e
 ·refine Run.skip (.so hm (.p e ?_))
  obtain ⟨y118,hy118,h⟩ := bindO h
  refine Ops.z 13304 (Ev.call [] [] 0 (sem_impl_Decimal _ _ _ hy118) e e (.d1 .nil) e (.inl e) e e) e e ?_
  obtain ⟨x119,hx119,h⟩ := bindO h
  refine Ops.z 13320 (Ev.addS e e hx119) e e (.p e (.nil (.ret ?_)))
  obtain rfl := someO h
  exact Ends.mkG (.inl e) e (gh_pk [0] [] hB e e e e) e e
def impl_FormatShelf (N : Nat) (x1 : (List Int)) : Option (Disk × Bool) :=
 (impl_ManifestText N (Manifest.mk ([0] : List Int) 1 0 0 x1)).bind fun y111 =>
 (if (!y111.2) = true then
 some ((Disk.mk ([])),false)
 else
 (impl_SegName N 0).bind fun y115 =>
 some ((Disk.mk ([(File.mk y115 (⟨#[]⟩ : ByteArray)),(File.mk (⟨#[109]⟩ : ByteArray) y111.1)] : List File)),true))
theorem sem_impl_FormatShelf (N : Nat) (x1 : (List Int)) (r : Disk × Bool) (h : impl_FormatShelf N x1 = some r) : Says Tryz.prog 52 [RO 3 (x1.map encI)] 0 [] (.tup [.agg [.sl 0 80 0 r.1.Files.length],VB r.2]) [(0,.vec 80 (r.1.Files.map encFile))] := by
 unfold impl_FormatShelf at h
 refine Says.of_norm e Tryz.call52 e fun B hB => ?_
 have hm : B.m ≤ 1000 := by omega
 refine Run.so hm (.z 1000 (.al e e) e e (.p e (.nil (.so hm (.z 5096 (Ev.bsW (ys := ([0] : List Int)) (f := encI) e (.d1 .nil) e e e e e) e e (.p e (.z 5128 (.bd e e) e e ?_)))))))
 obtain ⟨y111,hy111,h⟩ := bindO h
 refine Ops.z 5144 (Ev.call [] [5096] 0 (sem_impl_ManifestText _ _ _ hy111) e e (.cons (.agg (.cons (.borrow e (by decide) (lendW (fun _ => e) _ e)) (.d4 .nil))) .nil) e (.inr ⟨e,ownL_root trivial⟩) e e) e e ?_
 refine Ops.p e (.p3 e e e (.p e (.nil (.seq (.so hm (.p2 e e (.nil (.condO e h (fun g113 h => ?_) (fun g113 h => ?_)))))))))
 ·refine Run.so hm (.z 13288 (.bd e e) e e (.y 13304 (.sto e e e e e e) e e (.p e (.nil (.ret ?_)))))
  obtain rfl := someO h
  exact Ends.mkG (.inl e) e (Gh.trans (Gh.trans (gh_prn [0,1] [] hB e) (gh_nil [0] [] hB e e e)) (gh_pk [0,1] [10000000] hB e e e e)) e e
 ·refine Run.skip (.so hm ?_)
  obtain ⟨y115,hy115,h⟩ := bindO h
  refine Ops.z 17384 (Ev.call [] [] 0 (sem_impl_SegName _ _ _ hy115) e e (.d1 .nil) e (.inl e) e e) e e (.z 17400 (.bd e e) e e (.p e (.z 17432 (.bd e e) e e (.z 17448 (Ev.bsW (ys := ([(File.mk y115 (⟨#[]⟩ : ByteArray)),(File.mk (⟨#[109]⟩ : ByteArray) y111.1)] : List File)) (f := encFile) e (.d4 .nil) e e e e e) e e (.z 17464 (.bd e e) e e (.y 17480 (.sto e e e e e e) e e (.p e (.nil (.ret ?_)))))))))
  obtain rfl := someO h
  exact Ends.mkG (.inl e) e (gh_pk [0,1] [17448] hB e e e e) e e
def impl_LogOk_l1 (N : Nat) (x1 : Log) : Nat → Option (Unit)
 | 0 => none
 | m + 1 =>
 (if (decide (0 < (x1.Entries.length : Int))) = true then
 none
 else
 some ())
def impl_LogOk (N : Nat) (x1 : Log) : Option (Bool) :=
 (impl_within N x1.Start 0 100000).bind fun y155 =>
 (if (!y155) = true then
 some false
 else
 (impl_within N x1.StartTerm 0 100000).bind fun y157 =>
 (if (!y157) = true then
 some false
 else
 (if (decide ((x1.Entries.length : Int) > 120)) = true then
 some false
 else
 (if (decide ((w64 (x1.Start + (x1.Entries.length : Int))) > 100000)) = true then
 some false
 else
 joinP (fun (v169 : Unit) =>
 some true) fun j169 =>
 (impl_LogOk_l1 N x1 N).bind (fun v174 => j169 ())))))
theorem sem_impl_LogOk (N : Nat) (x1 : Log) (r : Bool) (h : impl_LogOk N x1 = some r) : Says Tryz.prog 104 [.agg [VI x1.Start,VI x1.StartTerm,RO 111 (x1.Entries.map encEntry)]] 0 [] (VB r) [] := by
 unfold impl_LogOk at h
 refine Says.of_norm e Tryz.call104 e fun B hB => ?_
 have hm : B.m ≤ 1000 := by omega
 refine Run.so hm (.z 1000 (.bx e e) e e (.p e (.nil (.seq (.so hm (.p2 e e ?_))))))
 obtain ⟨y155,hy155,h⟩ := bindO h
 refine Ops.z 5128 (Ev.call [] [] 0 (sem_impl_within _ _ _ _ _ hy155) e e (.d2 (.d1 .nil)) e (.inl e) e e) e e (.p2 e e (.askO (x := .t 10) e h (fun g156 h => ?_) (fun g156 h => ?_)))
 ·refine Ops.gn e g156 (.gn e g156 (.gn e g156 (.gn e g156 (.z 5240 (.pkT e g156 e) e e (.p e (.gn e e (.gn e e (.gn e e (.gn e e (.z 5336 (.pkT e e e) e e (.p e (.gn e e (.gn e e (.gn e e (.gn e e (.gn e e (.gn e e (.gn e e (.z 5480 (.pkT e e e) e e (.nil (.condT e e (.so hm (.p e (.nil (.ret ?_)))))))))))))))))))))))))
  obtain rfl := someO h
  exact Ends.mkG (.inl e) e (gh_pk [0] [] hB e e e e) e e
 ·refine Ops.gp e g156 e (.gp e g156 e ?_)
  obtain ⟨y157,hy157,h⟩ := bindO h
  refine Ops.gs (s := 5208) e g156 (Ev.call [] [] 0 (sem_impl_within _ _ _ _ _ hy157) e e (.d2 (.d1 .nil)) e (.inl e) e e) e e (.gp e g156 e (.z 5240 (.pkF e g156 e) e e (.p e (.askO (x := .t 16) e h (fun g158 h => ?_) (fun g158 h => ?_)))))
  ·refine Ops.gn e g158 (.gn e g158 (.gn e g158 (.gn e g158 (.z 5336 (.pkT e g158 e) e e (.p e (.gn e e (.gn e e (.gn e e (.gn e e (.gn e e (.gn e e (.gn e e (.z 5480 (.pkT e e e) e e (.nil (.condT e e (.so hm (.p e (.nil (.ret ?_)))))))))))))))))))
   obtain rfl := someO h
   exact Ends.mkG (.inl e) e (gh_pk [0] [] hB e e e e) e e
  ·refine Ops.gp e g158 e (.gp e g158 e (.gs (s := 5304) e g158 (Ev.lnF e) e e (.gp e g158 e (.z 5336 (.pkF e g158 e) e e (.p e (.askO (x := .t 22) e h (fun g159 h => ?_) (fun g159 h => ?_)))))))
   ·refine Ops.gn e g159 (.gn e g159 (.gn e g159 (.gn e g159 (.gn e g159 (.gn e g159 (.gn e g159 (.z 5480 (.pkT e g159 e) e e (.nil (.condT e e (.so hm (.p e (.nil (.ret ?_)))))))))))))
    obtain rfl := someO h
    exact Ends.mkG (.inl e) e (gh_pk [0] [] hB e e e e) e e
   ·refine Ops.gp e g159 e (.gp e g159 e (.gp e g159 e (.gp e g159 e (.gs (s := 5432) e g159 (Ev.lnF e) e e (.gp e g159 e (.gp e g159 e (.z 5480 (.pkF e g159 e) e e (.nil (.condO e h (fun g160 h => ?_) (fun g160 h => ?_))))))))))
    ·refine Run.so hm (.p e (.nil (.ret ?_)))
     obtain rfl := someO h
     exact Ends.mkG (.inl e) e (gh_pk [0] [] hB e e e e) e e
    ·refine Run.skip (.so hm (.p3 e e e (.nil (.seqO h (fun v169 => []) (fun (v169 : Unit) => []) (fun h => ?_) (fun v169 h => ?_)))))
     ·refine Run.so hm (.p2 e e (.z 17416 (Ev.lnF e) e e (.p e (.nil (.block ?_)))))
      obtain ⟨res174,h,hk174⟩ := bindO h
      refine Run.loop (n := N) (fun m174 fr σ => impl_LogOk_l1 N x1 m174 = some res174 ∧ fr = [(35,VI (x1.Entries.length : Int)),(36,VI 0)] ∧ σ = []) (gh_pk [35,36] [] hB e e e e) ⟨h,e,e⟩ ?_
      rintro m174 fr σ ⟨h,rfl,rfl⟩
      obtain _ | m174 := m174
      ·rw [impl_LogOk_l1] at h; cases h
      rw [impl_LogOk_l1] at h
      refine Run.so hm (.p e (.nil (.seq (.condO e h (fun g177 h => ?_) (fun g177 h => ?_)))))
      ·exact noO h
      ·refine Run.exit ?_
       obtain rfl := someO h
       have h := hk174
       exact ⟨_,_,(gh_pk [] [] hB e e e e),(),h,e,e⟩
     ·refine Run.so hm (.p e (.nil (.ret ?_)))
      obtain rfl := someO h
      exact Ends.mkG (.inl e) e (gh_pk [0] [] hB e e e e) e e
def impl_Frame (N : Nat) (x1 : ByteArray) : Option (ByteArray × Bool) :=
 (impl_within N (x1.size : Int) 1 9000).bind fun y128 =>
 (if (!y128) = true then
 some ((⟨#[]⟩ : ByteArray),false)
 else
 (impl_VarText N (x1.size : Int)).bind fun y133 =>
 (impl_SumOf N x1).bind fun y137 =>
 (intSh .shr .u32 y137 24).bind fun x143 =>
 (intSh .shr .u32 y137 16).bind fun x144 =>
 (intSh .shr .u32 y137 8).bind fun x145 =>
 (scat? y133.1 (strOf ([IntKind.wrap .u8 (x143),IntKind.wrap .u8 (x144),IntKind.wrap .u8 (x145),IntKind.wrap .u8 (y137)] : List Int))).bind fun x146 =>
 (scat? x146 x1).bind fun x147 =>
 some (x147,true))
theorem sem_impl_Frame (N : Nat) (x1 : ByteArray) (r : ByteArray × Bool) (h : impl_Frame N x1 = some r) : Says Tryz.prog 160 [VS x1] 0 [] (.tup [VS r.1,VB r.2]) [] := by
 unfold impl_Frame at h
 refine Says.of_norm e Tryz.call160 e fun B hB => ?_
 have hm : B.m ≤ 1000 := by omega
 refine Run.so hm (.p2 e e (.nil (.seq (.so hm (.p2 e e ?_)))))
 obtain ⟨y128,hy128,h⟩ := bindO h
 refine Ops.z 5128 (Ev.call [] [] 0 (sem_impl_within _ _ _ _ _ hy128) e e (.d2 (.d1 .nil)) e (.inl e) e e) e e (.p e (.nil (.condO e h (fun g129 h => ?_) (fun g129 h => ?_))))
 ·refine Run.so hm (.p2 e e (.nil (.ret ?_)))
  obtain rfl := someO h
  exact Ends.mkG (.inl e) e (gh_pk [0,1] [] hB e e e e) e e
 ·refine Run.skip (.so hm (.p2 e e ?_))
  obtain ⟨y133,hy133,h⟩ := bindO h
  refine Ops.z 13320 (Ev.call [] [] 0 (sem_impl_VarText _ _ _ hy133) e e (.d1 .nil) e (.inl e) e e) e e (.p3 e e e (.p2 e e (.nil (.so hm (.p e ?_)))))
  obtain ⟨y137,hy137,h⟩ := bindO h
  refine Ops.z 17400 (Ev.call [] [] 0 (sem_impl_SumOf _ _ _ hy137) e e (.d1 .nil) e (.inl e) e e) e e (.p e (.nil (.so hm (.p2 e e ?_))))
  obtain ⟨x143,hx143,h⟩ := bindO h
  refine Ops.z 21512 (.sh e e hx143) e e (.p2 e e ?_)
  obtain ⟨x144,hx144,h⟩ := bindO h
  refine Ops.z 21560 (.sh e e hx144) e e (.p2 e e ?_)
  obtain ⟨x145,hx145,h⟩ := bindO h
  refine Ops.z 21608 (.sh e e hx145) e e (.p3 e e e (.z 21672 (Ev.bsW (ys := ([IntKind.wrap .u8 (x143),IntKind.wrap .u8 (x144),IntKind.wrap .u8 (x145),IntKind.wrap .u8 (y137)] : List Int)) (f := encU) e (.d4 .nil) e e e e e) e e (.z 21688 (.sbC (addsW (f := encU) e e e (fun _ => e))) e e ?_)))
  obtain ⟨x146,hx146,h⟩ := bindO h
  refine Ops.z 21704 (Ev.addS e e hx146) e e (.p e ?_)
  obtain ⟨x147,hx147,h⟩ := bindO h
  refine Ops.z 21736 (Ev.addS e e hx147) e e (.p2 e e (.nil (.ret ?_)))
  obtain rfl := someO h
  exact Ends.mkG (.inl e) e (gh_pk [0,1] [] hB e e e e) e e
def impl_framed (N : Nat) (x1 : ByteArray) : Option (ByteArray) :=
 (impl_Frame N x1).bind fun y107 =>
 some y107.1
theorem sem_impl_framed (N : Nat) (x1 : ByteArray) (r : ByteArray) (h : impl_framed N x1 = some r) : Says Tryz.prog 106 [VS x1] 0 [] (VS r) [] := by
 unfold impl_framed at h
 refine Says.of_norm e Tryz.call106 e fun B hB => ?_
 have hm : B.m ≤ 1000 := by omega
 refine Run.so hm (.p e (.nil (.so hm (.p e ?_))))
 obtain ⟨y107,hy107,h⟩ := bindO h
 refine Ops.z 5112 (Ev.call [] [] 0 (sem_impl_Frame _ _ _ hy107) e e (.d1 .nil) e (.inl e) e e) e e (.p3 e e e (.p2 e e (.nil (.so hm (.p2 e e (.nil (.ret ?_)))))))
 obtain rfl := someO h
 exact Ends.mkG (.inl e) e (gh_pk [0] [] hB e e e e) e e
def impl_entryFrames_l1 (N : Nat) (x1 : Log) (x2 : Int) : Nat → Option (Unit)
 | 0 => none
 | m + 1 =>
 (if (decide (x2 < (x1.Entries.length : Int))) = true then
 none
 else
 some ())
def impl_entryFrames (N : Nat) (x1 : Log) (x2 : Int) : Option (ByteArray) :=
 joinP (fun (v134 : Unit) =>
 some (strOf ([] : (List Int)))) fun j134 =>
 (impl_entryFrames_l1 N x1 x2 N).bind (fun v142 => j134 ())
theorem sem_impl_entryFrames (N : Nat) (x1 : Log) (x2 : Int) (r : ByteArray) (h : impl_entryFrames N x1 x2 = some r) : Says Tryz.prog 107 [.agg [VI x1.Start,VI x1.StartTerm,RO 111 (x1.Entries.map encEntry)],VI x2] 0 [] (VS r) [] := by
 unfold impl_entryFrames at h
 refine Says.of_norm e Tryz.call107 e fun B hB => ?_
 have hm : B.m ≤ 1000 := by omega
 refine Run.so hm (.z 1000 (.bx e e) e e (.p e (.nil (.so hm (.p e (.nil (.seqO h (fun v134 => [(5,.sl 0 5 0 (([] : (List Int)).length))]) (fun (v134 : Unit) => [(0,.vec 5 (([] : (List Int)).map encU))]) (fun h => ?_) (fun v134 h => ?_))))))))
 ·refine Run.so hm (.p2 e e (.nil (.block ?_)))
  obtain ⟨res142,h,hk142⟩ := bindO h
  refine Run.loop (n := N) (fun m142 fr σ => impl_entryFrames_l1 N x1 x2 m142 = some res142 ∧ fr = [(2,.ptr 0 0),(5,.sl 1 5 0 (([] : (List Int)).length)),(6,VI x2)] ∧ σ = [(0,.box [VI x1.Start,VI x1.StartTerm,RO 111 (x1.Entries.map encEntry)]),(1,.vec 5 (([] : (List Int)).map encU))]) (Gh.trans (Gh.trans (gh_prn [2,5,6] [1000] hB e) (gh_nil [5] [] hB e e e)) (gh_pk [2,5,6] [1000,10000000] hB e e e e)) ⟨h,e,e⟩ ?_
  rintro m142 fr σ ⟨h,rfl,rfl⟩
  obtain _ | m142 := m142
  ·rw [impl_entryFrames_l1] at h; cases h
  rw [impl_entryFrames_l1] at h
  refine Run.seq (.so hm (.p3 e e e (.z 13336 (Ev.lnF e) e e (.p e (.nil (.condO e h (fun g145 h => ?_) (fun g145 h => ?_)))))))
  ·exact noO h
  ·refine Run.exit ?_
   obtain rfl := someO h
   have h := hk142
   exact ⟨_,_,(gh_pk [5] [1] hB e e e e),(),h,e,e⟩
 ·refine Run.so hm (.p e (.z 29688 (.sbC (addsW (f := encU) e e e (fun _ => e))) e e (.p e (.nil (.ret ?_)))))
  obtain rfl := someO h
  exact Ends.mkG (.inl e) e (gh_pk [0] [] hB e e e e) e e
def impl_LogFile (N : Nat) (x1 : Log) : Option (ByteArray × Bool) :=
 (impl_LogOk N x1).bind fun y132 =>
 (if (!y132) = true then
 some ((⟨#[]⟩ : ByteArray),false)
 else
 (impl_vars N ([x1.Start,x1.StartTerm] : List Int)).bind fun y137 =>
 (scat? (⟨#[83]⟩ : ByteArray) y137.1).bind fun x150 =>
 (impl_framed N x150).bind fun y151 =>
 (impl_entryFrames N x1 0).bind fun y152 =>
 (scat? y151 y152).bind fun x153 =>
 (if (decide ((x153.size : Int) > 20000)) = true then
 some ((⟨#[]⟩ : ByteArray),false)
 else
 some (x153,true)))
theorem sem_impl_LogFile (N : Nat) (x1 : Log) (r : ByteArray × Bool) (h : impl_LogFile N x1 = some r) : Says Tryz.prog 53 [.agg [VI x1.Start,VI x1.StartTerm,RO 111 (x1.Entries.map encEntry)]] 0 [] (.tup [VS r.1,VB r.2]) [] := by
 unfold impl_LogFile at h
 refine Says.of_norm e Tryz.call53 e fun B hB => ?_
 have hm : B.m ≤ 1000 := by omega
 refine Run.so hm (.z 1000 (.bx e e) e e (.p2 e e (.nil (.seq (.so hm (.p e ?_))))))
 obtain ⟨y132,hy132,h⟩ := bindO h
 refine Ops.z 5112 (Ev.call [] [] 0 (sem_impl_LogOk _ _ _ hy132) e e (.cons (.agg (.d2 (.d1 .nil))) .nil) e (.inl e) e e) e e (.p e (.nil (.condO e h (fun g133 h => ?_) (fun g133 h => ?_))))
 ·refine Run.so hm (.p2 e e (.nil (.ret ?_)))
  obtain rfl := someO h
  exact Ends.mkG (.inl e) e (gh_pk [0,1] [] hB e e e e) e e
 ·refine Run.skip (.so hm (.p3 e e e (.p e (.z 13352 (Ev.bsW (ys := ([x1.Start,x1.StartTerm] : List Int)) (f := encI) e (.d2 .nil) e e e e e) e e ?_))))
  obtain ⟨y137,hy137,h⟩ := bindO h
  refine Ops.z 13368 (Ev.call [] [13352] 0 (sem_impl_vars _ _ _ hy137) e e (.cons (.borrow e (by decide) (lendW (fun _ => e) _ e)) .nil) e (.inr ⟨e,ownL_root trivial⟩) e e) e e ?_
  refine Ops.p e (.p3 e e e (.p e (.nil (.seq (.draw hm hmix (.p e ?_))))))
  obtain ⟨x150,hx150,h⟩ := bindO h
  refine OpsD.z 17400 (Ev.addS e e hx150) e e ?_
  obtain ⟨y151,hy151,h⟩ := bindO h
  refine OpsD.z 17416 (Ev.call [] [] 0 (sem_impl_framed _ _ _ hy151) e e (.d1 .nil) e (.inl e) e e) e e (.p e ?_)
  obtain ⟨y152,hy152,h⟩ := bindO h
  refine OpsD.z 17448 (Ev.call [] [] 0 (sem_impl_entryFrames _ _ _ _ hy152) e e (.cons (.agg (.d2 (.d1 .nil))) (.d1 .nil)) e (.inl e) e e) e e ?_
  obtain ⟨x153,hx153,h⟩ := bindO h
  refine OpsD.z 17464 (Ev.addS e e hx153) e e (.p e (.nil ⟨by kernel_rfl,?_⟩))
  refine Run.seq (.so hm (.p3 e e e (.nil (.condO e h (fun g155 h => ?_) (fun g155 h => ?_)))))
  ·refine Run.so hm (.p2 e e (.nil (.ret ?_)))
   obtain rfl := someO h
   exact Ends.mkG (.inl e) e (gh_pk [0,1] [] hB e e e e) e e
  ·refine Run.skip (.so hm (.p3 e e e (.nil (.ret ?_))))
   obtain rfl := someO h
   exact Ends.mkG (.inl e) e (gh_pk [0,1] [] hB e e e e) e e
def impl_copyDisk (N : Nat) (x1 : Disk) : Option (Disk) :=
 (cat? ([] : List File) x1.Files).bind fun x103 =>
 some (Disk.mk x103)
theorem sem_impl_copyDisk (N : Nat) (x1 : Disk) (r : Disk) (h : impl_copyDisk N x1 = some r) : Says Tryz.prog 108 [.agg [RO 80 (x1.Files.map encFile)]] 0 [] (.agg [.sl 0 80 0 r.Files.length]) [(0,.vec 80 (r.Files.map encFile))] := by
 unfold impl_copyDisk at h
 refine Says.of_norm e Tryz.call108 e fun B hB => ?_
 have hm : B.m ≤ 1000 := by omega
 refine Run.so hm (.z 1000 (.bx e e) e e (.z 1016 (.al e e) e e (.nil (.so hm (.p2 e e ?_)))))
 obtain ⟨x103,hx103,h⟩ := bindO h
 refine Ops.z 5128 (Ev.apW (f := encFile) (ontoN (f := encFile) e) (addsF e) e bt80 e hx103) e e (.z 5144 (.bd e e) e e (.y 5160 (.sto e e e e e e) e e (.nil (.ret ?_))))
 obtain rfl := someO h
 exact Ends.mkG (.inl e) e (gh_pk [0] [5128] hB e e e e) e e
def strings_Compare (N : Nat) (x1 : ByteArray) (x2 : ByteArray) : Option (Int) := some (Lib.compareBytes x1.data.toList x2.data.toList)
theorem sem_strings_Compare (N : Nat) (x1 : ByteArray) (x2 : ByteArray) (r : Int) (h : strings_Compare N x1 x2 = some r) : Says Tryz.prog 164 [VS x1,VS x2] 0 [] (VI r) [] := says_compare Tryz.call164 Go.Proofs.Tryz.strings_Compare h
def impl_fileNo_1 (N : Nat) (x1 : File) (x2 : ByteArray) : Option (Int) :=
 (strings_Compare N x1.Name x2).bind fun y103 =>
 some y103
theorem sem_impl_fileNo_1 (N : Nat) (x1 : File) (x2 : ByteArray) (r : Int) (h : impl_fileNo_1 N x1 x2 = some r) : Says Tryz.prog 163 [.agg [VS x1.Name,VS x1.Text],VS x2] 0 [] (VI r) [] := by
 unfold impl_fileNo_1 at h
 refine Says.of_norm e Tryz.call163 e fun B hB => ?_
 have hm : B.m ≤ 1000 := by omega
 refine Run.so hm (.z 1000 (.bx e e) e e (.p e (.nil (.so hm (.p3 e e e ?_)))))
 obtain ⟨y103,hy103,h⟩ := bindO h
 refine Ops.z 5144 (Ev.call [] [] 0 (sem_strings_Compare _ _ _ _ hy103) e e (.d2 .nil) e (.inl e) e e) e e (.p e (.nil (.ret ?_)))
 obtain rfl := someO h
 exact Ends.mkG (.inl e) e (gh_pk [0] [] hB e e e e) e e
def slices_BinarySearchFunc_string_l1 (N : Nat) (x1 : (List File)) (x2 : ByteArray) : Nat → Int → Int → Option (Int)
 | 0,_,_ => none
 | m + 1,x198,x199 =>
 (if (decide (x198 < x199)) = true then
 (intSh .shr .u64 (IntKind.wrap .u64 (w64 (x198 + x199))) 1).bind fun x218 =>
 (at? x1 (w64 (x218))).bind fun x221 =>
 (impl_fileNo_1 N x221 x2).bind fun y222 =>
 (if (decide (y222 < 0)) = true then
 slices_BinarySearchFunc_string_l1 N x1 x2 m (w64 ((w64 (x218)) + 1)) x199
 else
 slices_BinarySearchFunc_string_l1 N x1 x2 m x198 (w64 (x218)))
 else
 some x198)
def slices_BinarySearchFunc_string (N : Nat) (x1 : (List File)) (x2 : ByteArray) : Option (Int × Bool) :=
 joinP (fun (v194 : Int) =>
 (if (decide (v194 < (x1.length : Int))) = true then
 (at? x1 v194).bind fun x228 =>
 (impl_fileNo_1 N x228 x2).bind fun y229 =>
 some (v194,(y229 == 0))
 else
 some (v194,false))) fun j194 =>
 (slices_BinarySearchFunc_string_l1 N x1 x2 N 0 (x1.length : Int)).bind (fun v211 => j194 v211)
theorem sem_slices_BinarySearchFunc_string (N : Nat) (x1 : (List File)) (x2 : ByteArray) (r : Int × Bool) (h : slices_BinarySearchFunc_string N x1 x2 = some r) : Says Tryz.prog 162 [RO 80 (x1.map encFile),VS x2,.fn 163 []] 0 [] (.tup [VI r.1,VB r.2]) [] := by
 unfold slices_BinarySearchFunc_string at h
 refine Says.of_norm e Tryz.call162 e fun B hB => ?_
 have hm : B.m ≤ 1000 := by omega
 refine Run.so hm (.p2 e e (.nil (.so hm (.p e (.z 5112 (Ev.lnF e) e e (.p e (.nil (.so hm (.p3 e e e (.nil (.seqO h (fun v194 => [(0,RO 80 (x1.map encFile)),(1,VS x2),(2,.fn 163 []),(8,VI (x1.length : Int)),(9,VI v194)]) (fun (v194 : Int) => []) (fun h => ?_) (fun v194 h => ?_))))))))))))
 ·refine Run.block ?_
  obtain ⟨res211,h,hk211⟩ := bindO h
  refine Run.loop (n := N) (fun m211 fr σ => ∃ (x198 : Int),∃ (x199 : Int),slices_BinarySearchFunc_string_l1 N x1 x2 m211 x198 x199 = some res211 ∧ fr = [(0,RO 80 (x1.map encFile)),(1,VS x2),(2,.fn 163 []),(8,VI (x1.length : Int)),(9,VI x198),(10,VI x199)] ∧ σ = []) (gh_pk [0,1,2,8,9,10] [] hB e e e e) ⟨_,_,h,e,e⟩ ?_
  rintro m211 fr σ ⟨x198,x199,h,rfl,rfl⟩
  obtain _ | m211 := m211
  ·rw [slices_BinarySearchFunc_string_l1] at h; cases h
  rw [slices_BinarySearchFunc_string_l1] at h
  refine Run.seq (.so hm (.p3 e e e (.nil (.condO e h (fun g214 h => ?_) (fun g214 h => ?_)))))
  ·refine Run.skip (.block (.so hm (.p3 e e e (.p e ?_))))
   obtain ⟨x218,hx218,h⟩ := bindO h
   refine Ops.z 17448 (.sh e e hx218) e e (.p2 e e (.nil (.so hm (.p3 e e e ?_))))
   obtain ⟨x221,hx221,h⟩ := bindO h
   refine Ops.z 21528 (Ev.iaF e e hx221) e e (.p2 e e ?_)
   obtain ⟨y222,hy222,h⟩ := bindO h
   refine Ops.z 21576 (Ev.callx [] [] 0 e (sem_impl_fileNo_1 _ _ _ _ hy222) e e (.cons (.agg (.d2 .nil)) (.d1 .nil)) e (.inl e) e e) e e (.p e (.nil (.condO e h (fun g223 h => ?_) (fun g223 h => ?_))))
   ·exact Run.ops hm (.p3 e e e (.nil (⟨m211,Nat.lt_succ_self m211,_,_,(gh_pk [0,1,2,8,9,10] [] hB e e e e),_,_,h,e,e⟩)))
   ·exact Run.ops hm (.p2 e e (.nil (⟨m211,Nat.lt_succ_self m211,_,_,(gh_pk [0,1,2,8,9,10] [] hB e e e e),_,_,h,e,e⟩)))
  ·refine Run.exit ?_
   obtain rfl := someO h
   have h := hk211
   exact ⟨_,_,(gh_pk [0,1,2,8,9] [] hB e e e e),_,h,e,e⟩
 ·refine Run.so hm (.p3 e e e (.p2 e e (.askO (x := .t 39) e h (fun g227 h => ?_) (fun g227 h => ?_))))
  ·refine Ops.gp e g227 e (.gp e g227 e (.gp e g227 e ?_))
   obtain ⟨x228,hx228,h⟩ := bindO h
   refine Ops.gs (s := 33896) e g227 (Ev.iaF e e hx228) e e (.gp e g227 e (.gp e g227 e ?_))
   obtain ⟨y229,hy229,h⟩ := bindO h
   refine Ops.gs (s := 33944) e g227 (Ev.callx [] [] 0 e (sem_impl_fileNo_1 _ _ _ _ hy229) e e (.cons (.agg (.d2 .nil)) (.d1 .nil)) e (.inl e) e e) e e (.gp e g227 e (.z 33976 (.pkT e g227 e) e e (.p2 e e (.nil (.ret ?_)))))
   obtain rfl := someO h
   exact Ends.mkG (.inl e) e (gh_pk [0,1] [] hB e e e e) e e
  ·refine Ops.gn e g227 (.gn e g227 (.gn e g227 (.gn e g227 (.gn e g227 (.gn e g227 (.gn e g227 (.gn e g227 (.z 33976 (.pkF e g227 e) e e (.p2 e e (.nil (.ret ?_)))))))))))
   obtain rfl := someO h
   exact Ends.mkG (.inl e) e (gh_pk [0,1] [] hB e e e e) e e
def impl_fileNo (N : Nat) (x1 : Disk) (x2 : ByteArray) : Option (Int × Bool) :=
 (slices_BinarySearchFunc_string N x1.Files x2).bind fun y103 =>
 some (y103.1,y103.2)
theorem sem_impl_fileNo (N : Nat) (x1 : Disk) (x2 : ByteArray) (r : Int × Bool) (h : impl_fileNo N x1 x2 = some r) : Says Tryz.prog 109 [.agg [RO 80 (x1.Files.map encFile)],VS x2] 0 [] (.tup [VI r.1,VB r.2]) [] := by
 unfold impl_fileNo at h
 refine Says.of_norm e Tryz.call109 e fun B hB => ?_
 have hm : B.m ≤ 1000 := by omega
 refine Run.so hm (.z 1000 (.bx e e) e e (.p2 e e (.nil (.so hm (.p3 e e e ?_)))))
 obtain ⟨y103,hy103,h⟩ := bindO h
 refine Ops.z 5144 (Ev.call [] [] 0 (sem_slices_BinarySearchFunc_string _ _ _ _ hy103) e e (.d2 (.cons (.fn .nil) .nil)) e (.inl e) e e) e e (.p3 e e e (.p e (.nil (.ret ?_))))
 obtain rfl := someO h
 exact Ends.mkG (.inl e) e (gh_pk [0,1] [] hB e e e e) e e
def slices_Insert_File (N : Nat) (x1 : (List File)) (x2 : Int) (x3 : (List File)) : Option ((List File)) := ins? x1 x2 x3
theorem sem_slices_Insert_File (N : Nat) (x1 : (List File)) (x2 : Int) (x3 : (List File)) (r : (List File)) (h : slices_Insert_File N x1 x2 x3 = some r) : Says Tryz.prog 110 [.sl 0 80 0 x1.length,VI x2,.sl 1 80 0 x3.length] 2 [(0,.vec 80 (x1.map encFile)),(1,.vec 80 (x3.map encFile))] (.sl 2 80 0 r.length) [(0,.gone),(1,.gone),(2,.vec 80 (r.map encFile))] := says_ins Tryz.call110 Pe.ins110 (fun _ => rfl) h
def impl_withFile (N : Nat) (x1 : Disk) (x2 : ByteArray) (x3 : ByteArray) : Option (Disk) :=
 (impl_copyDisk N x1).bind fun y122 =>
 (impl_fileNo N x1 x2).bind fun y126 =>
 joinP (fun (v132 : (List File)) =>
 some (Disk.mk v132)) fun j132 =>
 (if y126.2 = true then
 (at? y122.Files y126.1).bind fun x135 =>
 j132 (y122.Files.set y126.1.toNat (File.mk x135.Name x3))
 else
 (slices_Insert_File N y122.Files y126.1 ([(File.mk x2 x3)] : List File)).bind fun y137 =>
 j132 y137)
theorem sem_impl_withFile (N : Nat) (x1 : Disk) (x2 : ByteArray) (x3 : ByteArray) (r : Disk) (h : impl_withFile N x1 x2 x3 = some r) : Says Tryz.prog 54 [.agg [RO 80 (x1.Files.map encFile)],VS x2,VS x3] 0 [] (.agg [.sl 0 80 0 r.Files.length]) [(0,.vec 80 (r.Files.map encFile))] := by
 unfold impl_withFile at h
 refine Says.of_norm e Tryz.call54 e fun B hB => ?_
 have hm : B.m ≤ 1000 := by omega
 refine Run.so hm (.z 1000 (.bx e e) e e (.z 1016 (.al e e) e e (.nil (.so hm (.p e ?_)))))
 obtain ⟨y122,hy122,h⟩ := bindO h
 refine Ops.z 5112 (Ev.call [] [] 1 (sem_impl_copyDisk _ _ _ hy122) e e (.cons (.agg (.d1 .nil)) .nil) e (.inl e) e e) e e (.z 5128 (.al e e) e e (.y 5144 (.sto e e e e e e) e e (.nil (.so hm (.p2 e e ?_)))))
 obtain ⟨y126,hy126,h⟩ := bindO h
 refine Ops.z 9224 (Ev.call [] [] 0 (sem_impl_fileNo _ _ _ _ hy126) e e (.cons (.agg (.d1 .nil)) (.d1 .nil)) e (.inl e) e e) e e (.p3 e e e (.p2 e e (.nil (.seqO h (fun v132 => [(6,.ptr 0 0),(7,.ptr 1 0)]) (fun (v132 : (List File)) => [(0,.box [.sl 2 80 0 (([] : List File).length)]),(1,.box [.sl 3 80 0 v132.length]),(2,.vec 80 (([] : List File).map encFile)),(3,.vec 80 (v132.map encFile))]) (fun h => ?_) (fun v132 h => ?_)))))
 ·refine Run.so hm (.p e (.nil (.condO e h (fun g133 h => ?_) (fun g133 h => ?_))))
  ·refine Run.ops hm (.p3 e e e (.p e ?_))
   obtain ⟨x135,hx135,h⟩ := bindO h
   exact Ops.z 17448 (Ev.iaW e e e hx135) e e (.p e (.y 17480 (Ev.stE (f := encFile) (v' := (File.mk x135.Name x3)) e e (at_some hx135).2 e (.d1 .nil) e e e e e) e e (.nil (⟨_,_,(Gh.trans (Gh.trans (gh_prn [6,7] [1016,5128,5112] hB e) (gh_nil [] [1016] hB e e e)) (gh_pk [6,7] [1016,5128,20000000,5112] hB e e (by first | rfl | (simp only [List.length_set]; done) | (simp only [List.length_set]; rfl)) (by first | rfl | (simp only [List.length_set]; done) | (simp only [List.length_set]; rfl)))),_,h,e,e⟩))))
  ·refine Run.ops hm (.p3 e e e (.p2 e e (.z 21560 (.bd e e) e e (.z 21576 (Ev.bsW (ys := ([(File.mk x2 x3)] : List File)) (f := encFile) e (.d2 .nil) e e e e e) e e ?_))))
   obtain ⟨y137,hy137,h⟩ := bindO h
   exact Ops.z 21592 (Ev.call [5112,21576] [] 1 (sem_slices_Insert_File _ _ _ _ _ hy137) e e (.cons (.sl e) (.d1 (.cons (.sl e) .nil))) e (.inl e) e e) e e (.p e (.y 21624 (.sto e e e e e e) e e (.nil (⟨_,_,(Gh.trans (Gh.trans (gh_prn [6,7] [1016,5128,21592] hB e) (gh_nil [] [1016] hB e e e)) (gh_pk [6,7] [1016,5128,20000000,21592] hB e e e e)),_,h,e,e⟩))))
 ·refine Run.so hm (.p e (.y 25592 (.sto e e e e e e) e e (.nil (.ret ?_))))
  obtain rfl := someO h
  exact Ends.mkG (.inl e) e (gh_pk [0] [3] hB e e e e) e e
def impl_FormatDisk (N : Nat) (x1 : (List Int)) : Option (Disk × Bool) :=
 (impl_FormatShelf N x1).bind fun y115 =>
 (if (!y115.2) = true then
 some ((Disk.mk ([])),false)
 else
 (impl_LogFile N (Log.mk 0 0 ([]))).bind fun y121 =>
 (impl_withFile N y115.1 (⟨#[108,111,103]⟩ : ByteArray) y121.1).bind fun y123 =>
 some (y123,true))
theorem sem_impl_FormatDisk (N : Nat) (x1 : (List Int)) (r : Disk × Bool) (h : impl_FormatDisk N x1 = some r) : Says Tryz.prog 15 [RO 3 (x1.map encI)] 0 [] (.tup [.agg [.sl 0 80 0 r.1.Files.length],VB r.2]) [(0,.vec 80 (r.1.Files.map encFile))] := by
 unfold impl_FormatDisk at h
 refine Says.of_norm e Tryz.call15 e fun B hB => ?_
 have hm : B.m ≤ 1000 := by omega
 refine Run.so hm (.z 1000 (.al e e) e e (.p e (.nil (.so hm (.p e ?_)))))
 obtain ⟨y115,hy115,h⟩ := bindO h
 refine Ops.z 5112 (Ev.call [] [] 1 (sem_impl_FormatShelf _ _ _ hy115) e e (.d1 .nil) e (.inl e) e e) e e (.p3 e e e (.z 5176 (.al e e) e e (.y 5192 (.sto e e e e e e) e e (.p e (.nil (.seq (.so hm (.p2 e e (.nil (.condO e h (fun g117 h => ?_) (fun g117 h => ?_)))))))))))
 ·refine Run.so hm (.z 13288 (.bd e e) e e (.y 13304 (.sto e e e e e e) e e (.p e (.nil (.ret ?_)))))
  obtain rfl := someO h
  exact Ends.mkG (.inl e) e (Gh.trans (Gh.trans (gh_prn [0,1] [] hB e) (gh_nil [0] [] hB e e e)) (gh_pk [0,1] [10000000] hB e e e e)) e e
 ·refine Run.skip (.so hm (.z 17384 (.bd e e) e e ?_))
  obtain ⟨y121,hy121,h⟩ := bindO h
  refine Ops.z 17400 (Ev.call [] [] 0 (sem_impl_LogFile _ _ _ hy121) e e (.cons (.agg (.d2 (.cons (.nil _ _) .nil))) .nil) e (.inl e) e e) e e (.p3 e e e (.p2 e e (.nil (.so hm (.p2 e e ?_)))))
  obtain ⟨y123,hy123,h⟩ := bindO h
  refine Ops.z 21512 (Ev.call [] [5112] 1 (sem_impl_withFile _ _ _ _ _ hy123) e e (.cons (.agg (.cons (.borrow e (by decide) (lendW (fun _ => e) _ e)) .nil)) (.d2 .nil)) e (.inr ⟨e,ownL_root ⟨own_rows (fun _ => e) _,trivial⟩⟩) e e) e e ?_
  refine Ops.y 21528 (.sto e e e e e e) e e (.p e (.nil (.ret ?_)))
  obtain rfl := someO h
  exact Ends.mkG (.inl e) e (gh_pk [0,1] [21512] hB e e e e) e e
def impl_DiskOk_l1 (N : Nat) (x1 : Disk) : Nat → Int → Option ((Bool) ⊕ (Unit))
 | 0,_ => none
 | m + 1,x227 =>
 (if (decide (x227 < (x1.Files.length : Int))) = true then
 (at? x1.Files x227).bind fun x254 =>
 (impl_within N (x254.Name.size : Int) 1 12).bind fun y260 =>
 (if (!y260) = true then
 some (Sum.inl false)
 else
 (if (decide ((x254.Text.size : Int) > 20000)) = true then
 some (Sum.inl false)
 else
 (if (decide (x227 > 0)) = true then
 (at? x1.Files (w64 (x227 - 1))).bind fun x264 =>
 (if (!Op.bytesLess x264.Name.toList x254.Name.toList) = true then
 some (Sum.inl false)
 else
 impl_DiskOk_l1 N x1 m (w64 (x227 + 1)))
 else
 impl_DiskOk_l1 N x1 m (w64 (x227 + 1)))))
 else
 some (Sum.inr ()))
def impl_DiskOk_l1_r (N : Nat) (x1 : Disk) : (List File) → Int → Option ((Bool) ⊕ (Unit))
 | [],x227 =>
 some (Sum.inr ())
 | hd :: tl,x227 =>
 (some hd).bind fun x254 =>
 (impl_within N (x254.Name.size : Int) 1 12).bind fun y260 =>
 (if (!y260) = true then
 some (Sum.inl false)
 else
 (if (decide ((x254.Text.size : Int) > 20000)) = true then
 some (Sum.inl false)
 else
 (if (decide (x227 > 0)) = true then
 (at? x1.Files (w64 (x227 - 1))).bind fun x264 =>
 (if (!Op.bytesLess x264.Name.toList x254.Name.toList) = true then
 some (Sum.inl false)
 else
 impl_DiskOk_l1_r N x1 tl (w64 (x227 + 1)))
 else
 impl_DiskOk_l1_r N x1 tl (w64 (x227 + 1)))))
theorem impl_DiskOk_l1_rng (N : Nat) (x1 : Disk) (hx : x1.Files.length ≤ 1099511627776) : ∀ (d k m : Nat),x1.Files.length = k + d → d < m → impl_DiskOk_l1 N x1 m (k : Int) = impl_DiskOk_l1_r N x1 (x1.Files.drop k) (k : Int) := by
 intro d
 induction d with
 | zero =>
  intro k m hd hm
  obtain ⟨m,rfl⟩ : ∃ q,m = q + 1 := ⟨m - 1,by omega⟩
  rw [impl_DiskOk_l1,if_neg (by simp; omega),List.drop_eq_nil_of_le (by omega),impl_DiskOk_l1_r]
 | succ d ih =>
  intro k m hd hm
  obtain ⟨m,rfl⟩ : ∃ q,m = q + 1 := ⟨m - 1,by omega⟩
  have hk : k < x1.Files.length := by omega
  rw [impl_DiskOk_l1,if_pos (by simp; omega),List.drop_eq_getElem_cons hk,impl_DiskOk_l1_r]
  have h1 := at_lt hk
  have h2 := w64_succ (k := k) (by omega)
  have h3 := ih (k + 1) m
  simp only [h1,h2,h3 (by omega) (by omega)]
theorem impl_DiskOk_l1_eq {N : Nat} (x1 : Disk) (hx : x1.Files.length ≤ 1099511627776) (hN : x1.Files.length < N) : impl_DiskOk_l1 N x1 N 0 = impl_DiskOk_l1_r N x1 x1.Files 0 := impl_DiskOk_l1_rng N x1 hx x1.Files.length 0 N (by omega) hN
def impl_DiskOk (N : Nat) (x1 : Disk) : Option (Bool) :=
 joinP (fun (v224 : Unit) =>
 some (decide ((x1.Files.length : Int) ≤ 30))) fun j224 =>
 (impl_DiskOk_l1 N x1 N 0).bind (Sum.elim (fun v246 => some v246) (fun (v247 : Unit) => j224 ()))
theorem sem_impl_DiskOk (N : Nat) (x1 : Disk) (r : Bool) (h : impl_DiskOk N x1 = some r) : Says Tryz.prog 111 [.agg [RO 80 (x1.Files.map encFile)]] 0 [] (VB r) [] := by
 unfold impl_DiskOk at h
 refine Says.of_norm e Tryz.call111 e fun B hB => ?_
 have hm : B.m ≤ 1000 := by omega
 refine Run.so hm (.z 1000 (.bx e e) e e (.p e (.nil (.seqO h (fun v224 => [(1,.ptr 0 0)]) (fun (v224 : Unit) => [(0,.box [RO 80 (x1.Files.map encFile)])]) (fun h => ?_) (fun v224 h => ?_)))))
 ·refine Run.so hm (.p2 e e (.z 5128 (Ev.lnF e) e e (.p e (.nil (.block ?_)))))
  obtain ⟨res247,h,hk247⟩ := bindO h
  refine Run.loop (n := N) (fun m247 fr σ => ∃ (x227 : Int),impl_DiskOk_l1 N x1 m247 x227 = some res247 ∧ fr = [(1,.ptr 0 0),(6,RO 80 (x1.Files.map encFile)),(7,VI (x1.Files.length : Int)),(8,VI x227)] ∧ σ = [(0,.box [RO 80 (x1.Files.map encFile)])]) (gh_pk [1,6,7,8] [1000] hB e e e e) ⟨_,h,e,e⟩ ?_
  rintro m247 fr σ ⟨x227,h,rfl,rfl⟩
  obtain _ | m247 := m247
  ·rw [impl_DiskOk_l1] at h; cases h
  rw [impl_DiskOk_l1] at h
  refine Run.so hm (.p e (.nil (.seq (.condO e h (fun g250 h => ?_) (fun g250 h => ?_)))))
  ·refine Run.skip (.seq (.block (.so hm (.p e ?_))))
   obtain ⟨x254,hx254,h⟩ := bindO h
   refine Ops.z 13304 (Ev.iaF e e hx254) e e (.p e (.z 13336 (.al e e) e e (.p e (.y 13368 (.sto e e e e e e) e e (.nil (.seq (.draw hm hmix (.p e (.p e (.p e ?_))))))))))
   obtain ⟨y260,hy260,h⟩ := bindO h
   refine OpsD.z 17432 (Ev.call [] [] 0 (sem_impl_within _ _ _ _ _ hy260) e e (.d2 (.d1 .nil)) e (.inl e) e e) e e (.p e (.p e (.askO (x := .t 18) e h (fun g261 h => ?_) (fun g261 h => ?_))))
   ·refine OpsD.gn e g261 (.gn e g261 (.gn e g261 (.gn e g261 (.z 17544 (.pkT e g261 e) e e (.p e (.gn e e (.gn e e (.gn e e (.gu e (.gu e (.gu e (.gu e (.gu e (.gu e (.gu e (.gu e (.gu e (.gu e (.gn e e (.z 17800 (.pkT e e e) e e (.nil ⟨by kernel_rfl,?_⟩)))))))))))))))))))))
    refine Run.condT e e (.so hm (.p e (.nil (.ret ?_))))
    obtain rfl := someO h
    have h := hk247
    replace h := inlO h
    obtain rfl := someO h
    exact Ends.mkG (.inl e) e (gh_pk [0] [] hB e e e e) e e
   ·refine OpsD.gp e g261 e (.gp e g261 e (.gp e g261 e (.gp e g261 e (.z 17544 (.pkF e g261 e) e e (.p e (.askO (x := .t 24) e h (fun g262 h => ?_) (fun g262 h => ?_)))))))
    ·refine OpsD.gn e g262 (.gn e g262 (.gn e g262 (.gu e (.gu e (.gu e (.gu e (.gu e (.gu e (.gu e (.gu e (.gu e (.gu e (.gn e g262 (.z 17800 (.pkT e g262 e) e e (.nil ⟨by kernel_rfl,?_⟩)))))))))))))))
     refine Run.condT e e (.so hm (.p e (.nil (.ret ?_))))
     obtain rfl := someO h
     have h := hk247
     replace h := inlO h
     obtain rfl := someO h
     exact Ends.mkG (.inl e) e (gh_pk [0] [] hB e e e e) e e
    ·refine OpsD.gp e g262 e (.gp e g262 e (.gp e g262 e (.askO (x := .t 27) e h (fun g263 h => ?_) (fun g263 h => ?_))))
     ·refine OpsD.gp e g263 e (.gp e g263 e (.gp e g263 e (.gp e g263 e ?_)))
      obtain ⟨x264,hx264,h⟩ := bindO h
      refine OpsD.gs (s := 17688) e g263 (Ev.iaF e e hx264) e e (.gp e g263 e (.gp e g263 e (.gp e g263 e (.gp e g263 e (.gp e g263 e (.gs (s := 17784) e g262 (.pkT e g263 e) e e (.z 17800 (.pkF e g262 e) e e (.nil ⟨by kernel_rfl,?_⟩))))))))
      refine Run.condO e h (fun g265 h => ?_) (fun g265 h => ?_)
      ·refine Run.so hm (.p e (.nil (.ret ?_)))
       obtain rfl := someO h
       have h := hk247
       replace h := inlO h
       obtain rfl := someO h
       exact Ends.mkG (.inl e) e (gh_pk [0] [] hB e e e e) e e
      ·exact Run.skip (.ops hm (.p2 e e (.nil (⟨m247,Nat.lt_succ_self m247,_,_,(gh_pk [1,6,7,8] [0] hB e e e e),_,h,e,e⟩))))
     ·refine OpsD.gn e g263 (.gn e g263 (.gn e g263 (.gn e g263 (.gn e g263 (.gn e g263 (.gn e g263 (.gn e g263 (.gn e g263 (.gn e g263 (.gs (s := 17784) e g262 (.pkF e g263 e) e e (.z 17800 (.pkF e g262 e) e e (.nil ⟨by kernel_rfl,?_⟩))))))))))))
      exact Run.condF e e (.skip (.ops hm (.p2 e e (.nil (⟨m247,Nat.lt_succ_self m247,_,_,(gh_pk [1,6,7,8] [0] hB e e e e),_,h,e,e⟩)))))
  ·refine Run.exit ?_
   obtain rfl := someO h
   have h := hk247
   replace h := inrO h
   exact ⟨_,_,(gh_pk [1] [0] hB e e e e),(),h,e,e⟩
 ·refine Run.so hm (.p2 e e (.z 29704 (Ev.lnF e) e e (.p2 e e (.nil (.ret ?_)))))
  obtain rfl := someO h
  exact Ends.mkG (.inl e) e (gh_pk [0] [] hB e e e e) e e
def impl_FileAt (N : Nat) (x1 : Disk) (x2 : ByteArray) : Option (ByteArray × Bool) :=
 (impl_DiskOk N x1).bind fun y118 =>
 (if (!y118) = true then
 some ((⟨#[]⟩ : ByteArray),false)
 else
 (impl_fileNo N x1 x2).bind fun y123 =>
 (if (!y123.2) = true then
 some ((⟨#[]⟩ : ByteArray),false)
 else
 (at? x1.Files y123.1).bind fun x127 =>
 some (x127.Text,true)))
theorem sem_impl_FileAt (N : Nat) (x1 : Disk) (x2 : ByteArray) (r : ByteArray × Bool) (h : impl_FileAt N x1 x2 = some r) : Says Tryz.prog 56 [.agg [RO 80 (x1.Files.map encFile)],VS x2] 0 [] (.tup [VS r.1,VB r.2]) [] := by
 unfold impl_FileAt at h
 refine Says.of_norm e Tryz.call56 e fun B hB => ?_
 have hm : B.m ≤ 1000 := by omega
 refine Run.so hm (.z 1000 (.bx e e) e e (.p2 e e (.nil (.seq (.so hm (.p e ?_))))))
 obtain ⟨y118,hy118,h⟩ := bindO h
 refine Ops.z 5112 (Ev.call [] [] 0 (sem_impl_DiskOk _ _ _ hy118) e e (.cons (.agg (.d1 .nil)) .nil) e (.inl e) e e) e e (.p e (.nil (.condO e h (fun g119 h => ?_) (fun g119 h => ?_))))
 ·refine Run.so hm (.p2 e e (.nil (.ret ?_)))
  obtain rfl := someO h
  exact Ends.mkG (.inl e) e (gh_pk [0,1] [] hB e e e e) e e
 ·refine Run.skip (.so hm (.p2 e e ?_))
  obtain ⟨y123,hy123,h⟩ := bindO h
  refine Ops.z 13320 (Ev.call [] [] 0 (sem_impl_fileNo _ _ _ _ hy123) e e (.cons (.agg (.d1 .nil)) (.d1 .nil)) e (.inl e) e e) e e (.p3 e e e (.p2 e e (.nil (.seq (.so hm (.p2 e e (.nil (.condO e h (fun g125 h => ?_) (fun g125 h => ?_)))))))))
  ·refine Run.so hm (.p2 e e (.nil (.ret ?_)))
   obtain rfl := someO h
   exact Ends.mkG (.inl e) e (gh_pk [0,1] [] hB e e e e) e e
  ·refine Run.skip (.so hm (.p3 e e e ?_))
   obtain ⟨x127,hx127,h⟩ := bindO h
   refine Ops.z 25624 (Ev.iaF e e hx127) e e (.p3 e e e (.p e (.nil (.ret ?_))))
   obtain rfl := someO h
   exact Ends.mkG (.inl e) e (gh_pk [0,1] [] hB e e e e) e e
def impl_Unsealed (N : Nat) (x1 : ByteArray) : Option (ByteArray × Bool) :=
 (if (decide ((x1.size : Int) < 4)) = true then
 some ((⟨#[]⟩ : ByteArray),false)
 else
 (stake? x1 (w64 ((x1.size : Int) - 4))).bind fun x125 =>
 (impl_Sealed N x125).bind fun y136 =>
 (if (!y136.2) = true then
 some ((⟨#[]⟩ : ByteArray),false)
 else
 (if (!decide (y136.1 = x1)) = true then
 some ((⟨#[]⟩ : ByteArray),false)
 else
 some (x125,true))))
theorem sem_impl_Unsealed (N : Nat) (x1 : ByteArray) (r : ByteArray × Bool) (h : impl_Unsealed N x1 = some r) : Says Tryz.prog 167 [VS x1] 0 [] (.tup [VS r.1,VB r.2]) [] := by
 unfold impl_Unsealed at h
 refine Says.of_norm e Tryz.call167 e fun B hB => ?_
 have hm : B.m ≤ 1000 := by omega
 refine Run.so hm (.p2 e e (.nil (.seq (.so hm (.p3 e e e (.nil (.condO e h (fun g121 h => ?_) (fun g121 h => ?_))))))))
 ·refine Run.so hm (.p2 e e (.nil (.ret ?_)))
  obtain rfl := someO h
  exact Ends.mkG (.inl e) e (gh_pk [0,1] [] hB e e e e) e e
 ·refine Run.skip (.so hm (.p3 e e e (.p e ?_)))
  obtain ⟨x125,hx125,h⟩ := bindO h
  refine Ops.z 13352 (Ev.ssH e e hx125) e e (.p e (.nil (.seq (.so hm (.p e ?_)))))
  obtain ⟨y136,hy136,h⟩ := bindO h
  refine Ops.z 17400 (Ev.call [] [] 0 (sem_impl_Sealed _ _ _ hy136) e e (.d1 .nil) e (.inl e) e e) e e (.p3 e e e (.p2 e e (.nil (.so hm (.p3 e e e (.askO (x := .t 22) e h (fun g138 h => ?_) (fun g138 h => ?_)))))))
  ·refine Ops.gn e g138 (.gn e g138 (.gn e g138 (.z 21576 (.pkT e g138 e) e e (.nil (.condT e e (.so hm (.p2 e e (.nil (.ret ?_)))))))))
   obtain rfl := someO h
   exact Ends.mkG (.inl e) e (gh_pk [0,1] [] hB e e e e) e e
  ·refine Ops.gp e g138 e (.gp e g138 e (.gp e g138 e (.z 21576 (.pkF e g138 e) e e (.nil (.condO e h (fun g139 h => ?_) (fun g139 h => ?_))))))
   ·refine Run.so hm (.p2 e e (.nil (.ret ?_)))
    obtain rfl := someO h
    exact Ends.mkG (.inl e) e (gh_pk [0,1] [] hB e e e e) e e
   ·refine Run.skip (.so hm (.p3 e e e (.nil (.ret ?_))))
    obtain rfl := someO h
    exact Ends.mkG (.inl e) e (gh_pk [0,1] [] hB e e e e) e e
def impl_ReadVar_l1 (N : Nat) (x1 : ByteArray) (x2 : Int) : Nat → Int → Int → Option ((Int × Int × Bool) ⊕ (Unit))
 | 0,_,_ => none
 | m + 1,x497,x498 =>
 (if (decide (x498 < 5)) = true then
 (if (decide ((w64 (x2 + x498)) < (x1.size : Int))) = true then
 (sat? x1 (w64 (x2 + x498))).bind fun x598 =>
 (intD .rem .i64 (w64 (x598)) 128).bind fun x605 =>
 (intSh .shl .i64 x605 (w64 (7 * x498))).bind fun x606 =>
 (if (decide ((w64 (x598)) < 128)) = true then
 (impl_VarText N (w64 (x497 + x606))).bind fun y618 =>
 (if (!y618.2) = true then
 some (Sum.inl (0,0,false))
 else
 (if ((y618.1.size : Int) != (w64 (x498 + 1))) = true then
 some (Sum.inl (0,0,false))
 else
 some (Sum.inl (w64 (x497 + x606),w64 ((w64 (x2 + x498)) + 1),true))))
 else
 impl_ReadVar_l1 N x1 x2 m (w64 (x497 + x606)) (w64 (x498 + 1)))
 else
 some (Sum.inr ()))
 else
 some (Sum.inr ()))
def impl_ReadVar (N : Nat) (x1 : ByteArray) (x2 : Int) : Option (Int × Int × Bool) :=
 (impl_within N x2 0 (x1.size : Int)).bind fun y365 =>
 (if (!y365) = true then
 some (0,0,false)
 else
 joinP (fun (v494 : Unit) =>
 some (0,0,false)) fun j494 =>
 (impl_ReadVar_l1 N x1 x2 N 0 0).bind (Sum.elim (fun v559 => some v559) (fun (v560 : Unit) => j494 ())))
theorem sem_impl_ReadVar (N : Nat) (x1 : ByteArray) (x2 : Int) (r : Int × Int × Bool) (h : impl_ReadVar N x1 x2 = some r) : Says Tryz.prog 181 [VS x1,VI x2] 0 [] (.tup [VI r.1,VI r.2.1,VB r.2.2]) [] := by
 unfold impl_ReadVar at h
 refine Says.of_norm e Tryz.call181 e fun B hB => ?_
 have hm : B.m ≤ 1000 := by omega
 refine Run.so hm (.p3 e e e (.nil (.seq (.so hm (.p3 e e e ?_)))))
 obtain ⟨y365,hy365,h⟩ := bindO h
 refine Ops.z 5144 (Ev.call [] [] 0 (sem_impl_within _ _ _ _ _ hy365) e e (.d2 (.d1 .nil)) e (.inl e) e e) e e (.p e (.nil (.condO e h (fun g366 h => ?_) (fun g366 h => ?_))))
 ·refine Run.so hm (.p3 e e e (.nil (.ret ?_)))
  obtain rfl := someO h
  exact Ends.mkG (.inl e) e (gh_pk [0,1,2] [] hB e e e e) e e
 ·refine Run.skip (.so hm (.p e (.nil (.seqO h (fun v494 => []) (fun (v494 : Unit) => []) (fun h => ?_) (fun v494 h => ?_)))))
  ·refine Run.so hm (.p e (.nil (.block ?_)))
   obtain ⟨res560,h,hk560⟩ := bindO h
   refine Run.loop (n := N) (fun m560 fr σ => ∃ (x497 : Int),∃ (x498 : Int),impl_ReadVar_l1 N x1 x2 m560 x497 x498 = some res560 ∧ fr = [(0,VS x1),(1,VI x2),(7,VI x497),(8,VI x498)] ∧ σ = []) (gh_pk [0,1,7,8] [] hB e e e e) ⟨_,_,h,e,e⟩ ?_
   rintro m560 fr σ ⟨x497,x498,h,rfl,rfl⟩
   obtain _ | m560 := m560
   ·rw [impl_ReadVar_l1] at h; cases h
   rw [impl_ReadVar_l1] at h
   refine Run.seq (.so hm (.p3 e e e (.askO (x := .t 19) e h (fun g566 h => ?_) (fun g566 h => ?_))))
   ·refine Ops.gp e g566 e (.gp e g566 e (.gp e g566 e (.gp e g566 e (.gp e g566 e (.gp e g566 e (.z 21624 (.pkT e g566 e) e e (.nil (.condO e h (fun g567 h => ?_) (fun g567 h => ?_)))))))))
    ·refine Run.skip (.seq (.block (.so hm (.p3 e e e (.p e ?_)))))
     obtain ⟨x598,hx598,h⟩ := bindO h
     refine Ops.z 29736 (Ev.ixS e e hx598) e e (.p2 e e (.nil (.so hm (.p2 e e ?_))))
     obtain ⟨x605,hx605,h⟩ := bindO h
     refine Ops.z 33800 (.bin e e hx605) e e (.p2 e e ?_)
     obtain ⟨x606,hx606,h⟩ := bindO h
     refine Ops.z 33848 (.sh e e hx606) e e (.p2 e e (.nil (.so hm (.p2 e e (.nil (.condO e h (fun g607 h => ?_) (fun g607 h => ?_)))))))
     ·refine Run.seq (.so hm (.p e ?_))
      obtain ⟨y618,hy618,h⟩ := bindO h
      refine Ops.z 41976 (Ev.call [] [] 0 (sem_impl_VarText _ _ _ hy618) e e (.d1 .nil) e (.inl e) e e) e e (.p3 e e e (.p2 e e (.nil (.so hm (.p3 e e e (.askO (x := .t 51) e h (fun g620 h => ?_) (fun g620 h => ?_)))))))
      ·refine Ops.gn e g620 (.gn e g620 (.gn e g620 (.gn e g620 (.gn e g620 (.z 46184 (.pkT e g620 e) e e (.nil (.condT e e (.so hm (.p3 e e e (.nil (.ret ?_)))))))))))
       obtain rfl := someO h
       have h := hk560
       replace h := inlO h
       obtain rfl := someO h
       exact Ends.mkG (.inl e) e (gh_pk [0,1,2] [] hB e e e e) e e
      ·refine Ops.gp e g620 e (.gp e g620 e (.gp e g620 e (.gp e g620 e (.gp e g620 e (.z 46184 (.pkF e g620 e) e e (.nil (.condO e h (fun g621 h => ?_) (fun g621 h => ?_))))))))
       ·refine Run.so hm (.p3 e e e (.nil (.ret ?_)))
        obtain rfl := someO h
        have h := hk560
        replace h := inlO h
        obtain rfl := someO h
        exact Ends.mkG (.inl e) e (gh_pk [0,1,2] [] hB e e e e) e e
       ·refine Run.skip (.so hm (.p3 e e e (.p3 e e e (.p2 e e (.nil (.ret ?_))))))
        obtain rfl := someO h
        have h := hk560
        replace h := inlO h
        obtain rfl := someO h
        exact Ends.mkG (.inl e) e (gh_pk [0,1,2] [] hB e e e e) e e
     ·exact Run.skip (.ops hm (.p3 e e e (.nil (⟨m560,Nat.lt_succ_self m560,_,_,(gh_pk [0,1,7,8] [] hB e e e e),_,_,h,e,e⟩))))
    ·refine Run.exit ?_
     obtain rfl := someO h
     have h := hk560
     replace h := inrO h
     exact ⟨_,_,(gh_pk [] [] hB e e e e),(),h,e,e⟩
   ·refine Ops.gn e g566 (.gn e g566 (.gn e g566 (.gn e g566 (.gn e g566 (.gn e g566 (.z 21624 (.pkF e g566 e) e e (.nil (.condF e e (.exit ?_)))))))))
    obtain rfl := someO h
    have h := hk560
    replace h := inrO h
    exact ⟨_,_,(gh_pk [] [] hB e e e e),(),h,e,e⟩
  ·refine Run.so hm (.p3 e e e (.nil (.ret ?_)))
   obtain rfl := someO h
   exact Ends.mkG (.inl e) e (gh_pk [0,1,2] [] hB e e e e) e e
def reader_num (N : Nat) (x1 : Treader) : Option (Int × Treader) :=
 (impl_ReadVar N x1.s x1.at').bind fun y113 =>
 (if x1.bad = true then
 some (0,(Treader.mk x1.s x1.at' true))
 else
 (if (!y113.2.2) = true then
 some (0,(Treader.mk x1.s x1.at' true))
 else
 some (y113.1,(Treader.mk x1.s y113.2.1 x1.bad))))
theorem sem_reader_num (N : Nat) (x1 : Treader) (r : Int × Treader) (h : reader_num N x1 = some r) : Says Tryz.prog 122 [.ptr 0 0] 1 [(0,.box [VS x1.s,VI x1.at',VB x1.bad])] (VI r.1) [(0,.box [VS r.2.s,VI r.2.at',VB r.2.bad])] := by
 unfold reader_num at h
 refine Says.of_norm e Tryz.call122 e fun B hB => ?_
 have hm : B.m ≤ 1000 := by omega
 refine Run.so hm (.p e (.nil (.seq (.draw hm hmix (.p e (.p e (.p e (.p e (.p e (.p e (.p e (.p e ?_))))))))))))
 obtain ⟨y113,hy113,h⟩ := bindO h
 refine OpsD.z 5224 (Ev.call [] [] 0 (sem_impl_ReadVar _ _ _ _ hy113) e e (.d2 .nil) e (.inl e) e e) e e (.p e (.p e (.p e (.p e (.p e (.p e (.p e (.nil ⟨by kernel_rfl,?_⟩))))))))
 refine Run.seq (.so hm (.p3 e e e (.p2 e e (.askO (x := .t 23) e h (fun g118 h => ?_) (fun g118 h => ?_)))))
 ·refine Ops.gn e g118 (.gn e g118 (.z 9304 (.pkT e g118 e) e e (.nil (.condT e e (.so hm (.p3 e e e (.y 13336 (.sto e e e e e e) e e (.nil (.so hm (.p e (.nil (.ret ?_))))))))))))
  obtain rfl := someO h
  exact Ends.mkG (.inl e) e (gh_pk [0] [0] hB e e e e) e e
 ·refine Ops.gp e g118 e (.gp e g118 e (.z 9304 (.pkF e g118 e) e e (.nil (.condO e h (fun g119 h => ?_) (fun g119 h => ?_)))))
  ·refine Run.so hm (.p3 e e e (.y 13336 (.sto e e e e e e) e e (.nil (.so hm (.p e (.nil (.ret ?_)))))))
   obtain rfl := someO h
   exact Ends.mkG (.inl e) e (gh_pk [0] [0] hB e e e e) e e
  ·refine Run.skip (.so hm (.p3 e e e (.p e (.y 21544 (.sto e e e e e e) e e (.nil (.so hm (.p2 e e (.nil (.ret ?_)))))))))
   obtain rfl := someO h
   exact Ends.mkG (.inl e) e (gh_pk [0] [0] hB e e e e) e e
def impl_ReadManifest_1 (N : Nat) (x1 : Manifest) (x2 : Treader) : Option (Manifest × Treader) :=
 (reader_num N x2).bind fun y106 =>
 (cat? x1.Segs ([y106.1] : List Int)).bind fun x107 =>
 some (({ x1 with Segs := x107 }),y106.2)
theorem sem_impl_ReadManifest_1 (N : Nat) (x1 : Manifest) (x2 : Treader) (r : Manifest × Treader) (h : impl_ReadManifest_1 N x1 x2 = some r) : Says Tryz.prog 169 [.ptr 0 0,.ptr 1 0] 5 [(0,.box [.sl 2 3 0 x1.Segs.length,VI x1.Next,VI x1.Base,VI x1.BaseTerm,.sl 3 3 0 x1.Conf.length]),(1,.box [.ptr 4 0]),(2,.vec 3 (x1.Segs.map encI)),(3,.vec 3 (x1.Conf.map encI)),(4,.box [VS x2.s,VI x2.at',VB x2.bad])] (.tup []) [(0,.box [.sl 5 3 0 r.1.Segs.length,VI r.1.Next,VI r.1.Base,VI r.1.BaseTerm,.sl 3 3 0 x1.Conf.length]),(1,.box [.ptr 4 0]),(2,.gone),(3,.vec 3 (x1.Conf.map encI)),(4,.box [VS r.2.s,VI r.2.at',VB r.2.bad]),(5,.vec 3 (r.1.Segs.map encI))] := by
 unfold impl_ReadManifest_1 at h
 refine Says.of_norm e Tryz.call169 e fun B hB => ?_
 have hm : B.m ≤ 1000 := by omega
 refine Run.draw hm hmix (.p e (.p e (.p e ?_)))
 obtain ⟨y106,hy106,h⟩ := bindO h
 refine OpsD.z 1048 (Ev.call [4] [] 0 (sem_reader_num _ _ _ hy106) e e (.cons (.ptr e) .nil) e (.inl e) e e) e e (.z 1064 (Ev.bsW (ys := ([y106.1] : List Int)) (f := encI) e (.d1 .nil) e e e e e) e e ?_)
 obtain ⟨x107,hx107,h⟩ := bindO h
 refine OpsD.z 1080 (Ev.apW (f := encI) (ontoW e e e) (addsW e e e (fun _ => e)) e bt3 e hx107) e e (.p e (.y 1112 (.sto e e e e e e) e e (.nil ⟨by kernel_rfl,?_⟩)))
 obtain rfl := someO h
 exact Ends.mkG (.inr e) e (gh_pk [] [0,1,2,3,4,1080] hB e e e e) e e
def reader_each_l1 (N : Nat) (y139 : Int × Treader) : Nat → Int → ByteArray → Int → Bool → Int → Int → Int → (List Int) → Option (ByteArray × Int × Bool × Int × Int × Int × (List Int))
 | 0,_,_,_,_,_,_,_,_ => none
 | m + 1,x141,x142,x143,x144,x145,x146,x147,x148 =>
 (if (decide (x141 < y139.1)) = true then
 (if (!x144) = true then
 (impl_ReadManifest_1 N (Manifest.mk x148 x145 x146 x147 ([] : (List Int))) (Treader.mk x142 x143 x144)).bind fun y171 =>
 reader_each_l1 N y139 m (w64 (x141 + 1)) y171.2.s y171.2.at' y171.2.bad y171.1.Next y171.1.Base y171.1.BaseTerm y171.1.Segs
 else
 some (x142,x143,x144,x145,x146,x147,x148))
 else
 some (x142,x143,x144,x145,x146,x147,x148))
def reader_each (N : Nat) (x1 : Treader) (x2 : Manifest) : Option (Treader × Manifest) :=
 (reader_num N x1).bind fun y139 =>
 (reader_each_l1 N y139 N 0 y139.2.s y139.2.at' y139.2.bad x2.Next x2.Base x2.BaseTerm ([] : (List Int))).bind (fun v160 => some ((Treader.mk v160.1 v160.2.1 v160.2.2.1),(Manifest.mk v160.2.2.2.2.2.2 v160.2.2.2.1 v160.2.2.2.2.1 v160.2.2.2.2.2.1 ([] : (List Int)))))
theorem sem_reader_each (N : Nat) (x1 : Treader) (x2 : Manifest) (r : Treader × Manifest) (h : reader_each N x1 x2 = some r) : Says Tryz.prog 168 [.ptr 0 0,.fn 169 [.ptr 1 0,.ptr 2 0]] 3 [(0,.box [VS x1.s,VI x1.at',VB x1.bad]),(1,.box [NI 3,VI x2.Next,VI x2.Base,VI x2.BaseTerm,NI 3]),(2,.box [.ptr 0 0])] (.tup []) [(0,.box [VS r.1.s,VI r.1.at',VB r.1.bad]),(1,.box [.sl 3 3 0 r.2.Segs.length,VI r.2.Next,VI r.2.Base,VI r.2.BaseTerm,.sl 4 3 0 r.2.Conf.length]),(2,.box [.ptr 0 0]),(3,.vec 3 (r.2.Segs.map encI)),(4,.vec 3 (r.2.Conf.map encI))] := by
 unfold reader_each at h
 refine Says.of_norm e Tryz.call168 e fun B hB => ?_
 have hm : B.m ≤ 1000 := by omega
 refine Run.so hm (.p e ?_)
 obtain ⟨y139,hy139,h⟩ := bindO h
 refine Ops.z 1016 (Ev.call [0] [] 0 (sem_reader_num _ _ _ hy139) e e (.cons (.ptr e) .nil) e (.inl e) e e) e e (.p e (.nil (.so hm (.p e (.nil (.block ?_))))))
 obtain ⟨res160,h,hk160⟩ := bindO h
 refine Run.loop (n := N) (fun m160 fr σ => ∃ (x141 : Int),∃ (x142 : ByteArray),∃ (x143 : Int),∃ (x144 : Bool),∃ (x145 : Int),∃ (x146 : Int),∃ (x147 : Int),∃ (x148 : (List Int)),reader_each_l1 N y139 m160 x141 x142 x143 x144 x145 x146 x147 x148 = some res160 ∧ fr = [(0,.ptr 0 0),(1,.fn 169 [.ptr 1 0,.ptr 2 0]),(4,VI y139.1),(5,VI x141)] ∧ σ = [(0,.box [VS x142,VI x143,VB x144]),(1,.box [.sl 3 3 0 x148.length,VI x145,VI x146,VI x147,.sl 4 3 0 (([] : (List Int)).length)]),(2,.box [.ptr 0 0]),(3,.vec 3 (x148.map encI)),(4,.vec 3 (([] : (List Int)).map encI))]) (Gh.trans (Gh.trans (gh_prn [0,1,4,5] [0,1,2] hB e) (gh_nil [] [1] hB e e e)) (gh_pk [0,1,4,5] [0,1,2,20000000,20000001] hB e e e e)) ⟨_,_,_,_,_,_,_,_,h,e,e⟩ ?_
 rintro m160 fr σ ⟨x141,x142,x143,x144,x145,x146,x147,x148,h,rfl,rfl⟩
 obtain _ | m160 := m160
 ·rw [reader_each_l1] at h; cases h
 rw [reader_each_l1] at h
 refine Run.seq (.so hm (.p3 e e e (.p e (.askO (x := .t 11) e h (fun g166 h => ?_) (fun g166 h => ?_)))))
 ·refine Ops.gp e g166 e (.gp e g166 e (.gp e g166 e (.gp e g166 e (.gp e g166 e (.z 9336 (.pkT e g166 e) e e (.nil (.condO e h (fun g167 h => ?_) (fun g167 h => ?_))))))))
  ·refine Run.skip (.seq (.block (.ops hm (.p e ?_))))
   obtain ⟨y171,hy171,h⟩ := bindO h
   exact Ops.z 17400 (Ev.callx [1,2,3,4,0] [] 1 e (sem_impl_ReadManifest_1 _ _ _ _ hy171) e e (.cons (.ptr e) (.cons (.ptr e) .nil)) e (.inl e) e e) e e (.nil (.ops hm (.p3 e e e (.nil (⟨m160,Nat.lt_succ_self m160,_,_,(gh_pk [0,1,4,5] [0,1,2,17400,4] hB e e e e),_,_,_,_,_,_,_,_,h,e,e⟩)))))
  ·refine Run.exit ?_
   obtain rfl := someO h
   have h := hk160
   obtain rfl := someO h
   exact Ends.mkG (.inr e) e (gh_pk [] [0,1,2,3,4] hB e e e e) e e
 ·refine Ops.gn e g166 (.gn e g166 (.gn e g166 (.gn e g166 (.gn e g166 (.z 9336 (.pkF e g166 e) e e (.nil (.condF e e (.exit ?_))))))))
  obtain rfl := someO h
  have h := hk160
  obtain rfl := someO h
  exact Ends.mkG (.inr e) e (gh_pk [] [0,1,2,3,4] hB e e e e) e e
def impl_ReadManifest_2 (N : Nat) (x1 : Manifest) (x2 : Treader) : Option (Manifest × Treader) :=
 (reader_num N x2).bind fun y106 =>
 (cat? x1.Conf ([y106.1] : List Int)).bind fun x107 =>
 some (({ x1 with Conf := x107 }),y106.2)
theorem sem_impl_ReadManifest_2 (N : Nat) (x1 : Manifest) (x2 : Treader) (r : Manifest × Treader) (h : impl_ReadManifest_2 N x1 x2 = some r) : Says Tryz.prog 170 [.ptr 0 0,.ptr 1 0] 5 [(0,.box [.sl 2 3 0 x1.Segs.length,VI x1.Next,VI x1.Base,VI x1.BaseTerm,.sl 3 3 0 x1.Conf.length]),(1,.box [.ptr 4 0]),(2,.vec 3 (x1.Segs.map encI)),(3,.vec 3 (x1.Conf.map encI)),(4,.box [VS x2.s,VI x2.at',VB x2.bad])] (.tup []) [(0,.box [.sl 2 3 0 x1.Segs.length,VI r.1.Next,VI r.1.Base,VI r.1.BaseTerm,.sl 5 3 0 r.1.Conf.length]),(1,.box [.ptr 4 0]),(2,.vec 3 (x1.Segs.map encI)),(3,.gone),(4,.box [VS r.2.s,VI r.2.at',VB r.2.bad]),(5,.vec 3 (r.1.Conf.map encI))] := by
 unfold impl_ReadManifest_2 at h
 refine Says.of_norm e Tryz.call170 e fun B hB => ?_
 have hm : B.m ≤ 1000 := by omega
 refine Run.draw hm hmix (.p e (.p e (.p e ?_)))
 obtain ⟨y106,hy106,h⟩ := bindO h
 refine OpsD.z 1048 (Ev.call [4] [] 0 (sem_reader_num _ _ _ hy106) e e (.cons (.ptr e) .nil) e (.inl e) e e) e e (.z 1064 (Ev.bsW (ys := ([y106.1] : List Int)) (f := encI) e (.d1 .nil) e e e e e) e e ?_)
 obtain ⟨x107,hx107,h⟩ := bindO h
 refine OpsD.z 1080 (Ev.apW (f := encI) (ontoW e e e) (addsW e e e (fun _ => e)) e bt3 e hx107) e e (.p e (.y 1112 (.sto e e e e e e) e e (.nil ⟨by kernel_rfl,?_⟩)))
 obtain rfl := someO h
 exact Ends.mkG (.inr e) e (gh_pk [] [0,1,2,3,4,1080] hB e e e e) e e
def reader_each_i1_l1 (N : Nat) (x2 : Manifest) (y159 : Int × Treader) : Nat → Int → ByteArray → Int → Bool → Int → Int → Int → (List Int) → Option (ByteArray × Int × Bool × Int × Int × Int × (List Int))
 | 0,_,_,_,_,_,_,_,_ => none
 | m + 1,x181,x182,x183,x184,x185,x186,x187,x189 =>
 (if (decide (x181 < y159.1)) = true then
 (if (!x184) = true then
 (impl_ReadManifest_2 N (Manifest.mk x2.Segs x185 x186 x187 x189) (Treader.mk x182 x183 x184)).bind fun y211 =>
 reader_each_i1_l1 N x2 y159 m (w64 (x181 + 1)) y211.2.s y211.2.at' y211.2.bad y211.1.Next y211.1.Base y211.1.BaseTerm y211.1.Conf
 else
 some (x182,x183,x184,x185,x186,x187,x189))
 else
 some (x182,x183,x184,x185,x186,x187,x189))
def reader_each_i1 (N : Nat) (x1 : Treader) (x2 : Manifest) : Option (Treader × Manifest) :=
 (reader_num N x1).bind fun y159 =>
 (reader_each_i1_l1 N x2 y159 N 0 y159.2.s y159.2.at' y159.2.bad x2.Next x2.Base x2.BaseTerm x2.Conf).bind (fun v200 => some ((Treader.mk v200.1 v200.2.1 v200.2.2.1),(Manifest.mk x2.Segs v200.2.2.2.1 v200.2.2.2.2.1 v200.2.2.2.2.2.1 v200.2.2.2.2.2.2)))
theorem sem_reader_each_i1 (N : Nat) (x1 : Treader) (x2 : Manifest) (r : Treader × Manifest) (h : reader_each_i1 N x1 x2 = some r) : Says Tryz.prog 168 [.ptr 0 0,.fn 170 [.ptr 1 0,.ptr 2 0]] 5 [(0,.box [VS x1.s,VI x1.at',VB x1.bad]),(1,.box [.sl 3 3 0 x2.Segs.length,VI x2.Next,VI x2.Base,VI x2.BaseTerm,.sl 4 3 0 x2.Conf.length]),(2,.box [.ptr 0 0]),(3,.vec 3 (x2.Segs.map encI)),(4,.vec 3 (x2.Conf.map encI))] (.tup []) [(0,.box [VS r.1.s,VI r.1.at',VB r.1.bad]),(1,.box [.sl 5 3 0 r.2.Segs.length,VI r.2.Next,VI r.2.Base,VI r.2.BaseTerm,.sl 6 3 0 r.2.Conf.length]),(2,.box [.ptr 0 0]),(3,.gone),(4,.gone),(5,.vec 3 (r.2.Segs.map encI)),(6,.vec 3 (r.2.Conf.map encI))] := by
 unfold reader_each_i1 at h
 refine Says.of_norm e Tryz.call168 e fun B hB => ?_
 have hm : B.m ≤ 1000 := by omega
 refine Run.so hm (.p e ?_)
 obtain ⟨y159,hy159,h⟩ := bindO h
 refine Ops.z 1016 (Ev.call [0] [] 0 (sem_reader_num _ _ _ hy159) e e (.cons (.ptr e) .nil) e (.inl e) e e) e e (.p e (.nil (.so hm (.p e (.nil (.block ?_))))))
 obtain ⟨res200,h,hk200⟩ := bindO h
 refine Run.loop (n := N) (fun m200 fr σ => ∃ (x181 : Int),∃ (x182 : ByteArray),∃ (x183 : Int),∃ (x184 : Bool),∃ (x185 : Int),∃ (x186 : Int),∃ (x187 : Int),∃ (x189 : (List Int)),reader_each_i1_l1 N x2 y159 m200 x181 x182 x183 x184 x185 x186 x187 x189 = some res200 ∧ fr = [(0,.ptr 0 0),(1,.fn 170 [.ptr 1 0,.ptr 2 0]),(4,VI y159.1),(5,VI x181)] ∧ σ = [(0,.box [VS x182,VI x183,VB x184]),(1,.box [.sl 5 3 0 x2.Segs.length,VI x185,VI x186,VI x187,.sl 6 3 0 x189.length]),(2,.box [.ptr 0 0]),(3,.gone),(4,.gone),(5,.vec 3 (x2.Segs.map encI)),(6,.vec 3 (x189.map encI))]) (Gh.trans (Gh.trans (gh_prn [0,1,4,5] [0,1,2,3,4] hB e) (gh_mvE [0,1,4,5] [3,4] hB e e)) (gh_pk [0,1,4,5] [0,1,2,3,4,30000003,30000004] hB e e e e)) ⟨_,_,_,_,_,_,_,_,h,e,e⟩ ?_
 rintro m200 fr σ ⟨x181,x182,x183,x184,x185,x186,x187,x189,h,rfl,rfl⟩
 obtain _ | m200 := m200
 ·rw [reader_each_i1_l1] at h; cases h
 rw [reader_each_i1_l1] at h
 refine Run.seq (.so hm (.p3 e e e (.p e (.askO (x := .t 11) e h (fun g206 h => ?_) (fun g206 h => ?_)))))
 ·refine Ops.gp e g206 e (.gp e g206 e (.gp e g206 e (.gp e g206 e (.gp e g206 e (.z 9336 (.pkT e g206 e) e e (.nil (.condO e h (fun g207 h => ?_) (fun g207 h => ?_))))))))
  ·refine Run.skip (.seq (.block (.ops hm (.p e ?_))))
   obtain ⟨y211,hy211,h⟩ := bindO h
   exact Ops.z 17400 (Ev.callx [1,2,5,6,0] [] 1 e (sem_impl_ReadManifest_2 _ _ _ _ hy211) e e (.cons (.ptr e) (.cons (.ptr e) .nil)) e (.inl e) e e) e e (.nil (.ops hm (.p3 e e e (.nil (⟨m200,Nat.lt_succ_self m200,_,_,(gh_pk [0,1,4,5] [0,1,2,3,4,5,17400] hB e e e e),_,_,_,_,_,_,_,_,h,e,e⟩)))))
  ·refine Run.exit ?_
   obtain rfl := someO h
   have h := hk200
   obtain rfl := someO h
   exact Ends.mkG (.inr e) e (gh_pk [] [0,1,2,3,4,5,6] hB e e e e) e e
 ·refine Ops.gn e g206 (.gn e g206 (.gn e g206 (.gn e g206 (.gn e g206 (.z 9336 (.pkF e g206 e) e e (.nil (.condF e e (.exit ?_))))))))
  obtain rfl := someO h
  have h := hk200
  obtain rfl := someO h
  exact Ends.mkG (.inr e) e (gh_pk [] [0,1,2,3,4,5,6] hB e e e e) e e
def reader_done (N : Nat) (x1 : Treader) : Option (Bool) :=
 (if (!x1.bad) = true then
 some (x1.at' == (x1.s.size : Int))
 else
 some false)
theorem sem_reader_done (N : Nat) (x1 : Treader) (r : Bool) (h : reader_done N x1 = some r) : Says Tryz.prog 124 [.ptr 0 0] 1 [(0,.box [VS x1.s,VI x1.at',VB x1.bad])] (VB r) [(0,.box [VS x1.s,VI x1.at',VB x1.bad])] := by
 unfold reader_done at h
 refine Says.of_norm e Tryz.call124 e fun B hB => ?_
 have hm : B.m ≤ 1000 := by omega
 refine Run.so hm (.p e (.nil (.seq (.draw hm hmix (.p e (.p e (.p e (.p e (.p e (.p e (.askO (x := .t 8) e h (fun g103 h => ?_) (fun g103 h => ?_))))))))))))
 ·refine OpsD.gp e g103 e (.gp e g103 e (.gp e g103 e (.gp e g103 e (.gp e g103 e (.gp e g103 e (.gp e g103 e (.gp e g103 e (.gp e g103 e (.gp e g103 e (.z 5352 (.pkT e g103 e) e e (.p e (.nil ⟨by kernel_rfl,?_⟩))))))))))))
  refine Run.ret ?_
  obtain rfl := someO h
  exact Ends.mkG (.inl e) e (gh_pk [0] [0] hB e e e e) e e
 ·refine OpsD.gn e g103 (.gn e g103 (.gn e g103 (.gn e g103 (.gn e g103 (.gn e g103 (.gn e g103 (.gn e g103 (.gn e g103 (.gn e g103 (.z 5352 (.pkF e g103 e) e e (.p e (.nil ⟨by kernel_rfl,?_⟩))))))))))))
  refine Run.ret ?_
  obtain rfl := someO h
  exact Ends.mkG (.inl e) e (gh_pk [0] [0] hB e e e e) e e
def impl_ReadManifest (N : Nat) (x1 : ByteArray) : Option (Manifest × Bool) :=
 (impl_Unsealed N x1).bind fun y143 =>
 (if (!y143.2) = true then
 some ((Manifest.mk ([]) 0 0 0 ([])),false)
 else
 (reader_each N (Treader.mk y143.1 0 false) (Manifest.mk ([]) 0 0 0 ([]))).bind fun y149 =>
 (reader_num N y149.1).bind fun y153 =>
 (reader_num N y153.2).bind fun y157 =>
 (reader_num N y157.2).bind fun y161 =>
 (reader_each_i1 N y161.2 (Manifest.mk y149.2.Segs y153.1 y157.1 y161.1 y149.2.Conf)).bind fun y165 =>
 (reader_done N y165.1).bind fun y176 =>
 (if (!y176) = true then
 some ((Manifest.mk ([]) 0 0 0 ([])),false)
 else
 (impl_ManifestOk N y165.2).bind fun y178 =>
 (if (!y178) = true then
 some ((Manifest.mk ([]) 0 0 0 ([])),false)
 else
 some (y165.2,true))))
theorem sem_impl_ReadManifest (N : Nat) (x1 : ByteArray) (r : Manifest × Bool) (h : impl_ReadManifest N x1 = some r) : Says Tryz.prog 112 [VS x1] 0 [] (.tup [.agg [.sl 0 3 0 r.1.Segs.length,VI r.1.Next,VI r.1.Base,VI r.1.BaseTerm,.sl 1 3 0 r.1.Conf.length],VB r.2]) [(0,.vec 3 (r.1.Segs.map encI)),(1,.vec 3 (r.1.Conf.map encI))] := by
 unfold impl_ReadManifest at h
 refine Says.of_norm e Tryz.call112 e fun B hB => ?_
 have hm : B.m ≤ 1000 := by omega
 refine Run.so hm (.z 1000 (.al e e) e e (.p e (.nil (.so hm (.p e ?_)))))
 obtain ⟨y143,hy143,h⟩ := bindO h
 refine Ops.z 5112 (Ev.call [] [] 0 (sem_impl_Unsealed _ _ _ hy143) e e (.d1 .nil) e (.inl e) e e) e e (.p3 e e e (.p2 e e (.nil (.seq (.so hm (.p2 e e (.nil (.condO e h (fun g145 h => ?_) (fun g145 h => ?_)))))))))
 ·refine Run.so hm (.z 13288 (.bd e e) e e (.y 13304 (.sto e e e e e e) e e (.p e (.nil (.ret ?_)))))
  obtain rfl := someO h
  exact Ends.mkG (.inl e) e (Gh.trans (Gh.trans (gh_prn [0,1] [] hB e) (gh_nil [0] [] hB e e e)) (gh_pk [0,1] [10000000,10000001] hB e e e e)) e e
 ·refine Run.skip (.so hm (.z 17384 (.al e e) e e (.nil (.so hm (.p e (.z 21496 (.bd e e) e e (.z 21512 (.bx e e) e e (.z 21528 (.al e e) e e (.y 21544 (.sto e e e e e e) e e (.nil (.so hm (.p2 e e ?_))))))))))))
  obtain ⟨y149,hy149,h⟩ := bindO h
  refine Ops.z 25608 (Ev.call [21512,17384,21528] [] 2 (sem_reader_each _ _ _ _ hy149) e e (.cons (.ptr e) (.cons (.fn (.cons (.ptr e) (.cons (.ptr e) .nil))) .nil)) e (.inl e) e e) e e (.nil (.so hm (.p e ?_)))
  obtain ⟨y153,hy153,h⟩ := bindO h
  refine Ops.z 29688 (Ev.call [21512] [] 0 (sem_reader_num _ _ _ hy153) e e (.cons (.ptr e) .nil) e (.inl e) e e) e e (.p e (.y 29720 (.sto e e e e e e) e e (.nil (.so hm (.p e ?_)))))
  obtain ⟨y157,hy157,h⟩ := bindO h
  refine Ops.z 33784 (Ev.call [21512] [] 0 (sem_reader_num _ _ _ hy157) e e (.cons (.ptr e) .nil) e (.inl e) e e) e e (.p e (.y 33816 (.sto e e e e e e) e e (.nil (.so hm (.p e ?_)))))
  obtain ⟨y161,hy161,h⟩ := bindO h
  refine Ops.z 37880 (Ev.call [21512] [] 0 (sem_reader_num _ _ _ hy161) e e (.cons (.ptr e) .nil) e (.inl e) e e) e e (.p e (.y 37912 (.sto e e e e e e) e e (.nil (.so hm (.p2 e e ?_)))))
  obtain ⟨y165,hy165,h⟩ := bindO h
  refine Ops.z 41992 (Ev.call [21512,17384,21528,25608,25609] [] 2 (sem_reader_each_i1 _ _ _ _ hy165) e e (.cons (.ptr e) (.cons (.fn (.cons (.ptr e) (.cons (.ptr e) .nil))) .nil)) e (.inl e) e e) e e (.nil (.seq (.so hm (.p e ?_))))
  obtain ⟨y176,hy176,h⟩ := bindO h
  refine Ops.z 46072 (Ev.call [21512] [] 0 (sem_reader_done _ _ _ hy176) e e (.cons (.ptr e) .nil) e (.inl e) e e) e e (.p2 e e (.askO (x := .t 37) e h (fun g177 h => ?_) (fun g177 h => ?_)))
  ·refine Ops.gn e g177 (.gn e g177 (.gn e g177 (.z 46168 (.pkT e g177 e) e e (.nil (.condT e e (.so hm (.z 50152 (.bd e e) e e (.y 50168 (.sto e e e e e e) e e (.p e (.nil (.ret ?_)))))))))))
   obtain rfl := someO h
   exact Ends.mkG (.inl e) e (Gh.trans (Gh.trans (gh_prn [0,1] [] hB e) (gh_nil [0] [] hB e e e)) (gh_pk [0,1] [10000000,10000001] hB e e e e)) e e
  ·refine Ops.gp e g177 e ?_
   obtain ⟨y178,hy178,h⟩ := bindO h
   refine Ops.gs (s := 46136) e g177 (Ev.call [] [41992,41993] 0 (sem_impl_ManifestOk _ _ _ hy178) e e (.cons (.agg (.cons (.borrow e (by decide) (lendW (fun _ => e) _ e)) (.d2 (.d1 (.cons (.borrow e (by decide) (lendW (fun _ => e) _ e)) .nil))))) .nil) e (.inr ⟨e,ownL_root trivial⟩) e e) e e ?_
   refine Ops.gp e g177 e (.z 46168 (.pkF e g177 e) e e (.nil (.condO e h (fun g179 h => ?_) (fun g179 h => ?_))))
   ·refine Run.so hm (.z 50152 (.bd e e) e e (.y 50168 (.sto e e e e e e) e e (.p e (.nil (.ret ?_)))))
    obtain rfl := someO h
    exact Ends.mkG (.inl e) e (Gh.trans (Gh.trans (gh_prn [0,1] [] hB e) (gh_nil [0] [] hB e e e)) (gh_pk [0,1] [10000000,10000001] hB e e e e)) e e
   ·refine Run.skip (.so hm (.p e (.y 54264 (.sto e e e e e e) e e (.p e (.nil (.ret ?_))))))
    obtain rfl := someO h
    exact Ends.mkG (.inl e) e (gh_pk [0,1] [41992,41993] hB e e e e) e e
end Go.Proofs.YteiimlnnaioocaaGreatDoor.Pe.FnExactWorldNew
