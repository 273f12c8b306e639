/- Functions,as pure functions; and that Go does just that. -/
import Derived.Test.YteiimlnnaioocaaGreatDoorPeFFnExactWorldNew3
namespace Go.Proofs.YteiimlnnaioocaaGreatDoor.Pe.FnExactWorldNew
open Go Go.RowKit
set_option linter.unusedVariables false
set_option linter.unusedSimpArgs false
set_option maxHeartbeats 40000000
set_option maxRecDepth 100000
def impl_WorldNew_l1 (N : Nat) (x1 : Int) (y252 : Disk × Bool) : Nat → Int → (List Bool) → (List Server) → Option ((List Bool) × (List Server))
 | 0,_,_,_ => none
 | m + 1,x336,x345,x346 =>
 (if (decide (x336 ≤ x1)) = true then
 (impl_Boot N x336 y252.1 20).bind fun y391 =>
 (cat? x345 ([true] : List Bool)).bind fun x395 =>
 (cat? x346 ([y391.1] : List Server)).bind fun x397 =>
 impl_WorldNew_l1 N x1 y252 m (w64 (x336 + 1)) x395 x397
 else
 some (x345,x346))
def impl_WorldNew (N : Nat) (x1 : Int) (x2 : (List Int)) : Option (World × Bool) :=
 (impl_FormatDisk N x2).bind fun y252 =>
 (if (!y252.2) = true then
 some ((World.mk ([]) ([]) ([]) ([]) ([]) ([]) ([])),false)
 else
 (impl_within N x1 1 4).bind fun y267 =>
 (if (!y267) = true then
 some ((World.mk ([]) ([]) ([]) ([]) ([]) ([]) ([])),false)
 else
 (at? x2 (w64 ((x2.length : Int) - 1))).bind fun x269 =>
 (if (decide (x269 > x1)) = true then
 some ((World.mk ([]) ([]) ([]) ([]) ([]) ([]) ([])),false)
 else
 joinP (fun (v334 : (List Bool) × (List Server)) =>
 some ((World.mk v334.1 v334.2 ([] : (List Message)) ([] : (List Wait)) ([] : (List Leader)) ([] : (List Applied)) ([] : (List Reply))),true)) fun j334 =>
 (impl_WorldNew_l1 N x1 y252 N 1 ([] : (List Bool)) ([] : (List Server))).bind (fun v374 => j334 (v374.1,v374.2)))))
theorem sem_impl_WorldNew (N : Nat) (x1 : Int) (x2 : (List Int)) (r : World × Bool) (h : impl_WorldNew N x1 x2 = some r) : Says Tryz.prog 6 [VI x1,RO 3 (x2.map encI)] 0 [] (.tup [.agg [.sl 0 4 0 r.1.Up.length,.sl 1 58 0 r.1.Servers.length,.sl 2 102 0 r.1.Net.length,.sl 3 105 0 r.1.Waits.length,.sl 4 108 0 r.1.Leaders.length,.sl 5 113 0 r.1.Applied.length,.sl 6 118 0 r.1.Replies.length],VB r.2]) [(0,.vec 4 (r.1.Up.map encB)),(1,.vec 58 (r.1.Servers.map (encServer true))),(2,.vec 102 (r.1.Net.map (encMessage true))),(3,.vec 105 (r.1.Waits.map encWait)),(4,.vec 108 (r.1.Leaders.map (encLeader true))),(5,.vec 113 (r.1.Applied.map encApplied)),(6,.vec 118 (r.1.Replies.map encReply))] := by
 unfold impl_WorldNew at h
 refine Says.of_norm e Tryz.call6 e fun B hB => ?_
 have hm : B.m ≤ 1000 := by omega
 refine Run.so hm (.z 1000 (.al e e) e e (.p e (.nil (.so hm (.p e ?_)))))
 obtain ⟨y252,hy252,h⟩ := bindO h
 refine Ops.z 5112 (Ev.call [] [] 1 (sem_impl_FormatDisk _ _ _ hy252) e e (.d1 .nil) e (.inl e) e e) e e (.p3 e e e (.z 5176 (.al e e) e e (.y 5192 (.sto e e e e e e) e e (.p e (.nil (.seq (.so hm (.p3 e e e (.askO (x := .t 20) e h (fun g266 h => ?_) (fun g266 h => ?_))))))))))
 ·refine Ops.gn e g266 (.gn e g266 (.gn e g266 (.z 9288 (.pkT e g266 e) e e (.p e (.gn e e (.gn e e (.gn e e (.gn e e (.gn e e (.gn e e (.gn e e (.gn e e (.z 9448 (.pkT e e e) e e (.nil (.condT e e (.so hm (.z 13288 (.bd e e) e e (.y 13304 (.sto e e e e e e) e e (.p e (.nil (.ret ?_)))))))))))))))))))))
  obtain rfl := someO h
  exact Ends.mkG (.inl e) e (Gh.trans (Gh.trans (gh_prn [0,1] [] hB e) (gh_nil [0] [] hB e e e)) (gh_pk [0,1] [10000000,10000001,10000002,10000003,10000004,10000005,10000006] hB e e e e)) e e
 ·refine Ops.gp e g266 e ?_
  obtain ⟨y267,hy267,h⟩ := bindO h
  refine Ops.gs (s := 9256) e g266 (Ev.call [] [] 0 (sem_impl_within _ _ _ _ _ hy267) e e (.d2 (.d1 .nil)) e (.inl e) e e) e e (.gp e g266 e (.z 9288 (.pkF e g266 e) e e (.p e (.askO (x := .t 25) e h (fun g268 h => ?_) (fun g268 h => ?_)))))
  ·refine Ops.gn e g268 (.gn e g268 (.gn e g268 (.gn e g268 (.gn e g268 (.gn e g268 (.gn e g268 (.gn e g268 (.z 9448 (.pkT e g268 e) e e (.nil (.condT e e (.so hm (.z 13288 (.bd e e) e e (.y 13304 (.sto e e e e e e) e e (.p e (.nil (.ret ?_))))))))))))))))
   obtain rfl := someO h
   exact Ends.mkG (.inl e) e (Gh.trans (Gh.trans (gh_prn [0,1] [] hB e) (gh_nil [0] [] hB e e e)) (gh_pk [0,1] [10000000,10000001,10000002,10000003,10000004,10000005,10000006] hB e e e e)) e e
  ·refine Ops.gp e g268 e (.gp e g268 e (.gs (s := 9352) e g268 (Ev.lnF e) e e (.gp e g268 e ?_)))
   obtain ⟨x269,hx269,h⟩ := bindO h
   refine Ops.gs (s := 9384) e g268 (Ev.iaF e e hx269) e e (.gp e g268 e (.gp e g268 e (.gp e g268 e (.z 9448 (.pkF e g268 e) e e (.nil (.condO e h (fun g270 h => ?_) (fun g270 h => ?_)))))))
   ·refine Run.so hm (.z 13288 (.bd e e) e e (.y 13304 (.sto e e e e e e) e e (.p e (.nil (.ret ?_)))))
    obtain rfl := someO h
    exact Ends.mkG (.inl e) e (Gh.trans (Gh.trans (gh_prn [0,1] [] hB e) (gh_nil [0] [] hB e e e)) (gh_pk [0,1] [10000000,10000001,10000002,10000003,10000004,10000005,10000006] hB e e e e)) e e
   ·refine Run.skip (.so hm (.z 17384 (.al e e) e e (.nil (.seqO h (fun v334 => [(4,.ptr 0 0),(8,.ptr 1 0)]) (fun (v334 : (List Bool) × (List Server)) => [(0,.box [.sl 2 4 0 (([] : (List Bool)).length),.sl 3 58 0 (([] : (List Server)).length),.sl 4 102 0 (([] : (List Message)).length),.sl 5 105 0 (([] : (List Wait)).length),.sl 6 108 0 (([] : (List Leader)).length),.sl 7 113 0 (([] : (List Applied)).length),.sl 8 118 0 (([] : (List Reply)).length)]),(1,.box [.sl 9 4 0 v334.1.length,.sl 10 58 0 v334.2.length,.sl 11 102 0 (([] : (List Message)).length),.sl 12 105 0 (([] : (List Wait)).length),.sl 13 108 0 (([] : (List Leader)).length),.sl 14 113 0 (([] : (List Applied)).length),.sl 15 118 0 (([] : (List Reply)).length)]),(2,.vec 4 (([] : (List Bool)).map encB)),(3,.vec 58 (([] : (List Server)).map (encServer true))),(4,.vec 102 (([] : (List Message)).map (encMessage true))),(5,.vec 105 (([] : (List Wait)).map encWait)),(6,.vec 108 (([] : (List Leader)).map (encLeader true))),(7,.vec 113 (([] : (List Applied)).map encApplied)),(8,.vec 118 (([] : (List Reply)).map encReply)),(9,.vec 4 (v334.1.map encB)),(10,.vec 58 (v334.2.map (encServer true))),(11,.vec 102 (([] : (List Message)).map (encMessage true))),(12,.vec 105 (([] : (List Wait)).map encWait)),(13,.vec 108 (([] : (List Leader)).map (encLeader true))),(14,.vec 113 (([] : (List Applied)).map encApplied)),(15,.vec 118 (([] : (List Reply)).map encReply))]) (fun h => ?_) (fun v334 h => ?_)))))
    ·refine Run.so hm (.p e (.nil (.block ?_)))
     obtain ⟨res374,h,hk374⟩ := bindO h
     refine Run.loop (n := N) (fun m374 fr σ => ∃ (x336 : Int),∃ (x345 : (List Bool)),∃ (x346 : (List Server)),impl_WorldNew_l1 N x1 y252 m374 x336 x345 x346 = some res374 ∧ fr = [(0,VI x1),(4,.ptr 0 0),(6,.ptr 1 0),(8,.ptr 2 0),(9,VI x336)] ∧ σ = [(0,.box [.sl 3 4 0 (([] : (List Bool)).length),.sl 4 58 0 (([] : (List Server)).length),.sl 5 102 0 (([] : (List Message)).length),.sl 6 105 0 (([] : (List Wait)).length),.sl 7 108 0 (([] : (List Leader)).length),.sl 8 113 0 (([] : (List Applied)).length),.sl 9 118 0 (([] : (List Reply)).length)]),(1,.box [.sl 10 80 0 y252.1.Files.length]),(2,.box [.sl 11 4 0 x345.length,.sl 12 58 0 x346.length,.sl 13 102 0 (([] : (List Message)).length),.sl 14 105 0 (([] : (List Wait)).length),.sl 15 108 0 (([] : (List Leader)).length),.sl 16 113 0 (([] : (List Applied)).length),.sl 17 118 0 (([] : (List Reply)).length)]),(3,.vec 4 (([] : (List Bool)).map encB)),(4,.vec 58 (([] : (List Server)).map (encServer true))),(5,.vec 102 (([] : (List Message)).map (encMessage true))),(6,.vec 105 (([] : (List Wait)).map encWait)),(7,.vec 108 (([] : (List Leader)).map (encLeader true))),(8,.vec 113 (([] : (List Applied)).map encApplied)),(9,.vec 118 (([] : (List Reply)).map encReply)),(10,.vec 80 (y252.1.Files.map encFile)),(11,.vec 4 (x345.map encB)),(12,.vec 58 (x346.map (encServer true))),(13,.vec 102 (([] : (List Message)).map (encMessage true))),(14,.vec 105 (([] : (List Wait)).map encWait)),(15,.vec 108 (([] : (List Leader)).map (encLeader true))),(16,.vec 113 (([] : (List Applied)).map encApplied)),(17,.vec 118 (([] : (List Reply)).map encReply))]) (Gh.trans (Gh.trans (gh_prn [0,4,6,8,9] [1000,5176,17384,5112] hB e) (gh_nil [] [1000,17384] hB e e e)) (gh_pk [0,4,6,8,9] [1000,5176,17384,20000000,20000001,20000002,20000003,20000004,20000005,20000006,5112,20000064,20000065,20000066,20000067,20000068,20000069,20000070] hB e e e e)) ⟨_,_,_,h,e,e⟩ ?_
     rintro m374 fr σ ⟨x336,x345,x346,h,rfl,rfl⟩
     obtain _ | m374 := m374
     ·rw [impl_WorldNew_l1] at h; cases h
     rw [impl_WorldNew_l1] at h
     refine Run.seq (.so hm (.p3 e e e (.nil (.condO e h (fun g377 h => ?_) (fun g377 h => ?_)))))
     ·refine Run.skip (.seq (.block (.so hm (.p2 e e ?_))))
      obtain ⟨y391,hy391,h⟩ := bindO h
      refine Ops.z 33800 (Ev.call [] [10] 9 (sem_impl_Boot _ _ _ _ _ hy391) e e (.d1 (.cons (.agg (.cons (.borrow e (by decide) (lendW (fun _ => e) _ e)) .nil)) (.d1 .nil))) e (.inr ⟨e,ownL_root ⟨own_rows (fun _ => e) _,own_rows (fun _ => e) _,own_rows (fun _ => e) _,own_rows (fun _ => e) _,own_rows (fun _ => e) _,own_rows (fun _ => e) _,own_rows (fun _ => e) _,own_rows (fun _ => e) _,own_rows (fun _ => e) _,trivial⟩⟩) e e) e e ?_
      refine Ops.p e (.p3 e e e (.z 33880 (.al e e) e e (.y 33896 (.sto e e e e e e) e e (.p2 e e (.nil (.so hm (.p2 e e (.z 37896 (Ev.bsW (ys := ([true] : List Bool)) (f := encB) e (.d1 .nil) e e e e e) e e ?_))))))))
      obtain ⟨x395,hx395,h⟩ := bindO h
      refine Ops.z 37912 (Ev.apW (f := encB) (ontoW e e e) (addsW e e e (fun _ => e)) e bt4 e hx395) e e (.p e (.y 37944 (.sto e e e e e e) e e (.nil (.ops hm (.p3 e e e (.z 42008 (Ev.bsW (ys := ([y391.1] : List Server)) (f := (encServer true)) e (.d4 (.d1 (.cons (.own e (lenmap e)) (.d2 (.cons (.own e (lenmap e)) (.d2 (.d1 (.cons (.own e (lenmap e)) (.cons (.own e (lenmap e)) (.cons (.own e (lenmap e)) (.cons (.own e (lenmap e)) (.d2 (.d1 (.cons (.own e (lenmap e)) (.cons (.own e (lenmap e)) (.d4 .nil)))))))))))))))) e e e e e) e e ?_))))))
      obtain ⟨x397,hx397,h⟩ := bindO h
      exact Ops.z 42024 (Ev.apW (f := (encServer true)) (ontoW e e e) (addsO e e e) e bt58 e hx397) e e (.p e (.y 42056 (.sto e e e e e e) e e (.nil (.ops hm (.p3 e e e (.nil (⟨m374,Nat.lt_succ_self m374,_,_,(gh_pk [0,4,6,8,9] [0,1,2,3,4,5,6,7,8,9,10,37912,42024,13,14,15,16,17] hB e e e e),_,_,_,h,e,e⟩)))))))
     ·refine Run.exit ?_
      obtain rfl := someO h
      have h := hk374
      exact ⟨_,_,(gh_pk [4,8] [0,2,3,4,5,6,7,8,9,11,12,13,14,15,16,17] hB e e e e),_,h,e,e⟩
    ·refine Run.so hm (.p e (.y 46072 (.sto e e e e e e) e e (.p e (.nil (.ret ?_)))))
     obtain rfl := someO h
     exact Ends.mkG (.inl e) e (gh_pk [0,1] [9,10,11,12,13,14,15] hB e e e e) e e
def laws_eqBoolS_l1 (N : Nat) (x1 : (List Bool)) (x2 : (List Bool)) : Nat → Int → Option ((Bool) ⊕ (Unit))
 | 0,_ => none
 | m + 1,x198 =>
 (if (decide (x198 < (x1.length : Int))) = true then
 (at? x1 x198).bind fun x223 =>
 (at? x2 x198).bind fun x224 =>
 (if ((x223 == x224) ^^ true) = true then
 some (Sum.inl false)
 else
 laws_eqBoolS_l1 N x1 x2 m (w64 (x198 + 1)))
 else
 some (Sum.inr ()))
def laws_eqBoolS_l1_r (N : Nat) (x1 : (List Bool)) (x2 : (List Bool)) : (List Bool) → Int → Option ((Bool) ⊕ (Unit))
 | [],x198 =>
 some (Sum.inr ())
 | hd :: tl,x198 =>
 (some hd).bind fun x223 =>
 (at? x2 x198).bind fun x224 =>
 (if ((x223 == x224) ^^ true) = true then
 some (Sum.inl false)
 else
 laws_eqBoolS_l1_r N x1 x2 tl (w64 (x198 + 1)))
theorem laws_eqBoolS_l1_rng (N : Nat) (x1 : (List Bool)) (x2 : (List Bool)) (hx : x1.length ≤ 1099511627776) : ∀ (d k m : Nat),x1.length = k + d → d < m → laws_eqBoolS_l1 N x1 x2 m (k : Int) = laws_eqBoolS_l1_r N x1 x2 (x1.drop k) (k : Int) := by
 intro d
 induction d with
 | zero =>
  intro k m hd hm
  obtain ⟨m,rfl⟩ : ∃ q,m = q + 1 := ⟨m - 1,by omega⟩
  rw [laws_eqBoolS_l1,if_neg (by simp; omega),List.drop_eq_nil_of_le (by omega),laws_eqBoolS_l1_r]
 | succ d ih =>
  intro k m hd hm
  obtain ⟨m,rfl⟩ : ∃ q,m = q + 1 := ⟨m - 1,by omega⟩
  have hk : k < x1.length := by omega
  rw [laws_eqBoolS_l1,if_pos (by simp; omega),List.drop_eq_getElem_cons hk,laws_eqBoolS_l1_r]
  have h1 := at_lt hk
  have h2 := w64_succ (k := k) (by omega)
  have h3 := ih (k + 1) m
  simp only [h1,h2,h3 (by omega) (by omega)]
theorem laws_eqBoolS_l1_eq {N : Nat} (x1 : (List Bool)) (x2 : (List Bool)) (hx : x1.length ≤ 1099511627776) (hN : x1.length < N) : laws_eqBoolS_l1 N x1 x2 N 0 = laws_eqBoolS_l1_r N x1 x2 x1 0 := laws_eqBoolS_l1_rng N x1 x2 hx x1.length 0 N (by omega) hN
def laws_eqBoolS (N : Nat) (x1 : (List Bool)) (x2 : (List Bool)) : Option (Bool) :=
 (if ((x1.length : Int) != (x2.length : Int)) = true then
 some false
 else
 joinP (fun (v195 : Unit) =>
 some true) fun j195 =>
 (laws_eqBoolS_l1 N x1 x2 N 0).bind (Sum.elim (fun v211 => some v211) (fun (v212 : Unit) => j195 ())))
theorem sem_laws_eqBoolS (N : Nat) (x1 : (List Bool)) (x2 : (List Bool)) (r : Bool) (h : laws_eqBoolS N x1 x2 = some r) : Says Tryz.prog 18 [RO 4 (x1.map encB),RO 4 (x2.map encB)] 0 [] (VB r) [] := by
 unfold laws_eqBoolS at h
 refine Says.of_norm e Tryz.call18 e fun B hB => ?_
 have hm : B.m ≤ 1000 := by omega
 refine Run.so hm (.p e (.nil (.seq (.so hm (.p e (.z 5112 (Ev.lnF e) e e (.p e (.z 5144 (Ev.lnF e) e e (.p e (.nil (.condO e h (fun g164 h => ?_) (fun g164 h => ?_))))))))))))
 ·refine Run.so hm (.p e (.nil (.ret ?_)))
  obtain rfl := someO h
  exact Ends.mkG (.inl e) e (gh_pk [0] [] hB e e e e) e e
 ·refine Run.skip (.seqO h (fun v195 => []) (fun (v195 : Unit) => []) (fun h => ?_) (fun v195 h => ?_))
  ·refine Run.so hm (.p e (.nil (.block ?_)))
   obtain ⟨res212,h,hk212⟩ := bindO h
   refine Run.loop (n := N) (fun m212 fr σ => ∃ (x198 : Int),laws_eqBoolS_l1 N x1 x2 m212 x198 = some res212 ∧ fr = [(0,RO 4 (x1.map encB)),(1,RO 4 (x2.map encB)),(5,VI x198)] ∧ σ = []) (gh_pk [0,1,5] [] hB e e e e) ⟨_,h,e,e⟩ ?_
   rintro m212 fr σ ⟨x198,h,rfl,rfl⟩
   obtain _ | m212 := m212
   ·rw [laws_eqBoolS_l1] at h; cases h
   rw [laws_eqBoolS_l1] at h
   refine Run.seq (.so hm (.p2 e e (.z 17416 (Ev.lnF e) e e (.p e (.nil (.condO e h (fun g215 h => ?_) (fun g215 h => ?_)))))))
   ·refine Run.skip (.seq (.block (.seq (.draw hm hmix (.p e (.p e ?_))))))
    obtain ⟨x223,hx223,h⟩ := bindO h
    refine OpsD.z 25608 (Ev.iaF e e hx223) e e (.p e (.p e (.p e ?_)))
    obtain ⟨x224,hx224,h⟩ := bindO h
    refine OpsD.z 25672 (Ev.iaF e e hx224) e e (.p e (.p e (.nil ⟨by kernel_rfl,?_⟩)))
    refine Run.condO e h (fun g225 h => ?_) (fun g225 h => ?_)
    ·refine Run.so hm (.p e (.nil (.ret ?_)))
     obtain rfl := someO h
     have h := hk212
     replace h := inlO h
     obtain rfl := someO h
     exact Ends.mkG (.inl e) e (gh_pk [0] [] hB e e e e) e e
    ·exact Run.skip (.ops hm (.p3 e e e (.nil (⟨m212,Nat.lt_succ_self m212,_,_,(gh_pk [0,1,5] [] hB e e e e),_,h,e,e⟩))))
   ·refine Run.exit ?_
    obtain rfl := someO h
    have h := hk212
    replace h := inrO h
    exact ⟨_,_,(gh_pk [] [] hB e e e e),(),h,e,e⟩
  ·refine Run.so hm (.p e (.nil (.ret ?_)))
   obtain rfl := someO h
   exact Ends.mkG (.inl e) e (gh_pk [0] [] hB e e e e) e e
def laws_eqIntS_l1 (N : Nat) (x1 : (List Int)) (x2 : (List Int)) : Nat → Int → Option ((Bool) ⊕ (Unit))
 | 0,_ => none
 | m + 1,x198 =>
 (if (decide (x198 < (x1.length : Int))) = true then
 (at? x1 x198).bind fun x223 =>
 (at? x2 x198).bind fun x224 =>
 (if (x223 != x224) = true then
 some (Sum.inl false)
 else
 laws_eqIntS_l1 N x1 x2 m (w64 (x198 + 1)))
 else
 some (Sum.inr ()))
def laws_eqIntS_l1_r (N : Nat) (x1 : (List Int)) (x2 : (List Int)) : (List Int) → Int → Option ((Bool) ⊕ (Unit))
 | [],x198 =>
 some (Sum.inr ())
 | hd :: tl,x198 =>
 (some hd).bind fun x223 =>
 (at? x2 x198).bind fun x224 =>
 (if (x223 != x224) = true then
 some (Sum.inl false)
 else
 laws_eqIntS_l1_r N x1 x2 tl (w64 (x198 + 1)))
theorem laws_eqIntS_l1_rng (N : Nat) (x1 : (List Int)) (x2 : (List Int)) (hx : x1.length ≤ 1099511627776) : ∀ (d k m : Nat),x1.length = k + d → d < m → laws_eqIntS_l1 N x1 x2 m (k : Int) = laws_eqIntS_l1_r N x1 x2 (x1.drop k) (k : Int) := by
 intro d
 induction d with
 | zero =>
  intro k m hd hm
  obtain ⟨m,rfl⟩ : ∃ q,m = q + 1 := ⟨m - 1,by omega⟩
  rw [laws_eqIntS_l1,if_neg (by simp; omega),List.drop_eq_nil_of_le (by omega),laws_eqIntS_l1_r]
 | succ d ih =>
  intro k m hd hm
  obtain ⟨m,rfl⟩ : ∃ q,m = q + 1 := ⟨m - 1,by omega⟩
  have hk : k < x1.length := by omega
  rw [laws_eqIntS_l1,if_pos (by simp; omega),List.drop_eq_getElem_cons hk,laws_eqIntS_l1_r]
  have h1 := at_lt hk
  have h2 := w64_succ (k := k) (by omega)
  have h3 := ih (k + 1) m
  simp only [h1,h2,h3 (by omega) (by omega)]
theorem laws_eqIntS_l1_eq {N : Nat} (x1 : (List Int)) (x2 : (List Int)) (hx : x1.length ≤ 1099511627776) (hN : x1.length < N) : laws_eqIntS_l1 N x1 x2 N 0 = laws_eqIntS_l1_r N x1 x2 x1 0 := laws_eqIntS_l1_rng N x1 x2 hx x1.length 0 N (by omega) hN
def laws_eqIntS (N : Nat) (x1 : (List Int)) (x2 : (List Int)) : Option (Bool) :=
 (if ((x1.length : Int) != (x2.length : Int)) = true then
 some false
 else
 joinP (fun (v195 : Unit) =>
 some true) fun j195 =>
 (laws_eqIntS_l1 N x1 x2 N 0).bind (Sum.elim (fun v211 => some v211) (fun (v212 : Unit) => j195 ())))
theorem sem_laws_eqIntS (N : Nat) (x1 : (List Int)) (x2 : (List Int)) (r : Bool) (h : laws_eqIntS N x1 x2 = some r) : Says Tryz.prog 8 [RO 3 (x1.map encI),RO 3 (x2.map encI)] 0 [] (VB r) [] := by
 unfold laws_eqIntS at h
 refine Says.of_norm e Tryz.call8 e fun B hB => ?_
 have hm : B.m ≤ 1000 := by omega
 refine Run.so hm (.p e (.nil (.seq (.so hm (.p e (.z 5112 (Ev.lnF e) e e (.p e (.z 5144 (Ev.lnF e) e e (.p e (.nil (.condO e h (fun g164 h => ?_) (fun g164 h => ?_))))))))))))
 ·refine Run.so hm (.p e (.nil (.ret ?_)))
  obtain rfl := someO h
  exact Ends.mkG (.inl e) e (gh_pk [0] [] hB e e e e) e e
 ·refine Run.skip (.seqO h (fun v195 => []) (fun (v195 : Unit) => []) (fun h => ?_) (fun v195 h => ?_))
  ·refine Run.so hm (.p e (.nil (.block ?_)))
   obtain ⟨res212,h,hk212⟩ := bindO h
   refine Run.loop (n := N) (fun m212 fr σ => ∃ (x198 : Int),laws_eqIntS_l1 N x1 x2 m212 x198 = some res212 ∧ fr = [(0,RO 3 (x1.map encI)),(1,RO 3 (x2.map encI)),(5,VI x198)] ∧ σ = []) (gh_pk [0,1,5] [] hB e e e e) ⟨_,h,e,e⟩ ?_
   rintro m212 fr σ ⟨x198,h,rfl,rfl⟩
   obtain _ | m212 := m212
   ·rw [laws_eqIntS_l1] at h; cases h
   rw [laws_eqIntS_l1] at h
   refine Run.seq (.so hm (.p2 e e (.z 17416 (Ev.lnF e) e e (.p e (.nil (.condO e h (fun g215 h => ?_) (fun g215 h => ?_)))))))
   ·refine Run.skip (.seq (.block (.seq (.draw hm hmix (.p e (.p e ?_))))))
    obtain ⟨x223,hx223,h⟩ := bindO h
    refine OpsD.z 25608 (Ev.iaF e e hx223) e e (.p e (.p e (.p e ?_)))
    obtain ⟨x224,hx224,h⟩ := bindO h
    refine OpsD.z 25672 (Ev.iaF e e hx224) e e (.p e (.p e (.nil ⟨by kernel_rfl,?_⟩)))
    refine Run.condO e h (fun g225 h => ?_) (fun g225 h => ?_)
    ·refine Run.so hm (.p e (.nil (.ret ?_)))
     obtain rfl := someO h
     have h := hk212
     replace h := inlO h
     obtain rfl := someO h
     exact Ends.mkG (.inl e) e (gh_pk [0] [] hB e e e e) e e
    ·exact Run.skip (.ops hm (.p3 e e e (.nil (⟨m212,Nat.lt_succ_self m212,_,_,(gh_pk [0,1,5] [] hB e e e e),_,h,e,e⟩))))
   ·refine Run.exit ?_
    obtain rfl := someO h
    have h := hk212
    replace h := inrO h
    exact ⟨_,_,(gh_pk [] [] hB e e e e),(),h,e,e⟩
  ·refine Run.so hm (.p e (.nil (.ret ?_)))
   obtain rfl := someO h
   exact Ends.mkG (.inl e) e (gh_pk [0] [] hB e e e e) e e
def laws_eqEntryS_l1 (N : Nat) (x1 : (List Entry)) : Nat → Option (Unit)
 | 0 => none
 | m + 1 =>
 (if (decide (0 < (x1.length : Int))) = true then
 none
 else
 some ())
def laws_eqEntryS (N : Nat) (x1 : (List Entry)) (x2 : (List Entry)) : Option (Bool) :=
 (if ((x1.length : Int) != (x2.length : Int)) = true then
 some false
 else
 joinP (fun (v129 : Unit) =>
 some true) fun j129 =>
 (laws_eqEntryS_l1 N x1 N).bind (fun v134 => j129 ()))
theorem sem_laws_eqEntryS (N : Nat) (x1 : (List Entry)) (x2 : (List Entry)) (r : Bool) (h : laws_eqEntryS N x1 x2 = some r) : Says Tryz.prog 133 [RO 111 (x1.map encEntry),RO 111 (x2.map encEntry)] 0 [] (VB r) [] := by
 unfold laws_eqEntryS at h
 refine Says.of_norm e Tryz.call133 e fun B hB => ?_
 have hm : B.m ≤ 1000 := by omega
 refine Run.so hm (.p e (.nil (.seq (.so hm (.p e (.z 5112 (Ev.lnF e) e e (.p e (.z 5144 (Ev.lnF e) e e (.p e (.nil (.condO e h (fun g120 h => ?_) (fun g120 h => ?_))))))))))))
 ·refine Run.so hm (.p e (.nil (.ret ?_)))
  obtain rfl := someO h
  exact Ends.mkG (.inl e) e (gh_pk [0] [] hB e e e e) e e
 ·refine Run.skip (.seqO h (fun v129 => []) (fun (v129 : Unit) => []) (fun h => ?_) (fun v129 h => ?_))
  ·refine Run.so hm (.p e (.nil (.block ?_)))
   obtain ⟨res134,h,hk134⟩ := bindO h
   refine Run.loop (n := N) (fun m134 fr σ => laws_eqEntryS_l1 N x1 m134 = some res134 ∧ fr = [(0,RO 111 (x1.map encEntry)),(5,VI 0)] ∧ σ = []) (gh_pk [0,5] [] hB e e e e) ⟨h,e,e⟩ ?_
   rintro m134 fr σ ⟨h,rfl,rfl⟩
   obtain _ | m134 := m134
   ·rw [laws_eqEntryS_l1] at h; cases h
   rw [laws_eqEntryS_l1] at h
   refine Run.seq (.so hm (.p2 e e (.z 17416 (Ev.lnF e) e e (.p e (.nil (.condO e h (fun g137 h => ?_) (fun g137 h => ?_)))))))
   ·exact noO h
   ·refine Run.exit ?_
    obtain rfl := someO h
    have h := hk134
    exact ⟨_,_,(gh_pk [] [] hB e e e e),(),h,e,e⟩
  ·refine Run.so hm (.p e (.nil (.ret ?_)))
   obtain rfl := someO h
   exact Ends.mkG (.inl e) e (gh_pk [0] [] hB e e e e) e e
def laws_eqLog (N : Nat) (x1 : Log) (x2 : Log) : Option (Bool) :=
 (if (x1.Start != x2.Start) = true then
 some false
 else
 (if (x1.StartTerm != x2.StartTerm) = true then
 some false
 else
 (laws_eqEntryS N x1.Entries x2.Entries).bind fun y112 =>
 (if (!y112) = true then
 some false
 else
 some true)))
theorem sem_laws_eqLog (N : Nat) (x1 : Log) (x2 : Log) (r : Bool) (h : laws_eqLog N x1 x2 = some r) : Says Tryz.prog 134 [.agg [VI x1.Start,VI x1.StartTerm,RO 111 (x1.Entries.map encEntry)],.agg [VI x2.Start,VI x2.StartTerm,RO 111 (x2.Entries.map encEntry)]] 0 [] (VB r) [] := by
 unfold laws_eqLog at h
 refine Says.of_norm e Tryz.call134 e fun B hB => ?_
 have hm : B.m ≤ 1000 := by omega
 refine Run.so hm (.z 1000 (.bx e e) e e (.z 1016 (.bx e e) e e (.p e (.nil (.seq (.so hm (.p3 e e e (.p2 e e (.nil (.condO e h (fun g108 h => ?_) (fun g108 h => ?_)))))))))))
 ·refine Run.so hm (.p e (.nil (.ret ?_)))
  obtain rfl := someO h
  exact Ends.mkG (.inl e) e (gh_pk [0] [] hB e e e e) e e
 ·refine Run.skip (.seq (.so hm (.p3 e e e (.p2 e e (.nil (.condO e h (fun g110 h => ?_) (fun g110 h => ?_)))))))
  ·refine Run.so hm (.p e (.nil (.ret ?_)))
   obtain rfl := someO h
   exact Ends.mkG (.inl e) e (gh_pk [0] [] hB e e e e) e e
  ·refine Run.skip (.seq (.so hm (.p3 e e e (.p e ?_))))
   obtain ⟨y112,hy112,h⟩ := bindO h
   refine Ops.z 21544 (Ev.call [] [] 0 (sem_laws_eqEntryS _ _ _ _ hy112) e e (.d2 .nil) e (.inl e) e e) e e (.p e (.nil (.condO e h (fun g113 h => ?_) (fun g113 h => ?_))))
   ·refine Run.so hm (.p e (.nil (.ret ?_)))
    obtain rfl := someO h
    exact Ends.mkG (.inl e) e (gh_pk [0] [] hB e e e e) e e
   ·refine Run.skip (.so hm (.p e (.nil (.ret ?_))))
    obtain rfl := someO h
    exact Ends.mkG (.inl e) e (gh_pk [0] [] hB e e e e) e e
def laws_eqPeerS_l1 (N : Nat) (x1 : (List Peer)) : Nat → Option (Unit)
 | 0 => none
 | m + 1 =>
 (if (decide (0 < (x1.length : Int))) = true then
 none
 else
 some ())
def laws_eqPeerS (N : Nat) (x1 : (List Peer)) (x2 : (List Peer)) : Option (Bool) :=
 (if ((x1.length : Int) != (x2.length : Int)) = true then
 some false
 else
 joinP (fun (v129 : Unit) =>
 some true) fun j129 =>
 (laws_eqPeerS_l1 N x1 N).bind (fun v134 => j129 ()))
theorem sem_laws_eqPeerS (N : Nat) (x1 : (List Peer)) (x2 : (List Peer)) (r : Bool) (h : laws_eqPeerS N x1 x2 = some r) : Says Tryz.prog 188 [RO 156 (x1.map encPeer),RO 156 (x2.map encPeer)] 0 [] (VB r) [] := by
 unfold laws_eqPeerS at h
 refine Says.of_norm e Tryz.call188 e fun B hB => ?_
 have hm : B.m ≤ 1000 := by omega
 refine Run.so hm (.p e (.nil (.seq (.so hm (.p e (.z 5112 (Ev.lnF e) e e (.p e (.z 5144 (Ev.lnF e) e e (.p e (.nil (.condO e h (fun g120 h => ?_) (fun g120 h => ?_))))))))))))
 ·refine Run.so hm (.p e (.nil (.ret ?_)))
  obtain rfl := someO h
  exact Ends.mkG (.inl e) e (gh_pk [0] [] hB e e e e) e e
 ·refine Run.skip (.seqO h (fun v129 => []) (fun (v129 : Unit) => []) (fun h => ?_) (fun v129 h => ?_))
  ·refine Run.so hm (.p e (.nil (.block ?_)))
   obtain ⟨res134,h,hk134⟩ := bindO h
   refine Run.loop (n := N) (fun m134 fr σ => laws_eqPeerS_l1 N x1 m134 = some res134 ∧ fr = [(0,RO 156 (x1.map encPeer)),(5,VI 0)] ∧ σ = []) (gh_pk [0,5] [] hB e e e e) ⟨h,e,e⟩ ?_
   rintro m134 fr σ ⟨h,rfl,rfl⟩
   obtain _ | m134 := m134
   ·rw [laws_eqPeerS_l1] at h; cases h
   rw [laws_eqPeerS_l1] at h
   refine Run.seq (.so hm (.p2 e e (.z 17416 (Ev.lnF e) e e (.p e (.nil (.condO e h (fun g137 h => ?_) (fun g137 h => ?_)))))))
   ·exact noO h
   ·refine Run.exit ?_
    obtain rfl := someO h
    have h := hk134
    exact ⟨_,_,(gh_pk [] [] hB e e e e),(),h,e,e⟩
  ·refine Run.so hm (.p e (.nil (.ret ?_)))
   obtain rfl := someO h
   exact Ends.mkG (.inl e) e (gh_pk [0] [] hB e e e e) e e
def laws_eqNode (N : Nat) (x1 : Node) (x2 : Node) : Option (Bool) :=
 (if (x1.Id != x2.Id) = true then
 some false
 else
 (if (x1.Term != x2.Term) = true then
 some false
 else
 (if (x1.Vote != x2.Vote) = true then
 some false
 else
 (if (x1.Role != x2.Role) = true then
 some false
 else
 (if (x1.Lead != x2.Lead) = true then
 some false
 else
 (laws_eqIntS N x1.Conf x2.Conf).bind fun y151 =>
 (if (!y151) = true then
 some false
 else
 (laws_eqLog N x1.Log x2.Log).bind fun y157 =>
 (if (!y157) = true then
 some false
 else
 (if (x1.Commit != x2.Commit) = true then
 some false
 else
 (if (x1.Clock != x2.Clock) = true then
 some false
 else
 (if (x1.Limit != x2.Limit) = true then
 some false
 else
 (laws_eqIntS N x1.Votes x2.Votes).bind fun y169 =>
 (if (!y169) = true then
 some false
 else
 (laws_eqPeerS N x1.Peers x2.Peers).bind fun y172 =>
 (if (!y172) = true then
 some false
 else
 some true))))))))))))
theorem sem_laws_eqNode (N : Nat) (x1 : Node) (x2 : Node) (r : Bool) (h : laws_eqNode N x1 x2 = some r) : Says Tryz.prog 130 [.agg [VI x1.Id,VI x1.Term,VI x1.Vote,VI x1.Role,VI x1.Lead,RO 3 (x1.Conf.map encI),VI x1.Log.Start,VI x1.Log.StartTerm,RO 111 (x1.Log.Entries.map encEntry),VI x1.Commit,VI x1.Clock,VI x1.Limit,RO 3 (x1.Votes.map encI),RO 156 (x1.Peers.map encPeer)],.agg [VI x2.Id,VI x2.Term,VI x2.Vote,VI x2.Role,VI x2.Lead,RO 3 (x2.Conf.map encI),VI x2.Log.Start,VI x2.Log.StartTerm,RO 111 (x2.Log.Entries.map encEntry),VI x2.Commit,VI x2.Clock,VI x2.Limit,RO 3 (x2.Votes.map encI),RO 156 (x2.Peers.map encPeer)]] 0 [] (VB r) [] := by
 unfold laws_eqNode at h
 refine Says.of_norm e Tryz.call130 e fun B hB => ?_
 have hm : B.m ≤ 1000 := by omega
 refine Run.so hm (.z 1000 (.bx e e) e e (.z 1016 (.bx e e) e e (.p e (.nil (.seq (.so hm (.p3 e e e (.p2 e e (.nil (.condO e h (fun g138 h => ?_) (fun g138 h => ?_)))))))))))
 ·refine Run.so hm (.p e (.nil (.ret ?_)))
  obtain rfl := someO h
  exact Ends.mkG (.inl e) e (gh_pk [0] [] hB e e e e) e e
 ·refine Run.skip (.seq (.so hm (.p3 e e e (.p2 e e (.nil (.condO e h (fun g140 h => ?_) (fun g140 h => ?_)))))))
  ·refine Run.so hm (.p e (.nil (.ret ?_)))
   obtain rfl := someO h
   exact Ends.mkG (.inl e) e (gh_pk [0] [] hB e e e e) e e
  ·refine Run.skip (.seq (.so hm (.p3 e e e (.p2 e e (.nil (.condO e h (fun g142 h => ?_) (fun g142 h => ?_)))))))
   ·refine Run.so hm (.p e (.nil (.ret ?_)))
    obtain rfl := someO h
    exact Ends.mkG (.inl e) e (gh_pk [0] [] hB e e e e) e e
   ·refine Run.skip (.seq (.so hm (.p3 e e e (.p2 e e (.nil (.condO e h (fun g144 h => ?_) (fun g144 h => ?_)))))))
    ·refine Run.so hm (.p e (.nil (.ret ?_)))
     obtain rfl := someO h
     exact Ends.mkG (.inl e) e (gh_pk [0] [] hB e e e e) e e
    ·refine Run.skip (.seq (.so hm (.p3 e e e (.p2 e e (.nil (.condO e h (fun g146 h => ?_) (fun g146 h => ?_)))))))
     ·refine Run.so hm (.p e (.nil (.ret ?_)))
      obtain rfl := someO h
      exact Ends.mkG (.inl e) e (gh_pk [0] [] hB e e e e) e e
     ·refine Run.skip (.seq (.so hm (.p3 e e e (.p e ?_))))
      obtain ⟨y151,hy151,h⟩ := bindO h
      refine Ops.z 46120 (Ev.call [] [] 0 (sem_laws_eqIntS _ _ _ _ hy151) e e (.d2 .nil) e (.inl e) e e) e e (.p e (.nil (.condO e h (fun g152 h => ?_) (fun g152 h => ?_))))
      ·refine Run.so hm (.p e (.nil (.ret ?_)))
       obtain rfl := someO h
       exact Ends.mkG (.inl e) e (gh_pk [0] [] hB e e e e) e e
      ·refine Run.skip (.seq (.so hm (.p3 e e e (.p e ?_))))
       obtain ⟨y157,hy157,h⟩ := bindO h
       refine Ops.z 54312 (Ev.call [] [] 0 (sem_laws_eqLog _ _ _ _ hy157) e e (.cons (.agg (.d2 (.d1 .nil))) (.cons (.agg (.d2 (.d1 .nil))) .nil)) e (.inl e) e e) e e (.p e (.nil (.condO e h (fun g158 h => ?_) (fun g158 h => ?_))))
       ·refine Run.so hm (.p e (.nil (.ret ?_)))
        obtain rfl := someO h
        exact Ends.mkG (.inl e) e (gh_pk [0] [] hB e e e e) e e
       ·refine Run.skip (.seq (.so hm (.p3 e e e (.p2 e e (.nil (.condO e h (fun g160 h => ?_) (fun g160 h => ?_)))))))
        ·refine Run.so hm (.p e (.nil (.ret ?_)))
         obtain rfl := someO h
         exact Ends.mkG (.inl e) e (gh_pk [0] [] hB e e e e) e e
        ·refine Run.skip (.seq (.so hm (.p3 e e e (.p2 e e (.nil (.condO e h (fun g162 h => ?_) (fun g162 h => ?_)))))))
         ·refine Run.so hm (.p e (.nil (.ret ?_)))
          obtain rfl := someO h
          exact Ends.mkG (.inl e) e (gh_pk [0] [] hB e e e e) e e
         ·refine Run.skip (.seq (.so hm (.p3 e e e (.p2 e e (.nil (.condO e h (fun g164 h => ?_) (fun g164 h => ?_)))))))
          ·refine Run.so hm (.p e (.nil (.ret ?_)))
           obtain rfl := someO h
           exact Ends.mkG (.inl e) e (gh_pk [0] [] hB e e e e) e e
          ·refine Run.skip (.seq (.so hm (.p3 e e e (.p e ?_))))
           obtain ⟨y169,hy169,h⟩ := bindO h
           refine Ops.z 87080 (Ev.call [] [] 0 (sem_laws_eqIntS _ _ _ _ hy169) e e (.d2 .nil) e (.inl e) e e) e e (.p e (.nil (.condO e h (fun g170 h => ?_) (fun g170 h => ?_))))
           ·refine Run.so hm (.p e (.nil (.ret ?_)))
            obtain rfl := someO h
            exact Ends.mkG (.inl e) e (gh_pk [0] [] hB e e e e) e e
           ·refine Run.skip (.seq (.so hm (.p3 e e e (.p e ?_))))
            obtain ⟨y172,hy172,h⟩ := bindO h
            refine Ops.z 95272 (Ev.call [] [] 0 (sem_laws_eqPeerS _ _ _ _ hy172) e e (.d2 .nil) e (.inl e) e e) e e (.p e (.nil (.condO e h (fun g173 h => ?_) (fun g173 h => ?_))))
            ·refine Run.so hm (.p e (.nil (.ret ?_)))
             obtain rfl := someO h
             exact Ends.mkG (.inl e) e (gh_pk [0] [] hB e e e e) e e
            ·refine Run.skip (.so hm (.p e (.nil (.ret ?_))))
             obtain rfl := someO h
             exact Ends.mkG (.inl e) e (gh_pk [0] [] hB e e e e) e e
def laws_eqFile (N : Nat) (x1 : File) (x2 : File) : Option (Bool) :=
 (if (!decide (x1.Name = x2.Name)) = true then
 some false
 else
 (if (!decide (x1.Text = x2.Text)) = true then
 some false
 else
 some true))
theorem sem_laws_eqFile (N : Nat) (x1 : File) (x2 : File) (r : Bool) (h : laws_eqFile N x1 x2 = some r) : Says Tryz.prog 220 [.agg [VS x1.Name,VS x1.Text],.agg [VS x2.Name,VS x2.Text]] 0 [] (VB r) [] := by
 unfold laws_eqFile at h
 refine Says.of_norm e Tryz.call220 e fun B hB => ?_
 have hm : B.m ≤ 1000 := by omega
 refine Run.so hm (.z 1000 (.bx e e) e e (.z 1016 (.bx e e) e e (.p e (.nil (.seq (.so hm (.p3 e e e (.p2 e e (.nil (.condO e h (fun g104 h => ?_) (fun g104 h => ?_)))))))))))
 ·refine Run.so hm (.p e (.nil (.ret ?_)))
  obtain rfl := someO h
  exact Ends.mkG (.inl e) e (gh_pk [0] [] hB e e e e) e e
 ·refine Run.skip (.seq (.so hm (.p3 e e e (.p2 e e (.nil (.condO e h (fun g105 h => ?_) (fun g105 h => ?_)))))))
  ·refine Run.so hm (.p e (.nil (.ret ?_)))
   obtain rfl := someO h
   exact Ends.mkG (.inl e) e (gh_pk [0] [] hB e e e e) e e
  ·refine Run.skip (.so hm (.p e (.nil (.ret ?_))))
   obtain rfl := someO h
   exact Ends.mkG (.inl e) e (gh_pk [0] [] hB e e e e) e e
def laws_eqFileS_l1 (N : Nat) (x1 : (List File)) (x2 : (List File)) : Nat → Int → Option ((Bool) ⊕ (Unit))
 | 0,_ => none
 | m + 1,x222 =>
 (if (decide (x222 < (x1.length : Int))) = true then
 (at? x1 x222).bind fun x254 =>
 (at? x2 x222).bind fun x255 =>
 (laws_eqFile N x254 x255).bind fun y256 =>
 (if (!y256) = true then
 some (Sum.inl false)
 else
 laws_eqFileS_l1 N x1 x2 m (w64 (x222 + 1)))
 else
 some (Sum.inr ()))
def laws_eqFileS_l1_r (N : Nat) (x1 : (List File)) (x2 : (List File)) : (List File) → Int → Option ((Bool) ⊕ (Unit))
 | [],x222 =>
 some (Sum.inr ())
 | hd :: tl,x222 =>
 (some hd).bind fun x254 =>
 (at? x2 x222).bind fun x255 =>
 (laws_eqFile N x254 x255).bind fun y256 =>
 (if (!y256) = true then
 some (Sum.inl false)
 else
 laws_eqFileS_l1_r N x1 x2 tl (w64 (x222 + 1)))
theorem laws_eqFileS_l1_rng (N : Nat) (x1 : (List File)) (x2 : (List File)) (hx : x1.length ≤ 1099511627776) : ∀ (d k m : Nat),x1.length = k + d → d < m → laws_eqFileS_l1 N x1 x2 m (k : Int) = laws_eqFileS_l1_r N x1 x2 (x1.drop k) (k : Int) := by
 intro d
 induction d with
 | zero =>
  intro k m hd hm
  obtain ⟨m,rfl⟩ : ∃ q,m = q + 1 := ⟨m - 1,by omega⟩
  rw [laws_eqFileS_l1,if_neg (by simp; omega),List.drop_eq_nil_of_le (by omega),laws_eqFileS_l1_r]
 | succ d ih =>
  intro k m hd hm
  obtain ⟨m,rfl⟩ : ∃ q,m = q + 1 := ⟨m - 1,by omega⟩
  have hk : k < x1.length := by omega
  rw [laws_eqFileS_l1,if_pos (by simp; omega),List.drop_eq_getElem_cons hk,laws_eqFileS_l1_r]
  have h1 := at_lt hk
  have h2 := w64_succ (k := k) (by omega)
  have h3 := ih (k + 1) m
  simp only [h1,h2,h3 (by omega) (by omega)]
theorem laws_eqFileS_l1_eq {N : Nat} (x1 : (List File)) (x2 : (List File)) (hx : x1.length ≤ 1099511627776) (hN : x1.length < N) : laws_eqFileS_l1 N x1 x2 N 0 = laws_eqFileS_l1_r N x1 x2 x1 0 := laws_eqFileS_l1_rng N x1 x2 hx x1.length 0 N (by omega) hN
def laws_eqFileS (N : Nat) (x1 : (List File)) (x2 : (List File)) : Option (Bool) :=
 (if ((x1.length : Int) != (x2.length : Int)) = true then
 some false
 else
 joinP (fun (v219 : Unit) =>
 some true) fun j219 =>
 (laws_eqFileS_l1 N x1 x2 N 0).bind (Sum.elim (fun v239 => some v239) (fun (v240 : Unit) => j219 ())))
theorem sem_laws_eqFileS (N : Nat) (x1 : (List File)) (x2 : (List File)) (r : Bool) (h : laws_eqFileS N x1 x2 = some r) : Says Tryz.prog 189 [RO 80 (x1.map encFile),RO 80 (x2.map encFile)] 0 [] (VB r) [] := by
 unfold laws_eqFileS at h
 refine Says.of_norm e Tryz.call189 e fun B hB => ?_
 have hm : B.m ≤ 1000 := by omega
 refine Run.so hm (.p e (.nil (.seq (.so hm (.p e (.z 5112 (Ev.lnF e) e e (.p e (.z 5144 (Ev.lnF e) e e (.p e (.nil (.condO e h (fun g180 h => ?_) (fun g180 h => ?_))))))))))))
 ·refine Run.so hm (.p e (.nil (.ret ?_)))
  obtain rfl := someO h
  exact Ends.mkG (.inl e) e (gh_pk [0] [] hB e e e e) e e
 ·refine Run.skip (.seqO h (fun v219 => []) (fun (v219 : Unit) => []) (fun h => ?_) (fun v219 h => ?_))
  ·refine Run.so hm (.p e (.nil (.block ?_)))
   obtain ⟨res240,h,hk240⟩ := bindO h
   refine Run.loop (n := N) (fun m240 fr σ => ∃ (x222 : Int),laws_eqFileS_l1 N x1 x2 m240 x222 = some res240 ∧ fr = [(0,RO 80 (x1.map encFile)),(1,RO 80 (x2.map encFile)),(5,VI x222)] ∧ σ = []) (gh_pk [0,1,5] [] hB e e e e) ⟨_,h,e,e⟩ ?_
   rintro m240 fr σ ⟨x222,h,rfl,rfl⟩
   obtain _ | m240 := m240
   ·rw [laws_eqFileS_l1] at h; cases h
   rw [laws_eqFileS_l1] at h
   refine Run.seq (.so hm (.p2 e e (.z 17416 (Ev.lnF e) e e (.p e (.nil (.condO e h (fun g243 h => ?_) (fun g243 h => ?_)))))))
   ·refine Run.skip (.seq (.block (.seq (.draw hm hmix (.p e (.p e ?_))))))
    obtain ⟨x254,hx254,h⟩ := bindO h
    refine OpsD.z 25608 (Ev.iaF e e hx254) e e (.p e (.p e (.p e ?_)))
    obtain ⟨x255,hx255,h⟩ := bindO h
    refine OpsD.z 25672 (Ev.iaF e e hx255) e e (.p e ?_)
    obtain ⟨y256,hy256,h⟩ := bindO h
    refine OpsD.z 25704 (Ev.call [] [] 0 (sem_laws_eqFile _ _ _ _ hy256) e e (.cons (.agg (.d2 .nil)) (.cons (.agg (.d2 .nil)) .nil)) e (.inl e) e e) e e (.p e (.nil ⟨by kernel_rfl,?_⟩))
    refine Run.condO e h (fun g257 h => ?_) (fun g257 h => ?_)
    ·refine Run.so hm (.p e (.nil (.ret ?_)))
     obtain rfl := someO h
     have h := hk240
     replace h := inlO h
     obtain rfl := someO h
     exact Ends.mkG (.inl e) e (gh_pk [0] [] hB e e e e) e e
    ·exact Run.skip (.ops hm (.p3 e e e (.nil (⟨m240,Nat.lt_succ_self m240,_,_,(gh_pk [0,1,5] [] hB e e e e),_,h,e,e⟩))))
   ·refine Run.exit ?_
    obtain rfl := someO h
    have h := hk240
    replace h := inrO h
    exact ⟨_,_,(gh_pk [] [] hB e e e e),(),h,e,e⟩
  ·refine Run.so hm (.p e (.nil (.ret ?_)))
   obtain rfl := someO h
   exact Ends.mkG (.inl e) e (gh_pk [0] [] hB e e e e) e e
def laws_eqDisk (N : Nat) (x1 : Disk) (x2 : Disk) : Option (Bool) :=
 (laws_eqFileS N x1.Files x2.Files).bind fun y104 =>
 (if (!y104) = true then
 some false
 else
 some true)
theorem sem_laws_eqDisk (N : Nat) (x1 : Disk) (x2 : Disk) (r : Bool) (h : laws_eqDisk N x1 x2 = some r) : Says Tryz.prog 131 [.agg [RO 80 (x1.Files.map encFile)],.agg [RO 80 (x2.Files.map encFile)]] 0 [] (VB r) [] := by
 unfold laws_eqDisk at h
 refine Says.of_norm e Tryz.call131 e fun B hB => ?_
 have hm : B.m ≤ 1000 := by omega
 refine Run.so hm (.z 1000 (.bx e e) e e (.z 1016 (.bx e e) e e (.p e (.nil (.seq (.so hm (.p3 e e e (.p e ?_))))))))
 obtain ⟨y104,hy104,h⟩ := bindO h
 refine Ops.z 5160 (Ev.call [] [] 0 (sem_laws_eqFileS _ _ _ _ hy104) e e (.d2 .nil) e (.inl e) e e) e e (.p e (.nil (.condO e h (fun g105 h => ?_) (fun g105 h => ?_))))
 ·refine Run.so hm (.p e (.nil (.ret ?_)))
  obtain rfl := someO h
  exact Ends.mkG (.inl e) e (gh_pk [0] [] hB e e e e) e e
 ·refine Run.skip (.so hm (.p e (.nil (.ret ?_))))
  obtain rfl := someO h
  exact Ends.mkG (.inl e) e (gh_pk [0] [] hB e e e e) e e
def laws_eqManifest (N : Nat) (x1 : Manifest) (x2 : Manifest) : Option (Bool) :=
 (laws_eqIntS N x1.Segs x2.Segs).bind fun y119 =>
 (if (!y119) = true then
 some false
 else
 (if (x1.Next != x2.Next) = true then
 some false
 else
 (if (x1.Base != x2.Base) = true then
 some false
 else
 (if (x1.BaseTerm != x2.BaseTerm) = true then
 some false
 else
 (laws_eqIntS N x1.Conf x2.Conf).bind fun y128 =>
 (if (!y128) = true then
 some false
 else
 some true)))))
theorem sem_laws_eqManifest (N : Nat) (x1 : Manifest) (x2 : Manifest) (r : Bool) (h : laws_eqManifest N x1 x2 = some r) : Says Tryz.prog 190 [.agg [RO 3 (x1.Segs.map encI),VI x1.Next,VI x1.Base,VI x1.BaseTerm,RO 3 (x1.Conf.map encI)],.agg [RO 3 (x2.Segs.map encI),VI x2.Next,VI x2.Base,VI x2.BaseTerm,RO 3 (x2.Conf.map encI)]] 0 [] (VB r) [] := by
 unfold laws_eqManifest at h
 refine Says.of_norm e Tryz.call190 e fun B hB => ?_
 have hm : B.m ≤ 1000 := by omega
 refine Run.so hm (.z 1000 (.bx e e) e e (.z 1016 (.bx e e) e e (.p e (.nil (.seq (.so hm (.p3 e e e (.p e ?_))))))))
 obtain ⟨y119,hy119,h⟩ := bindO h
 refine Ops.z 5160 (Ev.call [] [] 0 (sem_laws_eqIntS _ _ _ _ hy119) e e (.d2 .nil) e (.inl e) e e) e e (.p e (.nil (.condO e h (fun g120 h => ?_) (fun g120 h => ?_))))
 ·refine Run.so hm (.p e (.nil (.ret ?_)))
  obtain rfl := someO h
  exact Ends.mkG (.inl e) e (gh_pk [0] [] hB e e e e) e e
 ·refine Run.skip (.seq (.so hm (.p3 e e e (.p2 e e (.nil (.condO e h (fun g122 h => ?_) (fun g122 h => ?_)))))))
  ·refine Run.so hm (.p e (.nil (.ret ?_)))
   obtain rfl := someO h
   exact Ends.mkG (.inl e) e (gh_pk [0] [] hB e e e e) e e
  ·refine Run.skip (.seq (.so hm (.p3 e e e (.p2 e e (.nil (.condO e h (fun g124 h => ?_) (fun g124 h => ?_)))))))
   ·refine Run.so hm (.p e (.nil (.ret ?_)))
    obtain rfl := someO h
    exact Ends.mkG (.inl e) e (gh_pk [0] [] hB e e e e) e e
   ·refine Run.skip (.seq (.so hm (.p3 e e e (.p2 e e (.nil (.condO e h (fun g126 h => ?_) (fun g126 h => ?_)))))))
    ·refine Run.so hm (.p e (.nil (.ret ?_)))
     obtain rfl := someO h
     exact Ends.mkG (.inl e) e (gh_pk [0] [] hB e e e e) e e
    ·refine Run.skip (.seq (.so hm (.p3 e e e (.p e ?_))))
     obtain ⟨y128,hy128,h⟩ := bindO h
     refine Ops.z 37928 (Ev.call [] [] 0 (sem_laws_eqIntS _ _ _ _ hy128) e e (.d2 .nil) e (.inl e) e e) e e (.p e (.nil (.condO e h (fun g129 h => ?_) (fun g129 h => ?_))))
     ·refine Run.so hm (.p e (.nil (.ret ?_)))
      obtain rfl := someO h
      exact Ends.mkG (.inl e) e (gh_pk [0] [] hB e e e e) e e
     ·refine Run.skip (.so hm (.p e (.nil (.ret ?_))))
      obtain rfl := someO h
      exact Ends.mkG (.inl e) e (gh_pk [0] [] hB e e e e) e e
def laws_eqSpotS_l1 (N : Nat) (x1 : (List Spot)) : Nat → Option (Unit)
 | 0 => none
 | m + 1 =>
 (if (decide (0 < (x1.length : Int))) = true then
 none
 else
 some ())
def laws_eqSpotS (N : Nat) (x1 : (List Spot)) (x2 : (List Spot)) : Option (Bool) :=
 (if ((x1.length : Int) != (x2.length : Int)) = true then
 some false
 else
 joinP (fun (v129 : Unit) =>
 some true) fun j129 =>
 (laws_eqSpotS_l1 N x1 N).bind (fun v134 => j129 ()))
theorem sem_laws_eqSpotS (N : Nat) (x1 : (List Spot)) (x2 : (List Spot)) (r : Bool) (h : laws_eqSpotS N x1 x2 = some r) : Says Tryz.prog 191 [RO 185 (x1.map encSpot),RO 185 (x2.map encSpot)] 0 [] (VB r) [] := by
 unfold laws_eqSpotS at h
 refine Says.of_norm e Tryz.call191 e fun B hB => ?_
 have hm : B.m ≤ 1000 := by omega
 refine Run.so hm (.p e (.nil (.seq (.so hm (.p e (.z 5112 (Ev.lnF e) e e (.p e (.z 5144 (Ev.lnF e) e e (.p e (.nil (.condO e h (fun g120 h => ?_) (fun g120 h => ?_))))))))))))
 ·refine Run.so hm (.p e (.nil (.ret ?_)))
  obtain rfl := someO h
  exact Ends.mkG (.inl e) e (gh_pk [0] [] hB e e e e) e e
 ·refine Run.skip (.seqO h (fun v129 => []) (fun (v129 : Unit) => []) (fun h => ?_) (fun v129 h => ?_))
  ·refine Run.so hm (.p e (.nil (.block ?_)))
   obtain ⟨res134,h,hk134⟩ := bindO h
   refine Run.loop (n := N) (fun m134 fr σ => laws_eqSpotS_l1 N x1 m134 = some res134 ∧ fr = [(0,RO 185 (x1.map encSpot)),(5,VI 0)] ∧ σ = []) (gh_pk [0,5] [] hB e e e e) ⟨h,e,e⟩ ?_
   rintro m134 fr σ ⟨h,rfl,rfl⟩
   obtain _ | m134 := m134
   ·rw [laws_eqSpotS_l1] at h; cases h
   rw [laws_eqSpotS_l1] at h
   refine Run.seq (.so hm (.p2 e e (.z 17416 (Ev.lnF e) e e (.p e (.nil (.condO e h (fun g137 h => ?_) (fun g137 h => ?_)))))))
   ·exact noO h
   ·refine Run.exit ?_
    obtain rfl := someO h
    have h := hk134
    exact ⟨_,_,(gh_pk [] [] hB e e e e),(),h,e,e⟩
  ·refine Run.so hm (.p e (.nil (.ret ?_)))
   obtain rfl := someO h
   exact Ends.mkG (.inl e) e (gh_pk [0] [] hB e e e e) e e
def laws_eqShelf (N : Nat) (x1 : Shelf) (x2 : Shelf) : Option (Bool) :=
 (laws_eqManifest N x1.Man x2.Man).bind fun y117 =>
 (if (!y117) = true then
 some false
 else
 (laws_eqSpotS N x1.Dir x2.Dir).bind fun y123 =>
 (if (!y123) = true then
 some false
 else
 (if (x1.Stamp != x2.Stamp) = true then
 some false
 else
 some true)))
theorem sem_laws_eqShelf (N : Nat) (x1 : Shelf) (x2 : Shelf) (r : Bool) (h : laws_eqShelf N x1 x2 = some r) : Says Tryz.prog 132 [.agg [RO 3 (x1.Man.Segs.map encI),VI x1.Man.Next,VI x1.Man.Base,VI x1.Man.BaseTerm,RO 3 (x1.Man.Conf.map encI),RO 185 (x1.Dir.map encSpot),VI x1.Stamp],.agg [RO 3 (x2.Man.Segs.map encI),VI x2.Man.Next,VI x2.Man.Base,VI x2.Man.BaseTerm,RO 3 (x2.Man.Conf.map encI),RO 185 (x2.Dir.map encSpot),VI x2.Stamp]] 0 [] (VB r) [] := by
 unfold laws_eqShelf at h
 refine Says.of_norm e Tryz.call132 e fun B hB => ?_
 have hm : B.m ≤ 1000 := by omega
 refine Run.so hm (.z 1000 (.bx e e) e e (.z 1016 (.bx e e) e e (.p e (.nil (.seq (.so hm (.p3 e e e (.p e ?_))))))))
 obtain ⟨y117,hy117,h⟩ := bindO h
 refine Ops.z 5160 (Ev.call [] [] 0 (sem_laws_eqManifest _ _ _ _ hy117) e e (.cons (.agg (.d4 (.d1 .nil))) (.cons (.agg (.d4 (.d1 .nil))) .nil)) e (.inl e) e e) e e (.p e (.nil (.condO e h (fun g118 h => ?_) (fun g118 h => ?_))))
 ·refine Run.so hm (.p e (.nil (.ret ?_)))
  obtain rfl := someO h
  exact Ends.mkG (.inl e) e (gh_pk [0] [] hB e e e e) e e
 ·refine Run.skip (.seq (.so hm (.p3 e e e (.p e ?_))))
  obtain ⟨y123,hy123,h⟩ := bindO h
  refine Ops.z 13352 (Ev.call [] [] 0 (sem_laws_eqSpotS _ _ _ _ hy123) e e (.d2 .nil) e (.inl e) e e) e e (.p e (.nil (.condO e h (fun g124 h => ?_) (fun g124 h => ?_))))
  ·refine Run.so hm (.p e (.nil (.ret ?_)))
   obtain rfl := someO h
   exact Ends.mkG (.inl e) e (gh_pk [0] [] hB e e e e) e e
  ·refine Run.skip (.seq (.so hm (.p3 e e e (.p2 e e (.nil (.condO e h (fun g125 h => ?_) (fun g125 h => ?_)))))))
   ·refine Run.so hm (.p e (.nil (.ret ?_)))
    obtain rfl := someO h
    exact Ends.mkG (.inl e) e (gh_pk [0] [] hB e e e e) e e
   ·refine Run.skip (.so hm (.p e (.nil (.ret ?_))))
    obtain rfl := someO h
    exact Ends.mkG (.inl e) e (gh_pk [0] [] hB e e e e) e e
def laws_eqServer (N : Nat) (x1 : Server) (x2 : Server) : Option (Bool) :=
 (laws_eqNode N x1.Node x2.Node).bind fun y127 =>
 (if (!y127) = true then
 some false
 else
 (laws_eqDisk N x1.Disk x2.Disk).bind fun y133 =>
 (if (!y133) = true then
 some false
 else
 (laws_eqShelf N x1.Shelf x2.Shelf).bind fun y139 =>
 (if (!y139) = true then
 some false
 else
 (if (!decide (x1.Stage = x2.Stage)) = true then
 some false
 else
 (if (x1.StageAt != x2.StageAt) = true then
 some false
 else
 (if (x1.StageTerm != x2.StageTerm) = true then
 some false
 else
 some true))))))
theorem sem_laws_eqServer (N : Nat) (x1 : Server) (x2 : Server) (r : Bool) (h : laws_eqServer N x1 x2 = some r) : Says Tryz.prog 63 [.agg [VI x1.Node.Id,VI x1.Node.Term,VI x1.Node.Vote,VI x1.Node.Role,VI x1.Node.Lead,RO 3 (x1.Node.Conf.map encI),VI x1.Node.Log.Start,VI x1.Node.Log.StartTerm,RO 111 (x1.Node.Log.Entries.map encEntry),VI x1.Node.Commit,VI x1.Node.Clock,VI x1.Node.Limit,RO 3 (x1.Node.Votes.map encI),RO 156 (x1.Node.Peers.map encPeer),RO 80 (x1.Disk.Files.map encFile),RO 3 (x1.Shelf.Man.Segs.map encI),VI x1.Shelf.Man.Next,VI x1.Shelf.Man.Base,VI x1.Shelf.Man.BaseTerm,RO 3 (x1.Shelf.Man.Conf.map encI),RO 185 (x1.Shelf.Dir.map encSpot),VI x1.Shelf.Stamp,VS x1.Stage,VI x1.StageAt,VI x1.StageTerm],.agg [VI x2.Node.Id,VI x2.Node.Term,VI x2.Node.Vote,VI x2.Node.Role,VI x2.Node.Lead,RO 3 (x2.Node.Conf.map encI),VI x2.Node.Log.Start,VI x2.Node.Log.StartTerm,RO 111 (x2.Node.Log.Entries.map encEntry),VI x2.Node.Commit,VI x2.Node.Clock,VI x2.Node.Limit,RO 3 (x2.Node.Votes.map encI),RO 156 (x2.Node.Peers.map encPeer),RO 80 (x2.Disk.Files.map encFile),RO 3 (x2.Shelf.Man.Segs.map encI),VI x2.Shelf.Man.Next,VI x2.Shelf.Man.Base,VI x2.Shelf.Man.BaseTerm,RO 3 (x2.Shelf.Man.Conf.map encI),RO 185 (x2.Shelf.Dir.map encSpot),VI x2.Shelf.Stamp,VS x2.Stage,VI x2.StageAt,VI x2.StageTerm]] 0 [] (VB r) [] := by
 unfold laws_eqServer at h
 refine Says.of_norm e Tryz.call63 e fun B hB => ?_
 have hm : B.m ≤ 1000 := by omega
 refine Run.so hm (.z 1000 (.bx e e) e e (.z 1016 (.bx e e) e e (.p e (.nil (.seq (.so hm (.p3 e e e (.p e ?_))))))))
 obtain ⟨y127,hy127,h⟩ := bindO h
 refine Ops.z 5160 (Ev.call [] [] 0 (sem_laws_eqNode _ _ _ _ hy127) e e (.cons (.agg (.d4 (.d4 (.d4 (.d2 .nil))))) (.cons (.agg (.d4 (.d4 (.d4 (.d2 .nil))))) .nil)) e (.inl e) e e) e e (.p e (.nil (.condO e h (fun g128 h => ?_) (fun g128 h => ?_))))
 ·refine Run.so hm (.p e (.nil (.ret ?_)))
  obtain rfl := someO h
  exact Ends.mkG (.inl e) e (gh_pk [0] [] hB e e e e) e e
 ·refine Run.skip (.seq (.so hm (.p3 e e e (.p e ?_))))
  obtain ⟨y133,hy133,h⟩ := bindO h
  refine Ops.z 13352 (Ev.call [] [] 0 (sem_laws_eqDisk _ _ _ _ hy133) e e (.cons (.agg (.d1 .nil)) (.cons (.agg (.d1 .nil)) .nil)) e (.inl e) e e) e e (.p e (.nil (.condO e h (fun g134 h => ?_) (fun g134 h => ?_))))
  ·refine Run.so hm (.p e (.nil (.ret ?_)))
   obtain rfl := someO h
   exact Ends.mkG (.inl e) e (gh_pk [0] [] hB e e e e) e e
  ·refine Run.skip (.seq (.so hm (.p3 e e e (.p e ?_))))
   obtain ⟨y139,hy139,h⟩ := bindO h
   refine Ops.z 21544 (Ev.call [] [] 0 (sem_laws_eqShelf _ _ _ _ hy139) e e (.cons (.agg (.d4 (.d2 (.d1 .nil)))) (.cons (.agg (.d4 (.d2 (.d1 .nil)))) .nil)) e (.inl e) e e) e e (.p e (.nil (.condO e h (fun g140 h => ?_) (fun g140 h => ?_))))
   ·refine Run.so hm (.p e (.nil (.ret ?_)))
    obtain rfl := someO h
    exact Ends.mkG (.inl e) e (gh_pk [0] [] hB e e e e) e e
   ·refine Run.skip (.seq (.so hm (.p3 e e e (.p2 e e (.nil (.condO e h (fun g142 h => ?_) (fun g142 h => ?_)))))))
    ·refine Run.so hm (.p e (.nil (.ret ?_)))
     obtain rfl := someO h
     exact Ends.mkG (.inl e) e (gh_pk [0] [] hB e e e e) e e
    ·refine Run.skip (.seq (.so hm (.p3 e e e (.p2 e e (.nil (.condO e h (fun g144 h => ?_) (fun g144 h => ?_)))))))
     ·refine Run.so hm (.p e (.nil (.ret ?_)))
      obtain rfl := someO h
      exact Ends.mkG (.inl e) e (gh_pk [0] [] hB e e e e) e e
     ·refine Run.skip (.seq (.so hm (.p3 e e e (.p2 e e (.nil (.condO e h (fun g145 h => ?_) (fun g145 h => ?_)))))))
      ·refine Run.so hm (.p e (.nil (.ret ?_)))
       obtain rfl := someO h
       exact Ends.mkG (.inl e) e (gh_pk [0] [] hB e e e e) e e
      ·refine Run.skip (.so hm (.p e (.nil (.ret ?_))))
       obtain rfl := someO h
       exact Ends.mkG (.inl e) e (gh_pk [0] [] hB e e e e) e e
def laws_eqServerS_l1 (N : Nat) (x1 : (List Server)) (x2 : (List Server)) : Nat → Int → Option ((Bool) ⊕ (Unit))
 | 0,_ => none
 | m + 1,x222 =>
 (if (decide (x222 < (x1.length : Int))) = true then
 (at? x1 x222).bind fun x254 =>
 (at? x2 x222).bind fun x255 =>
 (laws_eqServer N x254 x255).bind fun y256 =>
 (if (!y256) = true then
 some (Sum.inl false)
 else
 laws_eqServerS_l1 N x1 x2 m (w64 (x222 + 1)))
 else
 some (Sum.inr ()))
def laws_eqServerS_l1_r (N : Nat) (x1 : (List Server)) (x2 : (List Server)) : (List Server) → Int → Option ((Bool) ⊕ (Unit))
 | [],x222 =>
 some (Sum.inr ())
 | hd :: tl,x222 =>
 (some hd).bind fun x254 =>
 (at? x2 x222).bind fun x255 =>
 (laws_eqServer N x254 x255).bind fun y256 =>
 (if (!y256) = true then
 some (Sum.inl false)
 else
 laws_eqServerS_l1_r N x1 x2 tl (w64 (x222 + 1)))
theorem laws_eqServerS_l1_rng (N : Nat) (x1 : (List Server)) (x2 : (List Server)) (hx : x1.length ≤ 1099511627776) : ∀ (d k m : Nat),x1.length = k + d → d < m → laws_eqServerS_l1 N x1 x2 m (k : Int) = laws_eqServerS_l1_r N x1 x2 (x1.drop k) (k : Int) := by
 intro d
 induction d with
 | zero =>
  intro k m hd hm
  obtain ⟨m,rfl⟩ : ∃ q,m = q + 1 := ⟨m - 1,by omega⟩
  rw [laws_eqServerS_l1,if_neg (by simp; omega),List.drop_eq_nil_of_le (by omega),laws_eqServerS_l1_r]
 | succ d ih =>
  intro k m hd hm
  obtain ⟨m,rfl⟩ : ∃ q,m = q + 1 := ⟨m - 1,by omega⟩
  have hk : k < x1.length := by omega
  rw [laws_eqServerS_l1,if_pos (by simp; omega),List.drop_eq_getElem_cons hk,laws_eqServerS_l1_r]
  have h1 := at_lt hk
  have h2 := w64_succ (k := k) (by omega)
  have h3 := ih (k + 1) m
  simp only [h1,h2,h3 (by omega) (by omega)]
theorem laws_eqServerS_l1_eq {N : Nat} (x1 : (List Server)) (x2 : (List Server)) (hx : x1.length ≤ 1099511627776) (hN : x1.length < N) : laws_eqServerS_l1 N x1 x2 N 0 = laws_eqServerS_l1_r N x1 x2 x1 0 := laws_eqServerS_l1_rng N x1 x2 hx x1.length 0 N (by omega) hN
def laws_eqServerS (N : Nat) (x1 : (List Server)) (x2 : (List Server)) : Option (Bool) :=
 (if ((x1.length : Int) != (x2.length : Int)) = true then
 some false
 else
 joinP (fun (v219 : Unit) =>
 some true) fun j219 =>
 (laws_eqServerS_l1 N x1 x2 N 0).bind (Sum.elim (fun v239 => some v239) (fun (v240 : Unit) => j219 ())))
theorem sem_laws_eqServerS (N : Nat) (x1 : (List Server)) (x2 : (List Server)) (r : Bool) (h : laws_eqServerS N x1 x2 = some r) : Says Tryz.prog 19 [RO 58 (x1.map (encServer false)),RO 58 (x2.map (encServer false))] 0 [] (VB r) [] := by
 unfold laws_eqServerS at h
 refine Says.of_norm e Tryz.call19 e fun B hB => ?_
 have hm : B.m ≤ 1000 := by omega
 refine Run.so hm (.p e (.nil (.seq (.so hm (.p e (.z 5112 (Ev.lnF e) e e (.p e (.z 5144 (Ev.lnF e) e e (.p e (.nil (.condO e h (fun g180 h => ?_) (fun g180 h => ?_))))))))))))
 ·refine Run.so hm (.p e (.nil (.ret ?_)))
  obtain rfl := someO h
  exact Ends.mkG (.inl e) e (gh_pk [0] [] hB e e e e) e e
 ·refine Run.skip (.seqO h (fun v219 => []) (fun (v219 : Unit) => []) (fun h => ?_) (fun v219 h => ?_))
  ·refine Run.so hm (.p e (.nil (.block ?_)))
   obtain ⟨res240,h,hk240⟩ := bindO h
   refine Run.loop (n := N) (fun m240 fr σ => ∃ (x222 : Int),laws_eqServerS_l1 N x1 x2 m240 x222 = some res240 ∧ fr = [(0,RO 58 (x1.map (encServer false))),(1,RO 58 (x2.map (encServer false))),(5,VI x222)] ∧ σ = []) (gh_pk [0,1,5] [] hB e e e e) ⟨_,h,e,e⟩ ?_
   rintro m240 fr σ ⟨x222,h,rfl,rfl⟩
   obtain _ | m240 := m240
   ·rw [laws_eqServerS_l1] at h; cases h
   rw [laws_eqServerS_l1] at h
   refine Run.seq (.so hm (.p2 e e (.z 17416 (Ev.lnF e) e e (.p e (.nil (.condO e h (fun g243 h => ?_) (fun g243 h => ?_)))))))
   ·refine Run.skip (.seq (.block (.seq (.draw hm hmix (.p e (.p e ?_))))))
    obtain ⟨x254,hx254,h⟩ := bindO h
    refine OpsD.z 25608 (Ev.iaF e e hx254) e e (.p e (.p e (.p e ?_)))
    obtain ⟨x255,hx255,h⟩ := bindO h
    refine OpsD.z 25672 (Ev.iaF e e hx255) e e (.p e ?_)
    obtain ⟨y256,hy256,h⟩ := bindO h
    refine OpsD.z 25704 (Ev.call [] [] 0 (sem_laws_eqServer _ _ _ _ hy256) e e (.cons (.agg (.d4 (.d4 (.d4 (.d4 (.d4 (.d4 (.d1 .nil)))))))) (.cons (.agg (.d4 (.d4 (.d4 (.d4 (.d4 (.d4 (.d1 .nil)))))))) .nil)) e (.inl e) e e) e e (.p e (.nil ⟨by kernel_rfl,?_⟩))
    refine Run.condO e h (fun g257 h => ?_) (fun g257 h => ?_)
    ·refine Run.so hm (.p e (.nil (.ret ?_)))
     obtain rfl := someO h
     have h := hk240
     replace h := inlO h
     obtain rfl := someO h
     exact Ends.mkG (.inl e) e (gh_pk [0] [] hB e e e e) e e
    ·exact Run.skip (.ops hm (.p3 e e e (.nil (⟨m240,Nat.lt_succ_self m240,_,_,(gh_pk [0,1,5] [] hB e e e e),_,h,e,e⟩))))
   ·refine Run.exit ?_
    obtain rfl := someO h
    have h := hk240
    replace h := inrO h
    exact ⟨_,_,(gh_pk [] [] hB e e e e),(),h,e,e⟩
  ·refine Run.so hm (.p e (.nil (.ret ?_)))
   obtain rfl := someO h
   exact Ends.mkG (.inl e) e (gh_pk [0] [] hB e e e e) e e
def laws_eqMessageS_l1 (N : Nat) (x1 : (List Message)) : Nat → Option (Unit)
 | 0 => none
 | m + 1 =>
 (if (decide (0 < (x1.length : Int))) = true then
 none
 else
 some ())
def laws_eqMessageS (N : Nat) (x1 : (List Message)) (x2 : (List Message)) : Option (Bool) :=
 (if ((x1.length : Int) != (x2.length : Int)) = true then
 some false
 else
 joinP (fun (v129 : Unit) =>
 some true) fun j129 =>
 (laws_eqMessageS_l1 N x1 N).bind (fun v134 => j129 ()))
theorem sem_laws_eqMessageS (N : Nat) (x1 : (List Message)) (x2 : (List Message)) (r : Bool) (h : laws_eqMessageS N x1 x2 = some r) : Says Tryz.prog 20 [RO 102 (x1.map (encMessage false)),RO 102 (x2.map (encMessage false))] 0 [] (VB r) [] := by
 unfold laws_eqMessageS at h
 refine Says.of_norm e Tryz.call20 e fun B hB => ?_
 have hm : B.m ≤ 1000 := by omega
 refine Run.so hm (.p e (.nil (.seq (.so hm (.p e (.z 5112 (Ev.lnF e) e e (.p e (.z 5144 (Ev.lnF e) e e (.p e (.nil (.condO e h (fun g120 h => ?_) (fun g120 h => ?_))))))))))))
 ·refine Run.so hm (.p e (.nil (.ret ?_)))
  obtain rfl := someO h
  exact Ends.mkG (.inl e) e (gh_pk [0] [] hB e e e e) e e
 ·refine Run.skip (.seqO h (fun v129 => []) (fun (v129 : Unit) => []) (fun h => ?_) (fun v129 h => ?_))
  ·refine Run.so hm (.p e (.nil (.block ?_)))
   obtain ⟨res134,h,hk134⟩ := bindO h
   refine Run.loop (n := N) (fun m134 fr σ => laws_eqMessageS_l1 N x1 m134 = some res134 ∧ fr = [(0,RO 102 (x1.map (encMessage false))),(5,VI 0)] ∧ σ = []) (gh_pk [0,5] [] hB e e e e) ⟨h,e,e⟩ ?_
   rintro m134 fr σ ⟨h,rfl,rfl⟩
   obtain _ | m134 := m134
   ·rw [laws_eqMessageS_l1] at h; cases h
   rw [laws_eqMessageS_l1] at h
   refine Run.seq (.so hm (.p2 e e (.z 17416 (Ev.lnF e) e e (.p e (.nil (.condO e h (fun g137 h => ?_) (fun g137 h => ?_)))))))
   ·exact noO h
   ·refine Run.exit ?_
    obtain rfl := someO h
    have h := hk134
    exact ⟨_,_,(gh_pk [] [] hB e e e e),(),h,e,e⟩
  ·refine Run.so hm (.p e (.nil (.ret ?_)))
   obtain rfl := someO h
   exact Ends.mkG (.inl e) e (gh_pk [0] [] hB e e e e) e e
def laws_eqWaitS_l1 (N : Nat) (x1 : (List Wait)) : Nat → Option (Unit)
 | 0 => none
 | m + 1 =>
 (if (decide (0 < (x1.length : Int))) = true then
 none
 else
 some ())
def laws_eqWaitS (N : Nat) (x1 : (List Wait)) (x2 : (List Wait)) : Option (Bool) :=
 (if ((x1.length : Int) != (x2.length : Int)) = true then
 some false
 else
 joinP (fun (v129 : Unit) =>
 some true) fun j129 =>
 (laws_eqWaitS_l1 N x1 N).bind (fun v134 => j129 ()))
theorem sem_laws_eqWaitS (N : Nat) (x1 : (List Wait)) (x2 : (List Wait)) (r : Bool) (h : laws_eqWaitS N x1 x2 = some r) : Says Tryz.prog 21 [RO 105 (x1.map encWait),RO 105 (x2.map encWait)] 0 [] (VB r) [] := by
 unfold laws_eqWaitS at h
 refine Says.of_norm e Tryz.call21 e fun B hB => ?_
 have hm : B.m ≤ 1000 := by omega
 refine Run.so hm (.p e (.nil (.seq (.so hm (.p e (.z 5112 (Ev.lnF e) e e (.p e (.z 5144 (Ev.lnF e) e e (.p e (.nil (.condO e h (fun g120 h => ?_) (fun g120 h => ?_))))))))))))
 ·refine Run.so hm (.p e (.nil (.ret ?_)))
  obtain rfl := someO h
  exact Ends.mkG (.inl e) e (gh_pk [0] [] hB e e e e) e e
 ·refine Run.skip (.seqO h (fun v129 => []) (fun (v129 : Unit) => []) (fun h => ?_) (fun v129 h => ?_))
  ·refine Run.so hm (.p e (.nil (.block ?_)))
   obtain ⟨res134,h,hk134⟩ := bindO h
   refine Run.loop (n := N) (fun m134 fr σ => laws_eqWaitS_l1 N x1 m134 = some res134 ∧ fr = [(0,RO 105 (x1.map encWait)),(5,VI 0)] ∧ σ = []) (gh_pk [0,5] [] hB e e e e) ⟨h,e,e⟩ ?_
   rintro m134 fr σ ⟨h,rfl,rfl⟩
   obtain _ | m134 := m134
   ·rw [laws_eqWaitS_l1] at h; cases h
   rw [laws_eqWaitS_l1] at h
   refine Run.seq (.so hm (.p2 e e (.z 17416 (Ev.lnF e) e e (.p e (.nil (.condO e h (fun g137 h => ?_) (fun g137 h => ?_)))))))
   ·exact noO h
   ·refine Run.exit ?_
    obtain rfl := someO h
    have h := hk134
    exact ⟨_,_,(gh_pk [] [] hB e e e e),(),h,e,e⟩
  ·refine Run.so hm (.p e (.nil (.ret ?_)))
   obtain rfl := someO h
   exact Ends.mkG (.inl e) e (gh_pk [0] [] hB e e e e) e e
def laws_eqLeaderS_l1 (N : Nat) (x1 : (List Leader)) : Nat → Option (Unit)
 | 0 => none
 | m + 1 =>
 (if (decide (0 < (x1.length : Int))) = true then
 none
 else
 some ())
def laws_eqLeaderS (N : Nat) (x1 : (List Leader)) (x2 : (List Leader)) : Option (Bool) :=
 (if ((x1.length : Int) != (x2.length : Int)) = true then
 some false
 else
 joinP (fun (v129 : Unit) =>
 some true) fun j129 =>
 (laws_eqLeaderS_l1 N x1 N).bind (fun v134 => j129 ()))
theorem sem_laws_eqLeaderS (N : Nat) (x1 : (List Leader)) (x2 : (List Leader)) (r : Bool) (h : laws_eqLeaderS N x1 x2 = some r) : Says Tryz.prog 22 [RO 108 (x1.map (encLeader false)),RO 108 (x2.map (encLeader false))] 0 [] (VB r) [] := by
 unfold laws_eqLeaderS at h
 refine Says.of_norm e Tryz.call22 e fun B hB => ?_
 have hm : B.m ≤ 1000 := by omega
 refine Run.so hm (.p e (.nil (.seq (.so hm (.p e (.z 5112 (Ev.lnF e) e e (.p e (.z 5144 (Ev.lnF e) e e (.p e (.nil (.condO e h (fun g120 h => ?_) (fun g120 h => ?_))))))))))))
 ·refine Run.so hm (.p e (.nil (.ret ?_)))
  obtain rfl := someO h
  exact Ends.mkG (.inl e) e (gh_pk [0] [] hB e e e e) e e
 ·refine Run.skip (.seqO h (fun v129 => []) (fun (v129 : Unit) => []) (fun h => ?_) (fun v129 h => ?_))
  ·refine Run.so hm (.p e (.nil (.block ?_)))
   obtain ⟨res134,h,hk134⟩ := bindO h
   refine Run.loop (n := N) (fun m134 fr σ => laws_eqLeaderS_l1 N x1 m134 = some res134 ∧ fr = [(0,RO 108 (x1.map (encLeader false))),(5,VI 0)] ∧ σ = []) (gh_pk [0,5] [] hB e e e e) ⟨h,e,e⟩ ?_
   rintro m134 fr σ ⟨h,rfl,rfl⟩
   obtain _ | m134 := m134
   ·rw [laws_eqLeaderS_l1] at h; cases h
   rw [laws_eqLeaderS_l1] at h
   refine Run.seq (.so hm (.p2 e e (.z 17416 (Ev.lnF e) e e (.p e (.nil (.condO e h (fun g137 h => ?_) (fun g137 h => ?_)))))))
   ·exact noO h
   ·refine Run.exit ?_
    obtain rfl := someO h
    have h := hk134
    exact ⟨_,_,(gh_pk [] [] hB e e e e),(),h,e,e⟩
  ·refine Run.so hm (.p e (.nil (.ret ?_)))
   obtain rfl := someO h
   exact Ends.mkG (.inl e) e (gh_pk [0] [] hB e e e e) e e
def laws_eqAppliedS_l1 (N : Nat) (x1 : (List Applied)) : Nat → Option (Unit)
 | 0 => none
 | m + 1 =>
 (if (decide (0 < (x1.length : Int))) = true then
 none
 else
 some ())
def laws_eqAppliedS (N : Nat) (x1 : (List Applied)) (x2 : (List Applied)) : Option (Bool) :=
 (if ((x1.length : Int) != (x2.length : Int)) = true then
 some false
 else
 joinP (fun (v129 : Unit) =>
 some true) fun j129 =>
 (laws_eqAppliedS_l1 N x1 N).bind (fun v134 => j129 ()))
theorem sem_laws_eqAppliedS (N : Nat) (x1 : (List Applied)) (x2 : (List Applied)) (r : Bool) (h : laws_eqAppliedS N x1 x2 = some r) : Says Tryz.prog 23 [RO 113 (x1.map encApplied),RO 113 (x2.map encApplied)] 0 [] (VB r) [] := by
 unfold laws_eqAppliedS at h
 refine Says.of_norm e Tryz.call23 e fun B hB => ?_
 have hm : B.m ≤ 1000 := by omega
 refine Run.so hm (.p e (.nil (.seq (.so hm (.p e (.z 5112 (Ev.lnF e) e e (.p e (.z 5144 (Ev.lnF e) e e (.p e (.nil (.condO e h (fun g120 h => ?_) (fun g120 h => ?_))))))))))))
 ·refine Run.so hm (.p e (.nil (.ret ?_)))
  obtain rfl := someO h
  exact Ends.mkG (.inl e) e (gh_pk [0] [] hB e e e e) e e
 ·refine Run.skip (.seqO h (fun v129 => []) (fun (v129 : Unit) => []) (fun h => ?_) (fun v129 h => ?_))
  ·refine Run.so hm (.p e (.nil (.block ?_)))
   obtain ⟨res134,h,hk134⟩ := bindO h
   refine Run.loop (n := N) (fun m134 fr σ => laws_eqAppliedS_l1 N x1 m134 = some res134 ∧ fr = [(0,RO 113 (x1.map encApplied)),(5,VI 0)] ∧ σ = []) (gh_pk [0,5] [] hB e e e e) ⟨h,e,e⟩ ?_
   rintro m134 fr σ ⟨h,rfl,rfl⟩
   obtain _ | m134 := m134
   ·rw [laws_eqAppliedS_l1] at h; cases h
   rw [laws_eqAppliedS_l1] at h
   refine Run.seq (.so hm (.p2 e e (.z 17416 (Ev.lnF e) e e (.p e (.nil (.condO e h (fun g137 h => ?_) (fun g137 h => ?_)))))))
   ·exact noO h
   ·refine Run.exit ?_
    obtain rfl := someO h
    have h := hk134
    exact ⟨_,_,(gh_pk [] [] hB e e e e),(),h,e,e⟩
  ·refine Run.so hm (.p e (.nil (.ret ?_)))
   obtain rfl := someO h
   exact Ends.mkG (.inl e) e (gh_pk [0] [] hB e e e e) e e
def laws_eqReplyS_l1 (N : Nat) (x1 : (List Reply)) : Nat → Option (Unit)
 | 0 => none
 | m + 1 =>
 (if (decide (0 < (x1.length : Int))) = true then
 none
 else
 some ())
def laws_eqReplyS (N : Nat) (x1 : (List Reply)) (x2 : (List Reply)) : Option (Bool) :=
 (if ((x1.length : Int) != (x2.length : Int)) = true then
 some false
 else
 joinP (fun (v129 : Unit) =>
 some true) fun j129 =>
 (laws_eqReplyS_l1 N x1 N).bind (fun v134 => j129 ()))
theorem sem_laws_eqReplyS (N : Nat) (x1 : (List Reply)) (x2 : (List Reply)) (r : Bool) (h : laws_eqReplyS N x1 x2 = some r) : Says Tryz.prog 24 [RO 118 (x1.map encReply),RO 118 (x2.map encReply)] 0 [] (VB r) [] := by
 unfold laws_eqReplyS at h
 refine Says.of_norm e Tryz.call24 e fun B hB => ?_
 have hm : B.m ≤ 1000 := by omega
 refine Run.so hm (.p e (.nil (.seq (.so hm (.p e (.z 5112 (Ev.lnF e) e e (.p e (.z 5144 (Ev.lnF e) e e (.p e (.nil (.condO e h (fun g120 h => ?_) (fun g120 h => ?_))))))))))))
 ·refine Run.so hm (.p e (.nil (.ret ?_)))
  obtain rfl := someO h
  exact Ends.mkG (.inl e) e (gh_pk [0] [] hB e e e e) e e
 ·refine Run.skip (.seqO h (fun v129 => []) (fun (v129 : Unit) => []) (fun h => ?_) (fun v129 h => ?_))
  ·refine Run.so hm (.p e (.nil (.block ?_)))
   obtain ⟨res134,h,hk134⟩ := bindO h
   refine Run.loop (n := N) (fun m134 fr σ => laws_eqReplyS_l1 N x1 m134 = some res134 ∧ fr = [(0,RO 118 (x1.map encReply)),(5,VI 0)] ∧ σ = []) (gh_pk [0,5] [] hB e e e e) ⟨h,e,e⟩ ?_
   rintro m134 fr σ ⟨h,rfl,rfl⟩
   obtain _ | m134 := m134
   ·rw [laws_eqReplyS_l1] at h; cases h
   rw [laws_eqReplyS_l1] at h
   refine Run.seq (.so hm (.p2 e e (.z 17416 (Ev.lnF e) e e (.p e (.nil (.condO e h (fun g137 h => ?_) (fun g137 h => ?_)))))))
   ·exact noO h
   ·refine Run.exit ?_
    obtain rfl := someO h
    have h := hk134
    exact ⟨_,_,(gh_pk [] [] hB e e e e),(),h,e,e⟩
  ·refine Run.so hm (.p e (.nil (.ret ?_)))
   obtain rfl := someO h
   exact Ends.mkG (.inl e) e (gh_pk [0] [] hB e e e e) e e
def laws_eqWorld (N : Nat) (x1 : World) (x2 : World) : Option (Bool) :=
 (laws_eqBoolS N x1.Up x2.Up).bind fun y143 =>
 (if (!y143) = true then
 some false
 else
 (laws_eqServerS N x1.Servers x2.Servers).bind fun y149 =>
 (if (!y149) = true then
 some false
 else
 (laws_eqMessageS N x1.Net x2.Net).bind fun y155 =>
 (if (!y155) = true then
 some false
 else
 (laws_eqWaitS N x1.Waits x2.Waits).bind fun y161 =>
 (if (!y161) = true then
 some false
 else
 (laws_eqLeaderS N x1.Leaders x2.Leaders).bind fun y167 =>
 (if (!y167) = true then
 some false
 else
 (laws_eqAppliedS N x1.Applied x2.Applied).bind fun y173 =>
 (if (!y173) = true then
 some false
 else
 (laws_eqReplyS N x1.Replies x2.Replies).bind fun y176 =>
 (if (!y176) = true then
 some false
 else
 some true)))))))
theorem sem_laws_eqWorld (N : Nat) (x1 : World) (x2 : World) (r : Bool) (h : laws_eqWorld N x1 x2 = some r) : Says Tryz.prog 7 [.agg [RO 4 (x1.Up.map encB),RO 58 (x1.Servers.map (encServer false)),RO 102 (x1.Net.map (encMessage false)),RO 105 (x1.Waits.map encWait),RO 108 (x1.Leaders.map (encLeader false)),RO 113 (x1.Applied.map encApplied),RO 118 (x1.Replies.map encReply)],.agg [RO 4 (x2.Up.map encB),RO 58 (x2.Servers.map (encServer false)),RO 102 (x2.Net.map (encMessage false)),RO 105 (x2.Waits.map encWait),RO 108 (x2.Leaders.map (encLeader false)),RO 113 (x2.Applied.map encApplied),RO 118 (x2.Replies.map encReply)]] 0 [] (VB r) [] := by
 unfold laws_eqWorld at h
 refine Says.of_norm e Tryz.call7 e fun B hB => ?_
 have hm : B.m ≤ 1000 := by omega
 refine Run.so hm (.z 1000 (.bx e e) e e (.z 1016 (.bx e e) e e (.p e (.nil (.seq (.so hm (.p3 e e e (.p e ?_))))))))
 obtain ⟨y143,hy143,h⟩ := bindO h
 refine Ops.z 5160 (Ev.call [] [] 0 (sem_laws_eqBoolS _ _ _ _ hy143) e e (.d2 .nil) e (.inl e) e e) e e (.p e (.nil (.condO e h (fun g144 h => ?_) (fun g144 h => ?_))))
 ·refine Run.so hm (.p e (.nil (.ret ?_)))
  obtain rfl := someO h
  exact Ends.mkG (.inl e) e (gh_pk [0] [] hB e e e e) e e
 ·refine Run.skip (.seq (.so hm (.p3 e e e (.p e ?_))))
  obtain ⟨y149,hy149,h⟩ := bindO h
  refine Ops.z 13352 (Ev.call [] [] 0 (sem_laws_eqServerS _ _ _ _ hy149) e e (.d2 .nil) e (.inl e) e e) e e (.p e (.nil (.condO e h (fun g150 h => ?_) (fun g150 h => ?_))))
  ·refine Run.so hm (.p e (.nil (.ret ?_)))
   obtain rfl := someO h
   exact Ends.mkG (.inl e) e (gh_pk [0] [] hB e e e e) e e
  ·refine Run.skip (.seq (.so hm (.p3 e e e (.p e ?_))))
   obtain ⟨y155,hy155,h⟩ := bindO h
   refine Ops.z 21544 (Ev.call [] [] 0 (sem_laws_eqMessageS _ _ _ _ hy155) e e (.d2 .nil) e (.inl e) e e) e e (.p e (.nil (.condO e h (fun g156 h => ?_) (fun g156 h => ?_))))
   ·refine Run.so hm (.p e (.nil (.ret ?_)))
    obtain rfl := someO h
    exact Ends.mkG (.inl e) e (gh_pk [0] [] hB e e e e) e e
   ·refine Run.skip (.seq (.so hm (.p3 e e e (.p e ?_))))
    obtain ⟨y161,hy161,h⟩ := bindO h
    refine Ops.z 29736 (Ev.call [] [] 0 (sem_laws_eqWaitS _ _ _ _ hy161) e e (.d2 .nil) e (.inl e) e e) e e (.p e (.nil (.condO e h (fun g162 h => ?_) (fun g162 h => ?_))))
    ·refine Run.so hm (.p e (.nil (.ret ?_)))
     obtain rfl := someO h
     exact Ends.mkG (.inl e) e (gh_pk [0] [] hB e e e e) e e
    ·refine Run.skip (.seq (.so hm (.p3 e e e (.p e ?_))))
     obtain ⟨y167,hy167,h⟩ := bindO h
     refine Ops.z 37928 (Ev.call [] [] 0 (sem_laws_eqLeaderS _ _ _ _ hy167) e e (.d2 .nil) e (.inl e) e e) e e (.p e (.nil (.condO e h (fun g168 h => ?_) (fun g168 h => ?_))))
     ·refine Run.so hm (.p e (.nil (.ret ?_)))
      obtain rfl := someO h
      exact Ends.mkG (.inl e) e (gh_pk [0] [] hB e e e e) e e
     ·refine Run.skip (.seq (.so hm (.p3 e e e (.p e ?_))))
      obtain ⟨y173,hy173,h⟩ := bindO h
      refine Ops.z 46120 (Ev.call [] [] 0 (sem_laws_eqAppliedS _ _ _ _ hy173) e e (.d2 .nil) e (.inl e) e e) e e (.p e (.nil (.condO e h (fun g174 h => ?_) (fun g174 h => ?_))))
      ·refine Run.so hm (.p e (.nil (.ret ?_)))
       obtain rfl := someO h
       exact Ends.mkG (.inl e) e (gh_pk [0] [] hB e e e e) e e
      ·refine Run.skip (.seq (.so hm (.p3 e e e (.p e ?_))))
       obtain ⟨y176,hy176,h⟩ := bindO h
       refine Ops.z 54312 (Ev.call [] [] 0 (sem_laws_eqReplyS _ _ _ _ hy176) e e (.d2 .nil) e (.inl e) e e) e e (.p e (.nil (.condO e h (fun g177 h => ?_) (fun g177 h => ?_))))
       ·refine Run.so hm (.p e (.nil (.ret ?_)))
        obtain rfl := someO h
        exact Ends.mkG (.inl e) e (gh_pk [0] [] hB e e e e) e e
       ·refine Run.skip (.so hm (.p e (.nil (.ret ?_))))
        obtain rfl := someO h
        exact Ends.mkG (.inl e) e (gh_pk [0] [] hB e e e e) e e
def laws_markIntS_l1 (N : Nat) : Nat → Int → Int → (List Int) → Option (Int × (List Int))
 | 0,_,_,_ => none
 | m + 1,x177,x178,x179 =>
 (if (decide (x178 < ((x179.length : Nat) : Int))) = true then
 (at? x179 x178).bind fun x201 =>
 laws_markIntS_l1 N m (w64 (x177 + 1)) (w64 (x178 + 1)) (x179.set x178.toNat x177)
 else
 some (x177,x179))
def laws_markIntS (N : Nat) (x1 : (List Int)) (x2 : Int) : Option (Int × (List Int)) :=
 joinP (fun (v176 : Int × (List Int)) =>
 some (v176.1,v176.2)) fun j176 =>
 (laws_markIntS_l1 N N x2 0 x1).bind (fun v190 => j176 (v190.1,v190.2))
theorem sem_laws_markIntS (N : Nat) (x1 : (List Int)) (x2 : Int) (r : Int × (List Int)) (h : laws_markIntS N x1 x2 = some r) : Says Tryz.prog 9 [.sl 0 3 0 x1.length,VI x2] 1 [(0,.vec 3 (x1.map encI))] (VI r.1) [(0,.vec 3 (r.2.map encI))] := by
 unfold laws_markIntS at h
 refine Says.of_norm e Tryz.call9 e fun B hB => ?_
 have hm : B.m ≤ 1000 := by omega
 refine Run.so hm (.p e (.nil (.seqO h (fun v176 => [(1,VI v176.1)]) (fun (v176 : Int × (List Int)) => [(0,.vec 3 (v176.2.map encI))]) (fun h => ?_) (fun v176 h => ?_))))
 ·refine Run.so hm (.p e (.nil (.block ?_)))
  obtain ⟨res190,h,hk190⟩ := bindO h
  refine Run.loop (n := N) (fun m190 fr σ => ∃ (x177 : Int),∃ (x178 : Int),∃ (x179 : (List Int)),laws_markIntS_l1 N m190 x177 x178 x179 = some res190 ∧ fr = [(0,.sl 0 3 0 x179.length),(1,VI x177),(5,VI x178)] ∧ σ = [(0,.vec 3 (x179.map encI))]) (gh_pk [0,1,5] [0] hB e e e e) ⟨_,_,_,h,e,e⟩ ?_
  rintro m190 fr σ ⟨x177,x178,x179,h,rfl,rfl⟩
  obtain _ | m190 := m190
  ·rw [laws_markIntS_l1] at h; cases h
  rw [laws_markIntS_l1] at h
  refine Run.seq (.so hm (.p3 e e e (.p e (.nil (.condO e h (fun g193 h => ?_) (fun g193 h => ?_))))))
  ·refine Run.skip (.seq (.block (.so hm (.p3 e e e ?_))))
   obtain ⟨x201,hx201,h⟩ := bindO h
   exact Ops.z 17432 (Ev.iaW e e e hx201) e e (.y 17448 (Ev.stE (f := encI) (v' := x177) e e (at_some hx201).2 e (.d1 .nil) e e e e e) e e (.nil (.ops hm (.p3 e e e (.nil (.ops hm (.p3 e e e (.nil (⟨m190,Nat.lt_succ_self m190,_,_,(gh_pk [0,1,5] [0] hB e e (by first | rfl | (simp only [List.length_set]; done) | (simp only [List.length_set]; rfl)) (by first | rfl | (simp only [List.length_set]; done) | (simp only [List.length_set]; rfl))),_,_,_,h,e,e⟩)))))))))
  ·refine Run.exit ?_
   obtain rfl := someO h
   have h := hk190
   exact ⟨_,_,(gh_pk [1] [0] hB e e e e),_,h,e,e⟩
 ·refine Run.so hm (.p2 e e (.nil (.ret ?_)))
  obtain rfl := someO h
  exact Ends.mkG (.inl e) e (gh_pk [0] [0] hB e e e e) e e
def laws_markBoolS_l1 (N : Nat) : Nat → Int → Int → (List Bool) → Option (Int × (List Bool))
 | 0,_,_,_ => none
 | m + 1,x225,x226,x227 =>
 (if (decide (x226 < ((x227.length : Nat) : Int))) = true then
 (intD .rem .i64 x225 3).bind fun x264 =>
 (at? x227 x226).bind fun x265 =>
 laws_markBoolS_l1 N m (w64 (x225 + 1)) (w64 (x226 + 1)) (x227.set x226.toNat (x264 == 0))
 else
 some (x225,x227))
def laws_markBoolS (N : Nat) (x1 : (List Bool)) (x2 : Int) : Option (Int × (List Bool)) :=
 joinP (fun (v224 : Int × (List Bool)) =>
 some (v224.1,v224.2)) fun j224 =>
 (laws_markBoolS_l1 N N x2 0 x1).bind (fun v246 => j224 (v246.1,v246.2))
theorem sem_laws_markBoolS (N : Nat) (x1 : (List Bool)) (x2 : Int) (r : Int × (List Bool)) (h : laws_markBoolS N x1 x2 = some r) : Says Tryz.prog 25 [.sl 0 4 0 x1.length,VI x2] 1 [(0,.vec 4 (x1.map encB))] (VI r.1) [(0,.vec 4 (r.2.map encB))] := by
 unfold laws_markBoolS at h
 refine Says.of_norm e Tryz.call25 e fun B hB => ?_
 have hm : B.m ≤ 1000 := by omega
 refine Run.so hm (.p e (.nil (.seqO h (fun v224 => [(1,VI v224.1)]) (fun (v224 : Int × (List Bool)) => [(0,.vec 4 (v224.2.map encB))]) (fun h => ?_) (fun v224 h => ?_))))
 ·refine Run.so hm (.p e (.nil (.block ?_)))
  obtain ⟨res246,h,hk246⟩ := bindO h
  refine Run.loop (n := N) (fun m246 fr σ => ∃ (x225 : Int),∃ (x226 : Int),∃ (x227 : (List Bool)),laws_markBoolS_l1 N m246 x225 x226 x227 = some res246 ∧ fr = [(0,.sl 0 4 0 x227.length),(1,VI x225),(5,VI x226)] ∧ σ = [(0,.vec 4 (x227.map encB))]) (gh_pk [0,1,5] [0] hB e e e e) ⟨_,_,_,h,e,e⟩ ?_
  rintro m246 fr σ ⟨x225,x226,x227,h,rfl,rfl⟩
  obtain _ | m246 := m246
  ·rw [laws_markBoolS_l1] at h; cases h
  rw [laws_markBoolS_l1] at h
  refine Run.seq (.so hm (.p3 e e e (.p e (.nil (.condO e h (fun g249 h => ?_) (fun g249 h => ?_))))))
  ·refine Run.skip (.seq (.block (.so hm (.p3 e e e ?_))))
   obtain ⟨x264,hx264,h⟩ := bindO h
   refine Ops.z 17432 (.bin e e hx264) e e (.p e ?_)
   obtain ⟨x265,hx265,h⟩ := bindO h
   exact Ops.z 17464 (Ev.iaW e e e hx265) e e (.y 17480 (Ev.stE (f := encB) (v' := (x264 == 0)) e e (at_some hx265).2 e (.d1 .nil) e e e e e) e e (.nil (.ops hm (.p3 e e e (.nil (.ops hm (.p3 e e e (.nil (⟨m246,Nat.lt_succ_self m246,_,_,(gh_pk [0,1,5] [0] hB e e (by first | rfl | (simp only [List.length_set]; done) | (simp only [List.length_set]; rfl)) (by first | rfl | (simp only [List.length_set]; done) | (simp only [List.length_set]; rfl))),_,_,_,h,e,e⟩)))))))))
  ·refine Run.exit ?_
   obtain rfl := someO h
   have h := hk246
   exact ⟨_,_,(gh_pk [1] [0] hB e e e e),_,h,e,e⟩
 ·refine Run.so hm (.p2 e e (.nil (.ret ?_)))
  obtain rfl := someO h
  exact Ends.mkG (.inl e) e (gh_pk [0] [0] hB e e e e) e e
def laws_markEntryS_l1 (N : Nat) (x1 : (List Entry)) : Nat → Option (Unit)
 | 0 => none
 | m + 1 =>
 (if (decide (0 < (x1.length : Int))) = true then
 none
 else
 some ())
def laws_markEntryS (N : Nat) (x1 : (List Entry)) (x2 : Int) : Option (Int) :=
 joinP (fun (v128 : Unit) =>
 some x2) fun j128 =>
 (laws_markEntryS_l1 N x1 N).bind (fun v134 => j128 ())
theorem sem_laws_markEntryS (N : Nat) (x1 : (List Entry)) (x2 : Int) (r : Int) (h : laws_markEntryS N x1 x2 = some r) : Says Tryz.prog 69 [RO 111 (x1.map encEntry),VI x2] 0 [] (VI r) [] := by
 unfold laws_markEntryS at h
 refine Says.of_norm e Tryz.call69 e fun B hB => ?_
 have hm : B.m ≤ 1000 := by omega
 refine Run.so hm (.p e (.nil (.seqO h (fun v128 => [(1,VI x2)]) (fun (v128 : Unit) => []) (fun h => ?_) (fun v128 h => ?_))))
 ·refine Run.so hm (.p e (.nil (.block ?_)))
  obtain ⟨res134,h,hk134⟩ := bindO h
  refine Run.loop (n := N) (fun m134 fr σ => laws_markEntryS_l1 N x1 m134 = some res134 ∧ fr = [(0,RO 111 (x1.map encEntry)),(1,VI x2),(5,VI 0)] ∧ σ = []) (gh_pk [0,1,5] [] hB e e e e) ⟨h,e,e⟩ ?_
  rintro m134 fr σ ⟨h,rfl,rfl⟩
  obtain _ | m134 := m134
  ·rw [laws_markEntryS_l1] at h; cases h
  rw [laws_markEntryS_l1] at h
  refine Run.seq (.so hm (.p2 e e (.z 9224 (Ev.lnF e) e e (.p e (.nil (.condO e h (fun g137 h => ?_) (fun g137 h => ?_)))))))
  ·exact noO h
  ·refine Run.exit ?_
   obtain rfl := someO h
   have h := hk134
   exact ⟨_,_,(gh_pk [1] [] hB e e e e),(),h,e,e⟩
 ·refine Run.so hm (.p2 e e (.nil (.ret ?_)))
  obtain rfl := someO h
  exact Ends.mkG (.inl e) e (gh_pk [0] [] hB e e e e) e e
def laws_markPeerS_l1 (N : Nat) (x1 : (List Peer)) : Nat → Option (Unit)
 | 0 => none
 | m + 1 =>
 (if (decide (0 < (x1.length : Int))) = true then
 none
 else
 some ())
def laws_markPeerS (N : Nat) (x1 : (List Peer)) (x2 : Int) : Option (Int) :=
 joinP (fun (v128 : Unit) =>
 some x2) fun j128 =>
 (laws_markPeerS_l1 N x1 N).bind (fun v134 => j128 ())
theorem sem_laws_markPeerS (N : Nat) (x1 : (List Peer)) (x2 : Int) (r : Int) (h : laws_markPeerS N x1 x2 = some r) : Says Tryz.prog 70 [RO 156 (x1.map encPeer),VI x2] 0 [] (VI r) [] := by
 unfold laws_markPeerS at h
 refine Says.of_norm e Tryz.call70 e fun B hB => ?_
 have hm : B.m ≤ 1000 := by omega
 refine Run.so hm (.p e (.nil (.seqO h (fun v128 => [(1,VI x2)]) (fun (v128 : Unit) => []) (fun h => ?_) (fun v128 h => ?_))))
 ·refine Run.so hm (.p e (.nil (.block ?_)))
  obtain ⟨res134,h,hk134⟩ := bindO h
  refine Run.loop (n := N) (fun m134 fr σ => laws_markPeerS_l1 N x1 m134 = some res134 ∧ fr = [(0,RO 156 (x1.map encPeer)),(1,VI x2),(5,VI 0)] ∧ σ = []) (gh_pk [0,1,5] [] hB e e e e) ⟨h,e,e⟩ ?_
  rintro m134 fr σ ⟨h,rfl,rfl⟩
  obtain _ | m134 := m134
  ·rw [laws_markPeerS_l1] at h; cases h
  rw [laws_markPeerS_l1] at h
  refine Run.seq (.so hm (.p2 e e (.z 9224 (Ev.lnF e) e e (.p e (.nil (.condO e h (fun g137 h => ?_) (fun g137 h => ?_)))))))
  ·exact noO h
  ·refine Run.exit ?_
   obtain rfl := someO h
   have h := hk134
   exact ⟨_,_,(gh_pk [1] [] hB e e e e),(),h,e,e⟩
 ·refine Run.so hm (.p2 e e (.nil (.ret ?_)))
  obtain rfl := someO h
  exact Ends.mkG (.inl e) e (gh_pk [0] [] hB e e e e) e e
def laws_markText_l1 (N : Nat) : Nat → Int → ByteArray → Option (ByteArray)
 | 0,_,_ => none
 | m + 1,x192,x193 =>
 (if (decide (x192 > 0)) = true then
 (intD .rem .i64 x192 10).bind fun x216 =>
 (scat? (strOf ([IntKind.wrap .u8 (w64 (48 + x216))] : List Int)) x193).bind fun x217 =>
 (intD .quo .i64 x192 10).bind fun x219 =>
 laws_markText_l1 N m x219 x217
 else
 some x193)
def laws_markText (N : Nat) (x1 : Int) : Option (ByteArray) :=
 (if (decide (x1 ≤ 0)) = true then
 some (⟨#[109,48]⟩ : ByteArray)
 else
 joinP (fun (v191 : ByteArray) =>
 (scat? (⟨#[109]⟩ : ByteArray) v191).bind fun x221 =>
 some x221) fun j191 =>
 (laws_markText_l1 N N x1 (⟨#[]⟩ : ByteArray)).bind (fun v206 => j191 v206))
theorem sem_laws_markText (N : Nat) (x1 : Int) (r : ByteArray) (h : laws_markText N x1 = some r) : Says Tryz.prog 73 [VI x1] 0 [] (VS r) [] := by
 unfold laws_markText at h
 refine Says.of_norm e Tryz.call73 e fun B hB => ?_
 have hm : B.m ≤ 1000 := by omega
 refine Run.so hm (.p e (.nil (.seq (.so hm (.p2 e e (.nil (.condO e h (fun g162 h => ?_) (fun g162 h => ?_))))))))
 ·refine Run.so hm (.p e (.nil (.ret ?_)))
  obtain rfl := someO h
  exact Ends.mkG (.inl e) e (gh_pk [0] [] hB e e e e) e e
 ·refine Run.skip (.so hm (.p e (.nil (.seqO h (fun v191 => [(3,VS v191)]) (fun (v191 : ByteArray) => []) (fun h => ?_) (fun v191 h => ?_)))))
  ·refine Run.block ?_
   obtain ⟨res206,h,hk206⟩ := bindO h
   refine Run.loop (n := N) (fun m206 fr σ => ∃ (x192 : Int),∃ (x193 : ByteArray),laws_markText_l1 N m206 x192 x193 = some res206 ∧ fr = [(0,VI x192),(3,VS x193)] ∧ σ = []) (gh_pk [0,3] [] hB e e e e) ⟨_,_,h,e,e⟩ ?_
   rintro m206 fr σ ⟨x192,x193,h,rfl,rfl⟩
   obtain _ | m206 := m206
   ·rw [laws_markText_l1] at h; cases h
   rw [laws_markText_l1] at h
   refine Run.seq (.so hm (.p2 e e (.nil (.condO e h (fun g209 h => ?_) (fun g209 h => ?_)))))
   ·refine Run.skip (.block (.so hm (.p e ?_)))
    obtain ⟨x216,hx216,h⟩ := bindO h
    refine Ops.z 21496 (.bin e e hx216) e e (.p2 e e (.z 21544 (Ev.bsW (ys := ([IntKind.wrap .u8 (w64 (48 + x216))] : List Int)) (f := encU) e (.d1 .nil) e e e e e) e e (.z 21560 (.sbC (addsW (f := encU) e e e (fun _ => e))) e e (.p e ?_))))
    obtain ⟨x217,hx217,h⟩ := bindO h
    refine Ops.z 21592 (Ev.addS e e hx217) e e (.p e (.nil (.ops hm (.p e ?_))))
    obtain ⟨x219,hx219,h⟩ := bindO h
    exact Ops.z 25592 (.bin e e hx219) e e (.p e (.nil (⟨m206,Nat.lt_succ_self m206,_,_,(gh_pk [0,3] [] hB e e e e),_,_,h,e,e⟩)))
   ·refine Run.exit ?_
    obtain rfl := someO h
    have h := hk206
    exact ⟨_,_,(gh_pk [3] [] hB e e e e),_,h,e,e⟩
  ·refine Run.so hm (.p e ?_)
   obtain ⟨x221,hx221,h⟩ := bindO h
   refine Ops.z 29688 (Ev.addS e e hx221) e e (.p e (.nil (.ret ?_)))
   obtain rfl := someO h
   exact Ends.mkG (.inl e) e (gh_pk [0] [] hB e e e e) e e
def laws_markFileS_l1 (N : Nat) : Nat → Int → Int → (List File) → Option (Int × (List File))
 | 0,_,_,_ => none
 | m + 1,x321,x322,x323 =>
 (if (decide (x322 < ((x323.length : Nat) : Int))) = true then
 (laws_markText N x321).bind fun y384 =>
 (at? x323 x322).bind fun x385 =>
 (laws_markText N (w64 (x321 + 1))).bind fun y392 =>
 (at? (x323.set x322.toNat (File.mk y384 x385.Text)) x322).bind fun x393 =>
 laws_markFileS_l1 N m (w64 ((w64 (x321 + 1)) + 1)) (w64 (x322 + 1)) ((x323.set x322.toNat (File.mk y384 x385.Text)).set x322.toNat (File.mk x393.Name y392))
 else
 some (x321,x323))
def laws_markFileS (N : Nat) (x1 : (List File)) (x2 : Int) : Option (Int × (List File)) :=
 joinP (fun (v320 : Int × (List File)) =>
 some (v320.1,v320.2)) fun j320 =>
 (laws_markFileS_l1 N N x2 0 x1).bind (fun v358 => j320 (v358.1,v358.2))
theorem sem_laws_markFileS (N : Nat) (x1 : (List File)) (x2 : Int) (r : Int × (List File)) (h : laws_markFileS N x1 x2 = some r) : Says Tryz.prog 71 [.sl 0 80 0 x1.length,VI x2] 1 [(0,.vec 80 (x1.map encFile))] (VI r.1) [(0,.vec 80 (r.2.map encFile))] := by
 unfold laws_markFileS at h
 refine Says.of_norm e Tryz.call71 e fun B hB => ?_
 have hm : B.m ≤ 1000 := by omega
 refine Run.so hm (.p e (.nil (.seqO h (fun v320 => [(1,VI v320.1)]) (fun (v320 : Int × (List File)) => [(0,.vec 80 (v320.2.map encFile))]) (fun h => ?_) (fun v320 h => ?_))))
 ·refine Run.so hm (.p e (.nil (.block ?_)))
  obtain ⟨res358,h,hk358⟩ := bindO h
  refine Run.loop (n := N) (fun m358 fr σ => ∃ (x321 : Int),∃ (x322 : Int),∃ (x323 : (List File)),laws_markFileS_l1 N m358 x321 x322 x323 = some res358 ∧ fr = [(0,.sl 0 80 0 x323.length),(1,VI x321),(5,VI x322)] ∧ σ = [(0,.vec 80 (x323.map encFile))]) (gh_pk [0,1,5] [0] hB e e e e) ⟨_,_,_,h,e,e⟩ ?_
  rintro m358 fr σ ⟨x321,x322,x323,h,rfl,rfl⟩
  obtain _ | m358 := m358
  ·rw [laws_markFileS_l1] at h; cases h
  rw [laws_markFileS_l1] at h
  refine Run.seq (.so hm (.p3 e e e (.p e (.nil (.condO e h (fun g361 h => ?_) (fun g361 h => ?_))))))
  ·refine Run.skip (.seq (.block (.so hm (.p3 e e e ?_))))
   obtain ⟨y384,hy384,h⟩ := bindO h
   refine Ops.z 17432 (Ev.call [] [] 0 (sem_laws_markText _ _ _ hy384) e e (.d1 .nil) e (.inl e) e e) e e ?_
   obtain ⟨x385,hx385,h⟩ := bindO h
   refine Ops.z 17448 (Ev.iaW e e e hx385) e e (.p e (.y 17480 (Ev.stE (f := encFile) (v' := (File.mk y384 x385.Text)) e e (at_some hx385).2 e (.d1 .nil) e e e e e) e e (.nil (.so hm (.p3 e e e (.nil (.so hm (.p3 e e e ?_))))))))
   obtain ⟨y392,hy392,h⟩ := bindO h
   refine Ops.z 25624 (Ev.call [] [] 0 (sem_laws_markText _ _ _ hy392) e e (.d1 .nil) e (.inl e) e e) e e ?_
   obtain ⟨x393,hx393,h⟩ := bindO h
   refine Ops.z 25640 (Ev.iaW e (by simp) e hx393) e e ?_
   exact Ops.p e (.y 25672 (Ev.stE (f := encFile) (v' := (File.mk x393.Name y392)) e e (at_some hx393).2 e (.d1 .nil) e e e e e) e e (.nil (.ops hm (.p3 e e e (.nil (.ops hm (.p3 e e e (.nil (⟨m358,Nat.lt_succ_self m358,_,_,(gh_pk [0,1,5] [0] hB e e (by first | rfl | (simp only [List.length_set]; done) | (simp only [List.length_set]; rfl)) (by first | rfl | (simp only [List.length_set]; done) | (simp only [List.length_set]; rfl))),_,_,_,h,e,e⟩)))))))))
  ·refine Run.exit ?_
   obtain rfl := someO h
   have h := hk358
   exact ⟨_,_,(gh_pk [1] [0] hB e e e e),_,h,e,e⟩
 ·refine Run.so hm (.p2 e e (.nil (.ret ?_)))
  obtain rfl := someO h
  exact Ends.mkG (.inl e) e (gh_pk [0] [0] hB e e e e) e e
def laws_markSpotS_l1 (N : Nat) (x1 : (List Spot)) : Nat → Option (Unit)
 | 0 => none
 | m + 1 =>
 (if (decide (0 < (x1.length : Int))) = true then
 none
 else
 some ())
def laws_markSpotS (N : Nat) (x1 : (List Spot)) (x2 : Int) : Option (Int) :=
 joinP (fun (v128 : Unit) =>
 some x2) fun j128 =>
 (laws_markSpotS_l1 N x1 N).bind (fun v134 => j128 ())
theorem sem_laws_markSpotS (N : Nat) (x1 : (List Spot)) (x2 : Int) (r : Int) (h : laws_markSpotS N x1 x2 = some r) : Says Tryz.prog 72 [RO 185 (x1.map encSpot),VI x2] 0 [] (VI r) [] := by
 unfold laws_markSpotS at h
 refine Says.of_norm e Tryz.call72 e fun B hB => ?_
 have hm : B.m ≤ 1000 := by omega
 refine Run.so hm (.p e (.nil (.seqO h (fun v128 => [(1,VI x2)]) (fun (v128 : Unit) => []) (fun h => ?_) (fun v128 h => ?_))))
 ·refine Run.so hm (.p e (.nil (.block ?_)))
  obtain ⟨res134,h,hk134⟩ := bindO h
  refine Run.loop (n := N) (fun m134 fr σ => laws_markSpotS_l1 N x1 m134 = some res134 ∧ fr = [(0,RO 185 (x1.map encSpot)),(1,VI x2),(5,VI 0)] ∧ σ = []) (gh_pk [0,1,5] [] hB e e e e) ⟨h,e,e⟩ ?_
  rintro m134 fr σ ⟨h,rfl,rfl⟩
  obtain _ | m134 := m134
  ·rw [laws_markSpotS_l1] at h; cases h
  rw [laws_markSpotS_l1] at h
  refine Run.seq (.so hm (.p2 e e (.z 9224 (Ev.lnF e) e e (.p e (.nil (.condO e h (fun g137 h => ?_) (fun g137 h => ?_)))))))
  ·exact noO h
  ·refine Run.exit ?_
   obtain rfl := someO h
   have h := hk134
   exact ⟨_,_,(gh_pk [1] [] hB e e e e),(),h,e,e⟩
 ·refine Run.so hm (.p2 e e (.nil (.ret ?_)))
  obtain rfl := someO h
  exact Ends.mkG (.inl e) e (gh_pk [0] [] hB e e e e) e e
def laws_markServerS_l1 (N : Nat) : Nat → Int → Int → (List Server) → Option (Int × (List Server))
 | 0,_,_,_ => none
 | m + 1,x2289,x2290,x2291 =>
 (if (decide (x2290 < ((x2291.length : Nat) : Int))) = true then
 (at? x2291 x2290).bind fun x2841 =>
 (at? (x2291.set x2290.toNat ({ x2841 with Node := (Node.mk x2289 x2841.Node.Term x2841.Node.Vote x2841.Node.Role x2841.Node.Lead x2841.Node.Conf x2841.Node.Log x2841.Node.Commit x2841.Node.Clock x2841.Node.Limit x2841.Node.Votes x2841.Node.Peers) })) x2290).bind fun x2845 =>
 (at? (x2291.set x2290.toNat ({ x2845 with Node := (Node.mk x2845.Node.Id (w64 (x2289 + 1)) x2845.Node.Vote x2845.Node.Role x2845.Node.Lead x2845.Node.Conf x2845.Node.Log x2845.Node.Commit x2845.Node.Clock x2845.Node.Limit x2845.Node.Votes x2845.Node.Peers) })) x2290).bind fun x2849 =>
 (at? (x2291.set x2290.toNat ({ x2849 with Node := (Node.mk x2849.Node.Id x2849.Node.Term (w64 ((w64 (x2289 + 1)) + 1)) x2849.Node.Role x2849.Node.Lead x2849.Node.Conf x2849.Node.Log x2849.Node.Commit x2849.Node.Clock x2849.Node.Limit x2849.Node.Votes x2849.Node.Peers) })) x2290).bind fun x2853 =>
 (at? (x2291.set x2290.toNat ({ x2853 with Node := (Node.mk x2853.Node.Id x2853.Node.Term x2853.Node.Vote (w64 ((w64 ((w64 (x2289 + 1)) + 1)) + 1)) x2853.Node.Lead x2853.Node.Conf x2853.Node.Log x2853.Node.Commit x2853.Node.Clock x2853.Node.Limit x2853.Node.Votes x2853.Node.Peers) })) x2290).bind fun x2857 =>
 (at? (x2291.set x2290.toNat ({ x2857 with Node := (Node.mk x2857.Node.Id x2857.Node.Term x2857.Node.Vote x2857.Node.Role (w64 ((w64 ((w64 ((w64 (x2289 + 1)) + 1)) + 1)) + 1)) x2857.Node.Conf x2857.Node.Log x2857.Node.Commit x2857.Node.Clock x2857.Node.Limit x2857.Node.Votes x2857.Node.Peers) })) x2290).bind fun x2869 =>
 (laws_markIntS N x2857.Node.Conf (w64 ((w64 ((w64 ((w64 ((w64 (x2289 + 1)) + 1)) + 1)) + 1)) + 1))).bind fun y2870 =>
 (len? x2857.Node.Conf y2870.2).bind fun y2871 =>
 (at? (x2291.set x2290.toNat ({ x2857 with Node := (Node.mk x2857.Node.Id x2857.Node.Term x2857.Node.Vote x2857.Node.Role (w64 ((w64 ((w64 ((w64 (x2289 + 1)) + 1)) + 1)) + 1)) y2870.2 x2857.Node.Log x2857.Node.Commit x2857.Node.Clock x2857.Node.Limit x2857.Node.Votes x2857.Node.Peers) })) x2290).bind fun x2877 =>
 (at? (x2291.set x2290.toNat ({ x2877 with Node := (Node.mk x2877.Node.Id x2877.Node.Term x2877.Node.Vote x2877.Node.Role x2877.Node.Lead x2877.Node.Conf (Log.mk y2870.1 x2877.Node.Log.StartTerm x2877.Node.Log.Entries) x2877.Node.Commit x2877.Node.Clock x2877.Node.Limit x2877.Node.Votes x2877.Node.Peers) })) x2290).bind fun x2881 =>
 (at? (x2291.set x2290.toNat ({ x2881 with Node := (Node.mk x2881.Node.Id x2881.Node.Term x2881.Node.Vote x2881.Node.Role x2881.Node.Lead x2881.Node.Conf (Log.mk x2881.Node.Log.Start (w64 (y2870.1 + 1)) x2881.Node.Log.Entries) x2881.Node.Commit x2881.Node.Clock x2881.Node.Limit x2881.Node.Votes x2881.Node.Peers) })) x2290).bind fun x2890 =>
 (laws_markEntryS N x2881.Node.Log.Entries (w64 ((w64 (y2870.1 + 1)) + 1))).bind fun y2891 =>
 (at? (x2291.set x2290.toNat ({ x2881 with Node := (Node.mk x2881.Node.Id x2881.Node.Term x2881.Node.Vote x2881.Node.Role x2881.Node.Lead x2881.Node.Conf (Log.mk x2881.Node.Log.Start (w64 (y2870.1 + 1)) x2881.Node.Log.Entries) x2881.Node.Commit x2881.Node.Clock x2881.Node.Limit x2881.Node.Votes x2881.Node.Peers) })) x2290).bind fun x2897 =>
 (at? (x2291.set x2290.toNat ({ x2897 with Node := (Node.mk x2897.Node.Id x2897.Node.Term x2897.Node.Vote x2897.Node.Role x2897.Node.Lead x2897.Node.Conf x2897.Node.Log y2891 x2897.Node.Clock x2897.Node.Limit x2897.Node.Votes x2897.Node.Peers) })) x2290).bind fun x2901 =>
 (at? (x2291.set x2290.toNat ({ x2901 with Node := (Node.mk x2901.Node.Id x2901.Node.Term x2901.Node.Vote x2901.Node.Role x2901.Node.Lead x2901.Node.Conf x2901.Node.Log x2901.Node.Commit (w64 (y2891 + 1)) x2901.Node.Limit x2901.Node.Votes x2901.Node.Peers) })) x2290).bind fun x2905 =>
 (at? (x2291.set x2290.toNat ({ x2905 with Node := (Node.mk x2905.Node.Id x2905.Node.Term x2905.Node.Vote x2905.Node.Role x2905.Node.Lead x2905.Node.Conf x2905.Node.Log x2905.Node.Commit x2905.Node.Clock (w64 ((w64 (y2891 + 1)) + 1)) x2905.Node.Votes x2905.Node.Peers) })) x2290).bind fun x2917 =>
 (laws_markIntS N x2905.Node.Votes (w64 ((w64 ((w64 (y2891 + 1)) + 1)) + 1))).bind fun y2918 =>
 (len? x2905.Node.Votes y2918.2).bind fun y2919 =>
 (at? (x2291.set x2290.toNat ({ x2905 with Node := (Node.mk x2905.Node.Id x2905.Node.Term x2905.Node.Vote x2905.Node.Role x2905.Node.Lead x2905.Node.Conf x2905.Node.Log x2905.Node.Commit x2905.Node.Clock (w64 ((w64 (y2891 + 1)) + 1)) x2905.Node.Votes x2905.Node.Peers) })) x2290).bind fun x2928 =>
 (laws_markPeerS N x2905.Node.Peers y2918.1).bind fun y2929 =>
 (at? (x2291.set x2290.toNat ({ x2905 with Node := (Node.mk x2905.Node.Id x2905.Node.Term x2905.Node.Vote x2905.Node.Role x2905.Node.Lead x2905.Node.Conf x2905.Node.Log x2905.Node.Commit x2905.Node.Clock (w64 ((w64 (y2891 + 1)) + 1)) x2905.Node.Votes x2905.Node.Peers) })) x2290).bind fun x2941 =>
 (laws_markFileS N x2905.Disk.Files y2929).bind fun y2942 =>
 (len? x2905.Disk.Files y2942.2).bind fun y2943 =>
 (at? (x2291.set x2290.toNat ({ x2905 with Node := (Node.mk x2905.Node.Id x2905.Node.Term x2905.Node.Vote x2905.Node.Role x2905.Node.Lead x2905.Node.Conf x2905.Node.Log x2905.Node.Commit x2905.Node.Clock (w64 ((w64 (y2891 + 1)) + 1)) x2905.Node.Votes x2905.Node.Peers) })) x2290).bind fun x2955 =>
 (laws_markIntS N x2905.Shelf.Man.Segs y2942.1).bind fun y2956 =>
 (len? x2905.Shelf.Man.Segs y2956.2).bind fun y2957 =>
 (at? (x2291.set x2290.toNat ({ x2905 with Node := (Node.mk x2905.Node.Id x2905.Node.Term x2905.Node.Vote x2905.Node.Role x2905.Node.Lead x2905.Node.Conf x2905.Node.Log x2905.Node.Commit x2905.Node.Clock (w64 ((w64 (y2891 + 1)) + 1)) y2918.2 x2905.Node.Peers),Disk := (Disk.mk y2942.2),Shelf := (Shelf.mk (Manifest.mk y2956.2 x2905.Shelf.Man.Next x2905.Shelf.Man.Base x2905.Shelf.Man.BaseTerm x2905.Shelf.Man.Conf) x2905.Shelf.Dir x2905.Shelf.Stamp) })) x2290).bind fun x2963 =>
 (at? (x2291.set x2290.toNat ({ x2963 with Shelf := (Shelf.mk (Manifest.mk x2963.Shelf.Man.Segs y2956.1 x2963.Shelf.Man.Base x2963.Shelf.Man.BaseTerm x2963.Shelf.Man.Conf) x2963.Shelf.Dir x2963.Shelf.Stamp) })) x2290).bind fun x2967 =>
 (at? (x2291.set x2290.toNat ({ x2967 with Shelf := (Shelf.mk (Manifest.mk x2967.Shelf.Man.Segs x2967.Shelf.Man.Next (w64 (y2956.1 + 1)) x2967.Shelf.Man.BaseTerm x2967.Shelf.Man.Conf) x2967.Shelf.Dir x2967.Shelf.Stamp) })) x2290).bind fun x2971 =>
 (at? (x2291.set x2290.toNat ({ x2971 with Shelf := (Shelf.mk (Manifest.mk x2971.Shelf.Man.Segs x2971.Shelf.Man.Next x2971.Shelf.Man.Base (w64 ((w64 (y2956.1 + 1)) + 1)) x2971.Shelf.Man.Conf) x2971.Shelf.Dir x2971.Shelf.Stamp) })) x2290).bind fun x2983 =>
 (laws_markIntS N x2971.Shelf.Man.Conf (w64 ((w64 ((w64 (y2956.1 + 1)) + 1)) + 1))).bind fun y2984 =>
 (len? x2971.Shelf.Man.Conf y2984.2).bind fun y2985 =>
 (at? (x2291.set x2290.toNat ({ x2971 with Shelf := (Shelf.mk (Manifest.mk x2971.Shelf.Man.Segs x2971.Shelf.Man.Next x2971.Shelf.Man.Base (w64 ((w64 (y2956.1 + 1)) + 1)) x2971.Shelf.Man.Conf) x2971.Shelf.Dir x2971.Shelf.Stamp) })) x2290).bind fun x2994 =>
 (laws_markSpotS N x2971.Shelf.Dir y2984.1).bind fun y2995 =>
 (at? (x2291.set x2290.toNat ({ x2971 with Shelf := (Shelf.mk (Manifest.mk x2971.Shelf.Man.Segs x2971.Shelf.Man.Next x2971.Shelf.Man.Base (w64 ((w64 (y2956.1 + 1)) + 1)) y2984.2) x2971.Shelf.Dir x2971.Shelf.Stamp) })) x2290).bind fun x3001 =>
 (laws_markText N (w64 (y2995 + 1))).bind fun y3008 =>
 (at? (x2291.set x2290.toNat ({ x3001 with Shelf := (Shelf.mk x3001.Shelf.Man x3001.Shelf.Dir y2995) })) x2290).bind fun x3009 =>
 (at? (x2291.set x2290.toNat ({ x3009 with Stage := y3008 })) x2290).bind fun x3013 =>
 (at? (x2291.set x2290.toNat ({ x3013 with StageAt := w64 ((w64 (y2995 + 1)) + 1) })) x2290).bind fun x3017 =>
 laws_markServerS_l1 N m (w64 ((w64 ((w64 ((w64 (y2995 + 1)) + 1)) + 1)) + 1)) (w64 (x2290 + 1)) (x2291.set x2290.toNat ({ x3017 with StageTerm := w64 ((w64 ((w64 (y2995 + 1)) + 1)) + 1) }))
 else
 some (x2289,x2291))
def laws_markServerS (N : Nat) (x1 : (List Server)) (x2 : Int) : Option (Int × (List Server)) :=
 joinP (fun (v2288 : Int × (List Server)) =>
 some (v2288.1,v2288.2)) fun j2288 =>
 (laws_markServerS_l1 N N x2 0 x1).bind (fun v2654 => j2288 (v2654.1,v2654.2))
theorem sem_laws_markServerS (N : Nat) (x1 : (List Server)) (x2 : Int) (r : Int × (List Server)) (h : laws_markServerS N x1 x2 = some r) : Says Tryz.prog 26 [.sl 0 58 0 x1.length,VI x2] 1 [(0,.vec 58 (x1.map (encServer true)))] (VI r.1) [(0,.vec 58 (r.2.map (encServer true)))] := by
 unfold laws_markServerS at h
 refine Says.of_norm e Tryz.call26 e fun B hB => ?_
 have hm : B.m ≤ 1000 := by omega
 refine Run.so hm (.p e (.nil (.seqO h (fun v2288 => [(1,VI v2288.1)]) (fun (v2288 : Int × (List Server)) => [(0,.vec 58 (v2288.2.map (encServer true)))]) (fun h => ?_) (fun v2288 h => ?_))))
 ·refine Run.so hm (.p e (.nil (.block ?_)))
  obtain ⟨res2654,h,hk2654⟩ := bindO h
  refine Run.loop (n := N) (fun m2654 fr σ => ∃ (x2289 : Int),∃ (x2290 : Int),∃ (x2291 : (List Server)),laws_markServerS_l1 N m2654 x2289 x2290 x2291 = some res2654 ∧ fr = [(0,.sl 0 58 0 x2291.length),(1,VI x2289),(5,VI x2290)] ∧ σ = [(0,.vec 58 (x2291.map (encServer true)))]) (gh_pk [0,1,5] [0] hB e e e e) ⟨_,_,_,h,e,e⟩ ?_
  rintro m2654 fr σ ⟨x2289,x2290,x2291,h,rfl,rfl⟩
  obtain _ | m2654 := m2654
  ·rw [laws_markServerS_l1] at h; cases h
  rw [laws_markServerS_l1] at h
  refine Run.seq (.so hm (.p3 e e e (.p e (.nil (.condO e h (fun g2657 h => ?_) (fun g2657 h => ?_))))))
  ·refine Run.skip (.seq (.block (.so hm (.p3 e e e ?_))))
   obtain ⟨x2841,hx2841,h⟩ := bindO h
   refine Ops.z 17432 (Ev.iaW e e e hx2841) e e (.p2 e e (.y 17480 (Ev.stE (f := (encServer true)) (v' := ({ x2841 with Node := (Node.mk x2289 x2841.Node.Term x2841.Node.Vote x2841.Node.Role x2841.Node.Lead x2841.Node.Conf x2841.Node.Log x2841.Node.Commit x2841.Node.Clock x2841.Node.Limit x2841.Node.Votes x2841.Node.Peers) })) e e (at_some hx2841).2 e (.d1 .nil) e e e e e) e e (.nil (.so hm (.p3 e e e (.nil (.so hm (.p3 e e e ?_))))))))
   obtain ⟨x2845,hx2845,h⟩ := bindO h
   refine Ops.z 25624 (Ev.iaW e (by simp) e hx2845) e e ?_
   refine Ops.p e (.p e (.y 25672 (Ev.stEs (f := (encServer true)) (v' := ({ x2845 with Node := (Node.mk x2845.Node.Id (w64 (x2289 + 1)) x2845.Node.Vote x2845.Node.Role x2845.Node.Lead x2845.Node.Conf x2845.Node.Log x2845.Node.Commit x2845.Node.Clock x2845.Node.Limit x2845.Node.Votes x2845.Node.Peers) })) (List.set_set _) e e (at_some hx2845).2 e (.d1 .nil) e e e e e) e e (.nil (.so hm (.p3 e e e (.nil (.so hm (.p3 e e e ?_))))))))
   obtain ⟨x2849,hx2849,h⟩ := bindO h
   refine Ops.z 33816 (Ev.iaW e (by simp) e hx2849) e e ?_
   refine Ops.p e (.p e (.y 33864 (Ev.stEs (f := (encServer true)) (v' := ({ x2849 with Node := (Node.mk x2849.Node.Id x2849.Node.Term (w64 ((w64 (x2289 + 1)) + 1)) x2849.Node.Role x2849.Node.Lead x2849.Node.Conf x2849.Node.Log x2849.Node.Commit x2849.Node.Clock x2849.Node.Limit x2849.Node.Votes x2849.Node.Peers) })) (List.set_set _) e e (at_some hx2849).2 e (.d1 .nil) e e e e e) e e (.nil (.so hm (.p3 e e e (.nil (.so hm (.p3 e e e ?_))))))))
   obtain ⟨x2853,hx2853,h⟩ := bindO h
   refine Ops.z 42008 (Ev.iaW e (by simp) e hx2853) e e ?_
   refine Ops.p e (.p e (.y 42056 (Ev.stEs (f := (encServer true)) (v' := ({ x2853 with Node := (Node.mk x2853.Node.Id x2853.Node.Term x2853.Node.Vote (w64 ((w64 ((w64 (x2289 + 1)) + 1)) + 1)) x2853.Node.Lead x2853.Node.Conf x2853.Node.Log x2853.Node.Commit x2853.Node.Clock x2853.Node.Limit x2853.Node.Votes x2853.Node.Peers) })) (List.set_set _) e e (at_some hx2853).2 e (.d1 .nil) e e e e e) e e (.nil (.so hm (.p3 e e e (.nil (.so hm (.p3 e e e ?_))))))))
   obtain ⟨x2857,hx2857,h⟩ := bindO h
   refine Ops.z 50200 (Ev.iaW e (by simp) e hx2857) e e ?_
   refine Ops.p e (.p e (.y 50248 (Ev.stEs (f := (encServer true)) (v' := ({ x2857 with Node := (Node.mk x2857.Node.Id x2857.Node.Term x2857.Node.Vote x2857.Node.Role (w64 ((w64 ((w64 ((w64 (x2289 + 1)) + 1)) + 1)) + 1)) x2857.Node.Conf x2857.Node.Log x2857.Node.Commit x2857.Node.Clock x2857.Node.Limit x2857.Node.Votes x2857.Node.Peers) })) (List.set_set _) e e (at_some hx2857).2 e (.d1 .nil) e e e e e) e e (.nil (.so hm (.p3 e e e (.nil (.seq (Run.gh (Gh.opE (f := (encServer true)) (xs := (x2291.set x2290.toNat ({ x2857 with Node := (Node.mk x2857.Node.Id x2857.Node.Term x2857.Node.Vote x2857.Node.Role (w64 ((w64 ((w64 ((w64 (x2289 + 1)) + 1)) + 1)) + 1)) x2857.Node.Conf x2857.Node.Log x2857.Node.Commit x2857.Node.Clock x2857.Node.Limit x2857.Node.Votes x2857.Node.Peers) }))) (u := ({ x2857 with Node := (Node.mk x2857.Node.Id x2857.Node.Term x2857.Node.Vote x2857.Node.Role (w64 ((w64 ((w64 ((w64 (x2289 + 1)) + 1)) + 1)) + 1)) x2857.Node.Conf x2857.Node.Log x2857.Node.Commit x2857.Node.Clock x2857.Node.Limit x2857.Node.Votes x2857.Node.Peers) })) 0 5 40000242 e (set_at (at_some hx2841).2) e e (Nat.le_trans hm (by decide))) ?_))))))))
   refine Run.ops hm (.p2 e e ?_)
   obtain ⟨x2869,hx2869,h⟩ := bindO h
   refine Ops.z 58376 (Ev.iaW e (by simp) e hx2869) e e ?_
   refine Ops.p e (.p e (.z 58424 (Ev.ldL1 e e e e e) e e (.p e ?_)))
   obtain ⟨y2870,hy2870,h⟩ := bindO h
   obtain ⟨y2871,hy2871,h⟩ := bindO h
   refine Ops.z 58456 (Ev.call [40000242] [] 0 (sem_laws_markIntS _ _ _ _ hy2870) e e (.cons (.sl e) (.d1 .nil)) e (.inl e) e e) e e (.p e (.nil (.seq (Run.gh (Gh.clL 0 5 40000242 e e e e) (Run.gh (Gh.unEs (f := (encServer true)) (xs := (x2291.set x2290.toNat ({ x2857 with Node := (Node.mk x2857.Node.Id x2857.Node.Term x2857.Node.Vote x2857.Node.Role (w64 ((w64 ((w64 ((w64 (x2289 + 1)) + 1)) + 1)) + 1)) x2857.Node.Conf x2857.Node.Log x2857.Node.Commit x2857.Node.Clock x2857.Node.Limit x2857.Node.Votes x2857.Node.Peers) }))) 0 ({ x2857 with Node := (Node.mk x2857.Node.Id x2857.Node.Term x2857.Node.Vote x2857.Node.Role (w64 ((w64 ((w64 ((w64 (x2289 + 1)) + 1)) + 1)) + 1)) y2870.2 x2857.Node.Log x2857.Node.Commit x2857.Node.Clock x2857.Node.Limit x2857.Node.Votes x2857.Node.Peers) }) (List.set_set _) e e) (.ops hm (.p3 e e e ?_)))))))
   obtain ⟨x2877,hx2877,h⟩ := bindO h
   refine Ops.z 62488 (Ev.iaW e (by simp) e hx2877) e e ?_
   refine Ops.p e (.p2 e e (.y 62552 (Ev.stEs (f := (encServer true)) (v' := ({ x2877 with Node := (Node.mk x2877.Node.Id x2877.Node.Term x2877.Node.Vote x2877.Node.Role x2877.Node.Lead x2877.Node.Conf (Log.mk y2870.1 x2877.Node.Log.StartTerm x2877.Node.Log.Entries) x2877.Node.Commit x2877.Node.Clock x2877.Node.Limit x2877.Node.Votes x2877.Node.Peers) })) (List.set_set _) e e (at_some hx2877).2 e (.d1 .nil) e e e e e) e e (.nil (.so hm (.p3 e e e (.nil (.so hm (.p3 e e e ?_))))))))
   obtain ⟨x2881,hx2881,h⟩ := bindO h
   refine Ops.z 70680 (Ev.iaW e (by simp) e hx2881) e e ?_
   refine Ops.p e (.p2 e e (.y 70744 (Ev.stEs (f := (encServer true)) (v' := ({ x2881 with Node := (Node.mk x2881.Node.Id x2881.Node.Term x2881.Node.Vote x2881.Node.Role x2881.Node.Lead x2881.Node.Conf (Log.mk x2881.Node.Log.Start (w64 (y2870.1 + 1)) x2881.Node.Log.Entries) x2881.Node.Commit x2881.Node.Clock x2881.Node.Limit x2881.Node.Votes x2881.Node.Peers) })) (List.set_set _) e e (at_some hx2881).2 e (.d1 .nil) e e e e e) e e (.nil (.so hm (.p3 e e e (.nil (.seq (Run.gh (Gh.opE (f := (encServer true)) (xs := (x2291.set x2290.toNat ({ x2881 with Node := (Node.mk x2881.Node.Id x2881.Node.Term x2881.Node.Vote x2881.Node.Role x2881.Node.Lead x2881.Node.Conf (Log.mk x2881.Node.Log.Start (w64 (y2870.1 + 1)) x2881.Node.Log.Entries) x2881.Node.Commit x2881.Node.Clock x2881.Node.Limit x2881.Node.Votes x2881.Node.Peers) }))) (u := ({ x2881 with Node := (Node.mk x2881.Node.Id x2881.Node.Term x2881.Node.Vote x2881.Node.Role x2881.Node.Lead x2881.Node.Conf (Log.mk x2881.Node.Log.Start (w64 (y2870.1 + 1)) x2881.Node.Log.Entries) x2881.Node.Commit x2881.Node.Clock x2881.Node.Limit x2881.Node.Votes x2881.Node.Peers) })) 0 8 40000244 e (set_at (at_some hx2841).2) e e (Nat.le_trans hm (by decide))) ?_))))))))
   refine Run.ops hm (.p2 e e ?_)
   obtain ⟨x2890,hx2890,h⟩ := bindO h
   refine Ops.z 78856 (Ev.iaW e (by simp) e hx2890) e e ?_
   refine Ops.p e (.p2 e e (.z 78920 (Ev.ldL1 e e e e e) e e (.p e ?_)))
   obtain ⟨y2891,hy2891,h⟩ := bindO h
   refine Ops.z 78952 (Ev.call [] [40000244] 0 (sem_laws_markEntryS _ _ _ _ hy2891) e e (.cons (.borrow e (by decide) (lendW (fun _ => e) _ e)) (.d1 .nil)) e (.inr ⟨e,ownL_root trivial⟩) e e) e e ?_
   refine Ops.p e (.nil (.seq (Run.gh (Gh.clL 0 8 40000244 e e e e) (Run.gh (Gh.unEs (f := (encServer true)) (xs := (x2291.set x2290.toNat ({ x2881 with Node := (Node.mk x2881.Node.Id x2881.Node.Term x2881.Node.Vote x2881.Node.Role x2881.Node.Lead x2881.Node.Conf (Log.mk x2881.Node.Log.Start (w64 (y2870.1 + 1)) x2881.Node.Log.Entries) x2881.Node.Commit x2881.Node.Clock x2881.Node.Limit x2881.Node.Votes x2881.Node.Peers) }))) 0 ({ x2881 with Node := (Node.mk x2881.Node.Id x2881.Node.Term x2881.Node.Vote x2881.Node.Role x2881.Node.Lead x2881.Node.Conf (Log.mk x2881.Node.Log.Start (w64 (y2870.1 + 1)) x2881.Node.Log.Entries) x2881.Node.Commit x2881.Node.Clock x2881.Node.Limit x2881.Node.Votes x2881.Node.Peers) }) (List.set_set _) e e) (.ops hm (.p3 e e e ?_))))))
   obtain ⟨x2897,hx2897,h⟩ := bindO h
   refine Ops.z 82968 (Ev.iaW e (by simp) e hx2897) e e ?_
   refine Ops.p e (.p e (.y 83016 (Ev.stEs (f := (encServer true)) (v' := ({ x2897 with Node := (Node.mk x2897.Node.Id x2897.Node.Term x2897.Node.Vote x2897.Node.Role x2897.Node.Lead x2897.Node.Conf x2897.Node.Log y2891 x2897.Node.Clock x2897.Node.Limit x2897.Node.Votes x2897.Node.Peers) })) (List.set_set _) e e (at_some hx2897).2 e (.d1 .nil) e e e e e) e e (.nil (.so hm (.p3 e e e (.nil (.so hm (.p3 e e e ?_))))))))
   obtain ⟨x2901,hx2901,h⟩ := bindO h
   refine Ops.z 91160 (Ev.iaW e (by simp) e hx2901) e e ?_
   refine Ops.p e (.p e (.y 91208 (Ev.stEs (f := (encServer true)) (v' := ({ x2901 with Node := (Node.mk x2901.Node.Id x2901.Node.Term x2901.Node.Vote x2901.Node.Role x2901.Node.Lead x2901.Node.Conf x2901.Node.Log x2901.Node.Commit (w64 (y2891 + 1)) x2901.Node.Limit x2901.Node.Votes x2901.Node.Peers) })) (List.set_set _) e e (at_some hx2901).2 e (.d1 .nil) e e e e e) e e (.nil (.so hm (.p3 e e e (.nil (.so hm (.p3 e e e ?_))))))))
   obtain ⟨x2905,hx2905,h⟩ := bindO h
   refine Ops.z 99352 (Ev.iaW e (by simp) e hx2905) e e ?_
   refine Ops.p e (.p e (.y 99400 (Ev.stEs (f := (encServer true)) (v' := ({ x2905 with Node := (Node.mk x2905.Node.Id x2905.Node.Term x2905.Node.Vote x2905.Node.Role x2905.Node.Lead x2905.Node.Conf x2905.Node.Log x2905.Node.Commit x2905.Node.Clock (w64 ((w64 (y2891 + 1)) + 1)) x2905.Node.Votes x2905.Node.Peers) })) (List.set_set _) e e (at_some hx2905).2 e (.d1 .nil) e e e e e) e e (.nil (.so hm (.p3 e e e (.nil (.seq (Run.gh (Gh.opE (f := (encServer true)) (xs := (x2291.set x2290.toNat ({ x2905 with Node := (Node.mk x2905.Node.Id x2905.Node.Term x2905.Node.Vote x2905.Node.Role x2905.Node.Lead x2905.Node.Conf x2905.Node.Log x2905.Node.Commit x2905.Node.Clock (w64 ((w64 (y2891 + 1)) + 1)) x2905.Node.Votes x2905.Node.Peers) }))) (u := ({ x2905 with Node := (Node.mk x2905.Node.Id x2905.Node.Term x2905.Node.Vote x2905.Node.Role x2905.Node.Lead x2905.Node.Conf x2905.Node.Log x2905.Node.Commit x2905.Node.Clock (w64 ((w64 (y2891 + 1)) + 1)) x2905.Node.Votes x2905.Node.Peers) })) 0 12 40000246 e (set_at (at_some hx2841).2) e e (Nat.le_trans hm (by decide))) ?_))))))))
   refine Run.ops hm (.p2 e e ?_)
   obtain ⟨x2917,hx2917,h⟩ := bindO h
   refine Ops.z 107528 (Ev.iaW e (by simp) e hx2917) e e ?_
   refine Ops.p e (.p e (.z 107576 (Ev.ldL1 e e e e e) e e (.p e ?_)))
   obtain ⟨y2918,hy2918,h⟩ := bindO h
   obtain ⟨y2919,hy2919,h⟩ := bindO h
   refine Ops.z 107608 (Ev.call [40000246] [] 0 (sem_laws_markIntS _ _ _ _ hy2918) e e (.cons (.sl e) (.d1 .nil)) e (.inl e) e e) e e (.p e (.nil (.seq (Run.gh (Gh.opL 0 13 40000248 e e e (Nat.le_trans hm (by decide))) ?_))))
   refine Run.ops hm (.p2 e e ?_)
   obtain ⟨x2928,hx2928,h⟩ := bindO h
   refine Ops.z 111624 (Ev.iaW e (by simp) e hx2928) e e ?_
   refine Ops.p e (.p e (.z 111672 (Ev.ldL1 e e e e e) e e (.p e ?_)))
   obtain ⟨y2929,hy2929,h⟩ := bindO h
   refine Ops.z 111704 (Ev.call [] [40000248] 0 (sem_laws_markPeerS _ _ _ _ hy2929) e e (.cons (.borrow e (by decide) (lendW (fun _ => e) _ e)) (.d1 .nil)) e (.inr ⟨e,ownL_root trivial⟩) e e) e e ?_
   refine Ops.p e (.nil (.seq (Run.gh (Gh.opL 0 14 40000250 e e e (Nat.le_trans hm (by decide))) ?_)))
   refine Run.ops hm (.p2 e e ?_)
   obtain ⟨x2941,hx2941,h⟩ := bindO h
   refine Ops.z 115720 (Ev.iaW e (by simp) e hx2941) e e ?_
   refine Ops.p e (.p e (.z 115768 (Ev.ldL1 e e e e e) e e (.p e ?_)))
   obtain ⟨y2942,hy2942,h⟩ := bindO h
   obtain ⟨y2943,hy2943,h⟩ := bindO h
   refine Ops.z 115800 (Ev.call [40000250] [] 0 (sem_laws_markFileS _ _ _ _ hy2942) e e (.cons (.sl e) (.d1 .nil)) e (.inl e) e e) e e (.p e (.nil (.seq (Run.gh (Gh.opL 0 15 40000252 e e e (Nat.le_trans hm (by decide))) ?_))))
   refine Run.ops hm (.p2 e e ?_)
   obtain ⟨x2955,hx2955,h⟩ := bindO h
   refine Ops.z 119816 (Ev.iaW e (by simp) e hx2955) e e ?_
   refine Ops.p e (.p2 e e (.z 119880 (Ev.ldL1 e e e e e) e e (.p e ?_)))
   obtain ⟨y2956,hy2956,h⟩ := bindO h
   obtain ⟨y2957,hy2957,h⟩ := bindO h
   refine Ops.z 119912 (Ev.call [40000252] [] 0 (sem_laws_markIntS _ _ _ _ hy2956) e e (.cons (.sl e) (.d1 .nil)) e (.inl e) e e) e e (.p e (.nil (.seq (Run.gh (Gh.clL 0 12 40000246 e e e e) (Run.gh (Gh.clL 0 13 40000248 e e e e) (Run.gh (Gh.clL 0 14 40000250 e e e e) (Run.gh (Gh.clL 0 15 40000252 e e e e) (Run.gh (Gh.unEs (f := (encServer true)) (xs := (x2291.set x2290.toNat ({ x2905 with Node := (Node.mk x2905.Node.Id x2905.Node.Term x2905.Node.Vote x2905.Node.Role x2905.Node.Lead x2905.Node.Conf x2905.Node.Log x2905.Node.Commit x2905.Node.Clock (w64 ((w64 (y2891 + 1)) + 1)) x2905.Node.Votes x2905.Node.Peers) }))) 0 ({ x2905 with Node := (Node.mk x2905.Node.Id x2905.Node.Term x2905.Node.Vote x2905.Node.Role x2905.Node.Lead x2905.Node.Conf x2905.Node.Log x2905.Node.Commit x2905.Node.Clock (w64 ((w64 (y2891 + 1)) + 1)) y2918.2 x2905.Node.Peers),Disk := (Disk.mk y2942.2),Shelf := (Shelf.mk (Manifest.mk y2956.2 x2905.Shelf.Man.Next x2905.Shelf.Man.Base x2905.Shelf.Man.BaseTerm x2905.Shelf.Man.Conf) x2905.Shelf.Dir x2905.Shelf.Stamp) }) (List.set_set _) e e) (.ops hm (.p3 e e e ?_))))))))))
   obtain ⟨x2963,hx2963,h⟩ := bindO h
   refine Ops.z 123928 (Ev.iaW e (by simp) e hx2963) e e ?_
   refine Ops.p e (.p2 e e (.y 123992 (Ev.stEs (f := (encServer true)) (v' := ({ x2963 with Shelf := (Shelf.mk (Manifest.mk x2963.Shelf.Man.Segs y2956.1 x2963.Shelf.Man.Base x2963.Shelf.Man.BaseTerm x2963.Shelf.Man.Conf) x2963.Shelf.Dir x2963.Shelf.Stamp) })) (List.set_set _) e e (at_some hx2963).2 e (.d1 .nil) e e e e e) e e (.nil (.so hm (.p3 e e e (.nil (.so hm (.p3 e e e ?_))))))))
   obtain ⟨x2967,hx2967,h⟩ := bindO h
   refine Ops.z 132120 (Ev.iaW e (by simp) e hx2967) e e ?_
   refine Ops.p e (.p2 e e (.y 132184 (Ev.stEs (f := (encServer true)) (v' := ({ x2967 with Shelf := (Shelf.mk (Manifest.mk x2967.Shelf.Man.Segs x2967.Shelf.Man.Next (w64 (y2956.1 + 1)) x2967.Shelf.Man.BaseTerm x2967.Shelf.Man.Conf) x2967.Shelf.Dir x2967.Shelf.Stamp) })) (List.set_set _) e e (at_some hx2967).2 e (.d1 .nil) e e e e e) e e (.nil (.so hm (.p3 e e e (.nil (.so hm (.p3 e e e ?_))))))))
   obtain ⟨x2971,hx2971,h⟩ := bindO h
   refine Ops.z 140312 (Ev.iaW e (by simp) e hx2971) e e ?_
   refine Ops.p e (.p2 e e (.y 140376 (Ev.stEs (f := (encServer true)) (v' := ({ x2971 with Shelf := (Shelf.mk (Manifest.mk x2971.Shelf.Man.Segs x2971.Shelf.Man.Next x2971.Shelf.Man.Base (w64 ((w64 (y2956.1 + 1)) + 1)) x2971.Shelf.Man.Conf) x2971.Shelf.Dir x2971.Shelf.Stamp) })) (List.set_set _) e e (at_some hx2971).2 e (.d1 .nil) e e e e e) e e (.nil (.so hm (.p3 e e e (.nil (.seq (Run.gh (Gh.opE (f := (encServer true)) (xs := (x2291.set x2290.toNat ({ x2971 with Shelf := (Shelf.mk (Manifest.mk x2971.Shelf.Man.Segs x2971.Shelf.Man.Next x2971.Shelf.Man.Base (w64 ((w64 (y2956.1 + 1)) + 1)) x2971.Shelf.Man.Conf) x2971.Shelf.Dir x2971.Shelf.Stamp) }))) (u := ({ x2971 with Shelf := (Shelf.mk (Manifest.mk x2971.Shelf.Man.Segs x2971.Shelf.Man.Next x2971.Shelf.Man.Base (w64 ((w64 (y2956.1 + 1)) + 1)) x2971.Shelf.Man.Conf) x2971.Shelf.Dir x2971.Shelf.Stamp) })) 0 19 40000254 e (set_at (at_some hx2841).2) e e (Nat.le_trans hm (by decide))) ?_))))))))
   refine Run.ops hm (.p2 e e ?_)
   obtain ⟨x2983,hx2983,h⟩ := bindO h
   refine Ops.z 148488 (Ev.iaW e (by simp) e hx2983) e e ?_
   refine Ops.p e (.p2 e e (.z 148552 (Ev.ldL1 e e e e e) e e (.p e ?_)))
   obtain ⟨y2984,hy2984,h⟩ := bindO h
   obtain ⟨y2985,hy2985,h⟩ := bindO h
   refine Ops.z 148584 (Ev.call [40000254] [] 0 (sem_laws_markIntS _ _ _ _ hy2984) e e (.cons (.sl e) (.d1 .nil)) e (.inl e) e e) e e (.p e (.nil (.seq (Run.gh (Gh.opL 0 20 40000256 e e e (Nat.le_trans hm (by decide))) ?_))))
   refine Run.ops hm (.p2 e e ?_)
   obtain ⟨x2994,hx2994,h⟩ := bindO h
   refine Ops.z 152584 (Ev.iaW e (by simp) e hx2994) e e ?_
   refine Ops.p e (.p e (.z 152632 (Ev.ldL1 e e e e e) e e (.p e ?_)))
   obtain ⟨y2995,hy2995,h⟩ := bindO h
   refine Ops.z 152664 (Ev.call [] [40000256] 0 (sem_laws_markSpotS _ _ _ _ hy2995) e e (.cons (.borrow e (by decide) (lendW (fun _ => e) _ e)) (.d1 .nil)) e (.inr ⟨e,ownL_root trivial⟩) e e) e e ?_
   refine Ops.p e (.nil (.seq (Run.gh (Gh.clL 0 19 40000254 e e e e) (Run.gh (Gh.clL 0 20 40000256 e e e e) (Run.gh (Gh.unEs (f := (encServer true)) (xs := (x2291.set x2290.toNat ({ x2971 with Shelf := (Shelf.mk (Manifest.mk x2971.Shelf.Man.Segs x2971.Shelf.Man.Next x2971.Shelf.Man.Base (w64 ((w64 (y2956.1 + 1)) + 1)) x2971.Shelf.Man.Conf) x2971.Shelf.Dir x2971.Shelf.Stamp) }))) 0 ({ x2971 with Shelf := (Shelf.mk (Manifest.mk x2971.Shelf.Man.Segs x2971.Shelf.Man.Next x2971.Shelf.Man.Base (w64 ((w64 (y2956.1 + 1)) + 1)) y2984.2) x2971.Shelf.Dir x2971.Shelf.Stamp) }) (List.set_set _) e e) (.ops hm (.p3 e e e ?_)))))))
   obtain ⟨x3001,hx3001,h⟩ := bindO h
   refine Ops.z 156696 (Ev.iaW e (by simp) e hx3001) e e ?_
   refine Ops.p e (.p e (.y 156744 (Ev.stEs (f := (encServer true)) (v' := ({ x3001 with Shelf := (Shelf.mk x3001.Shelf.Man x3001.Shelf.Dir y2995) })) (List.set_set _) e e (at_some hx3001).2 e (.d1 .nil) e e e e e) e e (.nil (.so hm (.p3 e e e (.nil (.so hm (.p3 e e e ?_))))))))
   obtain ⟨y3008,hy3008,h⟩ := bindO h
   refine Ops.z 164888 (Ev.call [] [] 0 (sem_laws_markText _ _ _ hy3008) e e (.d1 .nil) e (.inl e) e e) e e ?_
   obtain ⟨x3009,hx3009,h⟩ := bindO h
   refine Ops.z 164904 (Ev.iaW e (by simp) e hx3009) e e ?_
   refine Ops.p e (.y 164936 (Ev.stEs (f := (encServer true)) (v' := ({ x3009 with Stage := y3008 })) (List.set_set _) e e (at_some hx3009).2 e (.d1 .nil) e e e e e) e e (.nil (.so hm (.p3 e e e (.nil (.so hm (.p3 e e e ?_)))))))
   obtain ⟨x3013,hx3013,h⟩ := bindO h
   refine Ops.z 173080 (Ev.iaW e (by simp) e hx3013) e e ?_
   refine Ops.p e (.y 173112 (Ev.stEs (f := (encServer true)) (v' := ({ x3013 with StageAt := w64 ((w64 (y2995 + 1)) + 1) })) (List.set_set _) e e (at_some hx3013).2 e (.d1 .nil) e e e e e) e e (.nil (.so hm (.p3 e e e (.nil (.so hm (.p3 e e e ?_)))))))
   obtain ⟨x3017,hx3017,h⟩ := bindO h
   refine Ops.z 181272 (Ev.iaW e (by simp) e hx3017) e e ?_
   exact Ops.p e (.y 181304 (Ev.stEs (f := (encServer true)) (v' := ({ x3017 with StageTerm := w64 ((w64 ((w64 (y2995 + 1)) + 1)) + 1) })) (List.set_set _) e e (at_some hx3017).2 e (.d1 .nil) e e e e e) e e (.nil (.ops hm (.p3 e e e (.nil (.ops hm (.p3 e e e (.nil (⟨m2654,Nat.lt_succ_self m2654,_,_,(gh_pk [0,1,5] [0] hB e e (by first | rfl | (simp only [List.length_set]; done) | (simp only [List.length_set]; rfl)) (by first | rfl | (simp only [List.length_set]; done) | (simp only [List.length_set]; rfl))),_,_,_,h,e,e⟩)))))))))
  ·refine Run.exit ?_
   obtain rfl := someO h
   have h := hk2654
   exact ⟨_,_,(gh_pk [1] [0] hB e e e e),_,h,e,e⟩
 ·refine Run.so hm (.p2 e e (.nil (.ret ?_)))
  obtain rfl := someO h
  exact Ends.mkG (.inl e) e (gh_pk [0] [0] hB e e e e) e e
def laws_markMessageS_l1 (N : Nat) (x1 : (List Message)) : Nat → Option (Unit)
 | 0 => none
 | m + 1 =>
 (if (decide (0 < (x1.length : Int))) = true then
 none
 else
 some ())
def laws_markMessageS (N : Nat) (x1 : (List Message)) (x2 : Int) : Option (Int) :=
 joinP (fun (v128 : Unit) =>
 some x2) fun j128 =>
 (laws_markMessageS_l1 N x1 N).bind (fun v134 => j128 ())
theorem sem_laws_markMessageS (N : Nat) (x1 : (List Message)) (x2 : Int) (r : Int) (h : laws_markMessageS N x1 x2 = some r) : Says Tryz.prog 27 [RO 102 (x1.map (encMessage false)),VI x2] 0 [] (VI r) [] := by
 unfold laws_markMessageS at h
 refine Says.of_norm e Tryz.call27 e fun B hB => ?_
 have hm : B.m ≤ 1000 := by omega
 refine Run.so hm (.p e (.nil (.seqO h (fun v128 => [(1,VI x2)]) (fun (v128 : Unit) => []) (fun h => ?_) (fun v128 h => ?_))))
 ·refine Run.so hm (.p e (.nil (.block ?_)))
  obtain ⟨res134,h,hk134⟩ := bindO h
  refine Run.loop (n := N) (fun m134 fr σ => laws_markMessageS_l1 N x1 m134 = some res134 ∧ fr = [(0,RO 102 (x1.map (encMessage false))),(1,VI x2),(5,VI 0)] ∧ σ = []) (gh_pk [0,1,5] [] hB e e e e) ⟨h,e,e⟩ ?_
  rintro m134 fr σ ⟨h,rfl,rfl⟩
  obtain _ | m134 := m134
  ·rw [laws_markMessageS_l1] at h; cases h
  rw [laws_markMessageS_l1] at h
  refine Run.seq (.so hm (.p2 e e (.z 9224 (Ev.lnF e) e e (.p e (.nil (.condO e h (fun g137 h => ?_) (fun g137 h => ?_)))))))
  ·exact noO h
  ·refine Run.exit ?_
   obtain rfl := someO h
   have h := hk134
   exact ⟨_,_,(gh_pk [1] [] hB e e e e),(),h,e,e⟩
 ·refine Run.so hm (.p2 e e (.nil (.ret ?_)))
  obtain rfl := someO h
  exact Ends.mkG (.inl e) e (gh_pk [0] [] hB e e e e) e e
def laws_markWaitS_l1 (N : Nat) (x1 : (List Wait)) : Nat → Option (Unit)
 | 0 => none
 | m + 1 =>
 (if (decide (0 < (x1.length : Int))) = true then
 none
 else
 some ())
def laws_markWaitS (N : Nat) (x1 : (List Wait)) (x2 : Int) : Option (Int) :=
 joinP (fun (v128 : Unit) =>
 some x2) fun j128 =>
 (laws_markWaitS_l1 N x1 N).bind (fun v134 => j128 ())
theorem sem_laws_markWaitS (N : Nat) (x1 : (List Wait)) (x2 : Int) (r : Int) (h : laws_markWaitS N x1 x2 = some r) : Says Tryz.prog 28 [RO 105 (x1.map encWait),VI x2] 0 [] (VI r) [] := by
 unfold laws_markWaitS at h
 refine Says.of_norm e Tryz.call28 e fun B hB => ?_
 have hm : B.m ≤ 1000 := by omega
 refine Run.so hm (.p e (.nil (.seqO h (fun v128 => [(1,VI x2)]) (fun (v128 : Unit) => []) (fun h => ?_) (fun v128 h => ?_))))
 ·refine Run.so hm (.p e (.nil (.block ?_)))
  obtain ⟨res134,h,hk134⟩ := bindO h
  refine Run.loop (n := N) (fun m134 fr σ => laws_markWaitS_l1 N x1 m134 = some res134 ∧ fr = [(0,RO 105 (x1.map encWait)),(1,VI x2),(5,VI 0)] ∧ σ = []) (gh_pk [0,1,5] [] hB e e e e) ⟨h,e,e⟩ ?_
  rintro m134 fr σ ⟨h,rfl,rfl⟩
  obtain _ | m134 := m134
  ·rw [laws_markWaitS_l1] at h; cases h
  rw [laws_markWaitS_l1] at h
  refine Run.seq (.so hm (.p2 e e (.z 9224 (Ev.lnF e) e e (.p e (.nil (.condO e h (fun g137 h => ?_) (fun g137 h => ?_)))))))
  ·exact noO h
  ·refine Run.exit ?_
   obtain rfl := someO h
   have h := hk134
   exact ⟨_,_,(gh_pk [1] [] hB e e e e),(),h,e,e⟩
 ·refine Run.so hm (.p2 e e (.nil (.ret ?_)))
  obtain rfl := someO h
  exact Ends.mkG (.inl e) e (gh_pk [0] [] hB e e e e) e e
def laws_markLeaderS_l1 (N : Nat) (x1 : (List Leader)) : Nat → Option (Unit)
 | 0 => none
 | m + 1 =>
 (if (decide (0 < (x1.length : Int))) = true then
 none
 else
 some ())
def laws_markLeaderS (N : Nat) (x1 : (List Leader)) (x2 : Int) : Option (Int) :=
 joinP (fun (v128 : Unit) =>
 some x2) fun j128 =>
 (laws_markLeaderS_l1 N x1 N).bind (fun v134 => j128 ())
theorem sem_laws_markLeaderS (N : Nat) (x1 : (List Leader)) (x2 : Int) (r : Int) (h : laws_markLeaderS N x1 x2 = some r) : Says Tryz.prog 29 [RO 108 (x1.map (encLeader false)),VI x2] 0 [] (VI r) [] := by
 unfold laws_markLeaderS at h
 refine Says.of_norm e Tryz.call29 e fun B hB => ?_
 have hm : B.m ≤ 1000 := by omega
 refine Run.so hm (.p e (.nil (.seqO h (fun v128 => [(1,VI x2)]) (fun (v128 : Unit) => []) (fun h => ?_) (fun v128 h => ?_))))
 ·refine Run.so hm (.p e (.nil (.block ?_)))
  obtain ⟨res134,h,hk134⟩ := bindO h
  refine Run.loop (n := N) (fun m134 fr σ => laws_markLeaderS_l1 N x1 m134 = some res134 ∧ fr = [(0,RO 108 (x1.map (encLeader false))),(1,VI x2),(5,VI 0)] ∧ σ = []) (gh_pk [0,1,5] [] hB e e e e) ⟨h,e,e⟩ ?_
  rintro m134 fr σ ⟨h,rfl,rfl⟩
  obtain _ | m134 := m134
  ·rw [laws_markLeaderS_l1] at h; cases h
  rw [laws_markLeaderS_l1] at h
  refine Run.seq (.so hm (.p2 e e (.z 9224 (Ev.lnF e) e e (.p e (.nil (.condO e h (fun g137 h => ?_) (fun g137 h => ?_)))))))
  ·exact noO h
  ·refine Run.exit ?_
   obtain rfl := someO h
   have h := hk134
   exact ⟨_,_,(gh_pk [1] [] hB e e e e),(),h,e,e⟩
 ·refine Run.so hm (.p2 e e (.nil (.ret ?_)))
  obtain rfl := someO h
  exact Ends.mkG (.inl e) e (gh_pk [0] [] hB e e e e) e e
def laws_markAppliedS_l1 (N : Nat) (x1 : (List Applied)) : Nat → Option (Unit)
 | 0 => none
 | m + 1 =>
 (if (decide (0 < (x1.length : Int))) = true then
 none
 else
 some ())
def laws_markAppliedS (N : Nat) (x1 : (List Applied)) (x2 : Int) : Option (Int) :=
 joinP (fun (v128 : Unit) =>
 some x2) fun j128 =>
 (laws_markAppliedS_l1 N x1 N).bind (fun v134 => j128 ())
theorem sem_laws_markAppliedS (N : Nat) (x1 : (List Applied)) (x2 : Int) (r : Int) (h : laws_markAppliedS N x1 x2 = some r) : Says Tryz.prog 30 [RO 113 (x1.map encApplied),VI x2] 0 [] (VI r) [] := by
 unfold laws_markAppliedS at h
 refine Says.of_norm e Tryz.call30 e fun B hB => ?_
 have hm : B.m ≤ 1000 := by omega
 refine Run.so hm (.p e (.nil (.seqO h (fun v128 => [(1,VI x2)]) (fun (v128 : Unit) => []) (fun h => ?_) (fun v128 h => ?_))))
 ·refine Run.so hm (.p e (.nil (.block ?_)))
  obtain ⟨res134,h,hk134⟩ := bindO h
  refine Run.loop (n := N) (fun m134 fr σ => laws_markAppliedS_l1 N x1 m134 = some res134 ∧ fr = [(0,RO 113 (x1.map encApplied)),(1,VI x2),(5,VI 0)] ∧ σ = []) (gh_pk [0,1,5] [] hB e e e e) ⟨h,e,e⟩ ?_
  rintro m134 fr σ ⟨h,rfl,rfl⟩
  obtain _ | m134 := m134
  ·rw [laws_markAppliedS_l1] at h; cases h
  rw [laws_markAppliedS_l1] at h
  refine Run.seq (.so hm (.p2 e e (.z 9224 (Ev.lnF e) e e (.p e (.nil (.condO e h (fun g137 h => ?_) (fun g137 h => ?_)))))))
  ·exact noO h
  ·refine Run.exit ?_
   obtain rfl := someO h
   have h := hk134
   exact ⟨_,_,(gh_pk [1] [] hB e e e e),(),h,e,e⟩
 ·refine Run.so hm (.p2 e e (.nil (.ret ?_)))
  obtain rfl := someO h
  exact Ends.mkG (.inl e) e (gh_pk [0] [] hB e e e e) e e
end Go.Proofs.YteiimlnnaioocaaGreatDoor.Pe.FnExactWorldNew
