/- Functions,as pure functions; and that Go does just that. -/
import Derived.Test.YtmnoonjkiflonaaGreatDoorPeFFnExactReadScript6
namespace Go.Proofs.YtmnoonjkiflonaaGreatDoor.Pe.FnExactReadScript
open Go Go.RowKit
set_option linter.unusedVariables false
set_option linter.unusedSimpArgs false
set_option maxHeartbeats 40000000
set_option maxRecDepth 100000
def impl_WorldNew_l1 (N : Nat) (x1 : Int) (y252 : Disk × Bool) : Nat → Int → (List Bool) → (List Server) → Option ((List Bool) × (List Server))
 | 0,_,_,_ => none
 | m + 1,x336,x345,x346 =>
 (if (decide (x336 ≤ x1)) = true then
 (impl_Boot N x336 y252.1 20).bind fun y391 =>
 (cat? x345 ([true] : List Bool)).bind fun x395 =>
 (cat? x346 ([y391.1] : List Server)).bind fun x397 =>
 impl_WorldNew_l1 N x1 y252 m (w64 (x336 + 1)) x395 x397
 else
 some (x345,x346))
def impl_WorldNew (N : Nat) (x1 : Int) (x2 : (List Int)) : Option (World × Bool) :=
 (impl_FormatDisk N x2).bind fun y252 =>
 (if (!y252.2) = true then
 some ((World.mk ([]) ([]) ([]) ([]) ([]) ([]) ([])),false)
 else
 (impl_within N x1 1 4).bind fun y267 =>
 (if (!y267) = true then
 some ((World.mk ([]) ([]) ([]) ([]) ([]) ([]) ([])),false)
 else
 (at? x2 (w64 ((x2.length : Int) - 1))).bind fun x269 =>
 (if (decide (x269 > x1)) = true then
 some ((World.mk ([]) ([]) ([]) ([]) ([]) ([]) ([])),false)
 else
 joinP (fun (v334 : (List Bool) × (List Server)) =>
 some ((World.mk v334.1 v334.2 ([] : (List Message)) ([] : (List Wait)) ([] : (List Leader)) ([] : (List Applied)) ([] : (List Reply))),true)) fun j334 =>
 (impl_WorldNew_l1 N x1 y252 N 1 ([] : (List Bool)) ([] : (List Server))).bind (fun v374 => j334 (v374.1,v374.2)))))
theorem sem_impl_WorldNew (N : Nat) (x1 : Int) (x2 : (List Int)) (r : World × Bool) (h : impl_WorldNew N x1 x2 = some r) : Says Tryz.prog 40 [VI x1,RO 3 (x2.map encI)] 0 [] (.tup [.agg [.sl 0 4 0 r.1.Up.length,.sl 1 83 0 r.1.Servers.length,.sl 2 312 0 r.1.Net.length,.sl 3 314 0 r.1.Waits.length,.sl 4 316 0 r.1.Leaders.length,.sl 5 318 0 r.1.Applied.length,.sl 6 320 0 r.1.Replies.length],VB r.2]) [(0,.vec 4 (r.1.Up.map encB)),(1,.vec 83 (r.1.Servers.map (encServer true))),(2,.vec 312 (r.1.Net.map (encMessage true))),(3,.vec 314 (r.1.Waits.map encWait)),(4,.vec 316 (r.1.Leaders.map (encLeader true))),(5,.vec 318 (r.1.Applied.map encApplied)),(6,.vec 320 (r.1.Replies.map encReply))] := by
 unfold impl_WorldNew at h
 refine Says.of_norm e Tryz.call40 e fun B hB => ?_
 have hm : B.m ≤ 1000 := by omega
 refine Run.so hm (.z 1000 (.al e e) e e (.p e (.nil (.so hm (.p e ?_)))))
 obtain ⟨y252,hy252,h⟩ := bindO h
 refine Ops.z 5112 (Ev.call [] [] 1 (sem_impl_FormatDisk _ _ _ hy252) e e (.d1 .nil) e (.inl e) e e) e e (.p3 e e e (.z 5176 (.al e e) e e (.y 5192 (.sto e e e e e e) e e (.p e (.nil (.seq (.so hm (.p3 e e e (.askO (x := .t 20) e h (fun g266 h => ?_) (fun g266 h => ?_))))))))))
 ·refine Ops.gn e g266 (.gn e g266 (.gn e g266 (.z 9288 (.pkT e g266 e) e e (.p e (.gn e e (.gn e e (.gn e e (.gn e e (.gn e e (.gn e e (.gn e e (.gn e e (.z 9448 (.pkT e e e) e e (.nil (.condT e e (.so hm (.z 13288 (.bd e e) e e (.y 13304 (.sto e e e e e e) e e (.p e (.nil (.ret ?_)))))))))))))))))))))
  obtain rfl := someO h
  exact Ends.mkG (.inl e) e (Gh.trans (Gh.trans (gh_prn [0,1] [] hB e) (gh_nil [0] [] hB e e e)) (gh_pk [0,1] [10000000,10000001,10000002,10000003,10000004,10000005,10000006] hB e e e e)) e e
 ·refine Ops.gp e g266 e ?_
  obtain ⟨y267,hy267,h⟩ := bindO h
  refine Ops.gs (s := 9256) e g266 (Ev.call [] [] 0 (sem_impl_within _ _ _ _ _ hy267) e e (.d2 (.d1 .nil)) e (.inl e) e e) e e (.gp e g266 e (.z 9288 (.pkF e g266 e) e e (.p e (.askO (x := .t 25) e h (fun g268 h => ?_) (fun g268 h => ?_)))))
  ·refine Ops.gn e g268 (.gn e g268 (.gn e g268 (.gn e g268 (.gn e g268 (.gn e g268 (.gn e g268 (.gn e g268 (.z 9448 (.pkT e g268 e) e e (.nil (.condT e e (.so hm (.z 13288 (.bd e e) e e (.y 13304 (.sto e e e e e e) e e (.p e (.nil (.ret ?_))))))))))))))))
   obtain rfl := someO h
   exact Ends.mkG (.inl e) e (Gh.trans (Gh.trans (gh_prn [0,1] [] hB e) (gh_nil [0] [] hB e e e)) (gh_pk [0,1] [10000000,10000001,10000002,10000003,10000004,10000005,10000006] hB e e e e)) e e
  ·refine Ops.gp e g268 e (.gp e g268 e (.gs (s := 9352) e g268 (Ev.lnF e) e e (.gp e g268 e ?_)))
   obtain ⟨x269,hx269,h⟩ := bindO h
   refine Ops.gs (s := 9384) e g268 (Ev.iaF e e hx269) e e (.gp e g268 e (.gp e g268 e (.gp e g268 e (.z 9448 (.pkF e g268 e) e e (.nil (.condO e h (fun g270 h => ?_) (fun g270 h => ?_)))))))
   ·refine Run.so hm (.z 13288 (.bd e e) e e (.y 13304 (.sto e e e e e e) e e (.p e (.nil (.ret ?_)))))
    obtain rfl := someO h
    exact Ends.mkG (.inl e) e (Gh.trans (Gh.trans (gh_prn [0,1] [] hB e) (gh_nil [0] [] hB e e e)) (gh_pk [0,1] [10000000,10000001,10000002,10000003,10000004,10000005,10000006] hB e e e e)) e e
   ·refine Run.skip (.so hm (.z 17384 (.al e e) e e (.nil (.seqO h (fun v334 => [(4,.ptr 0 0),(8,.ptr 1 0)]) (fun (v334 : (List Bool) × (List Server)) => [(0,.box [.sl 2 4 0 (([] : (List Bool)).length),.sl 3 83 0 (([] : (List Server)).length),.sl 4 312 0 (([] : (List Message)).length),.sl 5 314 0 (([] : (List Wait)).length),.sl 6 316 0 (([] : (List Leader)).length),.sl 7 318 0 (([] : (List Applied)).length),.sl 8 320 0 (([] : (List Reply)).length)]),(1,.box [.sl 9 4 0 v334.1.length,.sl 10 83 0 v334.2.length,.sl 11 312 0 (([] : (List Message)).length),.sl 12 314 0 (([] : (List Wait)).length),.sl 13 316 0 (([] : (List Leader)).length),.sl 14 318 0 (([] : (List Applied)).length),.sl 15 320 0 (([] : (List Reply)).length)]),(2,.vec 4 (([] : (List Bool)).map encB)),(3,.vec 83 (([] : (List Server)).map (encServer true))),(4,.vec 312 (([] : (List Message)).map (encMessage true))),(5,.vec 314 (([] : (List Wait)).map encWait)),(6,.vec 316 (([] : (List Leader)).map (encLeader true))),(7,.vec 318 (([] : (List Applied)).map encApplied)),(8,.vec 320 (([] : (List Reply)).map encReply)),(9,.vec 4 (v334.1.map encB)),(10,.vec 83 (v334.2.map (encServer true))),(11,.vec 312 (([] : (List Message)).map (encMessage true))),(12,.vec 314 (([] : (List Wait)).map encWait)),(13,.vec 316 (([] : (List Leader)).map (encLeader true))),(14,.vec 318 (([] : (List Applied)).map encApplied)),(15,.vec 320 (([] : (List Reply)).map encReply))]) (fun h => ?_) (fun v334 h => ?_)))))
    ·refine Run.so hm (.p e (.nil (.block ?_)))
     obtain ⟨res374,h,hk374⟩ := bindO h
     refine Run.loop (n := N) (fun m374 fr σ => ∃ (x336 : Int),∃ (x345 : (List Bool)),∃ (x346 : (List Server)),impl_WorldNew_l1 N x1 y252 m374 x336 x345 x346 = some res374 ∧ fr = [(0,VI x1),(4,.ptr 0 0),(6,.ptr 1 0),(8,.ptr 2 0),(9,VI x336)] ∧ σ = [(0,.box [.sl 3 4 0 (([] : (List Bool)).length),.sl 4 83 0 (([] : (List Server)).length),.sl 5 312 0 (([] : (List Message)).length),.sl 6 314 0 (([] : (List Wait)).length),.sl 7 316 0 (([] : (List Leader)).length),.sl 8 318 0 (([] : (List Applied)).length),.sl 9 320 0 (([] : (List Reply)).length)]),(1,.box [.sl 10 98 0 y252.1.Files.length]),(2,.box [.sl 11 4 0 x345.length,.sl 12 83 0 x346.length,.sl 13 312 0 (([] : (List Message)).length),.sl 14 314 0 (([] : (List Wait)).length),.sl 15 316 0 (([] : (List Leader)).length),.sl 16 318 0 (([] : (List Applied)).length),.sl 17 320 0 (([] : (List Reply)).length)]),(3,.vec 4 (([] : (List Bool)).map encB)),(4,.vec 83 (([] : (List Server)).map (encServer true))),(5,.vec 312 (([] : (List Message)).map (encMessage true))),(6,.vec 314 (([] : (List Wait)).map encWait)),(7,.vec 316 (([] : (List Leader)).map (encLeader true))),(8,.vec 318 (([] : (List Applied)).map encApplied)),(9,.vec 320 (([] : (List Reply)).map encReply)),(10,.vec 98 (y252.1.Files.map encFile)),(11,.vec 4 (x345.map encB)),(12,.vec 83 (x346.map (encServer true))),(13,.vec 312 (([] : (List Message)).map (encMessage true))),(14,.vec 314 (([] : (List Wait)).map encWait)),(15,.vec 316 (([] : (List Leader)).map (encLeader true))),(16,.vec 318 (([] : (List Applied)).map encApplied)),(17,.vec 320 (([] : (List Reply)).map encReply))]) (Gh.trans (Gh.trans (gh_prn [0,4,6,8,9] [1000,5176,17384,5112] hB e) (gh_nil [] [1000,17384] hB e e e)) (gh_pk [0,4,6,8,9] [1000,5176,17384,20000000,20000001,20000002,20000003,20000004,20000005,20000006,5112,20000064,20000065,20000066,20000067,20000068,20000069,20000070] hB e e e e)) ⟨_,_,_,h,e,e⟩ ?_
     rintro m374 fr σ ⟨x336,x345,x346,h,rfl,rfl⟩
     obtain _ | m374 := m374
     ·rw [impl_WorldNew_l1] at h; cases h
     rw [impl_WorldNew_l1] at h
     refine Run.seq (.so hm (.p3 e e e (.nil (.condO e h (fun g377 h => ?_) (fun g377 h => ?_)))))
     ·refine Run.skip (.seq (.block (.so hm (.p2 e e ?_))))
      obtain ⟨y391,hy391,h⟩ := bindO h
      refine Ops.z 33800 (Ev.call [] [10] 9 (sem_impl_Boot _ _ _ _ _ hy391) e e (.d1 (.cons (.agg (.cons (.borrow e (by decide) (lendW (fun _ => e) _ e)) .nil)) (.d1 .nil))) e (.inr ⟨e,ownL_root ⟨own_rows (fun _ => e) _,own_rows (fun _ => e) _,own_rows (fun _ => e) _,own_rows (fun _ => e) _,own_rows (fun _ => e) _,own_rows (fun _ => e) _,own_rows (fun _ => e) _,own_rows (fun _ => e) _,own_rows (fun _ => e) _,trivial⟩⟩) e e) e e ?_
      refine Ops.p e (.p3 e e e (.z 33880 (.al e e) e e (.y 33896 (.sto e e e e e e) e e (.p2 e e (.nil (.so hm (.p2 e e (.z 37896 (Ev.bsW (ys := ([true] : List Bool)) (f := encB) e (.d1 .nil) e e e e e) e e ?_))))))))
      obtain ⟨x395,hx395,h⟩ := bindO h
      refine Ops.z 37912 (Ev.apW (f := encB) (ontoW e e e) (addsW e e e (fun _ => e)) e bt4 e hx395) e e (.p e (.y 37944 (.sto e e e e e e) e e (.nil (.ops hm (.p3 e e e (.z 42008 (Ev.bsW (ys := ([y391.1] : List Server)) (f := (encServer true)) e (.d4 (.d1 (.cons (.own e (lenmap e)) (.d2 (.cons (.own e (lenmap e)) (.d2 (.d1 (.cons (.own e (lenmap e)) (.cons (.own e (lenmap e)) (.cons (.own e (lenmap e)) (.cons (.own e (lenmap e)) (.d2 (.d1 (.cons (.own e (lenmap e)) (.cons (.own e (lenmap e)) (.d4 .nil)))))))))))))))) e e e e e) e e ?_))))))
      obtain ⟨x397,hx397,h⟩ := bindO h
      exact Ops.z 42024 (Ev.apW (f := (encServer true)) (ontoW e e e) (addsO e e e) e bt83 e hx397) e e (.p e (.y 42056 (.sto e e e e e e) e e (.nil (.ops hm (.p3 e e e (.nil (⟨m374,Nat.lt_succ_self m374,_,_,(gh_pk [0,4,6,8,9] [0,1,2,3,4,5,6,7,8,9,10,37912,42024,13,14,15,16,17] hB e e e e),_,_,_,h,e,e⟩)))))))
     ·refine Run.exit ?_
      obtain rfl := someO h
      have h := hk374
      exact ⟨_,_,(gh_pk [4,8] [0,2,3,4,5,6,7,8,9,11,12,13,14,15,16,17] hB e e e e),_,h,e,e⟩
    ·refine Run.so hm (.p e (.y 46072 (.sto e e e e e e) e e (.p e (.nil (.ret ?_)))))
     obtain rfl := someO h
     exact Ends.mkG (.inl e) e (gh_pk [0,1] [9,10,11,12,13,14,15] hB e e e e) e e
def impl_clusterOf (N : Nat) (x1 : (List ByteArray)) : Option (Int × (List Int) × Bool) :=
 (if ((x1.length : Int) != 3) = true then
 some (0,[],false)
 else
 (at? x1 0).bind fun x144 =>
 (if (!decide (x144 = (⟨#[99,108,117,115,116,101,114]⟩ : ByteArray))) = true then
 some (0,[],false)
 else
 (at? x1 1).bind fun x152 =>
 (impl_ReadDecimal N x152).bind fun y153 =>
 (at? x1 2).bind fun x160 =>
 (impl_confOf N x160).bind fun y161 =>
 (if (!y153.2) = true then
 some (0,[],false)
 else
 (if (!y161.2) = true then
 some (0,[],false)
 else
 (impl_WorldNew N y153.1 y161.1).bind fun y171 =>
 some (y153.1,y161.1,y171.2)))))
theorem sem_impl_clusterOf (N : Nat) (x1 : (List ByteArray)) (r : Int × (List Int) × Bool) (h : impl_clusterOf N x1 = some r) : Says Tryz.prog 21 [RO 9 (x1.map encS)] 0 [] (.tup [VI r.1,.sl 0 3 0 r.2.1.length,VB r.2.2]) [(0,.vec 3 (r.2.1.map encI))] := by
 unfold impl_clusterOf at h
 refine Says.of_norm e Tryz.call21 e fun B hB => ?_
 have hm : B.m ≤ 1000 := by omega
 refine Run.so hm (.p3 e e e (.nil (.seq (.so hm (.p e (.z 5112 (Ev.lnF e) e e (.p2 e e (.askO (x := .t 14) e h (fun g143 h => ?_) (fun g143 h => ?_)))))))))
 ·refine Ops.gn e g143 (.gn e g143 (.gn e g143 (.gn e g143 (.z 5224 (.pkT e g143 e) e e (.nil (.condT e e (.so hm (.p3 e e e (.nil (.ret ?_))))))))))
  obtain rfl := someO h
  exact Ends.mkG (.inl e) e (Gh.trans (Gh.trans (gh_prn [0,1,2] [] hB e) (gh_nil [1] [] hB e e e)) (gh_pk [0,1,2] [10000000] hB e e e e)) e e
 ·refine Ops.gp e g143 e ?_
  obtain ⟨x144,hx144,h⟩ := bindO h
  refine Ops.gs (s := 5176) e g143 (Ev.iaF e e hx144) e e (.gp e g143 e (.gp e g143 e (.z 5224 (.pkF e g143 e) e e (.nil (.condO e h (fun g145 h => ?_) (fun g145 h => ?_))))))
  ·refine Run.so hm (.p3 e e e (.nil (.ret ?_)))
   obtain rfl := someO h
   exact Ends.mkG (.inl e) e (Gh.trans (Gh.trans (gh_prn [0,1,2] [] hB e) (gh_nil [1] [] hB e e e)) (gh_pk [0,1,2] [10000000] hB e e e e)) e e
  ·refine Run.skip (.so hm (.p e ?_))
   obtain ⟨x152,hx152,h⟩ := bindO h
   refine Ops.z 13304 (Ev.iaF e e hx152) e e (.p e ?_)
   obtain ⟨y153,hy153,h⟩ := bindO h
   refine Ops.z 13336 (Ev.call [] [] 0 (sem_impl_ReadDecimal _ _ _ hy153) e e (.d1 .nil) e (.inl e) e e) e e (.p3 e e e (.p2 e e (.nil (.so hm (.p e ?_)))))
   obtain ⟨x160,hx160,h⟩ := bindO h
   refine Ops.z 17400 (Ev.iaF e e hx160) e e (.p e ?_)
   obtain ⟨y161,hy161,h⟩ := bindO h
   refine Ops.z 17432 (Ev.call [] [] 1 (sem_impl_confOf _ _ _ hy161) e e (.d1 .nil) e (.inl e) e e) e e (.p3 e e e (.p2 e e (.nil (.seq (.so hm (.p3 e e e (.askO (x := .t 36) e h (fun g166 h => ?_) (fun g166 h => ?_))))))))
   ·refine Ops.gn e g166 (.gn e g166 (.z 21560 (.pkT e g166 e) e e (.nil (.condT e e (.so hm (.p3 e e e (.nil (.ret ?_))))))))
    obtain rfl := someO h
    exact Ends.mkG (.inl e) e (Gh.trans (Gh.trans (gh_prn [0,1,2] [] hB e) (gh_nil [1] [] hB e e e)) (gh_pk [0,1,2] [10000000] hB e e e e)) e e
   ·refine Ops.gp e g166 e (.gp e g166 e (.z 21560 (.pkF e g166 e) e e (.nil (.condO e h (fun g167 h => ?_) (fun g167 h => ?_)))))
    ·refine Run.so hm (.p3 e e e (.nil (.ret ?_)))
     obtain rfl := someO h
     exact Ends.mkG (.inl e) e (Gh.trans (Gh.trans (gh_prn [0,1,2] [] hB e) (gh_nil [1] [] hB e e e)) (gh_pk [0,1,2] [10000000] hB e e e e)) e e
    ·refine Run.skip (.so hm (.p2 e e ?_))
     obtain ⟨y171,hy171,h⟩ := bindO h
     refine Ops.z 29704 (Ev.call [] [17432] 7 (sem_impl_WorldNew _ _ _ _ hy171) e e (.d1 (.cons (.borrow e (by decide) (lendW (fun _ => e) _ e)) .nil)) e (.inr ⟨e,ownL_root ⟨own_rows (fun _ => e) _,own_rows own_encServer _,own_rows own_encMessage _,own_rows (fun _ => e) _,own_rows own_encLeader _,own_rows (fun _ => e) _,own_rows (fun _ => e) _,trivial⟩⟩) e e) e e ?_
     refine Ops.p e (.p2 e e (.z 29768 (.al e e) e e (.y 29784 (.sto e e e e e e) e e (.p e (.nil (.so hm (.p3 e e e (.p3 e e e (.nil (.ret ?_))))))))))
     obtain rfl := someO h
     exact Ends.mkG (.inl e) e (gh_pk [0,1,2] [17432] hB e e e e) e e
def impl_numbersOf_l1 (N : Nat) (x1 : (List ByteArray)) : Nat → Int → (List Int) → Option (((List Int) × Bool) ⊕ ((List Int)))
 | 0,_,_ => none
 | m + 1,x209,x210 =>
 (if (decide (x209 < (x1.length : Int))) = true then
 (at? x1 x209).bind fun x233 =>
 (impl_ReadDecimal N x233).bind fun y237 =>
 (if (!y237.2) = true then
 some (Sum.inl ([],false))
 else
 (cat? x210 ([y237.1] : List Int)).bind fun x241 =>
 impl_numbersOf_l1 N x1 m (w64 (x209 + 1)) x241)
 else
 some (Sum.inr x210))
def impl_numbersOf_l1_r (N : Nat) (x1 : (List ByteArray)) : (List ByteArray) → Int → (List Int) → Option (((List Int) × Bool) ⊕ ((List Int)))
 | [],x209,x210 =>
 some (Sum.inr x210)
 | hd :: tl,x209,x210 =>
 (some hd).bind fun x233 =>
 (impl_ReadDecimal N x233).bind fun y237 =>
 (if (!y237.2) = true then
 some (Sum.inl ([],false))
 else
 (cat? x210 ([y237.1] : List Int)).bind fun x241 =>
 impl_numbersOf_l1_r N x1 tl (w64 (x209 + 1)) x241)
theorem impl_numbersOf_l1_rng (N : Nat) (x1 : (List ByteArray)) (hx : x1.length ≤ 1099511627776) : ∀ (d k m : Nat) (x210 : (List Int)),x1.length = k + d → d < m → impl_numbersOf_l1 N x1 m (k : Int) x210 = impl_numbersOf_l1_r N x1 (x1.drop k) (k : Int) x210 := by
 intro d
 induction d with
 | zero =>
  intro k m x210 hd hm
  obtain ⟨m,rfl⟩ : ∃ q,m = q + 1 := ⟨m - 1,by omega⟩
  rw [impl_numbersOf_l1,if_neg (by simp; omega),List.drop_eq_nil_of_le (by omega),impl_numbersOf_l1_r]
 | succ d ih =>
  intro k m x210 hd hm
  obtain ⟨m,rfl⟩ : ∃ q,m = q + 1 := ⟨m - 1,by omega⟩
  have hk : k < x1.length := by omega
  rw [impl_numbersOf_l1,if_pos (by simp; omega),List.drop_eq_getElem_cons hk,impl_numbersOf_l1_r]
  have h1 := at_lt hk
  have h2 := w64_succ (k := k) (by omega)
  have h3 := ih (k + 1) m
  simp only [h1,h2,h3 _ (by omega) (by omega)]
theorem impl_numbersOf_l1_eq {N : Nat} (x1 : (List ByteArray)) (hx : x1.length ≤ 1099511627776) (hN : x1.length < N) (x210 : (List Int)) : impl_numbersOf_l1 N x1 N 0 x210 = impl_numbersOf_l1_r N x1 x1 0 x210 := impl_numbersOf_l1_rng N x1 hx x1.length 0 N x210 (by omega) hN
def impl_numbersOf (N : Nat) (x1 : (List ByteArray)) : Option ((List Int) × Bool) :=
 joinP (fun (v206 : (List Int)) =>
 some (v206,true)) fun j206 =>
 (impl_numbersOf_l1 N x1 N 0 ([] : (List Int))).bind (Sum.elim (fun v225 => some v225) (fun (v226 : (List Int)) => j206 v226))
theorem sem_impl_numbersOf (N : Nat) (x1 : (List ByteArray)) (r : (List Int) × Bool) (h : impl_numbersOf N x1 = some r) : Says Tryz.prog 42 [RO 9 (x1.map encS)] 0 [] (.tup [.sl 0 3 0 r.1.length,VB r.2]) [(0,.vec 3 (r.1.map encI))] := by
 unfold impl_numbersOf at h
 refine Says.of_norm e Tryz.call42 e fun B hB => ?_
 have hm : B.m ≤ 1000 := by omega
 refine Run.so hm (.p2 e e (.nil (.so hm (.p e (.nil (.seqO h (fun v206 => [(4,.sl 0 3 0 v206.length)]) (fun (v206 : (List Int)) => [(0,.vec 3 (v206.map encI))]) (fun h => ?_) (fun v206 h => ?_)))))))
 ·refine Run.so hm (.p e (.z 9208 (Ev.lnF e) e e (.p e (.nil (.block ?_)))))
  obtain ⟨res226,h,hk226⟩ := bindO h
  refine Run.loop (n := N) (fun m226 fr σ => ∃ (x209 : Int),∃ (x210 : (List Int)),impl_numbersOf_l1 N x1 m226 x209 x210 = some res226 ∧ fr = [(4,.sl 0 3 0 x210.length),(9,RO 9 (x1.map encS)),(10,VI (x1.length : Int)),(11,VI x209)] ∧ σ = [(0,.vec 3 (x210.map encI))]) (Gh.trans (Gh.trans (gh_prn [4,9,10,11] [] hB e) (gh_nil [4] [] hB e e e)) (gh_pk [4,9,10,11] [10000000] hB e e e e)) ⟨_,_,h,e,e⟩ ?_
  rintro m226 fr σ ⟨x209,x210,h,rfl,rfl⟩
  obtain _ | m226 := m226
  ·rw [impl_numbersOf_l1] at h; cases h
  rw [impl_numbersOf_l1] at h
  refine Run.so hm (.p e (.nil (.seq (.condO e h (fun g229 h => ?_) (fun g229 h => ?_)))))
  ·refine Run.skip (.seq (.block (.so hm ?_)))
   obtain ⟨x233,hx233,h⟩ := bindO h
   refine Ops.z 17384 (Ev.iaF e e hx233) e e (.p2 e e (.nil (.so hm (.p e ?_))))
   obtain ⟨y237,hy237,h⟩ := bindO h
   refine Ops.z 21496 (Ev.call [] [] 0 (sem_impl_ReadDecimal _ _ _ hy237) e e (.d1 .nil) e (.inl e) e e) e e (.p3 e e e (.p2 e e (.nil (.seq (.so hm (.p2 e e (.nil (.condO e h (fun g239 h => ?_) (fun g239 h => ?_)))))))))
   ·refine Run.so hm (.p2 e e (.nil (.ret ?_)))
    obtain rfl := someO h
    have h := hk226
    replace h := inlO h
    obtain rfl := someO h
    exact Ends.mkG (.inl e) e (Gh.trans (Gh.trans (gh_prn [0,1] [] hB e) (gh_nil [0] [] hB e e e)) (gh_pk [0,1] [10000000] hB e e e e)) e e
   ·refine Run.skip (.ops hm (.p2 e e (.z 33800 (Ev.bsW (ys := ([y237.1] : List Int)) (f := encI) e (.d1 .nil) e e e e e) e e ?_)))
    obtain ⟨x241,hx241,h⟩ := bindO h
    exact Ops.z 33816 (Ev.apW (f := encI) (ontoW e e e) (addsW e e e (fun _ => e)) e bt3 e hx241) e e (.p e (.nil (.ops hm (.p2 e e (.nil (⟨m226,Nat.lt_succ_self m226,_,_,(gh_pk [4,9,10,11] [33816] hB e e e e),_,_,h,e,e⟩))))))
  ·refine Run.exit ?_
   obtain rfl := someO h
   have h := hk226
   replace h := inrO h
   exact ⟨_,_,(gh_pk [4] [0] hB e e e e),_,h,e,e⟩
 ·refine Run.so hm (.p3 e e e (.nil (.ret ?_)))
  obtain rfl := someO h
  exact Ends.mkG (.inl e) e (gh_pk [0,1] [0] hB e e e e) e e
def impl_worded (N : Nat) (x1 : ByteArray) : Option (ByteArray) :=
 (if (decide (x1 = (⟨#[45]⟩ : ByteArray))) = true then
 some (⟨#[]⟩ : ByteArray)
 else
 some x1)
theorem sem_impl_worded (N : Nat) (x1 : ByteArray) (r : ByteArray) (h : impl_worded N x1 = some r) : Says Tryz.prog 115 [VS x1] 0 [] (VS r) [] := by
 unfold impl_worded at h
 refine Says.of_norm e Tryz.call115 e fun B hB => ?_
 have hm : B.m ≤ 1000 := by omega
 refine Run.so hm (.p e (.nil (.seq (.so hm (.p2 e e (.nil (.condO e h (fun g103 h => ?_) (fun g103 h => ?_))))))))
 ·refine Run.so hm (.p e (.nil (.ret ?_)))
  obtain rfl := someO h
  exact Ends.mkG (.inl e) e (gh_pk [0] [] hB e e e e) e e
 ·refine Run.skip (.so hm (.p2 e e (.nil (.ret ?_))))
  obtain rfl := someO h
  exact Ends.mkG (.inl e) e (gh_pk [0] [] hB e e e e) e e
def impl_callEvent (N : Nat) (x1 : (List ByteArray)) : Option (Event × Bool) :=
 (at? x1 0).bind fun x171 =>
 (if ((x1.length : Int) != (mget [((⟨#[103,101,116]⟩ : ByteArray),5),((⟨#[99,117,116]⟩ : ByteArray),5),((⟨#[112,117,116]⟩ : ByteArray),6),((⟨#[115,119,97,112]⟩ : ByteArray),7)] x171)) = true then
 some ((Event.mk 0 0 0 0 (Command.mk 0 0 0 (⟨#[]⟩ : ByteArray) (⟨#[]⟩ : ByteArray) (⟨#[]⟩ : ByteArray)) ([]) false 0 0),false)
 else
 (cut? x1 1 4).bind fun x179 =>
 (impl_numbersOf N x179).bind fun y180 =>
 (if (!y180.2) = true then
 some ((Event.mk 0 0 0 0 (Command.mk 0 0 0 (⟨#[]⟩ : ByteArray) (⟨#[]⟩ : ByteArray) (⟨#[]⟩ : ByteArray)) ([]) false 0 0),false)
 else
 (at? x1 0).bind fun x198 =>
 (at? y180.1 1).bind fun x199 =>
 (at? y180.1 2).bind fun x200 =>
 (at? x1 4).bind fun x201 =>
 (impl_worded N x201).bind fun y202 =>
 joinP (fun (v217 : ByteArray × ByteArray) =>
 (at? y180.1 0).bind fun x233 =>
 some ((Event.mk 5 x233 0 0 (Command.mk (mget [((⟨#[103,101,116]⟩ : ByteArray),2),((⟨#[99,117,116]⟩ : ByteArray),4),((⟨#[112,117,116]⟩ : ByteArray),3),((⟨#[115,119,97,112]⟩ : ByteArray),5)] x198) x199 x200 y202 v217.1 v217.2) ([]) false 0 0),true)) fun j217 =>
 (if ((mget [((⟨#[103,101,116]⟩ : ByteArray),2),((⟨#[99,117,116]⟩ : ByteArray),4),((⟨#[112,117,116]⟩ : ByteArray),3),((⟨#[115,119,97,112]⟩ : ByteArray),5)] x198) == 3) = true then
 (at? x1 5).bind fun x221 =>
 (impl_worded N x221).bind fun y222 =>
 j217 (y222,(⟨#[]⟩ : ByteArray))
 else
 (if ((mget [((⟨#[103,101,116]⟩ : ByteArray),2),((⟨#[99,117,116]⟩ : ByteArray),4),((⟨#[112,117,116]⟩ : ByteArray),3),((⟨#[115,119,97,112]⟩ : ByteArray),5)] x198) == 5) = true then
 (at? x1 5).bind fun x228 =>
 (impl_worded N x228).bind fun y229 =>
 (at? x1 6).bind fun x230 =>
 (impl_worded N x230).bind fun y231 =>
 j217 (y231,y229)
 else
 j217 ((⟨#[]⟩ : ByteArray),(⟨#[]⟩ : ByteArray))))))
theorem sem_impl_callEvent (N : Nat) (x1 : (List ByteArray)) (r : Event × Bool) (h : impl_callEvent N x1 = some r) : Says Tryz.prog 72 [RO 9 (x1.map encS)] 0 [] (.tup [.agg [VI r.1.Kind,VI r.1.Node,VI r.1.At,VI r.1.Limit,VI r.1.Command.Op,VI r.1.Command.Session,VI r.1.Command.Seq,VS r.1.Command.Key,VS r.1.Command.Value,VS r.1.Command.Old,.sl 0 3 0 r.1.Conf.length,VB r.1.Cut,VI r.1.Whole,VI r.1.Part],VB r.2]) [(0,.vec 3 (r.1.Conf.map encI))] := by
 unfold impl_callEvent at h
 refine Says.of_norm e Tryz.call72 e fun B hB => ?_
 have hm : B.m ≤ 1000 := by omega
 refine Run.so hm (.z 1000 (.al e e) e e (.p e (.nil (.so hm (.z 5096 (Ev.mk e) e e (.y 5112 (Ev.mu e e e e (by decide)) e e ?_))))))
 refine Ops.y 5128 (Ev.mu e e e e (by decide)) e e ?_
 refine Ops.y 5144 (Ev.mu e e e e (by decide)) e e ?_
 refine Ops.y 5160 (Ev.mu e e e e (by decide)) e e ?_
 refine Ops.p e (.p e (.nil (.so hm (.z 9192 (Ev.mk e) e e (.y 9208 (Ev.mu e e e e (by decide)) e e ?_)))))
 refine Ops.y 9224 (Ev.mu e e e e (by decide)) e e ?_
 refine Ops.y 9240 (Ev.mu e e e e (by decide)) e e ?_
 refine Ops.y 9256 (Ev.mu e e e e (by decide)) e e ?_
 refine Ops.p e (.p e (.nil (.seq (.so hm (.p e (.z 13304 (Ev.lnF e) e e (.p2 e e ?_)))))))
 obtain ⟨x171,hx171,h⟩ := bindO h
 refine Ops.z 13352 (Ev.iaF e e hx171) e e (.p e (.z 13384 (Ev.lk e e e) e e (.p e (.nil (.condO e h (fun g172 h => ?_) (fun g172 h => ?_))))))
 ·refine Run.so hm (.z 17384 (.bd e e) e e (.y 17400 (.sto e e e e e e) e e (.p e (.nil (.ret ?_)))))
  obtain rfl := someO h
  exact Ends.mkG (.inl e) e (Gh.trans (Gh.trans (gh_prn [0,1] [] hB e) (gh_nil [0] [] hB e e e)) (gh_pk [0,1] [10000000] hB e e e e)) e e
 ·refine Run.skip (.so hm (.p e ?_))
  obtain ⟨x179,hx179,h⟩ := bindO h
  refine Ops.z 21496 (Ev.slF e e e hx179) e e ?_
  obtain ⟨y180,hy180,h⟩ := bindO h
  refine Ops.z 21512 (Ev.call [] [] 1 (sem_impl_numbersOf _ _ _ hy180) e e (.d1 .nil) e (.inl e) e e) e e (.p3 e e e (.p2 e e (.nil (.seq (.so hm (.p2 e e (.nil (.condO e h (fun g182 h => ?_) (fun g182 h => ?_)))))))))
  ·refine Run.so hm (.z 29672 (.bd e e) e e (.y 29688 (.sto e e e e e e) e e (.p e (.nil (.ret ?_)))))
   obtain rfl := someO h
   exact Ends.mkG (.inl e) e (Gh.trans (Gh.trans (gh_prn [0,1] [] hB e) (gh_nil [0] [] hB e e e)) (gh_pk [0,1] [10000000] hB e e e e)) e e
  ·refine Run.skip (.seq (.draw hm hmix (.p e (.p e ?_))))
   obtain ⟨x198,hx198,h⟩ := bindO h
   refine OpsD.z 33800 (Ev.iaF e e hx198) e e (.p e (.z 33832 (Ev.lk e e e) e e (.p e ?_)))
   obtain ⟨x199,hx199,h⟩ := bindO h
   refine OpsD.z 33864 (Ev.iaW e e e hx199) e e (.z 33880 (Ev.ldE (f := encI) e e (at_some hx199).2 e e e) e e (.p e ?_))
   obtain ⟨x200,hx200,h⟩ := bindO h
   refine OpsD.z 33912 (Ev.iaW e e e hx200) e e (.z 33928 (Ev.ldE (f := encI) e e (at_some hx200).2 e e e) e e (.p e ?_))
   obtain ⟨x201,hx201,h⟩ := bindO h
   refine OpsD.z 33960 (Ev.iaF e e hx201) e e (.p e ?_)
   obtain ⟨y202,hy202,h⟩ := bindO h
   refine OpsD.z 33992 (Ev.call [] [] 0 (sem_impl_worded _ _ _ hy202) e e (.d1 .nil) e (.inl e) e e) e e (.z 34008 (.bd e e) e e (.z 34024 (.al e e) e e (.y 34040 (.sto e e e e e e) e e (.nil ⟨by kernel_rfl,?_⟩))))
   refine Run.seqO h (fun v217 => [(2,.ptr 0 0),(6,.sl 1 3 0 y180.1.length),(8,.ptr 2 0)]) (fun (v217 : ByteArray × ByteArray) => [(0,.box [VI 0,VI 0,VI 0,VI 0,VI 0,VI 0,VI 0,VS (⟨#[]⟩ : ByteArray),VS (⟨#[]⟩ : ByteArray),VS (⟨#[]⟩ : ByteArray),.sl 3 3 0 (([] : List Int).length),VB false,VI 0,VI 0]),(1,.vec 3 (y180.1.map encI)),(2,.box [VI (mget [((⟨#[103,101,116]⟩ : ByteArray),2),((⟨#[99,117,116]⟩ : ByteArray),4),((⟨#[112,117,116]⟩ : ByteArray),3),((⟨#[115,119,97,112]⟩ : ByteArray),5)] x198),VI x199,VI x200,VS y202,VS v217.1,VS v217.2]),(3,.vec 3 (([] : List Int).map encI))]) (fun h => ?_) (fun v217 h => ?_)
   ·refine Run.so hm (.p2 e e (.nil (.block (.so hm (.p2 e e (.nil (.condO e h (fun g218 h => ?_) (fun g218 h => ?_))))))))
    ·refine Run.ops hm (.p e ?_)
     obtain ⟨x221,hx221,h⟩ := bindO h
     refine Ops.z 46072 (Ev.iaF e e hx221) e e (.p e ?_)
     obtain ⟨y222,hy222,h⟩ := bindO h
     exact Ops.z 46104 (Ev.call [] [] 0 (sem_impl_worded _ _ _ hy222) e e (.d1 .nil) e (.inl e) e e) e e (.p e (.y 46136 (.sto e e e e e e) e e (.nil (⟨_,_,(Gh.trans (Gh.trans (gh_prn [2,6,8] [1000,21512,34024] hB e) (gh_nil [] [1000] hB e e e)) (gh_pk [2,6,8] [1000,21512,34024,20000000] hB e e e e)),_,h,e,e⟩))))
    ·refine Run.so hm (.p2 e e (.nil (.condO e h (fun g223 h => ?_) (fun g223 h => ?_))))
     ·refine Run.draw hm hmix (.p e ?_)
      obtain ⟨x228,hx228,h⟩ := bindO h
      refine OpsD.z 54264 (Ev.iaF e e hx228) e e (.p e ?_)
      obtain ⟨y229,hy229,h⟩ := bindO h
      refine OpsD.z 54296 (Ev.call [] [] 0 (sem_impl_worded _ _ _ hy229) e e (.d1 .nil) e (.inl e) e e) e e (.p e ?_)
      obtain ⟨x230,hx230,h⟩ := bindO h
      refine OpsD.z 54328 (Ev.iaF e e hx230) e e (.p e ?_)
      obtain ⟨y231,hy231,h⟩ := bindO h
      refine OpsD.z 54360 (Ev.call [] [] 0 (sem_impl_worded _ _ _ hy231) e e (.d1 .nil) e (.inl e) e e) e e (.p e (.y 54392 (.sto e e e e e e) e e (.p e (.y 54424 (.sto e e e e e e) e e (.nil ⟨by kernel_rfl,?_⟩)))))
      exact ⟨_,_,(Gh.trans (Gh.trans (gh_prn [2,6,8] [1000,21512,34024] hB e) (gh_nil [] [1000] hB e e e)) (gh_pk [2,6,8] [1000,21512,34024,20000000] hB e e e e)),_,h,e,e⟩
     ·exact Run.skip (⟨_,_,(Gh.trans (Gh.trans (gh_prn [2,6,8] [1000,21512,34024] hB e) (gh_nil [] [1000] hB e e e)) (gh_pk [2,6,8] [1000,21512,34024,20000000] hB e e e e)),_,h,e,e⟩)
   ·refine Run.seq (.draw hm hmix (.p e ?_))
    obtain ⟨x233,hx233,h⟩ := bindO h
    refine OpsD.z 58360 (Ev.iaW e e e hx233) e e (.z 58376 (Ev.ldE (f := encI) e e (at_some hx233).2 e e e) e e (.p e (.z 58408 (.bd e e) e e (.y 58424 (.sto e e e e e e) e e (.p e (.nil ⟨by kernel_rfl,?_⟩))))))
    refine Run.ret ?_
    obtain rfl := someO h
    exact Ends.mkG (.inl e) e (Gh.trans (Gh.trans (gh_prn [0,1] [] hB e) (gh_nil [0] [] hB e e e)) (gh_pk [0,1] [10000000] hB e e e e)) e e
def slices_Index_string_l1 (N : Nat) (x1 : (List ByteArray)) (x2 : ByteArray) : Nat → Int → Option ((Int) ⊕ (Unit))
 | 0,_ => none
 | m + 1,x156 =>
 (if (decide (x156 < (x1.length : Int))) = true then
 (at? x1 x156).bind fun x168 =>
 (if (decide (x2 = x168)) = true then
 some (Sum.inl x156)
 else
 slices_Index_string_l1 N x1 x2 m (w64 (x156 + 1)))
 else
 some (Sum.inr ()))
def slices_Index_string_l1_r (N : Nat) (x1 : (List ByteArray)) (x2 : ByteArray) : (List ByteArray) → Int → Option ((Int) ⊕ (Unit))
 | [],x156 =>
 some (Sum.inr ())
 | hd :: tl,x156 =>
 (some hd).bind fun x168 =>
 (if (decide (x2 = x168)) = true then
 some (Sum.inl x156)
 else
 slices_Index_string_l1_r N x1 x2 tl (w64 (x156 + 1)))
theorem slices_Index_string_l1_rng (N : Nat) (x1 : (List ByteArray)) (x2 : ByteArray) (hx : x1.length ≤ 1099511627776) : ∀ (d k m : Nat),x1.length = k + d → d < m → slices_Index_string_l1 N x1 x2 m (k : Int) = slices_Index_string_l1_r N x1 x2 (x1.drop k) (k : Int) := by
 intro d
 induction d with
 | zero =>
  intro k m hd hm
  obtain ⟨m,rfl⟩ : ∃ q,m = q + 1 := ⟨m - 1,by omega⟩
  rw [slices_Index_string_l1,if_neg (by simp; omega),List.drop_eq_nil_of_le (by omega),slices_Index_string_l1_r]
 | succ d ih =>
  intro k m hd hm
  obtain ⟨m,rfl⟩ : ∃ q,m = q + 1 := ⟨m - 1,by omega⟩
  have hk : k < x1.length := by omega
  rw [slices_Index_string_l1,if_pos (by simp; omega),List.drop_eq_getElem_cons hk,slices_Index_string_l1_r]
  have h1 := at_lt hk
  have h2 := w64_succ (k := k) (by omega)
  have h3 := ih (k + 1) m
  simp only [h1,h2,h3 (by omega) (by omega)]
theorem slices_Index_string_l1_eq {N : Nat} (x1 : (List ByteArray)) (x2 : ByteArray) (hx : x1.length ≤ 1099511627776) (hN : x1.length < N) : slices_Index_string_l1 N x1 x2 N 0 = slices_Index_string_l1_r N x1 x2 x1 0 := slices_Index_string_l1_rng N x1 x2 hx x1.length 0 N (by omega) hN
def slices_Index_string (N : Nat) (x1 : (List ByteArray)) (x2 : ByteArray) : Option (Int) :=
 joinP (fun (v152 : Unit) =>
 some (-1 : Int)) fun j152 =>
 (slices_Index_string_l1 N x1 x2 N 0).bind (Sum.elim (fun v162 => some v162) (fun (v163 : Unit) => j152 ()))
theorem sem_slices_Index_string (N : Nat) (x1 : (List ByteArray)) (x2 : ByteArray) (r : Int) (h : slices_Index_string N x1 x2 = some r) : Says Tryz.prog 116 [RO 9 (x1.map encS),VS x2] 0 [] (VI r) [] := by
 unfold slices_Index_string at h
 refine Says.of_norm e Tryz.call116 e fun B hB => ?_
 have hm : B.m ≤ 1000 := by omega
 refine Run.so hm (.p e (.nil (.seqO h (fun v152 => []) (fun (v152 : Unit) => []) (fun h => ?_) (fun v152 h => ?_))))
 ·refine Run.so hm (.p e (.z 5112 (Ev.lnF e) e e (.p e (.nil (.block ?_)))))
  obtain ⟨res163,h,hk163⟩ := bindO h
  refine Run.loop (n := N) (fun m163 fr σ => ∃ (x156 : Int),slices_Index_string_l1 N x1 x2 m163 x156 = some res163 ∧ fr = [(0,RO 9 (x1.map encS)),(1,VS x2),(7,VI (x1.length : Int)),(8,VI x156)] ∧ σ = []) (gh_pk [0,1,7,8] [] hB e e e e) ⟨_,h,e,e⟩ ?_
  rintro m163 fr σ ⟨x156,h,rfl,rfl⟩
  obtain _ | m163 := m163
  ·rw [slices_Index_string_l1] at h; cases h
  rw [slices_Index_string_l1] at h
  refine Run.so hm (.p e (.nil (.seq (.condO e h (fun g166 h => ?_) (fun g166 h => ?_)))))
  ·refine Run.skip (.seq (.block (.so hm (.p2 e e (.nil (.so hm (.p3 e e e ?_)))))))
   obtain ⟨x168,hx168,h⟩ := bindO h
   refine Ops.z 17432 (Ev.iaF e e hx168) e e (.p2 e e (.nil (.condO e h (fun g169 h => ?_) (fun g169 h => ?_))))
   ·refine Run.so hm (.p2 e e (.nil (.ret ?_)))
    obtain rfl := someO h
    have h := hk163
    replace h := inlO h
    obtain rfl := someO h
    exact Ends.mkG (.inl e) e (gh_pk [0] [] hB e e e e) e e
   ·exact Run.skip (.ops hm (.p2 e e (.nil (⟨m163,Nat.lt_succ_self m163,_,_,(gh_pk [0,1,7,8] [] hB e e e e),_,h,e,e⟩))))
  ·refine Run.exit ?_
   obtain rfl := someO h
   have h := hk163
   replace h := inrO h
   exact ⟨_,_,(gh_pk [] [] hB e e e e),(),h,e,e⟩
 ·refine Run.so hm (.p e (.nil (.ret ?_)))
  obtain rfl := someO h
  exact Ends.mkG (.inl e) e (gh_pk [0] [] hB e e e e) e e
def impl_plainEvent (N : Nat) (x1 : ByteArray) (x2 : (List Int)) : Option (Event × Bool) :=
 (slices_Index_string N ([(⟨#[116,105,99,107]⟩ : ByteArray),(⟨#[100,101,108,105,118,101,114]⟩ : ByteArray),(⟨#[100,114,111,112]⟩ : ByteArray),(⟨#[99,111,112,121]⟩ : ByteArray),(⟨#[111,112,101,110]⟩ : ByteArray),(⟨#[]⟩ : ByteArray),(⟨#[109,101,114,103,101]⟩ : ByteArray),(⟨#[100,111,119,110]⟩ : ByteArray),(⟨#[117,112]⟩ : ByteArray)] : List ByteArray) x1).bind fun y169 =>
 joinP (fun (v173 : Int) =>
 (if (decide (x1 = (⟨#[]⟩ : ByteArray))) = true then
 some ((Event.mk 0 0 0 0 (Command.mk 0 0 0 (⟨#[]⟩ : ByteArray) (⟨#[]⟩ : ByteArray) (⟨#[]⟩ : ByteArray)) ([]) false 0 0),false)
 else
 (if ((x2.length : Int) != v173) = true then
 some ((Event.mk 0 0 0 0 (Command.mk 0 0 0 (⟨#[]⟩ : ByteArray) (⟨#[]⟩ : ByteArray) (⟨#[]⟩ : ByteArray)) ([]) false 0 0),false)
 else
 joinP (fun (v207 : Int × Int × Int × Int) =>
 some ((Event.mk (w64 (y169 + 1)) v207.1 v207.2.1 v207.2.2.1 (Command.mk v207.2.2.2 0 0 (⟨#[]⟩ : ByteArray) (⟨#[]⟩ : ByteArray) (⟨#[]⟩ : ByteArray)) ([]) false 0 0),true)) fun j207 =>
 (if ((w64 (y169 + 1)) == 1) = true then
 (at? x2 0).bind fun x211 =>
 (at? x2 1).bind fun x212 =>
 j207 (x211,0,x212,0)
 else
 (if ((w64 (y169 + 1)) == 9) = true then
 (at? x2 0).bind fun x216 =>
 (at? x2 1).bind fun x217 =>
 j207 (x216,0,x217,0)
 else
 (if ((w64 (y169 + 1)) == 2) = true then
 (at? x2 0).bind fun x220 =>
 j207 (1,x220,0,0)
 else
 (if ((w64 (y169 + 1)) == 3) = true then
 (at? x2 0).bind fun x223 =>
 j207 (1,x223,0,0)
 else
 (if ((w64 (y169 + 1)) == 4) = true then
 (at? x2 0).bind fun x226 =>
 j207 (1,x226,0,0)
 else
 (if ((w64 (y169 + 1)) == 5) = true then
 (at? x2 0).bind fun x229 =>
 j207 (x229,0,0,1)
 else
 (at? x2 0).bind fun x231 =>
 j207 (x231,0,0,0)))))))))) fun j173 =>
 (if ((w64 (y169 + 1)) == 1) = true then
 j173 2
 else
 (if ((w64 (y169 + 1)) == 9) = true then
 j173 2
 else
 (if ((w64 (y169 + 1)) == 0) = true then
 some ((Event.mk 0 0 0 0 (Command.mk 0 0 0 (⟨#[]⟩ : ByteArray) (⟨#[]⟩ : ByteArray) (⟨#[]⟩ : ByteArray)) ([]) false 0 0),false)
 else
 j173 1)))
theorem sem_impl_plainEvent (N : Nat) (x1 : ByteArray) (x2 : (List Int)) (r : Event × Bool) (h : impl_plainEvent N x1 x2 = some r) : Says Tryz.prog 73 [VS x1,RO 3 (x2.map encI)] 0 [] (.tup [.agg [VI r.1.Kind,VI r.1.Node,VI r.1.At,VI r.1.Limit,VI r.1.Command.Op,VI r.1.Command.Session,VI r.1.Command.Seq,VS r.1.Command.Key,VS r.1.Command.Value,VS r.1.Command.Old,.sl 0 3 0 r.1.Conf.length,VB r.1.Cut,VI r.1.Whole,VI r.1.Part],VB r.2]) [(0,.vec 3 (r.1.Conf.map encI))] := by
 unfold impl_plainEvent at h
 refine Says.of_norm e Tryz.call73 e fun B hB => ?_
 have hm : B.m ≤ 1000 := by omega
 refine Run.so hm (.z 1000 (.al e e) e e (.p e (.nil (.so hm (.z 5096 (Ev.bsW (ys := ([(⟨#[116,105,99,107]⟩ : ByteArray),(⟨#[100,101,108,105,118,101,114]⟩ : ByteArray),(⟨#[100,114,111,112]⟩ : ByteArray),(⟨#[99,111,112,121]⟩ : ByteArray),(⟨#[111,112,101,110]⟩ : ByteArray),(⟨#[]⟩ : ByteArray),(⟨#[109,101,114,103,101]⟩ : ByteArray),(⟨#[100,111,119,110]⟩ : ByteArray),(⟨#[117,112]⟩ : ByteArray)] : List ByteArray)) (f := encS) e (.d4 (.d4 (.d1 .nil))) e e e e e) e e (.p e (.nil (.so hm (.p2 e e ?_)))))))))
 obtain ⟨y169,hy169,h⟩ := bindO h
 refine Ops.z 9224 (Ev.call [] [5096] 0 (sem_slices_Index_string _ _ _ _ hy169) e e (.cons (.borrow e (by decide) (lendW (fun _ => e) _ e)) (.d1 .nil)) e (.inr ⟨e,ownL_root trivial⟩) e e) e e ?_
 refine Ops.p e (.z 9256 (.bd e e) e e (.z 9272 (.al e e) e e (.y 9288 (.sto e e e e e e) e e (.nil (.so hm (.p e (.nil (.seqO h (fun v173 => [(0,VS x1),(1,RO 3 (x2.map encI)),(4,.ptr 0 0),(7,.ptr 1 0),(8,VI v173)]) (fun (v173 : Int) => [(0,.box [VI 0,VI 0,VI 0,VI 0,VI 0,VI 0,VI 0,VS (⟨#[]⟩ : ByteArray),VS (⟨#[]⟩ : ByteArray),VS (⟨#[]⟩ : ByteArray),.sl 2 3 0 (([] : List Int).length),VB false,VI 0,VI 0]),(1,.box [VI (w64 (y169 + 1)),VI 0,VI 0,VI 0,VI 0,VI 0,VI 0,VS (⟨#[]⟩ : ByteArray),VS (⟨#[]⟩ : ByteArray),VS (⟨#[]⟩ : ByteArray),.sl 3 3 0 (([] : List Int).length),VB false,VI 0,VI 0]),(2,.vec 3 (([] : List Int).map encI)),(3,.vec 3 (([] : List Int).map encI))]) (fun h => ?_) (fun v173 h => ?_)))))))))
 ·refine Run.so hm (.p2 e e (.nil (.block (.seq (.so hm (.p2 e e (.nil (.condO e h (fun g174 h => ?_) (fun g174 h => ?_)))))))))
  ·exact Run.skip (.condT e g174 (.ops hm (.p e (.nil (⟨_,_,(Gh.trans (Gh.trans (gh_prn [0,1,4,7,8] [1000,9272] hB e) (gh_nil [] [1000,9272] hB e e e)) (gh_pk [0,1,4,7,8] [1000,9272,20000000,20000064] hB e e e e)),_,h,e,e⟩)))))
  ·refine Run.ops hm (.p2 e e (.nil (.condO e h (fun g175 h => ?_) (fun g175 h => ?_))))
   ·exact Run.ops hm (.p e (.nil (⟨_,_,(Gh.trans (Gh.trans (gh_prn [0,1,4,7,8] [1000,9272] hB e) (gh_nil [] [1000,9272] hB e e e)) (gh_pk [0,1,4,7,8] [1000,9272,20000000,20000064] hB e e e e)),_,h,e,e⟩)))
   ·refine Run.so hm (.p2 e e (.nil (.condO e h (fun g176 h => ?_) (fun g176 h => ?_))))
    ·refine Run.so hm (.z 37864 (.bd e e) e e (.y 37880 (.sto e e e e e e) e e (.p e (.nil (.ret ?_)))))
     obtain rfl := someO h
     exact Ends.mkG (.inl e) e (Gh.trans (Gh.trans (gh_prn [0,1] [] hB e) (gh_nil [0] [] hB e e e)) (gh_pk [0,1] [10000000] hB e e e e)) e e
    ·exact Run.skip (⟨_,_,(Gh.trans (Gh.trans (gh_prn [0,1,4,7,8] [1000,9272] hB e) (gh_nil [] [1000,9272] hB e e e)) (gh_pk [0,1,4,7,8] [1000,9272,20000000,20000064] hB e e e e)),_,h,e,e⟩)
 ·refine Run.seq (.so hm (.p3 e e e (.askO (x := .t 25) e h (fun g181 h => ?_) (fun g181 h => ?_))))
  ·refine Ops.gn e g181 (.gn e g181 (.gn e g181 (.gn e g181 (.z 42072 (.pkT e g181 e) e e (.nil (.condT e e (.so hm (.z 46056 (.bd e e) e e (.y 46072 (.sto e e e e e e) e e (.p e (.nil (.ret ?_))))))))))))
   obtain rfl := someO h
   exact Ends.mkG (.inl e) e (Gh.trans (Gh.trans (gh_prn [0,1] [] hB e) (gh_nil [0] [] hB e e e)) (gh_pk [0,1] [10000000] hB e e e e)) e e
  ·refine Ops.gp e g181 e (.gs (s := 42024) e g181 (Ev.lnF e) e e (.gp e g181 e (.gp e g181 e (.z 42072 (.pkF e g181 e) e e (.nil (.condO e h (fun g182 h => ?_) (fun g182 h => ?_)))))))
   ·refine Run.so hm (.z 46056 (.bd e e) e e (.y 46072 (.sto e e e e e e) e e (.p e (.nil (.ret ?_)))))
    obtain rfl := someO h
    exact Ends.mkG (.inl e) e (Gh.trans (Gh.trans (gh_prn [0,1] [] hB e) (gh_nil [0] [] hB e e e)) (gh_pk [0,1] [10000000] hB e e e e)) e e
   ·refine Run.skip (.seqO h (fun v207 => [(4,.ptr 0 0),(7,.ptr 1 0)]) (fun (v207 : Int × Int × Int × Int) => [(0,.box [VI 0,VI 0,VI 0,VI 0,VI 0,VI 0,VI 0,VS (⟨#[]⟩ : ByteArray),VS (⟨#[]⟩ : ByteArray),VS (⟨#[]⟩ : ByteArray),.sl 2 3 0 (([] : List Int).length),VB false,VI 0,VI 0]),(1,.box [VI (w64 (y169 + 1)),VI v207.1,VI v207.2.1,VI v207.2.2.1,VI v207.2.2.2,VI 0,VI 0,VS (⟨#[]⟩ : ByteArray),VS (⟨#[]⟩ : ByteArray),VS (⟨#[]⟩ : ByteArray),.sl 3 3 0 (([] : List Int).length),VB false,VI 0,VI 0]),(2,.vec 3 (([] : List Int).map encI)),(3,.vec 3 (([] : List Int).map encI))]) (fun h => ?_) (fun v207 h => ?_))
    ·refine Run.so hm (.p2 e e (.nil (.block (.seq (.so hm (.p2 e e (.nil (.condO e h (fun g208 h => ?_) (fun g208 h => ?_)))))))))
     ·refine Run.skip (.condT e g208 (.draw hm hmix (.p e ?_)))
      obtain ⟨x211,hx211,h⟩ := bindO h
      refine OpsD.z 66552 (Ev.iaF e e hx211) e e (.p e (.p e ?_))
      obtain ⟨x212,hx212,h⟩ := bindO h
      refine OpsD.z 66600 (Ev.iaF e e hx212) e e (.p e (.p e (.y 66648 (.sto e e e e e e) e e (.p e (.y 66680 (.sto e e e e e e) e e (.nil ⟨by kernel_rfl,?_⟩))))))
      exact ⟨_,_,(gh_pk [4,7] [0,1,2,3] hB e e e e),_,h,e,e⟩
     ·refine Run.ops hm (.p2 e e (.nil (.condO e h (fun g213 h => ?_) (fun g213 h => ?_))))
      ·refine Run.draw hm hmix (.p e ?_)
       obtain ⟨x216,hx216,h⟩ := bindO h
       refine OpsD.z 66552 (Ev.iaF e e hx216) e e (.p e (.p e ?_))
       obtain ⟨x217,hx217,h⟩ := bindO h
       refine OpsD.z 66600 (Ev.iaF e e hx217) e e (.p e (.p e (.y 66648 (.sto e e e e e e) e e (.p e (.y 66680 (.sto e e e e e e) e e (.nil ⟨by kernel_rfl,?_⟩))))))
       exact ⟨_,_,(gh_pk [4,7] [0,1,2,3] hB e e e e),_,h,e,e⟩
      ·refine Run.seq (.so hm (.p2 e e (.nil (.condO e h (fun g218 h => ?_) (fun g218 h => ?_)))))
       ·refine Run.skip (.condT e g218 (.draw hm hmix (.p e ?_)))
        obtain ⟨x220,hx220,h⟩ := bindO h
        refine OpsD.z 82936 (Ev.iaF e e hx220) e e (.p e (.p e (.y 82984 (.sto e e e e e e) e e (.p e (.y 83016 (.sto e e e e e e) e e (.nil ⟨by kernel_rfl,?_⟩))))))
        exact ⟨_,_,(gh_pk [4,7] [0,1,2,3] hB e e e e),_,h,e,e⟩
       ·refine Run.so hm (.p2 e e (.nil (.condO e h (fun g221 h => ?_) (fun g221 h => ?_))))
        ·refine Run.skip (.condT e g221 (.draw hm hmix (.p e ?_)))
         obtain ⟨x223,hx223,h⟩ := bindO h
         refine OpsD.z 82936 (Ev.iaF e e hx223) e e (.p e (.p e (.y 82984 (.sto e e e e e e) e e (.p e (.y 83016 (.sto e e e e e e) e e (.nil ⟨by kernel_rfl,?_⟩))))))
         exact ⟨_,_,(gh_pk [4,7] [0,1,2,3] hB e e e e),_,h,e,e⟩
        ·refine Run.ops hm (.p2 e e (.nil (.condO e h (fun g224 h => ?_) (fun g224 h => ?_))))
         ·refine Run.draw hm hmix (.p e ?_)
          obtain ⟨x226,hx226,h⟩ := bindO h
          refine OpsD.z 82936 (Ev.iaF e e hx226) e e (.p e (.p e (.y 82984 (.sto e e e e e e) e e (.p e (.y 83016 (.sto e e e e e e) e e (.nil ⟨by kernel_rfl,?_⟩))))))
          exact ⟨_,_,(gh_pk [4,7] [0,1,2,3] hB e e e e),_,h,e,e⟩
         ·refine Run.so hm (.p2 e e (.nil (.condO e h (fun g227 h => ?_) (fun g227 h => ?_))))
          ·refine Run.ops hm (.p e ?_)
           obtain ⟨x229,hx229,h⟩ := bindO h
           exact Ops.z 91128 (Ev.iaF e e hx229) e e (.p2 e e (.y 91176 (.sto e e e e e e) e e (.p2 e e (.y 91224 (.sto e e e e e e) e e (.nil (⟨_,_,(gh_pk [4,7] [0,1,2,3] hB e e e e),_,h,e,e⟩))))))
          ·refine Run.ops hm (.p e ?_)
           obtain ⟨x231,hx231,h⟩ := bindO h
           exact Ops.z 54264 (Ev.iaF e e hx231) e e (.p2 e e (.y 54312 (.sto e e e e e e) e e (.nil (⟨_,_,(gh_pk [4,7] [0,1,2,3] hB e e e e),_,h,e,e⟩))))
    ·refine Run.so hm (.p e (.y 95224 (.sto e e e e e e) e e (.p e (.nil (.ret ?_)))))
     obtain rfl := someO h
     exact Ends.mkG (.inl e) e (gh_pk [0,1] [3] hB e e e e) e e
def impl_eventOf (N : Nat) (x1 : (List ByteArray)) : Option (Event × Bool) :=
 (at? x1 0).bind fun x228 =>
 (if (decide (x228 = (⟨#[103,101,116]⟩ : ByteArray))) = true then
 (impl_callEvent N x1).bind fun y231 =>
 some (y231.1,y231.2)
 else
 (if (decide (x228 = (⟨#[99,117,116]⟩ : ByteArray))) = true then
 (impl_callEvent N x1).bind fun y234 =>
 some (y234.1,y234.2)
 else
 (if (decide (x228 = (⟨#[112,117,116]⟩ : ByteArray))) = true then
 (impl_callEvent N x1).bind fun y237 =>
 some (y237.1,y237.2)
 else
 (if (decide (x228 = (⟨#[115,119,97,112]⟩ : ByteArray))) = true then
 (impl_callEvent N x1).bind fun y240 =>
 some (y240.1,y240.2)
 else
 (if (decide (x228 = (⟨#[99,111,110,102]⟩ : ByteArray))) = true then
 (if ((x1.length : Int) != 3) = true then
 some ((Event.mk 0 0 0 0 (Command.mk 0 0 0 (⟨#[]⟩ : ByteArray) (⟨#[]⟩ : ByteArray) (⟨#[]⟩ : ByteArray)) ([]) false 0 0),false)
 else
 (at? x1 1).bind fun x250 =>
 (impl_ReadDecimal N x250).bind fun y251 =>
 (at? x1 2).bind fun x258 =>
 (impl_confOf N x258).bind fun y259 =>
 (if y251.2 = true then
 some ((Event.mk 6 y251.1 0 0 (Command.mk 0 0 0 (⟨#[]⟩ : ByteArray) (⟨#[]⟩ : ByteArray) (⟨#[]⟩ : ByteArray)) y259.1 false 0 0),y259.2)
 else
 some ((Event.mk 6 y251.1 0 0 (Command.mk 0 0 0 (⟨#[]⟩ : ByteArray) (⟨#[]⟩ : ByteArray) (⟨#[]⟩ : ByteArray)) y259.1 false 0 0),false)))
 else
 (drop? x1 1).bind fun x268 =>
 (impl_numbersOf N x268).bind fun y269 =>
 (if (!y269.2) = true then
 some ((Event.mk 0 0 0 0 (Command.mk 0 0 0 (⟨#[]⟩ : ByteArray) (⟨#[]⟩ : ByteArray) (⟨#[]⟩ : ByteArray)) ([]) false 0 0),false)
 else
 (at? x1 0).bind fun x274 =>
 (impl_plainEvent N x274 y269.1).bind fun y275 =>
 some (y275.1,y275.2)))))))
theorem sem_impl_eventOf (N : Nat) (x1 : (List ByteArray)) (r : Event × Bool) (h : impl_eventOf N x1 = some r) : Says Tryz.prog 41 [RO 9 (x1.map encS)] 0 [] (.tup [.agg [VI r.1.Kind,VI r.1.Node,VI r.1.At,VI r.1.Limit,VI r.1.Command.Op,VI r.1.Command.Session,VI r.1.Command.Seq,VS r.1.Command.Key,VS r.1.Command.Value,VS r.1.Command.Old,.sl 0 3 0 r.1.Conf.length,VB r.1.Cut,VI r.1.Whole,VI r.1.Part],VB r.2]) [(0,.vec 3 (r.1.Conf.map encI))] := by
 unfold impl_eventOf at h
 refine Says.of_norm e Tryz.call41 e fun B hB => ?_
 have hm : B.m ≤ 1000 := by omega
 refine Run.so hm (.z 1000 (.al e e) e e (.p e (.nil (.seq (.so hm (.p e ?_))))))
 obtain ⟨x228,hx228,h⟩ := bindO h
 refine Ops.z 5112 (Ev.iaF e e hx228) e e (.p e (.nil (.block (.seq (.so hm (.p2 e e (.nil (.condO e h (fun g229 h => ?_) (fun g229 h => ?_)))))))))
 ·refine Run.skip (.condT e g229 (.so hm (.p e ?_)))
  obtain ⟨y231,hy231,h⟩ := bindO h
  refine Ops.z 25592 (Ev.call [] [] 1 (sem_impl_callEvent _ _ _ hy231) e e (.d1 .nil) e (.inl e) e e) e e (.p2 e e (.y 25640 (.sto e e e e e e) e e (.p e (.nil (.ret ?_)))))
  obtain rfl := someO h
  exact Ends.mkG (.inl e) e (gh_pk [0,1] [25592] hB e e e e) e e
 ·refine Run.so hm (.p2 e e (.nil (.condO e h (fun g232 h => ?_) (fun g232 h => ?_))))
  ·refine Run.skip (.condT e g232 (.so hm (.p e ?_)))
   obtain ⟨y234,hy234,h⟩ := bindO h
   refine Ops.z 25592 (Ev.call [] [] 1 (sem_impl_callEvent _ _ _ hy234) e e (.d1 .nil) e (.inl e) e e) e e (.p2 e e (.y 25640 (.sto e e e e e e) e e (.p e (.nil (.ret ?_)))))
   obtain rfl := someO h
   exact Ends.mkG (.inl e) e (gh_pk [0,1] [25592] hB e e e e) e e
  ·refine Run.so hm (.p2 e e (.nil (.condO e h (fun g235 h => ?_) (fun g235 h => ?_))))
   ·refine Run.skip (.condT e g235 (.so hm (.p e ?_)))
    obtain ⟨y237,hy237,h⟩ := bindO h
    refine Ops.z 25592 (Ev.call [] [] 1 (sem_impl_callEvent _ _ _ hy237) e e (.d1 .nil) e (.inl e) e e) e e (.p2 e e (.y 25640 (.sto e e e e e e) e e (.p e (.nil (.ret ?_)))))
    obtain rfl := someO h
    exact Ends.mkG (.inl e) e (gh_pk [0,1] [25592] hB e e e e) e e
   ·refine Run.ops hm (.p2 e e (.nil (.condO e h (fun g238 h => ?_) (fun g238 h => ?_))))
    ·refine Run.so hm (.p e ?_)
     obtain ⟨y240,hy240,h⟩ := bindO h
     refine Ops.z 25592 (Ev.call [] [] 1 (sem_impl_callEvent _ _ _ hy240) e e (.d1 .nil) e (.inl e) e e) e e (.p2 e e (.y 25640 (.sto e e e e e e) e e (.p e (.nil (.ret ?_)))))
     obtain rfl := someO h
     exact Ends.mkG (.inl e) e (gh_pk [0,1] [25592] hB e e e e) e e
    ·refine Run.so hm (.p2 e e (.nil (.condO e h (fun g241 h => ?_) (fun g241 h => ?_))))
     ·refine Run.seq (.so hm (.p e (.z 33784 (Ev.lnF e) e e (.p e (.nil (.condO e h (fun g243 h => ?_) (fun g243 h => ?_)))))))
      ·refine Run.so hm (.z 37864 (.bd e e) e e (.y 37880 (.sto e e e e e e) e e (.p e (.nil (.ret ?_)))))
       obtain rfl := someO h
       exact Ends.mkG (.inl e) e (Gh.trans (Gh.trans (gh_prn [0,1] [] hB e) (gh_nil [0] [] hB e e e)) (gh_pk [0,1] [10000000] hB e e e e)) e e
      ·refine Run.skip (.so hm (.p e ?_))
       obtain ⟨x250,hx250,h⟩ := bindO h
       refine Ops.z 41976 (Ev.iaF e e hx250) e e (.p e ?_)
       obtain ⟨y251,hy251,h⟩ := bindO h
       refine Ops.z 42008 (Ev.call [] [] 0 (sem_impl_ReadDecimal _ _ _ hy251) e e (.d1 .nil) e (.inl e) e e) e e (.p3 e e e (.p2 e e (.nil (.so hm (.p e ?_)))))
       obtain ⟨x258,hx258,h⟩ := bindO h
       refine Ops.z 46072 (Ev.iaF e e hx258) e e (.p e ?_)
       obtain ⟨y259,hy259,h⟩ := bindO h
       refine Ops.z 46104 (Ev.call [] [] 1 (sem_impl_confOf _ _ _ hy259) e e (.d1 .nil) e (.inl e) e e) e e (.p3 e e e (.p2 e e (.nil (.so hm (.p2 e e (.z 50184 (.bd e e) e e (.p2 e e (.askO (x := .t 46) e h (fun g261 h => ?_) (fun g261 h => ?_)))))))))
       ·refine Ops.gp e g261 e (.z 50248 (.pkT e g261 e) e e (.y 50264 (.sto e e e e e e) e e (.p e (.nil (.ret ?_)))))
        obtain rfl := someO h
        exact Ends.mkG (.inl e) e (gh_pk [0,1] [46104] hB e e e e) e e
       ·refine Ops.gn e g261 (.z 50248 (.pkF e g261 e) e e (.y 50264 (.sto e e e e e e) e e (.p e (.nil (.ret ?_)))))
        obtain rfl := someO h
        exact Ends.mkG (.inl e) e (gh_pk [0,1] [46104] hB e e e e) e e
     ·refine Run.skip (.so hm (.p e ?_))
      obtain ⟨x268,hx268,h⟩ := bindO h
      refine Ops.z 54264 (Ev.slFl e e hx268) e e ?_
      obtain ⟨y269,hy269,h⟩ := bindO h
      refine Ops.z 54280 (Ev.call [] [] 1 (sem_impl_numbersOf _ _ _ hy269) e e (.d1 .nil) e (.inl e) e e) e e (.p3 e e e (.p2 e e (.nil (.seq (.so hm (.p2 e e (.nil (.condO e h (fun g271 h => ?_) (fun g271 h => ?_)))))))))
      ·refine Run.so hm (.z 62440 (.bd e e) e e (.y 62456 (.sto e e e e e e) e e (.p e (.nil (.ret ?_)))))
       obtain rfl := someO h
       exact Ends.mkG (.inl e) e (Gh.trans (Gh.trans (gh_prn [0,1] [] hB e) (gh_nil [0] [] hB e e e)) (gh_pk [0,1] [10000000] hB e e e e)) e e
      ·refine Run.skip (.so hm (.p e ?_))
       obtain ⟨x274,hx274,h⟩ := bindO h
       refine Ops.z 66552 (Ev.iaF e e hx274) e e (.p2 e e ?_)
       obtain ⟨y275,hy275,h⟩ := bindO h
       refine Ops.z 66600 (Ev.call [] [54280] 1 (sem_impl_plainEvent _ _ _ _ hy275) e e (.d1 (.cons (.borrow e (by decide) (lendW (fun _ => e) _ e)) .nil)) e (.inr ⟨e,ownL_root ⟨own_rows (fun _ => e) _,trivial⟩⟩) e e) e e ?_
       refine Ops.p e (.p e (.y 66648 (.sto e e e e e e) e e (.p e (.nil (.ret ?_)))))
       obtain rfl := someO h
       exact Ends.mkG (.inl e) e (gh_pk [0,1] [66600] hB e e e e) e e
def impl_poweredOf (N : Nat) (x1 : (List ByteArray)) : Option (Event × Bool) :=
 (at? x1 0).bind fun x148 =>
 (if (!decide (x148 = (⟨#[112,111,119,101,114]⟩ : ByteArray))) = true then
 (impl_eventOf N x1).bind fun y151 =>
 some (y151.1,y151.2)
 else
 (if (decide ((x1.length : Int) < 4)) = true then
 some ((Event.mk 0 0 0 0 (Command.mk 0 0 0 (⟨#[]⟩ : ByteArray) (⟨#[]⟩ : ByteArray) (⟨#[]⟩ : ByteArray)) ([]) false 0 0),false)
 else
 (cut? x1 1 3).bind fun x160 =>
 (impl_numbersOf N x160).bind fun y161 =>
 (drop? x1 3).bind fun x168 =>
 (impl_eventOf N x168).bind fun y169 =>
 (if (!y161.2) = true then
 some ((Event.mk 0 0 0 0 (Command.mk 0 0 0 (⟨#[]⟩ : ByteArray) (⟨#[]⟩ : ByteArray) (⟨#[]⟩ : ByteArray)) ([]) false 0 0),false)
 else
 (if (!y169.2) = true then
 some ((Event.mk 0 0 0 0 (Command.mk 0 0 0 (⟨#[]⟩ : ByteArray) (⟨#[]⟩ : ByteArray) (⟨#[]⟩ : ByteArray)) ([]) false 0 0),false)
 else
 (at? y161.1 0).bind fun x182 =>
 (at? y161.1 1).bind fun x183 =>
 some ((Event.mk y169.1.Kind y169.1.Node y169.1.At y169.1.Limit y169.1.Command y169.1.Conf true x182 x183),true)))))
theorem sem_impl_poweredOf (N : Nat) (x1 : (List ByteArray)) (r : Event × Bool) (h : impl_poweredOf N x1 = some r) : Says Tryz.prog 22 [RO 9 (x1.map encS)] 0 [] (.tup [.agg [VI r.1.Kind,VI r.1.Node,VI r.1.At,VI r.1.Limit,VI r.1.Command.Op,VI r.1.Command.Session,VI r.1.Command.Seq,VS r.1.Command.Key,VS r.1.Command.Value,VS r.1.Command.Old,.sl 0 3 0 r.1.Conf.length,VB r.1.Cut,VI r.1.Whole,VI r.1.Part],VB r.2]) [(0,.vec 3 (r.1.Conf.map encI))] := by
 unfold impl_poweredOf at h
 refine Says.of_norm e Tryz.call22 e fun B hB => ?_
 have hm : B.m ≤ 1000 := by omega
 refine Run.so hm (.z 1000 (.al e e) e e (.p e (.nil (.seq (.so hm (.p e ?_))))))
 obtain ⟨x148,hx148,h⟩ := bindO h
 refine Ops.z 5112 (Ev.iaF e e hx148) e e (.p2 e e (.nil (.condO e h (fun g149 h => ?_) (fun g149 h => ?_))))
 ·refine Run.so hm (.p e ?_)
  obtain ⟨y151,hy151,h⟩ := bindO h
  refine Ops.z 9208 (Ev.call [] [] 1 (sem_impl_eventOf _ _ _ hy151) e e (.d1 .nil) e (.inl e) e e) e e (.p2 e e (.y 9256 (.sto e e e e e e) e e (.p e (.nil (.ret ?_)))))
  obtain rfl := someO h
  exact Ends.mkG (.inl e) e (gh_pk [0,1] [9208] hB e e e e) e e
 ·refine Run.skip (.seq (.so hm (.p e (.z 13304 (Ev.lnF e) e e (.p e (.nil (.condO e h (fun g153 h => ?_) (fun g153 h => ?_))))))))
  ·refine Run.so hm (.z 17384 (.bd e e) e e (.y 17400 (.sto e e e e e e) e e (.p e (.nil (.ret ?_)))))
   obtain rfl := someO h
   exact Ends.mkG (.inl e) e (Gh.trans (Gh.trans (gh_prn [0,1] [] hB e) (gh_nil [0] [] hB e e e)) (gh_pk [0,1] [10000000] hB e e e e)) e e
  ·refine Run.skip (.so hm (.p e ?_))
   obtain ⟨x160,hx160,h⟩ := bindO h
   refine Ops.z 21496 (Ev.slF e e e hx160) e e ?_
   obtain ⟨y161,hy161,h⟩ := bindO h
   refine Ops.z 21512 (Ev.call [] [] 1 (sem_impl_numbersOf _ _ _ hy161) e e (.d1 .nil) e (.inl e) e e) e e (.p3 e e e (.p2 e e (.nil (.so hm (.p e ?_)))))
   obtain ⟨x168,hx168,h⟩ := bindO h
   refine Ops.z 25592 (Ev.slFl e e hx168) e e ?_
   obtain ⟨y169,hy169,h⟩ := bindO h
   refine Ops.z 25608 (Ev.call [] [] 1 (sem_impl_eventOf _ _ _ hy169) e e (.d1 .nil) e (.inl e) e e) e e (.p3 e e e (.z 25672 (.al e e) e e (.y 25688 (.sto e e e e e e) e e (.p e (.nil (.seq (.so hm (.p3 e e e (.askO (x := .t 34) e h (fun g174 h => ?_) (fun g174 h => ?_))))))))))
   ·refine Ops.gn e g174 (.gn e g174 (.z 29752 (.pkT e g174 e) e e (.nil (.condT e e (.so hm (.z 33768 (.bd e e) e e (.y 33784 (.sto e e e e e e) e e (.p e (.nil (.ret ?_))))))))))
    obtain rfl := someO h
    exact Ends.mkG (.inl e) e (Gh.trans (Gh.trans (gh_prn [0,1] [] hB e) (gh_nil [0] [] hB e e e)) (gh_pk [0,1] [10000000] hB e e e e)) e e
   ·refine Ops.gp e g174 e (.gp e g174 e (.z 29752 (.pkF e g174 e) e e (.nil (.condO e h (fun g175 h => ?_) (fun g175 h => ?_)))))
    ·refine Run.so hm (.z 33768 (.bd e e) e e (.y 33784 (.sto e e e e e e) e e (.p e (.nil (.ret ?_)))))
     obtain rfl := someO h
     exact Ends.mkG (.inl e) e (Gh.trans (Gh.trans (gh_prn [0,1] [] hB e) (gh_nil [0] [] hB e e e)) (gh_pk [0,1] [10000000] hB e e e e)) e e
    ·refine Run.skip (.seq (.draw hm hmix (.p e ?_)))
     obtain ⟨x182,hx182,h⟩ := bindO h
     refine OpsD.z 37880 (Ev.iaW e e e hx182) e e (.z 37896 (Ev.ldE (f := encI) e e (at_some hx182).2 e e e) e e (.p e ?_))
     obtain ⟨x183,hx183,h⟩ := bindO h
     refine OpsD.z 37928 (Ev.iaW e e e hx183) e e (.z 37944 (Ev.ldE (f := encI) e e (at_some hx183).2 e e e) e e (.p e (.y 37976 (.sto e e e e e e) e e (.p e (.y 38008 (.sto e e e e e e) e e (.p e (.y 38040 (.sto e e e e e e) e e (.nil ⟨by kernel_rfl,?_⟩))))))))
     refine Run.so hm (.p e (.y 41976 (.sto e e e e e e) e e (.p e (.nil (.ret ?_)))))
     obtain rfl := someO h
     exact Ends.mkG (.inl e) e (gh_pk [0,1] [25608] hB e e e e) e e
def impl_CommandOk (N : Nat) (x1 : Command) : Option (Bool) :=
 joinP (fun (v130 : Bool × Bool) =>
 (impl_within N x1.Session 0 100000).bind fun y143 =>
 (if y143 = true then
 (impl_within N x1.Seq 0 100000).bind fun y145 =>
 (if y145 = true then
 (impl_within N (x1.Key.size : Int) 1 9).bind fun y147 =>
 (if y147 = true then
 (if v130.1 = true then
 some v130.2
 else
 some false)
 else
 some false)
 else
 some false)
 else
 some false)) fun j130 =>
 (if (x1.Op == 1) = true then
 some (((x1.Op == 1) && ((x1.Session == 0) && ((x1.Seq == 0) && (decide (x1.Key = (⟨#[]⟩ : ByteArray)) && (decide (x1.Value = (⟨#[]⟩ : ByteArray)) && (decide (x1.Old = (⟨#[]⟩ : ByteArray)) && true)))))) ^^ false)
 else
 (if (x1.Op == 2) = true then
 j130 (decide (x1.Value = (⟨#[]⟩ : ByteArray)),decide (x1.Old = (⟨#[]⟩ : ByteArray)))
 else
 (if (x1.Op == 4) = true then
 j130 (decide (x1.Value = (⟨#[]⟩ : ByteArray)),decide (x1.Old = (⟨#[]⟩ : ByteArray)))
 else
 (if (x1.Op == 3) = true then
 j130 (decide ((x1.Value.size : Int) ≤ 12),decide (x1.Old = (⟨#[]⟩ : ByteArray)))
 else
 (if (x1.Op == 5) = true then
 j130 (decide ((x1.Value.size : Int) ≤ 12),decide ((x1.Old.size : Int) ≤ 12))
 else
 some false)))))
theorem sem_impl_CommandOk (N : Nat) (x1 : Command) (r : Bool) (h : impl_CommandOk N x1 = some r) : Says Tryz.prog 43 [.agg [VI x1.Op,VI x1.Session,VI x1.Seq,VS x1.Key,VS x1.Value,VS x1.Old]] 0 [] (VB r) [] := by
 unfold impl_CommandOk at h
 refine Says.of_run s43 Tryz.call43 e fun B hB => ?_
 have hm : B.m ≤ 1000 := by omega
 refine Run.so hm (.z 1000 (.bx e e) e e (.p e (.nil (.seq (.draw hm hmix (.p e (.p e (.p e (.p e (.p e (.p e (.p e (.p e (.p e (.p e (.nil ⟨by kernel_rfl,?_⟩))))))))))))))))
 refine Run.seqO h (fun v130 => [(1,.ptr 0 0),(3,VB v130.1),(4,VB v130.2)]) (fun (v130 : Bool × Bool) => [(0,.box [VI x1.Op,VI x1.Session,VI x1.Seq,VS x1.Key,VS x1.Value,VS x1.Old])]) (fun h => ?_) (fun v130 h => ?_)
 ·refine Run.so hm (.p2 e e (.nil (.block (.so hm (.p2 e e (.nil (.condO e h (fun g131 h => ?_) (fun g131 h => ?_))))))))
  ·refine Run.so hm (.p e (.z 21496 (.bd e e) e e (.p2 e e (.nil (.ret ?_)))))
   obtain rfl := someO h
   exact Ends.mkG (.inl e) e (gh_pk [0] [] hB e e e e) e e
  ·refine Run.seq (.so hm (.p2 e e (.nil (.condO e h (fun g132 h => ?_) (fun g132 h => ?_)))))
   ·refine Run.skip (.condT e g132 (.draw hm hmix (.p e (.p e (.p e (.p e (.p e (.p e (.p e (.p e (.nil ⟨by kernel_rfl,?_⟩)))))))))))
    exact ⟨_,_,(gh_pk [1,3,4] [1000] hB e e e e),_,h,e,e⟩
   ·refine Run.ops hm (.p2 e e (.nil (.condO e h (fun g133 h => ?_) (fun g133 h => ?_))))
    ·refine Run.draw hm hmix (.p e (.p e (.p e (.p e (.p e (.p e (.p e (.p e (.nil ⟨by kernel_rfl,?_⟩)))))))))
     exact ⟨_,_,(gh_pk [1,3,4] [1000] hB e e e e),_,h,e,e⟩
    ·refine Run.so hm (.p2 e e (.nil (.condO e h (fun g134 h => ?_) (fun g134 h => ?_))))
     ·exact Run.ops hm (.p3 e e e (.p e (.nil (⟨_,_,(gh_pk [1,3,4] [1000] hB e e e e),_,h,e,e⟩))))
     ·refine Run.so hm (.p2 e e (.nil (.condO e h (fun g135 h => ?_) (fun g135 h => ?_))))
      ·exact Run.skip (⟨_,_,(gh_pk [1,3,4] [1000] hB e e e e),_,h,e,e⟩)
      ·refine Run.so hm (.p e (.nil (.ret ?_)))
       obtain rfl := someO h
       exact Ends.mkG (.inl e) e (gh_pk [0] [] hB e e e e) e e
 ·refine Run.so hm (.p2 e e ?_)
  obtain ⟨y143,hy143,h⟩ := bindO h
  refine Ops.z 50184 (Ev.call [] [] 0 (sem_impl_within _ _ _ _ _ hy143) e e (.d2 (.d1 .nil)) e (.inl e) e e) e e (.p e (.askO (x := .t 39) e h (fun g144 h => ?_) (fun g144 h => ?_)))
  ·refine Ops.gp e g144 e (.gp e g144 e ?_)
   obtain ⟨y145,hy145,h⟩ := bindO h
   refine Ops.gs (s := 50248) e g144 (Ev.call [] [] 0 (sem_impl_within _ _ _ _ _ hy145) e e (.d2 (.d1 .nil)) e (.inl e) e e) e e (.z 50264 (.pkT e g144 e) e e (.p e (.askO (x := .t 44) e h (fun g146 h => ?_) (fun g146 h => ?_))))
   ·refine Ops.gp e g146 e (.gp e g146 e (.gp e g146 e ?_))
    obtain ⟨y147,hy147,h⟩ := bindO h
    refine Ops.gs (s := 50344) e g146 (Ev.call [] [] 0 (sem_impl_within _ _ _ _ _ hy147) e e (.d2 (.d1 .nil)) e (.inl e) e e) e e (.z 50360 (.pkT e g146 e) e e (.p e (.askO (x := .t 50) e h (fun g148 h => ?_) (fun g148 h => ?_))))
    ·refine Ops.gp e g148 e (.z 50408 (.pkT e g148 e) e e (.p e (.askO (x := .t 53) e h (fun g149 h => ?_) (fun g149 h => ?_))))
     ·refine Ops.gp e g149 e (.z 50456 (.pkT e g149 e) e e (.p e (.nil (.ret ?_))))
      obtain rfl := someO h
      exact Ends.mkG (.inl e) e (gh_pk [0] [] hB e e e e) e e
     ·refine Ops.gn e g149 (.z 50456 (.pkF e g149 e) e e (.p e (.nil (.ret ?_))))
      obtain rfl := someO h
      exact Ends.mkG (.inl e) e (gh_pk [0] [] hB e e e e) e e
    ·refine Ops.gn e g148 (.z 50408 (.pkF e g148 e) e e (.p e (.gn e e (.z 50456 (.pkF e e e) e e (.p e (.nil (.ret ?_)))))))
     obtain rfl := someO h
     exact Ends.mkG (.inl e) e (gh_pk [0] [] hB e e e e) e e
   ·refine Ops.gn e g146 (.gn e g146 (.gn e g146 (.gn e g146 (.z 50360 (.pkF e g146 e) e e (.p e (.gn e e (.z 50408 (.pkF e e e) e e (.p e (.gn e e (.z 50456 (.pkF e e e) e e (.p e (.nil (.ret ?_)))))))))))))
    obtain rfl := someO h
    exact Ends.mkG (.inl e) e (gh_pk [0] [] hB e e e e) e e
  ·refine Ops.gn e g144 (.gn e g144 (.gn e g144 (.z 50264 (.pkF e g144 e) e e (.p e (.gn e e (.gn e e (.gn e e (.gn e e (.z 50360 (.pkF e e e) e e (.p e (.gn e e (.z 50408 (.pkF e e e) e e (.p e (.gn e e (.z 50456 (.pkF e e e) e e (.p e (.nil (.ret ?_))))))))))))))))))
   obtain rfl := someO h
   exact Ends.mkG (.inl e) e (gh_pk [0] [] hB e e e e) e e
def impl_EventOk (N : Nat) (x1 : Int) (x2 : Event) : Option (Bool) :=
 (impl_within N x1 1 4).bind fun y161 =>
 (if (!y161) = true then
 some false
 else
 (impl_within N x2.Kind 1 9).bind fun y163 =>
 (if (!y163) = true then
 some false
 else
 (impl_within N x2.Node 1 x1).bind fun y165 =>
 (if (!y165) = true then
 some false
 else
 (if (decide (x2.At < 0)) = true then
 some false
 else
 (if (x2.Kind == 1) = true then
 (impl_within N x2.Limit 1 20).bind fun y170 =>
 some y170
 else
 (if (x2.Kind == 9) = true then
 (impl_within N x2.Limit 1 20).bind fun y173 =>
 some y173
 else
 (if (x2.Kind == 5) = true then
 (impl_CommandOk N x2.Command).bind fun y176 =>
 some y176
 else
 (if (x2.Kind == 6) = true then
 (impl_ConfOk N x2.Conf).bind fun y181 =>
 (if y181 = true then
 (at? x2.Conf (w64 ((x2.Conf.length : Int) - 1))).bind fun x183 =>
 some (decide (x183 ≤ x1))
 else
 some false)
 else
 some true))))))))
theorem sem_impl_EventOk (N : Nat) (x1 : Int) (x2 : Event) (r : Bool) (h : impl_EventOk N x1 x2 = some r) : Says Tryz.prog 23 [VI x1,.agg [VI x2.Kind,VI x2.Node,VI x2.At,VI x2.Limit,VI x2.Command.Op,VI x2.Command.Session,VI x2.Command.Seq,VS x2.Command.Key,VS x2.Command.Value,VS x2.Command.Old,RO 3 (x2.Conf.map encI),VB x2.Cut,VI x2.Whole,VI x2.Part]] 0 [] (VB r) [] := by
 unfold impl_EventOk at h
 refine Says.of_norm e Tryz.call23 e fun B hB => ?_
 have hm : B.m ≤ 1000 := by omega
 refine Run.so hm (.z 1000 (.bx e e) e e (.p e (.nil (.seq (.so hm (.p e ?_))))))
 obtain ⟨y161,hy161,h⟩ := bindO h
 refine Ops.z 5112 (Ev.call [] [] 0 (sem_impl_within _ _ _ _ _ hy161) e e (.d2 (.d1 .nil)) e (.inl e) e e) e e (.p2 e e (.askO (x := .t 8) e h (fun g162 h => ?_) (fun g162 h => ?_)))
 ·refine Ops.gn e g162 (.gn e g162 (.gn e g162 (.gn e g162 (.z 5224 (.pkT e g162 e) e e (.p e (.gn e e (.gn e e (.gn e e (.gn e e (.gn e e (.z 5336 (.pkT e e e) e e (.p e (.gn e e (.gn e e (.gn e e (.z 5416 (.pkT e e e) e e (.nil (.condT e e (.so hm (.p e (.nil (.ret ?_))))))))))))))))))))))
  obtain rfl := someO h
  exact Ends.mkG (.inl e) e (gh_pk [0] [] hB e e e e) e e
 ·refine Ops.gp e g162 e (.gp e g162 e ?_)
  obtain ⟨y163,hy163,h⟩ := bindO h
  refine Ops.gs (s := 5192) e g162 (Ev.call [] [] 0 (sem_impl_within _ _ _ _ _ hy163) e e (.d2 (.d1 .nil)) e (.inl e) e e) e e (.gp e g162 e (.z 5224 (.pkF e g162 e) e e (.p e (.askO (x := .t 14) e h (fun g164 h => ?_) (fun g164 h => ?_)))))
  ·refine Ops.gn e g164 (.gn e g164 (.gn e g164 (.gn e g164 (.gn e g164 (.z 5336 (.pkT e g164 e) e e (.p e (.gn e e (.gn e e (.gn e e (.z 5416 (.pkT e e e) e e (.nil (.condT e e (.so hm (.p e (.nil (.ret ?_))))))))))))))))
   obtain rfl := someO h
   exact Ends.mkG (.inl e) e (gh_pk [0] [] hB e e e e) e e
  ·refine Ops.gp e g164 e (.gp e g164 e (.gp e g164 e ?_))
   obtain ⟨y165,hy165,h⟩ := bindO h
   refine Ops.gs (s := 5304) e g164 (Ev.call [] [] 0 (sem_impl_within _ _ _ _ _ hy165) e e (.d2 (.d1 .nil)) e (.inl e) e e) e e (.gp e g164 e (.z 5336 (.pkF e g164 e) e e (.p e (.askO (x := .t 21) e h (fun g166 h => ?_) (fun g166 h => ?_)))))
   ·refine Ops.gn e g166 (.gn e g166 (.gn e g166 (.z 5416 (.pkT e g166 e) e e (.nil (.condT e e (.so hm (.p e (.nil (.ret ?_)))))))))
    obtain rfl := someO h
    exact Ends.mkG (.inl e) e (gh_pk [0] [] hB e e e e) e e
   ·refine Ops.gp e g166 e (.gp e g166 e (.gp e g166 e (.z 5416 (.pkF e g166 e) e e (.nil (.condO e h (fun g167 h => ?_) (fun g167 h => ?_))))))
    ·refine Run.so hm (.p e (.nil (.ret ?_)))
     obtain rfl := someO h
     exact Ends.mkG (.inl e) e (gh_pk [0] [] hB e e e e) e e
    ·refine Run.skip (.seq (.so hm (.p2 e e (.nil (.block (.seq (.so hm (.p2 e e (.nil (.condO e h (fun g168 h => ?_) (fun g168 h => ?_)))))))))))
     ·refine Run.skip (.condT e g168 (.so hm (.p2 e e ?_)))
      obtain ⟨y170,hy170,h⟩ := bindO h
      refine Ops.z 25608 (Ev.call [] [] 0 (sem_impl_within _ _ _ _ _ hy170) e e (.d2 (.d1 .nil)) e (.inl e) e e) e e (.p e (.nil (.ret ?_)))
      obtain rfl := someO h
      exact Ends.mkG (.inl e) e (gh_pk [0] [] hB e e e e) e e
     ·refine Run.ops hm (.p2 e e (.nil (.condO e h (fun g171 h => ?_) (fun g171 h => ?_))))
      ·refine Run.so hm (.p2 e e ?_)
       obtain ⟨y173,hy173,h⟩ := bindO h
       refine Ops.z 25608 (Ev.call [] [] 0 (sem_impl_within _ _ _ _ _ hy173) e e (.d2 (.d1 .nil)) e (.inl e) e e) e e (.p e (.nil (.ret ?_)))
       obtain rfl := someO h
       exact Ends.mkG (.inl e) e (gh_pk [0] [] hB e e e e) e e
      ·refine Run.so hm (.p2 e e (.nil (.condO e h (fun g174 h => ?_) (fun g174 h => ?_))))
       ·refine Run.so hm (.p2 e e ?_)
        obtain ⟨y176,hy176,h⟩ := bindO h
        refine Ops.z 33800 (Ev.call [] [] 0 (sem_impl_CommandOk _ _ _ hy176) e e (.cons (.agg (.d4 (.d2 .nil))) .nil) e (.inl e) e e) e e (.p e (.nil (.ret ?_)))
        obtain rfl := someO h
        exact Ends.mkG (.inl e) e (gh_pk [0] [] hB e e e e) e e
       ·refine Run.so hm (.p2 e e (.nil (.condO e h (fun g177 h => ?_) (fun g177 h => ?_))))
        ·refine Run.so hm (.p2 e e ?_)
         obtain ⟨y181,hy181,h⟩ := bindO h
         refine Ops.z 41992 (Ev.call [] [] 0 (sem_impl_ConfOk _ _ _ hy181) e e (.d1 .nil) e (.inl e) e e) e e (.p e (.askO (x := .t 44) e h (fun g182 h => ?_) (fun g182 h => ?_)))
         ·refine Ops.gp e g182 e (.gp e g182 e (.gp e g182 e (.gp e g182 e (.gs (s := 42088) e g182 (Ev.lnF e) e e (.gp e g182 e ?_)))))
          obtain ⟨x183,hx183,h⟩ := bindO h
          refine Ops.gs (s := 42120) e g182 (Ev.iaF e e hx183) e e (.gp e g182 e (.gp e g182 e (.gp e g182 e (.z 42184 (.pkT e g182 e) e e (.p e (.nil (.ret ?_)))))))
          obtain rfl := someO h
          exact Ends.mkG (.inl e) e (gh_pk [0] [] hB e e e e) e e
         ·refine Ops.gn e g182 (.gn e g182 (.gn e g182 (.gn e g182 (.gn e g182 (.gn e g182 (.gn e g182 (.gn e g182 (.gn e g182 (.gn e g182 (.z 42184 (.pkF e g182 e) e e (.p e (.nil (.ret ?_)))))))))))))
          obtain rfl := someO h
          exact Ends.mkG (.inl e) e (gh_pk [0] [] hB e e e e) e e
        ·refine Run.skip (.so hm (.p e (.nil (.ret ?_))))
         obtain rfl := someO h
         exact Ends.mkG (.inl e) e (gh_pk [0] [] hB e e e e) e e
def impl_ReadScript_l1 (N : Nat) (y379 : Nat × (List ByteArray)) (v385 : Nat) : Nat → Int → Int → (List Int) → (List Event) → Option ((Int × (List Int) × (List Event) × Int) ⊕ (Int × (List Int) × (List Event)))
 | 0,_,_,_,_ => none
 | m + 1,x524,x527,x528,x529 =>
 (if (decide (x527 < ((v385 : Nat) : Int))) = true then
 (at? (y379.2.take v385) x527).bind fun x597 =>
 (impl_PartsOf N x597).bind fun y601 =>
 (if (!y601.2) = true then
 some (Sum.inl (0,[],[],w64 (x527 + 1)))
 else
 (if (((y601.1.length : Nat) : Int) == 0) = true then
 impl_ReadScript_l1 N y379 v385 m x524 (w64 (x527 + 1)) x528 x529
 else
 (at? y601.1 0).bind fun x615 =>
 (strings_HasPrefix N x615 (⟨#[35]⟩ : ByteArray)).bind fun y616 =>
 (if y616 = true then
 impl_ReadScript_l1 N y379 v385 m x524 (w64 (x527 + 1)) x528 x529
 else
 (if (x524 == 0) = true then
 (impl_clusterOf N y601.1).bind fun y628 =>
 (if (!y628.2.2) = true then
 some (Sum.inl (0,[],[],w64 (x527 + 1)))
 else
 impl_ReadScript_l1 N y379 v385 m y628.1 (w64 (x527 + 1)) y628.2.1 x529)
 else
 (impl_poweredOf N y601.1).bind fun y633 =>
 (if (!y633.2) = true then
 some (Sum.inl (0,[],[],w64 (x527 + 1)))
 else
 (impl_EventOk N x524 y633.1).bind fun y645 =>
 (if (!y645) = true then
 some (Sum.inl (0,[],[],w64 (x527 + 1)))
 else
 (if (((x529.length : Nat) : Int) == 60) = true then
 some (Sum.inl (0,[],[],w64 (x527 + 1)))
 else
 (cat? x529 ([y633.1] : List Event)).bind fun x649 =>
 impl_ReadScript_l1 N y379 v385 m x524 (w64 (x527 + 1)) x528 x649)))))))
 else
 some (Sum.inr (x524,x528,x529)))
def impl_ReadScript (N : Nat) (x1 : ByteArray) : Option (Int × (List Int) × (List Event) × Int) :=
 (strings_Split N x1 (⟨#[10]⟩ : ByteArray)).bind fun y379 =>
 joinP (fun (v385 : Nat) =>
 (if (decide ((x1.size : Int) > 8000)) = true then
 some (0,[],[],(-1 : Int))
 else
 (if (decide (((v385 : Nat) : Int) > 90)) = true then
 some (0,[],[],(-1 : Int))
 else
 joinP (fun (v523 : Int × (List Int) × (List Event)) =>
 (if (v523.1 == 0) = true then
 some (0,[],[],1)
 else
 some (v523.1,v523.2.1,v523.2.2,0))) fun j523 =>
 (impl_ReadScript_l1 N y379 v385 N 0 0 ([] : (List Int)) ([] : (List Event))).bind (Sum.elim (fun v589 => some v589) (fun (v590 : Int × (List Int) × (List Event)) => j523 (v590.1,v590.2.1,v590.2.2)))))) fun j385 =>
 (at? (y379.2.take y379.1) (w64 (((y379.1 : Nat) : Int) - 1))).bind fun x387 =>
 (if (decide (x387 = (⟨#[]⟩ : ByteArray))) = true then
 (take? y379.2 (w64 (((y379.1 : Nat) : Int) - 1))).bind fun x390 =>
 j385 ((w64 (((y379.1 : Nat) : Int) - 1)).toNat)
 else
 j385 y379.1)
theorem sem_impl_ReadScript (N : Nat) (x1 : ByteArray) (r : Int × (List Int) × (List Event) × Int) (h : impl_ReadScript N x1 = some r) : Says Tryz.prog 5 [VS x1] 0 [] (.tup [VI r.1,.sl 0 3 0 r.2.1.length,.sl 1 53 0 r.2.2.1.length,VI r.2.2.2]) [(0,.vec 3 (r.2.1.map encI)),(1,.vec 53 (r.2.2.1.map (encEvent true)))] := by
 unfold impl_ReadScript at h
 refine Says.of_norm e Tryz.call5 e fun B hB => ?_
 have hm : B.m ≤ 1000 := by omega
 refine Run.so hm (.p3 e e e (.p e (.nil (.so hm (.p e ?_)))))
 obtain ⟨y379,hy379,h⟩ := bindO h
 refine Ops.z 5112 (Ev.call [] [] 1 (sem_strings_Split _ _ _ _ hy379) e e (.d2 .nil) e (.inl e) e e) e e (.p e (.nil (.seqO h (fun v385 => [(0,VS x1),(6,.sl 0 9 0 v385)]) (fun (v385 : Nat) => [(0,.vec 9 (y379.2.map encS))]) (fun h => ?_) (fun v385 h => ?_))))
 ·refine Run.so hm (.p3 e e e (.p e ?_))
  obtain ⟨x387,hx387,h⟩ := bindO h
  refine Ops.z 9256 (Ev.iaP (xs := y379.2) e e hx387) e e (.z 9272 (Ev.ldE (f := encS) e e (at_part hx387) e e e) e e (.p e (.nil (.condO e h (fun g388 h => ?_) (fun g388 h => ?_)))))
  ·refine Run.ops hm (.p3 e e e (.p e ?_))
   obtain ⟨x390,hx390,h⟩ := bindO h
   exact Ops.z 13352 (Ev.slXh (xs := y379.2) e e e hx390) e e (.p e (.nil (⟨_,_,(gh_pk [0,6] [5112] hB e e e e),_,h,e,e⟩)))
  ·exact Run.skip (⟨_,_,(gh_pk [0,6] [5112] hB e e e e),_,h,e,e⟩)
 ·refine Run.seq (.so hm (.p3 e e e (.p e (.askO (x := .t 33) e h (fun g395 h => ?_) (fun g395 h => ?_)))))
  ·refine Ops.gn e g395 (.gn e g395 (.gn e g395 (.z 17496 (.pkT e g395 e) e e (.nil (.condT e e (.so hm (.p3 e e e (.p e (.nil (.ret ?_))))))))))
   obtain rfl := someO h
   exact Ends.mkG (.inl e) e (Gh.trans (Gh.trans (gh_prn [0,1,2,3] [] hB e) (gh_nil [1,2] [] hB e e e)) (gh_pk [0,1,2,3] [10000000,10000064] hB e e e e)) e e
  ·refine Ops.gp e g395 e (.gp e g395 e (.gp e g395 e (.z 17496 (.pkF e g395 e) e e (.nil (.condO e h (fun g396 h => ?_) (fun g396 h => ?_))))))
   ·refine Run.so hm (.p3 e e e (.p e (.nil (.ret ?_))))
    obtain rfl := someO h
    exact Ends.mkG (.inl e) e (Gh.trans (Gh.trans (gh_prn [0,1,2,3] [] hB e) (gh_nil [1,2] [] hB e e e)) (gh_pk [0,1,2,3] [10000000,10000064] hB e e e e)) e e
   ·refine Run.skip (.so hm (.p3 e e e (.nil (.seqO h (fun v523 => [(7,VI v523.1),(8,.sl 0 3 0 v523.2.1.length),(9,.sl 1 53 0 v523.2.2.length)]) (fun (v523 : Int × (List Int) × (List Event)) => [(0,.vec 3 (v523.2.1.map encI)),(1,.vec 53 (v523.2.2.map (encEvent true)))]) (fun h => ?_) (fun v523 h => ?_)))))
    ·refine Run.so hm (.p3 e e e (.nil (.block ?_)))
     obtain ⟨res590,h,hk590⟩ := bindO h
     refine Run.loop (n := N) (fun m590 fr σ => ∃ (x524 : Int),∃ (x527 : Int),∃ (x528 : (List Int)),∃ (x529 : (List Event)),impl_ReadScript_l1 N y379 v385 m590 x524 x527 x528 x529 = some res590 ∧ fr = [(7,VI x524),(8,.sl 0 3 0 x528.length),(9,.sl 1 53 0 x529.length),(38,.sl 2 9 0 v385),(39,VI ((v385 : Nat) : Int)),(40,VI x527)] ∧ σ = [(0,.vec 3 (x528.map encI)),(1,.vec 53 (x529.map (encEvent true))),(2,.vec 9 (y379.2.map encS))]) (Gh.trans (Gh.trans (gh_prn [7,8,9,38,39,40] [0] hB e) (gh_nil [8,9] [] hB e e e)) (gh_pk [7,8,9,38,39,40] [10000000,10000064,0] hB e e e e)) ⟨_,_,_,_,h,e,e⟩ ?_
     rintro m590 fr σ ⟨x524,x527,x528,x529,h,rfl,rfl⟩
     obtain _ | m590 := m590
     ·rw [impl_ReadScript_l1] at h; cases h
     rw [impl_ReadScript_l1] at h
     refine Run.so hm (.p e (.nil (.seq (.condO e h (fun g593 h => ?_) (fun g593 h => ?_)))))
     ·refine Run.skip (.seq (.block (.so hm (.p e ?_))))
      obtain ⟨x597,hx597,h⟩ := bindO h
      refine Ops.z 37880 (Ev.iaP (xs := y379.2) e e hx597) e e (.z 37896 (Ev.ldE (f := encS) e e (at_part hx597) e e e) e e (.p2 e e (.nil (.so hm (.p e ?_)))))
      obtain ⟨y601,hy601,h⟩ := bindO h
      refine Ops.z 41976 (Ev.call [] [] 1 (sem_impl_PartsOf _ _ _ hy601) e e (.d1 .nil) e (.inl e) e e) e e (.p3 e e e (.p2 e e (.nil (.seq (.so hm (.p2 e e (.nil (.condO e h (fun g603 h => ?_) (fun g603 h => ?_)))))))))
      ·refine Run.so hm (.p3 e e e (.p3 e e e (.nil (.ret ?_))))
       obtain rfl := someO h
       have h := hk590
       replace h := inlO h
       obtain rfl := someO h
       exact Ends.mkG (.inl e) e (Gh.trans (Gh.trans (gh_prn [0,1,2,3] [] hB e) (gh_nil [1,2] [] hB e e e)) (gh_pk [0,1,2,3] [10000000,10000064] hB e e e e)) e e
      ·refine Run.skip (.seq (.so hm (.p3 e e e (.p e (.askO (x := .t 57) e h (fun g614 h => ?_) (fun g614 h => ?_))))))
       ·exact Ops.gn e g614 (.gn e g614 (.gn e g614 (.gn e g614 (.z 54376 (.pkT e g614 e) e e (.nil (.condT e e (.exit (.ops hm (.p2 e e (.nil (⟨m590,Nat.lt_succ_self m590,_,_,(gh_pk [7,8,9,38,39,40] [0,1,2] hB e e e e),_,_,_,_,h,e,e⟩)))))))))))
       ·refine Ops.gp e g614 e ?_
        obtain ⟨x615,hx615,h⟩ := bindO h
        refine Ops.gs (s := 54328) e g614 (Ev.iaW e e e hx615) e e (.gs (s := 54344) e g614 (Ev.ldE (f := encS) e e (at_some hx615).2 e e e) e e ?_)
        obtain ⟨y616,hy616,h⟩ := bindO h
        refine Ops.gs (s := 54360) e g614 (Ev.call [] [] 0 (sem_strings_HasPrefix _ _ _ _ hy616) e e (.d2 .nil) e (.inl e) e e) e e (.z 54376 (.pkF e g614 e) e e (.nil (.condO e h (fun g617 h => ?_) (fun g617 h => ?_))))
        ·exact Run.exit (.ops hm (.p2 e e (.nil (⟨m590,Nat.lt_succ_self m590,_,_,(gh_pk [7,8,9,38,39,40] [0,1,2] hB e e e e),_,_,_,_,h,e,e⟩))))
        ·refine Run.skip (.seq (.so hm (.p2 e e (.nil (.condO e h (fun g624 h => ?_) (fun g624 h => ?_))))))
         ·refine Run.seq (.so hm (.p e ?_))
          obtain ⟨y628,hy628,h⟩ := bindO h
          refine Ops.z 62456 (Ev.call [] [41976] 1 (sem_impl_clusterOf _ _ _ hy628) e e (.cons (.borrow e (by decide) (lendW (fun _ => e) _ e)) .nil) e (.inr ⟨e,ownL_root ⟨own_rows (fun _ => e) _,trivial⟩⟩) e e) e e ?_
          refine Ops.p e (.p3 e e e (.p3 e e e (.nil (.so hm (.p2 e e (.nil (.condO e h (fun g629 h => ?_) (fun g629 h => ?_))))))))
          ·refine Run.so hm (.p3 e e e (.p3 e e e (.nil (.ret ?_))))
           obtain rfl := someO h
           have h := hk590
           replace h := inlO h
           obtain rfl := someO h
           exact Ends.mkG (.inl e) e (Gh.trans (Gh.trans (gh_prn [0,1,2,3] [] hB e) (gh_nil [1,2] [] hB e e e)) (gh_pk [0,1,2,3] [10000000,10000064] hB e e e e)) e e
          ·exact Run.skip (.exit (.ops hm (.p2 e e (.nil (⟨m590,Nat.lt_succ_self m590,_,_,(gh_pk [7,8,9,38,39,40] [62456,1,2] hB e e e e),_,_,_,_,h,e,e⟩)))))
         ·refine Run.skip (.so hm (.p e ?_))
          obtain ⟨y633,hy633,h⟩ := bindO h
          refine Ops.z 74744 (Ev.call [] [41976] 1 (sem_impl_poweredOf _ _ _ hy633) e e (.cons (.borrow e (by decide) (lendW (fun _ => e) _ e)) .nil) e (.inr ⟨e,ownL_root ⟨own_rows (fun _ => e) _,trivial⟩⟩) e e) e e ?_
          refine Ops.p e (.p2 e e (.z 74808 (.al e e) e e (.y 74824 (.sto e e e e e e) e e (.p e (.nil (.seq (.so hm (.p3 e e e (.askO (x := .t 82) e h (fun g644 h => ?_) (fun g644 h => ?_))))))))))
          ·refine Ops.gn e g644 (.gn e g644 (.gn e g644 (.gn e g644 (.z 78936 (.pkT e g644 e) e e (.p e (.gn e e (.gn e e (.gn e e (.z 79016 (.pkT e e e) e e (.nil (.condT e e (.so hm (.p3 e e e (.p3 e e e (.nil (.ret ?_))))))))))))))))
           obtain rfl := someO h
           have h := hk590
           replace h := inlO h
           obtain rfl := someO h
           exact Ends.mkG (.inl e) e (Gh.trans (Gh.trans (gh_prn [0,1,2,3] [] hB e) (gh_nil [1,2] [] hB e e e)) (gh_pk [0,1,2,3] [10000000,10000064] hB e e e e)) e e
          ·refine Ops.gp e g644 e (.gp e g644 e ?_)
           obtain ⟨y645,hy645,h⟩ := bindO h
           refine Ops.gs (s := 78904) e g644 (Ev.call [] [74744] 0 (sem_impl_EventOk _ _ _ _ hy645) e e (.d1 (.cons (.agg (.d4 (.d4 (.d2 (.cons (.borrow e (by decide) (lendW (fun _ => e) _ e)) (.d2 (.d1 .nil))))))) .nil)) e (.inr ⟨e,ownL_root trivial⟩) e e) e e ?_
           refine Ops.gp e g644 e (.z 78936 (.pkF e g644 e) e e (.p e (.askO (x := .t 88) e h (fun g646 h => ?_) (fun g646 h => ?_))))
           ·refine Ops.gn e g646 (.gn e g646 (.gn e g646 (.z 79016 (.pkT e g646 e) e e (.nil (.condT e e (.so hm (.p3 e e e (.p3 e e e (.nil (.ret ?_))))))))))
            obtain rfl := someO h
            have h := hk590
            replace h := inlO h
            obtain rfl := someO h
            exact Ends.mkG (.inl e) e (Gh.trans (Gh.trans (gh_prn [0,1,2,3] [] hB e) (gh_nil [1,2] [] hB e e e)) (gh_pk [0,1,2,3] [10000000,10000064] hB e e e e)) e e
           ·refine Ops.gp e g646 e (.gp e g646 e (.gp e g646 e (.z 79016 (.pkF e g646 e) e e (.nil (.condO e h (fun g647 h => ?_) (fun g647 h => ?_))))))
            ·refine Run.so hm (.p3 e e e (.p3 e e e (.nil (.ret ?_))))
             obtain rfl := someO h
             have h := hk590
             replace h := inlO h
             obtain rfl := someO h
             exact Ends.mkG (.inl e) e (Gh.trans (Gh.trans (gh_prn [0,1,2,3] [] hB e) (gh_nil [1,2] [] hB e e e)) (gh_pk [0,1,2,3] [10000000,10000064] hB e e e e)) e e
            ·refine Run.skip (.ops hm (.p2 e e (.z 87048 (Ev.bsW (ys := ([y633.1] : List Event)) (f := (encEvent true)) e (.d4 (.d4 (.d2 (.cons (.own e (lenmap e)) (.d2 (.d1 .nil)))))) e e e e e) e e ?_)))
             obtain ⟨x649,hx649,h⟩ := bindO h
             exact Ops.z 87064 (Ev.apW (f := (encEvent true)) (ontoW e e e) (addsO e e e) e bt53 e hx649) e e (.p e (.nil (.ops hm (.p2 e e (.nil (⟨m590,Nat.lt_succ_self m590,_,_,(gh_pk [7,8,9,38,39,40] [0,87064,2] hB e e e e),_,_,_,_,h,e,e⟩))))))
     ·refine Run.exit ?_
      obtain rfl := someO h
      have h := hk590
      replace h := inrO h
      exact ⟨_,_,(gh_pk [7,8,9] [0,1] hB e e e e),_,h,e,e⟩
    ·refine Run.seq (.so hm (.p2 e e (.nil (.condO e h (fun g651 h => ?_) (fun g651 h => ?_)))))
     ·refine Run.so hm (.p3 e e e (.p e (.nil (.ret ?_))))
      obtain rfl := someO h
      exact Ends.mkG (.inl e) e (Gh.trans (Gh.trans (gh_prn [0,1,2,3] [] hB e) (gh_nil [1,2] [] hB e e e)) (gh_pk [0,1,2,3] [10000000,10000064] hB e e e e)) e e
     ·refine Run.skip (.so hm (.p3 e e e (.p3 e e e (.p e (.nil (.ret ?_))))))
      obtain rfl := someO h
      exact Ends.mkG (.inl e) e (gh_pk [0,1,2,3] [0,1] hB e e e e) e e
def laws_eqIntS_l1 (N : Nat) (x1 : (List Int)) (x2 : (List Int)) : Nat → Int → Option ((Bool) ⊕ (Unit))
 | 0,_ => none
 | m + 1,x198 =>
 (if (decide (x198 < (x1.length : Int))) = true then
 (at? x1 x198).bind fun x223 =>
 (at? x2 x198).bind fun x224 =>
 (if (x223 != x224) = true then
 some (Sum.inl false)
 else
 laws_eqIntS_l1 N x1 x2 m (w64 (x198 + 1)))
 else
 some (Sum.inr ()))
def laws_eqIntS_l1_r (N : Nat) (x1 : (List Int)) (x2 : (List Int)) : (List Int) → Int → Option ((Bool) ⊕ (Unit))
 | [],x198 =>
 some (Sum.inr ())
 | hd :: tl,x198 =>
 (some hd).bind fun x223 =>
 (at? x2 x198).bind fun x224 =>
 (if (x223 != x224) = true then
 some (Sum.inl false)
 else
 laws_eqIntS_l1_r N x1 x2 tl (w64 (x198 + 1)))
theorem laws_eqIntS_l1_rng (N : Nat) (x1 : (List Int)) (x2 : (List Int)) (hx : x1.length ≤ 1099511627776) : ∀ (d k m : Nat),x1.length = k + d → d < m → laws_eqIntS_l1 N x1 x2 m (k : Int) = laws_eqIntS_l1_r N x1 x2 (x1.drop k) (k : Int) := by
 intro d
 induction d with
 | zero =>
  intro k m hd hm
  obtain ⟨m,rfl⟩ : ∃ q,m = q + 1 := ⟨m - 1,by omega⟩
  rw [laws_eqIntS_l1,if_neg (by simp; omega),List.drop_eq_nil_of_le (by omega),laws_eqIntS_l1_r]
 | succ d ih =>
  intro k m hd hm
  obtain ⟨m,rfl⟩ : ∃ q,m = q + 1 := ⟨m - 1,by omega⟩
  have hk : k < x1.length := by omega
  rw [laws_eqIntS_l1,if_pos (by simp; omega),List.drop_eq_getElem_cons hk,laws_eqIntS_l1_r]
  have h1 := at_lt hk
  have h2 := w64_succ (k := k) (by omega)
  have h3 := ih (k + 1) m
  simp only [h1,h2,h3 (by omega) (by omega)]
theorem laws_eqIntS_l1_eq {N : Nat} (x1 : (List Int)) (x2 : (List Int)) (hx : x1.length ≤ 1099511627776) (hN : x1.length < N) : laws_eqIntS_l1 N x1 x2 N 0 = laws_eqIntS_l1_r N x1 x2 x1 0 := laws_eqIntS_l1_rng N x1 x2 hx x1.length 0 N (by omega) hN
def laws_eqIntS (N : Nat) (x1 : (List Int)) (x2 : (List Int)) : Option (Bool) :=
 (if ((x1.length : Int) != (x2.length : Int)) = true then
 some false
 else
 joinP (fun (v195 : Unit) =>
 some true) fun j195 =>
 (laws_eqIntS_l1 N x1 x2 N 0).bind (Sum.elim (fun v211 => some v211) (fun (v212 : Unit) => j195 ())))
theorem sem_laws_eqIntS (N : Nat) (x1 : (List Int)) (x2 : (List Int)) (r : Bool) (h : laws_eqIntS N x1 x2 = some r) : Says Tryz.prog 6 [RO 3 (x1.map encI),RO 3 (x2.map encI)] 0 [] (VB r) [] := by
 unfold laws_eqIntS at h
 refine Says.of_norm e Tryz.call6 e fun B hB => ?_
 have hm : B.m ≤ 1000 := by omega
 refine Run.so hm (.p e (.nil (.seq (.so hm (.p e (.z 5112 (Ev.lnF e) e e (.p e (.z 5144 (Ev.lnF e) e e (.p e (.nil (.condO e h (fun g164 h => ?_) (fun g164 h => ?_))))))))))))
 ·refine Run.so hm (.p e (.nil (.ret ?_)))
  obtain rfl := someO h
  exact Ends.mkG (.inl e) e (gh_pk [0] [] hB e e e e) e e
 ·refine Run.skip (.seqO h (fun v195 => []) (fun (v195 : Unit) => []) (fun h => ?_) (fun v195 h => ?_))
  ·refine Run.so hm (.p e (.nil (.block ?_)))
   obtain ⟨res212,h,hk212⟩ := bindO h
   refine Run.loop (n := N) (fun m212 fr σ => ∃ (x198 : Int),laws_eqIntS_l1 N x1 x2 m212 x198 = some res212 ∧ fr = [(0,RO 3 (x1.map encI)),(1,RO 3 (x2.map encI)),(5,VI x198)] ∧ σ = []) (gh_pk [0,1,5] [] hB e e e e) ⟨_,h,e,e⟩ ?_
   rintro m212 fr σ ⟨x198,h,rfl,rfl⟩
   obtain _ | m212 := m212
   ·rw [laws_eqIntS_l1] at h; cases h
   rw [laws_eqIntS_l1] at h
   refine Run.seq (.so hm (.p2 e e (.z 17416 (Ev.lnF e) e e (.p e (.nil (.condO e h (fun g215 h => ?_) (fun g215 h => ?_)))))))
   ·refine Run.skip (.seq (.block (.seq (.draw hm hmix (.p e (.p e ?_))))))
    obtain ⟨x223,hx223,h⟩ := bindO h
    refine OpsD.z 25608 (Ev.iaF e e hx223) e e (.p e (.p e (.p e ?_)))
    obtain ⟨x224,hx224,h⟩ := bindO h
    refine OpsD.z 25672 (Ev.iaF e e hx224) e e (.p e (.p e (.nil ⟨by kernel_rfl,?_⟩)))
    refine Run.condO e h (fun g225 h => ?_) (fun g225 h => ?_)
    ·refine Run.so hm (.p e (.nil (.ret ?_)))
     obtain rfl := someO h
     have h := hk212
     replace h := inlO h
     obtain rfl := someO h
     exact Ends.mkG (.inl e) e (gh_pk [0] [] hB e e e e) e e
    ·exact Run.skip (.ops hm (.p3 e e e (.nil (⟨m212,Nat.lt_succ_self m212,_,_,(gh_pk [0,1,5] [] hB e e e e),_,h,e,e⟩))))
   ·refine Run.exit ?_
    obtain rfl := someO h
    have h := hk212
    replace h := inrO h
    exact ⟨_,_,(gh_pk [] [] hB e e e e),(),h,e,e⟩
  ·refine Run.so hm (.p e (.nil (.ret ?_)))
   obtain rfl := someO h
   exact Ends.mkG (.inl e) e (gh_pk [0] [] hB e e e e) e e
def laws_eqCommand (N : Nat) (x1 : Command) (x2 : Command) : Option (Bool) :=
 (if (x1.Op != x2.Op) = true then
 some false
 else
 (if (x1.Session != x2.Session) = true then
 some false
 else
 (if (x1.Seq != x2.Seq) = true then
 some false
 else
 (if (!decide (x1.Key = x2.Key)) = true then
 some false
 else
 (if (!decide (x1.Value = x2.Value)) = true then
 some false
 else
 (if (!decide (x1.Old = x2.Old)) = true then
 some false
 else
 some true))))))
theorem sem_laws_eqCommand (N : Nat) (x1 : Command) (x2 : Command) (r : Bool) (h : laws_eqCommand N x1 x2 = some r) : Says Tryz.prog 45 [.agg [VI x1.Op,VI x1.Session,VI x1.Seq,VS x1.Key,VS x1.Value,VS x1.Old],.agg [VI x2.Op,VI x2.Session,VI x2.Seq,VS x2.Key,VS x2.Value,VS x2.Old]] 0 [] (VB r) [] := by
 unfold laws_eqCommand at h
 refine Says.of_norm e Tryz.call45 e fun B hB => ?_
 have hm : B.m ≤ 1000 := by omega
 refine Run.so hm (.z 1000 (.bx e e) e e (.z 1016 (.bx e e) e e (.p e (.nil (.seq (.so hm (.p3 e e e (.p2 e e (.nil (.condO e h (fun g112 h => ?_) (fun g112 h => ?_)))))))))))
 ·refine Run.so hm (.p e (.nil (.ret ?_)))
  obtain rfl := someO h
  exact Ends.mkG (.inl e) e (gh_pk [0] [] hB e e e e) e e
 ·refine Run.skip (.seq (.so hm (.p3 e e e (.p2 e e (.nil (.condO e h (fun g114 h => ?_) (fun g114 h => ?_)))))))
  ·refine Run.so hm (.p e (.nil (.ret ?_)))
   obtain rfl := someO h
   exact Ends.mkG (.inl e) e (gh_pk [0] [] hB e e e e) e e
  ·refine Run.skip (.seq (.so hm (.p3 e e e (.p2 e e (.nil (.condO e h (fun g116 h => ?_) (fun g116 h => ?_)))))))
   ·refine Run.so hm (.p e (.nil (.ret ?_)))
    obtain rfl := someO h
    exact Ends.mkG (.inl e) e (gh_pk [0] [] hB e e e e) e e
   ·refine Run.skip (.seq (.so hm (.p3 e e e (.p2 e e (.nil (.condO e h (fun g118 h => ?_) (fun g118 h => ?_)))))))
    ·refine Run.so hm (.p e (.nil (.ret ?_)))
     obtain rfl := someO h
     exact Ends.mkG (.inl e) e (gh_pk [0] [] hB e e e e) e e
    ·refine Run.skip (.seq (.so hm (.p3 e e e (.p2 e e (.nil (.condO e h (fun g120 h => ?_) (fun g120 h => ?_)))))))
     ·refine Run.so hm (.p e (.nil (.ret ?_)))
      obtain rfl := someO h
      exact Ends.mkG (.inl e) e (gh_pk [0] [] hB e e e e) e e
     ·refine Run.skip (.seq (.so hm (.p3 e e e (.p2 e e (.nil (.condO e h (fun g121 h => ?_) (fun g121 h => ?_)))))))
      ·refine Run.so hm (.p e (.nil (.ret ?_)))
       obtain rfl := someO h
       exact Ends.mkG (.inl e) e (gh_pk [0] [] hB e e e e) e e
      ·refine Run.skip (.so hm (.p e (.nil (.ret ?_))))
       obtain rfl := someO h
       exact Ends.mkG (.inl e) e (gh_pk [0] [] hB e e e e) e e
def laws_eqEvent (N : Nat) (x1 : Event) (x2 : Event) : Option (Bool) :=
 (if (x1.Kind != x2.Kind) = true then
 some false
 else
 (if (x1.Node != x2.Node) = true then
 some false
 else
 (if (x1.At != x2.At) = true then
 some false
 else
 (if (x1.Limit != x2.Limit) = true then
 some false
 else
 (laws_eqCommand N x1.Command x2.Command).bind fun y137 =>
 (if (!y137) = true then
 some false
 else
 (laws_eqIntS N x1.Conf x2.Conf).bind fun y143 =>
 (if (!y143) = true then
 some false
 else
 (if ((x1.Cut == x2.Cut) ^^ true) = true then
 some false
 else
 (if (x1.Whole != x2.Whole) = true then
 some false
 else
 (if (x1.Part != x2.Part) = true then
 some false
 else
 some true)))))))))
theorem sem_laws_eqEvent (N : Nat) (x1 : Event) (x2 : Event) (r : Bool) (h : laws_eqEvent N x1 x2 = some r) : Says Tryz.prog 24 [.agg [VI x1.Kind,VI x1.Node,VI x1.At,VI x1.Limit,VI x1.Command.Op,VI x1.Command.Session,VI x1.Command.Seq,VS x1.Command.Key,VS x1.Command.Value,VS x1.Command.Old,RO 3 (x1.Conf.map encI),VB x1.Cut,VI x1.Whole,VI x1.Part],.agg [VI x2.Kind,VI x2.Node,VI x2.At,VI x2.Limit,VI x2.Command.Op,VI x2.Command.Session,VI x2.Command.Seq,VS x2.Command.Key,VS x2.Command.Value,VS x2.Command.Old,RO 3 (x2.Conf.map encI),VB x2.Cut,VI x2.Whole,VI x2.Part]] 0 [] (VB r) [] := by
 unfold laws_eqEvent at h
 refine Says.of_norm e Tryz.call24 e fun B hB => ?_
 have hm : B.m ≤ 1000 := by omega
 refine Run.so hm (.z 1000 (.bx e e) e e (.z 1016 (.bx e e) e e (.p e (.nil (.seq (.so hm (.p3 e e e (.p2 e e (.nil (.condO e h (fun g126 h => ?_) (fun g126 h => ?_)))))))))))
 ·refine Run.so hm (.p e (.nil (.ret ?_)))
  obtain rfl := someO h
  exact Ends.mkG (.inl e) e (gh_pk [0] [] hB e e e e) e e
 ·refine Run.skip (.seq (.so hm (.p3 e e e (.p2 e e (.nil (.condO e h (fun g128 h => ?_) (fun g128 h => ?_)))))))
  ·refine Run.so hm (.p e (.nil (.ret ?_)))
   obtain rfl := someO h
   exact Ends.mkG (.inl e) e (gh_pk [0] [] hB e e e e) e e
  ·refine Run.skip (.seq (.so hm (.p3 e e e (.p2 e e (.nil (.condO e h (fun g130 h => ?_) (fun g130 h => ?_)))))))
   ·refine Run.so hm (.p e (.nil (.ret ?_)))
    obtain rfl := someO h
    exact Ends.mkG (.inl e) e (gh_pk [0] [] hB e e e e) e e
   ·refine Run.skip (.seq (.so hm (.p3 e e e (.p2 e e (.nil (.condO e h (fun g132 h => ?_) (fun g132 h => ?_)))))))
    ·refine Run.so hm (.p e (.nil (.ret ?_)))
     obtain rfl := someO h
     exact Ends.mkG (.inl e) e (gh_pk [0] [] hB e e e e) e e
    ·refine Run.skip (.seq (.so hm (.p3 e e e (.p e ?_))))
     obtain ⟨y137,hy137,h⟩ := bindO h
     refine Ops.z 37928 (Ev.call [] [] 0 (sem_laws_eqCommand _ _ _ _ hy137) e e (.cons (.agg (.d4 (.d2 .nil))) (.cons (.agg (.d4 (.d2 .nil))) .nil)) e (.inl e) e e) e e (.p e (.nil (.condO e h (fun g138 h => ?_) (fun g138 h => ?_))))
     ·refine Run.so hm (.p e (.nil (.ret ?_)))
      obtain rfl := someO h
      exact Ends.mkG (.inl e) e (gh_pk [0] [] hB e e e e) e e
     ·refine Run.skip (.seq (.so hm (.p3 e e e (.p e ?_))))
      obtain ⟨y143,hy143,h⟩ := bindO h
      refine Ops.z 46120 (Ev.call [] [] 0 (sem_laws_eqIntS _ _ _ _ hy143) e e (.d2 .nil) e (.inl e) e e) e e (.p e (.nil (.condO e h (fun g144 h => ?_) (fun g144 h => ?_))))
      ·refine Run.so hm (.p e (.nil (.ret ?_)))
       obtain rfl := someO h
       exact Ends.mkG (.inl e) e (gh_pk [0] [] hB e e e e) e e
      ·refine Run.skip (.seq (.so hm (.p3 e e e (.p2 e e (.nil (.condO e h (fun g146 h => ?_) (fun g146 h => ?_)))))))
       ·refine Run.so hm (.p e (.nil (.ret ?_)))
        obtain rfl := someO h
        exact Ends.mkG (.inl e) e (gh_pk [0] [] hB e e e e) e e
       ·refine Run.skip (.seq (.so hm (.p3 e e e (.p2 e e (.nil (.condO e h (fun g148 h => ?_) (fun g148 h => ?_)))))))
        ·refine Run.so hm (.p e (.nil (.ret ?_)))
         obtain rfl := someO h
         exact Ends.mkG (.inl e) e (gh_pk [0] [] hB e e e e) e e
        ·refine Run.skip (.seq (.so hm (.p3 e e e (.p2 e e (.nil (.condO e h (fun g149 h => ?_) (fun g149 h => ?_)))))))
         ·refine Run.so hm (.p e (.nil (.ret ?_)))
          obtain rfl := someO h
          exact Ends.mkG (.inl e) e (gh_pk [0] [] hB e e e e) e e
         ·refine Run.skip (.so hm (.p e (.nil (.ret ?_))))
          obtain rfl := someO h
          exact Ends.mkG (.inl e) e (gh_pk [0] [] hB e e e e) e e
def laws_eqEventS_l1 (N : Nat) (x1 : (List Event)) (x2 : (List Event)) : Nat → Int → Option ((Bool) ⊕ (Unit))
 | 0,_ => none
 | m + 1,x222 =>
 (if (decide (x222 < (x1.length : Int))) = true then
 (at? x1 x222).bind fun x254 =>
 (at? x2 x222).bind fun x255 =>
 (laws_eqEvent N x254 x255).bind fun y256 =>
 (if (!y256) = true then
 some (Sum.inl false)
 else
 laws_eqEventS_l1 N x1 x2 m (w64 (x222 + 1)))
 else
 some (Sum.inr ()))
def laws_eqEventS_l1_r (N : Nat) (x1 : (List Event)) (x2 : (List Event)) : (List Event) → Int → Option ((Bool) ⊕ (Unit))
 | [],x222 =>
 some (Sum.inr ())
 | hd :: tl,x222 =>
 (some hd).bind fun x254 =>
 (at? x2 x222).bind fun x255 =>
 (laws_eqEvent N x254 x255).bind fun y256 =>
 (if (!y256) = true then
 some (Sum.inl false)
 else
 laws_eqEventS_l1_r N x1 x2 tl (w64 (x222 + 1)))
theorem laws_eqEventS_l1_rng (N : Nat) (x1 : (List Event)) (x2 : (List Event)) (hx : x1.length ≤ 1099511627776) : ∀ (d k m : Nat),x1.length = k + d → d < m → laws_eqEventS_l1 N x1 x2 m (k : Int) = laws_eqEventS_l1_r N x1 x2 (x1.drop k) (k : Int) := by
 intro d
 induction d with
 | zero =>
  intro k m hd hm
  obtain ⟨m,rfl⟩ : ∃ q,m = q + 1 := ⟨m - 1,by omega⟩
  rw [laws_eqEventS_l1,if_neg (by simp; omega),List.drop_eq_nil_of_le (by omega),laws_eqEventS_l1_r]
 | succ d ih =>
  intro k m hd hm
  obtain ⟨m,rfl⟩ : ∃ q,m = q + 1 := ⟨m - 1,by omega⟩
  have hk : k < x1.length := by omega
  rw [laws_eqEventS_l1,if_pos (by simp; omega),List.drop_eq_getElem_cons hk,laws_eqEventS_l1_r]
  have h1 := at_lt hk
  have h2 := w64_succ (k := k) (by omega)
  have h3 := ih (k + 1) m
  simp only [h1,h2,h3 (by omega) (by omega)]
theorem laws_eqEventS_l1_eq {N : Nat} (x1 : (List Event)) (x2 : (List Event)) (hx : x1.length ≤ 1099511627776) (hN : x1.length < N) : laws_eqEventS_l1 N x1 x2 N 0 = laws_eqEventS_l1_r N x1 x2 x1 0 := laws_eqEventS_l1_rng N x1 x2 hx x1.length 0 N (by omega) hN
def laws_eqEventS (N : Nat) (x1 : (List Event)) (x2 : (List Event)) : Option (Bool) :=
 (if ((x1.length : Int) != (x2.length : Int)) = true then
 some false
 else
 joinP (fun (v219 : Unit) =>
 some true) fun j219 =>
 (laws_eqEventS_l1 N x1 x2 N 0).bind (Sum.elim (fun v239 => some v239) (fun (v240 : Unit) => j219 ())))
theorem sem_laws_eqEventS (N : Nat) (x1 : (List Event)) (x2 : (List Event)) (r : Bool) (h : laws_eqEventS N x1 x2 = some r) : Says Tryz.prog 7 [RO 53 (x1.map (encEvent false)),RO 53 (x2.map (encEvent false))] 0 [] (VB r) [] := by
 unfold laws_eqEventS at h
 refine Says.of_norm e Tryz.call7 e fun B hB => ?_
 have hm : B.m ≤ 1000 := by omega
 refine Run.so hm (.p e (.nil (.seq (.so hm (.p e (.z 5112 (Ev.lnF e) e e (.p e (.z 5144 (Ev.lnF e) e e (.p e (.nil (.condO e h (fun g180 h => ?_) (fun g180 h => ?_))))))))))))
 ·refine Run.so hm (.p e (.nil (.ret ?_)))
  obtain rfl := someO h
  exact Ends.mkG (.inl e) e (gh_pk [0] [] hB e e e e) e e
 ·refine Run.skip (.seqO h (fun v219 => []) (fun (v219 : Unit) => []) (fun h => ?_) (fun v219 h => ?_))
  ·refine Run.so hm (.p e (.nil (.block ?_)))
   obtain ⟨res240,h,hk240⟩ := bindO h
   refine Run.loop (n := N) (fun m240 fr σ => ∃ (x222 : Int),laws_eqEventS_l1 N x1 x2 m240 x222 = some res240 ∧ fr = [(0,RO 53 (x1.map (encEvent false))),(1,RO 53 (x2.map (encEvent false))),(5,VI x222)] ∧ σ = []) (gh_pk [0,1,5] [] hB e e e e) ⟨_,h,e,e⟩ ?_
   rintro m240 fr σ ⟨x222,h,rfl,rfl⟩
   obtain _ | m240 := m240
   ·rw [laws_eqEventS_l1] at h; cases h
   rw [laws_eqEventS_l1] at h
   refine Run.seq (.so hm (.p2 e e (.z 17416 (Ev.lnF e) e e (.p e (.nil (.condO e h (fun g243 h => ?_) (fun g243 h => ?_)))))))
   ·refine Run.skip (.seq (.block (.seq (.draw hm hmix (.p e (.p e ?_))))))
    obtain ⟨x254,hx254,h⟩ := bindO h
    refine OpsD.z 25608 (Ev.iaF e e hx254) e e (.p e (.p e (.p e ?_)))
    obtain ⟨x255,hx255,h⟩ := bindO h
    refine OpsD.z 25672 (Ev.iaF e e hx255) e e (.p e ?_)
    obtain ⟨y256,hy256,h⟩ := bindO h
    refine OpsD.z 25704 (Ev.call [] [] 0 (sem_laws_eqEvent _ _ _ _ hy256) e e (.cons (.agg (.d4 (.d4 (.d4 (.d2 .nil))))) (.cons (.agg (.d4 (.d4 (.d4 (.d2 .nil))))) .nil)) e (.inl e) e e) e e (.p e (.nil ⟨by kernel_rfl,?_⟩))
    refine Run.condO e h (fun g257 h => ?_) (fun g257 h => ?_)
    ·refine Run.so hm (.p e (.nil (.ret ?_)))
     obtain rfl := someO h
     have h := hk240
     replace h := inlO h
     obtain rfl := someO h
     exact Ends.mkG (.inl e) e (gh_pk [0] [] hB e e e e) e e
    ·exact Run.skip (.ops hm (.p3 e e e (.nil (⟨m240,Nat.lt_succ_self m240,_,_,(gh_pk [0,1,5] [] hB e e e e),_,h,e,e⟩))))
   ·refine Run.exit ?_
    obtain rfl := someO h
    have h := hk240
    replace h := inrO h
    exact ⟨_,_,(gh_pk [] [] hB e e e e),(),h,e,e⟩
  ·refine Run.so hm (.p e (.nil (.ret ?_)))
   obtain rfl := someO h
   exact Ends.mkG (.inl e) e (gh_pk [0] [] hB e e e e) e e
def laws_markIntS_l1 (N : Nat) : Nat → Int → Int → (List Int) → Option (Int × (List Int))
 | 0,_,_,_ => none
 | m + 1,x177,x178,x179 =>
 (if (decide (x178 < ((x179.length : Nat) : Int))) = true then
 (at? x179 x178).bind fun x201 =>
 laws_markIntS_l1 N m (w64 (x177 + 1)) (w64 (x178 + 1)) (x179.set x178.toNat x177)
 else
 some (x177,x179))
def laws_markIntS (N : Nat) (x1 : (List Int)) (x2 : Int) : Option (Int × (List Int)) :=
 joinP (fun (v176 : Int × (List Int)) =>
 some (v176.1,v176.2)) fun j176 =>
 (laws_markIntS_l1 N N x2 0 x1).bind (fun v190 => j176 (v190.1,v190.2))
theorem sem_laws_markIntS (N : Nat) (x1 : (List Int)) (x2 : Int) (r : Int × (List Int)) (h : laws_markIntS N x1 x2 = some r) : Says Tryz.prog 8 [.sl 0 3 0 x1.length,VI x2] 1 [(0,.vec 3 (x1.map encI))] (VI r.1) [(0,.vec 3 (r.2.map encI))] := by
 unfold laws_markIntS at h
 refine Says.of_norm e Tryz.call8 e fun B hB => ?_
 have hm : B.m ≤ 1000 := by omega
 refine Run.so hm (.p e (.nil (.seqO h (fun v176 => [(1,VI v176.1)]) (fun (v176 : Int × (List Int)) => [(0,.vec 3 (v176.2.map encI))]) (fun h => ?_) (fun v176 h => ?_))))
 ·refine Run.so hm (.p e (.nil (.block ?_)))
  obtain ⟨res190,h,hk190⟩ := bindO h
  refine Run.loop (n := N) (fun m190 fr σ => ∃ (x177 : Int),∃ (x178 : Int),∃ (x179 : (List Int)),laws_markIntS_l1 N m190 x177 x178 x179 = some res190 ∧ fr = [(0,.sl 0 3 0 x179.length),(1,VI x177),(5,VI x178)] ∧ σ = [(0,.vec 3 (x179.map encI))]) (gh_pk [0,1,5] [0] hB e e e e) ⟨_,_,_,h,e,e⟩ ?_
  rintro m190 fr σ ⟨x177,x178,x179,h,rfl,rfl⟩
  obtain _ | m190 := m190
  ·rw [laws_markIntS_l1] at h; cases h
  rw [laws_markIntS_l1] at h
  refine Run.seq (.so hm (.p3 e e e (.p e (.nil (.condO e h (fun g193 h => ?_) (fun g193 h => ?_))))))
  ·refine Run.skip (.seq (.block (.so hm (.p3 e e e ?_))))
   obtain ⟨x201,hx201,h⟩ := bindO h
   exact Ops.z 17432 (Ev.iaW e e e hx201) e e (.y 17448 (Ev.stE (f := encI) (v' := x177) e e (at_some hx201).2 e (.d1 .nil) e e e e e) e e (.nil (.ops hm (.p3 e e e (.nil (.ops hm (.p3 e e e (.nil (⟨m190,Nat.lt_succ_self m190,_,_,(gh_pk [0,1,5] [0] hB e e (by first | rfl | (simp only [List.length_set]; done) | (simp only [List.length_set]; rfl)) (by first | rfl | (simp only [List.length_set]; done) | (simp only [List.length_set]; rfl))),_,_,_,h,e,e⟩)))))))))
  ·refine Run.exit ?_
   obtain rfl := someO h
   have h := hk190
   exact ⟨_,_,(gh_pk [1] [0] hB e e e e),_,h,e,e⟩
 ·refine Run.so hm (.p2 e e (.nil (.ret ?_)))
  obtain rfl := someO h
  exact Ends.mkG (.inl e) e (gh_pk [0] [0] hB e e e e) e e
def laws_markText_l1 (N : Nat) : Nat → Int → ByteArray → Option (ByteArray)
 | 0,_,_ => none
 | m + 1,x192,x193 =>
 (if (decide (x192 > 0)) = true then
 (intD .rem .i64 x192 10).bind fun x216 =>
 (scat? (strOf ([IntKind.wrap .u8 (w64 (48 + x216))] : List Int)) x193).bind fun x217 =>
 (intD .quo .i64 x192 10).bind fun x219 =>
 laws_markText_l1 N m x219 x217
 else
 some x193)
def laws_markText (N : Nat) (x1 : Int) : Option (ByteArray) :=
 (if (decide (x1 ≤ 0)) = true then
 some (⟨#[109,48]⟩ : ByteArray)
 else
 joinP (fun (v191 : ByteArray) =>
 (scat? (⟨#[109]⟩ : ByteArray) v191).bind fun x221 =>
 some x221) fun j191 =>
 (laws_markText_l1 N N x1 (⟨#[]⟩ : ByteArray)).bind (fun v206 => j191 v206))
theorem sem_laws_markText (N : Nat) (x1 : Int) (r : ByteArray) (h : laws_markText N x1 = some r) : Says Tryz.prog 25 [VI x1] 0 [] (VS r) [] := by
 unfold laws_markText at h
 refine Says.of_norm e Tryz.call25 e fun B hB => ?_
 have hm : B.m ≤ 1000 := by omega
 refine Run.so hm (.p e (.nil (.seq (.so hm (.p2 e e (.nil (.condO e h (fun g162 h => ?_) (fun g162 h => ?_))))))))
 ·refine Run.so hm (.p e (.nil (.ret ?_)))
  obtain rfl := someO h
  exact Ends.mkG (.inl e) e (gh_pk [0] [] hB e e e e) e e
 ·refine Run.skip (.so hm (.p e (.nil (.seqO h (fun v191 => [(3,VS v191)]) (fun (v191 : ByteArray) => []) (fun h => ?_) (fun v191 h => ?_)))))
  ·refine Run.block ?_
   obtain ⟨res206,h,hk206⟩ := bindO h
   refine Run.loop (n := N) (fun m206 fr σ => ∃ (x192 : Int),∃ (x193 : ByteArray),laws_markText_l1 N m206 x192 x193 = some res206 ∧ fr = [(0,VI x192),(3,VS x193)] ∧ σ = []) (gh_pk [0,3] [] hB e e e e) ⟨_,_,h,e,e⟩ ?_
   rintro m206 fr σ ⟨x192,x193,h,rfl,rfl⟩
   obtain _ | m206 := m206
   ·rw [laws_markText_l1] at h; cases h
   rw [laws_markText_l1] at h
   refine Run.seq (.so hm (.p2 e e (.nil (.condO e h (fun g209 h => ?_) (fun g209 h => ?_)))))
   ·refine Run.skip (.block (.so hm (.p e ?_)))
    obtain ⟨x216,hx216,h⟩ := bindO h
    refine Ops.z 21496 (.bin e e hx216) e e (.p2 e e (.z 21544 (Ev.bsW (ys := ([IntKind.wrap .u8 (w64 (48 + x216))] : List Int)) (f := encU) e (.d1 .nil) e e e e e) e e (.z 21560 (.sbC (addsW (f := encU) e e e (fun _ => e))) e e (.p e ?_))))
    obtain ⟨x217,hx217,h⟩ := bindO h
    refine Ops.z 21592 (Ev.addS e e hx217) e e (.p e (.nil (.ops hm (.p e ?_))))
    obtain ⟨x219,hx219,h⟩ := bindO h
    exact Ops.z 25592 (.bin e e hx219) e e (.p e (.nil (⟨m206,Nat.lt_succ_self m206,_,_,(gh_pk [0,3] [] hB e e e e),_,_,h,e,e⟩)))
   ·refine Run.exit ?_
    obtain rfl := someO h
    have h := hk206
    exact ⟨_,_,(gh_pk [3] [] hB e e e e),_,h,e,e⟩
  ·refine Run.so hm (.p e ?_)
   obtain ⟨x221,hx221,h⟩ := bindO h
   refine Ops.z 29688 (Ev.addS e e hx221) e e (.p e (.nil (.ret ?_)))
   obtain rfl := someO h
   exact Ends.mkG (.inl e) e (gh_pk [0] [] hB e e e e) e e
def laws_markEventS_l1 (N : Nat) : Nat → Int → Int → (List Event) → Option (Int × (List Event))
 | 0,_,_,_ => none
 | m + 1,x1161,x1162,x1163 =>
 (if (decide (x1162 < ((x1163.length : Nat) : Int))) = true then
 (at? x1163 x1162).bind fun x1431 =>
 (at? (x1163.set x1162.toNat ({ x1431 with Kind := x1161 })) x1162).bind fun x1435 =>
 (at? (x1163.set x1162.toNat ({ x1435 with Node := w64 (x1161 + 1) })) x1162).bind fun x1439 =>
 (at? (x1163.set x1162.toNat ({ x1439 with At := w64 ((w64 (x1161 + 1)) + 1) })) x1162).bind fun x1443 =>
 (at? (x1163.set x1162.toNat ({ x1443 with Limit := w64 ((w64 ((w64 (x1161 + 1)) + 1)) + 1) })) x1162).bind fun x1447 =>
 (at? (x1163.set x1162.toNat ({ x1447 with Command := (Command.mk (w64 ((w64 ((w64 ((w64 (x1161 + 1)) + 1)) + 1)) + 1)) x1447.Command.Session x1447.Command.Seq x1447.Command.Key x1447.Command.Value x1447.Command.Old) })) x1162).bind fun x1451 =>
 (at? (x1163.set x1162.toNat ({ x1451 with Command := (Command.mk x1451.Command.Op (w64 ((w64 ((w64 ((w64 ((w64 (x1161 + 1)) + 1)) + 1)) + 1)) + 1)) x1451.Command.Seq x1451.Command.Key x1451.Command.Value x1451.Command.Old) })) x1162).bind fun x1455 =>
 (laws_markText N (w64 ((w64 ((w64 ((w64 ((w64 ((w64 ((w64 (x1161 + 1)) + 1)) + 1)) + 1)) + 1)) + 1)) + 1))).bind fun y1462 =>
 (at? (x1163.set x1162.toNat ({ x1455 with Command := (Command.mk x1455.Command.Op x1455.Command.Session (w64 ((w64 ((w64 ((w64 ((w64 ((w64 (x1161 + 1)) + 1)) + 1)) + 1)) + 1)) + 1)) x1455.Command.Key x1455.Command.Value x1455.Command.Old) })) x1162).bind fun x1463 =>
 (laws_markText N (w64 ((w64 ((w64 ((w64 ((w64 ((w64 ((w64 ((w64 (x1161 + 1)) + 1)) + 1)) + 1)) + 1)) + 1)) + 1)) + 1))).bind fun y1470 =>
 (at? (x1163.set x1162.toNat ({ x1463 with Command := (Command.mk x1463.Command.Op x1463.Command.Session x1463.Command.Seq y1462 x1463.Command.Value x1463.Command.Old) })) x1162).bind fun x1471 =>
 (laws_markText N (w64 ((w64 ((w64 ((w64 ((w64 ((w64 ((w64 ((w64 ((w64 (x1161 + 1)) + 1)) + 1)) + 1)) + 1)) + 1)) + 1)) + 1)) + 1))).bind fun y1478 =>
 (at? (x1163.set x1162.toNat ({ x1471 with Command := (Command.mk x1471.Command.Op x1471.Command.Session x1471.Command.Seq x1471.Command.Key y1470 x1471.Command.Old) })) x1162).bind fun x1479 =>
 (at? (x1163.set x1162.toNat ({ x1479 with Command := (Command.mk x1479.Command.Op x1479.Command.Session x1479.Command.Seq x1479.Command.Key x1479.Command.Value y1478) })) x1162).bind fun x1491 =>
 (laws_markIntS N x1479.Conf (w64 ((w64 ((w64 ((w64 ((w64 ((w64 ((w64 ((w64 ((w64 ((w64 (x1161 + 1)) + 1)) + 1)) + 1)) + 1)) + 1)) + 1)) + 1)) + 1)) + 1))).bind fun y1492 =>
 (len? x1479.Conf y1492.2).bind fun y1493 =>
 (intD .rem .i64 y1492.1 3).bind fun x1504 =>
 (at? (x1163.set x1162.toNat ({ x1479 with Command := (Command.mk x1479.Command.Op x1479.Command.Session x1479.Command.Seq x1479.Command.Key x1479.Command.Value y1478),Conf := y1492.2 })) x1162).bind fun x1505 =>
 (at? (x1163.set x1162.toNat ({ x1505 with Cut := (x1504 == 0) })) x1162).bind fun x1509 =>
 (at? (x1163.set x1162.toNat ({ x1509 with Whole := w64 (y1492.1 + 1) })) x1162).bind fun x1513 =>
 laws_markEventS_l1 N m (w64 ((w64 ((w64 (y1492.1 + 1)) + 1)) + 1)) (w64 (x1162 + 1)) (x1163.set x1162.toNat ({ x1513 with Part := w64 ((w64 (y1492.1 + 1)) + 1) }))
 else
 some (x1161,x1163))
def laws_markEventS (N : Nat) (x1 : (List Event)) (x2 : Int) : Option (Int × (List Event)) :=
 joinP (fun (v1160 : Int × (List Event)) =>
 some (v1160.1,v1160.2)) fun j1160 =>
 (laws_markEventS_l1 N N x2 0 x1).bind (fun v1338 => j1160 (v1338.1,v1338.2))
theorem sem_laws_markEventS (N : Nat) (x1 : (List Event)) (x2 : Int) (r : Int × (List Event)) (h : laws_markEventS N x1 x2 = some r) : Says Tryz.prog 9 [.sl 0 53 0 x1.length,VI x2] 1 [(0,.vec 53 (x1.map (encEvent true)))] (VI r.1) [(0,.vec 53 (r.2.map (encEvent true)))] := by
 unfold laws_markEventS at h
 refine Says.of_norm e Tryz.call9 e fun B hB => ?_
 have hm : B.m ≤ 1000 := by omega
 refine Run.so hm (.p e (.nil (.seqO h (fun v1160 => [(1,VI v1160.1)]) (fun (v1160 : Int × (List Event)) => [(0,.vec 53 (v1160.2.map (encEvent true)))]) (fun h => ?_) (fun v1160 h => ?_))))
 ·refine Run.so hm (.p e (.nil (.block ?_)))
  obtain ⟨res1338,h,hk1338⟩ := bindO h
  refine Run.loop (n := N) (fun m1338 fr σ => ∃ (x1161 : Int),∃ (x1162 : Int),∃ (x1163 : (List Event)),laws_markEventS_l1 N m1338 x1161 x1162 x1163 = some res1338 ∧ fr = [(0,.sl 0 53 0 x1163.length),(1,VI x1161),(5,VI x1162)] ∧ σ = [(0,.vec 53 (x1163.map (encEvent true)))]) (gh_pk [0,1,5] [0] hB e e e e) ⟨_,_,_,h,e,e⟩ ?_
  rintro m1338 fr σ ⟨x1161,x1162,x1163,h,rfl,rfl⟩
  obtain _ | m1338 := m1338
  ·rw [laws_markEventS_l1] at h; cases h
  rw [laws_markEventS_l1] at h
  refine Run.seq (.so hm (.p3 e e e (.p e (.nil (.condO e h (fun g1341 h => ?_) (fun g1341 h => ?_))))))
  ·refine Run.skip (.seq (.block (.so hm (.p3 e e e ?_))))
   obtain ⟨x1431,hx1431,h⟩ := bindO h
   refine Ops.z 17432 (Ev.iaW e e e hx1431) e e (.p e (.y 17464 (Ev.stE (f := (encEvent true)) (v' := ({ x1431 with Kind := x1161 })) e e (at_some hx1431).2 e (.d1 .nil) e e e e e) e e (.nil (.so hm (.p3 e e e (.nil (.so hm (.p3 e e e ?_))))))))
   obtain ⟨x1435,hx1435,h⟩ := bindO h
   refine Ops.z 25624 (Ev.iaW e (by simp) e hx1435) e e ?_
   refine Ops.p e (.y 25656 (Ev.stEs (f := (encEvent true)) (v' := ({ x1435 with Node := w64 (x1161 + 1) })) (List.set_set _) e e (at_some hx1435).2 e (.d1 .nil) e e e e e) e e (.nil (.so hm (.p3 e e e (.nil (.so hm (.p3 e e e ?_)))))))
   obtain ⟨x1439,hx1439,h⟩ := bindO h
   refine Ops.z 33816 (Ev.iaW e (by simp) e hx1439) e e ?_
   refine Ops.p e (.y 33848 (Ev.stEs (f := (encEvent true)) (v' := ({ x1439 with At := w64 ((w64 (x1161 + 1)) + 1) })) (List.set_set _) e e (at_some hx1439).2 e (.d1 .nil) e e e e e) e e (.nil (.so hm (.p3 e e e (.nil (.so hm (.p3 e e e ?_)))))))
   obtain ⟨x1443,hx1443,h⟩ := bindO h
   refine Ops.z 42008 (Ev.iaW e (by simp) e hx1443) e e ?_
   refine Ops.p e (.y 42040 (Ev.stEs (f := (encEvent true)) (v' := ({ x1443 with Limit := w64 ((w64 ((w64 (x1161 + 1)) + 1)) + 1) })) (List.set_set _) e e (at_some hx1443).2 e (.d1 .nil) e e e e e) e e (.nil (.so hm (.p3 e e e (.nil (.so hm (.p3 e e e ?_)))))))
   obtain ⟨x1447,hx1447,h⟩ := bindO h
   refine Ops.z 50200 (Ev.iaW e (by simp) e hx1447) e e ?_
   refine Ops.p e (.p e (.y 50248 (Ev.stEs (f := (encEvent true)) (v' := ({ x1447 with Command := (Command.mk (w64 ((w64 ((w64 ((w64 (x1161 + 1)) + 1)) + 1)) + 1)) x1447.Command.Session x1447.Command.Seq x1447.Command.Key x1447.Command.Value x1447.Command.Old) })) (List.set_set _) e e (at_some hx1447).2 e (.d1 .nil) e e e e e) e e (.nil (.so hm (.p3 e e e (.nil (.so hm (.p3 e e e ?_))))))))
   obtain ⟨x1451,hx1451,h⟩ := bindO h
   refine Ops.z 58392 (Ev.iaW e (by simp) e hx1451) e e ?_
   refine Ops.p e (.p e (.y 58440 (Ev.stEs (f := (encEvent true)) (v' := ({ x1451 with Command := (Command.mk x1451.Command.Op (w64 ((w64 ((w64 ((w64 ((w64 (x1161 + 1)) + 1)) + 1)) + 1)) + 1)) x1451.Command.Seq x1451.Command.Key x1451.Command.Value x1451.Command.Old) })) (List.set_set _) e e (at_some hx1451).2 e (.d1 .nil) e e e e e) e e (.nil (.so hm (.p3 e e e (.nil (.so hm (.p3 e e e ?_))))))))
   obtain ⟨x1455,hx1455,h⟩ := bindO h
   refine Ops.z 66584 (Ev.iaW e (by simp) e hx1455) e e ?_
   refine Ops.p e (.p e (.y 66632 (Ev.stEs (f := (encEvent true)) (v' := ({ x1455 with Command := (Command.mk x1455.Command.Op x1455.Command.Session (w64 ((w64 ((w64 ((w64 ((w64 ((w64 (x1161 + 1)) + 1)) + 1)) + 1)) + 1)) + 1)) x1455.Command.Key x1455.Command.Value x1455.Command.Old) })) (List.set_set _) e e (at_some hx1455).2 e (.d1 .nil) e e e e e) e e (.nil (.so hm (.p3 e e e (.nil (.so hm (.p3 e e e ?_))))))))
   obtain ⟨y1462,hy1462,h⟩ := bindO h
   refine Ops.z 74776 (Ev.call [] [] 0 (sem_laws_markText _ _ _ hy1462) e e (.d1 .nil) e (.inl e) e e) e e ?_
   obtain ⟨x1463,hx1463,h⟩ := bindO h
   refine Ops.z 74792 (Ev.iaW e (by simp) e hx1463) e e ?_
   refine Ops.p e (.p e (.y 74840 (Ev.stEs (f := (encEvent true)) (v' := ({ x1463 with Command := (Command.mk x1463.Command.Op x1463.Command.Session x1463.Command.Seq y1462 x1463.Command.Value x1463.Command.Old) })) (List.set_set _) e e (at_some hx1463).2 e (.d1 .nil) e e e e e) e e (.nil (.so hm (.p3 e e e (.nil (.so hm (.p3 e e e ?_))))))))
   obtain ⟨y1470,hy1470,h⟩ := bindO h
   refine Ops.z 82968 (Ev.call [] [] 0 (sem_laws_markText _ _ _ hy1470) e e (.d1 .nil) e (.inl e) e e) e e ?_
   obtain ⟨x1471,hx1471,h⟩ := bindO h
   refine Ops.z 82984 (Ev.iaW e (by simp) e hx1471) e e ?_
   refine Ops.p e (.p e (.y 83032 (Ev.stEs (f := (encEvent true)) (v' := ({ x1471 with Command := (Command.mk x1471.Command.Op x1471.Command.Session x1471.Command.Seq x1471.Command.Key y1470 x1471.Command.Old) })) (List.set_set _) e e (at_some hx1471).2 e (.d1 .nil) e e e e e) e e (.nil (.so hm (.p3 e e e (.nil (.so hm (.p3 e e e ?_))))))))
   obtain ⟨y1478,hy1478,h⟩ := bindO h
   refine Ops.z 91160 (Ev.call [] [] 0 (sem_laws_markText _ _ _ hy1478) e e (.d1 .nil) e (.inl e) e e) e e ?_
   obtain ⟨x1479,hx1479,h⟩ := bindO h
   refine Ops.z 91176 (Ev.iaW e (by simp) e hx1479) e e ?_
   refine Ops.p e (.p e (.y 91224 (Ev.stEs (f := (encEvent true)) (v' := ({ x1479 with Command := (Command.mk x1479.Command.Op x1479.Command.Session x1479.Command.Seq x1479.Command.Key x1479.Command.Value y1478) })) (List.set_set _) e e (at_some hx1479).2 e (.d1 .nil) e e e e e) e e (.nil (.so hm (.p3 e e e (.nil (.seq (Run.gh (Gh.opE (f := (encEvent true)) (xs := (x1163.set x1162.toNat ({ x1479 with Command := (Command.mk x1479.Command.Op x1479.Command.Session x1479.Command.Seq x1479.Command.Key x1479.Command.Value y1478) }))) (u := ({ x1479 with Command := (Command.mk x1479.Command.Op x1479.Command.Session x1479.Command.Seq x1479.Command.Key x1479.Command.Value y1478) })) 0 10 40000032 e (set_at (at_some hx1431).2) e e (Nat.le_trans hm (by decide))) ?_))))))))
   refine Run.ops hm (.p2 e e ?_)
   obtain ⟨x1491,hx1491,h⟩ := bindO h
   refine Ops.z 99336 (Ev.iaW e (by simp) e hx1491) e e ?_
   refine Ops.p e (.z 99368 (Ev.ldL1 e e e e e) e e (.p e ?_))
   obtain ⟨y1492,hy1492,h⟩ := bindO h
   obtain ⟨y1493,hy1493,h⟩ := bindO h
   refine Ops.z 99400 (Ev.call [40000032] [] 0 (sem_laws_markIntS _ _ _ _ hy1492) e e (.cons (.sl e) (.d1 .nil)) e (.inl e) e e) e e (.p e (.nil (.seq (Run.gh (Gh.clL 0 10 40000032 e e e e) (Run.gh (Gh.unEs (f := (encEvent true)) (xs := (x1163.set x1162.toNat ({ x1479 with Command := (Command.mk x1479.Command.Op x1479.Command.Session x1479.Command.Seq x1479.Command.Key x1479.Command.Value y1478) }))) 0 ({ x1479 with Command := (Command.mk x1479.Command.Op x1479.Command.Session x1479.Command.Seq x1479.Command.Key x1479.Command.Value y1478),Conf := y1492.2 }) (List.set_set _) e e) (.ops hm (.p3 e e e ?_)))))))
   obtain ⟨x1504,hx1504,h⟩ := bindO h
   refine Ops.z 103448 (.bin e e hx1504) e e (.p e ?_)
   obtain ⟨x1505,hx1505,h⟩ := bindO h
   refine Ops.z 103480 (Ev.iaW e (by simp) e hx1505) e e ?_
   refine Ops.p e (.y 103512 (Ev.stEs (f := (encEvent true)) (v' := ({ x1505 with Cut := (x1504 == 0) })) (List.set_set _) e e (at_some hx1505).2 e (.d1 .nil) e e e e e) e e (.nil (.so hm (.p3 e e e (.nil (.so hm (.p3 e e e ?_)))))))
   obtain ⟨x1509,hx1509,h⟩ := bindO h
   refine Ops.z 111640 (Ev.iaW e (by simp) e hx1509) e e ?_
   refine Ops.p e (.y 111672 (Ev.stEs (f := (encEvent true)) (v' := ({ x1509 with Whole := w64 (y1492.1 + 1) })) (List.set_set _) e e (at_some hx1509).2 e (.d1 .nil) e e e e e) e e (.nil (.so hm (.p3 e e e (.nil (.so hm (.p3 e e e ?_)))))))
   obtain ⟨x1513,hx1513,h⟩ := bindO h
   refine Ops.z 119832 (Ev.iaW e (by simp) e hx1513) e e ?_
   exact Ops.p e (.y 119864 (Ev.stEs (f := (encEvent true)) (v' := ({ x1513 with Part := w64 ((w64 (y1492.1 + 1)) + 1) })) (List.set_set _) e e (at_some hx1513).2 e (.d1 .nil) e e e e e) e e (.nil (.ops hm (.p3 e e e (.nil (.ops hm (.p3 e e e (.nil (⟨m1338,Nat.lt_succ_self m1338,_,_,(gh_pk [0,1,5] [0] hB e e (by first | rfl | (simp only [List.length_set]; done) | (simp only [List.length_set]; rfl)) (by first | rfl | (simp only [List.length_set]; done) | (simp only [List.length_set]; rfl))),_,_,_,h,e,e⟩)))))))))
  ·refine Run.exit ?_
   obtain rfl := someO h
   have h := hk1338
   exact ⟨_,_,(gh_pk [1] [0] hB e e e e),_,h,e,e⟩
 ·refine Run.so hm (.p2 e e (.nil (.ret ?_)))
  obtain rfl := someO h
  exact Ends.mkG (.inl e) e (gh_pk [0] [0] hB e e e e) e e
def laws_heldIntS_l1 (N : Nat) (x1 : (List Int)) : Nat → Int → Int → Option ((Int) ⊕ (Int))
 | 0,_,_ => none
 | m + 1,x205,x206 =>
 (if (decide (x206 < (x1.length : Int))) = true then
 (at? x1 x206).bind fun x236 =>
 (if (x236 != x205) = true then
 some (Sum.inl (-1 : Int))
 else
 laws_heldIntS_l1 N x1 m (w64 (x205 + 1)) (w64 (x206 + 1)))
 else
 some (Sum.inr x205))
def laws_heldIntS_l1_r (N : Nat) (x1 : (List Int)) : (List Int) → Int → Int → Option ((Int) ⊕ (Int))
 | [],x205,x206 =>
 some (Sum.inr x205)
 | hd :: tl,x205,x206 =>
 (some hd).bind fun x236 =>
 (if (x236 != x205) = true then
 some (Sum.inl (-1 : Int))
 else
 laws_heldIntS_l1_r N x1 tl (w64 (x205 + 1)) (w64 (x206 + 1)))
theorem laws_heldIntS_l1_rng (N : Nat) (x1 : (List Int)) (hx : x1.length ≤ 1099511627776) : ∀ (d k m : Nat) (x205 : Int),x1.length = k + d → d < m → laws_heldIntS_l1 N x1 m x205 (k : Int) = laws_heldIntS_l1_r N x1 (x1.drop k) x205 (k : Int) := by
 intro d
 induction d with
 | zero =>
  intro k m x205 hd hm
  obtain ⟨m,rfl⟩ : ∃ q,m = q + 1 := ⟨m - 1,by omega⟩
  rw [laws_heldIntS_l1,if_neg (by simp; omega),List.drop_eq_nil_of_le (by omega),laws_heldIntS_l1_r]
 | succ d ih =>
  intro k m x205 hd hm
  obtain ⟨m,rfl⟩ : ∃ q,m = q + 1 := ⟨m - 1,by omega⟩
  have hk : k < x1.length := by omega
  rw [laws_heldIntS_l1,if_pos (by simp; omega),List.drop_eq_getElem_cons hk,laws_heldIntS_l1_r]
  have h1 := at_lt hk
  have h2 := w64_succ (k := k) (by omega)
  have h3 := ih (k + 1) m
  simp only [h1,h2,h3 _ (by omega) (by omega)]
theorem laws_heldIntS_l1_eq {N : Nat} (x1 : (List Int)) (hx : x1.length ≤ 1099511627776) (hN : x1.length < N) (x205 : Int) : laws_heldIntS_l1 N x1 N x205 0 = laws_heldIntS_l1_r N x1 x1 x205 0 := laws_heldIntS_l1_rng N x1 hx x1.length 0 N x205 (by omega) hN
def laws_heldIntS (N : Nat) (x1 : (List Int)) (x2 : Int) : Option (Int) :=
 joinP (fun (v203 : Int) =>
 some v203) fun j203 =>
 (laws_heldIntS_l1 N x1 N x2 0).bind (Sum.elim (fun v221 => some v221) (fun (v222 : Int) => j203 v222))
theorem sem_laws_heldIntS (N : Nat) (x1 : (List Int)) (x2 : Int) (r : Int) (h : laws_heldIntS N x1 x2 = some r) : Says Tryz.prog 10 [RO 3 (x1.map encI),VI x2] 0 [] (VI r) [] := by
 unfold laws_heldIntS at h
 refine Says.of_norm e Tryz.call10 e fun B hB => ?_
 have hm : B.m ≤ 1000 := by omega
 refine Run.so hm (.p e (.nil (.seqO h (fun v203 => [(1,VI v203)]) (fun (v203 : Int) => []) (fun h => ?_) (fun v203 h => ?_))))
 ·refine Run.so hm (.p e (.nil (.block ?_)))
  obtain ⟨res222,h,hk222⟩ := bindO h
  refine Run.loop (n := N) (fun m222 fr σ => ∃ (x205 : Int),∃ (x206 : Int),laws_heldIntS_l1 N x1 m222 x205 x206 = some res222 ∧ fr = [(0,RO 3 (x1.map encI)),(1,VI x205),(5,VI x206)] ∧ σ = []) (gh_pk [0,1,5] [] hB e e e e) ⟨_,_,h,e,e⟩ ?_
  rintro m222 fr σ ⟨x205,x206,h,rfl,rfl⟩
  obtain _ | m222 := m222
  ·rw [laws_heldIntS_l1] at h; cases h
  rw [laws_heldIntS_l1] at h
  refine Run.seq (.so hm (.p2 e e (.z 9224 (Ev.lnF e) e e (.p e (.nil (.condO e h (fun g225 h => ?_) (fun g225 h => ?_)))))))
  ·refine Run.skip (.seq (.block (.seq (.so hm (.p2 e e ?_)))))
   obtain ⟨x236,hx236,h⟩ := bindO h
   refine Ops.z 17416 (Ev.iaF e e hx236) e e (.p3 e e e (.nil (.condO e h (fun g237 h => ?_) (fun g237 h => ?_))))
   ·refine Run.so hm (.p e (.nil (.ret ?_)))
    obtain rfl := someO h
    have h := hk222
    replace h := inlO h
    obtain rfl := someO h
    exact Ends.mkG (.inl e) e (gh_pk [0] [] hB e e e e) e e
   ·exact Run.skip (.ops hm (.p3 e e e (.nil (.ops hm (.p3 e e e (.nil (⟨m222,Nat.lt_succ_self m222,_,_,(gh_pk [0,1,5] [] hB e e e e),_,_,h,e,e⟩)))))))
  ·refine Run.exit ?_
   obtain rfl := someO h
   have h := hk222
   replace h := inrO h
   exact ⟨_,_,(gh_pk [1] [] hB e e e e),_,h,e,e⟩
 ·refine Run.so hm (.p2 e e (.nil (.ret ?_)))
  obtain rfl := someO h
  exact Ends.mkG (.inl e) e (gh_pk [0] [] hB e e e e) e e
def laws_heldEventS_l1 (N : Nat) (x1 : (List Event)) : Nat → Int → Int → Option ((Int) ⊕ (Int))
 | 0,_,_ => none
 | m + 1,x1381,x1382 =>
 (if (decide (x1382 < (x1.length : Int))) = true then
 (at? x1 x1382).bind fun x1706 =>
 (if (x1706.Kind != x1381) = true then
 some (Sum.inl (-1 : Int))
 else
 (at? x1 x1382).bind fun x1712 =>
 (if (x1712.Node != (w64 (x1381 + 1))) = true then
 some (Sum.inl (-1 : Int))
 else
 (at? x1 x1382).bind fun x1718 =>
 (if (x1718.At != (w64 ((w64 (x1381 + 1)) + 1))) = true then
 some (Sum.inl (-1 : Int))
 else
 (at? x1 x1382).bind fun x1724 =>
 (if (x1724.Limit != (w64 ((w64 ((w64 (x1381 + 1)) + 1)) + 1))) = true then
 some (Sum.inl (-1 : Int))
 else
 (at? x1 x1382).bind fun x1730 =>
 (if (x1730.Command.Op != (w64 ((w64 ((w64 ((w64 (x1381 + 1)) + 1)) + 1)) + 1))) = true then
 some (Sum.inl (-1 : Int))
 else
 (at? x1 x1382).bind fun x1736 =>
 (if (x1736.Command.Session != (w64 ((w64 ((w64 ((w64 ((w64 (x1381 + 1)) + 1)) + 1)) + 1)) + 1))) = true then
 some (Sum.inl (-1 : Int))
 else
 (at? x1 x1382).bind fun x1742 =>
 (if (x1742.Command.Seq != (w64 ((w64 ((w64 ((w64 ((w64 ((w64 (x1381 + 1)) + 1)) + 1)) + 1)) + 1)) + 1))) = true then
 some (Sum.inl (-1 : Int))
 else
 (at? x1 x1382).bind fun x1751 =>
 (laws_markText N (w64 ((w64 ((w64 ((w64 ((w64 ((w64 ((w64 (x1381 + 1)) + 1)) + 1)) + 1)) + 1)) + 1)) + 1))).bind fun y1752 =>
 (if (!decide (x1751.Command.Key = y1752)) = true then
 some (Sum.inl (-1 : Int))
 else
 (at? x1 x1382).bind fun x1761 =>
 (laws_markText N (w64 ((w64 ((w64 ((w64 ((w64 ((w64 ((w64 ((w64 (x1381 + 1)) + 1)) + 1)) + 1)) + 1)) + 1)) + 1)) + 1))).bind fun y1762 =>
 (if (!decide (x1761.Command.Value = y1762)) = true then
 some (Sum.inl (-1 : Int))
 else
 (at? x1 x1382).bind fun x1771 =>
 (laws_markText N (w64 ((w64 ((w64 ((w64 ((w64 ((w64 ((w64 ((w64 ((w64 (x1381 + 1)) + 1)) + 1)) + 1)) + 1)) + 1)) + 1)) + 1)) + 1))).bind fun y1772 =>
 (if (!decide (x1771.Command.Old = y1772)) = true then
 some (Sum.inl (-1 : Int))
 else
 (at? x1 x1382).bind fun x1780 =>
 (laws_heldIntS N x1780.Conf (w64 ((w64 ((w64 ((w64 ((w64 ((w64 ((w64 ((w64 ((w64 ((w64 (x1381 + 1)) + 1)) + 1)) + 1)) + 1)) + 1)) + 1)) + 1)) + 1)) + 1))).bind fun y1781 =>
 (if (decide (y1781 < 0)) = true then
 some (Sum.inl (-1 : Int))
 else
 (at? x1 x1382).bind fun x1791 =>
 (intD .rem .i64 y1781 3).bind fun x1792 =>
 (if ((x1791.Cut == (x1792 == 0)) ^^ true) = true then
 some (Sum.inl (-1 : Int))
 else
 (at? x1 x1382).bind fun x1798 =>
 (if (x1798.Whole != (w64 (y1781 + 1))) = true then
 some (Sum.inl (-1 : Int))
 else
 (at? x1 x1382).bind fun x1804 =>
 (if (x1804.Part != (w64 ((w64 (y1781 + 1)) + 1))) = true then
 some (Sum.inl (-1 : Int))
 else
 laws_heldEventS_l1 N x1 m (w64 ((w64 ((w64 (y1781 + 1)) + 1)) + 1)) (w64 (x1382 + 1))))))))))))))))
 else
 some (Sum.inr x1381))
def laws_heldEventS_l1_r (N : Nat) (x1 : (List Event)) : (List Event) → Int → Int → Option ((Int) ⊕ (Int))
 | [],x1381,x1382 =>
 some (Sum.inr x1381)
 | hd :: tl,x1381,x1382 =>
 (some hd).bind fun x1706 =>
 (if (x1706.Kind != x1381) = true then
 some (Sum.inl (-1 : Int))
 else
 (some hd).bind fun x1712 =>
 (if (x1712.Node != (w64 (x1381 + 1))) = true then
 some (Sum.inl (-1 : Int))
 else
 (some hd).bind fun x1718 =>
 (if (x1718.At != (w64 ((w64 (x1381 + 1)) + 1))) = true then
 some (Sum.inl (-1 : Int))
 else
 (some hd).bind fun x1724 =>
 (if (x1724.Limit != (w64 ((w64 ((w64 (x1381 + 1)) + 1)) + 1))) = true then
 some (Sum.inl (-1 : Int))
 else
 (some hd).bind fun x1730 =>
 (if (x1730.Command.Op != (w64 ((w64 ((w64 ((w64 (x1381 + 1)) + 1)) + 1)) + 1))) = true then
 some (Sum.inl (-1 : Int))
 else
 (some hd).bind fun x1736 =>
 (if (x1736.Command.Session != (w64 ((w64 ((w64 ((w64 ((w64 (x1381 + 1)) + 1)) + 1)) + 1)) + 1))) = true then
 some (Sum.inl (-1 : Int))
 else
 (some hd).bind fun x1742 =>
 (if (x1742.Command.Seq != (w64 ((w64 ((w64 ((w64 ((w64 ((w64 (x1381 + 1)) + 1)) + 1)) + 1)) + 1)) + 1))) = true then
 some (Sum.inl (-1 : Int))
 else
 (some hd).bind fun x1751 =>
 (laws_markText N (w64 ((w64 ((w64 ((w64 ((w64 ((w64 ((w64 (x1381 + 1)) + 1)) + 1)) + 1)) + 1)) + 1)) + 1))).bind fun y1752 =>
 (if (!decide (x1751.Command.Key = y1752)) = true then
 some (Sum.inl (-1 : Int))
 else
 (some hd).bind fun x1761 =>
 (laws_markText N (w64 ((w64 ((w64 ((w64 ((w64 ((w64 ((w64 ((w64 (x1381 + 1)) + 1)) + 1)) + 1)) + 1)) + 1)) + 1)) + 1))).bind fun y1762 =>
 (if (!decide (x1761.Command.Value = y1762)) = true then
 some (Sum.inl (-1 : Int))
 else
 (some hd).bind fun x1771 =>
 (laws_markText N (w64 ((w64 ((w64 ((w64 ((w64 ((w64 ((w64 ((w64 ((w64 (x1381 + 1)) + 1)) + 1)) + 1)) + 1)) + 1)) + 1)) + 1)) + 1))).bind fun y1772 =>
 (if (!decide (x1771.Command.Old = y1772)) = true then
 some (Sum.inl (-1 : Int))
 else
 (some hd).bind fun x1780 =>
 (laws_heldIntS N x1780.Conf (w64 ((w64 ((w64 ((w64 ((w64 ((w64 ((w64 ((w64 ((w64 ((w64 (x1381 + 1)) + 1)) + 1)) + 1)) + 1)) + 1)) + 1)) + 1)) + 1)) + 1))).bind fun y1781 =>
 (if (decide (y1781 < 0)) = true then
 some (Sum.inl (-1 : Int))
 else
 (some hd).bind fun x1791 =>
 (intD .rem .i64 y1781 3).bind fun x1792 =>
 (if ((x1791.Cut == (x1792 == 0)) ^^ true) = true then
 some (Sum.inl (-1 : Int))
 else
 (some hd).bind fun x1798 =>
 (if (x1798.Whole != (w64 (y1781 + 1))) = true then
 some (Sum.inl (-1 : Int))
 else
 (some hd).bind fun x1804 =>
 (if (x1804.Part != (w64 ((w64 (y1781 + 1)) + 1))) = true then
 some (Sum.inl (-1 : Int))
 else
 laws_heldEventS_l1_r N x1 tl (w64 ((w64 ((w64 (y1781 + 1)) + 1)) + 1)) (w64 (x1382 + 1))))))))))))))))
theorem laws_heldEventS_l1_rng (N : Nat) (x1 : (List Event)) (hx : x1.length ≤ 1099511627776) : ∀ (d k m : Nat) (x1381 : Int),x1.length = k + d → d < m → laws_heldEventS_l1 N x1 m x1381 (k : Int) = laws_heldEventS_l1_r N x1 (x1.drop k) x1381 (k : Int) := by
 intro d
 induction d with
 | zero =>
  intro k m x1381 hd hm
  obtain ⟨m,rfl⟩ : ∃ q,m = q + 1 := ⟨m - 1,by omega⟩
  rw [laws_heldEventS_l1,if_neg (by simp; omega),List.drop_eq_nil_of_le (by omega),laws_heldEventS_l1_r]
 | succ d ih =>
  intro k m x1381 hd hm
  obtain ⟨m,rfl⟩ : ∃ q,m = q + 1 := ⟨m - 1,by omega⟩
  have hk : k < x1.length := by omega
  rw [laws_heldEventS_l1,if_pos (by simp; omega),List.drop_eq_getElem_cons hk,laws_heldEventS_l1_r]
  have h1 := at_lt hk
  have h2 := w64_succ (k := k) (by omega)
  have h3 := ih (k + 1) m
  simp only [h1,h2,h3 _ (by omega) (by omega)]
theorem laws_heldEventS_l1_eq {N : Nat} (x1 : (List Event)) (hx : x1.length ≤ 1099511627776) (hN : x1.length < N) (x1381 : Int) : laws_heldEventS_l1 N x1 N x1381 0 = laws_heldEventS_l1_r N x1 x1 x1381 0 := laws_heldEventS_l1_rng N x1 hx x1.length 0 N x1381 (by omega) hN
def laws_heldEventS (N : Nat) (x1 : (List Event)) (x2 : Int) : Option (Int) :=
 joinP (fun (v1379 : Int) =>
 some v1379) fun j1379 =>
 (laws_heldEventS_l1 N x1 N x2 0).bind (Sum.elim (fun v1593 => some v1593) (fun (v1594 : Int) => j1379 v1594))
theorem sem_laws_heldEventS (N : Nat) (x1 : (List Event)) (x2 : Int) (r : Int) (h : laws_heldEventS N x1 x2 = some r) : Says Tryz.prog 11 [RO 53 (x1.map (encEvent false)),VI x2] 0 [] (VI r) [] := by
 unfold laws_heldEventS at h
 refine Says.of_norm e Tryz.call11 e fun B hB => ?_
 have hm : B.m ≤ 1000 := by omega
 refine Run.so hm (.p e (.nil (.seqO h (fun v1379 => [(1,VI v1379)]) (fun (v1379 : Int) => []) (fun h => ?_) (fun v1379 h => ?_))))
 ·refine Run.so hm (.p e (.nil (.block ?_)))
  obtain ⟨res1594,h,hk1594⟩ := bindO h
  refine Run.loop (n := N) (fun m1594 fr σ => ∃ (x1381 : Int),∃ (x1382 : Int),laws_heldEventS_l1 N x1 m1594 x1381 x1382 = some res1594 ∧ fr = [(0,RO 53 (x1.map (encEvent false))),(1,VI x1381),(5,VI x1382)] ∧ σ = []) (gh_pk [0,1,5] [] hB e e e e) ⟨_,_,h,e,e⟩ ?_
  rintro m1594 fr σ ⟨x1381,x1382,h,rfl,rfl⟩
  obtain _ | m1594 := m1594
  ·rw [laws_heldEventS_l1] at h; cases h
  rw [laws_heldEventS_l1] at h
  refine Run.seq (.so hm (.p2 e e (.z 9224 (Ev.lnF e) e e (.p e (.nil (.condO e h (fun g1597 h => ?_) (fun g1597 h => ?_)))))))
  ·refine Run.skip (.seq (.block (.seq (.so hm (.p2 e e ?_)))))
   obtain ⟨x1706,hx1706,h⟩ := bindO h
   refine Ops.z 17416 (Ev.iaF e e hx1706) e e (.p3 e e e (.p e (.nil (.condO e h (fun g1707 h => ?_) (fun g1707 h => ?_)))))
   ·refine Run.so hm (.p e (.nil (.ret ?_)))
    obtain rfl := someO h
    have h := hk1594
    replace h := inlO h
    obtain rfl := someO h
    exact Ends.mkG (.inl e) e (gh_pk [0] [] hB e e e e) e e
   ·refine Run.skip (.so hm (.p3 e e e (.nil (.seq (.so hm (.p2 e e ?_))))))
    obtain ⟨x1712,hx1712,h⟩ := bindO h
    refine Ops.z 29704 (Ev.iaF e e hx1712) e e (.p3 e e e (.p e (.nil (.condO e h (fun g1713 h => ?_) (fun g1713 h => ?_)))))
    ·refine Run.so hm (.p e (.nil (.ret ?_)))
     obtain rfl := someO h
     have h := hk1594
     replace h := inlO h
     obtain rfl := someO h
     exact Ends.mkG (.inl e) e (gh_pk [0] [] hB e e e e) e e
    ·refine Run.skip (.so hm (.p3 e e e (.nil (.seq (.so hm (.p2 e e ?_))))))
     obtain ⟨x1718,hx1718,h⟩ := bindO h
     refine Ops.z 41992 (Ev.iaF e e hx1718) e e (.p3 e e e (.p e (.nil (.condO e h (fun g1719 h => ?_) (fun g1719 h => ?_)))))
     ·refine Run.so hm (.p e (.nil (.ret ?_)))
      obtain rfl := someO h
      have h := hk1594
      replace h := inlO h
      obtain rfl := someO h
      exact Ends.mkG (.inl e) e (gh_pk [0] [] hB e e e e) e e
     ·refine Run.skip (.so hm (.p3 e e e (.nil (.seq (.so hm (.p2 e e ?_))))))
      obtain ⟨x1724,hx1724,h⟩ := bindO h
      refine Ops.z 54280 (Ev.iaF e e hx1724) e e (.p3 e e e (.p e (.nil (.condO e h (fun g1725 h => ?_) (fun g1725 h => ?_)))))
      ·refine Run.so hm (.p e (.nil (.ret ?_)))
       obtain rfl := someO h
       have h := hk1594
       replace h := inlO h
       obtain rfl := someO h
       exact Ends.mkG (.inl e) e (gh_pk [0] [] hB e e e e) e e
      ·refine Run.skip (.so hm (.p3 e e e (.nil (.seq (.so hm (.p2 e e ?_))))))
       obtain ⟨x1730,hx1730,h⟩ := bindO h
       refine Ops.z 66568 (Ev.iaF e e hx1730) e e (.p3 e e e (.p2 e e (.nil (.condO e h (fun g1731 h => ?_) (fun g1731 h => ?_)))))
       ·refine Run.so hm (.p e (.nil (.ret ?_)))
        obtain rfl := someO h
        have h := hk1594
        replace h := inlO h
        obtain rfl := someO h
        exact Ends.mkG (.inl e) e (gh_pk [0] [] hB e e e e) e e
       ·refine Run.skip (.so hm (.p3 e e e (.nil (.seq (.so hm (.p2 e e ?_))))))
        obtain ⟨x1736,hx1736,h⟩ := bindO h
        refine Ops.z 78856 (Ev.iaF e e hx1736) e e (.p3 e e e (.p2 e e (.nil (.condO e h (fun g1737 h => ?_) (fun g1737 h => ?_)))))
        ·refine Run.so hm (.p e (.nil (.ret ?_)))
         obtain rfl := someO h
         have h := hk1594
         replace h := inlO h
         obtain rfl := someO h
         exact Ends.mkG (.inl e) e (gh_pk [0] [] hB e e e e) e e
        ·refine Run.skip (.so hm (.p3 e e e (.nil (.seq (.so hm (.p2 e e ?_))))))
         obtain ⟨x1742,hx1742,h⟩ := bindO h
         refine Ops.z 91144 (Ev.iaF e e hx1742) e e (.p3 e e e (.p2 e e (.nil (.condO e h (fun g1743 h => ?_) (fun g1743 h => ?_)))))
         ·refine Run.so hm (.p e (.nil (.ret ?_)))
          obtain rfl := someO h
          have h := hk1594
          replace h := inlO h
          obtain rfl := someO h
          exact Ends.mkG (.inl e) e (gh_pk [0] [] hB e e e e) e e
         ·refine Run.skip (.so hm (.p3 e e e (.nil (.seq (.seq (.draw hm hmix (.p e (.p e ?_))))))))
          obtain ⟨x1751,hx1751,h⟩ := bindO h
          refine OpsD.z 103432 (Ev.iaF e e hx1751) e e (.p e (.p e (.p e (.p e ?_))))
          obtain ⟨y1752,hy1752,h⟩ := bindO h
          refine OpsD.z 103512 (Ev.call [] [] 0 (sem_laws_markText _ _ _ hy1752) e e (.d1 .nil) e (.inl e) e e) e e (.p e (.nil ⟨by kernel_rfl,?_⟩))
          refine Run.condO e h (fun g1753 h => ?_) (fun g1753 h => ?_)
          ·refine Run.so hm (.p e (.nil (.ret ?_)))
           obtain rfl := someO h
           have h := hk1594
           replace h := inlO h
           obtain rfl := someO h
           exact Ends.mkG (.inl e) e (gh_pk [0] [] hB e e e e) e e
          ·refine Run.skip (.so hm (.p3 e e e (.nil (.seq (.seq (.draw hm hmix (.p e (.p e ?_))))))))
           obtain ⟨x1761,hx1761,h⟩ := bindO h
           refine OpsD.z 115720 (Ev.iaF e e hx1761) e e (.p e (.p e (.p e (.p e ?_))))
           obtain ⟨y1762,hy1762,h⟩ := bindO h
           refine OpsD.z 115800 (Ev.call [] [] 0 (sem_laws_markText _ _ _ hy1762) e e (.d1 .nil) e (.inl e) e e) e e (.p e (.nil ⟨by kernel_rfl,?_⟩))
           refine Run.condO e h (fun g1763 h => ?_) (fun g1763 h => ?_)
           ·refine Run.so hm (.p e (.nil (.ret ?_)))
            obtain rfl := someO h
            have h := hk1594
            replace h := inlO h
            obtain rfl := someO h
            exact Ends.mkG (.inl e) e (gh_pk [0] [] hB e e e e) e e
           ·refine Run.skip (.so hm (.p3 e e e (.nil (.seq (.seq (.draw hm hmix (.p e (.p e ?_))))))))
            obtain ⟨x1771,hx1771,h⟩ := bindO h
            refine OpsD.z 128008 (Ev.iaF e e hx1771) e e (.p e (.p e (.p e (.p e ?_))))
            obtain ⟨y1772,hy1772,h⟩ := bindO h
            refine OpsD.z 128088 (Ev.call [] [] 0 (sem_laws_markText _ _ _ hy1772) e e (.d1 .nil) e (.inl e) e e) e e (.p e (.nil ⟨by kernel_rfl,?_⟩))
            refine Run.condO e h (fun g1773 h => ?_) (fun g1773 h => ?_)
            ·refine Run.so hm (.p e (.nil (.ret ?_)))
             obtain rfl := someO h
             have h := hk1594
             replace h := inlO h
             obtain rfl := someO h
             exact Ends.mkG (.inl e) e (gh_pk [0] [] hB e e e e) e e
            ·refine Run.skip (.so hm (.p3 e e e (.nil (.so hm (.p2 e e ?_)))))
             obtain ⟨x1780,hx1780,h⟩ := bindO h
             refine Ops.z 140296 (Ev.iaF e e hx1780) e e (.p3 e e e ?_)
             obtain ⟨y1781,hy1781,h⟩ := bindO h
             refine Ops.z 140360 (Ev.call [] [] 0 (sem_laws_heldIntS _ _ _ _ hy1781) e e (.d2 .nil) e (.inl e) e e) e e (.p e (.nil (.seq (.so hm (.p2 e e (.nil (.condO e h (fun g1783 h => ?_) (fun g1783 h => ?_))))))))
             ·refine Run.so hm (.p e (.nil (.ret ?_)))
              obtain rfl := someO h
              have h := hk1594
              replace h := inlO h
              obtain rfl := someO h
              exact Ends.mkG (.inl e) e (gh_pk [0] [] hB e e e e) e e
             ·refine Run.skip (.seq (.so hm (.p2 e e ?_)))
              obtain ⟨x1791,hx1791,h⟩ := bindO h
              refine Ops.z 152584 (Ev.iaF e e hx1791) e e (.p3 e e e ?_)
              obtain ⟨x1792,hx1792,h⟩ := bindO h
              refine Ops.z 152648 (.bin e e hx1792) e e (.p2 e e (.nil (.condO e h (fun g1793 h => ?_) (fun g1793 h => ?_))))
              ·refine Run.so hm (.p e (.nil (.ret ?_)))
               obtain rfl := someO h
               have h := hk1594
               replace h := inlO h
               obtain rfl := someO h
               exact Ends.mkG (.inl e) e (gh_pk [0] [] hB e e e e) e e
              ·refine Run.skip (.so hm (.p3 e e e (.nil (.seq (.so hm (.p2 e e ?_))))))
               obtain ⟨x1798,hx1798,h⟩ := bindO h
               refine Ops.z 164872 (Ev.iaF e e hx1798) e e (.p3 e e e (.p e (.nil (.condO e h (fun g1799 h => ?_) (fun g1799 h => ?_)))))
               ·refine Run.so hm (.p e (.nil (.ret ?_)))
                obtain rfl := someO h
                have h := hk1594
                replace h := inlO h
                obtain rfl := someO h
                exact Ends.mkG (.inl e) e (gh_pk [0] [] hB e e e e) e e
               ·refine Run.skip (.so hm (.p3 e e e (.nil (.seq (.so hm (.p2 e e ?_))))))
                obtain ⟨x1804,hx1804,h⟩ := bindO h
                refine Ops.z 177160 (Ev.iaF e e hx1804) e e (.p3 e e e (.p e (.nil (.condO e h (fun g1805 h => ?_) (fun g1805 h => ?_)))))
                ·refine Run.so hm (.p e (.nil (.ret ?_)))
                 obtain rfl := someO h
                 have h := hk1594
                 replace h := inlO h
                 obtain rfl := someO h
                 exact Ends.mkG (.inl e) e (gh_pk [0] [] hB e e e e) e e
                ·exact Run.skip (.ops hm (.p3 e e e (.nil (.ops hm (.p3 e e e (.nil (⟨m1594,Nat.lt_succ_self m1594,_,_,(gh_pk [0,1,5] [] hB e e e e),_,_,h,e,e⟩)))))))
  ·refine Run.exit ?_
   obtain rfl := someO h
   have h := hk1594
   replace h := inrO h
   exact ⟨_,_,(gh_pk [1] [] hB e e e e),_,h,e,e⟩
 ·refine Run.so hm (.p2 e e (.nil (.ret ?_)))
  obtain rfl := someO h
  exact Ends.mkG (.inl e) e (gh_pk [0] [] hB e e e e) e e
def laws_FnExactReadScript (N : Nat) (x1 : ByteArray) : Option (Bool) :=
 (if (decide ((x1.size : Int) > 1048576)) = true then
 some true
 else
 (spec_ReadScript N x1).bind fun y206 =>
 (impl_ReadScript N x1).bind fun y210 =>
 (if (y210.1 != y206.1) = true then
 some false
 else
 (laws_eqIntS N y210.2.1 y206.2.1).bind fun y228 =>
 (if (!y228) = true then
 some false
 else
 (laws_eqEventS N y210.2.2.1 y206.2.2.1).bind fun y230 =>
 (if (!y230) = true then
 some false
 else
 (if (y210.2.2.2 != y206.2.2.2) = true then
 some false
 else
 (laws_markIntS N y210.2.1 1).bind fun y239 =>
 (len? y210.2.1 y239.2).bind fun y240 =>
 (laws_markEventS N y210.2.2.1 y239.1).bind fun y247 =>
 (len? y210.2.2.1 y247.2).bind fun y248 =>
 (laws_heldIntS N y239.2 1).bind fun y252 =>
 (if (decide (y252 < 0)) = true then
 some false
 else
 (laws_heldEventS N y247.2 y252).bind fun y258 =>
 (if (decide (y258 < 0)) = true then
 some false
 else
 (if (y258 != y247.1) = true then
 some false
 else
 (impl_ReadScript N x1).bind fun y266 =>
 (if (y266.1 != y206.1) = true then
 some false
 else
 (laws_eqIntS N y266.2.1 y206.2.1).bind fun y284 =>
 (if (!y284) = true then
 some false
 else
 (laws_eqEventS N y266.2.2.1 y206.2.2.1).bind fun y286 =>
 (if (!y286) = true then
 some false
 else
 (if (y266.2.2.2 != y206.2.2.2) = true then
 some false
 else
 (laws_heldIntS N y239.2 1).bind fun y292 =>
 (if (decide (y292 < 0)) = true then
 some false
 else
 (laws_heldEventS N y247.2 y292).bind fun y298 =>
 (if (decide (y298 < 0)) = true then
 some false
 else
 (if (y298 != y247.1) = true then
 some false
 else
 some true)))))))))))))))
theorem sem_laws_FnExactReadScript (N : Nat) (x1 : ByteArray) (r : Bool) (h : laws_FnExactReadScript N x1 = some r) : Says Tryz.prog 3 [VS x1] 0 [] (VB r) [] := by
 unfold laws_FnExactReadScript at h
 refine Says.of_norm e Tryz.call3 e fun B hB => ?_
 have hm : B.m ≤ 1000 := by omega
 refine Run.so hm (.p e (.nil (.seq (.so hm (.p3 e e e (.nil (.condO e h (fun g202 h => ?_) (fun g202 h => ?_))))))))
 ·refine Run.so hm (.p e (.nil (.ret ?_)))
  obtain rfl := someO h
  exact Ends.mkG (.inl e) e (gh_pk [0] [] hB e e e e) e e
 ·refine Run.skip (.so hm (.p e ?_))
  obtain ⟨y206,hy206,h⟩ := bindO h
  refine Ops.z 13304 (Ev.call [] [] 2 (sem_spec_ReadScript _ _ _ hy206) e e (.d1 .nil) e (.inl e) e e) e e (.p3 e e e (.p3 e e e (.p3 e e e (.nil (.so hm (.p e ?_))))))
  obtain ⟨y210,hy210,h⟩ := bindO h
  refine Ops.z 17400 (Ev.call [] [] 2 (sem_impl_ReadScript _ _ _ hy210) e e (.d1 .nil) e (.inl e) e e) e e (.p3 e e e (.p3 e e e (.p3 e e e (.nil (.seq (.so hm (.p3 e e e (.p e (.askO (x := .t 37) e h (fun g227 h => ?_) (fun g227 h => ?_))))))))))
  ·refine Ops.gn e g227 (.gn e g227 (.gn e g227 (.gn e g227 (.z 21608 (.pkT e g227 e) e e (.p e (.gn e e (.gn e e (.gn e e (.gn e e (.z 21704 (.pkT e e e) e e (.p e (.gn e e (.gn e e (.gn e e (.z 21784 (.pkT e e e) e e (.nil (.condT e e (.so hm (.p e (.nil (.ret ?_)))))))))))))))))))))
   obtain rfl := someO h
   exact Ends.mkG (.inl e) e (gh_pk [0] [] hB e e e e) e e
  ·refine Ops.gp e g227 e (.gp e g227 e ?_)
   obtain ⟨y228,hy228,h⟩ := bindO h
   refine Ops.gs (s := 21576) e g227 (Ev.call [] [17400,13304] 0 (sem_laws_eqIntS _ _ _ _ hy228) e e (.cons (.borrow e (by decide) (lendW (fun _ => e) _ e)) (.cons (.borrow e (by decide) (lendW (fun _ => e) _ e)) .nil)) e (.inr ⟨e,ownL_root trivial⟩) e e) e e ?_
   refine Ops.gp e g227 e (.z 21608 (.pkF e g227 e) e e (.p e (.askO (x := .t 43) e h (fun g229 h => ?_) (fun g229 h => ?_))))
   ·refine Ops.gn e g229 (.gn e g229 (.gn e g229 (.gn e g229 (.z 21704 (.pkT e g229 e) e e (.p e (.gn e e (.gn e e (.gn e e (.z 21784 (.pkT e e e) e e (.nil (.condT e e (.so hm (.p e (.nil (.ret ?_)))))))))))))))
    obtain rfl := someO h
    exact Ends.mkG (.inl e) e (gh_pk [0] [] hB e e e e) e e
   ·refine Ops.gp e g229 e (.gp e g229 e ?_)
    obtain ⟨y230,hy230,h⟩ := bindO h
    refine Ops.gs (s := 21672) e g229 (Ev.call [] [17401,13305] 0 (sem_laws_eqEventS _ _ _ _ hy230) e e (.cons (.borrow e (by decide) (lendW ro_encEvent _ e)) (.cons (.borrow e (by decide) (lendW ro_encEvent _ e)) .nil)) e (.inr ⟨e,ownL_root trivial⟩) e e) e e ?_
    refine Ops.gp e g229 e (.z 21704 (.pkF e g229 e) e e (.p e (.askO (x := .t 49) e h (fun g231 h => ?_) (fun g231 h => ?_))))
    ·refine Ops.gn e g231 (.gn e g231 (.gn e g231 (.z 21784 (.pkT e g231 e) e e (.nil (.condT e e (.so hm (.p e (.nil (.ret ?_)))))))))
     obtain rfl := someO h
     exact Ends.mkG (.inl e) e (gh_pk [0] [] hB e e e e) e e
    ·refine Ops.gp e g231 e (.gp e g231 e (.gp e g231 e (.z 21784 (.pkF e g231 e) e e (.nil (.condO e h (fun g232 h => ?_) (fun g232 h => ?_))))))
     ·refine Run.so hm (.p e (.nil (.ret ?_)))
      obtain rfl := someO h
      exact Ends.mkG (.inl e) e (gh_pk [0] [] hB e e e e) e e
     ·refine Run.skip (.so hm (.p e (.nil (.so hm (.p2 e e ?_)))))
      obtain ⟨y239,hy239,h⟩ := bindO h
      obtain ⟨y240,hy240,h⟩ := bindO h
      refine Ops.z 33800 (Ev.call [17400] [] 0 (sem_laws_markIntS _ _ _ _ hy239) e e (.cons (.sl e) (.d1 .nil)) e (.inl e) e e) e e (.p e (.nil (.so hm (.p2 e e ?_))))
      obtain ⟨y247,hy247,h⟩ := bindO h
      obtain ⟨y248,hy248,h⟩ := bindO h
      refine Ops.z 37896 (Ev.call [17401] [] 0 (sem_laws_markEventS _ _ _ _ hy247) e e (.cons (.sl e) (.d1 .nil)) e (.inl e) e e) e e (.p e (.nil (.so hm (.p e (.nil (.so hm (.p2 e e ?_)))))))
      obtain ⟨y252,hy252,h⟩ := bindO h
      refine Ops.z 46088 (Ev.call [] [17400] 0 (sem_laws_heldIntS _ _ _ _ hy252) e e (.cons (.borrow e (by decide) (lendW (fun _ => e) _ (len_some hy240))) (.d1 .nil)) e (.inr ⟨e,ownL_root trivial⟩) e e) e e ?_
      refine Ops.p e (.nil (.seq (.so hm (.p2 e e (.nil (.condO e h (fun g254 h => ?_) (fun g254 h => ?_)))))))
      ·refine Run.so hm (.p e (.nil (.ret ?_)))
       obtain rfl := someO h
       exact Ends.mkG (.inl e) e (gh_pk [0] [] hB e e e e) e e
      ·refine Run.skip (.so hm (.p2 e e ?_))
       obtain ⟨y258,hy258,h⟩ := bindO h
       refine Ops.z 58376 (Ev.call [] [17401] 0 (sem_laws_heldEventS _ _ _ _ hy258) e e (.cons (.borrow e (by decide) (lendW ro_encEvent _ (len_some hy248))) (.d1 .nil)) e (.inr ⟨e,ownL_root trivial⟩) e e) e e ?_
       refine Ops.p e (.nil (.seq (.so hm (.p2 e e (.nil (.condO e h (fun g260 h => ?_) (fun g260 h => ?_)))))))
       ·refine Run.so hm (.p e (.nil (.ret ?_)))
        obtain rfl := someO h
        exact Ends.mkG (.inl e) e (gh_pk [0] [] hB e e e e) e e
       ·refine Run.skip (.seq (.so hm (.p3 e e e (.nil (.condO e h (fun g262 h => ?_) (fun g262 h => ?_))))))
        ·refine Run.so hm (.p e (.nil (.ret ?_)))
         obtain rfl := someO h
         exact Ends.mkG (.inl e) e (gh_pk [0] [] hB e e e e) e e
        ·refine Run.skip (.so hm (.p e ?_))
         obtain ⟨y266,hy266,h⟩ := bindO h
         refine Ops.z 78840 (Ev.call [] [] 2 (sem_impl_ReadScript _ _ _ hy266) e e (.d1 .nil) e (.inl e) e e) e e (.p3 e e e (.p3 e e e (.p3 e e e (.nil (.seq (.so hm (.p3 e e e (.p e (.askO (x := .t 83) e h (fun g283 h => ?_) (fun g283 h => ?_))))))))))
         ·refine Ops.gn e g283 (.gn e g283 (.gn e g283 (.gn e g283 (.z 83048 (.pkT e g283 e) e e (.p e (.gn e e (.gn e e (.gn e e (.gn e e (.z 83144 (.pkT e e e) e e (.p e (.gn e e (.gn e e (.gn e e (.z 83224 (.pkT e e e) e e (.nil (.condT e e (.so hm (.p e (.nil (.ret ?_)))))))))))))))))))))
          obtain rfl := someO h
          exact Ends.mkG (.inl e) e (gh_pk [0] [] hB e e e e) e e
         ·refine Ops.gp e g283 e (.gp e g283 e ?_)
          obtain ⟨y284,hy284,h⟩ := bindO h
          refine Ops.gs (s := 83016) e g283 (Ev.call [] [78840,13304] 0 (sem_laws_eqIntS _ _ _ _ hy284) e e (.cons (.borrow e (by decide) (lendW (fun _ => e) _ e)) (.cons (.borrow e (by decide) (lendW (fun _ => e) _ e)) .nil)) e (.inr ⟨e,ownL_root trivial⟩) e e) e e ?_
          refine Ops.gp e g283 e (.z 83048 (.pkF e g283 e) e e (.p e (.askO (x := .t 89) e h (fun g285 h => ?_) (fun g285 h => ?_))))
          ·refine Ops.gn e g285 (.gn e g285 (.gn e g285 (.gn e g285 (.z 83144 (.pkT e g285 e) e e (.p e (.gn e e (.gn e e (.gn e e (.z 83224 (.pkT e e e) e e (.nil (.condT e e (.so hm (.p e (.nil (.ret ?_)))))))))))))))
           obtain rfl := someO h
           exact Ends.mkG (.inl e) e (gh_pk [0] [] hB e e e e) e e
          ·refine Ops.gp e g285 e (.gp e g285 e ?_)
           obtain ⟨y286,hy286,h⟩ := bindO h
           refine Ops.gs (s := 83112) e g285 (Ev.call [] [78841,13305] 0 (sem_laws_eqEventS _ _ _ _ hy286) e e (.cons (.borrow e (by decide) (lendW ro_encEvent _ e)) (.cons (.borrow e (by decide) (lendW ro_encEvent _ e)) .nil)) e (.inr ⟨e,ownL_root trivial⟩) e e) e e ?_
           refine Ops.gp e g285 e (.z 83144 (.pkF e g285 e) e e (.p e (.askO (x := .t 95) e h (fun g287 h => ?_) (fun g287 h => ?_))))
           ·refine Ops.gn e g287 (.gn e g287 (.gn e g287 (.z 83224 (.pkT e g287 e) e e (.nil (.condT e e (.so hm (.p e (.nil (.ret ?_)))))))))
            obtain rfl := someO h
            exact Ends.mkG (.inl e) e (gh_pk [0] [] hB e e e e) e e
           ·refine Ops.gp e g287 e (.gp e g287 e (.gp e g287 e (.z 83224 (.pkF e g287 e) e e (.nil (.condO e h (fun g288 h => ?_) (fun g288 h => ?_))))))
            ·refine Run.so hm (.p e (.nil (.ret ?_)))
             obtain rfl := someO h
             exact Ends.mkG (.inl e) e (gh_pk [0] [] hB e e e e) e e
            ·refine Run.skip (.so hm (.p e (.nil (.so hm (.p2 e e ?_)))))
             obtain ⟨y292,hy292,h⟩ := bindO h
             refine Ops.z 95240 (Ev.call [] [17400] 0 (sem_laws_heldIntS _ _ _ _ hy292) e e (.cons (.borrow e (by decide) (lendW (fun _ => e) _ (len_some hy240))) (.d1 .nil)) e (.inr ⟨e,ownL_root trivial⟩) e e) e e ?_
             refine Ops.p e (.nil (.seq (.so hm (.p2 e e (.nil (.condO e h (fun g294 h => ?_) (fun g294 h => ?_)))))))
             ·refine Run.so hm (.p e (.nil (.ret ?_)))
              obtain rfl := someO h
              exact Ends.mkG (.inl e) e (gh_pk [0] [] hB e e e e) e e
             ·refine Run.skip (.so hm (.p2 e e ?_))
              obtain ⟨y298,hy298,h⟩ := bindO h
              refine Ops.z 107528 (Ev.call [] [17401] 0 (sem_laws_heldEventS _ _ _ _ hy298) e e (.cons (.borrow e (by decide) (lendW ro_encEvent _ (len_some hy248))) (.d1 .nil)) e (.inr ⟨e,ownL_root trivial⟩) e e) e e ?_
              refine Ops.p e (.nil (.seq (.so hm (.p2 e e (.nil (.condO e h (fun g300 h => ?_) (fun g300 h => ?_)))))))
              ·refine Run.so hm (.p e (.nil (.ret ?_)))
               obtain rfl := someO h
               exact Ends.mkG (.inl e) e (gh_pk [0] [] hB e e e e) e e
              ·refine Run.skip (.seq (.so hm (.p3 e e e (.nil (.condO e h (fun g301 h => ?_) (fun g301 h => ?_))))))
               ·refine Run.so hm (.p e (.nil (.ret ?_)))
                obtain rfl := someO h
                exact Ends.mkG (.inl e) e (gh_pk [0] [] hB e e e e) e e
               ·refine Run.skip (.so hm (.p e (.nil (.ret ?_))))
                obtain rfl := someO h
                exact Ends.mkG (.inl e) e (gh_pk [0] [] hB e e e e) e e
end Go.Proofs.YtmnoonjkiflonaaGreatDoor.Pe.FnExactReadScript
