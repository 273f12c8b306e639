/- Functions,as pure functions; and that Go does just that. -/
import Derived.Test.YtedoifjaobebeaaGreatDoorPeFFnExactShowWorld1
namespace Go.Proofs.YtedoifjaobebeaaGreatDoor.Pe.FnExactShowWorld
open Go Go.RowKit
set_option linter.unusedVariables false
set_option linter.unusedSimpArgs false
set_option maxHeartbeats 40000000
set_option maxRecDepth 100000
def laws_toWorld (N : Nat) (x1 : World) : Option (World) :=
 (laws_toBoolS N x1.Up).bind fun y131 =>
 (laws_toServerS N x1.Servers).bind fun y135 =>
 (laws_toMessageS N x1.Net).bind fun y139 =>
 (laws_toWaitS N x1.Waits).bind fun y143 =>
 (laws_toLeaderS N x1.Leaders).bind fun y147 =>
 (laws_toAppliedS N x1.Applied).bind fun y151 =>
 (laws_toReplyS N x1.Replies).bind fun y155 =>
 some (World.mk y131 y135 y139 y143 y147 y151 y155)
theorem sem_laws_toWorld (N : Nat) (x1 : World) (r : World) (h : laws_toWorld N x1 = some r) : Says Tryz.prog 6 [.agg [RO 4 (x1.Up.map encB),RO 88 (x1.Servers.map (encServerL false)),RO 91 (x1.Net.map (encMessageL false)),RO 127 (x1.Waits.map encWait),RO 94 (x1.Leaders.map (encLeaderL false)),RO 99 (x1.Applied.map encApplied),RO 103 (x1.Replies.map encReply)]] 0 [] (.agg [.sl 0 4 0 r.Up.length,.sl 1 119 0 r.Servers.length,.sl 2 122 0 r.Net.length,.sl 3 125 0 r.Waits.length,.sl 4 129 0 r.Leaders.length,.sl 5 133 0 r.Applied.length,.sl 6 56 0 r.Replies.length]) [(0,.vec 4 (r.Up.map encB)),(1,.vec 119 (r.Servers.map (encServer true))),(2,.vec 122 (r.Net.map (encMessage true))),(3,.vec 125 (r.Waits.map encWait)),(4,.vec 129 (r.Leaders.map (encLeader true))),(5,.vec 133 (r.Applied.map encApplied)),(6,.vec 56 (r.Replies.map encReply))] := by
 unfold laws_toWorld at h
 refine Says.of_norm e Tryz.call6 e fun B hB => ?_
 have hm : B.m ≤ 1000 := by omega
 refine Run.so hm (.z 1000 (.bx e e) e e (.z 1016 (.al e e) e e (.nil (.so hm (.z 5096 (.al e e) e e (.nil (.so hm (.p2 e e ?_))))))))
 obtain ⟨y131,hy131,h⟩ := bindO h
 refine Ops.z 9224 (Ev.call [] [] 1 (sem_laws_toBoolS _ _ _ hy131) e e (.d1 .nil) e (.inl e) e e) e e (.p e (.y 9256 (.sto e e e e e e) e e (.nil (.so hm (.p2 e e ?_)))))
 obtain ⟨y135,hy135,h⟩ := bindO h
 refine Ops.z 13320 (Ev.call [] [] 1 (sem_laws_toServerS _ _ _ hy135) e e (.d1 .nil) e (.inl e) e e) e e (.p e (.y 13352 (.sto e e e e e e) e e (.nil (.so hm (.p2 e e ?_)))))
 obtain ⟨y139,hy139,h⟩ := bindO h
 refine Ops.z 17416 (Ev.call [] [] 1 (sem_laws_toMessageS _ _ _ hy139) e e (.d1 .nil) e (.inl e) e e) e e (.p e (.y 17448 (.sto e e e e e e) e e (.nil (.so hm (.p2 e e ?_)))))
 obtain ⟨y143,hy143,h⟩ := bindO h
 refine Ops.z 21512 (Ev.call [] [] 1 (sem_laws_toWaitS _ _ _ hy143) e e (.d1 .nil) e (.inl e) e e) e e (.p e (.y 21544 (.sto e e e e e e) e e (.nil (.so hm (.p2 e e ?_)))))
 obtain ⟨y147,hy147,h⟩ := bindO h
 refine Ops.z 25608 (Ev.call [] [] 1 (sem_laws_toLeaderS _ _ _ hy147) e e (.d1 .nil) e (.inl e) e e) e e (.p e (.y 25640 (.sto e e e e e e) e e (.nil (.so hm (.p2 e e ?_)))))
 obtain ⟨y151,hy151,h⟩ := bindO h
 refine Ops.z 29704 (Ev.call [] [] 1 (sem_laws_toAppliedS _ _ _ hy151) e e (.d1 .nil) e (.inl e) e e) e e (.p e (.y 29736 (.sto e e e e e e) e e (.nil (.so hm (.p2 e e ?_)))))
 obtain ⟨y155,hy155,h⟩ := bindO h
 refine Ops.z 33800 (Ev.call [] [] 1 (sem_laws_toReplyS _ _ _ hy155) e e (.d1 .nil) e (.inl e) e e) e e (.p e (.y 33832 (.sto e e e e e e) e e (.nil (.so hm (.p e (.y 37880 (.sto e e e e e e) e e (.nil (.ret ?_))))))))
 obtain rfl := someO h
 exact Ends.mkG (.inl e) e (gh_pk [0] [9224,13320,17416,21512,25608,29704,33800] hB e e e e) e e
def spec_l01Figure (N : Nat) (x1 : Int) : Option (Int) :=
 (if (decide (x1 < 10)) = true then
 some (IntKind.wrap .u8 (w64 (48 + x1)))
 else
 some (IntKind.wrap .u8 (w64 ((w64 (97 + x1)) - 10))))
theorem sem_spec_l01Figure (N : Nat) (x1 : Int) (r : Int) (h : spec_l01Figure N x1 = some r) : Says Tryz.prog 37 [VI x1] 0 [] (.c (.i .u8 r)) [] := by
 unfold spec_l01Figure at h
 refine Says.of_norm e Tryz.call37 e fun B hB => ?_
 have hm : B.m ≤ 1000 := by omega
 refine Run.so hm (.p e (.nil (.seq (.so hm (.p2 e e (.nil (.condO e h (fun g103 h => ?_) (fun g103 h => ?_))))))))
 ·refine Run.so hm (.p3 e e e (.p e (.nil (.ret ?_))))
  obtain rfl := someO h
  exact Ends.mkG (.inl e) e (gh_pk [0] [] hB e e e e) e e
 ·refine Run.skip (.so hm (.p3 e e e (.p2 e e (.nil (.ret ?_)))))
  obtain rfl := someO h
  exact Ends.mkG (.inl e) e (gh_pk [0] [] hB e e e e) e e
def spec_Decimal_l1 (N : Nat) : Nat → Int → ByteArray → Option (ByteArray)
 | 0,_,_ => none
 | m + 1,x241,x243 =>
 (if (x241 != 0) = true then
 (intD .rem .i64 x241 10).bind fun x270 =>
 joinP (fun (v272 : Int) =>
 (spec_l01Figure N v272).bind fun y280 =>
 (scat? (strOf ([y280] : List Int)) x243).bind fun x281 =>
 (intD .quo .i64 x241 10).bind fun x283 =>
 spec_Decimal_l1 N m x283 x281) fun j272 =>
 (if (decide (x270 < 0)) = true then
 j272 (w64 ((-x270)))
 else
 j272 x270)
 else
 some x243)
def spec_Decimal (N : Nat) (x1 : Int) : Option (ByteArray) :=
 (if (x1 == 0) = true then
 some (⟨#[48]⟩ : ByteArray)
 else
 joinP (fun (v240 : ByteArray) =>
 (if (decide (x1 < 0)) = true then
 (scat? (⟨#[45]⟩ : ByteArray) v240).bind fun x289 =>
 some x289
 else
 some v240)) fun j240 =>
 (spec_Decimal_l1 N N x1 (⟨#[]⟩ : ByteArray)).bind (fun v263 => j240 v263))
theorem sem_spec_Decimal (N : Nat) (x1 : Int) (r : ByteArray) (h : spec_Decimal N x1 = some r) : Says Tryz.prog 16 [VI x1] 0 [] (VS r) [] := by
 unfold spec_Decimal at h
 refine Says.of_norm e Tryz.call16 e fun B hB => ?_
 have hm : B.m ≤ 1000 := by omega
 refine Run.so hm (.p e (.nil (.seq (.so hm (.p2 e e (.nil (.condO e h (fun g196 h => ?_) (fun g196 h => ?_))))))))
 ·refine Run.so hm (.p e (.nil (.ret ?_)))
  obtain rfl := someO h
  exact Ends.mkG (.inl e) e (gh_pk [0] [] hB e e e e) e e
 ·refine Run.skip (.so hm (.p3 e e e (.nil (.so hm (.p e (.nil (.seqO h (fun v240 => [(3,VB (decide (x1 < 0))),(4,VS v240)]) (fun (v240 : ByteArray) => []) (fun h => ?_) (fun v240 h => ?_))))))))
  ·refine Run.block ?_
   obtain ⟨res263,h,hk263⟩ := bindO h
   refine Run.loop (n := N) (fun m263 fr σ => ∃ (x241 : Int),∃ (x243 : ByteArray),spec_Decimal_l1 N m263 x241 x243 = some res263 ∧ fr = [(0,VI x241),(3,VB (decide (x1 < 0))),(4,VS x243)] ∧ σ = []) (gh_pk [0,3,4] [] hB e e e e) ⟨_,_,h,e,e⟩ ?_
   rintro m263 fr σ ⟨x241,x243,h,rfl,rfl⟩
   obtain _ | m263 := m263
   ·rw [spec_Decimal_l1] at h; cases h
   rw [spec_Decimal_l1] at h
   refine Run.seq (.so hm (.p2 e e (.nil (.condO e h (fun g266 h => ?_) (fun g266 h => ?_)))))
   ·refine Run.skip (.block (.so hm (.p e ?_)))
    obtain ⟨x270,hx270,h⟩ := bindO h
    refine Ops.z 25592 (.bin e e hx270) e e (.p e (.nil (.seqO h (fun v272 => [(0,VI x241),(3,VB (decide (x1 < 0))),(4,VS x243),(5,VI v272)]) (fun (v272 : Int) => []) (fun h => ?_) (fun v272 h => ?_))))
    ·refine Run.so hm (.p2 e e (.nil (.condO e h (fun g273 h => ?_) (fun g273 h => ?_))))
     ·exact Run.ops hm (.p3 e e e (.nil (⟨_,_,(gh_pk [0,3,4,5] [] hB e e e e),_,h,e,e⟩)))
     ·exact Run.skip (⟨_,_,(gh_pk [0,3,4,5] [] hB e e e e),_,h,e,e⟩)
    ·refine Run.so hm (.p e ?_)
     obtain ⟨y280,hy280,h⟩ := bindO h
     refine Ops.z 37880 (Ev.call [] [] 0 (sem_spec_l01Figure _ _ _ hy280) e e (.d1 .nil) e (.inl e) e e) e e (.z 37896 (Ev.bsW (ys := ([y280] : List Int)) (f := encU) e (.d1 .nil) e e e e e) e e (.z 37912 (.sbC (addsW (f := encU) e e e (fun _ => e))) e e (.p e ?_)))
     obtain ⟨x281,hx281,h⟩ := bindO h
     refine Ops.z 37944 (Ev.addS e e hx281) e e (.p e (.nil (.ops hm (.p e ?_))))
     obtain ⟨x283,hx283,h⟩ := bindO h
     exact Ops.z 41976 (.bin e e hx283) e e (.p e (.nil (⟨m263,Nat.lt_succ_self m263,_,_,(gh_pk [0,3,4] [] hB e e e e),_,_,h,e,e⟩)))
   ·refine Run.exit ?_
    obtain rfl := someO h
    have h := hk263
    exact ⟨_,_,(gh_pk [3,4] [] hB e e e e),_,h,e,e⟩
  ·refine Run.seq (.so hm (.p e (.nil (.condO e h (fun g287 h => ?_) (fun g287 h => ?_)))))
   ·refine Run.so hm (.p e ?_)
    obtain ⟨x289,hx289,h⟩ := bindO h
    refine Ops.z 50168 (Ev.addS e e hx289) e e (.p e (.nil (.ret ?_)))
    obtain rfl := someO h
    exact Ends.mkG (.inl e) e (gh_pk [0] [] hB e e e e) e e
   ·refine Run.skip (.so hm (.p2 e e (.nil (.ret ?_))))
    obtain rfl := someO h
    exact Ends.mkG (.inl e) e (gh_pk [0] [] hB e e e e) e e
def spec_ShowWorld_l1 (N : Nat) (x1 : World) : Nat → Int → (List Int) → Option ((List Int))
 | 0,_,_ => none
 | m + 1,x359,x367 =>
 (if (decide (x359 < (x1.Replies.length : Int))) = true then
 (at? x1.Replies x359).bind fun x430 =>
 (spec_Decimal N x430.Call).bind fun y431 =>
 (scat? (⟨#[114,101,112,108,121,32]⟩ : ByteArray) y431).bind fun x432 =>
 (scat? x432 (⟨#[32]⟩ : ByteArray)).bind fun x433 =>
 (at? x1.Replies x359).bind fun x434 =>
 (scat? x433 x434.Text).bind fun x435 =>
 (scat? x435 (⟨#[10]⟩ : ByteArray)).bind fun x436 =>
 (cat? x367 (intsOf x436)).bind fun x437 =>
 spec_ShowWorld_l1 N x1 m (w64 (x359 + 1)) x437
 else
 some x367)
def spec_ShowWorld_l1_r (N : Nat) (x1 : World) : (List Reply) → Int → (List Int) → Option ((List Int))
 | [],x359,x367 =>
 some x367
 | hd :: tl,x359,x367 =>
 (some hd).bind fun x430 =>
 (spec_Decimal N x430.Call).bind fun y431 =>
 (scat? (⟨#[114,101,112,108,121,32]⟩ : ByteArray) y431).bind fun x432 =>
 (scat? x432 (⟨#[32]⟩ : ByteArray)).bind fun x433 =>
 (some hd).bind fun x434 =>
 (scat? x433 x434.Text).bind fun x435 =>
 (scat? x435 (⟨#[10]⟩ : ByteArray)).bind fun x436 =>
 (cat? x367 (intsOf x436)).bind fun x437 =>
 spec_ShowWorld_l1_r N x1 tl (w64 (x359 + 1)) x437
theorem spec_ShowWorld_l1_rng (N : Nat) (x1 : World) (hx : x1.Replies.length ≤ 1099511627776) : ∀ (d k m : Nat) (x367 : (List Int)),x1.Replies.length = k + d → d < m → spec_ShowWorld_l1 N x1 m (k : Int) x367 = spec_ShowWorld_l1_r N x1 (x1.Replies.drop k) (k : Int) x367 := by
 intro d
 induction d with
 | zero =>
  intro k m x367 hd hm
  obtain ⟨m,rfl⟩ : ∃ q,m = q + 1 := ⟨m - 1,by omega⟩
  rw [spec_ShowWorld_l1,if_neg (by simp; omega),List.drop_eq_nil_of_le (by omega),spec_ShowWorld_l1_r]
 | succ d ih =>
  intro k m x367 hd hm
  obtain ⟨m,rfl⟩ : ∃ q,m = q + 1 := ⟨m - 1,by omega⟩
  have hk : k < x1.Replies.length := by omega
  rw [spec_ShowWorld_l1,if_pos (by simp; omega),List.drop_eq_getElem_cons hk,spec_ShowWorld_l1_r]
  have h1 := at_lt hk
  have h2 := w64_succ (k := k) (by omega)
  have h3 := ih (k + 1) m
  simp only [h1,h2,h3 _ (by omega) (by omega)]
theorem spec_ShowWorld_l1_eq {N : Nat} (x1 : World) (hx : x1.Replies.length ≤ 1099511627776) (hN : x1.Replies.length < N) (x367 : (List Int)) : spec_ShowWorld_l1 N x1 N 0 x367 = spec_ShowWorld_l1_r N x1 x1.Replies 0 x367 := spec_ShowWorld_l1_rng N x1 hx x1.Replies.length 0 N x367 (by omega) hN
def spec_ShowWorld (N : Nat) (x1 : World) : Option (ByteArray) :=
 joinP (fun (v358 : (List Int)) =>
 (scat? (strOf v358) (⟨#[97,112,112,108,105,101,100,32]⟩ : ByteArray)).bind fun x448 =>
 (spec_Decimal N (x1.Applied.length : Int)).bind fun y449 =>
 (scat? x448 y449).bind fun x450 =>
 (scat? x450 (⟨#[32,108,101,97,100,101,114,115,32]⟩ : ByteArray)).bind fun x451 =>
 (spec_Decimal N (x1.Leaders.length : Int)).bind fun y452 =>
 (scat? x451 y452).bind fun x453 =>
 (scat? x453 (⟨#[32,110,101,116,32]⟩ : ByteArray)).bind fun x454 =>
 (spec_Decimal N (x1.Net.length : Int)).bind fun y455 =>
 (scat? x454 y455).bind fun x456 =>
 (scat? x456 (⟨#[10]⟩ : ByteArray)).bind fun x457 =>
 some x457) fun j358 =>
 (spec_ShowWorld_l1 N x1 N 0 ([] : List Int)).bind (fun v402 => j358 v402)
theorem sem_spec_ShowWorld (N : Nat) (x1 : World) (r : ByteArray) (h : spec_ShowWorld N x1 = some r) : Says Tryz.prog 5 [.agg [RO 4 (x1.Up.map encB),RO 119 (x1.Servers.map (encServer false)),RO 122 (x1.Net.map (encMessage false)),RO 125 (x1.Waits.map encWait),RO 129 (x1.Leaders.map (encLeader false)),RO 133 (x1.Applied.map encApplied),RO 56 (x1.Replies.map encReply)]] 0 [] (VS r) [] := by
 unfold spec_ShowWorld at h
 refine Says.of_norm e Tryz.call5 e fun B hB => ?_
 have hm : B.m ≤ 1000 := by omega
 refine Run.so hm (.z 1000 (.bx e e) e e (.p e (.nil (.so hm (.z 5096 (Ev.bsW (ys := ([] : List Int)) (f := encU) e .nil e e e e e) e e (.p e (.nil (.seqO h (fun v358 => [(1,.ptr 0 0),(3,.sl 1 5 0 v358.length)]) (fun (v358 : (List Int)) => [(0,.box [RO 4 (x1.Up.map encB),RO 119 (x1.Servers.map (encServer false)),RO 122 (x1.Net.map (encMessage false)),RO 125 (x1.Waits.map encWait),RO 129 (x1.Leaders.map (encLeader false)),RO 133 (x1.Applied.map encApplied),RO 56 (x1.Replies.map encReply)]),(1,.vec 5 (v358.map encU))]) (fun h => ?_) (fun v358 h => ?_)))))))))
 ·refine Run.so hm (.p e (.nil (.block ?_)))
  obtain ⟨res402,h,hk402⟩ := bindO h
  refine Run.loop (n := N) (fun m402 fr σ => ∃ (x359 : Int),∃ (x367 : (List Int)),spec_ShowWorld_l1 N x1 m402 x359 x367 = some res402 ∧ fr = [(1,.ptr 0 0),(3,.sl 1 5 0 x367.length),(4,VI x359)] ∧ σ = [(0,.box [RO 4 (x1.Up.map encB),RO 119 (x1.Servers.map (encServer false)),RO 122 (x1.Net.map (encMessage false)),RO 125 (x1.Waits.map encWait),RO 129 (x1.Leaders.map (encLeader false)),RO 133 (x1.Applied.map encApplied),RO 56 (x1.Replies.map encReply)]),(1,.vec 5 (x367.map encU))]) (gh_pk [1,3,4] [1000,5096] hB e e e e) ⟨_,_,h,e,e⟩ ?_
  rintro m402 fr σ ⟨x359,x367,h,rfl,rfl⟩
  obtain _ | m402 := m402
  ·rw [spec_ShowWorld_l1] at h; cases h
  rw [spec_ShowWorld_l1] at h
  refine Run.seq (.so hm (.p3 e e e (.z 13336 (Ev.lnF e) e e (.p e (.nil (.condO e h (fun g405 h => ?_) (fun g405 h => ?_)))))))
  ·refine Run.skip (.seq (.block (.draw hm hmix (.p e (.p e (.p e (.p e ?_)))))))
   obtain ⟨x430,hx430,h⟩ := bindO h
   refine OpsD.z 21544 (Ev.iaF e e hx430) e e (.p e (.p e ?_))
   obtain ⟨y431,hy431,h⟩ := bindO h
   refine OpsD.z 21592 (Ev.call [] [] 0 (sem_spec_Decimal _ _ _ hy431) e e (.d1 .nil) e (.inl e) e e) e e ?_
   obtain ⟨x432,hx432,h⟩ := bindO h
   refine OpsD.z 21608 (Ev.addS e e hx432) e e ?_
   obtain ⟨x433,hx433,h⟩ := bindO h
   refine OpsD.z 21624 (Ev.addS e e hx433) e e (.p e (.p e (.p e ?_)))
   obtain ⟨x434,hx434,h⟩ := bindO h
   refine OpsD.z 21688 (Ev.iaF e e hx434) e e (.p e (.p e ?_))
   obtain ⟨x435,hx435,h⟩ := bindO h
   refine OpsD.z 21736 (Ev.addS e e hx435) e e ?_
   obtain ⟨x436,hx436,h⟩ := bindO h
   refine OpsD.z 21752 (Ev.addS e e hx436) e e (.z 21768 (Ev.bsR e) e e ?_)
   obtain ⟨x437,hx437,h⟩ := bindO h
   refine OpsD.z 21784 (Ev.apW (f := encU) (ontoW e e e) (addsF e) e bt5 e hx437) e e (.p e (.nil ⟨by kernel_rfl,?_⟩))
   exact Run.ops hm (.p3 e e e (.nil (⟨m402,Nat.lt_succ_self m402,_,_,(gh_pk [1,3,4] [0,21784] hB e e e e),_,_,h,e,e⟩)))
  ·refine Run.exit ?_
   obtain rfl := someO h
   have h := hk402
   exact ⟨_,_,(gh_pk [1,3] [0,1] hB e e e e),_,h,e,e⟩
 ·refine Run.seq (.draw hm hmix (.p e (.z 25592 (.sbC (addsW (f := encU) e e e (fun _ => e))) e e ?_)))
  obtain ⟨x448,hx448,h⟩ := bindO h
  refine OpsD.z 25608 (Ev.addS e e hx448) e e (.p e (.p e (.z 25656 (Ev.lnF e) e e ?_)))
  obtain ⟨y449,hy449,h⟩ := bindO h
  refine OpsD.z 25672 (Ev.call [] [] 0 (sem_spec_Decimal _ _ _ hy449) e e (.d1 .nil) e (.inl e) e e) e e ?_
  obtain ⟨x450,hx450,h⟩ := bindO h
  refine OpsD.z 25688 (Ev.addS e e hx450) e e ?_
  obtain ⟨x451,hx451,h⟩ := bindO h
  refine OpsD.z 25704 (Ev.addS e e hx451) e e (.p e (.p e (.z 25752 (Ev.lnF e) e e ?_)))
  obtain ⟨y452,hy452,h⟩ := bindO h
  refine OpsD.z 25768 (Ev.call [] [] 0 (sem_spec_Decimal _ _ _ hy452) e e (.d1 .nil) e (.inl e) e e) e e ?_
  obtain ⟨x453,hx453,h⟩ := bindO h
  refine OpsD.z 25784 (Ev.addS e e hx453) e e ?_
  obtain ⟨x454,hx454,h⟩ := bindO h
  refine OpsD.z 25800 (Ev.addS e e hx454) e e (.p e (.p e (.z 25848 (Ev.lnF e) e e ?_)))
  obtain ⟨y455,hy455,h⟩ := bindO h
  refine OpsD.z 25864 (Ev.call [] [] 0 (sem_spec_Decimal _ _ _ hy455) e e (.d1 .nil) e (.inl e) e e) e e ?_
  obtain ⟨x456,hx456,h⟩ := bindO h
  refine OpsD.z 25880 (Ev.addS e e hx456) e e ?_
  obtain ⟨x457,hx457,h⟩ := bindO h
  refine OpsD.z 25896 (Ev.addS e e hx457) e e (.p e (.nil ⟨by kernel_rfl,?_⟩))
  refine Run.ret ?_
  obtain rfl := someO h
  exact Ends.mkG (.inl e) e (gh_pk [0] [] hB e e e e) e e
def strconv_Itoa (N : Nat) (x1 : Int) : Option (ByteArray) := itoa? x1
theorem sem_strconv_Itoa (N : Nat) (x1 : Int) (r : ByteArray) (h : strconv_Itoa N x1 = some r) : Says Tryz.prog 44 [VI x1] 0 [] (VS r) [] := says_itoa Tryz.call44 Go.Proofs.Tryz.strconv_Itoa (g := 0) (by kernel_rfl) (fun t ht h o ho => by simp only [globTabs,List.mem_singleton] at ht; subst ht; exact ho) ⟨_,by simp only [globTabs,List.mem_singleton]; rfl,rfl⟩ h
def impl_Decimal (N : Nat) (x1 : Int) : Option (ByteArray) :=
 (strconv_Itoa N x1).bind fun y103 =>
 some y103
theorem sem_impl_Decimal (N : Nat) (x1 : Int) (r : ByteArray) (h : impl_Decimal N x1 = some r) : Says Tryz.prog 24 [VI x1] 0 [] (VS r) [] := by
 unfold impl_Decimal at h
 refine Says.of_norm e Tryz.call24 e fun B hB => ?_
 have hm : B.m ≤ 1000 := by omega
 refine Run.so hm (.p e (.nil (.so hm (.p e ?_))))
 obtain ⟨y103,hy103,h⟩ := bindO h
 refine Ops.z 5112 (Ev.call [] [] 0 (sem_strconv_Itoa _ _ _ hy103) e e (.d1 .nil) e (.inl e) e e) e e (.p e (.nil (.ret ?_)))
 obtain rfl := someO h
 exact Ends.mkG (.inl e) e (gh_pk [0] [] hB e e e e) e e
def impl_ShowWorld_l1 (N : Nat) (x1 : World) : Nat → Int → (List Int) → Option ((List Int))
 | 0,_,_ => none
 | m + 1,x291,x299 =>
 (if (decide (x291 < (x1.Replies.length : Int))) = true then
 (at? x1.Replies x291).bind fun x325 =>
 (impl_Decimal N x325.Call).bind fun y332 =>
 (scat? (⟨#[114,101,112,108,121,32]⟩ : ByteArray) y332).bind fun x333 =>
 (scat? x333 (⟨#[32]⟩ : ByteArray)).bind fun x334 =>
 (scat? x334 x325.Text).bind fun x335 =>
 (scat? x335 (⟨#[10]⟩ : ByteArray)).bind fun x336 =>
 (cat? x299 (intsOf x336)).bind fun x337 =>
 impl_ShowWorld_l1 N x1 m (w64 (x291 + 1)) x337
 else
 some x299)
def impl_ShowWorld_l1_r (N : Nat) (x1 : World) : (List Reply) → Int → (List Int) → Option ((List Int))
 | [],x291,x299 =>
 some x299
 | hd :: tl,x291,x299 =>
 (some hd).bind fun x325 =>
 (impl_Decimal N x325.Call).bind fun y332 =>
 (scat? (⟨#[114,101,112,108,121,32]⟩ : ByteArray) y332).bind fun x333 =>
 (scat? x333 (⟨#[32]⟩ : ByteArray)).bind fun x334 =>
 (scat? x334 x325.Text).bind fun x335 =>
 (scat? x335 (⟨#[10]⟩ : ByteArray)).bind fun x336 =>
 (cat? x299 (intsOf x336)).bind fun x337 =>
 impl_ShowWorld_l1_r N x1 tl (w64 (x291 + 1)) x337
theorem impl_ShowWorld_l1_rng (N : Nat) (x1 : World) (hx : x1.Replies.length ≤ 1099511627776) : ∀ (d k m : Nat) (x299 : (List Int)),x1.Replies.length = k + d → d < m → impl_ShowWorld_l1 N x1 m (k : Int) x299 = impl_ShowWorld_l1_r N x1 (x1.Replies.drop k) (k : Int) x299 := by
 intro d
 induction d with
 | zero =>
  intro k m x299 hd hm
  obtain ⟨m,rfl⟩ : ∃ q,m = q + 1 := ⟨m - 1,by omega⟩
  rw [impl_ShowWorld_l1,if_neg (by simp; omega),List.drop_eq_nil_of_le (by omega),impl_ShowWorld_l1_r]
 | succ d ih =>
  intro k m x299 hd hm
  obtain ⟨m,rfl⟩ : ∃ q,m = q + 1 := ⟨m - 1,by omega⟩
  have hk : k < x1.Replies.length := by omega
  rw [impl_ShowWorld_l1,if_pos (by simp; omega),List.drop_eq_getElem_cons hk,impl_ShowWorld_l1_r]
  have h1 := at_lt hk
  have h2 := w64_succ (k := k) (by omega)
  have h3 := ih (k + 1) m
  simp only [h1,h2,h3 _ (by omega) (by omega)]
theorem impl_ShowWorld_l1_eq {N : Nat} (x1 : World) (hx : x1.Replies.length ≤ 1099511627776) (hN : x1.Replies.length < N) (x299 : (List Int)) : impl_ShowWorld_l1 N x1 N 0 x299 = impl_ShowWorld_l1_r N x1 x1.Replies 0 x299 := impl_ShowWorld_l1_rng N x1 hx x1.Replies.length 0 N x299 (by omega) hN
def impl_ShowWorld (N : Nat) (x1 : World) : Option (ByteArray) :=
 joinP (fun (v288 : (List Int)) =>
 (impl_Decimal N (x1.Applied.length : Int)).bind fun y368 =>
 (scat? (⟨#[97,112,112,108,105,101,100,32]⟩ : ByteArray) y368).bind fun x369 =>
 (scat? x369 (⟨#[32,108,101,97,100,101,114,115,32]⟩ : ByteArray)).bind fun x370 =>
 (impl_Decimal N (x1.Leaders.length : Int)).bind fun y371 =>
 (scat? x370 y371).bind fun x372 =>
 (scat? x372 (⟨#[32,110,101,116,32]⟩ : ByteArray)).bind fun x373 =>
 (impl_Decimal N (x1.Net.length : Int)).bind fun y374 =>
 (scat? x373 y374).bind fun x375 =>
 (scat? x375 (⟨#[10]⟩ : ByteArray)).bind fun x376 =>
 (cat? v288 (intsOf x376)).bind fun x377 =>
 some (strOf x377)) fun j288 =>
 (impl_ShowWorld_l1 N x1 N 0 ([] : (List Int))).bind (fun v318 => j288 v318)
theorem sem_impl_ShowWorld (N : Nat) (x1 : World) (r : ByteArray) (h : impl_ShowWorld N x1 = some r) : Says Tryz.prog 7 [.agg [RO 4 (x1.Up.map encB),RO 119 (x1.Servers.map (encServer false)),RO 122 (x1.Net.map (encMessage false)),RO 125 (x1.Waits.map encWait),RO 129 (x1.Leaders.map (encLeader false)),RO 133 (x1.Applied.map encApplied),RO 56 (x1.Replies.map encReply)]] 0 [] (VS r) [] := by
 unfold impl_ShowWorld at h
 refine Says.of_norm e Tryz.call7 e fun B hB => ?_
 have hm : B.m ≤ 1000 := by omega
 refine Run.so hm (.z 1000 (.bx e e) e e (.p e (.nil (.so hm (.p e (.nil (.seqO h (fun v288 => [(1,.ptr 0 0),(3,.sl 1 5 0 v288.length)]) (fun (v288 : (List Int)) => [(0,.box [RO 4 (x1.Up.map encB),RO 119 (x1.Servers.map (encServer false)),RO 122 (x1.Net.map (encMessage false)),RO 125 (x1.Waits.map encWait),RO 129 (x1.Leaders.map (encLeader false)),RO 133 (x1.Applied.map encApplied),RO 56 (x1.Replies.map encReply)]),(1,.vec 5 (v288.map encU))]) (fun h => ?_) (fun v288 h => ?_))))))))
 ·refine Run.so hm (.p2 e e (.z 9224 (Ev.lnF e) e e (.p e (.nil (.block ?_)))))
  obtain ⟨res318,h,hk318⟩ := bindO h
  refine Run.loop (n := N) (fun m318 fr σ => ∃ (x291 : Int),∃ (x299 : (List Int)),impl_ShowWorld_l1 N x1 m318 x291 x299 = some res318 ∧ fr = [(1,.ptr 0 0),(3,.sl 1 5 0 x299.length),(7,RO 56 (x1.Replies.map encReply)),(8,VI (x1.Replies.length : Int)),(9,VI x291)] ∧ σ = [(0,.box [RO 4 (x1.Up.map encB),RO 119 (x1.Servers.map (encServer false)),RO 122 (x1.Net.map (encMessage false)),RO 125 (x1.Waits.map encWait),RO 129 (x1.Leaders.map (encLeader false)),RO 133 (x1.Applied.map encApplied),RO 56 (x1.Replies.map encReply)]),(1,.vec 5 (x299.map encU))]) (Gh.trans (Gh.trans (gh_prn [1,3,7,8,9] [1000] hB e) (gh_nil [3] [] hB e e e)) (gh_pk [1,3,7,8,9] [1000,10000000] hB e e e e)) ⟨_,_,h,e,e⟩ ?_
  rintro m318 fr σ ⟨x291,x299,h,rfl,rfl⟩
  obtain _ | m318 := m318
  ·rw [impl_ShowWorld_l1] at h; cases h
  rw [impl_ShowWorld_l1] at h
  refine Run.so hm (.p e (.nil (.seq (.condO e h (fun g321 h => ?_) (fun g321 h => ?_)))))
  ·refine Run.skip (.seq (.block (.so hm ?_)))
   obtain ⟨x325,hx325,h⟩ := bindO h
   refine Ops.z 17384 (Ev.iaF e e hx325) e e (.p e (.z 17416 (.al e e) e e (.y 17432 (.sto e e e e e e) e e (.nil (.draw hm hmix (.p e (.p e (.p e ?_))))))))
   obtain ⟨y332,hy332,h⟩ := bindO h
   refine OpsD.z 21528 (Ev.call [] [] 0 (sem_impl_Decimal _ _ _ hy332) e e (.d1 .nil) e (.inl e) e e) e e ?_
   obtain ⟨x333,hx333,h⟩ := bindO h
   refine OpsD.z 21544 (Ev.addS e e hx333) e e ?_
   obtain ⟨x334,hx334,h⟩ := bindO h
   refine OpsD.z 21560 (Ev.addS e e hx334) e e (.p e (.p e ?_))
   obtain ⟨x335,hx335,h⟩ := bindO h
   refine OpsD.z 21608 (Ev.addS e e hx335) e e ?_
   obtain ⟨x336,hx336,h⟩ := bindO h
   refine OpsD.z 21624 (Ev.addS e e hx336) e e ?_
   obtain ⟨x337,hx337,h⟩ := bindO h
   refine OpsD.z 21640 (Ev.apS (ontoW e e e) e e e hx337) e e (.p e (.nil ⟨by kernel_rfl,?_⟩))
   exact Run.ops hm (.p2 e e (.nil (⟨m318,Nat.lt_succ_self m318,_,_,(gh_pk [1,3,7,8,9] [0,21640] hB e e e e),_,_,h,e,e⟩)))
  ·refine Run.exit ?_
   obtain rfl := someO h
   have h := hk318
   exact ⟨_,_,(gh_pk [1,3] [0,1] hB e e e e),_,h,e,e⟩
 ·refine Run.seq (.draw hm hmix (.p e (.p e (.p e (.z 29720 (Ev.lnF e) e e ?_)))))
  obtain ⟨y368,hy368,h⟩ := bindO h
  refine OpsD.z 29736 (Ev.call [] [] 0 (sem_impl_Decimal _ _ _ hy368) e e (.d1 .nil) e (.inl e) e e) e e ?_
  obtain ⟨x369,hx369,h⟩ := bindO h
  refine OpsD.z 29752 (Ev.addS e e hx369) e e ?_
  obtain ⟨x370,hx370,h⟩ := bindO h
  refine OpsD.z 29768 (Ev.addS e e hx370) e e (.p e (.p e (.z 29816 (Ev.lnF e) e e ?_)))
  obtain ⟨y371,hy371,h⟩ := bindO h
  refine OpsD.z 29832 (Ev.call [] [] 0 (sem_impl_Decimal _ _ _ hy371) e e (.d1 .nil) e (.inl e) e e) e e ?_
  obtain ⟨x372,hx372,h⟩ := bindO h
  refine OpsD.z 29848 (Ev.addS e e hx372) e e ?_
  obtain ⟨x373,hx373,h⟩ := bindO h
  refine OpsD.z 29864 (Ev.addS e e hx373) e e (.p e (.p e (.z 29912 (Ev.lnF e) e e ?_)))
  obtain ⟨y374,hy374,h⟩ := bindO h
  refine OpsD.z 29928 (Ev.call [] [] 0 (sem_impl_Decimal _ _ _ hy374) e e (.d1 .nil) e (.inl e) e e) e e ?_
  obtain ⟨x375,hx375,h⟩ := bindO h
  refine OpsD.z 29944 (Ev.addS e e hx375) e e ?_
  obtain ⟨x376,hx376,h⟩ := bindO h
  refine OpsD.z 29960 (Ev.addS e e hx376) e e ?_
  obtain ⟨x377,hx377,h⟩ := bindO h
  refine OpsD.z 29976 (Ev.apS (ontoW e e e) e e e hx377) e e (.p e (.nil ⟨by kernel_rfl,?_⟩))
  refine Run.so hm (.p e (.z 33784 (.sbC (addsW (f := encU) e e e (fun _ => e))) e e (.p e (.nil (.ret ?_)))))
  obtain rfl := someO h
  exact Ends.mkG (.inl e) e (gh_pk [0] [] hB e e e e) e e
def laws_eqBoolS_l1 (N : Nat) (x1 : (List Bool)) (x2 : (List Bool)) : Nat → Int → Option ((Bool) ⊕ (Unit))
 | 0,_ => none
 | m + 1,x198 =>
 (if (decide (x198 < (x1.length : Int))) = true then
 (at? x1 x198).bind fun x223 =>
 (at? x2 x198).bind fun x224 =>
 (if ((x223 == x224) ^^ true) = true then
 some (Sum.inl false)
 else
 laws_eqBoolS_l1 N x1 x2 m (w64 (x198 + 1)))
 else
 some (Sum.inr ()))
def laws_eqBoolS_l1_r (N : Nat) (x1 : (List Bool)) (x2 : (List Bool)) : (List Bool) → Int → Option ((Bool) ⊕ (Unit))
 | [],x198 =>
 some (Sum.inr ())
 | hd :: tl,x198 =>
 (some hd).bind fun x223 =>
 (at? x2 x198).bind fun x224 =>
 (if ((x223 == x224) ^^ true) = true then
 some (Sum.inl false)
 else
 laws_eqBoolS_l1_r N x1 x2 tl (w64 (x198 + 1)))
theorem laws_eqBoolS_l1_rng (N : Nat) (x1 : (List Bool)) (x2 : (List Bool)) (hx : x1.length ≤ 1099511627776) : ∀ (d k m : Nat),x1.length = k + d → d < m → laws_eqBoolS_l1 N x1 x2 m (k : Int) = laws_eqBoolS_l1_r N x1 x2 (x1.drop k) (k : Int) := by
 intro d
 induction d with
 | zero =>
  intro k m hd hm
  obtain ⟨m,rfl⟩ : ∃ q,m = q + 1 := ⟨m - 1,by omega⟩
  rw [laws_eqBoolS_l1,if_neg (by simp; omega),List.drop_eq_nil_of_le (by omega),laws_eqBoolS_l1_r]
 | succ d ih =>
  intro k m hd hm
  obtain ⟨m,rfl⟩ : ∃ q,m = q + 1 := ⟨m - 1,by omega⟩
  have hk : k < x1.length := by omega
  rw [laws_eqBoolS_l1,if_pos (by simp; omega),List.drop_eq_getElem_cons hk,laws_eqBoolS_l1_r]
  have h1 := at_lt hk
  have h2 := w64_succ (k := k) (by omega)
  have h3 := ih (k + 1) m
  simp only [h1,h2,h3 (by omega) (by omega)]
theorem laws_eqBoolS_l1_eq {N : Nat} (x1 : (List Bool)) (x2 : (List Bool)) (hx : x1.length ≤ 1099511627776) (hN : x1.length < N) : laws_eqBoolS_l1 N x1 x2 N 0 = laws_eqBoolS_l1_r N x1 x2 x1 0 := laws_eqBoolS_l1_rng N x1 x2 hx x1.length 0 N (by omega) hN
def laws_eqBoolS (N : Nat) (x1 : (List Bool)) (x2 : (List Bool)) : Option (Bool) :=
 (if ((x1.length : Int) != (x2.length : Int)) = true then
 some false
 else
 joinP (fun (v195 : Unit) =>
 some true) fun j195 =>
 (laws_eqBoolS_l1 N x1 x2 N 0).bind (Sum.elim (fun v211 => some v211) (fun (v212 : Unit) => j195 ())))
theorem sem_laws_eqBoolS (N : Nat) (x1 : (List Bool)) (x2 : (List Bool)) (r : Bool) (h : laws_eqBoolS N x1 x2 = some r) : Says Tryz.prog 25 [RO 4 (x1.map encB),RO 4 (x2.map encB)] 0 [] (VB r) [] := by
 unfold laws_eqBoolS at h
 refine Says.of_norm e Tryz.call25 e fun B hB => ?_
 have hm : B.m ≤ 1000 := by omega
 refine Run.so hm (.p e (.nil (.seq (.so hm (.p e (.z 5112 (Ev.lnF e) e e (.p e (.z 5144 (Ev.lnF e) e e (.p e (.nil (.condO e h (fun g164 h => ?_) (fun g164 h => ?_))))))))))))
 ·refine Run.so hm (.p e (.nil (.ret ?_)))
  obtain rfl := someO h
  exact Ends.mkG (.inl e) e (gh_pk [0] [] hB e e e e) e e
 ·refine Run.skip (.seqO h (fun v195 => []) (fun (v195 : Unit) => []) (fun h => ?_) (fun v195 h => ?_))
  ·refine Run.so hm (.p e (.nil (.block ?_)))
   obtain ⟨res212,h,hk212⟩ := bindO h
   refine Run.loop (n := N) (fun m212 fr σ => ∃ (x198 : Int),laws_eqBoolS_l1 N x1 x2 m212 x198 = some res212 ∧ fr = [(0,RO 4 (x1.map encB)),(1,RO 4 (x2.map encB)),(5,VI x198)] ∧ σ = []) (gh_pk [0,1,5] [] hB e e e e) ⟨_,h,e,e⟩ ?_
   rintro m212 fr σ ⟨x198,h,rfl,rfl⟩
   obtain _ | m212 := m212
   ·rw [laws_eqBoolS_l1] at h; cases h
   rw [laws_eqBoolS_l1] at h
   refine Run.seq (.so hm (.p2 e e (.z 17416 (Ev.lnF e) e e (.p e (.nil (.condO e h (fun g215 h => ?_) (fun g215 h => ?_)))))))
   ·refine Run.skip (.seq (.block (.seq (.draw hm hmix (.p e (.p e ?_))))))
    obtain ⟨x223,hx223,h⟩ := bindO h
    refine OpsD.z 25608 (Ev.iaF e e hx223) e e (.p e (.p e (.p e ?_)))
    obtain ⟨x224,hx224,h⟩ := bindO h
    refine OpsD.z 25672 (Ev.iaF e e hx224) e e (.p e (.p e (.nil ⟨by kernel_rfl,?_⟩)))
    refine Run.condO e h (fun g225 h => ?_) (fun g225 h => ?_)
    ·refine Run.so hm (.p e (.nil (.ret ?_)))
     obtain rfl := someO h
     have h := hk212
     replace h := inlO h
     obtain rfl := someO h
     exact Ends.mkG (.inl e) e (gh_pk [0] [] hB e e e e) e e
    ·exact Run.skip (.ops hm (.p3 e e e (.nil (⟨m212,Nat.lt_succ_self m212,_,_,(gh_pk [0,1,5] [] hB e e e e),_,h,e,e⟩))))
   ·refine Run.exit ?_
    obtain rfl := someO h
    have h := hk212
    replace h := inrO h
    exact ⟨_,_,(gh_pk [] [] hB e e e e),(),h,e,e⟩
  ·refine Run.so hm (.p e (.nil (.ret ?_)))
   obtain rfl := someO h
   exact Ends.mkG (.inl e) e (gh_pk [0] [] hB e e e e) e e
def laws_eqIntS_l1 (N : Nat) (x1 : (List Int)) (x2 : (List Int)) : Nat → Int → Option ((Bool) ⊕ (Unit))
 | 0,_ => none
 | m + 1,x198 =>
 (if (decide (x198 < (x1.length : Int))) = true then
 (at? x1 x198).bind fun x223 =>
 (at? x2 x198).bind fun x224 =>
 (if (x223 != x224) = true then
 some (Sum.inl false)
 else
 laws_eqIntS_l1 N x1 x2 m (w64 (x198 + 1)))
 else
 some (Sum.inr ()))
def laws_eqIntS_l1_r (N : Nat) (x1 : (List Int)) (x2 : (List Int)) : (List Int) → Int → Option ((Bool) ⊕ (Unit))
 | [],x198 =>
 some (Sum.inr ())
 | hd :: tl,x198 =>
 (some hd).bind fun x223 =>
 (at? x2 x198).bind fun x224 =>
 (if (x223 != x224) = true then
 some (Sum.inl false)
 else
 laws_eqIntS_l1_r N x1 x2 tl (w64 (x198 + 1)))
theorem laws_eqIntS_l1_rng (N : Nat) (x1 : (List Int)) (x2 : (List Int)) (hx : x1.length ≤ 1099511627776) : ∀ (d k m : Nat),x1.length = k + d → d < m → laws_eqIntS_l1 N x1 x2 m (k : Int) = laws_eqIntS_l1_r N x1 x2 (x1.drop k) (k : Int) := by
 intro d
 induction d with
 | zero =>
  intro k m hd hm
  obtain ⟨m,rfl⟩ : ∃ q,m = q + 1 := ⟨m - 1,by omega⟩
  rw [laws_eqIntS_l1,if_neg (by simp; omega),List.drop_eq_nil_of_le (by omega),laws_eqIntS_l1_r]
 | succ d ih =>
  intro k m hd hm
  obtain ⟨m,rfl⟩ : ∃ q,m = q + 1 := ⟨m - 1,by omega⟩
  have hk : k < x1.length := by omega
  rw [laws_eqIntS_l1,if_pos (by simp; omega),List.drop_eq_getElem_cons hk,laws_eqIntS_l1_r]
  have h1 := at_lt hk
  have h2 := w64_succ (k := k) (by omega)
  have h3 := ih (k + 1) m
  simp only [h1,h2,h3 (by omega) (by omega)]
theorem laws_eqIntS_l1_eq {N : Nat} (x1 : (List Int)) (x2 : (List Int)) (hx : x1.length ≤ 1099511627776) (hN : x1.length < N) : laws_eqIntS_l1 N x1 x2 N 0 = laws_eqIntS_l1_r N x1 x2 x1 0 := laws_eqIntS_l1_rng N x1 x2 hx x1.length 0 N (by omega) hN
def laws_eqIntS (N : Nat) (x1 : (List Int)) (x2 : (List Int)) : Option (Bool) :=
 (if ((x1.length : Int) != (x2.length : Int)) = true then
 some false
 else
 joinP (fun (v195 : Unit) =>
 some true) fun j195 =>
 (laws_eqIntS_l1 N x1 x2 N 0).bind (Sum.elim (fun v211 => some v211) (fun (v212 : Unit) => j195 ())))
theorem sem_laws_eqIntS (N : Nat) (x1 : (List Int)) (x2 : (List Int)) (r : Bool) (h : laws_eqIntS N x1 x2 = some r) : Says Tryz.prog 72 [RO 3 (x1.map encI),RO 3 (x2.map encI)] 0 [] (VB r) [] := by
 unfold laws_eqIntS at h
 refine Says.of_norm e Tryz.call72 e fun B hB => ?_
 have hm : B.m ≤ 1000 := by omega
 refine Run.so hm (.p e (.nil (.seq (.so hm (.p e (.z 5112 (Ev.lnF e) e e (.p e (.z 5144 (Ev.lnF e) e e (.p e (.nil (.condO e h (fun g164 h => ?_) (fun g164 h => ?_))))))))))))
 ·refine Run.so hm (.p e (.nil (.ret ?_)))
  obtain rfl := someO h
  exact Ends.mkG (.inl e) e (gh_pk [0] [] hB e e e e) e e
 ·refine Run.skip (.seqO h (fun v195 => []) (fun (v195 : Unit) => []) (fun h => ?_) (fun v195 h => ?_))
  ·refine Run.so hm (.p e (.nil (.block ?_)))
   obtain ⟨res212,h,hk212⟩ := bindO h
   refine Run.loop (n := N) (fun m212 fr σ => ∃ (x198 : Int),laws_eqIntS_l1 N x1 x2 m212 x198 = some res212 ∧ fr = [(0,RO 3 (x1.map encI)),(1,RO 3 (x2.map encI)),(5,VI x198)] ∧ σ = []) (gh_pk [0,1,5] [] hB e e e e) ⟨_,h,e,e⟩ ?_
   rintro m212 fr σ ⟨x198,h,rfl,rfl⟩
   obtain _ | m212 := m212
   ·rw [laws_eqIntS_l1] at h; cases h
   rw [laws_eqIntS_l1] at h
   refine Run.seq (.so hm (.p2 e e (.z 17416 (Ev.lnF e) e e (.p e (.nil (.condO e h (fun g215 h => ?_) (fun g215 h => ?_)))))))
   ·refine Run.skip (.seq (.block (.seq (.draw hm hmix (.p e (.p e ?_))))))
    obtain ⟨x223,hx223,h⟩ := bindO h
    refine OpsD.z 25608 (Ev.iaF e e hx223) e e (.p e (.p e (.p e ?_)))
    obtain ⟨x224,hx224,h⟩ := bindO h
    refine OpsD.z 25672 (Ev.iaF e e hx224) e e (.p e (.p e (.nil ⟨by kernel_rfl,?_⟩)))
    refine Run.condO e h (fun g225 h => ?_) (fun g225 h => ?_)
    ·refine Run.so hm (.p e (.nil (.ret ?_)))
     obtain rfl := someO h
     have h := hk212
     replace h := inlO h
     obtain rfl := someO h
     exact Ends.mkG (.inl e) e (gh_pk [0] [] hB e e e e) e e
    ·exact Run.skip (.ops hm (.p3 e e e (.nil (⟨m212,Nat.lt_succ_self m212,_,_,(gh_pk [0,1,5] [] hB e e e e),_,h,e,e⟩))))
   ·refine Run.exit ?_
    obtain rfl := someO h
    have h := hk212
    replace h := inrO h
    exact ⟨_,_,(gh_pk [] [] hB e e e e),(),h,e,e⟩
  ·refine Run.so hm (.p e (.nil (.ret ?_)))
   obtain rfl := someO h
   exact Ends.mkG (.inl e) e (gh_pk [0] [] hB e e e e) e e
def laws_eqEntry (N : Nat) (x1 : Entry) (x2 : Entry) : Option (Bool) :=
 (if (x1.Term != x2.Term) = true then
 some false
 else
 (if (x1.Kind != x2.Kind) = true then
 some false
 else
 (if (!decide (x1.Data = x2.Data)) = true then
 some false
 else
 some true)))
theorem sem_laws_eqEntry (N : Nat) (x1 : Entry) (x2 : Entry) (r : Bool) (h : laws_eqEntry N x1 x2 = some r) : Says Tryz.prog 74 [.agg [VI x1.Term,VI x1.Kind,VS x1.Data],.agg [VI x2.Term,VI x2.Kind,VS x2.Data]] 0 [] (VB r) [] := by
 unfold laws_eqEntry at h
 refine Says.of_norm e Tryz.call74 e fun B hB => ?_
 have hm : B.m ≤ 1000 := by omega
 refine Run.so hm (.z 1000 (.bx e e) e e (.z 1016 (.bx e e) e e (.p e (.nil (.seq (.so hm (.p3 e e e (.p2 e e (.nil (.condO e h (fun g106 h => ?_) (fun g106 h => ?_)))))))))))
 ·refine Run.so hm (.p e (.nil (.ret ?_)))
  obtain rfl := someO h
  exact Ends.mkG (.inl e) e (gh_pk [0] [] hB e e e e) e e
 ·refine Run.skip (.seq (.so hm (.p3 e e e (.p2 e e (.nil (.condO e h (fun g108 h => ?_) (fun g108 h => ?_)))))))
  ·refine Run.so hm (.p e (.nil (.ret ?_)))
   obtain rfl := someO h
   exact Ends.mkG (.inl e) e (gh_pk [0] [] hB e e e e) e e
  ·refine Run.skip (.seq (.so hm (.p3 e e e (.p2 e e (.nil (.condO e h (fun g109 h => ?_) (fun g109 h => ?_)))))))
   ·refine Run.so hm (.p e (.nil (.ret ?_)))
    obtain rfl := someO h
    exact Ends.mkG (.inl e) e (gh_pk [0] [] hB e e e e) e e
   ·refine Run.skip (.so hm (.p e (.nil (.ret ?_))))
    obtain rfl := someO h
    exact Ends.mkG (.inl e) e (gh_pk [0] [] hB e e e e) e e
def laws_eqEntryS_l1 (N : Nat) (x1 : (List Entry)) (x2 : (List Entry)) : Nat → Int → Option ((Bool) ⊕ (Unit))
 | 0,_ => none
 | m + 1,x222 =>
 (if (decide (x222 < (x1.length : Int))) = true then
 (at? x1 x222).bind fun x254 =>
 (at? x2 x222).bind fun x255 =>
 (laws_eqEntry N x254 x255).bind fun y256 =>
 (if (!y256) = true then
 some (Sum.inl false)
 else
 laws_eqEntryS_l1 N x1 x2 m (w64 (x222 + 1)))
 else
 some (Sum.inr ()))
def laws_eqEntryS_l1_r (N : Nat) (x1 : (List Entry)) (x2 : (List Entry)) : (List Entry) → Int → Option ((Bool) ⊕ (Unit))
 | [],x222 =>
 some (Sum.inr ())
 | hd :: tl,x222 =>
 (some hd).bind fun x254 =>
 (at? x2 x222).bind fun x255 =>
 (laws_eqEntry N x254 x255).bind fun y256 =>
 (if (!y256) = true then
 some (Sum.inl false)
 else
 laws_eqEntryS_l1_r N x1 x2 tl (w64 (x222 + 1)))
theorem laws_eqEntryS_l1_rng (N : Nat) (x1 : (List Entry)) (x2 : (List Entry)) (hx : x1.length ≤ 1099511627776) : ∀ (d k m : Nat),x1.length = k + d → d < m → laws_eqEntryS_l1 N x1 x2 m (k : Int) = laws_eqEntryS_l1_r N x1 x2 (x1.drop k) (k : Int) := by
 intro d
 induction d with
 | zero =>
  intro k m hd hm
  obtain ⟨m,rfl⟩ : ∃ q,m = q + 1 := ⟨m - 1,by omega⟩
  rw [laws_eqEntryS_l1,if_neg (by simp; omega),List.drop_eq_nil_of_le (by omega),laws_eqEntryS_l1_r]
 | succ d ih =>
  intro k m hd hm
  obtain ⟨m,rfl⟩ : ∃ q,m = q + 1 := ⟨m - 1,by omega⟩
  have hk : k < x1.length := by omega
  rw [laws_eqEntryS_l1,if_pos (by simp; omega),List.drop_eq_getElem_cons hk,laws_eqEntryS_l1_r]
  have h1 := at_lt hk
  have h2 := w64_succ (k := k) (by omega)
  have h3 := ih (k + 1) m
  simp only [h1,h2,h3 (by omega) (by omega)]
theorem laws_eqEntryS_l1_eq {N : Nat} (x1 : (List Entry)) (x2 : (List Entry)) (hx : x1.length ≤ 1099511627776) (hN : x1.length < N) : laws_eqEntryS_l1 N x1 x2 N 0 = laws_eqEntryS_l1_r N x1 x2 x1 0 := laws_eqEntryS_l1_rng N x1 x2 hx x1.length 0 N (by omega) hN
def laws_eqEntryS (N : Nat) (x1 : (List Entry)) (x2 : (List Entry)) : Option (Bool) :=
 (if ((x1.length : Int) != (x2.length : Int)) = true then
 some false
 else
 joinP (fun (v219 : Unit) =>
 some true) fun j219 =>
 (laws_eqEntryS_l1 N x1 x2 N 0).bind (Sum.elim (fun v239 => some v239) (fun (v240 : Unit) => j219 ())))
theorem sem_laws_eqEntryS (N : Nat) (x1 : (List Entry)) (x2 : (List Entry)) (r : Bool) (h : laws_eqEntryS N x1 x2 = some r) : Says Tryz.prog 71 [RO 131 (x1.map encEntry),RO 131 (x2.map encEntry)] 0 [] (VB r) [] := by
 unfold laws_eqEntryS at h
 refine Says.of_norm e Tryz.call71 e fun B hB => ?_
 have hm : B.m ≤ 1000 := by omega
 refine Run.so hm (.p e (.nil (.seq (.so hm (.p e (.z 5112 (Ev.lnF e) e e (.p e (.z 5144 (Ev.lnF e) e e (.p e (.nil (.condO e h (fun g180 h => ?_) (fun g180 h => ?_))))))))))))
 ·refine Run.so hm (.p e (.nil (.ret ?_)))
  obtain rfl := someO h
  exact Ends.mkG (.inl e) e (gh_pk [0] [] hB e e e e) e e
 ·refine Run.skip (.seqO h (fun v219 => []) (fun (v219 : Unit) => []) (fun h => ?_) (fun v219 h => ?_))
  ·refine Run.so hm (.p e (.nil (.block ?_)))
   obtain ⟨res240,h,hk240⟩ := bindO h
   refine Run.loop (n := N) (fun m240 fr σ => ∃ (x222 : Int),laws_eqEntryS_l1 N x1 x2 m240 x222 = some res240 ∧ fr = [(0,RO 131 (x1.map encEntry)),(1,RO 131 (x2.map encEntry)),(5,VI x222)] ∧ σ = []) (gh_pk [0,1,5] [] hB e e e e) ⟨_,h,e,e⟩ ?_
   rintro m240 fr σ ⟨x222,h,rfl,rfl⟩
   obtain _ | m240 := m240
   ·rw [laws_eqEntryS_l1] at h; cases h
   rw [laws_eqEntryS_l1] at h
   refine Run.seq (.so hm (.p2 e e (.z 17416 (Ev.lnF e) e e (.p e (.nil (.condO e h (fun g243 h => ?_) (fun g243 h => ?_)))))))
   ·refine Run.skip (.seq (.block (.seq (.draw hm hmix (.p e (.p e ?_))))))
    obtain ⟨x254,hx254,h⟩ := bindO h
    refine OpsD.z 25608 (Ev.iaF e e hx254) e e (.p e (.p e (.p e ?_)))
    obtain ⟨x255,hx255,h⟩ := bindO h
    refine OpsD.z 25672 (Ev.iaF e e hx255) e e (.p e ?_)
    obtain ⟨y256,hy256,h⟩ := bindO h
    refine OpsD.z 25704 (Ev.call [] [] 0 (sem_laws_eqEntry _ _ _ _ hy256) e e (.cons (.agg (.d2 (.d1 .nil))) (.cons (.agg (.d2 (.d1 .nil))) .nil)) e (.inl e) e e) e e (.p e (.nil ⟨by kernel_rfl,?_⟩))
    refine Run.condO e h (fun g257 h => ?_) (fun g257 h => ?_)
    ·refine Run.so hm (.p e (.nil (.ret ?_)))
     obtain rfl := someO h
     have h := hk240
     replace h := inlO h
     obtain rfl := someO h
     exact Ends.mkG (.inl e) e (gh_pk [0] [] hB e e e e) e e
    ·exact Run.skip (.ops hm (.p3 e e e (.nil (⟨m240,Nat.lt_succ_self m240,_,_,(gh_pk [0,1,5] [] hB e e e e),_,h,e,e⟩))))
   ·refine Run.exit ?_
    obtain rfl := someO h
    have h := hk240
    replace h := inrO h
    exact ⟨_,_,(gh_pk [] [] hB e e e e),(),h,e,e⟩
  ·refine Run.so hm (.p e (.nil (.ret ?_)))
   obtain rfl := someO h
   exact Ends.mkG (.inl e) e (gh_pk [0] [] hB e e e e) e e
def laws_eqLog (N : Nat) (x1 : Log) (x2 : Log) : Option (Bool) :=
 (if (x1.Start != x2.Start) = true then
 some false
 else
 (if (x1.StartTerm != x2.StartTerm) = true then
 some false
 else
 (laws_eqEntryS N x1.Entries x2.Entries).bind fun y112 =>
 (if (!y112) = true then
 some false
 else
 some true)))
theorem sem_laws_eqLog (N : Nat) (x1 : Log) (x2 : Log) (r : Bool) (h : laws_eqLog N x1 x2 = some r) : Says Tryz.prog 73 [.agg [VI x1.Start,VI x1.StartTerm,RO 131 (x1.Entries.map encEntry)],.agg [VI x2.Start,VI x2.StartTerm,RO 131 (x2.Entries.map encEntry)]] 0 [] (VB r) [] := by
 unfold laws_eqLog at h
 refine Says.of_norm e Tryz.call73 e fun B hB => ?_
 have hm : B.m ≤ 1000 := by omega
 refine Run.so hm (.z 1000 (.bx e e) e e (.z 1016 (.bx e e) e e (.p e (.nil (.seq (.so hm (.p3 e e e (.p2 e e (.nil (.condO e h (fun g108 h => ?_) (fun g108 h => ?_)))))))))))
 ·refine Run.so hm (.p e (.nil (.ret ?_)))
  obtain rfl := someO h
  exact Ends.mkG (.inl e) e (gh_pk [0] [] hB e e e e) e e
 ·refine Run.skip (.seq (.so hm (.p3 e e e (.p2 e e (.nil (.condO e h (fun g110 h => ?_) (fun g110 h => ?_)))))))
  ·refine Run.so hm (.p e (.nil (.ret ?_)))
   obtain rfl := someO h
   exact Ends.mkG (.inl e) e (gh_pk [0] [] hB e e e e) e e
  ·refine Run.skip (.seq (.so hm (.p3 e e e (.p e ?_))))
   obtain ⟨y112,hy112,h⟩ := bindO h
   refine Ops.z 21544 (Ev.call [] [] 0 (sem_laws_eqEntryS _ _ _ _ hy112) e e (.d2 .nil) e (.inl e) e e) e e (.p e (.nil (.condO e h (fun g113 h => ?_) (fun g113 h => ?_))))
   ·refine Run.so hm (.p e (.nil (.ret ?_)))
    obtain rfl := someO h
    exact Ends.mkG (.inl e) e (gh_pk [0] [] hB e e e e) e e
   ·refine Run.skip (.so hm (.p e (.nil (.ret ?_))))
    obtain rfl := someO h
    exact Ends.mkG (.inl e) e (gh_pk [0] [] hB e e e e) e e
def laws_eqPeer (N : Nat) (x1 : Peer) (x2 : Peer) : Option (Bool) :=
 (if (x1.Id != x2.Id) = true then
 some false
 else
 (if (x1.Next != x2.Next) = true then
 some false
 else
 (if (x1.Match != x2.Match) = true then
 some false
 else
 (if (x1.Sent != x2.Sent) = true then
 some false
 else
 some true))))
theorem sem_laws_eqPeer (N : Nat) (x1 : Peer) (x2 : Peer) (r : Bool) (h : laws_eqPeer N x1 x2 = some r) : Says Tryz.prog 98 [.agg [VI x1.Id,VI x1.Next,VI x1.Match,VI x1.Sent],.agg [VI x2.Id,VI x2.Next,VI x2.Match,VI x2.Sent]] 0 [] (VB r) [] := by
 unfold laws_eqPeer at h
 refine Says.of_norm e Tryz.call98 e fun B hB => ?_
 have hm : B.m ≤ 1000 := by omega
 refine Run.so hm (.z 1000 (.bx e e) e e (.z 1016 (.bx e e) e e (.p e (.nil (.seq (.so hm (.p3 e e e (.p2 e e (.nil (.condO e h (fun g108 h => ?_) (fun g108 h => ?_)))))))))))
 ·refine Run.so hm (.p e (.nil (.ret ?_)))
  obtain rfl := someO h
  exact Ends.mkG (.inl e) e (gh_pk [0] [] hB e e e e) e e
 ·refine Run.skip (.seq (.so hm (.p3 e e e (.p2 e e (.nil (.condO e h (fun g110 h => ?_) (fun g110 h => ?_)))))))
  ·refine Run.so hm (.p e (.nil (.ret ?_)))
   obtain rfl := someO h
   exact Ends.mkG (.inl e) e (gh_pk [0] [] hB e e e e) e e
  ·refine Run.skip (.seq (.so hm (.p3 e e e (.p2 e e (.nil (.condO e h (fun g112 h => ?_) (fun g112 h => ?_)))))))
   ·refine Run.so hm (.p e (.nil (.ret ?_)))
    obtain rfl := someO h
    exact Ends.mkG (.inl e) e (gh_pk [0] [] hB e e e e) e e
   ·refine Run.skip (.seq (.so hm (.p3 e e e (.p2 e e (.nil (.condO e h (fun g113 h => ?_) (fun g113 h => ?_)))))))
    ·refine Run.so hm (.p e (.nil (.ret ?_)))
     obtain rfl := someO h
     exact Ends.mkG (.inl e) e (gh_pk [0] [] hB e e e e) e e
    ·refine Run.skip (.so hm (.p e (.nil (.ret ?_))))
     obtain rfl := someO h
     exact Ends.mkG (.inl e) e (gh_pk [0] [] hB e e e e) e e
def laws_eqPeerS_l1 (N : Nat) (x1 : (List Peer)) (x2 : (List Peer)) : Nat → Int → Option ((Bool) ⊕ (Unit))
 | 0,_ => none
 | m + 1,x222 =>
 (if (decide (x222 < (x1.length : Int))) = true then
 (at? x1 x222).bind fun x254 =>
 (at? x2 x222).bind fun x255 =>
 (laws_eqPeer N x254 x255).bind fun y256 =>
 (if (!y256) = true then
 some (Sum.inl false)
 else
 laws_eqPeerS_l1 N x1 x2 m (w64 (x222 + 1)))
 else
 some (Sum.inr ()))
def laws_eqPeerS_l1_r (N : Nat) (x1 : (List Peer)) (x2 : (List Peer)) : (List Peer) → Int → Option ((Bool) ⊕ (Unit))
 | [],x222 =>
 some (Sum.inr ())
 | hd :: tl,x222 =>
 (some hd).bind fun x254 =>
 (at? x2 x222).bind fun x255 =>
 (laws_eqPeer N x254 x255).bind fun y256 =>
 (if (!y256) = true then
 some (Sum.inl false)
 else
 laws_eqPeerS_l1_r N x1 x2 tl (w64 (x222 + 1)))
theorem laws_eqPeerS_l1_rng (N : Nat) (x1 : (List Peer)) (x2 : (List Peer)) (hx : x1.length ≤ 1099511627776) : ∀ (d k m : Nat),x1.length = k + d → d < m → laws_eqPeerS_l1 N x1 x2 m (k : Int) = laws_eqPeerS_l1_r N x1 x2 (x1.drop k) (k : Int) := by
 intro d
 induction d with
 | zero =>
  intro k m hd hm
  obtain ⟨m,rfl⟩ : ∃ q,m = q + 1 := ⟨m - 1,by omega⟩
  rw [laws_eqPeerS_l1,if_neg (by simp; omega),List.drop_eq_nil_of_le (by omega),laws_eqPeerS_l1_r]
 | succ d ih =>
  intro k m hd hm
  obtain ⟨m,rfl⟩ : ∃ q,m = q + 1 := ⟨m - 1,by omega⟩
  have hk : k < x1.length := by omega
  rw [laws_eqPeerS_l1,if_pos (by simp; omega),List.drop_eq_getElem_cons hk,laws_eqPeerS_l1_r]
  have h1 := at_lt hk
  have h2 := w64_succ (k := k) (by omega)
  have h3 := ih (k + 1) m
  simp only [h1,h2,h3 (by omega) (by omega)]
theorem laws_eqPeerS_l1_eq {N : Nat} (x1 : (List Peer)) (x2 : (List Peer)) (hx : x1.length ≤ 1099511627776) (hN : x1.length < N) : laws_eqPeerS_l1 N x1 x2 N 0 = laws_eqPeerS_l1_r N x1 x2 x1 0 := laws_eqPeerS_l1_rng N x1 x2 hx x1.length 0 N (by omega) hN
def laws_eqPeerS (N : Nat) (x1 : (List Peer)) (x2 : (List Peer)) : Option (Bool) :=
 (if ((x1.length : Int) != (x2.length : Int)) = true then
 some false
 else
 joinP (fun (v219 : Unit) =>
 some true) fun j219 =>
 (laws_eqPeerS_l1 N x1 x2 N 0).bind (Sum.elim (fun v239 => some v239) (fun (v240 : Unit) => j219 ())))
theorem sem_laws_eqPeerS (N : Nat) (x1 : (List Peer)) (x2 : (List Peer)) (r : Bool) (h : laws_eqPeerS N x1 x2 = some r) : Says Tryz.prog 85 [RO 186 (x1.map encPeer),RO 186 (x2.map encPeer)] 0 [] (VB r) [] := by
 unfold laws_eqPeerS at h
 refine Says.of_norm e Tryz.call85 e fun B hB => ?_
 have hm : B.m ≤ 1000 := by omega
 refine Run.so hm (.p e (.nil (.seq (.so hm (.p e (.z 5112 (Ev.lnF e) e e (.p e (.z 5144 (Ev.lnF e) e e (.p e (.nil (.condO e h (fun g180 h => ?_) (fun g180 h => ?_))))))))))))
 ·refine Run.so hm (.p e (.nil (.ret ?_)))
  obtain rfl := someO h
  exact Ends.mkG (.inl e) e (gh_pk [0] [] hB e e e e) e e
 ·refine Run.skip (.seqO h (fun v219 => []) (fun (v219 : Unit) => []) (fun h => ?_) (fun v219 h => ?_))
  ·refine Run.so hm (.p e (.nil (.block ?_)))
   obtain ⟨res240,h,hk240⟩ := bindO h
   refine Run.loop (n := N) (fun m240 fr σ => ∃ (x222 : Int),laws_eqPeerS_l1 N x1 x2 m240 x222 = some res240 ∧ fr = [(0,RO 186 (x1.map encPeer)),(1,RO 186 (x2.map encPeer)),(5,VI x222)] ∧ σ = []) (gh_pk [0,1,5] [] hB e e e e) ⟨_,h,e,e⟩ ?_
   rintro m240 fr σ ⟨x222,h,rfl,rfl⟩
   obtain _ | m240 := m240
   ·rw [laws_eqPeerS_l1] at h; cases h
   rw [laws_eqPeerS_l1] at h
   refine Run.seq (.so hm (.p2 e e (.z 17416 (Ev.lnF e) e e (.p e (.nil (.condO e h (fun g243 h => ?_) (fun g243 h => ?_)))))))
   ·refine Run.skip (.seq (.block (.seq (.draw hm hmix (.p e (.p e ?_))))))
    obtain ⟨x254,hx254,h⟩ := bindO h
    refine OpsD.z 25608 (Ev.iaF e e hx254) e e (.p e (.p e (.p e ?_)))
    obtain ⟨x255,hx255,h⟩ := bindO h
    refine OpsD.z 25672 (Ev.iaF e e hx255) e e (.p e ?_)
    obtain ⟨y256,hy256,h⟩ := bindO h
    refine OpsD.z 25704 (Ev.call [] [] 0 (sem_laws_eqPeer _ _ _ _ hy256) e e (.cons (.agg (.d4 .nil)) (.cons (.agg (.d4 .nil)) .nil)) e (.inl e) e e) e e (.p e (.nil ⟨by kernel_rfl,?_⟩))
    refine Run.condO e h (fun g257 h => ?_) (fun g257 h => ?_)
    ·refine Run.so hm (.p e (.nil (.ret ?_)))
     obtain rfl := someO h
     have h := hk240
     replace h := inlO h
     obtain rfl := someO h
     exact Ends.mkG (.inl e) e (gh_pk [0] [] hB e e e e) e e
    ·exact Run.skip (.ops hm (.p3 e e e (.nil (⟨m240,Nat.lt_succ_self m240,_,_,(gh_pk [0,1,5] [] hB e e e e),_,h,e,e⟩))))
   ·refine Run.exit ?_
    obtain rfl := someO h
    have h := hk240
    replace h := inrO h
    exact ⟨_,_,(gh_pk [] [] hB e e e e),(),h,e,e⟩
  ·refine Run.so hm (.p e (.nil (.ret ?_)))
   obtain rfl := someO h
   exact Ends.mkG (.inl e) e (gh_pk [0] [] hB e e e e) e e
def laws_eqNode (N : Nat) (x1 : Node) (x2 : Node) : Option (Bool) :=
 (if (x1.Id != x2.Id) = true then
 some false
 else
 (if (x1.Term != x2.Term) = true then
 some false
 else
 (if (x1.Vote != x2.Vote) = true then
 some false
 else
 (if (x1.Role != x2.Role) = true then
 some false
 else
 (if (x1.Lead != x2.Lead) = true then
 some false
 else
 (laws_eqIntS N x1.Conf x2.Conf).bind fun y151 =>
 (if (!y151) = true then
 some false
 else
 (laws_eqLog N x1.Log x2.Log).bind fun y157 =>
 (if (!y157) = true then
 some false
 else
 (if (x1.Commit != x2.Commit) = true then
 some false
 else
 (if (x1.Clock != x2.Clock) = true then
 some false
 else
 (if (x1.Limit != x2.Limit) = true then
 some false
 else
 (laws_eqIntS N x1.Votes x2.Votes).bind fun y169 =>
 (if (!y169) = true then
 some false
 else
 (laws_eqPeerS N x1.Peers x2.Peers).bind fun y172 =>
 (if (!y172) = true then
 some false
 else
 some true))))))))))))
theorem sem_laws_eqNode (N : Nat) (x1 : Node) (x2 : Node) (r : Bool) (h : laws_eqNode N x1 x2 = some r) : Says Tryz.prog 68 [.agg [VI x1.Id,VI x1.Term,VI x1.Vote,VI x1.Role,VI x1.Lead,RO 3 (x1.Conf.map encI),VI x1.Log.Start,VI x1.Log.StartTerm,RO 131 (x1.Log.Entries.map encEntry),VI x1.Commit,VI x1.Clock,VI x1.Limit,RO 3 (x1.Votes.map encI),RO 186 (x1.Peers.map encPeer)],.agg [VI x2.Id,VI x2.Term,VI x2.Vote,VI x2.Role,VI x2.Lead,RO 3 (x2.Conf.map encI),VI x2.Log.Start,VI x2.Log.StartTerm,RO 131 (x2.Log.Entries.map encEntry),VI x2.Commit,VI x2.Clock,VI x2.Limit,RO 3 (x2.Votes.map encI),RO 186 (x2.Peers.map encPeer)]] 0 [] (VB r) [] := by
 unfold laws_eqNode at h
 refine Says.of_norm e Tryz.call68 e fun B hB => ?_
 have hm : B.m ≤ 1000 := by omega
 refine Run.so hm (.z 1000 (.bx e e) e e (.z 1016 (.bx e e) e e (.p e (.nil (.seq (.so hm (.p3 e e e (.p2 e e (.nil (.condO e h (fun g138 h => ?_) (fun g138 h => ?_)))))))))))
 ·refine Run.so hm (.p e (.nil (.ret ?_)))
  obtain rfl := someO h
  exact Ends.mkG (.inl e) e (gh_pk [0] [] hB e e e e) e e
 ·refine Run.skip (.seq (.so hm (.p3 e e e (.p2 e e (.nil (.condO e h (fun g140 h => ?_) (fun g140 h => ?_)))))))
  ·refine Run.so hm (.p e (.nil (.ret ?_)))
   obtain rfl := someO h
   exact Ends.mkG (.inl e) e (gh_pk [0] [] hB e e e e) e e
  ·refine Run.skip (.seq (.so hm (.p3 e e e (.p2 e e (.nil (.condO e h (fun g142 h => ?_) (fun g142 h => ?_)))))))
   ·refine Run.so hm (.p e (.nil (.ret ?_)))
    obtain rfl := someO h
    exact Ends.mkG (.inl e) e (gh_pk [0] [] hB e e e e) e e
   ·refine Run.skip (.seq (.so hm (.p3 e e e (.p2 e e (.nil (.condO e h (fun g144 h => ?_) (fun g144 h => ?_)))))))
    ·refine Run.so hm (.p e (.nil (.ret ?_)))
     obtain rfl := someO h
     exact Ends.mkG (.inl e) e (gh_pk [0] [] hB e e e e) e e
    ·refine Run.skip (.seq (.so hm (.p3 e e e (.p2 e e (.nil (.condO e h (fun g146 h => ?_) (fun g146 h => ?_)))))))
     ·refine Run.so hm (.p e (.nil (.ret ?_)))
      obtain rfl := someO h
      exact Ends.mkG (.inl e) e (gh_pk [0] [] hB e e e e) e e
     ·refine Run.skip (.seq (.so hm (.p3 e e e (.p e ?_))))
      obtain ⟨y151,hy151,h⟩ := bindO h
      refine Ops.z 46120 (Ev.call [] [] 0 (sem_laws_eqIntS _ _ _ _ hy151) e e (.d2 .nil) e (.inl e) e e) e e (.p e (.nil (.condO e h (fun g152 h => ?_) (fun g152 h => ?_))))
      ·refine Run.so hm (.p e (.nil (.ret ?_)))
       obtain rfl := someO h
       exact Ends.mkG (.inl e) e (gh_pk [0] [] hB e e e e) e e
      ·refine Run.skip (.seq (.so hm (.p3 e e e (.p e ?_))))
       obtain ⟨y157,hy157,h⟩ := bindO h
       refine Ops.z 54312 (Ev.call [] [] 0 (sem_laws_eqLog _ _ _ _ hy157) e e (.cons (.agg (.d2 (.d1 .nil))) (.cons (.agg (.d2 (.d1 .nil))) .nil)) e (.inl e) e e) e e (.p e (.nil (.condO e h (fun g158 h => ?_) (fun g158 h => ?_))))
       ·refine Run.so hm (.p e (.nil (.ret ?_)))
        obtain rfl := someO h
        exact Ends.mkG (.inl e) e (gh_pk [0] [] hB e e e e) e e
       ·refine Run.skip (.seq (.so hm (.p3 e e e (.p2 e e (.nil (.condO e h (fun g160 h => ?_) (fun g160 h => ?_)))))))
        ·refine Run.so hm (.p e (.nil (.ret ?_)))
         obtain rfl := someO h
         exact Ends.mkG (.inl e) e (gh_pk [0] [] hB e e e e) e e
        ·refine Run.skip (.seq (.so hm (.p3 e e e (.p2 e e (.nil (.condO e h (fun g162 h => ?_) (fun g162 h => ?_)))))))
         ·refine Run.so hm (.p e (.nil (.ret ?_)))
          obtain rfl := someO h
          exact Ends.mkG (.inl e) e (gh_pk [0] [] hB e e e e) e e
         ·refine Run.skip (.seq (.so hm (.p3 e e e (.p2 e e (.nil (.condO e h (fun g164 h => ?_) (fun g164 h => ?_)))))))
          ·refine Run.so hm (.p e (.nil (.ret ?_)))
           obtain rfl := someO h
           exact Ends.mkG (.inl e) e (gh_pk [0] [] hB e e e e) e e
          ·refine Run.skip (.seq (.so hm (.p3 e e e (.p e ?_))))
           obtain ⟨y169,hy169,h⟩ := bindO h
           refine Ops.z 87080 (Ev.call [] [] 0 (sem_laws_eqIntS _ _ _ _ hy169) e e (.d2 .nil) e (.inl e) e e) e e (.p e (.nil (.condO e h (fun g170 h => ?_) (fun g170 h => ?_))))
           ·refine Run.so hm (.p e (.nil (.ret ?_)))
            obtain rfl := someO h
            exact Ends.mkG (.inl e) e (gh_pk [0] [] hB e e e e) e e
           ·refine Run.skip (.seq (.so hm (.p3 e e e (.p e ?_))))
            obtain ⟨y172,hy172,h⟩ := bindO h
            refine Ops.z 95272 (Ev.call [] [] 0 (sem_laws_eqPeerS _ _ _ _ hy172) e e (.d2 .nil) e (.inl e) e e) e e (.p e (.nil (.condO e h (fun g173 h => ?_) (fun g173 h => ?_))))
            ·refine Run.so hm (.p e (.nil (.ret ?_)))
             obtain rfl := someO h
             exact Ends.mkG (.inl e) e (gh_pk [0] [] hB e e e e) e e
            ·refine Run.skip (.so hm (.p e (.nil (.ret ?_))))
             obtain rfl := someO h
             exact Ends.mkG (.inl e) e (gh_pk [0] [] hB e e e e) e e
def laws_eqFile (N : Nat) (x1 : File) (x2 : File) : Option (Bool) :=
 (if (!decide (x1.Name = x2.Name)) = true then
 some false
 else
 (if (!decide (x1.Text = x2.Text)) = true then
 some false
 else
 some true))
theorem sem_laws_eqFile (N : Nat) (x1 : File) (x2 : File) (r : Bool) (h : laws_eqFile N x1 x2 = some r) : Says Tryz.prog 99 [.agg [VS x1.Name,VS x1.Text],.agg [VS x2.Name,VS x2.Text]] 0 [] (VB r) [] := by
 unfold laws_eqFile at h
 refine Says.of_norm e Tryz.call99 e fun B hB => ?_
 have hm : B.m ≤ 1000 := by omega
 refine Run.so hm (.z 1000 (.bx e e) e e (.z 1016 (.bx e e) e e (.p e (.nil (.seq (.so hm (.p3 e e e (.p2 e e (.nil (.condO e h (fun g104 h => ?_) (fun g104 h => ?_)))))))))))
 ·refine Run.so hm (.p e (.nil (.ret ?_)))
  obtain rfl := someO h
  exact Ends.mkG (.inl e) e (gh_pk [0] [] hB e e e e) e e
 ·refine Run.skip (.seq (.so hm (.p3 e e e (.p2 e e (.nil (.condO e h (fun g105 h => ?_) (fun g105 h => ?_)))))))
  ·refine Run.so hm (.p e (.nil (.ret ?_)))
   obtain rfl := someO h
   exact Ends.mkG (.inl e) e (gh_pk [0] [] hB e e e e) e e
  ·refine Run.skip (.so hm (.p e (.nil (.ret ?_))))
   obtain rfl := someO h
   exact Ends.mkG (.inl e) e (gh_pk [0] [] hB e e e e) e e
def laws_eqFileS_l1 (N : Nat) (x1 : (List File)) (x2 : (List File)) : Nat → Int → Option ((Bool) ⊕ (Unit))
 | 0,_ => none
 | m + 1,x222 =>
 (if (decide (x222 < (x1.length : Int))) = true then
 (at? x1 x222).bind fun x254 =>
 (at? x2 x222).bind fun x255 =>
 (laws_eqFile N x254 x255).bind fun y256 =>
 (if (!y256) = true then
 some (Sum.inl false)
 else
 laws_eqFileS_l1 N x1 x2 m (w64 (x222 + 1)))
 else
 some (Sum.inr ()))
def laws_eqFileS_l1_r (N : Nat) (x1 : (List File)) (x2 : (List File)) : (List File) → Int → Option ((Bool) ⊕ (Unit))
 | [],x222 =>
 some (Sum.inr ())
 | hd :: tl,x222 =>
 (some hd).bind fun x254 =>
 (at? x2 x222).bind fun x255 =>
 (laws_eqFile N x254 x255).bind fun y256 =>
 (if (!y256) = true then
 some (Sum.inl false)
 else
 laws_eqFileS_l1_r N x1 x2 tl (w64 (x222 + 1)))
theorem laws_eqFileS_l1_rng (N : Nat) (x1 : (List File)) (x2 : (List File)) (hx : x1.length ≤ 1099511627776) : ∀ (d k m : Nat),x1.length = k + d → d < m → laws_eqFileS_l1 N x1 x2 m (k : Int) = laws_eqFileS_l1_r N x1 x2 (x1.drop k) (k : Int) := by
 intro d
 induction d with
 | zero =>
  intro k m hd hm
  obtain ⟨m,rfl⟩ : ∃ q,m = q + 1 := ⟨m - 1,by omega⟩
  rw [laws_eqFileS_l1,if_neg (by simp; omega),List.drop_eq_nil_of_le (by omega),laws_eqFileS_l1_r]
 | succ d ih =>
  intro k m hd hm
  obtain ⟨m,rfl⟩ : ∃ q,m = q + 1 := ⟨m - 1,by omega⟩
  have hk : k < x1.length := by omega
  rw [laws_eqFileS_l1,if_pos (by simp; omega),List.drop_eq_getElem_cons hk,laws_eqFileS_l1_r]
  have h1 := at_lt hk
  have h2 := w64_succ (k := k) (by omega)
  have h3 := ih (k + 1) m
  simp only [h1,h2,h3 (by omega) (by omega)]
theorem laws_eqFileS_l1_eq {N : Nat} (x1 : (List File)) (x2 : (List File)) (hx : x1.length ≤ 1099511627776) (hN : x1.length < N) : laws_eqFileS_l1 N x1 x2 N 0 = laws_eqFileS_l1_r N x1 x2 x1 0 := laws_eqFileS_l1_rng N x1 x2 hx x1.length 0 N (by omega) hN
def laws_eqFileS (N : Nat) (x1 : (List File)) (x2 : (List File)) : Option (Bool) :=
 (if ((x1.length : Int) != (x2.length : Int)) = true then
 some false
 else
 joinP (fun (v219 : Unit) =>
 some true) fun j219 =>
 (laws_eqFileS_l1 N x1 x2 N 0).bind (Sum.elim (fun v239 => some v239) (fun (v240 : Unit) => j219 ())))
theorem sem_laws_eqFileS (N : Nat) (x1 : (List File)) (x2 : (List File)) (r : Bool) (h : laws_eqFileS N x1 x2 = some r) : Says Tryz.prog 86 [RO 189 (x1.map encFile),RO 189 (x2.map encFile)] 0 [] (VB r) [] := by
 unfold laws_eqFileS at h
 refine Says.of_norm e Tryz.call86 e fun B hB => ?_
 have hm : B.m ≤ 1000 := by omega
 refine Run.so hm (.p e (.nil (.seq (.so hm (.p e (.z 5112 (Ev.lnF e) e e (.p e (.z 5144 (Ev.lnF e) e e (.p e (.nil (.condO e h (fun g180 h => ?_) (fun g180 h => ?_))))))))))))
 ·refine Run.so hm (.p e (.nil (.ret ?_)))
  obtain rfl := someO h
  exact Ends.mkG (.inl e) e (gh_pk [0] [] hB e e e e) e e
 ·refine Run.skip (.seqO h (fun v219 => []) (fun (v219 : Unit) => []) (fun h => ?_) (fun v219 h => ?_))
  ·refine Run.so hm (.p e (.nil (.block ?_)))
   obtain ⟨res240,h,hk240⟩ := bindO h
   refine Run.loop (n := N) (fun m240 fr σ => ∃ (x222 : Int),laws_eqFileS_l1 N x1 x2 m240 x222 = some res240 ∧ fr = [(0,RO 189 (x1.map encFile)),(1,RO 189 (x2.map encFile)),(5,VI x222)] ∧ σ = []) (gh_pk [0,1,5] [] hB e e e e) ⟨_,h,e,e⟩ ?_
   rintro m240 fr σ ⟨x222,h,rfl,rfl⟩
   obtain _ | m240 := m240
   ·rw [laws_eqFileS_l1] at h; cases h
   rw [laws_eqFileS_l1] at h
   refine Run.seq (.so hm (.p2 e e (.z 17416 (Ev.lnF e) e e (.p e (.nil (.condO e h (fun g243 h => ?_) (fun g243 h => ?_)))))))
   ·refine Run.skip (.seq (.block (.seq (.draw hm hmix (.p e (.p e ?_))))))
    obtain ⟨x254,hx254,h⟩ := bindO h
    refine OpsD.z 25608 (Ev.iaF e e hx254) e e (.p e (.p e (.p e ?_)))
    obtain ⟨x255,hx255,h⟩ := bindO h
    refine OpsD.z 25672 (Ev.iaF e e hx255) e e (.p e ?_)
    obtain ⟨y256,hy256,h⟩ := bindO h
    refine OpsD.z 25704 (Ev.call [] [] 0 (sem_laws_eqFile _ _ _ _ hy256) e e (.cons (.agg (.d2 .nil)) (.cons (.agg (.d2 .nil)) .nil)) e (.inl e) e e) e e (.p e (.nil ⟨by kernel_rfl,?_⟩))
    refine Run.condO e h (fun g257 h => ?_) (fun g257 h => ?_)
    ·refine Run.so hm (.p e (.nil (.ret ?_)))
     obtain rfl := someO h
     have h := hk240
     replace h := inlO h
     obtain rfl := someO h
     exact Ends.mkG (.inl e) e (gh_pk [0] [] hB e e e e) e e
    ·exact Run.skip (.ops hm (.p3 e e e (.nil (⟨m240,Nat.lt_succ_self m240,_,_,(gh_pk [0,1,5] [] hB e e e e),_,h,e,e⟩))))
   ·refine Run.exit ?_
    obtain rfl := someO h
    have h := hk240
    replace h := inrO h
    exact ⟨_,_,(gh_pk [] [] hB e e e e),(),h,e,e⟩
  ·refine Run.so hm (.p e (.nil (.ret ?_)))
   obtain rfl := someO h
   exact Ends.mkG (.inl e) e (gh_pk [0] [] hB e e e e) e e
def laws_eqDisk (N : Nat) (x1 : Disk) (x2 : Disk) : Option (Bool) :=
 (laws_eqFileS N x1.Files x2.Files).bind fun y104 =>
 (if (!y104) = true then
 some false
 else
 some true)
theorem sem_laws_eqDisk (N : Nat) (x1 : Disk) (x2 : Disk) (r : Bool) (h : laws_eqDisk N x1 x2 = some r) : Says Tryz.prog 69 [.agg [RO 189 (x1.Files.map encFile)],.agg [RO 189 (x2.Files.map encFile)]] 0 [] (VB r) [] := by
 unfold laws_eqDisk at h
 refine Says.of_norm e Tryz.call69 e fun B hB => ?_
 have hm : B.m ≤ 1000 := by omega
 refine Run.so hm (.z 1000 (.bx e e) e e (.z 1016 (.bx e e) e e (.p e (.nil (.seq (.so hm (.p3 e e e (.p e ?_))))))))
 obtain ⟨y104,hy104,h⟩ := bindO h
 refine Ops.z 5160 (Ev.call [] [] 0 (sem_laws_eqFileS _ _ _ _ hy104) e e (.d2 .nil) e (.inl e) e e) e e (.p e (.nil (.condO e h (fun g105 h => ?_) (fun g105 h => ?_))))
 ·refine Run.so hm (.p e (.nil (.ret ?_)))
  obtain rfl := someO h
  exact Ends.mkG (.inl e) e (gh_pk [0] [] hB e e e e) e e
 ·refine Run.skip (.so hm (.p e (.nil (.ret ?_))))
  obtain rfl := someO h
  exact Ends.mkG (.inl e) e (gh_pk [0] [] hB e e e e) e e
def laws_eqManifest (N : Nat) (x1 : Manifest) (x2 : Manifest) : Option (Bool) :=
 (laws_eqIntS N x1.Segs x2.Segs).bind fun y119 =>
 (if (!y119) = true then
 some false
 else
 (if (x1.Next != x2.Next) = true then
 some false
 else
 (if (x1.Base != x2.Base) = true then
 some false
 else
 (if (x1.BaseTerm != x2.BaseTerm) = true then
 some false
 else
 (laws_eqIntS N x1.Conf x2.Conf).bind fun y128 =>
 (if (!y128) = true then
 some false
 else
 some true)))))
theorem sem_laws_eqManifest (N : Nat) (x1 : Manifest) (x2 : Manifest) (r : Bool) (h : laws_eqManifest N x1 x2 = some r) : Says Tryz.prog 87 [.agg [RO 3 (x1.Segs.map encI),VI x1.Next,VI x1.Base,VI x1.BaseTerm,RO 3 (x1.Conf.map encI)],.agg [RO 3 (x2.Segs.map encI),VI x2.Next,VI x2.Base,VI x2.BaseTerm,RO 3 (x2.Conf.map encI)]] 0 [] (VB r) [] := by
 unfold laws_eqManifest at h
 refine Says.of_norm e Tryz.call87 e fun B hB => ?_
 have hm : B.m ≤ 1000 := by omega
 refine Run.so hm (.z 1000 (.bx e e) e e (.z 1016 (.bx e e) e e (.p e (.nil (.seq (.so hm (.p3 e e e (.p e ?_))))))))
 obtain ⟨y119,hy119,h⟩ := bindO h
 refine Ops.z 5160 (Ev.call [] [] 0 (sem_laws_eqIntS _ _ _ _ hy119) e e (.d2 .nil) e (.inl e) e e) e e (.p e (.nil (.condO e h (fun g120 h => ?_) (fun g120 h => ?_))))
 ·refine Run.so hm (.p e (.nil (.ret ?_)))
  obtain rfl := someO h
  exact Ends.mkG (.inl e) e (gh_pk [0] [] hB e e e e) e e
 ·refine Run.skip (.seq (.so hm (.p3 e e e (.p2 e e (.nil (.condO e h (fun g122 h => ?_) (fun g122 h => ?_)))))))
  ·refine Run.so hm (.p e (.nil (.ret ?_)))
   obtain rfl := someO h
   exact Ends.mkG (.inl e) e (gh_pk [0] [] hB e e e e) e e
  ·refine Run.skip (.seq (.so hm (.p3 e e e (.p2 e e (.nil (.condO e h (fun g124 h => ?_) (fun g124 h => ?_)))))))
   ·refine Run.so hm (.p e (.nil (.ret ?_)))
    obtain rfl := someO h
    exact Ends.mkG (.inl e) e (gh_pk [0] [] hB e e e e) e e
   ·refine Run.skip (.seq (.so hm (.p3 e e e (.p2 e e (.nil (.condO e h (fun g126 h => ?_) (fun g126 h => ?_)))))))
    ·refine Run.so hm (.p e (.nil (.ret ?_)))
     obtain rfl := someO h
     exact Ends.mkG (.inl e) e (gh_pk [0] [] hB e e e e) e e
    ·refine Run.skip (.seq (.so hm (.p3 e e e (.p e ?_))))
     obtain ⟨y128,hy128,h⟩ := bindO h
     refine Ops.z 37928 (Ev.call [] [] 0 (sem_laws_eqIntS _ _ _ _ hy128) e e (.d2 .nil) e (.inl e) e e) e e (.p e (.nil (.condO e h (fun g129 h => ?_) (fun g129 h => ?_))))
     ·refine Run.so hm (.p e (.nil (.ret ?_)))
      obtain rfl := someO h
      exact Ends.mkG (.inl e) e (gh_pk [0] [] hB e e e e) e e
     ·refine Run.skip (.so hm (.p e (.nil (.ret ?_))))
      obtain rfl := someO h
      exact Ends.mkG (.inl e) e (gh_pk [0] [] hB e e e e) e e
def laws_eqSpot (N : Nat) (x1 : Spot) (x2 : Spot) : Option (Bool) :=
 (if (!decide (x1.Key = x2.Key)) = true then
 some false
 else
 (if (x1.Seg != x2.Seg) = true then
 some false
 else
 (if (x1.At != x2.At) = true then
 some false
 else
 (if (x1.Size != x2.Size) = true then
 some false
 else
 some true))))
theorem sem_laws_eqSpot (N : Nat) (x1 : Spot) (x2 : Spot) (r : Bool) (h : laws_eqSpot N x1 x2 = some r) : Says Tryz.prog 100 [.agg [VS x1.Key,VI x1.Seg,VI x1.At,VI x1.Size],.agg [VS x2.Key,VI x2.Seg,VI x2.At,VI x2.Size]] 0 [] (VB r) [] := by
 unfold laws_eqSpot at h
 refine Says.of_norm e Tryz.call100 e fun B hB => ?_
 have hm : B.m ≤ 1000 := by omega
 refine Run.so hm (.z 1000 (.bx e e) e e (.z 1016 (.bx e e) e e (.p e (.nil (.seq (.so hm (.p3 e e e (.p2 e e (.nil (.condO e h (fun g108 h => ?_) (fun g108 h => ?_)))))))))))
 ·refine Run.so hm (.p e (.nil (.ret ?_)))
  obtain rfl := someO h
  exact Ends.mkG (.inl e) e (gh_pk [0] [] hB e e e e) e e
 ·refine Run.skip (.seq (.so hm (.p3 e e e (.p2 e e (.nil (.condO e h (fun g110 h => ?_) (fun g110 h => ?_)))))))
  ·refine Run.so hm (.p e (.nil (.ret ?_)))
   obtain rfl := someO h
   exact Ends.mkG (.inl e) e (gh_pk [0] [] hB e e e e) e e
  ·refine Run.skip (.seq (.so hm (.p3 e e e (.p2 e e (.nil (.condO e h (fun g112 h => ?_) (fun g112 h => ?_)))))))
   ·refine Run.so hm (.p e (.nil (.ret ?_)))
    obtain rfl := someO h
    exact Ends.mkG (.inl e) e (gh_pk [0] [] hB e e e e) e e
   ·refine Run.skip (.seq (.so hm (.p3 e e e (.p2 e e (.nil (.condO e h (fun g113 h => ?_) (fun g113 h => ?_)))))))
    ·refine Run.so hm (.p e (.nil (.ret ?_)))
     obtain rfl := someO h
     exact Ends.mkG (.inl e) e (gh_pk [0] [] hB e e e e) e e
    ·refine Run.skip (.so hm (.p e (.nil (.ret ?_))))
     obtain rfl := someO h
     exact Ends.mkG (.inl e) e (gh_pk [0] [] hB e e e e) e e
def laws_eqSpotS_l1 (N : Nat) (x1 : (List Spot)) (x2 : (List Spot)) : Nat → Int → Option ((Bool) ⊕ (Unit))
 | 0,_ => none
 | m + 1,x222 =>
 (if (decide (x222 < (x1.length : Int))) = true then
 (at? x1 x222).bind fun x254 =>
 (at? x2 x222).bind fun x255 =>
 (laws_eqSpot N x254 x255).bind fun y256 =>
 (if (!y256) = true then
 some (Sum.inl false)
 else
 laws_eqSpotS_l1 N x1 x2 m (w64 (x222 + 1)))
 else
 some (Sum.inr ()))
def laws_eqSpotS_l1_r (N : Nat) (x1 : (List Spot)) (x2 : (List Spot)) : (List Spot) → Int → Option ((Bool) ⊕ (Unit))
 | [],x222 =>
 some (Sum.inr ())
 | hd :: tl,x222 =>
 (some hd).bind fun x254 =>
 (at? x2 x222).bind fun x255 =>
 (laws_eqSpot N x254 x255).bind fun y256 =>
 (if (!y256) = true then
 some (Sum.inl false)
 else
 laws_eqSpotS_l1_r N x1 x2 tl (w64 (x222 + 1)))
theorem laws_eqSpotS_l1_rng (N : Nat) (x1 : (List Spot)) (x2 : (List Spot)) (hx : x1.length ≤ 1099511627776) : ∀ (d k m : Nat),x1.length = k + d → d < m → laws_eqSpotS_l1 N x1 x2 m (k : Int) = laws_eqSpotS_l1_r N x1 x2 (x1.drop k) (k : Int) := by
 intro d
 induction d with
 | zero =>
  intro k m hd hm
  obtain ⟨m,rfl⟩ : ∃ q,m = q + 1 := ⟨m - 1,by omega⟩
  rw [laws_eqSpotS_l1,if_neg (by simp; omega),List.drop_eq_nil_of_le (by omega),laws_eqSpotS_l1_r]
 | succ d ih =>
  intro k m hd hm
  obtain ⟨m,rfl⟩ : ∃ q,m = q + 1 := ⟨m - 1,by omega⟩
  have hk : k < x1.length := by omega
  rw [laws_eqSpotS_l1,if_pos (by simp; omega),List.drop_eq_getElem_cons hk,laws_eqSpotS_l1_r]
  have h1 := at_lt hk
  have h2 := w64_succ (k := k) (by omega)
  have h3 := ih (k + 1) m
  simp only [h1,h2,h3 (by omega) (by omega)]
theorem laws_eqSpotS_l1_eq {N : Nat} (x1 : (List Spot)) (x2 : (List Spot)) (hx : x1.length ≤ 1099511627776) (hN : x1.length < N) : laws_eqSpotS_l1 N x1 x2 N 0 = laws_eqSpotS_l1_r N x1 x2 x1 0 := laws_eqSpotS_l1_rng N x1 x2 hx x1.length 0 N (by omega) hN
def laws_eqSpotS (N : Nat) (x1 : (List Spot)) (x2 : (List Spot)) : Option (Bool) :=
 (if ((x1.length : Int) != (x2.length : Int)) = true then
 some false
 else
 joinP (fun (v219 : Unit) =>
 some true) fun j219 =>
 (laws_eqSpotS_l1 N x1 x2 N 0).bind (Sum.elim (fun v239 => some v239) (fun (v240 : Unit) => j219 ())))
theorem sem_laws_eqSpotS (N : Nat) (x1 : (List Spot)) (x2 : (List Spot)) (r : Bool) (h : laws_eqSpotS N x1 x2 = some r) : Says Tryz.prog 88 [RO 191 (x1.map encSpot),RO 191 (x2.map encSpot)] 0 [] (VB r) [] := by
 unfold laws_eqSpotS at h
 refine Says.of_norm e Tryz.call88 e fun B hB => ?_
 have hm : B.m ≤ 1000 := by omega
 refine Run.so hm (.p e (.nil (.seq (.so hm (.p e (.z 5112 (Ev.lnF e) e e (.p e (.z 5144 (Ev.lnF e) e e (.p e (.nil (.condO e h (fun g180 h => ?_) (fun g180 h => ?_))))))))))))
 ·refine Run.so hm (.p e (.nil (.ret ?_)))
  obtain rfl := someO h
  exact Ends.mkG (.inl e) e (gh_pk [0] [] hB e e e e) e e
 ·refine Run.skip (.seqO h (fun v219 => []) (fun (v219 : Unit) => []) (fun h => ?_) (fun v219 h => ?_))
  ·refine Run.so hm (.p e (.nil (.block ?_)))
   obtain ⟨res240,h,hk240⟩ := bindO h
   refine Run.loop (n := N) (fun m240 fr σ => ∃ (x222 : Int),laws_eqSpotS_l1 N x1 x2 m240 x222 = some res240 ∧ fr = [(0,RO 191 (x1.map encSpot)),(1,RO 191 (x2.map encSpot)),(5,VI x222)] ∧ σ = []) (gh_pk [0,1,5] [] hB e e e e) ⟨_,h,e,e⟩ ?_
   rintro m240 fr σ ⟨x222,h,rfl,rfl⟩
   obtain _ | m240 := m240
   ·rw [laws_eqSpotS_l1] at h; cases h
   rw [laws_eqSpotS_l1] at h
   refine Run.seq (.so hm (.p2 e e (.z 17416 (Ev.lnF e) e e (.p e (.nil (.condO e h (fun g243 h => ?_) (fun g243 h => ?_)))))))
   ·refine Run.skip (.seq (.block (.seq (.draw hm hmix (.p e (.p e ?_))))))
    obtain ⟨x254,hx254,h⟩ := bindO h
    refine OpsD.z 25608 (Ev.iaF e e hx254) e e (.p e (.p e (.p e ?_)))
    obtain ⟨x255,hx255,h⟩ := bindO h
    refine OpsD.z 25672 (Ev.iaF e e hx255) e e (.p e ?_)
    obtain ⟨y256,hy256,h⟩ := bindO h
    refine OpsD.z 25704 (Ev.call [] [] 0 (sem_laws_eqSpot _ _ _ _ hy256) e e (.cons (.agg (.d4 .nil)) (.cons (.agg (.d4 .nil)) .nil)) e (.inl e) e e) e e (.p e (.nil ⟨by kernel_rfl,?_⟩))
    refine Run.condO e h (fun g257 h => ?_) (fun g257 h => ?_)
    ·refine Run.so hm (.p e (.nil (.ret ?_)))
     obtain rfl := someO h
     have h := hk240
     replace h := inlO h
     obtain rfl := someO h
     exact Ends.mkG (.inl e) e (gh_pk [0] [] hB e e e e) e e
    ·exact Run.skip (.ops hm (.p3 e e e (.nil (⟨m240,Nat.lt_succ_self m240,_,_,(gh_pk [0,1,5] [] hB e e e e),_,h,e,e⟩))))
   ·refine Run.exit ?_
    obtain rfl := someO h
    have h := hk240
    replace h := inrO h
    exact ⟨_,_,(gh_pk [] [] hB e e e e),(),h,e,e⟩
  ·refine Run.so hm (.p e (.nil (.ret ?_)))
   obtain rfl := someO h
   exact Ends.mkG (.inl e) e (gh_pk [0] [] hB e e e e) e e
def laws_eqShelf (N : Nat) (x1 : Shelf) (x2 : Shelf) : Option (Bool) :=
 (laws_eqManifest N x1.Man x2.Man).bind fun y117 =>
 (if (!y117) = true then
 some false
 else
 (laws_eqSpotS N x1.Dir x2.Dir).bind fun y123 =>
 (if (!y123) = true then
 some false
 else
 (if (x1.Stamp != x2.Stamp) = true then
 some false
 else
 some true)))
theorem sem_laws_eqShelf (N : Nat) (x1 : Shelf) (x2 : Shelf) (r : Bool) (h : laws_eqShelf N x1 x2 = some r) : Says Tryz.prog 70 [.agg [RO 3 (x1.Man.Segs.map encI),VI x1.Man.Next,VI x1.Man.Base,VI x1.Man.BaseTerm,RO 3 (x1.Man.Conf.map encI),RO 191 (x1.Dir.map encSpot),VI x1.Stamp],.agg [RO 3 (x2.Man.Segs.map encI),VI x2.Man.Next,VI x2.Man.Base,VI x2.Man.BaseTerm,RO 3 (x2.Man.Conf.map encI),RO 191 (x2.Dir.map encSpot),VI x2.Stamp]] 0 [] (VB r) [] := by
 unfold laws_eqShelf at h
 refine Says.of_norm e Tryz.call70 e fun B hB => ?_
 have hm : B.m ≤ 1000 := by omega
 refine Run.so hm (.z 1000 (.bx e e) e e (.z 1016 (.bx e e) e e (.p e (.nil (.seq (.so hm (.p3 e e e (.p e ?_))))))))
 obtain ⟨y117,hy117,h⟩ := bindO h
 refine Ops.z 5160 (Ev.call [] [] 0 (sem_laws_eqManifest _ _ _ _ hy117) e e (.cons (.agg (.d4 (.d1 .nil))) (.cons (.agg (.d4 (.d1 .nil))) .nil)) e (.inl e) e e) e e (.p e (.nil (.condO e h (fun g118 h => ?_) (fun g118 h => ?_))))
 ·refine Run.so hm (.p e (.nil (.ret ?_)))
  obtain rfl := someO h
  exact Ends.mkG (.inl e) e (gh_pk [0] [] hB e e e e) e e
 ·refine Run.skip (.seq (.so hm (.p3 e e e (.p e ?_))))
  obtain ⟨y123,hy123,h⟩ := bindO h
  refine Ops.z 13352 (Ev.call [] [] 0 (sem_laws_eqSpotS _ _ _ _ hy123) e e (.d2 .nil) e (.inl e) e e) e e (.p e (.nil (.condO e h (fun g124 h => ?_) (fun g124 h => ?_))))
  ·refine Run.so hm (.p e (.nil (.ret ?_)))
   obtain rfl := someO h
   exact Ends.mkG (.inl e) e (gh_pk [0] [] hB e e e e) e e
  ·refine Run.skip (.seq (.so hm (.p3 e e e (.p2 e e (.nil (.condO e h (fun g125 h => ?_) (fun g125 h => ?_)))))))
   ·refine Run.so hm (.p e (.nil (.ret ?_)))
    obtain rfl := someO h
    exact Ends.mkG (.inl e) e (gh_pk [0] [] hB e e e e) e e
   ·refine Run.skip (.so hm (.p e (.nil (.ret ?_))))
    obtain rfl := someO h
    exact Ends.mkG (.inl e) e (gh_pk [0] [] hB e e e e) e e
end Go.Proofs.YtedoifjaobebeaaGreatDoor.Pe.FnExactShowWorld
