/- Functions,as pure functions; and that Go does just that. -/
import Derived.Test.YteiimlnnaioocaaGreatDoorPeFFnExactWorldNew4
namespace Go.Proofs.YteiimlnnaioocaaGreatDoor.Pe.FnExactWorldNew
open Go Go.RowKit
set_option linter.unusedVariables false
set_option linter.unusedSimpArgs false
set_option maxHeartbeats 40000000
set_option maxRecDepth 100000
def laws_markReplyS_l1 (N : Nat) (x1 : (List Reply)) : Nat → Option (Unit)
 | 0 => none
 | m + 1 =>
 (if (decide (0 < (x1.length : Int))) = true then
 none
 else
 some ())
def laws_markReplyS (N : Nat) (x1 : (List Reply)) (x2 : Int) : Option (Int) :=
 joinP (fun (v128 : Unit) =>
 some x2) fun j128 =>
 (laws_markReplyS_l1 N x1 N).bind (fun v134 => j128 ())
theorem sem_laws_markReplyS (N : Nat) (x1 : (List Reply)) (x2 : Int) (r : Int) (h : laws_markReplyS N x1 x2 = some r) : Says Tryz.prog 31 [RO 118 (x1.map encReply),VI x2] 0 [] (VI r) [] := by
 unfold laws_markReplyS at h
 refine Says.of_norm e Tryz.call31 e fun B hB => ?_
 have hm : B.m ≤ 1000 := by omega
 refine Run.so hm (.p e (.nil (.seqO h (fun v128 => [(1,VI x2)]) (fun (v128 : Unit) => []) (fun h => ?_) (fun v128 h => ?_))))
 ·refine Run.so hm (.p e (.nil (.block ?_)))
  obtain ⟨res134,h,hk134⟩ := bindO h
  refine Run.loop (n := N) (fun m134 fr σ => laws_markReplyS_l1 N x1 m134 = some res134 ∧ fr = [(0,RO 118 (x1.map encReply)),(1,VI x2),(5,VI 0)] ∧ σ = []) (gh_pk [0,1,5] [] hB e e e e) ⟨h,e,e⟩ ?_
  rintro m134 fr σ ⟨h,rfl,rfl⟩
  obtain _ | m134 := m134
  ·rw [laws_markReplyS_l1] at h; cases h
  rw [laws_markReplyS_l1] at h
  refine Run.seq (.so hm (.p2 e e (.z 9224 (Ev.lnF e) e e (.p e (.nil (.condO e h (fun g137 h => ?_) (fun g137 h => ?_)))))))
  ·exact noO h
  ·refine Run.exit ?_
   obtain rfl := someO h
   have h := hk134
   exact ⟨_,_,(gh_pk [1] [] hB e e e e),(),h,e,e⟩
 ·refine Run.so hm (.p2 e e (.nil (.ret ?_)))
  obtain rfl := someO h
  exact Ends.mkG (.inl e) e (gh_pk [0] [] hB e e e e) e e
def laws_markWorld (N : Nat) (x1 : World) (x2 : Int) : Option (Int × (List Bool) × (List Server)) :=
 (laws_markBoolS N x1.Up x2).bind fun y142 =>
 (len? x1.Up y142.2).bind fun y143 =>
 (laws_markServerS N x1.Servers y142.1).bind fun y150 =>
 (len? x1.Servers y150.2).bind fun y151 =>
 (laws_markMessageS N x1.Net y150.1).bind fun y155 =>
 (laws_markWaitS N x1.Waits y155).bind fun y159 =>
 (laws_markLeaderS N x1.Leaders y159).bind fun y163 =>
 (laws_markAppliedS N x1.Applied y163).bind fun y167 =>
 (laws_markReplyS N x1.Replies y167).bind fun y171 =>
 some (y171,y142.2,y150.2)
theorem sem_laws_markWorld (N : Nat) (x1 : World) (x2 : Int) (r : Int × (List Bool) × (List Server)) (h : laws_markWorld N x1 x2 = some r) : Says Tryz.prog 10 [.agg [.sl 0 4 0 x1.Up.length,.sl 1 58 0 x1.Servers.length,.sl 2 102 0 x1.Net.length,.sl 3 105 0 x1.Waits.length,.sl 4 108 0 x1.Leaders.length,.sl 5 113 0 x1.Applied.length,.sl 6 118 0 x1.Replies.length],VI x2] 7 [(0,.vec 4 (x1.Up.map encB)),(1,.vec 58 (x1.Servers.map (encServer true))),(2,.vec 102 (x1.Net.map (encMessage true))),(3,.vec 105 (x1.Waits.map encWait)),(4,.vec 108 (x1.Leaders.map (encLeader true))),(5,.vec 113 (x1.Applied.map encApplied)),(6,.vec 118 (x1.Replies.map encReply))] (VI r.1) [(0,.vec 4 (r.2.1.map encB)),(1,.vec 58 (r.2.2.map (encServer true))),(2,.vec 102 (x1.Net.map (encMessage true))),(3,.vec 105 (x1.Waits.map encWait)),(4,.vec 108 (x1.Leaders.map (encLeader true))),(5,.vec 113 (x1.Applied.map encApplied)),(6,.vec 118 (x1.Replies.map encReply))] := by
 unfold laws_markWorld at h
 refine Says.of_norm e Tryz.call10 e fun B hB => ?_
 have hm : B.m ≤ 1000 := by omega
 refine Run.so hm (.z 1000 (.bx e e) e e (.p e (.nil (.so hm (.p3 e e e ?_)))))
 obtain ⟨y142,hy142,h⟩ := bindO h
 obtain ⟨y143,hy143,h⟩ := bindO h
 refine Ops.z 5144 (Ev.call [0] [] 0 (sem_laws_markBoolS _ _ _ _ hy142) e e (.cons (.sl e) (.d1 .nil)) e (.inl e) e e) e e (.p e (.nil (.so hm (.p3 e e e ?_))))
 obtain ⟨y150,hy150,h⟩ := bindO h
 obtain ⟨y151,hy151,h⟩ := bindO h
 refine Ops.z 9240 (Ev.call [1] [] 0 (sem_laws_markServerS _ _ _ _ hy150) e e (.cons (.sl e) (.d1 .nil)) e (.inl e) e e) e e (.p e (.nil (.so hm (.p3 e e e ?_))))
 obtain ⟨y155,hy155,h⟩ := bindO h
 refine Ops.z 13336 (Ev.call [] [2] 0 (sem_laws_markMessageS _ _ _ _ hy155) e e (.cons (.borrow e (by decide) (lendW ro_encMessage _ e)) (.d1 .nil)) e (.inr ⟨e,ownL_root trivial⟩) e e) e e ?_
 refine Ops.p e (.nil (.so hm (.p3 e e e ?_)))
 obtain ⟨y159,hy159,h⟩ := bindO h
 refine Ops.z 17432 (Ev.call [] [3] 0 (sem_laws_markWaitS _ _ _ _ hy159) e e (.cons (.borrow e (by decide) (lendW (fun _ => e) _ e)) (.d1 .nil)) e (.inr ⟨e,ownL_root trivial⟩) e e) e e ?_
 refine Ops.p e (.nil (.so hm (.p3 e e e ?_)))
 obtain ⟨y163,hy163,h⟩ := bindO h
 refine Ops.z 21528 (Ev.call [] [4] 0 (sem_laws_markLeaderS _ _ _ _ hy163) e e (.cons (.borrow e (by decide) (lendW ro_encLeader _ e)) (.d1 .nil)) e (.inr ⟨e,ownL_root trivial⟩) e e) e e ?_
 refine Ops.p e (.nil (.so hm (.p3 e e e ?_)))
 obtain ⟨y167,hy167,h⟩ := bindO h
 refine Ops.z 25624 (Ev.call [] [5] 0 (sem_laws_markAppliedS _ _ _ _ hy167) e e (.cons (.borrow e (by decide) (lendW (fun _ => e) _ e)) (.d1 .nil)) e (.inr ⟨e,ownL_root trivial⟩) e e) e e ?_
 refine Ops.p e (.nil (.so hm (.p3 e e e ?_)))
 obtain ⟨y171,hy171,h⟩ := bindO h
 refine Ops.z 29720 (Ev.call [] [6] 0 (sem_laws_markReplyS _ _ _ _ hy171) e e (.cons (.borrow e (by decide) (lendW (fun _ => e) _ e)) (.d1 .nil)) e (.inr ⟨e,ownL_root trivial⟩) e e) e e ?_
 refine Ops.p e (.nil (.so hm (.p2 e e (.nil (.ret ?_)))))
 obtain rfl := someO h
 exact Ends.mkG (.inl e) e (gh_pk [0] [0,1,2,3,4,5,6] hB e e e e) (by first | rfl | (simp only [List.length_set,(len_some hy143),(len_some hy151)]; done) | (simp only [List.length_set,(len_some hy143),(len_some hy151)]; rfl)) (by first | rfl | (simp only [List.length_set,(len_some hy143),(len_some hy151)]; done) | (simp only [List.length_set,(len_some hy143),(len_some hy151)]; rfl))
def laws_heldBoolS_l1 (N : Nat) (x1 : (List Bool)) : Nat → Int → Int → Option ((Int) ⊕ (Int))
 | 0,_,_ => none
 | m + 1,x253,x254 =>
 (if (decide (x254 < (x1.length : Int))) = true then
 (at? x1 x254).bind fun x299 =>
 (intD .rem .i64 x253 3).bind fun x300 =>
 (if ((x299 == (x300 == 0)) ^^ true) = true then
 some (Sum.inl (-1 : Int))
 else
 laws_heldBoolS_l1 N x1 m (w64 (x253 + 1)) (w64 (x254 + 1)))
 else
 some (Sum.inr x253))
def laws_heldBoolS_l1_r (N : Nat) (x1 : (List Bool)) : (List Bool) → Int → Int → Option ((Int) ⊕ (Int))
 | [],x253,x254 =>
 some (Sum.inr x253)
 | hd :: tl,x253,x254 =>
 (some hd).bind fun x299 =>
 (intD .rem .i64 x253 3).bind fun x300 =>
 (if ((x299 == (x300 == 0)) ^^ true) = true then
 some (Sum.inl (-1 : Int))
 else
 laws_heldBoolS_l1_r N x1 tl (w64 (x253 + 1)) (w64 (x254 + 1)))
theorem laws_heldBoolS_l1_rng (N : Nat) (x1 : (List Bool)) (hx : x1.length ≤ 1099511627776) : ∀ (d k m : Nat) (x253 : Int),x1.length = k + d → d < m → laws_heldBoolS_l1 N x1 m x253 (k : Int) = laws_heldBoolS_l1_r N x1 (x1.drop k) x253 (k : Int) := by
 intro d
 induction d with
 | zero =>
  intro k m x253 hd hm
  obtain ⟨m,rfl⟩ : ∃ q,m = q + 1 := ⟨m - 1,by omega⟩
  rw [laws_heldBoolS_l1,if_neg (by simp; omega),List.drop_eq_nil_of_le (by omega),laws_heldBoolS_l1_r]
 | succ d ih =>
  intro k m x253 hd hm
  obtain ⟨m,rfl⟩ : ∃ q,m = q + 1 := ⟨m - 1,by omega⟩
  have hk : k < x1.length := by omega
  rw [laws_heldBoolS_l1,if_pos (by simp; omega),List.drop_eq_getElem_cons hk,laws_heldBoolS_l1_r]
  have h1 := at_lt hk
  have h2 := w64_succ (k := k) (by omega)
  have h3 := ih (k + 1) m
  simp only [h1,h2,h3 _ (by omega) (by omega)]
theorem laws_heldBoolS_l1_eq {N : Nat} (x1 : (List Bool)) (hx : x1.length ≤ 1099511627776) (hN : x1.length < N) (x253 : Int) : laws_heldBoolS_l1 N x1 N x253 0 = laws_heldBoolS_l1_r N x1 x1 x253 0 := laws_heldBoolS_l1_rng N x1 hx x1.length 0 N x253 (by omega) hN
def laws_heldBoolS (N : Nat) (x1 : (List Bool)) (x2 : Int) : Option (Int) :=
 joinP (fun (v251 : Int) =>
 some v251) fun j251 =>
 (laws_heldBoolS_l1 N x1 N x2 0).bind (Sum.elim (fun v277 => some v277) (fun (v278 : Int) => j251 v278))
theorem sem_laws_heldBoolS (N : Nat) (x1 : (List Bool)) (x2 : Int) (r : Int) (h : laws_heldBoolS N x1 x2 = some r) : Says Tryz.prog 32 [RO 4 (x1.map encB),VI x2] 0 [] (VI r) [] := by
 unfold laws_heldBoolS at h
 refine Says.of_norm e Tryz.call32 e fun B hB => ?_
 have hm : B.m ≤ 1000 := by omega
 refine Run.so hm (.p e (.nil (.seqO h (fun v251 => [(1,VI v251)]) (fun (v251 : Int) => []) (fun h => ?_) (fun v251 h => ?_))))
 ·refine Run.so hm (.p e (.nil (.block ?_)))
  obtain ⟨res278,h,hk278⟩ := bindO h
  refine Run.loop (n := N) (fun m278 fr σ => ∃ (x253 : Int),∃ (x254 : Int),laws_heldBoolS_l1 N x1 m278 x253 x254 = some res278 ∧ fr = [(0,RO 4 (x1.map encB)),(1,VI x253),(5,VI x254)] ∧ σ = []) (gh_pk [0,1,5] [] hB e e e e) ⟨_,_,h,e,e⟩ ?_
  rintro m278 fr σ ⟨x253,x254,h,rfl,rfl⟩
  obtain _ | m278 := m278
  ·rw [laws_heldBoolS_l1] at h; cases h
  rw [laws_heldBoolS_l1] at h
  refine Run.seq (.so hm (.p2 e e (.z 9224 (Ev.lnF e) e e (.p e (.nil (.condO e h (fun g281 h => ?_) (fun g281 h => ?_)))))))
  ·refine Run.skip (.seq (.block (.seq (.so hm (.p2 e e ?_)))))
   obtain ⟨x299,hx299,h⟩ := bindO h
   refine Ops.z 17416 (Ev.iaF e e hx299) e e (.p2 e e ?_)
   obtain ⟨x300,hx300,h⟩ := bindO h
   refine Ops.z 17464 (.bin e e hx300) e e (.p2 e e (.nil (.condO e h (fun g301 h => ?_) (fun g301 h => ?_))))
   ·refine Run.so hm (.p e (.nil (.ret ?_)))
    obtain rfl := someO h
    have h := hk278
    replace h := inlO h
    obtain rfl := someO h
    exact Ends.mkG (.inl e) e (gh_pk [0] [] hB e e e e) e e
   ·exact Run.skip (.ops hm (.p3 e e e (.nil (.ops hm (.p3 e e e (.nil (⟨m278,Nat.lt_succ_self m278,_,_,(gh_pk [0,1,5] [] hB e e e e),_,_,h,e,e⟩)))))))
  ·refine Run.exit ?_
   obtain rfl := someO h
   have h := hk278
   replace h := inrO h
   exact ⟨_,_,(gh_pk [1] [] hB e e e e),_,h,e,e⟩
 ·refine Run.so hm (.p2 e e (.nil (.ret ?_)))
  obtain rfl := someO h
  exact Ends.mkG (.inl e) e (gh_pk [0] [] hB e e e e) e e
def laws_heldIntS_l1 (N : Nat) (x1 : (List Int)) : Nat → Int → Int → Option ((Int) ⊕ (Int))
 | 0,_,_ => none
 | m + 1,x205,x206 =>
 (if (decide (x206 < (x1.length : Int))) = true then
 (at? x1 x206).bind fun x236 =>
 (if (x236 != x205) = true then
 some (Sum.inl (-1 : Int))
 else
 laws_heldIntS_l1 N x1 m (w64 (x205 + 1)) (w64 (x206 + 1)))
 else
 some (Sum.inr x205))
def laws_heldIntS_l1_r (N : Nat) (x1 : (List Int)) : (List Int) → Int → Int → Option ((Int) ⊕ (Int))
 | [],x205,x206 =>
 some (Sum.inr x205)
 | hd :: tl,x205,x206 =>
 (some hd).bind fun x236 =>
 (if (x236 != x205) = true then
 some (Sum.inl (-1 : Int))
 else
 laws_heldIntS_l1_r N x1 tl (w64 (x205 + 1)) (w64 (x206 + 1)))
theorem laws_heldIntS_l1_rng (N : Nat) (x1 : (List Int)) (hx : x1.length ≤ 1099511627776) : ∀ (d k m : Nat) (x205 : Int),x1.length = k + d → d < m → laws_heldIntS_l1 N x1 m x205 (k : Int) = laws_heldIntS_l1_r N x1 (x1.drop k) x205 (k : Int) := by
 intro d
 induction d with
 | zero =>
  intro k m x205 hd hm
  obtain ⟨m,rfl⟩ : ∃ q,m = q + 1 := ⟨m - 1,by omega⟩
  rw [laws_heldIntS_l1,if_neg (by simp; omega),List.drop_eq_nil_of_le (by omega),laws_heldIntS_l1_r]
 | succ d ih =>
  intro k m x205 hd hm
  obtain ⟨m,rfl⟩ : ∃ q,m = q + 1 := ⟨m - 1,by omega⟩
  have hk : k < x1.length := by omega
  rw [laws_heldIntS_l1,if_pos (by simp; omega),List.drop_eq_getElem_cons hk,laws_heldIntS_l1_r]
  have h1 := at_lt hk
  have h2 := w64_succ (k := k) (by omega)
  have h3 := ih (k + 1) m
  simp only [h1,h2,h3 _ (by omega) (by omega)]
theorem laws_heldIntS_l1_eq {N : Nat} (x1 : (List Int)) (hx : x1.length ≤ 1099511627776) (hN : x1.length < N) (x205 : Int) : laws_heldIntS_l1 N x1 N x205 0 = laws_heldIntS_l1_r N x1 x1 x205 0 := laws_heldIntS_l1_rng N x1 hx x1.length 0 N x205 (by omega) hN
def laws_heldIntS (N : Nat) (x1 : (List Int)) (x2 : Int) : Option (Int) :=
 joinP (fun (v203 : Int) =>
 some v203) fun j203 =>
 (laws_heldIntS_l1 N x1 N x2 0).bind (Sum.elim (fun v221 => some v221) (fun (v222 : Int) => j203 v222))
theorem sem_laws_heldIntS (N : Nat) (x1 : (List Int)) (x2 : Int) (r : Int) (h : laws_heldIntS N x1 x2 = some r) : Says Tryz.prog 74 [RO 3 (x1.map encI),VI x2] 0 [] (VI r) [] := by
 unfold laws_heldIntS at h
 refine Says.of_norm e Tryz.call74 e fun B hB => ?_
 have hm : B.m ≤ 1000 := by omega
 refine Run.so hm (.p e (.nil (.seqO h (fun v203 => [(1,VI v203)]) (fun (v203 : Int) => []) (fun h => ?_) (fun v203 h => ?_))))
 ·refine Run.so hm (.p e (.nil (.block ?_)))
  obtain ⟨res222,h,hk222⟩ := bindO h
  refine Run.loop (n := N) (fun m222 fr σ => ∃ (x205 : Int),∃ (x206 : Int),laws_heldIntS_l1 N x1 m222 x205 x206 = some res222 ∧ fr = [(0,RO 3 (x1.map encI)),(1,VI x205),(5,VI x206)] ∧ σ = []) (gh_pk [0,1,5] [] hB e e e e) ⟨_,_,h,e,e⟩ ?_
  rintro m222 fr σ ⟨x205,x206,h,rfl,rfl⟩
  obtain _ | m222 := m222
  ·rw [laws_heldIntS_l1] at h; cases h
  rw [laws_heldIntS_l1] at h
  refine Run.seq (.so hm (.p2 e e (.z 9224 (Ev.lnF e) e e (.p e (.nil (.condO e h (fun g225 h => ?_) (fun g225 h => ?_)))))))
  ·refine Run.skip (.seq (.block (.seq (.so hm (.p2 e e ?_)))))
   obtain ⟨x236,hx236,h⟩ := bindO h
   refine Ops.z 17416 (Ev.iaF e e hx236) e e (.p3 e e e (.nil (.condO e h (fun g237 h => ?_) (fun g237 h => ?_))))
   ·refine Run.so hm (.p e (.nil (.ret ?_)))
    obtain rfl := someO h
    have h := hk222
    replace h := inlO h
    obtain rfl := someO h
    exact Ends.mkG (.inl e) e (gh_pk [0] [] hB e e e e) e e
   ·exact Run.skip (.ops hm (.p3 e e e (.nil (.ops hm (.p3 e e e (.nil (⟨m222,Nat.lt_succ_self m222,_,_,(gh_pk [0,1,5] [] hB e e e e),_,_,h,e,e⟩)))))))
  ·refine Run.exit ?_
   obtain rfl := someO h
   have h := hk222
   replace h := inrO h
   exact ⟨_,_,(gh_pk [1] [] hB e e e e),_,h,e,e⟩
 ·refine Run.so hm (.p2 e e (.nil (.ret ?_)))
  obtain rfl := someO h
  exact Ends.mkG (.inl e) e (gh_pk [0] [] hB e e e e) e e
def laws_heldEntryS_l1 (N : Nat) (x1 : (List Entry)) : Nat → Option (Unit)
 | 0 => none
 | m + 1 =>
 (if (decide (0 < (x1.length : Int))) = true then
 none
 else
 some ())
def laws_heldEntryS (N : Nat) (x1 : (List Entry)) (x2 : Int) : Option (Int) :=
 joinP (fun (v128 : Unit) =>
 some x2) fun j128 =>
 (laws_heldEntryS_l1 N x1 N).bind (fun v134 => j128 ())
theorem sem_laws_heldEntryS (N : Nat) (x1 : (List Entry)) (x2 : Int) (r : Int) (h : laws_heldEntryS N x1 x2 = some r) : Says Tryz.prog 75 [RO 111 (x1.map encEntry),VI x2] 0 [] (VI r) [] := by
 unfold laws_heldEntryS at h
 refine Says.of_norm e Tryz.call75 e fun B hB => ?_
 have hm : B.m ≤ 1000 := by omega
 refine Run.so hm (.p e (.nil (.seqO h (fun v128 => [(1,VI x2)]) (fun (v128 : Unit) => []) (fun h => ?_) (fun v128 h => ?_))))
 ·refine Run.so hm (.p e (.nil (.block ?_)))
  obtain ⟨res134,h,hk134⟩ := bindO h
  refine Run.loop (n := N) (fun m134 fr σ => laws_heldEntryS_l1 N x1 m134 = some res134 ∧ fr = [(0,RO 111 (x1.map encEntry)),(1,VI x2),(5,VI 0)] ∧ σ = []) (gh_pk [0,1,5] [] hB e e e e) ⟨h,e,e⟩ ?_
  rintro m134 fr σ ⟨h,rfl,rfl⟩
  obtain _ | m134 := m134
  ·rw [laws_heldEntryS_l1] at h; cases h
  rw [laws_heldEntryS_l1] at h
  refine Run.seq (.so hm (.p2 e e (.z 9224 (Ev.lnF e) e e (.p e (.nil (.condO e h (fun g137 h => ?_) (fun g137 h => ?_)))))))
  ·exact noO h
  ·refine Run.exit ?_
   obtain rfl := someO h
   have h := hk134
   exact ⟨_,_,(gh_pk [1] [] hB e e e e),(),h,e,e⟩
 ·refine Run.so hm (.p2 e e (.nil (.ret ?_)))
  obtain rfl := someO h
  exact Ends.mkG (.inl e) e (gh_pk [0] [] hB e e e e) e e
def laws_heldPeerS_l1 (N : Nat) (x1 : (List Peer)) : Nat → Option (Unit)
 | 0 => none
 | m + 1 =>
 (if (decide (0 < (x1.length : Int))) = true then
 none
 else
 some ())
def laws_heldPeerS (N : Nat) (x1 : (List Peer)) (x2 : Int) : Option (Int) :=
 joinP (fun (v128 : Unit) =>
 some x2) fun j128 =>
 (laws_heldPeerS_l1 N x1 N).bind (fun v134 => j128 ())
theorem sem_laws_heldPeerS (N : Nat) (x1 : (List Peer)) (x2 : Int) (r : Int) (h : laws_heldPeerS N x1 x2 = some r) : Says Tryz.prog 76 [RO 156 (x1.map encPeer),VI x2] 0 [] (VI r) [] := by
 unfold laws_heldPeerS at h
 refine Says.of_norm e Tryz.call76 e fun B hB => ?_
 have hm : B.m ≤ 1000 := by omega
 refine Run.so hm (.p e (.nil (.seqO h (fun v128 => [(1,VI x2)]) (fun (v128 : Unit) => []) (fun h => ?_) (fun v128 h => ?_))))
 ·refine Run.so hm (.p e (.nil (.block ?_)))
  obtain ⟨res134,h,hk134⟩ := bindO h
  refine Run.loop (n := N) (fun m134 fr σ => laws_heldPeerS_l1 N x1 m134 = some res134 ∧ fr = [(0,RO 156 (x1.map encPeer)),(1,VI x2),(5,VI 0)] ∧ σ = []) (gh_pk [0,1,5] [] hB e e e e) ⟨h,e,e⟩ ?_
  rintro m134 fr σ ⟨h,rfl,rfl⟩
  obtain _ | m134 := m134
  ·rw [laws_heldPeerS_l1] at h; cases h
  rw [laws_heldPeerS_l1] at h
  refine Run.seq (.so hm (.p2 e e (.z 9224 (Ev.lnF e) e e (.p e (.nil (.condO e h (fun g137 h => ?_) (fun g137 h => ?_)))))))
  ·exact noO h
  ·refine Run.exit ?_
   obtain rfl := someO h
   have h := hk134
   exact ⟨_,_,(gh_pk [1] [] hB e e e e),(),h,e,e⟩
 ·refine Run.so hm (.p2 e e (.nil (.ret ?_)))
  obtain rfl := someO h
  exact Ends.mkG (.inl e) e (gh_pk [0] [] hB e e e e) e e
def laws_heldFileS_l1 (N : Nat) (x1 : (List File)) : Nat → Int → Int → Option ((Int) ⊕ (Int))
 | 0,_,_ => none
 | m + 1,x373,x374 =>
 (if (decide (x374 < (x1.length : Int))) = true then
 (at? x1 x374).bind fun x449 =>
 (laws_markText N x373).bind fun y450 =>
 (if (!decide (x449.Name = y450)) = true then
 some (Sum.inl (-1 : Int))
 else
 (at? x1 x374).bind fun x459 =>
 (laws_markText N (w64 (x373 + 1))).bind fun y460 =>
 (if (!decide (x459.Text = y460)) = true then
 some (Sum.inl (-1 : Int))
 else
 laws_heldFileS_l1 N x1 m (w64 ((w64 (x373 + 1)) + 1)) (w64 (x374 + 1))))
 else
 some (Sum.inr x373))
def laws_heldFileS_l1_r (N : Nat) (x1 : (List File)) : (List File) → Int → Int → Option ((Int) ⊕ (Int))
 | [],x373,x374 =>
 some (Sum.inr x373)
 | hd :: tl,x373,x374 =>
 (some hd).bind fun x449 =>
 (laws_markText N x373).bind fun y450 =>
 (if (!decide (x449.Name = y450)) = true then
 some (Sum.inl (-1 : Int))
 else
 (some hd).bind fun x459 =>
 (laws_markText N (w64 (x373 + 1))).bind fun y460 =>
 (if (!decide (x459.Text = y460)) = true then
 some (Sum.inl (-1 : Int))
 else
 laws_heldFileS_l1_r N x1 tl (w64 ((w64 (x373 + 1)) + 1)) (w64 (x374 + 1))))
theorem laws_heldFileS_l1_rng (N : Nat) (x1 : (List File)) (hx : x1.length ≤ 1099511627776) : ∀ (d k m : Nat) (x373 : Int),x1.length = k + d → d < m → laws_heldFileS_l1 N x1 m x373 (k : Int) = laws_heldFileS_l1_r N x1 (x1.drop k) x373 (k : Int) := by
 intro d
 induction d with
 | zero =>
  intro k m x373 hd hm
  obtain ⟨m,rfl⟩ : ∃ q,m = q + 1 := ⟨m - 1,by omega⟩
  rw [laws_heldFileS_l1,if_neg (by simp; omega),List.drop_eq_nil_of_le (by omega),laws_heldFileS_l1_r]
 | succ d ih =>
  intro k m x373 hd hm
  obtain ⟨m,rfl⟩ : ∃ q,m = q + 1 := ⟨m - 1,by omega⟩
  have hk : k < x1.length := by omega
  rw [laws_heldFileS_l1,if_pos (by simp; omega),List.drop_eq_getElem_cons hk,laws_heldFileS_l1_r]
  have h1 := at_lt hk
  have h2 := w64_succ (k := k) (by omega)
  have h3 := ih (k + 1) m
  simp only [h1,h2,h3 _ (by omega) (by omega)]
theorem laws_heldFileS_l1_eq {N : Nat} (x1 : (List File)) (hx : x1.length ≤ 1099511627776) (hN : x1.length < N) (x373 : Int) : laws_heldFileS_l1 N x1 N x373 0 = laws_heldFileS_l1_r N x1 x1 x373 0 := laws_heldFileS_l1_rng N x1 hx x1.length 0 N x373 (by omega) hN
def laws_heldFileS (N : Nat) (x1 : (List File)) (x2 : Int) : Option (Int) :=
 joinP (fun (v371 : Int) =>
 some v371) fun j371 =>
 (laws_heldFileS_l1 N x1 N x2 0).bind (Sum.elim (fun v417 => some v417) (fun (v418 : Int) => j371 v418))
theorem sem_laws_heldFileS (N : Nat) (x1 : (List File)) (x2 : Int) (r : Int) (h : laws_heldFileS N x1 x2 = some r) : Says Tryz.prog 77 [RO 80 (x1.map encFile),VI x2] 0 [] (VI r) [] := by
 unfold laws_heldFileS at h
 refine Says.of_norm e Tryz.call77 e fun B hB => ?_
 have hm : B.m ≤ 1000 := by omega
 refine Run.so hm (.p e (.nil (.seqO h (fun v371 => [(1,VI v371)]) (fun (v371 : Int) => []) (fun h => ?_) (fun v371 h => ?_))))
 ·refine Run.so hm (.p e (.nil (.block ?_)))
  obtain ⟨res418,h,hk418⟩ := bindO h
  refine Run.loop (n := N) (fun m418 fr σ => ∃ (x373 : Int),∃ (x374 : Int),laws_heldFileS_l1 N x1 m418 x373 x374 = some res418 ∧ fr = [(0,RO 80 (x1.map encFile)),(1,VI x373),(5,VI x374)] ∧ σ = []) (gh_pk [0,1,5] [] hB e e e e) ⟨_,_,h,e,e⟩ ?_
  rintro m418 fr σ ⟨x373,x374,h,rfl,rfl⟩
  obtain _ | m418 := m418
  ·rw [laws_heldFileS_l1] at h; cases h
  rw [laws_heldFileS_l1] at h
  refine Run.seq (.so hm (.p2 e e (.z 9224 (Ev.lnF e) e e (.p e (.nil (.condO e h (fun g421 h => ?_) (fun g421 h => ?_)))))))
  ·refine Run.skip (.seq (.block (.seq (.seq (.draw hm hmix (.p e (.p e ?_)))))))
   obtain ⟨x449,hx449,h⟩ := bindO h
   refine OpsD.z 17416 (Ev.iaF e e hx449) e e (.p e (.p e (.p e ?_)))
   obtain ⟨y450,hy450,h⟩ := bindO h
   refine OpsD.z 17480 (Ev.call [] [] 0 (sem_laws_markText _ _ _ hy450) e e (.d1 .nil) e (.inl e) e e) e e (.p e (.nil ⟨by kernel_rfl,?_⟩))
   refine Run.condO e h (fun g451 h => ?_) (fun g451 h => ?_)
   ·refine Run.so hm (.p e (.nil (.ret ?_)))
    obtain rfl := someO h
    have h := hk418
    replace h := inlO h
    obtain rfl := someO h
    exact Ends.mkG (.inl e) e (gh_pk [0] [] hB e e e e) e e
   ·refine Run.skip (.so hm (.p3 e e e (.nil (.seq (.seq (.draw hm hmix (.p e (.p e ?_))))))))
    obtain ⟨x459,hx459,h⟩ := bindO h
    refine OpsD.z 29704 (Ev.iaF e e hx459) e e (.p e (.p e (.p e ?_)))
    obtain ⟨y460,hy460,h⟩ := bindO h
    refine OpsD.z 29768 (Ev.call [] [] 0 (sem_laws_markText _ _ _ hy460) e e (.d1 .nil) e (.inl e) e e) e e (.p e (.nil ⟨by kernel_rfl,?_⟩))
    refine Run.condO e h (fun g461 h => ?_) (fun g461 h => ?_)
    ·refine Run.so hm (.p e (.nil (.ret ?_)))
     obtain rfl := someO h
     have h := hk418
     replace h := inlO h
     obtain rfl := someO h
     exact Ends.mkG (.inl e) e (gh_pk [0] [] hB e e e e) e e
    ·exact Run.skip (.ops hm (.p3 e e e (.nil (.ops hm (.p3 e e e (.nil (⟨m418,Nat.lt_succ_self m418,_,_,(gh_pk [0,1,5] [] hB e e e e),_,_,h,e,e⟩)))))))
  ·refine Run.exit ?_
   obtain rfl := someO h
   have h := hk418
   replace h := inrO h
   exact ⟨_,_,(gh_pk [1] [] hB e e e e),_,h,e,e⟩
 ·refine Run.so hm (.p2 e e (.nil (.ret ?_)))
  obtain rfl := someO h
  exact Ends.mkG (.inl e) e (gh_pk [0] [] hB e e e e) e e
def laws_heldSpotS_l1 (N : Nat) (x1 : (List Spot)) : Nat → Option (Unit)
 | 0 => none
 | m + 1 =>
 (if (decide (0 < (x1.length : Int))) = true then
 none
 else
 some ())
def laws_heldSpotS (N : Nat) (x1 : (List Spot)) (x2 : Int) : Option (Int) :=
 joinP (fun (v128 : Unit) =>
 some x2) fun j128 =>
 (laws_heldSpotS_l1 N x1 N).bind (fun v134 => j128 ())
theorem sem_laws_heldSpotS (N : Nat) (x1 : (List Spot)) (x2 : Int) (r : Int) (h : laws_heldSpotS N x1 x2 = some r) : Says Tryz.prog 78 [RO 185 (x1.map encSpot),VI x2] 0 [] (VI r) [] := by
 unfold laws_heldSpotS at h
 refine Says.of_norm e Tryz.call78 e fun B hB => ?_
 have hm : B.m ≤ 1000 := by omega
 refine Run.so hm (.p e (.nil (.seqO h (fun v128 => [(1,VI x2)]) (fun (v128 : Unit) => []) (fun h => ?_) (fun v128 h => ?_))))
 ·refine Run.so hm (.p e (.nil (.block ?_)))
  obtain ⟨res134,h,hk134⟩ := bindO h
  refine Run.loop (n := N) (fun m134 fr σ => laws_heldSpotS_l1 N x1 m134 = some res134 ∧ fr = [(0,RO 185 (x1.map encSpot)),(1,VI x2),(5,VI 0)] ∧ σ = []) (gh_pk [0,1,5] [] hB e e e e) ⟨h,e,e⟩ ?_
  rintro m134 fr σ ⟨h,rfl,rfl⟩
  obtain _ | m134 := m134
  ·rw [laws_heldSpotS_l1] at h; cases h
  rw [laws_heldSpotS_l1] at h
  refine Run.seq (.so hm (.p2 e e (.z 9224 (Ev.lnF e) e e (.p e (.nil (.condO e h (fun g137 h => ?_) (fun g137 h => ?_)))))))
  ·exact noO h
  ·refine Run.exit ?_
   obtain rfl := someO h
   have h := hk134
   exact ⟨_,_,(gh_pk [1] [] hB e e e e),(),h,e,e⟩
 ·refine Run.so hm (.p2 e e (.nil (.ret ?_)))
  obtain rfl := someO h
  exact Ends.mkG (.inl e) e (gh_pk [0] [] hB e e e e) e e
def laws_heldServerS_l1 (N : Nat) (x1 : (List Server)) : Nat → Int → Int → Option ((Int) ⊕ (Int))
 | 0,_,_ => none
 | m + 1,x2365,x2366 =>
 (if (decide (x2366 < (x1.length : Int))) = true then
 (at? x1 x2366).bind fun x2936 =>
 (if (x2936.Node.Id != x2365) = true then
 some (Sum.inl (-1 : Int))
 else
 (at? x1 x2366).bind fun x2942 =>
 (if (x2942.Node.Term != (w64 (x2365 + 1))) = true then
 some (Sum.inl (-1 : Int))
 else
 (at? x1 x2366).bind fun x2948 =>
 (if (x2948.Node.Vote != (w64 ((w64 (x2365 + 1)) + 1))) = true then
 some (Sum.inl (-1 : Int))
 else
 (at? x1 x2366).bind fun x2954 =>
 (if (x2954.Node.Role != (w64 ((w64 ((w64 (x2365 + 1)) + 1)) + 1))) = true then
 some (Sum.inl (-1 : Int))
 else
 (at? x1 x2366).bind fun x2960 =>
 (if (x2960.Node.Lead != (w64 ((w64 ((w64 ((w64 (x2365 + 1)) + 1)) + 1)) + 1))) = true then
 some (Sum.inl (-1 : Int))
 else
 (at? x1 x2366).bind fun x2968 =>
 (laws_heldIntS N x2968.Node.Conf (w64 ((w64 ((w64 ((w64 ((w64 (x2365 + 1)) + 1)) + 1)) + 1)) + 1))).bind fun y2969 =>
 (if (decide (y2969 < 0)) = true then
 some (Sum.inl (-1 : Int))
 else
 (at? x1 x2366).bind fun x2976 =>
 (if (x2976.Node.Log.Start != y2969) = true then
 some (Sum.inl (-1 : Int))
 else
 (at? x1 x2366).bind fun x2982 =>
 (if (x2982.Node.Log.StartTerm != (w64 (y2969 + 1))) = true then
 some (Sum.inl (-1 : Int))
 else
 (at? x1 x2366).bind fun x2990 =>
 (laws_heldEntryS N x2990.Node.Log.Entries (w64 ((w64 (y2969 + 1)) + 1))).bind fun y2991 =>
 (if (decide (y2991 < 0)) = true then
 some (Sum.inl (-1 : Int))
 else
 (at? x1 x2366).bind fun x2998 =>
 (if (x2998.Node.Commit != y2991) = true then
 some (Sum.inl (-1 : Int))
 else
 (at? x1 x2366).bind fun x3004 =>
 (if (x3004.Node.Clock != (w64 (y2991 + 1))) = true then
 some (Sum.inl (-1 : Int))
 else
 (at? x1 x2366).bind fun x3010 =>
 (if (x3010.Node.Limit != (w64 ((w64 (y2991 + 1)) + 1))) = true then
 some (Sum.inl (-1 : Int))
 else
 (at? x1 x2366).bind fun x3018 =>
 (laws_heldIntS N x3018.Node.Votes (w64 ((w64 ((w64 (y2991 + 1)) + 1)) + 1))).bind fun y3019 =>
 (if (decide (y3019 < 0)) = true then
 some (Sum.inl (-1 : Int))
 else
 (at? x1 x2366).bind fun x3028 =>
 (laws_heldPeerS N x3028.Node.Peers y3019).bind fun y3029 =>
 (if (decide (y3029 < 0)) = true then
 some (Sum.inl (-1 : Int))
 else
 (at? x1 x2366).bind fun x3038 =>
 (laws_heldFileS N x3038.Disk.Files y3029).bind fun y3039 =>
 (if (decide (y3039 < 0)) = true then
 some (Sum.inl (-1 : Int))
 else
 (at? x1 x2366).bind fun x3048 =>
 (laws_heldIntS N x3048.Shelf.Man.Segs y3039).bind fun y3049 =>
 (if (decide (y3049 < 0)) = true then
 some (Sum.inl (-1 : Int))
 else
 (at? x1 x2366).bind fun x3056 =>
 (if (x3056.Shelf.Man.Next != y3049) = true then
 some (Sum.inl (-1 : Int))
 else
 (at? x1 x2366).bind fun x3062 =>
 (if (x3062.Shelf.Man.Base != (w64 (y3049 + 1))) = true then
 some (Sum.inl (-1 : Int))
 else
 (at? x1 x2366).bind fun x3068 =>
 (if (x3068.Shelf.Man.BaseTerm != (w64 ((w64 (y3049 + 1)) + 1))) = true then
 some (Sum.inl (-1 : Int))
 else
 (at? x1 x2366).bind fun x3076 =>
 (laws_heldIntS N x3076.Shelf.Man.Conf (w64 ((w64 ((w64 (y3049 + 1)) + 1)) + 1))).bind fun y3077 =>
 (if (decide (y3077 < 0)) = true then
 some (Sum.inl (-1 : Int))
 else
 (at? x1 x2366).bind fun x3086 =>
 (laws_heldSpotS N x3086.Shelf.Dir y3077).bind fun y3087 =>
 (if (decide (y3087 < 0)) = true then
 some (Sum.inl (-1 : Int))
 else
 (at? x1 x2366).bind fun x3094 =>
 (if (x3094.Shelf.Stamp != y3087) = true then
 some (Sum.inl (-1 : Int))
 else
 (at? x1 x2366).bind fun x3103 =>
 (laws_markText N (w64 (y3087 + 1))).bind fun y3104 =>
 (if (!decide (x3103.Stage = y3104)) = true then
 some (Sum.inl (-1 : Int))
 else
 (at? x1 x2366).bind fun x3110 =>
 (if (x3110.StageAt != (w64 ((w64 (y3087 + 1)) + 1))) = true then
 some (Sum.inl (-1 : Int))
 else
 (at? x1 x2366).bind fun x3116 =>
 (if (x3116.StageTerm != (w64 ((w64 ((w64 (y3087 + 1)) + 1)) + 1))) = true then
 some (Sum.inl (-1 : Int))
 else
 laws_heldServerS_l1 N x1 m (w64 ((w64 ((w64 ((w64 (y3087 + 1)) + 1)) + 1)) + 1)) (w64 (x2366 + 1)))))))))))))))))))))))))))
 else
 some (Sum.inr x2365))
def laws_heldServerS_l1_r (N : Nat) (x1 : (List Server)) : (List Server) → Int → Int → Option ((Int) ⊕ (Int))
 | [],x2365,x2366 =>
 some (Sum.inr x2365)
 | hd :: tl,x2365,x2366 =>
 (some hd).bind fun x2936 =>
 (if (x2936.Node.Id != x2365) = true then
 some (Sum.inl (-1 : Int))
 else
 (some hd).bind fun x2942 =>
 (if (x2942.Node.Term != (w64 (x2365 + 1))) = true then
 some (Sum.inl (-1 : Int))
 else
 (some hd).bind fun x2948 =>
 (if (x2948.Node.Vote != (w64 ((w64 (x2365 + 1)) + 1))) = true then
 some (Sum.inl (-1 : Int))
 else
 (some hd).bind fun x2954 =>
 (if (x2954.Node.Role != (w64 ((w64 ((w64 (x2365 + 1)) + 1)) + 1))) = true then
 some (Sum.inl (-1 : Int))
 else
 (some hd).bind fun x2960 =>
 (if (x2960.Node.Lead != (w64 ((w64 ((w64 ((w64 (x2365 + 1)) + 1)) + 1)) + 1))) = true then
 some (Sum.inl (-1 : Int))
 else
 (some hd).bind fun x2968 =>
 (laws_heldIntS N x2968.Node.Conf (w64 ((w64 ((w64 ((w64 ((w64 (x2365 + 1)) + 1)) + 1)) + 1)) + 1))).bind fun y2969 =>
 (if (decide (y2969 < 0)) = true then
 some (Sum.inl (-1 : Int))
 else
 (some hd).bind fun x2976 =>
 (if (x2976.Node.Log.Start != y2969) = true then
 some (Sum.inl (-1 : Int))
 else
 (some hd).bind fun x2982 =>
 (if (x2982.Node.Log.StartTerm != (w64 (y2969 + 1))) = true then
 some (Sum.inl (-1 : Int))
 else
 (some hd).bind fun x2990 =>
 (laws_heldEntryS N x2990.Node.Log.Entries (w64 ((w64 (y2969 + 1)) + 1))).bind fun y2991 =>
 (if (decide (y2991 < 0)) = true then
 some (Sum.inl (-1 : Int))
 else
 (some hd).bind fun x2998 =>
 (if (x2998.Node.Commit != y2991) = true then
 some (Sum.inl (-1 : Int))
 else
 (some hd).bind fun x3004 =>
 (if (x3004.Node.Clock != (w64 (y2991 + 1))) = true then
 some (Sum.inl (-1 : Int))
 else
 (some hd).bind fun x3010 =>
 (if (x3010.Node.Limit != (w64 ((w64 (y2991 + 1)) + 1))) = true then
 some (Sum.inl (-1 : Int))
 else
 (some hd).bind fun x3018 =>
 (laws_heldIntS N x3018.Node.Votes (w64 ((w64 ((w64 (y2991 + 1)) + 1)) + 1))).bind fun y3019 =>
 (if (decide (y3019 < 0)) = true then
 some (Sum.inl (-1 : Int))
 else
 (some hd).bind fun x3028 =>
 (laws_heldPeerS N x3028.Node.Peers y3019).bind fun y3029 =>
 (if (decide (y3029 < 0)) = true then
 some (Sum.inl (-1 : Int))
 else
 (some hd).bind fun x3038 =>
 (laws_heldFileS N x3038.Disk.Files y3029).bind fun y3039 =>
 (if (decide (y3039 < 0)) = true then
 some (Sum.inl (-1 : Int))
 else
 (some hd).bind fun x3048 =>
 (laws_heldIntS N x3048.Shelf.Man.Segs y3039).bind fun y3049 =>
 (if (decide (y3049 < 0)) = true then
 some (Sum.inl (-1 : Int))
 else
 (some hd).bind fun x3056 =>
 (if (x3056.Shelf.Man.Next != y3049) = true then
 some (Sum.inl (-1 : Int))
 else
 (some hd).bind fun x3062 =>
 (if (x3062.Shelf.Man.Base != (w64 (y3049 + 1))) = true then
 some (Sum.inl (-1 : Int))
 else
 (some hd).bind fun x3068 =>
 (if (x3068.Shelf.Man.BaseTerm != (w64 ((w64 (y3049 + 1)) + 1))) = true then
 some (Sum.inl (-1 : Int))
 else
 (some hd).bind fun x3076 =>
 (laws_heldIntS N x3076.Shelf.Man.Conf (w64 ((w64 ((w64 (y3049 + 1)) + 1)) + 1))).bind fun y3077 =>
 (if (decide (y3077 < 0)) = true then
 some (Sum.inl (-1 : Int))
 else
 (some hd).bind fun x3086 =>
 (laws_heldSpotS N x3086.Shelf.Dir y3077).bind fun y3087 =>
 (if (decide (y3087 < 0)) = true then
 some (Sum.inl (-1 : Int))
 else
 (some hd).bind fun x3094 =>
 (if (x3094.Shelf.Stamp != y3087) = true then
 some (Sum.inl (-1 : Int))
 else
 (some hd).bind fun x3103 =>
 (laws_markText N (w64 (y3087 + 1))).bind fun y3104 =>
 (if (!decide (x3103.Stage = y3104)) = true then
 some (Sum.inl (-1 : Int))
 else
 (some hd).bind fun x3110 =>
 (if (x3110.StageAt != (w64 ((w64 (y3087 + 1)) + 1))) = true then
 some (Sum.inl (-1 : Int))
 else
 (some hd).bind fun x3116 =>
 (if (x3116.StageTerm != (w64 ((w64 ((w64 (y3087 + 1)) + 1)) + 1))) = true then
 some (Sum.inl (-1 : Int))
 else
 laws_heldServerS_l1_r N x1 tl (w64 ((w64 ((w64 ((w64 (y3087 + 1)) + 1)) + 1)) + 1)) (w64 (x2366 + 1)))))))))))))))))))))))))))
theorem laws_heldServerS_l1_rng (N : Nat) (x1 : (List Server)) (hx : x1.length ≤ 1099511627776) : ∀ (d k m : Nat) (x2365 : Int),x1.length = k + d → d < m → laws_heldServerS_l1 N x1 m x2365 (k : Int) = laws_heldServerS_l1_r N x1 (x1.drop k) x2365 (k : Int) := by
 intro d
 induction d with
 | zero =>
  intro k m x2365 hd hm
  obtain ⟨m,rfl⟩ : ∃ q,m = q + 1 := ⟨m - 1,by omega⟩
  rw [laws_heldServerS_l1,if_neg (by simp; omega),List.drop_eq_nil_of_le (by omega),laws_heldServerS_l1_r]
 | succ d ih =>
  intro k m x2365 hd hm
  obtain ⟨m,rfl⟩ : ∃ q,m = q + 1 := ⟨m - 1,by omega⟩
  have hk : k < x1.length := by omega
  rw [laws_heldServerS_l1,if_pos (by simp; omega),List.drop_eq_getElem_cons hk,laws_heldServerS_l1_r]
  have h1 := at_lt hk
  have h2 := w64_succ (k := k) (by omega)
  have h3 := ih (k + 1) m
  simp only [h1,h2,h3 _ (by omega) (by omega)]
theorem laws_heldServerS_l1_eq {N : Nat} (x1 : (List Server)) (hx : x1.length ≤ 1099511627776) (hN : x1.length < N) (x2365 : Int) : laws_heldServerS_l1 N x1 N x2365 0 = laws_heldServerS_l1_r N x1 x1 x2365 0 := laws_heldServerS_l1_rng N x1 hx x1.length 0 N x2365 (by omega) hN
def laws_heldServerS (N : Nat) (x1 : (List Server)) (x2 : Int) : Option (Int) :=
 joinP (fun (v2363 : Int) =>
 some v2363) fun j2363 =>
 (laws_heldServerS_l1 N x1 N x2 0).bind (Sum.elim (fun v2741 => some v2741) (fun (v2742 : Int) => j2363 v2742))
theorem sem_laws_heldServerS (N : Nat) (x1 : (List Server)) (x2 : Int) (r : Int) (h : laws_heldServerS N x1 x2 = some r) : Says Tryz.prog 33 [RO 58 (x1.map (encServer false)),VI x2] 0 [] (VI r) [] := by
 unfold laws_heldServerS at h
 refine Says.of_norm e Tryz.call33 e fun B hB => ?_
 have hm : B.m ≤ 1000 := by omega
 refine Run.so hm (.p e (.nil (.seqO h (fun v2363 => [(1,VI v2363)]) (fun (v2363 : Int) => []) (fun h => ?_) (fun v2363 h => ?_))))
 ·refine Run.so hm (.p e (.nil (.block ?_)))
  obtain ⟨res2742,h,hk2742⟩ := bindO h
  refine Run.loop (n := N) (fun m2742 fr σ => ∃ (x2365 : Int),∃ (x2366 : Int),laws_heldServerS_l1 N x1 m2742 x2365 x2366 = some res2742 ∧ fr = [(0,RO 58 (x1.map (encServer false))),(1,VI x2365),(5,VI x2366)] ∧ σ = []) (gh_pk [0,1,5] [] hB e e e e) ⟨_,_,h,e,e⟩ ?_
  rintro m2742 fr σ ⟨x2365,x2366,h,rfl,rfl⟩
  obtain _ | m2742 := m2742
  ·rw [laws_heldServerS_l1] at h; cases h
  rw [laws_heldServerS_l1] at h
  refine Run.seq (.so hm (.p2 e e (.z 9224 (Ev.lnF e) e e (.p e (.nil (.condO e h (fun g2745 h => ?_) (fun g2745 h => ?_)))))))
  ·refine Run.skip (.seq (.block (.seq (.so hm (.p2 e e ?_)))))
   obtain ⟨x2936,hx2936,h⟩ := bindO h
   refine Ops.z 17416 (Ev.iaF e e hx2936) e e (.p3 e e e (.p2 e e (.nil (.condO e h (fun g2937 h => ?_) (fun g2937 h => ?_)))))
   ·refine Run.so hm (.p e (.nil (.ret ?_)))
    obtain rfl := someO h
    have h := hk2742
    replace h := inlO h
    obtain rfl := someO h
    exact Ends.mkG (.inl e) e (gh_pk [0] [] hB e e e e) e e
   ·refine Run.skip (.so hm (.p3 e e e (.nil (.seq (.so hm (.p2 e e ?_))))))
    obtain ⟨x2942,hx2942,h⟩ := bindO h
    refine Ops.z 29704 (Ev.iaF e e hx2942) e e (.p3 e e e (.p2 e e (.nil (.condO e h (fun g2943 h => ?_) (fun g2943 h => ?_)))))
    ·refine Run.so hm (.p e (.nil (.ret ?_)))
     obtain rfl := someO h
     have h := hk2742
     replace h := inlO h
     obtain rfl := someO h
     exact Ends.mkG (.inl e) e (gh_pk [0] [] hB e e e e) e e
    ·refine Run.skip (.so hm (.p3 e e e (.nil (.seq (.so hm (.p2 e e ?_))))))
     obtain ⟨x2948,hx2948,h⟩ := bindO h
     refine Ops.z 41992 (Ev.iaF e e hx2948) e e (.p3 e e e (.p2 e e (.nil (.condO e h (fun g2949 h => ?_) (fun g2949 h => ?_)))))
     ·refine Run.so hm (.p e (.nil (.ret ?_)))
      obtain rfl := someO h
      have h := hk2742
      replace h := inlO h
      obtain rfl := someO h
      exact Ends.mkG (.inl e) e (gh_pk [0] [] hB e e e e) e e
     ·refine Run.skip (.so hm (.p3 e e e (.nil (.seq (.so hm (.p2 e e ?_))))))
      obtain ⟨x2954,hx2954,h⟩ := bindO h
      refine Ops.z 54280 (Ev.iaF e e hx2954) e e (.p3 e e e (.p2 e e (.nil (.condO e h (fun g2955 h => ?_) (fun g2955 h => ?_)))))
      ·refine Run.so hm (.p e (.nil (.ret ?_)))
       obtain rfl := someO h
       have h := hk2742
       replace h := inlO h
       obtain rfl := someO h
       exact Ends.mkG (.inl e) e (gh_pk [0] [] hB e e e e) e e
      ·refine Run.skip (.so hm (.p3 e e e (.nil (.seq (.so hm (.p2 e e ?_))))))
       obtain ⟨x2960,hx2960,h⟩ := bindO h
       refine Ops.z 66568 (Ev.iaF e e hx2960) e e (.p3 e e e (.p2 e e (.nil (.condO e h (fun g2961 h => ?_) (fun g2961 h => ?_)))))
       ·refine Run.so hm (.p e (.nil (.ret ?_)))
        obtain rfl := someO h
        have h := hk2742
        replace h := inlO h
        obtain rfl := someO h
        exact Ends.mkG (.inl e) e (gh_pk [0] [] hB e e e e) e e
       ·refine Run.skip (.so hm (.p3 e e e (.nil (.so hm (.p2 e e ?_)))))
        obtain ⟨x2968,hx2968,h⟩ := bindO h
        refine Ops.z 78856 (Ev.iaF e e hx2968) e e (.p3 e e e (.p e ?_))
        obtain ⟨y2969,hy2969,h⟩ := bindO h
        refine Ops.z 78936 (Ev.call [] [] 0 (sem_laws_heldIntS _ _ _ _ hy2969) e e (.d2 .nil) e (.inl e) e e) e e (.p e (.nil (.seq (.so hm (.p2 e e (.nil (.condO e h (fun g2971 h => ?_) (fun g2971 h => ?_))))))))
        ·refine Run.so hm (.p e (.nil (.ret ?_)))
         obtain rfl := someO h
         have h := hk2742
         replace h := inlO h
         obtain rfl := someO h
         exact Ends.mkG (.inl e) e (gh_pk [0] [] hB e e e e) e e
        ·refine Run.skip (.seq (.so hm (.p2 e e ?_)))
         obtain ⟨x2976,hx2976,h⟩ := bindO h
         refine Ops.z 91144 (Ev.iaF e e hx2976) e e (.p3 e e e (.p3 e e e (.nil (.condO e h (fun g2977 h => ?_) (fun g2977 h => ?_)))))
         ·refine Run.so hm (.p e (.nil (.ret ?_)))
          obtain rfl := someO h
          have h := hk2742
          replace h := inlO h
          obtain rfl := someO h
          exact Ends.mkG (.inl e) e (gh_pk [0] [] hB e e e e) e e
         ·refine Run.skip (.so hm (.p3 e e e (.nil (.seq (.so hm (.p2 e e ?_))))))
          obtain ⟨x2982,hx2982,h⟩ := bindO h
          refine Ops.z 103432 (Ev.iaF e e hx2982) e e (.p3 e e e (.p3 e e e (.nil (.condO e h (fun g2983 h => ?_) (fun g2983 h => ?_)))))
          ·refine Run.so hm (.p e (.nil (.ret ?_)))
           obtain rfl := someO h
           have h := hk2742
           replace h := inlO h
           obtain rfl := someO h
           exact Ends.mkG (.inl e) e (gh_pk [0] [] hB e e e e) e e
          ·refine Run.skip (.so hm (.p3 e e e (.nil (.so hm (.p2 e e ?_)))))
           obtain ⟨x2990,hx2990,h⟩ := bindO h
           refine Ops.z 115720 (Ev.iaF e e hx2990) e e (.p3 e e e (.p2 e e ?_))
           obtain ⟨y2991,hy2991,h⟩ := bindO h
           refine Ops.z 115816 (Ev.call [] [] 0 (sem_laws_heldEntryS _ _ _ _ hy2991) e e (.d2 .nil) e (.inl e) e e) e e (.p e (.nil (.seq (.so hm (.p2 e e (.nil (.condO e h (fun g2993 h => ?_) (fun g2993 h => ?_))))))))
           ·refine Run.so hm (.p e (.nil (.ret ?_)))
            obtain rfl := someO h
            have h := hk2742
            replace h := inlO h
            obtain rfl := someO h
            exact Ends.mkG (.inl e) e (gh_pk [0] [] hB e e e e) e e
           ·refine Run.skip (.seq (.so hm (.p2 e e ?_)))
            obtain ⟨x2998,hx2998,h⟩ := bindO h
            refine Ops.z 128008 (Ev.iaF e e hx2998) e e (.p3 e e e (.p2 e e (.nil (.condO e h (fun g2999 h => ?_) (fun g2999 h => ?_)))))
            ·refine Run.so hm (.p e (.nil (.ret ?_)))
             obtain rfl := someO h
             have h := hk2742
             replace h := inlO h
             obtain rfl := someO h
             exact Ends.mkG (.inl e) e (gh_pk [0] [] hB e e e e) e e
            ·refine Run.skip (.so hm (.p3 e e e (.nil (.seq (.so hm (.p2 e e ?_))))))
             obtain ⟨x3004,hx3004,h⟩ := bindO h
             refine Ops.z 140296 (Ev.iaF e e hx3004) e e (.p3 e e e (.p2 e e (.nil (.condO e h (fun g3005 h => ?_) (fun g3005 h => ?_)))))
             ·refine Run.so hm (.p e (.nil (.ret ?_)))
              obtain rfl := someO h
              have h := hk2742
              replace h := inlO h
              obtain rfl := someO h
              exact Ends.mkG (.inl e) e (gh_pk [0] [] hB e e e e) e e
             ·refine Run.skip (.so hm (.p3 e e e (.nil (.seq (.so hm (.p2 e e ?_))))))
              obtain ⟨x3010,hx3010,h⟩ := bindO h
              refine Ops.z 152584 (Ev.iaF e e hx3010) e e (.p3 e e e (.p2 e e (.nil (.condO e h (fun g3011 h => ?_) (fun g3011 h => ?_)))))
              ·refine Run.so hm (.p e (.nil (.ret ?_)))
               obtain rfl := someO h
               have h := hk2742
               replace h := inlO h
               obtain rfl := someO h
               exact Ends.mkG (.inl e) e (gh_pk [0] [] hB e e e e) e e
              ·refine Run.skip (.so hm (.p3 e e e (.nil (.so hm (.p2 e e ?_)))))
               obtain ⟨x3018,hx3018,h⟩ := bindO h
               refine Ops.z 164872 (Ev.iaF e e hx3018) e e (.p3 e e e (.p e ?_))
               obtain ⟨y3019,hy3019,h⟩ := bindO h
               refine Ops.z 164952 (Ev.call [] [] 0 (sem_laws_heldIntS _ _ _ _ hy3019) e e (.d2 .nil) e (.inl e) e e) e e (.p e (.nil (.seq (.so hm (.p2 e e (.nil (.condO e h (fun g3021 h => ?_) (fun g3021 h => ?_))))))))
               ·refine Run.so hm (.p e (.nil (.ret ?_)))
                obtain rfl := someO h
                have h := hk2742
                replace h := inlO h
                obtain rfl := someO h
                exact Ends.mkG (.inl e) e (gh_pk [0] [] hB e e e e) e e
               ·refine Run.skip (.so hm (.p2 e e ?_))
                obtain ⟨x3028,hx3028,h⟩ := bindO h
                refine Ops.z 177160 (Ev.iaF e e hx3028) e e (.p3 e e e (.p e ?_))
                obtain ⟨y3029,hy3029,h⟩ := bindO h
                refine Ops.z 177240 (Ev.call [] [] 0 (sem_laws_heldPeerS _ _ _ _ hy3029) e e (.d2 .nil) e (.inl e) e e) e e (.p e (.nil (.seq (.so hm (.p2 e e (.nil (.condO e h (fun g3031 h => ?_) (fun g3031 h => ?_))))))))
                ·refine Run.so hm (.p e (.nil (.ret ?_)))
                 obtain rfl := someO h
                 have h := hk2742
                 replace h := inlO h
                 obtain rfl := someO h
                 exact Ends.mkG (.inl e) e (gh_pk [0] [] hB e e e e) e e
                ·refine Run.skip (.so hm (.p2 e e ?_))
                 obtain ⟨x3038,hx3038,h⟩ := bindO h
                 refine Ops.z 189448 (Ev.iaF e e hx3038) e e (.p3 e e e (.p e ?_))
                 obtain ⟨y3039,hy3039,h⟩ := bindO h
                 refine Ops.z 189528 (Ev.call [] [] 0 (sem_laws_heldFileS _ _ _ _ hy3039) e e (.d2 .nil) e (.inl e) e e) e e (.p e (.nil (.seq (.so hm (.p2 e e (.nil (.condO e h (fun g3041 h => ?_) (fun g3041 h => ?_))))))))
                 ·refine Run.so hm (.p e (.nil (.ret ?_)))
                  obtain rfl := someO h
                  have h := hk2742
                  replace h := inlO h
                  obtain rfl := someO h
                  exact Ends.mkG (.inl e) e (gh_pk [0] [] hB e e e e) e e
                 ·refine Run.skip (.so hm (.p2 e e ?_))
                  obtain ⟨x3048,hx3048,h⟩ := bindO h
                  refine Ops.z 201736 (Ev.iaF e e hx3048) e e (.p3 e e e (.p2 e e ?_))
                  obtain ⟨y3049,hy3049,h⟩ := bindO h
                  refine Ops.z 201832 (Ev.call [] [] 0 (sem_laws_heldIntS _ _ _ _ hy3049) e e (.d2 .nil) e (.inl e) e e) e e (.p e (.nil (.seq (.so hm (.p2 e e (.nil (.condO e h (fun g3051 h => ?_) (fun g3051 h => ?_))))))))
                  ·refine Run.so hm (.p e (.nil (.ret ?_)))
                   obtain rfl := someO h
                   have h := hk2742
                   replace h := inlO h
                   obtain rfl := someO h
                   exact Ends.mkG (.inl e) e (gh_pk [0] [] hB e e e e) e e
                  ·refine Run.skip (.seq (.so hm (.p2 e e ?_)))
                   obtain ⟨x3056,hx3056,h⟩ := bindO h
                   refine Ops.z 214024 (Ev.iaF e e hx3056) e e (.p3 e e e (.p3 e e e (.nil (.condO e h (fun g3057 h => ?_) (fun g3057 h => ?_)))))
                   ·refine Run.so hm (.p e (.nil (.ret ?_)))
                    obtain rfl := someO h
                    have h := hk2742
                    replace h := inlO h
                    obtain rfl := someO h
                    exact Ends.mkG (.inl e) e (gh_pk [0] [] hB e e e e) e e
                   ·refine Run.skip (.so hm (.p3 e e e (.nil (.seq (.so hm (.p2 e e ?_))))))
                    obtain ⟨x3062,hx3062,h⟩ := bindO h
                    refine Ops.z 226312 (Ev.iaF e e hx3062) e e (.p3 e e e (.p3 e e e (.nil (.condO e h (fun g3063 h => ?_) (fun g3063 h => ?_)))))
                    ·refine Run.so hm (.p e (.nil (.ret ?_)))
                     obtain rfl := someO h
                     have h := hk2742
                     replace h := inlO h
                     obtain rfl := someO h
                     exact Ends.mkG (.inl e) e (gh_pk [0] [] hB e e e e) e e
                    ·refine Run.skip (.so hm (.p3 e e e (.nil (.seq (.so hm (.p2 e e ?_))))))
                     obtain ⟨x3068,hx3068,h⟩ := bindO h
                     refine Ops.z 238600 (Ev.iaF e e hx3068) e e (.p3 e e e (.p3 e e e (.nil (.condO e h (fun g3069 h => ?_) (fun g3069 h => ?_)))))
                     ·refine Run.so hm (.p e (.nil (.ret ?_)))
                      obtain rfl := someO h
                      have h := hk2742
                      replace h := inlO h
                      obtain rfl := someO h
                      exact Ends.mkG (.inl e) e (gh_pk [0] [] hB e e e e) e e
                     ·refine Run.skip (.so hm (.p3 e e e (.nil (.so hm (.p2 e e ?_)))))
                      obtain ⟨x3076,hx3076,h⟩ := bindO h
                      refine Ops.z 250888 (Ev.iaF e e hx3076) e e (.p3 e e e (.p2 e e ?_))
                      obtain ⟨y3077,hy3077,h⟩ := bindO h
                      refine Ops.z 250984 (Ev.call [] [] 0 (sem_laws_heldIntS _ _ _ _ hy3077) e e (.d2 .nil) e (.inl e) e e) e e (.p e (.nil (.seq (.so hm (.p2 e e (.nil (.condO e h (fun g3079 h => ?_) (fun g3079 h => ?_))))))))
                      ·refine Run.so hm (.p e (.nil (.ret ?_)))
                       obtain rfl := someO h
                       have h := hk2742
                       replace h := inlO h
                       obtain rfl := someO h
                       exact Ends.mkG (.inl e) e (gh_pk [0] [] hB e e e e) e e
                      ·refine Run.skip (.so hm (.p2 e e ?_))
                       obtain ⟨x3086,hx3086,h⟩ := bindO h
                       refine Ops.z 263176 (Ev.iaF e e hx3086) e e (.p3 e e e (.p e ?_))
                       obtain ⟨y3087,hy3087,h⟩ := bindO h
                       refine Ops.z 263256 (Ev.call [] [] 0 (sem_laws_heldSpotS _ _ _ _ hy3087) e e (.d2 .nil) e (.inl e) e e) e e (.p e (.nil (.seq (.so hm (.p2 e e (.nil (.condO e h (fun g3089 h => ?_) (fun g3089 h => ?_))))))))
                       ·refine Run.so hm (.p e (.nil (.ret ?_)))
                        obtain rfl := someO h
                        have h := hk2742
                        replace h := inlO h
                        obtain rfl := someO h
                        exact Ends.mkG (.inl e) e (gh_pk [0] [] hB e e e e) e e
                       ·refine Run.skip (.seq (.so hm (.p2 e e ?_)))
                        obtain ⟨x3094,hx3094,h⟩ := bindO h
                        refine Ops.z 275464 (Ev.iaF e e hx3094) e e (.p3 e e e (.p2 e e (.nil (.condO e h (fun g3095 h => ?_) (fun g3095 h => ?_)))))
                        ·refine Run.so hm (.p e (.nil (.ret ?_)))
                         obtain rfl := someO h
                         have h := hk2742
                         replace h := inlO h
                         obtain rfl := someO h
                         exact Ends.mkG (.inl e) e (gh_pk [0] [] hB e e e e) e e
                        ·refine Run.skip (.so hm (.p3 e e e (.nil (.seq (.seq (.draw hm hmix (.p e (.p e ?_))))))))
                         obtain ⟨x3103,hx3103,h⟩ := bindO h
                         refine OpsD.z 287752 (Ev.iaF e e hx3103) e e (.p e (.p e (.p e ?_)))
                         obtain ⟨y3104,hy3104,h⟩ := bindO h
                         refine OpsD.z 287816 (Ev.call [] [] 0 (sem_laws_markText _ _ _ hy3104) e e (.d1 .nil) e (.inl e) e e) e e (.p e (.nil ⟨by kernel_rfl,?_⟩))
                         refine Run.condO e h (fun g3105 h => ?_) (fun g3105 h => ?_)
                         ·refine Run.so hm (.p e (.nil (.ret ?_)))
                          obtain rfl := someO h
                          have h := hk2742
                          replace h := inlO h
                          obtain rfl := someO h
                          exact Ends.mkG (.inl e) e (gh_pk [0] [] hB e e e e) e e
                         ·refine Run.skip (.so hm (.p3 e e e (.nil (.seq (.so hm (.p2 e e ?_))))))
                          obtain ⟨x3110,hx3110,h⟩ := bindO h
                          refine Ops.z 300040 (Ev.iaF e e hx3110) e e (.p3 e e e (.p e (.nil (.condO e h (fun g3111 h => ?_) (fun g3111 h => ?_)))))
                          ·refine Run.so hm (.p e (.nil (.ret ?_)))
                           obtain rfl := someO h
                           have h := hk2742
                           replace h := inlO h
                           obtain rfl := someO h
                           exact Ends.mkG (.inl e) e (gh_pk [0] [] hB e e e e) e e
                          ·refine Run.skip (.so hm (.p3 e e e (.nil (.seq (.so hm (.p2 e e ?_))))))
                           obtain ⟨x3116,hx3116,h⟩ := bindO h
                           refine Ops.z 312328 (Ev.iaF e e hx3116) e e (.p3 e e e (.p e (.nil (.condO e h (fun g3117 h => ?_) (fun g3117 h => ?_)))))
                           ·refine Run.so hm (.p e (.nil (.ret ?_)))
                            obtain rfl := someO h
                            have h := hk2742
                            replace h := inlO h
                            obtain rfl := someO h
                            exact Ends.mkG (.inl e) e (gh_pk [0] [] hB e e e e) e e
                           ·exact Run.skip (.ops hm (.p3 e e e (.nil (.ops hm (.p3 e e e (.nil (⟨m2742,Nat.lt_succ_self m2742,_,_,(gh_pk [0,1,5] [] hB e e e e),_,_,h,e,e⟩)))))))
  ·refine Run.exit ?_
   obtain rfl := someO h
   have h := hk2742
   replace h := inrO h
   exact ⟨_,_,(gh_pk [1] [] hB e e e e),_,h,e,e⟩
 ·refine Run.so hm (.p2 e e (.nil (.ret ?_)))
  obtain rfl := someO h
  exact Ends.mkG (.inl e) e (gh_pk [0] [] hB e e e e) e e
def laws_heldMessageS_l1 (N : Nat) (x1 : (List Message)) : Nat → Option (Unit)
 | 0 => none
 | m + 1 =>
 (if (decide (0 < (x1.length : Int))) = true then
 none
 else
 some ())
def laws_heldMessageS (N : Nat) (x1 : (List Message)) (x2 : Int) : Option (Int) :=
 joinP (fun (v128 : Unit) =>
 some x2) fun j128 =>
 (laws_heldMessageS_l1 N x1 N).bind (fun v134 => j128 ())
theorem sem_laws_heldMessageS (N : Nat) (x1 : (List Message)) (x2 : Int) (r : Int) (h : laws_heldMessageS N x1 x2 = some r) : Says Tryz.prog 34 [RO 102 (x1.map (encMessage false)),VI x2] 0 [] (VI r) [] := by
 unfold laws_heldMessageS at h
 refine Says.of_norm e Tryz.call34 e fun B hB => ?_
 have hm : B.m ≤ 1000 := by omega
 refine Run.so hm (.p e (.nil (.seqO h (fun v128 => [(1,VI x2)]) (fun (v128 : Unit) => []) (fun h => ?_) (fun v128 h => ?_))))
 ·refine Run.so hm (.p e (.nil (.block ?_)))
  obtain ⟨res134,h,hk134⟩ := bindO h
  refine Run.loop (n := N) (fun m134 fr σ => laws_heldMessageS_l1 N x1 m134 = some res134 ∧ fr = [(0,RO 102 (x1.map (encMessage false))),(1,VI x2),(5,VI 0)] ∧ σ = []) (gh_pk [0,1,5] [] hB e e e e) ⟨h,e,e⟩ ?_
  rintro m134 fr σ ⟨h,rfl,rfl⟩
  obtain _ | m134 := m134
  ·rw [laws_heldMessageS_l1] at h; cases h
  rw [laws_heldMessageS_l1] at h
  refine Run.seq (.so hm (.p2 e e (.z 9224 (Ev.lnF e) e e (.p e (.nil (.condO e h (fun g137 h => ?_) (fun g137 h => ?_)))))))
  ·exact noO h
  ·refine Run.exit ?_
   obtain rfl := someO h
   have h := hk134
   exact ⟨_,_,(gh_pk [1] [] hB e e e e),(),h,e,e⟩
 ·refine Run.so hm (.p2 e e (.nil (.ret ?_)))
  obtain rfl := someO h
  exact Ends.mkG (.inl e) e (gh_pk [0] [] hB e e e e) e e
def laws_heldWaitS_l1 (N : Nat) (x1 : (List Wait)) : Nat → Option (Unit)
 | 0 => none
 | m + 1 =>
 (if (decide (0 < (x1.length : Int))) = true then
 none
 else
 some ())
def laws_heldWaitS (N : Nat) (x1 : (List Wait)) (x2 : Int) : Option (Int) :=
 joinP (fun (v128 : Unit) =>
 some x2) fun j128 =>
 (laws_heldWaitS_l1 N x1 N).bind (fun v134 => j128 ())
theorem sem_laws_heldWaitS (N : Nat) (x1 : (List Wait)) (x2 : Int) (r : Int) (h : laws_heldWaitS N x1 x2 = some r) : Says Tryz.prog 35 [RO 105 (x1.map encWait),VI x2] 0 [] (VI r) [] := by
 unfold laws_heldWaitS at h
 refine Says.of_norm e Tryz.call35 e fun B hB => ?_
 have hm : B.m ≤ 1000 := by omega
 refine Run.so hm (.p e (.nil (.seqO h (fun v128 => [(1,VI x2)]) (fun (v128 : Unit) => []) (fun h => ?_) (fun v128 h => ?_))))
 ·refine Run.so hm (.p e (.nil (.block ?_)))
  obtain ⟨res134,h,hk134⟩ := bindO h
  refine Run.loop (n := N) (fun m134 fr σ => laws_heldWaitS_l1 N x1 m134 = some res134 ∧ fr = [(0,RO 105 (x1.map encWait)),(1,VI x2),(5,VI 0)] ∧ σ = []) (gh_pk [0,1,5] [] hB e e e e) ⟨h,e,e⟩ ?_
  rintro m134 fr σ ⟨h,rfl,rfl⟩
  obtain _ | m134 := m134
  ·rw [laws_heldWaitS_l1] at h; cases h
  rw [laws_heldWaitS_l1] at h
  refine Run.seq (.so hm (.p2 e e (.z 9224 (Ev.lnF e) e e (.p e (.nil (.condO e h (fun g137 h => ?_) (fun g137 h => ?_)))))))
  ·exact noO h
  ·refine Run.exit ?_
   obtain rfl := someO h
   have h := hk134
   exact ⟨_,_,(gh_pk [1] [] hB e e e e),(),h,e,e⟩
 ·refine Run.so hm (.p2 e e (.nil (.ret ?_)))
  obtain rfl := someO h
  exact Ends.mkG (.inl e) e (gh_pk [0] [] hB e e e e) e e
def laws_heldLeaderS_l1 (N : Nat) (x1 : (List Leader)) : Nat → Option (Unit)
 | 0 => none
 | m + 1 =>
 (if (decide (0 < (x1.length : Int))) = true then
 none
 else
 some ())
def laws_heldLeaderS (N : Nat) (x1 : (List Leader)) (x2 : Int) : Option (Int) :=
 joinP (fun (v128 : Unit) =>
 some x2) fun j128 =>
 (laws_heldLeaderS_l1 N x1 N).bind (fun v134 => j128 ())
theorem sem_laws_heldLeaderS (N : Nat) (x1 : (List Leader)) (x2 : Int) (r : Int) (h : laws_heldLeaderS N x1 x2 = some r) : Says Tryz.prog 36 [RO 108 (x1.map (encLeader false)),VI x2] 0 [] (VI r) [] := by
 unfold laws_heldLeaderS at h
 refine Says.of_norm e Tryz.call36 e fun B hB => ?_
 have hm : B.m ≤ 1000 := by omega
 refine Run.so hm (.p e (.nil (.seqO h (fun v128 => [(1,VI x2)]) (fun (v128 : Unit) => []) (fun h => ?_) (fun v128 h => ?_))))
 ·refine Run.so hm (.p e (.nil (.block ?_)))
  obtain ⟨res134,h,hk134⟩ := bindO h
  refine Run.loop (n := N) (fun m134 fr σ => laws_heldLeaderS_l1 N x1 m134 = some res134 ∧ fr = [(0,RO 108 (x1.map (encLeader false))),(1,VI x2),(5,VI 0)] ∧ σ = []) (gh_pk [0,1,5] [] hB e e e e) ⟨h,e,e⟩ ?_
  rintro m134 fr σ ⟨h,rfl,rfl⟩
  obtain _ | m134 := m134
  ·rw [laws_heldLeaderS_l1] at h; cases h
  rw [laws_heldLeaderS_l1] at h
  refine Run.seq (.so hm (.p2 e e (.z 9224 (Ev.lnF e) e e (.p e (.nil (.condO e h (fun g137 h => ?_) (fun g137 h => ?_)))))))
  ·exact noO h
  ·refine Run.exit ?_
   obtain rfl := someO h
   have h := hk134
   exact ⟨_,_,(gh_pk [1] [] hB e e e e),(),h,e,e⟩
 ·refine Run.so hm (.p2 e e (.nil (.ret ?_)))
  obtain rfl := someO h
  exact Ends.mkG (.inl e) e (gh_pk [0] [] hB e e e e) e e
def laws_heldAppliedS_l1 (N : Nat) (x1 : (List Applied)) : Nat → Option (Unit)
 | 0 => none
 | m + 1 =>
 (if (decide (0 < (x1.length : Int))) = true then
 none
 else
 some ())
def laws_heldAppliedS (N : Nat) (x1 : (List Applied)) (x2 : Int) : Option (Int) :=
 joinP (fun (v128 : Unit) =>
 some x2) fun j128 =>
 (laws_heldAppliedS_l1 N x1 N).bind (fun v134 => j128 ())
theorem sem_laws_heldAppliedS (N : Nat) (x1 : (List Applied)) (x2 : Int) (r : Int) (h : laws_heldAppliedS N x1 x2 = some r) : Says Tryz.prog 37 [RO 113 (x1.map encApplied),VI x2] 0 [] (VI r) [] := by
 unfold laws_heldAppliedS at h
 refine Says.of_norm e Tryz.call37 e fun B hB => ?_
 have hm : B.m ≤ 1000 := by omega
 refine Run.so hm (.p e (.nil (.seqO h (fun v128 => [(1,VI x2)]) (fun (v128 : Unit) => []) (fun h => ?_) (fun v128 h => ?_))))
 ·refine Run.so hm (.p e (.nil (.block ?_)))
  obtain ⟨res134,h,hk134⟩ := bindO h
  refine Run.loop (n := N) (fun m134 fr σ => laws_heldAppliedS_l1 N x1 m134 = some res134 ∧ fr = [(0,RO 113 (x1.map encApplied)),(1,VI x2),(5,VI 0)] ∧ σ = []) (gh_pk [0,1,5] [] hB e e e e) ⟨h,e,e⟩ ?_
  rintro m134 fr σ ⟨h,rfl,rfl⟩
  obtain _ | m134 := m134
  ·rw [laws_heldAppliedS_l1] at h; cases h
  rw [laws_heldAppliedS_l1] at h
  refine Run.seq (.so hm (.p2 e e (.z 9224 (Ev.lnF e) e e (.p e (.nil (.condO e h (fun g137 h => ?_) (fun g137 h => ?_)))))))
  ·exact noO h
  ·refine Run.exit ?_
   obtain rfl := someO h
   have h := hk134
   exact ⟨_,_,(gh_pk [1] [] hB e e e e),(),h,e,e⟩
 ·refine Run.so hm (.p2 e e (.nil (.ret ?_)))
  obtain rfl := someO h
  exact Ends.mkG (.inl e) e (gh_pk [0] [] hB e e e e) e e
def laws_heldReplyS_l1 (N : Nat) (x1 : (List Reply)) : Nat → Option (Unit)
 | 0 => none
 | m + 1 =>
 (if (decide (0 < (x1.length : Int))) = true then
 none
 else
 some ())
def laws_heldReplyS (N : Nat) (x1 : (List Reply)) (x2 : Int) : Option (Int) :=
 joinP (fun (v128 : Unit) =>
 some x2) fun j128 =>
 (laws_heldReplyS_l1 N x1 N).bind (fun v134 => j128 ())
theorem sem_laws_heldReplyS (N : Nat) (x1 : (List Reply)) (x2 : Int) (r : Int) (h : laws_heldReplyS N x1 x2 = some r) : Says Tryz.prog 38 [RO 118 (x1.map encReply),VI x2] 0 [] (VI r) [] := by
 unfold laws_heldReplyS at h
 refine Says.of_norm e Tryz.call38 e fun B hB => ?_
 have hm : B.m ≤ 1000 := by omega
 refine Run.so hm (.p e (.nil (.seqO h (fun v128 => [(1,VI x2)]) (fun (v128 : Unit) => []) (fun h => ?_) (fun v128 h => ?_))))
 ·refine Run.so hm (.p e (.nil (.block ?_)))
  obtain ⟨res134,h,hk134⟩ := bindO h
  refine Run.loop (n := N) (fun m134 fr σ => laws_heldReplyS_l1 N x1 m134 = some res134 ∧ fr = [(0,RO 118 (x1.map encReply)),(1,VI x2),(5,VI 0)] ∧ σ = []) (gh_pk [0,1,5] [] hB e e e e) ⟨h,e,e⟩ ?_
  rintro m134 fr σ ⟨h,rfl,rfl⟩
  obtain _ | m134 := m134
  ·rw [laws_heldReplyS_l1] at h; cases h
  rw [laws_heldReplyS_l1] at h
  refine Run.seq (.so hm (.p2 e e (.z 9224 (Ev.lnF e) e e (.p e (.nil (.condO e h (fun g137 h => ?_) (fun g137 h => ?_)))))))
  ·exact noO h
  ·refine Run.exit ?_
   obtain rfl := someO h
   have h := hk134
   exact ⟨_,_,(gh_pk [1] [] hB e e e e),(),h,e,e⟩
 ·refine Run.so hm (.p2 e e (.nil (.ret ?_)))
  obtain rfl := someO h
  exact Ends.mkG (.inl e) e (gh_pk [0] [] hB e e e e) e e
def laws_heldWorld (N : Nat) (x1 : World) (x2 : Int) : Option (Int) :=
 (laws_heldBoolS N x1.Up x2).bind fun y145 =>
 (if (decide (y145 < 0)) = true then
 some (-1 : Int)
 else
 (laws_heldServerS N x1.Servers y145).bind fun y151 =>
 (if (decide (y151 < 0)) = true then
 some (-1 : Int)
 else
 (laws_heldMessageS N x1.Net y151).bind fun y157 =>
 (if (decide (y157 < 0)) = true then
 some (-1 : Int)
 else
 (laws_heldWaitS N x1.Waits y157).bind fun y163 =>
 (if (decide (y163 < 0)) = true then
 some (-1 : Int)
 else
 (laws_heldLeaderS N x1.Leaders y163).bind fun y169 =>
 (if (decide (y169 < 0)) = true then
 some (-1 : Int)
 else
 (laws_heldAppliedS N x1.Applied y169).bind fun y175 =>
 (if (decide (y175 < 0)) = true then
 some (-1 : Int)
 else
 (laws_heldReplyS N x1.Replies y175).bind fun y181 =>
 (if (decide (y181 < 0)) = true then
 some (-1 : Int)
 else
 some y181)))))))
theorem sem_laws_heldWorld (N : Nat) (x1 : World) (x2 : Int) (r : Int) (h : laws_heldWorld N x1 x2 = some r) : Says Tryz.prog 11 [.agg [RO 4 (x1.Up.map encB),RO 58 (x1.Servers.map (encServer false)),RO 102 (x1.Net.map (encMessage false)),RO 105 (x1.Waits.map encWait),RO 108 (x1.Leaders.map (encLeader false)),RO 113 (x1.Applied.map encApplied),RO 118 (x1.Replies.map encReply)],VI x2] 0 [] (VI r) [] := by
 unfold laws_heldWorld at h
 refine Says.of_norm e Tryz.call11 e fun B hB => ?_
 have hm : B.m ≤ 1000 := by omega
 refine Run.so hm (.z 1000 (.bx e e) e e (.p e (.nil (.so hm (.p3 e e e ?_)))))
 obtain ⟨y145,hy145,h⟩ := bindO h
 refine Ops.z 5144 (Ev.call [] [] 0 (sem_laws_heldBoolS _ _ _ _ hy145) e e (.d2 .nil) e (.inl e) e e) e e (.p e (.nil (.seq (.so hm (.p2 e e (.nil (.condO e h (fun g147 h => ?_) (fun g147 h => ?_))))))))
 ·refine Run.so hm (.p e (.nil (.ret ?_)))
  obtain rfl := someO h
  exact Ends.mkG (.inl e) e (gh_pk [0] [] hB e e e e) e e
 ·refine Run.skip (.so hm (.p3 e e e ?_))
  obtain ⟨y151,hy151,h⟩ := bindO h
  refine Ops.z 17432 (Ev.call [] [] 0 (sem_laws_heldServerS _ _ _ _ hy151) e e (.d2 .nil) e (.inl e) e e) e e (.p e (.nil (.seq (.so hm (.p2 e e (.nil (.condO e h (fun g153 h => ?_) (fun g153 h => ?_))))))))
  ·refine Run.so hm (.p e (.nil (.ret ?_)))
   obtain rfl := someO h
   exact Ends.mkG (.inl e) e (gh_pk [0] [] hB e e e e) e e
  ·refine Run.skip (.so hm (.p3 e e e ?_))
   obtain ⟨y157,hy157,h⟩ := bindO h
   refine Ops.z 29720 (Ev.call [] [] 0 (sem_laws_heldMessageS _ _ _ _ hy157) e e (.d2 .nil) e (.inl e) e e) e e (.p e (.nil (.seq (.so hm (.p2 e e (.nil (.condO e h (fun g159 h => ?_) (fun g159 h => ?_))))))))
   ·refine Run.so hm (.p e (.nil (.ret ?_)))
    obtain rfl := someO h
    exact Ends.mkG (.inl e) e (gh_pk [0] [] hB e e e e) e e
   ·refine Run.skip (.so hm (.p3 e e e ?_))
    obtain ⟨y163,hy163,h⟩ := bindO h
    refine Ops.z 42008 (Ev.call [] [] 0 (sem_laws_heldWaitS _ _ _ _ hy163) e e (.d2 .nil) e (.inl e) e e) e e (.p e (.nil (.seq (.so hm (.p2 e e (.nil (.condO e h (fun g165 h => ?_) (fun g165 h => ?_))))))))
    ·refine Run.so hm (.p e (.nil (.ret ?_)))
     obtain rfl := someO h
     exact Ends.mkG (.inl e) e (gh_pk [0] [] hB e e e e) e e
    ·refine Run.skip (.so hm (.p3 e e e ?_))
     obtain ⟨y169,hy169,h⟩ := bindO h
     refine Ops.z 54296 (Ev.call [] [] 0 (sem_laws_heldLeaderS _ _ _ _ hy169) e e (.d2 .nil) e (.inl e) e e) e e (.p e (.nil (.seq (.so hm (.p2 e e (.nil (.condO e h (fun g171 h => ?_) (fun g171 h => ?_))))))))
     ·refine Run.so hm (.p e (.nil (.ret ?_)))
      obtain rfl := someO h
      exact Ends.mkG (.inl e) e (gh_pk [0] [] hB e e e e) e e
     ·refine Run.skip (.so hm (.p3 e e e ?_))
      obtain ⟨y175,hy175,h⟩ := bindO h
      refine Ops.z 66584 (Ev.call [] [] 0 (sem_laws_heldAppliedS _ _ _ _ hy175) e e (.d2 .nil) e (.inl e) e e) e e (.p e (.nil (.seq (.so hm (.p2 e e (.nil (.condO e h (fun g177 h => ?_) (fun g177 h => ?_))))))))
      ·refine Run.so hm (.p e (.nil (.ret ?_)))
       obtain rfl := someO h
       exact Ends.mkG (.inl e) e (gh_pk [0] [] hB e e e e) e e
      ·refine Run.skip (.so hm (.p3 e e e ?_))
       obtain ⟨y181,hy181,h⟩ := bindO h
       refine Ops.z 78872 (Ev.call [] [] 0 (sem_laws_heldReplyS _ _ _ _ hy181) e e (.d2 .nil) e (.inl e) e e) e e (.p e (.nil (.seq (.so hm (.p2 e e (.nil (.condO e h (fun g183 h => ?_) (fun g183 h => ?_))))))))
       ·refine Run.so hm (.p e (.nil (.ret ?_)))
        obtain rfl := someO h
        exact Ends.mkG (.inl e) e (gh_pk [0] [] hB e e e e) e e
       ·refine Run.skip (.so hm (.p2 e e (.nil (.ret ?_))))
        obtain rfl := someO h
        exact Ends.mkG (.inl e) e (gh_pk [0] [] hB e e e e) e e
def laws_FnExactWorldNew (N : Nat) (x1 : Int) (x2 : (List Int)) : Option (Bool) :=
 (if (decide ((x2.length : Int) > 1048576)) = true then
 some true
 else
 (laws_toIntS N x2).bind fun y211 =>
 (spec_WorldNew N x1 y211).bind fun y212 =>
 (laws_toIntS N x2).bind fun y216 =>
 (impl_WorldNew N x1 y216).bind fun y220 =>
 (laws_eqWorld N y220.1 y212.1).bind fun y228 =>
 (if (!y228) = true then
 some false
 else
 (if ((y220.2 == y212.2) ^^ true) = true then
 some false
 else
 (laws_toIntS N x2).bind fun y238 =>
 (laws_eqIntS N y216 y238).bind fun y239 =>
 (if (!y239) = true then
 some false
 else
 (laws_markIntS N y216 1).bind fun y247 =>
 (len? y216 y247.2).bind fun y248 =>
 (if (decide (y247.1 < 0)) = true then
 some false
 else
 (laws_eqWorld N y220.1 y212.1).bind fun y259 =>
 (if (!y259) = true then
 some false
 else
 (laws_markWorld N y220.1 1).bind fun y270 =>
 (len? y220.1.Up y270.2.1).bind fun y271 =>
 (len? y220.1.Servers y270.2.2).bind fun y272 =>
 (laws_heldWorld N (World.mk y270.2.1 y270.2.2 y220.1.Net y220.1.Waits y220.1.Leaders y220.1.Applied y220.1.Replies) 1).bind fun y276 =>
 (if (decide (y276 < 0)) = true then
 some false
 else
 (if (y276 != y270.1) = true then
 some false
 else
 (laws_toIntS N x2).bind fun y287 =>
 (impl_WorldNew N x1 y287).bind fun y288 =>
 (laws_eqWorld N y288.1 y212.1).bind fun y296 =>
 (if (!y296) = true then
 some false
 else
 (if ((y288.2 == y212.2) ^^ true) = true then
 some false
 else
 (laws_heldWorld N (World.mk y270.2.1 y270.2.2 y220.1.Net y220.1.Waits y220.1.Leaders y220.1.Applied y220.1.Replies) 1).bind fun y302 =>
 (if (decide (y302 < 0)) = true then
 some false
 else
 (if (y302 != y270.1) = true then
 some false
 else
 some true))))))))))))
theorem sem_laws_FnExactWorldNew (N : Nat) (x1 : Int) (x2 : (List Int)) (r : Bool) (h : laws_FnExactWorldNew N x1 x2 = some r) : Says Tryz.prog 3 [VI x1,RO 3 (x2.map encI)] 0 [] (VB r) [] := by
 unfold laws_FnExactWorldNew at h
 refine Says.of_norm e Tryz.call3 e fun B hB => ?_
 have hm : B.m ≤ 1000 := by omega
 refine Run.so hm (.p e (.nil (.seq (.so hm (.p e (.z 5112 (Ev.lnF e) e e (.p e (.nil (.condO e h (fun g204 h => ?_) (fun g204 h => ?_))))))))))
 ·refine Run.so hm (.p e (.nil (.ret ?_)))
  obtain rfl := someO h
  exact Ends.mkG (.inl e) e (gh_pk [0] [] hB e e e e) e e
 ·refine Run.skip (.so hm (.p2 e e ?_))
  obtain ⟨y211,hy211,h⟩ := bindO h
  refine Ops.z 13320 (Ev.call [] [] 1 (sem_laws_toIntS _ _ _ hy211) e e (.d1 .nil) e (.inl e) e e) e e ?_
  obtain ⟨y212,hy212,h⟩ := bindO h
  refine Ops.z 13336 (Ev.call [] [13320] 7 (sem_spec_WorldNew _ _ _ _ hy212) e e (.d1 (.cons (.borrow e (by decide) (lendW (fun _ => e) _ e)) .nil)) e (.inr ⟨e,ownL_root ⟨own_rows (fun _ => e) _,own_rows own_encServer _,own_rows own_encMessage _,own_rows (fun _ => e) _,own_rows own_encLeader _,own_rows (fun _ => e) _,own_rows (fun _ => e) _,trivial⟩⟩) e e) e e ?_
  refine Ops.p e (.p2 e e (.z 13400 (.al e e) e e (.y 13416 (.sto e e e e e e) e e (.p e (.nil (.so hm (.p e ?_)))))))
  obtain ⟨y216,hy216,h⟩ := bindO h
  refine Ops.z 17400 (Ev.call [] [] 1 (sem_laws_toIntS _ _ _ hy216) e e (.d1 .nil) e (.inl e) e e) e e (.p e (.nil (.so hm (.p2 e e ?_))))
  obtain ⟨y220,hy220,h⟩ := bindO h
  refine Ops.z 21512 (Ev.call [] [17400] 7 (sem_impl_WorldNew _ _ _ _ hy220) e e (.d1 (.cons (.borrow e (by decide) (lendW (fun _ => e) _ e)) .nil)) e (.inr ⟨e,ownL_root ⟨own_rows (fun _ => e) _,own_rows own_encServer _,own_rows own_encMessage _,own_rows (fun _ => e) _,own_rows own_encLeader _,own_rows (fun _ => e) _,own_rows (fun _ => e) _,trivial⟩⟩) e e) e e ?_
  refine Ops.p e (.p2 e e (.z 21576 (.al e e) e e (.y 21592 (.sto e e e e e e) e e (.p e (.nil (.seq (.so hm (.p2 e e ?_))))))))
  obtain ⟨y228,hy228,h⟩ := bindO h
  refine Ops.z 25608 (Ev.call [] [21512,21513,21514,21515,21516,21517,21518,13336,13337,13338,13339,13340,13341,13342] 0 (sem_laws_eqWorld _ _ _ _ hy228) e e (.cons (.agg (.cons (.borrow e (by decide) (lendW (fun _ => e) _ e)) (.cons (.borrow e (by decide) (lendW ro_encServer _ e)) (.cons (.borrow e (by decide) (lendW ro_encMessage _ e)) (.cons (.borrow e (by decide) (lendW (fun _ => e) _ e)) (.cons (.borrow e (by decide) (lendW ro_encLeader _ e)) (.cons (.borrow e (by decide) (lendW (fun _ => e) _ e)) (.cons (.borrow e (by decide) (lendW (fun _ => e) _ e)) .nil)))))))) (.cons (.agg (.cons (.borrow e (by decide) (lendW (fun _ => e) _ e)) (.cons (.borrow e (by decide) (lendW ro_encServer _ e)) (.cons (.borrow e (by decide) (lendW ro_encMessage _ e)) (.cons (.borrow e (by decide) (lendW (fun _ => e) _ e)) (.cons (.borrow e (by decide) (lendW ro_encLeader _ e)) (.cons (.borrow e (by decide) (lendW (fun _ => e) _ e)) (.cons (.borrow e (by decide) (lendW (fun _ => e) _ e)) .nil)))))))) .nil)) e (.inr ⟨e,ownL_root trivial⟩) e e) e e ?_
  refine Ops.p e (.p e (.askO (x := .t 37) e h (fun g229 h => ?_) (fun g229 h => ?_)))
  ·refine Ops.gn e g229 (.gn e g229 (.gn e g229 (.z 25704 (.pkT e g229 e) e e (.nil (.condT e e (.so hm (.p e (.nil (.ret ?_)))))))))
   obtain rfl := someO h
   exact Ends.mkG (.inl e) e (gh_pk [0] [] hB e e e e) e e
  ·refine Ops.gp e g229 e (.gp e g229 e (.gp e g229 e (.z 25704 (.pkF e g229 e) e e (.nil (.condO e h (fun g230 h => ?_) (fun g230 h => ?_))))))
   ·refine Run.so hm (.p e (.nil (.ret ?_)))
    obtain rfl := someO h
    exact Ends.mkG (.inl e) e (gh_pk [0] [] hB e e e e) e e
   ·refine Run.skip (.seq (.so hm (.p2 e e ?_)))
    obtain ⟨y238,hy238,h⟩ := bindO h
    refine Ops.z 33800 (Ev.call [] [] 1 (sem_laws_toIntS _ _ _ hy238) e e (.d1 .nil) e (.inl e) e e) e e ?_
    obtain ⟨y239,hy239,h⟩ := bindO h
    refine Ops.z 33816 (Ev.call [] [17400,33800] 0 (sem_laws_eqIntS _ _ _ _ hy239) e e (.cons (.borrow e (by decide) (lendW (fun _ => e) _ e)) (.cons (.borrow e (by decide) (lendW (fun _ => e) _ e)) .nil)) e (.inr ⟨e,ownL_root trivial⟩) e e) e e ?_
    refine Ops.p e (.nil (.condO e h (fun g240 h => ?_) (fun g240 h => ?_)))
    ·refine Run.so hm (.p e (.nil (.ret ?_)))
     obtain rfl := someO h
     exact Ends.mkG (.inl e) e (gh_pk [0] [] hB e e e e) e e
    ·refine Run.skip (.so hm (.p e (.nil (.so hm (.p2 e e ?_)))))
     obtain ⟨y247,hy247,h⟩ := bindO h
     obtain ⟨y248,hy248,h⟩ := bindO h
     refine Ops.z 46088 (Ev.call [17400] [] 0 (sem_laws_markIntS _ _ _ _ hy247) e e (.cons (.sl e) (.d1 .nil)) e (.inl e) e e) e e (.p e (.nil (.seq (.so hm (.p3 e e e (.askO (x := .t 52) e h (fun g258 h => ?_) (fun g258 h => ?_)))))))
     ·refine Ops.gn e g258 (.gn e g258 (.gn e g258 (.gn e g258 (.z 50264 (.pkT e g258 e) e e (.p e (.gn e e (.gn e e (.gn e e (.z 50344 (.pkT e e e) e e (.nil (.condT e e (.so hm (.p e (.nil (.ret ?_)))))))))))))))
      obtain rfl := someO h
      exact Ends.mkG (.inl e) e (gh_pk [0] [] hB e e e e) e e
     ·refine Ops.gp e g258 e (.gp e g258 e ?_)
      obtain ⟨y259,hy259,h⟩ := bindO h
      refine Ops.gs (s := 50232) e g258 (Ev.call [] [21512,21513,21514,21515,21516,21517,21518,13336,13337,13338,13339,13340,13341,13342] 0 (sem_laws_eqWorld _ _ _ _ hy259) e e (.cons (.agg (.cons (.borrow e (by decide) (lendW (fun _ => e) _ e)) (.cons (.borrow e (by decide) (lendW ro_encServer _ e)) (.cons (.borrow e (by decide) (lendW ro_encMessage _ e)) (.cons (.borrow e (by decide) (lendW (fun _ => e) _ e)) (.cons (.borrow e (by decide) (lendW ro_encLeader _ e)) (.cons (.borrow e (by decide) (lendW (fun _ => e) _ e)) (.cons (.borrow e (by decide) (lendW (fun _ => e) _ e)) .nil)))))))) (.cons (.agg (.cons (.borrow e (by decide) (lendW (fun _ => e) _ e)) (.cons (.borrow e (by decide) (lendW ro_encServer _ e)) (.cons (.borrow e (by decide) (lendW ro_encMessage _ e)) (.cons (.borrow e (by decide) (lendW (fun _ => e) _ e)) (.cons (.borrow e (by decide) (lendW ro_encLeader _ e)) (.cons (.borrow e (by decide) (lendW (fun _ => e) _ e)) (.cons (.borrow e (by decide) (lendW (fun _ => e) _ e)) .nil)))))))) .nil)) e (.inr ⟨e,ownL_root trivial⟩) e e) e e ?_
      refine Ops.gp e g258 e (.z 50264 (.pkF e g258 e) e e (.p e (.askO (x := .t 58) e h (fun g260 h => ?_) (fun g260 h => ?_))))
      ·refine Ops.gn e g260 (.gn e g260 (.gn e g260 (.z 50344 (.pkT e g260 e) e e (.nil (.condT e e (.so hm (.p e (.nil (.ret ?_)))))))))
       obtain rfl := someO h
       exact Ends.mkG (.inl e) e (gh_pk [0] [] hB e e e e) e e
      ·refine Ops.gp e g260 e (.gp e g260 e (.gp e g260 e (.z 50344 (.pkF e g260 e) e e (.nil (.condF e g230 (.skip (.so hm (.p e (.nil (.so hm (.p2 e e ?_)))))))))))
       obtain ⟨y270,hy270,h⟩ := bindO h
       obtain ⟨y271,hy271,h⟩ := bindO h
       obtain ⟨y272,hy272,h⟩ := bindO h
       refine Ops.z 62472 (Ev.call [21512,21513,21514,21515,21516,21517,21518] [] 0 (sem_laws_markWorld _ _ _ _ hy270) e e (.cons (.agg (.cons (.sl e) (.cons (.sl e) (.cons (.sl e) (.cons (.sl e) (.cons (.sl e) (.cons (.sl e) (.cons (.sl e) .nil)))))))) (.d1 .nil)) e (.inl e) e e) e e (.p e (.nil (.so hm (.p e (.nil (.so hm (.p2 e e ?_)))))))
       obtain ⟨y276,hy276,h⟩ := bindO h
       refine Ops.z 70664 (Ev.call [] [21512,21513,21514,21515,21516,21517,21518] 0 (sem_laws_heldWorld _ _ _ _ hy276) e e (.cons (.agg (.cons (.borrow e (by decide) (lendW (fun _ => e) _ (len_some hy271))) (.cons (.borrow e (by decide) (lendW ro_encServer _ (len_some hy272))) (.cons (.borrow e (by decide) (lendW ro_encMessage _ e)) (.cons (.borrow e (by decide) (lendW (fun _ => e) _ e)) (.cons (.borrow e (by decide) (lendW ro_encLeader _ e)) (.cons (.borrow e (by decide) (lendW (fun _ => e) _ e)) (.cons (.borrow e (by decide) (lendW (fun _ => e) _ e)) .nil)))))))) (.d1 .nil)) e (.inr ⟨e,ownL_root trivial⟩) e e) e e ?_
       refine Ops.p e (.nil (.seq (.so hm (.p2 e e (.nil (.condO e h (fun g278 h => ?_) (fun g278 h => ?_)))))))
       ·refine Run.so hm (.p e (.nil (.ret ?_)))
        obtain rfl := someO h
        exact Ends.mkG (.inl e) e (gh_pk [0] [] hB e e e e) e e
       ·refine Run.skip (.seq (.so hm (.p3 e e e (.nil (.condO e h (fun g280 h => ?_) (fun g280 h => ?_))))))
        ·refine Run.so hm (.p e (.nil (.ret ?_)))
         obtain rfl := someO h
         exact Ends.mkG (.inl e) e (gh_pk [0] [] hB e e e e) e e
        ·refine Run.skip (.so hm (.p2 e e ?_))
         obtain ⟨y287,hy287,h⟩ := bindO h
         refine Ops.z 91144 (Ev.call [] [] 1 (sem_laws_toIntS _ _ _ hy287) e e (.d1 .nil) e (.inl e) e e) e e ?_
         obtain ⟨y288,hy288,h⟩ := bindO h
         refine Ops.z 91160 (Ev.call [] [91144] 7 (sem_impl_WorldNew _ _ _ _ hy288) e e (.d1 (.cons (.borrow e (by decide) (lendW (fun _ => e) _ e)) .nil)) e (.inr ⟨e,ownL_root ⟨own_rows (fun _ => e) _,own_rows own_encServer _,own_rows own_encMessage _,own_rows (fun _ => e) _,own_rows own_encLeader _,own_rows (fun _ => e) _,own_rows (fun _ => e) _,trivial⟩⟩) e e) e e ?_
         refine Ops.p e (.p2 e e (.z 91224 (.al e e) e e (.y 91240 (.sto e e e e e e) e e (.p e (.nil (.seq (.so hm (.p2 e e ?_))))))))
         obtain ⟨y296,hy296,h⟩ := bindO h
         refine Ops.z 95240 (Ev.call [] [91160,91161,91162,91163,91164,91165,91166,13336,13337,13338,13339,13340,13341,13342] 0 (sem_laws_eqWorld _ _ _ _ hy296) e e (.cons (.agg (.cons (.borrow e (by decide) (lendW (fun _ => e) _ e)) (.cons (.borrow e (by decide) (lendW ro_encServer _ e)) (.cons (.borrow e (by decide) (lendW ro_encMessage _ e)) (.cons (.borrow e (by decide) (lendW (fun _ => e) _ e)) (.cons (.borrow e (by decide) (lendW ro_encLeader _ e)) (.cons (.borrow e (by decide) (lendW (fun _ => e) _ e)) (.cons (.borrow e (by decide) (lendW (fun _ => e) _ e)) .nil)))))))) (.cons (.agg (.cons (.borrow e (by decide) (lendW (fun _ => e) _ e)) (.cons (.borrow e (by decide) (lendW ro_encServer _ e)) (.cons (.borrow e (by decide) (lendW ro_encMessage _ e)) (.cons (.borrow e (by decide) (lendW (fun _ => e) _ e)) (.cons (.borrow e (by decide) (lendW ro_encLeader _ e)) (.cons (.borrow e (by decide) (lendW (fun _ => e) _ e)) (.cons (.borrow e (by decide) (lendW (fun _ => e) _ e)) .nil)))))))) .nil)) e (.inr ⟨e,ownL_root trivial⟩) e e) e e ?_
         refine Ops.p e (.p e (.askO (x := .t 85) e h (fun g297 h => ?_) (fun g297 h => ?_)))
         ·refine Ops.gn e g297 (.gn e g297 (.gn e g297 (.z 95336 (.pkT e g297 e) e e (.nil (.condT e e (.so hm (.p e (.nil (.ret ?_)))))))))
          obtain rfl := someO h
          exact Ends.mkG (.inl e) e (gh_pk [0] [] hB e e e e) e e
         ·refine Ops.gp e g297 e (.gp e g297 e (.gp e g297 e (.z 95336 (.pkF e g297 e) e e (.nil (.condO e h (fun g298 h => ?_) (fun g298 h => ?_))))))
          ·refine Run.so hm (.p e (.nil (.ret ?_)))
           obtain rfl := someO h
           exact Ends.mkG (.inl e) e (gh_pk [0] [] hB e e e e) e e
          ·refine Run.skip (.so hm (.p e (.nil (.so hm (.p2 e e ?_)))))
           obtain ⟨y302,hy302,h⟩ := bindO h
           refine Ops.z 107528 (Ev.call [] [21512,21513,21514,21515,21516,21517,21518] 0 (sem_laws_heldWorld _ _ _ _ hy302) e e (.cons (.agg (.cons (.borrow e (by decide) (lendW (fun _ => e) _ (len_some hy271))) (.cons (.borrow e (by decide) (lendW ro_encServer _ (len_some hy272))) (.cons (.borrow e (by decide) (lendW ro_encMessage _ e)) (.cons (.borrow e (by decide) (lendW (fun _ => e) _ e)) (.cons (.borrow e (by decide) (lendW ro_encLeader _ e)) (.cons (.borrow e (by decide) (lendW (fun _ => e) _ e)) (.cons (.borrow e (by decide) (lendW (fun _ => e) _ e)) .nil)))))))) (.d1 .nil)) e (.inr ⟨e,ownL_root trivial⟩) e e) e e ?_
           refine Ops.p e (.nil (.seq (.so hm (.p2 e e (.nil (.condO e h (fun g304 h => ?_) (fun g304 h => ?_)))))))
           ·refine Run.so hm (.p e (.nil (.ret ?_)))
            obtain rfl := someO h
            exact Ends.mkG (.inl e) e (gh_pk [0] [] hB e e e e) e e
           ·refine Run.skip (.seq (.so hm (.p3 e e e (.nil (.condO e h (fun g305 h => ?_) (fun g305 h => ?_))))))
            ·refine Run.so hm (.p e (.nil (.ret ?_)))
             obtain rfl := someO h
             exact Ends.mkG (.inl e) e (gh_pk [0] [] hB e e e e) e e
            ·refine Run.skip (.so hm (.p e (.nil (.ret ?_))))
             obtain rfl := someO h
             exact Ends.mkG (.inl e) e (gh_pk [0] [] hB e e e e) e e
end Go.Proofs.YteiimlnnaioocaaGreatDoor.Pe.FnExactWorldNew
