/- Functions,as pure functions; and that Go does just that. -/
import Derived.Test.YtkojbcnafckofaaGreatPeFFnStays8
namespace Go.Proofs.YtkojbcnafckofaaGreat.Pe.FnStays
open Go Go.RowKit
set_option linter.unusedVariables false
set_option linter.unusedSimpArgs false
set_option maxHeartbeats 40000000
set_option maxRecDepth 100000
def impl_ConfOf (N : Nat) (x1 : Node) : Option ((List Int)) :=
 (impl_ConfAt N x1 9223372036854775807).bind fun y103 =>
 some y103
theorem sem_impl_ConfOf (N : Nat) (x1 : Node) (r : (List Int)) (h : impl_ConfOf N x1 = some r) : Says Tryz.prog 44 [.agg [VI x1.Id,VI x1.Term,VI x1.Vote,VI x1.Role,VI x1.Lead,RO 3 (x1.Conf.map encI),VI x1.Log.Start,VI x1.Log.StartTerm,RO 40 (x1.Log.Entries.map encEntry),VI x1.Commit,VI x1.Clock,VI x1.Limit,RO 3 (x1.Votes.map encI),RO 98 (x1.Peers.map encPeer)]] 0 [] (.sl 0 3 0 r.length) [(0,.vec 3 (r.map encI))] := by
 unfold impl_ConfOf at h
 refine Says.of_norm e Tryz.call44 e fun B hB => ?_
 have hm : B.m ≤ 1000 := by omega
 refine Run.so hm (.z 1000 (.bx e e) e e (.p e (.nil (.so hm (.p e ?_)))))
 obtain ⟨y103,hy103,h⟩ := bindO h
 refine Ops.z 5112 (Ev.call [] [] 1 (sem_impl_ConfAt _ _ _ _ hy103) e e (.cons (.agg (.d4 (.d4 (.d4 (.d2 .nil))))) (.d1 .nil)) e (.inl e) e e) e e (.p e (.nil (.ret ?_)))
 obtain rfl := someO h
 exact Ends.mkG (.inl e) e (gh_pk [0] [5112] hB e e e e) e e
def impl_othersOf_1 (N : Nat) (x1 : Int) (x2 : Node) : Option (Bool) :=
 some (x1 == x2.Id)
theorem sem_impl_othersOf_1 (N : Nat) (x1 : Int) (x2 : Node) (r : Bool) (h : impl_othersOf_1 N x1 x2 = some r) : Says Tryz.prog 90 [VI x1,.ptr 0 0] 1 [(0,.box [VI x2.Id,VI x2.Term,VI x2.Vote,VI x2.Role,VI x2.Lead,RO 3 (x2.Conf.map encI),VI x2.Log.Start,VI x2.Log.StartTerm,RO 40 (x2.Log.Entries.map encEntry),VI x2.Commit,VI x2.Clock,VI x2.Limit,RO 3 (x2.Votes.map encI),RO 98 (x2.Peers.map encPeer)])] (VB r) [(0,.box [VI x2.Id,VI x2.Term,VI x2.Vote,VI x2.Role,VI x2.Lead,RO 3 (x2.Conf.map encI),VI x2.Log.Start,VI x2.Log.StartTerm,RO 40 (x2.Log.Entries.map encEntry),VI x2.Commit,VI x2.Clock,VI x2.Limit,RO 3 (x2.Votes.map encI),RO 98 (x2.Peers.map encPeer)])] := by
 unfold impl_othersOf_1 at h
 refine Says.of_norm e Tryz.call90 e fun B hB => ?_
 have hm : B.m ≤ 1000 := by omega
 refine Run.so hm (.p e (.nil (.so hm (.p3 e e e (.p2 e e (.nil (.ret ?_)))))))
 obtain rfl := someO h
 exact Ends.mkG (.inl e) e (gh_pk [0] [0] hB e e e e) e e
def slices_IndexFunc_int_l1 (N : Nat) (x1 : (List Int)) (x2 : Node) : Nat → Int → Option ((Int) ⊕ (Unit))
 | 0,_ => none
 | m + 1,x206 =>
 (if (decide (x206 < (x1.length : Int))) = true then
 (at? x1 x206).bind fun x235 =>
 (impl_othersOf_1 N x235 x2).bind fun y236 =>
 (if y236 = true then
 some (Sum.inl x206)
 else
 slices_IndexFunc_int_l1 N x1 x2 m (w64 (x206 + 1)))
 else
 some (Sum.inr ()))
def slices_IndexFunc_int_l1_r (N : Nat) (x1 : (List Int)) (x2 : Node) : (List Int) → Int → Option ((Int) ⊕ (Unit))
 | [],x206 =>
 some (Sum.inr ())
 | hd :: tl,x206 =>
 (some hd).bind fun x235 =>
 (impl_othersOf_1 N x235 x2).bind fun y236 =>
 (if y236 = true then
 some (Sum.inl x206)
 else
 slices_IndexFunc_int_l1_r N x1 x2 tl (w64 (x206 + 1)))
theorem slices_IndexFunc_int_l1_rng (N : Nat) (x1 : (List Int)) (x2 : Node) (hx : x1.length ≤ 1099511627776) : ∀ (d k m : Nat),x1.length = k + d → d < m → slices_IndexFunc_int_l1 N x1 x2 m (k : Int) = slices_IndexFunc_int_l1_r N x1 x2 (x1.drop k) (k : Int) := by
 intro d
 induction d with
 | zero =>
  intro k m hd hm
  obtain ⟨m,rfl⟩ : ∃ q,m = q + 1 := ⟨m - 1,by omega⟩
  rw [slices_IndexFunc_int_l1,if_neg (by simp; omega),List.drop_eq_nil_of_le (by omega),slices_IndexFunc_int_l1_r]
 | succ d ih =>
  intro k m hd hm
  obtain ⟨m,rfl⟩ : ∃ q,m = q + 1 := ⟨m - 1,by omega⟩
  have hk : k < x1.length := by omega
  rw [slices_IndexFunc_int_l1,if_pos (by simp; omega),List.drop_eq_getElem_cons hk,slices_IndexFunc_int_l1_r]
  have h1 := at_lt hk
  have h2 := w64_succ (k := k) (by omega)
  have h3 := ih (k + 1) m
  simp only [h1,h2,h3 (by omega) (by omega)]
theorem slices_IndexFunc_int_l1_eq {N : Nat} (x1 : (List Int)) (x2 : Node) (hx : x1.length ≤ 1099511627776) (hN : x1.length < N) : slices_IndexFunc_int_l1 N x1 x2 N 0 = slices_IndexFunc_int_l1_r N x1 x2 x1 0 := slices_IndexFunc_int_l1_rng N x1 x2 hx x1.length 0 N (by omega) hN
def slices_IndexFunc_int (N : Nat) (x1 : (List Int)) (x2 : Node) : Option (Int) :=
 joinP (fun (v203 : Unit) =>
 some (-1 : Int)) fun j203 =>
 (slices_IndexFunc_int_l1 N x1 x2 N 0).bind (Sum.elim (fun v228 => some v228) (fun (v229 : Unit) => j203 ()))
theorem sem_slices_IndexFunc_int (N : Nat) (x1 : (List Int)) (x2 : Node) (r : Int) (h : slices_IndexFunc_int N x1 x2 = some r) : Says Tryz.prog 110 [RO 3 (x1.map encI),.fn 90 [.ptr 0 0]] 1 [(0,.box [VI x2.Id,VI x2.Term,VI x2.Vote,VI x2.Role,VI x2.Lead,RO 3 (x2.Conf.map encI),VI x2.Log.Start,VI x2.Log.StartTerm,RO 40 (x2.Log.Entries.map encEntry),VI x2.Commit,VI x2.Clock,VI x2.Limit,RO 3 (x2.Votes.map encI),RO 98 (x2.Peers.map encPeer)])] (VI r) [(0,.box [VI x2.Id,VI x2.Term,VI x2.Vote,VI x2.Role,VI x2.Lead,RO 3 (x2.Conf.map encI),VI x2.Log.Start,VI x2.Log.StartTerm,RO 40 (x2.Log.Entries.map encEntry),VI x2.Commit,VI x2.Clock,VI x2.Limit,RO 3 (x2.Votes.map encI),RO 98 (x2.Peers.map encPeer)])] := by
 unfold slices_IndexFunc_int at h
 refine Says.of_norm e Tryz.call110 e fun B hB => ?_
 have hm : B.m ≤ 1000 := by omega
 refine Run.so hm (.p e (.nil (.seqO h (fun v203 => []) (fun (v203 : Unit) => [(0,.box [VI x2.Id,VI x2.Term,VI x2.Vote,VI x2.Role,VI x2.Lead,RO 3 (x2.Conf.map encI),VI x2.Log.Start,VI x2.Log.StartTerm,RO 40 (x2.Log.Entries.map encEntry),VI x2.Commit,VI x2.Clock,VI x2.Limit,RO 3 (x2.Votes.map encI),RO 98 (x2.Peers.map encPeer)])]) (fun h => ?_) (fun v203 h => ?_))))
 ·refine Run.so hm (.p e (.z 5112 (Ev.lnF e) e e (.p e (.nil (.block ?_)))))
  obtain ⟨res229,h,hk229⟩ := bindO h
  refine Run.loop (n := N) (fun m229 fr σ => ∃ (x206 : Int),slices_IndexFunc_int_l1 N x1 x2 m229 x206 = some res229 ∧ fr = [(0,RO 3 (x1.map encI)),(1,.fn 90 [.ptr 0 0]),(7,VI (x1.length : Int)),(8,VI x206)] ∧ σ = [(0,.box [VI x2.Id,VI x2.Term,VI x2.Vote,VI x2.Role,VI x2.Lead,RO 3 (x2.Conf.map encI),VI x2.Log.Start,VI x2.Log.StartTerm,RO 40 (x2.Log.Entries.map encEntry),VI x2.Commit,VI x2.Clock,VI x2.Limit,RO 3 (x2.Votes.map encI),RO 98 (x2.Peers.map encPeer)])]) (gh_pk [0,1,7,8] [0] hB e e e e) ⟨_,h,e,e⟩ ?_
  rintro m229 fr σ ⟨x206,h,rfl,rfl⟩
  obtain _ | m229 := m229
  ·rw [slices_IndexFunc_int_l1] at h; cases h
  rw [slices_IndexFunc_int_l1] at h
  refine Run.so hm (.p e (.nil (.seq (.condO e h (fun g232 h => ?_) (fun g232 h => ?_)))))
  ·refine Run.skip (.seq (.block (.so hm (.p2 e e (.nil (.so hm (.p3 e e e ?_)))))))
   obtain ⟨x235,hx235,h⟩ := bindO h
   refine Ops.z 17432 (Ev.iaF e e hx235) e e (.p e ?_)
   obtain ⟨y236,hy236,h⟩ := bindO h
   refine Ops.z 17464 (Ev.callx [0] [] 0 e (sem_impl_othersOf_1 _ _ _ _ hy236) e e (.d1 (.cons (.ptr e) .nil)) e (.inl e) e e) e e (.nil (.condO e h (fun g237 h => ?_) (fun g237 h => ?_)))
   ·refine Run.so hm (.p2 e e (.nil (.ret ?_)))
    obtain rfl := someO h
    have h := hk229
    replace h := inlO h
    obtain rfl := someO h
    exact Ends.mkG (.inl e) e (gh_pk [0] [0] hB e e e e) e e
   ·exact Run.skip (.ops hm (.p2 e e (.nil (⟨m229,Nat.lt_succ_self m229,_,_,(gh_pk [0,1,7,8] [0] hB e e e e),_,h,e,e⟩))))
  ·refine Run.exit ?_
   obtain rfl := someO h
   have h := hk229
   replace h := inrO h
   exact ⟨_,_,(gh_pk [] [0] hB e e e e),(),h,e,e⟩
 ·refine Run.so hm (.p e (.nil (.ret ?_)))
  obtain rfl := someO h
  exact Ends.mkG (.inl e) e (gh_pk [0] [0] hB e e e e) e e
def slices_IndexFunc_int_i1_l1 (N : Nat) (x1 : (List Int)) (x2 : Node) : Nat → Int → Option ((Int) ⊕ (Unit))
 | 0,_ => none
 | m + 1,x205 =>
 (if (decide (x205 < ((x1.length : Nat) : Int))) = true then
 (at? x1 x205).bind fun x235 =>
 (impl_othersOf_1 N x235 x2).bind fun y236 =>
 (if y236 = true then
 some (Sum.inl x205)
 else
 slices_IndexFunc_int_i1_l1 N x1 x2 m (w64 (x205 + 1)))
 else
 some (Sum.inr ()))
def slices_IndexFunc_int_i1 (N : Nat) (x1 : (List Int)) (x2 : Node) : Option (Int) :=
 joinP (fun (v203 : Unit) =>
 some (-1 : Int)) fun j203 =>
 (slices_IndexFunc_int_i1_l1 N x1 x2 N 0).bind (Sum.elim (fun v228 => some v228) (fun (v229 : Unit) => j203 ()))
theorem sem_slices_IndexFunc_int_i1 (N : Nat) (x1 : (List Int)) (x2 : Node) (r : Int) (h : slices_IndexFunc_int_i1 N x1 x2 = some r) : Says Tryz.prog 110 [.sl 0 3 0 x1.length,.fn 90 [.ptr 1 0]] 2 [(0,.vec 3 (x1.map encI)),(1,.box [VI x2.Id,VI x2.Term,VI x2.Vote,VI x2.Role,VI x2.Lead,RO 3 (x2.Conf.map encI),VI x2.Log.Start,VI x2.Log.StartTerm,RO 40 (x2.Log.Entries.map encEntry),VI x2.Commit,VI x2.Clock,VI x2.Limit,RO 3 (x2.Votes.map encI),RO 98 (x2.Peers.map encPeer)])] (VI r) [(0,.vec 3 (x1.map encI)),(1,.box [VI x2.Id,VI x2.Term,VI x2.Vote,VI x2.Role,VI x2.Lead,RO 3 (x2.Conf.map encI),VI x2.Log.Start,VI x2.Log.StartTerm,RO 40 (x2.Log.Entries.map encEntry),VI x2.Commit,VI x2.Clock,VI x2.Limit,RO 3 (x2.Votes.map encI),RO 98 (x2.Peers.map encPeer)])] := by
 unfold slices_IndexFunc_int_i1 at h
 refine Says.of_norm e Tryz.call110 e fun B hB => ?_
 have hm : B.m ≤ 1000 := by omega
 refine Run.so hm (.p e (.nil (.seqO h (fun v203 => []) (fun (v203 : Unit) => [(0,.vec 3 (x1.map encI)),(1,.box [VI x2.Id,VI x2.Term,VI x2.Vote,VI x2.Role,VI x2.Lead,RO 3 (x2.Conf.map encI),VI x2.Log.Start,VI x2.Log.StartTerm,RO 40 (x2.Log.Entries.map encEntry),VI x2.Commit,VI x2.Clock,VI x2.Limit,RO 3 (x2.Votes.map encI),RO 98 (x2.Peers.map encPeer)])]) (fun h => ?_) (fun v203 h => ?_))))
 ·refine Run.so hm (.p3 e e e (.nil (.block ?_)))
  obtain ⟨res229,h,hk229⟩ := bindO h
  refine Run.loop (n := N) (fun m229 fr σ => ∃ (x205 : Int),slices_IndexFunc_int_i1_l1 N x1 x2 m229 x205 = some res229 ∧ fr = [(0,.sl 0 3 0 x1.length),(1,.fn 90 [.ptr 1 0]),(7,VI ((x1.length : Nat) : Int)),(8,VI x205)] ∧ σ = [(0,.vec 3 (x1.map encI)),(1,.box [VI x2.Id,VI x2.Term,VI x2.Vote,VI x2.Role,VI x2.Lead,RO 3 (x2.Conf.map encI),VI x2.Log.Start,VI x2.Log.StartTerm,RO 40 (x2.Log.Entries.map encEntry),VI x2.Commit,VI x2.Clock,VI x2.Limit,RO 3 (x2.Votes.map encI),RO 98 (x2.Peers.map encPeer)])]) (gh_pk [0,1,7,8] [0,1] hB e e e e) ⟨_,h,e,e⟩ ?_
  rintro m229 fr σ ⟨x205,h,rfl,rfl⟩
  obtain _ | m229 := m229
  ·rw [slices_IndexFunc_int_i1_l1] at h; cases h
  rw [slices_IndexFunc_int_i1_l1] at h
  refine Run.so hm (.p e (.nil (.seq (.condO e h (fun g232 h => ?_) (fun g232 h => ?_)))))
  ·refine Run.skip (.seq (.block (.so hm (.p2 e e (.nil (.so hm (.p3 e e e ?_)))))))
   obtain ⟨x235,hx235,h⟩ := bindO h
   refine Ops.z 17432 (Ev.iaW e e e hx235) e e (.z 17448 (Ev.ldE (f := encI) e e (at_some hx235).2 e e e) e e ?_)
   obtain ⟨y236,hy236,h⟩ := bindO h
   refine Ops.z 17464 (Ev.callx [1] [] 0 e (sem_impl_othersOf_1 _ _ _ _ hy236) e e (.d1 (.cons (.ptr e) .nil)) e (.inl e) e e) e e (.nil (.condO e h (fun g237 h => ?_) (fun g237 h => ?_)))
   ·refine Run.so hm (.p2 e e (.nil (.ret ?_)))
    obtain rfl := someO h
    have h := hk229
    replace h := inlO h
    obtain rfl := someO h
    exact Ends.mkG (.inl e) e (gh_pk [0] [0,1] hB e e e e) e e
   ·exact Run.skip (.ops hm (.p2 e e (.nil (⟨m229,Nat.lt_succ_self m229,_,_,(gh_pk [0,1,7,8] [0,1] hB e e e e),_,h,e,e⟩))))
  ·refine Run.exit ?_
   obtain rfl := someO h
   have h := hk229
   replace h := inrO h
   exact ⟨_,_,(gh_pk [] [0,1] hB e e e e),(),h,e,e⟩
 ·refine Run.so hm (.p e (.nil (.ret ?_)))
  obtain rfl := someO h
  exact Ends.mkG (.inl e) e (gh_pk [0] [0,1] hB e e e e) e e
def slices_DeleteFunc_int_l1 (N : Nat) (x2 : Node) : Nat → Int → Int → (List Int) → Option (Int × (List Int))
 | 0,_,_,_ => none
 | m + 1,x331,x332,x333 =>
 (if (decide (x332 < ((x333.length : Nat) : Int))) = true then
 joinP (fun (v388 : Int × (List Int)) =>
 slices_DeleteFunc_int_l1 N x2 m v388.1 (w64 (x332 + 1)) v388.2) fun j388 =>
 (at? x333 x332).bind fun x392 =>
 (impl_othersOf_1 N x392 x2).bind fun y394 =>
 (if (!y394) = true then
 (at? x333 x331).bind fun x399 =>
 j388 (w64 (x331 + 1),(x333.set x331.toNat x392))
 else
 j388 (x331,x333))
 else
 some (x331,x333))
def slices_DeleteFunc_int (N : Nat) (x1 : (List Int)) (x2 : Node) : Option (Nat × (List Int)) :=
 (slices_IndexFunc_int_i1 N x1 x2).bind fun y258 =>
 (if (y258 == (-1 : Int)) = true then
 some (x1.length,x1)
 else
 joinP (fun (v330 : Int × (List Int)) =>
 (drop? v330.2 v330.1).bind fun x406 =>
 (clr? 0 v330.2 v330.1.toNat (v330.2.length - v330.1.toNat)).bind fun x407 =>
 (take? x407 v330.1).bind fun x409 =>
 some (v330.1.toNat,x407)) fun j330 =>
 (slices_DeleteFunc_int_l1 N x2 N y258 (w64 (y258 + 1)) x1).bind (fun v373 => j330 (v373.1,v373.2)))
theorem sem_slices_DeleteFunc_int (N : Nat) (x1 : (List Int)) (x2 : Node) (r : Nat × (List Int)) (h : slices_DeleteFunc_int N x1 x2 = some r) : Says Tryz.prog 89 [.sl 0 3 0 x1.length,.fn 90 [.ptr 1 0]] 2 [(0,.vec 3 (x1.map encI)),(1,.box [VI x2.Id,VI x2.Term,VI x2.Vote,VI x2.Role,VI x2.Lead,RO 3 (x2.Conf.map encI),VI x2.Log.Start,VI x2.Log.StartTerm,RO 40 (x2.Log.Entries.map encEntry),VI x2.Commit,VI x2.Clock,VI x2.Limit,RO 3 (x2.Votes.map encI),RO 98 (x2.Peers.map encPeer)])] (.sl 0 3 0 r.1) [(0,.vec 3 (r.2.map encI)),(1,.box [VI x2.Id,VI x2.Term,VI x2.Vote,VI x2.Role,VI x2.Lead,RO 3 (x2.Conf.map encI),VI x2.Log.Start,VI x2.Log.StartTerm,RO 40 (x2.Log.Entries.map encEntry),VI x2.Commit,VI x2.Clock,VI x2.Limit,RO 3 (x2.Votes.map encI),RO 98 (x2.Peers.map encPeer)])] := by
 unfold slices_DeleteFunc_int at h
 refine Says.of_norm e Tryz.call89 e fun B hB => ?_
 have hm : B.m ≤ 1000 := by omega
 refine Run.so hm (.p e (.nil (.so hm (.p2 e e ?_))))
 obtain ⟨y258,hy258,h⟩ := bindO h
 refine Ops.z 5128 (Ev.call [0,1] [] 0 (sem_slices_IndexFunc_int_i1 _ _ _ _ hy258) e e (.cons (.sl e) (.cons (.fn (.cons (.ptr e) .nil)) .nil)) e (.inl e) e e) e e (.p e (.nil (.seq (.so hm (.p2 e e (.nil (.condO e h (fun g260 h => ?_) (fun g260 h => ?_))))))))
 ·refine Run.so hm (.p2 e e (.nil (.ret ?_)))
  obtain rfl := someO h
  exact Ends.mkG (.inl e) e (gh_pk [0] [0,1] hB e e e e) e e
 ·refine Run.skip (.seqO h (fun v330 => [(0,.sl 0 3 0 v330.2.length),(5,VI v330.1)]) (fun (v330 : Int × (List Int)) => [(0,.vec 3 (v330.2.map encI)),(1,.box [VI x2.Id,VI x2.Term,VI x2.Vote,VI x2.Role,VI x2.Lead,RO 3 (x2.Conf.map encI),VI x2.Log.Start,VI x2.Log.StartTerm,RO 40 (x2.Log.Entries.map encEntry),VI x2.Commit,VI x2.Clock,VI x2.Limit,RO 3 (x2.Votes.map encI),RO 98 (x2.Peers.map encPeer)])]) (fun h => ?_) (fun v330 h => ?_))
  ·refine Run.so hm (.p3 e e e (.nil (.block ?_)))
   obtain ⟨res373,h,hk373⟩ := bindO h
   refine Run.loop (n := N) (fun m373 fr σ => ∃ (x331 : Int),∃ (x332 : Int),∃ (x333 : (List Int)),slices_DeleteFunc_int_l1 N x2 m373 x331 x332 x333 = some res373 ∧ fr = [(0,.sl 0 3 0 x333.length),(1,.fn 90 [.ptr 1 0]),(5,VI x331),(6,VI x332)] ∧ σ = [(0,.vec 3 (x333.map encI)),(1,.box [VI x2.Id,VI x2.Term,VI x2.Vote,VI x2.Role,VI x2.Lead,RO 3 (x2.Conf.map encI),VI x2.Log.Start,VI x2.Log.StartTerm,RO 40 (x2.Log.Entries.map encEntry),VI x2.Commit,VI x2.Clock,VI x2.Limit,RO 3 (x2.Votes.map encI),RO 98 (x2.Peers.map encPeer)])]) (gh_pk [0,1,5,6] [0,1] hB e e e e) ⟨_,_,_,h,e,e⟩ ?_
   rintro m373 fr σ ⟨x331,x332,x333,h,rfl,rfl⟩
   obtain _ | m373 := m373
   ·rw [slices_DeleteFunc_int_l1] at h; cases h
   rw [slices_DeleteFunc_int_l1] at h
   refine Run.seq (.so hm (.p3 e e e (.p e (.nil (.condO e h (fun g376 h => ?_) (fun g376 h => ?_))))))
   ·refine Run.skip (.seqO h (fun v388 => [(0,.sl 0 3 0 v388.2.length),(1,.fn 90 [.ptr 1 0]),(5,VI v388.1),(6,VI x332)]) (fun (v388 : Int × (List Int)) => [(0,.vec 3 (v388.2.map encI)),(1,.box [VI x2.Id,VI x2.Term,VI x2.Vote,VI x2.Role,VI x2.Lead,RO 3 (x2.Conf.map encI),VI x2.Log.Start,VI x2.Log.StartTerm,RO 40 (x2.Log.Entries.map encEntry),VI x2.Commit,VI x2.Clock,VI x2.Limit,RO 3 (x2.Votes.map encI),RO 98 (x2.Peers.map encPeer)])]) (fun h => ?_) (fun v388 h => ?_))
    ·refine Run.block (.so hm (.p2 e e ?_))
     obtain ⟨x392,hx392,h⟩ := bindO h
     refine Ops.z 29704 (Ev.iaW e e e hx392) e e (.z 29720 (Ev.ldE (f := encI) e e (at_some hx392).2 e e e) e e (.p e (.nil (.so hm (.p2 e e ?_)))))
     obtain ⟨y394,hy394,h⟩ := bindO h
     refine Ops.z 33800 (Ev.callx [1] [] 0 e (sem_impl_othersOf_1 _ _ _ _ hy394) e e (.d1 (.cons (.ptr e) .nil)) e (.inl e) e e) e e (.p e (.nil (.condO e h (fun g395 h => ?_) (fun g395 h => ?_))))
     ·refine Run.so hm (.p3 e e e ?_)
      obtain ⟨x399,hx399,h⟩ := bindO h
      exact Ops.z 37912 (Ev.iaW e e e hx399) e e (.y 37928 (Ev.stE (f := encI) (v' := x392) e e (at_some hx399).2 e (.d1 .nil) e e e e e) e e (.nil (.ops hm (.p3 e e e (.nil (⟨_,_,(gh_pk [0,1,5,6] [0,1] hB e e (by first | rfl | (simp only [List.length_set]; done) | (simp only [List.length_set]; rfl)) (by first | rfl | (simp only [List.length_set]; done) | (simp only [List.length_set]; rfl))),_,h,e,e⟩))))))
     ·exact Run.skip (⟨_,_,(gh_pk [0,1,5,6] [0,1] hB e e e e),_,h,e,e⟩)
    ·exact Run.ops hm (.p3 e e e (.nil (⟨m373,Nat.lt_succ_self m373,_,_,(gh_pk [0,1,5,6] [0,1] hB e e e e),_,_,_,h,e,e⟩)))
   ·refine Run.exit ?_
    obtain rfl := someO h
    have h := hk373
    exact ⟨_,_,(gh_pk [0,5] [0,1] hB e e e e),_,h,e,e⟩
  ·refine Run.so hm (.p2 e e ?_)
   obtain ⟨x406,hx406,h⟩ := bindO h
   refine Ops.z 46088 (Ev.slWl (xs := v330.2) e e e hx406) e e ?_
   obtain ⟨x407,hx407,h⟩ := bindO h
   refine Ops.y 46104 (Ev.clrW (f := encI) (zv := 0) e e e hx407) e e (.nil (.so hm (.p2 e e ?_)))
   obtain ⟨x409,hx409,h⟩ := bindO h
   refine Ops.z 50184 (Ev.slWh (xs := x407) e (clr_len hx407) e hx409) e e (.p e (.nil (.ret ?_)))
   obtain rfl := someO h
   exact Ends.mkG (.inl e) e (gh_pk [0] [0,1] hB e e e e) (by first | rfl | (simp only [List.length_set,(clr_len hx407)]; done) | (simp only [List.length_set,(clr_len hx407)]; rfl)) (by first | rfl | (simp only [List.length_set,(clr_len hx407)]; done) | (simp only [List.length_set,(clr_len hx407)]; rfl))
def impl_othersOf (N : Nat) (x1 : Node) : Option (Nat × (List Int)) :=
 (impl_ConfOf N x1).bind fun y109 =>
 (slices_DeleteFunc_int N y109 x1).bind fun y110 =>
 (len? y109 y110.2).bind fun y111 =>
 some (y110.1,y110.2)
theorem sem_impl_othersOf (N : Nat) (x1 : Node) (r : Nat × (List Int)) (h : impl_othersOf N x1 = some r) : Says Tryz.prog 48 [.agg [VI x1.Id,VI x1.Term,VI x1.Vote,VI x1.Role,VI x1.Lead,RO 3 (x1.Conf.map encI),VI x1.Log.Start,VI x1.Log.StartTerm,RO 40 (x1.Log.Entries.map encEntry),VI x1.Commit,VI x1.Clock,VI x1.Limit,RO 3 (x1.Votes.map encI),RO 98 (x1.Peers.map encPeer)]] 0 [] (.sl 0 3 0 r.1) [(0,.vec 3 (r.2.map encI))] := by
 unfold impl_othersOf at h
 refine Says.of_norm e Tryz.call48 e fun B hB => ?_
 have hm : B.m ≤ 1000 := by omega
 refine Run.so hm (.z 1000 (.bx e e) e e (.p e (.nil (.so hm (.p e ?_)))))
 obtain ⟨y109,hy109,h⟩ := bindO h
 refine Ops.z 5112 (Ev.call [] [] 1 (sem_impl_ConfOf _ _ _ hy109) e e (.cons (.agg (.d4 (.d4 (.d4 (.d2 .nil))))) .nil) e (.inl e) e e) e e (.p e ?_)
 obtain ⟨y110,hy110,h⟩ := bindO h
 obtain ⟨y111,hy111,h⟩ := bindO h
 refine Ops.z 5144 (Ev.call [5112,1000] [] 0 (sem_slices_DeleteFunc_int _ _ _ _ hy110) e e (.cons (.sl e) (.cons (.fn (.cons (.ptr e) .nil)) .nil)) e (.inl e) e e) e e (.p e (.nil (.ret ?_)))
 obtain rfl := someO h
 exact Ends.mkG (.inl e) e (gh_pk [0] [5112] hB e e e e) (by first | rfl | (simp only [List.length_set,(len_some hy111)]; done) | (simp only [List.length_set,(len_some hy111)]; rfl)) (by first | rfl | (simp only [List.length_set,(len_some hy111)]; done) | (simp only [List.length_set,(len_some hy111)]; rfl))
def slices_Equal_int_l1 (N : Nat) (x1 : (List Int)) (x2 : (List Int)) : Nat → Int → Option ((Bool) ⊕ (Unit))
 | 0,_ => none
 | m + 1,x172 =>
 (if (decide (x172 < (x1.length : Int))) = true then
 (at? x1 x172).bind fun x187 =>
 (at? x2 x172).bind fun x188 =>
 (if (x187 != x188) = true then
 some (Sum.inl false)
 else
 slices_Equal_int_l1 N x1 x2 m (w64 (x172 + 1)))
 else
 some (Sum.inr ()))
def slices_Equal_int_l1_r (N : Nat) (x1 : (List Int)) (x2 : (List Int)) : (List Int) → Int → Option ((Bool) ⊕ (Unit))
 | [],x172 =>
 some (Sum.inr ())
 | hd :: tl,x172 =>
 (some hd).bind fun x187 =>
 (at? x2 x172).bind fun x188 =>
 (if (x187 != x188) = true then
 some (Sum.inl false)
 else
 slices_Equal_int_l1_r N x1 x2 tl (w64 (x172 + 1)))
theorem slices_Equal_int_l1_rng (N : Nat) (x1 : (List Int)) (x2 : (List Int)) (hx : x1.length ≤ 1099511627776) : ∀ (d k m : Nat),x1.length = k + d → d < m → slices_Equal_int_l1 N x1 x2 m (k : Int) = slices_Equal_int_l1_r N x1 x2 (x1.drop k) (k : Int) := by
 intro d
 induction d with
 | zero =>
  intro k m hd hm
  obtain ⟨m,rfl⟩ : ∃ q,m = q + 1 := ⟨m - 1,by omega⟩
  rw [slices_Equal_int_l1,if_neg (by simp; omega),List.drop_eq_nil_of_le (by omega),slices_Equal_int_l1_r]
 | succ d ih =>
  intro k m hd hm
  obtain ⟨m,rfl⟩ : ∃ q,m = q + 1 := ⟨m - 1,by omega⟩
  have hk : k < x1.length := by omega
  rw [slices_Equal_int_l1,if_pos (by simp; omega),List.drop_eq_getElem_cons hk,slices_Equal_int_l1_r]
  have h1 := at_lt hk
  have h2 := w64_succ (k := k) (by omega)
  have h3 := ih (k + 1) m
  simp only [h1,h2,h3 (by omega) (by omega)]
theorem slices_Equal_int_l1_eq {N : Nat} (x1 : (List Int)) (x2 : (List Int)) (hx : x1.length ≤ 1099511627776) (hN : x1.length < N) : slices_Equal_int_l1 N x1 x2 N 0 = slices_Equal_int_l1_r N x1 x2 x1 0 := slices_Equal_int_l1_rng N x1 x2 hx x1.length 0 N (by omega) hN
def slices_Equal_int (N : Nat) (x1 : (List Int)) (x2 : (List Int)) : Option (Bool) :=
 (if ((x1.length : Int) != (x2.length : Int)) = true then
 some false
 else
 joinP (fun (v168 : Unit) =>
 some true) fun j168 =>
 (slices_Equal_int_l1 N x1 x2 N 0).bind (Sum.elim (fun v180 => some v180) (fun (v181 : Unit) => j168 ())))
theorem sem_slices_Equal_int (N : Nat) (x1 : (List Int)) (x2 : (List Int)) (r : Bool) (h : slices_Equal_int N x1 x2 = some r) : Says Tryz.prog 85 [RO 3 (x1.map encI),RO 3 (x2.map encI)] 0 [] (VB r) [] := by
 unfold slices_Equal_int at h
 refine Says.of_norm e Tryz.call85 e fun B hB => ?_
 have hm : B.m ≤ 1000 := by omega
 refine Run.so hm (.p e (.nil (.seq (.so hm (.p e (.z 5112 (Ev.lnF e) e e (.p e (.z 5144 (Ev.lnF e) e e (.p e (.nil (.condO e h (fun g146 h => ?_) (fun g146 h => ?_))))))))))))
 ·refine Run.so hm (.p e (.nil (.ret ?_)))
  obtain rfl := someO h
  exact Ends.mkG (.inl e) e (gh_pk [0] [] hB e e e e) e e
 ·refine Run.skip (.seqO h (fun v168 => []) (fun (v168 : Unit) => []) (fun h => ?_) (fun v168 h => ?_))
  ·refine Run.so hm (.p e (.z 13304 (Ev.lnF e) e e (.p e (.nil (.block ?_)))))
   obtain ⟨res181,h,hk181⟩ := bindO h
   refine Run.loop (n := N) (fun m181 fr σ => ∃ (x172 : Int),slices_Equal_int_l1 N x1 x2 m181 x172 = some res181 ∧ fr = [(0,RO 3 (x1.map encI)),(1,RO 3 (x2.map encI)),(12,VI (x1.length : Int)),(13,VI x172)] ∧ σ = []) (gh_pk [0,1,12,13] [] hB e e e e) ⟨_,h,e,e⟩ ?_
   rintro m181 fr σ ⟨x172,h,rfl,rfl⟩
   obtain _ | m181 := m181
   ·rw [slices_Equal_int_l1] at h; cases h
   rw [slices_Equal_int_l1] at h
   refine Run.so hm (.p e (.nil (.seq (.condO e h (fun g184 h => ?_) (fun g184 h => ?_)))))
   ·refine Run.skip (.seq (.block (.so hm (.p2 e e (.nil (.seq (.draw hm hmix (.p e (.p e ?_)))))))))
    obtain ⟨x187,hx187,h⟩ := bindO h
    refine OpsD.z 25608 (Ev.iaF e e hx187) e e (.p e (.p e (.p e ?_)))
    obtain ⟨x188,hx188,h⟩ := bindO h
    refine OpsD.z 25672 (Ev.iaF e e hx188) e e (.p e (.p e (.nil ⟨by kernel_rfl,?_⟩)))
    refine Run.condO e h (fun g189 h => ?_) (fun g189 h => ?_)
    ·refine Run.so hm (.p e (.nil (.ret ?_)))
     obtain rfl := someO h
     have h := hk181
     replace h := inlO h
     obtain rfl := someO h
     exact Ends.mkG (.inl e) e (gh_pk [0] [] hB e e e e) e e
    ·exact Run.skip (.ops hm (.p2 e e (.nil (⟨m181,Nat.lt_succ_self m181,_,_,(gh_pk [0,1,12,13] [] hB e e e e),_,h,e,e⟩))))
   ·refine Run.exit ?_
    obtain rfl := someO h
    have h := hk181
    replace h := inrO h
    exact ⟨_,_,(gh_pk [] [] hB e e e e),(),h,e,e⟩
  ·refine Run.so hm (.p e (.nil (.ret ?_)))
   obtain rfl := someO h
   exact Ends.mkG (.inl e) e (gh_pk [0] [] hB e e e e) e e
def impl_peersOk_l1 (N : Nat) (x1 : Node) : Nat → Int → (List Int) → Option ((Bool) ⊕ ((List Int)))
 | 0,_,_ => none
 | m + 1,x309,x324 =>
 (if (decide (x309 < (x1.Peers.length : Int))) = true then
 (at? x1.Peers x309).bind fun x356 =>
 (cat? x324 ([x356.Id] : List Int)).bind fun x360 =>
 (impl_last N x1.Log).bind fun y367 =>
 (impl_within N x356.Next 1 (w64 (y367 + 1))).bind fun y368 =>
 (if (!y368) = true then
 some (Sum.inl false)
 else
 (impl_within N x356.Match 0 (w64 (x356.Next - 1))).bind fun y370 =>
 (if (!y370) = true then
 some (Sum.inl false)
 else
 (impl_within N x356.Sent 0 20000).bind fun y372 =>
 (if (!y372) = true then
 some (Sum.inl false)
 else
 impl_peersOk_l1 N x1 m (w64 (x309 + 1)) x360)))
 else
 some (Sum.inr x324))
def impl_peersOk_l1_r (N : Nat) (x1 : Node) : (List Peer) → Int → (List Int) → Option ((Bool) ⊕ ((List Int)))
 | [],x309,x324 =>
 some (Sum.inr x324)
 | hd :: tl,x309,x324 =>
 (some hd).bind fun x356 =>
 (cat? x324 ([x356.Id] : List Int)).bind fun x360 =>
 (impl_last N x1.Log).bind fun y367 =>
 (impl_within N x356.Next 1 (w64 (y367 + 1))).bind fun y368 =>
 (if (!y368) = true then
 some (Sum.inl false)
 else
 (impl_within N x356.Match 0 (w64 (x356.Next - 1))).bind fun y370 =>
 (if (!y370) = true then
 some (Sum.inl false)
 else
 (impl_within N x356.Sent 0 20000).bind fun y372 =>
 (if (!y372) = true then
 some (Sum.inl false)
 else
 impl_peersOk_l1_r N x1 tl (w64 (x309 + 1)) x360)))
theorem impl_peersOk_l1_rng (N : Nat) (x1 : Node) (hx : x1.Peers.length ≤ 1099511627776) : ∀ (d k m : Nat) (x324 : (List Int)),x1.Peers.length = k + d → d < m → impl_peersOk_l1 N x1 m (k : Int) x324 = impl_peersOk_l1_r N x1 (x1.Peers.drop k) (k : Int) x324 := by
 intro d
 induction d with
 | zero =>
  intro k m x324 hd hm
  obtain ⟨m,rfl⟩ : ∃ q,m = q + 1 := ⟨m - 1,by omega⟩
  rw [impl_peersOk_l1,if_neg (by simp; omega),List.drop_eq_nil_of_le (by omega),impl_peersOk_l1_r]
 | succ d ih =>
  intro k m x324 hd hm
  obtain ⟨m,rfl⟩ : ∃ q,m = q + 1 := ⟨m - 1,by omega⟩
  have hk : k < x1.Peers.length := by omega
  rw [impl_peersOk_l1,if_pos (by simp; omega),List.drop_eq_getElem_cons hk,impl_peersOk_l1_r]
  have h1 := at_lt hk
  have h2 := w64_succ (k := k) (by omega)
  have h3 := ih (k + 1) m
  simp only [h1,h2,h3 _ (by omega) (by omega)]
theorem impl_peersOk_l1_eq {N : Nat} (x1 : Node) (hx : x1.Peers.length ≤ 1099511627776) (hN : x1.Peers.length < N) (x324 : (List Int)) : impl_peersOk_l1 N x1 N 0 x324 = impl_peersOk_l1_r N x1 x1.Peers 0 x324 := impl_peersOk_l1_rng N x1 hx x1.Peers.length 0 N x324 (by omega) hN
def impl_peersOk (N : Nat) (x1 : Node) : Option (Bool) :=
 joinP (fun (v306 : (List Int)) =>
 (impl_othersOf N x1).bind fun y376 =>
 (slices_Equal_int N v306 (y376.2.take y376.1)).bind fun y377 =>
 some y377) fun j306 =>
 (impl_peersOk_l1 N x1 N 0 ([] : (List Int))).bind (Sum.elim (fun v348 => some v348) (fun (v349 : (List Int)) => j306 v349))
theorem sem_impl_peersOk (N : Nat) (x1 : Node) (r : Bool) (h : impl_peersOk N x1 = some r) : Says Tryz.prog 42 [.agg [VI x1.Id,VI x1.Term,VI x1.Vote,VI x1.Role,VI x1.Lead,RO 3 (x1.Conf.map encI),VI x1.Log.Start,VI x1.Log.StartTerm,RO 40 (x1.Log.Entries.map encEntry),VI x1.Commit,VI x1.Clock,VI x1.Limit,RO 3 (x1.Votes.map encI),RO 98 (x1.Peers.map encPeer)]] 0 [] (VB r) [] := by
 unfold impl_peersOk at h
 refine Says.of_norm e Tryz.call42 e fun B hB => ?_
 have hm : B.m ≤ 1000 := by omega
 refine Run.so hm (.z 1000 (.bx e e) e e (.p e (.nil (.so hm (.p e (.nil (.seqO h (fun v306 => [(1,.ptr 0 0),(3,.sl 1 3 0 v306.length)]) (fun (v306 : (List Int)) => [(0,.box [VI x1.Id,VI x1.Term,VI x1.Vote,VI x1.Role,VI x1.Lead,RO 3 (x1.Conf.map encI),VI x1.Log.Start,VI x1.Log.StartTerm,RO 40 (x1.Log.Entries.map encEntry),VI x1.Commit,VI x1.Clock,VI x1.Limit,RO 3 (x1.Votes.map encI),RO 98 (x1.Peers.map encPeer)]),(1,.vec 3 (v306.map encI))]) (fun h => ?_) (fun v306 h => ?_))))))))
 ·refine Run.so hm (.p2 e e (.z 9224 (Ev.lnF e) e e (.p e (.nil (.block ?_)))))
  obtain ⟨res349,h,hk349⟩ := bindO h
  refine Run.loop (n := N) (fun m349 fr σ => ∃ (x309 : Int),∃ (x324 : (List Int)),impl_peersOk_l1 N x1 m349 x309 x324 = some res349 ∧ fr = [(1,.ptr 0 0),(3,.sl 1 3 0 x324.length),(7,RO 98 (x1.Peers.map encPeer)),(8,VI (x1.Peers.length : Int)),(9,VI x309)] ∧ σ = [(0,.box [VI x1.Id,VI x1.Term,VI x1.Vote,VI x1.Role,VI x1.Lead,RO 3 (x1.Conf.map encI),VI x1.Log.Start,VI x1.Log.StartTerm,RO 40 (x1.Log.Entries.map encEntry),VI x1.Commit,VI x1.Clock,VI x1.Limit,RO 3 (x1.Votes.map encI),RO 98 (x1.Peers.map encPeer)]),(1,.vec 3 (x324.map encI))]) (Gh.trans (Gh.trans (gh_prn [1,3,7,8,9] [1000] hB e) (gh_nil [3] [] hB e e e)) (gh_pk [1,3,7,8,9] [1000,10000000] hB e e e e)) ⟨_,_,h,e,e⟩ ?_
  rintro m349 fr σ ⟨x309,x324,h,rfl,rfl⟩
  obtain _ | m349 := m349
  ·rw [impl_peersOk_l1] at h; cases h
  rw [impl_peersOk_l1] at h
  refine Run.so hm (.p e (.nil (.seq (.condO e h (fun g352 h => ?_) (fun g352 h => ?_)))))
  ·refine Run.skip (.seq (.block (.so hm ?_)))
   obtain ⟨x356,hx356,h⟩ := bindO h
   refine Ops.z 17384 (Ev.iaF e e hx356) e e (.p e (.z 17416 (.al e e) e e (.y 17432 (.sto e e e e e e) e e (.nil (.so hm (.p3 e e e (.z 21528 (Ev.bsW (ys := ([x356.Id] : List Int)) (f := encI) e (.d1 .nil) e e e e e) e e ?_)))))))
   obtain ⟨x360,hx360,h⟩ := bindO h
   refine Ops.z 21544 (Ev.apW (f := encI) (ontoW e e e) (addsW e e e (fun _ => e)) e bt3 e hx360) e e (.p e (.nil (.seq (.draw hm hmix (.p e (.p e (.p e (.p e ?_))))))))
   obtain ⟨y367,hy367,h⟩ := bindO h
   refine OpsD.z 25640 (Ev.call [] [] 0 (sem_impl_last _ _ _ hy367) e e (.cons (.agg (.d2 (.d1 .nil))) .nil) e (.inl e) e e) e e (.p e ?_)
   obtain ⟨y368,hy368,h⟩ := bindO h
   refine OpsD.z 25672 (Ev.call [] [] 0 (sem_impl_within _ _ _ _ _ hy368) e e (.d2 (.d1 .nil)) e (.inl e) e e) e e (.p e (.p e (.askO (x := .t 26) e h (fun g369 h => ?_) (fun g369 h => ?_))))
   ·refine OpsD.gn e g369 (.gn e g369 (.gn e g369 (.gn e g369 (.gn e g369 (.gn e g369 (.gn e g369 (.z 25832 (.pkT e g369 e) e e (.p e (.gn e e (.gn e e (.gn e e (.gn e e (.z 25928 (.pkT e e e) e e (.nil ⟨by kernel_rfl,?_⟩))))))))))))))
    refine Run.condT e e (.so hm (.p e (.nil (.ret ?_))))
    obtain rfl := someO h
    have h := hk349
    replace h := inlO h
    obtain rfl := someO h
    exact Ends.mkG (.inl e) e (gh_pk [0] [] hB e e e e) e e
   ·refine OpsD.gp e g369 e (.gp e g369 e (.gp e g369 e (.gp e g369 e (.gp e g369 e ?_))))
    obtain ⟨y370,hy370,h⟩ := bindO h
    refine OpsD.gs (s := 25800) e g369 (Ev.call [] [] 0 (sem_impl_within _ _ _ _ _ hy370) e e (.d2 (.d1 .nil)) e (.inl e) e e) e e (.gp e g369 e (.z 25832 (.pkF e g369 e) e e (.p e (.askO (x := .t 35) e h (fun g371 h => ?_) (fun g371 h => ?_)))))
    ·refine OpsD.gn e g371 (.gn e g371 (.gn e g371 (.gn e g371 (.z 25928 (.pkT e g371 e) e e (.nil ⟨by kernel_rfl,?_⟩)))))
     refine Run.condT e e (.so hm (.p e (.nil (.ret ?_))))
     obtain rfl := someO h
     have h := hk349
     replace h := inlO h
     obtain rfl := someO h
     exact Ends.mkG (.inl e) e (gh_pk [0] [] hB e e e e) e e
    ·refine OpsD.gp e g371 e (.gp e g371 e ?_)
     obtain ⟨y372,hy372,h⟩ := bindO h
     refine OpsD.gs (s := 25896) e g371 (Ev.call [] [] 0 (sem_impl_within _ _ _ _ _ hy372) e e (.d2 (.d1 .nil)) e (.inl e) e e) e e (.gp e g371 e (.z 25928 (.pkF e g371 e) e e (.nil ⟨by kernel_rfl,?_⟩)))
     refine Run.condO e h (fun g373 h => ?_) (fun g373 h => ?_)
     ·refine Run.so hm (.p e (.nil (.ret ?_)))
      obtain rfl := someO h
      have h := hk349
      replace h := inlO h
      obtain rfl := someO h
      exact Ends.mkG (.inl e) e (gh_pk [0] [] hB e e e e) e e
     ·exact Run.skip (.ops hm (.p2 e e (.nil (⟨m349,Nat.lt_succ_self m349,_,_,(gh_pk [1,3,7,8,9] [0,21544] hB e e e e),_,_,h,e,e⟩))))
  ·refine Run.exit ?_
   obtain rfl := someO h
   have h := hk349
   replace h := inrO h
   exact ⟨_,_,(gh_pk [1,3] [0,1] hB e e e e),_,h,e,e⟩
 ·refine Run.so hm (.p2 e e ?_)
  obtain ⟨y376,hy376,h⟩ := bindO h
  refine Ops.z 37896 (Ev.call [] [] 1 (sem_impl_othersOf _ _ _ hy376) e e (.cons (.agg (.d4 (.d4 (.d4 (.d2 .nil))))) .nil) e (.inl e) e e) e e ?_
  obtain ⟨y377,hy377,h⟩ := bindO h
  refine Ops.z 37912 (Ev.call [] [1,37896] 0 (sem_slices_Equal_int _ _ _ _ hy377) e e (.cons (.borrow e (by decide) (lendW (fun _ => e) _ e)) (.cons (.borrow e (by decide) (lendP (fun _ => e) _ _ _)) .nil)) e (.inr ⟨e,ownL_root trivial⟩) e e) e e ?_
  refine Ops.p e (.nil (.ret ?_))
  obtain rfl := someO h
  exact Ends.mkG (.inl e) e (gh_pk [0] [] hB e e e e) e e
def impl_NodeOk_l1 (N : Nat) (x1 : Node) : Nat → Int → Option ((Bool) ⊕ (Unit))
 | 0,_ => none
 | m + 1,x427 =>
 (if (decide (x427 < (x1.Votes.length : Int))) = true then
 (at? x1.Votes x427).bind fun x465 =>
 (impl_within N x465 1 4).bind fun y470 =>
 (if (!y470) = true then
 some (Sum.inl false)
 else
 (if (decide (x427 > 0)) = true then
 (at? x1.Votes (w64 (x427 - 1))).bind fun x473 =>
 (if (decide (x473 ≥ x465)) = true then
 some (Sum.inl false)
 else
 impl_NodeOk_l1 N x1 m (w64 (x427 + 1)))
 else
 impl_NodeOk_l1 N x1 m (w64 (x427 + 1))))
 else
 some (Sum.inr ()))
def impl_NodeOk_l1_r (N : Nat) (x1 : Node) : (List Int) → Int → Option ((Bool) ⊕ (Unit))
 | [],x427 =>
 some (Sum.inr ())
 | hd :: tl,x427 =>
 (some hd).bind fun x465 =>
 (impl_within N x465 1 4).bind fun y470 =>
 (if (!y470) = true then
 some (Sum.inl false)
 else
 (if (decide (x427 > 0)) = true then
 (at? x1.Votes (w64 (x427 - 1))).bind fun x473 =>
 (if (decide (x473 ≥ x465)) = true then
 some (Sum.inl false)
 else
 impl_NodeOk_l1_r N x1 tl (w64 (x427 + 1)))
 else
 impl_NodeOk_l1_r N x1 tl (w64 (x427 + 1))))
theorem impl_NodeOk_l1_rng (N : Nat) (x1 : Node) (hx : x1.Votes.length ≤ 1099511627776) : ∀ (d k m : Nat),x1.Votes.length = k + d → d < m → impl_NodeOk_l1 N x1 m (k : Int) = impl_NodeOk_l1_r N x1 (x1.Votes.drop k) (k : Int) := by
 intro d
 induction d with
 | zero =>
  intro k m hd hm
  obtain ⟨m,rfl⟩ : ∃ q,m = q + 1 := ⟨m - 1,by omega⟩
  rw [impl_NodeOk_l1,if_neg (by simp; omega),List.drop_eq_nil_of_le (by omega),impl_NodeOk_l1_r]
 | succ d ih =>
  intro k m hd hm
  obtain ⟨m,rfl⟩ : ∃ q,m = q + 1 := ⟨m - 1,by omega⟩
  have hk : k < x1.Votes.length := by omega
  rw [impl_NodeOk_l1,if_pos (by simp; omega),List.drop_eq_getElem_cons hk,impl_NodeOk_l1_r]
  have h1 := at_lt hk
  have h2 := w64_succ (k := k) (by omega)
  have h3 := ih (k + 1) m
  simp only [h1,h2,h3 (by omega) (by omega)]
theorem impl_NodeOk_l1_eq {N : Nat} (x1 : Node) (hx : x1.Votes.length ≤ 1099511627776) (hN : x1.Votes.length < N) : impl_NodeOk_l1 N x1 N 0 = impl_NodeOk_l1_r N x1 x1.Votes 0 := impl_NodeOk_l1_rng N x1 hx x1.Votes.length 0 N (by omega) hN
def impl_NodeOk (N : Nat) (x1 : Node) : Option (Bool) :=
 (impl_within N x1.Id 1 4).bind fun y310 =>
 (if (!y310) = true then
 some false
 else
 (impl_ConfOk N x1.Conf).bind fun y312 =>
 (if (!y312) = true then
 some false
 else
 (impl_LogOk N x1.Log).bind fun y314 =>
 (if (!y314) = true then
 some false
 else
 (impl_LogLast N x1.Log).bind fun y319 =>
 (impl_within N x1.Term y319.2 100000).bind fun y360 =>
 (if (!y360) = true then
 some false
 else
 (impl_within N x1.Vote 0 4).bind fun y362 =>
 (if (!y362) = true then
 some false
 else
 (impl_within N x1.Lead 0 4).bind fun y364 =>
 (if (!y364) = true then
 some false
 else
 (impl_within N x1.Role 0 2).bind fun y366 =>
 (if (!y366) = true then
 some false
 else
 (impl_within N x1.Commit x1.Log.Start y319.1).bind fun y368 =>
 (if (!y368) = true then
 some false
 else
 (impl_within N x1.Limit 1 20).bind fun y370 =>
 (if (!y370) = true then
 some false
 else
 (impl_within N x1.Clock 0 20).bind fun y372 =>
 (if (!y372) = true then
 some false
 else
 joinP (fun (v424 : Unit) =>
 joinP (fun (v478 : Unit) =>
 (if (x1.Role == 2) = true then
 (impl_peersOk N x1).bind fun y487 =>
 some y487
 else
 some ((x1.Peers.length : Int) == 0))) fun j478 =>
 (if (x1.Role != 1) = true then
 (if (decide ((x1.Votes.length : Int) > 0)) = true then
 some false
 else
 j478 ())
 else
 j478 ())) fun j424 =>
 (impl_NodeOk_l1 N x1 N 0).bind (Sum.elim (fun v457 => some v457) (fun (v458 : Unit) => j424 ()))))))))))))
theorem sem_impl_NodeOk (N : Nat) (x1 : Node) (r : Bool) (h : impl_NodeOk N x1 = some r) : Says Tryz.prog 13 [.agg [VI x1.Id,VI x1.Term,VI x1.Vote,VI x1.Role,VI x1.Lead,RO 3 (x1.Conf.map encI),VI x1.Log.Start,VI x1.Log.StartTerm,RO 40 (x1.Log.Entries.map encEntry),VI x1.Commit,VI x1.Clock,VI x1.Limit,RO 3 (x1.Votes.map encI),RO 98 (x1.Peers.map encPeer)]] 0 [] (VB r) [] := by
 unfold impl_NodeOk at h
 refine Says.of_norm e Tryz.call13 e fun B hB => ?_
 have hm : B.m ≤ 1000 := by omega
 refine Run.so hm (.z 1000 (.bx e e) e e (.p e (.nil (.seq (.so hm (.p2 e e ?_))))))
 obtain ⟨y310,hy310,h⟩ := bindO h
 refine Ops.z 5128 (Ev.call [] [] 0 (sem_impl_within _ _ _ _ _ hy310) e e (.d2 (.d1 .nil)) e (.inl e) e e) e e (.p2 e e (.askO (x := .t 11) e h (fun g311 h => ?_) (fun g311 h => ?_)))
 ·refine Ops.gn e g311 (.gn e g311 (.gn e g311 (.gn e g311 (.z 5240 (.pkT e g311 e) e e (.p e (.gn e e (.gn e e (.gn e e (.gn e e (.z 5336 (.pkT e e e) e e (.nil (.condT e e (.so hm (.p e (.nil (.ret ?_))))))))))))))))
  obtain rfl := someO h
  exact Ends.mkG (.inl e) e (gh_pk [0] [] hB e e e e) e e
 ·refine Ops.gp e g311 e (.gp e g311 e ?_)
  obtain ⟨y312,hy312,h⟩ := bindO h
  refine Ops.gs (s := 5208) e g311 (Ev.call [] [] 0 (sem_impl_ConfOk _ _ _ hy312) e e (.d1 .nil) e (.inl e) e e) e e (.gp e g311 e (.z 5240 (.pkF e g311 e) e e (.p e (.askO (x := .t 17) e h (fun g313 h => ?_) (fun g313 h => ?_)))))
  ·refine Ops.gn e g313 (.gn e g313 (.gn e g313 (.gn e g313 (.z 5336 (.pkT e g313 e) e e (.nil (.condT e e (.so hm (.p e (.nil (.ret ?_))))))))))
   obtain rfl := someO h
   exact Ends.mkG (.inl e) e (gh_pk [0] [] hB e e e e) e e
  ·refine Ops.gp e g313 e (.gp e g313 e ?_)
   obtain ⟨y314,hy314,h⟩ := bindO h
   refine Ops.gs (s := 5304) e g313 (Ev.call [] [] 0 (sem_impl_LogOk _ _ _ hy314) e e (.cons (.agg (.d2 (.d1 .nil))) .nil) e (.inl e) e e) e e (.gp e g313 e (.z 5336 (.pkF e g313 e) e e (.nil (.condO e h (fun g315 h => ?_) (fun g315 h => ?_)))))
   ·refine Run.so hm (.p e (.nil (.ret ?_)))
    obtain rfl := someO h
    exact Ends.mkG (.inl e) e (gh_pk [0] [] hB e e e e) e e
   ·refine Run.skip (.so hm (.p2 e e ?_))
    obtain ⟨y319,hy319,h⟩ := bindO h
    refine Ops.z 13320 (Ev.call [] [] 0 (sem_impl_LogLast _ _ _ hy319) e e (.cons (.agg (.d2 (.d1 .nil))) .nil) e (.inl e) e e) e e (.p3 e e e (.p2 e e (.nil (.seq (.so hm (.p3 e e e ?_))))))
    obtain ⟨y360,hy360,h⟩ := bindO h
    refine Ops.z 17432 (Ev.call [] [] 0 (sem_impl_within _ _ _ _ _ hy360) e e (.d2 (.d1 .nil)) e (.inl e) e e) e e (.p2 e e (.askO (x := .t 34) e h (fun g361 h => ?_) (fun g361 h => ?_)))
    ·refine Ops.gn e g361 (.gn e g361 (.gn e g361 (.gn e g361 (.z 17544 (.pkT e g361 e) e e (.p e (.gn e e (.gn e e (.gn e e (.gn e e (.z 17640 (.pkT e e e) e e (.p e (.gn e e (.gn e e (.gn e e (.gn e e (.z 17736 (.pkT e e e) e e (.p e (.gn e e (.gn e e (.gn e e (.gn e e (.gn e e (.gn e e (.gn e e (.gn e e (.z 17896 (.pkT e e e) e e (.p e (.gn e e (.gn e e (.gn e e (.gn e e (.z 17992 (.pkT e e e) e e (.p e (.gn e e (.gn e e (.gn e e (.gn e e (.z 18088 (.pkT e e e) e e (.nil (.condT e e (.so hm (.p e (.nil (.ret ?_))))))))))))))))))))))))))))))))))))))))))))
     obtain rfl := someO h
     exact Ends.mkG (.inl e) e (gh_pk [0] [] hB e e e e) e e
    ·refine Ops.gp e g361 e (.gp e g361 e ?_)
     obtain ⟨y362,hy362,h⟩ := bindO h
     refine Ops.gs (s := 17512) e g361 (Ev.call [] [] 0 (sem_impl_within _ _ _ _ _ hy362) e e (.d2 (.d1 .nil)) e (.inl e) e e) e e (.gp e g361 e (.z 17544 (.pkF e g361 e) e e (.p e (.askO (x := .t 40) e h (fun g363 h => ?_) (fun g363 h => ?_)))))
     ·refine Ops.gn e g363 (.gn e g363 (.gn e g363 (.gn e g363 (.z 17640 (.pkT e g363 e) e e (.p e (.gn e e (.gn e e (.gn e e (.gn e e (.z 17736 (.pkT e e e) e e (.p e (.gn e e (.gn e e (.gn e e (.gn e e (.gn e e (.gn e e (.gn e e (.gn e e (.z 17896 (.pkT e e e) e e (.p e (.gn e e (.gn e e (.gn e e (.gn e e (.z 17992 (.pkT e e e) e e (.p e (.gn e e (.gn e e (.gn e e (.gn e e (.z 18088 (.pkT e e e) e e (.nil (.condT e e (.so hm (.p e (.nil (.ret ?_))))))))))))))))))))))))))))))))))))))
      obtain rfl := someO h
      exact Ends.mkG (.inl e) e (gh_pk [0] [] hB e e e e) e e
     ·refine Ops.gp e g363 e (.gp e g363 e ?_)
      obtain ⟨y364,hy364,h⟩ := bindO h
      refine Ops.gs (s := 17608) e g363 (Ev.call [] [] 0 (sem_impl_within _ _ _ _ _ hy364) e e (.d2 (.d1 .nil)) e (.inl e) e e) e e (.gp e g363 e (.z 17640 (.pkF e g363 e) e e (.p e (.askO (x := .t 46) e h (fun g365 h => ?_) (fun g365 h => ?_)))))
      ·refine Ops.gn e g365 (.gn e g365 (.gn e g365 (.gn e g365 (.z 17736 (.pkT e g365 e) e e (.p e (.gn e e (.gn e e (.gn e e (.gn e e (.gn e e (.gn e e (.gn e e (.gn e e (.z 17896 (.pkT e e e) e e (.p e (.gn e e (.gn e e (.gn e e (.gn e e (.z 17992 (.pkT e e e) e e (.p e (.gn e e (.gn e e (.gn e e (.gn e e (.z 18088 (.pkT e e e) e e (.nil (.condT e e (.so hm (.p e (.nil (.ret ?_))))))))))))))))))))))))))))))))
       obtain rfl := someO h
       exact Ends.mkG (.inl e) e (gh_pk [0] [] hB e e e e) e e
      ·refine Ops.gp e g365 e (.gp e g365 e ?_)
       obtain ⟨y366,hy366,h⟩ := bindO h
       refine Ops.gs (s := 17704) e g365 (Ev.call [] [] 0 (sem_impl_within _ _ _ _ _ hy366) e e (.d2 (.d1 .nil)) e (.inl e) e e) e e (.gp e g365 e (.z 17736 (.pkF e g365 e) e e (.p e (.askO (x := .t 52) e h (fun g367 h => ?_) (fun g367 h => ?_)))))
       ·refine Ops.gn e g367 (.gn e g367 (.gn e g367 (.gn e g367 (.gn e g367 (.gn e g367 (.gn e g367 (.gn e g367 (.z 17896 (.pkT e g367 e) e e (.p e (.gn e e (.gn e e (.gn e e (.gn e e (.z 17992 (.pkT e e e) e e (.p e (.gn e e (.gn e e (.gn e e (.gn e e (.z 18088 (.pkT e e e) e e (.nil (.condT e e (.so hm (.p e (.nil (.ret ?_))))))))))))))))))))))))))
        obtain rfl := someO h
        exact Ends.mkG (.inl e) e (gh_pk [0] [] hB e e e e) e e
       ·refine Ops.gp e g367 e (.gp e g367 e (.gp e g367 e (.gp e g367 e (.gp e g367 e (.gp e g367 e ?_)))))
        obtain ⟨y368,hy368,h⟩ := bindO h
        refine Ops.gs (s := 17864) e g367 (Ev.call [] [] 0 (sem_impl_within _ _ _ _ _ hy368) e e (.d2 (.d1 .nil)) e (.inl e) e e) e e (.gp e g367 e (.z 17896 (.pkF e g367 e) e e (.p e (.askO (x := .t 62) e h (fun g369 h => ?_) (fun g369 h => ?_)))))
        ·refine Ops.gn e g369 (.gn e g369 (.gn e g369 (.gn e g369 (.z 17992 (.pkT e g369 e) e e (.p e (.gn e e (.gn e e (.gn e e (.gn e e (.z 18088 (.pkT e e e) e e (.nil (.condT e e (.so hm (.p e (.nil (.ret ?_))))))))))))))))
         obtain rfl := someO h
         exact Ends.mkG (.inl e) e (gh_pk [0] [] hB e e e e) e e
        ·refine Ops.gp e g369 e (.gp e g369 e ?_)
         obtain ⟨y370,hy370,h⟩ := bindO h
         refine Ops.gs (s := 17960) e g369 (Ev.call [] [] 0 (sem_impl_within _ _ _ _ _ hy370) e e (.d2 (.d1 .nil)) e (.inl e) e e) e e (.gp e g369 e (.z 17992 (.pkF e g369 e) e e (.p e (.askO (x := .t 68) e h (fun g371 h => ?_) (fun g371 h => ?_)))))
         ·refine Ops.gn e g371 (.gn e g371 (.gn e g371 (.gn e g371 (.z 18088 (.pkT e g371 e) e e (.nil (.condT e e (.so hm (.p e (.nil (.ret ?_))))))))))
          obtain rfl := someO h
          exact Ends.mkG (.inl e) e (gh_pk [0] [] hB e e e e) e e
         ·refine Ops.gp e g371 e (.gp e g371 e ?_)
          obtain ⟨y372,hy372,h⟩ := bindO h
          refine Ops.gs (s := 18056) e g371 (Ev.call [] [] 0 (sem_impl_within _ _ _ _ _ hy372) e e (.d2 (.d1 .nil)) e (.inl e) e e) e e (.gp e g371 e (.z 18088 (.pkF e g371 e) e e (.nil (.condO e h (fun g373 h => ?_) (fun g373 h => ?_)))))
          ·refine Run.so hm (.p e (.nil (.ret ?_)))
           obtain rfl := someO h
           exact Ends.mkG (.inl e) e (gh_pk [0] [] hB e e e e) e e
          ·refine Run.skip (.seqO h (fun v424 => [(1,.ptr 0 0)]) (fun (v424 : Unit) => [(0,.box [VI x1.Id,VI x1.Term,VI x1.Vote,VI x1.Role,VI x1.Lead,RO 3 (x1.Conf.map encI),VI x1.Log.Start,VI x1.Log.StartTerm,RO 40 (x1.Log.Entries.map encEntry),VI x1.Commit,VI x1.Clock,VI x1.Limit,RO 3 (x1.Votes.map encI),RO 98 (x1.Peers.map encPeer)])]) (fun h => ?_) (fun v424 h => ?_))
           ·refine Run.so hm (.p2 e e (.z 25608 (Ev.lnF e) e e (.p e (.nil (.block ?_)))))
            obtain ⟨res458,h,hk458⟩ := bindO h
            refine Run.loop (n := N) (fun m458 fr σ => ∃ (x427 : Int),impl_NodeOk_l1 N x1 m458 x427 = some res458 ∧ fr = [(1,.ptr 0 0),(75,RO 3 (x1.Votes.map encI)),(76,VI (x1.Votes.length : Int)),(77,VI x427)] ∧ σ = [(0,.box [VI x1.Id,VI x1.Term,VI x1.Vote,VI x1.Role,VI x1.Lead,RO 3 (x1.Conf.map encI),VI x1.Log.Start,VI x1.Log.StartTerm,RO 40 (x1.Log.Entries.map encEntry),VI x1.Commit,VI x1.Clock,VI x1.Limit,RO 3 (x1.Votes.map encI),RO 98 (x1.Peers.map encPeer)])]) (gh_pk [1,75,76,77] [1000] hB e e e e) ⟨_,h,e,e⟩ ?_
            rintro m458 fr σ ⟨x427,h,rfl,rfl⟩
            obtain _ | m458 := m458
            ·rw [impl_NodeOk_l1] at h; cases h
            rw [impl_NodeOk_l1] at h
            refine Run.so hm (.p e (.nil (.seq (.condO e h (fun g461 h => ?_) (fun g461 h => ?_)))))
            ·refine Run.skip (.seq (.block (.so hm (.p e ?_))))
             obtain ⟨x465,hx465,h⟩ := bindO h
             refine Ops.z 33784 (Ev.iaF e e hx465) e e (.p3 e e e (.nil (.so hm (.p e ?_))))
             obtain ⟨y470,hy470,h⟩ := bindO h
             refine Ops.z 37880 (Ev.call [] [] 0 (sem_impl_within _ _ _ _ _ hy470) e e (.d2 (.d1 .nil)) e (.inl e) e e) e e (.p2 e e (.askO (x := .t 85) e h (fun g471 h => ?_) (fun g471 h => ?_)))
             ·refine Ops.gn e g471 (.gn e g471 (.gn e g471 (.gu e (.gu e (.gu e (.gu e (.gu e (.gu e (.gu e (.gu e (.gn e g471 (.z 38120 (.pkT e g471 e) e e (.nil (.condT e e (.so hm (.p e (.nil (.ret ?_))))))))))))))))))
              obtain rfl := someO h
              have h := hk458
              replace h := inlO h
              obtain rfl := someO h
              exact Ends.mkG (.inl e) e (gh_pk [0] [] hB e e e e) e e
             ·refine Ops.gp e g471 e (.gp e g471 e (.gp e g471 e (.askO (x := .t 88) e h (fun g472 h => ?_) (fun g472 h => ?_))))
              ·refine Ops.gp e g472 e (.gp e g472 e (.gp e g472 e (.gp e g472 e ?_)))
               obtain ⟨x473,hx473,h⟩ := bindO h
               refine Ops.gs (s := 38040) e g472 (Ev.iaF e e hx473) e e (.gp e g472 e (.gp e g472 e (.gp e g472 e (.gs (s := 38104) e g471 (.pkT e g472 e) e e (.z 38120 (.pkF e g471 e) e e (.nil (.condO e h (fun g474 h => ?_) (fun g474 h => ?_))))))))
               ·refine Run.so hm (.p e (.nil (.ret ?_)))
                obtain rfl := someO h
                have h := hk458
                replace h := inlO h
                obtain rfl := someO h
                exact Ends.mkG (.inl e) e (gh_pk [0] [] hB e e e e) e e
               ·exact Run.skip (.ops hm (.p2 e e (.nil (⟨m458,Nat.lt_succ_self m458,_,_,(gh_pk [1,75,76,77] [0] hB e e e e),_,h,e,e⟩))))
              ·exact Ops.gn e g472 (.gn e g472 (.gn e g472 (.gn e g472 (.gn e g472 (.gn e g472 (.gn e g472 (.gn e g472 (.gs (s := 38104) e g471 (.pkF e g472 e) e e (.z 38120 (.pkF e g471 e) e e (.nil (.condF e e (.skip (.ops hm (.p2 e e (.nil (⟨m458,Nat.lt_succ_self m458,_,_,(gh_pk [1,75,76,77] [0] hB e e e e),_,h,e,e⟩))))))))))))))))
            ·refine Run.exit ?_
             obtain rfl := someO h
             have h := hk458
             replace h := inrO h
             exact ⟨_,_,(gh_pk [1] [0] hB e e e e),(),h,e,e⟩
           ·refine Run.seqO h (fun v478 => [(1,.ptr 0 0)]) (fun (v478 : Unit) => [(0,.box [VI x1.Id,VI x1.Term,VI x1.Vote,VI x1.Role,VI x1.Lead,RO 3 (x1.Conf.map encI),VI x1.Log.Start,VI x1.Log.StartTerm,RO 40 (x1.Log.Entries.map encEntry),VI x1.Commit,VI x1.Clock,VI x1.Limit,RO 3 (x1.Votes.map encI),RO 98 (x1.Peers.map encPeer)])]) (fun h => ?_) (fun v478 h => ?_)
            ·refine Run.so hm (.p3 e e e (.p e (.askO (x := .t 103) e h (fun g480 h => ?_) (fun g480 h => ?_))))
             ·refine Ops.gp e g480 e (.gp e g480 e (.gs (s := 50248) e g480 (Ev.lnF e) e e (.gp e g480 e (.z 50280 (.pkT e g480 e) e e (.nil (.condO e h (fun g481 h => ?_) (fun g481 h => ?_)))))))
              ·refine Run.so hm (.p e (.nil (.ret ?_)))
               obtain rfl := someO h
               exact Ends.mkG (.inl e) e (gh_pk [0] [] hB e e e e) e e
              ·exact Run.skip (⟨_,_,(gh_pk [1] [0] hB e e e e),(),h,e,e⟩)
             ·exact Ops.gn e g480 (.gn e g480 (.gn e g480 (.gn e g480 (.z 50280 (.pkF e g480 e) e e (.nil (.condF e e (.skip (⟨_,_,(gh_pk [1] [0] hB e e e e),(),h,e,e⟩))))))))
            ·refine Run.seq (.so hm (.p3 e e e (.nil (.condO e h (fun g485 h => ?_) (fun g485 h => ?_)))))
             ·refine Run.so hm (.p e ?_)
              obtain ⟨y487,hy487,h⟩ := bindO h
              refine Ops.z 62456 (Ev.call [] [] 0 (sem_impl_peersOk _ _ _ hy487) e e (.cons (.agg (.d4 (.d4 (.d4 (.d2 .nil))))) .nil) e (.inl e) e e) e e (.p e (.nil (.ret ?_)))
              obtain rfl := someO h
              exact Ends.mkG (.inl e) e (gh_pk [0] [] hB e e e e) e e
             ·refine Run.skip (.so hm (.p2 e e (.z 66568 (Ev.lnF e) e e (.p2 e e (.nil (.ret ?_))))))
              obtain rfl := someO h
              exact Ends.mkG (.inl e) e (gh_pk [0] [] hB e e e e) e e
end Go.Proofs.YtkojbcnafckofaaGreat.Pe.FnStays
