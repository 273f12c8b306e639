/- Functions,as pure functions; and that Go does just that. -/
import Derived.Test.YthlhkcnilehbbaaPeFFnLogs3
namespace Go.Proofs.Ythlhkcnilehbbaa.Pe.FnLogs
open Go Go.RowKit
set_option linter.unusedVariables false
set_option linter.unusedSimpArgs false
set_option maxHeartbeats 40000000
set_option maxRecDepth 100000
def impl_ReadLog_l1 (N : Nat) (y296 : (List ByteArray) × Int) : Nat → Int → Int → Int → (List Entry) → Option ((Log × Int × Bool) ⊕ (Int × Int × (List Entry)))
 | 0,_,_,_,_ => none
 | m + 1,x389,x393,x394,x396 =>
 (if (decide (x389 < ((y296.1.length : Nat) : Int))) = true then
 (at? y296.1 x389).bind fun x443 =>
 (impl_readStart N x443).bind fun y452 =>
 (if y452.2 = true then
 impl_ReadLog_l1 N y296 m (w64 (x389 + 1)) y452.1.Start y452.1.StartTerm y452.1.Entries
 else
 (impl_ReadEntry N x443).bind fun y457 =>
 (if (!y457.2.2) = true then
 some (Sum.inl ((Log.mk 0 0 ([])),0,false))
 else
 (if (x389 == 0) = true then
 some (Sum.inl ((Log.mk 0 0 ([])),0,false))
 else
 (impl_within N (w64 (y457.1 - x393)) 1 (w64 (((x396.length : Nat) : Int) + 1))).bind fun y470 =>
 (if (!y470) = true then
 some (Sum.inl ((Log.mk 0 0 ([])),0,false))
 else
 (take? x396 (w64 ((w64 (y457.1 - x393)) - 1))).bind fun x474 =>
 (cat? (x396.take ((w64 ((w64 (y457.1 - x393)) - 1)).toNat)) ([y457.2.1] : List Entry)).bind fun x475 =>
 impl_ReadLog_l1 N y296 m (w64 (x389 + 1)) x393 x394 x475))))
 else
 some (Sum.inr (x393,x394,x396)))
def impl_ReadLog (N : Nat) (x1 : ByteArray) : Option (Log × Int × Bool) :=
 (impl_Unframe N x1).bind fun y296 =>
 joinP (fun (v386 : Int × Int × (List Entry)) =>
 (if (((y296.1.length : Nat) : Int) == 0) = true then
 some ((Log.mk 0 0 ([])),0,false)
 else
 (impl_LogOk N (Log.mk v386.1 v386.2.1 v386.2.2)).bind fun y484 =>
 (if (!y484) = true then
 some ((Log.mk 0 0 ([])),0,false)
 else
 some ((Log.mk v386.1 v386.2.1 v386.2.2),y296.2,true)))) fun j386 =>
 (impl_ReadLog_l1 N y296 N 0 0 0 ([] : (List Entry))).bind (Sum.elim (fun v435 => some v435) (fun (v436 : Int × Int × (List Entry)) => j386 (v436.1,v436.2.1,v436.2.2)))
theorem sem_impl_ReadLog (N : Nat) (x1 : ByteArray) (r : Log × Int × Bool) (h : impl_ReadLog N x1 = some r) : Says Try.prog 7 [VS x1] 0 [] (.tup [.agg [VI r.1.Start,VI r.1.StartTerm,.sl 0 51 0 r.1.Entries.length],VI r.2.1,VB r.2.2]) [(0,.vec 51 (r.1.Entries.map encEntry))] := by
 unfold impl_ReadLog at h
 refine Says.of_norm e Try.call7 e fun B hB => ?_
 have hm : B.m ≤ 1000 := by omega
 refine Run.so hm (.z 1000 (.al e e) e e (.p2 e e (.nil (.so hm (.p e ?_)))))
 obtain ⟨y296,hy296,h⟩ := bindO h
 refine Ops.z 5112 (Ev.call [] [] 1 (sem_impl_Unframe _ _ _ hy296) e e (.d1 .nil) e (.inl e) e e) e e (.p3 e e e (.p2 e e (.nil (.so hm (.z 9192 (.al e e) e e (.nil (.seqO h (fun v386 => [(2,.ptr 0 0),(5,.sl 1 9 0 y296.1.length),(6,VI y296.2),(7,.ptr 2 0)]) (fun (v386 : Int × Int × (List Entry)) => [(0,.box [VI 0,VI 0,.sl 3 51 0 (([] : (List Entry)).length)]),(1,.vec 9 (y296.1.map encS)),(2,.box [VI v386.1,VI v386.2.1,.sl 4 51 0 v386.2.2.length]),(3,.vec 51 (([] : (List Entry)).map encEntry)),(4,.vec 51 (v386.2.2.map encEntry))]) (fun h => ?_) (fun v386 h => ?_))))))))
 ·refine Run.so hm (.p3 e e e (.nil (.block ?_)))
  obtain ⟨res436,h,hk436⟩ := bindO h
  refine Run.loop (n := N) (fun m436 fr σ => ∃ (x389 : Int),∃ (x393 : Int),∃ (x394 : Int),∃ (x396 : (List Entry)),impl_ReadLog_l1 N y296 m436 x389 x393 x394 x396 = some res436 ∧ fr = [(2,.ptr 0 0),(5,.sl 1 9 0 y296.1.length),(6,VI y296.2),(7,.ptr 2 0),(20,.sl 1 9 0 y296.1.length),(21,VI ((y296.1.length : Nat) : Int)),(22,VI x389)] ∧ σ = [(0,.box [VI 0,VI 0,.sl 3 51 0 (([] : (List Entry)).length)]),(1,.vec 9 (y296.1.map encS)),(2,.box [VI x393,VI x394,.sl 4 51 0 x396.length]),(3,.vec 51 (([] : (List Entry)).map encEntry)),(4,.vec 51 (x396.map encEntry))]) (Gh.trans (Gh.trans (gh_prn [2,5,6,7,20,21,22] [1000,5112,9192] hB e) (gh_nil [] [1000,9192] hB e e e)) (gh_pk [2,5,6,7,20,21,22] [1000,5112,9192,20000000,20000064] hB e e e e)) ⟨_,_,_,_,h,e,e⟩ ?_
  rintro m436 fr σ ⟨x389,x393,x394,x396,h,rfl,rfl⟩
  obtain _ | m436 := m436
  ·rw [impl_ReadLog_l1] at h; cases h
  rw [impl_ReadLog_l1] at h
  refine Run.so hm (.p e (.nil (.seq (.condO e h (fun g439 h => ?_) (fun g439 h => ?_)))))
  ·refine Run.skip (.seq (.block (.so hm (.p e ?_))))
   obtain ⟨x443,hx443,h⟩ := bindO h
   refine Ops.z 21496 (Ev.iaW e e e hx443) e e (.z 21512 (Ev.ldE (f := encS) e e (at_some hx443).2 e e e) e e (.p2 e e (.nil (.seq (.so hm (.p e ?_))))))
   obtain ⟨y452,hy452,h⟩ := bindO h
   refine Ops.z 25592 (Ev.call [] [] 1 (sem_impl_readStart _ _ _ hy452) e e (.d1 .nil) e (.inl e) e e) e e (.p3 e e e (.z 25656 (.al e e) e e (.y 25672 (.sto e e e e e e) e e (.p e (.nil (.so hm (.p e (.nil (.condO e h (fun g453 h => ?_) (fun g453 h => ?_))))))))))
   ·exact Run.so hm (.p e (.y 33784 (.sto e e e e e e) e e (.nil (.exit (.ops hm (.p2 e e (.nil (⟨m436,Nat.lt_succ_self m436,_,_,(gh_pk [2,5,6,7,20,21,22] [0,1,2,3,25592] hB e e e e),_,_,_,_,h,e,e⟩))))))))
   ·refine Run.skip (.so hm (.p e ?_))
    obtain ⟨y457,hy457,h⟩ := bindO h
    refine Ops.z 37880 (Ev.call [] [] 0 (sem_impl_ReadEntry _ _ _ hy457) e e (.d1 .nil) e (.inl e) e e) e e (.p3 e e e (.p e (.z 37960 (.al e e) e e (.p e (.y 37992 (.sto e e e e e e) e e (.p e (.nil (.seq (.so hm (.p3 e e e (.askO (x := .t 42) e h (fun g468 h => ?_) (fun g468 h => ?_))))))))))))
    ·refine Ops.gn e g468 (.gn e g468 (.z 42040 (.pkT e g468 e) e e (.p e (.gn e e (.gn e e (.gn e e (.gn e e (.gn e e (.gn e e (.gn e e (.gn e e (.gn e e (.gn e e (.z 42232 (.pkT e e e) e e (.nil (.condT e e (.so hm (.z 46056 (.bd e e) e e (.y 46072 (.sto e e e e e e) e e (.p2 e e (.nil (.ret ?_))))))))))))))))))))))
     obtain rfl := someO h
     have h := hk436
     replace h := inlO h
     obtain rfl := someO h
     exact Ends.mkG (.inl e) e (Gh.trans (Gh.trans (gh_prn [0,1,2] [] hB e) (gh_nil [0] [] hB e e e)) (gh_pk [0,1,2] [10000000] hB e e e e)) e e
    ·refine Ops.gp e g468 e (.gp e g468 e (.z 42040 (.pkF e g468 e) e e (.p e (.askO (x := .t 46) e h (fun g469 h => ?_) (fun g469 h => ?_)))))
     ·refine Ops.gn e g469 (.gn e g469 (.gn e g469 (.gn e g469 (.gn e g469 (.gn e g469 (.gn e g469 (.gn e g469 (.gn e g469 (.gn e g469 (.z 42232 (.pkT e g469 e) e e (.nil (.condT e e (.so hm (.z 46056 (.bd e e) e e (.y 46072 (.sto e e e e e e) e e (.p2 e e (.nil (.ret ?_))))))))))))))))))
      obtain rfl := someO h
      have h := hk436
      replace h := inlO h
      obtain rfl := someO h
      exact Ends.mkG (.inl e) e (Gh.trans (Gh.trans (gh_prn [0,1,2] [] hB e) (gh_nil [0] [] hB e e e)) (gh_pk [0,1,2] [10000000] hB e e e e)) e e
     ·refine Ops.gp e g469 e (.gp e g469 e (.gp e g469 e (.gp e g469 e (.gp e g469 e (.gp e g469 e (.gp e g469 e (.gp e g469 e ?_)))))))
      obtain ⟨y470,hy470,h⟩ := bindO h
      refine Ops.gs (s := 42200) e g469 (Ev.call [] [] 0 (sem_impl_within _ _ _ _ _ hy470) e e (.d2 (.d1 .nil)) e (.inl e) e e) e e (.gp e g469 e (.z 42232 (.pkF e g469 e) e e (.nil (.condO e h (fun g471 h => ?_) (fun g471 h => ?_)))))
      ·refine Run.so hm (.z 46056 (.bd e e) e e (.y 46072 (.sto e e e e e e) e e (.p2 e e (.nil (.ret ?_)))))
       obtain rfl := someO h
       have h := hk436
       replace h := inlO h
       obtain rfl := someO h
       exact Ends.mkG (.inl e) e (Gh.trans (Gh.trans (gh_prn [0,1,2] [] hB e) (gh_nil [0] [] hB e e e)) (gh_pk [0,1,2] [10000000] hB e e e e)) e e
      ·refine Run.skip (.draw hm hmix (.p e (.p e (.p e (.p e (.p e (.p e (.p e (.p e (.p e (.p e (.p e (.p e ?_)))))))))))))
       obtain ⟨x474,hx474,h⟩ := bindO h
       refine OpsD.z 50344 (Ev.s3W (xs := x396) e e e e hx474) e e (.p e (.z 50376 (Ev.bsW (ys := ([y457.2.1] : List Entry)) (f := encEntry) e (.d2 (.d1 .nil)) e e e e e) e e ?_))
       obtain ⟨x475,hx475,h⟩ := bindO h
       refine OpsD.z 50392 (Ev.ap3W (f := encEntry) e e (fun _ => e) (take_le hx474) (addsW e e e (fun _ => e)) (Nat.succ_pos _) e bt51 e hx475) e e (.p e (.y 50424 (.sto e e e e e e) e e (.nil ⟨by kernel_rfl,?_⟩)))
       exact Run.ops hm (.p2 e e (.nil (⟨m436,Nat.lt_succ_self m436,_,_,(gh_pk [2,5,6,7,20,21,22] [0,1,2,3,50392] hB e e e e),_,_,_,_,h,e,e⟩)))
  ·refine Run.exit ?_
   obtain rfl := someO h
   have h := hk436
   replace h := inrO h
   exact ⟨_,_,(gh_pk [2,5,6,7] [0,1,2,3,4] hB e e e e),_,h,e,e⟩
 ·refine Run.seq (.so hm (.p3 e e e (.p e (.askO (x := .t 80) e h (fun g483 h => ?_) (fun g483 h => ?_)))))
  ·refine Ops.gn e g483 (.gn e g483 (.gn e g483 (.z 58456 (.pkT e g483 e) e e (.nil (.condT e e (.so hm (.z 62440 (.bd e e) e e (.y 62456 (.sto e e e e e e) e e (.p2 e e (.nil (.ret ?_)))))))))))
   obtain rfl := someO h
   exact Ends.mkG (.inl e) e (Gh.trans (Gh.trans (gh_prn [0,1,2] [] hB e) (gh_nil [0] [] hB e e e)) (gh_pk [0,1,2] [10000000] hB e e e e)) e e
  ·refine Ops.gp e g483 e ?_
   obtain ⟨y484,hy484,h⟩ := bindO h
   refine Ops.gs (s := 58424) e g483 (Ev.call [] [4] 0 (sem_impl_LogOk _ _ _ hy484) e e (.cons (.agg (.d2 (.cons (.borrow e (by decide) (lendW (fun _ => e) _ e)) .nil))) .nil) e (.inr ⟨e,ownL_root trivial⟩) e e) e e ?_
   refine Ops.gp e g483 e (.z 58456 (.pkF e g483 e) e e (.nil (.condO e h (fun g485 h => ?_) (fun g485 h => ?_))))
   ·refine Run.so hm (.z 62440 (.bd e e) e e (.y 62456 (.sto e e e e e e) e e (.p2 e e (.nil (.ret ?_)))))
    obtain rfl := someO h
    exact Ends.mkG (.inl e) e (Gh.trans (Gh.trans (gh_prn [0,1,2] [] hB e) (gh_nil [0] [] hB e e e)) (gh_pk [0,1,2] [10000000] hB e e e e)) e e
   ·refine Run.skip (.so hm (.p2 e e (.y 66568 (.sto e e e e e e) e e (.p2 e e (.nil (.ret ?_))))))
    obtain rfl := someO h
    exact Ends.mkG (.inl e) e (gh_pk [0,1,2] [4] hB e e e e) e e
def laws_sameLog_l1 (N : Nat) (x1 : Log) (x2 : Log) : Nat → Int → Option ((Bool) ⊕ (Unit))
 | 0,_ => none
 | m + 1,x224 =>
 (if (decide (x224 < (x1.Entries.length : Int))) = true then
 (at? x1.Entries x224).bind fun x255 =>
 (at? x2.Entries x224).bind fun x256 =>
 (if (((x255.Term == x256.Term) && ((x255.Kind == x256.Kind) && (decide (x255.Data = x256.Data) && true))) ^^ true) = true then
 some (Sum.inl false)
 else
 laws_sameLog_l1 N x1 x2 m (w64 (x224 + 1)))
 else
 some (Sum.inr ()))
def laws_sameLog_l1_r (N : Nat) (x1 : Log) (x2 : Log) : (List Entry) → Int → Option ((Bool) ⊕ (Unit))
 | [],x224 =>
 some (Sum.inr ())
 | hd :: tl,x224 =>
 (some hd).bind fun x255 =>
 (at? x2.Entries x224).bind fun x256 =>
 (if (((x255.Term == x256.Term) && ((x255.Kind == x256.Kind) && (decide (x255.Data = x256.Data) && true))) ^^ true) = true then
 some (Sum.inl false)
 else
 laws_sameLog_l1_r N x1 x2 tl (w64 (x224 + 1)))
theorem laws_sameLog_l1_rng (N : Nat) (x1 : Log) (x2 : Log) (hx : x1.Entries.length ≤ 1099511627776) : ∀ (d k m : Nat),x1.Entries.length = k + d → d < m → laws_sameLog_l1 N x1 x2 m (k : Int) = laws_sameLog_l1_r N x1 x2 (x1.Entries.drop k) (k : Int) := by
 intro d
 induction d with
 | zero =>
  intro k m hd hm
  obtain ⟨m,rfl⟩ : ∃ q,m = q + 1 := ⟨m - 1,by omega⟩
  rw [laws_sameLog_l1,if_neg (by simp; omega),List.drop_eq_nil_of_le (by omega),laws_sameLog_l1_r]
 | succ d ih =>
  intro k m hd hm
  obtain ⟨m,rfl⟩ : ∃ q,m = q + 1 := ⟨m - 1,by omega⟩
  have hk : k < x1.Entries.length := by omega
  rw [laws_sameLog_l1,if_pos (by simp; omega),List.drop_eq_getElem_cons hk,laws_sameLog_l1_r]
  have h1 := at_lt hk
  have h2 := w64_succ (k := k) (by omega)
  have h3 := ih (k + 1) m
  simp only [h1,h2,h3 (by omega) (by omega)]
theorem laws_sameLog_l1_eq {N : Nat} (x1 : Log) (x2 : Log) (hx : x1.Entries.length ≤ 1099511627776) (hN : x1.Entries.length < N) : laws_sameLog_l1 N x1 x2 N 0 = laws_sameLog_l1_r N x1 x2 x1.Entries 0 := laws_sameLog_l1_rng N x1 x2 hx x1.Entries.length 0 N (by omega) hN
def laws_sameLog (N : Nat) (x1 : Log) (x2 : Log) : Option (Bool) :=
 (if (x1.Start != x2.Start) = true then
 some false
 else
 (if (x1.StartTerm != x2.StartTerm) = true then
 some false
 else
 (if ((x1.Entries.length : Int) != (x2.Entries.length : Int)) = true then
 some false
 else
 joinP (fun (v223 : Unit) =>
 some true) fun j223 =>
 (laws_sameLog_l1 N x1 x2 N 0).bind (Sum.elim (fun v243 => some v243) (fun (v244 : Unit) => j223 ())))))
theorem sem_laws_sameLog (N : Nat) (x1 : Log) (x2 : Log) (r : Bool) (h : laws_sameLog N x1 x2 = some r) : Says Try.prog 8 [.agg [VI x1.Start,VI x1.StartTerm,RO 51 (x1.Entries.map encEntry)],.agg [VI x2.Start,VI x2.StartTerm,RO 51 (x2.Entries.map encEntry)]] 0 [] (VB r) [] := by
 unfold laws_sameLog at h
 refine Says.of_run s8 Try.call8 e fun B hB => ?_
 have hm : B.m ≤ 1000 := by omega
 refine Run.so hm (.z 1000 (.bx e e) e e (.z 1016 (.bx e e) e e (.p e (.nil (.seq (.so hm (.p3 e e e (.p3 e e e (.askO (x := .t 11) e h (fun g186 h => ?_) (fun g186 h => ?_))))))))))
 ·refine Ops.gn e g186 (.gn e g186 (.gn e g186 (.gn e g186 (.gn e g186 (.z 5272 (.pkT e g186 e) e e (.p e (.gn e e (.gn e e (.gn e e (.gn e e (.gn e e (.gn e e (.gn e e (.z 5416 (.pkT e e e) e e (.nil (.condT e e (.so hm (.p e (.nil (.ret ?_))))))))))))))))))))
  obtain rfl := someO h
  exact Ends.mkG (.inl e) e (gh_pk [0] [] hB e e e e) e e
 ·refine Ops.gp e g186 e (.gp e g186 e (.gp e g186 e (.gp e g186 e (.gp e g186 e (.z 5272 (.pkF e g186 e) e e (.p e (.askO (x := .t 18) e h (fun g187 h => ?_) (fun g187 h => ?_))))))))
  ·refine Ops.gn e g187 (.gn e g187 (.gn e g187 (.gn e g187 (.gn e g187 (.gn e g187 (.gn e g187 (.z 5416 (.pkT e g187 e) e e (.nil (.condT e e (.so hm (.p e (.nil (.ret ?_)))))))))))))
   obtain rfl := someO h
   exact Ends.mkG (.inl e) e (gh_pk [0] [] hB e e e e) e e
  ·refine Ops.gp e g187 e (.gp e g187 e (.gs (s := 5336) e g187 (Ev.lnF e) e e (.gp e g187 e (.gp e g187 e (.gs (s := 5384) e g187 (Ev.lnF e) e e (.gp e g187 e (.z 5416 (.pkF e g187 e) e e (.nil (.condO e h (fun g188 h => ?_) (fun g188 h => ?_))))))))))
   ·refine Run.so hm (.p e (.nil (.ret ?_)))
    obtain rfl := someO h
    exact Ends.mkG (.inl e) e (gh_pk [0] [] hB e e e e) e e
   ·refine Run.skip (.seqO h (fun v223 => []) (fun (v223 : Unit) => []) (fun h => ?_) (fun v223 h => ?_))
    ·refine Run.so hm (.p e (.nil (.block ?_)))
     obtain ⟨res244,h,hk244⟩ := bindO h
     refine Run.loop (n := N) (fun m244 fr σ => ∃ (x224 : Int),laws_sameLog_l1 N x1 x2 m244 x224 = some res244 ∧ fr = [(2,.ptr 0 0),(3,.ptr 1 0),(5,VI x224)] ∧ σ = [(0,.box [VI x1.Start,VI x1.StartTerm,RO 51 (x1.Entries.map encEntry)]),(1,.box [VI x2.Start,VI x2.StartTerm,RO 51 (x2.Entries.map encEntry)])]) (gh_pk [2,3,5] [1000,1016] hB e e e e) ⟨_,h,e,e⟩ ?_
     rintro m244 fr σ ⟨x224,h,rfl,rfl⟩
     obtain _ | m244 := m244
     ·rw [laws_sameLog_l1] at h; cases h
     rw [laws_sameLog_l1] at h
     refine Run.seq (.so hm (.p3 e e e (.z 17432 (Ev.lnF e) e e (.p e (.nil (.condO e h (fun g247 h => ?_) (fun g247 h => ?_)))))))
     ·refine Run.skip (.seq (.block (.seq (.draw hm hmix (.p e (.p e (.p e ?_)))))))
      obtain ⟨x255,hx255,h⟩ := bindO h
      refine OpsD.z 25624 (Ev.iaF e e hx255) e e (.p e (.p e (.p e (.p e ?_))))
      obtain ⟨x256,hx256,h⟩ := bindO h
      refine OpsD.z 25704 (Ev.iaF e e hx256) e e (.p e (.p e (.nil ⟨by kernel_rfl,?_⟩)))
      refine Run.condO e h (fun g257 h => ?_) (fun g257 h => ?_)
      ·refine Run.so hm (.p e (.nil (.ret ?_)))
       obtain rfl := someO h
       have h := hk244
       replace h := inlO h
       obtain rfl := someO h
       exact Ends.mkG (.inl e) e (gh_pk [0] [] hB e e e e) e e
      ·exact Run.skip (.ops hm (.p3 e e e (.nil (⟨m244,Nat.lt_succ_self m244,_,_,(gh_pk [2,3,5] [0,1] hB e e e e),_,h,e,e⟩))))
     ·refine Run.exit ?_
      obtain rfl := someO h
      have h := hk244
      replace h := inrO h
      exact ⟨_,_,(gh_pk [] [] hB e e e e),(),h,e,e⟩
    ·refine Run.so hm (.p e (.nil (.ret ?_)))
     obtain rfl := someO h
     exact Ends.mkG (.inl e) e (gh_pk [0] [] hB e e e e) e e
def slices_Equal_Entry_l1 (N : Nat) (x1 : (List Entry)) (x2 : (List Entry)) : Nat → Int → Option ((Bool) ⊕ (Unit))
 | 0,_ => none
 | m + 1,x172 =>
 (if (decide (x172 < (x1.length : Int))) = true then
 (at? x1 x172).bind fun x187 =>
 (at? x2 x172).bind fun x188 =>
 (if (((x187.Term == x188.Term) && ((x187.Kind == x188.Kind) && (decide (x187.Data = x188.Data) && true))) ^^ true) = true then
 some (Sum.inl false)
 else
 slices_Equal_Entry_l1 N x1 x2 m (w64 (x172 + 1)))
 else
 some (Sum.inr ()))
def slices_Equal_Entry_l1_r (N : Nat) (x1 : (List Entry)) (x2 : (List Entry)) : (List Entry) → Int → Option ((Bool) ⊕ (Unit))
 | [],x172 =>
 some (Sum.inr ())
 | hd :: tl,x172 =>
 (some hd).bind fun x187 =>
 (at? x2 x172).bind fun x188 =>
 (if (((x187.Term == x188.Term) && ((x187.Kind == x188.Kind) && (decide (x187.Data = x188.Data) && true))) ^^ true) = true then
 some (Sum.inl false)
 else
 slices_Equal_Entry_l1_r N x1 x2 tl (w64 (x172 + 1)))
theorem slices_Equal_Entry_l1_rng (N : Nat) (x1 : (List Entry)) (x2 : (List Entry)) (hx : x1.length ≤ 1099511627776) : ∀ (d k m : Nat),x1.length = k + d → d < m → slices_Equal_Entry_l1 N x1 x2 m (k : Int) = slices_Equal_Entry_l1_r N x1 x2 (x1.drop k) (k : Int) := by
 intro d
 induction d with
 | zero =>
  intro k m hd hm
  obtain ⟨m,rfl⟩ : ∃ q,m = q + 1 := ⟨m - 1,by omega⟩
  rw [slices_Equal_Entry_l1,if_neg (by simp; omega),List.drop_eq_nil_of_le (by omega),slices_Equal_Entry_l1_r]
 | succ d ih =>
  intro k m hd hm
  obtain ⟨m,rfl⟩ : ∃ q,m = q + 1 := ⟨m - 1,by omega⟩
  have hk : k < x1.length := by omega
  rw [slices_Equal_Entry_l1,if_pos (by simp; omega),List.drop_eq_getElem_cons hk,slices_Equal_Entry_l1_r]
  have h1 := at_lt hk
  have h2 := w64_succ (k := k) (by omega)
  have h3 := ih (k + 1) m
  simp only [h1,h2,h3 (by omega) (by omega)]
theorem slices_Equal_Entry_l1_eq {N : Nat} (x1 : (List Entry)) (x2 : (List Entry)) (hx : x1.length ≤ 1099511627776) (hN : x1.length < N) : slices_Equal_Entry_l1 N x1 x2 N 0 = slices_Equal_Entry_l1_r N x1 x2 x1 0 := slices_Equal_Entry_l1_rng N x1 x2 hx x1.length 0 N (by omega) hN
def slices_Equal_Entry (N : Nat) (x1 : (List Entry)) (x2 : (List Entry)) : Option (Bool) :=
 (if ((x1.length : Int) != (x2.length : Int)) = true then
 some false
 else
 joinP (fun (v168 : Unit) =>
 some true) fun j168 =>
 (slices_Equal_Entry_l1 N x1 x2 N 0).bind (Sum.elim (fun v180 => some v180) (fun (v181 : Unit) => j168 ())))
theorem sem_slices_Equal_Entry (N : Nat) (x1 : (List Entry)) (x2 : (List Entry)) (r : Bool) (h : slices_Equal_Entry N x1 x2 = some r) : Says Try.prog 56 [RO 51 (x1.map encEntry),RO 51 (x2.map encEntry)] 0 [] (VB r) [] := by
 unfold slices_Equal_Entry at h
 refine Says.of_run s56 Try.call56 e fun B hB => ?_
 have hm : B.m ≤ 1000 := by omega
 refine Run.so hm (.p e (.nil (.seq (.so hm (.p e (.z 5112 (Ev.lnF e) e e (.p e (.z 5144 (Ev.lnF e) e e (.p e (.nil (.condO e h (fun g146 h => ?_) (fun g146 h => ?_))))))))))))
 ·refine Run.so hm (.p e (.nil (.ret ?_)))
  obtain rfl := someO h
  exact Ends.mkG (.inl e) e (gh_pk [0] [] hB e e e e) e e
 ·refine Run.skip (.seqO h (fun v168 => []) (fun (v168 : Unit) => []) (fun h => ?_) (fun v168 h => ?_))
  ·refine Run.so hm (.p e (.z 13304 (Ev.lnF e) e e (.p e (.nil (.block ?_)))))
   obtain ⟨res181,h,hk181⟩ := bindO h
   refine Run.loop (n := N) (fun m181 fr σ => ∃ (x172 : Int),slices_Equal_Entry_l1 N x1 x2 m181 x172 = some res181 ∧ fr = [(0,RO 51 (x1.map encEntry)),(1,RO 51 (x2.map encEntry)),(12,VI (x1.length : Int)),(13,VI x172)] ∧ σ = []) (gh_pk [0,1,12,13] [] hB e e e e) ⟨_,h,e,e⟩ ?_
   rintro m181 fr σ ⟨x172,h,rfl,rfl⟩
   obtain _ | m181 := m181
   ·rw [slices_Equal_Entry_l1] at h; cases h
   rw [slices_Equal_Entry_l1] at h
   refine Run.so hm (.p e (.nil (.seq (.condO e h (fun g184 h => ?_) (fun g184 h => ?_)))))
   ·refine Run.skip (.seq (.block (.so hm (.p2 e e (.nil (.seq (.draw hm hmix (.p e (.p e ?_)))))))))
    obtain ⟨x187,hx187,h⟩ := bindO h
    refine OpsD.z 25608 (Ev.iaF e e hx187) e e (.p e (.p e (.p e ?_)))
    obtain ⟨x188,hx188,h⟩ := bindO h
    refine OpsD.z 25672 (Ev.iaF e e hx188) e e (.p e (.p e (.nil ⟨by kernel_rfl,?_⟩)))
    refine Run.condO e h (fun g189 h => ?_) (fun g189 h => ?_)
    ·refine Run.so hm (.p e (.nil (.ret ?_)))
     obtain rfl := someO h
     have h := hk181
     replace h := inlO h
     obtain rfl := someO h
     exact Ends.mkG (.inl e) e (gh_pk [0] [] hB e e e e) e e
    ·exact Run.skip (.ops hm (.p2 e e (.nil (⟨m181,Nat.lt_succ_self m181,_,_,(gh_pk [0,1,12,13] [] hB e e e e),_,h,e,e⟩))))
   ·refine Run.exit ?_
    obtain rfl := someO h
    have h := hk181
    replace h := inrO h
    exact ⟨_,_,(gh_pk [] [] hB e e e e),(),h,e,e⟩
  ·refine Run.so hm (.p e (.nil (.ret ?_)))
   obtain rfl := someO h
   exact Ends.mkG (.inl e) e (gh_pk [0] [] hB e e e e) e e
def impl_sameLog (N : Nat) (x1 : Log) (x2 : Log) : Option (Bool) :=
 (if (x1.Start == x2.Start) = true then
 (if (x1.StartTerm == x2.StartTerm) = true then
 (slices_Equal_Entry N x1.Entries x2.Entries).bind fun y111 =>
 some y111
 else
 some false)
 else
 some false)
theorem sem_impl_sameLog (N : Nat) (x1 : Log) (x2 : Log) (r : Bool) (h : impl_sameLog N x1 x2 = some r) : Says Try.prog 29 [.agg [VI x1.Start,VI x1.StartTerm,RO 51 (x1.Entries.map encEntry)],.agg [VI x2.Start,VI x2.StartTerm,RO 51 (x2.Entries.map encEntry)]] 0 [] (VB r) [] := by
 unfold impl_sameLog at h
 refine Says.of_norm e Try.call29 e fun B hB => ?_
 have hm : B.m ≤ 1000 := by omega
 refine Run.so hm (.z 1000 (.bx e e) e e (.z 1016 (.bx e e) e e (.p e (.nil (.so hm (.p3 e e e (.p3 e e e (.askO (x := .t 10) e h (fun g109 h => ?_) (fun g109 h => ?_)))))))))
 ·refine Ops.gp e g109 e (.gp e g109 e (.gp e g109 e (.gp e g109 e (.gp e g109 e (.z 5272 (.pkT e g109 e) e e (.p e (.askO (x := .t 17) e h (fun g110 h => ?_) (fun g110 h => ?_))))))))
  ·refine Ops.gp e g110 e (.gp e g110 e (.gp e g110 e (.gp e g110 e ?_)))
   obtain ⟨y111,hy111,h⟩ := bindO h
   refine Ops.gs (s := 5368) e g110 (Ev.call [] [] 0 (sem_slices_Equal_Entry _ _ _ _ hy111) e e (.d2 .nil) e (.inl e) e e) e e (.z 5384 (.pkT e g110 e) e e (.p e (.nil (.ret ?_))))
   obtain rfl := someO h
   exact Ends.mkG (.inl e) e (gh_pk [0] [] hB e e e e) e e
  ·refine Ops.gn e g110 (.gn e g110 (.gn e g110 (.gn e g110 (.gn e g110 (.z 5384 (.pkF e g110 e) e e (.p e (.nil (.ret ?_))))))))
   obtain rfl := someO h
   exact Ends.mkG (.inl e) e (gh_pk [0] [] hB e e e e) e e
 ·refine Ops.gn e g109 (.gn e g109 (.gn e g109 (.gn e g109 (.gn e g109 (.z 5272 (.pkF e g109 e) e e (.p e (.gn e e (.gn e e (.gn e e (.gn e e (.gn e e (.z 5384 (.pkF e e e) e e (.p e (.nil (.ret ?_)))))))))))))))
  obtain rfl := someO h
  exact Ends.mkG (.inl e) e (gh_pk [0] [] hB e e e e) e e
def impl_LogSteps_l1 (N : Nat) (x2 : Log) (x3 : Log) : Nat → Int → Option (Int)
 | 0,_ => none
 | m + 1,x494 =>
 (if (decide (x494 < (imin (x2.Entries.length : Int) (x3.Entries.length : Int)))) = true then
 (at? x2.Entries x494).bind fun x528 =>
 (at? x3.Entries x494).bind fun x529 =>
 (if (((x528.Term == x529.Term) && ((x528.Kind == x529.Kind) && (decide (x528.Data = x529.Data) && true))) ^^ false) = true then
 impl_LogSteps_l1 N x2 x3 m (w64 (x494 + 1))
 else
 some x494)
 else
 some x494)
def impl_LogSteps (N : Nat) (x1 : ByteArray) (x2 : Log) (x3 : Log) : Option ((List Raw) × Bool) :=
 (impl_ReadLog N x1).bind fun y322 =>
 (impl_LogFile N x3).bind fun y326 =>
 (impl_LogOk N x2).bind fun y346 =>
 (if (!y346) = true then
 some ([],false)
 else
 (if (!y322.2.2) = true then
 some ([],false)
 else
 (if (y322.2.1 != (x1.size : Int)) = true then
 some ([],false)
 else
 (impl_sameLog N y322.1 x2).bind fun y350 =>
 (if (!y350) = true then
 some ([],false)
 else
 (if (!y326.2) = true then
 some ([],false)
 else
 (impl_sameLog N x2 x3).bind fun y357 =>
 (if y357 = true then
 some ([],true)
 else
 joinP (fun (v448 : Unit) =>
 some (([(Raw.mk 1 (⟨#[108,111,103,43]⟩ : ByteArray) (⟨#[]⟩ : ByteArray) y326.1),(Raw.mk 3 (⟨#[108,111,103,43]⟩ : ByteArray) (⟨#[108,111,103]⟩ : ByteArray) (⟨#[]⟩ : ByteArray))] : List Raw),true)) fun j448 =>
 (if (x2.Start == x3.Start) = true then
 (if (x2.StartTerm == x3.StartTerm) = true then
 joinP (fun (v491 : Int) =>
 (impl_entryFrames N x3 v491).bind fun y534 =>
 (if (!decide (y534 = (⟨#[]⟩ : ByteArray))) = true then
 (if (decide ((w64 ((x1.size : Int) + (y534.size : Int))) ≤ 20000)) = true then
 some (([(Raw.mk 2 (⟨#[108,111,103]⟩ : ByteArray) (⟨#[]⟩ : ByteArray) y534)] : List Raw),true)
 else
 j448 ())
 else
 j448 ())) fun j491 =>
 (impl_LogSteps_l1 N x2 x3 N 0).bind (fun v515 => j491 v515)
 else
 j448 ())
 else
 j448 ())))))))
theorem sem_impl_LogSteps (N : Nat) (x1 : ByteArray) (x2 : Log) (x3 : Log) (r : (List Raw) × Bool) (h : impl_LogSteps N x1 x2 x3 = some r) : Says Try.prog 9 [VS x1,.agg [VI x2.Start,VI x2.StartTerm,RO 51 (x2.Entries.map encEntry)],.agg [VI x3.Start,VI x3.StartTerm,RO 51 (x3.Entries.map encEntry)]] 0 [] (.tup [.sl 0 70 0 r.1.length,VB r.2]) [(0,.vec 70 (r.1.map encRaw))] := by
 unfold impl_LogSteps at h
 refine Says.of_run s9 Try.call9 e fun B hB => ?_
 have hm : B.m ≤ 1000 := by omega
 refine Run.so hm (.z 1000 (.bx e e) e e (.z 1016 (.bx e e) e e (.p2 e e (.nil (.so hm (.p e ?_))))))
 obtain ⟨y322,hy322,h⟩ := bindO h
 refine Ops.z 5112 (Ev.call [] [] 1 (sem_impl_ReadLog _ _ _ hy322) e e (.d1 .nil) e (.inl e) e e) e e (.p3 e e e (.p e (.z 5192 (.al e e) e e (.y 5208 (.sto e e e e e e) e e (.p2 e e (.nil (.so hm (.p e ?_))))))))
 obtain ⟨y326,hy326,h⟩ := bindO h
 refine Ops.z 9208 (Ev.call [] [] 0 (sem_impl_LogFile _ _ _ hy326) e e (.cons (.agg (.d2 (.d1 .nil))) .nil) e (.inl e) e e) e e (.p3 e e e (.p2 e e (.nil (.seq (.so hm (.p e ?_))))))
 obtain ⟨y346,hy346,h⟩ := bindO h
 refine Ops.z 13304 (Ev.call [] [] 0 (sem_impl_LogOk _ _ _ hy346) e e (.cons (.agg (.d2 (.d1 .nil))) .nil) e (.inl e) e e) e e (.p2 e e (.askO (x := .t 29) e h (fun g347 h => ?_) (fun g347 h => ?_)))
 ·refine Ops.gn e g347 (.gn e g347 (.z 13384 (.pkT e g347 e) e e (.p e (.gn e e (.gn e e (.gn e e (.gn e e (.z 13480 (.pkT e e e) e e (.p e (.gn e e (.gn e e (.gn e e (.gn e e (.z 13576 (.pkT e e e) e e (.p e (.gn e e (.gn e e (.z 13640 (.pkT e e e) e e (.nil (.condT e e (.so hm (.p2 e e (.nil (.ret ?_))))))))))))))))))))))))
  obtain rfl := someO h
  exact Ends.mkG (.inl e) e (Gh.trans (Gh.trans (gh_prn [0,1] [] hB e) (gh_nil [0] [] hB e e e)) (gh_pk [0,1] [10000000] hB e e e e)) e e
 ·refine Ops.gp e g347 e (.gp e g347 e (.z 13384 (.pkF e g347 e) e e (.p e (.askO (x := .t 33) e h (fun g348 h => ?_) (fun g348 h => ?_)))))
  ·refine Ops.gn e g348 (.gn e g348 (.gn e g348 (.gn e g348 (.z 13480 (.pkT e g348 e) e e (.p e (.gn e e (.gn e e (.gn e e (.gn e e (.z 13576 (.pkT e e e) e e (.p e (.gn e e (.gn e e (.z 13640 (.pkT e e e) e e (.nil (.condT e e (.so hm (.p2 e e (.nil (.ret ?_))))))))))))))))))))
   obtain rfl := someO h
   exact Ends.mkG (.inl e) e (Gh.trans (Gh.trans (gh_prn [0,1] [] hB e) (gh_nil [0] [] hB e e e)) (gh_pk [0,1] [10000000] hB e e e e)) e e
  ·refine Ops.gp e g348 e (.gp e g348 e (.gp e g348 e (.gp e g348 e (.z 13480 (.pkF e g348 e) e e (.p e (.askO (x := .t 39) e h (fun g349 h => ?_) (fun g349 h => ?_)))))))
   ·refine Ops.gn e g349 (.gn e g349 (.gn e g349 (.gn e g349 (.z 13576 (.pkT e g349 e) e e (.p e (.gn e e (.gn e e (.z 13640 (.pkT e e e) e e (.nil (.condT e e (.so hm (.p2 e e (.nil (.ret ?_))))))))))))))
    obtain rfl := someO h
    exact Ends.mkG (.inl e) e (Gh.trans (Gh.trans (gh_prn [0,1] [] hB e) (gh_nil [0] [] hB e e e)) (gh_pk [0,1] [10000000] hB e e e e)) e e
   ·refine Ops.gp e g349 e (.gp e g349 e ?_)
    obtain ⟨y350,hy350,h⟩ := bindO h
    refine Ops.gs (s := 13544) e g349 (Ev.call [] [5112] 0 (sem_impl_sameLog _ _ _ _ hy350) e e (.cons (.agg (.d2 (.cons (.borrow e (by decide) (lendW (fun _ => e) _ e)) .nil))) (.cons (.agg (.d2 (.d1 .nil))) .nil)) e (.inr ⟨e,ownL_root trivial⟩) e e) e e ?_
    refine Ops.gp e g349 e (.z 13576 (.pkF e g349 e) e e (.p e (.askO (x := .t 45) e h (fun g351 h => ?_) (fun g351 h => ?_))))
    ·refine Ops.gn e g351 (.gn e g351 (.z 13640 (.pkT e g351 e) e e (.nil (.condT e e (.so hm (.p2 e e (.nil (.ret ?_))))))))
     obtain rfl := someO h
     exact Ends.mkG (.inl e) e (Gh.trans (Gh.trans (gh_prn [0,1] [] hB e) (gh_nil [0] [] hB e e e)) (gh_pk [0,1] [10000000] hB e e e e)) e e
    ·refine Ops.gp e g351 e (.gp e g351 e (.z 13640 (.pkF e g351 e) e e (.nil (.condO e h (fun g352 h => ?_) (fun g352 h => ?_)))))
     ·refine Run.so hm (.p2 e e (.nil (.ret ?_)))
      obtain rfl := someO h
      exact Ends.mkG (.inl e) e (Gh.trans (Gh.trans (gh_prn [0,1] [] hB e) (gh_nil [0] [] hB e e e)) (gh_pk [0,1] [10000000] hB e e e e)) e e
     ·refine Run.skip (.seq (.so hm (.p2 e e ?_)))
      obtain ⟨y357,hy357,h⟩ := bindO h
      refine Ops.z 21512 (Ev.call [] [] 0 (sem_impl_sameLog _ _ _ _ hy357) e e (.cons (.agg (.d2 (.d1 .nil))) (.cons (.agg (.d2 (.d1 .nil))) .nil)) e (.inl e) e e) e e (.nil (.condO e h (fun g358 h => ?_) (fun g358 h => ?_)))
      ·refine Run.so hm (.p2 e e (.nil (.ret ?_)))
       obtain rfl := someO h
       exact Ends.mkG (.inl e) e (Gh.trans (Gh.trans (gh_prn [0,1] [] hB e) (gh_nil [0] [] hB e e e)) (gh_pk [0,1] [10000000] hB e e e e)) e e
      ·refine Run.skip (.seqO h (fun v448 => [(11,VS y326.1)]) (fun (v448 : Unit) => []) (fun h => ?_) (fun v448 h => ?_))
       ·refine Run.so hm (.p3 e e e (.p3 e e e (.askO (x := .t 57) e h (fun g450 h => ?_) (fun g450 h => ?_))))
        ·refine Ops.gp e g450 e (.gp e g450 e (.gp e g450 e (.gp e g450 e (.gp e g450 e (.z 29848 (.pkT e g450 e) e e (.nil (.condO e h (fun g451 h => ?_) (fun g451 h => ?_))))))))
         ·refine Run.so hm (.p e (.nil (.seqO h (fun v491 => [(0,VS x1),(5,.ptr 0 0),(11,VS y326.1),(13,VI v491)]) (fun (v491 : Int) => [(0,.box [VI x3.Start,VI x3.StartTerm,RO 51 (x3.Entries.map encEntry)])]) (fun h => ?_) (fun v491 h => ?_))))
          ·refine Run.block ?_
           obtain ⟨res515,h,hk515⟩ := bindO h
           refine Run.loop (n := N) (fun m515 fr σ => ∃ (x494 : Int),impl_LogSteps_l1 N x2 x3 m515 x494 = some res515 ∧ fr = [(0,VS x1),(4,.ptr 0 0),(5,.ptr 1 0),(11,VS y326.1),(13,VI x494)] ∧ σ = [(0,.box [VI x2.Start,VI x2.StartTerm,RO 51 (x2.Entries.map encEntry)]),(1,.box [VI x3.Start,VI x3.StartTerm,RO 51 (x3.Entries.map encEntry)])]) (gh_pk [0,4,5,11,13] [1000,1016] hB e e e e) ⟨_,h,e,e⟩ ?_
           rintro m515 fr σ ⟨x494,h,rfl,rfl⟩
           obtain _ | m515 := m515
           ·rw [impl_LogSteps_l1] at h; cases h
           rw [impl_LogSteps_l1] at h
           refine Run.seq (.seq (.draw hm hmix (.p e (.p e (.p e (.z 37912 (Ev.lnF e) e e (.p e (.p e (.z 37960 (Ev.lnF e) e e (.p e (.p e (.p e (.askO (x := .t 73) e h (fun g527 h => ?_) (fun g527 h => ?_))))))))))))))
           ·refine OpsD.gp e g527 e (.gp e g527 e (.gp e g527 e ?_))
            obtain ⟨x528,hx528,h⟩ := bindO h
            refine OpsD.gs (s := 38072) e g527 (Ev.iaF e e hx528) e e (.gp e g527 e (.gp e g527 e (.gp e g527 e (.gp e g527 e ?_))))
            obtain ⟨x529,hx529,h⟩ := bindO h
            refine OpsD.gs (s := 38152) e g527 (Ev.iaF e e hx529) e e (.gp e g527 e (.gp e g527 e (.z 38200 (.pkT e g527 e) e e (.nil ⟨by kernel_rfl,?_⟩))))
            refine Run.condO e h (fun g530 h => ?_) (fun g530 h => ?_)
            ·exact Run.skip (.block (.ops hm (.p3 e e e (.nil (⟨m515,Nat.lt_succ_self m515,_,_,(gh_pk [0,4,5,11,13] [0,1] hB e e e e),_,h,e,e⟩)))))
            ·refine Run.exit ?_
             obtain rfl := someO h
             have h := hk515
             exact ⟨_,_,(gh_pk [0,5,11,13] [1] hB e e e e),_,h,e,e⟩
           ·refine OpsD.gn e g527 (.gn e g527 (.gn e g527 (.gn e g527 (.gn e g527 (.gn e g527 (.gn e g527 (.gn e g527 (.gn e g527 (.gn e g527 (.gn e g527 (.z 38200 (.pkF e g527 e) e e (.nil ⟨by kernel_rfl,?_⟩))))))))))))
            refine Run.condF e e (.exit ?_)
            obtain rfl := someO h
            have h := hk515
            exact ⟨_,_,(gh_pk [0,5,11,13] [1] hB e e e e),_,h,e,e⟩
          ·refine Run.so hm (.p2 e e ?_)
           obtain ⟨y534,hy534,h⟩ := bindO h
           refine Ops.z 46088 (Ev.call [] [] 0 (sem_impl_entryFrames _ _ _ _ hy534) e e (.cons (.agg (.d2 (.d1 .nil))) (.d1 .nil)) e (.inl e) e e) e e (.p e (.nil (.so hm (.p3 e e e (.askO (x := .t 93) e h (fun g536 h => ?_) (fun g536 h => ?_))))))
           ·refine Ops.gp e g536 e (.gp e g536 e (.gp e g536 e (.gp e g536 e (.gp e g536 e (.gp e g536 e (.z 50296 (.pkT e g536 e) e e (.nil (.condO e h (fun g537 h => ?_) (fun g537 h => ?_)))))))))
            ·refine Run.so hm (.p e (.z 54264 (.bd e e) e e (.z 54280 (Ev.bsW (ys := ([(Raw.mk 2 (⟨#[108,111,103]⟩ : ByteArray) (⟨#[]⟩ : ByteArray) y534)] : List Raw)) (f := encRaw) e (.d4 .nil) e e e e e) e e (.p2 e e (.nil (.ret ?_))))))
             obtain rfl := someO h
             exact Ends.mkG (.inl e) e (gh_pk [0,1] [54280] hB e e e e) e e
            ·exact Run.skip (⟨_,_,(gh_pk [11] [] hB e e e e),(),h,e,e⟩)
           ·exact Ops.gn e g536 (.gn e g536 (.gn e g536 (.gn e g536 (.gn e g536 (.gn e g536 (.z 50296 (.pkF e g536 e) e e (.nil (.condF e e (.skip (⟨_,_,(gh_pk [11] [] hB e e e e),(),h,e,e⟩))))))))))
         ·exact Run.skip (⟨_,_,(gh_pk [11] [] hB e e e e),(),h,e,e⟩)
        ·exact Ops.gn e g450 (.gn e g450 (.gn e g450 (.gn e g450 (.gn e g450 (.z 29848 (.pkF e g450 e) e e (.nil (.condF e e (.skip (⟨_,_,(gh_pk [11] [] hB e e e e),(),h,e,e⟩)))))))))
       ·refine Run.so hm (.p e (.z 58360 (.bd e e) e e (.z 58376 (.bd e e) e e (.z 58392 (Ev.bsW (ys := ([(Raw.mk 1 (⟨#[108,111,103,43]⟩ : ByteArray) (⟨#[]⟩ : ByteArray) y326.1),(Raw.mk 3 (⟨#[108,111,103,43]⟩ : ByteArray) (⟨#[108,111,103]⟩ : ByteArray) (⟨#[]⟩ : ByteArray))] : List Raw)) (f := encRaw) e (.d4 (.d4 .nil)) e e e e e) e e (.p2 e e (.nil (.ret ?_)))))))
        obtain rfl := someO h
        exact Ends.mkG (.inl e) e (gh_pk [0,1] [58392] hB e e e e) e e
def spec_ReadVar_l1 (N : Nat) (x1 : ByteArray) (x2 : Int) : Nat → Int → Int → Int → Option ((Int × Int × Bool) ⊕ (Unit))
 | 0,_,_,_ => none
 | m + 1,x476,x477,x478 =>
 (if (decide (x478 < (x1.size : Int))) = true then
 (if (decide (x478 < (w64 (x2 + 5)))) = true then
 (sat? x1 x478).bind fun x575 =>
 (intD .rem .i64 (w64 (x575)) 128).bind fun x576 =>
 (sat? x1 x478).bind fun x578 =>
 (if (decide (x578 < 128)) = true then
 (if (decide ((w64 (x476 + (w64 (x576 * x477)))) > 1000000000)) = true then
 some (Sum.inl (0,0,false))
 else
 (spec_l01Var N (w64 (x476 + (w64 (x576 * x477))))).bind fun y591 =>
 (scut? x1 x2 (w64 (x478 + 1))).bind fun x592 =>
 (if (!decide (y591 = x592)) = true then
 some (Sum.inl (0,0,false))
 else
 some (Sum.inl (w64 (x476 + (w64 (x576 * x477))),w64 (x478 + 1),true))))
 else
 spec_ReadVar_l1 N x1 x2 m (w64 (x476 + (w64 (x576 * x477)))) (w64 (x477 * 128)) (w64 (x478 + 1)))
 else
 some (Sum.inr ()))
 else
 some (Sum.inr ()))
def spec_ReadVar (N : Nat) (x1 : ByteArray) (x2 : Int) : Option (Int × Int × Bool) :=
 (spec_l01In N x2 0 (x1.size : Int)).bind fun y351 =>
 (if (!y351) = true then
 some (0,0,false)
 else
 joinP (fun (v473 : Unit) =>
 some (0,0,false)) fun j473 =>
 (spec_ReadVar_l1 N x1 x2 N 0 1 x2).bind (Sum.elim (fun v535 => some v535) (fun (v536 : Unit) => j473 ())))
theorem sem_spec_ReadVar (N : Nat) (x1 : ByteArray) (x2 : Int) (r : Int × Int × Bool) (h : spec_ReadVar N x1 x2 = some r) : Says Try.prog 75 [VS x1,VI x2] 0 [] (.tup [VI r.1,VI r.2.1,VB r.2.2]) [] := by
 unfold spec_ReadVar at h
 refine Says.of_norm e Try.call75 e fun B hB => ?_
 have hm : B.m ≤ 1000 := by omega
 refine Run.so hm (.p3 e e e (.nil (.seq (.so hm (.p3 e e e ?_)))))
 obtain ⟨y351,hy351,h⟩ := bindO h
 refine Ops.z 5144 (Ev.call [] [] 0 (sem_spec_l01In _ _ _ _ _ hy351) e e (.d2 (.d1 .nil)) e (.inl e) e e) e e (.p e (.nil (.condO e h (fun g352 h => ?_) (fun g352 h => ?_))))
 ·refine Run.so hm (.p3 e e e (.nil (.ret ?_)))
  obtain rfl := someO h
  exact Ends.mkG (.inl e) e (gh_pk [0,1,2] [] hB e e e e) e e
 ·refine Run.skip (.so hm (.p e (.nil (.so hm (.p e (.nil (.seqO h (fun v473 => []) (fun (v473 : Unit) => []) (fun h => ?_) (fun v473 h => ?_))))))))
  ·refine Run.so hm (.p2 e e (.nil (.block ?_)))
   obtain ⟨res536,h,hk536⟩ := bindO h
   refine Run.loop (n := N) (fun m536 fr σ => ∃ (x476 : Int),∃ (x477 : Int),∃ (x478 : Int),spec_ReadVar_l1 N x1 x2 m536 x476 x477 x478 = some res536 ∧ fr = [(0,VS x1),(1,VI x2),(7,VI x476),(8,VI x477),(9,VI x478)] ∧ σ = []) (gh_pk [0,1,7,8,9] [] hB e e e e) ⟨_,_,_,h,e,e⟩ ?_
   rintro m536 fr σ ⟨x476,x477,x478,h,rfl,rfl⟩
   obtain _ | m536 := m536
   ·rw [spec_ReadVar_l1] at h; cases h
   rw [spec_ReadVar_l1] at h
   refine Run.seq (.so hm (.p3 e e e (.p2 e e (.askO (x := .t 20) e h (fun g542 h => ?_) (fun g542 h => ?_)))))
   ·refine Ops.gp e g542 e (.gp e g542 e (.gp e g542 e (.gp e g542 e (.z 25720 (.pkT e g542 e) e e (.nil (.condO e h (fun g543 h => ?_) (fun g543 h => ?_)))))))
    ·refine Run.skip (.seq (.block (.so hm (.p3 e e e ?_))))
     obtain ⟨x575,hx575,h⟩ := bindO h
     refine Ops.z 33816 (Ev.ixS e e hx575) e e (.p e ?_)
     obtain ⟨x576,hx576,h⟩ := bindO h
     refine Ops.z 33848 (.bin e e hx576) e e (.p3 e e e (.p e (.nil (.so hm (.p3 e e e (.nil (.so hm (.p2 e e ?_))))))))
     obtain ⟨x578,hx578,h⟩ := bindO h
     refine Ops.z 41992 (Ev.ixS e e hx578) e e (.p e (.nil (.condO e h (fun g579 h => ?_) (fun g579 h => ?_))))
     ·refine Run.seq (.seq (.draw hm hmix (.p e (.p e (.p e (.askO (x := .t 45) e h (fun g590 h => ?_) (fun g590 h => ?_)))))))
      ·refine OpsD.gn e g590 (.gn e g590 (.gn e g590 (.gn e g590 (.gn e g590 (.gn e g590 (.gn e g590 (.gn e g590 (.z 46232 (.pkT e g590 e) e e (.nil ⟨by kernel_rfl,?_⟩)))))))))
       refine Run.condT e e (.so hm (.p3 e e e (.nil (.ret ?_))))
       obtain rfl := someO h
       have h := hk536
       replace h := inlO h
       obtain rfl := someO h
       exact Ends.mkG (.inl e) e (gh_pk [0,1,2] [] hB e e e e) e e
      ·refine OpsD.gp e g590 e ?_
       obtain ⟨y591,hy591,h⟩ := bindO h
       refine OpsD.gs (s := 46120) e g590 (Ev.call [] [] 0 (sem_spec_l01Var _ _ _ hy591) e e (.d1 .nil) e (.inl e) e e) e e (.gp e g590 e (.gp e g590 e (.gp e g590 e (.gp e g590 e ?_))))
       obtain ⟨x592,hx592,h⟩ := bindO h
       refine OpsD.gs (s := 46200) e g590 (Ev.ssB e e e hx592) e e (.gp e g590 e (.z 46232 (.pkF e g590 e) e e (.nil ⟨by kernel_rfl,?_⟩)))
       refine Run.condO e h (fun g593 h => ?_) (fun g593 h => ?_)
       ·refine Run.so hm (.p3 e e e (.nil (.ret ?_)))
        obtain rfl := someO h
        have h := hk536
        replace h := inlO h
        obtain rfl := someO h
        exact Ends.mkG (.inl e) e (gh_pk [0,1,2] [] hB e e e e) e e
       ·refine Run.skip (.so hm (.p3 e e e (.p3 e e e (.nil (.ret ?_)))))
        obtain rfl := someO h
        have h := hk536
        replace h := inlO h
        obtain rfl := someO h
        exact Ends.mkG (.inl e) e (gh_pk [0,1,2] [] hB e e e e) e e
     ·exact Run.skip (.ops hm (.p3 e e e (.nil (⟨m536,Nat.lt_succ_self m536,_,_,(gh_pk [0,1,7,8,9] [] hB e e e e),_,_,_,h,e,e⟩))))
    ·refine Run.exit ?_
     obtain rfl := someO h
     have h := hk536
     replace h := inrO h
     exact ⟨_,_,(gh_pk [] [] hB e e e e),(),h,e,e⟩
   ·refine Ops.gn e g542 (.gn e g542 (.gn e g542 (.gn e g542 (.z 25720 (.pkF e g542 e) e e (.nil (.condF e e (.exit ?_)))))))
    obtain rfl := someO h
    have h := hk536
    replace h := inrO h
    exact ⟨_,_,(gh_pk [] [] hB e e e e),(),h,e,e⟩
  ·refine Run.so hm (.p3 e e e (.nil (.ret ?_)))
   obtain rfl := someO h
   exact Ends.mkG (.inl e) e (gh_pk [0,1,2] [] hB e e e e) e e
def spec_Unframe_l1 (N : Nat) (x1 : ByteArray) : Nat → Int → (List ByteArray) → Option (((List ByteArray) × Int) ⊕ (Int × (List ByteArray)))
 | 0,_,_ => none
 | m + 1,x329,x330 =>
 (if (decide (x329 < (x1.size : Int))) = true then
 (spec_ReadVar N x1 x329).bind fun y373 =>
 (if (!y373.2.2) = true then
 some (Sum.inl (x330,x329))
 else
 (if (decide (y373.1 > (w64 ((w64 ((x1.size : Int) - y373.2.1)) - 4)))) = true then
 some (Sum.inl (x330,x329))
 else
 (scut? x1 (w64 (y373.2.1 + 4)) (w64 ((w64 (y373.2.1 + 4)) + y373.1))).bind fun x383 =>
 (spec_Frame N x383).bind fun y387 =>
 (if (!y387.2) = true then
 some (Sum.inl (x330,x329))
 else
 (scut? x1 x329 (w64 ((w64 (y373.2.1 + 4)) + y373.1))).bind fun x396 =>
 (if (!decide (y387.1 = x396)) = true then
 some (Sum.inl (x330,x329))
 else
 (cat? x330 ([x383] : List ByteArray)).bind fun x401 =>
 spec_Unframe_l1 N x1 m (w64 ((w64 (y373.2.1 + 4)) + y373.1)) x401))))
 else
 some (Sum.inr (x329,x330)))
def spec_Unframe (N : Nat) (x1 : ByteArray) : Option ((List ByteArray) × Int) :=
 (if (decide ((x1.size : Int) > 20000)) = true then
 some (([] : List ByteArray),0)
 else
 joinP (fun (v327 : Int × (List ByteArray)) =>
 some (v327.2,v327.1)) fun j327 =>
 (spec_Unframe_l1 N x1 N 0 ([] : List ByteArray)).bind (Sum.elim (fun v365 => some v365) (fun (v366 : Int × (List ByteArray)) => j327 (v366.1,v366.2))))
theorem sem_spec_Unframe (N : Nat) (x1 : ByteArray) (r : (List ByteArray) × Int) (h : spec_Unframe N x1 = some r) : Says Try.prog 57 [VS x1] 0 [] (.tup [.sl 0 9 0 r.1.length,VI r.2]) [(0,.vec 9 (r.1.map encS))] := by
 unfold spec_Unframe at h
 refine Says.of_norm e Try.call57 e fun B hB => ?_
 have hm : B.m ≤ 1000 := by omega
 refine Run.so hm (.p2 e e (.nil (.so hm (.z 5096 (Ev.bsW (ys := ([] : List ByteArray)) (f := encS) e .nil e e e e e) e e (.p e (.nil (.so hm (.p e (.nil (.seq (.so hm (.p3 e e e (.nil (.condO e h (fun g252 h => ?_) (fun g252 h => ?_)))))))))))))))
 ·refine Run.so hm (.p3 e e e (.nil (.ret ?_)))
  obtain rfl := someO h
  exact Ends.mkG (.inl e) e (gh_pk [0,1] [5096] hB e e e e) e e
 ·refine Run.skip (.seqO h (fun v327 => [(4,.sl 0 9 0 v327.2.length),(5,VI v327.1)]) (fun (v327 : Int × (List ByteArray)) => [(0,.vec 9 (v327.2.map encS))]) (fun h => ?_) (fun v327 h => ?_))
  ·refine Run.block ?_
   obtain ⟨res366,h,hk366⟩ := bindO h
   refine Run.loop (n := N) (fun m366 fr σ => ∃ (x329 : Int),∃ (x330 : (List ByteArray)),spec_Unframe_l1 N x1 m366 x329 x330 = some res366 ∧ fr = [(0,VS x1),(4,.sl 0 9 0 x330.length),(5,VI x329)] ∧ σ = [(0,.vec 9 (x330.map encS))]) (gh_pk [0,4,5] [5096] hB e e e e) ⟨_,_,h,e,e⟩ ?_
   rintro m366 fr σ ⟨x329,x330,h,rfl,rfl⟩
   obtain _ | m366 := m366
   ·rw [spec_Unframe_l1] at h; cases h
   rw [spec_Unframe_l1] at h
   refine Run.seq (.so hm (.p3 e e e (.p e (.nil (.condO e h (fun g369 h => ?_) (fun g369 h => ?_))))))
   ·refine Run.skip (.block (.so hm (.p2 e e ?_)))
    obtain ⟨y373,hy373,h⟩ := bindO h
    refine Ops.z 25608 (Ev.call [] [] 0 (sem_spec_ReadVar _ _ _ _ hy373) e e (.d2 .nil) e (.inl e) e e) e e (.p3 e e e (.p3 e e e (.p e (.nil (.seq (.so hm (.p3 e e e (.askO (x := .t 30) e h (fun g378 h => ?_) (fun g378 h => ?_)))))))))
    ·refine Ops.gn e g378 (.gn e g378 (.gn e g378 (.gn e g378 (.gn e g378 (.gn e g378 (.gn e g378 (.z 29832 (.pkT e g378 e) e e (.nil (.condT e e (.so hm (.p3 e e e (.p e (.nil (.ret ?_))))))))))))))
     obtain rfl := someO h
     have h := hk366
     replace h := inlO h
     obtain rfl := someO h
     exact Ends.mkG (.inl e) e (gh_pk [0,1] [0] hB e e e e) e e
    ·refine Ops.gp e g378 e (.gp e g378 e (.gp e g378 e (.gp e g378 e (.gp e g378 e (.gp e g378 e (.gp e g378 e (.z 29832 (.pkF e g378 e) e e (.nil (.condO e h (fun g379 h => ?_) (fun g379 h => ?_))))))))))
     ·refine Run.so hm (.p3 e e e (.p e (.nil (.ret ?_))))
      obtain rfl := someO h
      have h := hk366
      replace h := inlO h
      obtain rfl := someO h
      exact Ends.mkG (.inl e) e (gh_pk [0,1] [0] hB e e e e) e e
     ·refine Run.skip (.so hm (.p3 e e e (.p3 e e e (.p e ?_))))
      obtain ⟨x383,hx383,h⟩ := bindO h
      refine Ops.z 37976 (Ev.ssB e e e hx383) e e (.p e (.nil (.so hm (.p e ?_))))
      obtain ⟨y387,hy387,h⟩ := bindO h
      refine Ops.z 41976 (Ev.call [] [] 0 (sem_spec_Frame _ _ _ hy387) e e (.d1 .nil) e (.inl e) e e) e e (.p3 e e e (.p2 e e (.nil (.seq (.so hm (.p3 e e e (.askO (x := .t 56) e h (fun g395 h => ?_) (fun g395 h => ?_))))))))
      ·refine Ops.gn e g395 (.gn e g395 (.gn e g395 (.gn e g395 (.gn e g395 (.gn e g395 (.gn e g395 (.gn e g395 (.gn e g395 (.z 46248 (.pkT e g395 e) e e (.nil (.condT e e (.so hm (.p3 e e e (.p e (.nil (.ret ?_))))))))))))))))
       obtain rfl := someO h
       have h := hk366
       replace h := inlO h
       obtain rfl := someO h
       exact Ends.mkG (.inl e) e (gh_pk [0,1] [0] hB e e e e) e e
      ·refine Ops.gp e g395 e (.gp e g395 e (.gp e g395 e (.gp e g395 e (.gp e g395 e (.gp e g395 e (.gp e g395 e ?_))))))
       obtain ⟨x396,hx396,h⟩ := bindO h
       refine Ops.gs (s := 46216) e g395 (Ev.ssB e e e hx396) e e (.gp e g395 e (.z 46248 (.pkF e g395 e) e e (.nil (.condO e h (fun g397 h => ?_) (fun g397 h => ?_)))))
       ·refine Run.so hm (.p3 e e e (.p e (.nil (.ret ?_))))
        obtain rfl := someO h
        have h := hk366
        replace h := inlO h
        obtain rfl := someO h
        exact Ends.mkG (.inl e) e (gh_pk [0,1] [0] hB e e e e) e e
       ·refine Run.skip (.so hm (.p2 e e (.z 54280 (Ev.bsW (ys := ([x383] : List ByteArray)) (f := encS) e (.d1 .nil) e e e e e) e e ?_)))
        obtain ⟨x401,hx401,h⟩ := bindO h
        exact Ops.z 54296 (Ev.apW (f := encS) (ontoW e e e) (addsW e e e (fun _ => e)) e bt9 e hx401) e e (.p e (.nil (.ops hm (.p3 e e e (.p2 e e (.nil (⟨m366,Nat.lt_succ_self m366,_,_,(gh_pk [0,4,5] [54296] hB e e e e),_,_,h,e,e⟩)))))))
   ·refine Run.exit ?_
    obtain rfl := someO h
    have h := hk366
    replace h := inrO h
    exact ⟨_,_,(gh_pk [4,5] [0] hB e e e e),_,h,e,e⟩
  ·refine Run.so hm (.p3 e e e (.p e (.nil (.ret ?_))))
   obtain rfl := someO h
   exact Ends.mkG (.inl e) e (gh_pk [0,1] [0] hB e e e e) e e
def spec_l05Take (N : Nat) (x1 : Tl05Cur) (x2 : Int) : Option (ByteArray × Tl05Cur) :=
 (if x1.bad = true then
 some ((⟨#[]⟩ : ByteArray),(Tl05Cur.mk x1.text x1.at' true))
 else
 (if (decide (x2 > (w64 ((x1.text.size : Int) - x1.at')))) = true then
 some ((⟨#[]⟩ : ByteArray),(Tl05Cur.mk x1.text x1.at' true))
 else
 (scut? x1.text (w64 ((w64 (x1.at' + x2)) - x2)) (w64 (x1.at' + x2))).bind fun x115 =>
 some (x115,(Tl05Cur.mk x1.text (w64 (x1.at' + x2)) x1.bad))))
theorem sem_spec_l05Take (N : Nat) (x1 : Tl05Cur) (x2 : Int) (r : ByteArray × Tl05Cur) (h : spec_l05Take N x1 x2 = some r) : Says Try.prog 76 [.ptr 0 0,VI x2] 1 [(0,.box [VS x1.text,VI x1.at',VB x1.bad])] (VS r.1) [(0,.box [VS r.2.text,VI r.2.at',VB r.2.bad])] := by
 unfold spec_l05Take at h
 refine Says.of_norm e Try.call76 e fun B hB => ?_
 have hm : B.m ≤ 1000 := by omega
 refine Run.so hm (.p e (.nil (.seq (.seq (.draw hm hmix (.p e (.p e (.p e (.p e (.p e (.askO (x := .t 9) e h (fun g112 h => ?_) (fun g112 h => ?_))))))))))))
 ·refine OpsD.gn e g112 (.gn e g112 (.gn e g112 (.gn e g112 (.gn e g112 (.gn e g112 (.gn e g112 (.gn e g112 (.gn e g112 (.gn e g112 (.gn e g112 (.gn e g112 (.z 5368 (.pkT e g112 e) e e (.nil ⟨by kernel_rfl,?_⟩)))))))))))))
  refine Run.condT e e (.so hm (.p3 e e e (.y 9240 (.sto e e e e e e) e e (.nil (.so hm (.p e (.nil (.ret ?_))))))))
  obtain rfl := someO h
  exact Ends.mkG (.inl e) e (gh_pk [0] [0] hB e e e e) e e
 ·refine OpsD.gp e g112 e (.gp e g112 e (.gp e g112 e (.gp e g112 e (.gp e g112 e (.gp e g112 e (.gp e g112 e (.gp e g112 e (.gp e g112 e (.gp e g112 e (.gp e g112 e (.gp e g112 e (.z 5368 (.pkF e g112 e) e e (.nil ⟨by kernel_rfl,?_⟩)))))))))))))
  refine Run.condO e h (fun g113 h => ?_) (fun g113 h => ?_)
  ·refine Run.so hm (.p3 e e e (.y 9240 (.sto e e e e e e) e e (.nil (.so hm (.p e (.nil (.ret ?_)))))))
   obtain rfl := someO h
   exact Ends.mkG (.inl e) e (gh_pk [0] [0] hB e e e e) e e
  ·refine Run.skip (.so hm (.p3 e e e (.p3 e e e (.p3 e e e (.y 17528 (.sto e e e e e e) e e (.nil (.seq (.draw hm hmix (.p e (.p e (.p e (.p e (.p e (.p e (.p e (.p e (.p e (.p e (.p e (.p e (.p e (.p e ?_))))))))))))))))))))))
   obtain ⟨x115,hx115,h⟩ := bindO h
   refine OpsD.z 21704 (Ev.ssB e e e hx115) e e (.p e (.nil ⟨by kernel_rfl,?_⟩))
   refine Run.ret ?_
   obtain rfl := someO h
   exact Ends.mkG (.inl e) e (gh_pk [0] [0] hB e e e e) e e
end Go.Proofs.Ythlhkcnilehbbaa.Pe.FnLogs
