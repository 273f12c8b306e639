/- Functions,as pure functions; and that Go does just that. -/
import Derived.Test.YtlkdjdfcihjplaaGreatDoorPeTy
import Derived.Test.YtlkdjdfcihjplaaGreatDoorPeNorm
import Derived.Test.YtlkdjdfcihjplaaGreatDoorPeSpec
import Derived.Test.YtlkdjdfcihjplaaGreatDoorShelf
import Derived.Test.YtlkdjdfcihjplaaGreatDoorPeIns74
import Derived.Test.YtlkdjdfcihjplaaGreatDoorPeIns92
import Derived.Test.YtlkdjdfcihjplaaGreatDoorPeIns93
import Derived.Test.YtlkdjdfcihjplaaGreatDoorPeSFnExactFold
namespace Go.Proofs.YtlkdjdfcihjplaaGreatDoor.Pe.FnExactFold
open Go Go.RowKit
set_option linter.unusedVariables false
set_option linter.unusedSimpArgs false
set_option maxHeartbeats 40000000
set_option maxRecDepth 100000
theorem hmix : Tryz.prog.follows .mixedOrders = true := by kernel_rfl
structure Entry where
 Term : Int
 Kind : Int
 Data : ByteArray
abbrev encEntry (x : Entry) : List C := [.i .i64 x.Term,.i .i64 x.Kind,.s x.Data]
structure Applied where
 Node : Int
 Term : Int
 Index : Int
 Entry : Entry
abbrev encApplied (x : Applied) : List C := [.i .i64 x.Node,.i .i64 x.Term,.i .i64 x.Index,.i .i64 x.Entry.Term,.i .i64 x.Entry.Kind,.s x.Entry.Data]
structure Pair where
 Key : ByteArray
 Value : ByteArray
abbrev encPair (x : Pair) : List C := [.s x.Key,.s x.Value]
structure Tl05Cur where
 text : ByteArray
 at' : Int
 bad : Bool
abbrev encTl05Cur (x : Tl05Cur) : List C := [.s x.text,.i .i64 x.at',.b x.bad]
structure Command where
 Op : Int
 Session : Int
 Seq : Int
 Key : ByteArray
 Value : ByteArray
 Old : ByteArray
abbrev encCommand (x : Command) : List C := [.i .i64 x.Op,.i .i64 x.Session,.i .i64 x.Seq,.s x.Key,.s x.Value,.s x.Old]
structure Tl15State where
 id : Int
 seq : Int
 at' : Int
 reply : ByteArray
abbrev encTl15State (x : Tl15State) : List C := [.i .i64 x.id,.i .i64 x.seq,.i .i64 x.at',.s x.reply]
structure Treader where
 s : ByteArray
 at' : Int
 bad : Bool
abbrev encTreader (x : Treader) : List C := [.s x.s,.i .i64 x.at',.b x.bad]
structure Tsession where
 number : Int
 seq : Int
 index : Int
 reply : ByteArray
abbrev encTsession (x : Tsession) : List C := [.i .i64 x.number,.i .i64 x.seq,.i .i64 x.index,.s x.reply]
theorem bt5 : bytesOf Tryz.prog 5 ≤ 2048 := of_decide_eq_true (by kernel_rfl)
theorem bt9 : bytesOf Tryz.prog 9 ≤ 2048 := of_decide_eq_true (by kernel_rfl)
theorem bt42 : bytesOf Tryz.prog 42 ≤ 2048 := of_decide_eq_true (by kernel_rfl)
theorem bt50 : bytesOf Tryz.prog 50 ≤ 2048 := of_decide_eq_true (by kernel_rfl)
theorem bt78 : bytesOf Tryz.prog 78 ≤ 2048 := of_decide_eq_true (by kernel_rfl)
theorem bt107 : bytesOf Tryz.prog 107 ≤ 2048 := of_decide_eq_true (by kernel_rfl)
def laws_szEntry (N : Nat) (x1 : Entry) (x2 : Int) : Option (Int) :=
 (if (decide ((w64 (x2 - (x1.Data.size : Int))) < 0)) = true then
 some (-1 : Int)
 else
 some (w64 (x2 - (x1.Data.size : Int))))
theorem sem_laws_szEntry (N : Nat) (x1 : Entry) (x2 : Int) (r : Int) (h : laws_szEntry N x1 x2 = some r) : Says Tryz.prog 24 [.agg [VI x1.Term,VI x1.Kind,VS x1.Data],VI x2] 0 [] (VI r) [] := by
 unfold laws_szEntry at h
 refine Says.of_norm e Tryz.call24 e fun B hB => ?_
 have hm : B.m ≤ 1000 := by omega
 refine Run.so hm (.z 1000 (.bx e e) e e (.p e (.nil (.so hm (.p3 e e e (.p3 e e e (.nil (.seq (.so hm (.p2 e e (.nil (.condO e h (fun g103 h => ?_) (fun g103 h => ?_)))))))))))))
 ·refine Run.so hm (.p e (.nil (.ret ?_)))
  obtain rfl := someO h
  exact Ends.mkG (.inl e) e (gh_pk [0] [] hB e e e e) e e
 ·refine Run.skip (.so hm (.p2 e e (.nil (.ret ?_))))
  obtain rfl := someO h
  exact Ends.mkG (.inl e) e (gh_pk [0] [] hB e e e e) e e
def laws_szApplied (N : Nat) (x1 : Applied) (x2 : Int) : Option (Int) :=
 (laws_szEntry N x1.Entry x2).bind fun y109 =>
 (if (decide (y109 < 0)) = true then
 some (-1 : Int)
 else
 some y109)
theorem sem_laws_szApplied (N : Nat) (x1 : Applied) (x2 : Int) (r : Int) (h : laws_szApplied N x1 x2 = some r) : Says Tryz.prog 13 [.agg [VI x1.Node,VI x1.Term,VI x1.Index,VI x1.Entry.Term,VI x1.Entry.Kind,VS x1.Entry.Data],VI x2] 0 [] (VI r) [] := by
 unfold laws_szApplied at h
 refine Says.of_norm e Tryz.call13 e fun B hB => ?_
 have hm : B.m ≤ 1000 := by omega
 refine Run.so hm (.z 1000 (.bx e e) e e (.p e (.nil (.so hm (.p3 e e e ?_)))))
 obtain ⟨y109,hy109,h⟩ := bindO h
 refine Ops.z 5144 (Ev.call [] [] 0 (sem_laws_szEntry _ _ _ _ hy109) e e (.cons (.agg (.d2 (.d1 .nil))) (.d1 .nil)) e (.inl e) e e) e e (.p e (.nil (.seq (.so hm (.p2 e e (.nil (.condO e h (fun g111 h => ?_) (fun g111 h => ?_))))))))
 ·refine Run.so hm (.p e (.nil (.ret ?_)))
  obtain rfl := someO h
  exact Ends.mkG (.inl e) e (gh_pk [0] [] hB e e e e) e e
 ·refine Run.skip (.so hm (.p2 e e (.nil (.ret ?_))))
  obtain rfl := someO h
  exact Ends.mkG (.inl e) e (gh_pk [0] [] hB e e e e) e e
def laws_szAppliedS_l1 (N : Nat) (x1 : (List Applied)) : Nat → Int → Int → Option ((Int) ⊕ (Int))
 | 0,_,_ => none
 | m + 1,x245,x246 =>
 (if (decide (x246 < (x1.length : Int))) = true then
 (at? x1 x246).bind fun x287 =>
 (laws_szApplied N x287 x245).bind fun y288 =>
 (if (decide (y288 < 0)) = true then
 some (Sum.inl (-1 : Int))
 else
 laws_szAppliedS_l1 N x1 m y288 (w64 (x246 + 1)))
 else
 some (Sum.inr x245))
def laws_szAppliedS_l1_r (N : Nat) (x1 : (List Applied)) : (List Applied) → Int → Int → Option ((Int) ⊕ (Int))
 | [],x245,x246 =>
 some (Sum.inr x245)
 | hd :: tl,x245,x246 =>
 (some hd).bind fun x287 =>
 (laws_szApplied N x287 x245).bind fun y288 =>
 (if (decide (y288 < 0)) = true then
 some (Sum.inl (-1 : Int))
 else
 laws_szAppliedS_l1_r N x1 tl y288 (w64 (x246 + 1)))
theorem laws_szAppliedS_l1_rng (N : Nat) (x1 : (List Applied)) (hx : x1.length ≤ 1099511627776) : ∀ (d k m : Nat) (x245 : Int),x1.length = k + d → d < m → laws_szAppliedS_l1 N x1 m x245 (k : Int) = laws_szAppliedS_l1_r N x1 (x1.drop k) x245 (k : Int) := by
 intro d
 induction d with
 | zero =>
  intro k m x245 hd hm
  obtain ⟨m,rfl⟩ : ∃ q,m = q + 1 := ⟨m - 1,by omega⟩
  rw [laws_szAppliedS_l1,if_neg (by simp; omega),List.drop_eq_nil_of_le (by omega),laws_szAppliedS_l1_r]
 | succ d ih =>
  intro k m x245 hd hm
  obtain ⟨m,rfl⟩ : ∃ q,m = q + 1 := ⟨m - 1,by omega⟩
  have hk : k < x1.length := by omega
  rw [laws_szAppliedS_l1,if_pos (by simp; omega),List.drop_eq_getElem_cons hk,laws_szAppliedS_l1_r]
  have h1 := at_lt hk
  have h2 := w64_succ (k := k) (by omega)
  have h3 := ih (k + 1) m
  simp only [h1,h2,h3 _ (by omega) (by omega)]
theorem laws_szAppliedS_l1_eq {N : Nat} (x1 : (List Applied)) (hx : x1.length ≤ 1099511627776) (hN : x1.length < N) (x245 : Int) : laws_szAppliedS_l1 N x1 N x245 0 = laws_szAppliedS_l1_r N x1 x1 x245 0 := laws_szAppliedS_l1_rng N x1 hx x1.length 0 N x245 (by omega) hN
def laws_szAppliedS (N : Nat) (x1 : (List Applied)) (x2 : Int) : Option (Int) :=
 (if (decide ((w64 (x2 - (x1.length : Int))) < 0)) = true then
 some (-1 : Int)
 else
 joinP (fun (v243 : Int) =>
 some v243) fun j243 =>
 (laws_szAppliedS_l1 N x1 N (w64 (x2 - (x1.length : Int))) 0).bind (Sum.elim (fun v267 => some v267) (fun (v268 : Int) => j243 v268)))
theorem sem_laws_szAppliedS (N : Nat) (x1 : (List Applied)) (x2 : Int) (r : Int) (h : laws_szAppliedS N x1 x2 = some r) : Says Tryz.prog 4 [RO 38 (x1.map encApplied),VI x2] 0 [] (VI r) [] := by
 unfold laws_szAppliedS at h
 refine Says.of_norm e Tryz.call4 e fun B hB => ?_
 have hm : B.m ≤ 1000 := by omega
 refine Run.so hm (.p e (.nil (.so hm (.p2 e e (.z 5128 (Ev.lnF e) e e (.p2 e e (.nil (.seq (.so hm (.p2 e e (.nil (.condO e h (fun g196 h => ?_) (fun g196 h => ?_)))))))))))))
 ·refine Run.so hm (.p e (.nil (.ret ?_)))
  obtain rfl := someO h
  exact Ends.mkG (.inl e) e (gh_pk [0] [] hB e e e e) e e
 ·refine Run.skip (.seqO h (fun v243 => [(1,VI v243)]) (fun (v243 : Int) => []) (fun h => ?_) (fun v243 h => ?_))
  ·refine Run.so hm (.p e (.nil (.block ?_)))
   obtain ⟨res268,h,hk268⟩ := bindO h
   refine Run.loop (n := N) (fun m268 fr σ => ∃ (x245 : Int),∃ (x246 : Int),laws_szAppliedS_l1 N x1 m268 x245 x246 = some res268 ∧ fr = [(0,RO 38 (x1.map encApplied)),(1,VI x245),(5,VI x246)] ∧ σ = []) (gh_pk [0,1,5] [] hB e e e e) ⟨_,_,h,e,e⟩ ?_
   rintro m268 fr σ ⟨x245,x246,h,rfl,rfl⟩
   obtain _ | m268 := m268
   ·rw [laws_szAppliedS_l1] at h; cases h
   rw [laws_szAppliedS_l1] at h
   refine Run.seq (.so hm (.p2 e e (.z 21512 (Ev.lnF e) e e (.p e (.nil (.condO e h (fun g271 h => ?_) (fun g271 h => ?_)))))))
   ·refine Run.skip (.seq (.block (.so hm (.p2 e e ?_))))
    obtain ⟨x287,hx287,h⟩ := bindO h
    refine Ops.z 29704 (Ev.iaF e e hx287) e e (.p2 e e ?_)
    obtain ⟨y288,hy288,h⟩ := bindO h
    refine Ops.z 29752 (Ev.call [] [] 0 (sem_laws_szApplied _ _ _ _ hy288) e e (.cons (.agg (.d4 (.d2 .nil))) (.d1 .nil)) e (.inl e) e e) e e (.p e (.nil (.so hm (.p2 e e (.nil (.condO e h (fun g289 h => ?_) (fun g289 h => ?_)))))))
    ·refine Run.so hm (.p e (.nil (.ret ?_)))
     obtain rfl := someO h
     have h := hk268
     replace h := inlO h
     obtain rfl := someO h
     exact Ends.mkG (.inl e) e (gh_pk [0] [] hB e e e e) e e
    ·exact Run.skip (.ops hm (.p3 e e e (.nil (⟨m268,Nat.lt_succ_self m268,_,_,(gh_pk [0,1,5] [] hB e e e e),_,_,h,e,e⟩))))
   ·refine Run.exit ?_
    obtain rfl := someO h
    have h := hk268
    replace h := inrO h
    exact ⟨_,_,(gh_pk [1] [] hB e e e e),_,h,e,e⟩
  ·refine Run.so hm (.p2 e e (.nil (.ret ?_)))
   obtain rfl := someO h
   exact Ends.mkG (.inl e) e (gh_pk [0] [] hB e e e e) e e
def laws_toEntry (N : Nat) (x1 : Entry) : Option (Entry) :=
 some x1
theorem sem_laws_toEntry (N : Nat) (x1 : Entry) (r : Entry) (h : laws_toEntry N x1 = some r) : Says Tryz.prog 27 [.agg [VI x1.Term,VI x1.Kind,VS x1.Data]] 0 [] (.agg [VI r.Term,VI r.Kind,VS r.Data]) [] := by
 unfold laws_toEntry at h
 refine Says.of_norm e Tryz.call27 e fun B hB => ?_
 have hm : B.m ≤ 1000 := by omega
 refine Run.so hm (.z 1000 (.bx e e) e e (.z 1016 (.al e e) e e (.nil (.so hm (.z 5096 (.al e e) e e (.nil (.so hm (.p3 e e e (.y 9240 (.sto e e e e e e) e e (.nil (.so hm (.p3 e e e (.y 13336 (.sto e e e e e e) e e (.nil (.so hm (.p3 e e e (.y 17432 (.sto e e e e e e) e e (.nil (.so hm (.p e (.y 21496 (.sto e e e e e e) e e (.nil (.ret ?_)))))))))))))))))))))))
 obtain rfl := someO h
 exact Ends.mkG (.inl e) e (gh_pk [0] [] hB e e e e) e e
def laws_toApplied (N : Nat) (x1 : Applied) : Option (Applied) :=
 (laws_toEntry N x1.Entry).bind fun y107 =>
 some (Applied.mk x1.Node x1.Term x1.Index y107)
theorem sem_laws_toApplied (N : Nat) (x1 : Applied) (r : Applied) (h : laws_toApplied N x1 = some r) : Says Tryz.prog 16 [.agg [VI x1.Node,VI x1.Term,VI x1.Index,VI x1.Entry.Term,VI x1.Entry.Kind,VS x1.Entry.Data]] 0 [] (.agg [VI r.Node,VI r.Term,VI r.Index,VI r.Entry.Term,VI r.Entry.Kind,VS r.Entry.Data]) [] := by
 unfold laws_toApplied at h
 refine Says.of_norm e Tryz.call16 e fun B hB => ?_
 have hm : B.m ≤ 1000 := by omega
 refine Run.so hm (.z 1000 (.bx e e) e e (.z 1016 (.al e e) e e (.nil (.so hm (.z 5096 (.al e e) e e (.nil (.so hm (.p3 e e e (.y 9240 (.sto e e e e e e) e e (.nil (.so hm (.p3 e e e (.y 13336 (.sto e e e e e e) e e (.nil (.so hm (.p3 e e e (.y 17432 (.sto e e e e e e) e e (.nil (.so hm (.p2 e e ?_))))))))))))))))))))
 obtain ⟨y107,hy107,h⟩ := bindO h
 refine Ops.z 21512 (Ev.call [] [] 0 (sem_laws_toEntry _ _ _ hy107) e e (.cons (.agg (.d2 (.d1 .nil))) .nil) e (.inl e) e e) e e (.p e (.y 21544 (.sto e e e e e e) e e (.nil (.so hm (.p e (.y 25592 (.sto e e e e e e) e e (.nil (.ret ?_))))))))
 obtain rfl := someO h
 exact Ends.mkG (.inl e) e (gh_pk [0] [] hB e e e e) e e
def laws_toAppliedS_l1 (N : Nat) (x1 : (List Applied)) : Nat → Int → (List Applied) → Option ((List Applied))
 | 0,_,_ => none
 | m + 1,x210,x211 =>
 (if (decide (x210 < (x1.length : Int))) = true then
 (at? x1 x210).bind fun x239 =>
 (laws_toApplied N x239).bind fun y240 =>
 (at? x211 x210).bind fun x241 =>
 laws_toAppliedS_l1 N x1 m (w64 (x210 + 1)) (x211.set x210.toNat y240)
 else
 some x211)
def laws_toAppliedS_l1_r (N : Nat) (x1 : (List Applied)) : (List Applied) → Int → (List Applied) → Option ((List Applied))
 | [],x210,x211 =>
 some x211
 | hd :: tl,x210,x211 =>
 (some hd).bind fun x239 =>
 (laws_toApplied N x239).bind fun y240 =>
 (at? x211 x210).bind fun x241 =>
 laws_toAppliedS_l1_r N x1 tl (w64 (x210 + 1)) (x211.set x210.toNat y240)
theorem laws_toAppliedS_l1_rng (N : Nat) (x1 : (List Applied)) (hx : x1.length ≤ 1099511627776) : ∀ (d k m : Nat) (x211 : (List Applied)),x1.length = k + d → d < m → laws_toAppliedS_l1 N x1 m (k : Int) x211 = laws_toAppliedS_l1_r N x1 (x1.drop k) (k : Int) x211 := by
 intro d
 induction d with
 | zero =>
  intro k m x211 hd hm
  obtain ⟨m,rfl⟩ : ∃ q,m = q + 1 := ⟨m - 1,by omega⟩
  rw [laws_toAppliedS_l1,if_neg (by simp; omega),List.drop_eq_nil_of_le (by omega),laws_toAppliedS_l1_r]
 | succ d ih =>
  intro k m x211 hd hm
  obtain ⟨m,rfl⟩ : ∃ q,m = q + 1 := ⟨m - 1,by omega⟩
  have hk : k < x1.length := by omega
  rw [laws_toAppliedS_l1,if_pos (by simp; omega),List.drop_eq_getElem_cons hk,laws_toAppliedS_l1_r]
  have h1 := at_lt hk
  have h2 := w64_succ (k := k) (by omega)
  have h3 := ih (k + 1) m
  simp only [h1,h2,h3 _ (by omega) (by omega)]
theorem laws_toAppliedS_l1_eq {N : Nat} (x1 : (List Applied)) (hx : x1.length ≤ 1099511627776) (hN : x1.length < N) (x211 : (List Applied)) : laws_toAppliedS_l1 N x1 N 0 x211 = laws_toAppliedS_l1_r N x1 x1 0 x211 := laws_toAppliedS_l1_rng N x1 hx x1.length 0 N x211 (by omega) hN
def laws_toAppliedS (N : Nat) (x1 : (List Applied)) : Option ((List Applied)) :=
 (mk? (Applied.mk 0 0 0 (Entry.mk 0 0 (⟨#[]⟩ : ByteArray))) (x1.length : Int)).bind fun x174 =>
 joinP (fun (v208 : (List Applied)) =>
 some v208) fun j208 =>
 (laws_toAppliedS_l1 N x1 N 0 x174).bind (fun v226 => j208 v226)
theorem sem_laws_toAppliedS (N : Nat) (x1 : (List Applied)) (r : (List Applied)) (h : laws_toAppliedS N x1 = some r) : Says Tryz.prog 6 [RO 38 (x1.map encApplied)] 0 [] (.sl 0 42 0 r.length) [(0,.vec 42 (r.map encApplied))] := by
 unfold laws_toAppliedS at h
 refine Says.of_norm e Tryz.call6 e fun B hB => ?_
 have hm : B.m ≤ 1000 := by omega
 refine Run.so hm (.p e (.nil (.so hm (.p e (.z 5112 (Ev.lnF e) e e ?_)))))
 obtain ⟨x174,hx174,h⟩ := bindO h
 refine Ops.z 5128 (Ev.msW (f := encApplied) (zv := (Applied.mk 0 0 0 (Entry.mk 0 0 (⟨#[]⟩ : ByteArray)))) e e e bt42 e hx174) e e (.p e (.nil (.seqO h (fun v208 => [(3,.sl 0 42 0 v208.length)]) (fun (v208 : (List Applied)) => [(0,.vec 42 (v208.map encApplied))]) (fun h => ?_) (fun v208 h => ?_))))
 ·refine Run.so hm (.p e (.nil (.block ?_)))
  obtain ⟨res226,h,hk226⟩ := bindO h
  refine Run.loop (n := N) (fun m226 fr σ => ∃ (x210 : Int),∃ (x211 : (List Applied)),laws_toAppliedS_l1 N x1 m226 x210 x211 = some res226 ∧ fr = [(0,RO 38 (x1.map encApplied)),(3,.sl 0 42 0 x211.length),(4,VI x210)] ∧ σ = [(0,.vec 42 (x211.map encApplied))]) (gh_pk [0,3,4] [5128] hB e e e e) ⟨_,_,h,e,e⟩ ?_
  rintro m226 fr σ ⟨x210,x211,h,rfl,rfl⟩
  obtain _ | m226 := m226
  ·rw [laws_toAppliedS_l1] at h; cases h
  rw [laws_toAppliedS_l1] at h
  refine Run.seq (.so hm (.p2 e e (.z 13320 (Ev.lnF e) e e (.p e (.nil (.condO e h (fun g229 h => ?_) (fun g229 h => ?_)))))))
  ·refine Run.skip (.seq (.block (.ops hm (.p3 e e e (.p e ?_)))))
   obtain ⟨x239,hx239,h⟩ := bindO h
   refine Ops.z 21544 (Ev.iaF e e hx239) e e (.p e ?_)
   obtain ⟨y240,hy240,h⟩ := bindO h
   refine Ops.z 21576 (Ev.call [] [] 0 (sem_laws_toApplied _ _ _ hy240) e e (.cons (.agg (.d4 (.d2 .nil))) .nil) e (.inl e) e e) e e ?_
   obtain ⟨x241,hx241,h⟩ := bindO h
   exact Ops.z 21592 (Ev.iaW e e e hx241) e e (.y 21608 (Ev.stE (f := encApplied) (v' := y240) e e (at_some hx241).2 e (.d4 (.d2 .nil)) e e e e e) e e (.nil (.ops hm (.p3 e e e (.nil (⟨m226,Nat.lt_succ_self m226,_,_,(gh_pk [0,3,4] [0] hB e e (by first | rfl | (simp only [List.length_set]; done) | (simp only [List.length_set]; rfl)) (by first | rfl | (simp only [List.length_set]; done) | (simp only [List.length_set]; rfl))),_,_,h,e,e⟩))))))
  ·refine Run.exit ?_
   obtain rfl := someO h
   have h := hk226
   exact ⟨_,_,(gh_pk [3] [0] hB e e e e),_,h,e,e⟩
 ·refine Run.so hm (.p2 e e (.nil (.ret ?_)))
  obtain rfl := someO h
  exact Ends.mkG (.inl e) e (gh_pk [0] [0] hB e e e e) e e
def spec_l01In (N : Nat) (x1 : Int) (x2 : Int) (x3 : Int) : Option (Bool) :=
 (if (decide (x1 ≥ x2)) = true then
 some (decide (x1 ≤ x3))
 else
 some false)
theorem sem_spec_l01In (N : Nat) (x1 : Int) (x2 : Int) (x3 : Int) (r : Bool) (h : spec_l01In N x1 x2 x3 = some r) : Says Tryz.prog 14 [VI x1,VI x2,VI x3] 0 [] (VB r) [] := by
 unfold spec_l01In at h
 refine Says.of_norm e Tryz.call14 e fun B hB => ?_
 have hm : B.m ≤ 1000 := by omega
 refine Run.so hm (.p e (.nil (.so hm (.p3 e e e (.p e (.askO (x := .t 10) e h (fun g103 h => ?_) (fun g103 h => ?_)))))))
 ·refine Ops.gp e g103 e (.gp e g103 e (.gp e g103 e (.z 5208 (.pkT e g103 e) e e (.p e (.nil (.ret ?_))))))
  obtain rfl := someO h
  exact Ends.mkG (.inl e) e (gh_pk [0] [] hB e e e e) e e
 ·refine Ops.gn e g103 (.gn e g103 (.gn e g103 (.z 5208 (.pkF e g103 e) e e (.p e (.nil (.ret ?_))))))
  obtain rfl := someO h
  exact Ends.mkG (.inl e) e (gh_pk [0] [] hB e e e e) e e
def spec_l05Take (N : Nat) (x1 : Tl05Cur) (x2 : Int) : Option (ByteArray × Tl05Cur) :=
 (if x1.bad = true then
 some ((⟨#[]⟩ : ByteArray),(Tl05Cur.mk x1.text x1.at' true))
 else
 (if (decide (x2 > (w64 ((x1.text.size : Int) - x1.at')))) = true then
 some ((⟨#[]⟩ : ByteArray),(Tl05Cur.mk x1.text x1.at' true))
 else
 (scut? x1.text (w64 ((w64 (x1.at' + x2)) - x2)) (w64 (x1.at' + x2))).bind fun x115 =>
 some (x115,(Tl05Cur.mk x1.text (w64 (x1.at' + x2)) x1.bad))))
theorem sem_spec_l05Take (N : Nat) (x1 : Tl05Cur) (x2 : Int) (r : ByteArray × Tl05Cur) (h : spec_l05Take N x1 x2 = some r) : Says Tryz.prog 31 [.ptr 0 0,VI x2] 1 [(0,.box [VS x1.text,VI x1.at',VB x1.bad])] (VS r.1) [(0,.box [VS r.2.text,VI r.2.at',VB r.2.bad])] := by
 unfold spec_l05Take at h
 refine Says.of_norm e Tryz.call31 e fun B hB => ?_
 have hm : B.m ≤ 1000 := by omega
 refine Run.so hm (.p e (.nil (.seq (.seq (.draw hm hmix (.p e (.p e (.p e (.p e (.p e (.askO (x := .t 9) e h (fun g112 h => ?_) (fun g112 h => ?_))))))))))))
 ·refine OpsD.gn e g112 (.gn e g112 (.gn e g112 (.gn e g112 (.gn e g112 (.gn e g112 (.gn e g112 (.gn e g112 (.gn e g112 (.gn e g112 (.gn e g112 (.gn e g112 (.z 5368 (.pkT e g112 e) e e (.nil ⟨by kernel_rfl,?_⟩)))))))))))))
  refine Run.condT e e (.so hm (.p3 e e e (.y 9240 (.sto e e e e e e) e e (.nil (.so hm (.p e (.nil (.ret ?_))))))))
  obtain rfl := someO h
  exact Ends.mkG (.inl e) e (gh_pk [0] [0] hB e e e e) e e
 ·refine OpsD.gp e g112 e (.gp e g112 e (.gp e g112 e (.gp e g112 e (.gp e g112 e (.gp e g112 e (.gp e g112 e (.gp e g112 e (.gp e g112 e (.gp e g112 e (.gp e g112 e (.gp e g112 e (.z 5368 (.pkF e g112 e) e e (.nil ⟨by kernel_rfl,?_⟩)))))))))))))
  refine Run.condO e h (fun g113 h => ?_) (fun g113 h => ?_)
  ·refine Run.so hm (.p3 e e e (.y 9240 (.sto e e e e e e) e e (.nil (.so hm (.p e (.nil (.ret ?_)))))))
   obtain rfl := someO h
   exact Ends.mkG (.inl e) e (gh_pk [0] [0] hB e e e e) e e
  ·refine Run.skip (.so hm (.p3 e e e (.p3 e e e (.p3 e e e (.y 17528 (.sto e e e e e e) e e (.nil (.seq (.draw hm hmix (.p e (.p e (.p e (.p e (.p e (.p e (.p e (.p e (.p e (.p e (.p e (.p e (.p e (.p e ?_))))))))))))))))))))))
   obtain ⟨x115,hx115,h⟩ := bindO h
   refine OpsD.z 21704 (Ev.ssB e e e hx115) e e (.p e (.nil ⟨by kernel_rfl,?_⟩))
   refine Run.ret ?_
   obtain rfl := someO h
   exact Ends.mkG (.inl e) e (gh_pk [0] [0] hB e e e e) e e
def spec_l01Var_l1 (N : Nat) : Nat → Int → (List Int) → Option (Int × (List Int))
 | 0,_,_ => none
 | m + 1,x188,x189 =>
 (if (decide (x188 > 127)) = true then
 (intD .rem .i64 x188 128).bind fun x212 =>
 (cat? x189 ([IntKind.wrap .u8 (w64 (x212 + 128))] : List Int)).bind fun x213 =>
 (intD .quo .i64 x188 128).bind fun x215 =>
 spec_l01Var_l1 N m x215 x213
 else
 some (x188,x189))
def spec_l01Var (N : Nat) (x1 : Int) : Option (ByteArray) :=
 joinP (fun (v187 : Int × (List Int)) =>
 (cat? v187.2 ([IntKind.wrap .u8 (v187.1)] : List Int)).bind fun x217 =>
 some (strOf x217)) fun j187 =>
 (spec_l01Var_l1 N N x1 ([] : List Int)).bind (fun v202 => j187 (v202.1,v202.2))
theorem sem_spec_l01Var (N : Nat) (x1 : Int) (r : ByteArray) (h : spec_l01Var N x1 = some r) : Says Tryz.prog 52 [VI x1] 0 [] (VS r) [] := by
 unfold spec_l01Var at h
 refine Says.of_norm e Tryz.call52 e fun B hB => ?_
 have hm : B.m ≤ 1000 := by omega
 refine Run.so hm (.p e (.nil (.so hm (.z 5096 (Ev.bsW (ys := ([] : List Int)) (f := encU) e .nil e e e e e) e e (.p e (.nil (.seqO h (fun v187 => [(0,VI v187.1),(3,.sl 0 5 0 v187.2.length)]) (fun (v187 : Int × (List Int)) => [(0,.vec 5 (v187.2.map encU))]) (fun h => ?_) (fun v187 h => ?_))))))))
 ·refine Run.block ?_
  obtain ⟨res202,h,hk202⟩ := bindO h
  refine Run.loop (n := N) (fun m202 fr σ => ∃ (x188 : Int),∃ (x189 : (List Int)),spec_l01Var_l1 N m202 x188 x189 = some res202 ∧ fr = [(0,VI x188),(3,.sl 0 5 0 x189.length)] ∧ σ = [(0,.vec 5 (x189.map encU))]) (gh_pk [0,3] [5096] hB e e e e) ⟨_,_,h,e,e⟩ ?_
  rintro m202 fr σ ⟨x188,x189,h,rfl,rfl⟩
  obtain _ | m202 := m202
  ·rw [spec_l01Var_l1] at h; cases h
  rw [spec_l01Var_l1] at h
  refine Run.seq (.so hm (.p2 e e (.nil (.condO e h (fun g205 h => ?_) (fun g205 h => ?_)))))
  ·refine Run.skip (.block (.so hm (.p2 e e ?_)))
   obtain ⟨x212,hx212,h⟩ := bindO h
   refine Ops.z 13320 (.bin e e hx212) e e (.p2 e e (.z 13368 (Ev.bsW (ys := ([IntKind.wrap .u8 (w64 (x212 + 128))] : List Int)) (f := encU) e (.d1 .nil) e e e e e) e e ?_))
   obtain ⟨x213,hx213,h⟩ := bindO h
   refine Ops.z 13384 (Ev.apW (f := encU) (ontoW e e e) (addsW e e e (fun _ => e)) e bt5 e hx213) e e (.p e (.nil (.ops hm (.p e ?_))))
   obtain ⟨x215,hx215,h⟩ := bindO h
   exact Ops.z 17400 (.bin e e hx215) e e (.p e (.nil (⟨m202,Nat.lt_succ_self m202,_,_,(gh_pk [0,3] [13384] hB e e e e),_,_,h,e,e⟩)))
  ·refine Run.exit ?_
   obtain rfl := someO h
   have h := hk202
   exact ⟨_,_,(gh_pk [0,3] [0] hB e e e e),_,h,e,e⟩
 ·refine Run.so hm (.p3 e e e (.z 21528 (Ev.bsW (ys := ([IntKind.wrap .u8 (v187.1)] : List Int)) (f := encU) e (.d1 .nil) e e e e e) e e ?_))
  obtain ⟨x217,hx217,h⟩ := bindO h
  refine Ops.z 21544 (Ev.apW (f := encU) (ontoW e e e) (addsW e e e (fun _ => e)) e bt5 e hx217) e e (.z 21560 (.sbC (addsW (f := encU) e e e (fun _ => e))) e e (.p e (.nil (.ret ?_))))
  obtain rfl := someO h
  exact Ends.mkG (.inl e) e (gh_pk [0] [] hB e e e e) e e
def spec_ReadVar_l1 (N : Nat) (x1 : ByteArray) (x2 : Int) : Nat → Int → Int → Int → Option ((Int × Int × Bool) ⊕ (Unit))
 | 0,_,_,_ => none
 | m + 1,x476,x477,x478 =>
 (if (decide (x478 < (x1.size : Int))) = true then
 (if (decide (x478 < (w64 (x2 + 5)))) = true then
 (sat? x1 x478).bind fun x575 =>
 (intD .rem .i64 (w64 (x575)) 128).bind fun x576 =>
 (sat? x1 x478).bind fun x578 =>
 (if (decide (x578 < 128)) = true then
 (if (decide ((w64 (x476 + (w64 (x576 * x477)))) > 1000000000)) = true then
 some (Sum.inl (0,0,false))
 else
 (spec_l01Var N (w64 (x476 + (w64 (x576 * x477))))).bind fun y591 =>
 (scut? x1 x2 (w64 (x478 + 1))).bind fun x592 =>
 (if (!decide (y591 = x592)) = true then
 some (Sum.inl (0,0,false))
 else
 some (Sum.inl (w64 (x476 + (w64 (x576 * x477))),w64 (x478 + 1),true))))
 else
 spec_ReadVar_l1 N x1 x2 m (w64 (x476 + (w64 (x576 * x477)))) (w64 (x477 * 128)) (w64 (x478 + 1)))
 else
 some (Sum.inr ()))
 else
 some (Sum.inr ()))
def spec_ReadVar (N : Nat) (x1 : ByteArray) (x2 : Int) : Option (Int × Int × Bool) :=
 (spec_l01In N x2 0 (x1.size : Int)).bind fun y351 =>
 (if (!y351) = true then
 some (0,0,false)
 else
 joinP (fun (v473 : Unit) =>
 some (0,0,false)) fun j473 =>
 (spec_ReadVar_l1 N x1 x2 N 0 1 x2).bind (Sum.elim (fun v535 => some v535) (fun (v536 : Unit) => j473 ())))
theorem sem_spec_ReadVar (N : Nat) (x1 : ByteArray) (x2 : Int) (r : Int × Int × Bool) (h : spec_ReadVar N x1 x2 = some r) : Says Tryz.prog 51 [VS x1,VI x2] 0 [] (.tup [VI r.1,VI r.2.1,VB r.2.2]) [] := by
 unfold spec_ReadVar at h
 refine Says.of_norm e Tryz.call51 e fun B hB => ?_
 have hm : B.m ≤ 1000 := by omega
 refine Run.so hm (.p3 e e e (.nil (.seq (.so hm (.p3 e e e ?_)))))
 obtain ⟨y351,hy351,h⟩ := bindO h
 refine Ops.z 5144 (Ev.call [] [] 0 (sem_spec_l01In _ _ _ _ _ hy351) e e (.d2 (.d1 .nil)) e (.inl e) e e) e e (.p e (.nil (.condO e h (fun g352 h => ?_) (fun g352 h => ?_))))
 ·refine Run.so hm (.p3 e e e (.nil (.ret ?_)))
  obtain rfl := someO h
  exact Ends.mkG (.inl e) e (gh_pk [0,1,2] [] hB e e e e) e e
 ·refine Run.skip (.so hm (.p e (.nil (.so hm (.p e (.nil (.seqO h (fun v473 => []) (fun (v473 : Unit) => []) (fun h => ?_) (fun v473 h => ?_))))))))
  ·refine Run.so hm (.p2 e e (.nil (.block ?_)))
   obtain ⟨res536,h,hk536⟩ := bindO h
   refine Run.loop (n := N) (fun m536 fr σ => ∃ (x476 : Int),∃ (x477 : Int),∃ (x478 : Int),spec_ReadVar_l1 N x1 x2 m536 x476 x477 x478 = some res536 ∧ fr = [(0,VS x1),(1,VI x2),(7,VI x476),(8,VI x477),(9,VI x478)] ∧ σ = []) (gh_pk [0,1,7,8,9] [] hB e e e e) ⟨_,_,_,h,e,e⟩ ?_
   rintro m536 fr σ ⟨x476,x477,x478,h,rfl,rfl⟩
   obtain _ | m536 := m536
   ·rw [spec_ReadVar_l1] at h; cases h
   rw [spec_ReadVar_l1] at h
   refine Run.seq (.so hm (.p3 e e e (.p2 e e (.askO (x := .t 20) e h (fun g542 h => ?_) (fun g542 h => ?_)))))
   ·refine Ops.gp e g542 e (.gp e g542 e (.gp e g542 e (.gp e g542 e (.z 25720 (.pkT e g542 e) e e (.nil (.condO e h (fun g543 h => ?_) (fun g543 h => ?_)))))))
    ·refine Run.skip (.seq (.block (.so hm (.p3 e e e ?_))))
     obtain ⟨x575,hx575,h⟩ := bindO h
     refine Ops.z 33816 (Ev.ixS e e hx575) e e (.p e ?_)
     obtain ⟨x576,hx576,h⟩ := bindO h
     refine Ops.z 33848 (.bin e e hx576) e e (.p3 e e e (.p e (.nil (.so hm (.p3 e e e (.nil (.so hm (.p2 e e ?_))))))))
     obtain ⟨x578,hx578,h⟩ := bindO h
     refine Ops.z 41992 (Ev.ixS e e hx578) e e (.p e (.nil (.condO e h (fun g579 h => ?_) (fun g579 h => ?_))))
     ·refine Run.seq (.seq (.draw hm hmix (.p e (.p e (.p e (.askO (x := .t 45) e h (fun g590 h => ?_) (fun g590 h => ?_)))))))
      ·refine OpsD.gn e g590 (.gn e g590 (.gn e g590 (.gn e g590 (.gn e g590 (.gn e g590 (.gn e g590 (.gn e g590 (.z 46232 (.pkT e g590 e) e e (.nil ⟨by kernel_rfl,?_⟩)))))))))
       refine Run.condT e e (.so hm (.p3 e e e (.nil (.ret ?_))))
       obtain rfl := someO h
       have h := hk536
       replace h := inlO h
       obtain rfl := someO h
       exact Ends.mkG (.inl e) e (gh_pk [0,1,2] [] hB e e e e) e e
      ·refine OpsD.gp e g590 e ?_
       obtain ⟨y591,hy591,h⟩ := bindO h
       refine OpsD.gs (s := 46120) e g590 (Ev.call [] [] 0 (sem_spec_l01Var _ _ _ hy591) e e (.d1 .nil) e (.inl e) e e) e e (.gp e g590 e (.gp e g590 e (.gp e g590 e (.gp e g590 e ?_))))
       obtain ⟨x592,hx592,h⟩ := bindO h
       refine OpsD.gs (s := 46200) e g590 (Ev.ssB e e e hx592) e e (.gp e g590 e (.z 46232 (.pkF e g590 e) e e (.nil ⟨by kernel_rfl,?_⟩)))
       refine Run.condO e h (fun g593 h => ?_) (fun g593 h => ?_)
       ·refine Run.so hm (.p3 e e e (.nil (.ret ?_)))
        obtain rfl := someO h
        have h := hk536
        replace h := inlO h
        obtain rfl := someO h
        exact Ends.mkG (.inl e) e (gh_pk [0,1,2] [] hB e e e e) e e
       ·refine Run.skip (.so hm (.p3 e e e (.p3 e e e (.nil (.ret ?_)))))
        obtain rfl := someO h
        have h := hk536
        replace h := inlO h
        obtain rfl := someO h
        exact Ends.mkG (.inl e) e (gh_pk [0,1,2] [] hB e e e e) e e
     ·exact Run.skip (.ops hm (.p3 e e e (.nil (⟨m536,Nat.lt_succ_self m536,_,_,(gh_pk [0,1,7,8,9] [] hB e e e e),_,_,_,h,e,e⟩))))
    ·refine Run.exit ?_
     obtain rfl := someO h
     have h := hk536
     replace h := inrO h
     exact ⟨_,_,(gh_pk [] [] hB e e e e),(),h,e,e⟩
   ·refine Ops.gn e g542 (.gn e g542 (.gn e g542 (.gn e g542 (.z 25720 (.pkF e g542 e) e e (.nil (.condF e e (.exit ?_)))))))
    obtain rfl := someO h
    have h := hk536
    replace h := inrO h
    exact ⟨_,_,(gh_pk [] [] hB e e e e),(),h,e,e⟩
  ·refine Run.so hm (.p3 e e e (.nil (.ret ?_)))
   obtain rfl := someO h
   exact Ends.mkG (.inl e) e (gh_pk [0,1,2] [] hB e e e e) e e
def spec_l05Var (N : Nat) (x1 : Tl05Cur) : Option (Int × Tl05Cur) :=
 (spec_ReadVar N x1.text x1.at').bind fun y113 =>
 (if x1.bad = true then
 some (0,(Tl05Cur.mk x1.text x1.at' true))
 else
 (if (!y113.2.2) = true then
 some (0,(Tl05Cur.mk x1.text x1.at' true))
 else
 some (y113.1,(Tl05Cur.mk x1.text y113.2.1 x1.bad))))
theorem sem_spec_l05Var (N : Nat) (x1 : Tl05Cur) (r : Int × Tl05Cur) (h : spec_l05Var N x1 = some r) : Says Tryz.prog 32 [.ptr 0 0] 1 [(0,.box [VS x1.text,VI x1.at',VB x1.bad])] (VI r.1) [(0,.box [VS r.2.text,VI r.2.at',VB r.2.bad])] := by
 unfold spec_l05Var at h
 refine Says.of_norm e Tryz.call32 e fun B hB => ?_
 have hm : B.m ≤ 1000 := by omega
 refine Run.so hm (.p e (.nil (.seq (.draw hm hmix (.p e (.p e (.p e (.p e (.p e (.p e (.p e (.p e ?_))))))))))))
 obtain ⟨y113,hy113,h⟩ := bindO h
 refine OpsD.z 5224 (Ev.call [] [] 0 (sem_spec_ReadVar _ _ _ _ hy113) e e (.d2 .nil) e (.inl e) e e) e e (.p e (.p e (.p e (.p e (.p e (.p e (.p e (.nil ⟨by kernel_rfl,?_⟩))))))))
 refine Run.seq (.so hm (.p3 e e e (.p2 e e (.askO (x := .t 23) e h (fun g118 h => ?_) (fun g118 h => ?_)))))
 ·refine Ops.gn e g118 (.gn e g118 (.z 9304 (.pkT e g118 e) e e (.nil (.condT e e (.so hm (.p3 e e e (.y 13336 (.sto e e e e e e) e e (.nil (.so hm (.p e (.nil (.ret ?_))))))))))))
  obtain rfl := someO h
  exact Ends.mkG (.inl e) e (gh_pk [0] [0] hB e e e e) e e
 ·refine Ops.gp e g118 e (.gp e g118 e (.z 9304 (.pkF e g118 e) e e (.nil (.condO e h (fun g119 h => ?_) (fun g119 h => ?_)))))
  ·refine Run.so hm (.p3 e e e (.y 13336 (.sto e e e e e e) e e (.nil (.so hm (.p e (.nil (.ret ?_)))))))
   obtain rfl := someO h
   exact Ends.mkG (.inl e) e (gh_pk [0] [0] hB e e e e) e e
  ·refine Run.skip (.so hm (.p3 e e e (.p e (.y 21544 (.sto e e e e e e) e e (.nil (.so hm (.p2 e e (.nil (.ret ?_)))))))))
   obtain rfl := someO h
   exact Ends.mkG (.inl e) e (gh_pk [0] [0] hB e e e e) e e
def spec_l05ReadShort (N : Nat) (x1 : Tl05Cur) : Option (ByteArray × Tl05Cur) :=
 (spec_l05Var N x1).bind fun y109 =>
 (spec_l05Take N y109.2 y109.1).bind fun y111 =>
 some (y111.1,y111.2)
theorem sem_spec_l05ReadShort (N : Nat) (x1 : Tl05Cur) (r : ByteArray × Tl05Cur) (h : spec_l05ReadShort N x1 = some r) : Says Tryz.prog 33 [.ptr 0 0] 1 [(0,.box [VS x1.text,VI x1.at',VB x1.bad])] (VS r.1) [(0,.box [VS r.2.text,VI r.2.at',VB r.2.bad])] := by
 unfold spec_l05ReadShort at h
 refine Says.of_norm e Tryz.call33 e fun B hB => ?_
 have hm : B.m ≤ 1000 := by omega
 refine Run.so hm (.p e (.nil (.so hm (.p e ?_))))
 obtain ⟨y109,hy109,h⟩ := bindO h
 refine Ops.z 5112 (Ev.call [0] [] 0 (sem_spec_l05Var _ _ _ hy109) e e (.cons (.ptr e) .nil) e (.inl e) e e) e e (.p e (.nil (.so hm (.p2 e e ?_))))
 obtain ⟨y111,hy111,h⟩ := bindO h
 refine Ops.z 9224 (Ev.call [0] [] 0 (sem_spec_l05Take _ _ _ _ hy111) e e (.cons (.ptr e) (.d1 .nil)) e (.inl e) e e) e e (.p e (.nil (.ret ?_)))
 obtain rfl := someO h
 exact Ends.mkG (.inl e) e (gh_pk [0] [0] hB e e e e) e e
def spec_CommandOk (N : Nat) (x1 : Command) : Option (Bool) :=
 (spec_l01In N x1.Op 1 5).bind fun y167 =>
 (if (!y167) = true then
 some false
 else
 (spec_l01In N x1.Session 0 100000).bind fun y169 =>
 (if (!y169) = true then
 some false
 else
 (spec_l01In N x1.Seq 0 100000).bind fun y171 =>
 (if (!y171) = true then
 some false
 else
 (if (decide ((x1.Value.size : Int) > 12)) = true then
 some false
 else
 (if (decide ((x1.Old.size : Int) > 12)) = true then
 some false
 else
 (if (x1.Op == 1) = true then
 some (((x1.Op == 1) && ((x1.Session == 0) && ((x1.Seq == 0) && (decide (x1.Key = (⟨#[]⟩ : ByteArray)) && (decide (x1.Value = (⟨#[]⟩ : ByteArray)) && (decide (x1.Old = (⟨#[]⟩ : ByteArray)) && true)))))) ^^ false)
 else
 (spec_l01In N (x1.Key.size : Int) 1 9).bind fun y181 =>
 (if (!y181) = true then
 some false
 else
 (if (x1.Op == 2) = true then
 (if (decide (x1.Value = (⟨#[]⟩ : ByteArray))) = true then
 some (decide (x1.Old = (⟨#[]⟩ : ByteArray)))
 else
 some false)
 else
 (if (x1.Op == 4) = true then
 (if (decide (x1.Value = (⟨#[]⟩ : ByteArray))) = true then
 some (decide (x1.Old = (⟨#[]⟩ : ByteArray)))
 else
 some false)
 else
 (if (x1.Op == 3) = true then
 some (decide (x1.Old = (⟨#[]⟩ : ByteArray)))
 else
 some true))))))))))
theorem sem_spec_CommandOk (N : Nat) (x1 : Command) (r : Bool) (h : spec_CommandOk N x1 = some r) : Says Tryz.prog 36 [.agg [VI x1.Op,VI x1.Session,VI x1.Seq,VS x1.Key,VS x1.Value,VS x1.Old]] 0 [] (VB r) [] := by
 unfold spec_CommandOk at h
 refine Says.of_run s36 Tryz.call36 e fun B hB => ?_
 have hm : B.m ≤ 1000 := by omega
 refine Run.so hm (.z 1000 (.bx e e) e e (.p e (.nil (.seq (.so hm (.p2 e e ?_))))))
 obtain ⟨y167,hy167,h⟩ := bindO h
 refine Ops.z 5128 (Ev.call [] [] 0 (sem_spec_l01In _ _ _ _ _ hy167) e e (.d2 (.d1 .nil)) e (.inl e) e e) e e (.p2 e e (.askO (x := .t 7) e h (fun g168 h => ?_) (fun g168 h => ?_)))
 ·refine Ops.gn e g168 (.gn e g168 (.gn e g168 (.gn e g168 (.z 5240 (.pkT e g168 e) e e (.p e (.gn e e (.gn e e (.gn e e (.gn e e (.z 5336 (.pkT e e e) e e (.p e (.gn e e (.gn e e (.gn e e (.gn e e (.z 5432 (.pkT e e e) e e (.p e (.gn e e (.gn e e (.gn e e (.gn e e (.z 5528 (.pkT e e e) e e (.nil (.condT e e (.so hm (.p e (.nil (.ret ?_))))))))))))))))))))))))))))
  obtain rfl := someO h
  exact Ends.mkG (.inl e) e (gh_pk [0] [] hB e e e e) e e
 ·refine Ops.gp e g168 e (.gp e g168 e ?_)
  obtain ⟨y169,hy169,h⟩ := bindO h
  refine Ops.gs (s := 5208) e g168 (Ev.call [] [] 0 (sem_spec_l01In _ _ _ _ _ hy169) e e (.d2 (.d1 .nil)) e (.inl e) e e) e e (.gp e g168 e (.z 5240 (.pkF e g168 e) e e (.p e (.askO (x := .t 13) e h (fun g170 h => ?_) (fun g170 h => ?_)))))
  ·refine Ops.gn e g170 (.gn e g170 (.gn e g170 (.gn e g170 (.z 5336 (.pkT e g170 e) e e (.p e (.gn e e (.gn e e (.gn e e (.gn e e (.z 5432 (.pkT e e e) e e (.p e (.gn e e (.gn e e (.gn e e (.gn e e (.z 5528 (.pkT e e e) e e (.nil (.condT e e (.so hm (.p e (.nil (.ret ?_))))))))))))))))))))))
   obtain rfl := someO h
   exact Ends.mkG (.inl e) e (gh_pk [0] [] hB e e e e) e e
  ·refine Ops.gp e g170 e (.gp e g170 e ?_)
   obtain ⟨y171,hy171,h⟩ := bindO h
   refine Ops.gs (s := 5304) e g170 (Ev.call [] [] 0 (sem_spec_l01In _ _ _ _ _ hy171) e e (.d2 (.d1 .nil)) e (.inl e) e e) e e (.gp e g170 e (.z 5336 (.pkF e g170 e) e e (.p e (.askO (x := .t 19) e h (fun g172 h => ?_) (fun g172 h => ?_)))))
   ·refine Ops.gn e g172 (.gn e g172 (.gn e g172 (.gn e g172 (.z 5432 (.pkT e g172 e) e e (.p e (.gn e e (.gn e e (.gn e e (.gn e e (.z 5528 (.pkT e e e) e e (.nil (.condT e e (.so hm (.p e (.nil (.ret ?_))))))))))))))))
    obtain rfl := someO h
    exact Ends.mkG (.inl e) e (gh_pk [0] [] hB e e e e) e e
   ·refine Ops.gp e g172 e (.gp e g172 e (.gp e g172 e (.gp e g172 e (.z 5432 (.pkF e g172 e) e e (.p e (.askO (x := .t 25) e h (fun g173 h => ?_) (fun g173 h => ?_)))))))
    ·refine Ops.gn e g173 (.gn e g173 (.gn e g173 (.gn e g173 (.z 5528 (.pkT e g173 e) e e (.nil (.condT e e (.so hm (.p e (.nil (.ret ?_))))))))))
     obtain rfl := someO h
     exact Ends.mkG (.inl e) e (gh_pk [0] [] hB e e e e) e e
    ·refine Ops.gp e g173 e (.gp e g173 e (.gp e g173 e (.gp e g173 e (.z 5528 (.pkF e g173 e) e e (.nil (.condO e h (fun g174 h => ?_) (fun g174 h => ?_)))))))
     ·refine Run.so hm (.p e (.nil (.ret ?_)))
      obtain rfl := someO h
      exact Ends.mkG (.inl e) e (gh_pk [0] [] hB e e e e) e e
     ·refine Run.skip (.seq (.so hm (.p3 e e e (.nil (.condO e h (fun g176 h => ?_) (fun g176 h => ?_))))))
      ·refine Run.so hm (.p e (.z 17400 (.bd e e) e e (.p2 e e (.nil (.ret ?_)))))
       obtain rfl := someO h
       exact Ends.mkG (.inl e) e (gh_pk [0] [] hB e e e e) e e
      ·refine Run.skip (.seq (.so hm (.p3 e e e ?_)))
       obtain ⟨y181,hy181,h⟩ := bindO h
       refine Ops.z 21528 (Ev.call [] [] 0 (sem_spec_l01In _ _ _ _ _ hy181) e e (.d2 (.d1 .nil)) e (.inl e) e e) e e (.p e (.nil (.condO e h (fun g182 h => ?_) (fun g182 h => ?_))))
       ·refine Run.so hm (.p e (.nil (.ret ?_)))
        obtain rfl := someO h
        exact Ends.mkG (.inl e) e (gh_pk [0] [] hB e e e e) e e
       ·refine Run.skip (.seq (.so hm (.p2 e e (.nil (.block (.seq (.so hm (.p2 e e (.nil (.condO e h (fun g183 h => ?_) (fun g183 h => ?_)))))))))))
        ·refine Run.skip (.condT e g183 (.so hm (.p3 e e e (.p e (.askO (x := .t 50) e h (fun g185 h => ?_) (fun g185 h => ?_))))))
         ·refine Ops.gp e g185 e (.gp e g185 e (.gp e g185 e (.z 42072 (.pkT e g185 e) e e (.p e (.nil (.ret ?_))))))
          obtain rfl := someO h
          exact Ends.mkG (.inl e) e (gh_pk [0] [] hB e e e e) e e
         ·refine Ops.gn e g185 (.gn e g185 (.gn e g185 (.z 42072 (.pkF e g185 e) e e (.p e (.nil (.ret ?_))))))
          obtain rfl := someO h
          exact Ends.mkG (.inl e) e (gh_pk [0] [] hB e e e e) e e
        ·refine Run.ops hm (.p2 e e (.nil (.condO e h (fun g186 h => ?_) (fun g186 h => ?_))))
         ·refine Run.so hm (.p3 e e e (.p e (.askO (x := .t 50) e h (fun g188 h => ?_) (fun g188 h => ?_))))
          ·refine Ops.gp e g188 e (.gp e g188 e (.gp e g188 e (.z 42072 (.pkT e g188 e) e e (.p e (.nil (.ret ?_))))))
           obtain rfl := someO h
           exact Ends.mkG (.inl e) e (gh_pk [0] [] hB e e e e) e e
          ·refine Ops.gn e g188 (.gn e g188 (.gn e g188 (.z 42072 (.pkF e g188 e) e e (.p e (.nil (.ret ?_))))))
           obtain rfl := someO h
           exact Ends.mkG (.inl e) e (gh_pk [0] [] hB e e e e) e e
         ·refine Run.so hm (.p2 e e (.nil (.condO e h (fun g189 h => ?_) (fun g189 h => ?_))))
          ·refine Run.so hm (.p3 e e e (.p e (.nil (.ret ?_))))
           obtain rfl := someO h
           exact Ends.mkG (.inl e) e (gh_pk [0] [] hB e e e e) e e
          ·refine Run.skip (.so hm (.p e (.nil (.ret ?_))))
           obtain rfl := someO h
           exact Ends.mkG (.inl e) e (gh_pk [0] [] hB e e e e) e e
def spec_l05Short (N : Nat) (x1 : ByteArray) : Option (ByteArray) :=
 (spec_l01Var N (x1.size : Int)).bind fun y106 =>
 (scat? y106 x1).bind fun x107 =>
 some x107
theorem sem_spec_l05Short (N : Nat) (x1 : ByteArray) (r : ByteArray) (h : spec_l05Short N x1 = some r) : Says Tryz.prog 53 [VS x1] 0 [] (VS r) [] := by
 unfold spec_l05Short at h
 refine Says.of_norm e Tryz.call53 e fun B hB => ?_
 have hm : B.m ≤ 1000 := by omega
 refine Run.so hm (.p e (.nil (.so hm (.p2 e e ?_))))
 obtain ⟨y106,hy106,h⟩ := bindO h
 refine Ops.z 5128 (Ev.call [] [] 0 (sem_spec_l01Var _ _ _ hy106) e e (.d1 .nil) e (.inl e) e e) e e (.p e ?_)
 obtain ⟨x107,hx107,h⟩ := bindO h
 refine Ops.z 5160 (Ev.addS e e hx107) e e (.p e (.nil (.ret ?_)))
 obtain rfl := someO h
 exact Ends.mkG (.inl e) e (gh_pk [0] [] hB e e e e) e e
def spec_CommandText (N : Nat) (x1 : Command) : Option (ByteArray × Bool) :=
 (spec_CommandOk N x1).bind fun y130 =>
 (if (!y130) = true then
 some ((⟨#[]⟩ : ByteArray),false)
 else
 (spec_l01Var N x1.Session).bind fun y142 =>
 (scat? (strOf ([IntKind.wrap .u8 (x1.Op)] : List Int)) y142).bind fun x143 =>
 (spec_l01Var N x1.Seq).bind fun y144 =>
 (scat? x143 y144).bind fun x145 =>
 (spec_l05Short N x1.Key).bind fun y146 =>
 (scat? x145 y146).bind fun x147 =>
 (spec_l05Short N x1.Value).bind fun y148 =>
 (scat? x147 y148).bind fun x149 =>
 (spec_l05Short N x1.Old).bind fun y150 =>
 (scat? x149 y150).bind fun x151 =>
 some (x151,true))
theorem sem_spec_CommandText (N : Nat) (x1 : Command) (r : ByteArray × Bool) (h : spec_CommandText N x1 = some r) : Says Tryz.prog 34 [.agg [VI x1.Op,VI x1.Session,VI x1.Seq,VS x1.Key,VS x1.Value,VS x1.Old]] 0 [] (.tup [VS r.1,VB r.2]) [] := by
 unfold spec_CommandText at h
 refine Says.of_norm e Tryz.call34 e fun B hB => ?_
 have hm : B.m ≤ 1000 := by omega
 refine Run.so hm (.z 1000 (.bx e e) e e (.p2 e e (.nil (.seq (.so hm (.p e ?_))))))
 obtain ⟨y130,hy130,h⟩ := bindO h
 refine Ops.z 5112 (Ev.call [] [] 0 (sem_spec_CommandOk _ _ _ hy130) e e (.cons (.agg (.d4 (.d2 .nil))) .nil) e (.inl e) e e) e e (.p e (.nil (.condO e h (fun g131 h => ?_) (fun g131 h => ?_))))
 ·refine Run.so hm (.p2 e e (.nil (.ret ?_)))
  obtain rfl := someO h
  exact Ends.mkG (.inl e) e (gh_pk [0,1] [] hB e e e e) e e
 ·refine Run.skip (.seq (.draw hm hmix (.p e (.p e (.p e (.z 13336 (Ev.bsW (ys := ([IntKind.wrap .u8 (x1.Op)] : List Int)) (f := encU) e (.d1 .nil) e e e e e) e e (.z 13352 (.sbC (addsW (f := encU) e e e (fun _ => e))) e e (.p e (.p e ?_)))))))))
  obtain ⟨y142,hy142,h⟩ := bindO h
  refine OpsD.z 13400 (Ev.call [] [] 0 (sem_spec_l01Var _ _ _ hy142) e e (.d1 .nil) e (.inl e) e e) e e ?_
  obtain ⟨x143,hx143,h⟩ := bindO h
  refine OpsD.z 13416 (Ev.addS e e hx143) e e (.p e (.p e ?_))
  obtain ⟨y144,hy144,h⟩ := bindO h
  refine OpsD.z 13464 (Ev.call [] [] 0 (sem_spec_l01Var _ _ _ hy144) e e (.d1 .nil) e (.inl e) e e) e e ?_
  obtain ⟨x145,hx145,h⟩ := bindO h
  refine OpsD.z 13480 (Ev.addS e e hx145) e e (.p e (.p e ?_))
  obtain ⟨y146,hy146,h⟩ := bindO h
  refine OpsD.z 13528 (Ev.call [] [] 0 (sem_spec_l05Short _ _ _ hy146) e e (.d1 .nil) e (.inl e) e e) e e ?_
  obtain ⟨x147,hx147,h⟩ := bindO h
  refine OpsD.z 13544 (Ev.addS e e hx147) e e (.p e (.p e ?_))
  obtain ⟨y148,hy148,h⟩ := bindO h
  refine OpsD.z 13592 (Ev.call [] [] 0 (sem_spec_l05Short _ _ _ hy148) e e (.d1 .nil) e (.inl e) e e) e e ?_
  obtain ⟨x149,hx149,h⟩ := bindO h
  refine OpsD.z 13608 (Ev.addS e e hx149) e e (.p e (.p e ?_))
  obtain ⟨y150,hy150,h⟩ := bindO h
  refine OpsD.z 13656 (Ev.call [] [] 0 (sem_spec_l05Short _ _ _ hy150) e e (.d1 .nil) e (.inl e) e e) e e ?_
  obtain ⟨x151,hx151,h⟩ := bindO h
  refine OpsD.z 13672 (Ev.addS e e hx151) e e (.p e (.p e (.nil ⟨by kernel_rfl,?_⟩)))
  refine Run.ret ?_
  obtain rfl := someO h
  exact Ends.mkG (.inl e) e (gh_pk [0,1] [] hB e e e e) e e
def spec_ReadCommand (N : Nat) (x1 : ByteArray) : Option (Command × Bool) :=
 (spec_l05Take N (Tl05Cur.mk x1 0 false) 1).bind fun y147 =>
 (if y147.2.bad = true then
 some ((Command.mk 0 0 0 (⟨#[]⟩ : ByteArray) (⟨#[]⟩ : ByteArray) (⟨#[]⟩ : ByteArray)),false)
 else
 (sat? y147.1 0).bind fun x153 =>
 (spec_l05Var N y147.2).bind fun y157 =>
 (spec_l05Var N y157.2).bind fun y161 =>
 (spec_l05ReadShort N y161.2).bind fun y165 =>
 (spec_l05ReadShort N y165.2).bind fun y169 =>
 (spec_l05ReadShort N y169.2).bind fun y173 =>
 (spec_CommandText N (Command.mk (w64 (x153)) y157.1 y161.1 y165.1 y169.1 y173.1)).bind fun y177 =>
 (if y173.2.bad = true then
 some ((Command.mk 0 0 0 (⟨#[]⟩ : ByteArray) (⟨#[]⟩ : ByteArray) (⟨#[]⟩ : ByteArray)),false)
 else
 (if (!y177.2) = true then
 some ((Command.mk 0 0 0 (⟨#[]⟩ : ByteArray) (⟨#[]⟩ : ByteArray) (⟨#[]⟩ : ByteArray)),false)
 else
 (if (!decide (y177.1 = x1)) = true then
 some ((Command.mk 0 0 0 (⟨#[]⟩ : ByteArray) (⟨#[]⟩ : ByteArray) (⟨#[]⟩ : ByteArray)),false)
 else
 some ((Command.mk (w64 (x153)) y157.1 y161.1 y165.1 y169.1 y173.1),true)))))
theorem sem_spec_ReadCommand (N : Nat) (x1 : ByteArray) (r : Command × Bool) (h : spec_ReadCommand N x1 = some r) : Says Tryz.prog 25 [VS x1] 0 [] (.tup [.agg [VI r.1.Op,VI r.1.Session,VI r.1.Seq,VS r.1.Key,VS r.1.Value,VS r.1.Old],VB r.2]) [] := by
 unfold spec_ReadCommand at h
 refine Says.of_norm e Tryz.call25 e fun B hB => ?_
 have hm : B.m ≤ 1000 := by omega
 refine Run.so hm (.z 1000 (.al e e) e e (.p e (.nil (.so hm (.p e (.z 5112 (.bd e e) e e (.z 5128 (.bx e e) e e (.p e (.nil (.so hm (.p e ?_)))))))))))
 obtain ⟨y147,hy147,h⟩ := bindO h
 refine Ops.z 9208 (Ev.call [5128] [] 0 (sem_spec_l05Take _ _ _ _ hy147) e e (.cons (.ptr e) (.d1 .nil)) e (.inl e) e e) e e (.p e (.nil (.seq (.so hm (.p3 e e e (.p e (.nil (.condO e h (fun g149 h => ?_) (fun g149 h => ?_)))))))))
 ·refine Run.so hm (.z 17384 (.bd e e) e e (.y 17400 (.sto e e e e e e) e e (.p e (.nil (.ret ?_)))))
  obtain rfl := someO h
  exact Ends.mkG (.inl e) e (gh_pk [0,1] [] hB e e e e) e e
 ·refine Run.skip (.so hm (.p e ?_))
  obtain ⟨x153,hx153,h⟩ := bindO h
  refine Ops.z 21496 (Ev.ixS e e hx153) e e (.p e (.z 21528 (.bd e e) e e (.z 21544 (.al e e) e e (.y 21560 (.sto e e e e e e) e e (.nil (.so hm (.p e ?_)))))))
  obtain ⟨y157,hy157,h⟩ := bindO h
  refine Ops.z 25592 (Ev.call [5128] [] 0 (sem_spec_l05Var _ _ _ hy157) e e (.cons (.ptr e) .nil) e (.inl e) e e) e e (.p e (.y 25624 (.sto e e e e e e) e e (.nil (.so hm (.p e ?_)))))
  obtain ⟨y161,hy161,h⟩ := bindO h
  refine Ops.z 29688 (Ev.call [5128] [] 0 (sem_spec_l05Var _ _ _ hy161) e e (.cons (.ptr e) .nil) e (.inl e) e e) e e (.p e (.y 29720 (.sto e e e e e e) e e (.nil (.so hm (.p e ?_)))))
  obtain ⟨y165,hy165,h⟩ := bindO h
  refine Ops.z 33784 (Ev.call [5128] [] 0 (sem_spec_l05ReadShort _ _ _ hy165) e e (.cons (.ptr e) .nil) e (.inl e) e e) e e (.p e (.y 33816 (.sto e e e e e e) e e (.nil (.so hm (.p e ?_)))))
  obtain ⟨y169,hy169,h⟩ := bindO h
  refine Ops.z 37880 (Ev.call [5128] [] 0 (sem_spec_l05ReadShort _ _ _ hy169) e e (.cons (.ptr e) .nil) e (.inl e) e e) e e (.p e (.y 37912 (.sto e e e e e e) e e (.nil (.so hm (.p e ?_)))))
  obtain ⟨y173,hy173,h⟩ := bindO h
  refine Ops.z 41976 (Ev.call [5128] [] 0 (sem_spec_l05ReadShort _ _ _ hy173) e e (.cons (.ptr e) .nil) e (.inl e) e e) e e (.p e (.y 42008 (.sto e e e e e e) e e (.nil (.so hm (.p e ?_)))))
  obtain ⟨y177,hy177,h⟩ := bindO h
  refine Ops.z 46072 (Ev.call [] [] 0 (sem_spec_CommandText _ _ _ hy177) e e (.cons (.agg (.d4 (.d2 .nil))) .nil) e (.inl e) e e) e e (.p3 e e e (.p2 e e (.nil (.seq (.so hm (.p3 e e e (.p2 e e (.askO (x := .t 47) e h (fun g185 h => ?_) (fun g185 h => ?_)))))))))
  ·refine Ops.gn e g185 (.gn e g185 (.z 50264 (.pkT e g185 e) e e (.p e (.gn e e (.gn e e (.gn e e (.z 50344 (.pkT e e e) e e (.nil (.condT e e (.so hm (.z 54248 (.bd e e) e e (.y 54264 (.sto e e e e e e) e e (.p e (.nil (.ret ?_)))))))))))))))
   obtain rfl := someO h
   exact Ends.mkG (.inl e) e (gh_pk [0,1] [] hB e e e e) e e
  ·refine Ops.gp e g185 e (.gp e g185 e (.z 50264 (.pkF e g185 e) e e (.p e (.askO (x := .t 51) e h (fun g186 h => ?_) (fun g186 h => ?_)))))
   ·refine Ops.gn e g186 (.gn e g186 (.gn e g186 (.z 50344 (.pkT e g186 e) e e (.nil (.condT e e (.so hm (.z 54248 (.bd e e) e e (.y 54264 (.sto e e e e e e) e e (.p e (.nil (.ret ?_)))))))))))
    obtain rfl := someO h
    exact Ends.mkG (.inl e) e (gh_pk [0,1] [] hB e e e e) e e
   ·refine Ops.gp e g186 e (.gp e g186 e (.gp e g186 e (.z 50344 (.pkF e g186 e) e e (.nil (.condO e h (fun g187 h => ?_) (fun g187 h => ?_))))))
    ·refine Run.so hm (.z 54248 (.bd e e) e e (.y 54264 (.sto e e e e e e) e e (.p e (.nil (.ret ?_)))))
     obtain rfl := someO h
     exact Ends.mkG (.inl e) e (gh_pk [0,1] [] hB e e e e) e e
    ·refine Run.skip (.so hm (.p e (.y 58360 (.sto e e e e e e) e e (.p e (.nil (.ret ?_))))))
     obtain rfl := someO h
     exact Ends.mkG (.inl e) e (gh_pk [0,1] [] hB e e e e) e e
def spec_l05Key (N : Nat) (x1 : ByteArray) : Option (Bool) :=
 (spec_l01In N (x1.size : Int) 1 10).bind fun y103 =>
 some y103
theorem sem_spec_l05Key (N : Nat) (x1 : ByteArray) (r : Bool) (h : spec_l05Key N x1 = some r) : Says Tryz.prog 54 [VS x1] 0 [] (VB r) [] := by
 unfold spec_l05Key at h
 refine Says.of_norm e Tryz.call54 e fun B hB => ?_
 have hm : B.m ≤ 1000 := by omega
 refine Run.so hm (.p e (.nil (.so hm (.p2 e e ?_))))
 obtain ⟨y103,hy103,h⟩ := bindO h
 refine Ops.z 5128 (Ev.call [] [] 0 (sem_spec_l01In _ _ _ _ _ hy103) e e (.d2 (.d1 .nil)) e (.inl e) e e) e e (.p e (.nil (.ret ?_)))
 obtain rfl := someO h
 exact Ends.mkG (.inl e) e (gh_pk [0] [] hB e e e e) e e
def spec_MapOk_l1 (N : Nat) (x1 : (List Pair)) : Nat → Int → Option ((Bool) ⊕ (Unit))
 | 0,_ => none
 | m + 1,x344 =>
 (if (decide (x344 < (x1.length : Int))) = true then
 joinP (fun (v404 : Unit) =>
 spec_MapOk_l1 N x1 m (w64 (x344 + 1))) fun j404 =>
 (at? x1 x344).bind fun x413 =>
 (spec_l05Key N x413.Key).bind fun y414 =>
 (if (!y414) = true then
 some (Sum.inl false)
 else
 (at? x1 x344).bind fun x416 =>
 (if (decide ((x416.Value.size : Int) > 40)) = true then
 some (Sum.inl false)
 else
 (if (decide (x344 > 0)) = true then
 (at? x1 (w64 (x344 - 1))).bind fun x419 =>
 (at? x1 x344).bind fun x420 =>
 (if (!Op.bytesLess x419.Key.toList x420.Key.toList) = true then
 some (Sum.inl false)
 else
 j404 ())
 else
 j404 ())))
 else
 some (Sum.inr ()))
def spec_MapOk_l1_r (N : Nat) (x1 : (List Pair)) : (List Pair) → Int → Option ((Bool) ⊕ (Unit))
 | [],x344 =>
 some (Sum.inr ())
 | hd :: tl,x344 =>
 joinP (fun (v404 : Unit) =>
 spec_MapOk_l1_r N x1 tl (w64 (x344 + 1))) fun j404 =>
 (some hd).bind fun x413 =>
 (spec_l05Key N x413.Key).bind fun y414 =>
 (if (!y414) = true then
 some (Sum.inl false)
 else
 (some hd).bind fun x416 =>
 (if (decide ((x416.Value.size : Int) > 40)) = true then
 some (Sum.inl false)
 else
 (if (decide (x344 > 0)) = true then
 (at? x1 (w64 (x344 - 1))).bind fun x419 =>
 (some hd).bind fun x420 =>
 (if (!Op.bytesLess x419.Key.toList x420.Key.toList) = true then
 some (Sum.inl false)
 else
 j404 ())
 else
 j404 ())))
theorem spec_MapOk_l1_rng (N : Nat) (x1 : (List Pair)) (hx : x1.length ≤ 1099511627776) : ∀ (d k m : Nat),x1.length = k + d → d < m → spec_MapOk_l1 N x1 m (k : Int) = spec_MapOk_l1_r N x1 (x1.drop k) (k : Int) := by
 intro d
 induction d with
 | zero =>
  intro k m hd hm
  obtain ⟨m,rfl⟩ : ∃ q,m = q + 1 := ⟨m - 1,by omega⟩
  rw [spec_MapOk_l1,if_neg (by simp; omega),List.drop_eq_nil_of_le (by omega),spec_MapOk_l1_r]
 | succ d ih =>
  intro k m hd hm
  obtain ⟨m,rfl⟩ : ∃ q,m = q + 1 := ⟨m - 1,by omega⟩
  have hk : k < x1.length := by omega
  rw [spec_MapOk_l1,if_pos (by simp; omega),List.drop_eq_getElem_cons hk,spec_MapOk_l1_r]
  have h1 := at_lt hk
  have h2 := w64_succ (k := k) (by omega)
  have h3 := ih (k + 1) m
  simp only [h1,h2,h3 (by omega) (by omega)]
theorem spec_MapOk_l1_eq {N : Nat} (x1 : (List Pair)) (hx : x1.length ≤ 1099511627776) (hN : x1.length < N) : spec_MapOk_l1 N x1 N 0 = spec_MapOk_l1_r N x1 x1 0 := spec_MapOk_l1_rng N x1 hx x1.length 0 N (by omega) hN
def spec_MapOk (N : Nat) (x1 : (List Pair)) : Option (Bool) :=
 (if (decide ((x1.length : Int) > 60)) = true then
 some false
 else
 joinP (fun (v342 : Unit) =>
 some true) fun j342 =>
 (spec_MapOk_l1 N x1 N 0).bind (Sum.elim (fun v382 => some v382) (fun (v383 : Unit) => j342 ())))
theorem sem_spec_MapOk (N : Nat) (x1 : (List Pair)) (r : Bool) (h : spec_MapOk N x1 = some r) : Says Tryz.prog 35 [RO 50 (x1.map encPair)] 0 [] (VB r) [] := by
 unfold spec_MapOk at h
 refine Says.of_norm e Tryz.call35 e fun B hB => ?_
 have hm : B.m ≤ 1000 := by omega
 refine Run.so hm (.p e (.nil (.seq (.so hm (.p e (.z 5112 (Ev.lnF e) e e (.p e (.nil (.condO e h (fun g262 h => ?_) (fun g262 h => ?_))))))))))
 ·refine Run.so hm (.p e (.nil (.ret ?_)))
  obtain rfl := someO h
  exact Ends.mkG (.inl e) e (gh_pk [0] [] hB e e e e) e e
 ·refine Run.skip (.seqO h (fun v342 => []) (fun (v342 : Unit) => []) (fun h => ?_) (fun v342 h => ?_))
  ·refine Run.so hm (.p e (.nil (.block ?_)))
   obtain ⟨res383,h,hk383⟩ := bindO h
   refine Run.loop (n := N) (fun m383 fr σ => ∃ (x344 : Int),spec_MapOk_l1 N x1 m383 x344 = some res383 ∧ fr = [(0,RO 50 (x1.map encPair)),(3,VI x344)] ∧ σ = []) (gh_pk [0,3] [] hB e e e e) ⟨_,h,e,e⟩ ?_
   rintro m383 fr σ ⟨x344,h,rfl,rfl⟩
   obtain _ | m383 := m383
   ·rw [spec_MapOk_l1] at h; cases h
   rw [spec_MapOk_l1] at h
   refine Run.seq (.so hm (.p2 e e (.z 17416 (Ev.lnF e) e e (.p e (.nil (.condO e h (fun g386 h => ?_) (fun g386 h => ?_)))))))
   ·refine Run.skip (.seqO h (fun v404 => [(0,RO 50 (x1.map encPair)),(3,VI x344)]) (fun (v404 : Unit) => []) (fun h => ?_) (fun v404 h => ?_))
    ·refine Run.block (.seq (.draw hm hmix (.p e (.p e ?_))))
     obtain ⟨x413,hx413,h⟩ := bindO h
     refine OpsD.z 25608 (Ev.iaF e e hx413) e e (.p e (.p e ?_))
     obtain ⟨y414,hy414,h⟩ := bindO h
     refine OpsD.z 25656 (Ev.call [] [] 0 (sem_spec_l05Key _ _ _ hy414) e e (.d1 .nil) e (.inl e) e e) e e (.p e (.p e (.askO (x := .t 20) e h (fun g415 h => ?_) (fun g415 h => ?_))))
     ·refine OpsD.gn e g415 (.gn e g415 (.gn e g415 (.gn e g415 (.gn e g415 (.gn e g415 (.gn e g415 (.z 25816 (.pkT e g415 e) e e (.p e (.gn e e (.gn e e (.gn e e (.gu e (.gu e (.gu e (.gu e (.gu e (.gu e (.gu e (.gu e (.gu e (.gu e (.gu e (.gu e (.gn e e (.z 26104 (.pkT e e e) e e (.nil ⟨by kernel_rfl,?_⟩))))))))))))))))))))))))))
      refine Run.condT e e (.so hm (.p e (.nil (.ret ?_))))
      obtain rfl := someO h
      have h := hk383
      replace h := inlO h
      obtain rfl := someO h
      exact Ends.mkG (.inl e) e (gh_pk [0] [] hB e e e e) e e
     ·refine OpsD.gp e g415 e (.gp e g415 e ?_)
      obtain ⟨x416,hx416,h⟩ := bindO h
      refine OpsD.gs (s := 25736) e g415 (Ev.iaF e e hx416) e e (.gp e g415 e (.gp e g415 e (.gp e g415 e (.gp e g415 e (.z 25816 (.pkF e g415 e) e e (.p e (.askO (x := .t 29) e h (fun g417 h => ?_) (fun g417 h => ?_))))))))
      ·refine OpsD.gn e g417 (.gn e g417 (.gn e g417 (.gu e (.gu e (.gu e (.gu e (.gu e (.gu e (.gu e (.gu e (.gu e (.gu e (.gu e (.gu e (.gn e g417 (.z 26104 (.pkT e g417 e) e e (.nil ⟨by kernel_rfl,?_⟩)))))))))))))))))
       refine Run.condT e e (.so hm (.p e (.nil (.ret ?_))))
       obtain rfl := someO h
       have h := hk383
       replace h := inlO h
       obtain rfl := someO h
       exact Ends.mkG (.inl e) e (gh_pk [0] [] hB e e e e) e e
      ·refine OpsD.gp e g417 e (.gp e g417 e (.gp e g417 e (.askO (x := .t 32) e h (fun g418 h => ?_) (fun g418 h => ?_))))
       ·refine OpsD.gp e g418 e (.gp e g418 e (.gp e g418 e ?_))
        obtain ⟨x419,hx419,h⟩ := bindO h
        refine OpsD.gs (s := 25944) e g418 (Ev.iaF e e hx419) e e (.gp e g418 e (.gp e g418 e (.gp e g418 e (.gp e g418 e ?_))))
        obtain ⟨x420,hx420,h⟩ := bindO h
        refine OpsD.gs (s := 26024) e g418 (Ev.iaF e e hx420) e e (.gp e g418 e (.gp e g418 e (.gp e g418 e (.gs (s := 26088) e g417 (.pkT e g418 e) e e (.z 26104 (.pkF e g417 e) e e (.nil ⟨by kernel_rfl,?_⟩))))))
        refine Run.condO e h (fun g421 h => ?_) (fun g421 h => ?_)
        ·refine Run.so hm (.p e (.nil (.ret ?_)))
         obtain rfl := someO h
         have h := hk383
         replace h := inlO h
         obtain rfl := someO h
         exact Ends.mkG (.inl e) e (gh_pk [0] [] hB e e e e) e e
        ·exact Run.skip (⟨_,_,(gh_pk [0,3] [] hB e e e e),(),h,e,e⟩)
       ·refine OpsD.gn e g418 (.gn e g418 (.gn e g418 (.gn e g418 (.gn e g418 (.gn e g418 (.gn e g418 (.gn e g418 (.gn e g418 (.gn e g418 (.gn e g418 (.gn e g418 (.gs (s := 26088) e g417 (.pkF e g418 e) e e (.z 26104 (.pkF e g417 e) e e (.nil ⟨by kernel_rfl,?_⟩))))))))))))))
        exact Run.condF e e (.skip (⟨_,_,(gh_pk [0,3] [] hB e e e e),(),h,e,e⟩))
    ·exact Run.ops hm (.p3 e e e (.nil (⟨m383,Nat.lt_succ_self m383,_,_,(gh_pk [0,3] [] hB e e e e),_,h,e,e⟩)))
   ·refine Run.exit ?_
    obtain rfl := someO h
    have h := hk383
    replace h := inrO h
    exact ⟨_,_,(gh_pk [] [] hB e e e e),(),h,e,e⟩
  ·refine Run.so hm (.p e (.nil (.ret ?_)))
   obtain rfl := someO h
   exact Ends.mkG (.inl e) e (gh_pk [0] [] hB e e e e) e e
def spec_l01Figure (N : Nat) (x1 : Int) : Option (Int) :=
 (if (decide (x1 < 10)) = true then
 some (IntKind.wrap .u8 (w64 (48 + x1)))
 else
 some (IntKind.wrap .u8 (w64 ((w64 (97 + x1)) - 10))))
theorem sem_spec_l01Figure (N : Nat) (x1 : Int) (r : Int) (h : spec_l01Figure N x1 = some r) : Says Tryz.prog 71 [VI x1] 0 [] (.c (.i .u8 r)) [] := by
 unfold spec_l01Figure at h
 refine Says.of_norm e Tryz.call71 e fun B hB => ?_
 have hm : B.m ≤ 1000 := by omega
 refine Run.so hm (.p e (.nil (.seq (.so hm (.p2 e e (.nil (.condO e h (fun g103 h => ?_) (fun g103 h => ?_))))))))
 ·refine Run.so hm (.p3 e e e (.p e (.nil (.ret ?_))))
  obtain rfl := someO h
  exact Ends.mkG (.inl e) e (gh_pk [0] [] hB e e e e) e e
 ·refine Run.skip (.so hm (.p3 e e e (.p2 e e (.nil (.ret ?_)))))
  obtain rfl := someO h
  exact Ends.mkG (.inl e) e (gh_pk [0] [] hB e e e e) e e
def spec_Decimal_l1 (N : Nat) : Nat → Int → ByteArray → Option (ByteArray)
 | 0,_,_ => none
 | m + 1,x241,x243 =>
 (if (x241 != 0) = true then
 (intD .rem .i64 x241 10).bind fun x270 =>
 joinP (fun (v272 : Int) =>
 (spec_l01Figure N v272).bind fun y280 =>
 (scat? (strOf ([y280] : List Int)) x243).bind fun x281 =>
 (intD .quo .i64 x241 10).bind fun x283 =>
 spec_Decimal_l1 N m x283 x281) fun j272 =>
 (if (decide (x270 < 0)) = true then
 j272 (w64 ((-x270)))
 else
 j272 x270)
 else
 some x243)
def spec_Decimal (N : Nat) (x1 : Int) : Option (ByteArray) :=
 (if (x1 == 0) = true then
 some (⟨#[48]⟩ : ByteArray)
 else
 joinP (fun (v240 : ByteArray) =>
 (if (decide (x1 < 0)) = true then
 (scat? (⟨#[45]⟩ : ByteArray) v240).bind fun x289 =>
 some x289
 else
 some v240)) fun j240 =>
 (spec_Decimal_l1 N N x1 (⟨#[]⟩ : ByteArray)).bind (fun v263 => j240 v263))
theorem sem_spec_Decimal (N : Nat) (x1 : Int) (r : ByteArray) (h : spec_Decimal N x1 = some r) : Says Tryz.prog 59 [VI x1] 0 [] (VS r) [] := by
 unfold spec_Decimal at h
 refine Says.of_norm e Tryz.call59 e fun B hB => ?_
 have hm : B.m ≤ 1000 := by omega
 refine Run.so hm (.p e (.nil (.seq (.so hm (.p2 e e (.nil (.condO e h (fun g196 h => ?_) (fun g196 h => ?_))))))))
 ·refine Run.so hm (.p e (.nil (.ret ?_)))
  obtain rfl := someO h
  exact Ends.mkG (.inl e) e (gh_pk [0] [] hB e e e e) e e
 ·refine Run.skip (.so hm (.p3 e e e (.nil (.so hm (.p e (.nil (.seqO h (fun v240 => [(3,VB (decide (x1 < 0))),(4,VS v240)]) (fun (v240 : ByteArray) => []) (fun h => ?_) (fun v240 h => ?_))))))))
  ·refine Run.block ?_
   obtain ⟨res263,h,hk263⟩ := bindO h
   refine Run.loop (n := N) (fun m263 fr σ => ∃ (x241 : Int),∃ (x243 : ByteArray),spec_Decimal_l1 N m263 x241 x243 = some res263 ∧ fr = [(0,VI x241),(3,VB (decide (x1 < 0))),(4,VS x243)] ∧ σ = []) (gh_pk [0,3,4] [] hB e e e e) ⟨_,_,h,e,e⟩ ?_
   rintro m263 fr σ ⟨x241,x243,h,rfl,rfl⟩
   obtain _ | m263 := m263
   ·rw [spec_Decimal_l1] at h; cases h
   rw [spec_Decimal_l1] at h
   refine Run.seq (.so hm (.p2 e e (.nil (.condO e h (fun g266 h => ?_) (fun g266 h => ?_)))))
   ·refine Run.skip (.block (.so hm (.p e ?_)))
    obtain ⟨x270,hx270,h⟩ := bindO h
    refine Ops.z 25592 (.bin e e hx270) e e (.p e (.nil (.seqO h (fun v272 => [(0,VI x241),(3,VB (decide (x1 < 0))),(4,VS x243),(5,VI v272)]) (fun (v272 : Int) => []) (fun h => ?_) (fun v272 h => ?_))))
    ·refine Run.so hm (.p2 e e (.nil (.condO e h (fun g273 h => ?_) (fun g273 h => ?_))))
     ·exact Run.ops hm (.p3 e e e (.nil (⟨_,_,(gh_pk [0,3,4,5] [] hB e e e e),_,h,e,e⟩)))
     ·exact Run.skip (⟨_,_,(gh_pk [0,3,4,5] [] hB e e e e),_,h,e,e⟩)
    ·refine Run.so hm (.p e ?_)
     obtain ⟨y280,hy280,h⟩ := bindO h
     refine Ops.z 37880 (Ev.call [] [] 0 (sem_spec_l01Figure _ _ _ hy280) e e (.d1 .nil) e (.inl e) e e) e e (.z 37896 (Ev.bsW (ys := ([y280] : List Int)) (f := encU) e (.d1 .nil) e e e e e) e e (.z 37912 (.sbC (addsW (f := encU) e e e (fun _ => e))) e e (.p e ?_)))
     obtain ⟨x281,hx281,h⟩ := bindO h
     refine Ops.z 37944 (Ev.addS e e hx281) e e (.p e (.nil (.ops hm (.p e ?_))))
     obtain ⟨x283,hx283,h⟩ := bindO h
     exact Ops.z 41976 (.bin e e hx283) e e (.p e (.nil (⟨m263,Nat.lt_succ_self m263,_,_,(gh_pk [0,3,4] [] hB e e e e),_,_,h,e,e⟩)))
   ·refine Run.exit ?_
    obtain rfl := someO h
    have h := hk263
    exact ⟨_,_,(gh_pk [3,4] [] hB e e e e),_,h,e,e⟩
  ·refine Run.seq (.so hm (.p e (.nil (.condO e h (fun g287 h => ?_) (fun g287 h => ?_)))))
   ·refine Run.so hm (.p e ?_)
    obtain ⟨x289,hx289,h⟩ := bindO h
    refine Ops.z 50168 (Ev.addS e e hx289) e e (.p e (.nil (.ret ?_)))
    obtain rfl := someO h
    exact Ends.mkG (.inl e) e (gh_pk [0] [] hB e e e e) e e
   ·refine Run.skip (.so hm (.p2 e e (.nil (.ret ?_))))
    obtain rfl := someO h
    exact Ends.mkG (.inl e) e (gh_pk [0] [] hB e e e e) e e
def spec_ReadDecimal_l1 (N : Nat) (x1 : ByteArray) : Nat → Int → Int → Option ((Int × Bool) ⊕ (Int))
 | 0,_,_ => none
 | m + 1,x339,x340 =>
 (if (decide (x340 < (x1.size : Int))) = true then
 (sat? x1 x340).bind fun x406 =>
 (if (decide (x406 < 48)) = true then
 some (Sum.inl (0,false))
 else
 (sat? x1 x340).bind fun x408 =>
 (if (decide (x408 > 57)) = true then
 some (Sum.inl (0,false))
 else
 (sat? x1 x340).bind fun x411 =>
 spec_ReadDecimal_l1 N x1 m (w64 ((w64 ((w64 (10 * x339)) + (w64 (x411)))) - 48)) (w64 (x340 + 1))))
 else
 some (Sum.inr x339))
def spec_ReadDecimal (N : Nat) (x1 : ByteArray) : Option (Int × Bool) :=
 (if (decide ((x1.size : Int) > 10)) = true then
 some (0,false)
 else
 joinP (fun (v337 : Int) =>
 (if (decide (v337 > 1000000000)) = true then
 some (0,false)
 else
 (spec_Decimal N v337).bind fun y420 =>
 (if (!decide (y420 = x1)) = true then
 some (0,false)
 else
 some (v337,true)))) fun j337 =>
 (spec_ReadDecimal_l1 N x1 N 0 0).bind (Sum.elim (fun v375 => some v375) (fun (v376 : Int) => j337 v376)))
theorem sem_spec_ReadDecimal (N : Nat) (x1 : ByteArray) (r : Int × Bool) (h : spec_ReadDecimal N x1 = some r) : Says Tryz.prog 55 [VS x1] 0 [] (.tup [VI r.1,VB r.2]) [] := by
 unfold spec_ReadDecimal at h
 refine Says.of_norm e Tryz.call55 e fun B hB => ?_
 have hm : B.m ≤ 1000 := by omega
 refine Run.so hm (.p2 e e (.nil (.seq (.so hm (.p3 e e e (.nil (.condO e h (fun g262 h => ?_) (fun g262 h => ?_))))))))
 ·refine Run.so hm (.p2 e e (.nil (.ret ?_)))
  obtain rfl := someO h
  exact Ends.mkG (.inl e) e (gh_pk [0,1] [] hB e e e e) e e
 ·refine Run.skip (.so hm (.p e (.nil (.seqO h (fun v337 => [(0,VS x1),(4,VI v337)]) (fun (v337 : Int) => []) (fun h => ?_) (fun v337 h => ?_)))))
  ·refine Run.so hm (.p e (.nil (.block ?_)))
   obtain ⟨res376,h,hk376⟩ := bindO h
   refine Run.loop (n := N) (fun m376 fr σ => ∃ (x339 : Int),∃ (x340 : Int),spec_ReadDecimal_l1 N x1 m376 x339 x340 = some res376 ∧ fr = [(0,VS x1),(4,VI x339),(5,VI x340)] ∧ σ = []) (gh_pk [0,4,5] [] hB e e e e) ⟨_,_,h,e,e⟩ ?_
   rintro m376 fr σ ⟨x339,x340,h,rfl,rfl⟩
   obtain _ | m376 := m376
   ·rw [spec_ReadDecimal_l1] at h; cases h
   rw [spec_ReadDecimal_l1] at h
   refine Run.seq (.so hm (.p3 e e e (.p e (.nil (.condO e h (fun g379 h => ?_) (fun g379 h => ?_))))))
   ·refine Run.skip (.seq (.block (.seq (.so hm (.p2 e e ?_)))))
    obtain ⟨x406,hx406,h⟩ := bindO h
    refine Ops.z 29704 (Ev.ixS e e hx406) e e (.p2 e e (.askO (x := .t 19) e h (fun g407 h => ?_) (fun g407 h => ?_)))
    ·refine Ops.gn e g407 (.gn e g407 (.gn e g407 (.gn e g407 (.z 29816 (.pkT e g407 e) e e (.nil (.condT e e (.so hm (.p2 e e (.nil (.ret ?_))))))))))
     obtain rfl := someO h
     have h := hk376
     replace h := inlO h
     obtain rfl := someO h
     exact Ends.mkG (.inl e) e (gh_pk [0,1] [] hB e e e e) e e
    ·refine Ops.gp e g407 e (.gp e g407 e ?_)
     obtain ⟨x408,hx408,h⟩ := bindO h
     refine Ops.gs (s := 29784) e g407 (Ev.ixS e e hx408) e e (.gp e g407 e (.z 29816 (.pkF e g407 e) e e (.nil (.condO e h (fun g409 h => ?_) (fun g409 h => ?_)))))
     ·refine Run.so hm (.p2 e e (.nil (.ret ?_)))
      obtain rfl := someO h
      have h := hk376
      replace h := inlO h
      obtain rfl := someO h
      exact Ends.mkG (.inl e) e (gh_pk [0,1] [] hB e e e e) e e
     ·refine Run.skip (.ops hm (.p3 e e e (.p e ?_)))
      obtain ⟨x411,hx411,h⟩ := bindO h
      exact Ops.z 37928 (Ev.ixS e e hx411) e e (.p3 e e e (.p e (.nil (.ops hm (.p3 e e e (.nil (⟨m376,Nat.lt_succ_self m376,_,_,(gh_pk [0,4,5] [] hB e e e e),_,_,h,e,e⟩)))))))
   ·refine Run.exit ?_
    obtain rfl := someO h
    have h := hk376
    replace h := inrO h
    exact ⟨_,_,(gh_pk [0,4] [] hB e e e e),_,h,e,e⟩
  ·refine Run.seq (.so hm (.p3 e e e (.askO (x := .t 35) e h (fun g419 h => ?_) (fun g419 h => ?_))))
   ·refine Ops.gn e g419 (.gn e g419 (.gn e g419 (.gn e g419 (.z 42072 (.pkT e g419 e) e e (.nil (.condT e e (.so hm (.p2 e e (.nil (.ret ?_))))))))))
    obtain rfl := someO h
    exact Ends.mkG (.inl e) e (gh_pk [0,1] [] hB e e e e) e e
   ·refine Ops.gp e g419 e ?_
    obtain ⟨y420,hy420,h⟩ := bindO h
    refine Ops.gs (s := 42024) e g419 (Ev.call [] [] 0 (sem_spec_Decimal _ _ _ hy420) e e (.d1 .nil) e (.inl e) e e) e e (.gp e g419 e (.gp e g419 e (.z 42072 (.pkF e g419 e) e e (.nil (.condO e h (fun g421 h => ?_) (fun g421 h => ?_))))))
    ·refine Run.so hm (.p2 e e (.nil (.ret ?_)))
     obtain rfl := someO h
     exact Ends.mkG (.inl e) e (gh_pk [0,1] [] hB e e e e) e e
    ·refine Run.skip (.so hm (.p3 e e e (.nil (.ret ?_))))
     obtain rfl := someO h
     exact Ends.mkG (.inl e) e (gh_pk [0,1] [] hB e e e e) e e
def spec_l15Read_l1 (N : Nat) (x2 : ByteArray) : Nat → Int → Option (Int)
 | 0,_ => none
 | m + 1,x276 =>
 (if (decide (x276 < (x2.size : Int))) = true then
 (sat? x2 x276).bind fun x301 =>
 (if (x301 != 32) = true then
 spec_l15Read_l1 N x2 m (w64 (x276 + 1))
 else
 some x276)
 else
 some x276)
def spec_l15Read_l2 (N : Nat) (x2 : ByteArray) : Nat → Int → Option (Int)
 | 0,_ => none
 | m + 1,x337 =>
 (if (decide (x337 < (x2.size : Int))) = true then
 (sat? x2 x337).bind fun x362 =>
 (if (x362 != 32) = true then
 spec_l15Read_l2 N x2 m (w64 (x337 + 1))
 else
 some x337)
 else
 some x337)
def spec_l15Read (N : Nat) (x1 : Int) (x2 : ByteArray) : Option (Tl15State × Bool) :=
 joinP (fun (v273 : Int) =>
 joinP (fun (v333 : Int) =>
 (if (decide (v333 ≥ (x2.size : Int))) = true then
 some ((Tl15State.mk x1 0 0 (⟨#[]⟩ : ByteArray)),false)
 else
 (stake? x2 v273).bind fun x372 =>
 (spec_ReadDecimal N x372).bind fun y373 =>
 (scut? x2 (w64 (v273 + 1)) v333).bind fun x380 =>
 (spec_ReadDecimal N x380).bind fun y381 =>
 (sdrop? x2 (w64 (v333 + 1))).bind fun x385 =>
 (if y373.2 = true then
 some ((Tl15State.mk x1 y373.1 y381.1 x385),y381.2)
 else
 some ((Tl15State.mk x1 y373.1 y381.1 x385),false)))) fun j333 =>
 (spec_l15Read_l2 N x2 N (w64 (v273 + 1))).bind (fun v352 => j333 v352)) fun j273 =>
 (spec_l15Read_l1 N x2 N 0).bind (fun v291 => j273 v291)
theorem sem_spec_l15Read (N : Nat) (x1 : Int) (x2 : ByteArray) (r : Tl15State × Bool) (h : spec_l15Read N x1 x2 = some r) : Says Tryz.prog 56 [VI x1,VS x2] 0 [] (.tup [.agg [VI r.1.id,VI r.1.seq,VI r.1.at',VS r.1.reply],VB r.2]) [] := by
 unfold spec_l15Read at h
 refine Says.of_norm e Tryz.call56 e fun B hB => ?_
 have hm : B.m ≤ 1000 := by omega
 refine Run.so hm (.z 1000 (.al e e) e e (.p e (.nil (.so hm (.p e (.nil (.seqO h (fun v273 => [(0,VI x1),(1,VS x2),(4,.ptr 0 0),(6,VI v273)]) (fun (v273 : Int) => [(0,.box [VI 0,VI 0,VI 0,VS (⟨#[]⟩ : ByteArray)])]) (fun h => ?_) (fun v273 h => ?_))))))))
 ·refine Run.block ?_
  obtain ⟨res291,h,hk291⟩ := bindO h
  refine Run.loop (n := N) (fun m291 fr σ => ∃ (x276 : Int),spec_l15Read_l1 N x2 m291 x276 = some res291 ∧ fr = [(0,VI x1),(1,VS x2),(4,.ptr 0 0),(6,VI x276)] ∧ σ = [(0,.box [VI 0,VI 0,VI 0,VS (⟨#[]⟩ : ByteArray)])]) (gh_pk [0,1,4,6] [1000] hB e e e e) ⟨_,h,e,e⟩ ?_
  rintro m291 fr σ ⟨x276,h,rfl,rfl⟩
  obtain _ | m291 := m291
  ·rw [spec_l15Read_l1] at h; cases h
  rw [spec_l15Read_l1] at h
  refine Run.seq (.so hm (.p3 e e e (.p2 e e (.askO (x := .t 17) e h (fun g300 h => ?_) (fun g300 h => ?_)))))
  ·refine Ops.gp e g300 e (.gp e g300 e ?_)
   obtain ⟨x301,hx301,h⟩ := bindO h
   refine Ops.gs (s := 9304) e g300 (Ev.ixS e e hx301) e e (.gp e g300 e (.z 9336 (.pkT e g300 e) e e (.nil (.condO e h (fun g302 h => ?_) (fun g302 h => ?_)))))
   ·exact Run.skip (.block (.ops hm (.p3 e e e (.nil (⟨m291,Nat.lt_succ_self m291,_,_,(gh_pk [0,1,4,6] [0] hB e e e e),_,h,e,e⟩)))))
   ·refine Run.exit ?_
    obtain rfl := someO h
    have h := hk291
    exact ⟨_,_,(gh_pk [0,1,4,6] [0] hB e e e e),_,h,e,e⟩
  ·refine Ops.gn e g300 (.gn e g300 (.gn e g300 (.gn e g300 (.z 9336 (.pkF e g300 e) e e (.nil (.condF e e (.exit ?_)))))))
   obtain rfl := someO h
   have h := hk291
   exact ⟨_,_,(gh_pk [0,1,4,6] [0] hB e e e e),_,h,e,e⟩
 ·refine Run.so hm (.p3 e e e (.nil (.seqO h (fun v333 => [(0,VI x1),(1,VS x2),(4,.ptr 0 0),(6,VI v273),(7,VI v333)]) (fun (v333 : Int) => [(0,.box [VI 0,VI 0,VI 0,VS (⟨#[]⟩ : ByteArray)])]) (fun h => ?_) (fun v333 h => ?_))))
  ·refine Run.block ?_
   obtain ⟨res352,h,hk352⟩ := bindO h
   refine Run.loop (n := N) (fun m352 fr σ => ∃ (x337 : Int),spec_l15Read_l2 N x2 m352 x337 = some res352 ∧ fr = [(0,VI x1),(1,VS x2),(4,.ptr 0 0),(6,VI v273),(7,VI x337)] ∧ σ = [(0,.box [VI 0,VI 0,VI 0,VS (⟨#[]⟩ : ByteArray)])]) (gh_pk [0,1,4,6,7] [0] hB e e e e) ⟨_,h,e,e⟩ ?_
   rintro m352 fr σ ⟨x337,h,rfl,rfl⟩
   obtain _ | m352 := m352
   ·rw [spec_l15Read_l2] at h; cases h
   rw [spec_l15Read_l2] at h
   refine Run.seq (.so hm (.p3 e e e (.p2 e e (.askO (x := .t 31) e h (fun g361 h => ?_) (fun g361 h => ?_)))))
   ·refine Ops.gp e g361 e (.gp e g361 e ?_)
    obtain ⟨x362,hx362,h⟩ := bindO h
    refine Ops.gs (s := 21592) e g361 (Ev.ixS e e hx362) e e (.gp e g361 e (.z 21624 (.pkT e g361 e) e e (.nil (.condO e h (fun g363 h => ?_) (fun g363 h => ?_)))))
    ·exact Run.skip (.block (.ops hm (.p3 e e e (.nil (⟨m352,Nat.lt_succ_self m352,_,_,(gh_pk [0,1,4,6,7] [0] hB e e e e),_,h,e,e⟩)))))
    ·refine Run.exit ?_
     obtain rfl := someO h
     have h := hk352
     exact ⟨_,_,(gh_pk [0,1,4,6,7] [0] hB e e e e),_,h,e,e⟩
   ·refine Ops.gn e g361 (.gn e g361 (.gn e g361 (.gn e g361 (.z 21624 (.pkF e g361 e) e e (.nil (.condF e e (.exit ?_)))))))
    obtain rfl := someO h
    have h := hk352
    exact ⟨_,_,(gh_pk [0,1,4,6,7] [0] hB e e e e),_,h,e,e⟩
  ·refine Run.so hm (.p e (.z 29688 (.bd e e) e e (.z 29704 (.al e e) e e (.y 29720 (.sto e e e e e e) e e (.nil (.seq (.so hm (.p3 e e e (.p e (.nil (.condO e h (fun g365 h => ?_) (fun g365 h => ?_))))))))))))
   ·refine Run.so hm (.p e (.y 37880 (.sto e e e e e e) e e (.p e (.nil (.ret ?_)))))
    obtain rfl := someO h
    exact Ends.mkG (.inl e) e (gh_pk [0,1] [] hB e e e e) e e
   ·refine Run.skip (.so hm (.p2 e e ?_))
    obtain ⟨x372,hx372,h⟩ := bindO h
    refine Ops.z 41992 (Ev.ssH e e hx372) e e ?_
    obtain ⟨y373,hy373,h⟩ := bindO h
    refine Ops.z 42008 (Ev.call [] [] 0 (sem_spec_ReadDecimal _ _ _ hy373) e e (.d1 .nil) e (.inl e) e e) e e (.p3 e e e (.p2 e e (.nil (.so hm (.p3 e e e (.p e ?_))))))
    obtain ⟨x380,hx380,h⟩ := bindO h
    refine Ops.z 46120 (Ev.ssB e e e hx380) e e ?_
    obtain ⟨y381,hy381,h⟩ := bindO h
    refine Ops.z 46136 (Ev.call [] [] 0 (sem_spec_ReadDecimal _ _ _ hy381) e e (.d1 .nil) e (.inl e) e e) e e (.p3 e e e (.p2 e e (.nil (.so hm (.p2 e e (.y 50184 (.sto e e e e e e) e e (.nil (.so hm (.p2 e e (.y 54280 (.sto e e e e e e) e e (.nil (.so hm (.p3 e e e ?_)))))))))))))
    obtain ⟨x385,hx385,h⟩ := bindO h
    refine Ops.z 58392 (Ev.ssL e e hx385) e e (.p e (.y 58424 (.sto e e e e e e) e e (.nil (.so hm (.p3 e e e (.askO (x := .t 73) e h (fun g387 h => ?_) (fun g387 h => ?_)))))))
    ·refine Ops.gp e g387 e (.z 62504 (.pkT e g387 e) e e (.y 62520 (.sto e e e e e e) e e (.p e (.nil (.ret ?_)))))
     obtain rfl := someO h
     exact Ends.mkG (.inl e) e (gh_pk [0,1] [] hB e e e e) e e
    ·refine Ops.gn e g387 (.z 62504 (.pkF e g387 e) e e (.y 62520 (.sto e e e e e e) e e (.p e (.nil (.ret ?_)))))
     obtain rfl := someO h
     exact Ends.mkG (.inl e) e (gh_pk [0,1] [] hB e e e e) e e
end Go.Proofs.YtlkdjdfcihjplaaGreatDoor.Pe.FnExactFold
