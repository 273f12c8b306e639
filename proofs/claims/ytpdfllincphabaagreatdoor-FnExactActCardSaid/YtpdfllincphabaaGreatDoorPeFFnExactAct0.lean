/- Functions,as pure functions; and that Go does just that. -/
import Derived.Test.YtpdfllincphabaaGreatDoorPeTy
import Derived.Test.YtpdfllincphabaaGreatDoorPeNorm
import Derived.Test.YtpdfllincphabaaGreatDoorPeSpec
import Derived.Test.YtpdfllincphabaaGreatDoorShelf
import Derived.Test.YtpdfllincphabaaGreatDoorPeIns48
import Derived.Test.YtpdfllincphabaaGreatDoorPeIns66
import Derived.Test.YtpdfllincphabaaGreatDoorPeIns67
import Derived.Test.YtpdfllincphabaaGreatDoorPeSFnExactAct
namespace Go.Proofs.YtpdfllincphabaaGreatDoor.Pe.FnExactAct
open Go Go.RowKit
set_option linter.unusedVariables false
set_option linter.unusedSimpArgs false
set_option maxHeartbeats 40000000
set_option maxRecDepth 100000
theorem hmix : Tryz.prog.follows .mixedOrders = true := by kernel_rfl
structure Pair where
 Key : ByteArray
 Value : ByteArray
abbrev encPair (x : Pair) : List C := [.s x.Key,.s x.Value]
structure Command where
 Op : Int
 Session : Int
 Seq : Int
 Key : ByteArray
 Value : ByteArray
 Old : ByteArray
abbrev encCommand (x : Command) : List C := [.i .i64 x.Op,.i .i64 x.Session,.i .i64 x.Seq,.s x.Key,.s x.Value,.s x.Old]
structure Tl15State where
 id : Int
 seq : Int
 at' : Int
 reply : ByteArray
abbrev encTl15State (x : Tl15State) : List C := [.i .i64 x.id,.i .i64 x.seq,.i .i64 x.at',.s x.reply]
structure Tsession where
 number : Int
 seq : Int
 index : Int
 reply : ByteArray
abbrev encTsession (x : Tsession) : List C := [.i .i64 x.number,.i .i64 x.seq,.i .i64 x.index,.s x.reply]
theorem bt9 : bytesOf Tryz.prog 9 ≤ 2048 := of_decide_eq_true (by kernel_rfl)
theorem bt47 : bytesOf Tryz.prog 47 ≤ 2048 := of_decide_eq_true (by kernel_rfl)
theorem bt53 : bytesOf Tryz.prog 53 ≤ 2048 := of_decide_eq_true (by kernel_rfl)
theorem bt70 : bytesOf Tryz.prog 70 ≤ 2048 := of_decide_eq_true (by kernel_rfl)
def laws_szPair (N : Nat) (x1 : Pair) (x2 : Int) : Option (Int) :=
 (if (decide ((w64 (x2 - (x1.Key.size : Int))) < 0)) = true then
 some (-1 : Int)
 else
 (if (decide ((w64 ((w64 (x2 - (x1.Key.size : Int))) - (x1.Value.size : Int))) < 0)) = true then
 some (-1 : Int)
 else
 some (w64 ((w64 (x2 - (x1.Key.size : Int))) - (x1.Value.size : Int)))))
theorem sem_laws_szPair (N : Nat) (x1 : Pair) (x2 : Int) (r : Int) (h : laws_szPair N x1 x2 = some r) : Says Tryz.prog 13 [.agg [VS x1.Key,VS x1.Value],VI x2] 0 [] (VI r) [] := by
 unfold laws_szPair at h
 refine Says.of_norm e Tryz.call13 e fun B hB => ?_
 have hm : B.m ≤ 1000 := by omega
 refine Run.so hm (.z 1000 (.bx e e) e e (.p e (.nil (.so hm (.p3 e e e (.p3 e e e (.nil (.seq (.so hm (.p2 e e (.nil (.condO e h (fun g105 h => ?_) (fun g105 h => ?_)))))))))))))
 ·refine Run.so hm (.p e (.nil (.ret ?_)))
  obtain rfl := someO h
  exact Ends.mkG (.inl e) e (gh_pk [0] [] hB e e e e) e e
 ·refine Run.skip (.so hm (.p3 e e e (.p3 e e e (.nil (.seq (.so hm (.p2 e e (.nil (.condO e h (fun g107 h => ?_) (fun g107 h => ?_))))))))))
  ·refine Run.so hm (.p e (.nil (.ret ?_)))
   obtain rfl := someO h
   exact Ends.mkG (.inl e) e (gh_pk [0] [] hB e e e e) e e
  ·refine Run.skip (.so hm (.p2 e e (.nil (.ret ?_))))
   obtain rfl := someO h
   exact Ends.mkG (.inl e) e (gh_pk [0] [] hB e e e e) e e
def laws_szPairS_l1 (N : Nat) (x1 : (List Pair)) : Nat → Int → Int → Option ((Int) ⊕ (Int))
 | 0,_,_ => none
 | m + 1,x245,x246 =>
 (if (decide (x246 < (x1.length : Int))) = true then
 (at? x1 x246).bind fun x287 =>
 (laws_szPair N x287 x245).bind fun y288 =>
 (if (decide (y288 < 0)) = true then
 some (Sum.inl (-1 : Int))
 else
 laws_szPairS_l1 N x1 m y288 (w64 (x246 + 1)))
 else
 some (Sum.inr x245))
def laws_szPairS_l1_r (N : Nat) (x1 : (List Pair)) : (List Pair) → Int → Int → Option ((Int) ⊕ (Int))
 | [],x245,x246 =>
 some (Sum.inr x245)
 | hd :: tl,x245,x246 =>
 (some hd).bind fun x287 =>
 (laws_szPair N x287 x245).bind fun y288 =>
 (if (decide (y288 < 0)) = true then
 some (Sum.inl (-1 : Int))
 else
 laws_szPairS_l1_r N x1 tl y288 (w64 (x246 + 1)))
theorem laws_szPairS_l1_rng (N : Nat) (x1 : (List Pair)) (hx : x1.length ≤ 1099511627776) : ∀ (d k m : Nat) (x245 : Int),x1.length = k + d → d < m → laws_szPairS_l1 N x1 m x245 (k : Int) = laws_szPairS_l1_r N x1 (x1.drop k) x245 (k : Int) := by
 intro d
 induction d with
 | zero =>
  intro k m x245 hd hm
  obtain ⟨m,rfl⟩ : ∃ q,m = q + 1 := ⟨m - 1,by omega⟩
  rw [laws_szPairS_l1,if_neg (by simp; omega),List.drop_eq_nil_of_le (by omega),laws_szPairS_l1_r]
 | succ d ih =>
  intro k m x245 hd hm
  obtain ⟨m,rfl⟩ : ∃ q,m = q + 1 := ⟨m - 1,by omega⟩
  have hk : k < x1.length := by omega
  rw [laws_szPairS_l1,if_pos (by simp; omega),List.drop_eq_getElem_cons hk,laws_szPairS_l1_r]
  have h1 := at_lt hk
  have h2 := w64_succ (k := k) (by omega)
  have h3 := ih (k + 1) m
  simp only [h1,h2,h3 _ (by omega) (by omega)]
theorem laws_szPairS_l1_eq {N : Nat} (x1 : (List Pair)) (hx : x1.length ≤ 1099511627776) (hN : x1.length < N) (x245 : Int) : laws_szPairS_l1 N x1 N x245 0 = laws_szPairS_l1_r N x1 x1 x245 0 := laws_szPairS_l1_rng N x1 hx x1.length 0 N x245 (by omega) hN
def laws_szPairS (N : Nat) (x1 : (List Pair)) (x2 : Int) : Option (Int) :=
 (if (decide ((w64 (x2 - (x1.length : Int))) < 0)) = true then
 some (-1 : Int)
 else
 joinP (fun (v243 : Int) =>
 some v243) fun j243 =>
 (laws_szPairS_l1 N x1 N (w64 (x2 - (x1.length : Int))) 0).bind (Sum.elim (fun v267 => some v267) (fun (v268 : Int) => j243 v268)))
theorem sem_laws_szPairS (N : Nat) (x1 : (List Pair)) (x2 : Int) (r : Int) (h : laws_szPairS N x1 x2 = some r) : Says Tryz.prog 4 [RO 38 (x1.map encPair),VI x2] 0 [] (VI r) [] := by
 unfold laws_szPairS at h
 refine Says.of_norm e Tryz.call4 e fun B hB => ?_
 have hm : B.m ≤ 1000 := by omega
 refine Run.so hm (.p e (.nil (.so hm (.p2 e e (.z 5128 (Ev.lnF e) e e (.p2 e e (.nil (.seq (.so hm (.p2 e e (.nil (.condO e h (fun g196 h => ?_) (fun g196 h => ?_)))))))))))))
 ·refine Run.so hm (.p e (.nil (.ret ?_)))
  obtain rfl := someO h
  exact Ends.mkG (.inl e) e (gh_pk [0] [] hB e e e e) e e
 ·refine Run.skip (.seqO h (fun v243 => [(1,VI v243)]) (fun (v243 : Int) => []) (fun h => ?_) (fun v243 h => ?_))
  ·refine Run.so hm (.p e (.nil (.block ?_)))
   obtain ⟨res268,h,hk268⟩ := bindO h
   refine Run.loop (n := N) (fun m268 fr σ => ∃ (x245 : Int),∃ (x246 : Int),laws_szPairS_l1 N x1 m268 x245 x246 = some res268 ∧ fr = [(0,RO 38 (x1.map encPair)),(1,VI x245),(5,VI x246)] ∧ σ = []) (gh_pk [0,1,5] [] hB e e e e) ⟨_,_,h,e,e⟩ ?_
   rintro m268 fr σ ⟨x245,x246,h,rfl,rfl⟩
   obtain _ | m268 := m268
   ·rw [laws_szPairS_l1] at h; cases h
   rw [laws_szPairS_l1] at h
   refine Run.seq (.so hm (.p2 e e (.z 21512 (Ev.lnF e) e e (.p e (.nil (.condO e h (fun g271 h => ?_) (fun g271 h => ?_)))))))
   ·refine Run.skip (.seq (.block (.so hm (.p2 e e ?_))))
    obtain ⟨x287,hx287,h⟩ := bindO h
    refine Ops.z 29704 (Ev.iaF e e hx287) e e (.p2 e e ?_)
    obtain ⟨y288,hy288,h⟩ := bindO h
    refine Ops.z 29752 (Ev.call [] [] 0 (sem_laws_szPair _ _ _ _ hy288) e e (.cons (.agg (.d2 .nil)) (.d1 .nil)) e (.inl e) e e) e e (.p e (.nil (.so hm (.p2 e e (.nil (.condO e h (fun g289 h => ?_) (fun g289 h => ?_)))))))
    ·refine Run.so hm (.p e (.nil (.ret ?_)))
     obtain rfl := someO h
     have h := hk268
     replace h := inlO h
     obtain rfl := someO h
     exact Ends.mkG (.inl e) e (gh_pk [0] [] hB e e e e) e e
    ·exact Run.skip (.ops hm (.p3 e e e (.nil (⟨m268,Nat.lt_succ_self m268,_,_,(gh_pk [0,1,5] [] hB e e e e),_,_,h,e,e⟩))))
   ·refine Run.exit ?_
    obtain rfl := someO h
    have h := hk268
    replace h := inrO h
    exact ⟨_,_,(gh_pk [1] [] hB e e e e),_,h,e,e⟩
  ·refine Run.so hm (.p2 e e (.nil (.ret ?_)))
   obtain rfl := someO h
   exact Ends.mkG (.inl e) e (gh_pk [0] [] hB e e e e) e e
def laws_szCommand (N : Nat) (x1 : Command) (x2 : Int) : Option (Int) :=
 (if (decide ((w64 (x2 - (x1.Key.size : Int))) < 0)) = true then
 some (-1 : Int)
 else
 (if (decide ((w64 ((w64 (x2 - (x1.Key.size : Int))) - (x1.Value.size : Int))) < 0)) = true then
 some (-1 : Int)
 else
 (if (decide ((w64 ((w64 ((w64 (x2 - (x1.Key.size : Int))) - (x1.Value.size : Int))) - (x1.Old.size : Int))) < 0)) = true then
 some (-1 : Int)
 else
 some (w64 ((w64 ((w64 (x2 - (x1.Key.size : Int))) - (x1.Value.size : Int))) - (x1.Old.size : Int))))))
theorem sem_laws_szCommand (N : Nat) (x1 : Command) (x2 : Int) (r : Int) (h : laws_szCommand N x1 x2 = some r) : Says Tryz.prog 5 [.agg [VI x1.Op,VI x1.Session,VI x1.Seq,VS x1.Key,VS x1.Value,VS x1.Old],VI x2] 0 [] (VI r) [] := by
 unfold laws_szCommand at h
 refine Says.of_norm e Tryz.call5 e fun B hB => ?_
 have hm : B.m ≤ 1000 := by omega
 refine Run.so hm (.z 1000 (.bx e e) e e (.p e (.nil (.so hm (.p3 e e e (.p3 e e e (.nil (.seq (.so hm (.p2 e e (.nil (.condO e h (fun g107 h => ?_) (fun g107 h => ?_)))))))))))))
 ·refine Run.so hm (.p e (.nil (.ret ?_)))
  obtain rfl := someO h
  exact Ends.mkG (.inl e) e (gh_pk [0] [] hB e e e e) e e
 ·refine Run.skip (.so hm (.p3 e e e (.p3 e e e (.nil (.seq (.so hm (.p2 e e (.nil (.condO e h (fun g109 h => ?_) (fun g109 h => ?_))))))))))
  ·refine Run.so hm (.p e (.nil (.ret ?_)))
   obtain rfl := someO h
   exact Ends.mkG (.inl e) e (gh_pk [0] [] hB e e e e) e e
  ·refine Run.skip (.so hm (.p3 e e e (.p3 e e e (.nil (.seq (.so hm (.p2 e e (.nil (.condO e h (fun g111 h => ?_) (fun g111 h => ?_))))))))))
   ·refine Run.so hm (.p e (.nil (.ret ?_)))
    obtain rfl := someO h
    exact Ends.mkG (.inl e) e (gh_pk [0] [] hB e e e e) e e
   ·refine Run.skip (.so hm (.p2 e e (.nil (.ret ?_))))
    obtain rfl := someO h
    exact Ends.mkG (.inl e) e (gh_pk [0] [] hB e e e e) e e
def laws_toPair (N : Nat) (x1 : Pair) : Option (Pair) :=
 some x1
theorem sem_laws_toPair (N : Nat) (x1 : Pair) (r : Pair) (h : laws_toPair N x1 = some r) : Says Tryz.prog 23 [.agg [VS x1.Key,VS x1.Value]] 0 [] (.agg [VS r.Key,VS r.Value]) [] := by
 unfold laws_toPair at h
 refine Says.of_norm e Tryz.call23 e fun B hB => ?_
 have hm : B.m ≤ 1000 := by omega
 refine Run.so hm (.z 1000 (.bx e e) e e (.z 1016 (.al e e) e e (.nil (.so hm (.z 5096 (.al e e) e e (.nil (.so hm (.p3 e e e (.y 9240 (.sto e e e e e e) e e (.nil (.so hm (.p3 e e e (.y 13336 (.sto e e e e e e) e e (.nil (.so hm (.p e (.y 17400 (.sto e e e e e e) e e (.nil (.ret ?_)))))))))))))))))))
 obtain rfl := someO h
 exact Ends.mkG (.inl e) e (gh_pk [0] [] hB e e e e) e e
def laws_toPairS_l1 (N : Nat) (x1 : (List Pair)) : Nat → Int → (List Pair) → Option ((List Pair))
 | 0,_,_ => none
 | m + 1,x210,x211 =>
 (if (decide (x210 < (x1.length : Int))) = true then
 (at? x1 x210).bind fun x239 =>
 (laws_toPair N x239).bind fun y240 =>
 (at? x211 x210).bind fun x241 =>
 laws_toPairS_l1 N x1 m (w64 (x210 + 1)) (x211.set x210.toNat y240)
 else
 some x211)
def laws_toPairS_l1_r (N : Nat) (x1 : (List Pair)) : (List Pair) → Int → (List Pair) → Option ((List Pair))
 | [],x210,x211 =>
 some x211
 | hd :: tl,x210,x211 =>
 (some hd).bind fun x239 =>
 (laws_toPair N x239).bind fun y240 =>
 (at? x211 x210).bind fun x241 =>
 laws_toPairS_l1_r N x1 tl (w64 (x210 + 1)) (x211.set x210.toNat y240)
theorem laws_toPairS_l1_rng (N : Nat) (x1 : (List Pair)) (hx : x1.length ≤ 1099511627776) : ∀ (d k m : Nat) (x211 : (List Pair)),x1.length = k + d → d < m → laws_toPairS_l1 N x1 m (k : Int) x211 = laws_toPairS_l1_r N x1 (x1.drop k) (k : Int) x211 := by
 intro d
 induction d with
 | zero =>
  intro k m x211 hd hm
  obtain ⟨m,rfl⟩ : ∃ q,m = q + 1 := ⟨m - 1,by omega⟩
  rw [laws_toPairS_l1,if_neg (by simp; omega),List.drop_eq_nil_of_le (by omega),laws_toPairS_l1_r]
 | succ d ih =>
  intro k m x211 hd hm
  obtain ⟨m,rfl⟩ : ∃ q,m = q + 1 := ⟨m - 1,by omega⟩
  have hk : k < x1.length := by omega
  rw [laws_toPairS_l1,if_pos (by simp; omega),List.drop_eq_getElem_cons hk,laws_toPairS_l1_r]
  have h1 := at_lt hk
  have h2 := w64_succ (k := k) (by omega)
  have h3 := ih (k + 1) m
  simp only [h1,h2,h3 _ (by omega) (by omega)]
theorem laws_toPairS_l1_eq {N : Nat} (x1 : (List Pair)) (hx : x1.length ≤ 1099511627776) (hN : x1.length < N) (x211 : (List Pair)) : laws_toPairS_l1 N x1 N 0 x211 = laws_toPairS_l1_r N x1 x1 0 x211 := laws_toPairS_l1_rng N x1 hx x1.length 0 N x211 (by omega) hN
def laws_toPairS (N : Nat) (x1 : (List Pair)) : Option ((List Pair)) :=
 (mk? (Pair.mk (⟨#[]⟩ : ByteArray) (⟨#[]⟩ : ByteArray)) (x1.length : Int)).bind fun x174 =>
 joinP (fun (v208 : (List Pair)) =>
 some v208) fun j208 =>
 (laws_toPairS_l1 N x1 N 0 x174).bind (fun v226 => j208 v226)
theorem sem_laws_toPairS (N : Nat) (x1 : (List Pair)) (r : (List Pair)) (h : laws_toPairS N x1 = some r) : Says Tryz.prog 7 [RO 38 (x1.map encPair)] 0 [] (.sl 0 53 0 r.length) [(0,.vec 53 (r.map encPair))] := by
 unfold laws_toPairS at h
 refine Says.of_norm e Tryz.call7 e fun B hB => ?_
 have hm : B.m ≤ 1000 := by omega
 refine Run.so hm (.p e (.nil (.so hm (.p e (.z 5112 (Ev.lnF e) e e ?_)))))
 obtain ⟨x174,hx174,h⟩ := bindO h
 refine Ops.z 5128 (Ev.msW (f := encPair) (zv := (Pair.mk (⟨#[]⟩ : ByteArray) (⟨#[]⟩ : ByteArray))) e e e bt53 e hx174) e e (.p e (.nil (.seqO h (fun v208 => [(3,.sl 0 53 0 v208.length)]) (fun (v208 : (List Pair)) => [(0,.vec 53 (v208.map encPair))]) (fun h => ?_) (fun v208 h => ?_))))
 ·refine Run.so hm (.p e (.nil (.block ?_)))
  obtain ⟨res226,h,hk226⟩ := bindO h
  refine Run.loop (n := N) (fun m226 fr σ => ∃ (x210 : Int),∃ (x211 : (List Pair)),laws_toPairS_l1 N x1 m226 x210 x211 = some res226 ∧ fr = [(0,RO 38 (x1.map encPair)),(3,.sl 0 53 0 x211.length),(4,VI x210)] ∧ σ = [(0,.vec 53 (x211.map encPair))]) (gh_pk [0,3,4] [5128] hB e e e e) ⟨_,_,h,e,e⟩ ?_
  rintro m226 fr σ ⟨x210,x211,h,rfl,rfl⟩
  obtain _ | m226 := m226
  ·rw [laws_toPairS_l1] at h; cases h
  rw [laws_toPairS_l1] at h
  refine Run.seq (.so hm (.p2 e e (.z 13320 (Ev.lnF e) e e (.p e (.nil (.condO e h (fun g229 h => ?_) (fun g229 h => ?_)))))))
  ·refine Run.skip (.seq (.block (.ops hm (.p3 e e e (.p e ?_)))))
   obtain ⟨x239,hx239,h⟩ := bindO h
   refine Ops.z 21544 (Ev.iaF e e hx239) e e (.p e ?_)
   obtain ⟨y240,hy240,h⟩ := bindO h
   refine Ops.z 21576 (Ev.call [] [] 0 (sem_laws_toPair _ _ _ hy240) e e (.cons (.agg (.d2 .nil)) .nil) e (.inl e) e e) e e ?_
   obtain ⟨x241,hx241,h⟩ := bindO h
   exact Ops.z 21592 (Ev.iaW e e e hx241) e e (.y 21608 (Ev.stE (f := encPair) (v' := y240) e e (at_some hx241).2 e (.d2 .nil) e e e e e) e e (.nil (.ops hm (.p3 e e e (.nil (⟨m226,Nat.lt_succ_self m226,_,_,(gh_pk [0,3,4] [0] hB e e (by first | rfl | (simp only [List.length_set]; done) | (simp only [List.length_set]; rfl)) (by first | rfl | (simp only [List.length_set]; done) | (simp only [List.length_set]; rfl))),_,_,h,e,e⟩))))))
  ·refine Run.exit ?_
   obtain rfl := someO h
   have h := hk226
   exact ⟨_,_,(gh_pk [3] [0] hB e e e e),_,h,e,e⟩
 ·refine Run.so hm (.p2 e e (.nil (.ret ?_)))
  obtain rfl := someO h
  exact Ends.mkG (.inl e) e (gh_pk [0] [0] hB e e e e) e e
def laws_toCommand (N : Nat) (x1 : Command) : Option (Command) :=
 some x1
theorem sem_laws_toCommand (N : Nat) (x1 : Command) (r : Command) (h : laws_toCommand N x1 = some r) : Says Tryz.prog 8 [.agg [VI x1.Op,VI x1.Session,VI x1.Seq,VS x1.Key,VS x1.Value,VS x1.Old]] 0 [] (.agg [VI r.Op,VI r.Session,VI r.Seq,VS r.Key,VS r.Value,VS r.Old]) [] := by
 unfold laws_toCommand at h
 refine Says.of_norm e Tryz.call8 e fun B hB => ?_
 have hm : B.m ≤ 1000 := by omega
 refine Run.so hm (.z 1000 (.bx e e) e e (.z 1016 (.al e e) e e (.nil (.so hm (.z 5096 (.al e e) e e (.nil (.so hm (.p3 e e e (.y 9240 (.sto e e e e e e) e e (.nil (.so hm (.p3 e e e (.y 13336 (.sto e e e e e e) e e (.nil (.so hm (.p3 e e e (.y 17432 (.sto e e e e e e) e e (.nil (.so hm (.p3 e e e (.y 21528 (.sto e e e e e e) e e (.nil (.so hm (.p3 e e e (.y 25624 (.sto e e e e e e) e e (.nil (.so hm (.p3 e e e (.y 29720 (.sto e e e e e e) e e (.nil (.so hm (.p e (.y 33784 (.sto e e e e e e) e e (.nil (.ret ?_)))))))))))))))))))))))))))))))))))
 obtain rfl := someO h
 exact Ends.mkG (.inl e) e (gh_pk [0] [] hB e e e e) e e
def spec_l01In (N : Nat) (x1 : Int) (x2 : Int) (x3 : Int) : Option (Bool) :=
 (if (decide (x1 ≥ x2)) = true then
 some (decide (x1 ≤ x3))
 else
 some false)
theorem sem_spec_l01In (N : Nat) (x1 : Int) (x2 : Int) (x3 : Int) (r : Bool) (h : spec_l01In N x1 x2 x3 = some r) : Says Tryz.prog 16 [VI x1,VI x2,VI x3] 0 [] (VB r) [] := by
 unfold spec_l01In at h
 refine Says.of_norm e Tryz.call16 e fun B hB => ?_
 have hm : B.m ≤ 1000 := by omega
 refine Run.so hm (.p e (.nil (.so hm (.p3 e e e (.p e (.askO (x := .t 10) e h (fun g103 h => ?_) (fun g103 h => ?_)))))))
 ·refine Ops.gp e g103 e (.gp e g103 e (.gp e g103 e (.z 5208 (.pkT e g103 e) e e (.p e (.nil (.ret ?_))))))
  obtain rfl := someO h
  exact Ends.mkG (.inl e) e (gh_pk [0] [] hB e e e e) e e
 ·refine Ops.gn e g103 (.gn e g103 (.gn e g103 (.z 5208 (.pkF e g103 e) e e (.p e (.nil (.ret ?_))))))
  obtain rfl := someO h
  exact Ends.mkG (.inl e) e (gh_pk [0] [] hB e e e e) e e
def spec_l05Key (N : Nat) (x1 : ByteArray) : Option (Bool) :=
 (spec_l01In N (x1.size : Int) 1 10).bind fun y103 =>
 some y103
theorem sem_spec_l05Key (N : Nat) (x1 : ByteArray) (r : Bool) (h : spec_l05Key N x1 = some r) : Says Tryz.prog 31 [VS x1] 0 [] (VB r) [] := by
 unfold spec_l05Key at h
 refine Says.of_norm e Tryz.call31 e fun B hB => ?_
 have hm : B.m ≤ 1000 := by omega
 refine Run.so hm (.p e (.nil (.so hm (.p2 e e ?_))))
 obtain ⟨y103,hy103,h⟩ := bindO h
 refine Ops.z 5128 (Ev.call [] [] 0 (sem_spec_l01In _ _ _ _ _ hy103) e e (.d2 (.d1 .nil)) e (.inl e) e e) e e (.p e (.nil (.ret ?_)))
 obtain rfl := someO h
 exact Ends.mkG (.inl e) e (gh_pk [0] [] hB e e e e) e e
def spec_MapOk_l1 (N : Nat) (x1 : (List Pair)) : Nat → Int → Option ((Bool) ⊕ (Unit))
 | 0,_ => none
 | m + 1,x344 =>
 (if (decide (x344 < (x1.length : Int))) = true then
 joinP (fun (v404 : Unit) =>
 spec_MapOk_l1 N x1 m (w64 (x344 + 1))) fun j404 =>
 (at? x1 x344).bind fun x413 =>
 (spec_l05Key N x413.Key).bind fun y414 =>
 (if (!y414) = true then
 some (Sum.inl false)
 else
 (at? x1 x344).bind fun x416 =>
 (if (decide ((x416.Value.size : Int) > 40)) = true then
 some (Sum.inl false)
 else
 (if (decide (x344 > 0)) = true then
 (at? x1 (w64 (x344 - 1))).bind fun x419 =>
 (at? x1 x344).bind fun x420 =>
 (if (!Op.bytesLess x419.Key.toList x420.Key.toList) = true then
 some (Sum.inl false)
 else
 j404 ())
 else
 j404 ())))
 else
 some (Sum.inr ()))
def spec_MapOk_l1_r (N : Nat) (x1 : (List Pair)) : (List Pair) → Int → Option ((Bool) ⊕ (Unit))
 | [],x344 =>
 some (Sum.inr ())
 | hd :: tl,x344 =>
 joinP (fun (v404 : Unit) =>
 spec_MapOk_l1_r N x1 tl (w64 (x344 + 1))) fun j404 =>
 (some hd).bind fun x413 =>
 (spec_l05Key N x413.Key).bind fun y414 =>
 (if (!y414) = true then
 some (Sum.inl false)
 else
 (some hd).bind fun x416 =>
 (if (decide ((x416.Value.size : Int) > 40)) = true then
 some (Sum.inl false)
 else
 (if (decide (x344 > 0)) = true then
 (at? x1 (w64 (x344 - 1))).bind fun x419 =>
 (some hd).bind fun x420 =>
 (if (!Op.bytesLess x419.Key.toList x420.Key.toList) = true then
 some (Sum.inl false)
 else
 j404 ())
 else
 j404 ())))
theorem spec_MapOk_l1_rng (N : Nat) (x1 : (List Pair)) (hx : x1.length ≤ 1099511627776) : ∀ (d k m : Nat),x1.length = k + d → d < m → spec_MapOk_l1 N x1 m (k : Int) = spec_MapOk_l1_r N x1 (x1.drop k) (k : Int) := by
 intro d
 induction d with
 | zero =>
  intro k m hd hm
  obtain ⟨m,rfl⟩ : ∃ q,m = q + 1 := ⟨m - 1,by omega⟩
  rw [spec_MapOk_l1,if_neg (by simp; omega),List.drop_eq_nil_of_le (by omega),spec_MapOk_l1_r]
 | succ d ih =>
  intro k m hd hm
  obtain ⟨m,rfl⟩ : ∃ q,m = q + 1 := ⟨m - 1,by omega⟩
  have hk : k < x1.length := by omega
  rw [spec_MapOk_l1,if_pos (by simp; omega),List.drop_eq_getElem_cons hk,spec_MapOk_l1_r]
  have h1 := at_lt hk
  have h2 := w64_succ (k := k) (by omega)
  have h3 := ih (k + 1) m
  simp only [h1,h2,h3 (by omega) (by omega)]
theorem spec_MapOk_l1_eq {N : Nat} (x1 : (List Pair)) (hx : x1.length ≤ 1099511627776) (hN : x1.length < N) : spec_MapOk_l1 N x1 N 0 = spec_MapOk_l1_r N x1 x1 0 := spec_MapOk_l1_rng N x1 hx x1.length 0 N (by omega) hN
def spec_MapOk (N : Nat) (x1 : (List Pair)) : Option (Bool) :=
 (if (decide ((x1.length : Int) > 60)) = true then
 some false
 else
 joinP (fun (v342 : Unit) =>
 some true) fun j342 =>
 (spec_MapOk_l1 N x1 N 0).bind (Sum.elim (fun v382 => some v382) (fun (v383 : Unit) => j342 ())))
theorem sem_spec_MapOk (N : Nat) (x1 : (List Pair)) (r : Bool) (h : spec_MapOk N x1 = some r) : Says Tryz.prog 14 [RO 53 (x1.map encPair)] 0 [] (VB r) [] := by
 unfold spec_MapOk at h
 refine Says.of_norm e Tryz.call14 e fun B hB => ?_
 have hm : B.m ≤ 1000 := by omega
 refine Run.so hm (.p e (.nil (.seq (.so hm (.p e (.z 5112 (Ev.lnF e) e e (.p e (.nil (.condO e h (fun g262 h => ?_) (fun g262 h => ?_))))))))))
 ·refine Run.so hm (.p e (.nil (.ret ?_)))
  obtain rfl := someO h
  exact Ends.mkG (.inl e) e (gh_pk [0] [] hB e e e e) e e
 ·refine Run.skip (.seqO h (fun v342 => []) (fun (v342 : Unit) => []) (fun h => ?_) (fun v342 h => ?_))
  ·refine Run.so hm (.p e (.nil (.block ?_)))
   obtain ⟨res383,h,hk383⟩ := bindO h
   refine Run.loop (n := N) (fun m383 fr σ => ∃ (x344 : Int),spec_MapOk_l1 N x1 m383 x344 = some res383 ∧ fr = [(0,RO 53 (x1.map encPair)),(3,VI x344)] ∧ σ = []) (gh_pk [0,3] [] hB e e e e) ⟨_,h,e,e⟩ ?_
   rintro m383 fr σ ⟨x344,h,rfl,rfl⟩
   obtain _ | m383 := m383
   ·rw [spec_MapOk_l1] at h; cases h
   rw [spec_MapOk_l1] at h
   refine Run.seq (.so hm (.p2 e e (.z 17416 (Ev.lnF e) e e (.p e (.nil (.condO e h (fun g386 h => ?_) (fun g386 h => ?_)))))))
   ·refine Run.skip (.seqO h (fun v404 => [(0,RO 53 (x1.map encPair)),(3,VI x344)]) (fun (v404 : Unit) => []) (fun h => ?_) (fun v404 h => ?_))
    ·refine Run.block (.seq (.draw hm hmix (.p e (.p e ?_))))
     obtain ⟨x413,hx413,h⟩ := bindO h
     refine OpsD.z 25608 (Ev.iaF e e hx413) e e (.p e (.p e ?_))
     obtain ⟨y414,hy414,h⟩ := bindO h
     refine OpsD.z 25656 (Ev.call [] [] 0 (sem_spec_l05Key _ _ _ hy414) e e (.d1 .nil) e (.inl e) e e) e e (.p e (.p e (.askO (x := .t 20) e h (fun g415 h => ?_) (fun g415 h => ?_))))
     ·refine OpsD.gn e g415 (.gn e g415 (.gn e g415 (.gn e g415 (.gn e g415 (.gn e g415 (.gn e g415 (.z 25816 (.pkT e g415 e) e e (.p e (.gn e e (.gn e e (.gn e e (.gu e (.gu e (.gu e (.gu e (.gu e (.gu e (.gu e (.gu e (.gu e (.gu e (.gu e (.gu e (.gn e e (.z 26104 (.pkT e e e) e e (.nil ⟨by kernel_rfl,?_⟩))))))))))))))))))))))))))
      refine Run.condT e e (.so hm (.p e (.nil (.ret ?_))))
      obtain rfl := someO h
      have h := hk383
      replace h := inlO h
      obtain rfl := someO h
      exact Ends.mkG (.inl e) e (gh_pk [0] [] hB e e e e) e e
     ·refine OpsD.gp e g415 e (.gp e g415 e ?_)
      obtain ⟨x416,hx416,h⟩ := bindO h
      refine OpsD.gs (s := 25736) e g415 (Ev.iaF e e hx416) e e (.gp e g415 e (.gp e g415 e (.gp e g415 e (.gp e g415 e (.z 25816 (.pkF e g415 e) e e (.p e (.askO (x := .t 29) e h (fun g417 h => ?_) (fun g417 h => ?_))))))))
      ·refine OpsD.gn e g417 (.gn e g417 (.gn e g417 (.gu e (.gu e (.gu e (.gu e (.gu e (.gu e (.gu e (.gu e (.gu e (.gu e (.gu e (.gu e (.gn e g417 (.z 26104 (.pkT e g417 e) e e (.nil ⟨by kernel_rfl,?_⟩)))))))))))))))))
       refine Run.condT e e (.so hm (.p e (.nil (.ret ?_))))
       obtain rfl := someO h
       have h := hk383
       replace h := inlO h
       obtain rfl := someO h
       exact Ends.mkG (.inl e) e (gh_pk [0] [] hB e e e e) e e
      ·refine OpsD.gp e g417 e (.gp e g417 e (.gp e g417 e (.askO (x := .t 32) e h (fun g418 h => ?_) (fun g418 h => ?_))))
       ·refine OpsD.gp e g418 e (.gp e g418 e (.gp e g418 e ?_))
        obtain ⟨x419,hx419,h⟩ := bindO h
        refine OpsD.gs (s := 25944) e g418 (Ev.iaF e e hx419) e e (.gp e g418 e (.gp e g418 e (.gp e g418 e (.gp e g418 e ?_))))
        obtain ⟨x420,hx420,h⟩ := bindO h
        refine OpsD.gs (s := 26024) e g418 (Ev.iaF e e hx420) e e (.gp e g418 e (.gp e g418 e (.gp e g418 e (.gs (s := 26088) e g417 (.pkT e g418 e) e e (.z 26104 (.pkF e g417 e) e e (.nil ⟨by kernel_rfl,?_⟩))))))
        refine Run.condO e h (fun g421 h => ?_) (fun g421 h => ?_)
        ·refine Run.so hm (.p e (.nil (.ret ?_)))
         obtain rfl := someO h
         have h := hk383
         replace h := inlO h
         obtain rfl := someO h
         exact Ends.mkG (.inl e) e (gh_pk [0] [] hB e e e e) e e
        ·exact Run.skip (⟨_,_,(gh_pk [0,3] [] hB e e e e),(),h,e,e⟩)
       ·refine OpsD.gn e g418 (.gn e g418 (.gn e g418 (.gn e g418 (.gn e g418 (.gn e g418 (.gn e g418 (.gn e g418 (.gn e g418 (.gn e g418 (.gn e g418 (.gn e g418 (.gs (s := 26088) e g417 (.pkF e g418 e) e e (.z 26104 (.pkF e g417 e) e e (.nil ⟨by kernel_rfl,?_⟩))))))))))))))
        exact Run.condF e e (.skip (⟨_,_,(gh_pk [0,3] [] hB e e e e),(),h,e,e⟩))
    ·exact Run.ops hm (.p3 e e e (.nil (⟨m383,Nat.lt_succ_self m383,_,_,(gh_pk [0,3] [] hB e e e e),_,h,e,e⟩)))
   ·refine Run.exit ?_
    obtain rfl := someO h
    have h := hk383
    replace h := inrO h
    exact ⟨_,_,(gh_pk [] [] hB e e e e),(),h,e,e⟩
  ·refine Run.so hm (.p e (.nil (.ret ?_)))
   obtain rfl := someO h
   exact Ends.mkG (.inl e) e (gh_pk [0] [] hB e e e e) e e
def spec_CommandOk (N : Nat) (x1 : Command) : Option (Bool) :=
 (spec_l01In N x1.Op 1 5).bind fun y167 =>
 (if (!y167) = true then
 some false
 else
 (spec_l01In N x1.Session 0 100000).bind fun y169 =>
 (if (!y169) = true then
 some false
 else
 (spec_l01In N x1.Seq 0 100000).bind fun y171 =>
 (if (!y171) = true then
 some false
 else
 (if (decide ((x1.Value.size : Int) > 12)) = true then
 some false
 else
 (if (decide ((x1.Old.size : Int) > 12)) = true then
 some false
 else
 (if (x1.Op == 1) = true then
 some (((x1.Op == 1) && ((x1.Session == 0) && ((x1.Seq == 0) && (decide (x1.Key = (⟨#[]⟩ : ByteArray)) && (decide (x1.Value = (⟨#[]⟩ : ByteArray)) && (decide (x1.Old = (⟨#[]⟩ : ByteArray)) && true)))))) ^^ false)
 else
 (spec_l01In N (x1.Key.size : Int) 1 9).bind fun y181 =>
 (if (!y181) = true then
 some false
 else
 (if (x1.Op == 2) = true then
 (if (decide (x1.Value = (⟨#[]⟩ : ByteArray))) = true then
 some (decide (x1.Old = (⟨#[]⟩ : ByteArray)))
 else
 some false)
 else
 (if (x1.Op == 4) = true then
 (if (decide (x1.Value = (⟨#[]⟩ : ByteArray))) = true then
 some (decide (x1.Old = (⟨#[]⟩ : ByteArray)))
 else
 some false)
 else
 (if (x1.Op == 3) = true then
 some (decide (x1.Old = (⟨#[]⟩ : ByteArray)))
 else
 some true))))))))))
theorem sem_spec_CommandOk (N : Nat) (x1 : Command) (r : Bool) (h : spec_CommandOk N x1 = some r) : Says Tryz.prog 15 [.agg [VI x1.Op,VI x1.Session,VI x1.Seq,VS x1.Key,VS x1.Value,VS x1.Old]] 0 [] (VB r) [] := by
 unfold spec_CommandOk at h
 refine Says.of_run s15 Tryz.call15 e fun B hB => ?_
 have hm : B.m ≤ 1000 := by omega
 refine Run.so hm (.z 1000 (.bx e e) e e (.p e (.nil (.seq (.so hm (.p2 e e ?_))))))
 obtain ⟨y167,hy167,h⟩ := bindO h
 refine Ops.z 5128 (Ev.call [] [] 0 (sem_spec_l01In _ _ _ _ _ hy167) e e (.d2 (.d1 .nil)) e (.inl e) e e) e e (.p2 e e (.askO (x := .t 7) e h (fun g168 h => ?_) (fun g168 h => ?_)))
 ·refine Ops.gn e g168 (.gn e g168 (.gn e g168 (.gn e g168 (.z 5240 (.pkT e g168 e) e e (.p e (.gn e e (.gn e e (.gn e e (.gn e e (.z 5336 (.pkT e e e) e e (.p e (.gn e e (.gn e e (.gn e e (.gn e e (.z 5432 (.pkT e e e) e e (.p e (.gn e e (.gn e e (.gn e e (.gn e e (.z 5528 (.pkT e e e) e e (.nil (.condT e e (.so hm (.p e (.nil (.ret ?_))))))))))))))))))))))))))))
  obtain rfl := someO h
  exact Ends.mkG (.inl e) e (gh_pk [0] [] hB e e e e) e e
 ·refine Ops.gp e g168 e (.gp e g168 e ?_)
  obtain ⟨y169,hy169,h⟩ := bindO h
  refine Ops.gs (s := 5208) e g168 (Ev.call [] [] 0 (sem_spec_l01In _ _ _ _ _ hy169) e e (.d2 (.d1 .nil)) e (.inl e) e e) e e (.gp e g168 e (.z 5240 (.pkF e g168 e) e e (.p e (.askO (x := .t 13) e h (fun g170 h => ?_) (fun g170 h => ?_)))))
  ·refine Ops.gn e g170 (.gn e g170 (.gn e g170 (.gn e g170 (.z 5336 (.pkT e g170 e) e e (.p e (.gn e e (.gn e e (.gn e e (.gn e e (.z 5432 (.pkT e e e) e e (.p e (.gn e e (.gn e e (.gn e e (.gn e e (.z 5528 (.pkT e e e) e e (.nil (.condT e e (.so hm (.p e (.nil (.ret ?_))))))))))))))))))))))
   obtain rfl := someO h
   exact Ends.mkG (.inl e) e (gh_pk [0] [] hB e e e e) e e
  ·refine Ops.gp e g170 e (.gp e g170 e ?_)
   obtain ⟨y171,hy171,h⟩ := bindO h
   refine Ops.gs (s := 5304) e g170 (Ev.call [] [] 0 (sem_spec_l01In _ _ _ _ _ hy171) e e (.d2 (.d1 .nil)) e (.inl e) e e) e e (.gp e g170 e (.z 5336 (.pkF e g170 e) e e (.p e (.askO (x := .t 19) e h (fun g172 h => ?_) (fun g172 h => ?_)))))
   ·refine Ops.gn e g172 (.gn e g172 (.gn e g172 (.gn e g172 (.z 5432 (.pkT e g172 e) e e (.p e (.gn e e (.gn e e (.gn e e (.gn e e (.z 5528 (.pkT e e e) e e (.nil (.condT e e (.so hm (.p e (.nil (.ret ?_))))))))))))))))
    obtain rfl := someO h
    exact Ends.mkG (.inl e) e (gh_pk [0] [] hB e e e e) e e
   ·refine Ops.gp e g172 e (.gp e g172 e (.gp e g172 e (.gp e g172 e (.z 5432 (.pkF e g172 e) e e (.p e (.askO (x := .t 25) e h (fun g173 h => ?_) (fun g173 h => ?_)))))))
    ·refine Ops.gn e g173 (.gn e g173 (.gn e g173 (.gn e g173 (.z 5528 (.pkT e g173 e) e e (.nil (.condT e e (.so hm (.p e (.nil (.ret ?_))))))))))
     obtain rfl := someO h
     exact Ends.mkG (.inl e) e (gh_pk [0] [] hB e e e e) e e
    ·refine Ops.gp e g173 e (.gp e g173 e (.gp e g173 e (.gp e g173 e (.z 5528 (.pkF e g173 e) e e (.nil (.condO e h (fun g174 h => ?_) (fun g174 h => ?_)))))))
     ·refine Run.so hm (.p e (.nil (.ret ?_)))
      obtain rfl := someO h
      exact Ends.mkG (.inl e) e (gh_pk [0] [] hB e e e e) e e
     ·refine Run.skip (.seq (.so hm (.p3 e e e (.nil (.condO e h (fun g176 h => ?_) (fun g176 h => ?_))))))
      ·refine Run.so hm (.p e (.z 17400 (.bd e e) e e (.p2 e e (.nil (.ret ?_)))))
       obtain rfl := someO h
       exact Ends.mkG (.inl e) e (gh_pk [0] [] hB e e e e) e e
      ·refine Run.skip (.seq (.so hm (.p3 e e e ?_)))
       obtain ⟨y181,hy181,h⟩ := bindO h
       refine Ops.z 21528 (Ev.call [] [] 0 (sem_spec_l01In _ _ _ _ _ hy181) e e (.d2 (.d1 .nil)) e (.inl e) e e) e e (.p e (.nil (.condO e h (fun g182 h => ?_) (fun g182 h => ?_))))
       ·refine Run.so hm (.p e (.nil (.ret ?_)))
        obtain rfl := someO h
        exact Ends.mkG (.inl e) e (gh_pk [0] [] hB e e e e) e e
       ·refine Run.skip (.seq (.so hm (.p2 e e (.nil (.block (.seq (.so hm (.p2 e e (.nil (.condO e h (fun g183 h => ?_) (fun g183 h => ?_)))))))))))
        ·refine Run.skip (.condT e g183 (.so hm (.p3 e e e (.p e (.askO (x := .t 50) e h (fun g185 h => ?_) (fun g185 h => ?_))))))
         ·refine Ops.gp e g185 e (.gp e g185 e (.gp e g185 e (.z 42072 (.pkT e g185 e) e e (.p e (.nil (.ret ?_))))))
          obtain rfl := someO h
          exact Ends.mkG (.inl e) e (gh_pk [0] [] hB e e e e) e e
         ·refine Ops.gn e g185 (.gn e g185 (.gn e g185 (.z 42072 (.pkF e g185 e) e e (.p e (.nil (.ret ?_))))))
          obtain rfl := someO h
          exact Ends.mkG (.inl e) e (gh_pk [0] [] hB e e e e) e e
        ·refine Run.ops hm (.p2 e e (.nil (.condO e h (fun g186 h => ?_) (fun g186 h => ?_))))
         ·refine Run.so hm (.p3 e e e (.p e (.askO (x := .t 50) e h (fun g188 h => ?_) (fun g188 h => ?_))))
          ·refine Ops.gp e g188 e (.gp e g188 e (.gp e g188 e (.z 42072 (.pkT e g188 e) e e (.p e (.nil (.ret ?_))))))
           obtain rfl := someO h
           exact Ends.mkG (.inl e) e (gh_pk [0] [] hB e e e e) e e
          ·refine Ops.gn e g188 (.gn e g188 (.gn e g188 (.z 42072 (.pkF e g188 e) e e (.p e (.nil (.ret ?_))))))
           obtain rfl := someO h
           exact Ends.mkG (.inl e) e (gh_pk [0] [] hB e e e e) e e
         ·refine Run.so hm (.p2 e e (.nil (.condO e h (fun g189 h => ?_) (fun g189 h => ?_))))
          ·refine Run.so hm (.p3 e e e (.p e (.nil (.ret ?_))))
           obtain rfl := someO h
           exact Ends.mkG (.inl e) e (gh_pk [0] [] hB e e e e) e e
          ·refine Run.skip (.so hm (.p e (.nil (.ret ?_))))
           obtain rfl := someO h
           exact Ends.mkG (.inl e) e (gh_pk [0] [] hB e e e e) e e
def spec_l01Figure (N : Nat) (x1 : Int) : Option (Int) :=
 (if (decide (x1 < 10)) = true then
 some (IntKind.wrap .u8 (w64 (48 + x1)))
 else
 some (IntKind.wrap .u8 (w64 ((w64 (97 + x1)) - 10))))
theorem sem_spec_l01Figure (N : Nat) (x1 : Int) (r : Int) (h : spec_l01Figure N x1 = some r) : Says Tryz.prog 46 [VI x1] 0 [] (.c (.i .u8 r)) [] := by
 unfold spec_l01Figure at h
 refine Says.of_norm e Tryz.call46 e fun B hB => ?_
 have hm : B.m ≤ 1000 := by omega
 refine Run.so hm (.p e (.nil (.seq (.so hm (.p2 e e (.nil (.condO e h (fun g103 h => ?_) (fun g103 h => ?_))))))))
 ·refine Run.so hm (.p3 e e e (.p e (.nil (.ret ?_))))
  obtain rfl := someO h
  exact Ends.mkG (.inl e) e (gh_pk [0] [] hB e e e e) e e
 ·refine Run.skip (.so hm (.p3 e e e (.p2 e e (.nil (.ret ?_)))))
  obtain rfl := someO h
  exact Ends.mkG (.inl e) e (gh_pk [0] [] hB e e e e) e e
def spec_Decimal_l1 (N : Nat) : Nat → Int → ByteArray → Option (ByteArray)
 | 0,_,_ => none
 | m + 1,x241,x243 =>
 (if (x241 != 0) = true then
 (intD .rem .i64 x241 10).bind fun x270 =>
 joinP (fun (v272 : Int) =>
 (spec_l01Figure N v272).bind fun y280 =>
 (scat? (strOf ([y280] : List Int)) x243).bind fun x281 =>
 (intD .quo .i64 x241 10).bind fun x283 =>
 spec_Decimal_l1 N m x283 x281) fun j272 =>
 (if (decide (x270 < 0)) = true then
 j272 (w64 ((-x270)))
 else
 j272 x270)
 else
 some x243)
def spec_Decimal (N : Nat) (x1 : Int) : Option (ByteArray) :=
 (if (x1 == 0) = true then
 some (⟨#[48]⟩ : ByteArray)
 else
 joinP (fun (v240 : ByteArray) =>
 (if (decide (x1 < 0)) = true then
 (scat? (⟨#[45]⟩ : ByteArray) v240).bind fun x289 =>
 some x289
 else
 some v240)) fun j240 =>
 (spec_Decimal_l1 N N x1 (⟨#[]⟩ : ByteArray)).bind (fun v263 => j240 v263))
theorem sem_spec_Decimal (N : Nat) (x1 : Int) (r : ByteArray) (h : spec_Decimal N x1 = some r) : Says Tryz.prog 36 [VI x1] 0 [] (VS r) [] := by
 unfold spec_Decimal at h
 refine Says.of_norm e Tryz.call36 e fun B hB => ?_
 have hm : B.m ≤ 1000 := by omega
 refine Run.so hm (.p e (.nil (.seq (.so hm (.p2 e e (.nil (.condO e h (fun g196 h => ?_) (fun g196 h => ?_))))))))
 ·refine Run.so hm (.p e (.nil (.ret ?_)))
  obtain rfl := someO h
  exact Ends.mkG (.inl e) e (gh_pk [0] [] hB e e e e) e e
 ·refine Run.skip (.so hm (.p3 e e e (.nil (.so hm (.p e (.nil (.seqO h (fun v240 => [(3,VB (decide (x1 < 0))),(4,VS v240)]) (fun (v240 : ByteArray) => []) (fun h => ?_) (fun v240 h => ?_))))))))
  ·refine Run.block ?_
   obtain ⟨res263,h,hk263⟩ := bindO h
   refine Run.loop (n := N) (fun m263 fr σ => ∃ (x241 : Int),∃ (x243 : ByteArray),spec_Decimal_l1 N m263 x241 x243 = some res263 ∧ fr = [(0,VI x241),(3,VB (decide (x1 < 0))),(4,VS x243)] ∧ σ = []) (gh_pk [0,3,4] [] hB e e e e) ⟨_,_,h,e,e⟩ ?_
   rintro m263 fr σ ⟨x241,x243,h,rfl,rfl⟩
   obtain _ | m263 := m263
   ·rw [spec_Decimal_l1] at h; cases h
   rw [spec_Decimal_l1] at h
   refine Run.seq (.so hm (.p2 e e (.nil (.condO e h (fun g266 h => ?_) (fun g266 h => ?_)))))
   ·refine Run.skip (.block (.so hm (.p e ?_)))
    obtain ⟨x270,hx270,h⟩ := bindO h
    refine Ops.z 25592 (.bin e e hx270) e e (.p e (.nil (.seqO h (fun v272 => [(0,VI x241),(3,VB (decide (x1 < 0))),(4,VS x243),(5,VI v272)]) (fun (v272 : Int) => []) (fun h => ?_) (fun v272 h => ?_))))
    ·refine Run.so hm (.p2 e e (.nil (.condO e h (fun g273 h => ?_) (fun g273 h => ?_))))
     ·exact Run.ops hm (.p3 e e e (.nil (⟨_,_,(gh_pk [0,3,4,5] [] hB e e e e),_,h,e,e⟩)))
     ·exact Run.skip (⟨_,_,(gh_pk [0,3,4,5] [] hB e e e e),_,h,e,e⟩)
    ·refine Run.so hm (.p e ?_)
     obtain ⟨y280,hy280,h⟩ := bindO h
     refine Ops.z 37880 (Ev.call [] [] 0 (sem_spec_l01Figure _ _ _ hy280) e e (.d1 .nil) e (.inl e) e e) e e (.z 37896 (Ev.bsW (ys := ([y280] : List Int)) (f := encU) e (.d1 .nil) e e e e e) e e (.z 37912 (.sbC (addsW (f := encU) e e e (fun _ => e))) e e (.p e ?_)))
     obtain ⟨x281,hx281,h⟩ := bindO h
     refine Ops.z 37944 (Ev.addS e e hx281) e e (.p e (.nil (.ops hm (.p e ?_))))
     obtain ⟨x283,hx283,h⟩ := bindO h
     exact Ops.z 41976 (.bin e e hx283) e e (.p e (.nil (⟨m263,Nat.lt_succ_self m263,_,_,(gh_pk [0,3,4] [] hB e e e e),_,_,h,e,e⟩)))
   ·refine Run.exit ?_
    obtain rfl := someO h
    have h := hk263
    exact ⟨_,_,(gh_pk [3,4] [] hB e e e e),_,h,e,e⟩
  ·refine Run.seq (.so hm (.p e (.nil (.condO e h (fun g287 h => ?_) (fun g287 h => ?_)))))
   ·refine Run.so hm (.p e ?_)
    obtain ⟨x289,hx289,h⟩ := bindO h
    refine Ops.z 50168 (Ev.addS e e hx289) e e (.p e (.nil (.ret ?_)))
    obtain rfl := someO h
    exact Ends.mkG (.inl e) e (gh_pk [0] [] hB e e e e) e e
   ·refine Run.skip (.so hm (.p2 e e (.nil (.ret ?_))))
    obtain rfl := someO h
    exact Ends.mkG (.inl e) e (gh_pk [0] [] hB e e e e) e e
def spec_ReadDecimal_l1 (N : Nat) (x1 : ByteArray) : Nat → Int → Int → Option ((Int × Bool) ⊕ (Int))
 | 0,_,_ => none
 | m + 1,x339,x340 =>
 (if (decide (x340 < (x1.size : Int))) = true then
 (sat? x1 x340).bind fun x406 =>
 (if (decide (x406 < 48)) = true then
 some (Sum.inl (0,false))
 else
 (sat? x1 x340).bind fun x408 =>
 (if (decide (x408 > 57)) = true then
 some (Sum.inl (0,false))
 else
 (sat? x1 x340).bind fun x411 =>
 spec_ReadDecimal_l1 N x1 m (w64 ((w64 ((w64 (10 * x339)) + (w64 (x411)))) - 48)) (w64 (x340 + 1))))
 else
 some (Sum.inr x339))
def spec_ReadDecimal (N : Nat) (x1 : ByteArray) : Option (Int × Bool) :=
 (if (decide ((x1.size : Int) > 10)) = true then
 some (0,false)
 else
 joinP (fun (v337 : Int) =>
 (if (decide (v337 > 1000000000)) = true then
 some (0,false)
 else
 (spec_Decimal N v337).bind fun y420 =>
 (if (!decide (y420 = x1)) = true then
 some (0,false)
 else
 some (v337,true)))) fun j337 =>
 (spec_ReadDecimal_l1 N x1 N 0 0).bind (Sum.elim (fun v375 => some v375) (fun (v376 : Int) => j337 v376)))
theorem sem_spec_ReadDecimal (N : Nat) (x1 : ByteArray) (r : Int × Bool) (h : spec_ReadDecimal N x1 = some r) : Says Tryz.prog 32 [VS x1] 0 [] (.tup [VI r.1,VB r.2]) [] := by
 unfold spec_ReadDecimal at h
 refine Says.of_norm e Tryz.call32 e fun B hB => ?_
 have hm : B.m ≤ 1000 := by omega
 refine Run.so hm (.p2 e e (.nil (.seq (.so hm (.p3 e e e (.nil (.condO e h (fun g262 h => ?_) (fun g262 h => ?_))))))))
 ·refine Run.so hm (.p2 e e (.nil (.ret ?_)))
  obtain rfl := someO h
  exact Ends.mkG (.inl e) e (gh_pk [0,1] [] hB e e e e) e e
 ·refine Run.skip (.so hm (.p e (.nil (.seqO h (fun v337 => [(0,VS x1),(4,VI v337)]) (fun (v337 : Int) => []) (fun h => ?_) (fun v337 h => ?_)))))
  ·refine Run.so hm (.p e (.nil (.block ?_)))
   obtain ⟨res376,h,hk376⟩ := bindO h
   refine Run.loop (n := N) (fun m376 fr σ => ∃ (x339 : Int),∃ (x340 : Int),spec_ReadDecimal_l1 N x1 m376 x339 x340 = some res376 ∧ fr = [(0,VS x1),(4,VI x339),(5,VI x340)] ∧ σ = []) (gh_pk [0,4,5] [] hB e e e e) ⟨_,_,h,e,e⟩ ?_
   rintro m376 fr σ ⟨x339,x340,h,rfl,rfl⟩
   obtain _ | m376 := m376
   ·rw [spec_ReadDecimal_l1] at h; cases h
   rw [spec_ReadDecimal_l1] at h
   refine Run.seq (.so hm (.p3 e e e (.p e (.nil (.condO e h (fun g379 h => ?_) (fun g379 h => ?_))))))
   ·refine Run.skip (.seq (.block (.seq (.so hm (.p2 e e ?_)))))
    obtain ⟨x406,hx406,h⟩ := bindO h
    refine Ops.z 29704 (Ev.ixS e e hx406) e e (.p2 e e (.askO (x := .t 19) e h (fun g407 h => ?_) (fun g407 h => ?_)))
    ·refine Ops.gn e g407 (.gn e g407 (.gn e g407 (.gn e g407 (.z 29816 (.pkT e g407 e) e e (.nil (.condT e e (.so hm (.p2 e e (.nil (.ret ?_))))))))))
     obtain rfl := someO h
     have h := hk376
     replace h := inlO h
     obtain rfl := someO h
     exact Ends.mkG (.inl e) e (gh_pk [0,1] [] hB e e e e) e e
    ·refine Ops.gp e g407 e (.gp e g407 e ?_)
     obtain ⟨x408,hx408,h⟩ := bindO h
     refine Ops.gs (s := 29784) e g407 (Ev.ixS e e hx408) e e (.gp e g407 e (.z 29816 (.pkF e g407 e) e e (.nil (.condO e h (fun g409 h => ?_) (fun g409 h => ?_)))))
     ·refine Run.so hm (.p2 e e (.nil (.ret ?_)))
      obtain rfl := someO h
      have h := hk376
      replace h := inlO h
      obtain rfl := someO h
      exact Ends.mkG (.inl e) e (gh_pk [0,1] [] hB e e e e) e e
     ·refine Run.skip (.ops hm (.p3 e e e (.p e ?_)))
      obtain ⟨x411,hx411,h⟩ := bindO h
      exact Ops.z 37928 (Ev.ixS e e hx411) e e (.p3 e e e (.p e (.nil (.ops hm (.p3 e e e (.nil (⟨m376,Nat.lt_succ_self m376,_,_,(gh_pk [0,4,5] [] hB e e e e),_,_,h,e,e⟩)))))))
   ·refine Run.exit ?_
    obtain rfl := someO h
    have h := hk376
    replace h := inrO h
    exact ⟨_,_,(gh_pk [0,4] [] hB e e e e),_,h,e,e⟩
  ·refine Run.seq (.so hm (.p3 e e e (.askO (x := .t 35) e h (fun g419 h => ?_) (fun g419 h => ?_))))
   ·refine Ops.gn e g419 (.gn e g419 (.gn e g419 (.gn e g419 (.z 42072 (.pkT e g419 e) e e (.nil (.condT e e (.so hm (.p2 e e (.nil (.ret ?_))))))))))
    obtain rfl := someO h
    exact Ends.mkG (.inl e) e (gh_pk [0,1] [] hB e e e e) e e
   ·refine Ops.gp e g419 e ?_
    obtain ⟨y420,hy420,h⟩ := bindO h
    refine Ops.gs (s := 42024) e g419 (Ev.call [] [] 0 (sem_spec_Decimal _ _ _ hy420) e e (.d1 .nil) e (.inl e) e e) e e (.gp e g419 e (.gp e g419 e (.z 42072 (.pkF e g419 e) e e (.nil (.condO e h (fun g421 h => ?_) (fun g421 h => ?_))))))
    ·refine Run.so hm (.p2 e e (.nil (.ret ?_)))
     obtain rfl := someO h
     exact Ends.mkG (.inl e) e (gh_pk [0,1] [] hB e e e e) e e
    ·refine Run.skip (.so hm (.p3 e e e (.nil (.ret ?_))))
     obtain rfl := someO h
     exact Ends.mkG (.inl e) e (gh_pk [0,1] [] hB e e e e) e e
def spec_l15Read_l1 (N : Nat) (x2 : ByteArray) : Nat → Int → Option (Int)
 | 0,_ => none
 | m + 1,x276 =>
 (if (decide (x276 < (x2.size : Int))) = true then
 (sat? x2 x276).bind fun x301 =>
 (if (x301 != 32) = true then
 spec_l15Read_l1 N x2 m (w64 (x276 + 1))
 else
 some x276)
 else
 some x276)
def spec_l15Read_l2 (N : Nat) (x2 : ByteArray) : Nat → Int → Option (Int)
 | 0,_ => none
 | m + 1,x337 =>
 (if (decide (x337 < (x2.size : Int))) = true then
 (sat? x2 x337).bind fun x362 =>
 (if (x362 != 32) = true then
 spec_l15Read_l2 N x2 m (w64 (x337 + 1))
 else
 some x337)
 else
 some x337)
def spec_l15Read (N : Nat) (x1 : Int) (x2 : ByteArray) : Option (Tl15State × Bool) :=
 joinP (fun (v273 : Int) =>
 joinP (fun (v333 : Int) =>
 (if (decide (v333 ≥ (x2.size : Int))) = true then
 some ((Tl15State.mk x1 0 0 (⟨#[]⟩ : ByteArray)),false)
 else
 (stake? x2 v273).bind fun x372 =>
 (spec_ReadDecimal N x372).bind fun y373 =>
 (scut? x2 (w64 (v273 + 1)) v333).bind fun x380 =>
 (spec_ReadDecimal N x380).bind fun y381 =>
 (sdrop? x2 (w64 (v333 + 1))).bind fun x385 =>
 (if y373.2 = true then
 some ((Tl15State.mk x1 y373.1 y381.1 x385),y381.2)
 else
 some ((Tl15State.mk x1 y373.1 y381.1 x385),false)))) fun j333 =>
 (spec_l15Read_l2 N x2 N (w64 (v273 + 1))).bind (fun v352 => j333 v352)) fun j273 =>
 (spec_l15Read_l1 N x2 N 0).bind (fun v291 => j273 v291)
theorem sem_spec_l15Read (N : Nat) (x1 : Int) (x2 : ByteArray) (r : Tl15State × Bool) (h : spec_l15Read N x1 x2 = some r) : Says Tryz.prog 33 [VI x1,VS x2] 0 [] (.tup [.agg [VI r.1.id,VI r.1.seq,VI r.1.at',VS r.1.reply],VB r.2]) [] := by
 unfold spec_l15Read at h
 refine Says.of_norm e Tryz.call33 e fun B hB => ?_
 have hm : B.m ≤ 1000 := by omega
 refine Run.so hm (.z 1000 (.al e e) e e (.p e (.nil (.so hm (.p e (.nil (.seqO h (fun v273 => [(0,VI x1),(1,VS x2),(4,.ptr 0 0),(6,VI v273)]) (fun (v273 : Int) => [(0,.box [VI 0,VI 0,VI 0,VS (⟨#[]⟩ : ByteArray)])]) (fun h => ?_) (fun v273 h => ?_))))))))
 ·refine Run.block ?_
  obtain ⟨res291,h,hk291⟩ := bindO h
  refine Run.loop (n := N) (fun m291 fr σ => ∃ (x276 : Int),spec_l15Read_l1 N x2 m291 x276 = some res291 ∧ fr = [(0,VI x1),(1,VS x2),(4,.ptr 0 0),(6,VI x276)] ∧ σ = [(0,.box [VI 0,VI 0,VI 0,VS (⟨#[]⟩ : ByteArray)])]) (gh_pk [0,1,4,6] [1000] hB e e e e) ⟨_,h,e,e⟩ ?_
  rintro m291 fr σ ⟨x276,h,rfl,rfl⟩
  obtain _ | m291 := m291
  ·rw [spec_l15Read_l1] at h; cases h
  rw [spec_l15Read_l1] at h
  refine Run.seq (.so hm (.p3 e e e (.p2 e e (.askO (x := .t 17) e h (fun g300 h => ?_) (fun g300 h => ?_)))))
  ·refine Ops.gp e g300 e (.gp e g300 e ?_)
   obtain ⟨x301,hx301,h⟩ := bindO h
   refine Ops.gs (s := 9304) e g300 (Ev.ixS e e hx301) e e (.gp e g300 e (.z 9336 (.pkT e g300 e) e e (.nil (.condO e h (fun g302 h => ?_) (fun g302 h => ?_)))))
   ·exact Run.skip (.block (.ops hm (.p3 e e e (.nil (⟨m291,Nat.lt_succ_self m291,_,_,(gh_pk [0,1,4,6] [0] hB e e e e),_,h,e,e⟩)))))
   ·refine Run.exit ?_
    obtain rfl := someO h
    have h := hk291
    exact ⟨_,_,(gh_pk [0,1,4,6] [0] hB e e e e),_,h,e,e⟩
  ·refine Ops.gn e g300 (.gn e g300 (.gn e g300 (.gn e g300 (.z 9336 (.pkF e g300 e) e e (.nil (.condF e e (.exit ?_)))))))
   obtain rfl := someO h
   have h := hk291
   exact ⟨_,_,(gh_pk [0,1,4,6] [0] hB e e e e),_,h,e,e⟩
 ·refine Run.so hm (.p3 e e e (.nil (.seqO h (fun v333 => [(0,VI x1),(1,VS x2),(4,.ptr 0 0),(6,VI v273),(7,VI v333)]) (fun (v333 : Int) => [(0,.box [VI 0,VI 0,VI 0,VS (⟨#[]⟩ : ByteArray)])]) (fun h => ?_) (fun v333 h => ?_))))
  ·refine Run.block ?_
   obtain ⟨res352,h,hk352⟩ := bindO h
   refine Run.loop (n := N) (fun m352 fr σ => ∃ (x337 : Int),spec_l15Read_l2 N x2 m352 x337 = some res352 ∧ fr = [(0,VI x1),(1,VS x2),(4,.ptr 0 0),(6,VI v273),(7,VI x337)] ∧ σ = [(0,.box [VI 0,VI 0,VI 0,VS (⟨#[]⟩ : ByteArray)])]) (gh_pk [0,1,4,6,7] [0] hB e e e e) ⟨_,h,e,e⟩ ?_
   rintro m352 fr σ ⟨x337,h,rfl,rfl⟩
   obtain _ | m352 := m352
   ·rw [spec_l15Read_l2] at h; cases h
   rw [spec_l15Read_l2] at h
   refine Run.seq (.so hm (.p3 e e e (.p2 e e (.askO (x := .t 31) e h (fun g361 h => ?_) (fun g361 h => ?_)))))
   ·refine Ops.gp e g361 e (.gp e g361 e ?_)
    obtain ⟨x362,hx362,h⟩ := bindO h
    refine Ops.gs (s := 21592) e g361 (Ev.ixS e e hx362) e e (.gp e g361 e (.z 21624 (.pkT e g361 e) e e (.nil (.condO e h (fun g363 h => ?_) (fun g363 h => ?_)))))
    ·exact Run.skip (.block (.ops hm (.p3 e e e (.nil (⟨m352,Nat.lt_succ_self m352,_,_,(gh_pk [0,1,4,6,7] [0] hB e e e e),_,h,e,e⟩)))))
    ·refine Run.exit ?_
     obtain rfl := someO h
     have h := hk352
     exact ⟨_,_,(gh_pk [0,1,4,6,7] [0] hB e e e e),_,h,e,e⟩
   ·refine Ops.gn e g361 (.gn e g361 (.gn e g361 (.gn e g361 (.z 21624 (.pkF e g361 e) e e (.nil (.condF e e (.exit ?_)))))))
    obtain rfl := someO h
    have h := hk352
    exact ⟨_,_,(gh_pk [0,1,4,6,7] [0] hB e e e e),_,h,e,e⟩
  ·refine Run.so hm (.p e (.z 29688 (.bd e e) e e (.z 29704 (.al e e) e e (.y 29720 (.sto e e e e e e) e e (.nil (.seq (.so hm (.p3 e e e (.p e (.nil (.condO e h (fun g365 h => ?_) (fun g365 h => ?_))))))))))))
   ·refine Run.so hm (.p e (.y 37880 (.sto e e e e e e) e e (.p e (.nil (.ret ?_)))))
    obtain rfl := someO h
    exact Ends.mkG (.inl e) e (gh_pk [0,1] [] hB e e e e) e e
   ·refine Run.skip (.so hm (.p2 e e ?_))
    obtain ⟨x372,hx372,h⟩ := bindO h
    refine Ops.z 41992 (Ev.ssH e e hx372) e e ?_
    obtain ⟨y373,hy373,h⟩ := bindO h
    refine Ops.z 42008 (Ev.call [] [] 0 (sem_spec_ReadDecimal _ _ _ hy373) e e (.d1 .nil) e (.inl e) e e) e e (.p3 e e e (.p2 e e (.nil (.so hm (.p3 e e e (.p e ?_))))))
    obtain ⟨x380,hx380,h⟩ := bindO h
    refine Ops.z 46120 (Ev.ssB e e e hx380) e e ?_
    obtain ⟨y381,hy381,h⟩ := bindO h
    refine Ops.z 46136 (Ev.call [] [] 0 (sem_spec_ReadDecimal _ _ _ hy381) e e (.d1 .nil) e (.inl e) e e) e e (.p3 e e e (.p2 e e (.nil (.so hm (.p2 e e (.y 50184 (.sto e e e e e e) e e (.nil (.so hm (.p2 e e (.y 54280 (.sto e e e e e e) e e (.nil (.so hm (.p3 e e e ?_)))))))))))))
    obtain ⟨x385,hx385,h⟩ := bindO h
    refine Ops.z 58392 (Ev.ssL e e hx385) e e (.p e (.y 58424 (.sto e e e e e e) e e (.nil (.so hm (.p3 e e e (.askO (x := .t 73) e h (fun g387 h => ?_) (fun g387 h => ?_)))))))
    ·refine Ops.gp e g387 e (.z 62504 (.pkT e g387 e) e e (.y 62520 (.sto e e e e e e) e e (.p e (.nil (.ret ?_)))))
     obtain rfl := someO h
     exact Ends.mkG (.inl e) e (gh_pk [0,1] [] hB e e e e) e e
    ·refine Ops.gn e g387 (.z 62504 (.pkF e g387 e) e e (.y 62520 (.sto e e e e e e) e e (.p e (.nil (.ret ?_)))))
     obtain rfl := someO h
     exact Ends.mkG (.inl e) e (gh_pk [0,1] [] hB e e e e) e e
def spec_l15Sessions_l2 (N : Nat) (x1520 : (List Tl15State)) (y1896 : Int × Bool) : Nat → Int → Option (Int)
 | 0,_ => none
 | m + 1,x1946 =>
 (if (decide (x1946 > 0)) = true then
 (at? x1520 (w64 (x1946 - 1))).bind fun x1972 =>
 (if (decide (x1972.id > y1896.1)) = true then
 spec_l15Sessions_l2 N x1520 y1896 m (w64 (x1946 - 1))
 else
 some x1946)
 else
 some x1946)
def spec_l15Sessions_l1 (N : Nat) (x1 : (List Pair)) : Nat → Int → (List Tl15State) → Option (((List Tl15State) × Bool) ⊕ ((List Tl15State)))
 | 0,_,_ => none
 | m + 1,x1519,x1520 =>
 (if (decide (x1519 < (x1.length : Int))) = true then
 joinP (fun (v1874 : (List Tl15State)) =>
 spec_l15Sessions_l1 N x1 m (w64 (x1519 + 1)) v1874) fun j1874 =>
 (at? x1 x1519).bind fun x1882 =>
 (sat? x1882.Key 0).bind fun x1883 =>
 (if (x1883 != 115) = true then
 j1874 x1520
 else
 (at? x1 x1519).bind fun x1894 =>
 (sdrop? x1894.Key 1).bind fun x1895 =>
 (spec_ReadDecimal N x1895).bind fun y1896 =>
 (at? x1 x1519).bind fun x1903 =>
 (spec_l15Read N y1896.1 x1903.Value).bind fun y1904 =>
 (if (!y1896.2) = true then
 some (Sum.inl (x1520,false))
 else
 (if (!y1904.2) = true then
 some (Sum.inl (x1520,false))
 else
 joinP (fun (v1942 : Int) =>
 (take? x1520 v1942).bind fun x1980 =>
 (cat? ([] : List Tl15State) (x1520.take v1942.toNat)).bind fun x1981 =>
 (cat? x1981 ([y1904.1] : List Tl15State)).bind fun x1985 =>
 (drop? x1520 v1942).bind fun x1988 =>
 (cat? x1985 ((x1520.drop v1942.toNat).take (x1520.length - v1942.toNat))).bind fun x1989 =>
 j1874 x1989) fun j1942 =>
 (spec_l15Sessions_l2 N x1520 y1896 N ((x1520.length : Nat) : Int)).bind (fun v1962 => j1942 v1962))))
 else
 some (Sum.inr x1520))
def spec_l15Sessions_l1_r (N : Nat) (x1 : (List Pair)) : (List Pair) → Int → (List Tl15State) → Option (((List Tl15State) × Bool) ⊕ ((List Tl15State)))
 | [],x1519,x1520 =>
 some (Sum.inr x1520)
 | hd :: tl,x1519,x1520 =>
 joinP (fun (v1874 : (List Tl15State)) =>
 spec_l15Sessions_l1_r N x1 tl (w64 (x1519 + 1)) v1874) fun j1874 =>
 (some hd).bind fun x1882 =>
 (sat? x1882.Key 0).bind fun x1883 =>
 (if (x1883 != 115) = true then
 j1874 x1520
 else
 (some hd).bind fun x1894 =>
 (sdrop? x1894.Key 1).bind fun x1895 =>
 (spec_ReadDecimal N x1895).bind fun y1896 =>
 (some hd).bind fun x1903 =>
 (spec_l15Read N y1896.1 x1903.Value).bind fun y1904 =>
 (if (!y1896.2) = true then
 some (Sum.inl (x1520,false))
 else
 (if (!y1904.2) = true then
 some (Sum.inl (x1520,false))
 else
 joinP (fun (v1942 : Int) =>
 (take? x1520 v1942).bind fun x1980 =>
 (cat? ([] : List Tl15State) (x1520.take v1942.toNat)).bind fun x1981 =>
 (cat? x1981 ([y1904.1] : List Tl15State)).bind fun x1985 =>
 (drop? x1520 v1942).bind fun x1988 =>
 (cat? x1985 ((x1520.drop v1942.toNat).take (x1520.length - v1942.toNat))).bind fun x1989 =>
 j1874 x1989) fun j1942 =>
 (spec_l15Sessions_l2 N x1520 y1896 N ((x1520.length : Nat) : Int)).bind (fun v1962 => j1942 v1962))))
theorem spec_l15Sessions_l1_rng (N : Nat) (x1 : (List Pair)) (hx : x1.length ≤ 1099511627776) : ∀ (d k m : Nat) (x1520 : (List Tl15State)),x1.length = k + d → d < m → spec_l15Sessions_l1 N x1 m (k : Int) x1520 = spec_l15Sessions_l1_r N x1 (x1.drop k) (k : Int) x1520 := by
 intro d
 induction d with
 | zero =>
  intro k m x1520 hd hm
  obtain ⟨m,rfl⟩ : ∃ q,m = q + 1 := ⟨m - 1,by omega⟩
  rw [spec_l15Sessions_l1,if_neg (by simp; omega),List.drop_eq_nil_of_le (by omega),spec_l15Sessions_l1_r]
 | succ d ih =>
  intro k m x1520 hd hm
  obtain ⟨m,rfl⟩ : ∃ q,m = q + 1 := ⟨m - 1,by omega⟩
  have hk : k < x1.length := by omega
  rw [spec_l15Sessions_l1,if_pos (by simp; omega),List.drop_eq_getElem_cons hk,spec_l15Sessions_l1_r]
  have h1 := at_lt hk
  have h2 := w64_succ (k := k) (by omega)
  have h3 := ih (k + 1) m
  simp only [h1,h2,h3 _ (by omega) (by omega)]
theorem spec_l15Sessions_l1_eq {N : Nat} (x1 : (List Pair)) (hx : x1.length ≤ 1099511627776) (hN : x1.length < N) (x1520 : (List Tl15State)) : spec_l15Sessions_l1 N x1 N 0 x1520 = spec_l15Sessions_l1_r N x1 x1 0 x1520 := spec_l15Sessions_l1_rng N x1 hx x1.length 0 N x1520 (by omega) hN
def spec_l15Sessions (N : Nat) (x1 : (List Pair)) : Option ((List Tl15State) × Bool) :=
 joinP (fun (v1517 : (List Tl15State)) =>
 some (v1517,true)) fun j1517 =>
 (spec_l15Sessions_l1 N x1 N 0 ([] : List Tl15State)).bind (Sum.elim (fun v1754 => some v1754) (fun (v1755 : (List Tl15State)) => j1517 v1755))
theorem sem_spec_l15Sessions (N : Nat) (x1 : (List Pair)) (r : (List Tl15State) × Bool) (h : spec_l15Sessions N x1 = some r) : Says Tryz.prog 17 [RO 53 (x1.map encPair)] 0 [] (.tup [.sl 0 47 0 r.1.length,VB r.2]) [(0,.vec 47 (r.1.map encTl15State))] := by
 unfold spec_l15Sessions at h
 refine Says.of_norm e Tryz.call17 e fun B hB => ?_
 have hm : B.m ≤ 1000 := by omega
 refine Run.so hm (.p2 e e (.nil (.so hm (.z 5096 (Ev.bsW (ys := ([] : List Tl15State)) (f := encTl15State) e .nil e e e e e) e e (.p e (.nil (.seqO h (fun v1517 => [(4,.sl 0 47 0 v1517.length)]) (fun (v1517 : (List Tl15State)) => [(0,.vec 47 (v1517.map encTl15State))]) (fun h => ?_) (fun v1517 h => ?_))))))))
 ·refine Run.so hm (.p e (.nil (.block ?_)))
  obtain ⟨res1755,h,hk1755⟩ := bindO h
  refine Run.loop (n := N) (fun m1755 fr σ => ∃ (x1519 : Int),∃ (x1520 : (List Tl15State)),spec_l15Sessions_l1 N x1 m1755 x1519 x1520 = some res1755 ∧ fr = [(0,RO 53 (x1.map encPair)),(4,.sl 0 47 0 x1520.length),(5,VI x1519)] ∧ σ = [(0,.vec 47 (x1520.map encTl15State))]) (gh_pk [0,4,5] [5096] hB e e e e) ⟨_,_,h,e,e⟩ ?_
  rintro m1755 fr σ ⟨x1519,x1520,h,rfl,rfl⟩
  obtain _ | m1755 := m1755
  ·rw [spec_l15Sessions_l1] at h; cases h
  rw [spec_l15Sessions_l1] at h
  refine Run.seq (.so hm (.p2 e e (.z 13320 (Ev.lnF e) e e (.p e (.nil (.condO e h (fun g1758 h => ?_) (fun g1758 h => ?_)))))))
  ·refine Run.skip (.seqO h (fun v1874 => [(0,RO 53 (x1.map encPair)),(4,.sl 0 47 0 v1874.length),(5,VI x1519)]) (fun (v1874 : (List Tl15State)) => [(0,.vec 47 (v1874.map encTl15State))]) (fun h => ?_) (fun v1874 h => ?_))
   ·refine Run.block (.seq (.so hm (.p2 e e ?_)))
    obtain ⟨x1882,hx1882,h⟩ := bindO h
    refine Ops.z 21512 (Ev.iaF e e hx1882) e e (.p2 e e ?_)
    obtain ⟨x1883,hx1883,h⟩ := bindO h
    refine Ops.z 21560 (Ev.ixS e e hx1883) e e (.p e (.nil (.condO e h (fun g1884 h => ?_) (fun g1884 h => ?_))))
    ·exact Run.exit (⟨_,_,(gh_pk [0,4,5] [0] hB e e e e),_,h,e,e⟩)
    ·refine Run.skip (.so hm (.p2 e e ?_))
     obtain ⟨x1894,hx1894,h⟩ := bindO h
     refine Ops.z 25608 (Ev.iaF e e hx1894) e e (.p2 e e ?_)
     obtain ⟨x1895,hx1895,h⟩ := bindO h
     refine Ops.z 25656 (Ev.ssL e e hx1895) e e ?_
     obtain ⟨y1896,hy1896,h⟩ := bindO h
     refine Ops.z 25672 (Ev.call [] [] 0 (sem_spec_ReadDecimal _ _ _ hy1896) e e (.d1 .nil) e (.inl e) e e) e e (.p3 e e e (.p2 e e (.nil (.so hm (.p3 e e e ?_)))))
     obtain ⟨x1903,hx1903,h⟩ := bindO h
     refine Ops.z 29720 (Ev.iaF e e hx1903) e e (.p2 e e ?_)
     obtain ⟨y1904,hy1904,h⟩ := bindO h
     refine Ops.z 29768 (Ev.call [] [] 0 (sem_spec_l15Read _ _ _ _ hy1904) e e (.d2 .nil) e (.inl e) e e) e e (.p3 e e e (.z 29832 (.al e e) e e (.y 29848 (.sto e e e e e e) e e (.p e (.nil (.seq (.so hm (.p3 e e e (.askO (x := .t 48) e h (fun g1909 h => ?_) (fun g1909 h => ?_))))))))))
     ·refine Ops.gn e g1909 (.gn e g1909 (.z 33848 (.pkT e g1909 e) e e (.nil (.condT e e (.so hm (.p3 e e e (.nil (.ret ?_))))))))
      obtain rfl := someO h
      have h := hk1755
      replace h := inlO h
      obtain rfl := someO h
      exact Ends.mkG (.inl e) e (gh_pk [0,1] [0] hB e e e e) e e
     ·refine Ops.gp e g1909 e (.gp e g1909 e (.z 33848 (.pkF e g1909 e) e e (.nil (.condO e h (fun g1910 h => ?_) (fun g1910 h => ?_)))))
      ·refine Run.so hm (.p3 e e e (.nil (.ret ?_)))
       obtain rfl := someO h
       have h := hk1755
       replace h := inlO h
       obtain rfl := someO h
       exact Ends.mkG (.inl e) e (gh_pk [0,1] [0] hB e e e e) e e
      ·refine Run.skip (.so hm (.p3 e e e (.nil (.seqO h (fun v1942 => [(0,RO 53 (x1.map encPair)),(4,.sl 0 47 0 x1520.length),(5,VI x1519),(8,.ptr 1 0),(10,VI v1942)]) (fun (v1942 : Int) => [(0,.vec 47 (x1520.map encTl15State)),(1,.box [VI y1904.1.id,VI y1904.1.seq,VI y1904.1.at',VS y1904.1.reply])]) (fun h => ?_) (fun v1942 h => ?_)))))
       ·refine Run.block ?_
        obtain ⟨res1962,h,hk1962⟩ := bindO h
        refine Run.loop (n := N) (fun m1962 fr σ => ∃ (x1946 : Int),spec_l15Sessions_l2 N x1520 y1896 m1962 x1946 = some res1962 ∧ fr = [(0,RO 53 (x1.map encPair)),(4,.sl 0 47 0 x1520.length),(5,VI x1519),(6,VI y1896.1),(8,.ptr 1 0),(10,VI x1946)] ∧ σ = [(0,.vec 47 (x1520.map encTl15State)),(1,.box [VI y1904.1.id,VI y1904.1.seq,VI y1904.1.at',VS y1904.1.reply])]) (gh_pk [0,4,5,6,8,10] [0,29832] hB e e e e) ⟨_,h,e,e⟩ ?_
        rintro m1962 fr σ ⟨x1946,h,rfl,rfl⟩
        obtain _ | m1962 := m1962
        ·rw [spec_l15Sessions_l2] at h; cases h
        rw [spec_l15Sessions_l2] at h
        refine Run.seq (.so hm (.p3 e e e (.askO (x := .t 57) e h (fun g1971 h => ?_) (fun g1971 h => ?_))))
        ·refine Ops.gp e g1971 e (.gp e g1971 e (.gp e g1971 e ?_))
         obtain ⟨x1972,hx1972,h⟩ := bindO h
         refine Ops.gs (s := 46152) e g1971 (Ev.iaW e e e hx1972) e e (.gp e g1971 e (.gs (s := 46184) e g1971 (Ev.ldE (f := encTl15State) e e (at_some hx1972).2 e e e) e e (.gp e g1971 e (.gp e g1971 e (.z 46232 (.pkT e g1971 e) e e (.nil (.condO e h (fun g1973 h => ?_) (fun g1973 h => ?_))))))))
         ·exact Run.skip (.block (.ops hm (.p3 e e e (.nil (⟨m1962,Nat.lt_succ_self m1962,_,_,(gh_pk [0,4,5,6,8,10] [0,1] hB e e e e),_,h,e,e⟩)))))
         ·refine Run.exit ?_
          obtain rfl := someO h
          have h := hk1962
          exact ⟨_,_,(gh_pk [0,4,5,8,10] [0,1] hB e e e e),_,h,e,e⟩
        ·refine Ops.gn e g1971 (.gn e g1971 (.gn e g1971 (.gn e g1971 (.gn e g1971 (.gn e g1971 (.gn e g1971 (.gn e g1971 (.z 46232 (.pkF e g1971 e) e e (.nil (.condF e e (.exit ?_)))))))))))
         obtain rfl := someO h
         have h := hk1962
         exact ⟨_,_,(gh_pk [0,4,5,8,10] [0,1] hB e e e e),_,h,e,e⟩
       ·refine Run.so hm (.z 54248 (Ev.bsW (ys := ([] : List Tl15State)) (f := encTl15State) e .nil e e e e e) e e (.p2 e e ?_))
        obtain ⟨x1980,hx1980,h⟩ := bindO h
        refine Ops.z 54296 (Ev.slWh (xs := x1520) e e e hx1980) e e ?_
        obtain ⟨x1981,hx1981,h⟩ := bindO h
        refine Ops.z 54312 (Ev.apW (f := encTl15State) (ontoW e e e) (addsP e e (fun _ => e)) e bt47 e hx1981) e e (.p e (.nil (.so hm (.p2 e e (.z 58376 (Ev.bsW (ys := ([y1904.1] : List Tl15State)) (f := encTl15State) e (.d4 .nil) e e e e e) e e ?_)))))
        obtain ⟨x1985,hx1985,h⟩ := bindO h
        refine Ops.z 58392 (Ev.apW (f := encTl15State) (ontoW e e e) (addsW e e e (fun _ => e)) e bt47 e hx1985) e e (.p e (.nil (.ops hm (.p3 e e e ?_))))
        obtain ⟨x1988,hx1988,h⟩ := bindO h
        refine Ops.z 62488 (Ev.slWl (xs := x1520) e e e hx1988) e e ?_
        obtain ⟨x1989,hx1989,h⟩ := bindO h
        exact Ops.z 62504 (Ev.apW (f := encTl15State) (ontoW e e e) (addsP e e (fun _ => e)) e bt47 e hx1989) e e (.p e (.nil (⟨_,_,(gh_pk [0,4,5] [62504] hB e e e e),_,h,e,e⟩)))
   ·exact Run.ops hm (.p3 e e e (.nil (⟨m1755,Nat.lt_succ_self m1755,_,_,(gh_pk [0,4,5] [0] hB e e e e),_,_,h,e,e⟩)))
  ·refine Run.exit ?_
   obtain rfl := someO h
   have h := hk1755
   replace h := inrO h
   exact ⟨_,_,(gh_pk [4] [0] hB e e e e),_,h,e,e⟩
 ·refine Run.so hm (.p3 e e e (.nil (.ret ?_)))
  obtain rfl := someO h
  exact Ends.mkG (.inl e) e (gh_pk [0,1] [0] hB e e e e) e e
def spec_l06At_l1 (N : Nat) (x1 : (List Pair)) (x2 : ByteArray) : Nat → Int → Option ((Int) ⊕ (Unit))
 | 0,_ => none
 | m + 1,x170 =>
 (if (decide (x170 < (x1.length : Int))) = true then
 (at? x1 x170).bind fun x188 =>
 (if (decide (x188.Key = x2)) = true then
 some (Sum.inl x170)
 else
 spec_l06At_l1 N x1 x2 m (w64 (x170 + 1)))
 else
 some (Sum.inr ()))
def spec_l06At_l1_r (N : Nat) (x1 : (List Pair)) (x2 : ByteArray) : (List Pair) → Int → Option ((Int) ⊕ (Unit))
 | [],x170 =>
 some (Sum.inr ())
 | hd :: tl,x170 =>
 (some hd).bind fun x188 =>
 (if (decide (x188.Key = x2)) = true then
 some (Sum.inl x170)
 else
 spec_l06At_l1_r N x1 x2 tl (w64 (x170 + 1)))
theorem spec_l06At_l1_rng (N : Nat) (x1 : (List Pair)) (x2 : ByteArray) (hx : x1.length ≤ 1099511627776) : ∀ (d k m : Nat),x1.length = k + d → d < m → spec_l06At_l1 N x1 x2 m (k : Int) = spec_l06At_l1_r N x1 x2 (x1.drop k) (k : Int) := by
 intro d
 induction d with
 | zero =>
  intro k m hd hm
  obtain ⟨m,rfl⟩ : ∃ q,m = q + 1 := ⟨m - 1,by omega⟩
  rw [spec_l06At_l1,if_neg (by simp; omega),List.drop_eq_nil_of_le (by omega),spec_l06At_l1_r]
 | succ d ih =>
  intro k m hd hm
  obtain ⟨m,rfl⟩ : ∃ q,m = q + 1 := ⟨m - 1,by omega⟩
  have hk : k < x1.length := by omega
  rw [spec_l06At_l1,if_pos (by simp; omega),List.drop_eq_getElem_cons hk,spec_l06At_l1_r]
  have h1 := at_lt hk
  have h2 := w64_succ (k := k) (by omega)
  have h3 := ih (k + 1) m
  simp only [h1,h2,h3 (by omega) (by omega)]
theorem spec_l06At_l1_eq {N : Nat} (x1 : (List Pair)) (x2 : ByteArray) (hx : x1.length ≤ 1099511627776) (hN : x1.length < N) : spec_l06At_l1 N x1 x2 N 0 = spec_l06At_l1_r N x1 x2 x1 0 := spec_l06At_l1_rng N x1 x2 hx x1.length 0 N (by omega) hN
def spec_l06At (N : Nat) (x1 : (List Pair)) (x2 : ByteArray) : Option (Int) :=
 joinP (fun (v167 : Unit) =>
 some (-1 : Int)) fun j167 =>
 (spec_l06At_l1 N x1 x2 N 0).bind (Sum.elim (fun v179 => some v179) (fun (v180 : Unit) => j167 ()))
theorem sem_spec_l06At (N : Nat) (x1 : (List Pair)) (x2 : ByteArray) (r : Int) (h : spec_l06At N x1 x2 = some r) : Says Tryz.prog 37 [RO 53 (x1.map encPair),VS x2] 0 [] (VI r) [] := by
 unfold spec_l06At at h
 refine Says.of_norm e Tryz.call37 e fun B hB => ?_
 have hm : B.m ≤ 1000 := by omega
 refine Run.so hm (.p e (.nil (.seqO h (fun v167 => []) (fun (v167 : Unit) => []) (fun h => ?_) (fun v167 h => ?_))))
 ·refine Run.so hm (.p e (.nil (.block ?_)))
  obtain ⟨res180,h,hk180⟩ := bindO h
  refine Run.loop (n := N) (fun m180 fr σ => ∃ (x170 : Int),spec_l06At_l1 N x1 x2 m180 x170 = some res180 ∧ fr = [(0,RO 53 (x1.map encPair)),(1,VS x2),(5,VI x170)] ∧ σ = []) (gh_pk [0,1,5] [] hB e e e e) ⟨_,h,e,e⟩ ?_
  rintro m180 fr σ ⟨x170,h,rfl,rfl⟩
  obtain _ | m180 := m180
  ·rw [spec_l06At_l1] at h; cases h
  rw [spec_l06At_l1] at h
  refine Run.seq (.so hm (.p2 e e (.z 9224 (Ev.lnF e) e e (.p e (.nil (.condO e h (fun g183 h => ?_) (fun g183 h => ?_)))))))
  ·refine Run.skip (.seq (.block (.so hm (.p2 e e ?_))))
   obtain ⟨x188,hx188,h⟩ := bindO h
   refine Ops.z 17416 (Ev.iaF e e hx188) e e (.p3 e e e (.p e (.nil (.condO e h (fun g189 h => ?_) (fun g189 h => ?_)))))
   ·refine Run.so hm (.p2 e e (.nil (.ret ?_)))
    obtain rfl := someO h
    have h := hk180
    replace h := inlO h
    obtain rfl := someO h
    exact Ends.mkG (.inl e) e (gh_pk [0] [] hB e e e e) e e
   ·exact Run.skip (.ops hm (.p3 e e e (.nil (⟨m180,Nat.lt_succ_self m180,_,_,(gh_pk [0,1,5] [] hB e e e e),_,h,e,e⟩))))
  ·refine Run.exit ?_
   obtain rfl := someO h
   have h := hk180
   replace h := inrO h
   exact ⟨_,_,(gh_pk [] [] hB e e e e),(),h,e,e⟩
 ·refine Run.so hm (.p e (.nil (.ret ?_)))
  obtain rfl := someO h
  exact Ends.mkG (.inl e) e (gh_pk [0] [] hB e e e e) e e
def spec_l06Get (N : Nat) (x1 : (List Pair)) (x2 : ByteArray) : Option (ByteArray) :=
 (spec_l06At N x1 x2).bind fun y111 =>
 (if (decide (y111 < 0)) = true then
 some (⟨#[]⟩ : ByteArray)
 else
 (at? x1 y111).bind fun x115 =>
 some x115.Value)
theorem sem_spec_l06Get (N : Nat) (x1 : (List Pair)) (x2 : ByteArray) (r : ByteArray) (h : spec_l06Get N x1 x2 = some r) : Says Tryz.prog 38 [RO 53 (x1.map encPair),VS x2] 0 [] (VS r) [] := by
 unfold spec_l06Get at h
 refine Says.of_norm e Tryz.call38 e fun B hB => ?_
 have hm : B.m ≤ 1000 := by omega
 refine Run.so hm (.p e (.nil (.so hm (.p2 e e ?_))))
 obtain ⟨y111,hy111,h⟩ := bindO h
 refine Ops.z 5128 (Ev.call [] [] 0 (sem_spec_l06At _ _ _ _ hy111) e e (.d2 .nil) e (.inl e) e e) e e (.p e (.nil (.seq (.so hm (.p2 e e (.nil (.condO e h (fun g113 h => ?_) (fun g113 h => ?_))))))))
 ·refine Run.so hm (.p e (.nil (.ret ?_)))
  obtain rfl := someO h
  exact Ends.mkG (.inl e) e (gh_pk [0] [] hB e e e e) e e
 ·refine Run.skip (.so hm (.p2 e e ?_))
  obtain ⟨x115,hx115,h⟩ := bindO h
  refine Ops.z 17416 (Ev.iaF e e hx115) e e (.p3 e e e (.nil (.ret ?_)))
  obtain rfl := someO h
  exact Ends.mkG (.inl e) e (gh_pk [0] [] hB e e e e) e e
def spec_l15Next (N : Nat) (x1 : (List Pair)) : Option (Int × Bool) :=
 (spec_l06At N x1 (⟨#[110]⟩ : ByteArray)).bind fun y114 =>
 (if (decide (y114 < 0)) = true then
 some (1,true)
 else
 (spec_l06Get N x1 (⟨#[110]⟩ : ByteArray)).bind fun y118 =>
 (spec_ReadDecimal N y118).bind fun y119 =>
 some (y119.1,y119.2))
theorem sem_spec_l15Next (N : Nat) (x1 : (List Pair)) (r : Int × Bool) (h : spec_l15Next N x1 = some r) : Says Tryz.prog 34 [RO 53 (x1.map encPair)] 0 [] (.tup [VI r.1,VB r.2]) [] := by
 unfold spec_l15Next at h
 refine Says.of_norm e Tryz.call34 e fun B hB => ?_
 have hm : B.m ≤ 1000 := by omega
 refine Run.so hm (.p2 e e (.nil (.seq (.so hm (.p e ?_)))))
 obtain ⟨y114,hy114,h⟩ := bindO h
 refine Ops.z 5112 (Ev.call [] [] 0 (sem_spec_l06At _ _ _ _ hy114) e e (.d2 .nil) e (.inl e) e e) e e (.p e (.nil (.condO e h (fun g115 h => ?_) (fun g115 h => ?_))))
 ·refine Run.so hm (.p2 e e (.nil (.ret ?_)))
  obtain rfl := someO h
  exact Ends.mkG (.inl e) e (gh_pk [0,1] [] hB e e e e) e e
 ·refine Run.skip (.so hm (.p e ?_))
  obtain ⟨y118,hy118,h⟩ := bindO h
  refine Ops.z 13304 (Ev.call [] [] 0 (sem_spec_l06Get _ _ _ _ hy118) e e (.d2 .nil) e (.inl e) e e) e e ?_
  obtain ⟨y119,hy119,h⟩ := bindO h
  refine Ops.z 13320 (Ev.call [] [] 0 (sem_spec_ReadDecimal _ _ _ hy119) e e (.d1 .nil) e (.inl e) e e) e e (.p3 e e e (.p e (.nil (.ret ?_))))
  obtain rfl := someO h
  exact Ends.mkG (.inl e) e (gh_pk [0,1] [] hB e e e e) e e
def spec_l15Key (N : Nat) (x1 : Int) : Option (ByteArray) :=
 (spec_Decimal N x1).bind fun y106 =>
 (scat? (⟨#[115]⟩ : ByteArray) y106).bind fun x107 =>
 some x107
theorem sem_spec_l15Key (N : Nat) (x1 : Int) (r : ByteArray) (h : spec_l15Key N x1 = some r) : Says Tryz.prog 21 [VI x1] 0 [] (VS r) [] := by
 unfold spec_l15Key at h
 refine Says.of_norm e Tryz.call21 e fun B hB => ?_
 have hm : B.m ≤ 1000 := by omega
 refine Run.so hm (.p e (.nil (.so hm (.p e ?_))))
 obtain ⟨y106,hy106,h⟩ := bindO h
 refine Ops.z 5112 (Ev.call [] [] 0 (sem_spec_Decimal _ _ _ hy106) e e (.d1 .nil) e (.inl e) e e) e e ?_
 obtain ⟨x107,hx107,h⟩ := bindO h
 refine Ops.z 5128 (Ev.addS e e hx107) e e (.p e (.nil (.ret ?_)))
 obtain rfl := someO h
 exact Ends.mkG (.inl e) e (gh_pk [0] [] hB e e e e) e e
def spec_l06Cut_l1 (N : Nat) (x1 : (List Pair)) (x2 : ByteArray) : Nat → Int → (List Pair) → Option ((List Pair))
 | 0,_,_ => none
 | m + 1,x224,x225 =>
 (if (decide (x224 < (x1.length : Int))) = true then
 joinP (fun (v254 : (List Pair)) =>
 spec_l06Cut_l1 N x1 x2 m (w64 (x224 + 1)) v254) fun j254 =>
 (at? x1 x224).bind fun x256 =>
 (if (!decide (x256.Key = x2)) = true then
 (at? x1 x224).bind fun x260 =>
 (cat? x225 ([x260] : List Pair)).bind fun x261 =>
 j254 x261
 else
 j254 x225)
 else
 some x225)
def spec_l06Cut_l1_r (N : Nat) (x1 : (List Pair)) (x2 : ByteArray) : (List Pair) → Int → (List Pair) → Option ((List Pair))
 | [],x224,x225 =>
 some x225
 | hd :: tl,x224,x225 =>
 joinP (fun (v254 : (List Pair)) =>
 spec_l06Cut_l1_r N x1 x2 tl (w64 (x224 + 1)) v254) fun j254 =>
 (some hd).bind fun x256 =>
 (if (!decide (x256.Key = x2)) = true then
 (some hd).bind fun x260 =>
 (cat? x225 ([x260] : List Pair)).bind fun x261 =>
 j254 x261
 else
 j254 x225)
theorem spec_l06Cut_l1_rng (N : Nat) (x1 : (List Pair)) (x2 : ByteArray) (hx : x1.length ≤ 1099511627776) : ∀ (d k m : Nat) (x225 : (List Pair)),x1.length = k + d → d < m → spec_l06Cut_l1 N x1 x2 m (k : Int) x225 = spec_l06Cut_l1_r N x1 x2 (x1.drop k) (k : Int) x225 := by
 intro d
 induction d with
 | zero =>
  intro k m x225 hd hm
  obtain ⟨m,rfl⟩ : ∃ q,m = q + 1 := ⟨m - 1,by omega⟩
  rw [spec_l06Cut_l1,if_neg (by simp; omega),List.drop_eq_nil_of_le (by omega),spec_l06Cut_l1_r]
 | succ d ih =>
  intro k m x225 hd hm
  obtain ⟨m,rfl⟩ : ∃ q,m = q + 1 := ⟨m - 1,by omega⟩
  have hk : k < x1.length := by omega
  rw [spec_l06Cut_l1,if_pos (by simp; omega),List.drop_eq_getElem_cons hk,spec_l06Cut_l1_r]
  have h1 := at_lt hk
  have h2 := w64_succ (k := k) (by omega)
  have h3 := ih (k + 1) m
  simp only [h1,h2,h3 _ (by omega) (by omega)]
theorem spec_l06Cut_l1_eq {N : Nat} (x1 : (List Pair)) (x2 : ByteArray) (hx : x1.length ≤ 1099511627776) (hN : x1.length < N) (x225 : (List Pair)) : spec_l06Cut_l1 N x1 x2 N 0 x225 = spec_l06Cut_l1_r N x1 x2 x1 0 x225 := spec_l06Cut_l1_rng N x1 x2 hx x1.length 0 N x225 (by omega) hN
def spec_l06Cut (N : Nat) (x1 : (List Pair)) (x2 : ByteArray) : Option ((List Pair)) :=
 joinP (fun (v221 : (List Pair)) =>
 some v221) fun j221 =>
 (spec_l06Cut_l1 N x1 x2 N 0 ([] : List Pair)).bind (fun v243 => j221 v243)
theorem sem_spec_l06Cut (N : Nat) (x1 : (List Pair)) (x2 : ByteArray) (r : (List Pair)) (h : spec_l06Cut N x1 x2 = some r) : Says Tryz.prog 35 [RO 53 (x1.map encPair),VS x2] 0 [] (.sl 0 53 0 r.length) [(0,.vec 53 (r.map encPair))] := by
 unfold spec_l06Cut at h
 refine Says.of_norm e Tryz.call35 e fun B hB => ?_
 have hm : B.m ≤ 1000 := by omega
 refine Run.so hm (.p e (.nil (.so hm (.z 5096 (Ev.bsW (ys := ([] : List Pair)) (f := encPair) e .nil e e e e e) e e (.p e (.nil (.seqO h (fun v221 => [(5,.sl 0 53 0 v221.length)]) (fun (v221 : (List Pair)) => [(0,.vec 53 (v221.map encPair))]) (fun h => ?_) (fun v221 h => ?_))))))))
 ·refine Run.so hm (.p e (.nil (.block ?_)))
  obtain ⟨res243,h,hk243⟩ := bindO h
  refine Run.loop (n := N) (fun m243 fr σ => ∃ (x224 : Int),∃ (x225 : (List Pair)),spec_l06Cut_l1 N x1 x2 m243 x224 x225 = some res243 ∧ fr = [(0,RO 53 (x1.map encPair)),(1,VS x2),(5,.sl 0 53 0 x225.length),(6,VI x224)] ∧ σ = [(0,.vec 53 (x225.map encPair))]) (gh_pk [0,1,5,6] [5096] hB e e e e) ⟨_,_,h,e,e⟩ ?_
  rintro m243 fr σ ⟨x224,x225,h,rfl,rfl⟩
  obtain _ | m243 := m243
  ·rw [spec_l06Cut_l1] at h; cases h
  rw [spec_l06Cut_l1] at h
  refine Run.seq (.so hm (.p2 e e (.z 13320 (Ev.lnF e) e e (.p e (.nil (.condO e h (fun g246 h => ?_) (fun g246 h => ?_)))))))
  ·refine Run.skip (.seqO h (fun v254 => [(0,RO 53 (x1.map encPair)),(1,VS x2),(5,.sl 0 53 0 v254.length),(6,VI x224)]) (fun (v254 : (List Pair)) => [(0,.vec 53 (v254.map encPair))]) (fun h => ?_) (fun v254 h => ?_))
   ·refine Run.block (.so hm (.p2 e e ?_))
    obtain ⟨x256,hx256,h⟩ := bindO h
    refine Ops.z 21512 (Ev.iaF e e hx256) e e (.p3 e e e (.p e (.nil (.condO e h (fun g257 h => ?_) (fun g257 h => ?_)))))
    ·refine Run.ops hm (.p3 e e e ?_)
     obtain ⟨x260,hx260,h⟩ := bindO h
     refine Ops.z 25624 (Ev.iaF e e hx260) e e (.p e (.z 25656 (Ev.bsW (ys := ([x260] : List Pair)) (f := encPair) e (.d2 .nil) e e e e e) e e ?_))
     obtain ⟨x261,hx261,h⟩ := bindO h
     exact Ops.z 25672 (Ev.apW (f := encPair) (ontoW e e e) (addsW e e e (fun _ => e)) e bt53 e hx261) e e (.p e (.nil (⟨_,_,(gh_pk [0,1,5,6] [25672] hB e e e e),_,h,e,e⟩)))
    ·exact Run.skip (⟨_,_,(gh_pk [0,1,5,6] [0] hB e e e e),_,h,e,e⟩)
   ·exact Run.ops hm (.p3 e e e (.nil (⟨m243,Nat.lt_succ_self m243,_,_,(gh_pk [0,1,5,6] [0] hB e e e e),_,_,h,e,e⟩)))
  ·refine Run.exit ?_
   obtain rfl := someO h
   have h := hk243
   exact ⟨_,_,(gh_pk [5] [0] hB e e e e),_,h,e,e⟩
 ·refine Run.so hm (.p2 e e (.nil (.ret ?_)))
  obtain rfl := someO h
  exact Ends.mkG (.inl e) e (gh_pk [0] [0] hB e e e e) e e
end Go.Proofs.YtpdfllincphabaaGreatDoor.Pe.FnExactAct
