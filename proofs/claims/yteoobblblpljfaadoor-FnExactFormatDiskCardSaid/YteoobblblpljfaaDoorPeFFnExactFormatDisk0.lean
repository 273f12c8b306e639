/- Functions,as pure functions; and that Go does just that. -/
import Derived.Test.YteoobblblpljfaaDoorPeTy
import Derived.Test.YteoobblblpljfaaDoorPeNorm
import Derived.Test.YteoobblblpljfaaDoorPeSpec
import Derived.Test.YteoobblblpljfaaDoorShelf
import Derived.Test.YteoobblblpljfaaDoorPeIns34
import Derived.Test.YteoobblblpljfaaDoorPeSFnExactFormatDisk
namespace Go.Proofs.YteoobblblpljfaaDoor.Pe.FnExactFormatDisk
open Go Go.RowKit
set_option linter.unusedVariables false
set_option linter.unusedSimpArgs false
set_option maxHeartbeats 40000000
set_option maxRecDepth 100000
theorem hmix : Tryd.prog.follows .mixedOrders = true := by kernel_rfl
structure Manifest where
 Segs : (List Int)
 Next : Int
 Base : Int
 BaseTerm : Int
 Conf : (List Int)
abbrev encManifest (o : Bool) (x : Manifest) : List C := [.row o 3 (x.Segs.map encI),.i .i64 x.Next,.i .i64 x.Base,.i .i64 x.BaseTerm,.row o 3 (x.Conf.map encI)]
theorem ro_encManifest (x : Manifest) : roCs (encManifest true x) = encManifest false x := by simp only [encManifest,roCs,roC,roRows_mapf (fun _ => rfl),roRows_mapf (fun _ => rfl)]
theorem ro2_encManifest (x : Manifest) : roCs (encManifest false x) = encManifest false x := by simp only [encManifest,roCs,roC,roRows_mapf (fun _ => rfl),roRows_mapf (fun _ => rfl)]
theorem own_encManifest (x : Manifest) : ownCs (encManifest true x) = true := by simp only [encManifest,ownCs,ownC,Bool.and_self,Bool.and_true,Bool.true_and,own_rows (f := encI) (fun _ => rfl),own_rows (f := encI) (fun _ => rfl)]
structure File where
 Name : ByteArray
 Text : ByteArray
abbrev encFile (x : File) : List C := [.s x.Name,.s x.Text]
structure Disk where
 Files : (List File)
abbrev encDisk (o : Bool) (x : Disk) : List C := [.row o 41 (x.Files.map encFile)]
theorem ro_encDisk (x : Disk) : roCs (encDisk true x) = encDisk false x := by simp only [encDisk,roCs,roC,roRows_mapf (fun _ => rfl)]
theorem ro2_encDisk (x : Disk) : roCs (encDisk false x) = encDisk false x := by simp only [encDisk,roCs,roC,roRows_mapf (fun _ => rfl)]
theorem own_encDisk (x : Disk) : ownCs (encDisk true x) = true := by simp only [encDisk,ownCs,ownC,Bool.and_self,Bool.and_true,Bool.true_and,own_rows (f := encFile) (fun _ => rfl)]
structure Entry where
 Term : Int
 Kind : Int
 Data : ByteArray
abbrev encEntry (x : Entry) : List C := [.i .i64 x.Term,.i .i64 x.Kind,.s x.Data]
structure Log where
 Start : Int
 StartTerm : Int
 Entries : (List Entry)
abbrev encLog (o : Bool) (x : Log) : List C := [.i .i64 x.Start,.i .i64 x.StartTerm,.row o 64 (x.Entries.map encEntry)]
theorem ro_encLog (x : Log) : roCs (encLog true x) = encLog false x := by simp only [encLog,roCs,roC,roRows_mapf (fun _ => rfl)]
theorem ro2_encLog (x : Log) : roCs (encLog false x) = encLog false x := by simp only [encLog,roCs,roC,roRows_mapf (fun _ => rfl)]
theorem own_encLog (x : Log) : ownCs (encLog true x) = true := by simp only [encLog,ownCs,ownC,Bool.and_self,Bool.and_true,Bool.true_and,own_rows (f := encEntry) (fun _ => rfl)]
theorem bt3 : bytesOf Tryd.prog 3 ≤ 2048 := of_decide_eq_true (by kernel_rfl)
theorem bt5 : bytesOf Tryd.prog 5 ≤ 2048 := of_decide_eq_true (by kernel_rfl)
theorem bt41 : bytesOf Tryd.prog 41 ≤ 2048 := of_decide_eq_true (by kernel_rfl)
def laws_toIntS_l1 (N : Nat) (x1 : (List Int)) : Nat → Int → (List Int) → Option ((List Int))
 | 0,_,_ => none
 | m + 1,x186,x187 =>
 (if (decide (x186 < (x1.length : Int))) = true then
 (at? x1 x186).bind fun x208 =>
 (at? x187 x186).bind fun x209 =>
 laws_toIntS_l1 N x1 m (w64 (x186 + 1)) (x187.set x186.toNat x208)
 else
 some x187)
def laws_toIntS_l1_r (N : Nat) (x1 : (List Int)) : (List Int) → Int → (List Int) → Option ((List Int))
 | [],x186,x187 =>
 some x187
 | hd :: tl,x186,x187 =>
 (some hd).bind fun x208 =>
 (at? x187 x186).bind fun x209 =>
 laws_toIntS_l1_r N x1 tl (w64 (x186 + 1)) (x187.set x186.toNat x208)
theorem laws_toIntS_l1_rng (N : Nat) (x1 : (List Int)) (hx : x1.length ≤ 1099511627776) : ∀ (d k m : Nat) (x187 : (List Int)),x1.length = k + d → d < m → laws_toIntS_l1 N x1 m (k : Int) x187 = laws_toIntS_l1_r N x1 (x1.drop k) (k : Int) x187 := by
 intro d
 induction d with
 | zero =>
  intro k m x187 hd hm
  obtain ⟨m,rfl⟩ : ∃ q,m = q + 1 := ⟨m - 1,by omega⟩
  rw [laws_toIntS_l1,if_neg (by simp; omega),List.drop_eq_nil_of_le (by omega),laws_toIntS_l1_r]
 | succ d ih =>
  intro k m x187 hd hm
  obtain ⟨m,rfl⟩ : ∃ q,m = q + 1 := ⟨m - 1,by omega⟩
  have hk : k < x1.length := by omega
  rw [laws_toIntS_l1,if_pos (by simp; omega),List.drop_eq_getElem_cons hk,laws_toIntS_l1_r]
  have h1 := at_lt hk
  have h2 := w64_succ (k := k) (by omega)
  have h3 := ih (k + 1) m
  simp only [h1,h2,h3 _ (by omega) (by omega)]
theorem laws_toIntS_l1_eq {N : Nat} (x1 : (List Int)) (hx : x1.length ≤ 1099511627776) (hN : x1.length < N) (x187 : (List Int)) : laws_toIntS_l1 N x1 N 0 x187 = laws_toIntS_l1_r N x1 x1 0 x187 := laws_toIntS_l1_rng N x1 hx x1.length 0 N x187 (by omega) hN
def laws_toIntS (N : Nat) (x1 : (List Int)) : Option ((List Int)) :=
 (mk? 0 (x1.length : Int)).bind fun x158 =>
 joinP (fun (v184 : (List Int)) =>
 some v184) fun j184 =>
 (laws_toIntS_l1 N x1 N 0 x158).bind (fun v198 => j184 v198)
theorem sem_laws_toIntS (N : Nat) (x1 : (List Int)) (r : (List Int)) (h : laws_toIntS N x1 = some r) : Says Tryd.prog 5 [RO 3 (x1.map encI)] 0 [] (.sl 0 3 0 r.length) [(0,.vec 3 (r.map encI))] := by
 unfold laws_toIntS at h
 refine Says.of_norm e Tryd.call5 e fun B hB => ?_
 have hm : B.m ≤ 1000 := by omega
 refine Run.so hm (.p e (.nil (.so hm (.p e (.z 5112 (Ev.lnF e) e e ?_)))))
 obtain ⟨x158,hx158,h⟩ := bindO h
 refine Ops.z 5128 (Ev.msW (f := encI) (zv := 0) e e e bt3 e hx158) e e (.p e (.nil (.seqO h (fun v184 => [(3,.sl 0 3 0 v184.length)]) (fun (v184 : (List Int)) => [(0,.vec 3 (v184.map encI))]) (fun h => ?_) (fun v184 h => ?_))))
 ·refine Run.so hm (.p e (.nil (.block ?_)))
  obtain ⟨res198,h,hk198⟩ := bindO h
  refine Run.loop (n := N) (fun m198 fr σ => ∃ (x186 : Int),∃ (x187 : (List Int)),laws_toIntS_l1 N x1 m198 x186 x187 = some res198 ∧ fr = [(0,RO 3 (x1.map encI)),(3,.sl 0 3 0 x187.length),(4,VI x186)] ∧ σ = [(0,.vec 3 (x187.map encI))]) (gh_pk [0,3,4] [5128] hB e e e e) ⟨_,_,h,e,e⟩ ?_
  rintro m198 fr σ ⟨x186,x187,h,rfl,rfl⟩
  obtain _ | m198 := m198
  ·rw [laws_toIntS_l1] at h; cases h
  rw [laws_toIntS_l1] at h
  refine Run.seq (.so hm (.p2 e e (.z 13320 (Ev.lnF e) e e (.p e (.nil (.condO e h (fun g201 h => ?_) (fun g201 h => ?_)))))))
  ·refine Run.skip (.seq (.block (.ops hm (.p3 e e e (.p e ?_)))))
   obtain ⟨x208,hx208,h⟩ := bindO h
   refine Ops.z 21544 (Ev.iaF e e hx208) e e (.p e ?_)
   obtain ⟨x209,hx209,h⟩ := bindO h
   exact Ops.z 21576 (Ev.iaW e e e hx209) e e (.y 21592 (Ev.stE (f := encI) (v' := x208) e e (at_some hx209).2 e (.d1 .nil) e e e e e) e e (.nil (.ops hm (.p3 e e e (.nil (⟨m198,Nat.lt_succ_self m198,_,_,(gh_pk [0,3,4] [0] hB e e (by first | rfl | (simp only [List.length_set]; done) | (simp only [List.length_set]; rfl)) (by first | rfl | (simp only [List.length_set]; done) | (simp only [List.length_set]; rfl))),_,_,h,e,e⟩))))))
  ·refine Run.exit ?_
   obtain rfl := someO h
   have h := hk198
   exact ⟨_,_,(gh_pk [3] [0] hB e e e e),_,h,e,e⟩
 ·refine Run.so hm (.p2 e e (.nil (.ret ?_)))
  obtain rfl := someO h
  exact Ends.mkG (.inl e) e (gh_pk [0] [0] hB e e e e) e e
def spec_l01In (N : Nat) (x1 : Int) (x2 : Int) (x3 : Int) : Option (Bool) :=
 (if (decide (x1 ≥ x2)) = true then
 some (decide (x1 ≤ x3))
 else
 some false)
theorem sem_spec_l01In (N : Nat) (x1 : Int) (x2 : Int) (x3 : Int) (r : Bool) (h : spec_l01In N x1 x2 x3 = some r) : Says Tryd.prog 40 [VI x1,VI x2,VI x3] 0 [] (VB r) [] := by
 unfold spec_l01In at h
 refine Says.of_norm e Tryd.call40 e fun B hB => ?_
 have hm : B.m ≤ 1000 := by omega
 refine Run.so hm (.p e (.nil (.so hm (.p3 e e e (.p e (.askO (x := .t 10) e h (fun g103 h => ?_) (fun g103 h => ?_)))))))
 ·refine Ops.gp e g103 e (.gp e g103 e (.gp e g103 e (.z 5208 (.pkT e g103 e) e e (.p e (.nil (.ret ?_))))))
  obtain rfl := someO h
  exact Ends.mkG (.inl e) e (gh_pk [0] [] hB e e e e) e e
 ·refine Ops.gn e g103 (.gn e g103 (.gn e g103 (.z 5208 (.pkF e g103 e) e e (.p e (.nil (.ret ?_))))))
  obtain rfl := someO h
  exact Ends.mkG (.inl e) e (gh_pk [0] [] hB e e e e) e e
def spec_l07Rise_l1 (N : Nat) (x1 : (List Int)) (x2 : Int) (x3 : Int) : Nat → Int → Option ((Bool) ⊕ (Unit))
 | 0,_ => none
 | m + 1,x300 =>
 (if (decide (x300 < (x1.length : Int))) = true then
 joinP (fun (v348 : Unit) =>
 spec_l07Rise_l1 N x1 x2 x3 m (w64 (x300 + 1))) fun j348 =>
 (at? x1 x300).bind fun x355 =>
 (spec_l01In N x355 x2 x3).bind fun y356 =>
 (if (!y356) = true then
 some (Sum.inl false)
 else
 (if (decide (x300 > 0)) = true then
 (at? x1 (w64 (x300 - 1))).bind fun x359 =>
 (at? x1 x300).bind fun x360 =>
 (if (decide (x359 ≥ x360)) = true then
 some (Sum.inl false)
 else
 j348 ())
 else
 j348 ()))
 else
 some (Sum.inr ()))
def spec_l07Rise_l1_r (N : Nat) (x1 : (List Int)) (x2 : Int) (x3 : Int) : (List Int) → Int → Option ((Bool) ⊕ (Unit))
 | [],x300 =>
 some (Sum.inr ())
 | hd :: tl,x300 =>
 joinP (fun (v348 : Unit) =>
 spec_l07Rise_l1_r N x1 x2 x3 tl (w64 (x300 + 1))) fun j348 =>
 (some hd).bind fun x355 =>
 (spec_l01In N x355 x2 x3).bind fun y356 =>
 (if (!y356) = true then
 some (Sum.inl false)
 else
 (if (decide (x300 > 0)) = true then
 (at? x1 (w64 (x300 - 1))).bind fun x359 =>
 (some hd).bind fun x360 =>
 (if (decide (x359 ≥ x360)) = true then
 some (Sum.inl false)
 else
 j348 ())
 else
 j348 ()))
theorem spec_l07Rise_l1_rng (N : Nat) (x1 : (List Int)) (x2 : Int) (x3 : Int) (hx : x1.length ≤ 1099511627776) : ∀ (d k m : Nat),x1.length = k + d → d < m → spec_l07Rise_l1 N x1 x2 x3 m (k : Int) = spec_l07Rise_l1_r N x1 x2 x3 (x1.drop k) (k : Int) := by
 intro d
 induction d with
 | zero =>
  intro k m hd hm
  obtain ⟨m,rfl⟩ : ∃ q,m = q + 1 := ⟨m - 1,by omega⟩
  rw [spec_l07Rise_l1,if_neg (by simp; omega),List.drop_eq_nil_of_le (by omega),spec_l07Rise_l1_r]
 | succ d ih =>
  intro k m hd hm
  obtain ⟨m,rfl⟩ : ∃ q,m = q + 1 := ⟨m - 1,by omega⟩
  have hk : k < x1.length := by omega
  rw [spec_l07Rise_l1,if_pos (by simp; omega),List.drop_eq_getElem_cons hk,spec_l07Rise_l1_r]
  have h1 := at_lt hk
  have h2 := w64_succ (k := k) (by omega)
  have h3 := ih (k + 1) m
  simp only [h1,h2,h3 (by omega) (by omega)]
theorem spec_l07Rise_l1_eq {N : Nat} (x1 : (List Int)) (x2 : Int) (x3 : Int) (hx : x1.length ≤ 1099511627776) (hN : x1.length < N) : spec_l07Rise_l1 N x1 x2 x3 N 0 = spec_l07Rise_l1_r N x1 x2 x3 x1 0 := spec_l07Rise_l1_rng N x1 x2 x3 hx x1.length 0 N (by omega) hN
def spec_l07Rise (N : Nat) (x1 : (List Int)) (x2 : Int) (x3 : Int) : Option (Bool) :=
 joinP (fun (v296 : Unit) =>
 some true) fun j296 =>
 (spec_l07Rise_l1 N x1 x2 x3 N 0).bind (Sum.elim (fun v330 => some v330) (fun (v331 : Unit) => j296 ()))
theorem sem_spec_l07Rise (N : Nat) (x1 : (List Int)) (x2 : Int) (x3 : Int) (r : Bool) (h : spec_l07Rise N x1 x2 x3 = some r) : Says Tryd.prog 59 [RO 3 (x1.map encI),VI x2,VI x3] 0 [] (VB r) [] := by
 unfold spec_l07Rise at h
 refine Says.of_norm e Tryd.call59 e fun B hB => ?_
 have hm : B.m ≤ 1000 := by omega
 refine Run.so hm (.p e (.nil (.seqO h (fun v296 => []) (fun (v296 : Unit) => []) (fun h => ?_) (fun v296 h => ?_))))
 ·refine Run.so hm (.p e (.nil (.block ?_)))
  obtain ⟨res331,h,hk331⟩ := bindO h
  refine Run.loop (n := N) (fun m331 fr σ => ∃ (x300 : Int),spec_l07Rise_l1 N x1 x2 x3 m331 x300 = some res331 ∧ fr = [(0,RO 3 (x1.map encI)),(1,VI x2),(2,VI x3),(7,VI x300)] ∧ σ = []) (gh_pk [0,1,2,7] [] hB e e e e) ⟨_,h,e,e⟩ ?_
  rintro m331 fr σ ⟨x300,h,rfl,rfl⟩
  obtain _ | m331 := m331
  ·rw [spec_l07Rise_l1] at h; cases h
  rw [spec_l07Rise_l1] at h
  refine Run.seq (.so hm (.p2 e e (.z 9224 (Ev.lnF e) e e (.p e (.nil (.condO e h (fun g334 h => ?_) (fun g334 h => ?_)))))))
  ·refine Run.skip (.seqO h (fun v348 => [(0,RO 3 (x1.map encI)),(1,VI x2),(2,VI x3),(7,VI x300)]) (fun (v348 : Unit) => []) (fun h => ?_) (fun v348 h => ?_))
   ·refine Run.block (.seq (.draw hm hmix (.p e (.p e ?_))))
    obtain ⟨x355,hx355,h⟩ := bindO h
    refine OpsD.z 17416 (Ev.iaF e e hx355) e e (.p e (.p e (.p e ?_)))
    obtain ⟨y356,hy356,h⟩ := bindO h
    refine OpsD.z 17480 (Ev.call [] [] 0 (sem_spec_l01In _ _ _ _ _ hy356) e e (.d2 (.d1 .nil)) e (.inl e) e e) e e (.p e (.p e (.askO (x := .t 22) e h (fun g357 h => ?_) (fun g357 h => ?_))))
    ·refine OpsD.gn e g357 (.gn e g357 (.gn e g357 (.gu e (.gu e (.gu e (.gu e (.gu e (.gu e (.gu e (.gu e (.gu e (.gu e (.gn e g357 (.z 17752 (.pkT e g357 e) e e (.nil ⟨by kernel_rfl,?_⟩)))))))))))))))
     refine Run.condT e e (.so hm (.p e (.nil (.ret ?_))))
     obtain rfl := someO h
     have h := hk331
     replace h := inlO h
     obtain rfl := someO h
     exact Ends.mkG (.inl e) e (gh_pk [0] [] hB e e e e) e e
    ·refine OpsD.gp e g357 e (.gp e g357 e (.gp e g357 e (.askO (x := .t 25) e h (fun g358 h => ?_) (fun g358 h => ?_))))
     ·refine OpsD.gp e g358 e (.gp e g358 e (.gp e g358 e ?_))
      obtain ⟨x359,hx359,h⟩ := bindO h
      refine OpsD.gs (s := 17624) e g358 (Ev.iaF e e hx359) e e (.gp e g358 e (.gp e g358 e (.gp e g358 e ?_)))
      obtain ⟨x360,hx360,h⟩ := bindO h
      refine OpsD.gs (s := 17688) e g358 (Ev.iaF e e hx360) e e (.gp e g358 e (.gp e g358 e (.gs (s := 17736) e g357 (.pkT e g358 e) e e (.z 17752 (.pkF e g357 e) e e (.nil ⟨by kernel_rfl,?_⟩)))))
      refine Run.condO e h (fun g361 h => ?_) (fun g361 h => ?_)
      ·refine Run.so hm (.p e (.nil (.ret ?_)))
       obtain rfl := someO h
       have h := hk331
       replace h := inlO h
       obtain rfl := someO h
       exact Ends.mkG (.inl e) e (gh_pk [0] [] hB e e e e) e e
      ·exact Run.skip (⟨_,_,(gh_pk [0,1,2,7] [] hB e e e e),(),h,e,e⟩)
     ·refine OpsD.gn e g358 (.gn e g358 (.gn e g358 (.gn e g358 (.gn e g358 (.gn e g358 (.gn e g358 (.gn e g358 (.gn e g358 (.gn e g358 (.gs (s := 17736) e g357 (.pkF e g358 e) e e (.z 17752 (.pkF e g357 e) e e (.nil ⟨by kernel_rfl,?_⟩))))))))))))
      exact Run.condF e e (.skip (⟨_,_,(gh_pk [0,1,2,7] [] hB e e e e),(),h,e,e⟩))
   ·exact Run.ops hm (.p3 e e e (.nil (⟨m331,Nat.lt_succ_self m331,_,_,(gh_pk [0,1,2,7] [] hB e e e e),_,h,e,e⟩)))
  ·refine Run.exit ?_
   obtain rfl := someO h
   have h := hk331
   replace h := inrO h
   exact ⟨_,_,(gh_pk [] [] hB e e e e),(),h,e,e⟩
 ·refine Run.so hm (.p e (.nil (.ret ?_)))
  obtain rfl := someO h
  exact Ends.mkG (.inl e) e (gh_pk [0] [] hB e e e e) e e
def spec_ConfOk (N : Nat) (x1 : (List Int)) : Option (Bool) :=
 (spec_l01In N (x1.length : Int) 1 4).bind fun y109 =>
 (if y109 = true then
 (spec_l07Rise N x1 1 4).bind fun y111 =>
 some y111
 else
 some false)
theorem sem_spec_ConfOk (N : Nat) (x1 : (List Int)) (r : Bool) (h : spec_ConfOk N x1 = some r) : Says Tryd.prog 60 [RO 3 (x1.map encI)] 0 [] (VB r) [] := by
 unfold spec_ConfOk at h
 refine Says.of_norm e Tryd.call60 e fun B hB => ?_
 have hm : B.m ≤ 1000 := by omega
 refine Run.so hm (.p e (.nil (.so hm (.p e (.z 5112 (Ev.lnF e) e e ?_)))))
 obtain ⟨y109,hy109,h⟩ := bindO h
 refine Ops.z 5128 (Ev.call [] [] 0 (sem_spec_l01In _ _ _ _ _ hy109) e e (.d2 (.d1 .nil)) e (.inl e) e e) e e (.p e (.askO (x := .t 6) e h (fun g110 h => ?_) (fun g110 h => ?_)))
 ·refine Ops.gp e g110 e ?_
  obtain ⟨y111,hy111,h⟩ := bindO h
  refine Ops.gs (s := 5176) e g110 (Ev.call [] [] 0 (sem_spec_l07Rise _ _ _ _ _ hy111) e e (.d2 (.d1 .nil)) e (.inl e) e e) e e (.z 5192 (.pkT e g110 e) e e (.p e (.nil (.ret ?_))))
  obtain rfl := someO h
  exact Ends.mkG (.inl e) e (gh_pk [0] [] hB e e e e) e e
 ·refine Ops.gn e g110 (.gn e g110 (.z 5192 (.pkF e g110 e) e e (.p e (.nil (.ret ?_)))))
  obtain rfl := someO h
  exact Ends.mkG (.inl e) e (gh_pk [0] [] hB e e e e) e e
def spec_ManifestOk (N : Nat) (x1 : Manifest) : Option (Bool) :=
 (spec_l01In N (x1.Segs.length : Int) 1 8).bind fun y133 =>
 (if y133 = true then
 (spec_l01In N x1.Next 0 1000).bind fun y135 =>
 (if y135 = true then
 (spec_l07Rise N x1.Segs 0 (w64 (x1.Next - 1))).bind fun y137 =>
 (if y137 = true then
 (spec_l01In N x1.Base 0 100000).bind fun y139 =>
 (if y139 = true then
 (spec_l01In N x1.BaseTerm 0 100000).bind fun y141 =>
 (if y141 = true then
 (spec_ConfOk N x1.Conf).bind fun y143 =>
 some y143
 else
 some false)
 else
 some false)
 else
 some false)
 else
 some false)
 else
 some false)
theorem sem_spec_ManifestOk (N : Nat) (x1 : Manifest) (r : Bool) (h : spec_ManifestOk N x1 = some r) : Says Tryd.prog 37 [.agg [RO 3 (x1.Segs.map encI),VI x1.Next,VI x1.Base,VI x1.BaseTerm,RO 3 (x1.Conf.map encI)]] 0 [] (VB r) [] := by
 unfold spec_ManifestOk at h
 refine Says.of_norm e Tryd.call37 e fun B hB => ?_
 have hm : B.m ≤ 1000 := by omega
 refine Run.so hm (.z 1000 (.bx e e) e e (.p e (.nil (.so hm (.p2 e e (.z 5128 (Ev.lnF e) e e ?_))))))
 obtain ⟨y133,hy133,h⟩ := bindO h
 refine Ops.z 5144 (Ev.call [] [] 0 (sem_spec_l01In _ _ _ _ _ hy133) e e (.d2 (.d1 .nil)) e (.inl e) e e) e e (.p e (.askO (x := .t 7) e h (fun g134 h => ?_) (fun g134 h => ?_)))
 ·refine Ops.gp e g134 e (.gp e g134 e ?_)
  obtain ⟨y135,hy135,h⟩ := bindO h
  refine Ops.gs (s := 5208) e g134 (Ev.call [] [] 0 (sem_spec_l01In _ _ _ _ _ hy135) e e (.d2 (.d1 .nil)) e (.inl e) e e) e e (.z 5224 (.pkT e g134 e) e e (.p e (.askO (x := .t 12) e h (fun g136 h => ?_) (fun g136 h => ?_))))
  ·refine Ops.gp e g136 e (.gp e g136 e (.gp e g136 e (.gp e g136 e (.gp e g136 e ?_))))
   obtain ⟨y137,hy137,h⟩ := bindO h
   refine Ops.gs (s := 5336) e g136 (Ev.call [] [] 0 (sem_spec_l07Rise _ _ _ _ _ hy137) e e (.d2 (.d1 .nil)) e (.inl e) e e) e e (.z 5352 (.pkT e g136 e) e e (.p e (.askO (x := .t 20) e h (fun g138 h => ?_) (fun g138 h => ?_))))
   ·refine Ops.gp e g138 e (.gp e g138 e ?_)
    obtain ⟨y139,hy139,h⟩ := bindO h
    refine Ops.gs (s := 5416) e g138 (Ev.call [] [] 0 (sem_spec_l01In _ _ _ _ _ hy139) e e (.d2 (.d1 .nil)) e (.inl e) e e) e e (.z 5432 (.pkT e g138 e) e e (.p e (.askO (x := .t 25) e h (fun g140 h => ?_) (fun g140 h => ?_))))
    ·refine Ops.gp e g140 e (.gp e g140 e ?_)
     obtain ⟨y141,hy141,h⟩ := bindO h
     refine Ops.gs (s := 5496) e g140 (Ev.call [] [] 0 (sem_spec_l01In _ _ _ _ _ hy141) e e (.d2 (.d1 .nil)) e (.inl e) e e) e e (.z 5512 (.pkT e g140 e) e e (.p e (.askO (x := .t 30) e h (fun g142 h => ?_) (fun g142 h => ?_))))
     ·refine Ops.gp e g142 e (.gp e g142 e ?_)
      obtain ⟨y143,hy143,h⟩ := bindO h
      refine Ops.gs (s := 5576) e g142 (Ev.call [] [] 0 (sem_spec_ConfOk _ _ _ hy143) e e (.d1 .nil) e (.inl e) e e) e e (.z 5592 (.pkT e g142 e) e e (.p e (.nil (.ret ?_))))
      obtain rfl := someO h
      exact Ends.mkG (.inl e) e (gh_pk [0] [] hB e e e e) e e
     ·refine Ops.gn e g142 (.gn e g142 (.gn e g142 (.z 5592 (.pkF e g142 e) e e (.p e (.nil (.ret ?_))))))
      obtain rfl := someO h
      exact Ends.mkG (.inl e) e (gh_pk [0] [] hB e e e e) e e
    ·refine Ops.gn e g140 (.gn e g140 (.gn e g140 (.z 5512 (.pkF e g140 e) e e (.p e (.gn e e (.gn e e (.gn e e (.z 5592 (.pkF e e e) e e (.p e (.nil (.ret ?_)))))))))))
     obtain rfl := someO h
     exact Ends.mkG (.inl e) e (gh_pk [0] [] hB e e e e) e e
   ·refine Ops.gn e g138 (.gn e g138 (.gn e g138 (.z 5432 (.pkF e g138 e) e e (.p e (.gn e e (.gn e e (.gn e e (.z 5512 (.pkF e e e) e e (.p e (.gn e e (.gn e e (.gn e e (.z 5592 (.pkF e e e) e e (.p e (.nil (.ret ?_))))))))))))))))
    obtain rfl := someO h
    exact Ends.mkG (.inl e) e (gh_pk [0] [] hB e e e e) e e
  ·refine Ops.gn e g136 (.gn e g136 (.gn e g136 (.gn e g136 (.gn e g136 (.gn e g136 (.z 5352 (.pkF e g136 e) e e (.p e (.gn e e (.gn e e (.gn e e (.z 5432 (.pkF e e e) e e (.p e (.gn e e (.gn e e (.gn e e (.z 5512 (.pkF e e e) e e (.p e (.gn e e (.gn e e (.gn e e (.z 5592 (.pkF e e e) e e (.p e (.nil (.ret ?_))))))))))))))))))))))))
   obtain rfl := someO h
   exact Ends.mkG (.inl e) e (gh_pk [0] [] hB e e e e) e e
 ·refine Ops.gn e g134 (.gn e g134 (.gn e g134 (.z 5224 (.pkF e g134 e) e e (.p e (.gn e e (.gn e e (.gn e e (.gn e e (.gn e e (.gn e e (.z 5352 (.pkF e e e) e e (.p e (.gn e e (.gn e e (.gn e e (.z 5432 (.pkF e e e) e e (.p e (.gn e e (.gn e e (.gn e e (.z 5512 (.pkF e e e) e e (.p e (.gn e e (.gn e e (.gn e e (.z 5592 (.pkF e e e) e e (.p e (.nil (.ret ?_)))))))))))))))))))))))))))))
  obtain rfl := someO h
  exact Ends.mkG (.inl e) e (gh_pk [0] [] hB e e e e) e e
def spec_l01Var_l1 (N : Nat) : Nat → Int → (List Int) → Option (Int × (List Int))
 | 0,_,_ => none
 | m + 1,x188,x189 =>
 (if (decide (x188 > 127)) = true then
 (intD .rem .i64 x188 128).bind fun x212 =>
 (cat? x189 ([IntKind.wrap .u8 (w64 (x212 + 128))] : List Int)).bind fun x213 =>
 (intD .quo .i64 x188 128).bind fun x215 =>
 spec_l01Var_l1 N m x215 x213
 else
 some (x188,x189))
def spec_l01Var (N : Nat) (x1 : Int) : Option (ByteArray) :=
 joinP (fun (v187 : Int × (List Int)) =>
 (cat? v187.2 ([IntKind.wrap .u8 (v187.1)] : List Int)).bind fun x217 =>
 some (strOf x217)) fun j187 =>
 (spec_l01Var_l1 N N x1 ([] : List Int)).bind (fun v202 => j187 (v202.1,v202.2))
theorem sem_spec_l01Var (N : Nat) (x1 : Int) (r : ByteArray) (h : spec_l01Var N x1 = some r) : Says Tryd.prog 38 [VI x1] 0 [] (VS r) [] := by
 unfold spec_l01Var at h
 refine Says.of_norm e Tryd.call38 e fun B hB => ?_
 have hm : B.m ≤ 1000 := by omega
 refine Run.so hm (.p e (.nil (.so hm (.z 5096 (Ev.bsW (ys := ([] : List Int)) (f := encU) e .nil e e e e e) e e (.p e (.nil (.seqO h (fun v187 => [(0,VI v187.1),(3,.sl 0 5 0 v187.2.length)]) (fun (v187 : Int × (List Int)) => [(0,.vec 5 (v187.2.map encU))]) (fun h => ?_) (fun v187 h => ?_))))))))
 ·refine Run.block ?_
  obtain ⟨res202,h,hk202⟩ := bindO h
  refine Run.loop (n := N) (fun m202 fr σ => ∃ (x188 : Int),∃ (x189 : (List Int)),spec_l01Var_l1 N m202 x188 x189 = some res202 ∧ fr = [(0,VI x188),(3,.sl 0 5 0 x189.length)] ∧ σ = [(0,.vec 5 (x189.map encU))]) (gh_pk [0,3] [5096] hB e e e e) ⟨_,_,h,e,e⟩ ?_
  rintro m202 fr σ ⟨x188,x189,h,rfl,rfl⟩
  obtain _ | m202 := m202
  ·rw [spec_l01Var_l1] at h; cases h
  rw [spec_l01Var_l1] at h
  refine Run.seq (.so hm (.p2 e e (.nil (.condO e h (fun g205 h => ?_) (fun g205 h => ?_)))))
  ·refine Run.skip (.block (.so hm (.p2 e e ?_)))
   obtain ⟨x212,hx212,h⟩ := bindO h
   refine Ops.z 13320 (.bin e e hx212) e e (.p2 e e (.z 13368 (Ev.bsW (ys := ([IntKind.wrap .u8 (w64 (x212 + 128))] : List Int)) (f := encU) e (.d1 .nil) e e e e e) e e ?_))
   obtain ⟨x213,hx213,h⟩ := bindO h
   refine Ops.z 13384 (Ev.apW (f := encU) (ontoW e e e) (addsW e e e (fun _ => e)) e bt5 e hx213) e e (.p e (.nil (.ops hm (.p e ?_))))
   obtain ⟨x215,hx215,h⟩ := bindO h
   exact Ops.z 17400 (.bin e e hx215) e e (.p e (.nil (⟨m202,Nat.lt_succ_self m202,_,_,(gh_pk [0,3] [13384] hB e e e e),_,_,h,e,e⟩)))
  ·refine Run.exit ?_
   obtain rfl := someO h
   have h := hk202
   exact ⟨_,_,(gh_pk [0,3] [0] hB e e e e),_,h,e,e⟩
 ·refine Run.so hm (.p3 e e e (.z 21528 (Ev.bsW (ys := ([IntKind.wrap .u8 (v187.1)] : List Int)) (f := encU) e (.d1 .nil) e e e e e) e e ?_))
  obtain ⟨x217,hx217,h⟩ := bindO h
  refine Ops.z 21544 (Ev.apW (f := encU) (ontoW e e e) (addsW e e e (fun _ => e)) e bt5 e hx217) e e (.z 21560 (.sbC (addsW (f := encU) e e e (fun _ => e))) e e (.p e (.nil (.ret ?_))))
  obtain rfl := someO h
  exact Ends.mkG (.inl e) e (gh_pk [0] [] hB e e e e) e e
def spec_SumMore_l2 (N : Nat) : Nat → Int → Int → Option (Int)
 | 0,_,_ => none
 | m + 1,x1114,x1117 =>
 (if (decide (x1117 < 8)) = true then
 joinP (fun (v1158 : Int) =>
 spec_SumMore_l2 N m v1158 (w64 (x1117 + 1))) fun j1158 =>
 (intD .rem .u32 x1114 2).bind fun x1162 =>
 (intD .quo .u32 x1114 2).bind fun x1166 =>
 (if (x1162 == 1) = true then
 (intD .xor .u32 x1166 3558460437).bind fun x1169 =>
 j1158 x1169
 else
 j1158 x1166)
 else
 some x1114)
def spec_SumMore_l1 (N : Nat) (x2 : ByteArray) : Nat → Int → Int → Option (Int)
 | 0,_,_ => none
 | m + 1,x903,x905 =>
 (if (decide (x905 < (x2.size : Int))) = true then
 joinP (fun (v1105 : Int) =>
 spec_SumMore_l1 N x2 m v1105 (w64 (x905 + 1))) fun j1105 =>
 (sat? x2 x905).bind fun x1112 =>
 (intD .xor .u32 x903 (IntKind.wrap .u32 (x1112))).bind fun x1113 =>
 (spec_SumMore_l2 N N x1113 0).bind (fun v1143 => j1105 v1143)
 else
 some x903)
def spec_SumMore (N : Nat) (x1 : Int) (x2 : ByteArray) : Option (Int) :=
 joinP (fun (v902 : Int) =>
 some v902) fun j902 =>
 (spec_SumMore_l1 N x2 N x1 0).bind (fun v1037 => j902 v1037)
theorem sem_spec_SumMore (N : Nat) (x1 : Int) (x2 : ByteArray) (r : Int) (h : spec_SumMore N x1 x2 = some r) : Says Tryd.prog 72 [.c (.i .u32 x1),VS x2] 0 [] (.c (.i .u32 r)) [] := by
 unfold spec_SumMore at h
 refine Says.of_norm e Tryd.call72 e fun B hB => ?_
 have hm : B.m ≤ 1000 := by omega
 refine Run.so hm (.p e (.nil (.seqO h (fun v902 => [(0,.c (.i .u32 v902))]) (fun (v902 : Int) => []) (fun h => ?_) (fun v902 h => ?_))))
 ·refine Run.so hm (.p e (.nil (.block ?_)))
  obtain ⟨res1037,h,hk1037⟩ := bindO h
  refine Run.loop (n := N) (fun m1037 fr σ => ∃ (x903 : Int),∃ (x905 : Int),spec_SumMore_l1 N x2 m1037 x903 x905 = some res1037 ∧ fr = [(0,.c (.i .u32 x903)),(1,VS x2),(5,VI x905)] ∧ σ = []) (gh_pk [0,1,5] [] hB e e e e) ⟨_,_,h,e,e⟩ ?_
  rintro m1037 fr σ ⟨x903,x905,h,rfl,rfl⟩
  obtain _ | m1037 := m1037
  ·rw [spec_SumMore_l1] at h; cases h
  rw [spec_SumMore_l1] at h
  refine Run.seq (.so hm (.p3 e e e (.p e (.nil (.condO e h (fun g1040 h => ?_) (fun g1040 h => ?_))))))
  ·refine Run.skip (.seqO h (fun v1105 => [(0,.c (.i .u32 v1105)),(1,VS x2),(5,VI x905)]) (fun (v1105 : Int) => []) (fun h => ?_) (fun v1105 h => ?_))
   ·refine Run.block (.so hm (.p3 e e e ?_))
    obtain ⟨x1112,hx1112,h⟩ := bindO h
    refine Ops.z 17432 (Ev.ixS e e hx1112) e e (.p e ?_)
    obtain ⟨x1113,hx1113,h⟩ := bindO h
    refine Ops.z 17464 (.bin e e hx1113) e e (.p e (.nil (.so hm (.p e (.nil (.block ?_))))))
    obtain ⟨res1143,h,hk1143⟩ := bindO h
    refine Run.loop (n := N) (fun m1143 fr σ => ∃ (x1114 : Int),∃ (x1117 : Int),spec_SumMore_l2 N m1143 x1114 x1117 = some res1143 ∧ fr = [(0,.c (.i .u32 x1114)),(1,VS x2),(5,VI x905),(6,VI x1117)] ∧ σ = []) (gh_pk [0,1,5,6] [] hB e e e e) ⟨_,_,h,e,e⟩ ?_
    rintro m1143 fr σ ⟨x1114,x1117,h,rfl,rfl⟩
    obtain _ | m1143 := m1143
    ·rw [spec_SumMore_l2] at h; cases h
    rw [spec_SumMore_l2] at h
    refine Run.seq (.so hm (.p2 e e (.nil (.condO e h (fun g1146 h => ?_) (fun g1146 h => ?_)))))
    ·refine Run.skip (.seqO h (fun v1158 => [(0,.c (.i .u32 v1158)),(1,VS x2),(5,VI x905),(6,VI x1117)]) (fun (v1158 : Int) => []) (fun h => ?_) (fun v1158 h => ?_))
     ·refine Run.block (.so hm (.p e ?_))
      obtain ⟨x1162,hx1162,h⟩ := bindO h
      refine Ops.z 33784 (.bin e e hx1162) e e (.p2 e e (.nil (.so hm (.p e ?_))))
      obtain ⟨x1166,hx1166,h⟩ := bindO h
      refine Ops.z 37880 (.bin e e hx1166) e e (.p e (.nil (.so hm (.p e (.nil (.condO e h (fun g1167 h => ?_) (fun g1167 h => ?_)))))))
      ·refine Run.ops hm (.p e ?_)
       obtain ⟨x1169,hx1169,h⟩ := bindO h
       exact Ops.z 46072 (.bin e e hx1169) e e (.p e (.nil (⟨_,_,(gh_pk [0,1,5,6] [] hB e e e e),_,h,e,e⟩)))
      ·exact Run.skip (⟨_,_,(gh_pk [0,1,5,6] [] hB e e e e),_,h,e,e⟩)
     ·exact Run.ops hm (.p3 e e e (.nil (⟨m1143,Nat.lt_succ_self m1143,_,_,(gh_pk [0,1,5,6] [] hB e e e e),_,_,h,e,e⟩)))
    ·refine Run.exit ?_
     obtain rfl := someO h
     have h := hk1143
     exact ⟨_,_,(gh_pk [0,1,5] [] hB e e e e),_,h,e,e⟩
   ·exact Run.ops hm (.p3 e e e (.nil (⟨m1037,Nat.lt_succ_self m1037,_,_,(gh_pk [0,1,5] [] hB e e e e),_,_,h,e,e⟩)))
  ·refine Run.exit ?_
   obtain rfl := someO h
   have h := hk1037
   exact ⟨_,_,(gh_pk [0] [] hB e e e e),_,h,e,e⟩
 ·refine Run.so hm (.p2 e e (.nil (.ret ?_)))
  obtain rfl := someO h
  exact Ends.mkG (.inl e) e (gh_pk [0] [] hB e e e e) e e
def spec_SumOf (N : Nat) (x1 : ByteArray) : Option (Int) :=
 (spec_SumMore N 4294967295 x1).bind fun y103 =>
 some y103
theorem sem_spec_SumOf (N : Nat) (x1 : ByteArray) (r : Int) (h : spec_SumOf N x1 = some r) : Says Tryd.prog 62 [VS x1] 0 [] (.c (.i .u32 r)) [] := by
 unfold spec_SumOf at h
 refine Says.of_norm e Tryd.call62 e fun B hB => ?_
 have hm : B.m ≤ 1000 := by omega
 refine Run.so hm (.p e (.nil (.so hm (.p e ?_))))
 obtain ⟨y103,hy103,h⟩ := bindO h
 refine Ops.z 5112 (Ev.call [] [] 0 (sem_spec_SumMore _ _ _ _ hy103) e e (.d2 .nil) e (.inl e) e e) e e (.p e (.nil (.ret ?_)))
 obtain rfl := someO h
 exact Ends.mkG (.inl e) e (gh_pk [0] [] hB e e e e) e e
def spec_l02Four (N : Nat) (x1 : Int) : Option (ByteArray) :=
 (intSh .shr .u32 x1 24).bind fun x109 =>
 (intSh .shr .u32 x1 16).bind fun x110 =>
 (intSh .shr .u32 x1 8).bind fun x111 =>
 some (strOf ([IntKind.wrap .u8 (x109),IntKind.wrap .u8 (x110),IntKind.wrap .u8 (x111),IntKind.wrap .u8 (x1)] : List Int))
theorem sem_spec_l02Four (N : Nat) (x1 : Int) (r : ByteArray) (h : spec_l02Four N x1 = some r) : Says Tryd.prog 61 [.c (.i .u32 x1)] 0 [] (VS r) [] := by
 unfold spec_l02Four at h
 refine Says.of_norm e Tryd.call61 e fun B hB => ?_
 have hm : B.m ≤ 1000 := by omega
 refine Run.so hm (.p e (.nil (.so hm (.p e ?_))))
 obtain ⟨x109,hx109,h⟩ := bindO h
 refine Ops.z 5112 (.sh e e hx109) e e (.p2 e e ?_)
 obtain ⟨x110,hx110,h⟩ := bindO h
 refine Ops.z 5160 (.sh e e hx110) e e (.p2 e e ?_)
 obtain ⟨x111,hx111,h⟩ := bindO h
 refine Ops.z 5208 (.sh e e hx111) e e (.p3 e e e (.z 5272 (Ev.bsW (ys := ([IntKind.wrap .u8 (x109),IntKind.wrap .u8 (x110),IntKind.wrap .u8 (x111),IntKind.wrap .u8 (x1)] : List Int)) (f := encU) e (.d4 .nil) e e e e e) e e (.z 5288 (.sbC (addsW (f := encU) e e e (fun _ => e))) e e (.p e (.nil (.ret ?_))))))
 obtain rfl := someO h
 exact Ends.mkG (.inl e) e (gh_pk [0] [] hB e e e e) e e
def spec_Sealed (N : Nat) (x1 : ByteArray) : Option (ByteArray × Bool) :=
 (if (decide ((x1.size : Int) > 20000)) = true then
 some ((⟨#[]⟩ : ByteArray),false)
 else
 (spec_SumOf N x1).bind fun y113 =>
 (spec_l02Four N y113).bind fun y114 =>
 (scat? x1 y114).bind fun x115 =>
 some (x115,true))
theorem sem_spec_Sealed (N : Nat) (x1 : ByteArray) (r : ByteArray × Bool) (h : spec_Sealed N x1 = some r) : Says Tryd.prog 39 [VS x1] 0 [] (.tup [VS r.1,VB r.2]) [] := by
 unfold spec_Sealed at h
 refine Says.of_norm e Tryd.call39 e fun B hB => ?_
 have hm : B.m ≤ 1000 := by omega
 refine Run.so hm (.p2 e e (.nil (.seq (.so hm (.p3 e e e (.nil (.condO e h (fun g109 h => ?_) (fun g109 h => ?_))))))))
 ·refine Run.so hm (.p2 e e (.nil (.ret ?_)))
  obtain rfl := someO h
  exact Ends.mkG (.inl e) e (gh_pk [0,1] [] hB e e e e) e e
 ·refine Run.skip (.so hm (.p2 e e ?_))
  obtain ⟨y113,hy113,h⟩ := bindO h
  refine Ops.z 13320 (Ev.call [] [] 0 (sem_spec_SumOf _ _ _ hy113) e e (.d1 .nil) e (.inl e) e e) e e ?_
  obtain ⟨y114,hy114,h⟩ := bindO h
  refine Ops.z 13336 (Ev.call [] [] 0 (sem_spec_l02Four _ _ _ hy114) e e (.d1 .nil) e (.inl e) e e) e e ?_
  obtain ⟨x115,hx115,h⟩ := bindO h
  refine Ops.z 13352 (Ev.addS e e hx115) e e (.p2 e e (.nil (.ret ?_)))
  obtain rfl := someO h
  exact Ends.mkG (.inl e) e (gh_pk [0,1] [] hB e e e e) e e
def spec_ManifestText_l1 (N : Nat) (x1 : Manifest) : Nat → ByteArray → Int → Option (ByteArray)
 | 0,_,_ => none
 | m + 1,x342,x343 =>
 (if (decide (x343 < (x1.Segs.length : Int))) = true then
 (at? x1.Segs x343).bind fun x376 =>
 (spec_l01Var N x376).bind fun y377 =>
 (scat? x342 y377).bind fun x378 =>
 spec_ManifestText_l1 N x1 m x378 (w64 (x343 + 1))
 else
 some x342)
def spec_ManifestText_l1_r (N : Nat) (x1 : Manifest) : (List Int) → ByteArray → Int → Option (ByteArray)
 | [],x342,x343 =>
 some x342
 | hd :: tl,x342,x343 =>
 (some hd).bind fun x376 =>
 (spec_l01Var N x376).bind fun y377 =>
 (scat? x342 y377).bind fun x378 =>
 spec_ManifestText_l1_r N x1 tl x378 (w64 (x343 + 1))
theorem spec_ManifestText_l1_rng (N : Nat) (x1 : Manifest) (hx : x1.Segs.length ≤ 1099511627776) : ∀ (d k m : Nat) (x342 : ByteArray),x1.Segs.length = k + d → d < m → spec_ManifestText_l1 N x1 m x342 (k : Int) = spec_ManifestText_l1_r N x1 (x1.Segs.drop k) x342 (k : Int) := by
 intro d
 induction d with
 | zero =>
  intro k m x342 hd hm
  obtain ⟨m,rfl⟩ : ∃ q,m = q + 1 := ⟨m - 1,by omega⟩
  rw [spec_ManifestText_l1,if_neg (by simp; omega),List.drop_eq_nil_of_le (by omega),spec_ManifestText_l1_r]
 | succ d ih =>
  intro k m x342 hd hm
  obtain ⟨m,rfl⟩ : ∃ q,m = q + 1 := ⟨m - 1,by omega⟩
  have hk : k < x1.Segs.length := by omega
  rw [spec_ManifestText_l1,if_pos (by simp; omega),List.drop_eq_getElem_cons hk,spec_ManifestText_l1_r]
  have h1 := at_lt hk
  have h2 := w64_succ (k := k) (by omega)
  have h3 := ih (k + 1) m
  simp only [h1,h2,h3 _ (by omega) (by omega)]
theorem spec_ManifestText_l1_eq {N : Nat} (x1 : Manifest) (hx : x1.Segs.length ≤ 1099511627776) (hN : x1.Segs.length < N) (x342 : ByteArray) : spec_ManifestText_l1 N x1 N x342 0 = spec_ManifestText_l1_r N x1 x1.Segs x342 0 := spec_ManifestText_l1_rng N x1 hx x1.Segs.length 0 N x342 (by omega) hN
def spec_ManifestText_l2 (N : Nat) (x1 : Manifest) : Nat → ByteArray → Int → Option (ByteArray)
 | 0,_,_ => none
 | m + 1,x449,x450 =>
 (if (decide (x450 < (x1.Conf.length : Int))) = true then
 (at? x1.Conf x450).bind fun x483 =>
 (spec_l01Var N x483).bind fun y484 =>
 (scat? x449 y484).bind fun x485 =>
 spec_ManifestText_l2 N x1 m x485 (w64 (x450 + 1))
 else
 some x449)
def spec_ManifestText_l2_r (N : Nat) (x1 : Manifest) : (List Int) → ByteArray → Int → Option (ByteArray)
 | [],x449,x450 =>
 some x449
 | hd :: tl,x449,x450 =>
 (some hd).bind fun x483 =>
 (spec_l01Var N x483).bind fun y484 =>
 (scat? x449 y484).bind fun x485 =>
 spec_ManifestText_l2_r N x1 tl x485 (w64 (x450 + 1))
theorem spec_ManifestText_l2_rng (N : Nat) (x1 : Manifest) (hx : x1.Conf.length ≤ 1099511627776) : ∀ (d k m : Nat) (x449 : ByteArray),x1.Conf.length = k + d → d < m → spec_ManifestText_l2 N x1 m x449 (k : Int) = spec_ManifestText_l2_r N x1 (x1.Conf.drop k) x449 (k : Int) := by
 intro d
 induction d with
 | zero =>
  intro k m x449 hd hm
  obtain ⟨m,rfl⟩ : ∃ q,m = q + 1 := ⟨m - 1,by omega⟩
  rw [spec_ManifestText_l2,if_neg (by simp; omega),List.drop_eq_nil_of_le (by omega),spec_ManifestText_l2_r]
 | succ d ih =>
  intro k m x449 hd hm
  obtain ⟨m,rfl⟩ : ∃ q,m = q + 1 := ⟨m - 1,by omega⟩
  have hk : k < x1.Conf.length := by omega
  rw [spec_ManifestText_l2,if_pos (by simp; omega),List.drop_eq_getElem_cons hk,spec_ManifestText_l2_r]
  have h1 := at_lt hk
  have h2 := w64_succ (k := k) (by omega)
  have h3 := ih (k + 1) m
  simp only [h1,h2,h3 _ (by omega) (by omega)]
theorem spec_ManifestText_l2_eq {N : Nat} (x1 : Manifest) (hx : x1.Conf.length ≤ 1099511627776) (hN : x1.Conf.length < N) (x449 : ByteArray) : spec_ManifestText_l2 N x1 N x449 0 = spec_ManifestText_l2_r N x1 x1.Conf x449 0 := spec_ManifestText_l2_rng N x1 hx x1.Conf.length 0 N x449 (by omega) hN
def spec_ManifestText (N : Nat) (x1 : Manifest) : Option (ByteArray × Bool) :=
 (spec_ManifestOk N x1).bind fun y298 =>
 (if (!y298) = true then
 some ((⟨#[]⟩ : ByteArray),false)
 else
 (spec_l01Var N (x1.Segs.length : Int)).bind fun y303 =>
 joinP (fun (v341 : ByteArray) =>
 (spec_l01Var N x1.Next).bind fun y403 =>
 (scat? v341 y403).bind fun x404 =>
 (spec_l01Var N x1.Base).bind fun y405 =>
 (scat? x404 y405).bind fun x406 =>
 (spec_l01Var N x1.BaseTerm).bind fun y407 =>
 (scat? x406 y407).bind fun x408 =>
 (spec_l01Var N (x1.Conf.length : Int)).bind fun y409 =>
 (scat? x408 y409).bind fun x410 =>
 joinP (fun (v448 : ByteArray) =>
 (spec_Sealed N v448).bind fun y487 =>
 some (y487.1,y487.2)) fun j448 =>
 (spec_ManifestText_l2 N x1 N x410 0).bind (fun v470 => j448 v470)) fun j341 =>
 (spec_ManifestText_l1 N x1 N y303 0).bind (fun v363 => j341 v363))
theorem sem_spec_ManifestText (N : Nat) (x1 : Manifest) (r : ByteArray × Bool) (h : spec_ManifestText N x1 = some r) : Says Tryd.prog 21 [.agg [RO 3 (x1.Segs.map encI),VI x1.Next,VI x1.Base,VI x1.BaseTerm,RO 3 (x1.Conf.map encI)]] 0 [] (.tup [VS r.1,VB r.2]) [] := by
 unfold spec_ManifestText at h
 refine Says.of_norm e Tryd.call21 e fun B hB => ?_
 have hm : B.m ≤ 1000 := by omega
 refine Run.so hm (.z 1000 (.bx e e) e e (.p2 e e (.nil (.seq (.so hm (.p e ?_))))))
 obtain ⟨y298,hy298,h⟩ := bindO h
 refine Ops.z 5112 (Ev.call [] [] 0 (sem_spec_ManifestOk _ _ _ hy298) e e (.cons (.agg (.d4 (.d1 .nil))) .nil) e (.inl e) e e) e e (.p e (.nil (.condO e h (fun g299 h => ?_) (fun g299 h => ?_))))
 ·refine Run.so hm (.p2 e e (.nil (.ret ?_)))
  obtain rfl := someO h
  exact Ends.mkG (.inl e) e (gh_pk [0,1] [] hB e e e e) e e
 ·refine Run.skip (.so hm (.p2 e e (.z 13320 (Ev.lnF e) e e ?_)))
  obtain ⟨y303,hy303,h⟩ := bindO h
  refine Ops.z 13336 (Ev.call [] [] 0 (sem_spec_l01Var _ _ _ hy303) e e (.d1 .nil) e (.inl e) e e) e e (.p e (.nil (.seqO h (fun v341 => [(1,.ptr 0 0),(4,VS v341)]) (fun (v341 : ByteArray) => [(0,.box [RO 3 (x1.Segs.map encI),VI x1.Next,VI x1.Base,VI x1.BaseTerm,RO 3 (x1.Conf.map encI)])]) (fun h => ?_) (fun v341 h => ?_))))
  ·refine Run.so hm (.p e (.nil (.block ?_)))
   obtain ⟨res363,h,hk363⟩ := bindO h
   refine Run.loop (n := N) (fun m363 fr σ => ∃ (x342 : ByteArray),∃ (x343 : Int),spec_ManifestText_l1 N x1 m363 x342 x343 = some res363 ∧ fr = [(1,.ptr 0 0),(4,VS x342),(5,VI x343)] ∧ σ = [(0,.box [RO 3 (x1.Segs.map encI),VI x1.Next,VI x1.Base,VI x1.BaseTerm,RO 3 (x1.Conf.map encI)])]) (gh_pk [1,4,5] [1000] hB e e e e) ⟨_,_,h,e,e⟩ ?_
   rintro m363 fr σ ⟨x342,x343,h,rfl,rfl⟩
   obtain _ | m363 := m363
   ·rw [spec_ManifestText_l1] at h; cases h
   rw [spec_ManifestText_l1] at h
   refine Run.seq (.so hm (.p3 e e e (.z 21528 (Ev.lnF e) e e (.p e (.nil (.condO e h (fun g366 h => ?_) (fun g366 h => ?_)))))))
   ·refine Run.skip (.seq (.block (.ops hm (.p3 e e e (.p e ?_)))))
    obtain ⟨x376,hx376,h⟩ := bindO h
    refine Ops.z 29736 (Ev.iaF e e hx376) e e (.p e ?_)
    obtain ⟨y377,hy377,h⟩ := bindO h
    refine Ops.z 29768 (Ev.call [] [] 0 (sem_spec_l01Var _ _ _ hy377) e e (.d1 .nil) e (.inl e) e e) e e ?_
    obtain ⟨x378,hx378,h⟩ := bindO h
    exact Ops.z 29784 (Ev.addS e e hx378) e e (.p e (.nil (.ops hm (.p3 e e e (.nil (⟨m363,Nat.lt_succ_self m363,_,_,(gh_pk [1,4,5] [0] hB e e e e),_,_,h,e,e⟩))))))
   ·refine Run.exit ?_
    obtain rfl := someO h
    have h := hk363
    exact ⟨_,_,(gh_pk [1,4] [0] hB e e e e),_,h,e,e⟩
  ·refine Run.seq (.draw hm hmix (.p e (.p e (.p e ?_))))
   obtain ⟨y403,hy403,h⟩ := bindO h
   refine OpsD.z 33816 (Ev.call [] [] 0 (sem_spec_l01Var _ _ _ hy403) e e (.d1 .nil) e (.inl e) e e) e e ?_
   obtain ⟨x404,hx404,h⟩ := bindO h
   refine OpsD.z 33832 (Ev.addS e e hx404) e e (.p e (.p e ?_))
   obtain ⟨y405,hy405,h⟩ := bindO h
   refine OpsD.z 33880 (Ev.call [] [] 0 (sem_spec_l01Var _ _ _ hy405) e e (.d1 .nil) e (.inl e) e e) e e ?_
   obtain ⟨x406,hx406,h⟩ := bindO h
   refine OpsD.z 33896 (Ev.addS e e hx406) e e (.p e (.p e ?_))
   obtain ⟨y407,hy407,h⟩ := bindO h
   refine OpsD.z 33944 (Ev.call [] [] 0 (sem_spec_l01Var _ _ _ hy407) e e (.d1 .nil) e (.inl e) e e) e e ?_
   obtain ⟨x408,hx408,h⟩ := bindO h
   refine OpsD.z 33960 (Ev.addS e e hx408) e e (.p e (.p e (.z 34008 (Ev.lnF e) e e ?_)))
   obtain ⟨y409,hy409,h⟩ := bindO h
   refine OpsD.z 34024 (Ev.call [] [] 0 (sem_spec_l01Var _ _ _ hy409) e e (.d1 .nil) e (.inl e) e e) e e ?_
   obtain ⟨x410,hx410,h⟩ := bindO h
   refine OpsD.z 34040 (Ev.addS e e hx410) e e (.p e (.nil ⟨by kernel_rfl,?_⟩))
   refine Run.seqO h (fun v448 => [(4,VS v448)]) (fun (v448 : ByteArray) => []) (fun h => ?_) (fun v448 h => ?_)
   ·refine Run.so hm (.p e (.nil (.block ?_)))
    obtain ⟨res470,h,hk470⟩ := bindO h
    refine Run.loop (n := N) (fun m470 fr σ => ∃ (x449 : ByteArray),∃ (x450 : Int),spec_ManifestText_l2 N x1 m470 x449 x450 = some res470 ∧ fr = [(1,.ptr 0 0),(4,VS x449),(6,VI x450)] ∧ σ = [(0,.box [RO 3 (x1.Segs.map encI),VI x1.Next,VI x1.Base,VI x1.BaseTerm,RO 3 (x1.Conf.map encI)])]) (gh_pk [1,4,6] [0] hB e e e e) ⟨_,_,h,e,e⟩ ?_
    rintro m470 fr σ ⟨x449,x450,h,rfl,rfl⟩
    obtain _ | m470 := m470
    ·rw [spec_ManifestText_l2] at h; cases h
    rw [spec_ManifestText_l2] at h
    refine Run.seq (.so hm (.p3 e e e (.z 42008 (Ev.lnF e) e e (.p e (.nil (.condO e h (fun g473 h => ?_) (fun g473 h => ?_)))))))
    ·refine Run.skip (.seq (.block (.ops hm (.p3 e e e (.p e ?_)))))
     obtain ⟨x483,hx483,h⟩ := bindO h
     refine Ops.z 50216 (Ev.iaF e e hx483) e e (.p e ?_)
     obtain ⟨y484,hy484,h⟩ := bindO h
     refine Ops.z 50248 (Ev.call [] [] 0 (sem_spec_l01Var _ _ _ hy484) e e (.d1 .nil) e (.inl e) e e) e e ?_
     obtain ⟨x485,hx485,h⟩ := bindO h
     exact Ops.z 50264 (Ev.addS e e hx485) e e (.p e (.nil (.ops hm (.p3 e e e (.nil (⟨m470,Nat.lt_succ_self m470,_,_,(gh_pk [1,4,6] [0] hB e e e e),_,_,h,e,e⟩))))))
    ·refine Run.exit ?_
     obtain rfl := someO h
     have h := hk470
     exact ⟨_,_,(gh_pk [4] [] hB e e e e),_,h,e,e⟩
   ·refine Run.so hm (.p e ?_)
    obtain ⟨y487,hy487,h⟩ := bindO h
    refine Ops.z 54264 (Ev.call [] [] 0 (sem_spec_Sealed _ _ _ hy487) e e (.d1 .nil) e (.inl e) e e) e e (.p3 e e e (.p e (.nil (.ret ?_))))
    obtain rfl := someO h
    exact Ends.mkG (.inl e) e (gh_pk [0,1] [] hB e e e e) e e
def spec_l01Figure (N : Nat) (x1 : Int) : Option (Int) :=
 (if (decide (x1 < 10)) = true then
 some (IntKind.wrap .u8 (w64 (48 + x1)))
 else
 some (IntKind.wrap .u8 (w64 ((w64 (97 + x1)) - 10))))
theorem sem_spec_l01Figure (N : Nat) (x1 : Int) (r : Int) (h : spec_l01Figure N x1 = some r) : Says Tryd.prog 63 [VI x1] 0 [] (.c (.i .u8 r)) [] := by
 unfold spec_l01Figure at h
 refine Says.of_norm e Tryd.call63 e fun B hB => ?_
 have hm : B.m ≤ 1000 := by omega
 refine Run.so hm (.p e (.nil (.seq (.so hm (.p2 e e (.nil (.condO e h (fun g103 h => ?_) (fun g103 h => ?_))))))))
 ·refine Run.so hm (.p3 e e e (.p e (.nil (.ret ?_))))
  obtain rfl := someO h
  exact Ends.mkG (.inl e) e (gh_pk [0] [] hB e e e e) e e
 ·refine Run.skip (.so hm (.p3 e e e (.p2 e e (.nil (.ret ?_)))))
  obtain rfl := someO h
  exact Ends.mkG (.inl e) e (gh_pk [0] [] hB e e e e) e e
def spec_Decimal_l1 (N : Nat) : Nat → Int → ByteArray → Option (ByteArray)
 | 0,_,_ => none
 | m + 1,x241,x243 =>
 (if (x241 != 0) = true then
 (intD .rem .i64 x241 10).bind fun x270 =>
 joinP (fun (v272 : Int) =>
 (spec_l01Figure N v272).bind fun y280 =>
 (scat? (strOf ([y280] : List Int)) x243).bind fun x281 =>
 (intD .quo .i64 x241 10).bind fun x283 =>
 spec_Decimal_l1 N m x283 x281) fun j272 =>
 (if (decide (x270 < 0)) = true then
 j272 (w64 ((-x270)))
 else
 j272 x270)
 else
 some x243)
def spec_Decimal (N : Nat) (x1 : Int) : Option (ByteArray) :=
 (if (x1 == 0) = true then
 some (⟨#[48]⟩ : ByteArray)
 else
 joinP (fun (v240 : ByteArray) =>
 (if (decide (x1 < 0)) = true then
 (scat? (⟨#[45]⟩ : ByteArray) v240).bind fun x289 =>
 some x289
 else
 some v240)) fun j240 =>
 (spec_Decimal_l1 N N x1 (⟨#[]⟩ : ByteArray)).bind (fun v263 => j240 v263))
theorem sem_spec_Decimal (N : Nat) (x1 : Int) (r : ByteArray) (h : spec_Decimal N x1 = some r) : Says Tryd.prog 41 [VI x1] 0 [] (VS r) [] := by
 unfold spec_Decimal at h
 refine Says.of_norm e Tryd.call41 e fun B hB => ?_
 have hm : B.m ≤ 1000 := by omega
 refine Run.so hm (.p e (.nil (.seq (.so hm (.p2 e e (.nil (.condO e h (fun g196 h => ?_) (fun g196 h => ?_))))))))
 ·refine Run.so hm (.p e (.nil (.ret ?_)))
  obtain rfl := someO h
  exact Ends.mkG (.inl e) e (gh_pk [0] [] hB e e e e) e e
 ·refine Run.skip (.so hm (.p3 e e e (.nil (.so hm (.p e (.nil (.seqO h (fun v240 => [(3,VB (decide (x1 < 0))),(4,VS v240)]) (fun (v240 : ByteArray) => []) (fun h => ?_) (fun v240 h => ?_))))))))
  ·refine Run.block ?_
   obtain ⟨res263,h,hk263⟩ := bindO h
   refine Run.loop (n := N) (fun m263 fr σ => ∃ (x241 : Int),∃ (x243 : ByteArray),spec_Decimal_l1 N m263 x241 x243 = some res263 ∧ fr = [(0,VI x241),(3,VB (decide (x1 < 0))),(4,VS x243)] ∧ σ = []) (gh_pk [0,3,4] [] hB e e e e) ⟨_,_,h,e,e⟩ ?_
   rintro m263 fr σ ⟨x241,x243,h,rfl,rfl⟩
   obtain _ | m263 := m263
   ·rw [spec_Decimal_l1] at h; cases h
   rw [spec_Decimal_l1] at h
   refine Run.seq (.so hm (.p2 e e (.nil (.condO e h (fun g266 h => ?_) (fun g266 h => ?_)))))
   ·refine Run.skip (.block (.so hm (.p e ?_)))
    obtain ⟨x270,hx270,h⟩ := bindO h
    refine Ops.z 25592 (.bin e e hx270) e e (.p e (.nil (.seqO h (fun v272 => [(0,VI x241),(3,VB (decide (x1 < 0))),(4,VS x243),(5,VI v272)]) (fun (v272 : Int) => []) (fun h => ?_) (fun v272 h => ?_))))
    ·refine Run.so hm (.p2 e e (.nil (.condO e h (fun g273 h => ?_) (fun g273 h => ?_))))
     ·exact Run.ops hm (.p3 e e e (.nil (⟨_,_,(gh_pk [0,3,4,5] [] hB e e e e),_,h,e,e⟩)))
     ·exact Run.skip (⟨_,_,(gh_pk [0,3,4,5] [] hB e e e e),_,h,e,e⟩)
    ·refine Run.so hm (.p e ?_)
     obtain ⟨y280,hy280,h⟩ := bindO h
     refine Ops.z 37880 (Ev.call [] [] 0 (sem_spec_l01Figure _ _ _ hy280) e e (.d1 .nil) e (.inl e) e e) e e (.z 37896 (Ev.bsW (ys := ([y280] : List Int)) (f := encU) e (.d1 .nil) e e e e e) e e (.z 37912 (.sbC (addsW (f := encU) e e e (fun _ => e))) e e (.p e ?_)))
     obtain ⟨x281,hx281,h⟩ := bindO h
     refine Ops.z 37944 (Ev.addS e e hx281) e e (.p e (.nil (.ops hm (.p e ?_))))
     obtain ⟨x283,hx283,h⟩ := bindO h
     exact Ops.z 41976 (.bin e e hx283) e e (.p e (.nil (⟨m263,Nat.lt_succ_self m263,_,_,(gh_pk [0,3,4] [] hB e e e e),_,_,h,e,e⟩)))
   ·refine Run.exit ?_
    obtain rfl := someO h
    have h := hk263
    exact ⟨_,_,(gh_pk [3,4] [] hB e e e e),_,h,e,e⟩
  ·refine Run.seq (.so hm (.p e (.nil (.condO e h (fun g287 h => ?_) (fun g287 h => ?_)))))
   ·refine Run.so hm (.p e ?_)
    obtain ⟨x289,hx289,h⟩ := bindO h
    refine Ops.z 50168 (Ev.addS e e hx289) e e (.p e (.nil (.ret ?_)))
    obtain rfl := someO h
    exact Ends.mkG (.inl e) e (gh_pk [0] [] hB e e e e) e e
   ·refine Run.skip (.so hm (.p2 e e (.nil (.ret ?_))))
    obtain rfl := someO h
    exact Ends.mkG (.inl e) e (gh_pk [0] [] hB e e e e) e e
def spec_SegName (N : Nat) (x1 : Int) : Option (ByteArray) :=
 (spec_l01In N x1 0 999).bind fun y114 =>
 (if (!y114) = true then
 some (⟨#[]⟩ : ByteArray)
 else
 (spec_Decimal N x1).bind fun y118 =>
 (scat? (⟨#[103]⟩ : ByteArray) y118).bind fun x119 =>
 some x119)
theorem sem_spec_SegName (N : Nat) (x1 : Int) (r : ByteArray) (h : spec_SegName N x1 = some r) : Says Tryd.prog 22 [VI x1] 0 [] (VS r) [] := by
 unfold spec_SegName at h
 refine Says.of_norm e Tryd.call22 e fun B hB => ?_
 have hm : B.m ≤ 1000 := by omega
 refine Run.so hm (.p e (.nil (.seq (.so hm (.p e ?_)))))
 obtain ⟨y114,hy114,h⟩ := bindO h
 refine Ops.z 5112 (Ev.call [] [] 0 (sem_spec_l01In _ _ _ _ _ hy114) e e (.d2 (.d1 .nil)) e (.inl e) e e) e e (.p e (.nil (.condO e h (fun g115 h => ?_) (fun g115 h => ?_))))
 ·refine Run.so hm (.p e (.nil (.ret ?_)))
  obtain rfl := someO h
  exact Ends.mkG (.inl e) e (gh_pk [0] [] hB e e e e) e e
 ·refine Run.skip (.so hm (.p e ?_))
  obtain ⟨y118,hy118,h⟩ := bindO h
  refine Ops.z 13304 (Ev.call [] [] 0 (sem_spec_Decimal _ _ _ hy118) e e (.d1 .nil) e (.inl e) e e) e e ?_
  obtain ⟨x119,hx119,h⟩ := bindO h
  refine Ops.z 13320 (Ev.addS e e hx119) e e (.p e (.nil (.ret ?_)))
  obtain rfl := someO h
  exact Ends.mkG (.inl e) e (gh_pk [0] [] hB e e e e) e e
def spec_FormatShelf (N : Nat) (x1 : (List Int)) : Option (Disk × Bool) :=
 (spec_ManifestText N (Manifest.mk ([0] : List Int) 1 0 0 x1)).bind fun y111 =>
 (if (!y111.2) = true then
 some ((Disk.mk ([])),false)
 else
 (spec_SegName N 0).bind fun y115 =>
 some ((Disk.mk ([(File.mk y115 (⟨#[]⟩ : ByteArray)),(File.mk (⟨#[109]⟩ : ByteArray) y111.1)] : List File)),true))
theorem sem_spec_FormatShelf (N : Nat) (x1 : (List Int)) (r : Disk × Bool) (h : spec_FormatShelf N x1 = some r) : Says Tryd.prog 12 [RO 3 (x1.map encI)] 0 [] (.tup [.agg [.sl 0 41 0 r.1.Files.length],VB r.2]) [(0,.vec 41 (r.1.Files.map encFile))] := by
 unfold spec_FormatShelf at h
 refine Says.of_norm e Tryd.call12 e fun B hB => ?_
 have hm : B.m ≤ 1000 := by omega
 refine Run.so hm (.z 1000 (.al e e) e e (.p e (.nil (.so hm (.z 5096 (Ev.bsW (ys := ([0] : List Int)) (f := encI) e (.d1 .nil) e e e e e) e e (.p e (.z 5128 (.bd e e) e e ?_)))))))
 obtain ⟨y111,hy111,h⟩ := bindO h
 refine Ops.z 5144 (Ev.call [] [5096] 0 (sem_spec_ManifestText _ _ _ hy111) e e (.cons (.agg (.cons (.borrow e (by decide) (lendW (fun _ => e) _ e)) (.d4 .nil))) .nil) e (.inr ⟨e,ownL_root trivial⟩) e e) e e ?_
 refine Ops.p e (.p3 e e e (.p e (.nil (.seq (.so hm (.p2 e e (.nil (.condO e h (fun g113 h => ?_) (fun g113 h => ?_)))))))))
 ·refine Run.so hm (.z 13288 (.bd e e) e e (.y 13304 (.sto e e e e e e) e e (.p e (.nil (.ret ?_)))))
  obtain rfl := someO h
  exact Ends.mkG (.inl e) e (Gh.trans (Gh.trans (gh_prn [0,1] [] hB e) (gh_nil [0] [] hB e e e)) (gh_pk [0,1] [10000000] hB e e e e)) e e
 ·refine Run.skip (.so hm ?_)
  obtain ⟨y115,hy115,h⟩ := bindO h
  refine Ops.z 17384 (Ev.call [] [] 0 (sem_spec_SegName _ _ _ hy115) e e (.d1 .nil) e (.inl e) e e) e e (.z 17400 (.bd e e) e e (.p e (.z 17432 (.bd e e) e e (.z 17448 (Ev.bsW (ys := ([(File.mk y115 (⟨#[]⟩ : ByteArray)),(File.mk (⟨#[109]⟩ : ByteArray) y111.1)] : List File)) (f := encFile) e (.d4 .nil) e e e e e) e e (.z 17464 (.bd e e) e e (.y 17480 (.sto e e e e e e) e e (.p e (.nil (.ret ?_)))))))))
  obtain rfl := someO h
  exact Ends.mkG (.inl e) e (gh_pk [0,1] [17448] hB e e e e) e e
def spec_ReadConf_l1 (N : Nat) (x1 : ByteArray) : Nat → Int → (List Int) → Option ((List Int))
 | 0,_,_ => none
 | m + 1,x212,x213 =>
 (if (decide (x212 < (x1.size : Int))) = true then
 (if (decide (x212 ≤ 4)) = true then
 (sat? x1 x212).bind fun x242 =>
 (cat? x213 ([w64 (x242)] : List Int)).bind fun x243 =>
 spec_ReadConf_l1 N x1 m (w64 (x212 + 1)) x243
 else
 some x213)
 else
 some x213)
def spec_ReadConf (N : Nat) (x1 : ByteArray) : Option ((List Int) × Bool) :=
 joinP (fun (v210 : (List Int)) =>
 (if (((v210.length : Nat) : Int) != (x1.size : Int)) = true then
 some (([] : List Int),false)
 else
 (spec_ConfOk N v210).bind fun y252 =>
 (if (!y252) = true then
 some (([] : List Int),false)
 else
 some (v210,true)))) fun j210 =>
 (spec_ReadConf_l1 N x1 N 0 ([] : List Int)).bind (fun v228 => j210 v228)
theorem sem_spec_ReadConf (N : Nat) (x1 : ByteArray) (r : (List Int) × Bool) (h : spec_ReadConf N x1 = some r) : Says Tryd.prog 64 [VS x1] 0 [] (.tup [.sl 0 3 0 r.1.length,VB r.2]) [(0,.vec 3 (r.1.map encI))] := by
 unfold spec_ReadConf at h
 refine Says.of_norm e Tryd.call64 e fun B hB => ?_
 have hm : B.m ≤ 1000 := by omega
 refine Run.so hm (.p2 e e (.nil (.so hm (.z 5096 (Ev.bsW (ys := ([] : List Int)) (f := encI) e .nil e e e e e) e e (.p e (.nil (.seqO h (fun v210 => [(0,VS x1),(4,.sl 0 3 0 v210.length)]) (fun (v210 : (List Int)) => [(0,.vec 3 (v210.map encI))]) (fun h => ?_) (fun v210 h => ?_))))))))
 ·refine Run.so hm (.p e (.nil (.block ?_)))
  obtain ⟨res228,h,hk228⟩ := bindO h
  refine Run.loop (n := N) (fun m228 fr σ => ∃ (x212 : Int),∃ (x213 : (List Int)),spec_ReadConf_l1 N x1 m228 x212 x213 = some res228 ∧ fr = [(0,VS x1),(4,.sl 0 3 0 x213.length),(5,VI x212)] ∧ σ = [(0,.vec 3 (x213.map encI))]) (gh_pk [0,4,5] [5096] hB e e e e) ⟨_,_,h,e,e⟩ ?_
  rintro m228 fr σ ⟨x212,x213,h,rfl,rfl⟩
  obtain _ | m228 := m228
  ·rw [spec_ReadConf_l1] at h; cases h
  rw [spec_ReadConf_l1] at h
  refine Run.seq (.so hm (.p3 e e e (.p2 e e (.askO (x := .t 11) e h (fun g234 h => ?_) (fun g234 h => ?_)))))
  ·refine Ops.gp e g234 e (.gp e g234 e (.z 13400 (.pkT e g234 e) e e (.nil (.condO e h (fun g235 h => ?_) (fun g235 h => ?_)))))
   ·refine Run.skip (.seq (.block (.ops hm (.p3 e e e ?_))))
    obtain ⟨x242,hx242,h⟩ := bindO h
    refine Ops.z 21528 (Ev.ixS e e hx242) e e (.p e (.z 21560 (Ev.bsW (ys := ([w64 (x242)] : List Int)) (f := encI) e (.d1 .nil) e e e e e) e e ?_))
    obtain ⟨x243,hx243,h⟩ := bindO h
    exact Ops.z 21576 (Ev.apW (f := encI) (ontoW e e e) (addsW e e e (fun _ => e)) e bt3 e hx243) e e (.p e (.nil (.ops hm (.p3 e e e (.nil (⟨m228,Nat.lt_succ_self m228,_,_,(gh_pk [0,4,5] [21576] hB e e e e),_,_,h,e,e⟩))))))
   ·refine Run.exit ?_
    obtain rfl := someO h
    have h := hk228
    exact ⟨_,_,(gh_pk [0,4] [0] hB e e e e),_,h,e,e⟩
  ·refine Ops.gn e g234 (.gn e g234 (.z 13400 (.pkF e g234 e) e e (.nil (.condF e e (.exit ?_)))))
   obtain rfl := someO h
   have h := hk228
   exact ⟨_,_,(gh_pk [0,4] [0] hB e e e e),_,h,e,e⟩
 ·refine Run.seq (.so hm (.p3 e e e (.p3 e e e (.askO (x := .t 29) e h (fun g251 h => ?_) (fun g251 h => ?_)))))
  ·refine Ops.gn e g251 (.gn e g251 (.gn e g251 (.z 25720 (.pkT e g251 e) e e (.nil (.condT e e (.so hm (.z 29672 (Ev.bsW (ys := ([] : List Int)) (f := encI) e .nil e e e e e) e e (.p2 e e (.nil (.ret ?_))))))))))
   obtain rfl := someO h
   exact Ends.mkG (.inl e) e (gh_pk [0,1] [29672] hB e e e e) e e
  ·refine Ops.gp e g251 e ?_
   obtain ⟨y252,hy252,h⟩ := bindO h
   refine Ops.gs (s := 25688) e g251 (Ev.call [] [0] 0 (sem_spec_ConfOk _ _ _ hy252) e e (.cons (.borrow e (by decide) (lendW (fun _ => e) _ e)) .nil) e (.inr ⟨e,ownL_root trivial⟩) e e) e e ?_
   refine Ops.gp e g251 e (.z 25720 (.pkF e g251 e) e e (.nil (.condO e h (fun g253 h => ?_) (fun g253 h => ?_))))
   ·refine Run.so hm (.z 29672 (Ev.bsW (ys := ([] : List Int)) (f := encI) e .nil e e e e e) e e (.p2 e e (.nil (.ret ?_))))
    obtain rfl := someO h
    exact Ends.mkG (.inl e) e (gh_pk [0,1] [29672] hB e e e e) e e
   ·refine Run.skip (.so hm (.p3 e e e (.nil (.ret ?_))))
    obtain rfl := someO h
    exact Ends.mkG (.inl e) e (gh_pk [0,1] [0] hB e e e e) e e
def spec_EntryOk (N : Nat) (x1 : Entry) : Option (Bool) :=
 (spec_l01In N x1.Term 0 100000).bind fun y117 =>
 (if (!y117) = true then
 some false
 else
 (if (x1.Kind == 1) = true then
 some (decide (x1.Data = (⟨#[]⟩ : ByteArray)))
 else
 (if (x1.Kind == 2) = true then
 (spec_ReadConf N x1.Data).bind fun y124 =>
 some y124.2
 else
 (if (x1.Kind == 3) = true then
 some (decide ((x1.Data.size : Int) ≤ 120))
 else
 some false))))
theorem sem_spec_EntryOk (N : Nat) (x1 : Entry) (r : Bool) (h : spec_EntryOk N x1 = some r) : Says Tryd.prog 42 [.agg [VI x1.Term,VI x1.Kind,VS x1.Data]] 0 [] (VB r) [] := by
 unfold spec_EntryOk at h
 refine Says.of_norm e Tryd.call42 e fun B hB => ?_
 have hm : B.m ≤ 1000 := by omega
 refine Run.so hm (.z 1000 (.bx e e) e e (.p e (.nil (.seq (.so hm (.p2 e e ?_))))))
 obtain ⟨y117,hy117,h⟩ := bindO h
 refine Ops.z 5128 (Ev.call [] [] 0 (sem_spec_l01In _ _ _ _ _ hy117) e e (.d2 (.d1 .nil)) e (.inl e) e e) e e (.p e (.nil (.condO e h (fun g118 h => ?_) (fun g118 h => ?_))))
 ·refine Run.so hm (.p e (.nil (.ret ?_)))
  obtain rfl := someO h
  exact Ends.mkG (.inl e) e (gh_pk [0] [] hB e e e e) e e
 ·refine Run.skip (.seq (.so hm (.p2 e e (.nil (.block (.so hm (.p2 e e (.nil (.condO e h (fun g119 h => ?_) (fun g119 h => ?_))))))))))
  ·refine Run.so hm (.p3 e e e (.p e (.nil (.ret ?_))))
   obtain rfl := someO h
   exact Ends.mkG (.inl e) e (gh_pk [0] [] hB e e e e) e e
  ·refine Run.so hm (.p2 e e (.nil (.condO e h (fun g120 h => ?_) (fun g120 h => ?_))))
   ·refine Run.so hm (.p2 e e ?_)
    obtain ⟨y124,hy124,h⟩ := bindO h
    refine Ops.z 29704 (Ev.call [] [] 1 (sem_spec_ReadConf _ _ _ hy124) e e (.d1 .nil) e (.inl e) e e) e e (.p3 e e e (.p2 e e (.nil (.so hm (.p2 e e (.nil (.ret ?_)))))))
    obtain rfl := someO h
    exact Ends.mkG (.inl e) e (gh_pk [0] [] hB e e e e) e e
   ·refine Run.so hm (.p2 e e (.nil (.condO e h (fun g125 h => ?_) (fun g125 h => ?_))))
    ·refine Run.so hm (.p3 e e e (.p2 e e (.nil (.ret ?_))))
     obtain rfl := someO h
     exact Ends.mkG (.inl e) e (gh_pk [0] [] hB e e e e) e e
    ·refine Run.skip (.so hm (.p e (.nil (.ret ?_))))
     obtain rfl := someO h
     exact Ends.mkG (.inl e) e (gh_pk [0] [] hB e e e e) e e
def spec_LogOk_l1 (N : Nat) (x1 : Log) : Nat → Int → Int → Option ((Bool) ⊕ (Unit))
 | 0,_,_ => none
 | m + 1,x422,x423 =>
 (if (decide (x423 < (x1.Entries.length : Int))) = true then
 (at? x1.Entries x423).bind fun x507 =>
 (spec_EntryOk N x507).bind fun y508 =>
 (if (!y508) = true then
 some (Sum.inl false)
 else
 (at? x1.Entries x423).bind fun x510 =>
 (if (decide (x510.Term < x422)) = true then
 some (Sum.inl false)
 else
 (at? x1.Entries x423).bind fun x513 =>
 spec_LogOk_l1 N x1 m x513.Term (w64 (x423 + 1))))
 else
 some (Sum.inr ()))
def spec_LogOk_l1_r (N : Nat) (x1 : Log) : (List Entry) → Int → Int → Option ((Bool) ⊕ (Unit))
 | [],x422,x423 =>
 some (Sum.inr ())
 | hd :: tl,x422,x423 =>
 (some hd).bind fun x507 =>
 (spec_EntryOk N x507).bind fun y508 =>
 (if (!y508) = true then
 some (Sum.inl false)
 else
 (some hd).bind fun x510 =>
 (if (decide (x510.Term < x422)) = true then
 some (Sum.inl false)
 else
 (some hd).bind fun x513 =>
 spec_LogOk_l1_r N x1 tl x513.Term (w64 (x423 + 1))))
theorem spec_LogOk_l1_rng (N : Nat) (x1 : Log) (hx : x1.Entries.length ≤ 1099511627776) : ∀ (d k m : Nat) (x422 : Int),x1.Entries.length = k + d → d < m → spec_LogOk_l1 N x1 m x422 (k : Int) = spec_LogOk_l1_r N x1 (x1.Entries.drop k) x422 (k : Int) := by
 intro d
 induction d with
 | zero =>
  intro k m x422 hd hm
  obtain ⟨m,rfl⟩ : ∃ q,m = q + 1 := ⟨m - 1,by omega⟩
  rw [spec_LogOk_l1,if_neg (by simp; omega),List.drop_eq_nil_of_le (by omega),spec_LogOk_l1_r]
 | succ d ih =>
  intro k m x422 hd hm
  obtain ⟨m,rfl⟩ : ∃ q,m = q + 1 := ⟨m - 1,by omega⟩
  have hk : k < x1.Entries.length := by omega
  rw [spec_LogOk_l1,if_pos (by simp; omega),List.drop_eq_getElem_cons hk,spec_LogOk_l1_r]
  have h1 := at_lt hk
  have h2 := w64_succ (k := k) (by omega)
  have h3 := ih (k + 1) m
  simp only [h1,h2,h3 _ (by omega) (by omega)]
theorem spec_LogOk_l1_eq {N : Nat} (x1 : Log) (hx : x1.Entries.length ≤ 1099511627776) (hN : x1.Entries.length < N) (x422 : Int) : spec_LogOk_l1 N x1 N x422 0 = spec_LogOk_l1_r N x1 x1.Entries x422 0 := spec_LogOk_l1_rng N x1 hx x1.Entries.length 0 N x422 (by omega) hN
def spec_LogOk (N : Nat) (x1 : Log) : Option (Bool) :=
 (spec_l01In N x1.Start 0 100000).bind fun y323 =>
 (if (!y323) = true then
 some false
 else
 (spec_l01In N x1.StartTerm 0 100000).bind fun y325 =>
 (if (!y325) = true then
 some false
 else
 (if (decide ((x1.Entries.length : Int) > 120)) = true then
 some false
 else
 (if (decide ((w64 (x1.Start + (x1.Entries.length : Int))) > 100000)) = true then
 some false
 else
 joinP (fun (v421 : Unit) =>
 some true) fun j421 =>
 (spec_LogOk_l1 N x1 N x1.StartTerm 0).bind (Sum.elim (fun v469 => some v469) (fun (v470 : Unit) => j421 ()))))))
theorem sem_spec_LogOk (N : Nat) (x1 : Log) (r : Bool) (h : spec_LogOk N x1 = some r) : Says Tryd.prog 23 [.agg [VI x1.Start,VI x1.StartTerm,RO 64 (x1.Entries.map encEntry)]] 0 [] (VB r) [] := by
 unfold spec_LogOk at h
 refine Says.of_norm e Tryd.call23 e fun B hB => ?_
 have hm : B.m ≤ 1000 := by omega
 refine Run.so hm (.z 1000 (.bx e e) e e (.p e (.nil (.seq (.so hm (.p2 e e ?_))))))
 obtain ⟨y323,hy323,h⟩ := bindO h
 refine Ops.z 5128 (Ev.call [] [] 0 (sem_spec_l01In _ _ _ _ _ hy323) e e (.d2 (.d1 .nil)) e (.inl e) e e) e e (.p2 e e (.askO (x := .t 9) e h (fun g324 h => ?_) (fun g324 h => ?_)))
 ·refine Ops.gn e g324 (.gn e g324 (.gn e g324 (.gn e g324 (.z 5240 (.pkT e g324 e) e e (.p e (.gn e e (.gn e e (.gn e e (.gn e e (.z 5336 (.pkT e e e) e e (.p e (.gn e e (.gn e e (.gn e e (.gn e e (.gn e e (.gn e e (.gn e e (.z 5480 (.pkT e e e) e e (.nil (.condT e e (.so hm (.p e (.nil (.ret ?_)))))))))))))))))))))))))
  obtain rfl := someO h
  exact Ends.mkG (.inl e) e (gh_pk [0] [] hB e e e e) e e
 ·refine Ops.gp e g324 e (.gp e g324 e ?_)
  obtain ⟨y325,hy325,h⟩ := bindO h
  refine Ops.gs (s := 5208) e g324 (Ev.call [] [] 0 (sem_spec_l01In _ _ _ _ _ hy325) e e (.d2 (.d1 .nil)) e (.inl e) e e) e e (.gp e g324 e (.z 5240 (.pkF e g324 e) e e (.p e (.askO (x := .t 15) e h (fun g326 h => ?_) (fun g326 h => ?_)))))
  ·refine Ops.gn e g326 (.gn e g326 (.gn e g326 (.gn e g326 (.z 5336 (.pkT e g326 e) e e (.p e (.gn e e (.gn e e (.gn e e (.gn e e (.gn e e (.gn e e (.gn e e (.z 5480 (.pkT e e e) e e (.nil (.condT e e (.so hm (.p e (.nil (.ret ?_)))))))))))))))))))
   obtain rfl := someO h
   exact Ends.mkG (.inl e) e (gh_pk [0] [] hB e e e e) e e
  ·refine Ops.gp e g326 e (.gp e g326 e (.gs (s := 5304) e g326 (Ev.lnF e) e e (.gp e g326 e (.z 5336 (.pkF e g326 e) e e (.p e (.askO (x := .t 21) e h (fun g327 h => ?_) (fun g327 h => ?_)))))))
   ·refine Ops.gn e g327 (.gn e g327 (.gn e g327 (.gn e g327 (.gn e g327 (.gn e g327 (.gn e g327 (.z 5480 (.pkT e g327 e) e e (.nil (.condT e e (.so hm (.p e (.nil (.ret ?_)))))))))))))
    obtain rfl := someO h
    exact Ends.mkG (.inl e) e (gh_pk [0] [] hB e e e e) e e
   ·refine Ops.gp e g327 e (.gp e g327 e (.gp e g327 e (.gp e g327 e (.gs (s := 5432) e g327 (Ev.lnF e) e e (.gp e g327 e (.gp e g327 e (.z 5480 (.pkF e g327 e) e e (.nil (.condO e h (fun g328 h => ?_) (fun g328 h => ?_))))))))))
    ·refine Run.so hm (.p e (.nil (.ret ?_)))
     obtain rfl := someO h
     exact Ends.mkG (.inl e) e (gh_pk [0] [] hB e e e e) e e
    ·refine Run.skip (.so hm (.p3 e e e (.nil (.seqO h (fun v421 => []) (fun (v421 : Unit) => []) (fun h => ?_) (fun v421 h => ?_)))))
     ·refine Run.so hm (.p e (.nil (.block ?_)))
      obtain ⟨res470,h,hk470⟩ := bindO h
      refine Run.loop (n := N) (fun m470 fr σ => ∃ (x422 : Int),∃ (x423 : Int),spec_LogOk_l1 N x1 m470 x422 x423 = some res470 ∧ fr = [(1,.ptr 0 0),(3,VI x422),(4,VI x423)] ∧ σ = [(0,.box [VI x1.Start,VI x1.StartTerm,RO 64 (x1.Entries.map encEntry)])]) (gh_pk [1,3,4] [1000] hB e e e e) ⟨_,_,h,e,e⟩ ?_
      rintro m470 fr σ ⟨x422,x423,h,rfl,rfl⟩
      obtain _ | m470 := m470
      ·rw [spec_LogOk_l1] at h; cases h
      rw [spec_LogOk_l1] at h
      refine Run.seq (.so hm (.p3 e e e (.z 21528 (Ev.lnF e) e e (.p e (.nil (.condO e h (fun g473 h => ?_) (fun g473 h => ?_)))))))
      ·refine Run.skip (.seq (.block (.seq (.so hm (.p3 e e e ?_)))))
       obtain ⟨x507,hx507,h⟩ := bindO h
       refine Ops.z 29720 (Ev.iaF e e hx507) e e (.p e ?_)
       obtain ⟨y508,hy508,h⟩ := bindO h
       refine Ops.z 29752 (Ev.call [] [] 0 (sem_spec_EntryOk _ _ _ hy508) e e (.cons (.agg (.d2 (.d1 .nil))) .nil) e (.inl e) e e) e e (.p2 e e (.askO (x := .t 46) e h (fun g509 h => ?_) (fun g509 h => ?_)))
       ·refine Ops.gn e g509 (.gn e g509 (.gn e g509 (.gn e g509 (.gn e g509 (.gn e g509 (.gn e g509 (.gn e g509 (.z 29928 (.pkT e g509 e) e e (.nil (.condT e e (.so hm (.p e (.nil (.ret ?_))))))))))))))
        obtain rfl := someO h
        have h := hk470
        replace h := inlO h
        obtain rfl := someO h
        exact Ends.mkG (.inl e) e (gh_pk [0] [] hB e e e e) e e
       ·refine Ops.gp e g509 e (.gp e g509 e (.gp e g509 e ?_))
        obtain ⟨x510,hx510,h⟩ := bindO h
        refine Ops.gs (s := 29848) e g509 (Ev.iaF e e hx510) e e (.gp e g509 e (.gp e g509 e (.gp e g509 e (.gp e g509 e (.z 29928 (.pkF e g509 e) e e (.nil (.condO e h (fun g511 h => ?_) (fun g511 h => ?_))))))))
        ·refine Run.so hm (.p e (.nil (.ret ?_)))
         obtain rfl := someO h
         have h := hk470
         replace h := inlO h
         obtain rfl := someO h
         exact Ends.mkG (.inl e) e (gh_pk [0] [] hB e e e e) e e
        ·refine Run.skip (.ops hm (.p3 e e e ?_))
         obtain ⟨x513,hx513,h⟩ := bindO h
         exact Ops.z 37912 (Ev.iaF e e hx513) e e (.p3 e e e (.nil (.ops hm (.p3 e e e (.nil (⟨m470,Nat.lt_succ_self m470,_,_,(gh_pk [1,3,4] [0] hB e e e e),_,_,h,e,e⟩))))))
      ·refine Run.exit ?_
       obtain rfl := someO h
       have h := hk470
       replace h := inrO h
       exact ⟨_,_,(gh_pk [] [] hB e e e e),(),h,e,e⟩
     ·refine Run.so hm (.p e (.nil (.ret ?_)))
      obtain rfl := someO h
      exact Ends.mkG (.inl e) e (gh_pk [0] [] hB e e e e) e e
def spec_Frame (N : Nat) (x1 : ByteArray) : Option (ByteArray × Bool) :=
 (spec_l01In N (x1.size : Int) 1 9000).bind fun y120 =>
 (if (!y120) = true then
 some ((⟨#[]⟩ : ByteArray),false)
 else
 (spec_l01Var N (x1.size : Int)).bind fun y127 =>
 (spec_SumOf N x1).bind fun y128 =>
 (spec_l02Four N y128).bind fun y129 =>
 (scat? y127 y129).bind fun x130 =>
 (scat? x130 x1).bind fun x131 =>
 some (x131,true))
theorem sem_spec_Frame (N : Nat) (x1 : ByteArray) (r : ByteArray × Bool) (h : spec_Frame N x1 = some r) : Says Tryd.prog 43 [VS x1] 0 [] (.tup [VS r.1,VB r.2]) [] := by
 unfold spec_Frame at h
 refine Says.of_norm e Tryd.call43 e fun B hB => ?_
 have hm : B.m ≤ 1000 := by omega
 refine Run.so hm (.p2 e e (.nil (.seq (.so hm (.p2 e e ?_)))))
 obtain ⟨y120,hy120,h⟩ := bindO h
 refine Ops.z 5128 (Ev.call [] [] 0 (sem_spec_l01In _ _ _ _ _ hy120) e e (.d2 (.d1 .nil)) e (.inl e) e e) e e (.p e (.nil (.condO e h (fun g121 h => ?_) (fun g121 h => ?_))))
 ·refine Run.so hm (.p2 e e (.nil (.ret ?_)))
  obtain rfl := someO h
  exact Ends.mkG (.inl e) e (gh_pk [0,1] [] hB e e e e) e e
 ·refine Run.skip (.so hm (.p2 e e ?_))
  obtain ⟨y127,hy127,h⟩ := bindO h
  refine Ops.z 13320 (Ev.call [] [] 0 (sem_spec_l01Var _ _ _ hy127) e e (.d1 .nil) e (.inl e) e e) e e (.p e ?_)
  obtain ⟨y128,hy128,h⟩ := bindO h
  refine Ops.z 13352 (Ev.call [] [] 0 (sem_spec_SumOf _ _ _ hy128) e e (.d1 .nil) e (.inl e) e e) e e ?_
  obtain ⟨y129,hy129,h⟩ := bindO h
  refine Ops.z 13368 (Ev.call [] [] 0 (sem_spec_l02Four _ _ _ hy129) e e (.d1 .nil) e (.inl e) e e) e e ?_
  obtain ⟨x130,hx130,h⟩ := bindO h
  refine Ops.z 13384 (Ev.addS e e hx130) e e (.p e ?_)
  obtain ⟨x131,hx131,h⟩ := bindO h
  refine Ops.z 13416 (Ev.addS e e hx131) e e (.p2 e e (.nil (.ret ?_)))
  obtain rfl := someO h
  exact Ends.mkG (.inl e) e (gh_pk [0,1] [] hB e e e e) e e
def spec_l12Head (N : Nat) (x1 : Log) : Option (ByteArray) :=
 (spec_l01Var N x1.Start).bind fun y135 =>
 (scat? (⟨#[83]⟩ : ByteArray) y135).bind fun x136 =>
 (spec_l01Var N x1.StartTerm).bind fun y137 =>
 (scat? x136 y137).bind fun x138 =>
 (spec_Frame N x138).bind fun y139 =>
 some y139.1
theorem sem_spec_l12Head (N : Nat) (x1 : Log) (r : ByteArray) (h : spec_l12Head N x1 = some r) : Says Tryd.prog 24 [.agg [VI x1.Start,VI x1.StartTerm,RO 64 (x1.Entries.map encEntry)]] 0 [] (VS r) [] := by
 unfold spec_l12Head at h
 refine Says.of_norm e Tryd.call24 e fun B hB => ?_
 have hm : B.m ≤ 1000 := by omega
 refine Run.so hm (.z 1000 (.bx e e) e e (.p e (.nil (.seq (.draw hm hmix (.p e (.p e ?_)))))))
 obtain ⟨y135,hy135,h⟩ := bindO h
 refine OpsD.z 5128 (Ev.call [] [] 0 (sem_spec_l01Var _ _ _ hy135) e e (.d1 .nil) e (.inl e) e e) e e ?_
 obtain ⟨x136,hx136,h⟩ := bindO h
 refine OpsD.z 5144 (Ev.addS e e hx136) e e (.p e (.p e ?_))
 obtain ⟨y137,hy137,h⟩ := bindO h
 refine OpsD.z 5192 (Ev.call [] [] 0 (sem_spec_l01Var _ _ _ hy137) e e (.d1 .nil) e (.inl e) e e) e e ?_
 obtain ⟨x138,hx138,h⟩ := bindO h
 refine OpsD.z 5208 (Ev.addS e e hx138) e e ?_
 obtain ⟨y139,hy139,h⟩ := bindO h
 refine OpsD.z 5224 (Ev.call [] [] 0 (sem_spec_Frame _ _ _ hy139) e e (.d1 .nil) e (.inl e) e e) e e (.p e (.p e (.p e (.p e (.p e (.nil ⟨by kernel_rfl,?_⟩))))))
 refine Run.so hm (.p2 e e (.nil (.ret ?_)))
 obtain rfl := someO h
 exact Ends.mkG (.inl e) e (gh_pk [0] [] hB e e e e) e e
def spec_EntryText (N : Nat) (x1 : Int) (x2 : Entry) : Option (ByteArray × Bool) :=
 (spec_EntryOk N x2).bind fun y136 =>
 (if (!y136) = true then
 some ((⟨#[]⟩ : ByteArray),false)
 else
 (spec_l01In N x1 1 100000).bind fun y138 =>
 (if (!y138) = true then
 some ((⟨#[]⟩ : ByteArray),false)
 else
 (spec_l01Var N x1).bind fun y146 =>
 (scat? (⟨#[69]⟩ : ByteArray) y146).bind fun x147 =>
 (spec_l01Var N x2.Term).bind fun y148 =>
 (scat? x147 y148).bind fun x149 =>
 (scat? x149 (strOf ([IntKind.wrap .u8 (x2.Kind)] : List Int))).bind fun x150 =>
 (scat? x150 x2.Data).bind fun x151 =>
 some (x151,true)))
theorem sem_spec_EntryText (N : Nat) (x1 : Int) (x2 : Entry) (r : ByteArray × Bool) (h : spec_EntryText N x1 x2 = some r) : Says Tryd.prog 44 [VI x1,.agg [VI x2.Term,VI x2.Kind,VS x2.Data]] 0 [] (.tup [VS r.1,VB r.2]) [] := by
 unfold spec_EntryText at h
 refine Says.of_norm e Tryd.call44 e fun B hB => ?_
 have hm : B.m ≤ 1000 := by omega
 refine Run.so hm (.z 1000 (.bx e e) e e (.p2 e e (.nil (.seq (.so hm (.p e ?_))))))
 obtain ⟨y136,hy136,h⟩ := bindO h
 refine Ops.z 5112 (Ev.call [] [] 0 (sem_spec_EntryOk _ _ _ hy136) e e (.cons (.agg (.d2 (.d1 .nil))) .nil) e (.inl e) e e) e e (.p2 e e (.askO (x := .t 9) e h (fun g137 h => ?_) (fun g137 h => ?_)))
 ·refine Ops.gn e g137 (.gn e g137 (.gn e g137 (.z 5208 (.pkT e g137 e) e e (.nil (.condT e e (.so hm (.p2 e e (.nil (.ret ?_)))))))))
  obtain rfl := someO h
  exact Ends.mkG (.inl e) e (gh_pk [0,1] [] hB e e e e) e e
 ·refine Ops.gp e g137 e ?_
  obtain ⟨y138,hy138,h⟩ := bindO h
  refine Ops.gs (s := 5176) e g137 (Ev.call [] [] 0 (sem_spec_l01In _ _ _ _ _ hy138) e e (.d2 (.d1 .nil)) e (.inl e) e e) e e (.gp e g137 e (.z 5208 (.pkF e g137 e) e e (.nil (.condO e h (fun g139 h => ?_) (fun g139 h => ?_)))))
  ·refine Run.so hm (.p2 e e (.nil (.ret ?_)))
   obtain rfl := someO h
   exact Ends.mkG (.inl e) e (gh_pk [0,1] [] hB e e e e) e e
  ·refine Run.skip (.seq (.draw hm hmix (.p e ?_)))
   obtain ⟨y146,hy146,h⟩ := bindO h
   refine OpsD.z 13304 (Ev.call [] [] 0 (sem_spec_l01Var _ _ _ hy146) e e (.d1 .nil) e (.inl e) e e) e e ?_
   obtain ⟨x147,hx147,h⟩ := bindO h
   refine OpsD.z 13320 (Ev.addS e e hx147) e e (.p e (.p e ?_))
   obtain ⟨y148,hy148,h⟩ := bindO h
   refine OpsD.z 13368 (Ev.call [] [] 0 (sem_spec_l01Var _ _ _ hy148) e e (.d1 .nil) e (.inl e) e e) e e ?_
   obtain ⟨x149,hx149,h⟩ := bindO h
   refine OpsD.z 13384 (Ev.addS e e hx149) e e (.p e (.p e (.p e (.z 13448 (Ev.bsW (ys := ([IntKind.wrap .u8 (x2.Kind)] : List Int)) (f := encU) e (.d1 .nil) e e e e e) e e (.z 13464 (.sbC (addsW (f := encU) e e e (fun _ => e))) e e ?_)))))
   obtain ⟨x150,hx150,h⟩ := bindO h
   refine OpsD.z 13480 (Ev.addS e e hx150) e e (.p e (.p e ?_))
   obtain ⟨x151,hx151,h⟩ := bindO h
   refine OpsD.z 13528 (Ev.addS e e hx151) e e (.p e (.p e (.nil ⟨by kernel_rfl,?_⟩)))
   refine Run.ret ?_
   obtain rfl := someO h
   exact Ends.mkG (.inl e) e (gh_pk [0,1] [] hB e e e e) e e
def spec_l12Frames_l1 (N : Nat) (x1 : Log) : Nat → Int → (List Int) → Option ((List Int))
 | 0,_,_ => none
 | m + 1,x303,x307 =>
 (if (decide (x303 < (x1.Entries.length : Int))) = true then
 (at? x1.Entries x303).bind fun x362 =>
 (spec_EntryText N (w64 ((w64 (x1.Start + 1)) + x303)) x362).bind fun y363 =>
 (spec_Frame N y363.1).bind fun y367 =>
 (cat? x307 (intsOf y367.1)).bind fun x369 =>
 spec_l12Frames_l1 N x1 m (w64 (x303 + 1)) x369
 else
 some x307)
def spec_l12Frames_l1_r (N : Nat) (x1 : Log) : (List Entry) → Int → (List Int) → Option ((List Int))
 | [],x303,x307 =>
 some x307
 | hd :: tl,x303,x307 =>
 (some hd).bind fun x362 =>
 (spec_EntryText N (w64 ((w64 (x1.Start + 1)) + x303)) x362).bind fun y363 =>
 (spec_Frame N y363.1).bind fun y367 =>
 (cat? x307 (intsOf y367.1)).bind fun x369 =>
 spec_l12Frames_l1_r N x1 tl (w64 (x303 + 1)) x369
theorem spec_l12Frames_l1_rng (N : Nat) (x1 : Log) (hx : x1.Entries.length ≤ 1099511627776) : ∀ (d k m : Nat) (x307 : (List Int)),x1.Entries.length = k + d → d < m → spec_l12Frames_l1 N x1 m (k : Int) x307 = spec_l12Frames_l1_r N x1 (x1.Entries.drop k) (k : Int) x307 := by
 intro d
 induction d with
 | zero =>
  intro k m x307 hd hm
  obtain ⟨m,rfl⟩ : ∃ q,m = q + 1 := ⟨m - 1,by omega⟩
  rw [spec_l12Frames_l1,if_neg (by simp; omega),List.drop_eq_nil_of_le (by omega),spec_l12Frames_l1_r]
 | succ d ih =>
  intro k m x307 hd hm
  obtain ⟨m,rfl⟩ : ∃ q,m = q + 1 := ⟨m - 1,by omega⟩
  have hk : k < x1.Entries.length := by omega
  rw [spec_l12Frames_l1,if_pos (by simp; omega),List.drop_eq_getElem_cons hk,spec_l12Frames_l1_r]
  have h1 := at_lt hk
  have h2 := w64_succ (k := k) (by omega)
  have h3 := ih (k + 1) m
  simp only [h1,h2,h3 _ (by omega) (by omega)]
theorem spec_l12Frames_l1_eq {N : Nat} (x1 : Log) (hx : x1.Entries.length ≤ 1099511627776) (hN : x1.Entries.length < N) (x307 : (List Int)) : spec_l12Frames_l1 N x1 N 0 x307 = spec_l12Frames_l1_r N x1 x1.Entries 0 x307 := spec_l12Frames_l1_rng N x1 hx x1.Entries.length 0 N x307 (by omega) hN
def spec_l12Frames (N : Nat) (x1 : Log) (x2 : Int) : Option (ByteArray) :=
 joinP (fun (v302 : (List Int)) =>
 some (strOf v302)) fun j302 =>
 (spec_l12Frames_l1 N x1 N x2 ([] : List Int)).bind (fun v338 => j302 v338)
theorem sem_spec_l12Frames (N : Nat) (x1 : Log) (x2 : Int) (r : ByteArray) (h : spec_l12Frames N x1 x2 = some r) : Says Tryd.prog 25 [.agg [VI x1.Start,VI x1.StartTerm,RO 64 (x1.Entries.map encEntry)],VI x2] 0 [] (VS r) [] := by
 unfold spec_l12Frames at h
 refine Says.of_norm e Tryd.call25 e fun B hB => ?_
 have hm : B.m ≤ 1000 := by omega
 refine Run.so hm (.z 1000 (.bx e e) e e (.p e (.nil (.so hm (.z 5096 (Ev.bsW (ys := ([] : List Int)) (f := encU) e .nil e e e e e) e e (.p e (.nil (.seqO h (fun v302 => [(5,.sl 0 5 0 v302.length)]) (fun (v302 : (List Int)) => [(0,.vec 5 (v302.map encU))]) (fun h => ?_) (fun v302 h => ?_)))))))))
 ·refine Run.so hm (.p2 e e (.nil (.block ?_)))
  obtain ⟨res338,h,hk338⟩ := bindO h
  refine Run.loop (n := N) (fun m338 fr σ => ∃ (x303 : Int),∃ (x307 : (List Int)),spec_l12Frames_l1 N x1 m338 x303 x307 = some res338 ∧ fr = [(2,.ptr 0 0),(5,.sl 1 5 0 x307.length),(6,VI x303)] ∧ σ = [(0,.box [VI x1.Start,VI x1.StartTerm,RO 64 (x1.Entries.map encEntry)]),(1,.vec 5 (x307.map encU))]) (gh_pk [2,5,6] [1000,5096] hB e e e e) ⟨_,_,h,e,e⟩ ?_
  rintro m338 fr σ ⟨x303,x307,h,rfl,rfl⟩
  obtain _ | m338 := m338
  ·rw [spec_l12Frames_l1] at h; cases h
  rw [spec_l12Frames_l1] at h
  refine Run.seq (.so hm (.p3 e e e (.z 13336 (Ev.lnF e) e e (.p e (.nil (.condO e h (fun g341 h => ?_) (fun g341 h => ?_)))))))
  ·refine Run.skip (.seq (.block (.seq (.draw hm hmix (.p e (.p e (.p e (.p e (.p e (.p e (.p e (.p e ?_))))))))))))
   obtain ⟨x362,hx362,h⟩ := bindO h
   refine OpsD.z 21608 (Ev.iaF e e hx362) e e (.p e ?_)
   obtain ⟨y363,hy363,h⟩ := bindO h
   refine OpsD.z 21640 (Ev.call [] [] 0 (sem_spec_EntryText _ _ _ _ hy363) e e (.d1 (.cons (.agg (.d2 (.d1 .nil))) .nil)) e (.inl e) e e) e e (.p e (.p e (.p e (.p e (.p e (.nil ⟨by kernel_rfl,?_⟩))))))
   refine Run.so hm (.p e ?_)
   obtain ⟨y367,hy367,h⟩ := bindO h
   refine Ops.z 25592 (Ev.call [] [] 0 (sem_spec_Frame _ _ _ hy367) e e (.d1 .nil) e (.inl e) e e) e e (.p3 e e e (.p2 e e (.nil (.ops hm (.p2 e e (.z 29704 (Ev.bsR e) e e ?_))))))
   obtain ⟨x369,hx369,h⟩ := bindO h
   exact Ops.z 29720 (Ev.apW (f := encU) (ontoW e e e) (addsF e) e bt5 e hx369) e e (.p e (.nil (.ops hm (.p3 e e e (.nil (⟨m338,Nat.lt_succ_self m338,_,_,(gh_pk [2,5,6] [0,29720] hB e e e e),_,_,h,e,e⟩))))))
  ·refine Run.exit ?_
   obtain rfl := someO h
   have h := hk338
   exact ⟨_,_,(gh_pk [5] [1] hB e e e e),_,h,e,e⟩
 ·refine Run.so hm (.p e (.z 33784 (.sbC (addsW (f := encU) e e e (fun _ => e))) e e (.p e (.nil (.ret ?_)))))
  obtain rfl := someO h
  exact Ends.mkG (.inl e) e (gh_pk [0] [] hB e e e e) e e
end Go.Proofs.YteoobblblpljfaaDoor.Pe.FnExactFormatDisk
