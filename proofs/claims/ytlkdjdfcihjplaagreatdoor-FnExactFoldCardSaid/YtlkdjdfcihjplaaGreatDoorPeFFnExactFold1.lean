/- Functions,as pure functions; and that Go does just that. -/
import Derived.Test.YtlkdjdfcihjplaaGreatDoorPeFFnExactFold0
namespace Go.Proofs.YtlkdjdfcihjplaaGreatDoor.Pe.FnExactFold
open Go Go.RowKit
set_option linter.unusedVariables false
set_option linter.unusedSimpArgs false
set_option maxHeartbeats 40000000
set_option maxRecDepth 100000
def spec_l15Sessions_l2 (N : Nat) (x1520 : (List Tl15State)) (y1896 : Int × Bool) : Nat → Int → Option (Int)
 | 0,_ => none
 | m + 1,x1946 =>
 (if (decide (x1946 > 0)) = true then
 (at? x1520 (w64 (x1946 - 1))).bind fun x1972 =>
 (if (decide (x1972.id > y1896.1)) = true then
 spec_l15Sessions_l2 N x1520 y1896 m (w64 (x1946 - 1))
 else
 some x1946)
 else
 some x1946)
def spec_l15Sessions_l1 (N : Nat) (x1 : (List Pair)) : Nat → Int → (List Tl15State) → Option (((List Tl15State) × Bool) ⊕ ((List Tl15State)))
 | 0,_,_ => none
 | m + 1,x1519,x1520 =>
 (if (decide (x1519 < (x1.length : Int))) = true then
 joinP (fun (v1874 : (List Tl15State)) =>
 spec_l15Sessions_l1 N x1 m (w64 (x1519 + 1)) v1874) fun j1874 =>
 (at? x1 x1519).bind fun x1882 =>
 (sat? x1882.Key 0).bind fun x1883 =>
 (if (x1883 != 115) = true then
 j1874 x1520
 else
 (at? x1 x1519).bind fun x1894 =>
 (sdrop? x1894.Key 1).bind fun x1895 =>
 (spec_ReadDecimal N x1895).bind fun y1896 =>
 (at? x1 x1519).bind fun x1903 =>
 (spec_l15Read N y1896.1 x1903.Value).bind fun y1904 =>
 (if (!y1896.2) = true then
 some (Sum.inl (x1520,false))
 else
 (if (!y1904.2) = true then
 some (Sum.inl (x1520,false))
 else
 joinP (fun (v1942 : Int) =>
 (take? x1520 v1942).bind fun x1980 =>
 (cat? ([] : List Tl15State) (x1520.take v1942.toNat)).bind fun x1981 =>
 (cat? x1981 ([y1904.1] : List Tl15State)).bind fun x1985 =>
 (drop? x1520 v1942).bind fun x1988 =>
 (cat? x1985 ((x1520.drop v1942.toNat).take (x1520.length - v1942.toNat))).bind fun x1989 =>
 j1874 x1989) fun j1942 =>
 (spec_l15Sessions_l2 N x1520 y1896 N ((x1520.length : Nat) : Int)).bind (fun v1962 => j1942 v1962))))
 else
 some (Sum.inr x1520))
def spec_l15Sessions_l1_r (N : Nat) (x1 : (List Pair)) : (List Pair) → Int → (List Tl15State) → Option (((List Tl15State) × Bool) ⊕ ((List Tl15State)))
 | [],x1519,x1520 =>
 some (Sum.inr x1520)
 | hd :: tl,x1519,x1520 =>
 joinP (fun (v1874 : (List Tl15State)) =>
 spec_l15Sessions_l1_r N x1 tl (w64 (x1519 + 1)) v1874) fun j1874 =>
 (some hd).bind fun x1882 =>
 (sat? x1882.Key 0).bind fun x1883 =>
 (if (x1883 != 115) = true then
 j1874 x1520
 else
 (some hd).bind fun x1894 =>
 (sdrop? x1894.Key 1).bind fun x1895 =>
 (spec_ReadDecimal N x1895).bind fun y1896 =>
 (some hd).bind fun x1903 =>
 (spec_l15Read N y1896.1 x1903.Value).bind fun y1904 =>
 (if (!y1896.2) = true then
 some (Sum.inl (x1520,false))
 else
 (if (!y1904.2) = true then
 some (Sum.inl (x1520,false))
 else
 joinP (fun (v1942 : Int) =>
 (take? x1520 v1942).bind fun x1980 =>
 (cat? ([] : List Tl15State) (x1520.take v1942.toNat)).bind fun x1981 =>
 (cat? x1981 ([y1904.1] : List Tl15State)).bind fun x1985 =>
 (drop? x1520 v1942).bind fun x1988 =>
 (cat? x1985 ((x1520.drop v1942.toNat).take (x1520.length - v1942.toNat))).bind fun x1989 =>
 j1874 x1989) fun j1942 =>
 (spec_l15Sessions_l2 N x1520 y1896 N ((x1520.length : Nat) : Int)).bind (fun v1962 => j1942 v1962))))
theorem spec_l15Sessions_l1_rng (N : Nat) (x1 : (List Pair)) (hx : x1.length ≤ 1099511627776) : ∀ (d k m : Nat) (x1520 : (List Tl15State)),x1.length = k + d → d < m → spec_l15Sessions_l1 N x1 m (k : Int) x1520 = spec_l15Sessions_l1_r N x1 (x1.drop k) (k : Int) x1520 := by
 intro d
 induction d with
 | zero =>
  intro k m x1520 hd hm
  obtain ⟨m,rfl⟩ : ∃ q,m = q + 1 := ⟨m - 1,by omega⟩
  rw [spec_l15Sessions_l1,if_neg (by simp; omega),List.drop_eq_nil_of_le (by omega),spec_l15Sessions_l1_r]
 | succ d ih =>
  intro k m x1520 hd hm
  obtain ⟨m,rfl⟩ : ∃ q,m = q + 1 := ⟨m - 1,by omega⟩
  have hk : k < x1.length := by omega
  rw [spec_l15Sessions_l1,if_pos (by simp; omega),List.drop_eq_getElem_cons hk,spec_l15Sessions_l1_r]
  have h1 := at_lt hk
  have h2 := w64_succ (k := k) (by omega)
  have h3 := ih (k + 1) m
  simp only [h1,h2,h3 _ (by omega) (by omega)]
theorem spec_l15Sessions_l1_eq {N : Nat} (x1 : (List Pair)) (hx : x1.length ≤ 1099511627776) (hN : x1.length < N) (x1520 : (List Tl15State)) : spec_l15Sessions_l1 N x1 N 0 x1520 = spec_l15Sessions_l1_r N x1 x1 0 x1520 := spec_l15Sessions_l1_rng N x1 hx x1.length 0 N x1520 (by omega) hN
def spec_l15Sessions (N : Nat) (x1 : (List Pair)) : Option ((List Tl15State) × Bool) :=
 joinP (fun (v1517 : (List Tl15State)) =>
 some (v1517,true)) fun j1517 =>
 (spec_l15Sessions_l1 N x1 N 0 ([] : List Tl15State)).bind (Sum.elim (fun v1754 => some v1754) (fun (v1755 : (List Tl15State)) => j1517 v1755))
theorem sem_spec_l15Sessions (N : Nat) (x1 : (List Pair)) (r : (List Tl15State) × Bool) (h : spec_l15Sessions N x1 = some r) : Says Tryz.prog 37 [RO 50 (x1.map encPair)] 0 [] (.tup [.sl 0 78 0 r.1.length,VB r.2]) [(0,.vec 78 (r.1.map encTl15State))] := by
 unfold spec_l15Sessions at h
 refine Says.of_norm e Tryz.call37 e fun B hB => ?_
 have hm : B.m ≤ 1000 := by omega
 refine Run.so hm (.p2 e e (.nil (.so hm (.z 5096 (Ev.bsW (ys := ([] : List Tl15State)) (f := encTl15State) e .nil e e e e e) e e (.p e (.nil (.seqO h (fun v1517 => [(4,.sl 0 78 0 v1517.length)]) (fun (v1517 : (List Tl15State)) => [(0,.vec 78 (v1517.map encTl15State))]) (fun h => ?_) (fun v1517 h => ?_))))))))
 ·refine Run.so hm (.p e (.nil (.block ?_)))
  obtain ⟨res1755,h,hk1755⟩ := bindO h
  refine Run.loop (n := N) (fun m1755 fr σ => ∃ (x1519 : Int),∃ (x1520 : (List Tl15State)),spec_l15Sessions_l1 N x1 m1755 x1519 x1520 = some res1755 ∧ fr = [(0,RO 50 (x1.map encPair)),(4,.sl 0 78 0 x1520.length),(5,VI x1519)] ∧ σ = [(0,.vec 78 (x1520.map encTl15State))]) (gh_pk [0,4,5] [5096] hB e e e e) ⟨_,_,h,e,e⟩ ?_
  rintro m1755 fr σ ⟨x1519,x1520,h,rfl,rfl⟩
  obtain _ | m1755 := m1755
  ·rw [spec_l15Sessions_l1] at h; cases h
  rw [spec_l15Sessions_l1] at h
  refine Run.seq (.so hm (.p2 e e (.z 13320 (Ev.lnF e) e e (.p e (.nil (.condO e h (fun g1758 h => ?_) (fun g1758 h => ?_)))))))
  ·refine Run.skip (.seqO h (fun v1874 => [(0,RO 50 (x1.map encPair)),(4,.sl 0 78 0 v1874.length),(5,VI x1519)]) (fun (v1874 : (List Tl15State)) => [(0,.vec 78 (v1874.map encTl15State))]) (fun h => ?_) (fun v1874 h => ?_))
   ·refine Run.block (.seq (.so hm (.p2 e e ?_)))
    obtain ⟨x1882,hx1882,h⟩ := bindO h
    refine Ops.z 21512 (Ev.iaF e e hx1882) e e (.p2 e e ?_)
    obtain ⟨x1883,hx1883,h⟩ := bindO h
    refine Ops.z 21560 (Ev.ixS e e hx1883) e e (.p e (.nil (.condO e h (fun g1884 h => ?_) (fun g1884 h => ?_))))
    ·exact Run.exit (⟨_,_,(gh_pk [0,4,5] [0] hB e e e e),_,h,e,e⟩)
    ·refine Run.skip (.so hm (.p2 e e ?_))
     obtain ⟨x1894,hx1894,h⟩ := bindO h
     refine Ops.z 25608 (Ev.iaF e e hx1894) e e (.p2 e e ?_)
     obtain ⟨x1895,hx1895,h⟩ := bindO h
     refine Ops.z 25656 (Ev.ssL e e hx1895) e e ?_
     obtain ⟨y1896,hy1896,h⟩ := bindO h
     refine Ops.z 25672 (Ev.call [] [] 0 (sem_spec_ReadDecimal _ _ _ hy1896) e e (.d1 .nil) e (.inl e) e e) e e (.p3 e e e (.p2 e e (.nil (.so hm (.p3 e e e ?_)))))
     obtain ⟨x1903,hx1903,h⟩ := bindO h
     refine Ops.z 29720 (Ev.iaF e e hx1903) e e (.p2 e e ?_)
     obtain ⟨y1904,hy1904,h⟩ := bindO h
     refine Ops.z 29768 (Ev.call [] [] 0 (sem_spec_l15Read _ _ _ _ hy1904) e e (.d2 .nil) e (.inl e) e e) e e (.p3 e e e (.z 29832 (.al e e) e e (.y 29848 (.sto e e e e e e) e e (.p e (.nil (.seq (.so hm (.p3 e e e (.askO (x := .t 48) e h (fun g1909 h => ?_) (fun g1909 h => ?_))))))))))
     ·refine Ops.gn e g1909 (.gn e g1909 (.z 33848 (.pkT e g1909 e) e e (.nil (.condT e e (.so hm (.p3 e e e (.nil (.ret ?_))))))))
      obtain rfl := someO h
      have h := hk1755
      replace h := inlO h
      obtain rfl := someO h
      exact Ends.mkG (.inl e) e (gh_pk [0,1] [0] hB e e e e) e e
     ·refine Ops.gp e g1909 e (.gp e g1909 e (.z 33848 (.pkF e g1909 e) e e (.nil (.condO e h (fun g1910 h => ?_) (fun g1910 h => ?_)))))
      ·refine Run.so hm (.p3 e e e (.nil (.ret ?_)))
       obtain rfl := someO h
       have h := hk1755
       replace h := inlO h
       obtain rfl := someO h
       exact Ends.mkG (.inl e) e (gh_pk [0,1] [0] hB e e e e) e e
      ·refine Run.skip (.so hm (.p3 e e e (.nil (.seqO h (fun v1942 => [(0,RO 50 (x1.map encPair)),(4,.sl 0 78 0 x1520.length),(5,VI x1519),(8,.ptr 1 0),(10,VI v1942)]) (fun (v1942 : Int) => [(0,.vec 78 (x1520.map encTl15State)),(1,.box [VI y1904.1.id,VI y1904.1.seq,VI y1904.1.at',VS y1904.1.reply])]) (fun h => ?_) (fun v1942 h => ?_)))))
       ·refine Run.block ?_
        obtain ⟨res1962,h,hk1962⟩ := bindO h
        refine Run.loop (n := N) (fun m1962 fr σ => ∃ (x1946 : Int),spec_l15Sessions_l2 N x1520 y1896 m1962 x1946 = some res1962 ∧ fr = [(0,RO 50 (x1.map encPair)),(4,.sl 0 78 0 x1520.length),(5,VI x1519),(6,VI y1896.1),(8,.ptr 1 0),(10,VI x1946)] ∧ σ = [(0,.vec 78 (x1520.map encTl15State)),(1,.box [VI y1904.1.id,VI y1904.1.seq,VI y1904.1.at',VS y1904.1.reply])]) (gh_pk [0,4,5,6,8,10] [0,29832] hB e e e e) ⟨_,h,e,e⟩ ?_
        rintro m1962 fr σ ⟨x1946,h,rfl,rfl⟩
        obtain _ | m1962 := m1962
        ·rw [spec_l15Sessions_l2] at h; cases h
        rw [spec_l15Sessions_l2] at h
        refine Run.seq (.so hm (.p3 e e e (.askO (x := .t 57) e h (fun g1971 h => ?_) (fun g1971 h => ?_))))
        ·refine Ops.gp e g1971 e (.gp e g1971 e (.gp e g1971 e ?_))
         obtain ⟨x1972,hx1972,h⟩ := bindO h
         refine Ops.gs (s := 46152) e g1971 (Ev.iaW e e e hx1972) e e (.gp e g1971 e (.gs (s := 46184) e g1971 (Ev.ldE (f := encTl15State) e e (at_some hx1972).2 e e e) e e (.gp e g1971 e (.gp e g1971 e (.z 46232 (.pkT e g1971 e) e e (.nil (.condO e h (fun g1973 h => ?_) (fun g1973 h => ?_))))))))
         ·exact Run.skip (.block (.ops hm (.p3 e e e (.nil (⟨m1962,Nat.lt_succ_self m1962,_,_,(gh_pk [0,4,5,6,8,10] [0,1] hB e e e e),_,h,e,e⟩)))))
         ·refine Run.exit ?_
          obtain rfl := someO h
          have h := hk1962
          exact ⟨_,_,(gh_pk [0,4,5,8,10] [0,1] hB e e e e),_,h,e,e⟩
        ·refine Ops.gn e g1971 (.gn e g1971 (.gn e g1971 (.gn e g1971 (.gn e g1971 (.gn e g1971 (.gn e g1971 (.gn e g1971 (.z 46232 (.pkF e g1971 e) e e (.nil (.condF e e (.exit ?_)))))))))))
         obtain rfl := someO h
         have h := hk1962
         exact ⟨_,_,(gh_pk [0,4,5,8,10] [0,1] hB e e e e),_,h,e,e⟩
       ·refine Run.so hm (.z 54248 (Ev.bsW (ys := ([] : List Tl15State)) (f := encTl15State) e .nil e e e e e) e e (.p2 e e ?_))
        obtain ⟨x1980,hx1980,h⟩ := bindO h
        refine Ops.z 54296 (Ev.slWh (xs := x1520) e e e hx1980) e e ?_
        obtain ⟨x1981,hx1981,h⟩ := bindO h
        refine Ops.z 54312 (Ev.apW (f := encTl15State) (ontoW e e e) (addsP e e (fun _ => e)) e bt78 e hx1981) e e (.p e (.nil (.so hm (.p2 e e (.z 58376 (Ev.bsW (ys := ([y1904.1] : List Tl15State)) (f := encTl15State) e (.d4 .nil) e e e e e) e e ?_)))))
        obtain ⟨x1985,hx1985,h⟩ := bindO h
        refine Ops.z 58392 (Ev.apW (f := encTl15State) (ontoW e e e) (addsW e e e (fun _ => e)) e bt78 e hx1985) e e (.p e (.nil (.ops hm (.p3 e e e ?_))))
        obtain ⟨x1988,hx1988,h⟩ := bindO h
        refine Ops.z 62488 (Ev.slWl (xs := x1520) e e e hx1988) e e ?_
        obtain ⟨x1989,hx1989,h⟩ := bindO h
        exact Ops.z 62504 (Ev.apW (f := encTl15State) (ontoW e e e) (addsP e e (fun _ => e)) e bt78 e hx1989) e e (.p e (.nil (⟨_,_,(gh_pk [0,4,5] [62504] hB e e e e),_,h,e,e⟩)))
   ·exact Run.ops hm (.p3 e e e (.nil (⟨m1755,Nat.lt_succ_self m1755,_,_,(gh_pk [0,4,5] [0] hB e e e e),_,_,h,e,e⟩)))
  ·refine Run.exit ?_
   obtain rfl := someO h
   have h := hk1755
   replace h := inrO h
   exact ⟨_,_,(gh_pk [4] [0] hB e e e e),_,h,e,e⟩
 ·refine Run.so hm (.p3 e e e (.nil (.ret ?_)))
  obtain rfl := someO h
  exact Ends.mkG (.inl e) e (gh_pk [0,1] [0] hB e e e e) e e
def spec_l06At_l1 (N : Nat) (x1 : (List Pair)) (x2 : ByteArray) : Nat → Int → Option ((Int) ⊕ (Unit))
 | 0,_ => none
 | m + 1,x170 =>
 (if (decide (x170 < (x1.length : Int))) = true then
 (at? x1 x170).bind fun x188 =>
 (if (decide (x188.Key = x2)) = true then
 some (Sum.inl x170)
 else
 spec_l06At_l1 N x1 x2 m (w64 (x170 + 1)))
 else
 some (Sum.inr ()))
def spec_l06At_l1_r (N : Nat) (x1 : (List Pair)) (x2 : ByteArray) : (List Pair) → Int → Option ((Int) ⊕ (Unit))
 | [],x170 =>
 some (Sum.inr ())
 | hd :: tl,x170 =>
 (some hd).bind fun x188 =>
 (if (decide (x188.Key = x2)) = true then
 some (Sum.inl x170)
 else
 spec_l06At_l1_r N x1 x2 tl (w64 (x170 + 1)))
theorem spec_l06At_l1_rng (N : Nat) (x1 : (List Pair)) (x2 : ByteArray) (hx : x1.length ≤ 1099511627776) : ∀ (d k m : Nat),x1.length = k + d → d < m → spec_l06At_l1 N x1 x2 m (k : Int) = spec_l06At_l1_r N x1 x2 (x1.drop k) (k : Int) := by
 intro d
 induction d with
 | zero =>
  intro k m hd hm
  obtain ⟨m,rfl⟩ : ∃ q,m = q + 1 := ⟨m - 1,by omega⟩
  rw [spec_l06At_l1,if_neg (by simp; omega),List.drop_eq_nil_of_le (by omega),spec_l06At_l1_r]
 | succ d ih =>
  intro k m hd hm
  obtain ⟨m,rfl⟩ : ∃ q,m = q + 1 := ⟨m - 1,by omega⟩
  have hk : k < x1.length := by omega
  rw [spec_l06At_l1,if_pos (by simp; omega),List.drop_eq_getElem_cons hk,spec_l06At_l1_r]
  have h1 := at_lt hk
  have h2 := w64_succ (k := k) (by omega)
  have h3 := ih (k + 1) m
  simp only [h1,h2,h3 (by omega) (by omega)]
theorem spec_l06At_l1_eq {N : Nat} (x1 : (List Pair)) (x2 : ByteArray) (hx : x1.length ≤ 1099511627776) (hN : x1.length < N) : spec_l06At_l1 N x1 x2 N 0 = spec_l06At_l1_r N x1 x2 x1 0 := spec_l06At_l1_rng N x1 x2 hx x1.length 0 N (by omega) hN
def spec_l06At (N : Nat) (x1 : (List Pair)) (x2 : ByteArray) : Option (Int) :=
 joinP (fun (v167 : Unit) =>
 some (-1 : Int)) fun j167 =>
 (spec_l06At_l1 N x1 x2 N 0).bind (Sum.elim (fun v179 => some v179) (fun (v180 : Unit) => j167 ()))
theorem sem_spec_l06At (N : Nat) (x1 : (List Pair)) (x2 : ByteArray) (r : Int) (h : spec_l06At N x1 x2 = some r) : Says Tryz.prog 60 [RO 50 (x1.map encPair),VS x2] 0 [] (VI r) [] := by
 unfold spec_l06At at h
 refine Says.of_norm e Tryz.call60 e fun B hB => ?_
 have hm : B.m ≤ 1000 := by omega
 refine Run.so hm (.p e (.nil (.seqO h (fun v167 => []) (fun (v167 : Unit) => []) (fun h => ?_) (fun v167 h => ?_))))
 ·refine Run.so hm (.p e (.nil (.block ?_)))
  obtain ⟨res180,h,hk180⟩ := bindO h
  refine Run.loop (n := N) (fun m180 fr σ => ∃ (x170 : Int),spec_l06At_l1 N x1 x2 m180 x170 = some res180 ∧ fr = [(0,RO 50 (x1.map encPair)),(1,VS x2),(5,VI x170)] ∧ σ = []) (gh_pk [0,1,5] [] hB e e e e) ⟨_,h,e,e⟩ ?_
  rintro m180 fr σ ⟨x170,h,rfl,rfl⟩
  obtain _ | m180 := m180
  ·rw [spec_l06At_l1] at h; cases h
  rw [spec_l06At_l1] at h
  refine Run.seq (.so hm (.p2 e e (.z 9224 (Ev.lnF e) e e (.p e (.nil (.condO e h (fun g183 h => ?_) (fun g183 h => ?_)))))))
  ·refine Run.skip (.seq (.block (.so hm (.p2 e e ?_))))
   obtain ⟨x188,hx188,h⟩ := bindO h
   refine Ops.z 17416 (Ev.iaF e e hx188) e e (.p3 e e e (.p e (.nil (.condO e h (fun g189 h => ?_) (fun g189 h => ?_)))))
   ·refine Run.so hm (.p2 e e (.nil (.ret ?_)))
    obtain rfl := someO h
    have h := hk180
    replace h := inlO h
    obtain rfl := someO h
    exact Ends.mkG (.inl e) e (gh_pk [0] [] hB e e e e) e e
   ·exact Run.skip (.ops hm (.p3 e e e (.nil (⟨m180,Nat.lt_succ_self m180,_,_,(gh_pk [0,1,5] [] hB e e e e),_,h,e,e⟩))))
  ·refine Run.exit ?_
   obtain rfl := someO h
   have h := hk180
   replace h := inrO h
   exact ⟨_,_,(gh_pk [] [] hB e e e e),(),h,e,e⟩
 ·refine Run.so hm (.p e (.nil (.ret ?_)))
  obtain rfl := someO h
  exact Ends.mkG (.inl e) e (gh_pk [0] [] hB e e e e) e e
def spec_l06Get (N : Nat) (x1 : (List Pair)) (x2 : ByteArray) : Option (ByteArray) :=
 (spec_l06At N x1 x2).bind fun y111 =>
 (if (decide (y111 < 0)) = true then
 some (⟨#[]⟩ : ByteArray)
 else
 (at? x1 y111).bind fun x115 =>
 some x115.Value)
theorem sem_spec_l06Get (N : Nat) (x1 : (List Pair)) (x2 : ByteArray) (r : ByteArray) (h : spec_l06Get N x1 x2 = some r) : Says Tryz.prog 61 [RO 50 (x1.map encPair),VS x2] 0 [] (VS r) [] := by
 unfold spec_l06Get at h
 refine Says.of_norm e Tryz.call61 e fun B hB => ?_
 have hm : B.m ≤ 1000 := by omega
 refine Run.so hm (.p e (.nil (.so hm (.p2 e e ?_))))
 obtain ⟨y111,hy111,h⟩ := bindO h
 refine Ops.z 5128 (Ev.call [] [] 0 (sem_spec_l06At _ _ _ _ hy111) e e (.d2 .nil) e (.inl e) e e) e e (.p e (.nil (.seq (.so hm (.p2 e e (.nil (.condO e h (fun g113 h => ?_) (fun g113 h => ?_))))))))
 ·refine Run.so hm (.p e (.nil (.ret ?_)))
  obtain rfl := someO h
  exact Ends.mkG (.inl e) e (gh_pk [0] [] hB e e e e) e e
 ·refine Run.skip (.so hm (.p2 e e ?_))
  obtain ⟨x115,hx115,h⟩ := bindO h
  refine Ops.z 17416 (Ev.iaF e e hx115) e e (.p3 e e e (.nil (.ret ?_)))
  obtain rfl := someO h
  exact Ends.mkG (.inl e) e (gh_pk [0] [] hB e e e e) e e
def spec_l15Next (N : Nat) (x1 : (List Pair)) : Option (Int × Bool) :=
 (spec_l06At N x1 (⟨#[110]⟩ : ByteArray)).bind fun y114 =>
 (if (decide (y114 < 0)) = true then
 some (1,true)
 else
 (spec_l06Get N x1 (⟨#[110]⟩ : ByteArray)).bind fun y118 =>
 (spec_ReadDecimal N y118).bind fun y119 =>
 some (y119.1,y119.2))
theorem sem_spec_l15Next (N : Nat) (x1 : (List Pair)) (r : Int × Bool) (h : spec_l15Next N x1 = some r) : Says Tryz.prog 57 [RO 50 (x1.map encPair)] 0 [] (.tup [VI r.1,VB r.2]) [] := by
 unfold spec_l15Next at h
 refine Says.of_norm e Tryz.call57 e fun B hB => ?_
 have hm : B.m ≤ 1000 := by omega
 refine Run.so hm (.p2 e e (.nil (.seq (.so hm (.p e ?_)))))
 obtain ⟨y114,hy114,h⟩ := bindO h
 refine Ops.z 5112 (Ev.call [] [] 0 (sem_spec_l06At _ _ _ _ hy114) e e (.d2 .nil) e (.inl e) e e) e e (.p e (.nil (.condO e h (fun g115 h => ?_) (fun g115 h => ?_))))
 ·refine Run.so hm (.p2 e e (.nil (.ret ?_)))
  obtain rfl := someO h
  exact Ends.mkG (.inl e) e (gh_pk [0,1] [] hB e e e e) e e
 ·refine Run.skip (.so hm (.p e ?_))
  obtain ⟨y118,hy118,h⟩ := bindO h
  refine Ops.z 13304 (Ev.call [] [] 0 (sem_spec_l06Get _ _ _ _ hy118) e e (.d2 .nil) e (.inl e) e e) e e ?_
  obtain ⟨y119,hy119,h⟩ := bindO h
  refine Ops.z 13320 (Ev.call [] [] 0 (sem_spec_ReadDecimal _ _ _ hy119) e e (.d1 .nil) e (.inl e) e e) e e (.p3 e e e (.p e (.nil (.ret ?_))))
  obtain rfl := someO h
  exact Ends.mkG (.inl e) e (gh_pk [0,1] [] hB e e e e) e e
def spec_l15Key (N : Nat) (x1 : Int) : Option (ByteArray) :=
 (spec_Decimal N x1).bind fun y106 =>
 (scat? (⟨#[115]⟩ : ByteArray) y106).bind fun x107 =>
 some x107
theorem sem_spec_l15Key (N : Nat) (x1 : Int) (r : ByteArray) (h : spec_l15Key N x1 = some r) : Says Tryz.prog 41 [VI x1] 0 [] (VS r) [] := by
 unfold spec_l15Key at h
 refine Says.of_norm e Tryz.call41 e fun B hB => ?_
 have hm : B.m ≤ 1000 := by omega
 refine Run.so hm (.p e (.nil (.so hm (.p e ?_))))
 obtain ⟨y106,hy106,h⟩ := bindO h
 refine Ops.z 5112 (Ev.call [] [] 0 (sem_spec_Decimal _ _ _ hy106) e e (.d1 .nil) e (.inl e) e e) e e ?_
 obtain ⟨x107,hx107,h⟩ := bindO h
 refine Ops.z 5128 (Ev.addS e e hx107) e e (.p e (.nil (.ret ?_)))
 obtain rfl := someO h
 exact Ends.mkG (.inl e) e (gh_pk [0] [] hB e e e e) e e
def spec_l06Cut_l1 (N : Nat) (x1 : (List Pair)) (x2 : ByteArray) : Nat → Int → (List Pair) → Option ((List Pair))
 | 0,_,_ => none
 | m + 1,x224,x225 =>
 (if (decide (x224 < (x1.length : Int))) = true then
 joinP (fun (v254 : (List Pair)) =>
 spec_l06Cut_l1 N x1 x2 m (w64 (x224 + 1)) v254) fun j254 =>
 (at? x1 x224).bind fun x256 =>
 (if (!decide (x256.Key = x2)) = true then
 (at? x1 x224).bind fun x260 =>
 (cat? x225 ([x260] : List Pair)).bind fun x261 =>
 j254 x261
 else
 j254 x225)
 else
 some x225)
def spec_l06Cut_l1_r (N : Nat) (x1 : (List Pair)) (x2 : ByteArray) : (List Pair) → Int → (List Pair) → Option ((List Pair))
 | [],x224,x225 =>
 some x225
 | hd :: tl,x224,x225 =>
 joinP (fun (v254 : (List Pair)) =>
 spec_l06Cut_l1_r N x1 x2 tl (w64 (x224 + 1)) v254) fun j254 =>
 (some hd).bind fun x256 =>
 (if (!decide (x256.Key = x2)) = true then
 (some hd).bind fun x260 =>
 (cat? x225 ([x260] : List Pair)).bind fun x261 =>
 j254 x261
 else
 j254 x225)
theorem spec_l06Cut_l1_rng (N : Nat) (x1 : (List Pair)) (x2 : ByteArray) (hx : x1.length ≤ 1099511627776) : ∀ (d k m : Nat) (x225 : (List Pair)),x1.length = k + d → d < m → spec_l06Cut_l1 N x1 x2 m (k : Int) x225 = spec_l06Cut_l1_r N x1 x2 (x1.drop k) (k : Int) x225 := by
 intro d
 induction d with
 | zero =>
  intro k m x225 hd hm
  obtain ⟨m,rfl⟩ : ∃ q,m = q + 1 := ⟨m - 1,by omega⟩
  rw [spec_l06Cut_l1,if_neg (by simp; omega),List.drop_eq_nil_of_le (by omega),spec_l06Cut_l1_r]
 | succ d ih =>
  intro k m x225 hd hm
  obtain ⟨m,rfl⟩ : ∃ q,m = q + 1 := ⟨m - 1,by omega⟩
  have hk : k < x1.length := by omega
  rw [spec_l06Cut_l1,if_pos (by simp; omega),List.drop_eq_getElem_cons hk,spec_l06Cut_l1_r]
  have h1 := at_lt hk
  have h2 := w64_succ (k := k) (by omega)
  have h3 := ih (k + 1) m
  simp only [h1,h2,h3 _ (by omega) (by omega)]
theorem spec_l06Cut_l1_eq {N : Nat} (x1 : (List Pair)) (x2 : ByteArray) (hx : x1.length ≤ 1099511627776) (hN : x1.length < N) (x225 : (List Pair)) : spec_l06Cut_l1 N x1 x2 N 0 x225 = spec_l06Cut_l1_r N x1 x2 x1 0 x225 := spec_l06Cut_l1_rng N x1 x2 hx x1.length 0 N x225 (by omega) hN
def spec_l06Cut (N : Nat) (x1 : (List Pair)) (x2 : ByteArray) : Option ((List Pair)) :=
 joinP (fun (v221 : (List Pair)) =>
 some v221) fun j221 =>
 (spec_l06Cut_l1 N x1 x2 N 0 ([] : List Pair)).bind (fun v243 => j221 v243)
theorem sem_spec_l06Cut (N : Nat) (x1 : (List Pair)) (x2 : ByteArray) (r : (List Pair)) (h : spec_l06Cut N x1 x2 = some r) : Says Tryz.prog 58 [RO 50 (x1.map encPair),VS x2] 0 [] (.sl 0 50 0 r.length) [(0,.vec 50 (r.map encPair))] := by
 unfold spec_l06Cut at h
 refine Says.of_norm e Tryz.call58 e fun B hB => ?_
 have hm : B.m ≤ 1000 := by omega
 refine Run.so hm (.p e (.nil (.so hm (.z 5096 (Ev.bsW (ys := ([] : List Pair)) (f := encPair) e .nil e e e e e) e e (.p e (.nil (.seqO h (fun v221 => [(5,.sl 0 50 0 v221.length)]) (fun (v221 : (List Pair)) => [(0,.vec 50 (v221.map encPair))]) (fun h => ?_) (fun v221 h => ?_))))))))
 ·refine Run.so hm (.p e (.nil (.block ?_)))
  obtain ⟨res243,h,hk243⟩ := bindO h
  refine Run.loop (n := N) (fun m243 fr σ => ∃ (x224 : Int),∃ (x225 : (List Pair)),spec_l06Cut_l1 N x1 x2 m243 x224 x225 = some res243 ∧ fr = [(0,RO 50 (x1.map encPair)),(1,VS x2),(5,.sl 0 50 0 x225.length),(6,VI x224)] ∧ σ = [(0,.vec 50 (x225.map encPair))]) (gh_pk [0,1,5,6] [5096] hB e e e e) ⟨_,_,h,e,e⟩ ?_
  rintro m243 fr σ ⟨x224,x225,h,rfl,rfl⟩
  obtain _ | m243 := m243
  ·rw [spec_l06Cut_l1] at h; cases h
  rw [spec_l06Cut_l1] at h
  refine Run.seq (.so hm (.p2 e e (.z 13320 (Ev.lnF e) e e (.p e (.nil (.condO e h (fun g246 h => ?_) (fun g246 h => ?_)))))))
  ·refine Run.skip (.seqO h (fun v254 => [(0,RO 50 (x1.map encPair)),(1,VS x2),(5,.sl 0 50 0 v254.length),(6,VI x224)]) (fun (v254 : (List Pair)) => [(0,.vec 50 (v254.map encPair))]) (fun h => ?_) (fun v254 h => ?_))
   ·refine Run.block (.so hm (.p2 e e ?_))
    obtain ⟨x256,hx256,h⟩ := bindO h
    refine Ops.z 21512 (Ev.iaF e e hx256) e e (.p3 e e e (.p e (.nil (.condO e h (fun g257 h => ?_) (fun g257 h => ?_)))))
    ·refine Run.ops hm (.p3 e e e ?_)
     obtain ⟨x260,hx260,h⟩ := bindO h
     refine Ops.z 25624 (Ev.iaF e e hx260) e e (.p e (.z 25656 (Ev.bsW (ys := ([x260] : List Pair)) (f := encPair) e (.d2 .nil) e e e e e) e e ?_))
     obtain ⟨x261,hx261,h⟩ := bindO h
     exact Ops.z 25672 (Ev.apW (f := encPair) (ontoW e e e) (addsW e e e (fun _ => e)) e bt50 e hx261) e e (.p e (.nil (⟨_,_,(gh_pk [0,1,5,6] [25672] hB e e e e),_,h,e,e⟩)))
    ·exact Run.skip (⟨_,_,(gh_pk [0,1,5,6] [0] hB e e e e),_,h,e,e⟩)
   ·exact Run.ops hm (.p3 e e e (.nil (⟨m243,Nat.lt_succ_self m243,_,_,(gh_pk [0,1,5,6] [0] hB e e e e),_,_,h,e,e⟩)))
  ·refine Run.exit ?_
   obtain rfl := someO h
   have h := hk243
   exact ⟨_,_,(gh_pk [5] [0] hB e e e e),_,h,e,e⟩
 ·refine Run.so hm (.p2 e e (.nil (.ret ?_)))
  obtain rfl := someO h
  exact Ends.mkG (.inl e) e (gh_pk [0] [0] hB e e e e) e e
def spec_l15Text (N : Nat) (x1 : Tl15State) : Option (ByteArray) :=
 (spec_Decimal N x1.seq).bind fun y118 =>
 (scat? y118 (⟨#[32]⟩ : ByteArray)).bind fun x119 =>
 (spec_Decimal N x1.at').bind fun y120 =>
 (scat? x119 y120).bind fun x121 =>
 (scat? x121 (⟨#[32]⟩ : ByteArray)).bind fun x122 =>
 (scat? x122 x1.reply).bind fun x123 =>
 some x123
theorem sem_spec_l15Text (N : Nat) (x1 : Tl15State) (r : ByteArray) (h : spec_l15Text N x1 = some r) : Says Tryz.prog 42 [.agg [VI x1.id,VI x1.seq,VI x1.at',VS x1.reply]] 0 [] (VS r) [] := by
 unfold spec_l15Text at h
 refine Says.of_norm e Tryz.call42 e fun B hB => ?_
 have hm : B.m ≤ 1000 := by omega
 refine Run.so hm (.z 1000 (.bx e e) e e (.p e (.nil (.seq (.draw hm hmix (.p e (.p e ?_)))))))
 obtain ⟨y118,hy118,h⟩ := bindO h
 refine OpsD.z 5128 (Ev.call [] [] 0 (sem_spec_Decimal _ _ _ hy118) e e (.d1 .nil) e (.inl e) e e) e e ?_
 obtain ⟨x119,hx119,h⟩ := bindO h
 refine OpsD.z 5144 (Ev.addS e e hx119) e e (.p e (.p e ?_))
 obtain ⟨y120,hy120,h⟩ := bindO h
 refine OpsD.z 5192 (Ev.call [] [] 0 (sem_spec_Decimal _ _ _ hy120) e e (.d1 .nil) e (.inl e) e e) e e ?_
 obtain ⟨x121,hx121,h⟩ := bindO h
 refine OpsD.z 5208 (Ev.addS e e hx121) e e ?_
 obtain ⟨x122,hx122,h⟩ := bindO h
 refine OpsD.z 5224 (Ev.addS e e hx122) e e (.p e (.p e ?_))
 obtain ⟨x123,hx123,h⟩ := bindO h
 refine OpsD.z 5272 (Ev.addS e e hx123) e e (.p e (.nil ⟨by kernel_rfl,?_⟩))
 refine Run.ret ?_
 obtain rfl := someO h
 exact Ends.mkG (.inl e) e (gh_pk [0] [] hB e e e e) e e
def spec_l06Put_l1 (N : Nat) (x1 : (List Pair)) (x2 : ByteArray) : Nat → Int → (List Pair) → Option ((List Pair))
 | 0,_,_ => none
 | m + 1,x313,x314 =>
 (if (decide (x313 < (x1.length : Int))) = true then
 joinP (fun (v343 : (List Pair)) =>
 spec_l06Put_l1 N x1 x2 m (w64 (x313 + 1)) v343) fun j343 =>
 (at? x1 x313).bind fun x345 =>
 (if (Op.bytesLess x345.Key.toList x2.toList) = true then
 (at? x1 x313).bind fun x349 =>
 (cat? x314 ([x349] : List Pair)).bind fun x350 =>
 j343 x350
 else
 j343 x314)
 else
 some x314)
def spec_l06Put_l1_r (N : Nat) (x1 : (List Pair)) (x2 : ByteArray) : (List Pair) → Int → (List Pair) → Option ((List Pair))
 | [],x313,x314 =>
 some x314
 | hd :: tl,x313,x314 =>
 joinP (fun (v343 : (List Pair)) =>
 spec_l06Put_l1_r N x1 x2 tl (w64 (x313 + 1)) v343) fun j343 =>
 (some hd).bind fun x345 =>
 (if (Op.bytesLess x345.Key.toList x2.toList) = true then
 (some hd).bind fun x349 =>
 (cat? x314 ([x349] : List Pair)).bind fun x350 =>
 j343 x350
 else
 j343 x314)
theorem spec_l06Put_l1_rng (N : Nat) (x1 : (List Pair)) (x2 : ByteArray) (hx : x1.length ≤ 1099511627776) : ∀ (d k m : Nat) (x314 : (List Pair)),x1.length = k + d → d < m → spec_l06Put_l1 N x1 x2 m (k : Int) x314 = spec_l06Put_l1_r N x1 x2 (x1.drop k) (k : Int) x314 := by
 intro d
 induction d with
 | zero =>
  intro k m x314 hd hm
  obtain ⟨m,rfl⟩ : ∃ q,m = q + 1 := ⟨m - 1,by omega⟩
  rw [spec_l06Put_l1,if_neg (by simp; omega),List.drop_eq_nil_of_le (by omega),spec_l06Put_l1_r]
 | succ d ih =>
  intro k m x314 hd hm
  obtain ⟨m,rfl⟩ : ∃ q,m = q + 1 := ⟨m - 1,by omega⟩
  have hk : k < x1.length := by omega
  rw [spec_l06Put_l1,if_pos (by simp; omega),List.drop_eq_getElem_cons hk,spec_l06Put_l1_r]
  have h1 := at_lt hk
  have h2 := w64_succ (k := k) (by omega)
  have h3 := ih (k + 1) m
  simp only [h1,h2,h3 _ (by omega) (by omega)]
theorem spec_l06Put_l1_eq {N : Nat} (x1 : (List Pair)) (x2 : ByteArray) (hx : x1.length ≤ 1099511627776) (hN : x1.length < N) (x314 : (List Pair)) : spec_l06Put_l1 N x1 x2 N 0 x314 = spec_l06Put_l1_r N x1 x2 x1 0 x314 := spec_l06Put_l1_rng N x1 x2 hx x1.length 0 N x314 (by omega) hN
def spec_l06Put_l2 (N : Nat) (x1 : (List Pair)) (x2 : ByteArray) : Nat → Int → (List Pair) → Option ((List Pair))
 | 0,_,_ => none
 | m + 1,x398,x399 =>
 (if (decide (x398 < (x1.length : Int))) = true then
 joinP (fun (v428 : (List Pair)) =>
 spec_l06Put_l2 N x1 x2 m (w64 (x398 + 1)) v428) fun j428 =>
 (at? x1 x398).bind fun x430 =>
 (if (!(Op.bytesLess x430.Key.toList x2.toList || decide (x430.Key = x2))) = true then
 (at? x1 x398).bind fun x434 =>
 (cat? x399 ([x434] : List Pair)).bind fun x435 =>
 j428 x435
 else
 j428 x399)
 else
 some x399)
def spec_l06Put_l2_r (N : Nat) (x1 : (List Pair)) (x2 : ByteArray) : (List Pair) → Int → (List Pair) → Option ((List Pair))
 | [],x398,x399 =>
 some x399
 | hd :: tl,x398,x399 =>
 joinP (fun (v428 : (List Pair)) =>
 spec_l06Put_l2_r N x1 x2 tl (w64 (x398 + 1)) v428) fun j428 =>
 (some hd).bind fun x430 =>
 (if (!(Op.bytesLess x430.Key.toList x2.toList || decide (x430.Key = x2))) = true then
 (some hd).bind fun x434 =>
 (cat? x399 ([x434] : List Pair)).bind fun x435 =>
 j428 x435
 else
 j428 x399)
theorem spec_l06Put_l2_rng (N : Nat) (x1 : (List Pair)) (x2 : ByteArray) (hx : x1.length ≤ 1099511627776) : ∀ (d k m : Nat) (x399 : (List Pair)),x1.length = k + d → d < m → spec_l06Put_l2 N x1 x2 m (k : Int) x399 = spec_l06Put_l2_r N x1 x2 (x1.drop k) (k : Int) x399 := by
 intro d
 induction d with
 | zero =>
  intro k m x399 hd hm
  obtain ⟨m,rfl⟩ : ∃ q,m = q + 1 := ⟨m - 1,by omega⟩
  rw [spec_l06Put_l2,if_neg (by simp; omega),List.drop_eq_nil_of_le (by omega),spec_l06Put_l2_r]
 | succ d ih =>
  intro k m x399 hd hm
  obtain ⟨m,rfl⟩ : ∃ q,m = q + 1 := ⟨m - 1,by omega⟩
  have hk : k < x1.length := by omega
  rw [spec_l06Put_l2,if_pos (by simp; omega),List.drop_eq_getElem_cons hk,spec_l06Put_l2_r]
  have h1 := at_lt hk
  have h2 := w64_succ (k := k) (by omega)
  have h3 := ih (k + 1) m
  simp only [h1,h2,h3 _ (by omega) (by omega)]
theorem spec_l06Put_l2_eq {N : Nat} (x1 : (List Pair)) (x2 : ByteArray) (hx : x1.length ≤ 1099511627776) (hN : x1.length < N) (x399 : (List Pair)) : spec_l06Put_l2 N x1 x2 N 0 x399 = spec_l06Put_l2_r N x1 x2 x1 0 x399 := spec_l06Put_l2_rng N x1 x2 hx x1.length 0 N x399 (by omega) hN
def spec_l06Put (N : Nat) (x1 : (List Pair)) (x2 : ByteArray) (x3 : ByteArray) : Option ((List Pair)) :=
 joinP (fun (v309 : (List Pair)) =>
 (cat? v309 ([(Pair.mk x2 x3)] : List Pair)).bind fun x354 =>
 joinP (fun (v395 : (List Pair)) =>
 some v395) fun j395 =>
 (spec_l06Put_l2 N x1 x2 N 0 x354).bind (fun v417 => j395 v417)) fun j309 =>
 (spec_l06Put_l1 N x1 x2 N 0 ([] : List Pair)).bind (fun v332 => j309 v332)
theorem sem_spec_l06Put (N : Nat) (x1 : (List Pair)) (x2 : ByteArray) (x3 : ByteArray) (r : (List Pair)) (h : spec_l06Put N x1 x2 x3 = some r) : Says Tryz.prog 40 [RO 50 (x1.map encPair),VS x2,VS x3] 0 [] (.sl 0 50 0 r.length) [(0,.vec 50 (r.map encPair))] := by
 unfold spec_l06Put at h
 refine Says.of_norm e Tryz.call40 e fun B hB => ?_
 have hm : B.m ≤ 1000 := by omega
 refine Run.so hm (.p e (.nil (.so hm (.z 5096 (Ev.bsW (ys := ([] : List Pair)) (f := encPair) e .nil e e e e e) e e (.p e (.nil (.seqO h (fun v309 => [(0,RO 50 (x1.map encPair)),(1,VS x2),(2,VS x3),(7,.sl 0 50 0 v309.length)]) (fun (v309 : (List Pair)) => [(0,.vec 50 (v309.map encPair))]) (fun h => ?_) (fun v309 h => ?_))))))))
 ·refine Run.so hm (.p e (.nil (.block ?_)))
  obtain ⟨res332,h,hk332⟩ := bindO h
  refine Run.loop (n := N) (fun m332 fr σ => ∃ (x313 : Int),∃ (x314 : (List Pair)),spec_l06Put_l1 N x1 x2 m332 x313 x314 = some res332 ∧ fr = [(0,RO 50 (x1.map encPair)),(1,VS x2),(2,VS x3),(7,.sl 0 50 0 x314.length),(8,VI x313)] ∧ σ = [(0,.vec 50 (x314.map encPair))]) (gh_pk [0,1,2,7,8] [5096] hB e e e e) ⟨_,_,h,e,e⟩ ?_
  rintro m332 fr σ ⟨x313,x314,h,rfl,rfl⟩
  obtain _ | m332 := m332
  ·rw [spec_l06Put_l1] at h; cases h
  rw [spec_l06Put_l1] at h
  refine Run.seq (.so hm (.p2 e e (.z 13320 (Ev.lnF e) e e (.p e (.nil (.condO e h (fun g335 h => ?_) (fun g335 h => ?_)))))))
  ·refine Run.skip (.seqO h (fun v343 => [(0,RO 50 (x1.map encPair)),(1,VS x2),(2,VS x3),(7,.sl 0 50 0 v343.length),(8,VI x313)]) (fun (v343 : (List Pair)) => [(0,.vec 50 (v343.map encPair))]) (fun h => ?_) (fun v343 h => ?_))
   ·refine Run.block (.so hm (.p2 e e ?_))
    obtain ⟨x345,hx345,h⟩ := bindO h
    refine Ops.z 21512 (Ev.iaF e e hx345) e e (.p3 e e e (.p e (.nil (.condO e h (fun g346 h => ?_) (fun g346 h => ?_)))))
    ·refine Run.ops hm (.p3 e e e ?_)
     obtain ⟨x349,hx349,h⟩ := bindO h
     refine Ops.z 25624 (Ev.iaF e e hx349) e e (.p e (.z 25656 (Ev.bsW (ys := ([x349] : List Pair)) (f := encPair) e (.d2 .nil) e e e e e) e e ?_))
     obtain ⟨x350,hx350,h⟩ := bindO h
     exact Ops.z 25672 (Ev.apW (f := encPair) (ontoW e e e) (addsW e e e (fun _ => e)) e bt50 e hx350) e e (.p e (.nil (⟨_,_,(gh_pk [0,1,2,7,8] [25672] hB e e e e),_,h,e,e⟩)))
    ·exact Run.skip (⟨_,_,(gh_pk [0,1,2,7,8] [0] hB e e e e),_,h,e,e⟩)
   ·exact Run.ops hm (.p3 e e e (.nil (⟨m332,Nat.lt_succ_self m332,_,_,(gh_pk [0,1,2,7,8] [0] hB e e e e),_,_,h,e,e⟩)))
  ·refine Run.exit ?_
   obtain rfl := someO h
   have h := hk332
   exact ⟨_,_,(gh_pk [0,1,2,7] [0] hB e e e e),_,h,e,e⟩
 ·refine Run.so hm (.p3 e e e (.z 29720 (.bd e e) e e (.z 29736 (Ev.bsW (ys := ([(Pair.mk x2 x3)] : List Pair)) (f := encPair) e (.d2 .nil) e e e e e) e e ?_)))
  obtain ⟨x354,hx354,h⟩ := bindO h
  refine Ops.z 29752 (Ev.apW (f := encPair) (ontoW e e e) (addsW e e e (fun _ => e)) e bt50 e hx354) e e (.p e (.nil (.seqO h (fun v395 => [(7,.sl 0 50 0 v395.length)]) (fun (v395 : (List Pair)) => [(0,.vec 50 (v395.map encPair))]) (fun h => ?_) (fun v395 h => ?_))))
  ·refine Run.so hm (.p e (.nil (.block ?_)))
   obtain ⟨res417,h,hk417⟩ := bindO h
   refine Run.loop (n := N) (fun m417 fr σ => ∃ (x398 : Int),∃ (x399 : (List Pair)),spec_l06Put_l2 N x1 x2 m417 x398 x399 = some res417 ∧ fr = [(0,RO 50 (x1.map encPair)),(1,VS x2),(7,.sl 0 50 0 x399.length),(9,VI x398)] ∧ σ = [(0,.vec 50 (x399.map encPair))]) (gh_pk [0,1,7,9] [29752] hB e e e e) ⟨_,_,h,e,e⟩ ?_
   rintro m417 fr σ ⟨x398,x399,h,rfl,rfl⟩
   obtain _ | m417 := m417
   ·rw [spec_l06Put_l2] at h; cases h
   rw [spec_l06Put_l2] at h
   refine Run.seq (.so hm (.p2 e e (.z 37896 (Ev.lnF e) e e (.p e (.nil (.condO e h (fun g420 h => ?_) (fun g420 h => ?_)))))))
   ·refine Run.skip (.seqO h (fun v428 => [(0,RO 50 (x1.map encPair)),(1,VS x2),(7,.sl 0 50 0 v428.length),(9,VI x398)]) (fun (v428 : (List Pair)) => [(0,.vec 50 (v428.map encPair))]) (fun h => ?_) (fun v428 h => ?_))
    ·refine Run.block (.so hm (.p2 e e ?_))
     obtain ⟨x430,hx430,h⟩ := bindO h
     refine Ops.z 46088 (Ev.iaF e e hx430) e e (.p3 e e e (.p e (.nil (.condO e h (fun g431 h => ?_) (fun g431 h => ?_)))))
     ·refine Run.ops hm (.p3 e e e ?_)
      obtain ⟨x434,hx434,h⟩ := bindO h
      refine Ops.z 50200 (Ev.iaF e e hx434) e e (.p e (.z 50232 (Ev.bsW (ys := ([x434] : List Pair)) (f := encPair) e (.d2 .nil) e e e e e) e e ?_))
      obtain ⟨x435,hx435,h⟩ := bindO h
      exact Ops.z 50248 (Ev.apW (f := encPair) (ontoW e e e) (addsW e e e (fun _ => e)) e bt50 e hx435) e e (.p e (.nil (⟨_,_,(gh_pk [0,1,7,9] [50248] hB e e e e),_,h,e,e⟩)))
     ·exact Run.skip (⟨_,_,(gh_pk [0,1,7,9] [0] hB e e e e),_,h,e,e⟩)
    ·exact Run.ops hm (.p3 e e e (.nil (⟨m417,Nat.lt_succ_self m417,_,_,(gh_pk [0,1,7,9] [0] hB e e e e),_,_,h,e,e⟩)))
   ·refine Run.exit ?_
    obtain rfl := someO h
    have h := hk417
    exact ⟨_,_,(gh_pk [7] [0] hB e e e e),_,h,e,e⟩
  ·refine Run.so hm (.p2 e e (.nil (.ret ?_)))
   obtain rfl := someO h
   exact Ends.mkG (.inl e) e (gh_pk [0] [0] hB e e e e) e e
def spec_l15Open_l1 (N : Nat) (x3 : (List Tl15State)) : Nat → Int → Int → Option (Int)
 | 0,_,_ => none
 | m + 1,x406,x407 =>
 (if (decide (x407 < (x3.length : Int))) = true then
 joinP (fun (v430 : Int) =>
 spec_l15Open_l1 N x3 m v430 (w64 (x407 + 1))) fun j430 =>
 (at? x3 x407).bind fun x433 =>
 (at? x3 x406).bind fun x434 =>
 (if (decide (x433.at' < x434.at')) = true then
 j430 x407
 else
 j430 x406)
 else
 some x406)
def spec_l15Open_l1_r (N : Nat) (x3 : (List Tl15State)) : (List Tl15State) → Int → Int → Option (Int)
 | [],x406,x407 =>
 some x406
 | hd :: tl,x406,x407 =>
 joinP (fun (v430 : Int) =>
 spec_l15Open_l1_r N x3 tl v430 (w64 (x407 + 1))) fun j430 =>
 (some hd).bind fun x433 =>
 (at? x3 x406).bind fun x434 =>
 (if (decide (x433.at' < x434.at')) = true then
 j430 x407
 else
 j430 x406)
theorem spec_l15Open_l1_rng (N : Nat) (x3 : (List Tl15State)) (hx : x3.length ≤ 1099511627776) : ∀ (d k m : Nat) (x406 : Int),x3.length = k + d → d < m → spec_l15Open_l1 N x3 m x406 (k : Int) = spec_l15Open_l1_r N x3 (x3.drop k) x406 (k : Int) := by
 intro d
 induction d with
 | zero =>
  intro k m x406 hd hm
  obtain ⟨m,rfl⟩ : ∃ q,m = q + 1 := ⟨m - 1,by omega⟩
  rw [spec_l15Open_l1,if_neg (by simp; omega),List.drop_eq_nil_of_le (by omega),spec_l15Open_l1_r]
 | succ d ih =>
  intro k m x406 hd hm
  obtain ⟨m,rfl⟩ : ∃ q,m = q + 1 := ⟨m - 1,by omega⟩
  have hk : k < x3.length := by omega
  rw [spec_l15Open_l1,if_pos (by simp; omega),List.drop_eq_getElem_cons hk,spec_l15Open_l1_r]
  have h1 := at_lt hk
  have h2 := w64_succ (k := k) (by omega)
  have h3 := ih (k + 1) m
  simp only [h1,h2,h3 _ (by omega) (by omega)]
theorem spec_l15Open_l1_eq {N : Nat} (x3 : (List Tl15State)) (hx : x3.length ≤ 1099511627776) (hN : x3.length < N) (x406 : Int) : spec_l15Open_l1 N x3 N x406 0 = spec_l15Open_l1_r N x3 x3 x406 0 := spec_l15Open_l1_rng N x3 hx x3.length 0 N x406 (by omega) hN
def spec_l15Open (N : Nat) (x1 : (List Pair)) (x2 : Int) (x3 : (List Tl15State)) : Option ((List Pair) × ByteArray × Bool) :=
 (spec_l15Next N x1).bind fun y286 =>
 (if (!y286.2) = true then
 some (x1,(⟨#[]⟩ : ByteArray),false)
 else
 joinP (fun (v365 : (List Pair)) =>
 (spec_l15Key N y286.1).bind fun y451 =>
 (spec_l15Text N (Tl15State.mk 0 0 x2 (⟨#[]⟩ : ByteArray))).bind fun y452 =>
 (spec_l06Put N v365 y451 y452).bind fun y453 =>
 (spec_Decimal N (w64 (y286.1 + 1))).bind fun y460 =>
 (spec_l06Put N y453 (⟨#[110]⟩ : ByteArray) y460).bind fun y461 =>
 (spec_Decimal N y286.1).bind fun y464 =>
 (scat? (⟨#[111,112,101,110,32]⟩ : ByteArray) y464).bind fun x465 =>
 some (y461,x465,true)) fun j365 =>
 (if (decide ((x3.length : Int) ≥ 3)) = true then
 joinP (fun (v401 : Int) =>
 (at? x3 v401).bind fun x439 =>
 (spec_l15Key N x439.id).bind fun y440 =>
 (spec_l06Cut N x1 y440).bind fun y441 =>
 j365 y441) fun j401 =>
 (spec_l15Open_l1 N x3 N 0 1).bind (fun v421 => j401 v421)
 else
 j365 x1))
theorem sem_spec_l15Open (N : Nat) (x1 : (List Pair)) (x2 : Int) (x3 : (List Tl15State)) (r : (List Pair) × ByteArray × Bool) (h : spec_l15Open N x1 x2 x3 = some r) : Says Tryz.prog 38 [RO 50 (x1.map encPair),VI x2,RO 78 (x3.map encTl15State)] 0 [] (.tup [RO 50 (r.1.map encPair),VS r.2.1,VB r.2.2]) [] := by
 unfold spec_l15Open at h
 refine Says.of_norm e Tryz.call38 e fun B hB => ?_
 have hm : B.m ≤ 1000 := by omega
 refine Run.so hm (.p3 e e e (.nil (.so hm (.p e ?_))))
 obtain ⟨y286,hy286,h⟩ := bindO h
 refine Ops.z 5112 (Ev.call [] [] 0 (sem_spec_l15Next _ _ _ hy286) e e (.d1 .nil) e (.inl e) e e) e e (.p3 e e e (.p2 e e (.nil (.seq (.so hm (.p2 e e (.nil (.condO e h (fun g288 h => ?_) (fun g288 h => ?_)))))))))
 ·refine Run.so hm (.p3 e e e (.p e (.nil (.ret ?_))))
  obtain rfl := someO h
  exact Ends.mkG (.inl e) e (Gh.trans (Gh.trans (gh_prn [0,1,2] [] hB e) (gh_ro [0,1,2] [] [] [0] e)) (gh_pk [0,1,2] [] hB e e e e)) (by first | rfl | (simp only [List.length_set,takeMap,List.drop_zero,List.map_nil]; done) | (simp only [List.length_set,takeMap,List.drop_zero,List.map_nil]; rfl)) (by first | rfl | (simp only [List.length_set,takeMap,List.drop_zero,List.map_nil]; done) | (simp only [List.length_set,takeMap,List.drop_zero,List.map_nil]; rfl))
 ·refine Run.skip (.seqO h (fun v365 => [(0,RO 50 (v365.map encPair)),(1,VI x2),(9,VI y286.1)]) (fun (v365 : (List Pair)) => []) (fun h => ?_) (fun v365 h => ?_))
  ·refine Run.so hm (.p e (.z 17400 (Ev.lnF e) e e (.p e (.nil (.condO e h (fun g366 h => ?_) (fun g366 h => ?_))))))
   ·refine Run.so hm (.p e (.nil (.seqO h (fun v401 => [(0,RO 50 (x1.map encPair)),(1,VI x2),(2,RO 78 (x3.map encTl15State)),(9,VI y286.1),(11,VI v401)]) (fun (v401 : Int) => []) (fun h => ?_) (fun v401 h => ?_))))
    ·refine Run.so hm (.p e (.nil (.block ?_)))
     obtain ⟨res421,h,hk421⟩ := bindO h
     refine Run.loop (n := N) (fun m421 fr σ => ∃ (x406 : Int),∃ (x407 : Int),spec_l15Open_l1 N x3 m421 x406 x407 = some res421 ∧ fr = [(0,RO 50 (x1.map encPair)),(1,VI x2),(2,RO 78 (x3.map encTl15State)),(9,VI y286.1),(11,VI x406),(12,VI x407)] ∧ σ = []) (gh_pk [0,1,2,9,11,12] [] hB e e e e) ⟨_,_,h,e,e⟩ ?_
     rintro m421 fr σ ⟨x406,x407,h,rfl,rfl⟩
     obtain _ | m421 := m421
     ·rw [spec_l15Open_l1] at h; cases h
     rw [spec_l15Open_l1] at h
     refine Run.seq (.so hm (.p2 e e (.z 29704 (Ev.lnF e) e e (.p e (.nil (.condO e h (fun g424 h => ?_) (fun g424 h => ?_)))))))
     ·refine Run.skip (.seqO h (fun v430 => [(0,RO 50 (x1.map encPair)),(1,VI x2),(2,RO 78 (x3.map encTl15State)),(9,VI y286.1),(11,VI v430),(12,VI x407)]) (fun (v430 : Int) => []) (fun h => ?_) (fun v430 h => ?_))
      ·refine Run.block (.seq (.draw hm hmix (.p e (.p e ?_))))
       obtain ⟨x433,hx433,h⟩ := bindO h
       refine OpsD.z 37896 (Ev.iaF e e hx433) e e (.p e (.p e (.p e (.p e ?_))))
       obtain ⟨x434,hx434,h⟩ := bindO h
       refine OpsD.z 37976 (Ev.iaF e e hx434) e e (.p e (.p e (.p e (.nil ⟨by kernel_rfl,?_⟩))))
       refine Run.condO e h (fun g435 h => ?_) (fun g435 h => ?_)
       ·exact Run.ops hm (.p2 e e (.nil (⟨_,_,(gh_pk [0,1,2,9,11,12] [] hB e e e e),_,h,e,e⟩)))
       ·exact Run.skip (⟨_,_,(gh_pk [0,1,2,9,11,12] [] hB e e e e),_,h,e,e⟩)
      ·exact Run.ops hm (.p3 e e e (.nil (⟨m421,Nat.lt_succ_self m421,_,_,(gh_pk [0,1,2,9,11,12] [] hB e e e e),_,_,h,e,e⟩)))
     ·refine Run.exit ?_
      obtain rfl := someO h
      have h := hk421
      exact ⟨_,_,(gh_pk [0,1,2,9,11] [] hB e e e e),_,h,e,e⟩
    ·refine Run.ops hm (.p3 e e e ?_)
     obtain ⟨x439,hx439,h⟩ := bindO h
     refine Ops.z 46104 (Ev.iaF e e hx439) e e (.p2 e e ?_)
     obtain ⟨y440,hy440,h⟩ := bindO h
     refine Ops.z 46152 (Ev.call [] [] 0 (sem_spec_l15Key _ _ _ hy440) e e (.d1 .nil) e (.inl e) e e) e e ?_
     obtain ⟨y441,hy441,h⟩ := bindO h
     exact Ops.z 46168 (Ev.call [] [] 1 (sem_spec_l06Cut _ _ _ _ hy441) e e (.d2 .nil) e (.inl e) e e) e e (.p e (.nil (⟨_,_,(Gh.trans (Gh.trans (Gh.trans ((Gh.frz (f := encPair) (g := encPair) (xs := y441) 46168 (fun _ => e) e)) (gh_prn [0,1,9] [46168] hB e)) (gh_ro [0,1,9] [] [46168] [0] e)) (gh_pk [0,1,9] [] hB e e (by first | rfl | (simp only [List.length_set,takeMap,List.drop_zero,List.map_nil]; done) | (simp only [List.length_set,takeMap,List.drop_zero,List.map_nil]; rfl)) (by first | rfl | (simp only [List.length_set,takeMap,List.drop_zero,List.map_nil]; done) | (simp only [List.length_set,takeMap,List.drop_zero,List.map_nil]; rfl)))),_,h,e,e⟩)))
   ·exact Run.skip (⟨_,_,(Gh.trans (Gh.trans (gh_prn [0,1,9] [] hB e) (gh_ro [0,1,9] [] [] [0] e)) (gh_pk [0,1,9] [] hB e e (by first | rfl | (simp only [List.length_set,takeMap,List.drop_zero,List.map_nil]; done) | (simp only [List.length_set,takeMap,List.drop_zero,List.map_nil]; rfl)) (by first | rfl | (simp only [List.length_set,takeMap,List.drop_zero,List.map_nil]; done) | (simp only [List.length_set,takeMap,List.drop_zero,List.map_nil]; rfl)))),_,h,e,e⟩)
  ·refine Run.so hm (.p2 e e ?_)
   obtain ⟨y451,hy451,h⟩ := bindO h
   refine Ops.z 50184 (Ev.call [] [] 0 (sem_spec_l15Key _ _ _ hy451) e e (.d1 .nil) e (.inl e) e e) e e (.p e (.z 50216 (.bd e e) e e ?_))
   obtain ⟨y452,hy452,h⟩ := bindO h
   refine Ops.z 50232 (Ev.call [] [] 0 (sem_spec_l15Text _ _ _ hy452) e e (.cons (.agg (.d4 .nil)) .nil) e (.inl e) e e) e e ?_
   obtain ⟨y453,hy453,h⟩ := bindO h
   refine Ops.z 50248 (Ev.call [] [] 1 (sem_spec_l06Put _ _ _ _ _ hy453) e e (.d2 (.d1 .nil)) e (.inl e) e e) e e (.p e (.nil (.so hm (.p3 e e e ?_))))
   obtain ⟨y460,hy460,h⟩ := bindO h
   refine Ops.z 54296 (Ev.call [] [] 0 (sem_spec_Decimal _ _ _ hy460) e e (.d1 .nil) e (.inl e) e e) e e ?_
   obtain ⟨y461,hy461,h⟩ := bindO h
   refine Ops.z 54312 (Ev.call [] [50248] 1 (sem_spec_l06Put _ _ _ _ _ hy461) e e (.cons (.borrow e (by decide) (lendW (fun _ => e) _ e)) (.d2 .nil)) e (.inr ⟨e,ownL_root ⟨own_rows (fun _ => e) _,trivial⟩⟩) e e) e e ?_
   refine Ops.p e (.nil (.so hm (.p2 e e ?_)))
   obtain ⟨y464,hy464,h⟩ := bindO h
   refine Ops.z 58376 (Ev.call [] [] 0 (sem_spec_Decimal _ _ _ hy464) e e (.d1 .nil) e (.inl e) e e) e e ?_
   obtain ⟨x465,hx465,h⟩ := bindO h
   refine Ops.z 58392 (Ev.addS e e hx465) e e (.p3 e e e (.nil (.ret ?_)))
   obtain rfl := someO h
   exact Ends.mkG (.inl e) e (Gh.trans (Gh.trans (Gh.trans ((Gh.frz (f := encPair) (g := encPair) (xs := y461) 54312 (fun _ => e) e)) (gh_prn [0,1,2] [54312] hB e)) (gh_ro [0,1,2] [] [54312] [0] e)) (gh_pk [0,1,2] [] hB e e e e)) (by first | rfl | (simp only [List.length_set,takeMap,List.drop_zero,List.map_nil]; done) | (simp only [List.length_set,takeMap,List.drop_zero,List.map_nil]; rfl)) (by first | rfl | (simp only [List.length_set,takeMap,List.drop_zero,List.map_nil]; done) | (simp only [List.length_set,takeMap,List.drop_zero,List.map_nil]; rfl))
def spec_l15Open_i1_l1 (N : Nat) (x3 : (List Tl15State)) : Nat → Int → Int → Option (Int)
 | 0,_,_ => none
 | m + 1,x405,x406 =>
 (if (decide (x406 < ((x3.length : Nat) : Int))) = true then
 joinP (fun (v430 : Int) =>
 spec_l15Open_i1_l1 N x3 m v430 (w64 (x406 + 1))) fun j430 =>
 (at? x3 x406).bind fun x433 =>
 (at? x3 x405).bind fun x434 =>
 (if (decide (x433.at' < x434.at')) = true then
 j430 x406
 else
 j430 x405)
 else
 some x405)
def spec_l15Open_i1 (N : Nat) (x1 : (List Pair)) (x2 : Int) (x3 : (List Tl15State)) : Option ((List Pair) × ByteArray × Bool) :=
 (spec_l15Next N x1).bind fun y286 =>
 (if (!y286.2) = true then
 some (x1,(⟨#[]⟩ : ByteArray),false)
 else
 joinP (fun (v365 : (List Pair)) =>
 (spec_l15Key N y286.1).bind fun y451 =>
 (spec_l15Text N (Tl15State.mk 0 0 x2 (⟨#[]⟩ : ByteArray))).bind fun y452 =>
 (spec_l06Put N v365 y451 y452).bind fun y453 =>
 (spec_Decimal N (w64 (y286.1 + 1))).bind fun y460 =>
 (spec_l06Put N y453 (⟨#[110]⟩ : ByteArray) y460).bind fun y461 =>
 (spec_Decimal N y286.1).bind fun y464 =>
 (scat? (⟨#[111,112,101,110,32]⟩ : ByteArray) y464).bind fun x465 =>
 some (y461,x465,true)) fun j365 =>
 (if (decide (((x3.length : Nat) : Int) ≥ 3)) = true then
 joinP (fun (v401 : Int) =>
 (at? x3 v401).bind fun x439 =>
 (spec_l15Key N x439.id).bind fun y440 =>
 (spec_l06Cut N x1 y440).bind fun y441 =>
 j365 y441) fun j401 =>
 (spec_l15Open_i1_l1 N x3 N 0 1).bind (fun v421 => j401 v421)
 else
 j365 x1))
theorem sem_spec_l15Open_i1 (N : Nat) (x1 : (List Pair)) (x2 : Int) (x3 : (List Tl15State)) (r : (List Pair) × ByteArray × Bool) (h : spec_l15Open_i1 N x1 x2 x3 = some r) : Says Tryz.prog 38 [RO 50 (x1.map encPair),VI x2,.sl 0 78 0 x3.length] 1 [(0,.vec 78 (x3.map encTl15State))] (.tup [RO 50 (r.1.map encPair),VS r.2.1,VB r.2.2]) [(0,.vec 78 (x3.map encTl15State))] := by
 unfold spec_l15Open_i1 at h
 refine Says.of_norm e Tryz.call38 e fun B hB => ?_
 have hm : B.m ≤ 1000 := by omega
 refine Run.so hm (.p3 e e e (.nil (.so hm (.p e ?_))))
 obtain ⟨y286,hy286,h⟩ := bindO h
 refine Ops.z 5112 (Ev.call [] [] 0 (sem_spec_l15Next _ _ _ hy286) e e (.d1 .nil) e (.inl e) e e) e e (.p3 e e e (.p2 e e (.nil (.seq (.so hm (.p2 e e (.nil (.condO e h (fun g288 h => ?_) (fun g288 h => ?_)))))))))
 ·refine Run.so hm (.p3 e e e (.p e (.nil (.ret ?_))))
  obtain rfl := someO h
  exact Ends.mkG (.inl e) e (Gh.trans (Gh.trans (gh_prn [0,1,2] [0] hB e) (gh_ro [0,1,2] [] [] [0] e)) (gh_pk [0,1,2] [0] hB e e e e)) (by first | rfl | (simp only [List.length_set,takeMap,List.drop_zero,List.map_nil]; done) | (simp only [List.length_set,takeMap,List.drop_zero,List.map_nil]; rfl)) (by first | rfl | (simp only [List.length_set,takeMap,List.drop_zero,List.map_nil]; done) | (simp only [List.length_set,takeMap,List.drop_zero,List.map_nil]; rfl))
 ·refine Run.skip (.seqO h (fun v365 => [(0,RO 50 (v365.map encPair)),(1,VI x2),(9,VI y286.1)]) (fun (v365 : (List Pair)) => [(0,.vec 78 (x3.map encTl15State))]) (fun h => ?_) (fun v365 h => ?_))
  ·refine Run.so hm (.p3 e e e (.nil (.condO e h (fun g366 h => ?_) (fun g366 h => ?_))))
   ·refine Run.so hm (.p e (.nil (.seqO h (fun v401 => [(0,RO 50 (x1.map encPair)),(1,VI x2),(2,.sl 0 78 0 x3.length),(9,VI y286.1),(11,VI v401)]) (fun (v401 : Int) => [(0,.vec 78 (x3.map encTl15State))]) (fun h => ?_) (fun v401 h => ?_))))
    ·refine Run.so hm (.p e (.nil (.block ?_)))
     obtain ⟨res421,h,hk421⟩ := bindO h
     refine Run.loop (n := N) (fun m421 fr σ => ∃ (x405 : Int),∃ (x406 : Int),spec_l15Open_i1_l1 N x3 m421 x405 x406 = some res421 ∧ fr = [(0,RO 50 (x1.map encPair)),(1,VI x2),(2,.sl 0 78 0 x3.length),(9,VI y286.1),(11,VI x405),(12,VI x406)] ∧ σ = [(0,.vec 78 (x3.map encTl15State))]) (gh_pk [0,1,2,9,11,12] [0] hB e e e e) ⟨_,_,h,e,e⟩ ?_
     rintro m421 fr σ ⟨x405,x406,h,rfl,rfl⟩
     obtain _ | m421 := m421
     ·rw [spec_l15Open_i1_l1] at h; cases h
     rw [spec_l15Open_i1_l1] at h
     refine Run.seq (.so hm (.p3 e e e (.p e (.nil (.condO e h (fun g424 h => ?_) (fun g424 h => ?_))))))
     ·refine Run.skip (.seqO h (fun v430 => [(0,RO 50 (x1.map encPair)),(1,VI x2),(2,.sl 0 78 0 x3.length),(9,VI y286.1),(11,VI v430),(12,VI x406)]) (fun (v430 : Int) => [(0,.vec 78 (x3.map encTl15State))]) (fun h => ?_) (fun v430 h => ?_))
      ·refine Run.block (.seq (.draw hm hmix (.p e (.p e ?_))))
       obtain ⟨x433,hx433,h⟩ := bindO h
       refine OpsD.z 37896 (Ev.iaW e e e hx433) e e (.p e (.z 37928 (Ev.ldE (f := encTl15State) e e (at_some hx433).2 e e e) e e (.p e (.p e ?_))))
       obtain ⟨x434,hx434,h⟩ := bindO h
       refine OpsD.z 37976 (Ev.iaW e e e hx434) e e (.p e (.z 38008 (Ev.ldE (f := encTl15State) e e (at_some hx434).2 e e e) e e (.p e (.nil ⟨by kernel_rfl,?_⟩))))
       refine Run.condO e h (fun g435 h => ?_) (fun g435 h => ?_)
       ·exact Run.ops hm (.p2 e e (.nil (⟨_,_,(gh_pk [0,1,2,9,11,12] [0] hB e e e e),_,h,e,e⟩)))
       ·exact Run.skip (⟨_,_,(gh_pk [0,1,2,9,11,12] [0] hB e e e e),_,h,e,e⟩)
      ·exact Run.ops hm (.p3 e e e (.nil (⟨m421,Nat.lt_succ_self m421,_,_,(gh_pk [0,1,2,9,11,12] [0] hB e e e e),_,_,h,e,e⟩)))
     ·refine Run.exit ?_
      obtain rfl := someO h
      have h := hk421
      exact ⟨_,_,(gh_pk [0,1,2,9,11] [0] hB e e e e),_,h,e,e⟩
    ·refine Run.ops hm (.p3 e e e ?_)
     obtain ⟨x439,hx439,h⟩ := bindO h
     refine Ops.z 46104 (Ev.iaW e e e hx439) e e (.p e (.z 46136 (Ev.ldE (f := encTl15State) e e (at_some hx439).2 e e e) e e ?_))
     obtain ⟨y440,hy440,h⟩ := bindO h
     refine Ops.z 46152 (Ev.call [] [] 0 (sem_spec_l15Key _ _ _ hy440) e e (.d1 .nil) e (.inl e) e e) e e ?_
     obtain ⟨y441,hy441,h⟩ := bindO h
     exact Ops.z 46168 (Ev.call [] [] 1 (sem_spec_l06Cut _ _ _ _ hy441) e e (.d2 .nil) e (.inl e) e e) e e (.p e (.nil (⟨_,_,(Gh.trans (Gh.trans (Gh.trans ((Gh.frz (f := encPair) (g := encPair) (xs := y441) 46168 (fun _ => e) e)) (gh_prn [0,1,9] [0,46168] hB e)) (gh_ro [0,1,9] [] [46168] [0] e)) (gh_pk [0,1,9] [0] hB e e (by first | rfl | (simp only [List.length_set,takeMap,List.drop_zero,List.map_nil]; done) | (simp only [List.length_set,takeMap,List.drop_zero,List.map_nil]; rfl)) (by first | rfl | (simp only [List.length_set,takeMap,List.drop_zero,List.map_nil]; done) | (simp only [List.length_set,takeMap,List.drop_zero,List.map_nil]; rfl)))),_,h,e,e⟩)))
   ·exact Run.skip (⟨_,_,(Gh.trans (Gh.trans (gh_prn [0,1,9] [0] hB e) (gh_ro [0,1,9] [] [] [0] e)) (gh_pk [0,1,9] [0] hB e e (by first | rfl | (simp only [List.length_set,takeMap,List.drop_zero,List.map_nil]; done) | (simp only [List.length_set,takeMap,List.drop_zero,List.map_nil]; rfl)) (by first | rfl | (simp only [List.length_set,takeMap,List.drop_zero,List.map_nil]; done) | (simp only [List.length_set,takeMap,List.drop_zero,List.map_nil]; rfl)))),_,h,e,e⟩)
  ·refine Run.so hm (.p2 e e ?_)
   obtain ⟨y451,hy451,h⟩ := bindO h
   refine Ops.z 50184 (Ev.call [] [] 0 (sem_spec_l15Key _ _ _ hy451) e e (.d1 .nil) e (.inl e) e e) e e (.p e (.z 50216 (.bd e e) e e ?_))
   obtain ⟨y452,hy452,h⟩ := bindO h
   refine Ops.z 50232 (Ev.call [] [] 0 (sem_spec_l15Text _ _ _ hy452) e e (.cons (.agg (.d4 .nil)) .nil) e (.inl e) e e) e e ?_
   obtain ⟨y453,hy453,h⟩ := bindO h
   refine Ops.z 50248 (Ev.call [] [] 1 (sem_spec_l06Put _ _ _ _ _ hy453) e e (.d2 (.d1 .nil)) e (.inl e) e e) e e (.p e (.nil (.so hm (.p3 e e e ?_))))
   obtain ⟨y460,hy460,h⟩ := bindO h
   refine Ops.z 54296 (Ev.call [] [] 0 (sem_spec_Decimal _ _ _ hy460) e e (.d1 .nil) e (.inl e) e e) e e ?_
   obtain ⟨y461,hy461,h⟩ := bindO h
   refine Ops.z 54312 (Ev.call [] [50248] 1 (sem_spec_l06Put _ _ _ _ _ hy461) e e (.cons (.borrow e (by decide) (lendW (fun _ => e) _ e)) (.d2 .nil)) e (.inr ⟨e,ownL_root ⟨own_rows (fun _ => e) _,trivial⟩⟩) e e) e e ?_
   refine Ops.p e (.nil (.so hm (.p2 e e ?_)))
   obtain ⟨y464,hy464,h⟩ := bindO h
   refine Ops.z 58376 (Ev.call [] [] 0 (sem_spec_Decimal _ _ _ hy464) e e (.d1 .nil) e (.inl e) e e) e e ?_
   obtain ⟨x465,hx465,h⟩ := bindO h
   refine Ops.z 58392 (Ev.addS e e hx465) e e (.p3 e e e (.nil (.ret ?_)))
   obtain rfl := someO h
   exact Ends.mkG (.inl e) e (Gh.trans (Gh.trans (Gh.trans ((Gh.frz (f := encPair) (g := encPair) (xs := y461) 54312 (fun _ => e) e)) (gh_prn [0,1,2] [0,54312] hB e)) (gh_ro [0,1,2] [] [54312] [0] e)) (gh_pk [0,1,2] [0] hB e e e e)) (by first | rfl | (simp only [List.length_set,takeMap,List.drop_zero,List.map_nil]; done) | (simp only [List.length_set,takeMap,List.drop_zero,List.map_nil]; rfl)) (by first | rfl | (simp only [List.length_set,takeMap,List.drop_zero,List.map_nil]; done) | (simp only [List.length_set,takeMap,List.drop_zero,List.map_nil]; rfl))
def spec_l15Op (N : Nat) (x1 : (List Pair)) (x2 : Command) : Option ((List Pair) × ByteArray) :=
 (scat? (⟨#[107]⟩ : ByteArray) x2.Key).bind fun x153 =>
 (spec_l06At N x1 x153).bind fun y157 =>
 (spec_l06Get N x1 x153).bind fun y161 =>
 (if (x2.Op == 2) = true then
 (if (decide (y157 ≥ 0)) = true then
 (scat? (⟨#[103,111,116,32]⟩ : ByteArray) y161).bind fun x185 =>
 some (x1,x185)
 else
 some (x1,(⟨#[110,111,110,101]⟩ : ByteArray)))
 else
 (if (x2.Op == 3) = true then
 (spec_l06Put N x1 x153 x2.Value).bind fun y188 =>
 some (y188,(⟨#[112,117,116]⟩ : ByteArray))
 else
 (if (x2.Op == 4) = true then
 (if (decide (y157 ≥ 0)) = true then
 (spec_l06Cut N x1 x153).bind fun y195 =>
 some (y195,(⟨#[99,117,116]⟩ : ByteArray))
 else
 some (x1,(⟨#[110,111,110,101]⟩ : ByteArray)))
 else
 (if (!decide (y161 = x2.Old)) = true then
 some (x1,(⟨#[107,101,112,116]⟩ : ByteArray))
 else
 (spec_l06Put N x1 x153 x2.Value).bind fun y199 =>
 some (y199,(⟨#[115,119,97,112,112,101,100]⟩ : ByteArray))))))
theorem sem_spec_l15Op (N : Nat) (x1 : (List Pair)) (x2 : Command) (r : (List Pair) × ByteArray) (h : spec_l15Op N x1 x2 = some r) : Says Tryz.prog 39 [RO 50 (x1.map encPair),.agg [VI x2.Op,VI x2.Session,VI x2.Seq,VS x2.Key,VS x2.Value,VS x2.Old]] 0 [] (.tup [RO 50 (r.1.map encPair),VS r.2]) [] := by
 unfold spec_l15Op at h
 refine Says.of_norm e Tryz.call39 e fun B hB => ?_
 have hm : B.m ≤ 1000 := by omega
 refine Run.so hm (.z 1000 (.bx e e) e e (.p2 e e (.nil (.so hm (.p2 e e ?_)))))
 obtain ⟨x153,hx153,h⟩ := bindO h
 refine Ops.z 5128 (Ev.addS e e hx153) e e (.p e (.nil (.so hm (.p2 e e ?_))))
 obtain ⟨y157,hy157,h⟩ := bindO h
 refine Ops.z 9224 (Ev.call [] [] 0 (sem_spec_l06At _ _ _ _ hy157) e e (.d2 .nil) e (.inl e) e e) e e (.p2 e e (.nil (.so hm (.p2 e e ?_))))
 obtain ⟨y161,hy161,h⟩ := bindO h
 refine Ops.z 13320 (Ev.call [] [] 0 (sem_spec_l06Get _ _ _ _ hy161) e e (.d2 .nil) e (.inl e) e e) e e (.p e (.nil (.seq (.so hm (.p2 e e (.nil (.block (.so hm (.p2 e e (.nil (.condO e h (fun g179 h => ?_) (fun g179 h => ?_))))))))))))
 ·refine Run.seq (.so hm (.p e (.nil (.condO e h (fun g183 h => ?_) (fun g183 h => ?_)))))
  ·refine Run.so hm (.p2 e e ?_)
   obtain ⟨x185,hx185,h⟩ := bindO h
   refine Ops.z 29704 (Ev.addS e e hx185) e e (.p2 e e (.nil (.ret ?_)))
   obtain rfl := someO h
   exact Ends.mkG (.inl e) e (Gh.trans (Gh.trans (gh_prn [0,1] [] hB e) (gh_ro [0,1] [] [] [0] e)) (gh_pk [0,1] [] hB e e e e)) (by first | rfl | (simp only [List.length_set,takeMap,List.drop_zero,List.map_nil]; done) | (simp only [List.length_set,takeMap,List.drop_zero,List.map_nil]; rfl)) (by first | rfl | (simp only [List.length_set,takeMap,List.drop_zero,List.map_nil]; done) | (simp only [List.length_set,takeMap,List.drop_zero,List.map_nil]; rfl))
  ·refine Run.skip (.so hm (.p3 e e e (.nil (.ret ?_))))
   obtain rfl := someO h
   exact Ends.mkG (.inl e) e (Gh.trans (Gh.trans (gh_prn [0,1] [] hB e) (gh_ro [0,1] [] [] [0] e)) (gh_pk [0,1] [] hB e e e e)) (by first | rfl | (simp only [List.length_set,takeMap,List.drop_zero,List.map_nil]; done) | (simp only [List.length_set,takeMap,List.drop_zero,List.map_nil]; rfl)) (by first | rfl | (simp only [List.length_set,takeMap,List.drop_zero,List.map_nil]; done) | (simp only [List.length_set,takeMap,List.drop_zero,List.map_nil]; rfl))
 ·refine Run.so hm (.p2 e e (.nil (.condO e h (fun g186 h => ?_) (fun g186 h => ?_))))
  ·refine Run.so hm (.p3 e e e (.p e ?_))
   obtain ⟨y188,hy188,h⟩ := bindO h
   refine Ops.z 42024 (Ev.call [] [] 1 (sem_spec_l06Put _ _ _ _ _ hy188) e e (.d2 (.d1 .nil)) e (.inl e) e e) e e (.p2 e e (.nil (.ret ?_)))
   obtain rfl := someO h
   exact Ends.mkG (.inl e) e (Gh.trans (Gh.trans (Gh.trans ((Gh.frz (f := encPair) (g := encPair) (xs := y188) 42024 (fun _ => e) e)) (gh_prn [0,1] [42024] hB e)) (gh_ro [0,1] [] [42024] [0] e)) (gh_pk [0,1] [] hB e e e e)) (by first | rfl | (simp only [List.length_set,takeMap,List.drop_zero,List.map_nil]; done) | (simp only [List.length_set,takeMap,List.drop_zero,List.map_nil]; rfl)) (by first | rfl | (simp only [List.length_set,takeMap,List.drop_zero,List.map_nil]; done) | (simp only [List.length_set,takeMap,List.drop_zero,List.map_nil]; rfl))
  ·refine Run.so hm (.p2 e e (.nil (.condO e h (fun g189 h => ?_) (fun g189 h => ?_))))
   ·refine Run.seq (.so hm (.p e (.nil (.condO e h (fun g193 h => ?_) (fun g193 h => ?_)))))
    ·refine Run.so hm (.p2 e e ?_)
     obtain ⟨y195,hy195,h⟩ := bindO h
     refine Ops.z 54280 (Ev.call [] [] 1 (sem_spec_l06Cut _ _ _ _ hy195) e e (.d2 .nil) e (.inl e) e e) e e (.p2 e e (.nil (.ret ?_)))
     obtain rfl := someO h
     exact Ends.mkG (.inl e) e (Gh.trans (Gh.trans (Gh.trans ((Gh.frz (f := encPair) (g := encPair) (xs := y195) 54280 (fun _ => e) e)) (gh_prn [0,1] [54280] hB e)) (gh_ro [0,1] [] [54280] [0] e)) (gh_pk [0,1] [] hB e e e e)) (by first | rfl | (simp only [List.length_set,takeMap,List.drop_zero,List.map_nil]; done) | (simp only [List.length_set,takeMap,List.drop_zero,List.map_nil]; rfl)) (by first | rfl | (simp only [List.length_set,takeMap,List.drop_zero,List.map_nil]; done) | (simp only [List.length_set,takeMap,List.drop_zero,List.map_nil]; rfl))
    ·refine Run.skip (.so hm (.p3 e e e (.nil (.ret ?_))))
     obtain rfl := someO h
     exact Ends.mkG (.inl e) e (Gh.trans (Gh.trans (gh_prn [0,1] [] hB e) (gh_ro [0,1] [] [] [0] e)) (gh_pk [0,1] [] hB e e e e)) (by first | rfl | (simp only [List.length_set,takeMap,List.drop_zero,List.map_nil]; done) | (simp only [List.length_set,takeMap,List.drop_zero,List.map_nil]; rfl)) (by first | rfl | (simp only [List.length_set,takeMap,List.drop_zero,List.map_nil]; done) | (simp only [List.length_set,takeMap,List.drop_zero,List.map_nil]; rfl))
   ·refine Run.skip (.seq (.so hm (.p3 e e e (.p e (.nil (.condO e h (fun g197 h => ?_) (fun g197 h => ?_)))))))
    ·refine Run.so hm (.p3 e e e (.nil (.ret ?_)))
     obtain rfl := someO h
     exact Ends.mkG (.inl e) e (Gh.trans (Gh.trans (gh_prn [0,1] [] hB e) (gh_ro [0,1] [] [] [0] e)) (gh_pk [0,1] [] hB e e e e)) (by first | rfl | (simp only [List.length_set,takeMap,List.drop_zero,List.map_nil]; done) | (simp only [List.length_set,takeMap,List.drop_zero,List.map_nil]; rfl)) (by first | rfl | (simp only [List.length_set,takeMap,List.drop_zero,List.map_nil]; done) | (simp only [List.length_set,takeMap,List.drop_zero,List.map_nil]; rfl))
    ·refine Run.skip (.so hm (.p3 e e e (.p e ?_)))
     obtain ⟨y199,hy199,h⟩ := bindO h
     refine Ops.z 70696 (Ev.call [] [] 1 (sem_spec_l06Put _ _ _ _ _ hy199) e e (.d2 (.d1 .nil)) e (.inl e) e e) e e (.p2 e e (.nil (.ret ?_)))
     obtain rfl := someO h
     exact Ends.mkG (.inl e) e (Gh.trans (Gh.trans (Gh.trans ((Gh.frz (f := encPair) (g := encPair) (xs := y199) 70696 (fun _ => e) e)) (gh_prn [0,1] [70696] hB e)) (gh_ro [0,1] [] [70696] [0] e)) (gh_pk [0,1] [] hB e e e e)) (by first | rfl | (simp only [List.length_set,takeMap,List.drop_zero,List.map_nil]; done) | (simp only [List.length_set,takeMap,List.drop_zero,List.map_nil]; rfl)) (by first | rfl | (simp only [List.length_set,takeMap,List.drop_zero,List.map_nil]; done) | (simp only [List.length_set,takeMap,List.drop_zero,List.map_nil]; rfl))
def spec_l15Op_i1 (N : Nat) (x1 : (List Pair)) (x2 : Command) : Option ((List Pair) × ByteArray) :=
 (scat? (⟨#[107]⟩ : ByteArray) x2.Key).bind fun x153 =>
 (spec_l06At N x1 x153).bind fun y157 =>
 (spec_l06Get N x1 x153).bind fun y161 =>
 (if (x2.Op == 2) = true then
 (if (decide (y157 ≥ 0)) = true then
 (scat? (⟨#[103,111,116,32]⟩ : ByteArray) y161).bind fun x185 =>
 some (x1,x185)
 else
 some (x1,(⟨#[110,111,110,101]⟩ : ByteArray)))
 else
 (if (x2.Op == 3) = true then
 (spec_l06Put N x1 x153 x2.Value).bind fun y188 =>
 some (y188,(⟨#[112,117,116]⟩ : ByteArray))
 else
 (if (x2.Op == 4) = true then
 (if (decide (y157 ≥ 0)) = true then
 (spec_l06Cut N x1 x153).bind fun y195 =>
 some (y195,(⟨#[99,117,116]⟩ : ByteArray))
 else
 some (x1,(⟨#[110,111,110,101]⟩ : ByteArray)))
 else
 (if (!decide (y161 = x2.Old)) = true then
 some (x1,(⟨#[107,101,112,116]⟩ : ByteArray))
 else
 (spec_l06Put N x1 x153 x2.Value).bind fun y199 =>
 some (y199,(⟨#[115,119,97,112,112,101,100]⟩ : ByteArray))))))
theorem sem_spec_l15Op_i1 (N : Nat) (x1 : (List Pair)) (x2 : Command) (r : (List Pair) × ByteArray) (h : spec_l15Op_i1 N x1 x2 = some r) : Says Tryz.prog 39 [.sl 0 50 0 x1.length,.agg [VI x2.Op,VI x2.Session,VI x2.Seq,VS x2.Key,VS x2.Value,VS x2.Old]] 1 [(0,.vec 50 (x1.map encPair))] (.tup [.sl 1 50 0 r.1.length,VS r.2]) [(0,.gone),(1,.vec 50 (r.1.map encPair))] := by
 unfold spec_l15Op_i1 at h
 refine Says.of_norm e Tryz.call39 e fun B hB => ?_
 have hm : B.m ≤ 1000 := by omega
 refine Run.so hm (.z 1000 (.bx e e) e e (.p2 e e (.nil (.so hm (.p2 e e ?_)))))
 obtain ⟨x153,hx153,h⟩ := bindO h
 refine Ops.z 5128 (Ev.addS e e hx153) e e (.p e (.nil (.so hm (.p2 e e ?_))))
 obtain ⟨y157,hy157,h⟩ := bindO h
 refine Ops.z 9224 (Ev.call [] [0] 0 (sem_spec_l06At _ _ _ _ hy157) e e (.cons (.borrow e (by decide) (lendW (fun _ => e) _ e)) (.d1 .nil)) e (.inr ⟨e,ownL_root trivial⟩) e e) e e ?_
 refine Ops.p e (.p e (.nil (.so hm (.p2 e e ?_))))
 obtain ⟨y161,hy161,h⟩ := bindO h
 refine Ops.z 13320 (Ev.call [] [0] 0 (sem_spec_l06Get _ _ _ _ hy161) e e (.cons (.borrow e (by decide) (lendW (fun _ => e) _ e)) (.d1 .nil)) e (.inr ⟨e,ownL_root trivial⟩) e e) e e ?_
 refine Ops.p e (.nil (.seq (.so hm (.p2 e e (.nil (.block (.so hm (.p2 e e (.nil (.condO e h (fun g179 h => ?_) (fun g179 h => ?_)))))))))))
 ·refine Run.seq (.so hm (.p e (.nil (.condO e h (fun g183 h => ?_) (fun g183 h => ?_)))))
  ·refine Run.so hm (.p2 e e ?_)
   obtain ⟨x185,hx185,h⟩ := bindO h
   refine Ops.z 29704 (Ev.addS e e hx185) e e (.p2 e e (.nil (.ret ?_)))
   obtain rfl := someO h
   exact Ends.mkG (.inl e) e (Gh.trans (Gh.trans (gh_prn [0,1] [0] hB e) (gh_mvE [0,1] [0] hB e e)) (gh_pk [0,1] [0,30000000] hB e e e e)) e e
  ·refine Run.skip (.so hm (.p3 e e e (.nil (.ret ?_))))
   obtain rfl := someO h
   exact Ends.mkG (.inl e) e (Gh.trans (Gh.trans (gh_prn [0,1] [0] hB e) (gh_mvE [0,1] [0] hB e e)) (gh_pk [0,1] [0,30000000] hB e e e e)) e e
 ·refine Run.so hm (.p2 e e (.nil (.condO e h (fun g186 h => ?_) (fun g186 h => ?_))))
  ·refine Run.so hm (.p3 e e e (.p e ?_))
   obtain ⟨y188,hy188,h⟩ := bindO h
   refine Ops.z 42024 (Ev.call [] [0] 1 (sem_spec_l06Put _ _ _ _ _ hy188) e e (.cons (.borrow e (by decide) (lendW (fun _ => e) _ e)) (.d2 .nil)) e (.inr ⟨e,ownL_root ⟨own_rows (fun _ => e) _,trivial⟩⟩) e e) e e ?_
   refine Ops.p e (.p e (.nil (.ret ?_)))
   obtain rfl := someO h
   exact Ends.mkG (.inl e) e (Gh.trans (Gh.trans (gh_prn [0,1] [0,42024] hB e) (gh_mvE [0,1] [0] hB e e)) (gh_pk [0,1] [0,42024] hB e e e e)) e e
  ·refine Run.so hm (.p2 e e (.nil (.condO e h (fun g189 h => ?_) (fun g189 h => ?_))))
   ·refine Run.seq (.so hm (.p e (.nil (.condO e h (fun g193 h => ?_) (fun g193 h => ?_)))))
    ·refine Run.so hm (.p2 e e ?_)
     obtain ⟨y195,hy195,h⟩ := bindO h
     refine Ops.z 54280 (Ev.call [] [0] 1 (sem_spec_l06Cut _ _ _ _ hy195) e e (.cons (.borrow e (by decide) (lendW (fun _ => e) _ e)) (.d1 .nil)) e (.inr ⟨e,ownL_root ⟨own_rows (fun _ => e) _,trivial⟩⟩) e e) e e ?_
     refine Ops.p e (.p e (.nil (.ret ?_)))
     obtain rfl := someO h
     exact Ends.mkG (.inl e) e (Gh.trans (Gh.trans (gh_prn [0,1] [0,54280] hB e) (gh_mvE [0,1] [0] hB e e)) (gh_pk [0,1] [0,54280] hB e e e e)) e e
    ·refine Run.skip (.so hm (.p3 e e e (.nil (.ret ?_))))
     obtain rfl := someO h
     exact Ends.mkG (.inl e) e (Gh.trans (Gh.trans (gh_prn [0,1] [0] hB e) (gh_mvE [0,1] [0] hB e e)) (gh_pk [0,1] [0,30000000] hB e e e e)) e e
   ·refine Run.skip (.seq (.so hm (.p3 e e e (.p e (.nil (.condO e h (fun g197 h => ?_) (fun g197 h => ?_)))))))
    ·refine Run.so hm (.p3 e e e (.nil (.ret ?_)))
     obtain rfl := someO h
     exact Ends.mkG (.inl e) e (Gh.trans (Gh.trans (gh_prn [0,1] [0] hB e) (gh_mvE [0,1] [0] hB e e)) (gh_pk [0,1] [0,30000000] hB e e e e)) e e
    ·refine Run.skip (.so hm (.p3 e e e (.p e ?_)))
     obtain ⟨y199,hy199,h⟩ := bindO h
     refine Ops.z 70696 (Ev.call [] [0] 1 (sem_spec_l06Put _ _ _ _ _ hy199) e e (.cons (.borrow e (by decide) (lendW (fun _ => e) _ e)) (.d2 .nil)) e (.inr ⟨e,ownL_root ⟨own_rows (fun _ => e) _,trivial⟩⟩) e e) e e ?_
     refine Ops.p e (.p e (.nil (.ret ?_)))
     obtain rfl := someO h
     exact Ends.mkG (.inl e) e (Gh.trans (Gh.trans (gh_prn [0,1] [0,70696] hB e) (gh_mvE [0,1] [0] hB e e)) (gh_pk [0,1] [0,70696] hB e e e e)) e e
def spec_Act_l1 (N : Nat) (x3 : Command) (y286 : (List Tl15State) × Bool) : Nat → Int → Int → Option (Int)
 | 0,_,_ => none
 | m + 1,x357,x358 =>
 (if (decide (x358 < ((y286.1.length : Nat) : Int))) = true then
 joinP (fun (v384 : Int) =>
 spec_Act_l1 N x3 y286 m v384 (w64 (x358 + 1))) fun j384 =>
 (at? y286.1 x358).bind fun x386 =>
 (if (x386.id == x3.Session) = true then
 j384 x358
 else
 j384 x357)
 else
 some x357)
def spec_Act (N : Nat) (x1 : (List Pair)) (x2 : Int) (x3 : Command) : Option ((List Pair) × ByteArray × Bool) :=
 (spec_MapOk N x1).bind fun y277 =>
 (if (!y277) = true then
 some (([] : List Pair),(⟨#[]⟩ : ByteArray),false)
 else
 (spec_CommandOk N x3).bind fun y279 =>
 (if (!y279) = true then
 some (([] : List Pair),(⟨#[]⟩ : ByteArray),false)
 else
 (spec_l01In N x2 0 100000).bind fun y281 =>
 (if (!y281) = true then
 some (([] : List Pair),(⟨#[]⟩ : ByteArray),false)
 else
 (spec_l15Sessions N x1).bind fun y286 =>
 (if (!y286.2) = true then
 some (([] : List Pair),(⟨#[]⟩ : ByteArray),false)
 else
 (cat? ([] : List Pair) x1).bind fun x292 =>
 (if (x3.Op == 1) = true then
 (spec_l15Open_i1 N x292 x2 y286.1).bind fun y312 =>
 (if (!y312.2.2) = true then
 some (([] : List Pair),(⟨#[]⟩ : ByteArray),false)
 else
 (spec_MapOk N y312.1).bind fun y321 =>
 (if (!y321) = true then
 some (([] : List Pair),(⟨#[]⟩ : ByteArray),false)
 else
 some (y312.1,y312.2.1,true)))
 else
 joinP (fun (v355 : Int) =>
 (if (decide (v355 < 0)) = true then
 some (x292,(⟨#[101,120,112,105,114,101,100]⟩ : ByteArray),true)
 else
 (at? y286.1 v355).bind fun x393 =>
 (if (decide (x3.Seq < x393.seq)) = true then
 some (x292,(⟨#[115,116,97,108,101]⟩ : ByteArray),true)
 else
 (if (x3.Seq == x393.seq) = true then
 some (x292,x393.reply,true)
 else
 (if (decide (x3.Seq > (w64 (x393.seq + 1)))) = true then
 some (x292,(⟨#[103,97,112]⟩ : ByteArray),true)
 else
 (spec_l15Op_i1 N x292 x3).bind fun y403 =>
 (spec_l15Key N x393.id).bind fun y413 =>
 (spec_l15Text N (Tl15State.mk x393.id x3.Seq x2 y403.2)).bind fun y414 =>
 (spec_l06Put N y403.1 y413 y414).bind fun y415 =>
 (spec_MapOk N y415).bind fun y420 =>
 (if (!y420) = true then
 some (([] : List Pair),(⟨#[]⟩ : ByteArray),false)
 else
 some (y415,y403.2,true))))))) fun j355 =>
 (spec_Act_l1 N x3 y286 N (-1 : Int) 0).bind (fun v377 => j355 v377))))))
theorem sem_spec_Act (N : Nat) (x1 : (List Pair)) (x2 : Int) (x3 : Command) (r : (List Pair) × ByteArray × Bool) (h : spec_Act N x1 x2 x3 = some r) : Says Tryz.prog 26 [RO 50 (x1.map encPair),VI x2,.agg [VI x3.Op,VI x3.Session,VI x3.Seq,VS x3.Key,VS x3.Value,VS x3.Old]] 0 [] (.tup [RO 50 (r.1.map encPair),VS r.2.1,VB r.2.2]) [] := by
 unfold spec_Act at h
 refine Says.of_norm e Tryz.call26 e fun B hB => ?_
 have hm : B.m ≤ 1000 := by omega
 refine Run.so hm (.z 1000 (.bx e e) e e (.p3 e e e (.nil (.so hm (.z 5096 (Ev.bsW (ys := ([] : List Pair)) (f := encPair) e .nil e e e e e) e e (.p e (.nil (.seq (.so hm (.p e ?_))))))))))
 obtain ⟨y277,hy277,h⟩ := bindO h
 refine Ops.z 9208 (Ev.call [] [] 0 (sem_spec_MapOk _ _ _ hy277) e e (.d1 .nil) e (.inl e) e e) e e (.p2 e e (.askO (x := .t 21) e h (fun g278 h => ?_) (fun g278 h => ?_)))
 ·refine Ops.gn e g278 (.gn e g278 (.gn e g278 (.z 9304 (.pkT e g278 e) e e (.p e (.gn e e (.gn e e (.gn e e (.z 9384 (.pkT e e e) e e (.nil (.condT e e (.so hm (.p3 e e e (.p e (.nil (.ret ?_)))))))))))))))
  obtain rfl := someO h
  exact Ends.mkG (.inl e) e (Gh.trans (Gh.trans (Gh.trans ((Gh.frz (f := encPair) (g := encPair) (xs := ([] : List Pair)) 5096 (fun _ => e) e)) (gh_prn [0,1,2] [5096] hB e)) (gh_ro [0,1,2] [] [5096] [0] e)) (gh_pk [0,1,2] [] hB e e e e)) (by first | rfl | (simp only [List.length_set,takeMap,List.drop_zero,List.map_nil]; done) | (simp only [List.length_set,takeMap,List.drop_zero,List.map_nil]; rfl)) (by first | rfl | (simp only [List.length_set,takeMap,List.drop_zero,List.map_nil]; done) | (simp only [List.length_set,takeMap,List.drop_zero,List.map_nil]; rfl))
 ·refine Ops.gp e g278 e ?_
  obtain ⟨y279,hy279,h⟩ := bindO h
  refine Ops.gs (s := 9272) e g278 (Ev.call [] [] 0 (sem_spec_CommandOk _ _ _ hy279) e e (.cons (.agg (.d4 (.d2 .nil))) .nil) e (.inl e) e e) e e (.gp e g278 e (.z 9304 (.pkF e g278 e) e e (.p e (.askO (x := .t 26) e h (fun g280 h => ?_) (fun g280 h => ?_)))))
  ·refine Ops.gn e g280 (.gn e g280 (.gn e g280 (.z 9384 (.pkT e g280 e) e e (.nil (.condT e e (.so hm (.p3 e e e (.p e (.nil (.ret ?_))))))))))
   obtain rfl := someO h
   exact Ends.mkG (.inl e) e (Gh.trans (Gh.trans (Gh.trans ((Gh.frz (f := encPair) (g := encPair) (xs := ([] : List Pair)) 5096 (fun _ => e) e)) (gh_prn [0,1,2] [5096] hB e)) (gh_ro [0,1,2] [] [5096] [0] e)) (gh_pk [0,1,2] [] hB e e e e)) (by first | rfl | (simp only [List.length_set,takeMap,List.drop_zero,List.map_nil]; done) | (simp only [List.length_set,takeMap,List.drop_zero,List.map_nil]; rfl)) (by first | rfl | (simp only [List.length_set,takeMap,List.drop_zero,List.map_nil]; done) | (simp only [List.length_set,takeMap,List.drop_zero,List.map_nil]; rfl))
  ·refine Ops.gp e g280 e ?_
   obtain ⟨y281,hy281,h⟩ := bindO h
   refine Ops.gs (s := 9352) e g280 (Ev.call [] [] 0 (sem_spec_l01In _ _ _ _ _ hy281) e e (.d2 (.d1 .nil)) e (.inl e) e e) e e (.gp e g280 e (.z 9384 (.pkF e g280 e) e e (.nil (.condO e h (fun g282 h => ?_) (fun g282 h => ?_)))))
   ·refine Run.so hm (.p3 e e e (.p e (.nil (.ret ?_))))
    obtain rfl := someO h
    exact Ends.mkG (.inl e) e (Gh.trans (Gh.trans (Gh.trans ((Gh.frz (f := encPair) (g := encPair) (xs := ([] : List Pair)) 5096 (fun _ => e) e)) (gh_prn [0,1,2] [5096] hB e)) (gh_ro [0,1,2] [] [5096] [0] e)) (gh_pk [0,1,2] [] hB e e e e)) (by first | rfl | (simp only [List.length_set,takeMap,List.drop_zero,List.map_nil]; done) | (simp only [List.length_set,takeMap,List.drop_zero,List.map_nil]; rfl)) (by first | rfl | (simp only [List.length_set,takeMap,List.drop_zero,List.map_nil]; done) | (simp only [List.length_set,takeMap,List.drop_zero,List.map_nil]; rfl))
   ·refine Run.skip (.so hm (.p e ?_))
    obtain ⟨y286,hy286,h⟩ := bindO h
    refine Ops.z 17400 (Ev.call [] [] 1 (sem_spec_l15Sessions _ _ _ hy286) e e (.d1 .nil) e (.inl e) e e) e e (.p3 e e e (.p2 e e (.nil (.seq (.so hm (.p2 e e (.nil (.condO e h (fun g288 h => ?_) (fun g288 h => ?_)))))))))
    ·refine Run.so hm (.p3 e e e (.p e (.nil (.ret ?_))))
     obtain rfl := someO h
     exact Ends.mkG (.inl e) e (Gh.trans (Gh.trans (Gh.trans ((Gh.frz (f := encPair) (g := encPair) (xs := ([] : List Pair)) 5096 (fun _ => e) e)) (gh_prn [0,1,2] [5096] hB e)) (gh_ro [0,1,2] [] [5096] [0] e)) (gh_pk [0,1,2] [] hB e e e e)) (by first | rfl | (simp only [List.length_set,takeMap,List.drop_zero,List.map_nil]; done) | (simp only [List.length_set,takeMap,List.drop_zero,List.map_nil]; rfl)) (by first | rfl | (simp only [List.length_set,takeMap,List.drop_zero,List.map_nil]; done) | (simp only [List.length_set,takeMap,List.drop_zero,List.map_nil]; rfl))
    ·refine Run.skip (.so hm (.z 29672 (Ev.bsW (ys := ([] : List Pair)) (f := encPair) e .nil e e e e e) e e (.p e ?_)))
     obtain ⟨x292,hx292,h⟩ := bindO h
     refine Ops.z 29704 (Ev.apW (f := encPair) (ontoW e e e) (addsF e) e bt50 e hx292) e e (.p e (.nil (.so hm (.p e (.nil (.seq (.so hm (.p3 e e e (.nil (.condO e h (fun g308 h => ?_) (fun g308 h => ?_)))))))))))
     ·refine Run.so hm (.p3 e e e ?_)
      obtain ⟨y312,hy312,h⟩ := bindO h
      refine Ops.stz (s := 42008) (EvZ.frz (f := encPair) (g := encPair) (xs := x292) 29704 (fun _ => e) e (.mk (Ev.call [17400] [] 0 (sem_spec_l15Open_i1 _ _ _ _ _ hy312) e e (.cons (.share e (shareW _ e)) (.d1 (.cons (.sl e) .nil))) e (.inl e) e e))) e e (.p3 e e e (.p3 e e e (.p e (.nil (.seq (.so hm (.p3 e e e (.askO (x := .t 56) e h (fun g320 h => ?_) (fun g320 h => ?_)))))))))
      ·refine Ops.gn e g320 (.gn e g320 (.gn e g320 (.z 46152 (.pkT e g320 e) e e (.nil (.condT e e (.so hm (.p3 e e e (.p e (.nil (.ret ?_))))))))))
       obtain rfl := someO h
       exact Ends.mkG (.inl e) e (Gh.trans (Gh.trans (Gh.trans ((Gh.frz (f := encPair) (g := encPair) (xs := ([] : List Pair)) 5096 (fun _ => e) e)) (gh_prn [0,1,2] [5096] hB e)) (gh_ro [0,1,2] [] [5096] [0] e)) (gh_pk [0,1,2] [] hB e e e e)) (by first | rfl | (simp only [List.length_set,takeMap,List.drop_zero,List.map_nil]; done) | (simp only [List.length_set,takeMap,List.drop_zero,List.map_nil]; rfl)) (by first | rfl | (simp only [List.length_set,takeMap,List.drop_zero,List.map_nil]; done) | (simp only [List.length_set,takeMap,List.drop_zero,List.map_nil]; rfl))
      ·refine Ops.gp e g320 e ?_
       obtain ⟨y321,hy321,h⟩ := bindO h
       refine Ops.gs (s := 46120) e g320 (Ev.call [] [] 0 (sem_spec_MapOk _ _ _ hy321) e e (.d1 .nil) e (.inl e) e e) e e (.gp e g320 e (.z 46152 (.pkF e g320 e) e e (.nil (.condO e h (fun g322 h => ?_) (fun g322 h => ?_)))))
       ·refine Run.so hm (.p3 e e e (.p e (.nil (.ret ?_))))
        obtain rfl := someO h
        exact Ends.mkG (.inl e) e (Gh.trans (Gh.trans (Gh.trans ((Gh.frz (f := encPair) (g := encPair) (xs := ([] : List Pair)) 5096 (fun _ => e) e)) (gh_prn [0,1,2] [5096] hB e)) (gh_ro [0,1,2] [] [5096] [0] e)) (gh_pk [0,1,2] [] hB e e e e)) (by first | rfl | (simp only [List.length_set,takeMap,List.drop_zero,List.map_nil]; done) | (simp only [List.length_set,takeMap,List.drop_zero,List.map_nil]; rfl)) (by first | rfl | (simp only [List.length_set,takeMap,List.drop_zero,List.map_nil]; done) | (simp only [List.length_set,takeMap,List.drop_zero,List.map_nil]; rfl))
       ·refine Run.skip (.so hm (.p3 e e e (.p2 e e (.nil (.ret ?_)))))
        obtain rfl := someO h
        exact Ends.mkG (.inl e) e (Gh.trans (Gh.trans (gh_prn [0,1,2] [] hB e) (gh_ro [0,1,2] [] [] [0] e)) (gh_pk [0,1,2] [] hB e e e e)) (by first | rfl | (simp only [List.length_set,takeMap,List.drop_zero,List.map_nil]; done) | (simp only [List.length_set,takeMap,List.drop_zero,List.map_nil]; rfl)) (by first | rfl | (simp only [List.length_set,takeMap,List.drop_zero,List.map_nil]; done) | (simp only [List.length_set,takeMap,List.drop_zero,List.map_nil]; rfl))
     ·refine Run.skip (.so hm (.p e (.nil (.seqO h (fun v355 => [(1,VI x2),(5,.ptr 0 0),(9,.sl 1 50 0 (([] : List Pair).length)),(10,.sl 2 78 0 y286.1.length),(12,.sl 3 50 0 x292.length),(14,VI v355)]) (fun (v355 : Int) => [(0,.box [VI x3.Op,VI x3.Session,VI x3.Seq,VS x3.Key,VS x3.Value,VS x3.Old]),(1,.vec 50 (([] : List Pair).map encPair)),(2,.vec 78 (y286.1.map encTl15State)),(3,.vec 50 (x292.map encPair))]) (fun h => ?_) (fun v355 h => ?_)))))
      ·refine Run.so hm (.p e (.nil (.block ?_)))
       obtain ⟨res377,h,hk377⟩ := bindO h
       refine Run.loop (n := N) (fun m377 fr σ => ∃ (x357 : Int),∃ (x358 : Int),spec_Act_l1 N x3 y286 m377 x357 x358 = some res377 ∧ fr = [(1,VI x2),(5,.ptr 0 0),(9,.sl 1 50 0 (([] : List Pair).length)),(10,.sl 2 78 0 y286.1.length),(12,.sl 3 50 0 x292.length),(14,VI x357),(15,VI x358)] ∧ σ = [(0,.box [VI x3.Op,VI x3.Session,VI x3.Seq,VS x3.Key,VS x3.Value,VS x3.Old]),(1,.vec 50 (([] : List Pair).map encPair)),(2,.vec 78 (y286.1.map encTl15State)),(3,.vec 50 (x292.map encPair))]) (gh_pk [1,5,9,10,12,14,15] [1000,5096,17400,29704] hB e e e e) ⟨_,_,h,e,e⟩ ?_
       rintro m377 fr σ ⟨x357,x358,h,rfl,rfl⟩
       obtain _ | m377 := m377
       ·rw [spec_Act_l1] at h; cases h
       rw [spec_Act_l1] at h
       refine Run.seq (.so hm (.p3 e e e (.p e (.nil (.condO e h (fun g380 h => ?_) (fun g380 h => ?_))))))
       ·refine Run.skip (.seqO h (fun v384 => [(1,VI x2),(5,.ptr 0 0),(9,.sl 1 50 0 (([] : List Pair).length)),(10,.sl 2 78 0 y286.1.length),(12,.sl 3 50 0 x292.length),(14,VI v384),(15,VI x358)]) (fun (v384 : Int) => [(0,.box [VI x3.Op,VI x3.Session,VI x3.Seq,VS x3.Key,VS x3.Value,VS x3.Old]),(1,.vec 50 (([] : List Pair).map encPair)),(2,.vec 78 (y286.1.map encTl15State)),(3,.vec 50 (x292.map encPair))]) (fun h => ?_) (fun v384 h => ?_))
        ·refine Run.block (.seq (.draw hm hmix (.p e (.p e ?_))))
         obtain ⟨x386,hx386,h⟩ := bindO h
         refine OpsD.z 74760 (Ev.iaW e e e hx386) e e (.p e (.z 74792 (Ev.ldE (f := encTl15State) e e (at_some hx386).2 e e e) e e (.p e (.p e (.p e (.nil ⟨by kernel_rfl,?_⟩))))))
         refine Run.condO e h (fun g387 h => ?_) (fun g387 h => ?_)
         ·exact Run.ops hm (.p2 e e (.nil (⟨_,_,(gh_pk [1,5,9,10,12,14,15] [0,1,2,3] hB e e e e),_,h,e,e⟩)))
         ·exact Run.skip (⟨_,_,(gh_pk [1,5,9,10,12,14,15] [0,1,2,3] hB e e e e),_,h,e,e⟩)
        ·exact Run.ops hm (.p3 e e e (.nil (⟨m377,Nat.lt_succ_self m377,_,_,(gh_pk [1,5,9,10,12,14,15] [0,1,2,3] hB e e e e),_,_,h,e,e⟩)))
       ·refine Run.exit ?_
        obtain rfl := someO h
        have h := hk377
        exact ⟨_,_,(gh_pk [1,5,9,10,12,14] [0,1,2,3] hB e e e e),_,h,e,e⟩
      ·refine Run.seq (.so hm (.p2 e e (.nil (.condO e h (fun g389 h => ?_) (fun g389 h => ?_)))))
       ·refine Run.so hm (.p3 e e e (.p e (.nil (.ret ?_))))
        obtain rfl := someO h
        exact Ends.mkG (.inl e) e (Gh.trans (Gh.trans (Gh.trans ((Gh.frz (f := encPair) (g := encPair) (xs := x292) 3 (fun _ => e) e)) (gh_prn [0,1,2] [3] hB e)) (gh_ro [0,1,2] [] [3] [0] e)) (gh_pk [0,1,2] [] hB e e e e)) (by first | rfl | (simp only [List.length_set,takeMap,List.drop_zero,List.map_nil]; done) | (simp only [List.length_set,takeMap,List.drop_zero,List.map_nil]; rfl)) (by first | rfl | (simp only [List.length_set,takeMap,List.drop_zero,List.map_nil]; done) | (simp only [List.length_set,takeMap,List.drop_zero,List.map_nil]; rfl))
       ·refine Run.skip (.so hm (.p2 e e ?_))
        obtain ⟨x393,hx393,h⟩ := bindO h
        refine Ops.z 91144 (Ev.iaW e e e hx393) e e (.z 91160 (Ev.ldE (f := encTl15State) e e (at_some hx393).2 e e e) e e (.z 91176 (.al e e) e e (.y 91192 (.sto e e e e e e) e e (.nil (.seq (.so hm (.p3 e e e (.p2 e e (.nil (.condO e h (fun g395 h => ?_) (fun g395 h => ?_)))))))))))
        ·refine Run.so hm (.p3 e e e (.p e (.nil (.ret ?_))))
         obtain rfl := someO h
         exact Ends.mkG (.inl e) e (Gh.trans (Gh.trans (Gh.trans ((Gh.frz (f := encPair) (g := encPair) (xs := x292) 3 (fun _ => e) e)) (gh_prn [0,1,2] [3] hB e)) (gh_ro [0,1,2] [] [3] [0] e)) (gh_pk [0,1,2] [] hB e e e e)) (by first | rfl | (simp only [List.length_set,takeMap,List.drop_zero,List.map_nil]; done) | (simp only [List.length_set,takeMap,List.drop_zero,List.map_nil]; rfl)) (by first | rfl | (simp only [List.length_set,takeMap,List.drop_zero,List.map_nil]; done) | (simp only [List.length_set,takeMap,List.drop_zero,List.map_nil]; rfl))
        ·refine Run.skip (.seq (.so hm (.p3 e e e (.p2 e e (.nil (.condO e h (fun g397 h => ?_) (fun g397 h => ?_)))))))
         ·refine Run.seq (.draw hm hmix (.p e (.p e (.p e (.p e (.p e (.p e (.nil ⟨by kernel_rfl,?_⟩))))))))
          refine Run.ret ?_
          obtain rfl := someO h
          exact Ends.mkG (.inl e) e (Gh.trans (Gh.trans (Gh.trans ((Gh.frz (f := encPair) (g := encPair) (xs := x292) 3 (fun _ => e) e)) (gh_prn [0,1,2] [3] hB e)) (gh_ro [0,1,2] [] [3] [0] e)) (gh_pk [0,1,2] [] hB e e e e)) (by first | rfl | (simp only [List.length_set,takeMap,List.drop_zero,List.map_nil]; done) | (simp only [List.length_set,takeMap,List.drop_zero,List.map_nil]; rfl)) (by first | rfl | (simp only [List.length_set,takeMap,List.drop_zero,List.map_nil]; done) | (simp only [List.length_set,takeMap,List.drop_zero,List.map_nil]; rfl))
         ·refine Run.skip (.seq (.so hm (.p3 e e e (.p3 e e e (.nil (.condO e h (fun g399 h => ?_) (fun g399 h => ?_)))))))
          ·refine Run.so hm (.p3 e e e (.p e (.nil (.ret ?_))))
           obtain rfl := someO h
           exact Ends.mkG (.inl e) e (Gh.trans (Gh.trans (Gh.trans ((Gh.frz (f := encPair) (g := encPair) (xs := x292) 3 (fun _ => e) e)) (gh_prn [0,1,2] [3] hB e)) (gh_ro [0,1,2] [] [3] [0] e)) (gh_pk [0,1,2] [] hB e e e e)) (by first | rfl | (simp only [List.length_set,takeMap,List.drop_zero,List.map_nil]; done) | (simp only [List.length_set,takeMap,List.drop_zero,List.map_nil]; rfl)) (by first | rfl | (simp only [List.length_set,takeMap,List.drop_zero,List.map_nil]; done) | (simp only [List.length_set,takeMap,List.drop_zero,List.map_nil]; rfl))
          ·refine Run.skip (.so hm (.p2 e e ?_))
           obtain ⟨y403,hy403,h⟩ := bindO h
           refine Ops.z 119816 (Ev.call [3] [] 1 (sem_spec_l15Op_i1 _ _ _ _ hy403) e e (.cons (.sl e) (.cons (.agg (.d4 (.d2 .nil))) .nil)) e (.inl e) e e) e e (.p3 e e e (.p2 e e (.nil (.so hm (.p3 e e e (.y 123928 (.sto e e e e e e) e e (.nil (.so hm (.p2 e e (.y 128008 (.sto e e e e e e) e e (.nil (.so hm (.p2 e e (.y 132104 (.sto e e e e e e) e e (.nil (.seq (.draw hm hmix (.p e (.p e (.p e ?_))))))))))))))))))))
           obtain ⟨y413,hy413,h⟩ := bindO h
           refine OpsD.z 136216 (Ev.call [] [] 0 (sem_spec_l15Key _ _ _ hy413) e e (.d1 .nil) e (.inl e) e e) e e (.p e ?_)
           obtain ⟨y414,hy414,h⟩ := bindO h
           refine OpsD.z 136248 (Ev.call [] [] 0 (sem_spec_l15Text _ _ _ hy414) e e (.cons (.agg (.d4 .nil)) .nil) e (.inl e) e e) e e ?_
           obtain ⟨y415,hy415,h⟩ := bindO h
           refine OpsD.z 136264 (Ev.call [] [119816] 1 (sem_spec_l06Put _ _ _ _ _ hy415) e e (.cons (.borrow e (by decide) (lendW (fun _ => e) _ e)) (.d2 .nil)) e (.inr ⟨e,ownL_root ⟨own_rows (fun _ => e) _,trivial⟩⟩) e e) e e ?_
           refine OpsD.p e (.nil ⟨by kernel_rfl,?_⟩)
           refine Run.seq (.so hm (.p e ?_))
           obtain ⟨y420,hy420,h⟩ := bindO h
           refine Ops.z 140280 (Ev.call [] [136264] 0 (sem_spec_MapOk _ _ _ hy420) e e (.cons (.borrow e (by decide) (lendW (fun _ => e) _ e)) .nil) e (.inr ⟨e,ownL_root trivial⟩) e e) e e ?_
           refine Ops.p e (.nil (.condO e h (fun g421 h => ?_) (fun g421 h => ?_)))
           ·refine Run.so hm (.p3 e e e (.p e (.nil (.ret ?_))))
            obtain rfl := someO h
            exact Ends.mkG (.inl e) e (Gh.trans (Gh.trans (Gh.trans ((Gh.frz (f := encPair) (g := encPair) (xs := ([] : List Pair)) 1 (fun _ => e) e)) (gh_prn [0,1,2] [1] hB e)) (gh_ro [0,1,2] [] [1] [0] e)) (gh_pk [0,1,2] [] hB e e e e)) (by first | rfl | (simp only [List.length_set,takeMap,List.drop_zero,List.map_nil]; done) | (simp only [List.length_set,takeMap,List.drop_zero,List.map_nil]; rfl)) (by first | rfl | (simp only [List.length_set,takeMap,List.drop_zero,List.map_nil]; done) | (simp only [List.length_set,takeMap,List.drop_zero,List.map_nil]; rfl))
           ·refine Run.skip (.so hm (.p3 e e e (.p2 e e (.nil (.ret ?_)))))
            obtain rfl := someO h
            exact Ends.mkG (.inl e) e (Gh.trans (Gh.trans (Gh.trans ((Gh.frz (f := encPair) (g := encPair) (xs := y415) 136264 (fun _ => e) e)) (gh_prn [0,1,2] [136264] hB e)) (gh_ro [0,1,2] [] [136264] [0] e)) (gh_pk [0,1,2] [] hB e e e e)) (by first | rfl | (simp only [List.length_set,takeMap,List.drop_zero,List.map_nil]; done) | (simp only [List.length_set,takeMap,List.drop_zero,List.map_nil]; rfl)) (by first | rfl | (simp only [List.length_set,takeMap,List.drop_zero,List.map_nil]; done) | (simp only [List.length_set,takeMap,List.drop_zero,List.map_nil]; rfl))
end Go.Proofs.YtlkdjdfcihjplaaGreatDoor.Pe.FnExactFold
