/- Functions,as pure functions; and that Go does just that. -/
import Derived.Test.YthlhkcnilehbbaaPeFFnLogs5
namespace Go.Proofs.Ythlhkcnilehbbaa.Pe.FnLogs
open Go Go.RowKit
set_option linter.unusedVariables false
set_option linter.unusedSimpArgs false
set_option maxHeartbeats 40000000
set_option maxRecDepth 100000
def spec_l03At_l1 (N : Nat) (x1 : Disk) (x2 : ByteArray) : Nat → Int → Option ((Int) ⊕ (Unit))
 | 0,_ => none
 | m + 1,x169 =>
 (if (decide (x169 < (x1.Files.length : Int))) = true then
 (at? x1.Files x169).bind fun x188 =>
 (if (decide (x188.Name = x2)) = true then
 some (Sum.inl x169)
 else
 spec_l03At_l1 N x1 x2 m (w64 (x169 + 1)))
 else
 some (Sum.inr ()))
def spec_l03At_l1_r (N : Nat) (x1 : Disk) (x2 : ByteArray) : (List File) → Int → Option ((Int) ⊕ (Unit))
 | [],x169 =>
 some (Sum.inr ())
 | hd :: tl,x169 =>
 (some hd).bind fun x188 =>
 (if (decide (x188.Name = x2)) = true then
 some (Sum.inl x169)
 else
 spec_l03At_l1_r N x1 x2 tl (w64 (x169 + 1)))
theorem spec_l03At_l1_rng (N : Nat) (x1 : Disk) (x2 : ByteArray) (hx : x1.Files.length ≤ 1099511627776) : ∀ (d k m : Nat),x1.Files.length = k + d → d < m → spec_l03At_l1 N x1 x2 m (k : Int) = spec_l03At_l1_r N x1 x2 (x1.Files.drop k) (k : Int) := by
 intro d
 induction d with
 | zero =>
  intro k m hd hm
  obtain ⟨m,rfl⟩ : ∃ q,m = q + 1 := ⟨m - 1,by omega⟩
  rw [spec_l03At_l1,if_neg (by simp; omega),List.drop_eq_nil_of_le (by omega),spec_l03At_l1_r]
 | succ d ih =>
  intro k m hd hm
  obtain ⟨m,rfl⟩ : ∃ q,m = q + 1 := ⟨m - 1,by omega⟩
  have hk : k < x1.Files.length := by omega
  rw [spec_l03At_l1,if_pos (by simp; omega),List.drop_eq_getElem_cons hk,spec_l03At_l1_r]
  have h1 := at_lt hk
  have h2 := w64_succ (k := k) (by omega)
  have h3 := ih (k + 1) m
  simp only [h1,h2,h3 (by omega) (by omega)]
theorem spec_l03At_l1_eq {N : Nat} (x1 : Disk) (x2 : ByteArray) (hx : x1.Files.length ≤ 1099511627776) (hN : x1.Files.length < N) : spec_l03At_l1 N x1 x2 N 0 = spec_l03At_l1_r N x1 x2 x1.Files 0 := spec_l03At_l1_rng N x1 x2 hx x1.Files.length 0 N (by omega) hN
def spec_l03At (N : Nat) (x1 : Disk) (x2 : ByteArray) : Option (Int) :=
 joinP (fun (v167 : Unit) =>
 some (-1 : Int)) fun j167 =>
 (spec_l03At_l1 N x1 x2 N 0).bind (Sum.elim (fun v179 => some v179) (fun (v180 : Unit) => j167 ()))
theorem sem_spec_l03At (N : Nat) (x1 : Disk) (x2 : ByteArray) (r : Int) (h : spec_l03At N x1 x2 = some r) : Says Try.prog 35 [.agg [RO 38 (x1.Files.map encFile)],VS x2] 0 [] (VI r) [] := by
 unfold spec_l03At at h
 refine Says.of_norm e Try.call35 e fun B hB => ?_
 have hm : B.m ≤ 1000 := by omega
 refine Run.so hm (.z 1000 (.bx e e) e e (.p e (.nil (.seqO h (fun v167 => []) (fun (v167 : Unit) => []) (fun h => ?_) (fun v167 h => ?_)))))
 ·refine Run.so hm (.p e (.nil (.block ?_)))
  obtain ⟨res180,h,hk180⟩ := bindO h
  refine Run.loop (n := N) (fun m180 fr σ => ∃ (x169 : Int),spec_l03At_l1 N x1 x2 m180 x169 = some res180 ∧ fr = [(1,VS x2),(2,.ptr 0 0),(5,VI x169)] ∧ σ = [(0,.box [RO 38 (x1.Files.map encFile)])]) (gh_pk [1,2,5] [1000] hB e e e e) ⟨_,h,e,e⟩ ?_
  rintro m180 fr σ ⟨x169,h,rfl,rfl⟩
  obtain _ | m180 := m180
  ·rw [spec_l03At_l1] at h; cases h
  rw [spec_l03At_l1] at h
  refine Run.seq (.so hm (.p3 e e e (.z 9240 (Ev.lnF e) e e (.p e (.nil (.condO e h (fun g183 h => ?_) (fun g183 h => ?_)))))))
  ·refine Run.skip (.seq (.block (.so hm (.p3 e e e ?_))))
   obtain ⟨x188,hx188,h⟩ := bindO h
   refine Ops.z 17432 (Ev.iaF e e hx188) e e (.p3 e e e (.p e (.nil (.condO e h (fun g189 h => ?_) (fun g189 h => ?_)))))
   ·refine Run.so hm (.p2 e e (.nil (.ret ?_)))
    obtain rfl := someO h
    have h := hk180
    replace h := inlO h
    obtain rfl := someO h
    exact Ends.mkG (.inl e) e (gh_pk [0] [] hB e e e e) e e
   ·exact Run.skip (.ops hm (.p3 e e e (.nil (⟨m180,Nat.lt_succ_self m180,_,_,(gh_pk [1,2,5] [0] hB e e e e),_,h,e,e⟩))))
  ·refine Run.exit ?_
   obtain rfl := someO h
   have h := hk180
   replace h := inrO h
   exact ⟨_,_,(gh_pk [] [] hB e e e e),(),h,e,e⟩
 ·refine Run.so hm (.p e (.nil (.ret ?_)))
  obtain rfl := someO h
  exact Ends.mkG (.inl e) e (gh_pk [0] [] hB e e e e) e e
def spec_l03Put_l1 (N : Nat) (x1 : Disk) (x2 : File) : Nat → Int → (List File) → Option ((List File))
 | 0,_,_ => none
 | m + 1,x317,x322 =>
 (if (decide (x317 < (x1.Files.length : Int))) = true then
 joinP (fun (v351 : (List File)) =>
 spec_l03Put_l1 N x1 x2 m (w64 (x317 + 1)) v351) fun j351 =>
 (at? x1.Files x317).bind fun x353 =>
 (if (Op.bytesLess x353.Name.toList x2.Name.toList) = true then
 (at? x1.Files x317).bind fun x357 =>
 (cat? x322 ([x357] : List File)).bind fun x358 =>
 j351 x358
 else
 j351 x322)
 else
 some x322)
def spec_l03Put_l1_r (N : Nat) (x1 : Disk) (x2 : File) : (List File) → Int → (List File) → Option ((List File))
 | [],x317,x322 =>
 some x322
 | hd :: tl,x317,x322 =>
 joinP (fun (v351 : (List File)) =>
 spec_l03Put_l1_r N x1 x2 tl (w64 (x317 + 1)) v351) fun j351 =>
 (some hd).bind fun x353 =>
 (if (Op.bytesLess x353.Name.toList x2.Name.toList) = true then
 (some hd).bind fun x357 =>
 (cat? x322 ([x357] : List File)).bind fun x358 =>
 j351 x358
 else
 j351 x322)
theorem spec_l03Put_l1_rng (N : Nat) (x1 : Disk) (x2 : File) (hx : x1.Files.length ≤ 1099511627776) : ∀ (d k m : Nat) (x322 : (List File)),x1.Files.length = k + d → d < m → spec_l03Put_l1 N x1 x2 m (k : Int) x322 = spec_l03Put_l1_r N x1 x2 (x1.Files.drop k) (k : Int) x322 := by
 intro d
 induction d with
 | zero =>
  intro k m x322 hd hm
  obtain ⟨m,rfl⟩ : ∃ q,m = q + 1 := ⟨m - 1,by omega⟩
  rw [spec_l03Put_l1,if_neg (by simp; omega),List.drop_eq_nil_of_le (by omega),spec_l03Put_l1_r]
 | succ d ih =>
  intro k m x322 hd hm
  obtain ⟨m,rfl⟩ : ∃ q,m = q + 1 := ⟨m - 1,by omega⟩
  have hk : k < x1.Files.length := by omega
  rw [spec_l03Put_l1,if_pos (by simp; omega),List.drop_eq_getElem_cons hk,spec_l03Put_l1_r]
  have h1 := at_lt hk
  have h2 := w64_succ (k := k) (by omega)
  have h3 := ih (k + 1) m
  simp only [h1,h2,h3 _ (by omega) (by omega)]
theorem spec_l03Put_l1_eq {N : Nat} (x1 : Disk) (x2 : File) (hx : x1.Files.length ≤ 1099511627776) (hN : x1.Files.length < N) (x322 : (List File)) : spec_l03Put_l1 N x1 x2 N 0 x322 = spec_l03Put_l1_r N x1 x2 x1.Files 0 x322 := spec_l03Put_l1_rng N x1 x2 hx x1.Files.length 0 N x322 (by omega) hN
def spec_l03Put_l2 (N : Nat) (x1 : Disk) (x2 : File) : Nat → Int → (List File) → Option ((List File))
 | 0,_,_ => none
 | m + 1,x406,x411 =>
 (if (decide (x406 < (x1.Files.length : Int))) = true then
 joinP (fun (v440 : (List File)) =>
 spec_l03Put_l2 N x1 x2 m (w64 (x406 + 1)) v440) fun j440 =>
 (at? x1.Files x406).bind fun x442 =>
 (if (!(Op.bytesLess x442.Name.toList x2.Name.toList || decide (x442.Name = x2.Name))) = true then
 (at? x1.Files x406).bind fun x446 =>
 (cat? x411 ([x446] : List File)).bind fun x447 =>
 j440 x447
 else
 j440 x411)
 else
 some x411)
def spec_l03Put_l2_r (N : Nat) (x1 : Disk) (x2 : File) : (List File) → Int → (List File) → Option ((List File))
 | [],x406,x411 =>
 some x411
 | hd :: tl,x406,x411 =>
 joinP (fun (v440 : (List File)) =>
 spec_l03Put_l2_r N x1 x2 tl (w64 (x406 + 1)) v440) fun j440 =>
 (some hd).bind fun x442 =>
 (if (!(Op.bytesLess x442.Name.toList x2.Name.toList || decide (x442.Name = x2.Name))) = true then
 (some hd).bind fun x446 =>
 (cat? x411 ([x446] : List File)).bind fun x447 =>
 j440 x447
 else
 j440 x411)
theorem spec_l03Put_l2_rng (N : Nat) (x1 : Disk) (x2 : File) (hx : x1.Files.length ≤ 1099511627776) : ∀ (d k m : Nat) (x411 : (List File)),x1.Files.length = k + d → d < m → spec_l03Put_l2 N x1 x2 m (k : Int) x411 = spec_l03Put_l2_r N x1 x2 (x1.Files.drop k) (k : Int) x411 := by
 intro d
 induction d with
 | zero =>
  intro k m x411 hd hm
  obtain ⟨m,rfl⟩ : ∃ q,m = q + 1 := ⟨m - 1,by omega⟩
  rw [spec_l03Put_l2,if_neg (by simp; omega),List.drop_eq_nil_of_le (by omega),spec_l03Put_l2_r]
 | succ d ih =>
  intro k m x411 hd hm
  obtain ⟨m,rfl⟩ : ∃ q,m = q + 1 := ⟨m - 1,by omega⟩
  have hk : k < x1.Files.length := by omega
  rw [spec_l03Put_l2,if_pos (by simp; omega),List.drop_eq_getElem_cons hk,spec_l03Put_l2_r]
  have h1 := at_lt hk
  have h2 := w64_succ (k := k) (by omega)
  have h3 := ih (k + 1) m
  simp only [h1,h2,h3 _ (by omega) (by omega)]
theorem spec_l03Put_l2_eq {N : Nat} (x1 : Disk) (x2 : File) (hx : x1.Files.length ≤ 1099511627776) (hN : x1.Files.length < N) (x411 : (List File)) : spec_l03Put_l2 N x1 x2 N 0 x411 = spec_l03Put_l2_r N x1 x2 x1.Files 0 x411 := spec_l03Put_l2_rng N x1 x2 hx x1.Files.length 0 N x411 (by omega) hN
def spec_l03Put (N : Nat) (x1 : Disk) (x2 : File) : Option (Disk) :=
 joinP (fun (v316 : (List File)) =>
 (cat? v316 ([x2] : List File)).bind fun x362 =>
 joinP (fun (v405 : (List File)) =>
 some (Disk.mk v405)) fun j405 =>
 (spec_l03Put_l2 N x1 x2 N 0 x362).bind (fun v429 => j405 v429)) fun j316 =>
 (spec_l03Put_l1 N x1 x2 N 0 ([] : (List File))).bind (fun v340 => j316 v340)
theorem sem_spec_l03Put (N : Nat) (x1 : Disk) (x2 : File) (r : Disk) (h : spec_l03Put N x1 x2 = some r) : Says Try.prog 62 [.agg [RO 38 (x1.Files.map encFile)],.agg [VS x2.Name,VS x2.Text]] 0 [] (.agg [.sl 0 38 0 r.Files.length]) [(0,.vec 38 (r.Files.map encFile))] := by
 unfold spec_l03Put at h
 refine Says.of_norm e Try.call62 e fun B hB => ?_
 have hm : B.m ≤ 1000 := by omega
 refine Run.so hm (.z 1000 (.bx e e) e e (.z 1016 (.bx e e) e e (.z 1032 (.al e e) e e (.nil (.so hm (.z 5096 (.bd e e) e e (.z 5112 (.al e e) e e (.y 5128 (.sto e e e e e e) e e (.nil (.seqO h (fun v316 => [(2,.ptr 0 0),(3,.ptr 1 0),(4,.ptr 2 0),(5,.ptr 3 0)]) (fun (v316 : (List File)) => [(0,.box [RO 38 (x1.Files.map encFile)]),(1,.box [VS x2.Name,VS x2.Text]),(2,.box [.sl 4 38 0 (([] : (List File)).length)]),(3,.box [.sl 5 38 0 v316.length]),(4,.vec 38 (([] : (List File)).map encFile)),(5,.vec 38 (v316.map encFile))]) (fun h => ?_) (fun v316 h => ?_)))))))))))
 ·refine Run.so hm (.p e (.nil (.block ?_)))
  obtain ⟨res340,h,hk340⟩ := bindO h
  refine Run.loop (n := N) (fun m340 fr σ => ∃ (x317 : Int),∃ (x322 : (List File)),spec_l03Put_l1 N x1 x2 m340 x317 x322 = some res340 ∧ fr = [(2,.ptr 0 0),(3,.ptr 1 0),(4,.ptr 2 0),(5,.ptr 3 0),(6,VI x317)] ∧ σ = [(0,.box [RO 38 (x1.Files.map encFile)]),(1,.box [VS x2.Name,VS x2.Text]),(2,.box [.sl 4 38 0 (([] : (List File)).length)]),(3,.box [.sl 5 38 0 x322.length]),(4,.vec 38 (([] : (List File)).map encFile)),(5,.vec 38 (x322.map encFile))]) (Gh.trans (Gh.trans (gh_prn [2,3,4,5,6] [1000,1016,1032,5112] hB e) (gh_nil [] [1032,5112] hB e e e)) (gh_pk [2,3,4,5,6] [1000,1016,1032,5112,20000000,20000064] hB e e e e)) ⟨_,_,h,e,e⟩ ?_
  rintro m340 fr σ ⟨x317,x322,h,rfl,rfl⟩
  obtain _ | m340 := m340
  ·rw [spec_l03Put_l1] at h; cases h
  rw [spec_l03Put_l1] at h
  refine Run.seq (.so hm (.p3 e e e (.z 13336 (Ev.lnF e) e e (.p e (.nil (.condO e h (fun g343 h => ?_) (fun g343 h => ?_)))))))
  ·refine Run.skip (.seqO h (fun v351 => [(2,.ptr 0 0),(3,.ptr 1 0),(4,.ptr 2 0),(5,.ptr 3 0),(6,VI x317)]) (fun (v351 : (List File)) => [(0,.box [RO 38 (x1.Files.map encFile)]),(1,.box [VS x2.Name,VS x2.Text]),(2,.box [.sl 4 38 0 (([] : (List File)).length)]),(3,.box [.sl 5 38 0 v351.length]),(4,.vec 38 (([] : (List File)).map encFile)),(5,.vec 38 (v351.map encFile))]) (fun h => ?_) (fun v351 h => ?_))
   ·refine Run.block (.seq (.draw hm hmix (.p e (.p e (.p e ?_)))))
    obtain ⟨x353,hx353,h⟩ := bindO h
    refine OpsD.z 21528 (Ev.iaF e e hx353) e e (.p e (.p e (.p e (.p e (.p e (.nil ⟨by kernel_rfl,?_⟩))))))
    refine Run.condO e h (fun g354 h => ?_) (fun g354 h => ?_)
    ·refine Run.draw hm hmix (.p e (.p e (.p e (.p e (.p e ?_)))))
     obtain ⟨x357,hx357,h⟩ := bindO h
     refine OpsD.z 25656 (Ev.iaF e e hx357) e e (.p e (.z 25688 (Ev.bsW (ys := ([x357] : List File)) (f := encFile) e (.d2 .nil) e e e e e) e e ?_))
     obtain ⟨x358,hx358,h⟩ := bindO h
     refine OpsD.z 25704 (Ev.apW (f := encFile) (ontoW e e e) (addsW e e e (fun _ => e)) e bt38 e hx358) e e (.p e (.y 25736 (.sto e e e e e e) e e (.nil ⟨by kernel_rfl,?_⟩)))
     exact ⟨_,_,(gh_pk [2,3,4,5,6] [0,1,2,3,4,25704] hB e e e e),_,h,e,e⟩
    ·exact Run.skip (⟨_,_,(gh_pk [2,3,4,5,6] [0,1,2,3,4,5] hB e e e e),_,h,e,e⟩)
   ·exact Run.ops hm (.p3 e e e (.nil (⟨m340,Nat.lt_succ_self m340,_,_,(gh_pk [2,3,4,5,6] [0,1,2,3,4,5] hB e e e e),_,_,h,e,e⟩)))
  ·refine Run.exit ?_
   obtain rfl := someO h
   have h := hk340
   exact ⟨_,_,(gh_pk [2,3,4,5] [0,1,2,3,4,5] hB e e e e),_,h,e,e⟩
 ·refine Run.so hm (.p3 e e e (.z 29720 (Ev.bsW (ys := ([x2] : List File)) (f := encFile) e (.d2 .nil) e e e e e) e e ?_))
  obtain ⟨x362,hx362,h⟩ := bindO h
  refine Ops.z 29736 (Ev.apW (f := encFile) (ontoW e e e) (addsW e e e (fun _ => e)) e bt38 e hx362) e e (.p e (.y 29768 (.sto e e e e e e) e e (.nil (.seqO h (fun v405 => [(4,.ptr 0 0),(5,.ptr 1 0)]) (fun (v405 : (List File)) => [(0,.box [.sl 2 38 0 (([] : (List File)).length)]),(1,.box [.sl 3 38 0 v405.length]),(2,.vec 38 (([] : (List File)).map encFile)),(3,.vec 38 (v405.map encFile))]) (fun h => ?_) (fun v405 h => ?_)))))
  ·refine Run.so hm (.p e (.nil (.block ?_)))
   obtain ⟨res429,h,hk429⟩ := bindO h
   refine Run.loop (n := N) (fun m429 fr σ => ∃ (x406 : Int),∃ (x411 : (List File)),spec_l03Put_l2 N x1 x2 m429 x406 x411 = some res429 ∧ fr = [(2,.ptr 0 0),(3,.ptr 1 0),(4,.ptr 2 0),(5,.ptr 3 0),(7,VI x406)] ∧ σ = [(0,.box [RO 38 (x1.Files.map encFile)]),(1,.box [VS x2.Name,VS x2.Text]),(2,.box [.sl 4 38 0 (([] : (List File)).length)]),(3,.box [.sl 5 38 0 x411.length]),(4,.vec 38 (([] : (List File)).map encFile)),(5,.vec 38 (x411.map encFile))]) (gh_pk [2,3,4,5,7] [0,1,2,3,4,29736] hB e e e e) ⟨_,_,h,e,e⟩ ?_
   rintro m429 fr σ ⟨x406,x411,h,rfl,rfl⟩
   obtain _ | m429 := m429
   ·rw [spec_l03Put_l2] at h; cases h
   rw [spec_l03Put_l2] at h
   refine Run.seq (.so hm (.p3 e e e (.z 37912 (Ev.lnF e) e e (.p e (.nil (.condO e h (fun g432 h => ?_) (fun g432 h => ?_)))))))
   ·refine Run.skip (.seqO h (fun v440 => [(2,.ptr 0 0),(3,.ptr 1 0),(4,.ptr 2 0),(5,.ptr 3 0),(7,VI x406)]) (fun (v440 : (List File)) => [(0,.box [RO 38 (x1.Files.map encFile)]),(1,.box [VS x2.Name,VS x2.Text]),(2,.box [.sl 4 38 0 (([] : (List File)).length)]),(3,.box [.sl 5 38 0 v440.length]),(4,.vec 38 (([] : (List File)).map encFile)),(5,.vec 38 (v440.map encFile))]) (fun h => ?_) (fun v440 h => ?_))
    ·refine Run.block (.seq (.draw hm hmix (.p e (.p e (.p e ?_)))))
     obtain ⟨x442,hx442,h⟩ := bindO h
     refine OpsD.z 46104 (Ev.iaF e e hx442) e e (.p e (.p e (.p e (.p e (.p e (.nil ⟨by kernel_rfl,?_⟩))))))
     refine Run.condO e h (fun g443 h => ?_) (fun g443 h => ?_)
     ·refine Run.draw hm hmix (.p e (.p e (.p e (.p e (.p e ?_)))))
      obtain ⟨x446,hx446,h⟩ := bindO h
      refine OpsD.z 50232 (Ev.iaF e e hx446) e e (.p e (.z 50264 (Ev.bsW (ys := ([x446] : List File)) (f := encFile) e (.d2 .nil) e e e e e) e e ?_))
      obtain ⟨x447,hx447,h⟩ := bindO h
      refine OpsD.z 50280 (Ev.apW (f := encFile) (ontoW e e e) (addsW e e e (fun _ => e)) e bt38 e hx447) e e (.p e (.y 50312 (.sto e e e e e e) e e (.nil ⟨by kernel_rfl,?_⟩)))
      exact ⟨_,_,(gh_pk [2,3,4,5,7] [0,1,2,3,4,50280] hB e e e e),_,h,e,e⟩
     ·exact Run.skip (⟨_,_,(gh_pk [2,3,4,5,7] [0,1,2,3,4,5] hB e e e e),_,h,e,e⟩)
    ·exact Run.ops hm (.p3 e e e (.nil (⟨m429,Nat.lt_succ_self m429,_,_,(gh_pk [2,3,4,5,7] [0,1,2,3,4,5] hB e e e e),_,_,h,e,e⟩)))
   ·refine Run.exit ?_
    obtain rfl := someO h
    have h := hk429
    exact ⟨_,_,(gh_pk [4,5] [2,3,4,5] hB e e e e),_,h,e,e⟩
  ·refine Run.so hm (.p e (.y 54264 (.sto e e e e e e) e e (.nil (.ret ?_))))
   obtain rfl := someO h
   exact Ends.mkG (.inl e) e (gh_pk [0] [3] hB e e e e) e e
def spec_l03Text (N : Nat) (x1 : Disk) (x2 : ByteArray) : Option (ByteArray) :=
 (spec_l03At N x1 x2).bind fun y111 =>
 (if (decide (y111 < 0)) = true then
 some (⟨#[]⟩ : ByteArray)
 else
 (at? x1.Files y111).bind fun x115 =>
 some x115.Text)
theorem sem_spec_l03Text (N : Nat) (x1 : Disk) (x2 : ByteArray) (r : ByteArray) (h : spec_l03Text N x1 x2 = some r) : Says Try.prog 63 [.agg [RO 38 (x1.Files.map encFile)],VS x2] 0 [] (VS r) [] := by
 unfold spec_l03Text at h
 refine Says.of_norm e Try.call63 e fun B hB => ?_
 have hm : B.m ≤ 1000 := by omega
 refine Run.so hm (.z 1000 (.bx e e) e e (.p e (.nil (.so hm (.p2 e e ?_)))))
 obtain ⟨y111,hy111,h⟩ := bindO h
 refine Ops.z 5128 (Ev.call [] [] 0 (sem_spec_l03At _ _ _ _ hy111) e e (.cons (.agg (.d1 .nil)) (.d1 .nil)) e (.inl e) e e) e e (.p e (.nil (.seq (.so hm (.p2 e e (.nil (.condO e h (fun g113 h => ?_) (fun g113 h => ?_))))))))
 ·refine Run.so hm (.p e (.nil (.ret ?_)))
  obtain rfl := someO h
  exact Ends.mkG (.inl e) e (gh_pk [0] [] hB e e e e) e e
 ·refine Run.skip (.so hm (.p3 e e e ?_))
  obtain ⟨x115,hx115,h⟩ := bindO h
  refine Ops.z 17432 (Ev.iaF e e hx115) e e (.p3 e e e (.nil (.ret ?_)))
  obtain rfl := someO h
  exact Ends.mkG (.inl e) e (gh_pk [0] [] hB e e e e) e e
def spec_l03Drop_l1 (N : Nat) (x1 : Disk) (x2 : ByteArray) : Nat → Int → (List File) → Option ((List File))
 | 0,_,_ => none
 | m + 1,x226,x229 =>
 (if (decide (x226 < (x1.Files.length : Int))) = true then
 joinP (fun (v258 : (List File)) =>
 spec_l03Drop_l1 N x1 x2 m (w64 (x226 + 1)) v258) fun j258 =>
 (at? x1.Files x226).bind fun x260 =>
 (if (!decide (x260.Name = x2)) = true then
 (at? x1.Files x226).bind fun x264 =>
 (cat? x229 ([x264] : List File)).bind fun x265 =>
 j258 x265
 else
 j258 x229)
 else
 some x229)
def spec_l03Drop_l1_r (N : Nat) (x1 : Disk) (x2 : ByteArray) : (List File) → Int → (List File) → Option ((List File))
 | [],x226,x229 =>
 some x229
 | hd :: tl,x226,x229 =>
 joinP (fun (v258 : (List File)) =>
 spec_l03Drop_l1_r N x1 x2 tl (w64 (x226 + 1)) v258) fun j258 =>
 (some hd).bind fun x260 =>
 (if (!decide (x260.Name = x2)) = true then
 (some hd).bind fun x264 =>
 (cat? x229 ([x264] : List File)).bind fun x265 =>
 j258 x265
 else
 j258 x229)
theorem spec_l03Drop_l1_rng (N : Nat) (x1 : Disk) (x2 : ByteArray) (hx : x1.Files.length ≤ 1099511627776) : ∀ (d k m : Nat) (x229 : (List File)),x1.Files.length = k + d → d < m → spec_l03Drop_l1 N x1 x2 m (k : Int) x229 = spec_l03Drop_l1_r N x1 x2 (x1.Files.drop k) (k : Int) x229 := by
 intro d
 induction d with
 | zero =>
  intro k m x229 hd hm
  obtain ⟨m,rfl⟩ : ∃ q,m = q + 1 := ⟨m - 1,by omega⟩
  rw [spec_l03Drop_l1,if_neg (by simp; omega),List.drop_eq_nil_of_le (by omega),spec_l03Drop_l1_r]
 | succ d ih =>
  intro k m x229 hd hm
  obtain ⟨m,rfl⟩ : ∃ q,m = q + 1 := ⟨m - 1,by omega⟩
  have hk : k < x1.Files.length := by omega
  rw [spec_l03Drop_l1,if_pos (by simp; omega),List.drop_eq_getElem_cons hk,spec_l03Drop_l1_r]
  have h1 := at_lt hk
  have h2 := w64_succ (k := k) (by omega)
  have h3 := ih (k + 1) m
  simp only [h1,h2,h3 _ (by omega) (by omega)]
theorem spec_l03Drop_l1_eq {N : Nat} (x1 : Disk) (x2 : ByteArray) (hx : x1.Files.length ≤ 1099511627776) (hN : x1.Files.length < N) (x229 : (List File)) : spec_l03Drop_l1 N x1 x2 N 0 x229 = spec_l03Drop_l1_r N x1 x2 x1.Files 0 x229 := spec_l03Drop_l1_rng N x1 x2 hx x1.Files.length 0 N x229 (by omega) hN
def spec_l03Drop (N : Nat) (x1 : Disk) (x2 : ByteArray) : Option (Disk) :=
 joinP (fun (v224 : (List File)) =>
 some (Disk.mk v224)) fun j224 =>
 (spec_l03Drop_l1 N x1 x2 N 0 ([] : (List File))).bind (fun v247 => j224 v247)
theorem sem_spec_l03Drop (N : Nat) (x1 : Disk) (x2 : ByteArray) (r : Disk) (h : spec_l03Drop N x1 x2 = some r) : Says Try.prog 64 [.agg [RO 38 (x1.Files.map encFile)],VS x2] 0 [] (.agg [.sl 0 38 0 r.Files.length]) [(0,.vec 38 (r.Files.map encFile))] := by
 unfold spec_l03Drop at h
 refine Says.of_norm e Try.call64 e fun B hB => ?_
 have hm : B.m ≤ 1000 := by omega
 refine Run.so hm (.z 1000 (.bx e e) e e (.z 1016 (.al e e) e e (.nil (.so hm (.z 5096 (.bd e e) e e (.z 5112 (.al e e) e e (.y 5128 (.sto e e e e e e) e e (.nil (.seqO h (fun v224 => [(4,.ptr 0 0),(5,.ptr 1 0)]) (fun (v224 : (List File)) => [(0,.box [.sl 2 38 0 (([] : (List File)).length)]),(1,.box [.sl 3 38 0 v224.length]),(2,.vec 38 (([] : (List File)).map encFile)),(3,.vec 38 (v224.map encFile))]) (fun h => ?_) (fun v224 h => ?_))))))))))
 ·refine Run.so hm (.p e (.nil (.block ?_)))
  obtain ⟨res247,h,hk247⟩ := bindO h
  refine Run.loop (n := N) (fun m247 fr σ => ∃ (x226 : Int),∃ (x229 : (List File)),spec_l03Drop_l1 N x1 x2 m247 x226 x229 = some res247 ∧ fr = [(1,VS x2),(2,.ptr 0 0),(4,.ptr 1 0),(5,.ptr 2 0),(6,VI x226)] ∧ σ = [(0,.box [RO 38 (x1.Files.map encFile)]),(1,.box [.sl 3 38 0 (([] : (List File)).length)]),(2,.box [.sl 4 38 0 x229.length]),(3,.vec 38 (([] : (List File)).map encFile)),(4,.vec 38 (x229.map encFile))]) (Gh.trans (Gh.trans (gh_prn [1,2,4,5,6] [1000,1016,5112] hB e) (gh_nil [] [1016,5112] hB e e e)) (gh_pk [1,2,4,5,6] [1000,1016,5112,20000000,20000064] hB e e e e)) ⟨_,_,h,e,e⟩ ?_
  rintro m247 fr σ ⟨x226,x229,h,rfl,rfl⟩
  obtain _ | m247 := m247
  ·rw [spec_l03Drop_l1] at h; cases h
  rw [spec_l03Drop_l1] at h
  refine Run.seq (.so hm (.p3 e e e (.z 13336 (Ev.lnF e) e e (.p e (.nil (.condO e h (fun g250 h => ?_) (fun g250 h => ?_)))))))
  ·refine Run.skip (.seqO h (fun v258 => [(1,VS x2),(2,.ptr 0 0),(4,.ptr 1 0),(5,.ptr 2 0),(6,VI x226)]) (fun (v258 : (List File)) => [(0,.box [RO 38 (x1.Files.map encFile)]),(1,.box [.sl 3 38 0 (([] : (List File)).length)]),(2,.box [.sl 4 38 0 v258.length]),(3,.vec 38 (([] : (List File)).map encFile)),(4,.vec 38 (v258.map encFile))]) (fun h => ?_) (fun v258 h => ?_))
   ·refine Run.block (.so hm (.p3 e e e ?_))
    obtain ⟨x260,hx260,h⟩ := bindO h
    refine Ops.z 21528 (Ev.iaF e e hx260) e e (.p3 e e e (.p e (.nil (.condO e h (fun g261 h => ?_) (fun g261 h => ?_)))))
    ·refine Run.draw hm hmix (.p e (.p e (.p e (.p e (.p e ?_)))))
     obtain ⟨x264,hx264,h⟩ := bindO h
     refine OpsD.z 25656 (Ev.iaF e e hx264) e e (.p e (.z 25688 (Ev.bsW (ys := ([x264] : List File)) (f := encFile) e (.d2 .nil) e e e e e) e e ?_))
     obtain ⟨x265,hx265,h⟩ := bindO h
     refine OpsD.z 25704 (Ev.apW (f := encFile) (ontoW e e e) (addsW e e e (fun _ => e)) e bt38 e hx265) e e (.p e (.y 25736 (.sto e e e e e e) e e (.nil ⟨by kernel_rfl,?_⟩)))
     exact ⟨_,_,(gh_pk [1,2,4,5,6] [0,1,2,3,25704] hB e e e e),_,h,e,e⟩
    ·exact Run.skip (⟨_,_,(gh_pk [1,2,4,5,6] [0,1,2,3,4] hB e e e e),_,h,e,e⟩)
   ·exact Run.ops hm (.p3 e e e (.nil (⟨m247,Nat.lt_succ_self m247,_,_,(gh_pk [1,2,4,5,6] [0,1,2,3,4] hB e e e e),_,_,h,e,e⟩)))
  ·refine Run.exit ?_
   obtain rfl := someO h
   have h := hk247
   exact ⟨_,_,(gh_pk [4,5] [1,2,3,4] hB e e e e),_,h,e,e⟩
 ·refine Run.so hm (.p e (.y 29688 (.sto e e e e e e) e e (.nil (.ret ?_))))
  obtain rfl := someO h
  exact Ends.mkG (.inl e) e (gh_pk [0] [3] hB e e e e) e e
def spec_PutRaw (N : Nat) (x1 : Disk) (x2 : Raw) : Option (Disk × Bool) :=
 (spec_l03At N x1 x2.Name).bind fun y183 =>
 joinP (fun (v195 : Unit) =>
 (cat? ([] : List File) x1.Files).bind fun x210 =>
 joinP (fun (v232 : (List File)) =>
 (spec_DiskOk N (Disk.mk v232)).bind fun y258 =>
 (if (!y258) = true then
 some ((Disk.mk ([])),false)
 else
 some ((Disk.mk v232),true))) fun j232 =>
 (if (x2.Kind == 1) = true then
 (spec_l03Put N x1 (File.mk x2.Name x2.Text)).bind fun y235 =>
 j232 y235.Files
 else
 (if (x2.Kind == 2) = true then
 (spec_l03Text N x1 x2.Name).bind fun y240 =>
 (scat? y240 x2.Text).bind fun x241 =>
 (spec_l03Put N x1 (File.mk x2.Name x241)).bind fun y242 =>
 j232 y242.Files
 else
 (if (x2.Kind == 3) = true then
 (if (!decide (x2.To = x2.Name)) = true then
 (spec_l03Drop N x1 x2.Name).bind fun y248 =>
 (at? x1.Files y183).bind fun x249 =>
 (spec_l03Put N y248 (File.mk x2.To x249.Text)).bind fun y250 =>
 j232 y250.Files
 else
 j232 x210)
 else
 (if (x2.Kind == 4) = true then
 (spec_l03Drop N x1 x2.Name).bind fun y253 =>
 j232 y253.Files
 else
 j232 x210))))) fun j195 =>
 (spec_DiskOk N x1).bind fun y201 =>
 (if (!y201) = true then
 some ((Disk.mk ([])),false)
 else
 (spec_l01In N x2.Kind 1 4).bind fun y203 =>
 (if (!y203) = true then
 some ((Disk.mk ([])),false)
 else
 (if (decide (y183 < 0)) = true then
 (if (decide (x2.Kind ≥ 3)) = true then
 some ((Disk.mk ([])),false)
 else
 j195 ())
 else
 j195 ())))
theorem sem_spec_PutRaw (N : Nat) (x1 : Disk) (x2 : Raw) (r : Disk × Bool) (h : spec_PutRaw N x1 x2 = some r) : Says Try.prog 34 [.agg [RO 38 (x1.Files.map encFile)],.agg [VI x2.Kind,VS x2.Name,VS x2.To,VS x2.Text]] 0 [] (.tup [.agg [.sl 0 38 0 r.1.Files.length],VB r.2]) [(0,.vec 38 (r.1.Files.map encFile))] := by
 unfold spec_PutRaw at h
 refine Says.of_norm e Try.call34 e fun B hB => ?_
 have hm : B.m ≤ 1000 := by omega
 refine Run.so hm (.z 1000 (.bx e e) e e (.z 1016 (.bx e e) e e (.z 1032 (.al e e) e e (.p e (.nil (.so hm (.p3 e e e ?_)))))))
 obtain ⟨y183,hy183,h⟩ := bindO h
 refine Ops.z 5144 (Ev.call [] [] 0 (sem_spec_l03At _ _ _ _ hy183) e e (.cons (.agg (.d1 .nil)) (.d1 .nil)) e (.inl e) e e) e e (.p e (.nil (.seqO h (fun v195 => [(2,.ptr 0 0),(3,.ptr 1 0),(4,.ptr 2 0),(6,VI y183)]) (fun (v195 : Unit) => [(0,.box [RO 38 (x1.Files.map encFile)]),(1,.box [VI x2.Kind,VS x2.Name,VS x2.To,VS x2.Text]),(2,.box [.sl 3 38 0 (([] : List File).length)]),(3,.vec 38 (([] : List File).map encFile))]) (fun h => ?_) (fun v195 h => ?_))))
 ·refine Run.so hm (.p e ?_)
  obtain ⟨y201,hy201,h⟩ := bindO h
  refine Ops.z 9208 (Ev.call [] [] 0 (sem_spec_DiskOk _ _ _ hy201) e e (.cons (.agg (.d1 .nil)) .nil) e (.inl e) e e) e e (.p2 e e (.askO (x := .t 15) e h (fun g202 h => ?_) (fun g202 h => ?_)))
  ·refine Ops.gn e g202 (.gn e g202 (.gn e g202 (.gn e g202 (.z 9320 (.pkT e g202 e) e e (.p e (.gn e e (.gn e e (.gn e e (.gu e (.gu e (.gu e (.gn e e (.z 9464 (.pkT e e e) e e (.nil (.condT e e (.so hm (.z 13288 (.bd e e) e e (.y 13304 (.sto e e e e e e) e e (.p e (.nil (.ret ?_)))))))))))))))))))))
   obtain rfl := someO h
   exact Ends.mkG (.inl e) e (Gh.trans (Gh.trans (gh_prn [0,1] [] hB e) (gh_nil [0] [] hB e e e)) (gh_pk [0,1] [10000000] hB e e e e)) e e
  ·refine Ops.gp e g202 e (.gp e g202 e ?_)
   obtain ⟨y203,hy203,h⟩ := bindO h
   refine Ops.gs (s := 9288) e g202 (Ev.call [] [] 0 (sem_spec_l01In _ _ _ _ _ hy203) e e (.d2 (.d1 .nil)) e (.inl e) e e) e e (.gp e g202 e (.z 9320 (.pkF e g202 e) e e (.p e (.askO (x := .t 21) e h (fun g204 h => ?_) (fun g204 h => ?_)))))
   ·refine Ops.gn e g204 (.gn e g204 (.gn e g204 (.gu e (.gu e (.gu e (.gn e g204 (.z 9464 (.pkT e g204 e) e e (.nil (.condT e e (.so hm (.z 13288 (.bd e e) e e (.y 13304 (.sto e e e e e e) e e (.p e (.nil (.ret ?_)))))))))))))))
    obtain rfl := someO h
    exact Ends.mkG (.inl e) e (Gh.trans (Gh.trans (gh_prn [0,1] [] hB e) (gh_nil [0] [] hB e e e)) (gh_pk [0,1] [10000000] hB e e e e)) e e
   ·refine Ops.gp e g204 e (.gp e g204 e (.gp e g204 e (.askO (x := .t 24) e h (fun g205 h => ?_) (fun g205 h => ?_))))
    ·refine Ops.gp e g205 e (.gp e g205 e (.gp e g205 e (.gs (s := 9448) e g204 (.pkT e g205 e) e e (.z 9464 (.pkF e g204 e) e e (.nil (.condO e h (fun g206 h => ?_) (fun g206 h => ?_)))))))
     ·refine Run.so hm (.z 13288 (.bd e e) e e (.y 13304 (.sto e e e e e e) e e (.p e (.nil (.ret ?_)))))
      obtain rfl := someO h
      exact Ends.mkG (.inl e) e (Gh.trans (Gh.trans (gh_prn [0,1] [] hB e) (gh_nil [0] [] hB e e e)) (gh_pk [0,1] [10000000] hB e e e e)) e e
     ·exact Run.skip (⟨_,_,(Gh.trans (Gh.trans (gh_prn [2,3,4,6] [1000,1016,1032] hB e) (gh_nil [] [1032] hB e e e)) (gh_pk [2,3,4,6] [1000,1016,1032,20000000] hB e e e e)),(),h,e,e⟩)
    ·exact Ops.gn e g205 (.gn e g205 (.gn e g205 (.gs (s := 9448) e g204 (.pkF e g205 e) e e (.z 9464 (.pkF e g204 e) e e (.nil (.condF e e (.skip (⟨_,_,(Gh.trans (Gh.trans (gh_prn [2,3,4,6] [1000,1016,1032] hB e) (gh_nil [] [1032] hB e e e)) (gh_pk [2,3,4,6] [1000,1016,1032,20000000] hB e e e e)),(),h,e,e⟩))))))))
 ·refine Run.so hm (.z 17384 (Ev.bsW (ys := ([] : List File)) (f := encFile) e .nil e e e e e) e e (.p2 e e ?_))
  obtain ⟨x210,hx210,h⟩ := bindO h
  refine Ops.z 17432 (Ev.apW (f := encFile) (ontoW e e e) (addsF e) e bt38 e hx210) e e (.z 17448 (.bd e e) e e (.z 17464 (.al e e) e e (.y 17480 (.sto e e e e e e) e e (.nil (.seqO h (fun v232 => [(4,.ptr 0 0),(7,.ptr 1 0)]) (fun (v232 : (List File)) => [(0,.box [.sl 2 38 0 (([] : List File).length)]),(1,.box [.sl 3 38 0 v232.length]),(2,.vec 38 (([] : List File).map encFile)),(3,.vec 38 (v232.map encFile))]) (fun h => ?_) (fun v232 h => ?_))))))
  ·refine Run.so hm (.p2 e e (.nil (.block (.so hm (.p2 e e (.nil (.condO e h (fun g233 h => ?_) (fun g233 h => ?_))))))))
   ·refine Run.ops hm (.p3 e e e (.p2 e e (.z 29752 (.bd e e) e e ?_)))
    obtain ⟨y235,hy235,h⟩ := bindO h
    exact Ops.z 29768 (Ev.call [] [] 1 (sem_spec_l03Put _ _ _ _ hy235) e e (.cons (.agg (.d1 .nil)) (.cons (.agg (.d2 .nil)) .nil)) e (.inl e) e e) e e (.y 29784 (.sto e e e e e e) e e (.nil (⟨_,_,(gh_pk [4,7] [2,17464,3,29768] hB e e e e),_,h,e,e⟩)))
   ·refine Run.so hm (.p2 e e (.nil (.condO e h (fun g236 h => ?_) (fun g236 h => ?_))))
    ·refine Run.draw hm hmix (.p e (.p e (.p e (.p e (.p e (.p e ?_))))))
     obtain ⟨y240,hy240,h⟩ := bindO h
     refine OpsD.z 37960 (Ev.call [] [] 0 (sem_spec_l03Text _ _ _ _ hy240) e e (.cons (.agg (.d1 .nil)) (.d1 .nil)) e (.inl e) e e) e e (.p e (.p e ?_))
     obtain ⟨x241,hx241,h⟩ := bindO h
     refine OpsD.z 38008 (Ev.addS e e hx241) e e (.z 38024 (.bd e e) e e ?_)
     obtain ⟨y242,hy242,h⟩ := bindO h
     refine OpsD.z 38040 (Ev.call [] [] 1 (sem_spec_l03Put _ _ _ _ hy242) e e (.cons (.agg (.d1 .nil)) (.cons (.agg (.d2 .nil)) .nil)) e (.inl e) e e) e e (.y 38056 (.sto e e e e e e) e e (.nil ⟨by kernel_rfl,?_⟩))
     exact ⟨_,_,(gh_pk [4,7] [2,17464,3,38040] hB e e e e),_,h,e,e⟩
    ·refine Run.so hm (.p2 e e (.nil (.condO e h (fun g243 h => ?_) (fun g243 h => ?_))))
     ·refine Run.so hm (.p3 e e e (.p2 e e (.nil (.condO e h (fun g244 h => ?_) (fun g244 h => ?_)))))
      ·refine Run.draw hm hmix (.p e (.p e (.p e ?_)))
       obtain ⟨y248,hy248,h⟩ := bindO h
       refine OpsD.z 50200 (Ev.call [] [] 1 (sem_spec_l03Drop _ _ _ _ hy248) e e (.cons (.agg (.d1 .nil)) (.d1 .nil)) e (.inl e) e e) e e (.p e (.p e (.p e (.p e (.p e ?_)))))
       obtain ⟨x249,hx249,h⟩ := bindO h
       refine OpsD.z 50296 (Ev.iaF e e hx249) e e (.p e (.p e (.z 50344 (.bd e e) e e ?_)))
       obtain ⟨y250,hy250,h⟩ := bindO h
       refine OpsD.z 50360 (Ev.call [] [50200] 1 (sem_spec_l03Put _ _ _ _ hy250) e e (.cons (.agg (.cons (.borrow e (by decide) (lendW (fun _ => e) _ e)) .nil)) (.cons (.agg (.d2 .nil)) .nil)) e (.inr ⟨e,ownL_root ⟨own_rows (fun _ => e) _,trivial⟩⟩) e e) e e ?_
       refine OpsD.y 50376 (.sto e e e e e e) e e (.nil ⟨by kernel_rfl,?_⟩)
       exact ⟨_,_,(gh_pk [4,7] [2,17464,3,50360] hB e e e e),_,h,e,e⟩
      ·exact Run.skip (⟨_,_,(gh_pk [4,7] [2,17464,3,17432] hB e e e e),_,h,e,e⟩)
     ·refine Run.so hm (.p2 e e (.nil (.condO e h (fun g251 h => ?_) (fun g251 h => ?_))))
      ·refine Run.ops hm (.p3 e e e ?_)
       obtain ⟨y253,hy253,h⟩ := bindO h
       exact Ops.z 58392 (Ev.call [] [] 1 (sem_spec_l03Drop _ _ _ _ hy253) e e (.cons (.agg (.d1 .nil)) (.d1 .nil)) e (.inl e) e e) e e (.y 58408 (.sto e e e e e e) e e (.nil (⟨_,_,(gh_pk [4,7] [2,17464,3,58392] hB e e e e),_,h,e,e⟩)))
      ·exact Run.skip (⟨_,_,(gh_pk [4,7] [2,17464,3,17432] hB e e e e),_,h,e,e⟩)
  ·refine Run.seq (.so hm (.p e ?_))
   obtain ⟨y258,hy258,h⟩ := bindO h
   refine Ops.z 62456 (Ev.call [] [3] 0 (sem_spec_DiskOk _ _ _ hy258) e e (.cons (.agg (.cons (.borrow e (by decide) (lendW (fun _ => e) _ e)) .nil)) .nil) e (.inr ⟨e,ownL_root trivial⟩) e e) e e ?_
   refine Ops.p e (.nil (.condO e h (fun g259 h => ?_) (fun g259 h => ?_)))
   ·refine Run.so hm (.z 66536 (.bd e e) e e (.y 66552 (.sto e e e e e e) e e (.p e (.nil (.ret ?_)))))
    obtain rfl := someO h
    exact Ends.mkG (.inl e) e (Gh.trans (Gh.trans (gh_prn [0,1] [] hB e) (gh_nil [0] [] hB e e e)) (gh_pk [0,1] [10000000] hB e e e e)) e e
   ·refine Run.skip (.so hm (.p e (.y 70648 (.sto e e e e e e) e e (.p e (.nil (.ret ?_))))))
    obtain rfl := someO h
    exact Ends.mkG (.inl e) e (gh_pk [0,1] [3] hB e e e e) e e
def spec_PutRaws_l1 (N : Nat) (x2 : (List Raw)) : Nat → Int → (List File) → Option ((Disk × Int) ⊕ ((List File)))
 | 0,_,_ => none
 | m + 1,x272,x274 =>
 (if (decide (x272 < (x2.length : Int))) = true then
 (at? x2 x272).bind fun x315 =>
 (spec_PutRaw N (Disk.mk x274) x315).bind fun y316 =>
 (if (!y316.2) = true then
 some (Sum.inl ((Disk.mk x274),x272))
 else
 spec_PutRaws_l1 N x2 m (w64 (x272 + 1)) y316.1.Files)
 else
 some (Sum.inr x274))
def spec_PutRaws_l1_r (N : Nat) (x2 : (List Raw)) : (List Raw) → Int → (List File) → Option ((Disk × Int) ⊕ ((List File)))
 | [],x272,x274 =>
 some (Sum.inr x274)
 | hd :: tl,x272,x274 =>
 (some hd).bind fun x315 =>
 (spec_PutRaw N (Disk.mk x274) x315).bind fun y316 =>
 (if (!y316.2) = true then
 some (Sum.inl ((Disk.mk x274),x272))
 else
 spec_PutRaws_l1_r N x2 tl (w64 (x272 + 1)) y316.1.Files)
theorem spec_PutRaws_l1_rng (N : Nat) (x2 : (List Raw)) (hx : x2.length ≤ 1099511627776) : ∀ (d k m : Nat) (x274 : (List File)),x2.length = k + d → d < m → spec_PutRaws_l1 N x2 m (k : Int) x274 = spec_PutRaws_l1_r N x2 (x2.drop k) (k : Int) x274 := by
 intro d
 induction d with
 | zero =>
  intro k m x274 hd hm
  obtain ⟨m,rfl⟩ : ∃ q,m = q + 1 := ⟨m - 1,by omega⟩
  rw [spec_PutRaws_l1,if_neg (by simp; omega),List.drop_eq_nil_of_le (by omega),spec_PutRaws_l1_r]
 | succ d ih =>
  intro k m x274 hd hm
  obtain ⟨m,rfl⟩ : ∃ q,m = q + 1 := ⟨m - 1,by omega⟩
  have hk : k < x2.length := by omega
  rw [spec_PutRaws_l1,if_pos (by simp; omega),List.drop_eq_getElem_cons hk,spec_PutRaws_l1_r]
  have h1 := at_lt hk
  have h2 := w64_succ (k := k) (by omega)
  have h3 := ih (k + 1) m
  simp only [h1,h2,h3 _ (by omega) (by omega)]
theorem spec_PutRaws_l1_eq {N : Nat} (x2 : (List Raw)) (hx : x2.length ≤ 1099511627776) (hN : x2.length < N) (x274 : (List File)) : spec_PutRaws_l1 N x2 N 0 x274 = spec_PutRaws_l1_r N x2 x2 0 x274 := spec_PutRaws_l1_rng N x2 hx x2.length 0 N x274 (by omega) hN
def spec_PutRaws (N : Nat) (x1 : Disk) (x2 : (List Raw)) : Option (Disk × Int) :=
 (spec_DiskOk N x1).bind fun y216 =>
 (if (!y216) = true then
 some ((Disk.mk ([])),0)
 else
 (if (decide ((x2.length : Int) > 60)) = true then
 some ((Disk.mk ([])),0)
 else
 (cat? ([] : List File) x1.Files).bind fun x222 =>
 joinP (fun (v270 : (List File)) =>
 some ((Disk.mk v270),(x2.length : Int))) fun j270 =>
 (spec_PutRaws_l1 N x2 N 0 x222).bind (Sum.elim (fun v295 => some v295) (fun (v296 : (List File)) => j270 v296))))
theorem sem_spec_PutRaws (N : Nat) (x1 : Disk) (x2 : (List Raw)) (r : Disk × Int) (h : spec_PutRaws N x1 x2 = some r) : Says Try.prog 11 [.agg [RO 38 (x1.Files.map encFile)],RO 70 (x2.map encRaw)] 0 [] (.tup [.agg [.sl 0 38 0 r.1.Files.length],VI r.2]) [(0,.vec 38 (r.1.Files.map encFile))] := by
 unfold spec_PutRaws at h
 refine Says.of_norm e Try.call11 e fun B hB => ?_
 have hm : B.m ≤ 1000 := by omega
 refine Run.so hm (.z 1000 (.bx e e) e e (.z 1016 (.al e e) e e (.p e (.nil (.seq (.so hm (.p e ?_)))))))
 obtain ⟨y216,hy216,h⟩ := bindO h
 refine Ops.z 5112 (Ev.call [] [] 0 (sem_spec_DiskOk _ _ _ hy216) e e (.cons (.agg (.d1 .nil)) .nil) e (.inl e) e e) e e (.p2 e e (.askO (x := .t 13) e h (fun g217 h => ?_) (fun g217 h => ?_)))
 ·refine Ops.gn e g217 (.gn e g217 (.gn e g217 (.z 5208 (.pkT e g217 e) e e (.nil (.condT e e (.so hm (.z 9192 (.bd e e) e e (.y 9208 (.sto e e e e e e) e e (.p e (.nil (.ret ?_)))))))))))
  obtain rfl := someO h
  exact Ends.mkG (.inl e) e (Gh.trans (Gh.trans (gh_prn [0,1] [] hB e) (gh_nil [0] [] hB e e e)) (gh_pk [0,1] [10000000] hB e e e e)) e e
 ·refine Ops.gp e g217 e (.gs (s := 5176) e g217 (Ev.lnF e) e e (.gp e g217 e (.z 5208 (.pkF e g217 e) e e (.nil (.condO e h (fun g218 h => ?_) (fun g218 h => ?_))))))
  ·refine Run.so hm (.z 9192 (.bd e e) e e (.y 9208 (.sto e e e e e e) e e (.p e (.nil (.ret ?_)))))
   obtain rfl := someO h
   exact Ends.mkG (.inl e) e (Gh.trans (Gh.trans (gh_prn [0,1] [] hB e) (gh_nil [0] [] hB e e e)) (gh_pk [0,1] [10000000] hB e e e e)) e e
  ·refine Run.skip (.so hm (.z 13288 (Ev.bsW (ys := ([] : List File)) (f := encFile) e .nil e e e e e) e e (.p2 e e ?_)))
   obtain ⟨x222,hx222,h⟩ := bindO h
   refine Ops.z 13336 (Ev.apW (f := encFile) (ontoW e e e) (addsF e) e bt38 e hx222) e e (.z 13352 (.bd e e) e e (.z 13368 (.al e e) e e (.y 13384 (.sto e e e e e e) e e (.nil (.seqO h (fun v270 => [(1,RO 70 (x2.map encRaw)),(4,.ptr 0 0),(6,.ptr 1 0)]) (fun (v270 : (List File)) => [(0,.box [.sl 2 38 0 (([] : (List File)).length)]),(1,.box [.sl 3 38 0 v270.length]),(2,.vec 38 (([] : (List File)).map encFile)),(3,.vec 38 (v270.map encFile))]) (fun h => ?_) (fun v270 h => ?_))))))
   ·refine Run.so hm (.p e (.nil (.block ?_)))
    obtain ⟨res296,h,hk296⟩ := bindO h
    refine Run.loop (n := N) (fun m296 fr σ => ∃ (x272 : Int),∃ (x274 : (List File)),spec_PutRaws_l1 N x2 m296 x272 x274 = some res296 ∧ fr = [(1,RO 70 (x2.map encRaw)),(4,.ptr 0 0),(6,.ptr 1 0),(7,VI x272)] ∧ σ = [(0,.box [.sl 2 38 0 (([] : (List File)).length)]),(1,.box [.sl 3 38 0 x274.length]),(2,.vec 38 (([] : (List File)).map encFile)),(3,.vec 38 (x274.map encFile))]) (Gh.trans (Gh.trans (gh_prn [1,4,6,7] [1016,13368,13336] hB e) (gh_nil [] [1016] hB e e e)) (gh_pk [1,4,6,7] [1016,13368,20000000,13336] hB e e e e)) ⟨_,_,h,e,e⟩ ?_
    rintro m296 fr σ ⟨x272,x274,h,rfl,rfl⟩
    obtain _ | m296 := m296
    ·rw [spec_PutRaws_l1] at h; cases h
    rw [spec_PutRaws_l1] at h
    refine Run.seq (.so hm (.p2 e e (.z 21512 (Ev.lnF e) e e (.p e (.nil (.condO e h (fun g299 h => ?_) (fun g299 h => ?_)))))))
    ·refine Run.skip (.seq (.block (.seq (.draw hm hmix (.p e (.p e (.p e ?_)))))))
     obtain ⟨x315,hx315,h⟩ := bindO h
     refine OpsD.z 29720 (Ev.iaF e e hx315) e e (.p e ?_)
     obtain ⟨y316,hy316,h⟩ := bindO h
     refine OpsD.z 29752 (Ev.call [] [3] 1 (sem_spec_PutRaw _ _ _ _ hy316) e e (.cons (.agg (.cons (.borrow e (by decide) (lendW (fun _ => e) _ e)) .nil)) (.cons (.agg (.d4 .nil)) .nil)) e (.inr ⟨e,ownL_root ⟨own_rows (fun _ => e) _,trivial⟩⟩) e e) e e ?_
     refine OpsD.p e (.p e (.p e (.z 29816 (.al e e) e e (.y 29832 (.sto e e e e e e) e e (.p e (.nil ⟨by kernel_rfl,?_⟩))))))
     refine Run.seq (.so hm (.p2 e e (.nil (.condO e h (fun g317 h => ?_) (fun g317 h => ?_)))))
     ·refine Run.so hm (.p2 e e (.y 37896 (.sto e e e e e e) e e (.p e (.nil (.ret ?_)))))
      obtain rfl := someO h
      have h := hk296
      replace h := inlO h
      obtain rfl := someO h
      exact Ends.mkG (.inl e) e (gh_pk [0,1] [3] hB e e e e) e e
     ·exact Run.skip (.ops hm (.p e (.y 41976 (.sto e e e e e e) e e (.nil (.ops hm (.p3 e e e (.nil (⟨m296,Nat.lt_succ_self m296,_,_,(gh_pk [1,4,6,7] [0,1,2,29752] hB e e e e),_,_,h,e,e⟩))))))))
    ·refine Run.exit ?_
     obtain rfl := someO h
     have h := hk296
     replace h := inrO h
     exact ⟨_,_,(gh_pk [1,4,6] [0,1,2,3] hB e e e e),_,h,e,e⟩
   ·refine Run.so hm (.p2 e e (.z 46088 (Ev.lnF e) e e (.y 46104 (.sto e e e e e e) e e (.p e (.nil (.ret ?_))))))
    obtain rfl := someO h
    exact Ends.mkG (.inl e) e (gh_pk [0,1] [3] hB e e e e) e e
def spec_FileAt (N : Nat) (x1 : Disk) (x2 : ByteArray) : Option (ByteArray × Bool) :=
 (spec_l03At N x1 x2).bind fun y119 =>
 (spec_DiskOk N x1).bind fun y127 =>
 (if (!y127) = true then
 some ((⟨#[]⟩ : ByteArray),false)
 else
 (if (decide (y119 < 0)) = true then
 some ((⟨#[]⟩ : ByteArray),false)
 else
 (at? x1.Files y119).bind fun x131 =>
 some (x131.Text,true)))
theorem sem_spec_FileAt (N : Nat) (x1 : Disk) (x2 : ByteArray) (r : ByteArray × Bool) (h : spec_FileAt N x1 x2 = some r) : Says Try.prog 12 [.agg [RO 38 (x1.Files.map encFile)],VS x2] 0 [] (.tup [VS r.1,VB r.2]) [] := by
 unfold spec_FileAt at h
 refine Says.of_norm e Try.call12 e fun B hB => ?_
 have hm : B.m ≤ 1000 := by omega
 refine Run.so hm (.z 1000 (.bx e e) e e (.p2 e e (.nil (.so hm (.p2 e e ?_)))))
 obtain ⟨y119,hy119,h⟩ := bindO h
 refine Ops.z 5128 (Ev.call [] [] 0 (sem_spec_l03At _ _ _ _ hy119) e e (.cons (.agg (.d1 .nil)) (.d1 .nil)) e (.inl e) e e) e e (.p e (.nil (.seq (.so hm (.p e ?_)))))
 obtain ⟨y127,hy127,h⟩ := bindO h
 refine Ops.z 9208 (Ev.call [] [] 0 (sem_spec_DiskOk _ _ _ hy127) e e (.cons (.agg (.d1 .nil)) .nil) e (.inl e) e e) e e (.p2 e e (.askO (x := .t 13) e h (fun g128 h => ?_) (fun g128 h => ?_)))
 ·refine Ops.gn e g128 (.gn e g128 (.z 9288 (.pkT e g128 e) e e (.nil (.condT e e (.so hm (.p2 e e (.nil (.ret ?_))))))))
  obtain rfl := someO h
  exact Ends.mkG (.inl e) e (gh_pk [0,1] [] hB e e e e) e e
 ·refine Ops.gp e g128 e (.gp e g128 e (.z 9288 (.pkF e g128 e) e e (.nil (.condO e h (fun g129 h => ?_) (fun g129 h => ?_)))))
  ·refine Run.so hm (.p2 e e (.nil (.ret ?_)))
   obtain rfl := someO h
   exact Ends.mkG (.inl e) e (gh_pk [0,1] [] hB e e e e) e e
  ·refine Run.skip (.so hm (.p3 e e e ?_))
   obtain ⟨x131,hx131,h⟩ := bindO h
   refine Ops.z 17432 (Ev.iaF e e hx131) e e (.p3 e e e (.p e (.nil (.ret ?_))))
   obtain rfl := someO h
   exact Ends.mkG (.inl e) e (gh_pk [0,1] [] hB e e e e) e e
def spec_DrawPlaces_l1 (N : Nat) : Nat → Int → (List Int) → Int → Int → (List Int) → Option ((List Int))
 | 0,_,_,_,_,_ => none
 | m + 1,x199,x200,x201,x202,x203 =>
 (if (decide (x199 < 12)) = true then
 (spec_l01Below N (Tl01Cur.mk x200 x201 x202) 10000).bind fun y224 =>
 (cat? x203 ([y224.1] : List Int)).bind fun x225 =>
 spec_DrawPlaces_l1 N m (w64 (x199 + 1)) y224.2.b y224.2.i y224.2.h x225
 else
 some x203)
def spec_DrawPlaces (N : Nat) (x1 : (List Int)) : Option ((List Int)) :=
 (spec_l01New N x1).bind fun y166 =>
 (spec_l01Byte N y166).bind fun y170 =>
 joinP (fun (v198 : (List Int)) =>
 some v198) fun j198 =>
 (spec_DrawPlaces_l1 N N 0 y170.2.b y170.2.i y170.2.h ([] : List Int)).bind (fun v214 => j198 v214)
theorem sem_spec_DrawPlaces (N : Nat) (x1 : (List Int)) (r : (List Int)) (h : spec_DrawPlaces N x1 = some r) : Says Try.prog 13 [RO 5 (x1.map encU)] 0 [] (.sl 0 3 0 r.length) [(0,.vec 3 (r.map encI))] := by
 unfold spec_DrawPlaces at h
 refine Says.of_norm e Try.call13 e fun B hB => ?_
 have hm : B.m ≤ 1000 := by omega
 refine Run.so hm (.p e (.nil (.so hm (.p e ?_))))
 obtain ⟨y166,hy166,h⟩ := bindO h
 refine Ops.z 5112 (Ev.call [] [] 1 (sem_spec_l01New _ _ _ hy166) e e (.d1 .nil) e (.inl e) e e) e e (.p e (.nil (.so hm (.p e ?_))))
 obtain ⟨y170,hy170,h⟩ := bindO h
 refine Ops.z 9208 (Ev.call [5112] [] 0 (sem_spec_l01Byte _ _ _ hy170) e e (.cons (.ptr e) .nil) e (.inl e) e e) e e (.nil (.so hm (.z 13288 (Ev.bsW (ys := ([] : List Int)) (f := encI) e .nil e e e e e) e e (.p e (.nil (.seqO h (fun v198 => [(4,.sl 0 3 0 v198.length)]) (fun (v198 : (List Int)) => [(0,.vec 3 (v198.map encI))]) (fun h => ?_) (fun v198 h => ?_)))))))
 ·refine Run.so hm (.p e (.nil (.block ?_)))
  obtain ⟨res214,h,hk214⟩ := bindO h
  refine Run.loop (n := N) (fun m214 fr σ => ∃ (x199 : Int),∃ (x200 : (List Int)),∃ (x201 : Int),∃ (x202 : Int),∃ (x203 : (List Int)),spec_DrawPlaces_l1 N m214 x199 x200 x201 x202 x203 = some res214 ∧ fr = [(3,.ptr 0 0),(4,.sl 1 3 0 x203.length),(5,VI x199)] ∧ σ = [(0,.box [RO 5 (x200.map encU),VI x201,VI x202]),(1,.vec 3 (x203.map encI))]) (gh_pk [3,4,5] [5112,13288] hB e e e e) ⟨_,_,_,_,_,h,e,e⟩ ?_
  rintro m214 fr σ ⟨x199,x200,x201,x202,x203,h,rfl,rfl⟩
  obtain _ | m214 := m214
  ·rw [spec_DrawPlaces_l1] at h; cases h
  rw [spec_DrawPlaces_l1] at h
  refine Run.seq (.so hm (.p2 e e (.nil (.condO e h (fun g217 h => ?_) (fun g217 h => ?_)))))
  ·refine Run.skip (.seq (.block (.ops hm (.p2 e e ?_))))
   obtain ⟨y224,hy224,h⟩ := bindO h
   refine Ops.z 29704 (Ev.call [0] [] 0 (sem_spec_l01Below _ _ _ _ hy224) e e (.cons (.ptr e) (.d1 .nil)) e (.inl e) e e) e e (.z 29720 (Ev.bsW (ys := ([y224.1] : List Int)) (f := encI) e (.d1 .nil) e e e e e) e e ?_)
   obtain ⟨x225,hx225,h⟩ := bindO h
   exact Ops.z 29736 (Ev.apW (f := encI) (ontoW e e e) (addsW e e e (fun _ => e)) e bt3 e hx225) e e (.p e (.nil (.ops hm (.p3 e e e (.nil (⟨m214,Nat.lt_succ_self m214,_,_,(gh_pk [3,4,5] [0,29736] hB e e e e),_,_,_,_,_,h,e,e⟩))))))
  ·refine Run.exit ?_
   obtain rfl := someO h
   have h := hk214
   exact ⟨_,_,(gh_pk [4] [1] hB e e e e),_,h,e,e⟩
 ·refine Run.so hm (.p2 e e (.nil (.ret ?_)))
  obtain rfl := someO h
  exact Ends.mkG (.inl e) e (gh_pk [0] [0] hB e e e e) e e
def spec_l03Room (N : Nat) (x1 : (List Raw)) (x2 : Int) : Option (Int) :=
 (if (decide (x2 ≥ (x1.length : Int))) = true then
 some 0
 else
 (at? x1 x2).bind fun x134 =>
 (if (decide (x134.Kind > 2)) = true then
 some 0
 else
 (at? x1 x2).bind fun x136 =>
 (if (decide (x136.Kind < 1)) = true then
 some 0
 else
 (at? x1 x2).bind fun x139 =>
 some (x139.Text.size : Int))))
theorem sem_spec_l03Room (N : Nat) (x1 : (List Raw)) (x2 : Int) (r : Int) (h : spec_l03Room N x1 x2 = some r) : Says Try.prog 65 [RO 70 (x1.map encRaw),VI x2] 0 [] (VI r) [] := by
 unfold spec_l03Room at h
 refine Says.of_norm e Try.call65 e fun B hB => ?_
 have hm : B.m ≤ 1000 := by omega
 refine Run.so hm (.p e (.nil (.seq (.so hm (.p2 e e (.z 5128 (Ev.lnF e) e e (.p2 e e (.askO (x := .t 9) e h (fun g133 h => ?_) (fun g133 h => ?_)))))))))
 ·refine Ops.gn e g133 (.gn e g133 (.gn e g133 (.gn e g133 (.gn e g133 (.gn e g133 (.z 5272 (.pkT e g133 e) e e (.p e (.gn e e (.gn e e (.gn e e (.gn e e (.gn e e (.gn e e (.z 5400 (.pkT e e e) e e (.nil (.condT e e (.so hm (.p e (.nil (.ret ?_))))))))))))))))))))
  obtain rfl := someO h
  exact Ends.mkG (.inl e) e (gh_pk [0] [] hB e e e e) e e
 ·refine Ops.gp e g133 e (.gp e g133 e ?_)
  obtain ⟨x134,hx134,h⟩ := bindO h
  refine Ops.gs (s := 5208) e g133 (Ev.iaF e e hx134) e e (.gp e g133 e (.gp e g133 e (.gp e g133 e (.z 5272 (.pkF e g133 e) e e (.p e (.askO (x := .t 17) e h (fun g135 h => ?_) (fun g135 h => ?_)))))))
  ·refine Ops.gn e g135 (.gn e g135 (.gn e g135 (.gn e g135 (.gn e g135 (.gn e g135 (.z 5400 (.pkT e g135 e) e e (.nil (.condT e e (.so hm (.p e (.nil (.ret ?_))))))))))))
   obtain rfl := someO h
   exact Ends.mkG (.inl e) e (gh_pk [0] [] hB e e e e) e e
  ·refine Ops.gp e g135 e (.gp e g135 e ?_)
   obtain ⟨x136,hx136,h⟩ := bindO h
   refine Ops.gs (s := 5336) e g135 (Ev.iaF e e hx136) e e (.gp e g135 e (.gp e g135 e (.gp e g135 e (.z 5400 (.pkF e g135 e) e e (.nil (.condO e h (fun g137 h => ?_) (fun g137 h => ?_)))))))
   ·refine Run.so hm (.p e (.nil (.ret ?_)))
    obtain rfl := someO h
    exact Ends.mkG (.inl e) e (gh_pk [0] [] hB e e e e) e e
   ·refine Run.skip (.so hm (.p2 e e ?_))
    obtain ⟨x139,hx139,h⟩ := bindO h
    refine Ops.z 13320 (Ev.iaF e e hx139) e e (.p3 e e e (.p e (.nil (.ret ?_))))
    obtain rfl := someO h
    exact Ends.mkG (.inl e) e (gh_pk [0] [] hB e e e e) e e
def spec_CutRaws (N : Nat) (x1 : Disk) (x2 : (List Raw)) (x3 : Int) (x4 : Int) : Option (Disk × Bool) :=
 (spec_DiskOk N x1).bind fun y189 =>
 (if (!y189) = true then
 some ((Disk.mk ([])),false)
 else
 (if (decide ((x2.length : Int) > 60)) = true then
 some ((Disk.mk ([])),false)
 else
 (spec_l01In N x3 0 (x2.length : Int)).bind fun y192 =>
 (if (!y192) = true then
 some ((Disk.mk ([])),false)
 else
 (spec_l03Room N x2 x3).bind fun y194 =>
 (spec_l01In N x4 0 y194).bind fun y195 =>
 (if (!y195) = true then
 some ((Disk.mk ([])),false)
 else
 (take? x2 x3).bind fun x203 =>
 (cat? ([] : List Raw) x203).bind fun x204 =>
 joinP (fun (v216 : (List Raw)) =>
 (spec_PutRaws N x1 v216).bind fun y231 =>
 (if (y231.2 != ((v216.length : Nat) : Int)) = true then
 some ((Disk.mk ([])),false)
 else
 some (y231.1,true))) fun j216 =>
 (if (decide (x4 > 0)) = true then
 (at? x2 x3).bind fun x221 =>
 (stake? x221.Text x4).bind fun x225 =>
 (cat? x204 ([(Raw.mk x221.Kind x221.Name x221.To x225)] : List Raw)).bind fun x227 =>
 j216 x227
 else
 j216 x204)))))
theorem sem_spec_CutRaws (N : Nat) (x1 : Disk) (x2 : (List Raw)) (x3 : Int) (x4 : Int) (r : Disk × Bool) (h : spec_CutRaws N x1 x2 x3 x4 = some r) : Says Try.prog 38 [.agg [RO 38 (x1.Files.map encFile)],RO 70 (x2.map encRaw),VI x3,VI x4] 0 [] (.tup [.agg [.sl 0 38 0 r.1.Files.length],VB r.2]) [(0,.vec 38 (r.1.Files.map encFile))] := by
 unfold spec_CutRaws at h
 refine Says.of_norm e Try.call38 e fun B hB => ?_
 have hm : B.m ≤ 1000 := by omega
 refine Run.so hm (.z 1000 (.bx e e) e e (.z 1016 (.al e e) e e (.p e (.nil (.seq (.so hm (.p e ?_)))))))
 obtain ⟨y189,hy189,h⟩ := bindO h
 refine Ops.z 5112 (Ev.call [] [] 0 (sem_spec_DiskOk _ _ _ hy189) e e (.cons (.agg (.d1 .nil)) .nil) e (.inl e) e e) e e (.p2 e e (.askO (x := .t 17) e h (fun g190 h => ?_) (fun g190 h => ?_)))
 ·refine Ops.gn e g190 (.gn e g190 (.gn e g190 (.z 5208 (.pkT e g190 e) e e (.p e (.gn e e (.gn e e (.gn e e (.gn e e (.gn e e (.z 5320 (.pkT e e e) e e (.p e (.gn e e (.gn e e (.gn e e (.gn e e (.gn e e (.gn e e (.z 5448 (.pkT e e e) e e (.nil (.condT e e (.so hm (.z 9192 (.bd e e) e e (.y 9208 (.sto e e e e e e) e e (.p e (.nil (.ret ?_))))))))))))))))))))))))))
  obtain rfl := someO h
  exact Ends.mkG (.inl e) e (Gh.trans (Gh.trans (gh_prn [0,1] [] hB e) (gh_nil [0] [] hB e e e)) (gh_pk [0,1] [10000000] hB e e e e)) e e
 ·refine Ops.gp e g190 e (.gs (s := 5176) e g190 (Ev.lnF e) e e (.gp e g190 e (.z 5208 (.pkF e g190 e) e e (.p e (.askO (x := .t 22) e h (fun g191 h => ?_) (fun g191 h => ?_))))))
  ·refine Ops.gn e g191 (.gn e g191 (.gn e g191 (.gn e g191 (.gn e g191 (.z 5320 (.pkT e g191 e) e e (.p e (.gn e e (.gn e e (.gn e e (.gn e e (.gn e e (.gn e e (.z 5448 (.pkT e e e) e e (.nil (.condT e e (.so hm (.z 9192 (.bd e e) e e (.y 9208 (.sto e e e e e e) e e (.p e (.nil (.ret ?_)))))))))))))))))))))
   obtain rfl := someO h
   exact Ends.mkG (.inl e) e (Gh.trans (Gh.trans (gh_prn [0,1] [] hB e) (gh_nil [0] [] hB e e e)) (gh_pk [0,1] [10000000] hB e e e e)) e e
  ·refine Ops.gp e g191 e (.gp e g191 e (.gs (s := 5272) e g191 (Ev.lnF e) e e ?_))
   obtain ⟨y192,hy192,h⟩ := bindO h
   refine Ops.gs (s := 5288) e g191 (Ev.call [] [] 0 (sem_spec_l01In _ _ _ _ _ hy192) e e (.d2 (.d1 .nil)) e (.inl e) e e) e e (.gp e g191 e (.z 5320 (.pkF e g191 e) e e (.p e (.askO (x := .t 29) e h (fun g193 h => ?_) (fun g193 h => ?_)))))
   ·refine Ops.gn e g193 (.gn e g193 (.gn e g193 (.gn e g193 (.gn e g193 (.gn e g193 (.z 5448 (.pkT e g193 e) e e (.nil (.condT e e (.so hm (.z 9192 (.bd e e) e e (.y 9208 (.sto e e e e e e) e e (.p e (.nil (.ret ?_))))))))))))))
    obtain rfl := someO h
    exact Ends.mkG (.inl e) e (Gh.trans (Gh.trans (gh_prn [0,1] [] hB e) (gh_nil [0] [] hB e e e)) (gh_pk [0,1] [10000000] hB e e e e)) e e
   ·refine Ops.gp e g193 e (.gp e g193 e (.gp e g193 e ?_))
    obtain ⟨y194,hy194,h⟩ := bindO h
    refine Ops.gs (s := 5400) e g193 (Ev.call [] [] 0 (sem_spec_l03Room _ _ _ _ hy194) e e (.d2 .nil) e (.inl e) e e) e e ?_
    obtain ⟨y195,hy195,h⟩ := bindO h
    refine Ops.gs (s := 5416) e g193 (Ev.call [] [] 0 (sem_spec_l01In _ _ _ _ _ hy195) e e (.d2 (.d1 .nil)) e (.inl e) e e) e e (.gp e g193 e (.z 5448 (.pkF e g193 e) e e (.nil (.condO e h (fun g196 h => ?_) (fun g196 h => ?_)))))
    ·refine Run.so hm (.z 9192 (.bd e e) e e (.y 9208 (.sto e e e e e e) e e (.p e (.nil (.ret ?_)))))
     obtain rfl := someO h
     exact Ends.mkG (.inl e) e (Gh.trans (Gh.trans (gh_prn [0,1] [] hB e) (gh_nil [0] [] hB e e e)) (gh_pk [0,1] [10000000] hB e e e e)) e e
    ·refine Run.skip (.so hm (.z 13288 (Ev.bsW (ys := ([] : List Raw)) (f := encRaw) e .nil e e e e e) e e (.p2 e e ?_)))
     obtain ⟨x203,hx203,h⟩ := bindO h
     refine Ops.z 13336 (Ev.slFh e e hx203) e e ?_
     obtain ⟨x204,hx204,h⟩ := bindO h
     refine Ops.z 13352 (Ev.apW (f := encRaw) (ontoW e e e) (addsF e) e bt70 e hx204) e e (.p e (.nil (.seqO h (fun v216 => [(4,.ptr 0 0),(8,.ptr 1 0),(10,.sl 2 70 0 v216.length)]) (fun (v216 : (List Raw)) => [(0,.box [RO 38 (x1.Files.map encFile)]),(1,.box [.sl 3 38 0 (([] : List File).length)]),(2,.vec 70 (v216.map encRaw)),(3,.vec 38 (([] : List File).map encFile))]) (fun h => ?_) (fun v216 h => ?_))))
     ·refine Run.so hm (.p2 e e (.nil (.condO e h (fun g217 h => ?_) (fun g217 h => ?_))))
      ·refine Run.so hm (.p2 e e ?_)
       obtain ⟨x221,hx221,h⟩ := bindO h
       refine Ops.z 21512 (Ev.iaF e e hx221) e e (.p e (.z 21544 (.al e e) e e (.y 21560 (.sto e e e e e e) e e (.nil (.so hm (.p3 e e e ?_))))))
       obtain ⟨x225,hx225,h⟩ := bindO h
       refine Ops.z 25624 (Ev.ssH e e hx225) e e (.p e (.y 25656 (.sto e e e e e e) e e (.nil (.ops hm (.p2 e e (.z 29704 (Ev.bsW (ys := ([(Raw.mk x221.Kind x221.Name x221.To x225)] : List Raw)) (f := encRaw) e (.d4 .nil) e e e e e) e e ?_))))))
       obtain ⟨x227,hx227,h⟩ := bindO h
       exact Ops.z 29720 (Ev.apW (f := encRaw) (ontoW e e e) (addsW e e e (fun _ => e)) e bt70 e hx227) e e (.p e (.nil (⟨_,_,(Gh.trans (Gh.trans (gh_prn [4,8,10] [1000,1016,29720] hB e) (gh_nil [] [1016] hB e e e)) (gh_pk [4,8,10] [1000,1016,29720,20000000] hB e e e e)),_,h,e,e⟩)))
      ·exact Run.skip (⟨_,_,(Gh.trans (Gh.trans (gh_prn [4,8,10] [1000,1016,13352] hB e) (gh_nil [] [1016] hB e e e)) (gh_pk [4,8,10] [1000,1016,13352,20000000] hB e e e e)),_,h,e,e⟩)
     ·refine Run.so hm (.p2 e e ?_)
      obtain ⟨y231,hy231,h⟩ := bindO h
      refine Ops.z 33800 (Ev.call [] [2] 1 (sem_spec_PutRaws _ _ _ _ hy231) e e (.cons (.agg (.d1 .nil)) (.cons (.borrow e (by decide) (lendW (fun _ => e) _ e)) .nil)) e (.inr ⟨e,ownL_root ⟨own_rows (fun _ => e) _,trivial⟩⟩) e e) e e ?_
      refine Ops.p e (.p2 e e (.z 33864 (.al e e) e e (.y 33880 (.sto e e e e e e) e e (.p e (.nil (.seq (.so hm (.p3 e e e (.p e (.nil (.condO e h (fun g233 h => ?_) (fun g233 h => ?_))))))))))))
      ·refine Run.so hm (.z 41960 (.bd e e) e e (.y 41976 (.sto e e e e e e) e e (.p e (.nil (.ret ?_)))))
       obtain rfl := someO h
       exact Ends.mkG (.inl e) e (Gh.trans (Gh.trans (gh_prn [0,1] [] hB e) (gh_nil [0] [] hB e e e)) (gh_pk [0,1] [10000000] hB e e e e)) e e
      ·refine Run.skip (.so hm (.p e (.y 46072 (.sto e e e e e e) e e (.p e (.nil (.ret ?_))))))
       obtain rfl := someO h
       exact Ends.mkG (.inl e) e (gh_pk [0,1] [33800] hB e e e e) e e
end Go.Proofs.Ythlhkcnilehbbaa.Pe.FnLogs
