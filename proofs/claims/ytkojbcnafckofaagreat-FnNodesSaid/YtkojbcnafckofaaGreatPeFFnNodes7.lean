/- Functions,as pure functions; and that Go does just that. -/
import Derived.Test.YtkojbcnafckofaaGreatPeFFnNodes6
namespace Go.Proofs.YtkojbcnafckofaaGreat.Pe.FnNodes
open Go Go.RowKit
set_option linter.unusedVariables false
set_option linter.unusedSimpArgs false
set_option maxHeartbeats 40000000
set_option maxRecDepth 100000
def L_pdqsortOrdered_int_l1 (N : Nat) (x1 : (List Int)) (x2 : Int) (x3 : Int) : Nat → Option ((List Int))
 | 0 => none
 | m + 1 =>
 (if (decide ((w64 (x3 - x2)) ≤ 12)) = true then
 (L_insertionSortOrdered_int N x1 x2 x3).bind fun y128 =>
 (len? x1 y128).bind fun y129 =>
 some y128
 else
 none)
def L_pdqsortOrdered_int (N : Nat) (x1 : (List Int)) (x2 : Int) (x3 : Int) (x4 : Int) : Option ((List Int)) :=
 (L_pdqsortOrdered_int_l1 N x1 x2 x3 N).bind (fun v123 => some v123)
theorem sem_L_pdqsortOrdered_int (N : Nat) (x1 : (List Int)) (x2 : Int) (x3 : Int) (x4 : Int) (r : (List Int)) (h : L_pdqsortOrdered_int N x1 x2 x3 x4 = some r) : Says Tryz.prog 103 [.sl 0 3 0 x1.length,VI x2,VI x3,VI x4] 1 [(0,.vec 3 (x1.map encI))] (.tup []) [(0,.vec 3 (r.map encI))] := by
 unfold L_pdqsortOrdered_int at h
 refine Says.of_norm e Tryz.call103 e fun B hB => ?_
 have hm : B.m ≤ 1000 := by omega
 refine Run.so hm (.p e (.nil (.so hm (.p e (.nil (.block ?_))))))
 obtain ⟨res123,h,hk123⟩ := bindO h
 refine Run.loop (n := N) (fun m123 fr σ => L_pdqsortOrdered_int_l1 N x1 x2 x3 m123 = some res123 ∧ fr = [(0,.sl 0 3 0 x1.length),(1,VI x2),(2,VI x3)] ∧ σ = [(0,.vec 3 (x1.map encI))]) (gh_pk [0,1,2] [0] hB e e e e) ⟨h,e,e⟩ ?_
 rintro m123 fr σ ⟨h,rfl,rfl⟩
 obtain _ | m123 := m123
 ·rw [L_pdqsortOrdered_int_l1] at h; cases h
 rw [L_pdqsortOrdered_int_l1] at h
 refine Run.block (.so hm (.p3 e e e (.p e (.nil (.seq (.so hm (.p2 e e (.nil (.condO e h (fun g125 h => ?_) (fun g125 h => ?_))))))))))
 ·refine Run.so hm (.p3 e e e ?_)
  obtain ⟨y128,hy128,h⟩ := bindO h
  obtain ⟨y129,hy129,h⟩ := bindO h
  refine Ops.z 17432 (Ev.call [0] [] 0 (sem_L_insertionSortOrdered_int _ _ _ _ _ hy128) e e (.cons (.sl e) (.d2 .nil)) e (.inl e) e e) e e (.nil (.ret ?_))
  obtain rfl := someO h
  have h := hk123
  obtain rfl := someO h
  exact Ends.mkG (.inl e) e (gh_pk [] [0] hB e e e e) (by first | rfl | (simp only [List.length_set,(len_some hy129)]; done) | (simp only [List.length_set,(len_some hy129)]; rfl)) (by first | rfl | (simp only [List.length_set,(len_some hy129)]; done) | (simp only [List.length_set,(len_some hy129)]; rfl))
 ·exact Run.skip (noO h)
def L_Sort_int (N : Nat) (x1 : (List Int)) : Option ((List Int)) :=
 (math_bits_Len N (IntKind.wrap .u64 (((x1.length : Nat) : Int)))).bind fun y109 =>
 (L_pdqsortOrdered_int N x1 0 ((x1.length : Nat) : Int) y109).bind fun y110 =>
 (len? x1 y110).bind fun y111 =>
 some y110
theorem sem_L_Sort_int (N : Nat) (x1 : (List Int)) (r : (List Int)) (h : L_Sort_int N x1 = some r) : Says Tryz.prog 61 [.sl 0 3 0 x1.length] 1 [(0,.vec 3 (x1.map encI))] (.tup []) [(0,.vec 3 (r.map encI))] := by
 unfold L_Sort_int at h
 refine Says.of_norm e Tryz.call61 e fun B hB => ?_
 have hm : B.m ≤ 1000 := by omega
 refine Run.so hm (.p3 e e e (.nil (.ops hm (.p3 e e e (.p e ?_)))))
 obtain ⟨y109,hy109,h⟩ := bindO h
 refine Ops.z 5160 (Ev.call [] [] 0 (sem_math_bits_Len _ _ _ hy109) e e (.d1 .nil) e (.inl e) e e) e e ?_
 obtain ⟨y110,hy110,h⟩ := bindO h
 obtain ⟨y111,hy111,h⟩ := bindO h
 refine Ops.z 5176 (Ev.call [0] [] 0 (sem_L_pdqsortOrdered_int _ _ _ _ _ _ hy110) e e (.cons (.sl e) (.d2 (.d1 .nil))) e (.inl e) e e) e e (.nil ?_)
 obtain rfl := someO h
 exact Ends.mkG (.inr e) e (gh_pk [] [0] hB e e e e) (by first | rfl | (simp only [List.length_set,(len_some hy111)]; done) | (simp only [List.length_set,(len_some hy111)]; rfl)) (by first | rfl | (simp only [List.length_set,(len_some hy111)]; done) | (simp only [List.length_set,(len_some hy111)]; rfl))
def i_Most_l1 (N : Nat) (x1 : (List Int)) (x2 : (List Int)) : Nat → Int → Int → Option (Int)
 | 0,_,_ => none
 | m + 1,x186,x189 =>
 (if (decide (x189 < (x1.length : Int))) = true then
 (at? x1 x189).bind fun x206 =>
 (L_Contains_int N x2 x206).bind fun y208 =>
 (if y208 = true then
 i_Most_l1 N x1 x2 m (w64 (x186 + 1)) (w64 (x189 + 1))
 else
 i_Most_l1 N x1 x2 m x186 (w64 (x189 + 1)))
 else
 some x186)
def i_Most_l1_r (N : Nat) (x1 : (List Int)) (x2 : (List Int)) : (List Int) → Int → Int → Option (Int)
 | [],x186,x189 =>
 some x186
 | hd :: tl,x186,x189 =>
 (some hd).bind fun x206 =>
 (L_Contains_int N x2 x206).bind fun y208 =>
 (if y208 = true then
 i_Most_l1_r N x1 x2 tl (w64 (x186 + 1)) (w64 (x189 + 1))
 else
 i_Most_l1_r N x1 x2 tl x186 (w64 (x189 + 1)))
theorem i_Most_l1_rng (N : Nat) (x1 : (List Int)) (x2 : (List Int)) (hx : x1.length ≤ 1099511627776) : ∀ (d k m : Nat) (x186 : Int),x1.length = k + d → d < m → i_Most_l1 N x1 x2 m x186 (k : Int) = i_Most_l1_r N x1 x2 (x1.drop k) x186 (k : Int) := by
 intro d
 induction d with
 | zero =>
  intro k m x186 hd hm
  obtain ⟨m,rfl⟩ : ∃ q,m = q + 1 := ⟨m - 1,by omega⟩
  rw [i_Most_l1,if_neg (by simp; omega),List.drop_eq_nil_of_le (by omega),i_Most_l1_r]
 | succ d ih =>
  intro k m x186 hd hm
  obtain ⟨m,rfl⟩ : ∃ q,m = q + 1 := ⟨m - 1,by omega⟩
  have hk : k < x1.length := by omega
  rw [i_Most_l1,if_pos (by simp; omega),List.drop_eq_getElem_cons hk,i_Most_l1_r]
  have h1 := at_lt hk
  have h2 := w64_succ (k := k) (by omega)
  have h3 := ih (k + 1) m
  simp only [h1,h2,h3 _ (by omega) (by omega)]
theorem i_Most_l1_eq {N : Nat} (x1 : (List Int)) (x2 : (List Int)) (hx : x1.length ≤ 1099511627776) (hN : x1.length < N) (x186 : Int) : i_Most_l1 N x1 x2 N x186 0 = i_Most_l1_r N x1 x2 x1 x186 0 := i_Most_l1_rng N x1 x2 hx x1.length 0 N x186 (by omega) hN
def i_Most (N : Nat) (x1 : (List Int)) (x2 : (List Int)) : Option (Bool) :=
 joinP (fun (v183 : Int) =>
 (i_ConfOk N x1).bind fun y212 =>
 (if y212 = true then
 some (decide ((w64 (2 * v183)) > (x1.length : Int)))
 else
 some false)) fun j183 =>
 (i_Most_l1 N x1 x2 N 0 0).bind (fun v199 => j183 v199)
theorem sem_i_Most (N : Nat) (x1 : (List Int)) (x2 : (List Int)) (r : Bool) (h : i_Most N x1 x2 = some r) : Says Tryz.prog 46 [RO 3 (x1.map encI),RO 3 (x2.map encI)] 0 [] (VB r) [] := by
 unfold i_Most at h
 refine Says.of_norm e Tryz.call46 e fun B hB => ?_
 have hm : B.m ≤ 1000 := by omega
 refine Run.so hm (.p e (.nil (.so hm (.p e (.nil (.seqO h (fun v183 => [(0,RO 3 (x1.map encI)),(5,VI v183)]) (fun (v183 : Int) => []) (fun h => ?_) (fun v183 h => ?_)))))))
 ·refine Run.so hm (.p e (.z 9208 (Ev.lnF e) e e (.p e (.nil (.block ?_)))))
  obtain ⟨res199,h,hk199⟩ := bindO h
  refine Run.loop (n := N) (fun m199 fr σ => ∃ (x186 : Int),∃ (x189 : Int),i_Most_l1 N x1 x2 m199 x186 x189 = some res199 ∧ fr = [(0,RO 3 (x1.map encI)),(1,RO 3 (x2.map encI)),(5,VI x186),(8,RO 3 (x1.map encI)),(9,VI (x1.length : Int)),(10,VI x189)] ∧ σ = []) (gh_pk [0,1,5,8,9,10] [] hB e e e e) ⟨_,_,h,e,e⟩ ?_
  rintro m199 fr σ ⟨x186,x189,h,rfl,rfl⟩
  obtain _ | m199 := m199
  ·rw [i_Most_l1] at h; cases h
  rw [i_Most_l1] at h
  refine Run.so hm (.p e (.nil (.seq (.condO e h (fun g202 h => ?_) (fun g202 h => ?_)))))
  ·refine Run.skip (.seq (.block (.so hm ?_)))
   obtain ⟨x206,hx206,h⟩ := bindO h
   refine Ops.z 17384 (Ev.iaF e e hx206) e e (.p2 e e (.nil (.so hm (.p2 e e ?_))))
   obtain ⟨y208,hy208,h⟩ := bindO h
   refine Ops.z 21512 (Ev.call [] [] 0 (sem_L_Contains_int _ _ _ _ hy208) e e (.d2 .nil) e (.inl e) e e) e e (.nil (.condO e h (fun g209 h => ?_) (fun g209 h => ?_)))
   ·exact Run.ops hm (.p3 e e e (.nil (.ops hm (.p2 e e (.nil (⟨m199,Nat.lt_succ_self m199,_,_,(gh_pk [0,1,5,8,9,10] [] hB e e e e),_,_,h,e,e⟩))))))
   ·exact Run.skip (.ops hm (.p2 e e (.nil (⟨m199,Nat.lt_succ_self m199,_,_,(gh_pk [0,1,5,8,9,10] [] hB e e e e),_,_,h,e,e⟩))))
  ·refine Run.exit ?_
   obtain rfl := someO h
   have h := hk199
   exact ⟨_,_,(gh_pk [0,5] [] hB e e e e),_,h,e,e⟩
 ·refine Run.so hm (.p e ?_)
  obtain ⟨y212,hy212,h⟩ := bindO h
  refine Ops.z 33784 (Ev.call [] [] 0 (sem_i_ConfOk _ _ _ hy212) e e (.d1 .nil) e (.inl e) e e) e e (.p e (.askO (x := .t 22) e h (fun g213 h => ?_) (fun g213 h => ?_)))
  ·refine Ops.gp e g213 e (.gp e g213 e (.gp e g213 e (.gs (s := 33864) e g213 (Ev.lnF e) e e (.gp e g213 e (.z 33896 (.pkT e g213 e) e e (.p e (.nil (.ret ?_))))))))
   obtain rfl := someO h
   exact Ends.mkG (.inl e) e (gh_pk [0] [] hB e e e e) e e
  ·refine Ops.gn e g213 (.gn e g213 (.gn e g213 (.gn e g213 (.gn e g213 (.z 33896 (.pkF e g213 e) e e (.p e (.nil (.ret ?_))))))))
   obtain rfl := someO h
   exact Ends.mkG (.inl e) e (gh_pk [0] [] hB e e e e) e e
def i_hasEntry (N : Nat) (x1 : Log) (x2 : Int) : Option (Bool) :=
 (if (decide (x2 > x1.Start)) = true then
 (i_within N (w64 (x2 - x1.Start)) 1 (x1.Entries.length : Int)).bind fun y107 =>
 some y107
 else
 some false)
theorem sem_i_hasEntry (N : Nat) (x1 : Log) (x2 : Int) (r : Bool) (h : i_hasEntry N x1 x2 = some r) : Says Tryz.prog 105 [.agg [VI x1.Start,VI x1.StartTerm,RO 40 (x1.Entries.map eE)],VI x2] 0 [] (VB r) [] := by
 unfold i_hasEntry at h
 refine Says.of_norm e Tryz.call105 e fun B hB => ?_
 have hm : B.m ≤ 1000 := by omega
 refine Run.so hm (.z 1000 (.bx e e) e e (.p e (.nil (.so hm (.p3 e e e (.p2 e e (.askO (x := .t 9) e h (fun g106 h => ?_) (fun g106 h => ?_))))))))
 ·refine Ops.gp e g106 e (.gp e g106 e (.gp e g106 e (.gp e g106 e (.gp e g106 e (.gp e g106 e (.gs (s := 5272) e g106 (Ev.lnF e) e e ?_))))))
  obtain ⟨y107,hy107,h⟩ := bindO h
  refine Ops.gs (s := 5288) e g106 (Ev.call [] [] 0 (sem_i_within _ _ _ _ _ hy107) e e (.d2 (.d1 .nil)) e (.inl e) e e) e e (.z 5304 (.pkT e g106 e) e e (.p e (.nil (.ret ?_))))
  obtain rfl := someO h
  exact Ends.mkG (.inl e) e (gh_pk [0] [] hB e e e e) e e
 ·refine Ops.gn e g106 (.gn e g106 (.gn e g106 (.gn e g106 (.gn e g106 (.gn e g106 (.gn e g106 (.gn e g106 (.z 5304 (.pkF e g106 e) e e (.p e (.nil (.ret ?_)))))))))))
  obtain rfl := someO h
  exact Ends.mkG (.inl e) e (gh_pk [0] [] hB e e e e) e e
def i_LogTerm (N : Nat) (x1 : Log) (x2 : Int) : Option (Int) :=
 (if (x2 == x1.Start) = true then
 some x1.StartTerm
 else
 (i_hasEntry N x1 x2).bind fun y108 =>
 (if y108 = true then
 (at? x1.Entries (w64 ((w64 (x2 - x1.Start)) - 1))).bind fun x111 =>
 some x111.Term
 else
 some (-1 : Int)))
theorem sem_i_LogTerm (N : Nat) (x1 : Log) (x2 : Int) (r : Int) (h : i_LogTerm N x1 x2 = some r) : Says Tryz.prog 62 [.agg [VI x1.Start,VI x1.StartTerm,RO 40 (x1.Entries.map eE)],VI x2] 0 [] (VI r) [] := by
 unfold i_LogTerm at h
 refine Says.of_norm e Tryz.call62 e fun B hB => ?_
 have hm : B.m ≤ 1000 := by omega
 refine Run.so hm (.z 1000 (.bx e e) e e (.p e (.nil (.seq (.block (.so hm (.p3 e e e (.p2 e e (.nil (.condO e h (fun g106 h => ?_) (fun g106 h => ?_)))))))))))
 ·refine Run.so hm (.p3 e e e (.nil (.ret ?_)))
  obtain rfl := someO h
  exact Ends.mkG (.inl e) e (gh_pk [0] [] hB e e e e) e e
 ·refine Run.so hm (.p2 e e ?_)
  obtain ⟨y108,hy108,h⟩ := bindO h
  refine Ops.z 13320 (Ev.call [] [] 0 (sem_i_hasEntry _ _ _ _ hy108) e e (.cons (.agg (.d2 (.d1 .nil))) (.d1 .nil)) e (.inl e) e e) e e (.p e (.nil (.condO e h (fun g109 h => ?_) (fun g109 h => ?_))))
  ·refine Run.so hm (.p3 e e e (.p3 e e e (.p e ?_)))
   obtain ⟨x111,hx111,h⟩ := bindO h
   refine Ops.z 17496 (Ev.iaF e e hx111) e e (.p3 e e e (.nil (.ret ?_)))
   obtain rfl := someO h
   exact Ends.mkG (.inl e) e (gh_pk [0] [] hB e e e e) e e
  ·refine Run.skip (.so hm (.p e (.nil (.ret ?_))))
   obtain rfl := someO h
   exact Ends.mkG (.inl e) e (gh_pk [0] [] hB e e e e) e e
def i_lastConf_l1 (N : Nat) (x1 : Log) : Nat → Int → Option ((Int) ⊕ (Unit))
 | 0,_ => none
 | m + 1,x171 =>
 (if (decide (x171 ≥ 0)) = true then
 (at? x1.Entries x171).bind fun x192 =>
 (if (x192.Kind == 2) = true then
 some (Sum.inl (w64 ((w64 (x1.Start + x171)) + 1)))
 else
 i_lastConf_l1 N x1 m (w64 (x171 - 1)))
 else
 some (Sum.inr ()))
def i_lastConf (N : Nat) (x1 : Log) : Option (Int) :=
 joinP (fun (v170 : Unit) =>
 some 0) fun j170 =>
 (i_lastConf_l1 N x1 N (w64 ((x1.Entries.length : Int) - 1))).bind (Sum.elim (fun v183 => some v183) (fun (v184 : Unit) => j170 ()))
theorem sem_i_lastConf (N : Nat) (x1 : Log) (r : Int) (h : i_lastConf N x1 = some r) : Says Tryz.prog 109 [.agg [VI x1.Start,VI x1.StartTerm,RO 40 (x1.Entries.map eE)]] 0 [] (VI r) [] := by
 unfold i_lastConf at h
 refine Says.of_norm e Tryz.call109 e fun B hB => ?_
 have hm : B.m ≤ 1000 := by omega
 refine Run.so hm (.z 1000 (.bx e e) e e (.p e (.nil (.seqO h (fun v170 => []) (fun (v170 : Unit) => []) (fun h => ?_) (fun v170 h => ?_)))))
 ·refine Run.so hm (.p2 e e (.z 5128 (Ev.lnF e) e e (.p2 e e (.nil (.block ?_)))))
  obtain ⟨res184,h,hk184⟩ := bindO h
  refine Run.loop (n := N) (fun m184 fr σ => ∃ (x171 : Int),i_lastConf_l1 N x1 m184 x171 = some res184 ∧ fr = [(1,.ptr 0 0),(3,VI x171)] ∧ σ = [(0,.box [VI x1.Start,VI x1.StartTerm,RO 40 (x1.Entries.map eE)])]) (gh_pk [1,3] [1000] hB e e e e) ⟨_,h,e,e⟩ ?_
  rintro m184 fr σ ⟨x171,h,rfl,rfl⟩
  obtain _ | m184 := m184
  ·rw [i_lastConf_l1] at h; cases h
  rw [i_lastConf_l1] at h
  refine Run.seq (.so hm (.p2 e e (.nil (.condO e h (fun g187 h => ?_) (fun g187 h => ?_)))))
  ·refine Run.skip (.seq (.block (.so hm (.p3 e e e ?_))))
   obtain ⟨x192,hx192,h⟩ := bindO h
   refine Ops.z 17432 (Ev.iaF e e hx192) e e (.p3 e e e (.nil (.condO e h (fun g193 h => ?_) (fun g193 h => ?_))))
   ·refine Run.so hm (.p3 e e e (.p3 e e e (.nil (.ret ?_))))
    obtain rfl := someO h
    have h := hk184
    replace h := inlO h
    obtain rfl := someO h
    exact Ends.mkG (.inl e) e (gh_pk [0] [] hB e e e e) e e
   ·exact Run.skip (.ops hm (.p3 e e e (.nil (⟨m184,Nat.lt_succ_self m184,_,_,(gh_pk [1,3] [0] hB e e e e),_,h,e,e⟩))))
  ·refine Run.exit ?_
   obtain rfl := someO h
   have h := hk184
   replace h := inrO h
   exact ⟨_,_,(gh_pk [] [] hB e e e e),(),h,e,e⟩
 ·refine Run.so hm (.p e (.nil (.ret ?_)))
  obtain rfl := someO h
  exact Ends.mkG (.inl e) e (gh_pk [0] [] hB e e e e) e e
def c_commit_l2 (N : Nat) (x1 : TK) (x1257 : Int) : Nat → Int → (List Int) → Option ((List Int))
 | 0,_,_ => none
 | m + 1,x1587,x1603 =>
 (if (decide (x1587 < ((x1.n.Peers.length : Nat) : Int))) = true then
 (at? x1.n.Peers x1587).bind fun x1620 =>
 (if (decide (x1620.Match ≥ x1257)) = true then
 (cat? x1603 ([x1620.Id] : List Int)).bind fun x1623 =>
 c_commit_l2 N x1 x1257 m (w64 (x1587 + 1)) x1623
 else
 c_commit_l2 N x1 x1257 m (w64 (x1587 + 1)) x1603)
 else
 some x1603)
def c_commit_l1 (N : Nat) (x1 : TK) : Nat → Int → Option (Int)
 | 0,_ => none
 | m + 1,x1257 =>
 (if (decide (x1257 > x1.n.Commit)) = true then
 joinP (fun (v1544 : Unit) =>
 c_commit_l1 N x1 m (w64 (x1257 - 1))) fun j1544 =>
 joinP (fun (v1584 : (List Int)) =>
 (i_LogTerm N x1.n.Log x1257).bind fun y1628 =>
 (if (y1628 == x1.n.Term) = true then
 (i_ConfOf N x1.n).bind fun y1630 =>
 (i_Most N y1630 v1584).bind fun y1631 =>
 (if y1631 = true then
 some x1257
 else
 j1544 ())
 else
 j1544 ())) fun j1584 =>
 (c_commit_l2 N x1 x1257 N 0 ([x1.n.Id] : List Int)).bind (fun v1613 => j1584 v1613)
 else
 some x1.n.Commit)
def c_commit (N : Nat) (x1 : TK) : Option (TK) :=
 joinP (fun (v1252 : Int) =>
 (if (x1.n.Role == 2) = true then
 (i_ConfOf N (Node.mk x1.n.Id x1.n.Term x1.n.Vote x1.n.Role x1.n.Lead x1.n.Conf x1.n.Log v1252 x1.n.Clock x1.n.Limit x1.n.Votes x1.n.Peers)).bind fun y1639 =>
 (L_Contains_int N y1639 x1.n.Id).bind fun y1640 =>
 (if (!y1640) = true then
 (i_lastConf N x1.n.Log).bind fun y1642 =>
 (if (decide (y1642 ≤ v1252)) = true then
 some (TK.mk (Node.mk x1.n.Id x1.n.Term x1.n.Vote 0 0 x1.n.Conf x1.n.Log v1252 x1.n.Clock x1.n.Limit x1.n.Votes ([])) x1.out)
 else
 some (TK.mk (Node.mk x1.n.Id x1.n.Term x1.n.Vote x1.n.Role x1.n.Lead x1.n.Conf x1.n.Log v1252 x1.n.Clock x1.n.Limit x1.n.Votes x1.n.Peers) x1.out))
 else
 some (TK.mk (Node.mk x1.n.Id x1.n.Term x1.n.Vote x1.n.Role x1.n.Lead x1.n.Conf x1.n.Log v1252 x1.n.Clock x1.n.Limit x1.n.Votes x1.n.Peers) x1.out))
 else
 some (TK.mk (Node.mk x1.n.Id x1.n.Term x1.n.Vote x1.n.Role x1.n.Lead x1.n.Conf x1.n.Log v1252 x1.n.Clock x1.n.Limit x1.n.Votes x1.n.Peers) x1.out))) fun j1252 =>
 (i_last N x1.n.Log).bind fun y1256 =>
 (c_commit_l1 N x1 N y1256).bind (fun v1452 => j1252 v1452)
theorem sem_c_commit (N : Nat) (x1 : TK) (r : TK) (h : c_commit N x1 = some r) : Says Tryz.prog 88 [.ptr 0 0] 6 [(0,.box [VI x1.n.Id,VI x1.n.Term,VI x1.n.Vote,VI x1.n.Role,VI x1.n.Lead,.sl 1 3 0 x1.n.Conf.length,VI x1.n.Log.Start,VI x1.n.Log.StartTerm,.sl 2 40 0 x1.n.Log.Entries.length,VI x1.n.Commit,VI x1.n.Clock,VI x1.n.Limit,.sl 3 3 0 x1.n.Votes.length,.sl 4 98 0 x1.n.Peers.length,.sl 5 32 0 x1.out.length]),(1,.vec 3 (x1.n.Conf.map encI)),(2,.vec 40 (x1.n.Log.Entries.map eE)),(3,.vec 3 (x1.n.Votes.map encI)),(4,.vec 98 (x1.n.Peers.map eP)),(5,.vec 32 (x1.out.map (eM false)))] (.tup []) [(0,.box [VI r.n.Id,VI r.n.Term,VI r.n.Vote,VI r.n.Role,VI r.n.Lead,.sl 6 3 0 r.n.Conf.length,VI r.n.Log.Start,VI r.n.Log.StartTerm,.sl 7 40 0 r.n.Log.Entries.length,VI r.n.Commit,VI r.n.Clock,VI r.n.Limit,.sl 8 3 0 r.n.Votes.length,.sl 9 98 0 r.n.Peers.length,.sl 10 32 0 r.out.length]),(1,.gone),(2,.gone),(3,.gone),(4,.gone),(5,.gone),(6,.vec 3 (r.n.Conf.map encI)),(7,.vec 40 (r.n.Log.Entries.map eE)),(8,.vec 3 (r.n.Votes.map encI)),(9,.vec 98 (r.n.Peers.map eP)),(10,.vec 32 (r.out.map (eM false)))] := by
 unfold c_commit at h
 refine Says.of_norm e Tryz.call88 e fun B hB => ?_
 have hm : B.m ≤ 1000 := by omega
 refine Run.so hm (.p3 e e e (.p e (.nil (.seqO h (fun v1252 => [(2,.ptr 0 0)]) (fun (v1252 : Int) => [(0,.box [VI x1.n.Id,VI x1.n.Term,VI x1.n.Vote,VI x1.n.Role,VI x1.n.Lead,.sl 1 3 0 x1.n.Conf.length,VI x1.n.Log.Start,VI x1.n.Log.StartTerm,.sl 2 40 0 x1.n.Log.Entries.length,VI v1252,VI x1.n.Clock,VI x1.n.Limit,.sl 3 3 0 x1.n.Votes.length,.sl 4 98 0 x1.n.Peers.length,.sl 5 32 0 x1.out.length]),(1,.vec 3 (x1.n.Conf.map encI)),(2,.vec 40 (x1.n.Log.Entries.map eE)),(3,.vec 3 (x1.n.Votes.map encI)),(4,.vec 98 (x1.n.Peers.map eP)),(5,.vec 32 (x1.out.map (eM false)))]) (fun h => ?_) (fun v1252 h => ?_)))))
 ·refine Run.so hm (.p3 e e e (.p e ?_))
  obtain ⟨y1256,hy1256,h⟩ := bindO h
  refine Ops.z 5160 (Ev.call [] [2] 0 (sem_i_last _ _ _ hy1256) e e (.cons (.agg (.d2 (.cons (.borrow e (by decide) (lendW (fun _ => e) _ e)) .nil))) .nil) e (.inr ⟨e,ownL_root trivial⟩) e e) e e ?_
  refine Ops.p e (.nil (.block ?_))
  obtain ⟨res1452,h,hk1452⟩ := bindO h
  refine Run.loop (n := N) (fun m1452 fr σ => ∃ (x1257 : Int),c_commit_l1 N x1 m1452 x1257 = some res1452 ∧ fr = [(2,.ptr 0 0),(3,VI x1257)] ∧ σ = [(0,.box [VI x1.n.Id,VI x1.n.Term,VI x1.n.Vote,VI x1.n.Role,VI x1.n.Lead,.sl 1 3 0 x1.n.Conf.length,VI x1.n.Log.Start,VI x1.n.Log.StartTerm,.sl 2 40 0 x1.n.Log.Entries.length,VI x1.n.Commit,VI x1.n.Clock,VI x1.n.Limit,.sl 3 3 0 x1.n.Votes.length,.sl 4 98 0 x1.n.Peers.length,.sl 5 32 0 x1.out.length]),(1,.vec 3 (x1.n.Conf.map encI)),(2,.vec 40 (x1.n.Log.Entries.map eE)),(3,.vec 3 (x1.n.Votes.map encI)),(4,.vec 98 (x1.n.Peers.map eP)),(5,.vec 32 (x1.out.map (eM false)))]) (gh_pk [2,3] [0,1,2,3,4,5] hB e e e e) ⟨_,h,e,e⟩ ?_
  rintro m1452 fr σ ⟨x1257,h,rfl,rfl⟩
  obtain _ | m1452 := m1452
  ·rw [c_commit_l1] at h; cases h
  rw [c_commit_l1] at h
  refine Run.seq (.so hm (.p3 e e e (.p3 e e e (.nil (.condO e h (fun g1455 h => ?_) (fun g1455 h => ?_))))))
  ·refine Run.skip (.seqO h (fun v1544 => [(2,.ptr 0 0),(3,VI x1257)]) (fun (v1544 : Unit) => [(0,.box [VI x1.n.Id,VI x1.n.Term,VI x1.n.Vote,VI x1.n.Role,VI x1.n.Lead,.sl 1 3 0 x1.n.Conf.length,VI x1.n.Log.Start,VI x1.n.Log.StartTerm,.sl 2 40 0 x1.n.Log.Entries.length,VI x1.n.Commit,VI x1.n.Clock,VI x1.n.Limit,.sl 3 3 0 x1.n.Votes.length,.sl 4 98 0 x1.n.Peers.length,.sl 5 32 0 x1.out.length]),(1,.vec 3 (x1.n.Conf.map encI)),(2,.vec 40 (x1.n.Log.Entries.map eE)),(3,.vec 3 (x1.n.Votes.map encI)),(4,.vec 98 (x1.n.Peers.map eP)),(5,.vec 32 (x1.out.map (eM false)))]) (fun h => ?_) (fun v1544 h => ?_))
   ·refine Run.block (.so hm (.p3 e e e (.p e (.z 17448 (Ev.bsW (ys := ([x1.n.Id] : List Int)) (f := encI) e (.d1 .nil) e e e e e) e e (.p e (.nil (.seqO h (fun v1584 => [(2,.ptr 0 0),(3,VI x1257),(4,.sl 6 3 0 v1584.length)]) (fun (v1584 : (List Int)) => [(0,.box [VI x1.n.Id,VI x1.n.Term,VI x1.n.Vote,VI x1.n.Role,VI x1.n.Lead,.sl 1 3 0 x1.n.Conf.length,VI x1.n.Log.Start,VI x1.n.Log.StartTerm,.sl 2 40 0 x1.n.Log.Entries.length,VI x1.n.Commit,VI x1.n.Clock,VI x1.n.Limit,.sl 3 3 0 x1.n.Votes.length,.sl 4 98 0 x1.n.Peers.length,.sl 5 32 0 x1.out.length]),(1,.vec 3 (x1.n.Conf.map encI)),(2,.vec 40 (x1.n.Log.Entries.map eE)),(3,.vec 3 (x1.n.Votes.map encI)),(4,.vec 98 (x1.n.Peers.map eP)),(5,.vec 32 (x1.out.map (eM false))),(6,.vec 3 (v1584.map encI))]) (fun h => ?_) (fun v1584 h => ?_))))))))
    ·refine Run.so hm (.p3 e e e (.p3 e e e (.nil (.block ?_))))
     obtain ⟨res1613,h,hk1613⟩ := bindO h
     refine Run.loop (n := N) (fun m1613 fr σ => ∃ (x1587 : Int),∃ (x1603 : (List Int)),c_commit_l2 N x1 x1257 m1613 x1587 x1603 = some res1613 ∧ fr = [(2,.ptr 0 0),(3,VI x1257),(4,.sl 6 3 0 x1603.length),(31,.sl 4 98 0 x1.n.Peers.length),(32,VI ((x1.n.Peers.length : Nat) : Int)),(33,VI x1587)] ∧ σ = [(0,.box [VI x1.n.Id,VI x1.n.Term,VI x1.n.Vote,VI x1.n.Role,VI x1.n.Lead,.sl 1 3 0 x1.n.Conf.length,VI x1.n.Log.Start,VI x1.n.Log.StartTerm,.sl 2 40 0 x1.n.Log.Entries.length,VI x1.n.Commit,VI x1.n.Clock,VI x1.n.Limit,.sl 3 3 0 x1.n.Votes.length,.sl 4 98 0 x1.n.Peers.length,.sl 5 32 0 x1.out.length]),(1,.vec 3 (x1.n.Conf.map encI)),(2,.vec 40 (x1.n.Log.Entries.map eE)),(3,.vec 3 (x1.n.Votes.map encI)),(4,.vec 98 (x1.n.Peers.map eP)),(5,.vec 32 (x1.out.map (eM false))),(6,.vec 3 (x1603.map encI))]) (gh_pk [2,3,4,31,32,33] [0,1,2,3,4,5,17448] hB e e e e) ⟨_,_,h,e,e⟩ ?_
     rintro m1613 fr σ ⟨x1587,x1603,h,rfl,rfl⟩
     obtain _ | m1613 := m1613
     ·rw [c_commit_l2] at h; cases h
     rw [c_commit_l2] at h
     refine Run.so hm (.p e (.nil (.seq (.condO e h (fun g1616 h => ?_) (fun g1616 h => ?_)))))
     ·refine Run.skip (.seq (.block (.so hm ?_)))
      obtain ⟨x1620,hx1620,h⟩ := bindO h
      refine Ops.z 29672 (Ev.iaW e e e hx1620) e e (.z 29688 (Ev.ldE (f := eP) e e (at_some hx1620).2 e e e) e e (.z 29704 (.al e e) e e (.y 29720 (.sto e e e e e e) e e (.nil (.so hm (.p3 e e e (.p e (.nil (.condO e h (fun g1621 h => ?_) (fun g1621 h => ?_))))))))))
      ·refine Run.ops hm (.p3 e e e (.z 37912 (Ev.bsW (ys := ([x1620.Id] : List Int)) (f := encI) e (.d1 .nil) e e e e e) e e ?_))
       obtain ⟨x1623,hx1623,h⟩ := bindO h
       exact Ops.z 37928 (Ev.apW (f := encI) (ontoW e e e) (addsW e e e (fun _ => e)) e bt3 e hx1623) e e (.p e (.nil (.ops hm (.p2 e e (.nil (⟨m1613,Nat.lt_succ_self m1613,_,_,(gh_pk [2,3,4,31,32,33] [0,1,2,3,4,5,37928] hB e e e e),_,_,h,e,e⟩))))))
      ·exact Run.skip (.ops hm (.p2 e e (.nil (⟨m1613,Nat.lt_succ_self m1613,_,_,(gh_pk [2,3,4,31,32,33] [0,1,2,3,4,5,6] hB e e e e),_,_,h,e,e⟩))))
     ·refine Run.exit ?_
      obtain rfl := someO h
      have h := hk1613
      exact ⟨_,_,(gh_pk [2,3,4] [0,1,2,3,4,5,6] hB e e e e),_,h,e,e⟩
    ·refine Run.seq (.draw hm hmix (.p e (.p e (.p e (.p e (.p e ?_))))))
     obtain ⟨y1628,hy1628,h⟩ := bindO h
     refine OpsD.z 46136 (Ev.call [] [2] 0 (sem_i_LogTerm _ _ _ _ hy1628) e e (.cons (.agg (.d2 (.cons (.borrow e (by decide) (lendW (fun _ => e) _ e)) .nil))) (.d1 .nil)) e (.inr ⟨e,ownL_root trivial⟩) e e) e e ?_
     refine OpsD.p e (.p e (.p e (.p e (.p e (.p e (.askO (x := .t 58) e h (fun g1629 h => ?_) (fun g1629 h => ?_)))))))
     ·refine OpsD.gp e g1629 e (.gp e g1629 e (.gp e g1629 e ?_))
      obtain ⟨y1630,hy1630,h⟩ := bindO h
      refine OpsD.gs (s := 46296) e g1629 (Ev.call [] [1,2,3,4] 1 (sem_i_ConfOf _ _ _ hy1630) e e (.cons (.agg (.d4 (.d1 (.cons (.borrow e (by decide) (lendW (fun _ => e) _ e)) (.d2 (.cons (.borrow e (by decide) (lendW (fun _ => e) _ e)) (.d2 (.d1 (.cons (.borrow e (by decide) (lendW (fun _ => e) _ e)) (.cons (.borrow e (by decide) (lendW (fun _ => e) _ e)) .nil)))))))))) .nil) e (.inr ⟨e,ownL_root ⟨own_rows (fun _ => e) _,trivial⟩⟩) e e) e e ?_
      refine OpsD.gp e g1629 e ?_
      obtain ⟨y1631,hy1631,h⟩ := bindO h
      refine OpsD.gs (s := 46328) e g1629 (Ev.call [] [46296,6] 0 (sem_i_Most _ _ _ _ hy1631) e e (.cons (.borrow e (by decide) (lendW (fun _ => e) _ e)) (.cons (.borrow e (by decide) (lendW (fun _ => e) _ e)) .nil)) e (.inr ⟨e,ownL_root trivial⟩) e e) e e ?_
      refine OpsD.z 46344 (.pkT e g1629 e) e e (.nil ⟨by kernel_rfl,?_⟩)
      refine Run.condO e h (fun g1632 h => ?_) (fun g1632 h => ?_)
      ·refine Run.so hm (.p3 e e e (.p e (.y 50216 (.sto e e e e e e) e e (.nil (.exit ?_)))))
       obtain rfl := someO h
       have h := hk1452
       exact ⟨_,_,(gh_pk [2] [0,1,2,3,4,5] hB e e e e),_,h,e,e⟩
      ·exact Run.skip (⟨_,_,(gh_pk [2,3] [0,1,2,3,4,5] hB e e e e),(),h,e,e⟩)
     ·refine OpsD.gn e g1629 (.gn e g1629 (.gn e g1629 (.gn e g1629 (.gn e g1629 (.gn e g1629 (.z 46344 (.pkF e g1629 e) e e (.nil ⟨by kernel_rfl,?_⟩)))))))
      exact Run.condF e e (.skip (⟨_,_,(gh_pk [2,3] [0,1,2,3,4,5] hB e e e e),(),h,e,e⟩))
   ·exact Run.ops hm (.p3 e e e (.nil (⟨m1452,Nat.lt_succ_self m1452,_,_,(gh_pk [2,3] [0,1,2,3,4,5] hB e e e e),_,h,e,e⟩)))
  ·refine Run.exit ?_
   obtain rfl := someO h
   have h := hk1452
   exact ⟨_,_,(gh_pk [2] [0,1,2,3,4,5] hB e e e e),_,h,e,e⟩
 ·refine Run.seq (.draw hm hmix (.p e (.p e (.p e (.p e (.p e (.p e (.askO (x := .t 75) e h (fun g1638 h => ?_) (fun g1638 h => ?_)))))))))
  ·refine OpsD.gp e g1638 e (.gp e g1638 e (.gp e g1638 e ?_))
   obtain ⟨y1639,hy1639,h⟩ := bindO h
   refine OpsD.gs (s := 54392) e g1638 (Ev.call [] [1,2,3,4] 1 (sem_i_ConfOf _ _ _ hy1639) e e (.cons (.agg (.d4 (.d1 (.cons (.borrow e (by decide) (lendW (fun _ => e) _ e)) (.d2 (.cons (.borrow e (by decide) (lendW (fun _ => e) _ e)) (.d2 (.d1 (.cons (.borrow e (by decide) (lendW (fun _ => e) _ e)) (.cons (.borrow e (by decide) (lendW (fun _ => e) _ e)) .nil)))))))))) .nil) e (.inr ⟨e,ownL_root ⟨own_rows (fun _ => e) _,trivial⟩⟩) e e) e e ?_
   refine OpsD.gp e g1638 e (.gp e g1638 e (.gp e g1638 e (.gp e g1638 e ?_)))
   obtain ⟨y1640,hy1640,h⟩ := bindO h
   refine OpsD.gs (s := 54472) e g1638 (Ev.call [] [54392] 0 (sem_L_Contains_int _ _ _ _ hy1640) e e (.cons (.borrow e (by decide) (lendW (fun _ => e) _ e)) (.d1 .nil)) e (.inr ⟨e,ownL_root trivial⟩) e e) e e ?_
   refine OpsD.gp e g1638 e (.z 54504 (.pkT e g1638 e) e e (.p e (.askO (x := .t 87) e h (fun g1641 h => ?_) (fun g1641 h => ?_))))
   ·refine OpsD.gp e g1641 e (.gp e g1641 e (.gp e g1641 e (.gp e g1641 e ?_)))
    obtain ⟨y1642,hy1642,h⟩ := bindO h
    refine OpsD.gs (s := 54600) e g1641 (Ev.call [] [2] 0 (sem_i_lastConf _ _ _ hy1642) e e (.cons (.agg (.d2 (.cons (.borrow e (by decide) (lendW (fun _ => e) _ e)) .nil))) .nil) e (.inr ⟨e,ownL_root trivial⟩) e e) e e ?_
    refine OpsD.gp e g1641 e (.gp e g1641 e (.gp e g1641 e (.gp e g1641 e (.gp e g1641 e (.z 54696 (.pkT e g1641 e) e e (.nil ⟨by kernel_rfl,?_⟩))))))
    refine Run.condO e h (fun g1643 h => ?_) (fun g1643 h => ?_)
    ·refine Run.ops hm (.p3 e e e (.p2 e e (.y 58424 (.sto e e e e e e) e e (.p2 e e (.y 58472 (.sto e e e e e e) e e (.p2 e e (.y 58520 (.sto e e e e e e) e e (.nil ?_))))))))
     obtain rfl := someO h
     exact Ends.mkG (.inr e) e (Gh.trans (Gh.trans (Gh.trans (gh_prn [] [0,1,2,3,4,5] hB e) (gh_mvE [] [1,2,3,4,5] hB e e)) (gh_nil [] [0] hB e e e)) (gh_pk [] [0,1,2,3,4,5,30000001,30000002,30000003,20000000,30000005] hB e e e e)) e e
    ·refine Run.skip ?_
     obtain rfl := someO h
     exact Ends.mkG (.inr e) e (Gh.trans (Gh.trans (gh_prn [] [0,1,2,3,4,5] hB e) (gh_mvE [] [1,2,3,4,5] hB e e)) (gh_pk [] [0,1,2,3,4,5,30000001,30000002,30000003,30000004,30000005] hB e e e e)) e e
   ·refine OpsD.gn e g1641 (.gn e g1641 (.gn e g1641 (.gn e g1641 (.gn e g1641 (.gn e g1641 (.gn e g1641 (.gn e g1641 (.gn e g1641 (.gn e g1641 (.z 54696 (.pkF e g1641 e) e e (.nil ⟨by kernel_rfl,?_⟩)))))))))))
    refine Run.condF e e (.skip ?_)
    obtain rfl := someO h
    exact Ends.mkG (.inr e) e (Gh.trans (Gh.trans (gh_prn [] [0,1,2,3,4,5] hB e) (gh_mvE [] [1,2,3,4,5] hB e e)) (gh_pk [] [0,1,2,3,4,5,30000001,30000002,30000003,30000004,30000005] hB e e e e)) e e
  ·refine OpsD.gn e g1638 (.gn e g1638 (.gn e g1638 (.gn e g1638 (.gn e g1638 (.gn e g1638 (.gn e g1638 (.gn e g1638 (.gn e g1638 (.gn e g1638 (.z 54504 (.pkF e g1638 e) e e (.p e (.gn e e (.gn e e (.gn e e (.gn e e (.gn e e (.gn e e (.gn e e (.gn e e (.gn e e (.gn e e (.z 54696 (.pkF e e e) e e (.nil ⟨by kernel_rfl,?_⟩)))))))))))))))))))))))
   refine Run.condF e e (.skip ?_)
   obtain rfl := someO h
   exact Ends.mkG (.inr e) e (Gh.trans (Gh.trans (gh_prn [] [0,1,2,3,4,5] hB e) (gh_mvE [] [1,2,3,4,5] hB e e)) (gh_pk [] [0,1,2,3,4,5,30000001,30000002,30000003,30000004,30000005] hB e e e e)) e e
def c_tell_i1 (N : Nat) (x1 : TK) (x2 : Message) : Option (TK × (List Entry)) :=
 (cat? x1.out ([(Message.mk x2.Kind x1.n.Id x2.To x1.n.Term x2.Index x2.LogTerm x2.Commit x2.Ok x2.Entries ([]) x2.Data x2.Last)] : List Message)).bind fun x103 =>
 some ((TK.mk x1.n x103),x2.Entries)
theorem sem_c_tell_i1 (N : Nat) (x1 : TK) (x2 : Message) (r : TK × (List Entry)) (h : c_tell_i1 N x1 x2 = some r) : Says Tryz.prog 49 [.ptr 0 0,.agg [VI x2.Kind,VI x2.From,VI x2.To,VI x2.Term,VI x2.Index,VI x2.LogTerm,VI x2.Commit,VB x2.Ok,.sl 1 40 0 x2.Entries.length,NI 3,VS x2.Data,VB x2.Last]] 7 [(0,.box [VI x1.n.Id,VI x1.n.Term,VI x1.n.Vote,VI x1.n.Role,VI x1.n.Lead,.sl 2 3 0 x1.n.Conf.length,VI x1.n.Log.Start,VI x1.n.Log.StartTerm,.sl 3 40 0 x1.n.Log.Entries.length,VI x1.n.Commit,VI x1.n.Clock,VI x1.n.Limit,.sl 4 3 0 x1.n.Votes.length,.sl 5 98 0 x1.n.Peers.length,.sl 6 32 0 x1.out.length]),(1,.vec 40 (x2.Entries.map eE)),(2,.vec 3 (x1.n.Conf.map encI)),(3,.vec 40 (x1.n.Log.Entries.map eE)),(4,.vec 3 (x1.n.Votes.map encI)),(5,.vec 98 (x1.n.Peers.map eP)),(6,.vec 32 (x1.out.map (eM false)))] (.tup []) [(0,.box [VI r.1.n.Id,VI r.1.n.Term,VI r.1.n.Vote,VI r.1.n.Role,VI r.1.n.Lead,.sl 2 3 0 x1.n.Conf.length,VI r.1.n.Log.Start,VI r.1.n.Log.StartTerm,.sl 3 40 0 x1.n.Log.Entries.length,VI r.1.n.Commit,VI r.1.n.Clock,VI r.1.n.Limit,.sl 4 3 0 x1.n.Votes.length,.sl 5 98 0 x1.n.Peers.length,.sl 7 32 0 r.1.out.length]),(1,.ro 40 (r.2.map eE)),(2,.vec 3 (x1.n.Conf.map encI)),(3,.vec 40 (x1.n.Log.Entries.map eE)),(4,.vec 3 (x1.n.Votes.map encI)),(5,.vec 98 (x1.n.Peers.map eP)),(6,.gone),(7,.vec 32 (r.1.out.map (eM false)))] := by
 unfold c_tell_i1 at h
 refine Says.of_norm e Tryz.call49 e fun B hB => ?_
 have hm : B.m ≤ 1000 := by omega
 refine Run.so hm (.z 1000 (.bx e e) e e (.nil (.seq (.draw hm hmix (.p e (.p e (.p e (.p e (.p e (.p e (.p e (.p e (.p e (.p e (.p e (.y 5272 (.sto e e e e e e) e e (.p e (.y 5304 (.sto e e e e e e) e e (.nil ⟨by kernel_rfl,?_⟩)))))))))))))))))))
 refine Run.draw hm hmix (.p e (.p e (.p e (.p e (.p e (.p e (.stz (s := 9288) (EvZ.frz (f := eE) (g := eE) (xs := x2.Entries) 1 (fun _ => e) e (.mk (Ev.bsW (ys := ([(Message.mk x2.Kind x1.n.Id x2.To x1.n.Term x2.Index x2.LogTerm x2.Commit x2.Ok x2.Entries ([]) x2.Data x2.Last)] : List Message)) (f := (eM false)) e (.d4 (.d4 (.cons (.ro e (shareW _ e)) (.cons (.nilro _ _) (.d2 .nil))))) e e e e e))) e e ?_)))))))
 obtain ⟨x103,hx103,h⟩ := bindO h
 refine OpsD.z 9304 (Ev.apW (f := (eM false)) (ontoW e e e) (addsW e e e (fun _ => e)) e bt32 e hx103) e e (.p e (.p e (.y 9352 (.sto e e e e e e) e e (.nil ⟨by kernel_rfl,?_⟩))))
 obtain rfl := someO h
 exact Ends.mkG (.inr e) e (gh_pk [] [0,1,2,3,4,5,6,9304] hB e e e e) e e
def c_tell_i2 (N : Nat) (x1 : TK) (x2 : Message) : Option (TK × (List Int)) :=
 (cat? x1.out ([(Message.mk x2.Kind x1.n.Id x2.To x1.n.Term x2.Index x2.LogTerm x2.Commit x2.Ok ([]) x2.Conf x2.Data x2.Last)] : List Message)).bind fun x103 =>
 some ((TK.mk x1.n x103),x2.Conf)
theorem sem_c_tell_i2 (N : Nat) (x1 : TK) (x2 : Message) (r : TK × (List Int)) (h : c_tell_i2 N x1 x2 = some r) : Says Tryz.prog 49 [.ptr 0 0,.agg [VI x2.Kind,VI x2.From,VI x2.To,VI x2.Term,VI x2.Index,VI x2.LogTerm,VI x2.Commit,VB x2.Ok,NI 40,.sl 1 3 0 x2.Conf.length,VS x2.Data,VB x2.Last]] 7 [(0,.box [VI x1.n.Id,VI x1.n.Term,VI x1.n.Vote,VI x1.n.Role,VI x1.n.Lead,.sl 2 3 0 x1.n.Conf.length,VI x1.n.Log.Start,VI x1.n.Log.StartTerm,.sl 3 40 0 x1.n.Log.Entries.length,VI x1.n.Commit,VI x1.n.Clock,VI x1.n.Limit,.sl 4 3 0 x1.n.Votes.length,.sl 5 98 0 x1.n.Peers.length,.sl 6 32 0 x1.out.length]),(1,.vec 3 (x2.Conf.map encI)),(2,.vec 3 (x1.n.Conf.map encI)),(3,.vec 40 (x1.n.Log.Entries.map eE)),(4,.vec 3 (x1.n.Votes.map encI)),(5,.vec 98 (x1.n.Peers.map eP)),(6,.vec 32 (x1.out.map (eM false)))] (.tup []) [(0,.box [VI r.1.n.Id,VI r.1.n.Term,VI r.1.n.Vote,VI r.1.n.Role,VI r.1.n.Lead,.sl 2 3 0 x1.n.Conf.length,VI r.1.n.Log.Start,VI r.1.n.Log.StartTerm,.sl 3 40 0 x1.n.Log.Entries.length,VI r.1.n.Commit,VI r.1.n.Clock,VI r.1.n.Limit,.sl 4 3 0 x1.n.Votes.length,.sl 5 98 0 x1.n.Peers.length,.sl 7 32 0 r.1.out.length]),(1,.ro 3 (r.2.map encI)),(2,.vec 3 (x1.n.Conf.map encI)),(3,.vec 40 (x1.n.Log.Entries.map eE)),(4,.vec 3 (x1.n.Votes.map encI)),(5,.vec 98 (x1.n.Peers.map eP)),(6,.gone),(7,.vec 32 (r.1.out.map (eM false)))] := by
 unfold c_tell_i2 at h
 refine Says.of_norm e Tryz.call49 e fun B hB => ?_
 have hm : B.m ≤ 1000 := by omega
 refine Run.so hm (.z 1000 (.bx e e) e e (.nil (.seq (.draw hm hmix (.p e (.p e (.p e (.p e (.p e (.p e (.p e (.p e (.p e (.p e (.p e (.y 5272 (.sto e e e e e e) e e (.p e (.y 5304 (.sto e e e e e e) e e (.nil ⟨by kernel_rfl,?_⟩)))))))))))))))))))
 refine Run.draw hm hmix (.p e (.p e (.p e (.p e (.p e (.p e (.stz (s := 9288) (EvZ.frz (f := encI) (g := encI) (xs := x2.Conf) 1 (fun _ => e) e (.mk (Ev.bsW (ys := ([(Message.mk x2.Kind x1.n.Id x2.To x1.n.Term x2.Index x2.LogTerm x2.Commit x2.Ok ([]) x2.Conf x2.Data x2.Last)] : List Message)) (f := (eM false)) e (.d4 (.d4 (.cons (.nilro _ _) (.cons (.ro e (shareW _ e)) (.d2 .nil))))) e e e e e))) e e ?_)))))))
 obtain ⟨x103,hx103,h⟩ := bindO h
 refine OpsD.z 9304 (Ev.apW (f := (eM false)) (ontoW e e e) (addsW e e e (fun _ => e)) e bt32 e hx103) e e (.p e (.p e (.y 9352 (.sto e e e e e e) e e (.nil ⟨by kernel_rfl,?_⟩))))
 obtain rfl := someO h
 exact Ends.mkG (.inr e) e (gh_pk [] [0,1,2,3,4,5,6,9304] hB e e e e) e e
def c_send (N : Nat) (x1 : TK) (x2 : Int) : Option (TK) :=
 (at? x1.n.Peers x2).bind fun x137 =>
 (if (decide (x137.Next > x1.n.Log.Start)) = true then
 (cut? x1.n.Log.Entries (w64 ((w64 (x137.Next - x1.n.Log.Start)) - 1)) (imin ((x1.n.Log.Entries.length : Nat) : Int) (w64 ((w64 ((w64 (x137.Next - x1.n.Log.Start)) - 1)) + 4)))).bind fun x158 =>
 (cat? ([] : List Entry) ((x1.n.Log.Entries.drop ((w64 ((w64 (x137.Next - x1.n.Log.Start)) - 1)).toNat)).take ((imin ((x1.n.Log.Entries.length : Nat) : Int) (w64 ((w64 ((w64 (x137.Next - x1.n.Log.Start)) - 1)) + 4))).toNat - (w64 ((w64 (x137.Next - x1.n.Log.Start)) - 1)).toNat))).bind fun x159 =>
 (i_LogTerm N x1.n.Log (w64 (x137.Next - 1))).bind fun y162 =>
 (c_tell_i1 N x1 (Message.mk 3 0 x137.Id 0 (w64 (x137.Next - 1)) y162 x1.n.Commit false x159 ([]) (⟨#[]⟩ : ByteArray) false)).bind fun y163 =>
 some (TK.mk (Node.mk y163.1.n.Id y163.1.n.Term y163.1.n.Vote y163.1.n.Role y163.1.n.Lead x1.n.Conf (Log.mk y163.1.n.Log.Start y163.1.n.Log.StartTerm x1.n.Log.Entries) y163.1.n.Commit y163.1.n.Clock y163.1.n.Limit x1.n.Votes x1.n.Peers) y163.1.out)
 else
 (cat? ([] : List Int) x1.n.Conf).bind fun x166 =>
 (c_tell_i2 N x1 (Message.mk 5 0 x137.Id 0 x1.n.Log.Start x1.n.Log.StartTerm x137.Sent false ([]) x166 (⟨#[]⟩ : ByteArray) false)).bind fun y167 =>
 some (TK.mk (Node.mk y167.1.n.Id y167.1.n.Term y167.1.n.Vote y167.1.n.Role y167.1.n.Lead x1.n.Conf (Log.mk y167.1.n.Log.Start y167.1.n.Log.StartTerm x1.n.Log.Entries) y167.1.n.Commit y167.1.n.Clock y167.1.n.Limit x1.n.Votes x1.n.Peers) y167.1.out))
theorem sem_c_send (N : Nat) (x1 : TK) (x2 : Int) (r : TK) (h : c_send N x1 x2 = some r) : Says Tryz.prog 68 [.ptr 0 0,VI x2] 6 [(0,.box [VI x1.n.Id,VI x1.n.Term,VI x1.n.Vote,VI x1.n.Role,VI x1.n.Lead,.sl 1 3 0 x1.n.Conf.length,VI x1.n.Log.Start,VI x1.n.Log.StartTerm,.sl 2 40 0 x1.n.Log.Entries.length,VI x1.n.Commit,VI x1.n.Clock,VI x1.n.Limit,.sl 3 3 0 x1.n.Votes.length,.sl 4 98 0 x1.n.Peers.length,.sl 5 32 0 x1.out.length]),(1,.vec 3 (x1.n.Conf.map encI)),(2,.vec 40 (x1.n.Log.Entries.map eE)),(3,.vec 3 (x1.n.Votes.map encI)),(4,.vec 98 (x1.n.Peers.map eP)),(5,.vec 32 (x1.out.map (eM false)))] (.tup []) [(0,.box [VI r.n.Id,VI r.n.Term,VI r.n.Vote,VI r.n.Role,VI r.n.Lead,.sl 1 3 0 x1.n.Conf.length,VI r.n.Log.Start,VI r.n.Log.StartTerm,.sl 2 40 0 x1.n.Log.Entries.length,VI r.n.Commit,VI r.n.Clock,VI r.n.Limit,.sl 3 3 0 x1.n.Votes.length,.sl 4 98 0 x1.n.Peers.length,.sl 6 32 0 r.out.length]),(1,.vec 3 (x1.n.Conf.map encI)),(2,.vec 40 (x1.n.Log.Entries.map eE)),(3,.vec 3 (x1.n.Votes.map encI)),(4,.vec 98 (x1.n.Peers.map eP)),(5,.gone),(6,.vec 32 (r.out.map (eM false)))] := by
 unfold c_send at h
 refine Says.of_norm e Tryz.call68 e fun B hB => ?_
 have hm : B.m ≤ 1000 := by omega
 refine Run.so hm (.p3 e e e (.p3 e e e ?_))
 obtain ⟨x137,hx137,h⟩ := bindO h
 refine Ops.z 1096 (Ev.iaW e e e hx137) e e (.p e (.nil (.so hm (.p3 e e e (.p2 e e (.z 5176 (.al e e) e e (.y 5192 (.sto e e e e e e) e e (.nil (.seq (.seq (.draw hm hmix (.p e (.p e (.p e (.z 9240 (Ev.ldE (f := eP) e e (at_some hx137).2 e e e) e e (.p e (.p e (.p e (.nil ⟨by kernel_rfl,?_⟩)))))))))))))))))))
 refine Run.condO e h (fun g151 h => ?_) (fun g151 h => ?_)
 ·refine Run.seq (.draw hm hmix (.p e (.p e (.p e (.z 13336 (Ev.ldE (f := eP) e e (at_some hx137).2 e e e) e e (.p e (.p e (.p e (.p e (.p e (.nil ⟨by kernel_rfl,?_⟩)))))))))))
  refine Run.so hm (.p3 e e e (.p3 e e e (.p3 e e e ?_)))
  obtain ⟨x158,hx158,h⟩ := bindO h
  refine Ops.z 17528 (Ev.slW (xs := x1.n.Log.Entries) e e e e hx158) e e ?_
  obtain ⟨x159,hx159,h⟩ := bindO h
  refine Ops.z 17544 (Ev.apW (f := eE) (ontoN (f := eE) e) (addsP e e (fun _ => e)) e bt40 e hx159) e e (.p e (.nil (.seq (.draw hm hmix (.p e (.p e (.p e (.p e (.z 21544 (Ev.ldE (f := eP) e e (at_some hx137).2 e e e) e e (.p e (.p e (.p e (.z 21608 (Ev.ldE (f := eP) e e (at_some hx137).2 e e e) e e (.p e (.p e (.p e (.p e (.p e (.z 21704 (Ev.ldE (f := eP) e e (at_some hx137).2 e e e) e e (.p e ?_))))))))))))))))))))
  obtain ⟨y162,hy162,h⟩ := bindO h
  refine OpsD.z 21736 (Ev.call [] [2] 0 (sem_i_LogTerm _ _ _ _ hy162) e e (.cons (.agg (.d2 (.cons (.borrow e (by decide) (lendW (fun _ => e) _ e)) .nil))) (.d1 .nil)) e (.inr ⟨e,ownL_root trivial⟩) e e) e e ?_
  refine OpsD.p e (.p e (.p e (.p e (.p e (.p e (.z 21848 (.bd e e) e e ?_))))))
  obtain ⟨y163,hy163,h⟩ := bindO h
  refine OpsD.z 21864 (Ev.call [0,17544,1,2,3,4,5] [] 1 (sem_c_tell_i1 _ _ _ _ hy163) e e (.cons (.ptr e) (.cons (.agg (.d4 (.d4 (.cons (.sl e) (.d2 (.d1 .nil)))))) .nil)) e (.inl e) e e) e e (.nil ⟨by kernel_rfl,?_⟩)
  refine Run.ret ?_
  obtain rfl := someO h
  exact Ends.mkG (.inl e) e (gh_pk [] [0,1,2,3,4,5,21864] hB e e e e) e e
 ·refine Run.skip (.draw hm hmix (.p e (.p e (.p e (.p e (.z 25640 (Ev.ldE (f := eP) e e (at_some hx137).2 e e e) e e (.p e (.p e (.p e (.p e (.p e (.p e (.p e (.z 25768 (Ev.ldE (f := eP) e e (at_some hx137).2 e e e) e e (.p e (.p e (.p e (.p e (.p e ?_)))))))))))))))))))
  obtain ⟨x166,hx166,h⟩ := bindO h
  refine OpsD.z 25864 (Ev.apW (f := encI) (ontoN (f := encI) e) (addsW e e e (fun _ => e)) e bt3 e hx166) e e (.z 25880 (.bd e e) e e ?_)
  obtain ⟨y167,hy167,h⟩ := bindO h
  refine OpsD.z 25896 (Ev.call [0,25864,1,2,3,4,5] [] 1 (sem_c_tell_i2 _ _ _ _ hy167) e e (.cons (.ptr e) (.cons (.agg (.d4 (.d4 (.d1 (.cons (.sl e) (.d2 .nil)))))) .nil)) e (.inl e) e e) e e (.nil ⟨by kernel_rfl,?_⟩)
  obtain rfl := someO h
  exact Ends.mkG (.inr e) e (gh_pk [] [0,1,2,3,4,5,25896] hB e e e e) e e
def c_sendAll_l1 (N : Nat) (x1 : TK) : Nat → Int → Int → Int → Int → Int → Int → Int → Int → Int → Int → Int → (List Message) → Option (Int × Int × Int × Int × Int × Int × Int × Int × Int × Int × (List Message))
 | 0,_,_,_,_,_,_,_,_,_,_,_,_ => none
 | m + 1,x170,x171,x172,x173,x174,x175,x176,x177,x178,x179,x180,x185 =>
 (if (decide (x170 < ((x1.n.Peers.length : Nat) : Int))) = true then
 (c_send N (TK.mk (Node.mk x171 x172 x173 x174 x175 x1.n.Conf (Log.mk x176 x177 x1.n.Log.Entries) x178 x179 x180 x1.n.Votes x1.n.Peers) x185) x170).bind fun y195 =>
 c_sendAll_l1 N x1 m (w64 (x170 + 1)) y195.n.Id y195.n.Term y195.n.Vote y195.n.Role y195.n.Lead y195.n.Log.Start y195.n.Log.StartTerm y195.n.Commit y195.n.Clock y195.n.Limit y195.out
 else
 some (x171,x172,x173,x174,x175,x176,x177,x178,x179,x180,x185))
def c_sendAll (N : Nat) (x1 : TK) : Option (TK) :=
 (c_sendAll_l1 N x1 N 0 x1.n.Id x1.n.Term x1.n.Vote x1.n.Role x1.n.Lead x1.n.Log.Start x1.n.Log.StartTerm x1.n.Commit x1.n.Clock x1.n.Limit x1.out).bind (fun v190 => some (TK.mk (Node.mk v190.1 v190.2.1 v190.2.2.1 v190.2.2.2.1 v190.2.2.2.2.1 x1.n.Conf (Log.mk v190.2.2.2.2.2.1 v190.2.2.2.2.2.2.1 x1.n.Log.Entries) v190.2.2.2.2.2.2.2.1 v190.2.2.2.2.2.2.2.2.1 v190.2.2.2.2.2.2.2.2.2.1 x1.n.Votes x1.n.Peers) v190.2.2.2.2.2.2.2.2.2.2))
theorem sem_c_sendAll (N : Nat) (x1 : TK) (r : TK) (h : c_sendAll N x1 = some r) : Says Tryz.prog 43 [.ptr 0 0] 6 [(0,.box [VI x1.n.Id,VI x1.n.Term,VI x1.n.Vote,VI x1.n.Role,VI x1.n.Lead,.sl 1 3 0 x1.n.Conf.length,VI x1.n.Log.Start,VI x1.n.Log.StartTerm,.sl 2 40 0 x1.n.Log.Entries.length,VI x1.n.Commit,VI x1.n.Clock,VI x1.n.Limit,.sl 3 3 0 x1.n.Votes.length,.sl 4 98 0 x1.n.Peers.length,.sl 5 32 0 x1.out.length]),(1,.vec 3 (x1.n.Conf.map encI)),(2,.vec 40 (x1.n.Log.Entries.map eE)),(3,.vec 3 (x1.n.Votes.map encI)),(4,.vec 98 (x1.n.Peers.map eP)),(5,.vec 32 (x1.out.map (eM false)))] (.tup []) [(0,.box [VI r.n.Id,VI r.n.Term,VI r.n.Vote,VI r.n.Role,VI r.n.Lead,.sl 6 3 0 r.n.Conf.length,VI r.n.Log.Start,VI r.n.Log.StartTerm,.sl 7 40 0 r.n.Log.Entries.length,VI r.n.Commit,VI r.n.Clock,VI r.n.Limit,.sl 8 3 0 r.n.Votes.length,.sl 9 98 0 r.n.Peers.length,.sl 10 32 0 r.out.length]),(1,.gone),(2,.gone),(3,.gone),(4,.gone),(5,.gone),(6,.vec 3 (r.n.Conf.map encI)),(7,.vec 40 (r.n.Log.Entries.map eE)),(8,.vec 3 (r.n.Votes.map encI)),(9,.vec 98 (r.n.Peers.map eP)),(10,.vec 32 (r.out.map (eM false)))] := by
 unfold c_sendAll at h
 refine Says.of_norm e Tryz.call43 e fun B hB => ?_
 have hm : B.m ≤ 1000 := by omega
 refine Run.so hm (.p3 e e e (.p3 e e e (.p e (.nil (.block ?_)))))
 obtain ⟨res190,h,hk190⟩ := bindO h
 refine Run.loop (n := N) (fun m190 fr σ => ∃ (x170 : Int),∃ (x171 : Int),∃ (x172 : Int),∃ (x173 : Int),∃ (x174 : Int),∃ (x175 : Int),∃ (x176 : Int),∃ (x177 : Int),∃ (x178 : Int),∃ (x179 : Int),∃ (x180 : Int),∃ (x185 : (List Message)),c_sendAll_l1 N x1 m190 x170 x171 x172 x173 x174 x175 x176 x177 x178 x179 x180 x185 = some res190 ∧ fr = [(0,.ptr 0 0),(8,VI ((x1.n.Peers.length : Nat) : Int)),(9,VI x170)] ∧ σ = [(0,.box [VI x171,VI x172,VI x173,VI x174,VI x175,.sl 6 3 0 x1.n.Conf.length,VI x176,VI x177,.sl 7 40 0 x1.n.Log.Entries.length,VI x178,VI x179,VI x180,.sl 8 3 0 x1.n.Votes.length,.sl 9 98 0 x1.n.Peers.length,.sl 10 32 0 x185.length]),(1,.gone),(2,.gone),(3,.gone),(4,.gone),(5,.gone),(6,.vec 3 (x1.n.Conf.map encI)),(7,.vec 40 (x1.n.Log.Entries.map eE)),(8,.vec 3 (x1.n.Votes.map encI)),(9,.vec 98 (x1.n.Peers.map eP)),(10,.vec 32 (x185.map (eM false)))]) (Gh.trans (Gh.trans (gh_prn [0,8,9] [0,1,2,3,4,5] hB e) (gh_mvE [0,8,9] [1,2,3,4,5] hB e e)) (gh_pk [0,8,9] [0,1,2,3,4,5,30000001,30000002,30000003,30000004,30000005] hB e e e e)) ⟨_,_,_,_,_,_,_,_,_,_,_,_,h,e,e⟩ ?_
 rintro m190 fr σ ⟨x170,x171,x172,x173,x174,x175,x176,x177,x178,x179,x180,x185,h,rfl,rfl⟩
 obtain _ | m190 := m190
 ·rw [c_sendAll_l1] at h; cases h
 rw [c_sendAll_l1] at h
 refine Run.so hm (.p e (.nil (.seq (.condO e h (fun g193 h => ?_) (fun g193 h => ?_)))))
 ·refine Run.skip (.seq (.block (.so hm (.p2 e e (.nil (.ops hm (.p2 e e ?_)))))))
  obtain ⟨y195,hy195,h⟩ := bindO h
  exact Ops.z 13320 (Ev.call [0,6,7,8,9,10] [] 1 (sem_c_send _ _ _ _ hy195) e e (.cons (.ptr e) (.d1 .nil)) e (.inl e) e e) e e (.nil (.ops hm (.p2 e e (.nil (⟨m190,Nat.lt_succ_self m190,_,_,(gh_pk [0,8,9] [0,1,2,3,4,5,6,7,8,9,13320] hB e e e e),_,_,_,_,_,_,_,_,_,_,_,_,h,e,e⟩)))))
 ·refine Run.exit ?_
  obtain rfl := someO h
  have h := hk190
  obtain rfl := someO h
  exact Ends.mkG (.inr e) e (gh_pk [] [0,1,2,3,4,5,6,7,8,9,10] hB e e e e) e e
def c_lead_l1 (N : Nat) (y263 : Int) (y349 : Nat × (List Int)) : Nat → Int → (List Peer) → Option ((List Peer))
 | 0,_,_ => none
 | m + 1,x381,x396 =>
 (if (decide (x381 < ((y349.1 : Nat) : Int))) = true then
 (at? (y349.2.take y349.1) x381).bind fun x413 =>
 (cat? x396 ([(Peer.mk x413 (w64 (y263 + 1)) 0 0)] : List Peer)).bind fun x415 =>
 c_lead_l1 N y263 y349 m (w64 (x381 + 1)) x415
 else
 some x396)
def c_lead (N : Nat) (x1 : TK) : Option (TK) :=
 (i_last N x1.n.Log).bind fun y263 =>
 joinP (fun (v269 : (List Entry)) =>
 joinP (fun (v345 : (List Peer)) =>
 (c_commit N (TK.mk (Node.mk x1.n.Id x1.n.Term x1.n.Vote 2 x1.n.Id x1.n.Conf (Log.mk x1.n.Log.Start x1.n.Log.StartTerm v269) x1.n.Commit x1.n.Clock x1.n.Limit ([] : (List Int)) v345) x1.out)).bind fun y417 =>
 (c_sendAll N y417).bind fun y419 =>
 some y419) fun j345 =>
 (i_othersOf N (Node.mk x1.n.Id x1.n.Term x1.n.Vote 2 x1.n.Id x1.n.Conf (Log.mk x1.n.Log.Start x1.n.Log.StartTerm v269) x1.n.Commit x1.n.Clock x1.n.Limit ([]) ([]))).bind fun y349 =>
 (c_lead_l1 N y263 y349 N 0 ([] : (List Peer))).bind (fun v406 => j345 v406)) fun j269 =>
 (if (decide (((x1.n.Log.Entries.length : Nat) : Int) < 120)) = true then
 (if (decide ((w64 (y263 + 1)) ≤ 100000)) = true then
 (cat? x1.n.Log.Entries ([(Entry.mk x1.n.Term 1 (⟨#[]⟩ : ByteArray))] : List Entry)).bind fun x274 =>
 j269 x274
 else
 j269 x1.n.Log.Entries)
 else
 j269 x1.n.Log.Entries)
theorem sem_c_lead (N : Nat) (x1 : TK) (r : TK) (h : c_lead N x1 = some r) : Says Tryz.prog 47 [.ptr 0 0] 6 [(0,.box [VI x1.n.Id,VI x1.n.Term,VI x1.n.Vote,VI x1.n.Role,VI x1.n.Lead,.sl 1 3 0 x1.n.Conf.length,VI x1.n.Log.Start,VI x1.n.Log.StartTerm,.sl 2 40 0 x1.n.Log.Entries.length,VI x1.n.Commit,VI x1.n.Clock,VI x1.n.Limit,.sl 3 3 0 x1.n.Votes.length,.sl 4 98 0 x1.n.Peers.length,.sl 5 32 0 x1.out.length]),(1,.vec 3 (x1.n.Conf.map encI)),(2,.vec 40 (x1.n.Log.Entries.map eE)),(3,.vec 3 (x1.n.Votes.map encI)),(4,.vec 98 (x1.n.Peers.map eP)),(5,.vec 32 (x1.out.map (eM false)))] (.tup []) [(0,.box [VI r.n.Id,VI r.n.Term,VI r.n.Vote,VI r.n.Role,VI r.n.Lead,.sl 6 3 0 r.n.Conf.length,VI r.n.Log.Start,VI r.n.Log.StartTerm,.sl 7 40 0 r.n.Log.Entries.length,VI r.n.Commit,VI r.n.Clock,VI r.n.Limit,.sl 8 3 0 r.n.Votes.length,.sl 9 98 0 r.n.Peers.length,.sl 10 32 0 r.out.length]),(1,.gone),(2,.gone),(3,.gone),(4,.gone),(5,.gone),(6,.vec 3 (r.n.Conf.map encI)),(7,.vec 40 (r.n.Log.Entries.map eE)),(8,.vec 3 (r.n.Votes.map encI)),(9,.vec 98 (r.n.Peers.map eP)),(10,.vec 32 (r.out.map (eM false)))] := by
 unfold c_lead at h
 refine Says.of_norm e Tryz.call47 e fun B hB => ?_
 have hm : B.m ≤ 1000 := by omega
 refine Run.so hm (.p3 e e e (.p e (.nil (.so hm (.p3 e e e (.p3 e e e (.p3 e e e (.y 5240 (.sto e e e e e e) e e (.p2 e e (.y 5288 (.sto e e e e e e) e e (.p2 e e (.y 5336 (.sto e e e e e e) e e (.nil (.so hm (.p3 e e e (.p e ?_))))))))))))))))
 obtain ⟨y263,hy263,h⟩ := bindO h
 refine Ops.z 9256 (Ev.call [] [2] 0 (sem_i_last _ _ _ hy263) e e (.cons (.agg (.d2 (.cons (.borrow e (by decide) (lendW (fun _ => e) _ e)) .nil))) .nil) e (.inr ⟨e,ownL_root trivial⟩) e e) e e ?_
 refine Ops.p e (.nil (.seqO h (fun v269 => [(0,.ptr 0 0),(2,.ptr 0 0),(3,VI y263)]) (fun (v269 : (List Entry)) => [(0,.box [VI x1.n.Id,VI x1.n.Term,VI x1.n.Vote,VI 2,VI x1.n.Id,.sl 6 3 0 x1.n.Conf.length,VI x1.n.Log.Start,VI x1.n.Log.StartTerm,.sl 7 40 0 v269.length,VI x1.n.Commit,VI x1.n.Clock,VI x1.n.Limit,.sl 8 3 0 (([] : List Int).length),.sl 9 98 0 x1.n.Peers.length,.sl 10 32 0 x1.out.length]),(1,.gone),(2,.gone),(3,.gone),(4,.gone),(5,.gone),(6,.vec 3 (x1.n.Conf.map encI)),(7,.vec 40 (v269.map eE)),(8,.vec 3 (([] : List Int).map encI)),(9,.vec 98 (x1.n.Peers.map eP)),(10,.vec 32 (x1.out.map (eM false)))]) (fun h => ?_) (fun v269 h => ?_)))
 ·refine Run.so hm (.p3 e e e (.p3 e e e (.p2 e e (.askO (x := .t 34) e h (fun g271 h => ?_) (fun g271 h => ?_)))))
  ·refine Ops.gp e g271 e (.gp e g271 e (.gp e g271 e (.z 13464 (.pkT e g271 e) e e (.nil (.condO e h (fun g272 h => ?_) (fun g272 h => ?_))))))
   ·refine Run.draw hm hmix (.p e (.p e (.p e (.p e (.p e (.p e (.p e (.p e (.p e (.p e (.z 17544 (.bd e e) e e (.z 17560 (Ev.bsW (ys := ([(Entry.mk x1.n.Term 1 (⟨#[]⟩ : ByteArray))] : List Entry)) (f := eE) e (.d2 (.d1 .nil)) e e e e e) e e ?_))))))))))))
    obtain ⟨x274,hx274,h⟩ := bindO h
    refine OpsD.z 17576 (Ev.apW (f := eE) (ontoW e e e) (addsW e e e (fun _ => e)) e bt40 e hx274) e e (.p e (.p e (.p e (.y 17640 (.sto e e e e e e) e e (.nil ⟨by kernel_rfl,?_⟩)))))
    exact ⟨_,_,(Gh.trans (Gh.trans (Gh.trans (gh_prn [0,2,3] [0,1,2,3,4,5,17576] hB e) (gh_mvE [0,2,3] [1,3,4,5] hB e e)) (gh_nil [] [0] hB e e e)) (gh_pk [0,2,3] [0,1,2,3,4,5,30000001,17576,20000000,30000004,30000005] hB e e e e)),_,h,e,e⟩
   ·exact Run.skip (⟨_,_,(Gh.trans (Gh.trans (Gh.trans (gh_prn [0,2,3] [0,1,2,3,4,5] hB e) (gh_mvE [0,2,3] [1,2,3,4,5] hB e e)) (gh_nil [] [0] hB e e e)) (gh_pk [0,2,3] [0,1,2,3,4,5,30000001,30000002,20000000,30000004,30000005] hB e e e e)),_,h,e,e⟩)
  ·exact Ops.gn e g271 (.gn e g271 (.gn e g271 (.z 13464 (.pkF e g271 e) e e (.nil (.condF e e (.skip (⟨_,_,(Gh.trans (Gh.trans (Gh.trans (gh_prn [0,2,3] [0,1,2,3,4,5] hB e) (gh_mvE [0,2,3] [1,2,3,4,5] hB e e)) (gh_nil [] [0] hB e e e)) (gh_pk [0,2,3] [0,1,2,3,4,5,30000001,30000002,20000000,30000004,30000005] hB e e e e)),_,h,e,e⟩)))))))
 ·refine Run.so hm (.p3 e e e (.y 21528 (.sto e e e e e e) e e (.nil (.seqO h (fun v345 => [(0,.ptr 0 0)]) (fun (v345 : (List Peer)) => [(0,.box [VI x1.n.Id,VI x1.n.Term,VI x1.n.Vote,VI 2,VI x1.n.Id,.sl 6 3 0 x1.n.Conf.length,VI x1.n.Log.Start,VI x1.n.Log.StartTerm,.sl 7 40 0 v269.length,VI x1.n.Commit,VI x1.n.Clock,VI x1.n.Limit,.sl 8 3 0 (([] : (List Int)).length),.sl 9 98 0 v345.length,.sl 10 32 0 x1.out.length]),(1,.gone),(2,.gone),(3,.gone),(4,.gone),(5,.gone),(6,.vec 3 (x1.n.Conf.map encI)),(7,.vec 40 (v269.map eE)),(8,.vec 3 (([] : (List Int)).map encI)),(9,.vec 98 (v345.map eP)),(10,.vec 32 (x1.out.map (eM false)))]) (fun h => ?_) (fun v345 h => ?_)))))
  ·refine Run.so hm (.p3 e e e ?_)
   obtain ⟨y349,hy349,h⟩ := bindO h
   refine Ops.z 25624 (Ev.call [] [6,7,8] 1 (sem_i_othersOf _ _ _ hy349) e e (.cons (.agg (.d4 (.d1 (.cons (.borrow e (by decide) (lendW (fun _ => e) _ e)) (.d2 (.cons (.borrow e (by decide) (lendW (fun _ => e) _ e)) (.d2 (.d1 (.cons (.borrow e (by decide) (lendW (fun _ => e) _ e)) (.cons (.nil _ _) .nil)))))))))) .nil) e (.inr ⟨e,ownL_root ⟨own_rows (fun _ => e) _,trivial⟩⟩) e e) e e ?_
   refine Ops.p e (.p e (.nil (.block ?_)))
   obtain ⟨res406,h,hk406⟩ := bindO h
   refine Run.loop (n := N) (fun m406 fr σ => ∃ (x381 : Int),∃ (x396 : (List Peer)),c_lead_l1 N y263 y349 m406 x381 x396 = some res406 ∧ fr = [(0,.ptr 0 0),(2,.ptr 0 0),(3,VI y263),(61,.sl 6 3 0 y349.1),(62,VI ((y349.1 : Nat) : Int)),(63,VI x381)] ∧ σ = [(0,.box [VI x1.n.Id,VI x1.n.Term,VI x1.n.Vote,VI 2,VI x1.n.Id,.sl 7 3 0 x1.n.Conf.length,VI x1.n.Log.Start,VI x1.n.Log.StartTerm,.sl 8 40 0 v269.length,VI x1.n.Commit,VI x1.n.Clock,VI x1.n.Limit,.sl 9 3 0 (([] : (List Int)).length),.sl 10 98 0 x396.length,.sl 11 32 0 x1.out.length]),(1,.gone),(2,.gone),(3,.gone),(4,.gone),(5,.gone),(6,.vec 3 (y349.2.map encI)),(7,.vec 3 (x1.n.Conf.map encI)),(8,.vec 40 (v269.map eE)),(9,.vec 3 (([] : (List Int)).map encI)),(10,.vec 98 (x396.map eP)),(11,.vec 32 (x1.out.map (eM false)))]) (Gh.trans (Gh.trans (gh_prn [0,2,3,61,62,63] [0,1,2,3,4,5,25624,6,7,8,10] hB e) (gh_nil [] [0] hB e e e)) (gh_pk [0,2,3,61,62,63] [0,1,2,3,4,5,25624,6,7,8,20000000,10] hB e e e e)) ⟨_,_,h,e,e⟩ ?_
   rintro m406 fr σ ⟨x381,x396,h,rfl,rfl⟩
   obtain _ | m406 := m406
   ·rw [c_lead_l1] at h; cases h
   rw [c_lead_l1] at h
   refine Run.so hm (.p e (.nil (.seq (.condO e h (fun g409 h => ?_) (fun g409 h => ?_)))))
   ·refine Run.skip (.seq (.block (.so hm ?_)))
    obtain ⟨x413,hx413,h⟩ := bindO h
    refine Ops.z 33768 (Ev.iaP (xs := y349.2) e e hx413) e e (.z 33784 (Ev.ldE (f := encI) e e (at_part hx413) e e e) e e (.p e (.nil (.ops hm (.p3 e e e (.p3 e e e (.p2 e e (.z 37992 (.bd e e) e e (.z 38008 (Ev.bsW (ys := ([(Peer.mk x413 (w64 (y263 + 1)) 0 0)] : List Peer)) (f := eP) e (.d4 .nil) e e e e e) e e ?_)))))))))
    obtain ⟨x415,hx415,h⟩ := bindO h
    exact Ops.z 38024 (Ev.apW (f := eP) (ontoW e e e) (addsW e e e (fun _ => e)) e bt98 e hx415) e e (.p2 e e (.y 38072 (.sto e e e e e e) e e (.nil (.ops hm (.p2 e e (.nil (⟨m406,Nat.lt_succ_self m406,_,_,(gh_pk [0,2,3,61,62,63] [0,1,2,3,4,5,6,7,8,9,38024,11] hB e e e e),_,_,h,e,e⟩)))))))
   ·refine Run.exit ?_
    obtain rfl := someO h
    have h := hk406
    exact ⟨_,_,(gh_pk [0] [0,1,2,3,4,5,7,8,9,10,11] hB e e e e),_,h,e,e⟩
  ·refine Run.so hm (.p e ?_)
   obtain ⟨y417,hy417,h⟩ := bindO h
   refine Ops.z 46072 (Ev.call [0,6,7,8,9,10] [] 5 (sem_c_commit _ _ _ hy417) e e (.cons (.ptr e) .nil) e (.inl e) e e) e e (.nil (.ops hm (.p e ?_)))
   obtain ⟨y419,hy419,h⟩ := bindO h
   refine Ops.z 50168 (Ev.call [0,46072,46073,46074,46075,46076] [] 5 (sem_c_sendAll _ _ _ hy419) e e (.cons (.ptr e) .nil) e (.inl e) e e) e e (.nil ?_)
   obtain rfl := someO h
   exact Ends.mkG (.inr e) e (gh_pk [] [0,1,2,3,4,5,50168,50169,50170,50171,50172] hB e e e e) e e
def c_tellVote (N : Nat) (x1 : TK) (x2 : Message) : Option (TK) :=
 (if (!x2.Ok) = true then
 some x1
 else
 (if (x2.Term != x1.n.Term) = true then
 some x1
 else
 (if (x1.n.Role != 1) = true then
 some x1
 else
 joinP (fun (v161 : (List Int)) =>
 (i_ConfOf N (Node.mk x1.n.Id x1.n.Term x1.n.Vote x1.n.Role x1.n.Lead x1.n.Conf x1.n.Log x1.n.Commit x1.n.Clock x1.n.Limit v161 x1.n.Peers)).bind fun y175 =>
 (i_Most N y175 v161).bind fun y176 =>
 (if y176 = true then
 (c_lead N (TK.mk (Node.mk x1.n.Id x1.n.Term x1.n.Vote x1.n.Role x1.n.Lead x1.n.Conf x1.n.Log x1.n.Commit x1.n.Clock x1.n.Limit v161 x1.n.Peers) x1.out)).bind fun y179 =>
 some y179
 else
 some (TK.mk (Node.mk x1.n.Id x1.n.Term x1.n.Vote x1.n.Role x1.n.Lead x1.n.Conf x1.n.Log x1.n.Commit x1.n.Clock x1.n.Limit v161 x1.n.Peers) x1.out))) fun j161 =>
 (L_Contains_int N x1.n.Votes x2.From).bind fun y163 =>
 (if (!y163) = true then
 (cat? x1.n.Votes ([x2.From] : List Int)).bind fun x168 =>
 (L_Sort_int N x168).bind fun y171 =>
 (len? x168 y171).bind fun y172 =>
 j161 y171
 else
 j161 x1.n.Votes))))
theorem sem_c_tellVote (N : Nat) (x1 : TK) (x2 : Message) (r : TK) (h : c_tellVote N x1 x2 = some r) : Says Tryz.prog 25 [.ptr 0 0,.agg [VI x2.Kind,VI x2.From,VI x2.To,VI x2.Term,VI x2.Index,VI x2.LogTerm,VI x2.Commit,VB x2.Ok,RO 40 (x2.Entries.map eE),RO 3 (x2.Conf.map encI),VS x2.Data,VB x2.Last]] 6 [(0,.box [VI x1.n.Id,VI x1.n.Term,VI x1.n.Vote,VI x1.n.Role,VI x1.n.Lead,.sl 1 3 0 x1.n.Conf.length,VI x1.n.Log.Start,VI x1.n.Log.StartTerm,.sl 2 40 0 x1.n.Log.Entries.length,VI x1.n.Commit,VI x1.n.Clock,VI x1.n.Limit,.sl 3 3 0 x1.n.Votes.length,.sl 4 98 0 x1.n.Peers.length,.sl 5 32 0 x1.out.length]),(1,.vec 3 (x1.n.Conf.map encI)),(2,.vec 40 (x1.n.Log.Entries.map eE)),(3,.vec 3 (x1.n.Votes.map encI)),(4,.vec 98 (x1.n.Peers.map eP)),(5,.vec 32 (x1.out.map (eM false)))] (.tup []) [(0,.box [VI r.n.Id,VI r.n.Term,VI r.n.Vote,VI r.n.Role,VI r.n.Lead,.sl 6 3 0 r.n.Conf.length,VI r.n.Log.Start,VI r.n.Log.StartTerm,.sl 7 40 0 r.n.Log.Entries.length,VI r.n.Commit,VI r.n.Clock,VI r.n.Limit,.sl 8 3 0 r.n.Votes.length,.sl 9 98 0 r.n.Peers.length,.sl 10 32 0 r.out.length]),(1,.gone),(2,.gone),(3,.gone),(4,.gone),(5,.gone),(6,.vec 3 (r.n.Conf.map encI)),(7,.vec 40 (r.n.Log.Entries.map eE)),(8,.vec 3 (r.n.Votes.map encI)),(9,.vec 98 (r.n.Peers.map eP)),(10,.vec 32 (r.out.map (eM false)))] := by
 unfold c_tellVote at h
 refine Says.of_norm e Tryz.call25 e fun B hB => ?_
 have hm : B.m ≤ 1000 := by omega
 refine Run.so hm (.z 1000 (.bx e e) e e (.nil (.so hm (.p3 e e e (.p e (.nil (.seq (.seq (.draw hm hmix (.p e (.p e (.p e (.p e (.askO (x := .t 11) e h (fun g147 h => ?_) (fun g147 h => ?_)))))))))))))))
 ·refine OpsD.gn e g147 (.gn e g147 (.gn e g147 (.gn e g147 (.gn e g147 (.gn e g147 (.gn e g147 (.z 9368 (.pkT e g147 e) e e (.p e (.gn e e (.gn e e (.gn e e (.gn e e (.gn e e (.z 9480 (.pkT e e e) e e (.nil ⟨by kernel_rfl,?_⟩)))))))))))))))
  refine Run.condT e e (.ret ?_)
  obtain rfl := someO h
  exact Ends.mkG (.inl e) e (Gh.trans (Gh.trans (gh_prn [] [0,1,2,3,4,5] hB e) (gh_mvE [] [1,2,3,4,5] hB e e)) (gh_pk [] [0,1,2,3,4,5,30000001,30000002,30000003,30000004,30000005] hB e e e e)) e e
 ·refine OpsD.gp e g147 e (.gp e g147 e (.gp e g147 e (.gp e g147 e (.gp e g147 e (.gp e g147 e (.gp e g147 e (.z 9368 (.pkF e g147 e) e e (.p e (.askO (x := .t 20) e h (fun g148 h => ?_) (fun g148 h => ?_))))))))))
  ·refine OpsD.gn e g148 (.gn e g148 (.gn e g148 (.gn e g148 (.gn e g148 (.z 9480 (.pkT e g148 e) e e (.nil ⟨by kernel_rfl,?_⟩))))))
   refine Run.condT e e (.ret ?_)
   obtain rfl := someO h
   exact Ends.mkG (.inl e) e (Gh.trans (Gh.trans (gh_prn [] [0,1,2,3,4,5] hB e) (gh_mvE [] [1,2,3,4,5] hB e e)) (gh_pk [] [0,1,2,3,4,5,30000001,30000002,30000003,30000004,30000005] hB e e e e)) e e
  ·refine OpsD.gp e g148 e (.gp e g148 e (.gp e g148 e (.gp e g148 e (.gp e g148 e (.z 9480 (.pkF e g148 e) e e (.nil ⟨by kernel_rfl,?_⟩))))))
   refine Run.condO e h (fun g149 h => ?_) (fun g149 h => ?_)
   ·refine Run.ret ?_
    obtain rfl := someO h
    exact Ends.mkG (.inl e) e (Gh.trans (Gh.trans (gh_prn [] [0,1,2,3,4,5] hB e) (gh_mvE [] [1,2,3,4,5] hB e e)) (gh_pk [] [0,1,2,3,4,5,30000001,30000002,30000003,30000004,30000005] hB e e e e)) e e
   ·refine Run.skip (.seqO h (fun v161 => [(0,.ptr 0 0),(4,.ptr 0 0)]) (fun (v161 : (List Int)) => [(0,.box [VI x1.n.Id,VI x1.n.Term,VI x1.n.Vote,VI x1.n.Role,VI x1.n.Lead,.sl 6 3 0 x1.n.Conf.length,VI x1.n.Log.Start,VI x1.n.Log.StartTerm,.sl 7 40 0 x1.n.Log.Entries.length,VI x1.n.Commit,VI x1.n.Clock,VI x1.n.Limit,.sl 8 3 0 v161.length,.sl 9 98 0 x1.n.Peers.length,.sl 10 32 0 x1.out.length]),(1,.gone),(2,.gone),(3,.gone),(4,.gone),(5,.gone),(6,.vec 3 (x1.n.Conf.map encI)),(7,.vec 40 (x1.n.Log.Entries.map eE)),(8,.vec 3 (v161.map encI)),(9,.vec 98 (x1.n.Peers.map eP)),(10,.vec 32 (x1.out.map (eM false)))]) (fun h => ?_) (fun v161 h => ?_))
    ·refine Run.seq (.draw hm hmix (.p e (.p e (.p e (.p e (.p e (.p e ?_)))))))
     obtain ⟨y163,hy163,h⟩ := bindO h
     refine OpsD.z 13384 (Ev.call [] [3] 0 (sem_L_Contains_int _ _ _ _ hy163) e e (.cons (.borrow e (by decide) (lendW (fun _ => e) _ e)) (.d1 .nil)) e (.inr ⟨e,ownL_root trivial⟩) e e) e e ?_
     refine OpsD.p e (.nil ⟨by kernel_rfl,?_⟩)
     refine Run.condO e h (fun g164 h => ?_) (fun g164 h => ?_)
     ·refine Run.seq (.draw hm hmix (.p e (.p e (.p e (.p e (.p e (.p e (.p e (.z 17496 (Ev.bsW (ys := ([x2.From] : List Int)) (f := encI) e (.d1 .nil) e e e e e) e e ?_)))))))))
      obtain ⟨x168,hx168,h⟩ := bindO h
      refine OpsD.z 17512 (Ev.apW (f := encI) (ontoW e e e) (addsW e e e (fun _ => e)) e bt3 e hx168) e e (.p e (.p e (.y 17560 (.sto e e e e e e) e e (.nil ⟨by kernel_rfl,?_⟩))))
      refine Run.ops hm (.p3 e e e (.p e ?_))
      obtain ⟨y171,hy171,h⟩ := bindO h
      obtain ⟨y172,hy172,h⟩ := bindO h
      exact Ops.z 21544 (Ev.call [17512] [] 0 (sem_L_Sort_int _ _ _ hy171) e e (.cons (.sl e) .nil) e (.inl e) e e) e e (.nil (⟨_,_,(Gh.trans (Gh.trans (gh_prn [0,4] [0,1,2,3,4,5,17512] hB e) (gh_mvE [0,4] [1,2,4,5] hB e e)) (gh_pk [0,4] [0,1,2,3,4,5,30000001,30000002,17512,30000004,30000005] hB e e (by first | rfl | (simp only [List.length_set,(len_some hy172)]; done) | (simp only [List.length_set,(len_some hy172)]; rfl)) (by first | rfl | (simp only [List.length_set,(len_some hy172)]; done) | (simp only [List.length_set,(len_some hy172)]; rfl)))),_,h,e,e⟩))
     ·exact Run.skip (⟨_,_,(Gh.trans (Gh.trans (gh_prn [0,4] [0,1,2,3,4,5] hB e) (gh_mvE [0,4] [1,2,3,4,5] hB e e)) (gh_pk [0,4] [0,1,2,3,4,5,30000001,30000002,30000003,30000004,30000005] hB e e e e)),_,h,e,e⟩)
    ·refine Run.seq (.draw hm hmix (.p e (.p e (.p e ?_))))
     obtain ⟨y175,hy175,h⟩ := bindO h
     refine OpsD.z 25624 (Ev.call [] [6,7,8,9] 1 (sem_i_ConfOf _ _ _ hy175) e e (.cons (.agg (.d4 (.d1 (.cons (.borrow e (by decide) (lendW (fun _ => e) _ e)) (.d2 (.cons (.borrow e (by decide) (lendW (fun _ => e) _ e)) (.d2 (.d1 (.cons (.borrow e (by decide) (lendW (fun _ => e) _ e)) (.cons (.borrow e (by decide) (lendW (fun _ => e) _ e)) .nil)))))))))) .nil) e (.inr ⟨e,ownL_root ⟨own_rows (fun _ => e) _,trivial⟩⟩) e e) e e ?_
     refine OpsD.p e (.p e (.p e (.p e ?_)))
     obtain ⟨y176,hy176,h⟩ := bindO h
     refine OpsD.z 25704 (Ev.call [] [25624,8] 0 (sem_i_Most _ _ _ _ hy176) e e (.cons (.borrow e (by decide) (lendW (fun _ => e) _ e)) (.cons (.borrow e (by decide) (lendW (fun _ => e) _ e)) .nil)) e (.inr ⟨e,ownL_root trivial⟩) e e) e e ?_
     refine OpsD.nil ⟨by kernel_rfl,?_⟩
     refine Run.condO e h (fun g177 h => ?_) (fun g177 h => ?_)
     ·refine Run.ops hm (.p e ?_)
      obtain ⟨y179,hy179,h⟩ := bindO h
      refine Ops.z 29688 (Ev.call [0,6,7,8,9,10] [] 5 (sem_c_lead _ _ _ hy179) e e (.cons (.ptr e) .nil) e (.inl e) e e) e e (.nil ?_)
      obtain rfl := someO h
      exact Ends.mkG (.inr e) e (gh_pk [] [0,1,2,3,4,5,29688,29689,29690,29691,29692] hB e e e e) e e
     ·refine Run.skip ?_
      obtain rfl := someO h
      exact Ends.mkG (.inr e) e (gh_pk [] [0,1,2,3,4,5,6,7,8,9,10] hB e e e e) e e
def c_follows (N : Nat) (x1 : TK) (x2 : Int) : Option (TK) :=
 some (TK.mk (Node.mk x1.n.Id x1.n.Term x1.n.Vote 0 x2 x1.n.Conf x1.n.Log x1.n.Commit 0 x1.n.Limit ([]) ([])) x1.out)
theorem sem_c_follows (N : Nat) (x1 : TK) (x2 : Int) (r : TK) (h : c_follows N x1 x2 = some r) : Says Tryz.prog 27 [.ptr 0 0,VI x2] 6 [(0,.box [VI x1.n.Id,VI x1.n.Term,VI x1.n.Vote,VI x1.n.Role,VI x1.n.Lead,.sl 1 3 0 x1.n.Conf.length,VI x1.n.Log.Start,VI x1.n.Log.StartTerm,.sl 2 40 0 x1.n.Log.Entries.length,VI x1.n.Commit,VI x1.n.Clock,VI x1.n.Limit,.sl 3 3 0 x1.n.Votes.length,.sl 4 98 0 x1.n.Peers.length,.sl 5 32 0 x1.out.length]),(1,.vec 3 (x1.n.Conf.map encI)),(2,.vec 40 (x1.n.Log.Entries.map eE)),(3,.vec 3 (x1.n.Votes.map encI)),(4,.vec 98 (x1.n.Peers.map eP)),(5,.vec 32 (x1.out.map (eM false)))] (.tup []) [(0,.box [VI r.n.Id,VI r.n.Term,VI r.n.Vote,VI r.n.Role,VI r.n.Lead,.sl 1 3 0 x1.n.Conf.length,VI r.n.Log.Start,VI r.n.Log.StartTerm,.sl 2 40 0 x1.n.Log.Entries.length,VI r.n.Commit,VI r.n.Clock,VI r.n.Limit,.sl 6 3 0 r.n.Votes.length,.sl 7 98 0 r.n.Peers.length,.sl 5 32 0 x1.out.length]),(1,.vec 3 (x1.n.Conf.map encI)),(2,.vec 40 (x1.n.Log.Entries.map eE)),(3,.gone),(4,.gone),(5,.vec 32 (x1.out.map (eM false))),(6,.vec 3 (r.n.Votes.map encI)),(7,.vec 98 (r.n.Peers.map eP))] := by
 unfold c_follows at h
 refine Says.of_norm e Tryz.call27 e fun B hB => ?_
 have hm : B.m ≤ 1000 := by omega
 refine Run.so hm (.p3 e e e (.p e (.nil (.ops hm (.p3 e e e (.p3 e e e (.p2 e e (.y 5224 (.sto e e e e e e) e e (.p2 e e (.y 5272 (.sto e e e e e e) e e (.p2 e e (.y 5320 (.sto e e e e e e) e e (.p2 e e (.y 5368 (.sto e e e e e e) e e (.p2 e e (.y 5416 (.sto e e e e e e) e e (.nil ?_)))))))))))))))))
 obtain rfl := someO h
 exact Ends.mkG (.inr e) e (Gh.trans (Gh.trans (Gh.trans (gh_prn [] [0,1,2,3,4,5] hB e) (gh_mvE [] [3,4] hB e e)) (gh_nil [] [0] hB e e e)) (gh_pk [] [0,1,2,3,4,5,20000000,20000001] hB e e e e)) e e
def i_logPut (N : Nat) (x1 : Log) (x2 : Int) (x3 : Entry) : Option (Log × Bool) :=
 (i_LogOk N x1).bind fun y149 =>
 (if (!y149) = true then
 some ((Log.mk 0 0 ([])),false)
 else
 (i_last N x1).bind fun y151 =>
 (i_within N x2 (w64 (x1.Start + 1)) (w64 (y151 + 1))).bind fun y152 =>
 (if (!y152) = true then
 some ((Log.mk 0 0 ([])),false)
 else
 (i_copyLog N x1).bind fun y157 =>
 (take? y157.Entries (w64 ((w64 (x2 - x1.Start)) - 1))).bind fun x164 =>
 (cat? (y157.Entries.take ((w64 ((w64 (x2 - x1.Start)) - 1)).toNat)) ([x3] : List Entry)).bind fun x165 =>
 (i_LogOk N (Log.mk y157.Start y157.StartTerm x165)).bind fun y170 =>
 (if (!y170) = true then
 some ((Log.mk 0 0 ([])),false)
 else
 some ((Log.mk y157.Start y157.StartTerm x165),true))))
theorem sem_i_logPut (N : Nat) (x1 : Log) (x2 : Int) (x3 : Entry) (r : Log × Bool) (h : i_logPut N x1 x2 x3 = some r) : Says Tryz.prog 106 [.agg [VI x1.Start,VI x1.StartTerm,RO 40 (x1.Entries.map eE)],VI x2,.agg [VI x3.Term,VI x3.Kind,VS x3.Data]] 0 [] (.tup [.agg [VI r.1.Start,VI r.1.StartTerm,.sl 0 40 0 r.1.Entries.length],VB r.2]) [(0,.vec 40 (r.1.Entries.map eE))] := by
 unfold i_logPut at h
 refine Says.of_norm e Tryz.call106 e fun B hB => ?_
 have hm : B.m ≤ 1000 := by omega
 refine Run.so hm (.z 1000 (.bx e e) e e (.z 1016 (.bx e e) e e (.z 1032 (.al e e) e e (.p e (.nil (.seq (.seq (.draw hm hmix (.p e ?_)))))))))
 obtain ⟨y149,hy149,h⟩ := bindO h
 refine OpsD.z 5112 (Ev.call [] [] 0 (sem_i_LogOk _ _ _ hy149) e e (.cons (.agg (.d2 (.d1 .nil))) .nil) e (.inl e) e e) e e (.p e (.p e (.askO (x := .t 12) e h (fun g150 h => ?_) (fun g150 h => ?_))))
 ·refine OpsD.gn e g150 (.gn e g150 (.gn e g150 (.gn e g150 (.gn e g150 (.gn e g150 (.gn e g150 (.gn e g150 (.gn e g150 (.z 5304 (.pkT e g150 e) e e (.nil ⟨by kernel_rfl,?_⟩))))))))))
  refine Run.condT e e (.so hm (.z 9192 (.bd e e) e e (.y 9208 (.sto e e e e e e) e e (.p e (.nil (.ret ?_))))))
  obtain rfl := someO h
  exact Ends.mkG (.inl e) e (Gh.trans (Gh.trans (gh_prn [0,1] [] hB e) (gh_nil [0] [] hB e e e)) (gh_pk [0,1] [10000000] hB e e e e)) e e
 ·refine OpsD.gp e g150 e (.gp e g150 e (.gp e g150 e (.gp e g150 e (.gp e g150 e ?_))))
  obtain ⟨y151,hy151,h⟩ := bindO h
  refine OpsD.gs (s := 5240) e g150 (Ev.call [] [] 0 (sem_i_last _ _ _ hy151) e e (.cons (.agg (.d2 (.d1 .nil))) .nil) e (.inl e) e e) e e (.gp e g150 e ?_)
  obtain ⟨y152,hy152,h⟩ := bindO h
  refine OpsD.gs (s := 5272) e g150 (Ev.call [] [] 0 (sem_i_within _ _ _ _ _ hy152) e e (.d2 (.d1 .nil)) e (.inl e) e e) e e (.gp e g150 e (.z 5304 (.pkF e g150 e) e e (.nil ⟨by kernel_rfl,?_⟩)))
  refine Run.condO e h (fun g153 h => ?_) (fun g153 h => ?_)
  ·refine Run.so hm (.z 9192 (.bd e e) e e (.y 9208 (.sto e e e e e e) e e (.p e (.nil (.ret ?_)))))
   obtain rfl := someO h
   exact Ends.mkG (.inl e) e (Gh.trans (Gh.trans (gh_prn [0,1] [] hB e) (gh_nil [0] [] hB e e e)) (gh_pk [0,1] [10000000] hB e e e e)) e e
  ·refine Run.skip (.so hm (.p e ?_))
   obtain ⟨y157,hy157,h⟩ := bindO h
   refine Ops.z 13304 (Ev.call [] [] 1 (sem_i_copyLog _ _ _ hy157) e e (.cons (.agg (.d2 (.d1 .nil))) .nil) e (.inl e) e e) e e (.z 13320 (.al e e) e e (.y 13336 (.sto e e e e e e) e e (.nil (.seq (.draw hm hmix (.p e (.p e (.p e (.p e (.p e (.p e (.p e ?_))))))))))))
   obtain ⟨x164,hx164,h⟩ := bindO h
   refine OpsD.z 17496 (Ev.slWh (xs := y157.Entries) e e e hx164) e e (.p e (.z 17528 (Ev.bsW (ys := ([x3] : List Entry)) (f := eE) e (.d2 (.d1 .nil)) e e e e e) e e ?_))
   obtain ⟨x165,hx165,h⟩ := bindO h
   refine OpsD.z 17544 (Ev.apW (f := eE) (ontoP e (take_le hx164) e) (addsW e e e (fun _ => e)) e bt40 e hx165) e e (.p e (.y 17576 (.sto e e e e e e) e e (.nil ⟨by kernel_rfl,?_⟩)))
   refine Run.seq (.so hm (.p e ?_))
   obtain ⟨y170,hy170,h⟩ := bindO h
   refine Ops.z 21496 (Ev.call [] [17544] 0 (sem_i_LogOk _ _ _ hy170) e e (.cons (.agg (.d2 (.cons (.borrow e (by decide) (lendW (fun _ => e) _ e)) .nil))) .nil) e (.inr ⟨e,ownL_root trivial⟩) e e) e e ?_
   refine Ops.p e (.nil (.condO e h (fun g171 h => ?_) (fun g171 h => ?_)))
   ·refine Run.so hm (.z 25576 (.bd e e) e e (.y 25592 (.sto e e e e e e) e e (.p e (.nil (.ret ?_)))))
    obtain rfl := someO h
    exact Ends.mkG (.inl e) e (Gh.trans (Gh.trans (gh_prn [0,1] [] hB e) (gh_nil [0] [] hB e e e)) (gh_pk [0,1] [10000000] hB e e e e)) e e
   ·refine Run.skip (.so hm (.p e (.y 29688 (.sto e e e e e e) e e (.p e (.nil (.ret ?_))))))
    obtain rfl := someO h
    exact Ends.mkG (.inl e) e (gh_pk [0,1] [17544] hB e e e e) e e
def i_taken_l1 (N : Nat) (x1 : Node) (x2 : Int) (x3 : (List Entry)) : Nat → Int → Int → Int → (List Entry) → Option ((Log × Bool) ⊕ (Int × Int × (List Entry)))
 | 0,_,_,_,_ => none
 | m + 1,x308,x325,x326,x328 =>
 (if (decide (x308 < (x3.length : Int))) = true then
 (at? x3 x308).bind fun x356 =>
 (i_LogTerm N (Log.mk x325 x326 x328) (w64 ((w64 (x2 + x308)) + 1))).bind fun y361 =>
 (if (y361 == x356.Term) = true then
 i_taken_l1 N x1 x2 x3 m (w64 (x308 + 1)) x325 x326 x328
 else
 (if (decide ((w64 ((w64 (x2 + x308)) + 1)) ≤ x1.Commit)) = true then
 some (Sum.inl ((Log.mk 0 0 ([])),false))
 else
 (i_logPut N (Log.mk x325 x326 x328) (w64 ((w64 (x2 + x308)) + 1)) x356).bind fun y368 =>
 (if (!y368.2) = true then
 some (Sum.inl ((Log.mk 0 0 ([])),false))
 else
 i_taken_l1 N x1 x2 x3 m (w64 (x308 + 1)) y368.1.Start y368.1.StartTerm y368.1.Entries)))
 else
 some (Sum.inr (x325,x326,x328)))
def i_taken_l1_r (N : Nat) (x1 : Node) (x2 : Int) (x3 : (List Entry)) : (List Entry) → Int → Int → Int → (List Entry) → Option ((Log × Bool) ⊕ (Int × Int × (List Entry)))
 | [],x308,x325,x326,x328 =>
 some (Sum.inr (x325,x326,x328))
 | hd :: tl,x308,x325,x326,x328 =>
 (some hd).bind fun x356 =>
 (i_LogTerm N (Log.mk x325 x326 x328) (w64 ((w64 (x2 + x308)) + 1))).bind fun y361 =>
 (if (y361 == x356.Term) = true then
 i_taken_l1_r N x1 x2 x3 tl (w64 (x308 + 1)) x325 x326 x328
 else
 (if (decide ((w64 ((w64 (x2 + x308)) + 1)) ≤ x1.Commit)) = true then
 some (Sum.inl ((Log.mk 0 0 ([])),false))
 else
 (i_logPut N (Log.mk x325 x326 x328) (w64 ((w64 (x2 + x308)) + 1)) x356).bind fun y368 =>
 (if (!y368.2) = true then
 some (Sum.inl ((Log.mk 0 0 ([])),false))
 else
 i_taken_l1_r N x1 x2 x3 tl (w64 (x308 + 1)) y368.1.Start y368.1.StartTerm y368.1.Entries)))
theorem i_taken_l1_rng (N : Nat) (x1 : Node) (x2 : Int) (x3 : (List Entry)) (hx : x3.length ≤ 1099511627776) : ∀ (d k m : Nat) (x325 : Int) (x326 : Int) (x328 : (List Entry)),x3.length = k + d → d < m → i_taken_l1 N x1 x2 x3 m (k : Int) x325 x326 x328 = i_taken_l1_r N x1 x2 x3 (x3.drop k) (k : Int) x325 x326 x328 := by
 intro d
 induction d with
 | zero =>
  intro k m x325 x326 x328 hd hm
  obtain ⟨m,rfl⟩ : ∃ q,m = q + 1 := ⟨m - 1,by omega⟩
  rw [i_taken_l1,if_neg (by simp; omega),List.drop_eq_nil_of_le (by omega),i_taken_l1_r]
 | succ d ih =>
  intro k m x325 x326 x328 hd hm
  obtain ⟨m,rfl⟩ : ∃ q,m = q + 1 := ⟨m - 1,by omega⟩
  have hk : k < x3.length := by omega
  rw [i_taken_l1,if_pos (by simp; omega),List.drop_eq_getElem_cons hk,i_taken_l1_r]
  have h1 := at_lt hk
  have h2 := w64_succ (k := k) (by omega)
  have h3 := ih (k + 1) m
  simp only [h1,h2,h3 _ _ _ (by omega) (by omega)]
theorem i_taken_l1_eq {N : Nat} (x1 : Node) (x2 : Int) (x3 : (List Entry)) (hx : x3.length ≤ 1099511627776) (hN : x3.length < N) (x325 : Int) (x326 : Int) (x328 : (List Entry)) : i_taken_l1 N x1 x2 x3 N 0 x325 x326 x328 = i_taken_l1_r N x1 x2 x3 x3 0 x325 x326 x328 := i_taken_l1_rng N x1 x2 x3 hx x3.length 0 N x325 x326 x328 (by omega) hN
def i_taken (N : Nat) (x1 : Node) (x2 : Int) (x3 : (List Entry)) : Option (Log × Bool) :=
 (i_copyLog N x1.Log).bind fun y238 =>
 joinP (fun (v304 : Int × Int × (List Entry)) =>
 some ((Log.mk v304.1 v304.2.1 v304.2.2),true)) fun j304 =>
 (i_taken_l1 N x1 x2 x3 N 0 y238.Start y238.StartTerm y238.Entries).bind (Sum.elim (fun v348 => some v348) (fun (v349 : Int × Int × (List Entry)) => j304 (v349.1,v349.2.1,v349.2.2)))
theorem sem_i_taken (N : Nat) (x1 : Node) (x2 : Int) (x3 : (List Entry)) (r : Log × Bool) (h : i_taken N x1 x2 x3 = some r) : Says Tryz.prog 64 [.agg [VI x1.Id,VI x1.Term,VI x1.Vote,VI x1.Role,VI x1.Lead,RO 3 (x1.Conf.map encI),VI x1.Log.Start,VI x1.Log.StartTerm,RO 40 (x1.Log.Entries.map eE),VI x1.Commit,VI x1.Clock,VI x1.Limit,RO 3 (x1.Votes.map encI),RO 98 (x1.Peers.map eP)],VI x2,RO 40 (x3.map eE)] 0 [] (.tup [.agg [VI r.1.Start,VI r.1.StartTerm,.sl 0 40 0 r.1.Entries.length],VB r.2]) [(0,.vec 40 (r.1.Entries.map eE))] := by
 unfold i_taken at h
 refine Says.of_norm e Tryz.call64 e fun B hB => ?_
 have hm : B.m ≤ 1000 := by omega
 refine Run.so hm (.z 1000 (.bx e e) e e (.z 1016 (.al e e) e e (.p e (.nil (.so hm (.p2 e e ?_))))))
 obtain ⟨y238,hy238,h⟩ := bindO h
 refine Ops.z 5128 (Ev.call [] [] 1 (sem_i_copyLog _ _ _ hy238) e e (.cons (.agg (.d2 (.d1 .nil))) .nil) e (.inl e) e e) e e (.z 5144 (.al e e) e e (.y 5160 (.sto e e e e e e) e e (.nil (.seqO h (fun v304 => [(6,.ptr 0 0),(8,.ptr 1 0)]) (fun (v304 : Int × Int × (List Entry)) => [(0,.box [VI 0,VI 0,.sl 2 40 0 (([] : (List Entry)).length)]),(1,.box [VI v304.1,VI v304.2.1,.sl 3 40 0 v304.2.2.length]),(2,.vec 40 (([] : (List Entry)).map eE)),(3,.vec 40 (v304.2.2.map eE))]) (fun h => ?_) (fun v304 h => ?_)))))
 ·refine Run.so hm (.p e (.z 9208 (Ev.lnF e) e e (.p e (.nil (.block ?_)))))
  obtain ⟨res349,h,hk349⟩ := bindO h
  refine Run.loop (n := N) (fun m349 fr σ => ∃ (x308 : Int),∃ (x325 : Int),∃ (x326 : Int),∃ (x328 : (List Entry)),i_taken_l1 N x1 x2 x3 m349 x308 x325 x326 x328 = some res349 ∧ fr = [(1,VI x2),(3,.ptr 0 0),(6,.ptr 1 0),(8,.ptr 2 0),(17,RO 40 (x3.map eE)),(18,VI (x3.length : Int)),(19,VI x308)] ∧ σ = [(0,.box [VI x1.Id,VI x1.Term,VI x1.Vote,VI x1.Role,VI x1.Lead,RO 3 (x1.Conf.map encI),VI x1.Log.Start,VI x1.Log.StartTerm,RO 40 (x1.Log.Entries.map eE),VI x1.Commit,VI x1.Clock,VI x1.Limit,RO 3 (x1.Votes.map encI),RO 98 (x1.Peers.map eP)]),(1,.box [VI 0,VI 0,.sl 3 40 0 (([] : (List Entry)).length)]),(2,.box [VI x325,VI x326,.sl 4 40 0 x328.length]),(3,.vec 40 (([] : (List Entry)).map eE)),(4,.vec 40 (x328.map eE))]) (Gh.trans (Gh.trans (gh_prn [1,3,6,8,17,18,19] [1000,1016,5144,5128] hB e) (gh_nil [] [1016] hB e e e)) (gh_pk [1,3,6,8,17,18,19] [1000,1016,5144,20000000,5128] hB e e e e)) ⟨_,_,_,_,h,e,e⟩ ?_
  rintro m349 fr σ ⟨x308,x325,x326,x328,h,rfl,rfl⟩
  obtain _ | m349 := m349
  ·rw [i_taken_l1] at h; cases h
  rw [i_taken_l1] at h
  refine Run.so hm (.p e (.nil (.seq (.condO e h (fun g352 h => ?_) (fun g352 h => ?_)))))
  ·refine Run.skip (.seq (.block (.so hm (.p e ?_))))
   obtain ⟨x356,hx356,h⟩ := bindO h
   refine Ops.z 17400 (Ev.iaF e e hx356) e e (.p e (.z 17432 (.al e e) e e (.p e (.y 17464 (.sto e e e e e e) e e (.nil (.so hm (.p3 e e e (.p2 e e (.nil (.seq (.seq (.draw hm hmix (.p e (.p e ?_))))))))))))))
   obtain ⟨y361,hy361,h⟩ := bindO h
   refine OpsD.z 25608 (Ev.call [] [4] 0 (sem_i_LogTerm _ _ _ _ hy361) e e (.cons (.agg (.d2 (.cons (.borrow e (by decide) (lendW (fun _ => e) _ e)) .nil))) (.d1 .nil)) e (.inr ⟨e,ownL_root trivial⟩) e e) e e ?_
   refine OpsD.p e (.p e (.p e (.nil ⟨by kernel_rfl,?_⟩)))
   refine Run.condO e h (fun g362 h => ?_) (fun g362 h => ?_)
   ·exact Run.exit (.ops hm (.p2 e e (.nil (⟨m349,Nat.lt_succ_self m349,_,_,(gh_pk [1,3,6,8,17,18,19] [0,1,2,3,4] hB e e e e),_,_,_,_,h,e,e⟩))))
   ·refine Run.skip (.seq (.so hm (.p3 e e e (.p e (.nil (.condO e h (fun g364 h => ?_) (fun g364 h => ?_)))))))
    ·refine Run.so hm (.z 33768 (.bd e e) e e (.y 33784 (.sto e e e e e e) e e (.p e (.nil (.ret ?_)))))
     obtain rfl := someO h
     have h := hk349
     replace h := inlO h
     obtain rfl := someO h
     exact Ends.mkG (.inl e) e (Gh.trans (Gh.trans (gh_prn [0,1] [] hB e) (gh_nil [0] [] hB e e e)) (gh_pk [0,1] [10000000] hB e e e e)) e e
    ·refine Run.skip (.so hm (.p3 e e e ?_))
     obtain ⟨y368,hy368,h⟩ := bindO h
     refine Ops.z 37912 (Ev.call [] [4] 1 (sem_i_logPut _ _ _ _ _ hy368) e e (.cons (.agg (.d2 (.cons (.borrow e (by decide) (lendW (fun _ => e) _ e)) .nil))) (.d1 (.cons (.agg (.d2 (.d1 .nil))) .nil))) e (.inr ⟨e,ownL_root ⟨own_rows (fun _ => e) _,trivial⟩⟩) e e) e e ?_
     refine Ops.p e (.p2 e e (.z 37976 (.al e e) e e (.y 37992 (.sto e e e e e e) e e (.p e (.nil (.seq (.so hm (.p2 e e (.nil (.condO e h (fun g369 h => ?_) (fun g369 h => ?_)))))))))))
     ·refine Run.so hm (.z 46056 (.bd e e) e e (.y 46072 (.sto e e e e e e) e e (.p e (.nil (.ret ?_)))))
      obtain rfl := someO h
      have h := hk349
      replace h := inlO h
      obtain rfl := someO h
      exact Ends.mkG (.inl e) e (Gh.trans (Gh.trans (gh_prn [0,1] [] hB e) (gh_nil [0] [] hB e e e)) (gh_pk [0,1] [10000000] hB e e e e)) e e
     ·exact Run.skip (.ops hm (.p e (.y 50168 (.sto e e e e e e) e e (.nil (.ops hm (.p2 e e (.nil (⟨m349,Nat.lt_succ_self m349,_,_,(gh_pk [1,3,6,8,17,18,19] [0,1,2,3,37912] hB e e e e),_,_,_,_,h,e,e⟩))))))))
  ·refine Run.exit ?_
   obtain rfl := someO h
   have h := hk349
   replace h := inrO h
   exact ⟨_,_,(gh_pk [6,8] [1,2,3,4] hB e e e e),_,h,e,e⟩
 ·refine Run.so hm (.p e (.y 58360 (.sto e e e e e e) e e (.p e (.nil (.ret ?_)))))
  obtain rfl := someO h
  exact Ends.mkG (.inl e) e (gh_pk [0,1] [3] hB e e e e) e e
end Go.Proofs.YtkojbcnafckofaaGreat.Pe.FnNodes
