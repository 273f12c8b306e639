/- Functions,as pure functions; and that Go does just that. -/
import Derived.Test.YtpdfllincphabaaGreatDoorPeFFnExactAct2
namespace Go.Proofs.YtpdfllincphabaaGreatDoor.Pe.FnExactAct
open Go Go.RowKit
set_option linter.unusedVariables false
set_option linter.unusedSimpArgs false
set_option maxHeartbeats 40000000
set_option maxRecDepth 100000
def slices_IndexFunc_session_l1 (N : Nat) (x1 : (List Tsession)) (x2 : Command) : Nat → Int → Option ((Int) ⊕ (Unit))
 | 0,_ => none
 | m + 1,x182 =>
 (if (decide (x182 < (x1.length : Int))) = true then
 (at? x1 x182).bind fun x203 =>
 (impl_acted_1 N x203 x2).bind fun y204 =>
 (if y204 = true then
 some (Sum.inl x182)
 else
 slices_IndexFunc_session_l1 N x1 x2 m (w64 (x182 + 1)))
 else
 some (Sum.inr ()))
def slices_IndexFunc_session_l1_r (N : Nat) (x1 : (List Tsession)) (x2 : Command) : (List Tsession) → Int → Option ((Int) ⊕ (Unit))
 | [],x182 =>
 some (Sum.inr ())
 | hd :: tl,x182 =>
 (some hd).bind fun x203 =>
 (impl_acted_1 N x203 x2).bind fun y204 =>
 (if y204 = true then
 some (Sum.inl x182)
 else
 slices_IndexFunc_session_l1_r N x1 x2 tl (w64 (x182 + 1)))
theorem slices_IndexFunc_session_l1_rng (N : Nat) (x1 : (List Tsession)) (x2 : Command) (hx : x1.length ≤ 1099511627776) : ∀ (d k m : Nat),x1.length = k + d → d < m → slices_IndexFunc_session_l1 N x1 x2 m (k : Int) = slices_IndexFunc_session_l1_r N x1 x2 (x1.drop k) (k : Int) := by
 intro d
 induction d with
 | zero =>
  intro k m hd hm
  obtain ⟨m,rfl⟩ : ∃ q,m = q + 1 := ⟨m - 1,by omega⟩
  rw [slices_IndexFunc_session_l1,if_neg (by simp; omega),List.drop_eq_nil_of_le (by omega),slices_IndexFunc_session_l1_r]
 | succ d ih =>
  intro k m hd hm
  obtain ⟨m,rfl⟩ : ∃ q,m = q + 1 := ⟨m - 1,by omega⟩
  have hk : k < x1.length := by omega
  rw [slices_IndexFunc_session_l1,if_pos (by simp; omega),List.drop_eq_getElem_cons hk,slices_IndexFunc_session_l1_r]
  have h1 := at_lt hk
  have h2 := w64_succ (k := k) (by omega)
  have h3 := ih (k + 1) m
  simp only [h1,h2,h3 (by omega) (by omega)]
theorem slices_IndexFunc_session_l1_eq {N : Nat} (x1 : (List Tsession)) (x2 : Command) (hx : x1.length ≤ 1099511627776) (hN : x1.length < N) : slices_IndexFunc_session_l1 N x1 x2 N 0 = slices_IndexFunc_session_l1_r N x1 x2 x1 0 := slices_IndexFunc_session_l1_rng N x1 x2 hx x1.length 0 N (by omega) hN
def slices_IndexFunc_session (N : Nat) (x1 : (List Tsession)) (x2 : Command) : Option (Int) :=
 joinP (fun (v179 : Unit) =>
 some (-1 : Int)) fun j179 =>
 (slices_IndexFunc_session_l1 N x1 x2 N 0).bind (Sum.elim (fun v196 => some v196) (fun (v197 : Unit) => j179 ()))
theorem sem_slices_IndexFunc_session (N : Nat) (x1 : (List Tsession)) (x2 : Command) (r : Int) (h : slices_IndexFunc_session N x1 x2 = some r) : Says Tryz.prog 42 [RO 70 (x1.map encTsession),.fn 43 [.ptr 0 0]] 1 [(0,.box [VI x2.Op,VI x2.Session,VI x2.Seq,VS x2.Key,VS x2.Value,VS x2.Old])] (VI r) [(0,.box [VI x2.Op,VI x2.Session,VI x2.Seq,VS x2.Key,VS x2.Value,VS x2.Old])] := by
 unfold slices_IndexFunc_session at h
 refine Says.of_norm e Tryz.call42 e fun B hB => ?_
 have hm : B.m ≤ 1000 := by omega
 refine Run.so hm (.p e (.nil (.seqO h (fun v179 => []) (fun (v179 : Unit) => [(0,.box [VI x2.Op,VI x2.Session,VI x2.Seq,VS x2.Key,VS x2.Value,VS x2.Old])]) (fun h => ?_) (fun v179 h => ?_))))
 ·refine Run.so hm (.p e (.z 5112 (Ev.lnF e) e e (.p e (.nil (.block ?_)))))
  obtain ⟨res197,h,hk197⟩ := bindO h
  refine Run.loop (n := N) (fun m197 fr σ => ∃ (x182 : Int),slices_IndexFunc_session_l1 N x1 x2 m197 x182 = some res197 ∧ fr = [(0,RO 70 (x1.map encTsession)),(1,.fn 43 [.ptr 0 0]),(7,VI (x1.length : Int)),(8,VI x182)] ∧ σ = [(0,.box [VI x2.Op,VI x2.Session,VI x2.Seq,VS x2.Key,VS x2.Value,VS x2.Old])]) (gh_pk [0,1,7,8] [0] hB e e e e) ⟨_,h,e,e⟩ ?_
  rintro m197 fr σ ⟨x182,h,rfl,rfl⟩
  obtain _ | m197 := m197
  ·rw [slices_IndexFunc_session_l1] at h; cases h
  rw [slices_IndexFunc_session_l1] at h
  refine Run.so hm (.p e (.nil (.seq (.condO e h (fun g200 h => ?_) (fun g200 h => ?_)))))
  ·refine Run.skip (.seq (.block (.so hm (.p2 e e (.nil (.so hm (.p3 e e e ?_)))))))
   obtain ⟨x203,hx203,h⟩ := bindO h
   refine Ops.z 17432 (Ev.iaF e e hx203) e e (.p e ?_)
   obtain ⟨y204,hy204,h⟩ := bindO h
   refine Ops.z 17464 (Ev.callx [0] [] 0 e (sem_impl_acted_1 _ _ _ _ hy204) e e (.cons (.agg (.d4 .nil)) (.cons (.ptr e) .nil)) e (.inl e) e e) e e (.nil (.condO e h (fun g205 h => ?_) (fun g205 h => ?_)))
   ·refine Run.so hm (.p2 e e (.nil (.ret ?_)))
    obtain rfl := someO h
    have h := hk197
    replace h := inlO h
    obtain rfl := someO h
    exact Ends.mkG (.inl e) e (gh_pk [0] [0] hB e e e e) e e
   ·exact Run.skip (.ops hm (.p2 e e (.nil (⟨m197,Nat.lt_succ_self m197,_,_,(gh_pk [0,1,7,8] [0] hB e e e e),_,h,e,e⟩))))
  ·refine Run.exit ?_
   obtain rfl := someO h
   have h := hk197
   replace h := inrO h
   exact ⟨_,_,(gh_pk [] [0] hB e e e e),(),h,e,e⟩
 ·refine Run.so hm (.p e (.nil (.ret ?_)))
  obtain rfl := someO h
  exact Ends.mkG (.inl e) e (gh_pk [0] [0] hB e e e e) e e
def impl_operated (N : Nat) (x1 : (List Pair)) (x2 : Command) : Option ((List Pair) × ByteArray) :=
 (scat? (⟨#[107]⟩ : ByteArray) x2.Key).bind fun x152 =>
 joinP (fun (v160 : ByteArray × Bool) =>
 (if (x2.Op == 2) = true then
 (if (!v160.2) = true then
 some (x1,(⟨#[110,111,110,101]⟩ : ByteArray))
 else
 (scat? (⟨#[103,111,116,32]⟩ : ByteArray) v160.1).bind fun x185 =>
 some (x1,x185))
 else
 (if (x2.Op == 3) = true then
 (impl_withKey N x1 x152 x2.Value).bind fun y188 =>
 some (y188,(⟨#[112,117,116]⟩ : ByteArray))
 else
 (if (x2.Op == 4) = true then
 (if (!v160.2) = true then
 some (x1,(⟨#[110,111,110,101]⟩ : ByteArray))
 else
 (impl_withoutKey N x1 x152).bind fun y193 =>
 some (y193,(⟨#[99,117,116]⟩ : ByteArray)))
 else
 (if (!decide (v160.1 = x2.Old)) = true then
 some (x1,(⟨#[107,101,112,116]⟩ : ByteArray))
 else
 (impl_withKey N x1 x152 x2.Value).bind fun y197 =>
 some (y197,(⟨#[115,119,97,112,112,101,100]⟩ : ByteArray))))))) fun j160 =>
 (impl_pairNo N x1 x152).bind fun y164 =>
 (if y164.2 = true then
 (at? x1 y164.1).bind fun x167 =>
 j160 (x167.Value,true)
 else
 j160 ((⟨#[]⟩ : ByteArray),false))
theorem sem_impl_operated (N : Nat) (x1 : (List Pair)) (x2 : Command) (r : (List Pair) × ByteArray) (h : impl_operated N x1 x2 = some r) : Says Tryz.prog 44 [RO 53 (x1.map encPair),.agg [VI x2.Op,VI x2.Session,VI x2.Seq,VS x2.Key,VS x2.Value,VS x2.Old]] 0 [] (.tup [RO 53 (r.1.map encPair),VS r.2]) [] := by
 unfold impl_operated at h
 refine Says.of_norm e Tryz.call44 e fun B hB => ?_
 have hm : B.m ≤ 1000 := by omega
 refine Run.so hm (.z 1000 (.bx e e) e e (.p2 e e (.nil (.so hm (.p2 e e ?_)))))
 obtain ⟨x152,hx152,h⟩ := bindO h
 refine Ops.z 5128 (Ev.addS e e hx152) e e (.p e (.nil (.so hm (.p2 e e (.nil (.seqO h (fun v160 => [(0,RO 53 (x1.map encPair)),(3,.ptr 0 0),(6,VS x152),(7,VS v160.1),(8,VB v160.2)]) (fun (v160 : ByteArray × Bool) => [(0,.box [VI x2.Op,VI x2.Session,VI x2.Seq,VS x2.Key,VS x2.Value,VS x2.Old])]) (fun h => ?_) (fun v160 h => ?_)))))))
 ·refine Run.so hm (.p2 e e ?_)
  obtain ⟨y164,hy164,h⟩ := bindO h
  refine Ops.z 13320 (Ev.call [] [] 0 (sem_impl_pairNo _ _ _ _ hy164) e e (.d2 .nil) e (.inl e) e e) e e (.p3 e e e (.p2 e e (.nil (.so hm (.p e (.nil (.condO e h (fun g165 h => ?_) (fun g165 h => ?_))))))))
  ·refine Run.ops hm (.p2 e e ?_)
   obtain ⟨x167,hx167,h⟩ := bindO h
   exact Ops.z 21512 (Ev.iaF e e hx167) e e (.p3 e e e (.p e (.nil (⟨_,_,(gh_pk [0,3,6,7,8] [1000] hB e e e e),_,h,e,e⟩))))
  ·exact Run.skip (⟨_,_,(gh_pk [0,3,6,7,8] [1000] hB e e e e),_,h,e,e⟩)
 ·refine Run.seq (.so hm (.p2 e e (.nil (.block (.so hm (.p2 e e (.nil (.condO e h (fun g181 h => ?_) (fun g181 h => ?_)))))))))
  ·refine Run.seq (.so hm (.p2 e e (.nil (.condO e h (fun g183 h => ?_) (fun g183 h => ?_)))))
   ·refine Run.so hm (.p3 e e e (.nil (.ret ?_)))
    obtain rfl := someO h
    exact Ends.mkG (.inl e) e (Gh.trans (Gh.trans (gh_prn [0,1] [] hB e) (gh_ro [0,1] [] [] [0] e)) (gh_pk [0,1] [] hB e e e e)) (by first | rfl | (simp only [List.length_set,takeMap,List.drop_zero,List.map_nil]; done) | (simp only [List.length_set,takeMap,List.drop_zero,List.map_nil]; rfl)) (by first | rfl | (simp only [List.length_set,takeMap,List.drop_zero,List.map_nil]; done) | (simp only [List.length_set,takeMap,List.drop_zero,List.map_nil]; rfl))
   ·refine Run.skip (.so hm (.p2 e e ?_))
    obtain ⟨x185,hx185,h⟩ := bindO h
    refine Ops.z 41992 (Ev.addS e e hx185) e e (.p2 e e (.nil (.ret ?_)))
    obtain rfl := someO h
    exact Ends.mkG (.inl e) e (Gh.trans (Gh.trans (gh_prn [0,1] [] hB e) (gh_ro [0,1] [] [] [0] e)) (gh_pk [0,1] [] hB e e e e)) (by first | rfl | (simp only [List.length_set,takeMap,List.drop_zero,List.map_nil]; done) | (simp only [List.length_set,takeMap,List.drop_zero,List.map_nil]; rfl)) (by first | rfl | (simp only [List.length_set,takeMap,List.drop_zero,List.map_nil]; done) | (simp only [List.length_set,takeMap,List.drop_zero,List.map_nil]; rfl))
  ·refine Run.so hm (.p2 e e (.nil (.condO e h (fun g186 h => ?_) (fun g186 h => ?_))))
   ·refine Run.so hm (.p3 e e e (.p e ?_))
    obtain ⟨y188,hy188,h⟩ := bindO h
    refine Ops.z 50216 (Ev.call [] [] 1 (sem_impl_withKey _ _ _ _ _ hy188) e e (.d2 (.d1 .nil)) e (.inl e) e e) e e (.p2 e e (.nil (.ret ?_)))
    obtain rfl := someO h
    exact Ends.mkG (.inl e) e (Gh.trans (Gh.trans (Gh.trans ((Gh.frz (f := encPair) (g := encPair) (xs := y188) 50216 (fun _ => e) e)) (gh_prn [0,1] [50216] hB e)) (gh_ro [0,1] [] [50216] [0] e)) (gh_pk [0,1] [] hB e e e e)) (by first | rfl | (simp only [List.length_set,takeMap,List.drop_zero,List.map_nil]; done) | (simp only [List.length_set,takeMap,List.drop_zero,List.map_nil]; rfl)) (by first | rfl | (simp only [List.length_set,takeMap,List.drop_zero,List.map_nil]; done) | (simp only [List.length_set,takeMap,List.drop_zero,List.map_nil]; rfl))
   ·refine Run.so hm (.p2 e e (.nil (.condO e h (fun g189 h => ?_) (fun g189 h => ?_))))
    ·refine Run.seq (.so hm (.p2 e e (.nil (.condO e h (fun g191 h => ?_) (fun g191 h => ?_)))))
     ·refine Run.so hm (.p3 e e e (.nil (.ret ?_)))
      obtain rfl := someO h
      exact Ends.mkG (.inl e) e (Gh.trans (Gh.trans (gh_prn [0,1] [] hB e) (gh_ro [0,1] [] [] [0] e)) (gh_pk [0,1] [] hB e e e e)) (by first | rfl | (simp only [List.length_set,takeMap,List.drop_zero,List.map_nil]; done) | (simp only [List.length_set,takeMap,List.drop_zero,List.map_nil]; rfl)) (by first | rfl | (simp only [List.length_set,takeMap,List.drop_zero,List.map_nil]; done) | (simp only [List.length_set,takeMap,List.drop_zero,List.map_nil]; rfl))
     ·refine Run.skip (.so hm (.p2 e e ?_))
      obtain ⟨y193,hy193,h⟩ := bindO h
      refine Ops.z 66568 (Ev.call [] [] 1 (sem_impl_withoutKey _ _ _ _ hy193) e e (.d2 .nil) e (.inl e) e e) e e (.p2 e e (.nil (.ret ?_)))
      obtain rfl := someO h
      exact Ends.mkG (.inl e) e (Gh.trans (Gh.trans (Gh.trans ((Gh.frz (f := encPair) (g := encPair) (xs := y193) 66568 (fun _ => e) e)) (gh_prn [0,1] [66568] hB e)) (gh_ro [0,1] [] [66568] [0] e)) (gh_pk [0,1] [] hB e e e e)) (by first | rfl | (simp only [List.length_set,takeMap,List.drop_zero,List.map_nil]; done) | (simp only [List.length_set,takeMap,List.drop_zero,List.map_nil]; rfl)) (by first | rfl | (simp only [List.length_set,takeMap,List.drop_zero,List.map_nil]; done) | (simp only [List.length_set,takeMap,List.drop_zero,List.map_nil]; rfl))
    ·refine Run.skip (.seq (.so hm (.p3 e e e (.p e (.nil (.condO e h (fun g195 h => ?_) (fun g195 h => ?_)))))))
     ·refine Run.so hm (.p3 e e e (.nil (.ret ?_)))
      obtain rfl := someO h
      exact Ends.mkG (.inl e) e (Gh.trans (Gh.trans (gh_prn [0,1] [] hB e) (gh_ro [0,1] [] [] [0] e)) (gh_pk [0,1] [] hB e e e e)) (by first | rfl | (simp only [List.length_set,takeMap,List.drop_zero,List.map_nil]; done) | (simp only [List.length_set,takeMap,List.drop_zero,List.map_nil]; rfl)) (by first | rfl | (simp only [List.length_set,takeMap,List.drop_zero,List.map_nil]; done) | (simp only [List.length_set,takeMap,List.drop_zero,List.map_nil]; rfl))
     ·refine Run.skip (.so hm (.p3 e e e (.p e ?_)))
      obtain ⟨y197,hy197,h⟩ := bindO h
      refine Ops.z 78888 (Ev.call [] [] 1 (sem_impl_withKey _ _ _ _ _ hy197) e e (.d2 (.d1 .nil)) e (.inl e) e e) e e (.p2 e e (.nil (.ret ?_)))
      obtain rfl := someO h
      exact Ends.mkG (.inl e) e (Gh.trans (Gh.trans (Gh.trans ((Gh.frz (f := encPair) (g := encPair) (xs := y197) 78888 (fun _ => e) e)) (gh_prn [0,1] [78888] hB e)) (gh_ro [0,1] [] [78888] [0] e)) (gh_pk [0,1] [] hB e e e e)) (by first | rfl | (simp only [List.length_set,takeMap,List.drop_zero,List.map_nil]; done) | (simp only [List.length_set,takeMap,List.drop_zero,List.map_nil]; rfl)) (by first | rfl | (simp only [List.length_set,takeMap,List.drop_zero,List.map_nil]; done) | (simp only [List.length_set,takeMap,List.drop_zero,List.map_nil]; rfl))
def impl_acted (N : Nat) (x1 : (List Pair)) (x2 : Int) (x3 : Command) (x4 : (List Tsession)) : Option ((List Pair) × ByteArray × Bool) :=
 (if (x3.Op == 1) = true then
 (impl_opened N x1 x2 x4).bind fun y145 =>
 some (y145.1,y145.2.1,y145.2.2)
 else
 (slices_IndexFunc_session N x4 x3).bind fun y149 =>
 (if (decide (y149 < 0)) = true then
 some (x1,(⟨#[101,120,112,105,114,101,100]⟩ : ByteArray),true)
 else
 (at? x4 y149).bind fun x164 =>
 (if (decide (x3.Seq < x164.seq)) = true then
 some (x1,(⟨#[115,116,97,108,101]⟩ : ByteArray),true)
 else
 (at? x4 y149).bind fun x167 =>
 (if (x3.Seq == x167.seq) = true then
 (at? x4 y149).bind fun x170 =>
 some (x1,x170.reply,true)
 else
 (at? x4 y149).bind fun x172 =>
 (if (decide (x3.Seq > (w64 (x172.seq + 1)))) = true then
 some (x1,(⟨#[103,97,112]⟩ : ByteArray),true)
 else
 (impl_operated N x1 x3).bind fun y177 =>
 (impl_withSession N y177.1 (Tsession.mk x3.Session x3.Seq x2 y177.2)).bind fun y179 =>
 some (y179,y177.2,true))))))
theorem sem_impl_acted (N : Nat) (x1 : (List Pair)) (x2 : Int) (x3 : Command) (x4 : (List Tsession)) (r : (List Pair) × ByteArray × Bool) (h : impl_acted N x1 x2 x3 x4 = some r) : Says Tryz.prog 28 [RO 53 (x1.map encPair),VI x2,.agg [VI x3.Op,VI x3.Session,VI x3.Seq,VS x3.Key,VS x3.Value,VS x3.Old],RO 70 (x4.map encTsession)] 0 [] (.tup [RO 53 (r.1.map encPair),VS r.2.1,VB r.2.2]) [] := by
 unfold impl_acted at h
 refine Says.of_norm e Tryz.call28 e fun B hB => ?_
 have hm : B.m ≤ 1000 := by omega
 refine Run.so hm (.z 1000 (.bx e e) e e (.p3 e e e (.nil (.seq (.so hm (.p3 e e e (.nil (.condO e h (fun g143 h => ?_) (fun g143 h => ?_)))))))))
 ·refine Run.so hm (.p3 e e e ?_)
  obtain ⟨y145,hy145,h⟩ := bindO h
  refine Ops.z 9240 (Ev.call [] [] 1 (sem_impl_opened _ _ _ _ _ hy145) e e (.d2 (.d1 .nil)) e (.inl e) e e) e e (.p3 e e e (.p3 e e e (.nil (.ret ?_))))
  obtain rfl := someO h
  exact Ends.mkG (.inl e) e (Gh.trans (Gh.trans (Gh.trans ((Gh.frz (f := encPair) (g := encPair) (xs := y145.1) 9240 (fun _ => e) e)) (gh_prn [0,1,2] [9240] hB e)) (gh_ro [0,1,2] [] [9240] [0] e)) (gh_pk [0,1,2] [] hB e e e e)) (by first | rfl | (simp only [List.length_set,takeMap,List.drop_zero,List.map_nil]; done) | (simp only [List.length_set,takeMap,List.drop_zero,List.map_nil]; rfl)) (by first | rfl | (simp only [List.length_set,takeMap,List.drop_zero,List.map_nil]; done) | (simp only [List.length_set,takeMap,List.drop_zero,List.map_nil]; rfl))
 ·refine Run.skip (.so hm (.p2 e e ?_))
  obtain ⟨y149,hy149,h⟩ := bindO h
  refine Ops.z 13320 (Ev.call [1000] [] 0 (sem_slices_IndexFunc_session _ _ _ _ hy149) e e (.d1 (.cons (.fn (.cons (.ptr e) .nil)) .nil)) e (.inl e) e e) e e (.p e (.nil (.seq (.block (.so hm (.p3 e e e (.nil (.condO e h (fun g162 h => ?_) (fun g162 h => ?_)))))))))
  ·refine Run.so hm (.p3 e e e (.p e (.nil (.ret ?_))))
   obtain rfl := someO h
   exact Ends.mkG (.inl e) e (Gh.trans (Gh.trans (gh_prn [0,1,2] [] hB e) (gh_ro [0,1,2] [] [] [0] e)) (gh_pk [0,1,2] [] hB e e e e)) (by first | rfl | (simp only [List.length_set,takeMap,List.drop_zero,List.map_nil]; done) | (simp only [List.length_set,takeMap,List.drop_zero,List.map_nil]; rfl)) (by first | rfl | (simp only [List.length_set,takeMap,List.drop_zero,List.map_nil]; done) | (simp only [List.length_set,takeMap,List.drop_zero,List.map_nil]; rfl))
  ·refine Run.seq (.draw hm hmix (.p e (.p e (.p e (.p e ?_)))))
   obtain ⟨x164,hx164,h⟩ := bindO h
   refine OpsD.z 25640 (Ev.iaF e e hx164) e e (.p e (.p e (.p e (.p e (.nil ⟨by kernel_rfl,?_⟩)))))
   refine Run.condO e h (fun g165 h => ?_) (fun g165 h => ?_)
   ·refine Run.so hm (.p3 e e e (.p e (.nil (.ret ?_))))
    obtain rfl := someO h
    exact Ends.mkG (.inl e) e (Gh.trans (Gh.trans (gh_prn [0,1,2] [] hB e) (gh_ro [0,1,2] [] [] [0] e)) (gh_pk [0,1,2] [] hB e e e e)) (by first | rfl | (simp only [List.length_set,takeMap,List.drop_zero,List.map_nil]; done) | (simp only [List.length_set,takeMap,List.drop_zero,List.map_nil]; rfl)) (by first | rfl | (simp only [List.length_set,takeMap,List.drop_zero,List.map_nil]; done) | (simp only [List.length_set,takeMap,List.drop_zero,List.map_nil]; rfl))
   ·refine Run.seq (.draw hm hmix (.p e (.p e (.p e (.p e ?_)))))
    obtain ⟨x167,hx167,h⟩ := bindO h
    refine OpsD.z 33832 (Ev.iaF e e hx167) e e (.p e (.p e (.p e (.p e (.nil ⟨by kernel_rfl,?_⟩)))))
    refine Run.condO e h (fun g168 h => ?_) (fun g168 h => ?_)
    ·refine Run.seq (.draw hm hmix (.p e (.p e (.p e ?_))))
     obtain ⟨x170,hx170,h⟩ := bindO h
     refine OpsD.z 37912 (Ev.iaF e e hx170) e e (.p e (.p e (.p e (.p e (.p e (.nil ⟨by kernel_rfl,?_⟩))))))
     refine Run.ret ?_
     obtain rfl := someO h
     exact Ends.mkG (.inl e) e (Gh.trans (Gh.trans (gh_prn [0,1,2] [] hB e) (gh_ro [0,1,2] [] [] [0] e)) (gh_pk [0,1,2] [] hB e e e e)) (by first | rfl | (simp only [List.length_set,takeMap,List.drop_zero,List.map_nil]; done) | (simp only [List.length_set,takeMap,List.drop_zero,List.map_nil]; rfl)) (by first | rfl | (simp only [List.length_set,takeMap,List.drop_zero,List.map_nil]; done) | (simp only [List.length_set,takeMap,List.drop_zero,List.map_nil]; rfl))
    ·refine Run.seq (.draw hm hmix (.p e (.p e (.p e (.p e ?_)))))
     obtain ⟨x172,hx172,h⟩ := bindO h
     refine OpsD.z 42024 (Ev.iaF e e hx172) e e (.p e (.p e (.p e (.p e (.p e (.nil ⟨by kernel_rfl,?_⟩))))))
     refine Run.condO e h (fun g173 h => ?_) (fun g173 h => ?_)
     ·refine Run.so hm (.p3 e e e (.p e (.nil (.ret ?_))))
      obtain rfl := someO h
      exact Ends.mkG (.inl e) e (Gh.trans (Gh.trans (gh_prn [0,1,2] [] hB e) (gh_ro [0,1,2] [] [] [0] e)) (gh_pk [0,1,2] [] hB e e e e)) (by first | rfl | (simp only [List.length_set,takeMap,List.drop_zero,List.map_nil]; done) | (simp only [List.length_set,takeMap,List.drop_zero,List.map_nil]; rfl)) (by first | rfl | (simp only [List.length_set,takeMap,List.drop_zero,List.map_nil]; done) | (simp only [List.length_set,takeMap,List.drop_zero,List.map_nil]; rfl))
     ·refine Run.skip (.so hm (.p2 e e ?_))
      obtain ⟨y177,hy177,h⟩ := bindO h
      refine Ops.z 50184 (Ev.call [] [] 0 (sem_impl_operated _ _ _ _ hy177) e e (.d1 (.cons (.agg (.d4 (.d2 .nil))) .nil)) e (.inl e) e e) e e (.p3 e e e (.p2 e e (.nil (.so hm (.p3 e e e (.p3 e e e (.p e (.z 54360 (.bd e e) e e ?_))))))))
      obtain ⟨y179,hy179,h⟩ := bindO h
      refine Ops.z 54376 (Ev.call [] [] 1 (sem_impl_withSession _ _ _ _ hy179) e e (.d1 (.cons (.agg (.d4 .nil)) .nil)) e (.inl e) e e) e e (.p3 e e e (.p e (.nil (.ret ?_))))
      obtain rfl := someO h
      exact Ends.mkG (.inl e) e (Gh.trans (Gh.trans (Gh.trans ((Gh.frz (f := encPair) (g := encPair) (xs := y179) 54376 (fun _ => e) e)) (gh_prn [0,1,2] [54376] hB e)) (gh_ro [0,1,2] [] [54376] [0] e)) (gh_pk [0,1,2] [] hB e e e e)) (by first | rfl | (simp only [List.length_set,takeMap,List.drop_zero,List.map_nil]; done) | (simp only [List.length_set,takeMap,List.drop_zero,List.map_nil]; rfl)) (by first | rfl | (simp only [List.length_set,takeMap,List.drop_zero,List.map_nil]; done) | (simp only [List.length_set,takeMap,List.drop_zero,List.map_nil]; rfl))
def impl_acted_i1 (N : Nat) (x1 : (List Pair)) (x2 : Int) (x3 : Command) (x4 : (List Tsession)) : Option ((List Pair) × ByteArray × Bool) :=
 (if (x3.Op == 1) = true then
 (impl_opened N x1 x2 x4).bind fun y145 =>
 some (y145.1,y145.2.1,y145.2.2)
 else
 (slices_IndexFunc_session N x4 x3).bind fun y149 =>
 (if (decide (y149 < 0)) = true then
 some (x1,(⟨#[101,120,112,105,114,101,100]⟩ : ByteArray),true)
 else
 (at? x4 y149).bind fun x164 =>
 (if (decide (x3.Seq < x164.seq)) = true then
 some (x1,(⟨#[115,116,97,108,101]⟩ : ByteArray),true)
 else
 (at? x4 y149).bind fun x167 =>
 (if (x3.Seq == x167.seq) = true then
 (at? x4 y149).bind fun x170 =>
 some (x1,x170.reply,true)
 else
 (at? x4 y149).bind fun x172 =>
 (if (decide (x3.Seq > (w64 (x172.seq + 1)))) = true then
 some (x1,(⟨#[103,97,112]⟩ : ByteArray),true)
 else
 (impl_operated N x1 x3).bind fun y177 =>
 (impl_withSession N y177.1 (Tsession.mk x3.Session x3.Seq x2 y177.2)).bind fun y179 =>
 some (y179,y177.2,true))))))
theorem sem_impl_acted_i1 (N : Nat) (x1 : (List Pair)) (x2 : Int) (x3 : Command) (x4 : (List Tsession)) (r : (List Pair) × ByteArray × Bool) (h : impl_acted_i1 N x1 x2 x3 x4 = some r) : Says Tryz.prog 28 [RO 53 (x1.map encPair),VI x2,.agg [VI x3.Op,VI x3.Session,VI x3.Seq,VS x3.Key,VS x3.Value,VS x3.Old],.sl 0 70 0 x4.length] 1 [(0,.vec 70 (x4.map encTsession))] (.tup [RO 53 (r.1.map encPair),VS r.2.1,VB r.2.2]) [(0,.vec 70 (x4.map encTsession))] := by
 unfold impl_acted_i1 at h
 refine Says.of_norm e Tryz.call28 e fun B hB => ?_
 have hm : B.m ≤ 1000 := by omega
 refine Run.so hm (.z 1000 (.bx e e) e e (.p3 e e e (.nil (.seq (.so hm (.p3 e e e (.nil (.condO e h (fun g143 h => ?_) (fun g143 h => ?_)))))))))
 ·refine Run.so hm (.p3 e e e ?_)
  obtain ⟨y145,hy145,h⟩ := bindO h
  refine Ops.z 9240 (Ev.call [] [0] 1 (sem_impl_opened _ _ _ _ _ hy145) e e (.d2 (.cons (.borrow e (by decide) (lendW (fun _ => e) _ e)) .nil)) e (.inr ⟨e,ownL_root ⟨own_rows (fun _ => e) _,trivial⟩⟩) e e) e e ?_
  refine Ops.p e (.p3 e e e (.p2 e e (.nil (.ret ?_))))
  obtain rfl := someO h
  exact Ends.mkG (.inl e) e (Gh.trans (Gh.trans (Gh.trans ((Gh.frz (f := encPair) (g := encPair) (xs := y145.1) 9240 (fun _ => e) e)) (gh_prn [0,1,2] [0,9240] hB e)) (gh_ro [0,1,2] [] [9240] [0] e)) (gh_pk [0,1,2] [0] hB e e e e)) (by first | rfl | (simp only [List.length_set,takeMap,List.drop_zero,List.map_nil]; done) | (simp only [List.length_set,takeMap,List.drop_zero,List.map_nil]; rfl)) (by first | rfl | (simp only [List.length_set,takeMap,List.drop_zero,List.map_nil]; done) | (simp only [List.length_set,takeMap,List.drop_zero,List.map_nil]; rfl))
 ·refine Run.skip (.so hm (.p2 e e ?_))
  obtain ⟨y149,hy149,h⟩ := bindO h
  refine Ops.z 13320 (Ev.call [1000] [0] 0 (sem_slices_IndexFunc_session _ _ _ _ hy149) e e (.cons (.borrow e (by decide) (lendW (fun _ => e) _ e)) (.cons (.fn (.cons (.ptr e) .nil)) .nil)) e (.inr ⟨e,ownL_root ⟨e,trivial⟩⟩) e e) e e ?_
  refine Ops.p e (.nil (.seq (.block (.so hm (.p3 e e e (.nil (.condO e h (fun g162 h => ?_) (fun g162 h => ?_))))))))
  ·refine Run.so hm (.p3 e e e (.p e (.nil (.ret ?_))))
   obtain rfl := someO h
   exact Ends.mkG (.inl e) e (Gh.trans (Gh.trans (gh_prn [0,1,2] [0] hB e) (gh_ro [0,1,2] [] [] [0] e)) (gh_pk [0,1,2] [0] hB e e e e)) (by first | rfl | (simp only [List.length_set,takeMap,List.drop_zero,List.map_nil]; done) | (simp only [List.length_set,takeMap,List.drop_zero,List.map_nil]; rfl)) (by first | rfl | (simp only [List.length_set,takeMap,List.drop_zero,List.map_nil]; done) | (simp only [List.length_set,takeMap,List.drop_zero,List.map_nil]; rfl))
  ·refine Run.seq (.draw hm hmix (.p e (.p e (.p e (.p e ?_)))))
   obtain ⟨x164,hx164,h⟩ := bindO h
   refine OpsD.z 25640 (Ev.iaW e e e hx164) e e (.p e (.z 25672 (Ev.ldE (f := encTsession) e e (at_some hx164).2 e e e) e e (.p e (.p e (.nil ⟨by kernel_rfl,?_⟩)))))
   refine Run.condO e h (fun g165 h => ?_) (fun g165 h => ?_)
   ·refine Run.so hm (.p3 e e e (.p e (.nil (.ret ?_))))
    obtain rfl := someO h
    exact Ends.mkG (.inl e) e (Gh.trans (Gh.trans (gh_prn [0,1,2] [0] hB e) (gh_ro [0,1,2] [] [] [0] e)) (gh_pk [0,1,2] [0] hB e e e e)) (by first | rfl | (simp only [List.length_set,takeMap,List.drop_zero,List.map_nil]; done) | (simp only [List.length_set,takeMap,List.drop_zero,List.map_nil]; rfl)) (by first | rfl | (simp only [List.length_set,takeMap,List.drop_zero,List.map_nil]; done) | (simp only [List.length_set,takeMap,List.drop_zero,List.map_nil]; rfl))
   ·refine Run.seq (.draw hm hmix (.p e (.p e (.p e (.p e ?_)))))
    obtain ⟨x167,hx167,h⟩ := bindO h
    refine OpsD.z 33832 (Ev.iaW e e e hx167) e e (.p e (.z 33864 (Ev.ldE (f := encTsession) e e (at_some hx167).2 e e e) e e (.p e (.p e (.nil ⟨by kernel_rfl,?_⟩)))))
    refine Run.condO e h (fun g168 h => ?_) (fun g168 h => ?_)
    ·refine Run.seq (.draw hm hmix (.p e (.p e (.p e ?_))))
     obtain ⟨x170,hx170,h⟩ := bindO h
     refine OpsD.z 37912 (Ev.iaW e e e hx170) e e (.p e (.z 37944 (Ev.ldE (f := encTsession) e e (at_some hx170).2 e e e) e e (.p e (.p e (.p e (.nil ⟨by kernel_rfl,?_⟩))))))
     refine Run.ret ?_
     obtain rfl := someO h
     exact Ends.mkG (.inl e) e (Gh.trans (Gh.trans (gh_prn [0,1,2] [0] hB e) (gh_ro [0,1,2] [] [] [0] e)) (gh_pk [0,1,2] [0] hB e e e e)) (by first | rfl | (simp only [List.length_set,takeMap,List.drop_zero,List.map_nil]; done) | (simp only [List.length_set,takeMap,List.drop_zero,List.map_nil]; rfl)) (by first | rfl | (simp only [List.length_set,takeMap,List.drop_zero,List.map_nil]; done) | (simp only [List.length_set,takeMap,List.drop_zero,List.map_nil]; rfl))
    ·refine Run.seq (.draw hm hmix (.p e (.p e (.p e (.p e ?_)))))
     obtain ⟨x172,hx172,h⟩ := bindO h
     refine OpsD.z 42024 (Ev.iaW e e e hx172) e e (.p e (.z 42056 (Ev.ldE (f := encTsession) e e (at_some hx172).2 e e e) e e (.p e (.p e (.p e (.nil ⟨by kernel_rfl,?_⟩))))))
     refine Run.condO e h (fun g173 h => ?_) (fun g173 h => ?_)
     ·refine Run.so hm (.p3 e e e (.p e (.nil (.ret ?_))))
      obtain rfl := someO h
      exact Ends.mkG (.inl e) e (Gh.trans (Gh.trans (gh_prn [0,1,2] [0] hB e) (gh_ro [0,1,2] [] [] [0] e)) (gh_pk [0,1,2] [0] hB e e e e)) (by first | rfl | (simp only [List.length_set,takeMap,List.drop_zero,List.map_nil]; done) | (simp only [List.length_set,takeMap,List.drop_zero,List.map_nil]; rfl)) (by first | rfl | (simp only [List.length_set,takeMap,List.drop_zero,List.map_nil]; done) | (simp only [List.length_set,takeMap,List.drop_zero,List.map_nil]; rfl))
     ·refine Run.skip (.so hm (.p2 e e ?_))
      obtain ⟨y177,hy177,h⟩ := bindO h
      refine Ops.z 50184 (Ev.call [] [] 0 (sem_impl_operated _ _ _ _ hy177) e e (.d1 (.cons (.agg (.d4 (.d2 .nil))) .nil)) e (.inl e) e e) e e (.p3 e e e (.p2 e e (.nil (.so hm (.p3 e e e (.p3 e e e (.p e (.z 54360 (.bd e e) e e ?_))))))))
      obtain ⟨y179,hy179,h⟩ := bindO h
      refine Ops.z 54376 (Ev.call [] [] 1 (sem_impl_withSession _ _ _ _ hy179) e e (.d1 (.cons (.agg (.d4 .nil)) .nil)) e (.inl e) e e) e e (.p3 e e e (.p e (.nil (.ret ?_))))
      obtain rfl := someO h
      exact Ends.mkG (.inl e) e (Gh.trans (Gh.trans (Gh.trans ((Gh.frz (f := encPair) (g := encPair) (xs := y179) 54376 (fun _ => e) e)) (gh_prn [0,1,2] [0,54376] hB e)) (gh_ro [0,1,2] [] [54376] [0] e)) (gh_pk [0,1,2] [0] hB e e e e)) (by first | rfl | (simp only [List.length_set,takeMap,List.drop_zero,List.map_nil]; done) | (simp only [List.length_set,takeMap,List.drop_zero,List.map_nil]; rfl)) (by first | rfl | (simp only [List.length_set,takeMap,List.drop_zero,List.map_nil]; done) | (simp only [List.length_set,takeMap,List.drop_zero,List.map_nil]; rfl))
def impl_Act (N : Nat) (x1 : (List Pair)) (x2 : Int) (x3 : Command) : Option ((List Pair) × ByteArray × Bool) :=
 (impl_sessionsOf N x1).bind fun y149 =>
 (impl_MapOk N x1).bind fun y169 =>
 (if (!y169) = true then
 some ([],(⟨#[]⟩ : ByteArray),false)
 else
 (impl_CommandOk N x3).bind fun y171 =>
 (if (!y171) = true then
 some ([],(⟨#[]⟩ : ByteArray),false)
 else
 (impl_within N x2 0 100000).bind fun y173 =>
 (if (!y173) = true then
 some ([],(⟨#[]⟩ : ByteArray),false)
 else
 (if (!y149.2) = true then
 some ([],(⟨#[]⟩ : ByteArray),false)
 else
 (impl_acted_i1 N x1 x2 x3 y149.1).bind fun y179 =>
 (if (!y179.2.2) = true then
 some ([],(⟨#[]⟩ : ByteArray),false)
 else
 (impl_MapOk N y179.1).bind fun y188 =>
 (if (!y188) = true then
 some ([],(⟨#[]⟩ : ByteArray),false)
 else
 (cat? ([] : List Pair) y179.1).bind fun x191 =>
 some (x191,y179.2.1,true)))))))
theorem sem_impl_Act (N : Nat) (x1 : (List Pair)) (x2 : Int) (x3 : Command) (r : (List Pair) × ByteArray × Bool) (h : impl_Act N x1 x2 x3 = some r) : Says Tryz.prog 9 [RO 53 (x1.map encPair),VI x2,.agg [VI x3.Op,VI x3.Session,VI x3.Seq,VS x3.Key,VS x3.Value,VS x3.Old]] 0 [] (.tup [.sl 0 53 0 r.1.length,VS r.2.1,VB r.2.2]) [(0,.vec 53 (r.1.map encPair))] := by
 unfold impl_Act at h
 refine Says.of_norm e Tryz.call9 e fun B hB => ?_
 have hm : B.m ≤ 1000 := by omega
 refine Run.so hm (.z 1000 (.bx e e) e e (.p3 e e e (.nil (.so hm (.p e ?_)))))
 obtain ⟨y149,hy149,h⟩ := bindO h
 refine Ops.z 5112 (Ev.call [] [] 1 (sem_impl_sessionsOf _ _ _ hy149) e e (.d1 .nil) e (.inl e) e e) e e (.p3 e e e (.p2 e e (.nil (.seq (.so hm (.p e ?_))))))
 obtain ⟨y169,hy169,h⟩ := bindO h
 refine Ops.z 9208 (Ev.call [] [] 0 (sem_impl_MapOk _ _ _ hy169) e e (.d1 .nil) e (.inl e) e e) e e (.p2 e e (.askO (x := .t 22) e h (fun g170 h => ?_) (fun g170 h => ?_)))
 ·refine Ops.gn e g170 (.gn e g170 (.gn e g170 (.z 9304 (.pkT e g170 e) e e (.p e (.gn e e (.gn e e (.gn e e (.z 9384 (.pkT e e e) e e (.p e (.gn e e (.gn e e (.z 9448 (.pkT e e e) e e (.nil (.condT e e (.so hm (.p3 e e e (.nil (.ret ?_))))))))))))))))))
  obtain rfl := someO h
  exact Ends.mkG (.inl e) e (Gh.trans (Gh.trans (gh_prn [0,1,2] [] hB e) (gh_nil [0] [] hB e e e)) (gh_pk [0,1,2] [10000000] hB e e e e)) e e
 ·refine Ops.gp e g170 e ?_
  obtain ⟨y171,hy171,h⟩ := bindO h
  refine Ops.gs (s := 9272) e g170 (Ev.call [] [] 0 (sem_impl_CommandOk _ _ _ hy171) e e (.cons (.agg (.d4 (.d2 .nil))) .nil) e (.inl e) e e) e e (.gp e g170 e (.z 9304 (.pkF e g170 e) e e (.p e (.askO (x := .t 27) e h (fun g172 h => ?_) (fun g172 h => ?_)))))
  ·refine Ops.gn e g172 (.gn e g172 (.gn e g172 (.z 9384 (.pkT e g172 e) e e (.p e (.gn e e (.gn e e (.z 9448 (.pkT e e e) e e (.nil (.condT e e (.so hm (.p3 e e e (.nil (.ret ?_)))))))))))))
   obtain rfl := someO h
   exact Ends.mkG (.inl e) e (Gh.trans (Gh.trans (gh_prn [0,1,2] [] hB e) (gh_nil [0] [] hB e e e)) (gh_pk [0,1,2] [10000000] hB e e e e)) e e
  ·refine Ops.gp e g172 e ?_
   obtain ⟨y173,hy173,h⟩ := bindO h
   refine Ops.gs (s := 9352) e g172 (Ev.call [] [] 0 (sem_impl_within _ _ _ _ _ hy173) e e (.d2 (.d1 .nil)) e (.inl e) e e) e e (.gp e g172 e (.z 9384 (.pkF e g172 e) e e (.p e (.askO (x := .t 32) e h (fun g174 h => ?_) (fun g174 h => ?_)))))
   ·refine Ops.gn e g174 (.gn e g174 (.z 9448 (.pkT e g174 e) e e (.nil (.condT e e (.so hm (.p3 e e e (.nil (.ret ?_))))))))
    obtain rfl := someO h
    exact Ends.mkG (.inl e) e (Gh.trans (Gh.trans (gh_prn [0,1,2] [] hB e) (gh_nil [0] [] hB e e e)) (gh_pk [0,1,2] [10000000] hB e e e e)) e e
   ·refine Ops.gp e g174 e (.gp e g174 e (.z 9448 (.pkF e g174 e) e e (.nil (.condO e h (fun g175 h => ?_) (fun g175 h => ?_)))))
    ·refine Run.so hm (.p3 e e e (.nil (.ret ?_)))
     obtain rfl := someO h
     exact Ends.mkG (.inl e) e (Gh.trans (Gh.trans (gh_prn [0,1,2] [] hB e) (gh_nil [0] [] hB e e e)) (gh_pk [0,1,2] [10000000] hB e e e e)) e e
    ·refine Run.skip (.so hm (.p3 e e e (.p e ?_)))
     obtain ⟨y179,hy179,h⟩ := bindO h
     refine Ops.z 17448 (Ev.call [5112] [] 0 (sem_impl_acted_i1 _ _ _ _ _ _ hy179) e e (.d2 (.cons (.agg (.d4 (.d2 .nil))) (.cons (.sl e) .nil))) e (.inl e) e e) e e (.p3 e e e (.p3 e e e (.p e (.nil (.seq (.so hm (.p3 e e e (.askO (x := .t 47) e h (fun g187 h => ?_) (fun g187 h => ?_)))))))))
     ·refine Ops.gn e g187 (.gn e g187 (.gn e g187 (.z 21576 (.pkT e g187 e) e e (.nil (.condT e e (.so hm (.p3 e e e (.nil (.ret ?_)))))))))
      obtain rfl := someO h
      exact Ends.mkG (.inl e) e (Gh.trans (Gh.trans (gh_prn [0,1,2] [] hB e) (gh_nil [0] [] hB e e e)) (gh_pk [0,1,2] [10000000] hB e e e e)) e e
     ·refine Ops.gp e g187 e ?_
      obtain ⟨y188,hy188,h⟩ := bindO h
      refine Ops.gs (s := 21544) e g187 (Ev.call [] [] 0 (sem_impl_MapOk _ _ _ hy188) e e (.d1 .nil) e (.inl e) e e) e e (.gp e g187 e (.z 21576 (.pkF e g187 e) e e (.nil (.condO e h (fun g189 h => ?_) (fun g189 h => ?_)))))
      ·refine Run.so hm (.p3 e e e (.nil (.ret ?_)))
       obtain rfl := someO h
       exact Ends.mkG (.inl e) e (Gh.trans (Gh.trans (gh_prn [0,1,2] [] hB e) (gh_nil [0] [] hB e e e)) (gh_pk [0,1,2] [10000000] hB e e e e)) e e
      ·refine Run.skip (.so hm (.p e ?_))
       obtain ⟨x191,hx191,h⟩ := bindO h
       refine Ops.z 29688 (Ev.apW (f := encPair) (ontoN (f := encPair) e) (addsF e) e bt53 e hx191) e e (.p3 e e e (.p e (.nil (.ret ?_))))
       obtain rfl := someO h
       exact Ends.mkG (.inl e) e (gh_pk [0,1,2] [29688] hB e e e e) e e
def laws_eqPair (N : Nat) (x1 : Pair) (x2 : Pair) : Option (Bool) :=
 (if (!decide (x1.Key = x2.Key)) = true then
 some false
 else
 (if (!decide (x1.Value = x2.Value)) = true then
 some false
 else
 some true))
theorem sem_laws_eqPair (N : Nat) (x1 : Pair) (x2 : Pair) (r : Bool) (h : laws_eqPair N x1 x2 = some r) : Says Tryz.prog 29 [.agg [VS x1.Key,VS x1.Value],.agg [VS x2.Key,VS x2.Value]] 0 [] (VB r) [] := by
 unfold laws_eqPair at h
 refine Says.of_norm e Tryz.call29 e fun B hB => ?_
 have hm : B.m ≤ 1000 := by omega
 refine Run.so hm (.z 1000 (.bx e e) e e (.z 1016 (.bx e e) e e (.p e (.nil (.seq (.so hm (.p3 e e e (.p2 e e (.nil (.condO e h (fun g104 h => ?_) (fun g104 h => ?_)))))))))))
 ·refine Run.so hm (.p e (.nil (.ret ?_)))
  obtain rfl := someO h
  exact Ends.mkG (.inl e) e (gh_pk [0] [] hB e e e e) e e
 ·refine Run.skip (.seq (.so hm (.p3 e e e (.p2 e e (.nil (.condO e h (fun g105 h => ?_) (fun g105 h => ?_)))))))
  ·refine Run.so hm (.p e (.nil (.ret ?_)))
   obtain rfl := someO h
   exact Ends.mkG (.inl e) e (gh_pk [0] [] hB e e e e) e e
  ·refine Run.skip (.so hm (.p e (.nil (.ret ?_))))
   obtain rfl := someO h
   exact Ends.mkG (.inl e) e (gh_pk [0] [] hB e e e e) e e
def laws_eqPairS_l1 (N : Nat) (x1 : (List Pair)) (x2 : (List Pair)) : Nat → Int → Option ((Bool) ⊕ (Unit))
 | 0,_ => none
 | m + 1,x222 =>
 (if (decide (x222 < (x1.length : Int))) = true then
 (at? x1 x222).bind fun x254 =>
 (at? x2 x222).bind fun x255 =>
 (laws_eqPair N x254 x255).bind fun y256 =>
 (if (!y256) = true then
 some (Sum.inl false)
 else
 laws_eqPairS_l1 N x1 x2 m (w64 (x222 + 1)))
 else
 some (Sum.inr ()))
def laws_eqPairS_l1_r (N : Nat) (x1 : (List Pair)) (x2 : (List Pair)) : (List Pair) → Int → Option ((Bool) ⊕ (Unit))
 | [],x222 =>
 some (Sum.inr ())
 | hd :: tl,x222 =>
 (some hd).bind fun x254 =>
 (at? x2 x222).bind fun x255 =>
 (laws_eqPair N x254 x255).bind fun y256 =>
 (if (!y256) = true then
 some (Sum.inl false)
 else
 laws_eqPairS_l1_r N x1 x2 tl (w64 (x222 + 1)))
theorem laws_eqPairS_l1_rng (N : Nat) (x1 : (List Pair)) (x2 : (List Pair)) (hx : x1.length ≤ 1099511627776) : ∀ (d k m : Nat),x1.length = k + d → d < m → laws_eqPairS_l1 N x1 x2 m (k : Int) = laws_eqPairS_l1_r N x1 x2 (x1.drop k) (k : Int) := by
 intro d
 induction d with
 | zero =>
  intro k m hd hm
  obtain ⟨m,rfl⟩ : ∃ q,m = q + 1 := ⟨m - 1,by omega⟩
  rw [laws_eqPairS_l1,if_neg (by simp; omega),List.drop_eq_nil_of_le (by omega),laws_eqPairS_l1_r]
 | succ d ih =>
  intro k m hd hm
  obtain ⟨m,rfl⟩ : ∃ q,m = q + 1 := ⟨m - 1,by omega⟩
  have hk : k < x1.length := by omega
  rw [laws_eqPairS_l1,if_pos (by simp; omega),List.drop_eq_getElem_cons hk,laws_eqPairS_l1_r]
  have h1 := at_lt hk
  have h2 := w64_succ (k := k) (by omega)
  have h3 := ih (k + 1) m
  simp only [h1,h2,h3 (by omega) (by omega)]
theorem laws_eqPairS_l1_eq {N : Nat} (x1 : (List Pair)) (x2 : (List Pair)) (hx : x1.length ≤ 1099511627776) (hN : x1.length < N) : laws_eqPairS_l1 N x1 x2 N 0 = laws_eqPairS_l1_r N x1 x2 x1 0 := laws_eqPairS_l1_rng N x1 x2 hx x1.length 0 N (by omega) hN
def laws_eqPairS (N : Nat) (x1 : (List Pair)) (x2 : (List Pair)) : Option (Bool) :=
 (if ((x1.length : Int) != (x2.length : Int)) = true then
 some false
 else
 joinP (fun (v219 : Unit) =>
 some true) fun j219 =>
 (laws_eqPairS_l1 N x1 x2 N 0).bind (Sum.elim (fun v239 => some v239) (fun (v240 : Unit) => j219 ())))
theorem sem_laws_eqPairS (N : Nat) (x1 : (List Pair)) (x2 : (List Pair)) (r : Bool) (h : laws_eqPairS N x1 x2 = some r) : Says Tryz.prog 10 [RO 53 (x1.map encPair),RO 53 (x2.map encPair)] 0 [] (VB r) [] := by
 unfold laws_eqPairS at h
 refine Says.of_norm e Tryz.call10 e fun B hB => ?_
 have hm : B.m ≤ 1000 := by omega
 refine Run.so hm (.p e (.nil (.seq (.so hm (.p e (.z 5112 (Ev.lnF e) e e (.p e (.z 5144 (Ev.lnF e) e e (.p e (.nil (.condO e h (fun g180 h => ?_) (fun g180 h => ?_))))))))))))
 ·refine Run.so hm (.p e (.nil (.ret ?_)))
  obtain rfl := someO h
  exact Ends.mkG (.inl e) e (gh_pk [0] [] hB e e e e) e e
 ·refine Run.skip (.seqO h (fun v219 => []) (fun (v219 : Unit) => []) (fun h => ?_) (fun v219 h => ?_))
  ·refine Run.so hm (.p e (.nil (.block ?_)))
   obtain ⟨res240,h,hk240⟩ := bindO h
   refine Run.loop (n := N) (fun m240 fr σ => ∃ (x222 : Int),laws_eqPairS_l1 N x1 x2 m240 x222 = some res240 ∧ fr = [(0,RO 53 (x1.map encPair)),(1,RO 53 (x2.map encPair)),(5,VI x222)] ∧ σ = []) (gh_pk [0,1,5] [] hB e e e e) ⟨_,h,e,e⟩ ?_
   rintro m240 fr σ ⟨x222,h,rfl,rfl⟩
   obtain _ | m240 := m240
   ·rw [laws_eqPairS_l1] at h; cases h
   rw [laws_eqPairS_l1] at h
   refine Run.seq (.so hm (.p2 e e (.z 17416 (Ev.lnF e) e e (.p e (.nil (.condO e h (fun g243 h => ?_) (fun g243 h => ?_)))))))
   ·refine Run.skip (.seq (.block (.seq (.draw hm hmix (.p e (.p e ?_))))))
    obtain ⟨x254,hx254,h⟩ := bindO h
    refine OpsD.z 25608 (Ev.iaF e e hx254) e e (.p e (.p e (.p e ?_)))
    obtain ⟨x255,hx255,h⟩ := bindO h
    refine OpsD.z 25672 (Ev.iaF e e hx255) e e (.p e ?_)
    obtain ⟨y256,hy256,h⟩ := bindO h
    refine OpsD.z 25704 (Ev.call [] [] 0 (sem_laws_eqPair _ _ _ _ hy256) e e (.cons (.agg (.d2 .nil)) (.cons (.agg (.d2 .nil)) .nil)) e (.inl e) e e) e e (.p e (.nil ⟨by kernel_rfl,?_⟩))
    refine Run.condO e h (fun g257 h => ?_) (fun g257 h => ?_)
    ·refine Run.so hm (.p e (.nil (.ret ?_)))
     obtain rfl := someO h
     have h := hk240
     replace h := inlO h
     obtain rfl := someO h
     exact Ends.mkG (.inl e) e (gh_pk [0] [] hB e e e e) e e
    ·exact Run.skip (.ops hm (.p3 e e e (.nil (⟨m240,Nat.lt_succ_self m240,_,_,(gh_pk [0,1,5] [] hB e e e e),_,h,e,e⟩))))
   ·refine Run.exit ?_
    obtain rfl := someO h
    have h := hk240
    replace h := inrO h
    exact ⟨_,_,(gh_pk [] [] hB e e e e),(),h,e,e⟩
  ·refine Run.so hm (.p e (.nil (.ret ?_)))
   obtain rfl := someO h
   exact Ends.mkG (.inl e) e (gh_pk [0] [] hB e e e e) e e
def laws_markText_l1 (N : Nat) : Nat → Int → ByteArray → Option (ByteArray)
 | 0,_,_ => none
 | m + 1,x192,x193 =>
 (if (decide (x192 > 0)) = true then
 (intD .rem .i64 x192 10).bind fun x216 =>
 (scat? (strOf ([IntKind.wrap .u8 (w64 (48 + x216))] : List Int)) x193).bind fun x217 =>
 (intD .quo .i64 x192 10).bind fun x219 =>
 laws_markText_l1 N m x219 x217
 else
 some x193)
def laws_markText (N : Nat) (x1 : Int) : Option (ByteArray) :=
 (if (decide (x1 ≤ 0)) = true then
 some (⟨#[109,48]⟩ : ByteArray)
 else
 joinP (fun (v191 : ByteArray) =>
 (scat? (⟨#[109]⟩ : ByteArray) v191).bind fun x221 =>
 some x221) fun j191 =>
 (laws_markText_l1 N N x1 (⟨#[]⟩ : ByteArray)).bind (fun v206 => j191 v206))
theorem sem_laws_markText (N : Nat) (x1 : Int) (r : ByteArray) (h : laws_markText N x1 = some r) : Says Tryz.prog 30 [VI x1] 0 [] (VS r) [] := by
 unfold laws_markText at h
 refine Says.of_norm e Tryz.call30 e fun B hB => ?_
 have hm : B.m ≤ 1000 := by omega
 refine Run.so hm (.p e (.nil (.seq (.so hm (.p2 e e (.nil (.condO e h (fun g162 h => ?_) (fun g162 h => ?_))))))))
 ·refine Run.so hm (.p e (.nil (.ret ?_)))
  obtain rfl := someO h
  exact Ends.mkG (.inl e) e (gh_pk [0] [] hB e e e e) e e
 ·refine Run.skip (.so hm (.p e (.nil (.seqO h (fun v191 => [(3,VS v191)]) (fun (v191 : ByteArray) => []) (fun h => ?_) (fun v191 h => ?_)))))
  ·refine Run.block ?_
   obtain ⟨res206,h,hk206⟩ := bindO h
   refine Run.loop (n := N) (fun m206 fr σ => ∃ (x192 : Int),∃ (x193 : ByteArray),laws_markText_l1 N m206 x192 x193 = some res206 ∧ fr = [(0,VI x192),(3,VS x193)] ∧ σ = []) (gh_pk [0,3] [] hB e e e e) ⟨_,_,h,e,e⟩ ?_
   rintro m206 fr σ ⟨x192,x193,h,rfl,rfl⟩
   obtain _ | m206 := m206
   ·rw [laws_markText_l1] at h; cases h
   rw [laws_markText_l1] at h
   refine Run.seq (.so hm (.p2 e e (.nil (.condO e h (fun g209 h => ?_) (fun g209 h => ?_)))))
   ·refine Run.skip (.block (.so hm (.p e ?_)))
    obtain ⟨x216,hx216,h⟩ := bindO h
    refine Ops.z 21496 (.bin e e hx216) e e (.p2 e e (.z 21544 (Ev.bsW (ys := ([IntKind.wrap .u8 (w64 (48 + x216))] : List Int)) (f := encU) e (.d1 .nil) e e e e e) e e (.z 21560 (.sbC (addsW (f := encU) e e e (fun _ => e))) e e (.p e ?_))))
    obtain ⟨x217,hx217,h⟩ := bindO h
    refine Ops.z 21592 (Ev.addS e e hx217) e e (.p e (.nil (.ops hm (.p e ?_))))
    obtain ⟨x219,hx219,h⟩ := bindO h
    exact Ops.z 25592 (.bin e e hx219) e e (.p e (.nil (⟨m206,Nat.lt_succ_self m206,_,_,(gh_pk [0,3] [] hB e e e e),_,_,h,e,e⟩)))
   ·refine Run.exit ?_
    obtain rfl := someO h
    have h := hk206
    exact ⟨_,_,(gh_pk [3] [] hB e e e e),_,h,e,e⟩
  ·refine Run.so hm (.p e ?_)
   obtain ⟨x221,hx221,h⟩ := bindO h
   refine Ops.z 29688 (Ev.addS e e hx221) e e (.p e (.nil (.ret ?_)))
   obtain rfl := someO h
   exact Ends.mkG (.inl e) e (gh_pk [0] [] hB e e e e) e e
def laws_markPairS_l1 (N : Nat) : Nat → Int → Int → (List Pair) → Option (Int × (List Pair))
 | 0,_,_,_ => none
 | m + 1,x321,x322,x323 =>
 (if (decide (x322 < ((x323.length : Nat) : Int))) = true then
 (laws_markText N x321).bind fun y384 =>
 (at? x323 x322).bind fun x385 =>
 (laws_markText N (w64 (x321 + 1))).bind fun y392 =>
 (at? (x323.set x322.toNat (Pair.mk y384 x385.Value)) x322).bind fun x393 =>
 laws_markPairS_l1 N m (w64 ((w64 (x321 + 1)) + 1)) (w64 (x322 + 1)) ((x323.set x322.toNat (Pair.mk y384 x385.Value)).set x322.toNat (Pair.mk x393.Key y392))
 else
 some (x321,x323))
def laws_markPairS (N : Nat) (x1 : (List Pair)) (x2 : Int) : Option (Int × (List Pair)) :=
 joinP (fun (v320 : Int × (List Pair)) =>
 some (v320.1,v320.2)) fun j320 =>
 (laws_markPairS_l1 N N x2 0 x1).bind (fun v358 => j320 (v358.1,v358.2))
theorem sem_laws_markPairS (N : Nat) (x1 : (List Pair)) (x2 : Int) (r : Int × (List Pair)) (h : laws_markPairS N x1 x2 = some r) : Says Tryz.prog 11 [.sl 0 53 0 x1.length,VI x2] 1 [(0,.vec 53 (x1.map encPair))] (VI r.1) [(0,.vec 53 (r.2.map encPair))] := by
 unfold laws_markPairS at h
 refine Says.of_norm e Tryz.call11 e fun B hB => ?_
 have hm : B.m ≤ 1000 := by omega
 refine Run.so hm (.p e (.nil (.seqO h (fun v320 => [(1,VI v320.1)]) (fun (v320 : Int × (List Pair)) => [(0,.vec 53 (v320.2.map encPair))]) (fun h => ?_) (fun v320 h => ?_))))
 ·refine Run.so hm (.p e (.nil (.block ?_)))
  obtain ⟨res358,h,hk358⟩ := bindO h
  refine Run.loop (n := N) (fun m358 fr σ => ∃ (x321 : Int),∃ (x322 : Int),∃ (x323 : (List Pair)),laws_markPairS_l1 N m358 x321 x322 x323 = some res358 ∧ fr = [(0,.sl 0 53 0 x323.length),(1,VI x321),(5,VI x322)] ∧ σ = [(0,.vec 53 (x323.map encPair))]) (gh_pk [0,1,5] [0] hB e e e e) ⟨_,_,_,h,e,e⟩ ?_
  rintro m358 fr σ ⟨x321,x322,x323,h,rfl,rfl⟩
  obtain _ | m358 := m358
  ·rw [laws_markPairS_l1] at h; cases h
  rw [laws_markPairS_l1] at h
  refine Run.seq (.so hm (.p3 e e e (.p e (.nil (.condO e h (fun g361 h => ?_) (fun g361 h => ?_))))))
  ·refine Run.skip (.seq (.block (.so hm (.p3 e e e ?_))))
   obtain ⟨y384,hy384,h⟩ := bindO h
   refine Ops.z 17432 (Ev.call [] [] 0 (sem_laws_markText _ _ _ hy384) e e (.d1 .nil) e (.inl e) e e) e e ?_
   obtain ⟨x385,hx385,h⟩ := bindO h
   refine Ops.z 17448 (Ev.iaW e e e hx385) e e (.p e (.y 17480 (Ev.stE (f := encPair) (v' := (Pair.mk y384 x385.Value)) e e (at_some hx385).2 e (.d1 .nil) e e e e e) e e (.nil (.so hm (.p3 e e e (.nil (.so hm (.p3 e e e ?_))))))))
   obtain ⟨y392,hy392,h⟩ := bindO h
   refine Ops.z 25624 (Ev.call [] [] 0 (sem_laws_markText _ _ _ hy392) e e (.d1 .nil) e (.inl e) e e) e e ?_
   obtain ⟨x393,hx393,h⟩ := bindO h
   refine Ops.z 25640 (Ev.iaW e (by simp) e hx393) e e ?_
   exact Ops.p e (.y 25672 (Ev.stE (f := encPair) (v' := (Pair.mk x393.Key y392)) e e (at_some hx393).2 e (.d1 .nil) e e e e e) e e (.nil (.ops hm (.p3 e e e (.nil (.ops hm (.p3 e e e (.nil (⟨m358,Nat.lt_succ_self m358,_,_,(gh_pk [0,1,5] [0] hB e e (by first | rfl | (simp only [List.length_set]; done) | (simp only [List.length_set]; rfl)) (by first | rfl | (simp only [List.length_set]; done) | (simp only [List.length_set]; rfl))),_,_,_,h,e,e⟩)))))))))
  ·refine Run.exit ?_
   obtain rfl := someO h
   have h := hk358
   exact ⟨_,_,(gh_pk [1] [0] hB e e e e),_,h,e,e⟩
 ·refine Run.so hm (.p2 e e (.nil (.ret ?_)))
  obtain rfl := someO h
  exact Ends.mkG (.inl e) e (gh_pk [0] [0] hB e e e e) e e
def laws_heldPairS_l1 (N : Nat) (x1 : (List Pair)) : Nat → Int → Int → Option ((Int) ⊕ (Int))
 | 0,_,_ => none
 | m + 1,x373,x374 =>
 (if (decide (x374 < (x1.length : Int))) = true then
 (at? x1 x374).bind fun x449 =>
 (laws_markText N x373).bind fun y450 =>
 (if (!decide (x449.Key = y450)) = true then
 some (Sum.inl (-1 : Int))
 else
 (at? x1 x374).bind fun x459 =>
 (laws_markText N (w64 (x373 + 1))).bind fun y460 =>
 (if (!decide (x459.Value = y460)) = true then
 some (Sum.inl (-1 : Int))
 else
 laws_heldPairS_l1 N x1 m (w64 ((w64 (x373 + 1)) + 1)) (w64 (x374 + 1))))
 else
 some (Sum.inr x373))
def laws_heldPairS_l1_r (N : Nat) (x1 : (List Pair)) : (List Pair) → Int → Int → Option ((Int) ⊕ (Int))
 | [],x373,x374 =>
 some (Sum.inr x373)
 | hd :: tl,x373,x374 =>
 (some hd).bind fun x449 =>
 (laws_markText N x373).bind fun y450 =>
 (if (!decide (x449.Key = y450)) = true then
 some (Sum.inl (-1 : Int))
 else
 (some hd).bind fun x459 =>
 (laws_markText N (w64 (x373 + 1))).bind fun y460 =>
 (if (!decide (x459.Value = y460)) = true then
 some (Sum.inl (-1 : Int))
 else
 laws_heldPairS_l1_r N x1 tl (w64 ((w64 (x373 + 1)) + 1)) (w64 (x374 + 1))))
theorem laws_heldPairS_l1_rng (N : Nat) (x1 : (List Pair)) (hx : x1.length ≤ 1099511627776) : ∀ (d k m : Nat) (x373 : Int),x1.length = k + d → d < m → laws_heldPairS_l1 N x1 m x373 (k : Int) = laws_heldPairS_l1_r N x1 (x1.drop k) x373 (k : Int) := by
 intro d
 induction d with
 | zero =>
  intro k m x373 hd hm
  obtain ⟨m,rfl⟩ : ∃ q,m = q + 1 := ⟨m - 1,by omega⟩
  rw [laws_heldPairS_l1,if_neg (by simp; omega),List.drop_eq_nil_of_le (by omega),laws_heldPairS_l1_r]
 | succ d ih =>
  intro k m x373 hd hm
  obtain ⟨m,rfl⟩ : ∃ q,m = q + 1 := ⟨m - 1,by omega⟩
  have hk : k < x1.length := by omega
  rw [laws_heldPairS_l1,if_pos (by simp; omega),List.drop_eq_getElem_cons hk,laws_heldPairS_l1_r]
  have h1 := at_lt hk
  have h2 := w64_succ (k := k) (by omega)
  have h3 := ih (k + 1) m
  simp only [h1,h2,h3 _ (by omega) (by omega)]
theorem laws_heldPairS_l1_eq {N : Nat} (x1 : (List Pair)) (hx : x1.length ≤ 1099511627776) (hN : x1.length < N) (x373 : Int) : laws_heldPairS_l1 N x1 N x373 0 = laws_heldPairS_l1_r N x1 x1 x373 0 := laws_heldPairS_l1_rng N x1 hx x1.length 0 N x373 (by omega) hN
def laws_heldPairS (N : Nat) (x1 : (List Pair)) (x2 : Int) : Option (Int) :=
 joinP (fun (v371 : Int) =>
 some v371) fun j371 =>
 (laws_heldPairS_l1 N x1 N x2 0).bind (Sum.elim (fun v417 => some v417) (fun (v418 : Int) => j371 v418))
theorem sem_laws_heldPairS (N : Nat) (x1 : (List Pair)) (x2 : Int) (r : Int) (h : laws_heldPairS N x1 x2 = some r) : Says Tryz.prog 12 [RO 53 (x1.map encPair),VI x2] 0 [] (VI r) [] := by
 unfold laws_heldPairS at h
 refine Says.of_norm e Tryz.call12 e fun B hB => ?_
 have hm : B.m ≤ 1000 := by omega
 refine Run.so hm (.p e (.nil (.seqO h (fun v371 => [(1,VI v371)]) (fun (v371 : Int) => []) (fun h => ?_) (fun v371 h => ?_))))
 ·refine Run.so hm (.p e (.nil (.block ?_)))
  obtain ⟨res418,h,hk418⟩ := bindO h
  refine Run.loop (n := N) (fun m418 fr σ => ∃ (x373 : Int),∃ (x374 : Int),laws_heldPairS_l1 N x1 m418 x373 x374 = some res418 ∧ fr = [(0,RO 53 (x1.map encPair)),(1,VI x373),(5,VI x374)] ∧ σ = []) (gh_pk [0,1,5] [] hB e e e e) ⟨_,_,h,e,e⟩ ?_
  rintro m418 fr σ ⟨x373,x374,h,rfl,rfl⟩
  obtain _ | m418 := m418
  ·rw [laws_heldPairS_l1] at h; cases h
  rw [laws_heldPairS_l1] at h
  refine Run.seq (.so hm (.p2 e e (.z 9224 (Ev.lnF e) e e (.p e (.nil (.condO e h (fun g421 h => ?_) (fun g421 h => ?_)))))))
  ·refine Run.skip (.seq (.block (.seq (.seq (.draw hm hmix (.p e (.p e ?_)))))))
   obtain ⟨x449,hx449,h⟩ := bindO h
   refine OpsD.z 17416 (Ev.iaF e e hx449) e e (.p e (.p e (.p e ?_)))
   obtain ⟨y450,hy450,h⟩ := bindO h
   refine OpsD.z 17480 (Ev.call [] [] 0 (sem_laws_markText _ _ _ hy450) e e (.d1 .nil) e (.inl e) e e) e e (.p e (.nil ⟨by kernel_rfl,?_⟩))
   refine Run.condO e h (fun g451 h => ?_) (fun g451 h => ?_)
   ·refine Run.so hm (.p e (.nil (.ret ?_)))
    obtain rfl := someO h
    have h := hk418
    replace h := inlO h
    obtain rfl := someO h
    exact Ends.mkG (.inl e) e (gh_pk [0] [] hB e e e e) e e
   ·refine Run.skip (.so hm (.p3 e e e (.nil (.seq (.seq (.draw hm hmix (.p e (.p e ?_))))))))
    obtain ⟨x459,hx459,h⟩ := bindO h
    refine OpsD.z 29704 (Ev.iaF e e hx459) e e (.p e (.p e (.p e ?_)))
    obtain ⟨y460,hy460,h⟩ := bindO h
    refine OpsD.z 29768 (Ev.call [] [] 0 (sem_laws_markText _ _ _ hy460) e e (.d1 .nil) e (.inl e) e e) e e (.p e (.nil ⟨by kernel_rfl,?_⟩))
    refine Run.condO e h (fun g461 h => ?_) (fun g461 h => ?_)
    ·refine Run.so hm (.p e (.nil (.ret ?_)))
     obtain rfl := someO h
     have h := hk418
     replace h := inlO h
     obtain rfl := someO h
     exact Ends.mkG (.inl e) e (gh_pk [0] [] hB e e e e) e e
    ·exact Run.skip (.ops hm (.p3 e e e (.nil (.ops hm (.p3 e e e (.nil (⟨m418,Nat.lt_succ_self m418,_,_,(gh_pk [0,1,5] [] hB e e e e),_,_,h,e,e⟩)))))))
  ·refine Run.exit ?_
   obtain rfl := someO h
   have h := hk418
   replace h := inrO h
   exact ⟨_,_,(gh_pk [1] [] hB e e e e),_,h,e,e⟩
 ·refine Run.so hm (.p2 e e (.nil (.ret ?_)))
  obtain rfl := someO h
  exact Ends.mkG (.inl e) e (gh_pk [0] [] hB e e e e) e e
def laws_FnExactAct (N : Nat) (x1 : (List Pair)) (x2 : Int) (x3 : Command) : Option (Bool) :=
 (laws_szPairS N x1 1048576).bind fun y232 =>
 (if (decide (y232 < 0)) = true then
 some true
 else
 (laws_szCommand N x3 y232).bind fun y238 =>
 (if (decide (y238 < 0)) = true then
 some true
 else
 (laws_toPairS N x1).bind fun y250 =>
 (laws_toCommand N x3).bind fun y251 =>
 (spec_Act_i1 N y250 x2 y251).bind fun y252 =>
 (laws_toPairS N x1).bind fun y256 =>
 (laws_toCommand N x3).bind fun y263 =>
 (impl_Act N y256 x2 y263).bind fun y264 =>
 (laws_eqPairS N y264.1 y252.1).bind fun y275 =>
 (if (!y275) = true then
 some false
 else
 (if (!decide (y264.2.1 = y252.2.1)) = true then
 some false
 else
 (if ((y264.2.2 == y252.2.2) ^^ true) = true then
 some false
 else
 (laws_toPairS N x1).bind fun y286 =>
 (laws_eqPairS N y256 y286).bind fun y287 =>
 (if (!y287) = true then
 some false
 else
 (laws_markPairS N y256 1).bind fun y295 =>
 (len? y256 y295.2).bind fun y296 =>
 (if (decide (y295.1 < 0)) = true then
 some false
 else
 (laws_eqPairS N y264.1 y252.1).bind fun y307 =>
 (if (!y307) = true then
 some false
 else
 (laws_markPairS N y264.1 1).bind fun y315 =>
 (len? y264.1 y315.2).bind fun y316 =>
 (laws_heldPairS N y315.2 1).bind fun y320 =>
 (if (decide (y320 < 0)) = true then
 some false
 else
 (if (y320 != y315.1) = true then
 some false
 else
 (laws_toPairS N x1).bind fun y334 =>
 (laws_toCommand N x3).bind fun y335 =>
 (impl_Act N y334 x2 y335).bind fun y336 =>
 (laws_eqPairS N y336.1 y252.1).bind fun y347 =>
 (if (!y347) = true then
 some false
 else
 (if (!decide (y336.2.1 = y252.2.1)) = true then
 some false
 else
 (if ((y336.2.2 == y252.2.2) ^^ true) = true then
 some false
 else
 (laws_heldPairS N y315.2 1).bind fun y354 =>
 (if (decide (y354 < 0)) = true then
 some false
 else
 (if (y354 != y315.1) = true then
 some false
 else
 some true)))))))))))))))
theorem sem_laws_FnExactAct (N : Nat) (x1 : (List Pair)) (x2 : Int) (x3 : Command) (r : Bool) (h : laws_FnExactAct N x1 x2 x3 = some r) : Says Tryz.prog 3 [RO 38 (x1.map encPair),VI x2,.agg [VI x3.Op,VI x3.Session,VI x3.Seq,VS x3.Key,VS x3.Value,VS x3.Old]] 0 [] (VB r) [] := by
 unfold laws_FnExactAct at h
 refine Says.of_norm e Tryz.call3 e fun B hB => ?_
 have hm : B.m ≤ 1000 := by omega
 refine Run.so hm (.z 1000 (.bx e e) e e (.p e (.nil (.so hm (.p e (.nil (.so hm (.p2 e e ?_))))))))
 obtain ⟨y232,hy232,h⟩ := bindO h
 refine Ops.z 9224 (Ev.call [] [] 0 (sem_laws_szPairS _ _ _ _ hy232) e e (.d2 .nil) e (.inl e) e e) e e (.p e (.nil (.seq (.so hm (.p2 e e (.nil (.condO e h (fun g234 h => ?_) (fun g234 h => ?_))))))))
 ·refine Run.so hm (.p e (.nil (.ret ?_)))
  obtain rfl := someO h
  exact Ends.mkG (.inl e) e (gh_pk [0] [] hB e e e e) e e
 ·refine Run.skip (.so hm (.p2 e e ?_))
  obtain ⟨y238,hy238,h⟩ := bindO h
  refine Ops.z 21512 (Ev.call [] [] 0 (sem_laws_szCommand _ _ _ _ hy238) e e (.cons (.agg (.d4 (.d2 .nil))) (.d1 .nil)) e (.inl e) e e) e e (.p e (.nil (.seq (.so hm (.p2 e e (.nil (.condO e h (fun g240 h => ?_) (fun g240 h => ?_))))))))
  ·refine Run.so hm (.p e (.nil (.ret ?_)))
   obtain rfl := someO h
   exact Ends.mkG (.inl e) e (gh_pk [0] [] hB e e e e) e e
  ·refine Run.skip (.seq (.draw hm hmix (.p e ?_)))
   obtain ⟨y250,hy250,h⟩ := bindO h
   refine OpsD.z 33784 (Ev.call [] [] 1 (sem_laws_toPairS _ _ _ hy250) e e (.d1 .nil) e (.inl e) e e) e e (.p e (.p e ?_))
   obtain ⟨y251,hy251,h⟩ := bindO h
   refine OpsD.z 33832 (Ev.call [] [] 0 (sem_laws_toCommand _ _ _ hy251) e e (.cons (.agg (.d4 (.d2 .nil))) .nil) e (.inl e) e e) e e ?_
   obtain ⟨y252,hy252,h⟩ := bindO h
   refine OpsD.z 33848 (Ev.call [33784] [] 0 (sem_spec_Act_i1 _ _ _ _ _ hy252) e e (.cons (.sl e) (.d1 (.cons (.agg (.d4 (.d2 .nil))) .nil))) e (.inl e) e e) e e (.p e (.p e (.p e (.p e (.p e (.p e (.p e (.nil ⟨by kernel_rfl,?_⟩))))))))
   refine Run.so hm (.p e ?_)
   obtain ⟨y256,hy256,h⟩ := bindO h
   refine Ops.z 37880 (Ev.call [] [] 1 (sem_laws_toPairS _ _ _ hy256) e e (.d1 .nil) e (.inl e) e e) e e (.p e (.nil (.so hm (.p3 e e e ?_))))
   obtain ⟨y263,hy263,h⟩ := bindO h
   refine Ops.z 42008 (Ev.call [] [] 0 (sem_laws_toCommand _ _ _ hy263) e e (.cons (.agg (.d4 (.d2 .nil))) .nil) e (.inl e) e e) e e ?_
   obtain ⟨y264,hy264,h⟩ := bindO h
   refine Ops.z 42024 (Ev.call [] [37880] 1 (sem_impl_Act _ _ _ _ _ hy264) e e (.cons (.borrow e (by decide) (lendW (fun _ => e) _ e)) (.d1 (.cons (.agg (.d4 (.d2 .nil))) .nil))) e (.inr ⟨e,ownL_root ⟨own_rows (fun _ => e) _,trivial⟩⟩) e e) e e ?_
   refine Ops.p e (.p3 e e e (.p3 e e e (.nil (.seq (.so hm (.p2 e e ?_))))))
   obtain ⟨y275,hy275,h⟩ := bindO h
   refine Ops.z 46088 (Ev.call [] [42024] 0 (sem_laws_eqPairS _ _ _ _ hy275) e e (.cons (.borrow e (by decide) (lendW (fun _ => e) _ e)) (.d1 .nil)) e (.inr ⟨e,ownL_root trivial⟩) e e) e e ?_
   refine Ops.p e (.p e (.askO (x := .t 56) e h (fun g276 h => ?_) (fun g276 h => ?_)))
   ·refine Ops.gn e g276 (.gn e g276 (.gn e g276 (.z 46184 (.pkT e g276 e) e e (.p e (.gn e e (.gn e e (.gn e e (.z 46264 (.pkT e e e) e e (.nil (.condT e e (.so hm (.p e (.nil (.ret ?_))))))))))))))
    obtain rfl := someO h
    exact Ends.mkG (.inl e) e (gh_pk [0] [] hB e e e e) e e
   ·refine Ops.gp e g276 e (.gp e g276 e (.gp e g276 e (.z 46184 (.pkF e g276 e) e e (.p e (.askO (x := .t 61) e h (fun g277 h => ?_) (fun g277 h => ?_))))))
    ·refine Ops.gn e g277 (.gn e g277 (.gn e g277 (.z 46264 (.pkT e g277 e) e e (.nil (.condT e e (.so hm (.p e (.nil (.ret ?_)))))))))
     obtain rfl := someO h
     exact Ends.mkG (.inl e) e (gh_pk [0] [] hB e e e e) e e
    ·refine Ops.gp e g277 e (.gp e g277 e (.gp e g277 e (.z 46264 (.pkF e g277 e) e e (.nil (.condO e h (fun g278 h => ?_) (fun g278 h => ?_))))))
     ·refine Run.so hm (.p e (.nil (.ret ?_)))
      obtain rfl := someO h
      exact Ends.mkG (.inl e) e (gh_pk [0] [] hB e e e e) e e
     ·refine Run.skip (.seq (.so hm (.p2 e e ?_)))
      obtain ⟨y286,hy286,h⟩ := bindO h
      refine Ops.z 54280 (Ev.call [] [] 1 (sem_laws_toPairS _ _ _ hy286) e e (.d1 .nil) e (.inl e) e e) e e ?_
      obtain ⟨y287,hy287,h⟩ := bindO h
      refine Ops.z 54296 (Ev.call [] [37880,54280] 0 (sem_laws_eqPairS _ _ _ _ hy287) e e (.cons (.borrow e (by decide) (lendW (fun _ => e) _ e)) (.cons (.borrow e (by decide) (lendW (fun _ => e) _ e)) .nil)) e (.inr ⟨e,ownL_root trivial⟩) e e) e e ?_
      refine Ops.p e (.nil (.condO e h (fun g288 h => ?_) (fun g288 h => ?_)))
      ·refine Run.so hm (.p e (.nil (.ret ?_)))
       obtain rfl := someO h
       exact Ends.mkG (.inl e) e (gh_pk [0] [] hB e e e e) e e
      ·refine Run.skip (.so hm (.p e (.nil (.so hm (.p2 e e ?_)))))
       obtain ⟨y295,hy295,h⟩ := bindO h
       obtain ⟨y296,hy296,h⟩ := bindO h
       refine Ops.z 66568 (Ev.call [37880] [] 0 (sem_laws_markPairS _ _ _ _ hy295) e e (.cons (.sl e) (.d1 .nil)) e (.inl e) e e) e e (.p e (.nil (.seq (.so hm (.p3 e e e (.askO (x := .t 76) e h (fun g306 h => ?_) (fun g306 h => ?_)))))))
       ·refine Ops.gn e g306 (.gn e g306 (.gn e g306 (.gn e g306 (.z 70744 (.pkT e g306 e) e e (.p e (.gn e e (.gn e e (.gn e e (.z 70824 (.pkT e e e) e e (.p e (.gn e e (.gn e e (.gn e e (.z 70904 (.pkT e e e) e e (.nil (.condT e e (.so hm (.p e (.nil (.ret ?_))))))))))))))))))))
        obtain rfl := someO h
        exact Ends.mkG (.inl e) e (gh_pk [0] [] hB e e e e) e e
       ·refine Ops.gp e g306 e (.gp e g306 e ?_)
        obtain ⟨y307,hy307,h⟩ := bindO h
        refine Ops.gs (s := 70712) e g306 (Ev.call [] [42024] 0 (sem_laws_eqPairS _ _ _ _ hy307) e e (.cons (.borrow e (by decide) (lendW (fun _ => e) _ e)) (.d1 .nil)) e (.inr ⟨e,ownL_root trivial⟩) e e) e e ?_
        refine Ops.gp e g306 e (.z 70744 (.pkF e g306 e) e e (.p e (.askO (x := .t 82) e h (fun g308 h => ?_) (fun g308 h => ?_))))
        ·refine Ops.gn e g308 (.gn e g308 (.gn e g308 (.z 70824 (.pkT e g308 e) e e (.p e (.gn e e (.gn e e (.gn e e (.z 70904 (.pkT e e e) e e (.nil (.condT e e (.so hm (.p e (.nil (.ret ?_))))))))))))))
         obtain rfl := someO h
         exact Ends.mkG (.inl e) e (gh_pk [0] [] hB e e e e) e e
        ·refine Ops.gp e g308 e (.gp e g308 e (.gp e g308 e (.z 70824 (.pkF e g308 e) e e (.p e (.gp e g277 e (.gp e g277 e (.gp e g277 e (.z 70904 (.pkF e g277 e) e e (.nil (.condF e g278 (.skip (.so hm (.p e (.nil (.so hm (.p2 e e ?_))))))))))))))))
         obtain ⟨y315,hy315,h⟩ := bindO h
         obtain ⟨y316,hy316,h⟩ := bindO h
         refine Ops.z 82952 (Ev.call [42024] [] 0 (sem_laws_markPairS _ _ _ _ hy315) e e (.cons (.sl e) (.d1 .nil)) e (.inl e) e e) e e (.p e (.nil (.so hm (.p e (.nil (.so hm (.p2 e e ?_)))))))
         obtain ⟨y320,hy320,h⟩ := bindO h
         refine Ops.z 91144 (Ev.call [] [42024] 0 (sem_laws_heldPairS _ _ _ _ hy320) e e (.cons (.borrow e (by decide) (lendW (fun _ => e) _ (len_some hy316))) (.d1 .nil)) e (.inr ⟨e,ownL_root trivial⟩) e e) e e ?_
         refine Ops.p e (.nil (.seq (.so hm (.p2 e e (.nil (.condO e h (fun g322 h => ?_) (fun g322 h => ?_)))))))
         ·refine Run.so hm (.p e (.nil (.ret ?_)))
          obtain rfl := someO h
          exact Ends.mkG (.inl e) e (gh_pk [0] [] hB e e e e) e e
         ·refine Run.skip (.seq (.so hm (.p3 e e e (.nil (.condO e h (fun g324 h => ?_) (fun g324 h => ?_))))))
          ·refine Run.so hm (.p e (.nil (.ret ?_)))
           obtain rfl := someO h
           exact Ends.mkG (.inl e) e (gh_pk [0] [] hB e e e e) e e
          ·refine Run.skip (.seq (.draw hm hmix (.p e ?_)))
           obtain ⟨y334,hy334,h⟩ := bindO h
           refine OpsD.z 111608 (Ev.call [] [] 1 (sem_laws_toPairS _ _ _ hy334) e e (.d1 .nil) e (.inl e) e e) e e (.p e (.p e ?_))
           obtain ⟨y335,hy335,h⟩ := bindO h
           refine OpsD.z 111656 (Ev.call [] [] 0 (sem_laws_toCommand _ _ _ hy335) e e (.cons (.agg (.d4 (.d2 .nil))) .nil) e (.inl e) e e) e e ?_
           obtain ⟨y336,hy336,h⟩ := bindO h
           refine OpsD.z 111672 (Ev.call [] [111608] 1 (sem_impl_Act _ _ _ _ _ hy336) e e (.cons (.borrow e (by decide) (lendW (fun _ => e) _ e)) (.d1 (.cons (.agg (.d4 (.d2 .nil))) .nil))) e (.inr ⟨e,ownL_root ⟨own_rows (fun _ => e) _,trivial⟩⟩) e e) e e ?_
           refine OpsD.p e (.p e (.p e (.p e (.p e (.p e (.p e (.nil ⟨by kernel_rfl,?_⟩)))))))
           refine Run.seq (.so hm (.p2 e e ?_))
           obtain ⟨y347,hy347,h⟩ := bindO h
           refine Ops.z 115720 (Ev.call [] [111672] 0 (sem_laws_eqPairS _ _ _ _ hy347) e e (.cons (.borrow e (by decide) (lendW (fun _ => e) _ e)) (.d1 .nil)) e (.inr ⟨e,ownL_root trivial⟩) e e) e e ?_
           refine Ops.p e (.p e (.askO (x := .t 117) e h (fun g348 h => ?_) (fun g348 h => ?_)))
           ·refine Ops.gn e g348 (.gn e g348 (.gn e g348 (.z 115816 (.pkT e g348 e) e e (.p e (.gn e e (.gn e e (.gn e e (.z 115896 (.pkT e e e) e e (.nil (.condT e e (.so hm (.p e (.nil (.ret ?_))))))))))))))
            obtain rfl := someO h
            exact Ends.mkG (.inl e) e (gh_pk [0] [] hB e e e e) e e
           ·refine Ops.gp e g348 e (.gp e g348 e (.gp e g348 e (.z 115816 (.pkF e g348 e) e e (.p e (.askO (x := .t 122) e h (fun g349 h => ?_) (fun g349 h => ?_))))))
            ·refine Ops.gn e g349 (.gn e g349 (.gn e g349 (.z 115896 (.pkT e g349 e) e e (.nil (.condT e e (.so hm (.p e (.nil (.ret ?_)))))))))
             obtain rfl := someO h
             exact Ends.mkG (.inl e) e (gh_pk [0] [] hB e e e e) e e
            ·refine Ops.gp e g349 e (.gp e g349 e (.gp e g349 e (.z 115896 (.pkF e g349 e) e e (.nil (.condO e h (fun g350 h => ?_) (fun g350 h => ?_))))))
             ·refine Run.so hm (.p e (.nil (.ret ?_)))
              obtain rfl := someO h
              exact Ends.mkG (.inl e) e (gh_pk [0] [] hB e e e e) e e
             ·refine Run.skip (.so hm (.p e (.nil (.so hm (.p2 e e ?_)))))
              obtain ⟨y354,hy354,h⟩ := bindO h
              refine Ops.z 128008 (Ev.call [] [42024] 0 (sem_laws_heldPairS _ _ _ _ hy354) e e (.cons (.borrow e (by decide) (lendW (fun _ => e) _ (len_some hy316))) (.d1 .nil)) e (.inr ⟨e,ownL_root trivial⟩) e e) e e ?_
              refine Ops.p e (.nil (.seq (.so hm (.p2 e e (.nil (.condO e h (fun g356 h => ?_) (fun g356 h => ?_)))))))
              ·refine Run.so hm (.p e (.nil (.ret ?_)))
               obtain rfl := someO h
               exact Ends.mkG (.inl e) e (gh_pk [0] [] hB e e e e) e e
              ·refine Run.skip (.seq (.so hm (.p3 e e e (.nil (.condO e h (fun g357 h => ?_) (fun g357 h => ?_))))))
               ·refine Run.so hm (.p e (.nil (.ret ?_)))
                obtain rfl := someO h
                exact Ends.mkG (.inl e) e (gh_pk [0] [] hB e e e e) e e
               ·refine Run.skip (.so hm (.p e (.nil (.ret ?_))))
                obtain rfl := someO h
                exact Ends.mkG (.inl e) e (gh_pk [0] [] hB e e e e) e e
end Go.Proofs.YtpdfllincphabaaGreatDoor.Pe.FnExactAct
