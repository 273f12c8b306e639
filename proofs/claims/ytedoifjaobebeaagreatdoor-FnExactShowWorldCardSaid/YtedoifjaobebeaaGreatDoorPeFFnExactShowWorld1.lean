/- Functions,as pure functions; and that Go does just that. -/
import Derived.Test.YtedoifjaobebeaaGreatDoorPeFFnExactShowWorld0
namespace Go.Proofs.YtedoifjaobebeaaGreatDoor.Pe.FnExactShowWorld
open Go Go.RowKit
set_option linter.unusedVariables false
set_option linter.unusedSimpArgs false
set_option maxHeartbeats 40000000
set_option maxRecDepth 100000
def laws_toIntS_l1 (N : Nat) (x1 : (List Int)) : Nat → Int → (List Int) → Option ((List Int))
 | 0,_,_ => none
 | m + 1,x186,x187 =>
 (if (decide (x186 < (x1.length : Int))) = true then
 (at? x1 x186).bind fun x208 =>
 (at? x187 x186).bind fun x209 =>
 laws_toIntS_l1 N x1 m (w64 (x186 + 1)) (x187.set x186.toNat x208)
 else
 some x187)
def laws_toIntS_l1_r (N : Nat) (x1 : (List Int)) : (List Int) → Int → (List Int) → Option ((List Int))
 | [],x186,x187 =>
 some x187
 | hd :: tl,x186,x187 =>
 (some hd).bind fun x208 =>
 (at? x187 x186).bind fun x209 =>
 laws_toIntS_l1_r N x1 tl (w64 (x186 + 1)) (x187.set x186.toNat x208)
theorem laws_toIntS_l1_rng (N : Nat) (x1 : (List Int)) (hx : x1.length ≤ 1099511627776) : ∀ (d k m : Nat) (x187 : (List Int)),x1.length = k + d → d < m → laws_toIntS_l1 N x1 m (k : Int) x187 = laws_toIntS_l1_r N x1 (x1.drop k) (k : Int) x187 := by
 intro d
 induction d with
 | zero =>
  intro k m x187 hd hm
  obtain ⟨m,rfl⟩ : ∃ q,m = q + 1 := ⟨m - 1,by omega⟩
  rw [laws_toIntS_l1,if_neg (by simp; omega),List.drop_eq_nil_of_le (by omega),laws_toIntS_l1_r]
 | succ d ih =>
  intro k m x187 hd hm
  obtain ⟨m,rfl⟩ : ∃ q,m = q + 1 := ⟨m - 1,by omega⟩
  have hk : k < x1.length := by omega
  rw [laws_toIntS_l1,if_pos (by simp; omega),List.drop_eq_getElem_cons hk,laws_toIntS_l1_r]
  have h1 := at_lt hk
  have h2 := w64_succ (k := k) (by omega)
  have h3 := ih (k + 1) m
  simp only [h1,h2,h3 _ (by omega) (by omega)]
theorem laws_toIntS_l1_eq {N : Nat} (x1 : (List Int)) (hx : x1.length ≤ 1099511627776) (hN : x1.length < N) (x187 : (List Int)) : laws_toIntS_l1 N x1 N 0 x187 = laws_toIntS_l1_r N x1 x1 0 x187 := laws_toIntS_l1_rng N x1 hx x1.length 0 N x187 (by omega) hN
def laws_toIntS (N : Nat) (x1 : (List Int)) : Option ((List Int)) :=
 (mk? 0 (x1.length : Int)).bind fun x158 =>
 joinP (fun (v184 : (List Int)) =>
 some v184) fun j184 =>
 (laws_toIntS_l1 N x1 N 0 x158).bind (fun v198 => j184 v198)
theorem sem_laws_toIntS (N : Nat) (x1 : (List Int)) (r : (List Int)) (h : laws_toIntS N x1 = some r) : Says Tryz.prog 63 [RO 3 (x1.map encI)] 0 [] (.sl 0 3 0 r.length) [(0,.vec 3 (r.map encI))] := by
 unfold laws_toIntS at h
 refine Says.of_norm e Tryz.call63 e fun B hB => ?_
 have hm : B.m ≤ 1000 := by omega
 refine Run.so hm (.p e (.nil (.so hm (.p e (.z 5112 (Ev.lnF e) e e ?_)))))
 obtain ⟨x158,hx158,h⟩ := bindO h
 refine Ops.z 5128 (Ev.msW (f := encI) (zv := 0) e e e bt3 e hx158) e e (.p e (.nil (.seqO h (fun v184 => [(3,.sl 0 3 0 v184.length)]) (fun (v184 : (List Int)) => [(0,.vec 3 (v184.map encI))]) (fun h => ?_) (fun v184 h => ?_))))
 ·refine Run.so hm (.p e (.nil (.block ?_)))
  obtain ⟨res198,h,hk198⟩ := bindO h
  refine Run.loop (n := N) (fun m198 fr σ => ∃ (x186 : Int),∃ (x187 : (List Int)),laws_toIntS_l1 N x1 m198 x186 x187 = some res198 ∧ fr = [(0,RO 3 (x1.map encI)),(3,.sl 0 3 0 x187.length),(4,VI x186)] ∧ σ = [(0,.vec 3 (x187.map encI))]) (gh_pk [0,3,4] [5128] hB e e e e) ⟨_,_,h,e,e⟩ ?_
  rintro m198 fr σ ⟨x186,x187,h,rfl,rfl⟩
  obtain _ | m198 := m198
  ·rw [laws_toIntS_l1] at h; cases h
  rw [laws_toIntS_l1] at h
  refine Run.seq (.so hm (.p2 e e (.z 13320 (Ev.lnF e) e e (.p e (.nil (.condO e h (fun g201 h => ?_) (fun g201 h => ?_)))))))
  ·refine Run.skip (.seq (.block (.ops hm (.p3 e e e (.p e ?_)))))
   obtain ⟨x208,hx208,h⟩ := bindO h
   refine Ops.z 21544 (Ev.iaF e e hx208) e e (.p e ?_)
   obtain ⟨x209,hx209,h⟩ := bindO h
   exact Ops.z 21576 (Ev.iaW e e e hx209) e e (.y 21592 (Ev.stE (f := encI) (v' := x208) e e (at_some hx209).2 e (.d1 .nil) e e e e e) e e (.nil (.ops hm (.p3 e e e (.nil (⟨m198,Nat.lt_succ_self m198,_,_,(gh_pk [0,3,4] [0] hB e e (by first | rfl | (simp only [List.length_set]; done) | (simp only [List.length_set]; rfl)) (by first | rfl | (simp only [List.length_set]; done) | (simp only [List.length_set]; rfl))),_,_,h,e,e⟩))))))
  ·refine Run.exit ?_
   obtain rfl := someO h
   have h := hk198
   exact ⟨_,_,(gh_pk [3] [0] hB e e e e),_,h,e,e⟩
 ·refine Run.so hm (.p2 e e (.nil (.ret ?_)))
  obtain rfl := someO h
  exact Ends.mkG (.inl e) e (gh_pk [0] [0] hB e e e e) e e
def laws_toEntry (N : Nat) (x1 : Entry) : Option (Entry) :=
 some x1
theorem sem_laws_toEntry (N : Nat) (x1 : Entry) (r : Entry) (h : laws_toEntry N x1 = some r) : Says Tryz.prog 65 [.agg [VI x1.Term,VI x1.Kind,VS x1.Data]] 0 [] (.agg [VI r.Term,VI r.Kind,VS r.Data]) [] := by
 unfold laws_toEntry at h
 refine Says.of_norm e Tryz.call65 e fun B hB => ?_
 have hm : B.m ≤ 1000 := by omega
 refine Run.so hm (.z 1000 (.bx e e) e e (.z 1016 (.al e e) e e (.nil (.so hm (.z 5096 (.al e e) e e (.nil (.so hm (.p3 e e e (.y 9240 (.sto e e e e e e) e e (.nil (.so hm (.p3 e e e (.y 13336 (.sto e e e e e e) e e (.nil (.so hm (.p3 e e e (.y 17432 (.sto e e e e e e) e e (.nil (.so hm (.p e (.y 21496 (.sto e e e e e e) e e (.nil (.ret ?_)))))))))))))))))))))))
 obtain rfl := someO h
 exact Ends.mkG (.inl e) e (gh_pk [0] [] hB e e e e) e e
def laws_toEntryS_l1 (N : Nat) (x1 : (List Entry)) : Nat → Int → (List Entry) → Option ((List Entry))
 | 0,_,_ => none
 | m + 1,x210,x211 =>
 (if (decide (x210 < (x1.length : Int))) = true then
 (at? x1 x210).bind fun x239 =>
 (laws_toEntry N x239).bind fun y240 =>
 (at? x211 x210).bind fun x241 =>
 laws_toEntryS_l1 N x1 m (w64 (x210 + 1)) (x211.set x210.toNat y240)
 else
 some x211)
def laws_toEntryS_l1_r (N : Nat) (x1 : (List Entry)) : (List Entry) → Int → (List Entry) → Option ((List Entry))
 | [],x210,x211 =>
 some x211
 | hd :: tl,x210,x211 =>
 (some hd).bind fun x239 =>
 (laws_toEntry N x239).bind fun y240 =>
 (at? x211 x210).bind fun x241 =>
 laws_toEntryS_l1_r N x1 tl (w64 (x210 + 1)) (x211.set x210.toNat y240)
theorem laws_toEntryS_l1_rng (N : Nat) (x1 : (List Entry)) (hx : x1.length ≤ 1099511627776) : ∀ (d k m : Nat) (x211 : (List Entry)),x1.length = k + d → d < m → laws_toEntryS_l1 N x1 m (k : Int) x211 = laws_toEntryS_l1_r N x1 (x1.drop k) (k : Int) x211 := by
 intro d
 induction d with
 | zero =>
  intro k m x211 hd hm
  obtain ⟨m,rfl⟩ : ∃ q,m = q + 1 := ⟨m - 1,by omega⟩
  rw [laws_toEntryS_l1,if_neg (by simp; omega),List.drop_eq_nil_of_le (by omega),laws_toEntryS_l1_r]
 | succ d ih =>
  intro k m x211 hd hm
  obtain ⟨m,rfl⟩ : ∃ q,m = q + 1 := ⟨m - 1,by omega⟩
  have hk : k < x1.length := by omega
  rw [laws_toEntryS_l1,if_pos (by simp; omega),List.drop_eq_getElem_cons hk,laws_toEntryS_l1_r]
  have h1 := at_lt hk
  have h2 := w64_succ (k := k) (by omega)
  have h3 := ih (k + 1) m
  simp only [h1,h2,h3 _ (by omega) (by omega)]
theorem laws_toEntryS_l1_eq {N : Nat} (x1 : (List Entry)) (hx : x1.length ≤ 1099511627776) (hN : x1.length < N) (x211 : (List Entry)) : laws_toEntryS_l1 N x1 N 0 x211 = laws_toEntryS_l1_r N x1 x1 0 x211 := laws_toEntryS_l1_rng N x1 hx x1.length 0 N x211 (by omega) hN
def laws_toEntryS (N : Nat) (x1 : (List Entry)) : Option ((List Entry)) :=
 (mk? (Entry.mk 0 0 (⟨#[]⟩ : ByteArray)) (x1.length : Int)).bind fun x174 =>
 joinP (fun (v208 : (List Entry)) =>
 some v208) fun j208 =>
 (laws_toEntryS_l1 N x1 N 0 x174).bind (fun v226 => j208 v226)
theorem sem_laws_toEntryS (N : Nat) (x1 : (List Entry)) (r : (List Entry)) (h : laws_toEntryS N x1 = some r) : Says Tryz.prog 62 [RO 97 (x1.map encEntry)] 0 [] (.sl 0 131 0 r.length) [(0,.vec 131 (r.map encEntry))] := by
 unfold laws_toEntryS at h
 refine Says.of_norm e Tryz.call62 e fun B hB => ?_
 have hm : B.m ≤ 1000 := by omega
 refine Run.so hm (.p e (.nil (.so hm (.p e (.z 5112 (Ev.lnF e) e e ?_)))))
 obtain ⟨x174,hx174,h⟩ := bindO h
 refine Ops.z 5128 (Ev.msW (f := encEntry) (zv := (Entry.mk 0 0 (⟨#[]⟩ : ByteArray))) e e e bt131 e hx174) e e (.p e (.nil (.seqO h (fun v208 => [(3,.sl 0 131 0 v208.length)]) (fun (v208 : (List Entry)) => [(0,.vec 131 (v208.map encEntry))]) (fun h => ?_) (fun v208 h => ?_))))
 ·refine Run.so hm (.p e (.nil (.block ?_)))
  obtain ⟨res226,h,hk226⟩ := bindO h
  refine Run.loop (n := N) (fun m226 fr σ => ∃ (x210 : Int),∃ (x211 : (List Entry)),laws_toEntryS_l1 N x1 m226 x210 x211 = some res226 ∧ fr = [(0,RO 97 (x1.map encEntry)),(3,.sl 0 131 0 x211.length),(4,VI x210)] ∧ σ = [(0,.vec 131 (x211.map encEntry))]) (gh_pk [0,3,4] [5128] hB e e e e) ⟨_,_,h,e,e⟩ ?_
  rintro m226 fr σ ⟨x210,x211,h,rfl,rfl⟩
  obtain _ | m226 := m226
  ·rw [laws_toEntryS_l1] at h; cases h
  rw [laws_toEntryS_l1] at h
  refine Run.seq (.so hm (.p2 e e (.z 13320 (Ev.lnF e) e e (.p e (.nil (.condO e h (fun g229 h => ?_) (fun g229 h => ?_)))))))
  ·refine Run.skip (.seq (.block (.ops hm (.p3 e e e (.p e ?_)))))
   obtain ⟨x239,hx239,h⟩ := bindO h
   refine Ops.z 21544 (Ev.iaF e e hx239) e e (.p e ?_)
   obtain ⟨y240,hy240,h⟩ := bindO h
   refine Ops.z 21576 (Ev.call [] [] 0 (sem_laws_toEntry _ _ _ hy240) e e (.cons (.agg (.d2 (.d1 .nil))) .nil) e (.inl e) e e) e e ?_
   obtain ⟨x241,hx241,h⟩ := bindO h
   exact Ops.z 21592 (Ev.iaW e e e hx241) e e (.y 21608 (Ev.stE (f := encEntry) (v' := y240) e e (at_some hx241).2 e (.d2 (.d1 .nil)) e e e e e) e e (.nil (.ops hm (.p3 e e e (.nil (⟨m226,Nat.lt_succ_self m226,_,_,(gh_pk [0,3,4] [0] hB e e (by first | rfl | (simp only [List.length_set]; done) | (simp only [List.length_set]; rfl)) (by first | rfl | (simp only [List.length_set]; done) | (simp only [List.length_set]; rfl))),_,_,h,e,e⟩))))))
  ·refine Run.exit ?_
   obtain rfl := someO h
   have h := hk226
   exact ⟨_,_,(gh_pk [3] [0] hB e e e e),_,h,e,e⟩
 ·refine Run.so hm (.p2 e e (.nil (.ret ?_)))
  obtain rfl := someO h
  exact Ends.mkG (.inl e) e (gh_pk [0] [0] hB e e e e) e e
def laws_toLog (N : Nat) (x1 : Log) : Option (Log) :=
 (laws_toEntryS N x1.Entries).bind fun y107 =>
 some (Log.mk x1.Start x1.StartTerm y107)
theorem sem_laws_toLog (N : Nat) (x1 : Log) (r : Log) (h : laws_toLog N x1 = some r) : Says Tryz.prog 64 [.agg [VI x1.Start,VI x1.StartTerm,RO 97 (x1.Entries.map encEntry)]] 0 [] (.agg [VI r.Start,VI r.StartTerm,.sl 0 131 0 r.Entries.length]) [(0,.vec 131 (r.Entries.map encEntry))] := by
 unfold laws_toLog at h
 refine Says.of_norm e Tryz.call64 e fun B hB => ?_
 have hm : B.m ≤ 1000 := by omega
 refine Run.so hm (.z 1000 (.bx e e) e e (.z 1016 (.al e e) e e (.nil (.so hm (.z 5096 (.al e e) e e (.nil (.so hm (.p3 e e e (.y 9240 (.sto e e e e e e) e e (.nil (.so hm (.p3 e e e (.y 13336 (.sto e e e e e e) e e (.nil (.so hm (.p2 e e ?_))))))))))))))))
 obtain ⟨y107,hy107,h⟩ := bindO h
 refine Ops.z 17416 (Ev.call [] [] 1 (sem_laws_toEntryS _ _ _ hy107) e e (.d1 .nil) e (.inl e) e e) e e (.p e (.y 17448 (.sto e e e e e e) e e (.nil (.so hm (.p e (.y 21496 (.sto e e e e e e) e e (.nil (.ret ?_))))))))
 obtain rfl := someO h
 exact Ends.mkG (.inl e) e (gh_pk [0] [17416] hB e e e e) e e
def laws_toPeer (N : Nat) (x1 : Peer) : Option (Peer) :=
 some x1
theorem sem_laws_toPeer (N : Nat) (x1 : Peer) (r : Peer) (h : laws_toPeer N x1 = some r) : Says Tryz.prog 91 [.agg [VI x1.Id,VI x1.Next,VI x1.Match,VI x1.Sent]] 0 [] (.agg [VI r.Id,VI r.Next,VI r.Match,VI r.Sent]) [] := by
 unfold laws_toPeer at h
 refine Says.of_norm e Tryz.call91 e fun B hB => ?_
 have hm : B.m ≤ 1000 := by omega
 refine Run.so hm (.z 1000 (.bx e e) e e (.z 1016 (.al e e) e e (.nil (.so hm (.z 5096 (.al e e) e e (.nil (.so hm (.p3 e e e (.y 9240 (.sto e e e e e e) e e (.nil (.so hm (.p3 e e e (.y 13336 (.sto e e e e e e) e e (.nil (.so hm (.p3 e e e (.y 17432 (.sto e e e e e e) e e (.nil (.so hm (.p3 e e e (.y 21528 (.sto e e e e e e) e e (.nil (.so hm (.p e (.y 25592 (.sto e e e e e e) e e (.nil (.ret ?_)))))))))))))))))))))))))))
 obtain rfl := someO h
 exact Ends.mkG (.inl e) e (gh_pk [0] [] hB e e e e) e e
def laws_toPeerS_l1 (N : Nat) (x1 : (List Peer)) : Nat → Int → (List Peer) → Option ((List Peer))
 | 0,_,_ => none
 | m + 1,x210,x211 =>
 (if (decide (x210 < (x1.length : Int))) = true then
 (at? x1 x210).bind fun x239 =>
 (laws_toPeer N x239).bind fun y240 =>
 (at? x211 x210).bind fun x241 =>
 laws_toPeerS_l1 N x1 m (w64 (x210 + 1)) (x211.set x210.toNat y240)
 else
 some x211)
def laws_toPeerS_l1_r (N : Nat) (x1 : (List Peer)) : (List Peer) → Int → (List Peer) → Option ((List Peer))
 | [],x210,x211 =>
 some x211
 | hd :: tl,x210,x211 =>
 (some hd).bind fun x239 =>
 (laws_toPeer N x239).bind fun y240 =>
 (at? x211 x210).bind fun x241 =>
 laws_toPeerS_l1_r N x1 tl (w64 (x210 + 1)) (x211.set x210.toNat y240)
theorem laws_toPeerS_l1_rng (N : Nat) (x1 : (List Peer)) (hx : x1.length ≤ 1099511627776) : ∀ (d k m : Nat) (x211 : (List Peer)),x1.length = k + d → d < m → laws_toPeerS_l1 N x1 m (k : Int) x211 = laws_toPeerS_l1_r N x1 (x1.drop k) (k : Int) x211 := by
 intro d
 induction d with
 | zero =>
  intro k m x211 hd hm
  obtain ⟨m,rfl⟩ : ∃ q,m = q + 1 := ⟨m - 1,by omega⟩
  rw [laws_toPeerS_l1,if_neg (by simp; omega),List.drop_eq_nil_of_le (by omega),laws_toPeerS_l1_r]
 | succ d ih =>
  intro k m x211 hd hm
  obtain ⟨m,rfl⟩ : ∃ q,m = q + 1 := ⟨m - 1,by omega⟩
  have hk : k < x1.length := by omega
  rw [laws_toPeerS_l1,if_pos (by simp; omega),List.drop_eq_getElem_cons hk,laws_toPeerS_l1_r]
  have h1 := at_lt hk
  have h2 := w64_succ (k := k) (by omega)
  have h3 := ih (k + 1) m
  simp only [h1,h2,h3 _ (by omega) (by omega)]
theorem laws_toPeerS_l1_eq {N : Nat} (x1 : (List Peer)) (hx : x1.length ≤ 1099511627776) (hN : x1.length < N) (x211 : (List Peer)) : laws_toPeerS_l1 N x1 N 0 x211 = laws_toPeerS_l1_r N x1 x1 0 x211 := laws_toPeerS_l1_rng N x1 hx x1.length 0 N x211 (by omega) hN
def laws_toPeerS (N : Nat) (x1 : (List Peer)) : Option ((List Peer)) :=
 (mk? (Peer.mk 0 0 0 0) (x1.length : Int)).bind fun x174 =>
 joinP (fun (v208 : (List Peer)) =>
 some v208) fun j208 =>
 (laws_toPeerS_l1 N x1 N 0 x174).bind (fun v226 => j208 v226)
theorem sem_laws_toPeerS (N : Nat) (x1 : (List Peer)) (r : (List Peer)) (h : laws_toPeerS N x1 = some r) : Says Tryz.prog 80 [RO 188 (x1.map encPeer)] 0 [] (.sl 0 186 0 r.length) [(0,.vec 186 (r.map encPeer))] := by
 unfold laws_toPeerS at h
 refine Says.of_norm e Tryz.call80 e fun B hB => ?_
 have hm : B.m ≤ 1000 := by omega
 refine Run.so hm (.p e (.nil (.so hm (.p e (.z 5112 (Ev.lnF e) e e ?_)))))
 obtain ⟨x174,hx174,h⟩ := bindO h
 refine Ops.z 5128 (Ev.msW (f := encPeer) (zv := (Peer.mk 0 0 0 0)) e e e bt186 e hx174) e e (.p e (.nil (.seqO h (fun v208 => [(3,.sl 0 186 0 v208.length)]) (fun (v208 : (List Peer)) => [(0,.vec 186 (v208.map encPeer))]) (fun h => ?_) (fun v208 h => ?_))))
 ·refine Run.so hm (.p e (.nil (.block ?_)))
  obtain ⟨res226,h,hk226⟩ := bindO h
  refine Run.loop (n := N) (fun m226 fr σ => ∃ (x210 : Int),∃ (x211 : (List Peer)),laws_toPeerS_l1 N x1 m226 x210 x211 = some res226 ∧ fr = [(0,RO 188 (x1.map encPeer)),(3,.sl 0 186 0 x211.length),(4,VI x210)] ∧ σ = [(0,.vec 186 (x211.map encPeer))]) (gh_pk [0,3,4] [5128] hB e e e e) ⟨_,_,h,e,e⟩ ?_
  rintro m226 fr σ ⟨x210,x211,h,rfl,rfl⟩
  obtain _ | m226 := m226
  ·rw [laws_toPeerS_l1] at h; cases h
  rw [laws_toPeerS_l1] at h
  refine Run.seq (.so hm (.p2 e e (.z 13320 (Ev.lnF e) e e (.p e (.nil (.condO e h (fun g229 h => ?_) (fun g229 h => ?_)))))))
  ·refine Run.skip (.seq (.block (.ops hm (.p3 e e e (.p e ?_)))))
   obtain ⟨x239,hx239,h⟩ := bindO h
   refine Ops.z 21544 (Ev.iaF e e hx239) e e (.p e ?_)
   obtain ⟨y240,hy240,h⟩ := bindO h
   refine Ops.z 21576 (Ev.call [] [] 0 (sem_laws_toPeer _ _ _ hy240) e e (.cons (.agg (.d4 .nil)) .nil) e (.inl e) e e) e e ?_
   obtain ⟨x241,hx241,h⟩ := bindO h
   exact Ops.z 21592 (Ev.iaW e e e hx241) e e (.y 21608 (Ev.stE (f := encPeer) (v' := y240) e e (at_some hx241).2 e (.d4 .nil) e e e e e) e e (.nil (.ops hm (.p3 e e e (.nil (⟨m226,Nat.lt_succ_self m226,_,_,(gh_pk [0,3,4] [0] hB e e (by first | rfl | (simp only [List.length_set]; done) | (simp only [List.length_set]; rfl)) (by first | rfl | (simp only [List.length_set]; done) | (simp only [List.length_set]; rfl))),_,_,h,e,e⟩))))))
  ·refine Run.exit ?_
   obtain rfl := someO h
   have h := hk226
   exact ⟨_,_,(gh_pk [3] [0] hB e e e e),_,h,e,e⟩
 ·refine Run.so hm (.p2 e e (.nil (.ret ?_)))
  obtain rfl := someO h
  exact Ends.mkG (.inl e) e (gh_pk [0] [0] hB e e e e) e e
def laws_toNode (N : Nat) (x1 : Node) : Option (Node) :=
 (laws_toIntS N x1.Conf).bind fun y119 =>
 (laws_toLog N x1.Log).bind fun y123 =>
 (laws_toIntS N x1.Votes).bind fun y127 =>
 (laws_toPeerS N x1.Peers).bind fun y131 =>
 some (Node.mk x1.Id x1.Term x1.Vote x1.Role x1.Lead y119 y123 x1.Commit x1.Clock x1.Limit y127 y131)
theorem sem_laws_toNode (N : Nat) (x1 : Node) (r : Node) (h : laws_toNode N x1 = some r) : Says Tryz.prog 59 [.agg [VI x1.Id,VI x1.Term,VI x1.Vote,VI x1.Role,VI x1.Lead,RO 3 (x1.Conf.map encI),VI x1.Log.Start,VI x1.Log.StartTerm,RO 97 (x1.Log.Entries.map encEntry),VI x1.Commit,VI x1.Clock,VI x1.Limit,RO 3 (x1.Votes.map encI),RO 188 (x1.Peers.map encPeer)]] 0 [] (.agg [VI r.Id,VI r.Term,VI r.Vote,VI r.Role,VI r.Lead,.sl 0 3 0 r.Conf.length,VI r.Log.Start,VI r.Log.StartTerm,.sl 1 131 0 r.Log.Entries.length,VI r.Commit,VI r.Clock,VI r.Limit,.sl 2 3 0 r.Votes.length,.sl 3 186 0 r.Peers.length]) [(0,.vec 3 (r.Conf.map encI)),(1,.vec 131 (r.Log.Entries.map encEntry)),(2,.vec 3 (r.Votes.map encI)),(3,.vec 186 (r.Peers.map encPeer))] := by
 unfold laws_toNode at h
 refine Says.of_norm e Tryz.call59 e fun B hB => ?_
 have hm : B.m ≤ 1000 := by omega
 refine Run.so hm (.z 1000 (.bx e e) e e (.z 1016 (.al e e) e e (.nil (.so hm (.z 5096 (.al e e) e e (.nil (.so hm (.p3 e e e (.y 9240 (.sto e e e e e e) e e (.nil (.so hm (.p3 e e e (.y 13336 (.sto e e e e e e) e e (.nil (.so hm (.p3 e e e (.y 17432 (.sto e e e e e e) e e (.nil (.so hm (.p3 e e e (.y 21528 (.sto e e e e e e) e e (.nil (.so hm (.p3 e e e (.y 25624 (.sto e e e e e e) e e (.nil (.so hm (.p2 e e ?_))))))))))))))))))))))))))))
 obtain ⟨y119,hy119,h⟩ := bindO h
 refine Ops.z 29704 (Ev.call [] [] 1 (sem_laws_toIntS _ _ _ hy119) e e (.d1 .nil) e (.inl e) e e) e e (.p e (.y 29736 (.sto e e e e e e) e e (.nil (.so hm (.p2 e e ?_)))))
 obtain ⟨y123,hy123,h⟩ := bindO h
 refine Ops.z 33800 (Ev.call [] [] 1 (sem_laws_toLog _ _ _ hy123) e e (.cons (.agg (.d2 (.d1 .nil))) .nil) e (.inl e) e e) e e (.p e (.y 33832 (.sto e e e e e e) e e (.nil (.so hm (.p3 e e e (.y 37912 (.sto e e e e e e) e e (.nil (.so hm (.p3 e e e (.y 42008 (.sto e e e e e e) e e (.nil (.so hm (.p3 e e e (.y 46104 (.sto e e e e e e) e e (.nil (.so hm (.p2 e e ?_)))))))))))))))))
 obtain ⟨y127,hy127,h⟩ := bindO h
 refine Ops.z 50184 (Ev.call [] [] 1 (sem_laws_toIntS _ _ _ hy127) e e (.d1 .nil) e (.inl e) e e) e e (.p e (.y 50216 (.sto e e e e e e) e e (.nil (.so hm (.p2 e e ?_)))))
 obtain ⟨y131,hy131,h⟩ := bindO h
 refine Ops.z 54280 (Ev.call [] [] 1 (sem_laws_toPeerS _ _ _ hy131) e e (.d1 .nil) e (.inl e) e e) e e (.p e (.y 54312 (.sto e e e e e e) e e (.nil (.so hm (.p e (.y 58360 (.sto e e e e e e) e e (.nil (.ret ?_))))))))
 obtain rfl := someO h
 exact Ends.mkG (.inl e) e (gh_pk [0] [29704,33800,50184,54280] hB e e e e) e e
def laws_toFile (N : Nat) (x1 : File) : Option (File) :=
 some x1
theorem sem_laws_toFile (N : Nat) (x1 : File) (r : File) (h : laws_toFile N x1 = some r) : Says Tryz.prog 92 [.agg [VS x1.Name,VS x1.Text]] 0 [] (.agg [VS r.Name,VS r.Text]) [] := by
 unfold laws_toFile at h
 refine Says.of_norm e Tryz.call92 e fun B hB => ?_
 have hm : B.m ≤ 1000 := by omega
 refine Run.so hm (.z 1000 (.bx e e) e e (.z 1016 (.al e e) e e (.nil (.so hm (.z 5096 (.al e e) e e (.nil (.so hm (.p3 e e e (.y 9240 (.sto e e e e e e) e e (.nil (.so hm (.p3 e e e (.y 13336 (.sto e e e e e e) e e (.nil (.so hm (.p e (.y 17400 (.sto e e e e e e) e e (.nil (.ret ?_)))))))))))))))))))
 obtain rfl := someO h
 exact Ends.mkG (.inl e) e (gh_pk [0] [] hB e e e e) e e
def laws_toFileS_l1 (N : Nat) (x1 : (List File)) : Nat → Int → (List File) → Option ((List File))
 | 0,_,_ => none
 | m + 1,x210,x211 =>
 (if (decide (x210 < (x1.length : Int))) = true then
 (at? x1 x210).bind fun x239 =>
 (laws_toFile N x239).bind fun y240 =>
 (at? x211 x210).bind fun x241 =>
 laws_toFileS_l1 N x1 m (w64 (x210 + 1)) (x211.set x210.toNat y240)
 else
 some x211)
def laws_toFileS_l1_r (N : Nat) (x1 : (List File)) : (List File) → Int → (List File) → Option ((List File))
 | [],x210,x211 =>
 some x211
 | hd :: tl,x210,x211 =>
 (some hd).bind fun x239 =>
 (laws_toFile N x239).bind fun y240 =>
 (at? x211 x210).bind fun x241 =>
 laws_toFileS_l1_r N x1 tl (w64 (x210 + 1)) (x211.set x210.toNat y240)
theorem laws_toFileS_l1_rng (N : Nat) (x1 : (List File)) (hx : x1.length ≤ 1099511627776) : ∀ (d k m : Nat) (x211 : (List File)),x1.length = k + d → d < m → laws_toFileS_l1 N x1 m (k : Int) x211 = laws_toFileS_l1_r N x1 (x1.drop k) (k : Int) x211 := by
 intro d
 induction d with
 | zero =>
  intro k m x211 hd hm
  obtain ⟨m,rfl⟩ : ∃ q,m = q + 1 := ⟨m - 1,by omega⟩
  rw [laws_toFileS_l1,if_neg (by simp; omega),List.drop_eq_nil_of_le (by omega),laws_toFileS_l1_r]
 | succ d ih =>
  intro k m x211 hd hm
  obtain ⟨m,rfl⟩ : ∃ q,m = q + 1 := ⟨m - 1,by omega⟩
  have hk : k < x1.length := by omega
  rw [laws_toFileS_l1,if_pos (by simp; omega),List.drop_eq_getElem_cons hk,laws_toFileS_l1_r]
  have h1 := at_lt hk
  have h2 := w64_succ (k := k) (by omega)
  have h3 := ih (k + 1) m
  simp only [h1,h2,h3 _ (by omega) (by omega)]
theorem laws_toFileS_l1_eq {N : Nat} (x1 : (List File)) (hx : x1.length ≤ 1099511627776) (hN : x1.length < N) (x211 : (List File)) : laws_toFileS_l1 N x1 N 0 x211 = laws_toFileS_l1_r N x1 x1 0 x211 := laws_toFileS_l1_rng N x1 hx x1.length 0 N x211 (by omega) hN
def laws_toFileS (N : Nat) (x1 : (List File)) : Option ((List File)) :=
 (mk? (File.mk (⟨#[]⟩ : ByteArray) (⟨#[]⟩ : ByteArray)) (x1.length : Int)).bind fun x174 =>
 joinP (fun (v208 : (List File)) =>
 some v208) fun j208 =>
 (laws_toFileS_l1 N x1 N 0 x174).bind (fun v226 => j208 v226)
theorem sem_laws_toFileS (N : Nat) (x1 : (List File)) (r : (List File)) (h : laws_toFileS N x1 = some r) : Says Tryz.prog 81 [RO 181 (x1.map encFile)] 0 [] (.sl 0 189 0 r.length) [(0,.vec 189 (r.map encFile))] := by
 unfold laws_toFileS at h
 refine Says.of_norm e Tryz.call81 e fun B hB => ?_
 have hm : B.m ≤ 1000 := by omega
 refine Run.so hm (.p e (.nil (.so hm (.p e (.z 5112 (Ev.lnF e) e e ?_)))))
 obtain ⟨x174,hx174,h⟩ := bindO h
 refine Ops.z 5128 (Ev.msW (f := encFile) (zv := (File.mk (⟨#[]⟩ : ByteArray) (⟨#[]⟩ : ByteArray))) e e e bt189 e hx174) e e (.p e (.nil (.seqO h (fun v208 => [(3,.sl 0 189 0 v208.length)]) (fun (v208 : (List File)) => [(0,.vec 189 (v208.map encFile))]) (fun h => ?_) (fun v208 h => ?_))))
 ·refine Run.so hm (.p e (.nil (.block ?_)))
  obtain ⟨res226,h,hk226⟩ := bindO h
  refine Run.loop (n := N) (fun m226 fr σ => ∃ (x210 : Int),∃ (x211 : (List File)),laws_toFileS_l1 N x1 m226 x210 x211 = some res226 ∧ fr = [(0,RO 181 (x1.map encFile)),(3,.sl 0 189 0 x211.length),(4,VI x210)] ∧ σ = [(0,.vec 189 (x211.map encFile))]) (gh_pk [0,3,4] [5128] hB e e e e) ⟨_,_,h,e,e⟩ ?_
  rintro m226 fr σ ⟨x210,x211,h,rfl,rfl⟩
  obtain _ | m226 := m226
  ·rw [laws_toFileS_l1] at h; cases h
  rw [laws_toFileS_l1] at h
  refine Run.seq (.so hm (.p2 e e (.z 13320 (Ev.lnF e) e e (.p e (.nil (.condO e h (fun g229 h => ?_) (fun g229 h => ?_)))))))
  ·refine Run.skip (.seq (.block (.ops hm (.p3 e e e (.p e ?_)))))
   obtain ⟨x239,hx239,h⟩ := bindO h
   refine Ops.z 21544 (Ev.iaF e e hx239) e e (.p e ?_)
   obtain ⟨y240,hy240,h⟩ := bindO h
   refine Ops.z 21576 (Ev.call [] [] 0 (sem_laws_toFile _ _ _ hy240) e e (.cons (.agg (.d2 .nil)) .nil) e (.inl e) e e) e e ?_
   obtain ⟨x241,hx241,h⟩ := bindO h
   exact Ops.z 21592 (Ev.iaW e e e hx241) e e (.y 21608 (Ev.stE (f := encFile) (v' := y240) e e (at_some hx241).2 e (.d2 .nil) e e e e e) e e (.nil (.ops hm (.p3 e e e (.nil (⟨m226,Nat.lt_succ_self m226,_,_,(gh_pk [0,3,4] [0] hB e e (by first | rfl | (simp only [List.length_set]; done) | (simp only [List.length_set]; rfl)) (by first | rfl | (simp only [List.length_set]; done) | (simp only [List.length_set]; rfl))),_,_,h,e,e⟩))))))
  ·refine Run.exit ?_
   obtain rfl := someO h
   have h := hk226
   exact ⟨_,_,(gh_pk [3] [0] hB e e e e),_,h,e,e⟩
 ·refine Run.so hm (.p2 e e (.nil (.ret ?_)))
  obtain rfl := someO h
  exact Ends.mkG (.inl e) e (gh_pk [0] [0] hB e e e e) e e
def laws_toDisk (N : Nat) (x1 : Disk) : Option (Disk) :=
 (laws_toFileS N x1.Files).bind fun y107 =>
 some (Disk.mk y107)
theorem sem_laws_toDisk (N : Nat) (x1 : Disk) (r : Disk) (h : laws_toDisk N x1 = some r) : Says Tryz.prog 60 [.agg [RO 181 (x1.Files.map encFile)]] 0 [] (.agg [.sl 0 189 0 r.Files.length]) [(0,.vec 189 (r.Files.map encFile))] := by
 unfold laws_toDisk at h
 refine Says.of_norm e Tryz.call60 e fun B hB => ?_
 have hm : B.m ≤ 1000 := by omega
 refine Run.so hm (.z 1000 (.bx e e) e e (.z 1016 (.al e e) e e (.nil (.so hm (.z 5096 (.al e e) e e (.nil (.so hm (.p2 e e ?_))))))))
 obtain ⟨y107,hy107,h⟩ := bindO h
 refine Ops.z 9224 (Ev.call [] [] 1 (sem_laws_toFileS _ _ _ hy107) e e (.d1 .nil) e (.inl e) e e) e e (.p e (.y 9256 (.sto e e e e e e) e e (.nil (.so hm (.p e (.y 13304 (.sto e e e e e e) e e (.nil (.ret ?_))))))))
 obtain rfl := someO h
 exact Ends.mkG (.inl e) e (gh_pk [0] [9224] hB e e e e) e e
def laws_toManifest (N : Nat) (x1 : Manifest) : Option (Manifest) :=
 (laws_toIntS N x1.Segs).bind fun y111 =>
 (laws_toIntS N x1.Conf).bind fun y115 =>
 some (Manifest.mk y111 x1.Next x1.Base x1.BaseTerm y115)
theorem sem_laws_toManifest (N : Nat) (x1 : Manifest) (r : Manifest) (h : laws_toManifest N x1 = some r) : Says Tryz.prog 82 [.agg [RO 3 (x1.Segs.map encI),VI x1.Next,VI x1.Base,VI x1.BaseTerm,RO 3 (x1.Conf.map encI)]] 0 [] (.agg [.sl 0 3 0 r.Segs.length,VI r.Next,VI r.Base,VI r.BaseTerm,.sl 1 3 0 r.Conf.length]) [(0,.vec 3 (r.Segs.map encI)),(1,.vec 3 (r.Conf.map encI))] := by
 unfold laws_toManifest at h
 refine Says.of_norm e Tryz.call82 e fun B hB => ?_
 have hm : B.m ≤ 1000 := by omega
 refine Run.so hm (.z 1000 (.bx e e) e e (.z 1016 (.al e e) e e (.nil (.so hm (.z 5096 (.al e e) e e (.nil (.so hm (.p2 e e ?_))))))))
 obtain ⟨y111,hy111,h⟩ := bindO h
 refine Ops.z 9224 (Ev.call [] [] 1 (sem_laws_toIntS _ _ _ hy111) e e (.d1 .nil) e (.inl e) e e) e e (.p e (.y 9256 (.sto e e e e e e) e e (.nil (.so hm (.p3 e e e (.y 13336 (.sto e e e e e e) e e (.nil (.so hm (.p3 e e e (.y 17432 (.sto e e e e e e) e e (.nil (.so hm (.p3 e e e (.y 21528 (.sto e e e e e e) e e (.nil (.so hm (.p2 e e ?_)))))))))))))))))
 obtain ⟨y115,hy115,h⟩ := bindO h
 refine Ops.z 25608 (Ev.call [] [] 1 (sem_laws_toIntS _ _ _ hy115) e e (.d1 .nil) e (.inl e) e e) e e (.p e (.y 25640 (.sto e e e e e e) e e (.nil (.so hm (.p e (.y 29688 (.sto e e e e e e) e e (.nil (.ret ?_))))))))
 obtain rfl := someO h
 exact Ends.mkG (.inl e) e (gh_pk [0] [9224,25608] hB e e e e) e e
def laws_toSpot (N : Nat) (x1 : Spot) : Option (Spot) :=
 some x1
theorem sem_laws_toSpot (N : Nat) (x1 : Spot) (r : Spot) (h : laws_toSpot N x1 = some r) : Says Tryz.prog 93 [.agg [VS x1.Key,VI x1.Seg,VI x1.At,VI x1.Size]] 0 [] (.agg [VS r.Key,VI r.Seg,VI r.At,VI r.Size]) [] := by
 unfold laws_toSpot at h
 refine Says.of_norm e Tryz.call93 e fun B hB => ?_
 have hm : B.m ≤ 1000 := by omega
 refine Run.so hm (.z 1000 (.bx e e) e e (.z 1016 (.al e e) e e (.nil (.so hm (.z 5096 (.al e e) e e (.nil (.so hm (.p3 e e e (.y 9240 (.sto e e e e e e) e e (.nil (.so hm (.p3 e e e (.y 13336 (.sto e e e e e e) e e (.nil (.so hm (.p3 e e e (.y 17432 (.sto e e e e e e) e e (.nil (.so hm (.p3 e e e (.y 21528 (.sto e e e e e e) e e (.nil (.so hm (.p e (.y 25592 (.sto e e e e e e) e e (.nil (.ret ?_)))))))))))))))))))))))))))
 obtain rfl := someO h
 exact Ends.mkG (.inl e) e (gh_pk [0] [] hB e e e e) e e
def laws_toSpotS_l1 (N : Nat) (x1 : (List Spot)) : Nat → Int → (List Spot) → Option ((List Spot))
 | 0,_,_ => none
 | m + 1,x210,x211 =>
 (if (decide (x210 < (x1.length : Int))) = true then
 (at? x1 x210).bind fun x239 =>
 (laws_toSpot N x239).bind fun y240 =>
 (at? x211 x210).bind fun x241 =>
 laws_toSpotS_l1 N x1 m (w64 (x210 + 1)) (x211.set x210.toNat y240)
 else
 some x211)
def laws_toSpotS_l1_r (N : Nat) (x1 : (List Spot)) : (List Spot) → Int → (List Spot) → Option ((List Spot))
 | [],x210,x211 =>
 some x211
 | hd :: tl,x210,x211 =>
 (some hd).bind fun x239 =>
 (laws_toSpot N x239).bind fun y240 =>
 (at? x211 x210).bind fun x241 =>
 laws_toSpotS_l1_r N x1 tl (w64 (x210 + 1)) (x211.set x210.toNat y240)
theorem laws_toSpotS_l1_rng (N : Nat) (x1 : (List Spot)) (hx : x1.length ≤ 1099511627776) : ∀ (d k m : Nat) (x211 : (List Spot)),x1.length = k + d → d < m → laws_toSpotS_l1 N x1 m (k : Int) x211 = laws_toSpotS_l1_r N x1 (x1.drop k) (k : Int) x211 := by
 intro d
 induction d with
 | zero =>
  intro k m x211 hd hm
  obtain ⟨m,rfl⟩ : ∃ q,m = q + 1 := ⟨m - 1,by omega⟩
  rw [laws_toSpotS_l1,if_neg (by simp; omega),List.drop_eq_nil_of_le (by omega),laws_toSpotS_l1_r]
 | succ d ih =>
  intro k m x211 hd hm
  obtain ⟨m,rfl⟩ : ∃ q,m = q + 1 := ⟨m - 1,by omega⟩
  have hk : k < x1.length := by omega
  rw [laws_toSpotS_l1,if_pos (by simp; omega),List.drop_eq_getElem_cons hk,laws_toSpotS_l1_r]
  have h1 := at_lt hk
  have h2 := w64_succ (k := k) (by omega)
  have h3 := ih (k + 1) m
  simp only [h1,h2,h3 _ (by omega) (by omega)]
theorem laws_toSpotS_l1_eq {N : Nat} (x1 : (List Spot)) (hx : x1.length ≤ 1099511627776) (hN : x1.length < N) (x211 : (List Spot)) : laws_toSpotS_l1 N x1 N 0 x211 = laws_toSpotS_l1_r N x1 x1 0 x211 := laws_toSpotS_l1_rng N x1 hx x1.length 0 N x211 (by omega) hN
def laws_toSpotS (N : Nat) (x1 : (List Spot)) : Option ((List Spot)) :=
 (mk? (Spot.mk (⟨#[]⟩ : ByteArray) 0 0 0) (x1.length : Int)).bind fun x174 =>
 joinP (fun (v208 : (List Spot)) =>
 some v208) fun j208 =>
 (laws_toSpotS_l1 N x1 N 0 x174).bind (fun v226 => j208 v226)
theorem sem_laws_toSpotS (N : Nat) (x1 : (List Spot)) (r : (List Spot)) (h : laws_toSpotS N x1 = some r) : Says Tryz.prog 83 [RO 184 (x1.map encSpot)] 0 [] (.sl 0 191 0 r.length) [(0,.vec 191 (r.map encSpot))] := by
 unfold laws_toSpotS at h
 refine Says.of_norm e Tryz.call83 e fun B hB => ?_
 have hm : B.m ≤ 1000 := by omega
 refine Run.so hm (.p e (.nil (.so hm (.p e (.z 5112 (Ev.lnF e) e e ?_)))))
 obtain ⟨x174,hx174,h⟩ := bindO h
 refine Ops.z 5128 (Ev.msW (f := encSpot) (zv := (Spot.mk (⟨#[]⟩ : ByteArray) 0 0 0)) e e e bt191 e hx174) e e (.p e (.nil (.seqO h (fun v208 => [(3,.sl 0 191 0 v208.length)]) (fun (v208 : (List Spot)) => [(0,.vec 191 (v208.map encSpot))]) (fun h => ?_) (fun v208 h => ?_))))
 ·refine Run.so hm (.p e (.nil (.block ?_)))
  obtain ⟨res226,h,hk226⟩ := bindO h
  refine Run.loop (n := N) (fun m226 fr σ => ∃ (x210 : Int),∃ (x211 : (List Spot)),laws_toSpotS_l1 N x1 m226 x210 x211 = some res226 ∧ fr = [(0,RO 184 (x1.map encSpot)),(3,.sl 0 191 0 x211.length),(4,VI x210)] ∧ σ = [(0,.vec 191 (x211.map encSpot))]) (gh_pk [0,3,4] [5128] hB e e e e) ⟨_,_,h,e,e⟩ ?_
  rintro m226 fr σ ⟨x210,x211,h,rfl,rfl⟩
  obtain _ | m226 := m226
  ·rw [laws_toSpotS_l1] at h; cases h
  rw [laws_toSpotS_l1] at h
  refine Run.seq (.so hm (.p2 e e (.z 13320 (Ev.lnF e) e e (.p e (.nil (.condO e h (fun g229 h => ?_) (fun g229 h => ?_)))))))
  ·refine Run.skip (.seq (.block (.ops hm (.p3 e e e (.p e ?_)))))
   obtain ⟨x239,hx239,h⟩ := bindO h
   refine Ops.z 21544 (Ev.iaF e e hx239) e e (.p e ?_)
   obtain ⟨y240,hy240,h⟩ := bindO h
   refine Ops.z 21576 (Ev.call [] [] 0 (sem_laws_toSpot _ _ _ hy240) e e (.cons (.agg (.d4 .nil)) .nil) e (.inl e) e e) e e ?_
   obtain ⟨x241,hx241,h⟩ := bindO h
   exact Ops.z 21592 (Ev.iaW e e e hx241) e e (.y 21608 (Ev.stE (f := encSpot) (v' := y240) e e (at_some hx241).2 e (.d4 .nil) e e e e e) e e (.nil (.ops hm (.p3 e e e (.nil (⟨m226,Nat.lt_succ_self m226,_,_,(gh_pk [0,3,4] [0] hB e e (by first | rfl | (simp only [List.length_set]; done) | (simp only [List.length_set]; rfl)) (by first | rfl | (simp only [List.length_set]; done) | (simp only [List.length_set]; rfl))),_,_,h,e,e⟩))))))
  ·refine Run.exit ?_
   obtain rfl := someO h
   have h := hk226
   exact ⟨_,_,(gh_pk [3] [0] hB e e e e),_,h,e,e⟩
 ·refine Run.so hm (.p2 e e (.nil (.ret ?_)))
  obtain rfl := someO h
  exact Ends.mkG (.inl e) e (gh_pk [0] [0] hB e e e e) e e
def laws_toShelf (N : Nat) (x1 : Shelf) : Option (Shelf) :=
 (laws_toManifest N x1.Man).bind fun y111 =>
 (laws_toSpotS N x1.Dir).bind fun y115 =>
 some (Shelf.mk y111 y115 x1.Stamp)
theorem sem_laws_toShelf (N : Nat) (x1 : Shelf) (r : Shelf) (h : laws_toShelf N x1 = some r) : Says Tryz.prog 61 [.agg [RO 3 (x1.Man.Segs.map encI),VI x1.Man.Next,VI x1.Man.Base,VI x1.Man.BaseTerm,RO 3 (x1.Man.Conf.map encI),RO 184 (x1.Dir.map encSpot),VI x1.Stamp]] 0 [] (.agg [.sl 0 3 0 r.Man.Segs.length,VI r.Man.Next,VI r.Man.Base,VI r.Man.BaseTerm,.sl 1 3 0 r.Man.Conf.length,.sl 2 191 0 r.Dir.length,VI r.Stamp]) [(0,.vec 3 (r.Man.Segs.map encI)),(1,.vec 3 (r.Man.Conf.map encI)),(2,.vec 191 (r.Dir.map encSpot))] := by
 unfold laws_toShelf at h
 refine Says.of_norm e Tryz.call61 e fun B hB => ?_
 have hm : B.m ≤ 1000 := by omega
 refine Run.so hm (.z 1000 (.bx e e) e e (.z 1016 (.al e e) e e (.nil (.so hm (.z 5096 (.al e e) e e (.nil (.so hm (.p2 e e ?_))))))))
 obtain ⟨y111,hy111,h⟩ := bindO h
 refine Ops.z 9224 (Ev.call [] [] 2 (sem_laws_toManifest _ _ _ hy111) e e (.cons (.agg (.d4 (.d1 .nil))) .nil) e (.inl e) e e) e e (.p e (.y 9256 (.sto e e e e e e) e e (.nil (.so hm (.p2 e e ?_)))))
 obtain ⟨y115,hy115,h⟩ := bindO h
 refine Ops.z 13320 (Ev.call [] [] 1 (sem_laws_toSpotS _ _ _ hy115) e e (.d1 .nil) e (.inl e) e e) e e (.p e (.y 13352 (.sto e e e e e e) e e (.nil (.so hm (.p3 e e e (.y 17432 (.sto e e e e e e) e e (.nil (.so hm (.p e (.y 21496 (.sto e e e e e e) e e (.nil (.ret ?_))))))))))))
 obtain rfl := someO h
 exact Ends.mkG (.inl e) e (gh_pk [0] [9224,9225,13320] hB e e e e) e e
def laws_toServer (N : Nat) (x1 : Server) : Option (Server) :=
 (laws_toNode N x1.Node).bind fun y115 =>
 (laws_toDisk N x1.Disk).bind fun y119 =>
 (laws_toShelf N x1.Shelf).bind fun y123 =>
 some (Server.mk y115 y119 y123 x1.Stage x1.StageAt x1.StageTerm)
theorem sem_laws_toServer (N : Nat) (x1 : Server) (r : Server) (h : laws_toServer N x1 = some r) : Says Tryz.prog 38 [.agg [VI x1.Node.Id,VI x1.Node.Term,VI x1.Node.Vote,VI x1.Node.Role,VI x1.Node.Lead,RO 3 (x1.Node.Conf.map encI),VI x1.Node.Log.Start,VI x1.Node.Log.StartTerm,RO 97 (x1.Node.Log.Entries.map encEntry),VI x1.Node.Commit,VI x1.Node.Clock,VI x1.Node.Limit,RO 3 (x1.Node.Votes.map encI),RO 188 (x1.Node.Peers.map encPeer),RO 181 (x1.Disk.Files.map encFile),RO 3 (x1.Shelf.Man.Segs.map encI),VI x1.Shelf.Man.Next,VI x1.Shelf.Man.Base,VI x1.Shelf.Man.BaseTerm,RO 3 (x1.Shelf.Man.Conf.map encI),RO 184 (x1.Shelf.Dir.map encSpot),VI x1.Shelf.Stamp,VS x1.Stage,VI x1.StageAt,VI x1.StageTerm]] 0 [] (.agg [VI r.Node.Id,VI r.Node.Term,VI r.Node.Vote,VI r.Node.Role,VI r.Node.Lead,.sl 0 3 0 r.Node.Conf.length,VI r.Node.Log.Start,VI r.Node.Log.StartTerm,.sl 1 131 0 r.Node.Log.Entries.length,VI r.Node.Commit,VI r.Node.Clock,VI r.Node.Limit,.sl 2 3 0 r.Node.Votes.length,.sl 3 186 0 r.Node.Peers.length,.sl 4 189 0 r.Disk.Files.length,.sl 5 3 0 r.Shelf.Man.Segs.length,VI r.Shelf.Man.Next,VI r.Shelf.Man.Base,VI r.Shelf.Man.BaseTerm,.sl 6 3 0 r.Shelf.Man.Conf.length,.sl 7 191 0 r.Shelf.Dir.length,VI r.Shelf.Stamp,VS r.Stage,VI r.StageAt,VI r.StageTerm]) [(0,.vec 3 (r.Node.Conf.map encI)),(1,.vec 131 (r.Node.Log.Entries.map encEntry)),(2,.vec 3 (r.Node.Votes.map encI)),(3,.vec 186 (r.Node.Peers.map encPeer)),(4,.vec 189 (r.Disk.Files.map encFile)),(5,.vec 3 (r.Shelf.Man.Segs.map encI)),(6,.vec 3 (r.Shelf.Man.Conf.map encI)),(7,.vec 191 (r.Shelf.Dir.map encSpot))] := by
 unfold laws_toServer at h
 refine Says.of_norm e Tryz.call38 e fun B hB => ?_
 have hm : B.m ≤ 1000 := by omega
 refine Run.so hm (.z 1000 (.bx e e) e e (.z 1016 (.al e e) e e (.nil (.so hm (.z 5096 (.al e e) e e (.nil (.so hm (.p2 e e ?_))))))))
 obtain ⟨y115,hy115,h⟩ := bindO h
 refine Ops.z 9224 (Ev.call [] [] 4 (sem_laws_toNode _ _ _ hy115) e e (.cons (.agg (.d4 (.d4 (.d4 (.d2 .nil))))) .nil) e (.inl e) e e) e e (.p e (.y 9256 (.sto e e e e e e) e e (.nil (.so hm (.p2 e e ?_)))))
 obtain ⟨y119,hy119,h⟩ := bindO h
 refine Ops.z 13320 (Ev.call [] [] 1 (sem_laws_toDisk _ _ _ hy119) e e (.cons (.agg (.d1 .nil)) .nil) e (.inl e) e e) e e (.p e (.y 13352 (.sto e e e e e e) e e (.nil (.so hm (.p2 e e ?_)))))
 obtain ⟨y123,hy123,h⟩ := bindO h
 refine Ops.z 17416 (Ev.call [] [] 3 (sem_laws_toShelf _ _ _ hy123) e e (.cons (.agg (.d4 (.d2 (.d1 .nil)))) .nil) e (.inl e) e e) e e (.p e (.y 17448 (.sto e e e e e e) e e (.nil (.so hm (.p3 e e e (.y 21528 (.sto e e e e e e) e e (.nil (.so hm (.p3 e e e (.y 25624 (.sto e e e e e e) e e (.nil (.so hm (.p3 e e e (.y 29720 (.sto e e e e e e) e e (.nil (.so hm (.p e (.y 33784 (.sto e e e e e e) e e (.nil (.ret ?_))))))))))))))))))))
 obtain rfl := someO h
 exact Ends.mkG (.inl e) e (gh_pk [0] [9224,9225,9226,9227,13320,17416,17417,17418] hB e e e e) e e
def laws_toServerS_l1 (N : Nat) (x1 : (List Server)) : Nat → Int → (List Server) → Option ((List Server))
 | 0,_,_ => none
 | m + 1,x210,x211 =>
 (if (decide (x210 < (x1.length : Int))) = true then
 (at? x1 x210).bind fun x239 =>
 (laws_toServer N x239).bind fun y240 =>
 (at? x211 x210).bind fun x241 =>
 laws_toServerS_l1 N x1 m (w64 (x210 + 1)) (x211.set x210.toNat y240)
 else
 some x211)
def laws_toServerS_l1_r (N : Nat) (x1 : (List Server)) : (List Server) → Int → (List Server) → Option ((List Server))
 | [],x210,x211 =>
 some x211
 | hd :: tl,x210,x211 =>
 (some hd).bind fun x239 =>
 (laws_toServer N x239).bind fun y240 =>
 (at? x211 x210).bind fun x241 =>
 laws_toServerS_l1_r N x1 tl (w64 (x210 + 1)) (x211.set x210.toNat y240)
theorem laws_toServerS_l1_rng (N : Nat) (x1 : (List Server)) (hx : x1.length ≤ 1099511627776) : ∀ (d k m : Nat) (x211 : (List Server)),x1.length = k + d → d < m → laws_toServerS_l1 N x1 m (k : Int) x211 = laws_toServerS_l1_r N x1 (x1.drop k) (k : Int) x211 := by
 intro d
 induction d with
 | zero =>
  intro k m x211 hd hm
  obtain ⟨m,rfl⟩ : ∃ q,m = q + 1 := ⟨m - 1,by omega⟩
  rw [laws_toServerS_l1,if_neg (by simp; omega),List.drop_eq_nil_of_le (by omega),laws_toServerS_l1_r]
 | succ d ih =>
  intro k m x211 hd hm
  obtain ⟨m,rfl⟩ : ∃ q,m = q + 1 := ⟨m - 1,by omega⟩
  have hk : k < x1.length := by omega
  rw [laws_toServerS_l1,if_pos (by simp; omega),List.drop_eq_getElem_cons hk,laws_toServerS_l1_r]
  have h1 := at_lt hk
  have h2 := w64_succ (k := k) (by omega)
  have h3 := ih (k + 1) m
  simp only [h1,h2,h3 _ (by omega) (by omega)]
theorem laws_toServerS_l1_eq {N : Nat} (x1 : (List Server)) (hx : x1.length ≤ 1099511627776) (hN : x1.length < N) (x211 : (List Server)) : laws_toServerS_l1 N x1 N 0 x211 = laws_toServerS_l1_r N x1 x1 0 x211 := laws_toServerS_l1_rng N x1 hx x1.length 0 N x211 (by omega) hN
def laws_toServerS (N : Nat) (x1 : (List Server)) : Option ((List Server)) :=
 (mk? (Server.mk (Node.mk 0 0 0 0 0 [] (Log.mk 0 0 []) 0 0 0 [] []) (Disk.mk []) (Shelf.mk (Manifest.mk [] 0 0 0 []) [] 0) (⟨#[]⟩ : ByteArray) 0 0) (x1.length : Int)).bind fun x174 =>
 joinP (fun (v208 : (List Server)) =>
 some v208) fun j208 =>
 (laws_toServerS_l1 N x1 N 0 x174).bind (fun v226 => j208 v226)
theorem sem_laws_toServerS (N : Nat) (x1 : (List Server)) (r : (List Server)) (h : laws_toServerS N x1 = some r) : Says Tryz.prog 18 [RO 88 (x1.map (encServerL false))] 0 [] (.sl 0 119 0 r.length) [(0,.vec 119 (r.map (encServer true)))] := by
 unfold laws_toServerS at h
 refine Says.of_norm e Tryz.call18 e fun B hB => ?_
 have hm : B.m ≤ 1000 := by omega
 refine Run.so hm (.p e (.nil (.so hm (.p e (.z 5112 (Ev.lnF e) e e ?_)))))
 obtain ⟨x174,hx174,h⟩ := bindO h
 refine Ops.z 5128 (Ev.msW (f := (encServer true)) (zv := (Server.mk (Node.mk 0 0 0 0 0 [] (Log.mk 0 0 []) 0 0 0 [] []) (Disk.mk []) (Shelf.mk (Manifest.mk [] 0 0 0 []) [] 0) (⟨#[]⟩ : ByteArray) 0 0)) e e e bt119 e hx174) e e (.p e (.nil (.seqO h (fun v208 => [(3,.sl 0 119 0 v208.length)]) (fun (v208 : (List Server)) => [(0,.vec 119 (v208.map (encServer true)))]) (fun h => ?_) (fun v208 h => ?_))))
 ·refine Run.so hm (.p e (.nil (.block ?_)))
  obtain ⟨res226,h,hk226⟩ := bindO h
  refine Run.loop (n := N) (fun m226 fr σ => ∃ (x210 : Int),∃ (x211 : (List Server)),laws_toServerS_l1 N x1 m226 x210 x211 = some res226 ∧ fr = [(0,RO 88 (x1.map (encServerL false))),(3,.sl 0 119 0 x211.length),(4,VI x210)] ∧ σ = [(0,.vec 119 (x211.map (encServer true)))]) (gh_pk [0,3,4] [5128] hB e e e e) ⟨_,_,h,e,e⟩ ?_
  rintro m226 fr σ ⟨x210,x211,h,rfl,rfl⟩
  obtain _ | m226 := m226
  ·rw [laws_toServerS_l1] at h; cases h
  rw [laws_toServerS_l1] at h
  refine Run.seq (.so hm (.p2 e e (.z 13320 (Ev.lnF e) e e (.p e (.nil (.condO e h (fun g229 h => ?_) (fun g229 h => ?_)))))))
  ·refine Run.skip (.seq (.block (.ops hm (.p3 e e e (.p e ?_)))))
   obtain ⟨x239,hx239,h⟩ := bindO h
   refine Ops.z 21544 (Ev.iaF e e hx239) e e (.p e ?_)
   obtain ⟨y240,hy240,h⟩ := bindO h
   refine Ops.z 21576 (Ev.call [] [] 8 (sem_laws_toServer _ _ _ hy240) e e (.cons (.agg (.d4 (.d4 (.d4 (.d4 (.d4 (.d4 (.d1 .nil)))))))) .nil) e (.inl e) e e) e e ?_
   obtain ⟨x241,hx241,h⟩ := bindO h
   exact Ops.z 21592 (Ev.iaW e e e hx241) e e (.y 21608 (Ev.stE (f := (encServer true)) (v' := y240) e e (at_some hx241).2 e (.d4 (.d1 (.cons (.own e (lenmap e)) (.d2 (.cons (.own e (lenmap e)) (.d2 (.d1 (.cons (.own e (lenmap e)) (.cons (.own e (lenmap e)) (.cons (.own e (lenmap e)) (.cons (.own e (lenmap e)) (.d2 (.d1 (.cons (.own e (lenmap e)) (.cons (.own e (lenmap e)) (.d4 .nil)))))))))))))))) e e e e e) e e (.nil (.ops hm (.p3 e e e (.nil (⟨m226,Nat.lt_succ_self m226,_,_,(gh_pk [0,3,4] [0] hB e e (by first | rfl | (simp only [List.length_set]; done) | (simp only [List.length_set]; rfl)) (by first | rfl | (simp only [List.length_set]; done) | (simp only [List.length_set]; rfl))),_,_,h,e,e⟩))))))
  ·refine Run.exit ?_
   obtain rfl := someO h
   have h := hk226
   exact ⟨_,_,(gh_pk [3] [0] hB e e e e),_,h,e,e⟩
 ·refine Run.so hm (.p2 e e (.nil (.ret ?_)))
  obtain rfl := someO h
  exact Ends.mkG (.inl e) e (gh_pk [0] [0] hB e e e e) e e
def laws_toMessage (N : Nat) (x1 : Message) : Option (Message) :=
 (laws_toEntryS N x1.Entries).bind fun y111 =>
 (laws_toIntS N x1.Conf).bind fun y115 =>
 some (Message.mk x1.Kind x1.From x1.To x1.Term x1.Index x1.LogTerm x1.Commit x1.Ok y111 y115 x1.Data x1.Last)
theorem sem_laws_toMessage (N : Nat) (x1 : Message) (r : Message) (h : laws_toMessage N x1 = some r) : Says Tryz.prog 39 [.agg [VI x1.Kind,VI x1.From,VI x1.To,VI x1.Term,VI x1.Index,VI x1.LogTerm,VI x1.Commit,VB x1.Ok,RO 97 (x1.Entries.map encEntry),RO 3 (x1.Conf.map encI),VS x1.Data,VB x1.Last]] 0 [] (.agg [VI r.Kind,VI r.From,VI r.To,VI r.Term,VI r.Index,VI r.LogTerm,VI r.Commit,VB r.Ok,.sl 0 131 0 r.Entries.length,.sl 1 3 0 r.Conf.length,VS r.Data,VB r.Last]) [(0,.vec 131 (r.Entries.map encEntry)),(1,.vec 3 (r.Conf.map encI))] := by
 unfold laws_toMessage at h
 refine Says.of_norm e Tryz.call39 e fun B hB => ?_
 have hm : B.m ≤ 1000 := by omega
 refine Run.so hm (.z 1000 (.bx e e) e e (.z 1016 (.al e e) e e (.nil (.so hm (.z 5096 (.al e e) e e (.nil (.so hm (.p3 e e e (.y 9240 (.sto e e e e e e) e e (.nil (.so hm (.p3 e e e (.y 13336 (.sto e e e e e e) e e (.nil (.so hm (.p3 e e e (.y 17432 (.sto e e e e e e) e e (.nil (.so hm (.p3 e e e (.y 21528 (.sto e e e e e e) e e (.nil (.so hm (.p3 e e e (.y 25624 (.sto e e e e e e) e e (.nil (.so hm (.p3 e e e (.y 29720 (.sto e e e e e e) e e (.nil (.so hm (.p3 e e e (.y 33816 (.sto e e e e e e) e e (.nil (.so hm ?_)))))))))))))))))))))))))))))))))))
 refine Ops.p e (.p2 e e (.y 37912 (.sto e e e e e e) e e (.nil (.so hm (.p2 e e ?_)))))
 obtain ⟨y111,hy111,h⟩ := bindO h
 refine Ops.z 41992 (Ev.call [] [] 1 (sem_laws_toEntryS _ _ _ hy111) e e (.d1 .nil) e (.inl e) e e) e e (.p e (.y 42024 (.sto e e e e e e) e e (.nil (.so hm (.p2 e e ?_)))))
 obtain ⟨y115,hy115,h⟩ := bindO h
 refine Ops.z 46088 (Ev.call [] [] 1 (sem_laws_toIntS _ _ _ hy115) e e (.d1 .nil) e (.inl e) e e) e e (.p e (.y 46120 (.sto e e e e e e) e e (.nil (.so hm (.p3 e e e (.y 50200 (.sto e e e e e e) e e (.nil (.so hm (.p3 e e e (.y 54296 (.sto e e e e e e) e e (.nil (.so hm (.p e (.y 58360 (.sto e e e e e e) e e (.nil (.ret ?_))))))))))))))))
 obtain rfl := someO h
 exact Ends.mkG (.inl e) e (gh_pk [0] [41992,46088] hB e e e e) e e
def laws_toMessageS_l1 (N : Nat) (x1 : (List Message)) : Nat → Int → (List Message) → Option ((List Message))
 | 0,_,_ => none
 | m + 1,x210,x211 =>
 (if (decide (x210 < (x1.length : Int))) = true then
 (at? x1 x210).bind fun x239 =>
 (laws_toMessage N x239).bind fun y240 =>
 (at? x211 x210).bind fun x241 =>
 laws_toMessageS_l1 N x1 m (w64 (x210 + 1)) (x211.set x210.toNat y240)
 else
 some x211)
def laws_toMessageS_l1_r (N : Nat) (x1 : (List Message)) : (List Message) → Int → (List Message) → Option ((List Message))
 | [],x210,x211 =>
 some x211
 | hd :: tl,x210,x211 =>
 (some hd).bind fun x239 =>
 (laws_toMessage N x239).bind fun y240 =>
 (at? x211 x210).bind fun x241 =>
 laws_toMessageS_l1_r N x1 tl (w64 (x210 + 1)) (x211.set x210.toNat y240)
theorem laws_toMessageS_l1_rng (N : Nat) (x1 : (List Message)) (hx : x1.length ≤ 1099511627776) : ∀ (d k m : Nat) (x211 : (List Message)),x1.length = k + d → d < m → laws_toMessageS_l1 N x1 m (k : Int) x211 = laws_toMessageS_l1_r N x1 (x1.drop k) (k : Int) x211 := by
 intro d
 induction d with
 | zero =>
  intro k m x211 hd hm
  obtain ⟨m,rfl⟩ : ∃ q,m = q + 1 := ⟨m - 1,by omega⟩
  rw [laws_toMessageS_l1,if_neg (by simp; omega),List.drop_eq_nil_of_le (by omega),laws_toMessageS_l1_r]
 | succ d ih =>
  intro k m x211 hd hm
  obtain ⟨m,rfl⟩ : ∃ q,m = q + 1 := ⟨m - 1,by omega⟩
  have hk : k < x1.length := by omega
  rw [laws_toMessageS_l1,if_pos (by simp; omega),List.drop_eq_getElem_cons hk,laws_toMessageS_l1_r]
  have h1 := at_lt hk
  have h2 := w64_succ (k := k) (by omega)
  have h3 := ih (k + 1) m
  simp only [h1,h2,h3 _ (by omega) (by omega)]
theorem laws_toMessageS_l1_eq {N : Nat} (x1 : (List Message)) (hx : x1.length ≤ 1099511627776) (hN : x1.length < N) (x211 : (List Message)) : laws_toMessageS_l1 N x1 N 0 x211 = laws_toMessageS_l1_r N x1 x1 0 x211 := laws_toMessageS_l1_rng N x1 hx x1.length 0 N x211 (by omega) hN
def laws_toMessageS (N : Nat) (x1 : (List Message)) : Option ((List Message)) :=
 (mk? (Message.mk 0 0 0 0 0 0 0 false [] [] (⟨#[]⟩ : ByteArray) false) (x1.length : Int)).bind fun x174 =>
 joinP (fun (v208 : (List Message)) =>
 some v208) fun j208 =>
 (laws_toMessageS_l1 N x1 N 0 x174).bind (fun v226 => j208 v226)
theorem sem_laws_toMessageS (N : Nat) (x1 : (List Message)) (r : (List Message)) (h : laws_toMessageS N x1 = some r) : Says Tryz.prog 19 [RO 91 (x1.map (encMessageL false))] 0 [] (.sl 0 122 0 r.length) [(0,.vec 122 (r.map (encMessage true)))] := by
 unfold laws_toMessageS at h
 refine Says.of_norm e Tryz.call19 e fun B hB => ?_
 have hm : B.m ≤ 1000 := by omega
 refine Run.so hm (.p e (.nil (.so hm (.p e (.z 5112 (Ev.lnF e) e e ?_)))))
 obtain ⟨x174,hx174,h⟩ := bindO h
 refine Ops.z 5128 (Ev.msW (f := (encMessage true)) (zv := (Message.mk 0 0 0 0 0 0 0 false [] [] (⟨#[]⟩ : ByteArray) false)) e e e bt122 e hx174) e e (.p e (.nil (.seqO h (fun v208 => [(3,.sl 0 122 0 v208.length)]) (fun (v208 : (List Message)) => [(0,.vec 122 (v208.map (encMessage true)))]) (fun h => ?_) (fun v208 h => ?_))))
 ·refine Run.so hm (.p e (.nil (.block ?_)))
  obtain ⟨res226,h,hk226⟩ := bindO h
  refine Run.loop (n := N) (fun m226 fr σ => ∃ (x210 : Int),∃ (x211 : (List Message)),laws_toMessageS_l1 N x1 m226 x210 x211 = some res226 ∧ fr = [(0,RO 91 (x1.map (encMessageL false))),(3,.sl 0 122 0 x211.length),(4,VI x210)] ∧ σ = [(0,.vec 122 (x211.map (encMessage true)))]) (gh_pk [0,3,4] [5128] hB e e e e) ⟨_,_,h,e,e⟩ ?_
  rintro m226 fr σ ⟨x210,x211,h,rfl,rfl⟩
  obtain _ | m226 := m226
  ·rw [laws_toMessageS_l1] at h; cases h
  rw [laws_toMessageS_l1] at h
  refine Run.seq (.so hm (.p2 e e (.z 13320 (Ev.lnF e) e e (.p e (.nil (.condO e h (fun g229 h => ?_) (fun g229 h => ?_)))))))
  ·refine Run.skip (.seq (.block (.ops hm (.p3 e e e (.p e ?_)))))
   obtain ⟨x239,hx239,h⟩ := bindO h
   refine Ops.z 21544 (Ev.iaF e e hx239) e e (.p e ?_)
   obtain ⟨y240,hy240,h⟩ := bindO h
   refine Ops.z 21576 (Ev.call [] [] 2 (sem_laws_toMessage _ _ _ hy240) e e (.cons (.agg (.d4 (.d4 (.d4 .nil)))) .nil) e (.inl e) e e) e e ?_
   obtain ⟨x241,hx241,h⟩ := bindO h
   exact Ops.z 21592 (Ev.iaW e e e hx241) e e (.y 21608 (Ev.stE (f := (encMessage true)) (v' := y240) e e (at_some hx241).2 e (.d4 (.d4 (.cons (.own e (lenmap e)) (.cons (.own e (lenmap e)) (.d2 .nil))))) e e e e e) e e (.nil (.ops hm (.p3 e e e (.nil (⟨m226,Nat.lt_succ_self m226,_,_,(gh_pk [0,3,4] [0] hB e e (by first | rfl | (simp only [List.length_set]; done) | (simp only [List.length_set]; rfl)) (by first | rfl | (simp only [List.length_set]; done) | (simp only [List.length_set]; rfl))),_,_,h,e,e⟩))))))
  ·refine Run.exit ?_
   obtain rfl := someO h
   have h := hk226
   exact ⟨_,_,(gh_pk [3] [0] hB e e e e),_,h,e,e⟩
 ·refine Run.so hm (.p2 e e (.nil (.ret ?_)))
  obtain rfl := someO h
  exact Ends.mkG (.inl e) e (gh_pk [0] [0] hB e e e e) e e
def laws_toWait (N : Nat) (x1 : Wait) : Option (Wait) :=
 some x1
theorem sem_laws_toWait (N : Nat) (x1 : Wait) (r : Wait) (h : laws_toWait N x1 = some r) : Says Tryz.prog 40 [.agg [VI x1.Node,VI x1.Index,VI x1.Term,VI x1.Call]] 0 [] (.agg [VI r.Node,VI r.Index,VI r.Term,VI r.Call]) [] := by
 unfold laws_toWait at h
 refine Says.of_norm e Tryz.call40 e fun B hB => ?_
 have hm : B.m ≤ 1000 := by omega
 refine Run.so hm (.z 1000 (.bx e e) e e (.z 1016 (.al e e) e e (.nil (.so hm (.z 5096 (.al e e) e e (.nil (.so hm (.p3 e e e (.y 9240 (.sto e e e e e e) e e (.nil (.so hm (.p3 e e e (.y 13336 (.sto e e e e e e) e e (.nil (.so hm (.p3 e e e (.y 17432 (.sto e e e e e e) e e (.nil (.so hm (.p3 e e e (.y 21528 (.sto e e e e e e) e e (.nil (.so hm (.p e (.y 25592 (.sto e e e e e e) e e (.nil (.ret ?_)))))))))))))))))))))))))))
 obtain rfl := someO h
 exact Ends.mkG (.inl e) e (gh_pk [0] [] hB e e e e) e e
def laws_toWaitS_l1 (N : Nat) (x1 : (List Wait)) : Nat → Int → (List Wait) → Option ((List Wait))
 | 0,_,_ => none
 | m + 1,x210,x211 =>
 (if (decide (x210 < (x1.length : Int))) = true then
 (at? x1 x210).bind fun x239 =>
 (laws_toWait N x239).bind fun y240 =>
 (at? x211 x210).bind fun x241 =>
 laws_toWaitS_l1 N x1 m (w64 (x210 + 1)) (x211.set x210.toNat y240)
 else
 some x211)
def laws_toWaitS_l1_r (N : Nat) (x1 : (List Wait)) : (List Wait) → Int → (List Wait) → Option ((List Wait))
 | [],x210,x211 =>
 some x211
 | hd :: tl,x210,x211 =>
 (some hd).bind fun x239 =>
 (laws_toWait N x239).bind fun y240 =>
 (at? x211 x210).bind fun x241 =>
 laws_toWaitS_l1_r N x1 tl (w64 (x210 + 1)) (x211.set x210.toNat y240)
theorem laws_toWaitS_l1_rng (N : Nat) (x1 : (List Wait)) (hx : x1.length ≤ 1099511627776) : ∀ (d k m : Nat) (x211 : (List Wait)),x1.length = k + d → d < m → laws_toWaitS_l1 N x1 m (k : Int) x211 = laws_toWaitS_l1_r N x1 (x1.drop k) (k : Int) x211 := by
 intro d
 induction d with
 | zero =>
  intro k m x211 hd hm
  obtain ⟨m,rfl⟩ : ∃ q,m = q + 1 := ⟨m - 1,by omega⟩
  rw [laws_toWaitS_l1,if_neg (by simp; omega),List.drop_eq_nil_of_le (by omega),laws_toWaitS_l1_r]
 | succ d ih =>
  intro k m x211 hd hm
  obtain ⟨m,rfl⟩ : ∃ q,m = q + 1 := ⟨m - 1,by omega⟩
  have hk : k < x1.length := by omega
  rw [laws_toWaitS_l1,if_pos (by simp; omega),List.drop_eq_getElem_cons hk,laws_toWaitS_l1_r]
  have h1 := at_lt hk
  have h2 := w64_succ (k := k) (by omega)
  have h3 := ih (k + 1) m
  simp only [h1,h2,h3 _ (by omega) (by omega)]
theorem laws_toWaitS_l1_eq {N : Nat} (x1 : (List Wait)) (hx : x1.length ≤ 1099511627776) (hN : x1.length < N) (x211 : (List Wait)) : laws_toWaitS_l1 N x1 N 0 x211 = laws_toWaitS_l1_r N x1 x1 0 x211 := laws_toWaitS_l1_rng N x1 hx x1.length 0 N x211 (by omega) hN
def laws_toWaitS (N : Nat) (x1 : (List Wait)) : Option ((List Wait)) :=
 (mk? (Wait.mk 0 0 0 0) (x1.length : Int)).bind fun x174 =>
 joinP (fun (v208 : (List Wait)) =>
 some v208) fun j208 =>
 (laws_toWaitS_l1 N x1 N 0 x174).bind (fun v226 => j208 v226)
theorem sem_laws_toWaitS (N : Nat) (x1 : (List Wait)) (r : (List Wait)) (h : laws_toWaitS N x1 = some r) : Says Tryz.prog 20 [RO 127 (x1.map encWait)] 0 [] (.sl 0 125 0 r.length) [(0,.vec 125 (r.map encWait))] := by
 unfold laws_toWaitS at h
 refine Says.of_norm e Tryz.call20 e fun B hB => ?_
 have hm : B.m ≤ 1000 := by omega
 refine Run.so hm (.p e (.nil (.so hm (.p e (.z 5112 (Ev.lnF e) e e ?_)))))
 obtain ⟨x174,hx174,h⟩ := bindO h
 refine Ops.z 5128 (Ev.msW (f := encWait) (zv := (Wait.mk 0 0 0 0)) e e e bt125 e hx174) e e (.p e (.nil (.seqO h (fun v208 => [(3,.sl 0 125 0 v208.length)]) (fun (v208 : (List Wait)) => [(0,.vec 125 (v208.map encWait))]) (fun h => ?_) (fun v208 h => ?_))))
 ·refine Run.so hm (.p e (.nil (.block ?_)))
  obtain ⟨res226,h,hk226⟩ := bindO h
  refine Run.loop (n := N) (fun m226 fr σ => ∃ (x210 : Int),∃ (x211 : (List Wait)),laws_toWaitS_l1 N x1 m226 x210 x211 = some res226 ∧ fr = [(0,RO 127 (x1.map encWait)),(3,.sl 0 125 0 x211.length),(4,VI x210)] ∧ σ = [(0,.vec 125 (x211.map encWait))]) (gh_pk [0,3,4] [5128] hB e e e e) ⟨_,_,h,e,e⟩ ?_
  rintro m226 fr σ ⟨x210,x211,h,rfl,rfl⟩
  obtain _ | m226 := m226
  ·rw [laws_toWaitS_l1] at h; cases h
  rw [laws_toWaitS_l1] at h
  refine Run.seq (.so hm (.p2 e e (.z 13320 (Ev.lnF e) e e (.p e (.nil (.condO e h (fun g229 h => ?_) (fun g229 h => ?_)))))))
  ·refine Run.skip (.seq (.block (.ops hm (.p3 e e e (.p e ?_)))))
   obtain ⟨x239,hx239,h⟩ := bindO h
   refine Ops.z 21544 (Ev.iaF e e hx239) e e (.p e ?_)
   obtain ⟨y240,hy240,h⟩ := bindO h
   refine Ops.z 21576 (Ev.call [] [] 0 (sem_laws_toWait _ _ _ hy240) e e (.cons (.agg (.d4 .nil)) .nil) e (.inl e) e e) e e ?_
   obtain ⟨x241,hx241,h⟩ := bindO h
   exact Ops.z 21592 (Ev.iaW e e e hx241) e e (.y 21608 (Ev.stE (f := encWait) (v' := y240) e e (at_some hx241).2 e (.d4 .nil) e e e e e) e e (.nil (.ops hm (.p3 e e e (.nil (⟨m226,Nat.lt_succ_self m226,_,_,(gh_pk [0,3,4] [0] hB e e (by first | rfl | (simp only [List.length_set]; done) | (simp only [List.length_set]; rfl)) (by first | rfl | (simp only [List.length_set]; done) | (simp only [List.length_set]; rfl))),_,_,h,e,e⟩))))))
  ·refine Run.exit ?_
   obtain rfl := someO h
   have h := hk226
   exact ⟨_,_,(gh_pk [3] [0] hB e e e e),_,h,e,e⟩
 ·refine Run.so hm (.p2 e e (.nil (.ret ?_)))
  obtain rfl := someO h
  exact Ends.mkG (.inl e) e (gh_pk [0] [0] hB e e e e) e e
def laws_toLeader (N : Nat) (x1 : Leader) : Option (Leader) :=
 (laws_toLog N x1.Log).bind fun y107 =>
 some (Leader.mk x1.Node x1.Term y107)
theorem sem_laws_toLeader (N : Nat) (x1 : Leader) (r : Leader) (h : laws_toLeader N x1 = some r) : Says Tryz.prog 41 [.agg [VI x1.Node,VI x1.Term,VI x1.Log.Start,VI x1.Log.StartTerm,RO 97 (x1.Log.Entries.map encEntry)]] 0 [] (.agg [VI r.Node,VI r.Term,VI r.Log.Start,VI r.Log.StartTerm,.sl 0 131 0 r.Log.Entries.length]) [(0,.vec 131 (r.Log.Entries.map encEntry))] := by
 unfold laws_toLeader at h
 refine Says.of_norm e Tryz.call41 e fun B hB => ?_
 have hm : B.m ≤ 1000 := by omega
 refine Run.so hm (.z 1000 (.bx e e) e e (.z 1016 (.al e e) e e (.nil (.so hm (.z 5096 (.al e e) e e (.nil (.so hm (.p3 e e e (.y 9240 (.sto e e e e e e) e e (.nil (.so hm (.p3 e e e (.y 13336 (.sto e e e e e e) e e (.nil (.so hm (.p2 e e ?_))))))))))))))))
 obtain ⟨y107,hy107,h⟩ := bindO h
 refine Ops.z 17416 (Ev.call [] [] 1 (sem_laws_toLog _ _ _ hy107) e e (.cons (.agg (.d2 (.d1 .nil))) .nil) e (.inl e) e e) e e (.p e (.y 17448 (.sto e e e e e e) e e (.nil (.so hm (.p e (.y 21496 (.sto e e e e e e) e e (.nil (.ret ?_))))))))
 obtain rfl := someO h
 exact Ends.mkG (.inl e) e (gh_pk [0] [17416] hB e e e e) e e
def laws_toLeaderS_l1 (N : Nat) (x1 : (List Leader)) : Nat → Int → (List Leader) → Option ((List Leader))
 | 0,_,_ => none
 | m + 1,x210,x211 =>
 (if (decide (x210 < (x1.length : Int))) = true then
 (at? x1 x210).bind fun x239 =>
 (laws_toLeader N x239).bind fun y240 =>
 (at? x211 x210).bind fun x241 =>
 laws_toLeaderS_l1 N x1 m (w64 (x210 + 1)) (x211.set x210.toNat y240)
 else
 some x211)
def laws_toLeaderS_l1_r (N : Nat) (x1 : (List Leader)) : (List Leader) → Int → (List Leader) → Option ((List Leader))
 | [],x210,x211 =>
 some x211
 | hd :: tl,x210,x211 =>
 (some hd).bind fun x239 =>
 (laws_toLeader N x239).bind fun y240 =>
 (at? x211 x210).bind fun x241 =>
 laws_toLeaderS_l1_r N x1 tl (w64 (x210 + 1)) (x211.set x210.toNat y240)
theorem laws_toLeaderS_l1_rng (N : Nat) (x1 : (List Leader)) (hx : x1.length ≤ 1099511627776) : ∀ (d k m : Nat) (x211 : (List Leader)),x1.length = k + d → d < m → laws_toLeaderS_l1 N x1 m (k : Int) x211 = laws_toLeaderS_l1_r N x1 (x1.drop k) (k : Int) x211 := by
 intro d
 induction d with
 | zero =>
  intro k m x211 hd hm
  obtain ⟨m,rfl⟩ : ∃ q,m = q + 1 := ⟨m - 1,by omega⟩
  rw [laws_toLeaderS_l1,if_neg (by simp; omega),List.drop_eq_nil_of_le (by omega),laws_toLeaderS_l1_r]
 | succ d ih =>
  intro k m x211 hd hm
  obtain ⟨m,rfl⟩ : ∃ q,m = q + 1 := ⟨m - 1,by omega⟩
  have hk : k < x1.length := by omega
  rw [laws_toLeaderS_l1,if_pos (by simp; omega),List.drop_eq_getElem_cons hk,laws_toLeaderS_l1_r]
  have h1 := at_lt hk
  have h2 := w64_succ (k := k) (by omega)
  have h3 := ih (k + 1) m
  simp only [h1,h2,h3 _ (by omega) (by omega)]
theorem laws_toLeaderS_l1_eq {N : Nat} (x1 : (List Leader)) (hx : x1.length ≤ 1099511627776) (hN : x1.length < N) (x211 : (List Leader)) : laws_toLeaderS_l1 N x1 N 0 x211 = laws_toLeaderS_l1_r N x1 x1 0 x211 := laws_toLeaderS_l1_rng N x1 hx x1.length 0 N x211 (by omega) hN
def laws_toLeaderS (N : Nat) (x1 : (List Leader)) : Option ((List Leader)) :=
 (mk? (Leader.mk 0 0 (Log.mk 0 0 [])) (x1.length : Int)).bind fun x174 =>
 joinP (fun (v208 : (List Leader)) =>
 some v208) fun j208 =>
 (laws_toLeaderS_l1 N x1 N 0 x174).bind (fun v226 => j208 v226)
theorem sem_laws_toLeaderS (N : Nat) (x1 : (List Leader)) (r : (List Leader)) (h : laws_toLeaderS N x1 = some r) : Says Tryz.prog 21 [RO 94 (x1.map (encLeaderL false))] 0 [] (.sl 0 129 0 r.length) [(0,.vec 129 (r.map (encLeader true)))] := by
 unfold laws_toLeaderS at h
 refine Says.of_norm e Tryz.call21 e fun B hB => ?_
 have hm : B.m ≤ 1000 := by omega
 refine Run.so hm (.p e (.nil (.so hm (.p e (.z 5112 (Ev.lnF e) e e ?_)))))
 obtain ⟨x174,hx174,h⟩ := bindO h
 refine Ops.z 5128 (Ev.msW (f := (encLeader true)) (zv := (Leader.mk 0 0 (Log.mk 0 0 []))) e e e bt129 e hx174) e e (.p e (.nil (.seqO h (fun v208 => [(3,.sl 0 129 0 v208.length)]) (fun (v208 : (List Leader)) => [(0,.vec 129 (v208.map (encLeader true)))]) (fun h => ?_) (fun v208 h => ?_))))
 ·refine Run.so hm (.p e (.nil (.block ?_)))
  obtain ⟨res226,h,hk226⟩ := bindO h
  refine Run.loop (n := N) (fun m226 fr σ => ∃ (x210 : Int),∃ (x211 : (List Leader)),laws_toLeaderS_l1 N x1 m226 x210 x211 = some res226 ∧ fr = [(0,RO 94 (x1.map (encLeaderL false))),(3,.sl 0 129 0 x211.length),(4,VI x210)] ∧ σ = [(0,.vec 129 (x211.map (encLeader true)))]) (gh_pk [0,3,4] [5128] hB e e e e) ⟨_,_,h,e,e⟩ ?_
  rintro m226 fr σ ⟨x210,x211,h,rfl,rfl⟩
  obtain _ | m226 := m226
  ·rw [laws_toLeaderS_l1] at h; cases h
  rw [laws_toLeaderS_l1] at h
  refine Run.seq (.so hm (.p2 e e (.z 13320 (Ev.lnF e) e e (.p e (.nil (.condO e h (fun g229 h => ?_) (fun g229 h => ?_)))))))
  ·refine Run.skip (.seq (.block (.ops hm (.p3 e e e (.p e ?_)))))
   obtain ⟨x239,hx239,h⟩ := bindO h
   refine Ops.z 21544 (Ev.iaF e e hx239) e e (.p e ?_)
   obtain ⟨y240,hy240,h⟩ := bindO h
   refine Ops.z 21576 (Ev.call [] [] 1 (sem_laws_toLeader _ _ _ hy240) e e (.cons (.agg (.d4 (.d1 .nil))) .nil) e (.inl e) e e) e e ?_
   obtain ⟨x241,hx241,h⟩ := bindO h
   exact Ops.z 21592 (Ev.iaW e e e hx241) e e (.y 21608 (Ev.stE (f := (encLeader true)) (v' := y240) e e (at_some hx241).2 e (.d4 (.cons (.own e (lenmap e)) .nil)) e e e e e) e e (.nil (.ops hm (.p3 e e e (.nil (⟨m226,Nat.lt_succ_self m226,_,_,(gh_pk [0,3,4] [0] hB e e (by first | rfl | (simp only [List.length_set]; done) | (simp only [List.length_set]; rfl)) (by first | rfl | (simp only [List.length_set]; done) | (simp only [List.length_set]; rfl))),_,_,h,e,e⟩))))))
  ·refine Run.exit ?_
   obtain rfl := someO h
   have h := hk226
   exact ⟨_,_,(gh_pk [3] [0] hB e e e e),_,h,e,e⟩
 ·refine Run.so hm (.p2 e e (.nil (.ret ?_)))
  obtain rfl := someO h
  exact Ends.mkG (.inl e) e (gh_pk [0] [0] hB e e e e) e e
def laws_toApplied (N : Nat) (x1 : Applied) : Option (Applied) :=
 (laws_toEntry N x1.Entry).bind fun y107 =>
 some (Applied.mk x1.Node x1.Term x1.Index y107)
theorem sem_laws_toApplied (N : Nat) (x1 : Applied) (r : Applied) (h : laws_toApplied N x1 = some r) : Says Tryz.prog 42 [.agg [VI x1.Node,VI x1.Term,VI x1.Index,VI x1.Entry.Term,VI x1.Entry.Kind,VS x1.Entry.Data]] 0 [] (.agg [VI r.Node,VI r.Term,VI r.Index,VI r.Entry.Term,VI r.Entry.Kind,VS r.Entry.Data]) [] := by
 unfold laws_toApplied at h
 refine Says.of_norm e Tryz.call42 e fun B hB => ?_
 have hm : B.m ≤ 1000 := by omega
 refine Run.so hm (.z 1000 (.bx e e) e e (.z 1016 (.al e e) e e (.nil (.so hm (.z 5096 (.al e e) e e (.nil (.so hm (.p3 e e e (.y 9240 (.sto e e e e e e) e e (.nil (.so hm (.p3 e e e (.y 13336 (.sto e e e e e e) e e (.nil (.so hm (.p3 e e e (.y 17432 (.sto e e e e e e) e e (.nil (.so hm (.p2 e e ?_))))))))))))))))))))
 obtain ⟨y107,hy107,h⟩ := bindO h
 refine Ops.z 21512 (Ev.call [] [] 0 (sem_laws_toEntry _ _ _ hy107) e e (.cons (.agg (.d2 (.d1 .nil))) .nil) e (.inl e) e e) e e (.p e (.y 21544 (.sto e e e e e e) e e (.nil (.so hm (.p e (.y 25592 (.sto e e e e e e) e e (.nil (.ret ?_))))))))
 obtain rfl := someO h
 exact Ends.mkG (.inl e) e (gh_pk [0] [] hB e e e e) e e
def laws_toAppliedS_l1 (N : Nat) (x1 : (List Applied)) : Nat → Int → (List Applied) → Option ((List Applied))
 | 0,_,_ => none
 | m + 1,x210,x211 =>
 (if (decide (x210 < (x1.length : Int))) = true then
 (at? x1 x210).bind fun x239 =>
 (laws_toApplied N x239).bind fun y240 =>
 (at? x211 x210).bind fun x241 =>
 laws_toAppliedS_l1 N x1 m (w64 (x210 + 1)) (x211.set x210.toNat y240)
 else
 some x211)
def laws_toAppliedS_l1_r (N : Nat) (x1 : (List Applied)) : (List Applied) → Int → (List Applied) → Option ((List Applied))
 | [],x210,x211 =>
 some x211
 | hd :: tl,x210,x211 =>
 (some hd).bind fun x239 =>
 (laws_toApplied N x239).bind fun y240 =>
 (at? x211 x210).bind fun x241 =>
 laws_toAppliedS_l1_r N x1 tl (w64 (x210 + 1)) (x211.set x210.toNat y240)
theorem laws_toAppliedS_l1_rng (N : Nat) (x1 : (List Applied)) (hx : x1.length ≤ 1099511627776) : ∀ (d k m : Nat) (x211 : (List Applied)),x1.length = k + d → d < m → laws_toAppliedS_l1 N x1 m (k : Int) x211 = laws_toAppliedS_l1_r N x1 (x1.drop k) (k : Int) x211 := by
 intro d
 induction d with
 | zero =>
  intro k m x211 hd hm
  obtain ⟨m,rfl⟩ : ∃ q,m = q + 1 := ⟨m - 1,by omega⟩
  rw [laws_toAppliedS_l1,if_neg (by simp; omega),List.drop_eq_nil_of_le (by omega),laws_toAppliedS_l1_r]
 | succ d ih =>
  intro k m x211 hd hm
  obtain ⟨m,rfl⟩ : ∃ q,m = q + 1 := ⟨m - 1,by omega⟩
  have hk : k < x1.length := by omega
  rw [laws_toAppliedS_l1,if_pos (by simp; omega),List.drop_eq_getElem_cons hk,laws_toAppliedS_l1_r]
  have h1 := at_lt hk
  have h2 := w64_succ (k := k) (by omega)
  have h3 := ih (k + 1) m
  simp only [h1,h2,h3 _ (by omega) (by omega)]
theorem laws_toAppliedS_l1_eq {N : Nat} (x1 : (List Applied)) (hx : x1.length ≤ 1099511627776) (hN : x1.length < N) (x211 : (List Applied)) : laws_toAppliedS_l1 N x1 N 0 x211 = laws_toAppliedS_l1_r N x1 x1 0 x211 := laws_toAppliedS_l1_rng N x1 hx x1.length 0 N x211 (by omega) hN
def laws_toAppliedS (N : Nat) (x1 : (List Applied)) : Option ((List Applied)) :=
 (mk? (Applied.mk 0 0 0 (Entry.mk 0 0 (⟨#[]⟩ : ByteArray))) (x1.length : Int)).bind fun x174 =>
 joinP (fun (v208 : (List Applied)) =>
 some v208) fun j208 =>
 (laws_toAppliedS_l1 N x1 N 0 x174).bind (fun v226 => j208 v226)
theorem sem_laws_toAppliedS (N : Nat) (x1 : (List Applied)) (r : (List Applied)) (h : laws_toAppliedS N x1 = some r) : Says Tryz.prog 22 [RO 99 (x1.map encApplied)] 0 [] (.sl 0 133 0 r.length) [(0,.vec 133 (r.map encApplied))] := by
 unfold laws_toAppliedS at h
 refine Says.of_norm e Tryz.call22 e fun B hB => ?_
 have hm : B.m ≤ 1000 := by omega
 refine Run.so hm (.p e (.nil (.so hm (.p e (.z 5112 (Ev.lnF e) e e ?_)))))
 obtain ⟨x174,hx174,h⟩ := bindO h
 refine Ops.z 5128 (Ev.msW (f := encApplied) (zv := (Applied.mk 0 0 0 (Entry.mk 0 0 (⟨#[]⟩ : ByteArray)))) e e e bt133 e hx174) e e (.p e (.nil (.seqO h (fun v208 => [(3,.sl 0 133 0 v208.length)]) (fun (v208 : (List Applied)) => [(0,.vec 133 (v208.map encApplied))]) (fun h => ?_) (fun v208 h => ?_))))
 ·refine Run.so hm (.p e (.nil (.block ?_)))
  obtain ⟨res226,h,hk226⟩ := bindO h
  refine Run.loop (n := N) (fun m226 fr σ => ∃ (x210 : Int),∃ (x211 : (List Applied)),laws_toAppliedS_l1 N x1 m226 x210 x211 = some res226 ∧ fr = [(0,RO 99 (x1.map encApplied)),(3,.sl 0 133 0 x211.length),(4,VI x210)] ∧ σ = [(0,.vec 133 (x211.map encApplied))]) (gh_pk [0,3,4] [5128] hB e e e e) ⟨_,_,h,e,e⟩ ?_
  rintro m226 fr σ ⟨x210,x211,h,rfl,rfl⟩
  obtain _ | m226 := m226
  ·rw [laws_toAppliedS_l1] at h; cases h
  rw [laws_toAppliedS_l1] at h
  refine Run.seq (.so hm (.p2 e e (.z 13320 (Ev.lnF e) e e (.p e (.nil (.condO e h (fun g229 h => ?_) (fun g229 h => ?_)))))))
  ·refine Run.skip (.seq (.block (.ops hm (.p3 e e e (.p e ?_)))))
   obtain ⟨x239,hx239,h⟩ := bindO h
   refine Ops.z 21544 (Ev.iaF e e hx239) e e (.p e ?_)
   obtain ⟨y240,hy240,h⟩ := bindO h
   refine Ops.z 21576 (Ev.call [] [] 0 (sem_laws_toApplied _ _ _ hy240) e e (.cons (.agg (.d4 (.d2 .nil))) .nil) e (.inl e) e e) e e ?_
   obtain ⟨x241,hx241,h⟩ := bindO h
   exact Ops.z 21592 (Ev.iaW e e e hx241) e e (.y 21608 (Ev.stE (f := encApplied) (v' := y240) e e (at_some hx241).2 e (.d4 (.d2 .nil)) e e e e e) e e (.nil (.ops hm (.p3 e e e (.nil (⟨m226,Nat.lt_succ_self m226,_,_,(gh_pk [0,3,4] [0] hB e e (by first | rfl | (simp only [List.length_set]; done) | (simp only [List.length_set]; rfl)) (by first | rfl | (simp only [List.length_set]; done) | (simp only [List.length_set]; rfl))),_,_,h,e,e⟩))))))
  ·refine Run.exit ?_
   obtain rfl := someO h
   have h := hk226
   exact ⟨_,_,(gh_pk [3] [0] hB e e e e),_,h,e,e⟩
 ·refine Run.so hm (.p2 e e (.nil (.ret ?_)))
  obtain rfl := someO h
  exact Ends.mkG (.inl e) e (gh_pk [0] [0] hB e e e e) e e
def laws_toCommand (N : Nat) (x1 : Command) : Option (Command) :=
 some x1
theorem sem_laws_toCommand (N : Nat) (x1 : Command) (r : Command) (h : laws_toCommand N x1 = some r) : Says Tryz.prog 66 [.agg [VI x1.Op,VI x1.Session,VI x1.Seq,VS x1.Key,VS x1.Value,VS x1.Old]] 0 [] (.agg [VI r.Op,VI r.Session,VI r.Seq,VS r.Key,VS r.Value,VS r.Old]) [] := by
 unfold laws_toCommand at h
 refine Says.of_norm e Tryz.call66 e fun B hB => ?_
 have hm : B.m ≤ 1000 := by omega
 refine Run.so hm (.z 1000 (.bx e e) e e (.z 1016 (.al e e) e e (.nil (.so hm (.z 5096 (.al e e) e e (.nil (.so hm (.p3 e e e (.y 9240 (.sto e e e e e e) e e (.nil (.so hm (.p3 e e e (.y 13336 (.sto e e e e e e) e e (.nil (.so hm (.p3 e e e (.y 17432 (.sto e e e e e e) e e (.nil (.so hm (.p3 e e e (.y 21528 (.sto e e e e e e) e e (.nil (.so hm (.p3 e e e (.y 25624 (.sto e e e e e e) e e (.nil (.so hm (.p3 e e e (.y 29720 (.sto e e e e e e) e e (.nil (.so hm (.p e (.y 33784 (.sto e e e e e e) e e (.nil (.ret ?_)))))))))))))))))))))))))))))))))))
 obtain rfl := someO h
 exact Ends.mkG (.inl e) e (gh_pk [0] [] hB e e e e) e e
def laws_toReply (N : Nat) (x1 : Reply) : Option (Reply) :=
 (laws_toCommand N x1.Command).bind fun y107 =>
 some (Reply.mk x1.Call x1.Index y107 x1.Text)
theorem sem_laws_toReply (N : Nat) (x1 : Reply) (r : Reply) (h : laws_toReply N x1 = some r) : Says Tryz.prog 43 [.agg [VI x1.Call,VI x1.Index,VI x1.Command.Op,VI x1.Command.Session,VI x1.Command.Seq,VS x1.Command.Key,VS x1.Command.Value,VS x1.Command.Old,VS x1.Text]] 0 [] (.agg [VI r.Call,VI r.Index,VI r.Command.Op,VI r.Command.Session,VI r.Command.Seq,VS r.Command.Key,VS r.Command.Value,VS r.Command.Old,VS r.Text]) [] := by
 unfold laws_toReply at h
 refine Says.of_norm e Tryz.call43 e fun B hB => ?_
 have hm : B.m ≤ 1000 := by omega
 refine Run.so hm (.z 1000 (.bx e e) e e (.z 1016 (.al e e) e e (.nil (.so hm (.z 5096 (.al e e) e e (.nil (.so hm (.p3 e e e (.y 9240 (.sto e e e e e e) e e (.nil (.so hm (.p3 e e e (.y 13336 (.sto e e e e e e) e e (.nil (.so hm (.p2 e e ?_))))))))))))))))
 obtain ⟨y107,hy107,h⟩ := bindO h
 refine Ops.z 17416 (Ev.call [] [] 0 (sem_laws_toCommand _ _ _ hy107) e e (.cons (.agg (.d4 (.d2 .nil))) .nil) e (.inl e) e e) e e (.p e (.y 17448 (.sto e e e e e e) e e (.nil (.so hm (.p3 e e e (.y 21528 (.sto e e e e e e) e e (.nil (.so hm (.p e (.y 25592 (.sto e e e e e e) e e (.nil (.ret ?_))))))))))))
 obtain rfl := someO h
 exact Ends.mkG (.inl e) e (gh_pk [0] [] hB e e e e) e e
def laws_toReplyS_l1 (N : Nat) (x1 : (List Reply)) : Nat → Int → (List Reply) → Option ((List Reply))
 | 0,_,_ => none
 | m + 1,x210,x211 =>
 (if (decide (x210 < (x1.length : Int))) = true then
 (at? x1 x210).bind fun x239 =>
 (laws_toReply N x239).bind fun y240 =>
 (at? x211 x210).bind fun x241 =>
 laws_toReplyS_l1 N x1 m (w64 (x210 + 1)) (x211.set x210.toNat y240)
 else
 some x211)
def laws_toReplyS_l1_r (N : Nat) (x1 : (List Reply)) : (List Reply) → Int → (List Reply) → Option ((List Reply))
 | [],x210,x211 =>
 some x211
 | hd :: tl,x210,x211 =>
 (some hd).bind fun x239 =>
 (laws_toReply N x239).bind fun y240 =>
 (at? x211 x210).bind fun x241 =>
 laws_toReplyS_l1_r N x1 tl (w64 (x210 + 1)) (x211.set x210.toNat y240)
theorem laws_toReplyS_l1_rng (N : Nat) (x1 : (List Reply)) (hx : x1.length ≤ 1099511627776) : ∀ (d k m : Nat) (x211 : (List Reply)),x1.length = k + d → d < m → laws_toReplyS_l1 N x1 m (k : Int) x211 = laws_toReplyS_l1_r N x1 (x1.drop k) (k : Int) x211 := by
 intro d
 induction d with
 | zero =>
  intro k m x211 hd hm
  obtain ⟨m,rfl⟩ : ∃ q,m = q + 1 := ⟨m - 1,by omega⟩
  rw [laws_toReplyS_l1,if_neg (by simp; omega),List.drop_eq_nil_of_le (by omega),laws_toReplyS_l1_r]
 | succ d ih =>
  intro k m x211 hd hm
  obtain ⟨m,rfl⟩ : ∃ q,m = q + 1 := ⟨m - 1,by omega⟩
  have hk : k < x1.length := by omega
  rw [laws_toReplyS_l1,if_pos (by simp; omega),List.drop_eq_getElem_cons hk,laws_toReplyS_l1_r]
  have h1 := at_lt hk
  have h2 := w64_succ (k := k) (by omega)
  have h3 := ih (k + 1) m
  simp only [h1,h2,h3 _ (by omega) (by omega)]
theorem laws_toReplyS_l1_eq {N : Nat} (x1 : (List Reply)) (hx : x1.length ≤ 1099511627776) (hN : x1.length < N) (x211 : (List Reply)) : laws_toReplyS_l1 N x1 N 0 x211 = laws_toReplyS_l1_r N x1 x1 0 x211 := laws_toReplyS_l1_rng N x1 hx x1.length 0 N x211 (by omega) hN
def laws_toReplyS (N : Nat) (x1 : (List Reply)) : Option ((List Reply)) :=
 (mk? (Reply.mk 0 0 (Command.mk 0 0 0 (⟨#[]⟩ : ByteArray) (⟨#[]⟩ : ByteArray) (⟨#[]⟩ : ByteArray)) (⟨#[]⟩ : ByteArray)) (x1.length : Int)).bind fun x174 =>
 joinP (fun (v208 : (List Reply)) =>
 some v208) fun j208 =>
 (laws_toReplyS_l1 N x1 N 0 x174).bind (fun v226 => j208 v226)
theorem sem_laws_toReplyS (N : Nat) (x1 : (List Reply)) (r : (List Reply)) (h : laws_toReplyS N x1 = some r) : Says Tryz.prog 23 [RO 103 (x1.map encReply)] 0 [] (.sl 0 56 0 r.length) [(0,.vec 56 (r.map encReply))] := by
 unfold laws_toReplyS at h
 refine Says.of_norm e Tryz.call23 e fun B hB => ?_
 have hm : B.m ≤ 1000 := by omega
 refine Run.so hm (.p e (.nil (.so hm (.p e (.z 5112 (Ev.lnF e) e e ?_)))))
 obtain ⟨x174,hx174,h⟩ := bindO h
 refine Ops.z 5128 (Ev.msW (f := encReply) (zv := (Reply.mk 0 0 (Command.mk 0 0 0 (⟨#[]⟩ : ByteArray) (⟨#[]⟩ : ByteArray) (⟨#[]⟩ : ByteArray)) (⟨#[]⟩ : ByteArray))) e e e bt56 e hx174) e e (.p e (.nil (.seqO h (fun v208 => [(3,.sl 0 56 0 v208.length)]) (fun (v208 : (List Reply)) => [(0,.vec 56 (v208.map encReply))]) (fun h => ?_) (fun v208 h => ?_))))
 ·refine Run.so hm (.p e (.nil (.block ?_)))
  obtain ⟨res226,h,hk226⟩ := bindO h
  refine Run.loop (n := N) (fun m226 fr σ => ∃ (x210 : Int),∃ (x211 : (List Reply)),laws_toReplyS_l1 N x1 m226 x210 x211 = some res226 ∧ fr = [(0,RO 103 (x1.map encReply)),(3,.sl 0 56 0 x211.length),(4,VI x210)] ∧ σ = [(0,.vec 56 (x211.map encReply))]) (gh_pk [0,3,4] [5128] hB e e e e) ⟨_,_,h,e,e⟩ ?_
  rintro m226 fr σ ⟨x210,x211,h,rfl,rfl⟩
  obtain _ | m226 := m226
  ·rw [laws_toReplyS_l1] at h; cases h
  rw [laws_toReplyS_l1] at h
  refine Run.seq (.so hm (.p2 e e (.z 13320 (Ev.lnF e) e e (.p e (.nil (.condO e h (fun g229 h => ?_) (fun g229 h => ?_)))))))
  ·refine Run.skip (.seq (.block (.ops hm (.p3 e e e (.p e ?_)))))
   obtain ⟨x239,hx239,h⟩ := bindO h
   refine Ops.z 21544 (Ev.iaF e e hx239) e e (.p e ?_)
   obtain ⟨y240,hy240,h⟩ := bindO h
   refine Ops.z 21576 (Ev.call [] [] 0 (sem_laws_toReply _ _ _ hy240) e e (.cons (.agg (.d4 (.d4 (.d1 .nil)))) .nil) e (.inl e) e e) e e ?_
   obtain ⟨x241,hx241,h⟩ := bindO h
   exact Ops.z 21592 (Ev.iaW e e e hx241) e e (.y 21608 (Ev.stE (f := encReply) (v' := y240) e e (at_some hx241).2 e (.d4 (.d4 (.d1 .nil))) e e e e e) e e (.nil (.ops hm (.p3 e e e (.nil (⟨m226,Nat.lt_succ_self m226,_,_,(gh_pk [0,3,4] [0] hB e e (by first | rfl | (simp only [List.length_set]; done) | (simp only [List.length_set]; rfl)) (by first | rfl | (simp only [List.length_set]; done) | (simp only [List.length_set]; rfl))),_,_,h,e,e⟩))))))
  ·refine Run.exit ?_
   obtain rfl := someO h
   have h := hk226
   exact ⟨_,_,(gh_pk [3] [0] hB e e e e),_,h,e,e⟩
 ·refine Run.so hm (.p2 e e (.nil (.ret ?_)))
  obtain rfl := someO h
  exact Ends.mkG (.inl e) e (gh_pk [0] [0] hB e e e e) e e
end Go.Proofs.YtedoifjaobebeaaGreatDoor.Pe.FnExactShowWorld
