/- Functions,as pure functions; and that Go does just that. -/
import Derived.Test.YtehknbpmpbghhaaPeFFnSettles8
namespace Go.Proofs.Ytehknbpmpbghhaa.Pe.FnSettles
open Go Go.RowKit
set_option linter.unusedVariables false
set_option linter.unusedSimpArgs false
set_option maxHeartbeats 40000000
def impl_LogLast (N : Nat) (x_1 : Log) : Option (Int × Int) :=
 (if ((x_1.Entries.length : Int) == 0) = true then
 some (x_1.Start,x_1.StartTerm)
 else
 (at? x_1.Entries (w64 ((x_1.Entries.length : Int) - 1))).bind fun x_107 =>
 some (w64 (x_1.Start + (x_1.Entries.length : Int)),x_107.Term))
theorem sem_impl_LogLast (N : Nat) (x_1 : Log) (r : Int × Int) (h : impl_LogLast N x_1 = some r) : Says Try.prog 72 [.agg [VI x_1.Start,VI x_1.StartTerm,RO 51 (x_1.Entries.map encEntry)]] 0 [] (.tup [VI r.1,VI r.2]) [] := by
 unfold impl_LogLast at h
 refine Says.of_run s72 Try.call72 rfl fun B hB => ?_
 have hm : B.m ≤ 1000 := by omega
 refine Run.seq (Run.ops hm (Ops.st (s := 1000) (.bx rfl rfl) rfl rfl (.p2 rfl rfl (Ops.nil (Run.seq (Run.ops hm (.p2 rfl rfl (Ops.st (s := 5128) (Ev.lnF rfl) rfl rfl (Ops.p rfl (Ops.nil (Run.seq (Run.seq (Run.ops hm (.p2 rfl rfl (Ops.nil (Run.condO rfl h (fun g_105 h => ?_) (fun g_105 h => ?_)))))))))))))))))
 ·refine Run.seq (Run.draw hm hmix (OpsD.p rfl (OpsD.p rfl (OpsD.p rfl (OpsD.p rfl (OpsD.p rfl (OpsD.p rfl (OpsD.nil ⟨by kernel_rfl,?_⟩))))))))
  refine Run.ret ?_
  obtain rfl := someO h
  exact Ends.mkG (.inl rfl) rfl (gh_pk [0,1] [] hB rfl rfl rfl rfl) rfl rfl
 ·refine Run.skip (Run.seq (Run.draw hm hmix (OpsD.p rfl (OpsD.p rfl (OpsD.p rfl (OpsD.p rfl (OpsD.p rfl (OpsD.p rfl (OpsD.p rfl (OpsD.p rfl ?_))))))))))
  obtain ⟨x_107,hx_107,h⟩ := bindO h
  refine OpsD.st (s := 17512) (Ev.iaF rfl rfl hx_107) rfl rfl (OpsD.p rfl (OpsD.p rfl (OpsD.p rfl (OpsD.p rfl (OpsD.nil ⟨by kernel_rfl,?_⟩)))))
  refine Run.ret ?_
  obtain rfl := someO h
  exact Ends.mkG (.inl rfl) rfl (gh_pk [0,1] [] hB rfl rfl rfl rfl) rfl rfl
def impl_last (N : Nat) (x_1 : Log) : Option (Int) :=
 some (w64 (x_1.Start + (x_1.Entries.length : Int)))
theorem sem_impl_last (N : Nat) (x_1 : Log) (r : Int) (h : impl_last N x_1 = some r) : Says Try.prog 92 [.agg [VI x_1.Start,VI x_1.StartTerm,RO 51 (x_1.Entries.map encEntry)]] 0 [] (VI r) [] := by
 unfold impl_last at h
 refine Says.of_run s92 Try.call92 rfl fun B hB => ?_
 have hm : B.m ≤ 1000 := by omega
 refine Run.seq (Run.ops hm (Ops.st (s := 1000) (.bx rfl rfl) rfl rfl (Ops.p rfl (Ops.nil (Run.seq (Run.ops hm (.p3 rfl rfl rfl (Ops.p rfl (Ops.st (s := 5160) (Ev.lnF rfl) rfl rfl (.p2 rfl rfl (Ops.nil (Run.ret ?_))))))))))))
 obtain rfl := someO h
 exact Ends.mkG (.inl rfl) rfl (gh_pk [0] [] hB rfl rfl rfl rfl) rfl rfl
def impl_ConfAt_l1 (N : Nat) (x_1 : Node) (x_2 : Int) : Nat → Int → Option (((List Int)) ⊕ (Unit))
 | 0,_ => none
 | m + 1,x_336 =>
 (if (decide (x_336 ≥ 0)) = true then
 joinP (fun (v_398 : Unit) =>
 impl_ConfAt_l1 N x_1 x_2 m (w64 (x_336 - 1))) fun j_398 =>
 (at? x_1.Log.Entries x_336).bind fun x_402 =>
 (impl_ReadConf N x_402.Data).bind fun y_406 =>
 (if y_406.2 = true then
 (if (x_402.Kind == 2) = true then
 (if (decide ((w64 ((w64 (x_1.Log.Start + x_336)) + 1)) ≤ x_2)) = true then
 some (Sum.inl y_406.1)
 else
 j_398 ())
 else
 j_398 ())
 else
 j_398 ())
 else
 some (Sum.inr ()))
def impl_ConfAt (N : Nat) (x_1 : Node) (x_2 : Int) : Option ((List Int)) :=
 joinP (fun (v_334 : Unit) =>
 (cat? ([] : List Int) x_1.Conf).bind fun x_413 =>
 some x_413) fun j_334 =>
 (impl_ConfAt_l1 N x_1 x_2 N (w64 ((x_1.Log.Entries.length : Int) - 1))).bind (Sum.elim (fun v_380 => some v_380) (fun (v_381 : Unit) => j_334 ()))
theorem sem_impl_ConfAt (N : Nat) (x_1 : Node) (x_2 : Int) (r : (List Int)) (h : impl_ConfAt N x_1 x_2 = some r) : Says Try.prog 26 [.agg [VI x_1.Id,VI x_1.Term,VI x_1.Vote,VI x_1.Role,VI x_1.Lead,RO 3 (x_1.Conf.map encI),VI x_1.Log.Start,VI x_1.Log.StartTerm,RO 51 (x_1.Log.Entries.map encEntry),VI x_1.Commit,VI x_1.Clock,VI x_1.Limit,RO 3 (x_1.Votes.map encI),RO 135 (x_1.Peers.map encPeer)],VI x_2] 0 [] (.sl 0 3 0 r.length) [(0,.vec 3 (r.map encI))] := by
 unfold impl_ConfAt at h
 refine Says.of_run s26 Try.call26 rfl fun B hB => ?_
 have hm : B.m ≤ 1000 := by omega
 refine Run.seq (Run.ops hm (Ops.st (s := 1000) (.bx rfl rfl) rfl rfl (Ops.p rfl (Ops.nil (Run.seqO h (fun v_334 => [(2,.ptr 0 0)]) (fun (v_334 : Unit) => [(0,.box [VI x_1.Id,VI x_1.Term,VI x_1.Vote,VI x_1.Role,VI x_1.Lead,RO 3 (x_1.Conf.map encI),VI x_1.Log.Start,VI x_1.Log.StartTerm,RO 51 (x_1.Log.Entries.map encEntry),VI x_1.Commit,VI x_1.Clock,VI x_1.Limit,RO 3 (x_1.Votes.map encI),RO 135 (x_1.Peers.map encPeer)])]) (fun h => ?_) (fun v_334 h => ?_))))))
 ·refine Run.seq (Run.ops hm (.p3 rfl rfl rfl (Ops.st (s := 5144) (Ev.lnF rfl) rfl rfl (.p2 rfl rfl (Ops.nil (Run.block ?_))))))
  obtain ⟨res_381,h,hk_381⟩ := bindO h
  refine Run.loop (n := N) (fun m_381 fr σ => ∃ (x_336 : Int),impl_ConfAt_l1 N x_1 x_2 m_381 x_336 = some res_381 ∧ fr = [(1,VI x_2),(2,.ptr 0 0),(5,VI x_336)] ∧ σ = [(0,.box [VI x_1.Id,VI x_1.Term,VI x_1.Vote,VI x_1.Role,VI x_1.Lead,RO 3 (x_1.Conf.map encI),VI x_1.Log.Start,VI x_1.Log.StartTerm,RO 51 (x_1.Log.Entries.map encEntry),VI x_1.Commit,VI x_1.Clock,VI x_1.Limit,RO 3 (x_1.Votes.map encI),RO 135 (x_1.Peers.map encPeer)])]) (gh_pk [1,2,5] [1000] hB rfl rfl rfl rfl) ⟨_,h,rfl,rfl⟩ ?_
  rintro m_381 fr σ ⟨x_336,h,rfl,rfl⟩
  obtain _ | m_381 := m_381
  ·rw [impl_ConfAt_l1] at h; cases h
  rw [impl_ConfAt_l1] at h
  refine Run.seq (Run.seq (Run.ops hm (.p2 rfl rfl (Ops.nil (Run.condO rfl h (fun g_384 h => ?_) (fun g_384 h => ?_))))))
  ·refine Run.skip (Run.seqO h (fun v_398 => [(1,VI x_2),(2,.ptr 0 0),(5,VI x_336)]) (fun (v_398 : Unit) => [(0,.box [VI x_1.Id,VI x_1.Term,VI x_1.Vote,VI x_1.Role,VI x_1.Lead,RO 3 (x_1.Conf.map encI),VI x_1.Log.Start,VI x_1.Log.StartTerm,RO 51 (x_1.Log.Entries.map encEntry),VI x_1.Commit,VI x_1.Clock,VI x_1.Limit,RO 3 (x_1.Votes.map encI),RO 135 (x_1.Peers.map encPeer)])]) (fun h => ?_) (fun v_398 h => ?_))
   ·refine Run.block (Run.seq (Run.ops hm (.p3 rfl rfl rfl (Ops.p rfl ?_))))
    obtain ⟨x_402,hx_402,h⟩ := bindO h
    refine Ops.st (s := 17448) (Ev.iaF rfl rfl hx_402) rfl rfl (Ops.p rfl (Ops.st (s := 17480) (.al rfl rfl) rfl rfl (Ops.s0 (s := 17496) (.sto rfl rfl rfl rfl rfl rfl) rfl rfl (Ops.nil (Run.seq (Run.ops hm (.p2 rfl rfl ?_)))))))
    obtain ⟨y_406,hy_406,h⟩ := bindO h
    refine Ops.st (s := 21512) (Ev.call [] [] 1 (sem_impl_ReadConf _ _ _ hy_406) rfl rfl (.d1 .nil) rfl (.inl rfl) rfl rfl) rfl rfl (.p3 rfl rfl rfl (.p2 rfl rfl (Ops.nil (Run.seq (Run.ops hm (.p2 rfl rfl (Ops.askO (x := .t 31) rfl h (fun g_409 h => ?_) (fun g_409 h => ?_))))))))
    ·refine Ops.gp rfl g_409 rfl (Ops.gp rfl g_409 rfl (Ops.gp rfl g_409 rfl (Ops.st (s := 25656) (.pkT rfl g_409 rfl) rfl rfl (Ops.p rfl (Ops.askO (x := .t 36) rfl h (fun g_410 h => ?_) (fun g_410 h => ?_))))))
     ·refine Ops.gp rfl g_410 rfl (Ops.gp rfl g_410 rfl (Ops.gp rfl g_410 rfl (Ops.gp rfl g_410 rfl (Ops.gp rfl g_410 rfl (Ops.gp rfl g_410 rfl (Ops.gp rfl g_410 rfl (Ops.gp rfl g_410 rfl (Ops.st (s := 25816) (.pkT rfl g_410 rfl) rfl rfl (Ops.nil (Run.condO rfl h (fun g_411 h => ?_) (fun g_411 h => ?_)))))))))))
      ·refine Run.seq (Run.ops hm (.p2 rfl rfl (Ops.nil (Run.ret ?_))))
       obtain rfl := someO h
       have h := hk_381
       replace h := inlO h
       obtain rfl := someO h
       exact Ends.mkG (.inl rfl) rfl (gh_pk [0] [21512] hB rfl rfl rfl rfl) rfl rfl
      ·exact Run.skip (⟨_,_,(gh_pk [1,2,5] [0] hB rfl rfl rfl rfl),(),h,rfl,rfl⟩)
     ·exact Ops.gn rfl g_410 (Ops.gn rfl g_410 (Ops.gn rfl g_410 (Ops.gn rfl g_410 (Ops.gn rfl g_410 (Ops.gn rfl g_410 (Ops.gn rfl g_410 (Ops.gn rfl g_410 (Ops.st (s := 25816) (.pkF rfl g_410 rfl) rfl rfl (Ops.nil (Run.condF rfl rfl (Run.skip (⟨_,_,(gh_pk [1,2,5] [0] hB rfl rfl rfl rfl),(),h,rfl,rfl⟩))))))))))))
    ·exact Ops.gn rfl g_409 (Ops.gn rfl g_409 (Ops.gn rfl g_409 (Ops.st (s := 25656) (.pkF rfl g_409 rfl) rfl rfl (Ops.p rfl (Ops.gn rfl rfl (Ops.gn rfl rfl (Ops.gn rfl rfl (Ops.gn rfl rfl (Ops.gn rfl rfl (Ops.gn rfl rfl (Ops.gn rfl rfl (Ops.gn rfl rfl (Ops.st (s := 25816) (.pkF rfl rfl rfl) rfl rfl (Ops.nil (Run.condF rfl rfl (Run.skip (⟨_,_,(gh_pk [1,2,5] [0] hB rfl rfl rfl rfl),(),h,rfl,rfl⟩)))))))))))))))))
   ·exact Run.ops hm (.p3 rfl rfl rfl (Ops.nil (⟨m_381,Nat.lt_succ_self m_381,_,_,(gh_pk [1,2,5] [0] hB rfl rfl rfl rfl),_,h,rfl,rfl⟩)))
  ·refine Run.exit ?_
   obtain rfl := someO h
   have h := hk_381
   replace h := inrO h
   exact ⟨_,_,(gh_pk [2] [0] hB rfl rfl rfl rfl),(),h,rfl,rfl⟩
 ·refine Run.seq (Run.ops hm (.p2 rfl rfl ?_))
  obtain ⟨x_413,hx_413,h⟩ := bindO h
  refine Ops.st (s := 33800) (Ev.apW (f := encI) (ontoN (f := encI) rfl) (addsF rfl) rfl bt3 rfl hx_413) rfl rfl (Ops.p rfl (Ops.nil (Run.ret ?_)))
  obtain rfl := someO h
  exact Ends.mkG (.inl rfl) rfl (gh_pk [0] [33800] hB rfl rfl rfl rfl) rfl rfl
def impl_ConfOf (N : Nat) (x_1 : Node) : Option ((List Int)) :=
 (impl_ConfAt N x_1 9223372036854775807).bind fun y_103 =>
 some y_103
theorem sem_impl_ConfOf (N : Nat) (x_1 : Node) (r : (List Int)) (h : impl_ConfOf N x_1 = some r) : Says Try.prog 25 [.agg [VI x_1.Id,VI x_1.Term,VI x_1.Vote,VI x_1.Role,VI x_1.Lead,RO 3 (x_1.Conf.map encI),VI x_1.Log.Start,VI x_1.Log.StartTerm,RO 51 (x_1.Log.Entries.map encEntry),VI x_1.Commit,VI x_1.Clock,VI x_1.Limit,RO 3 (x_1.Votes.map encI),RO 135 (x_1.Peers.map encPeer)]] 0 [] (.sl 0 3 0 r.length) [(0,.vec 3 (r.map encI))] := by
 unfold impl_ConfOf at h
 refine Says.of_run s25 Try.call25 rfl fun B hB => ?_
 have hm : B.m ≤ 1000 := by omega
 refine Run.seq (Run.ops hm (Ops.st (s := 1000) (.bx rfl rfl) rfl rfl (Ops.p rfl (Ops.nil (Run.seq (Run.ops hm (Ops.p rfl ?_)))))))
 obtain ⟨y_103,hy_103,h⟩ := bindO h
 refine Ops.st (s := 5112) (Ev.call [] [] 1 (sem_impl_ConfAt _ _ _ _ hy_103) rfl rfl (.cons (.agg (.d4 (.d4 (.d4 (.d2 .nil))))) (.d1 .nil)) rfl (.inl rfl) rfl rfl) rfl rfl (Ops.p rfl (Ops.nil (Run.ret ?_)))
 obtain rfl := someO h
 exact Ends.mkG (.inl rfl) rfl (gh_pk [0] [5112] hB rfl rfl rfl rfl) rfl rfl
def impl_othersOf_1 (N : Nat) (x_1 : Int) (x_2 : Node) : Option (Bool) :=
 some (x_1 == x_2.Id)
theorem sem_impl_othersOf_1 (N : Nat) (x_1 : Int) (x_2 : Node) (r : Bool) (h : impl_othersOf_1 N x_1 x_2 = some r) : Says Try.prog 163 [VI x_1,.ptr 0 0] 1 [(0,.box [VI x_2.Id,VI x_2.Term,VI x_2.Vote,VI x_2.Role,VI x_2.Lead,RO 3 (x_2.Conf.map encI),VI x_2.Log.Start,VI x_2.Log.StartTerm,RO 51 (x_2.Log.Entries.map encEntry),VI x_2.Commit,VI x_2.Clock,VI x_2.Limit,RO 3 (x_2.Votes.map encI),RO 135 (x_2.Peers.map encPeer)])] (VB r) [(0,.box [VI x_2.Id,VI x_2.Term,VI x_2.Vote,VI x_2.Role,VI x_2.Lead,RO 3 (x_2.Conf.map encI),VI x_2.Log.Start,VI x_2.Log.StartTerm,RO 51 (x_2.Log.Entries.map encEntry),VI x_2.Commit,VI x_2.Clock,VI x_2.Limit,RO 3 (x_2.Votes.map encI),RO 135 (x_2.Peers.map encPeer)])] := by
 unfold impl_othersOf_1 at h
 refine Says.of_run s163 Try.call163 rfl fun B hB => ?_
 have hm : B.m ≤ 1000 := by omega
 refine Run.seq (Run.ops hm (Ops.p rfl (Ops.nil (Run.seq (Run.ops hm (.p3 rfl rfl rfl (.p2 rfl rfl (Ops.nil (Run.ret ?_)))))))))
 obtain rfl := someO h
 exact Ends.mkG (.inl rfl) rfl (gh_pk [0] [0] hB rfl rfl rfl rfl) rfl rfl
def slices_IndexFunc_int_l1 (N : Nat) (x_1 : (List Int)) (x_2 : Node) : Nat → Int → Option ((Int) ⊕ (Unit))
 | 0,_ => none
 | m + 1,x_206 =>
 (if (decide (x_206 < (x_1.length : Int))) = true then
 (at? x_1 x_206).bind fun x_235 =>
 (impl_othersOf_1 N x_235 x_2).bind fun y_236 =>
 (if y_236 = true then
 some (Sum.inl x_206)
 else
 slices_IndexFunc_int_l1 N x_1 x_2 m (w64 (x_206 + 1)))
 else
 some (Sum.inr ()))
def slices_IndexFunc_int_l1_r (N : Nat) (x_1 : (List Int)) (x_2 : Node) : (List Int) → Int → Option ((Int) ⊕ (Unit))
 | [],x_206 =>
 some (Sum.inr ())
 | hd :: tl,x_206 =>
 (some hd).bind fun x_235 =>
 (impl_othersOf_1 N x_235 x_2).bind fun y_236 =>
 (if y_236 = true then
 some (Sum.inl x_206)
 else
 slices_IndexFunc_int_l1_r N x_1 x_2 tl (w64 (x_206 + 1)))
theorem slices_IndexFunc_int_l1_rng (N : Nat) (x_1 : (List Int)) (x_2 : Node) (hx : x_1.length ≤ 1099511627776) : ∀ (d k m : Nat),x_1.length = k + d → d < m → slices_IndexFunc_int_l1 N x_1 x_2 m (k : Int) = slices_IndexFunc_int_l1_r N x_1 x_2 (x_1.drop k) (k : Int) := by
 intro d
 induction d with
 | zero =>
  intro k m hd hm
  obtain ⟨m,rfl⟩ : ∃ q,m = q + 1 := ⟨m - 1,by omega⟩
  rw [slices_IndexFunc_int_l1,if_neg (by simp; omega),List.drop_eq_nil_of_le (by omega),slices_IndexFunc_int_l1_r]
 | succ d ih =>
  intro k m hd hm
  obtain ⟨m,rfl⟩ : ∃ q,m = q + 1 := ⟨m - 1,by omega⟩
  have hk : k < x_1.length := by omega
  rw [slices_IndexFunc_int_l1,if_pos (by simp; omega),List.drop_eq_getElem_cons hk,slices_IndexFunc_int_l1_r]
  have h1 := at_lt hk
  have h2 := w64_succ (k := k) (by omega)
  have h3 := ih (k + 1) m
  simp only [h1,h2,h3 (by omega) (by omega)]
theorem slices_IndexFunc_int_l1_eq {N : Nat} (x_1 : (List Int)) (x_2 : Node) (hx : x_1.length ≤ 1099511627776) (hN : x_1.length < N) : slices_IndexFunc_int_l1 N x_1 x_2 N 0 = slices_IndexFunc_int_l1_r N x_1 x_2 x_1 0 := slices_IndexFunc_int_l1_rng N x_1 x_2 hx x_1.length 0 N (by omega) hN
def slices_IndexFunc_int (N : Nat) (x_1 : (List Int)) (x_2 : Node) : Option (Int) :=
 joinP (fun (v_203 : Unit) =>
 some (-1 : Int)) fun j_203 =>
 (slices_IndexFunc_int_l1 N x_1 x_2 N 0).bind (Sum.elim (fun v_228 => some v_228) (fun (v_229 : Unit) => j_203 ()))
theorem sem_slices_IndexFunc_int (N : Nat) (x_1 : (List Int)) (x_2 : Node) (r : Int) (h : slices_IndexFunc_int N x_1 x_2 = some r) : Says Try.prog 186 [RO 3 (x_1.map encI),.fn 163 [.ptr 0 0]] 1 [(0,.box [VI x_2.Id,VI x_2.Term,VI x_2.Vote,VI x_2.Role,VI x_2.Lead,RO 3 (x_2.Conf.map encI),VI x_2.Log.Start,VI x_2.Log.StartTerm,RO 51 (x_2.Log.Entries.map encEntry),VI x_2.Commit,VI x_2.Clock,VI x_2.Limit,RO 3 (x_2.Votes.map encI),RO 135 (x_2.Peers.map encPeer)])] (VI r) [(0,.box [VI x_2.Id,VI x_2.Term,VI x_2.Vote,VI x_2.Role,VI x_2.Lead,RO 3 (x_2.Conf.map encI),VI x_2.Log.Start,VI x_2.Log.StartTerm,RO 51 (x_2.Log.Entries.map encEntry),VI x_2.Commit,VI x_2.Clock,VI x_2.Limit,RO 3 (x_2.Votes.map encI),RO 135 (x_2.Peers.map encPeer)])] := by
 unfold slices_IndexFunc_int at h
 refine Says.of_run s186 Try.call186 rfl fun B hB => ?_
 have hm : B.m ≤ 1000 := by omega
 refine Run.seq (Run.ops hm (Ops.p rfl (Ops.nil (Run.seqO h (fun v_203 => []) (fun (v_203 : Unit) => [(0,.box [VI x_2.Id,VI x_2.Term,VI x_2.Vote,VI x_2.Role,VI x_2.Lead,RO 3 (x_2.Conf.map encI),VI x_2.Log.Start,VI x_2.Log.StartTerm,RO 51 (x_2.Log.Entries.map encEntry),VI x_2.Commit,VI x_2.Clock,VI x_2.Limit,RO 3 (x_2.Votes.map encI),RO 135 (x_2.Peers.map encPeer)])]) (fun h => ?_) (fun v_203 h => ?_)))))
 ·refine Run.seq (Run.ops hm (Ops.p rfl (Ops.st (s := 5112) (Ev.lnF rfl) rfl rfl (Ops.p rfl (Ops.nil (Run.block ?_))))))
  obtain ⟨res_229,h,hk_229⟩ := bindO h
  refine Run.loop (n := N) (fun m_229 fr σ => ∃ (x_206 : Int),slices_IndexFunc_int_l1 N x_1 x_2 m_229 x_206 = some res_229 ∧ fr = [(0,RO 3 (x_1.map encI)),(1,.fn 163 [.ptr 0 0]),(7,VI (x_1.length : Int)),(8,VI x_206)] ∧ σ = [(0,.box [VI x_2.Id,VI x_2.Term,VI x_2.Vote,VI x_2.Role,VI x_2.Lead,RO 3 (x_2.Conf.map encI),VI x_2.Log.Start,VI x_2.Log.StartTerm,RO 51 (x_2.Log.Entries.map encEntry),VI x_2.Commit,VI x_2.Clock,VI x_2.Limit,RO 3 (x_2.Votes.map encI),RO 135 (x_2.Peers.map encPeer)])]) (gh_pk [0,1,7,8] [0] hB rfl rfl rfl rfl) ⟨_,h,rfl,rfl⟩ ?_
  rintro m_229 fr σ ⟨x_206,h,rfl,rfl⟩
  obtain _ | m_229 := m_229
  ·rw [slices_IndexFunc_int_l1] at h; cases h
  rw [slices_IndexFunc_int_l1] at h
  refine Run.seq (Run.ops hm (Ops.p rfl (Ops.nil (Run.seq (Run.condO rfl h (fun g_232 h => ?_) (fun g_232 h => ?_))))))
  ·refine Run.skip (Run.seq (Run.block (Run.seq (Run.ops hm (.p2 rfl rfl (Ops.nil (Run.seq (Run.ops hm (.p3 rfl rfl rfl ?_)))))))))
   obtain ⟨x_235,hx_235,h⟩ := bindO h
   refine Ops.st (s := 17432) (Ev.iaF rfl rfl hx_235) rfl rfl (Ops.p rfl ?_)
   obtain ⟨y_236,hy_236,h⟩ := bindO h
   refine Ops.st (s := 17464) (Ev.callx [0] [] 0 rfl (sem_impl_othersOf_1 _ _ _ _ hy_236) rfl rfl (.d1 (.cons (.ptr rfl) .nil)) rfl (.inl rfl) rfl rfl) rfl rfl (Ops.nil (Run.condO rfl h (fun g_237 h => ?_) (fun g_237 h => ?_)))
   ·refine Run.seq (Run.ops hm (.p2 rfl rfl (Ops.nil (Run.ret ?_))))
    obtain rfl := someO h
    have h := hk_229
    replace h := inlO h
    obtain rfl := someO h
    exact Ends.mkG (.inl rfl) rfl (gh_pk [0] [0] hB rfl rfl rfl rfl) rfl rfl
   ·exact Run.skip (Run.ops hm (.p2 rfl rfl (Ops.nil (⟨m_229,Nat.lt_succ_self m_229,_,_,(gh_pk [0,1,7,8] [0] hB rfl rfl rfl rfl),_,h,rfl,rfl⟩))))
  ·refine Run.exit ?_
   obtain rfl := someO h
   have h := hk_229
   replace h := inrO h
   exact ⟨_,_,(gh_pk [] [0] hB rfl rfl rfl rfl),(),h,rfl,rfl⟩
 ·refine Run.seq (Run.ops hm (Ops.p rfl (Ops.nil (Run.ret ?_))))
  obtain rfl := someO h
  exact Ends.mkG (.inl rfl) rfl (gh_pk [0] [0] hB rfl rfl rfl rfl) rfl rfl
def slices_IndexFunc_int_i1_l1 (N : Nat) (x_1 : (List Int)) (x_2 : Node) : Nat → Int → Option ((Int) ⊕ (Unit))
 | 0,_ => none
 | m + 1,x_205 =>
 (if (decide (x_205 < ((x_1.length : Nat) : Int))) = true then
 (at? x_1 x_205).bind fun x_235 =>
 (impl_othersOf_1 N x_235 x_2).bind fun y_236 =>
 (if y_236 = true then
 some (Sum.inl x_205)
 else
 slices_IndexFunc_int_i1_l1 N x_1 x_2 m (w64 (x_205 + 1)))
 else
 some (Sum.inr ()))
def slices_IndexFunc_int_i1 (N : Nat) (x_1 : (List Int)) (x_2 : Node) : Option (Int) :=
 joinP (fun (v_203 : Unit) =>
 some (-1 : Int)) fun j_203 =>
 (slices_IndexFunc_int_i1_l1 N x_1 x_2 N 0).bind (Sum.elim (fun v_228 => some v_228) (fun (v_229 : Unit) => j_203 ()))
theorem sem_slices_IndexFunc_int_i1 (N : Nat) (x_1 : (List Int)) (x_2 : Node) (r : Int) (h : slices_IndexFunc_int_i1 N x_1 x_2 = some r) : Says Try.prog 186 [.sl 0 3 0 x_1.length,.fn 163 [.ptr 1 0]] 2 [(0,.vec 3 (x_1.map encI)),(1,.box [VI x_2.Id,VI x_2.Term,VI x_2.Vote,VI x_2.Role,VI x_2.Lead,RO 3 (x_2.Conf.map encI),VI x_2.Log.Start,VI x_2.Log.StartTerm,RO 51 (x_2.Log.Entries.map encEntry),VI x_2.Commit,VI x_2.Clock,VI x_2.Limit,RO 3 (x_2.Votes.map encI),RO 135 (x_2.Peers.map encPeer)])] (VI r) [(0,.vec 3 (x_1.map encI)),(1,.box [VI x_2.Id,VI x_2.Term,VI x_2.Vote,VI x_2.Role,VI x_2.Lead,RO 3 (x_2.Conf.map encI),VI x_2.Log.Start,VI x_2.Log.StartTerm,RO 51 (x_2.Log.Entries.map encEntry),VI x_2.Commit,VI x_2.Clock,VI x_2.Limit,RO 3 (x_2.Votes.map encI),RO 135 (x_2.Peers.map encPeer)])] := by
 unfold slices_IndexFunc_int_i1 at h
 refine Says.of_run s186 Try.call186 rfl fun B hB => ?_
 have hm : B.m ≤ 1000 := by omega
 refine Run.seq (Run.ops hm (Ops.p rfl (Ops.nil (Run.seqO h (fun v_203 => []) (fun (v_203 : Unit) => [(0,.vec 3 (x_1.map encI)),(1,.box [VI x_2.Id,VI x_2.Term,VI x_2.Vote,VI x_2.Role,VI x_2.Lead,RO 3 (x_2.Conf.map encI),VI x_2.Log.Start,VI x_2.Log.StartTerm,RO 51 (x_2.Log.Entries.map encEntry),VI x_2.Commit,VI x_2.Clock,VI x_2.Limit,RO 3 (x_2.Votes.map encI),RO 135 (x_2.Peers.map encPeer)])]) (fun h => ?_) (fun v_203 h => ?_)))))
 ·refine Run.seq (Run.ops hm (.p3 rfl rfl rfl (Ops.nil (Run.block ?_))))
  obtain ⟨res_229,h,hk_229⟩ := bindO h
  refine Run.loop (n := N) (fun m_229 fr σ => ∃ (x_205 : Int),slices_IndexFunc_int_i1_l1 N x_1 x_2 m_229 x_205 = some res_229 ∧ fr = [(0,.sl 0 3 0 x_1.length),(1,.fn 163 [.ptr 1 0]),(7,VI ((x_1.length : Nat) : Int)),(8,VI x_205)] ∧ σ = [(0,.vec 3 (x_1.map encI)),(1,.box [VI x_2.Id,VI x_2.Term,VI x_2.Vote,VI x_2.Role,VI x_2.Lead,RO 3 (x_2.Conf.map encI),VI x_2.Log.Start,VI x_2.Log.StartTerm,RO 51 (x_2.Log.Entries.map encEntry),VI x_2.Commit,VI x_2.Clock,VI x_2.Limit,RO 3 (x_2.Votes.map encI),RO 135 (x_2.Peers.map encPeer)])]) (gh_pk [0,1,7,8] [0,1] hB rfl rfl rfl rfl) ⟨_,h,rfl,rfl⟩ ?_
  rintro m_229 fr σ ⟨x_205,h,rfl,rfl⟩
  obtain _ | m_229 := m_229
  ·rw [slices_IndexFunc_int_i1_l1] at h; cases h
  rw [slices_IndexFunc_int_i1_l1] at h
  refine Run.seq (Run.ops hm (Ops.p rfl (Ops.nil (Run.seq (Run.condO rfl h (fun g_232 h => ?_) (fun g_232 h => ?_))))))
  ·refine Run.skip (Run.seq (Run.block (Run.seq (Run.ops hm (.p2 rfl rfl (Ops.nil (Run.seq (Run.ops hm (.p3 rfl rfl rfl ?_)))))))))
   obtain ⟨x_235,hx_235,h⟩ := bindO h
   refine Ops.st (s := 17432) (Ev.iaW rfl rfl rfl hx_235) rfl rfl (Ops.st (s := 17448) (Ev.ldE (f := encI) rfl rfl (at_some hx_235).2 rfl rfl rfl) rfl rfl ?_)
   obtain ⟨y_236,hy_236,h⟩ := bindO h
   refine Ops.st (s := 17464) (Ev.callx [1] [] 0 rfl (sem_impl_othersOf_1 _ _ _ _ hy_236) rfl rfl (.d1 (.cons (.ptr rfl) .nil)) rfl (.inl rfl) rfl rfl) rfl rfl (Ops.nil (Run.condO rfl h (fun g_237 h => ?_) (fun g_237 h => ?_)))
   ·refine Run.seq (Run.ops hm (.p2 rfl rfl (Ops.nil (Run.ret ?_))))
    obtain rfl := someO h
    have h := hk_229
    replace h := inlO h
    obtain rfl := someO h
    exact Ends.mkG (.inl rfl) rfl (gh_pk [0] [0,1] hB rfl rfl rfl rfl) rfl rfl
   ·exact Run.skip (Run.ops hm (.p2 rfl rfl (Ops.nil (⟨m_229,Nat.lt_succ_self m_229,_,_,(gh_pk [0,1,7,8] [0,1] hB rfl rfl rfl rfl),_,h,rfl,rfl⟩))))
  ·refine Run.exit ?_
   obtain rfl := someO h
   have h := hk_229
   replace h := inrO h
   exact ⟨_,_,(gh_pk [] [0,1] hB rfl rfl rfl rfl),(),h,rfl,rfl⟩
 ·refine Run.seq (Run.ops hm (Ops.p rfl (Ops.nil (Run.ret ?_))))
  obtain rfl := someO h
  exact Ends.mkG (.inl rfl) rfl (gh_pk [0] [0,1] hB rfl rfl rfl rfl) rfl rfl
def slices_DeleteFunc_int_l1 (N : Nat) (x_2 : Node) : Nat → Int → Int → (List Int) → Option (Int × (List Int))
 | 0,_,_,_ => none
 | m + 1,x_331,x_332,x_333 =>
 (if (decide (x_332 < ((x_333.length : Nat) : Int))) = true then
 joinP (fun (v_388 : Int × (List Int)) =>
 slices_DeleteFunc_int_l1 N x_2 m v_388.1 (w64 (x_332 + 1)) v_388.2) fun j_388 =>
 (at? x_333 x_332).bind fun x_392 =>
 (impl_othersOf_1 N x_392 x_2).bind fun y_394 =>
 (if (!y_394) = true then
 (at? x_333 x_331).bind fun x_399 =>
 j_388 (w64 (x_331 + 1),(x_333.set x_331.toNat x_392))
 else
 j_388 (x_331,x_333))
 else
 some (x_331,x_333))
def slices_DeleteFunc_int (N : Nat) (x_1 : (List Int)) (x_2 : Node) : Option (Nat × (List Int)) :=
 (slices_IndexFunc_int_i1 N x_1 x_2).bind fun y_258 =>
 (if (y_258 == (-1 : Int)) = true then
 some (x_1.length,x_1)
 else
 joinP (fun (v_330 : Int × (List Int)) =>
 (drop? v_330.2 v_330.1).bind fun x_406 =>
 (clr? 0 v_330.2 v_330.1.toNat (v_330.2.length - v_330.1.toNat)).bind fun x_407 =>
 (take? x_407 v_330.1).bind fun x_409 =>
 some (v_330.1.toNat,x_407)) fun j_330 =>
 (slices_DeleteFunc_int_l1 N x_2 N y_258 (w64 (y_258 + 1)) x_1).bind (fun v_373 => j_330 (v_373.1,v_373.2)))
theorem sem_slices_DeleteFunc_int (N : Nat) (x_1 : (List Int)) (x_2 : Node) (r : Nat × (List Int)) (h : slices_DeleteFunc_int N x_1 x_2 = some r) : Says Try.prog 162 [.sl 0 3 0 x_1.length,.fn 163 [.ptr 1 0]] 2 [(0,.vec 3 (x_1.map encI)),(1,.box [VI x_2.Id,VI x_2.Term,VI x_2.Vote,VI x_2.Role,VI x_2.Lead,RO 3 (x_2.Conf.map encI),VI x_2.Log.Start,VI x_2.Log.StartTerm,RO 51 (x_2.Log.Entries.map encEntry),VI x_2.Commit,VI x_2.Clock,VI x_2.Limit,RO 3 (x_2.Votes.map encI),RO 135 (x_2.Peers.map encPeer)])] (.sl 0 3 0 r.1) [(0,.vec 3 (r.2.map encI)),(1,.box [VI x_2.Id,VI x_2.Term,VI x_2.Vote,VI x_2.Role,VI x_2.Lead,RO 3 (x_2.Conf.map encI),VI x_2.Log.Start,VI x_2.Log.StartTerm,RO 51 (x_2.Log.Entries.map encEntry),VI x_2.Commit,VI x_2.Clock,VI x_2.Limit,RO 3 (x_2.Votes.map encI),RO 135 (x_2.Peers.map encPeer)])] := by
 unfold slices_DeleteFunc_int at h
 refine Says.of_run s162 Try.call162 rfl fun B hB => ?_
 have hm : B.m ≤ 1000 := by omega
 refine Run.seq (Run.ops hm (Ops.p rfl (Ops.nil (Run.seq (Run.ops hm (.p2 rfl rfl ?_))))))
 obtain ⟨y_258,hy_258,h⟩ := bindO h
 refine Ops.st (s := 5128) (Ev.call [0,1] [] 0 (sem_slices_IndexFunc_int_i1 _ _ _ _ hy_258) rfl rfl (.cons (.sl rfl) (.cons (.fn (.cons (.ptr rfl) .nil)) .nil)) rfl (.inl rfl) rfl rfl) rfl rfl (Ops.p rfl (Ops.nil (Run.seq (Run.seq (Run.ops hm (.p2 rfl rfl (Ops.nil (Run.condO rfl h (fun g_260 h => ?_) (fun g_260 h => ?_)))))))))
 ·refine Run.seq (Run.ops hm (.p2 rfl rfl (Ops.nil (Run.ret ?_))))
  obtain rfl := someO h
  exact Ends.mkG (.inl rfl) rfl (gh_pk [0] [0,1] hB rfl rfl rfl rfl) rfl rfl
 ·refine Run.skip (Run.seqO h (fun v_330 => [(0,.sl 0 3 0 v_330.2.length),(5,VI v_330.1)]) (fun (v_330 : Int × (List Int)) => [(0,.vec 3 (v_330.2.map encI)),(1,.box [VI x_2.Id,VI x_2.Term,VI x_2.Vote,VI x_2.Role,VI x_2.Lead,RO 3 (x_2.Conf.map encI),VI x_2.Log.Start,VI x_2.Log.StartTerm,RO 51 (x_2.Log.Entries.map encEntry),VI x_2.Commit,VI x_2.Clock,VI x_2.Limit,RO 3 (x_2.Votes.map encI),RO 135 (x_2.Peers.map encPeer)])]) (fun h => ?_) (fun v_330 h => ?_))
  ·refine Run.seq (Run.ops hm (.p3 rfl rfl rfl (Ops.nil (Run.block ?_))))
   obtain ⟨res_373,h,hk_373⟩ := bindO h
   refine Run.loop (n := N) (fun m_373 fr σ => ∃ (x_331 : Int),∃ (x_332 : Int),∃ (x_333 : (List Int)),slices_DeleteFunc_int_l1 N x_2 m_373 x_331 x_332 x_333 = some res_373 ∧ fr = [(0,.sl 0 3 0 x_333.length),(1,.fn 163 [.ptr 1 0]),(5,VI x_331),(6,VI x_332)] ∧ σ = [(0,.vec 3 (x_333.map encI)),(1,.box [VI x_2.Id,VI x_2.Term,VI x_2.Vote,VI x_2.Role,VI x_2.Lead,RO 3 (x_2.Conf.map encI),VI x_2.Log.Start,VI x_2.Log.StartTerm,RO 51 (x_2.Log.Entries.map encEntry),VI x_2.Commit,VI x_2.Clock,VI x_2.Limit,RO 3 (x_2.Votes.map encI),RO 135 (x_2.Peers.map encPeer)])]) (gh_pk [0,1,5,6] [0,1] hB rfl rfl rfl rfl) ⟨_,_,_,h,rfl,rfl⟩ ?_
   rintro m_373 fr σ ⟨x_331,x_332,x_333,h,rfl,rfl⟩
   obtain _ | m_373 := m_373
   ·rw [slices_DeleteFunc_int_l1] at h; cases h
   rw [slices_DeleteFunc_int_l1] at h
   refine Run.seq (Run.seq (Run.ops hm (.p3 rfl rfl rfl (Ops.p rfl (Ops.nil (Run.condO rfl h (fun g_376 h => ?_) (fun g_376 h => ?_)))))))
   ·refine Run.skip (Run.seqO h (fun v_388 => [(0,.sl 0 3 0 v_388.2.length),(1,.fn 163 [.ptr 1 0]),(5,VI v_388.1),(6,VI x_332)]) (fun (v_388 : Int × (List Int)) => [(0,.vec 3 (v_388.2.map encI)),(1,.box [VI x_2.Id,VI x_2.Term,VI x_2.Vote,VI x_2.Role,VI x_2.Lead,RO 3 (x_2.Conf.map encI),VI x_2.Log.Start,VI x_2.Log.StartTerm,RO 51 (x_2.Log.Entries.map encEntry),VI x_2.Commit,VI x_2.Clock,VI x_2.Limit,RO 3 (x_2.Votes.map encI),RO 135 (x_2.Peers.map encPeer)])]) (fun h => ?_) (fun v_388 h => ?_))
    ·refine Run.block (Run.seq (Run.ops hm (.p2 rfl rfl ?_)))
     obtain ⟨x_392,hx_392,h⟩ := bindO h
     refine Ops.st (s := 29704) (Ev.iaW rfl rfl rfl hx_392) rfl rfl (Ops.st (s := 29720) (Ev.ldE (f := encI) rfl rfl (at_some hx_392).2 rfl rfl rfl) rfl rfl (Ops.p rfl (Ops.nil (Run.seq (Run.ops hm (.p2 rfl rfl ?_))))))
     obtain ⟨y_394,hy_394,h⟩ := bindO h
     refine Ops.st (s := 33800) (Ev.callx [1] [] 0 rfl (sem_impl_othersOf_1 _ _ _ _ hy_394) rfl rfl (.d1 (.cons (.ptr rfl) .nil)) rfl (.inl rfl) rfl rfl) rfl rfl (Ops.p rfl (Ops.nil (Run.condO rfl h (fun g_395 h => ?_) (fun g_395 h => ?_))))
     ·refine Run.seq (Run.ops hm (.p3 rfl rfl rfl ?_))
      obtain ⟨x_399,hx_399,h⟩ := bindO h
      exact Ops.st (s := 37912) (Ev.iaW rfl rfl rfl hx_399) rfl rfl (Ops.s0 (s := 37928) (Ev.stE (f := encI) (v' := x_392) rfl rfl (at_some hx_399).2 rfl (.d1 .nil) rfl rfl rfl rfl rfl) rfl rfl (Ops.nil (Run.ops hm (.p3 rfl rfl rfl (Ops.nil (⟨_,_,(gh_pk [0,1,5,6] [0,1] hB rfl rfl (by first | rfl | (simp only [List.length_set]; done) | (simp only [List.length_set]; rfl)) (by first | rfl | (simp only [List.length_set]; done) | (simp only [List.length_set]; rfl))),_,h,rfl,rfl⟩))))))
     ·exact Run.skip (⟨_,_,(gh_pk [0,1,5,6] [0,1] hB rfl rfl rfl rfl),_,h,rfl,rfl⟩)
    ·exact Run.ops hm (.p3 rfl rfl rfl (Ops.nil (⟨m_373,Nat.lt_succ_self m_373,_,_,(gh_pk [0,1,5,6] [0,1] hB rfl rfl rfl rfl),_,_,_,h,rfl,rfl⟩)))
   ·refine Run.exit ?_
    obtain rfl := someO h
    have h := hk_373
    exact ⟨_,_,(gh_pk [0,5] [0,1] hB rfl rfl rfl rfl),_,h,rfl,rfl⟩
  ·refine Run.seq (Run.ops hm (.p2 rfl rfl ?_))
   obtain ⟨x_406,hx_406,h⟩ := bindO h
   refine Ops.st (s := 46088) (Ev.slWl (xs := v_330.2) rfl rfl rfl hx_406) rfl rfl ?_
   obtain ⟨x_407,hx_407,h⟩ := bindO h
   refine Ops.s0 (s := 46104) (Ev.clrW (f := encI) (zv := 0) rfl rfl rfl hx_407) rfl rfl (Ops.nil (Run.seq (Run.ops hm (.p2 rfl rfl ?_))))
   obtain ⟨x_409,hx_409,h⟩ := bindO h
   refine Ops.st (s := 50184) (Ev.slWh (xs := x_407) rfl (clr_len hx_407) rfl hx_409) rfl rfl (Ops.p rfl (Ops.nil (Run.ret ?_)))
   obtain rfl := someO h
   exact Ends.mkG (.inl rfl) rfl (gh_pk [0] [0,1] hB rfl rfl rfl rfl) (by first | rfl | (simp only [List.length_set,(clr_len hx_407)]; done) | (simp only [List.length_set,(clr_len hx_407)]; rfl)) (by first | rfl | (simp only [List.length_set,(clr_len hx_407)]; done) | (simp only [List.length_set,(clr_len hx_407)]; rfl))
def impl_othersOf (N : Nat) (x_1 : Node) : Option (Nat × (List Int)) :=
 (impl_ConfOf N x_1).bind fun y_109 =>
 (slices_DeleteFunc_int N y_109 x_1).bind fun y_110 =>
 (len? y_109 y_110.2).bind fun y_111 =>
 some (y_110.1,y_110.2)
theorem sem_impl_othersOf (N : Nat) (x_1 : Node) (r : Nat × (List Int)) (h : impl_othersOf N x_1 = some r) : Says Try.prog 95 [.agg [VI x_1.Id,VI x_1.Term,VI x_1.Vote,VI x_1.Role,VI x_1.Lead,RO 3 (x_1.Conf.map encI),VI x_1.Log.Start,VI x_1.Log.StartTerm,RO 51 (x_1.Log.Entries.map encEntry),VI x_1.Commit,VI x_1.Clock,VI x_1.Limit,RO 3 (x_1.Votes.map encI),RO 135 (x_1.Peers.map encPeer)]] 0 [] (.sl 0 3 0 r.1) [(0,.vec 3 (r.2.map encI))] := by
 unfold impl_othersOf at h
 refine Says.of_run s95 Try.call95 rfl fun B hB => ?_
 have hm : B.m ≤ 1000 := by omega
 refine Run.seq (Run.ops hm (Ops.st (s := 1000) (.bx rfl rfl) rfl rfl (Ops.p rfl (Ops.nil (Run.seq (Run.ops hm (Ops.p rfl ?_)))))))
 obtain ⟨y_109,hy_109,h⟩ := bindO h
 refine Ops.st (s := 5112) (Ev.call [] [] 1 (sem_impl_ConfOf _ _ _ hy_109) rfl rfl (.cons (.agg (.d4 (.d4 (.d4 (.d2 .nil))))) .nil) rfl (.inl rfl) rfl rfl) rfl rfl (Ops.p rfl ?_)
 obtain ⟨y_110,hy_110,h⟩ := bindO h
 obtain ⟨y_111,hy_111,h⟩ := bindO h
 refine Ops.st (s := 5144) (Ev.call [5112,1000] [] 0 (sem_slices_DeleteFunc_int _ _ _ _ hy_110) rfl rfl (.cons (.sl rfl) (.cons (.fn (.cons (.ptr rfl) .nil)) .nil)) rfl (.inl rfl) rfl rfl) rfl rfl (Ops.p rfl (Ops.nil (Run.ret ?_)))
 obtain rfl := someO h
 exact Ends.mkG (.inl rfl) rfl (gh_pk [0] [5112] hB rfl rfl rfl rfl) (by first | rfl | (simp only [List.length_set,(len_some hy_111)]; done) | (simp only [List.length_set,(len_some hy_111)]; rfl)) (by first | rfl | (simp only [List.length_set,(len_some hy_111)]; done) | (simp only [List.length_set,(len_some hy_111)]; rfl))
def slices_Equal_int_l1 (N : Nat) (x_1 : (List Int)) (x_2 : (List Int)) : Nat → Int → Option ((Bool) ⊕ (Unit))
 | 0,_ => none
 | m + 1,x_172 =>
 (if (decide (x_172 < (x_1.length : Int))) = true then
 (at? x_1 x_172).bind fun x_187 =>
 (at? x_2 x_172).bind fun x_188 =>
 (if (x_187 != x_188) = true then
 some (Sum.inl false)
 else
 slices_Equal_int_l1 N x_1 x_2 m (w64 (x_172 + 1)))
 else
 some (Sum.inr ()))
def slices_Equal_int_l1_r (N : Nat) (x_1 : (List Int)) (x_2 : (List Int)) : (List Int) → Int → Option ((Bool) ⊕ (Unit))
 | [],x_172 =>
 some (Sum.inr ())
 | hd :: tl,x_172 =>
 (some hd).bind fun x_187 =>
 (at? x_2 x_172).bind fun x_188 =>
 (if (x_187 != x_188) = true then
 some (Sum.inl false)
 else
 slices_Equal_int_l1_r N x_1 x_2 tl (w64 (x_172 + 1)))
theorem slices_Equal_int_l1_rng (N : Nat) (x_1 : (List Int)) (x_2 : (List Int)) (hx : x_1.length ≤ 1099511627776) : ∀ (d k m : Nat),x_1.length = k + d → d < m → slices_Equal_int_l1 N x_1 x_2 m (k : Int) = slices_Equal_int_l1_r N x_1 x_2 (x_1.drop k) (k : Int) := by
 intro d
 induction d with
 | zero =>
  intro k m hd hm
  obtain ⟨m,rfl⟩ : ∃ q,m = q + 1 := ⟨m - 1,by omega⟩
  rw [slices_Equal_int_l1,if_neg (by simp; omega),List.drop_eq_nil_of_le (by omega),slices_Equal_int_l1_r]
 | succ d ih =>
  intro k m hd hm
  obtain ⟨m,rfl⟩ : ∃ q,m = q + 1 := ⟨m - 1,by omega⟩
  have hk : k < x_1.length := by omega
  rw [slices_Equal_int_l1,if_pos (by simp; omega),List.drop_eq_getElem_cons hk,slices_Equal_int_l1_r]
  have h1 := at_lt hk
  have h2 := w64_succ (k := k) (by omega)
  have h3 := ih (k + 1) m
  simp only [h1,h2,h3 (by omega) (by omega)]
theorem slices_Equal_int_l1_eq {N : Nat} (x_1 : (List Int)) (x_2 : (List Int)) (hx : x_1.length ≤ 1099511627776) (hN : x_1.length < N) : slices_Equal_int_l1 N x_1 x_2 N 0 = slices_Equal_int_l1_r N x_1 x_2 x_1 0 := slices_Equal_int_l1_rng N x_1 x_2 hx x_1.length 0 N (by omega) hN
def slices_Equal_int (N : Nat) (x_1 : (List Int)) (x_2 : (List Int)) : Option (Bool) :=
 (if ((x_1.length : Int) != (x_2.length : Int)) = true then
 some false
 else
 joinP (fun (v_168 : Unit) =>
 some true) fun j_168 =>
 (slices_Equal_int_l1 N x_1 x_2 N 0).bind (Sum.elim (fun v_180 => some v_180) (fun (v_181 : Unit) => j_168 ())))
theorem sem_slices_Equal_int (N : Nat) (x_1 : (List Int)) (x_2 : (List Int)) (r : Bool) (h : slices_Equal_int N x_1 x_2 = some r) : Says Try.prog 149 [RO 3 (x_1.map encI),RO 3 (x_2.map encI)] 0 [] (VB r) [] := by
 unfold slices_Equal_int at h
 refine Says.of_run s149 Try.call149 rfl fun B hB => ?_
 have hm : B.m ≤ 1000 := by omega
 refine Run.seq (Run.ops hm (Ops.p rfl (Ops.nil (Run.seq (Run.seq (Run.ops hm (Ops.p rfl (Ops.st (s := 5112) (Ev.lnF rfl) rfl rfl (Ops.p rfl (Ops.st (s := 5144) (Ev.lnF rfl) rfl rfl (Ops.p rfl (Ops.nil (Run.condO rfl h (fun g_146 h => ?_) (fun g_146 h => ?_))))))))))))))
 ·refine Run.seq (Run.ops hm (Ops.p rfl (Ops.nil (Run.ret ?_))))
  obtain rfl := someO h
  exact Ends.mkG (.inl rfl) rfl (gh_pk [0] [] hB rfl rfl rfl rfl) rfl rfl
 ·refine Run.skip (Run.seqO h (fun v_168 => []) (fun (v_168 : Unit) => []) (fun h => ?_) (fun v_168 h => ?_))
  ·refine Run.seq (Run.ops hm (Ops.p rfl (Ops.st (s := 13304) (Ev.lnF rfl) rfl rfl (Ops.p rfl (Ops.nil (Run.block ?_))))))
   obtain ⟨res_181,h,hk_181⟩ := bindO h
   refine Run.loop (n := N) (fun m_181 fr σ => ∃ (x_172 : Int),slices_Equal_int_l1 N x_1 x_2 m_181 x_172 = some res_181 ∧ fr = [(0,RO 3 (x_1.map encI)),(1,RO 3 (x_2.map encI)),(12,VI (x_1.length : Int)),(13,VI x_172)] ∧ σ = []) (gh_pk [0,1,12,13] [] hB rfl rfl rfl rfl) ⟨_,h,rfl,rfl⟩ ?_
   rintro m_181 fr σ ⟨x_172,h,rfl,rfl⟩
   obtain _ | m_181 := m_181
   ·rw [slices_Equal_int_l1] at h; cases h
   rw [slices_Equal_int_l1] at h
   refine Run.seq (Run.ops hm (Ops.p rfl (Ops.nil (Run.seq (Run.condO rfl h (fun g_184 h => ?_) (fun g_184 h => ?_))))))
   ·refine Run.skip (Run.seq (Run.block (Run.seq (Run.ops hm (.p2 rfl rfl (Ops.nil (Run.seq (Run.draw hm hmix (OpsD.p rfl (OpsD.p rfl ?_))))))))))
    obtain ⟨x_187,hx_187,h⟩ := bindO h
    refine OpsD.st (s := 25608) (Ev.iaF rfl rfl hx_187) rfl rfl (OpsD.p rfl (OpsD.p rfl (OpsD.p rfl ?_)))
    obtain ⟨x_188,hx_188,h⟩ := bindO h
    refine OpsD.st (s := 25672) (Ev.iaF rfl rfl hx_188) rfl rfl (OpsD.p rfl (OpsD.p rfl (OpsD.nil ⟨by kernel_rfl,?_⟩)))
    refine Run.condO rfl h (fun g_189 h => ?_) (fun g_189 h => ?_)
    ·refine Run.seq (Run.ops hm (Ops.p rfl (Ops.nil (Run.ret ?_))))
     obtain rfl := someO h
     have h := hk_181
     replace h := inlO h
     obtain rfl := someO h
     exact Ends.mkG (.inl rfl) rfl (gh_pk [0] [] hB rfl rfl rfl rfl) rfl rfl
    ·exact Run.skip (Run.ops hm (.p2 rfl rfl (Ops.nil (⟨m_181,Nat.lt_succ_self m_181,_,_,(gh_pk [0,1,12,13] [] hB rfl rfl rfl rfl),_,h,rfl,rfl⟩))))
   ·refine Run.exit ?_
    obtain rfl := someO h
    have h := hk_181
    replace h := inrO h
    exact ⟨_,_,(gh_pk [] [] hB rfl rfl rfl rfl),(),h,rfl,rfl⟩
  ·refine Run.seq (Run.ops hm (Ops.p rfl (Ops.nil (Run.ret ?_))))
   obtain rfl := someO h
   exact Ends.mkG (.inl rfl) rfl (gh_pk [0] [] hB rfl rfl rfl rfl) rfl rfl
def impl_peersOk_l1 (N : Nat) (x_1 : Node) : Nat → Int → (List Int) → Option ((Bool) ⊕ ((List Int)))
 | 0,_,_ => none
 | m + 1,x_309,x_324 =>
 (if (decide (x_309 < (x_1.Peers.length : Int))) = true then
 (at? x_1.Peers x_309).bind fun x_356 =>
 (cat? x_324 ([x_356.Id] : List Int)).bind fun x_360 =>
 (impl_last N x_1.Log).bind fun y_367 =>
 (impl_within N x_356.Next 1 (w64 (y_367 + 1))).bind fun y_368 =>
 (if (!y_368) = true then
 some (Sum.inl false)
 else
 (impl_within N x_356.Match 0 (w64 (x_356.Next - 1))).bind fun y_370 =>
 (if (!y_370) = true then
 some (Sum.inl false)
 else
 (impl_within N x_356.Sent 0 20000).bind fun y_372 =>
 (if (!y_372) = true then
 some (Sum.inl false)
 else
 impl_peersOk_l1 N x_1 m (w64 (x_309 + 1)) x_360)))
 else
 some (Sum.inr x_324))
def impl_peersOk_l1_r (N : Nat) (x_1 : Node) : (List Peer) → Int → (List Int) → Option ((Bool) ⊕ ((List Int)))
 | [],x_309,x_324 =>
 some (Sum.inr x_324)
 | hd :: tl,x_309,x_324 =>
 (some hd).bind fun x_356 =>
 (cat? x_324 ([x_356.Id] : List Int)).bind fun x_360 =>
 (impl_last N x_1.Log).bind fun y_367 =>
 (impl_within N x_356.Next 1 (w64 (y_367 + 1))).bind fun y_368 =>
 (if (!y_368) = true then
 some (Sum.inl false)
 else
 (impl_within N x_356.Match 0 (w64 (x_356.Next - 1))).bind fun y_370 =>
 (if (!y_370) = true then
 some (Sum.inl false)
 else
 (impl_within N x_356.Sent 0 20000).bind fun y_372 =>
 (if (!y_372) = true then
 some (Sum.inl false)
 else
 impl_peersOk_l1_r N x_1 tl (w64 (x_309 + 1)) x_360)))
theorem impl_peersOk_l1_rng (N : Nat) (x_1 : Node) (hx : x_1.Peers.length ≤ 1099511627776) : ∀ (d k m : Nat) (x_324 : (List Int)),x_1.Peers.length = k + d → d < m → impl_peersOk_l1 N x_1 m (k : Int) x_324 = impl_peersOk_l1_r N x_1 (x_1.Peers.drop k) (k : Int) x_324 := by
 intro d
 induction d with
 | zero =>
  intro k m x_324 hd hm
  obtain ⟨m,rfl⟩ : ∃ q,m = q + 1 := ⟨m - 1,by omega⟩
  rw [impl_peersOk_l1,if_neg (by simp; omega),List.drop_eq_nil_of_le (by omega),impl_peersOk_l1_r]
 | succ d ih =>
  intro k m x_324 hd hm
  obtain ⟨m,rfl⟩ : ∃ q,m = q + 1 := ⟨m - 1,by omega⟩
  have hk : k < x_1.Peers.length := by omega
  rw [impl_peersOk_l1,if_pos (by simp; omega),List.drop_eq_getElem_cons hk,impl_peersOk_l1_r]
  have h1 := at_lt hk
  have h2 := w64_succ (k := k) (by omega)
  have h3 := ih (k + 1) m
  simp only [h1,h2,h3 _ (by omega) (by omega)]
theorem impl_peersOk_l1_eq {N : Nat} (x_1 : Node) (hx : x_1.Peers.length ≤ 1099511627776) (hN : x_1.Peers.length < N) (x_324 : (List Int)) : impl_peersOk_l1 N x_1 N 0 x_324 = impl_peersOk_l1_r N x_1 x_1.Peers 0 x_324 := impl_peersOk_l1_rng N x_1 hx x_1.Peers.length 0 N x_324 (by omega) hN
def impl_peersOk (N : Nat) (x_1 : Node) : Option (Bool) :=
 joinP (fun (v_306 : (List Int)) =>
 (impl_othersOf N x_1).bind fun y_376 =>
 (slices_Equal_int N v_306 (y_376.2.take y_376.1)).bind fun y_377 =>
 some y_377) fun j_306 =>
 (impl_peersOk_l1 N x_1 N 0 ([] : (List Int))).bind (Sum.elim (fun v_348 => some v_348) (fun (v_349 : (List Int)) => j_306 v_349))
theorem sem_impl_peersOk (N : Nat) (x_1 : Node) (r : Bool) (h : impl_peersOk N x_1 = some r) : Says Try.prog 73 [.agg [VI x_1.Id,VI x_1.Term,VI x_1.Vote,VI x_1.Role,VI x_1.Lead,RO 3 (x_1.Conf.map encI),VI x_1.Log.Start,VI x_1.Log.StartTerm,RO 51 (x_1.Log.Entries.map encEntry),VI x_1.Commit,VI x_1.Clock,VI x_1.Limit,RO 3 (x_1.Votes.map encI),RO 135 (x_1.Peers.map encPeer)]] 0 [] (VB r) [] := by
 unfold impl_peersOk at h
 refine Says.of_run s73 Try.call73 rfl fun B hB => ?_
 have hm : B.m ≤ 1000 := by omega
 refine Run.seq (Run.ops hm (Ops.st (s := 1000) (.bx rfl rfl) rfl rfl (Ops.p rfl (Ops.nil (Run.seq (Run.ops hm (Ops.p rfl (Ops.nil (Run.seqO h (fun v_306 => [(1,.ptr 0 0),(3,.sl 1 3 0 v_306.length)]) (fun (v_306 : (List Int)) => [(0,.box [VI x_1.Id,VI x_1.Term,VI x_1.Vote,VI x_1.Role,VI x_1.Lead,RO 3 (x_1.Conf.map encI),VI x_1.Log.Start,VI x_1.Log.StartTerm,RO 51 (x_1.Log.Entries.map encEntry),VI x_1.Commit,VI x_1.Clock,VI x_1.Limit,RO 3 (x_1.Votes.map encI),RO 135 (x_1.Peers.map encPeer)]),(1,.vec 3 (v_306.map encI))]) (fun h => ?_) (fun v_306 h => ?_))))))))))
 ·refine Run.seq (Run.ops hm (.p2 rfl rfl (Ops.st (s := 9224) (Ev.lnF rfl) rfl rfl (Ops.p rfl (Ops.nil (Run.block ?_))))))
  obtain ⟨res_349,h,hk_349⟩ := bindO h
  refine Run.loop (n := N) (fun m_349 fr σ => ∃ (x_309 : Int),∃ (x_324 : (List Int)),impl_peersOk_l1 N x_1 m_349 x_309 x_324 = some res_349 ∧ fr = [(1,.ptr 0 0),(3,.sl 1 3 0 x_324.length),(7,RO 135 (x_1.Peers.map encPeer)),(8,VI (x_1.Peers.length : Int)),(9,VI x_309)] ∧ σ = [(0,.box [VI x_1.Id,VI x_1.Term,VI x_1.Vote,VI x_1.Role,VI x_1.Lead,RO 3 (x_1.Conf.map encI),VI x_1.Log.Start,VI x_1.Log.StartTerm,RO 51 (x_1.Log.Entries.map encEntry),VI x_1.Commit,VI x_1.Clock,VI x_1.Limit,RO 3 (x_1.Votes.map encI),RO 135 (x_1.Peers.map encPeer)]),(1,.vec 3 (x_324.map encI))]) (Gh.trans (Gh.trans (gh_prn [1,3,7,8,9] [1000] hB rfl) (gh_nil [3] [] hB rfl rfl rfl)) (gh_pk [1,3,7,8,9] [1000,10000000] hB rfl rfl rfl rfl)) ⟨_,_,h,rfl,rfl⟩ ?_
  rintro m_349 fr σ ⟨x_309,x_324,h,rfl,rfl⟩
  obtain _ | m_349 := m_349
  ·rw [impl_peersOk_l1] at h; cases h
  rw [impl_peersOk_l1] at h
  refine Run.seq (Run.ops hm (Ops.p rfl (Ops.nil (Run.seq (Run.condO rfl h (fun g_352 h => ?_) (fun g_352 h => ?_))))))
  ·refine Run.skip (Run.seq (Run.block (Run.seq (Run.ops hm ?_))))
   obtain ⟨x_356,hx_356,h⟩ := bindO h
   refine Ops.st (s := 17384) (Ev.iaF rfl rfl hx_356) rfl rfl (Ops.p rfl (Ops.st (s := 17416) (.al rfl rfl) rfl rfl (Ops.s0 (s := 17432) (.sto rfl rfl rfl rfl rfl rfl) rfl rfl (Ops.nil (Run.seq (Run.ops hm (.p3 rfl rfl rfl (Ops.st (s := 21528) (Ev.bsW (ys := ([x_356.Id] : List Int)) (f := encI) rfl (.d1 .nil) rfl rfl rfl rfl rfl) rfl rfl ?_))))))))
   obtain ⟨x_360,hx_360,h⟩ := bindO h
   refine Ops.st (s := 21544) (Ev.apW (f := encI) (ontoW rfl rfl rfl) (addsW rfl rfl rfl (fun _ => rfl)) rfl bt3 rfl hx_360) rfl rfl (Ops.p rfl (Ops.nil (Run.seq (Run.draw hm hmix (OpsD.p rfl (OpsD.p rfl (OpsD.p rfl (OpsD.p rfl ?_))))))))
   obtain ⟨y_367,hy_367,h⟩ := bindO h
   refine OpsD.st (s := 25640) (Ev.call [] [] 0 (sem_impl_last _ _ _ hy_367) rfl rfl (.cons (.agg (.d2 (.d1 .nil))) .nil) rfl (.inl rfl) rfl rfl) rfl rfl (OpsD.p rfl ?_)
   obtain ⟨y_368,hy_368,h⟩ := bindO h
   refine OpsD.st (s := 25672) (Ev.call [] [] 0 (sem_impl_within _ _ _ _ _ hy_368) rfl rfl (.d2 (.d1 .nil)) rfl (.inl rfl) rfl rfl) rfl rfl (OpsD.p rfl (OpsD.p rfl (OpsD.askO (x := .t 26) rfl h (fun g_369 h => ?_) (fun g_369 h => ?_))))
   ·refine OpsD.gn rfl g_369 (OpsD.gn rfl g_369 (OpsD.gn rfl g_369 (OpsD.gn rfl g_369 (OpsD.gn rfl g_369 (OpsD.gn rfl g_369 (OpsD.gn rfl g_369 (OpsD.st (s := 25832) (.pkT rfl g_369 rfl) rfl rfl (OpsD.p rfl (OpsD.gn rfl rfl (OpsD.gn rfl rfl (OpsD.gn rfl rfl (OpsD.gn rfl rfl (OpsD.st (s := 25928) (.pkT rfl rfl rfl) rfl rfl (OpsD.nil ⟨by kernel_rfl,?_⟩))))))))))))))
    refine Run.condT rfl rfl (Run.seq (Run.ops hm (Ops.p rfl (Ops.nil (Run.ret ?_)))))
    obtain rfl := someO h
    have h := hk_349
    replace h := inlO h
    obtain rfl := someO h
    exact Ends.mkG (.inl rfl) rfl (gh_pk [0] [] hB rfl rfl rfl rfl) rfl rfl
   ·refine OpsD.gp rfl g_369 rfl (OpsD.gp rfl g_369 rfl (OpsD.gp rfl g_369 rfl (OpsD.gp rfl g_369 rfl (OpsD.gp rfl g_369 rfl ?_))))
    obtain ⟨y_370,hy_370,h⟩ := bindO h
    refine OpsD.gs (s := 25800) rfl g_369 (Ev.call [] [] 0 (sem_impl_within _ _ _ _ _ hy_370) rfl rfl (.d2 (.d1 .nil)) rfl (.inl rfl) rfl rfl) rfl rfl (OpsD.gp rfl g_369 rfl (OpsD.st (s := 25832) (.pkF rfl g_369 rfl) rfl rfl (OpsD.p rfl (OpsD.askO (x := .t 35) rfl h (fun g_371 h => ?_) (fun g_371 h => ?_)))))
    ·refine OpsD.gn rfl g_371 (OpsD.gn rfl g_371 (OpsD.gn rfl g_371 (OpsD.gn rfl g_371 (OpsD.st (s := 25928) (.pkT rfl g_371 rfl) rfl rfl (OpsD.nil ⟨by kernel_rfl,?_⟩)))))
     refine Run.condT rfl rfl (Run.seq (Run.ops hm (Ops.p rfl (Ops.nil (Run.ret ?_)))))
     obtain rfl := someO h
     have h := hk_349
     replace h := inlO h
     obtain rfl := someO h
     exact Ends.mkG (.inl rfl) rfl (gh_pk [0] [] hB rfl rfl rfl rfl) rfl rfl
    ·refine OpsD.gp rfl g_371 rfl (OpsD.gp rfl g_371 rfl ?_)
     obtain ⟨y_372,hy_372,h⟩ := bindO h
     refine OpsD.gs (s := 25896) rfl g_371 (Ev.call [] [] 0 (sem_impl_within _ _ _ _ _ hy_372) rfl rfl (.d2 (.d1 .nil)) rfl (.inl rfl) rfl rfl) rfl rfl (OpsD.gp rfl g_371 rfl (OpsD.st (s := 25928) (.pkF rfl g_371 rfl) rfl rfl (OpsD.nil ⟨by kernel_rfl,?_⟩)))
     refine Run.condO rfl h (fun g_373 h => ?_) (fun g_373 h => ?_)
     ·refine Run.seq (Run.ops hm (Ops.p rfl (Ops.nil (Run.ret ?_))))
      obtain rfl := someO h
      have h := hk_349
      replace h := inlO h
      obtain rfl := someO h
      exact Ends.mkG (.inl rfl) rfl (gh_pk [0] [] hB rfl rfl rfl rfl) rfl rfl
     ·exact Run.skip (Run.ops hm (.p2 rfl rfl (Ops.nil (⟨m_349,Nat.lt_succ_self m_349,_,_,(gh_pk [1,3,7,8,9] [0,21544] hB rfl rfl rfl rfl),_,_,h,rfl,rfl⟩))))
  ·refine Run.exit ?_
   obtain rfl := someO h
   have h := hk_349
   replace h := inrO h
   exact ⟨_,_,(gh_pk [1,3] [0,1] hB rfl rfl rfl rfl),_,h,rfl,rfl⟩
 ·refine Run.seq (Run.ops hm (.p2 rfl rfl ?_))
  obtain ⟨y_376,hy_376,h⟩ := bindO h
  refine Ops.st (s := 37896) (Ev.call [] [] 1 (sem_impl_othersOf _ _ _ hy_376) rfl rfl (.cons (.agg (.d4 (.d4 (.d4 (.d2 .nil))))) .nil) rfl (.inl rfl) rfl rfl) rfl rfl ?_
  obtain ⟨y_377,hy_377,h⟩ := bindO h
  refine Ops.st (s := 37912) (Ev.call [] [1,37896] 0 (sem_slices_Equal_int _ _ _ _ hy_377) rfl rfl (.cons (.borrow rfl (by decide) (lendW (fun _ => rfl) _ rfl)) (.cons (.borrow rfl (by decide) (lendP (fun _ => rfl) _ _ _)) .nil)) rfl (.inr ⟨rfl,ownL_root trivial⟩) rfl rfl) rfl rfl ?_
  refine Ops.p rfl (Ops.nil (Run.ret ?_))
  obtain rfl := someO h
  exact Ends.mkG (.inl rfl) rfl (gh_pk [0] [] hB rfl rfl rfl rfl) rfl rfl
def impl_NodeOk_l1 (N : Nat) (x_1 : Node) : Nat → Int → Option ((Bool) ⊕ (Unit))
 | 0,_ => none
 | m + 1,x_427 =>
 (if (decide (x_427 < (x_1.Votes.length : Int))) = true then
 (at? x_1.Votes x_427).bind fun x_465 =>
 (impl_within N x_465 1 4).bind fun y_470 =>
 (if (!y_470) = true then
 some (Sum.inl false)
 else
 (if (decide (x_427 > 0)) = true then
 (at? x_1.Votes (w64 (x_427 - 1))).bind fun x_473 =>
 (if (decide (x_473 ≥ x_465)) = true then
 some (Sum.inl false)
 else
 impl_NodeOk_l1 N x_1 m (w64 (x_427 + 1)))
 else
 impl_NodeOk_l1 N x_1 m (w64 (x_427 + 1))))
 else
 some (Sum.inr ()))
def impl_NodeOk_l1_r (N : Nat) (x_1 : Node) : (List Int) → Int → Option ((Bool) ⊕ (Unit))
 | [],x_427 =>
 some (Sum.inr ())
 | hd :: tl,x_427 =>
 (some hd).bind fun x_465 =>
 (impl_within N x_465 1 4).bind fun y_470 =>
 (if (!y_470) = true then
 some (Sum.inl false)
 else
 (if (decide (x_427 > 0)) = true then
 (at? x_1.Votes (w64 (x_427 - 1))).bind fun x_473 =>
 (if (decide (x_473 ≥ x_465)) = true then
 some (Sum.inl false)
 else
 impl_NodeOk_l1_r N x_1 tl (w64 (x_427 + 1)))
 else
 impl_NodeOk_l1_r N x_1 tl (w64 (x_427 + 1))))
theorem impl_NodeOk_l1_rng (N : Nat) (x_1 : Node) (hx : x_1.Votes.length ≤ 1099511627776) : ∀ (d k m : Nat),x_1.Votes.length = k + d → d < m → impl_NodeOk_l1 N x_1 m (k : Int) = impl_NodeOk_l1_r N x_1 (x_1.Votes.drop k) (k : Int) := by
 intro d
 induction d with
 | zero =>
  intro k m hd hm
  obtain ⟨m,rfl⟩ : ∃ q,m = q + 1 := ⟨m - 1,by omega⟩
  rw [impl_NodeOk_l1,if_neg (by simp; omega),List.drop_eq_nil_of_le (by omega),impl_NodeOk_l1_r]
 | succ d ih =>
  intro k m hd hm
  obtain ⟨m,rfl⟩ : ∃ q,m = q + 1 := ⟨m - 1,by omega⟩
  have hk : k < x_1.Votes.length := by omega
  rw [impl_NodeOk_l1,if_pos (by simp; omega),List.drop_eq_getElem_cons hk,impl_NodeOk_l1_r]
  have h1 := at_lt hk
  have h2 := w64_succ (k := k) (by omega)
  have h3 := ih (k + 1) m
  simp only [h1,h2,h3 (by omega) (by omega)]
theorem impl_NodeOk_l1_eq {N : Nat} (x_1 : Node) (hx : x_1.Votes.length ≤ 1099511627776) (hN : x_1.Votes.length < N) : impl_NodeOk_l1 N x_1 N 0 = impl_NodeOk_l1_r N x_1 x_1.Votes 0 := impl_NodeOk_l1_rng N x_1 hx x_1.Votes.length 0 N (by omega) hN
def impl_NodeOk (N : Nat) (x_1 : Node) : Option (Bool) :=
 (impl_within N x_1.Id 1 4).bind fun y_310 =>
 (if (!y_310) = true then
 some false
 else
 (impl_ConfOk N x_1.Conf).bind fun y_312 =>
 (if (!y_312) = true then
 some false
 else
 (impl_LogOk N x_1.Log).bind fun y_314 =>
 (if (!y_314) = true then
 some false
 else
 (impl_LogLast N x_1.Log).bind fun y_319 =>
 (impl_within N x_1.Term y_319.2 100000).bind fun y_360 =>
 (if (!y_360) = true then
 some false
 else
 (impl_within N x_1.Vote 0 4).bind fun y_362 =>
 (if (!y_362) = true then
 some false
 else
 (impl_within N x_1.Lead 0 4).bind fun y_364 =>
 (if (!y_364) = true then
 some false
 else
 (impl_within N x_1.Role 0 2).bind fun y_366 =>
 (if (!y_366) = true then
 some false
 else
 (impl_within N x_1.Commit x_1.Log.Start y_319.1).bind fun y_368 =>
 (if (!y_368) = true then
 some false
 else
 (impl_within N x_1.Limit 1 20).bind fun y_370 =>
 (if (!y_370) = true then
 some false
 else
 (impl_within N x_1.Clock 0 20).bind fun y_372 =>
 (if (!y_372) = true then
 some false
 else
 joinP (fun (v_424 : Unit) =>
 joinP (fun (v_478 : Unit) =>
 (if (x_1.Role == 2) = true then
 (impl_peersOk N x_1).bind fun y_487 =>
 some y_487
 else
 some ((x_1.Peers.length : Int) == 0))) fun j_478 =>
 (if (x_1.Role != 1) = true then
 (if (decide ((x_1.Votes.length : Int) > 0)) = true then
 some false
 else
 j_478 ())
 else
 j_478 ())) fun j_424 =>
 (impl_NodeOk_l1 N x_1 N 0).bind (Sum.elim (fun v_457 => some v_457) (fun (v_458 : Unit) => j_424 ()))))))))))))
theorem sem_impl_NodeOk (N : Nat) (x_1 : Node) (r : Bool) (h : impl_NodeOk N x_1 = some r) : Says Try.prog 23 [.agg [VI x_1.Id,VI x_1.Term,VI x_1.Vote,VI x_1.Role,VI x_1.Lead,RO 3 (x_1.Conf.map encI),VI x_1.Log.Start,VI x_1.Log.StartTerm,RO 51 (x_1.Log.Entries.map encEntry),VI x_1.Commit,VI x_1.Clock,VI x_1.Limit,RO 3 (x_1.Votes.map encI),RO 135 (x_1.Peers.map encPeer)]] 0 [] (VB r) [] := by
 unfold impl_NodeOk at h
 refine Says.of_run s23 Try.call23 rfl fun B hB => ?_
 have hm : B.m ≤ 1000 := by omega
 refine Run.seq (Run.ops hm (Ops.st (s := 1000) (.bx rfl rfl) rfl rfl (Ops.p rfl (Ops.nil (Run.seq (Run.seq (Run.ops hm (.p2 rfl rfl ?_))))))))
 obtain ⟨y_310,hy_310,h⟩ := bindO h
 refine Ops.st (s := 5128) (Ev.call [] [] 0 (sem_impl_within _ _ _ _ _ hy_310) rfl rfl (.d2 (.d1 .nil)) rfl (.inl rfl) rfl rfl) rfl rfl (.p2 rfl rfl (Ops.askO (x := .t 11) rfl h (fun g_311 h => ?_) (fun g_311 h => ?_)))
 ·refine Ops.gn rfl g_311 (Ops.gn rfl g_311 (Ops.gn rfl g_311 (Ops.gn rfl g_311 (Ops.st (s := 5240) (.pkT rfl g_311 rfl) rfl rfl (Ops.p rfl (Ops.gn rfl rfl (Ops.gn rfl rfl (Ops.gn rfl rfl (Ops.gn rfl rfl (Ops.st (s := 5336) (.pkT rfl rfl rfl) rfl rfl (Ops.nil (Run.condT rfl rfl (Run.seq (Run.ops hm (Ops.p rfl (Ops.nil (Run.ret ?_)))))))))))))))))
  obtain rfl := someO h
  exact Ends.mkG (.inl rfl) rfl (gh_pk [0] [] hB rfl rfl rfl rfl) rfl rfl
 ·refine Ops.gp rfl g_311 rfl (Ops.gp rfl g_311 rfl ?_)
  obtain ⟨y_312,hy_312,h⟩ := bindO h
  refine Ops.gs (s := 5208) rfl g_311 (Ev.call [] [] 0 (sem_impl_ConfOk _ _ _ hy_312) rfl rfl (.d1 .nil) rfl (.inl rfl) rfl rfl) rfl rfl (Ops.gp rfl g_311 rfl (Ops.st (s := 5240) (.pkF rfl g_311 rfl) rfl rfl (Ops.p rfl (Ops.askO (x := .t 17) rfl h (fun g_313 h => ?_) (fun g_313 h => ?_)))))
  ·refine Ops.gn rfl g_313 (Ops.gn rfl g_313 (Ops.gn rfl g_313 (Ops.gn rfl g_313 (Ops.st (s := 5336) (.pkT rfl g_313 rfl) rfl rfl (Ops.nil (Run.condT rfl rfl (Run.seq (Run.ops hm (Ops.p rfl (Ops.nil (Run.ret ?_)))))))))))
   obtain rfl := someO h
   exact Ends.mkG (.inl rfl) rfl (gh_pk [0] [] hB rfl rfl rfl rfl) rfl rfl
  ·refine Ops.gp rfl g_313 rfl (Ops.gp rfl g_313 rfl ?_)
   obtain ⟨y_314,hy_314,h⟩ := bindO h
   refine Ops.gs (s := 5304) rfl g_313 (Ev.call [] [] 0 (sem_impl_LogOk _ _ _ hy_314) rfl rfl (.cons (.agg (.d2 (.d1 .nil))) .nil) rfl (.inl rfl) rfl rfl) rfl rfl (Ops.gp rfl g_313 rfl (Ops.st (s := 5336) (.pkF rfl g_313 rfl) rfl rfl (Ops.nil (Run.condO rfl h (fun g_315 h => ?_) (fun g_315 h => ?_)))))
   ·refine Run.seq (Run.ops hm (Ops.p rfl (Ops.nil (Run.ret ?_))))
    obtain rfl := someO h
    exact Ends.mkG (.inl rfl) rfl (gh_pk [0] [] hB rfl rfl rfl rfl) rfl rfl
   ·refine Run.skip (Run.seq (Run.ops hm (.p2 rfl rfl ?_)))
    obtain ⟨y_319,hy_319,h⟩ := bindO h
    refine Ops.st (s := 13320) (Ev.call [] [] 0 (sem_impl_LogLast _ _ _ hy_319) rfl rfl (.cons (.agg (.d2 (.d1 .nil))) .nil) rfl (.inl rfl) rfl rfl) rfl rfl (.p3 rfl rfl rfl (.p2 rfl rfl (Ops.nil (Run.seq (Run.seq (Run.ops hm (.p3 rfl rfl rfl ?_)))))))
    obtain ⟨y_360,hy_360,h⟩ := bindO h
    refine Ops.st (s := 17432) (Ev.call [] [] 0 (sem_impl_within _ _ _ _ _ hy_360) rfl rfl (.d2 (.d1 .nil)) rfl (.inl rfl) rfl rfl) rfl rfl (.p2 rfl rfl (Ops.askO (x := .t 34) rfl h (fun g_361 h => ?_) (fun g_361 h => ?_)))
    ·refine Ops.gn rfl g_361 (Ops.gn rfl g_361 (Ops.gn rfl g_361 (Ops.gn rfl g_361 (Ops.st (s := 17544) (.pkT rfl g_361 rfl) rfl rfl (Ops.p rfl (Ops.gn rfl rfl (Ops.gn rfl rfl (Ops.gn rfl rfl (Ops.gn rfl rfl (Ops.st (s := 17640) (.pkT rfl rfl rfl) rfl rfl (Ops.p rfl (Ops.gn rfl rfl (Ops.gn rfl rfl (Ops.gn rfl rfl (Ops.gn rfl rfl (Ops.st (s := 17736) (.pkT rfl rfl rfl) rfl rfl (Ops.p rfl (Ops.gn rfl rfl (Ops.gn rfl rfl (Ops.gn rfl rfl (Ops.gn rfl rfl (Ops.gn rfl rfl (Ops.gn rfl rfl (Ops.gn rfl rfl (Ops.gn rfl rfl (Ops.st (s := 17896) (.pkT rfl rfl rfl) rfl rfl (Ops.p rfl (Ops.gn rfl rfl (Ops.gn rfl rfl (Ops.gn rfl rfl (Ops.gn rfl rfl (Ops.st (s := 17992) (.pkT rfl rfl rfl) rfl rfl (Ops.p rfl (Ops.gn rfl rfl (Ops.gn rfl rfl (Ops.gn rfl rfl (Ops.gn rfl rfl (Ops.st (s := 18088) (.pkT rfl rfl rfl) rfl rfl (Ops.nil (Run.condT rfl rfl (Run.seq (Run.ops hm (Ops.p rfl (Ops.nil (Run.ret ?_)))))))))))))))))))))))))))))))))))))))))))))
     obtain rfl := someO h
     exact Ends.mkG (.inl rfl) rfl (gh_pk [0] [] hB rfl rfl rfl rfl) rfl rfl
    ·refine Ops.gp rfl g_361 rfl (Ops.gp rfl g_361 rfl ?_)
     obtain ⟨y_362,hy_362,h⟩ := bindO h
     refine Ops.gs (s := 17512) rfl g_361 (Ev.call [] [] 0 (sem_impl_within _ _ _ _ _ hy_362) rfl rfl (.d2 (.d1 .nil)) rfl (.inl rfl) rfl rfl) rfl rfl (Ops.gp rfl g_361 rfl (Ops.st (s := 17544) (.pkF rfl g_361 rfl) rfl rfl (Ops.p rfl (Ops.askO (x := .t 40) rfl h (fun g_363 h => ?_) (fun g_363 h => ?_)))))
     ·refine Ops.gn rfl g_363 (Ops.gn rfl g_363 (Ops.gn rfl g_363 (Ops.gn rfl g_363 (Ops.st (s := 17640) (.pkT rfl g_363 rfl) rfl rfl (Ops.p rfl (Ops.gn rfl rfl (Ops.gn rfl rfl (Ops.gn rfl rfl (Ops.gn rfl rfl (Ops.st (s := 17736) (.pkT rfl rfl rfl) rfl rfl (Ops.p rfl (Ops.gn rfl rfl (Ops.gn rfl rfl (Ops.gn rfl rfl (Ops.gn rfl rfl (Ops.gn rfl rfl (Ops.gn rfl rfl (Ops.gn rfl rfl (Ops.gn rfl rfl (Ops.st (s := 17896) (.pkT rfl rfl rfl) rfl rfl (Ops.p rfl (Ops.gn rfl rfl (Ops.gn rfl rfl (Ops.gn rfl rfl (Ops.gn rfl rfl (Ops.st (s := 17992) (.pkT rfl rfl rfl) rfl rfl (Ops.p rfl (Ops.gn rfl rfl (Ops.gn rfl rfl (Ops.gn rfl rfl (Ops.gn rfl rfl (Ops.st (s := 18088) (.pkT rfl rfl rfl) rfl rfl (Ops.nil (Run.condT rfl rfl (Run.seq (Run.ops hm (Ops.p rfl (Ops.nil (Run.ret ?_)))))))))))))))))))))))))))))))))))))))
      obtain rfl := someO h
      exact Ends.mkG (.inl rfl) rfl (gh_pk [0] [] hB rfl rfl rfl rfl) rfl rfl
     ·refine Ops.gp rfl g_363 rfl (Ops.gp rfl g_363 rfl ?_)
      obtain ⟨y_364,hy_364,h⟩ := bindO h
      refine Ops.gs (s := 17608) rfl g_363 (Ev.call [] [] 0 (sem_impl_within _ _ _ _ _ hy_364) rfl rfl (.d2 (.d1 .nil)) rfl (.inl rfl) rfl rfl) rfl rfl (Ops.gp rfl g_363 rfl (Ops.st (s := 17640) (.pkF rfl g_363 rfl) rfl rfl (Ops.p rfl (Ops.askO (x := .t 46) rfl h (fun g_365 h => ?_) (fun g_365 h => ?_)))))
      ·refine Ops.gn rfl g_365 (Ops.gn rfl g_365 (Ops.gn rfl g_365 (Ops.gn rfl g_365 (Ops.st (s := 17736) (.pkT rfl g_365 rfl) rfl rfl (Ops.p rfl (Ops.gn rfl rfl (Ops.gn rfl rfl (Ops.gn rfl rfl (Ops.gn rfl rfl (Ops.gn rfl rfl (Ops.gn rfl rfl (Ops.gn rfl rfl (Ops.gn rfl rfl (Ops.st (s := 17896) (.pkT rfl rfl rfl) rfl rfl (Ops.p rfl (Ops.gn rfl rfl (Ops.gn rfl rfl (Ops.gn rfl rfl (Ops.gn rfl rfl (Ops.st (s := 17992) (.pkT rfl rfl rfl) rfl rfl (Ops.p rfl (Ops.gn rfl rfl (Ops.gn rfl rfl (Ops.gn rfl rfl (Ops.gn rfl rfl (Ops.st (s := 18088) (.pkT rfl rfl rfl) rfl rfl (Ops.nil (Run.condT rfl rfl (Run.seq (Run.ops hm (Ops.p rfl (Ops.nil (Run.ret ?_)))))))))))))))))))))))))))))))))
       obtain rfl := someO h
       exact Ends.mkG (.inl rfl) rfl (gh_pk [0] [] hB rfl rfl rfl rfl) rfl rfl
      ·refine Ops.gp rfl g_365 rfl (Ops.gp rfl g_365 rfl ?_)
       obtain ⟨y_366,hy_366,h⟩ := bindO h
       refine Ops.gs (s := 17704) rfl g_365 (Ev.call [] [] 0 (sem_impl_within _ _ _ _ _ hy_366) rfl rfl (.d2 (.d1 .nil)) rfl (.inl rfl) rfl rfl) rfl rfl (Ops.gp rfl g_365 rfl (Ops.st (s := 17736) (.pkF rfl g_365 rfl) rfl rfl (Ops.p rfl (Ops.askO (x := .t 52) rfl h (fun g_367 h => ?_) (fun g_367 h => ?_)))))
       ·refine Ops.gn rfl g_367 (Ops.gn rfl g_367 (Ops.gn rfl g_367 (Ops.gn rfl g_367 (Ops.gn rfl g_367 (Ops.gn rfl g_367 (Ops.gn rfl g_367 (Ops.gn rfl g_367 (Ops.st (s := 17896) (.pkT rfl g_367 rfl) rfl rfl (Ops.p rfl (Ops.gn rfl rfl (Ops.gn rfl rfl (Ops.gn rfl rfl (Ops.gn rfl rfl (Ops.st (s := 17992) (.pkT rfl rfl rfl) rfl rfl (Ops.p rfl (Ops.gn rfl rfl (Ops.gn rfl rfl (Ops.gn rfl rfl (Ops.gn rfl rfl (Ops.st (s := 18088) (.pkT rfl rfl rfl) rfl rfl (Ops.nil (Run.condT rfl rfl (Run.seq (Run.ops hm (Ops.p rfl (Ops.nil (Run.ret ?_)))))))))))))))))))))))))))
        obtain rfl := someO h
        exact Ends.mkG (.inl rfl) rfl (gh_pk [0] [] hB rfl rfl rfl rfl) rfl rfl
       ·refine Ops.gp rfl g_367 rfl (Ops.gp rfl g_367 rfl (Ops.gp rfl g_367 rfl (Ops.gp rfl g_367 rfl (Ops.gp rfl g_367 rfl (Ops.gp rfl g_367 rfl ?_)))))
        obtain ⟨y_368,hy_368,h⟩ := bindO h
        refine Ops.gs (s := 17864) rfl g_367 (Ev.call [] [] 0 (sem_impl_within _ _ _ _ _ hy_368) rfl rfl (.d2 (.d1 .nil)) rfl (.inl rfl) rfl rfl) rfl rfl (Ops.gp rfl g_367 rfl (Ops.st (s := 17896) (.pkF rfl g_367 rfl) rfl rfl (Ops.p rfl (Ops.askO (x := .t 62) rfl h (fun g_369 h => ?_) (fun g_369 h => ?_)))))
        ·refine Ops.gn rfl g_369 (Ops.gn rfl g_369 (Ops.gn rfl g_369 (Ops.gn rfl g_369 (Ops.st (s := 17992) (.pkT rfl g_369 rfl) rfl rfl (Ops.p rfl (Ops.gn rfl rfl (Ops.gn rfl rfl (Ops.gn rfl rfl (Ops.gn rfl rfl (Ops.st (s := 18088) (.pkT rfl rfl rfl) rfl rfl (Ops.nil (Run.condT rfl rfl (Run.seq (Run.ops hm (Ops.p rfl (Ops.nil (Run.ret ?_)))))))))))))))))
         obtain rfl := someO h
         exact Ends.mkG (.inl rfl) rfl (gh_pk [0] [] hB rfl rfl rfl rfl) rfl rfl
        ·refine Ops.gp rfl g_369 rfl (Ops.gp rfl g_369 rfl ?_)
         obtain ⟨y_370,hy_370,h⟩ := bindO h
         refine Ops.gs (s := 17960) rfl g_369 (Ev.call [] [] 0 (sem_impl_within _ _ _ _ _ hy_370) rfl rfl (.d2 (.d1 .nil)) rfl (.inl rfl) rfl rfl) rfl rfl (Ops.gp rfl g_369 rfl (Ops.st (s := 17992) (.pkF rfl g_369 rfl) rfl rfl (Ops.p rfl (Ops.askO (x := .t 68) rfl h (fun g_371 h => ?_) (fun g_371 h => ?_)))))
         ·refine Ops.gn rfl g_371 (Ops.gn rfl g_371 (Ops.gn rfl g_371 (Ops.gn rfl g_371 (Ops.st (s := 18088) (.pkT rfl g_371 rfl) rfl rfl (Ops.nil (Run.condT rfl rfl (Run.seq (Run.ops hm (Ops.p rfl (Ops.nil (Run.ret ?_)))))))))))
          obtain rfl := someO h
          exact Ends.mkG (.inl rfl) rfl (gh_pk [0] [] hB rfl rfl rfl rfl) rfl rfl
         ·refine Ops.gp rfl g_371 rfl (Ops.gp rfl g_371 rfl ?_)
          obtain ⟨y_372,hy_372,h⟩ := bindO h
          refine Ops.gs (s := 18056) rfl g_371 (Ev.call [] [] 0 (sem_impl_within _ _ _ _ _ hy_372) rfl rfl (.d2 (.d1 .nil)) rfl (.inl rfl) rfl rfl) rfl rfl (Ops.gp rfl g_371 rfl (Ops.st (s := 18088) (.pkF rfl g_371 rfl) rfl rfl (Ops.nil (Run.condO rfl h (fun g_373 h => ?_) (fun g_373 h => ?_)))))
          ·refine Run.seq (Run.ops hm (Ops.p rfl (Ops.nil (Run.ret ?_))))
           obtain rfl := someO h
           exact Ends.mkG (.inl rfl) rfl (gh_pk [0] [] hB rfl rfl rfl rfl) rfl rfl
          ·refine Run.skip (Run.seqO h (fun v_424 => [(1,.ptr 0 0)]) (fun (v_424 : Unit) => [(0,.box [VI x_1.Id,VI x_1.Term,VI x_1.Vote,VI x_1.Role,VI x_1.Lead,RO 3 (x_1.Conf.map encI),VI x_1.Log.Start,VI x_1.Log.StartTerm,RO 51 (x_1.Log.Entries.map encEntry),VI x_1.Commit,VI x_1.Clock,VI x_1.Limit,RO 3 (x_1.Votes.map encI),RO 135 (x_1.Peers.map encPeer)])]) (fun h => ?_) (fun v_424 h => ?_))
           ·refine Run.seq (Run.ops hm (.p2 rfl rfl (Ops.st (s := 25608) (Ev.lnF rfl) rfl rfl (Ops.p rfl (Ops.nil (Run.block ?_))))))
            obtain ⟨res_458,h,hk_458⟩ := bindO h
            refine Run.loop (n := N) (fun m_458 fr σ => ∃ (x_427 : Int),impl_NodeOk_l1 N x_1 m_458 x_427 = some res_458 ∧ fr = [(1,.ptr 0 0),(75,RO 3 (x_1.Votes.map encI)),(76,VI (x_1.Votes.length : Int)),(77,VI x_427)] ∧ σ = [(0,.box [VI x_1.Id,VI x_1.Term,VI x_1.Vote,VI x_1.Role,VI x_1.Lead,RO 3 (x_1.Conf.map encI),VI x_1.Log.Start,VI x_1.Log.StartTerm,RO 51 (x_1.Log.Entries.map encEntry),VI x_1.Commit,VI x_1.Clock,VI x_1.Limit,RO 3 (x_1.Votes.map encI),RO 135 (x_1.Peers.map encPeer)])]) (gh_pk [1,75,76,77] [1000] hB rfl rfl rfl rfl) ⟨_,h,rfl,rfl⟩ ?_
            rintro m_458 fr σ ⟨x_427,h,rfl,rfl⟩
            obtain _ | m_458 := m_458
            ·rw [impl_NodeOk_l1] at h; cases h
            rw [impl_NodeOk_l1] at h
            refine Run.seq (Run.ops hm (Ops.p rfl (Ops.nil (Run.seq (Run.condO rfl h (fun g_461 h => ?_) (fun g_461 h => ?_))))))
            ·refine Run.skip (Run.seq (Run.block (Run.seq (Run.ops hm (Ops.p rfl ?_)))))
             obtain ⟨x_465,hx_465,h⟩ := bindO h
             refine Ops.st (s := 33784) (Ev.iaF rfl rfl hx_465) rfl rfl (.p3 rfl rfl rfl (Ops.nil (Run.seq (Run.ops hm (Ops.p rfl ?_)))))
             obtain ⟨y_470,hy_470,h⟩ := bindO h
             refine Ops.st (s := 37880) (Ev.call [] [] 0 (sem_impl_within _ _ _ _ _ hy_470) rfl rfl (.d2 (.d1 .nil)) rfl (.inl rfl) rfl rfl) rfl rfl (.p2 rfl rfl (Ops.askO (x := .t 85) rfl h (fun g_471 h => ?_) (fun g_471 h => ?_)))
             ·refine Ops.gn rfl g_471 (Ops.gn rfl g_471 (Ops.gn rfl g_471 (Ops.gu rfl (Ops.gu rfl (Ops.gu rfl (Ops.gu rfl (Ops.gu rfl (Ops.gu rfl (Ops.gu rfl (Ops.gu rfl (Ops.gn rfl g_471 (Ops.st (s := 38120) (.pkT rfl g_471 rfl) rfl rfl (Ops.nil (Run.condT rfl rfl (Run.seq (Run.ops hm (Ops.p rfl (Ops.nil (Run.ret ?_)))))))))))))))))))
              obtain rfl := someO h
              have h := hk_458
              replace h := inlO h
              obtain rfl := someO h
              exact Ends.mkG (.inl rfl) rfl (gh_pk [0] [] hB rfl rfl rfl rfl) rfl rfl
             ·refine Ops.gp rfl g_471 rfl (Ops.gp rfl g_471 rfl (Ops.gp rfl g_471 rfl (Ops.askO (x := .t 88) rfl h (fun g_472 h => ?_) (fun g_472 h => ?_))))
              ·refine Ops.gp rfl g_472 rfl (Ops.gp rfl g_472 rfl (Ops.gp rfl g_472 rfl (Ops.gp rfl g_472 rfl ?_)))
               obtain ⟨x_473,hx_473,h⟩ := bindO h
               refine Ops.gs (s := 38040) rfl g_472 (Ev.iaF rfl rfl hx_473) rfl rfl (Ops.gp rfl g_472 rfl (Ops.gp rfl g_472 rfl (Ops.gp rfl g_472 rfl (Ops.gs (s := 38104) rfl g_471 (.pkT rfl g_472 rfl) rfl rfl (Ops.st (s := 38120) (.pkF rfl g_471 rfl) rfl rfl (Ops.nil (Run.condO rfl h (fun g_474 h => ?_) (fun g_474 h => ?_))))))))
               ·refine Run.seq (Run.ops hm (Ops.p rfl (Ops.nil (Run.ret ?_))))
                obtain rfl := someO h
                have h := hk_458
                replace h := inlO h
                obtain rfl := someO h
                exact Ends.mkG (.inl rfl) rfl (gh_pk [0] [] hB rfl rfl rfl rfl) rfl rfl
               ·exact Run.skip (Run.ops hm (.p2 rfl rfl (Ops.nil (⟨m_458,Nat.lt_succ_self m_458,_,_,(gh_pk [1,75,76,77] [0] hB rfl rfl rfl rfl),_,h,rfl,rfl⟩))))
              ·exact Ops.gn rfl g_472 (Ops.gn rfl g_472 (Ops.gn rfl g_472 (Ops.gn rfl g_472 (Ops.gn rfl g_472 (Ops.gn rfl g_472 (Ops.gn rfl g_472 (Ops.gn rfl g_472 (Ops.gs (s := 38104) rfl g_471 (.pkF rfl g_472 rfl) rfl rfl (Ops.st (s := 38120) (.pkF rfl g_471 rfl) rfl rfl (Ops.nil (Run.condF rfl rfl (Run.skip (Run.ops hm (.p2 rfl rfl (Ops.nil (⟨m_458,Nat.lt_succ_self m_458,_,_,(gh_pk [1,75,76,77] [0] hB rfl rfl rfl rfl),_,h,rfl,rfl⟩))))))))))))))))
            ·refine Run.exit ?_
             obtain rfl := someO h
             have h := hk_458
             replace h := inrO h
             exact ⟨_,_,(gh_pk [1] [0] hB rfl rfl rfl rfl),(),h,rfl,rfl⟩
           ·refine Run.seqO h (fun v_478 => [(1,.ptr 0 0)]) (fun (v_478 : Unit) => [(0,.box [VI x_1.Id,VI x_1.Term,VI x_1.Vote,VI x_1.Role,VI x_1.Lead,RO 3 (x_1.Conf.map encI),VI x_1.Log.Start,VI x_1.Log.StartTerm,RO 51 (x_1.Log.Entries.map encEntry),VI x_1.Commit,VI x_1.Clock,VI x_1.Limit,RO 3 (x_1.Votes.map encI),RO 135 (x_1.Peers.map encPeer)])]) (fun h => ?_) (fun v_478 h => ?_)
            ·refine Run.seq (Run.ops hm (.p3 rfl rfl rfl (Ops.p rfl (Ops.askO (x := .t 103) rfl h (fun g_480 h => ?_) (fun g_480 h => ?_)))))
             ·refine Ops.gp rfl g_480 rfl (Ops.gp rfl g_480 rfl (Ops.gs (s := 50248) rfl g_480 (Ev.lnF rfl) rfl rfl (Ops.gp rfl g_480 rfl (Ops.st (s := 50280) (.pkT rfl g_480 rfl) rfl rfl (Ops.nil (Run.condO rfl h (fun g_481 h => ?_) (fun g_481 h => ?_)))))))
              ·refine Run.seq (Run.ops hm (Ops.p rfl (Ops.nil (Run.ret ?_))))
               obtain rfl := someO h
               exact Ends.mkG (.inl rfl) rfl (gh_pk [0] [] hB rfl rfl rfl rfl) rfl rfl
              ·exact Run.skip (⟨_,_,(gh_pk [1] [0] hB rfl rfl rfl rfl),(),h,rfl,rfl⟩)
             ·exact Ops.gn rfl g_480 (Ops.gn rfl g_480 (Ops.gn rfl g_480 (Ops.gn rfl g_480 (Ops.st (s := 50280) (.pkF rfl g_480 rfl) rfl rfl (Ops.nil (Run.condF rfl rfl (Run.skip (⟨_,_,(gh_pk [1] [0] hB rfl rfl rfl rfl),(),h,rfl,rfl⟩))))))))
            ·refine Run.seq (Run.seq (Run.ops hm (.p3 rfl rfl rfl (Ops.nil (Run.condO rfl h (fun g_485 h => ?_) (fun g_485 h => ?_))))))
             ·refine Run.seq (Run.ops hm (Ops.p rfl ?_))
              obtain ⟨y_487,hy_487,h⟩ := bindO h
              refine Ops.st (s := 62456) (Ev.call [] [] 0 (sem_impl_peersOk _ _ _ hy_487) rfl rfl (.cons (.agg (.d4 (.d4 (.d4 (.d2 .nil))))) .nil) rfl (.inl rfl) rfl rfl) rfl rfl (Ops.p rfl (Ops.nil (Run.ret ?_)))
              obtain rfl := someO h
              exact Ends.mkG (.inl rfl) rfl (gh_pk [0] [] hB rfl rfl rfl rfl) rfl rfl
             ·refine Run.skip (Run.seq (Run.ops hm (.p2 rfl rfl (Ops.st (s := 66568) (Ev.lnF rfl) rfl rfl (.p2 rfl rfl (Ops.nil (Run.ret ?_)))))))
              obtain rfl := someO h
              exact Ends.mkG (.inl rfl) rfl (gh_pk [0] [] hB rfl rfl rfl rfl) rfl rfl
end Go.Proofs.Ytehknbpmpbghhaa.Pe.FnSettles
