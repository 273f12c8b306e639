/- Functions, as pure functions; and that Go does just that. -/
import Derived.Test.YtebbgdjmplceiaaPeFFnAlone3
namespace Go.Proofs.Ytebbgdjmplceiaa.Pe.FnAlone
open Go Go.RowKit
set_option linter.unusedVariables false
set_option linter.unusedSimpArgs false
set_option maxHeartbeats 40000000
def impl_confMay (N : Nat) (x_1 : Node) (x_2 : ByteArray) : Option (Bool) :=
 (impl_ReadConf N x_2).bind fun y_121 =>
 (if (!y_121.2) = true then
 some false
 else
 (impl_LogTerm N x_1.Log x_1.Commit).bind fun y_128 =>
 (if (y_128 != x_1.Term) = true then
 some false
 else
 (impl_lastConf N x_1.Log).bind fun y_130 =>
 (if (decide (y_130 > x_1.Commit)) = true then
 some false
 else
 (impl_ConfOf N x_1).bind fun y_133 =>
 joinP (fun (v_135 : (List Int) × (List Int)) =>
 (slices_ContainsFunc_int N v_135.1 v_135.2).bind fun y_138 =>
 (if (((v_135.2.length : Nat) : Int) == (w64 (((v_135.1.length : Nat) : Int) + (1 : Int)))) = true then
 some (!y_138)
 else
 some false)) fun j_135 =>
 (if (decide (((y_121.1.length : Nat) : Int) > ((y_133.length : Nat) : Int))) = true then
 j_135 (y_133, y_121.1)
 else
 j_135 (y_121.1, y_133)))))
theorem sem_impl_confMay (N : Nat) (x_1 : Node) (x_2 : ByteArray) (r : Bool) (h : impl_confMay N x_1 x_2 = some r) : Says Try.prog 125 [.agg [VI x_1.Id, VI x_1.Term, VI x_1.Vote, VI x_1.Role, VI x_1.Lead, RO 3 (x_1.Conf.map encI), VI x_1.Log.Start, VI x_1.Log.StartTerm, RO 48 (x_1.Log.Entries.map encEntry), VI x_1.Commit, VI x_1.Clock, VI x_1.Limit, RO 3 (x_1.Votes.map encI), RO 172 (x_1.Peers.map encPeer)], VS x_2] 0 [] (VB r) [] := by
  unfold impl_confMay at h
  refine Says.of_run s125 Try.call125 rfl fun B hB => ?_
  have hm : B.m ≤ 1000 := by omega
  refine Run.seq ?_
  refine Run.ops hm ?_
  refine Ops.st (s := 1000) (.bx rfl rfl) rfl rfl ?_
  refine Ops.p rfl ?_
  refine Ops.nil ?_
  refine Run.seq ?_
  refine Run.ops hm ?_
  refine Ops.p rfl ?_
  obtain ⟨y_121, hy_121, h⟩ := bindO h
  refine Ops.st (s := 5112) (Ev.call [] [] 1 (sem_impl_ReadConf N x_2 _ hy_121) rfl rfl (.cons (.c _) .nil) rfl (.inl rfl) rfl rfl) rfl rfl ?_
  refine Ops.p rfl ?_
  refine Ops.p rfl ?_
  refine Ops.p rfl ?_
  refine Ops.p rfl ?_
  refine Ops.p rfl ?_
  refine Ops.nil ?_
  refine Run.seq ?_
  refine Run.seq ?_
  refine Run.draw hm hmix ?_
  refine OpsD.p rfl ?_
  refine OpsD.p rfl ?_
  refine OpsD.p rfl ?_
  refine OpsD.askO (x := .t 18) rfl h (fun g_127 h => ?_) (fun g_127 h => ?_)
  · skip
    refine OpsD.gn rfl g_127 ?_
    refine OpsD.gn rfl g_127 ?_
    refine OpsD.gn rfl g_127 ?_
    refine OpsD.gn rfl g_127 ?_
    refine OpsD.gn rfl g_127 ?_
    refine OpsD.gn rfl g_127 ?_
    refine OpsD.gn rfl g_127 ?_
    refine OpsD.gn rfl g_127 ?_
    refine OpsD.st (s := 9368) (.pkT rfl g_127 rfl) rfl rfl ?_
    refine OpsD.p rfl ?_
    refine OpsD.gn rfl rfl ?_
    refine OpsD.gn rfl rfl ?_
    refine OpsD.gn rfl rfl ?_
    refine OpsD.gn rfl rfl ?_
    refine OpsD.gn rfl rfl ?_
    refine OpsD.gn rfl rfl ?_
    refine OpsD.st (s := 9496) (.pkT rfl rfl rfl) rfl rfl ?_
    refine OpsD.nil ⟨by kernel_rfl, ?_⟩
    refine Run.condT rfl rfl ?_
    refine Run.seq ?_
    refine Run.ops hm ?_
    refine Ops.p rfl ?_
    refine Ops.nil ?_
    refine Run.ret ?_
    obtain rfl := someO h
    exact Ends.mkG (.inl rfl) rfl (gh_pk [0] [] hB rfl rfl rfl rfl) rfl rfl
  · skip
    refine OpsD.gp rfl g_127 rfl ?_
    refine OpsD.gp rfl g_127 rfl ?_
    refine OpsD.gp rfl g_127 rfl ?_
    refine OpsD.gp rfl g_127 rfl ?_
    obtain ⟨y_128, hy_128, h⟩ := bindO h
    refine OpsD.gs (s := 9304) rfl g_127 (Ev.call [] [] 0 (sem_impl_LogTerm N x_1.Log x_1.Commit _ hy_128) rfl rfl (.cons (.agg (.cons (.c _) (.cons (.c _) (.cons (.c _) .nil)))) (.cons (.c _) .nil)) rfl (.inl rfl) rfl rfl) rfl rfl ?_
    refine OpsD.gp rfl g_127 rfl ?_
    refine OpsD.gp rfl g_127 rfl ?_
    refine OpsD.gp rfl g_127 rfl ?_
    refine OpsD.st (s := 9368) (.pkF rfl g_127 rfl) rfl rfl ?_
    refine OpsD.p rfl ?_
    refine OpsD.askO (x := .t 28) rfl h (fun g_129 h => ?_) (fun g_129 h => ?_)
    · skip
      refine OpsD.gn rfl g_129 ?_
      refine OpsD.gn rfl g_129 ?_
      refine OpsD.gn rfl g_129 ?_
      refine OpsD.gn rfl g_129 ?_
      refine OpsD.gn rfl g_129 ?_
      refine OpsD.gn rfl g_129 ?_
      refine OpsD.st (s := 9496) (.pkT rfl g_129 rfl) rfl rfl ?_
      refine OpsD.nil ⟨by kernel_rfl, ?_⟩
      refine Run.condT rfl rfl ?_
      refine Run.seq ?_
      refine Run.ops hm ?_
      refine Ops.p rfl ?_
      refine Ops.nil ?_
      refine Run.ret ?_
      obtain rfl := someO h
      exact Ends.mkG (.inl rfl) rfl (gh_pk [0] [] hB rfl rfl rfl rfl) rfl rfl
    · skip
      refine OpsD.gp rfl g_129 rfl ?_
      refine OpsD.gp rfl g_129 rfl ?_
      obtain ⟨y_130, hy_130, h⟩ := bindO h
      refine OpsD.gs (s := 9432) rfl g_129 (Ev.call [] [] 0 (sem_impl_lastConf N x_1.Log _ hy_130) rfl rfl (.cons (.agg (.cons (.c _) (.cons (.c _) (.cons (.c _) .nil)))) .nil) rfl (.inl rfl) rfl rfl) rfl rfl ?_
      refine OpsD.gp rfl g_129 rfl ?_
      refine OpsD.gp rfl g_129 rfl ?_
      refine OpsD.gp rfl g_129 rfl ?_
      refine OpsD.st (s := 9496) (.pkF rfl g_129 rfl) rfl rfl ?_
      refine OpsD.nil ⟨by kernel_rfl, ?_⟩
      refine Run.condO rfl h (fun g_131 h => ?_) (fun g_131 h => ?_)
      · skip
        refine Run.seq ?_
        refine Run.ops hm ?_
        refine Ops.p rfl ?_
        refine Ops.nil ?_
        refine Run.ret ?_
        obtain rfl := someO h
        exact Ends.mkG (.inl rfl) rfl (gh_pk [0] [] hB rfl rfl rfl rfl) rfl rfl
      · skip
        refine Run.skip ?_
        refine Run.seq ?_
        refine Run.ops hm ?_
        refine Ops.p rfl ?_
        obtain ⟨y_133, hy_133, h⟩ := bindO h
        refine Ops.st (s := 17400) (Ev.call [] [] 1 (sem_impl_ConfOf N x_1 _ hy_133) rfl rfl (.cons (.agg (.cons (.c _) (.cons (.c _) (.cons (.c _) (.cons (.c _) (.cons (.c _) (.cons (.c _) (.cons (.c _) (.cons (.c _) (.cons (.c _) (.cons (.c _) (.cons (.c _) (.cons (.c _) (.cons (.c _) (.cons (.c _) .nil))))))))))))))) .nil) rfl (.inl rfl) rfl rfl) rfl rfl ?_
        refine Ops.p rfl ?_
        refine Ops.nil ?_
        refine Run.seq ?_
        refine Run.ops hm ?_
        refine Ops.p rfl ?_
        refine Ops.p rfl ?_
        refine Ops.st (s := 21512) (.al rfl rfl) rfl rfl ?_
        refine Ops.s0 (s := 21528) (.sto rfl rfl rfl rfl rfl rfl) rfl rfl ?_
        refine Ops.p rfl ?_
        refine Ops.nil ?_
        refine Run.seqO h (fun (v_135 : (List Int) × (List Int)) => [(8, .ptr 0 0), (9, .sl 1 3 0 v_135.1.length)]) (fun (v_135 : (List Int) × (List Int)) => [(0, .box [.sl 2 3 0 v_135.2.length]), (1, .vec 3 (v_135.1.map encI)), (2, .vec 3 (v_135.2.map encI))]) (fun h => ?_) (fun v_135 h => ?_)
        · skip
          refine Run.seq ?_
          refine Run.ops hm ?_
          refine Ops.p rfl ?_
          refine Ops.p rfl ?_
          refine Ops.p rfl ?_
          refine Ops.p rfl ?_
          refine Ops.p rfl ?_
          refine Ops.nil ?_
          refine Run.condO rfl h (fun g_136 h => ?_) (fun g_136 h => ?_)
          · skip
            refine Run.ops hm ?_
            refine Ops.p rfl ?_
            refine Ops.p rfl ?_
            refine Ops.s0 (s := 29704) (.sto rfl rfl rfl rfl rfl rfl) rfl rfl ?_
            refine Ops.p rfl ?_
            refine Ops.nil ?_
            exact ⟨_, _, (gh_pk [8, 9] [21512, 17400, 5112] hB rfl rfl rfl rfl), (y_133, y_121.1), h, rfl, rfl⟩
          · skip
            refine Run.skip ?_
            exact ⟨_, _, (gh_pk [8, 9] [21512, 5112, 17400] hB rfl rfl rfl rfl), (y_121.1, y_133), h, rfl, rfl⟩
        · skip
          refine Run.seq ?_
          refine Run.ops hm ?_
          refine Ops.p rfl ?_
          refine Ops.p rfl ?_
          obtain ⟨y_138, hy_138, h⟩ := bindO h
          refine Ops.st (s := 33800) (Ev.call [0, 2] [1] 0 (sem_slices_ContainsFunc_int N v_135.1 v_135.2 _ hy_138) rfl rfl (.cons (.borrow rfl (by decide) (lendW (fun _ => rfl) _ rfl)) (.cons (.fn (.cons (.ptr rfl) .nil)) .nil)) rfl (.inr ⟨rfl, ownL_root ⟨rfl, own_rows (fun _ => rfl) _, trivial⟩⟩) rfl rfl) rfl rfl ?_
          refine Ops.p rfl ?_
          refine Ops.nil ?_
          refine Run.seq ?_
          refine Run.ops hm ?_
          refine Ops.p rfl ?_
          refine Ops.p rfl ?_
          refine Ops.p rfl ?_
          refine Ops.p rfl ?_
          refine Ops.p rfl ?_
          refine Ops.p rfl ?_
          refine Ops.p rfl ?_
          refine Ops.askO (x := .t 56) rfl h (fun g_139 h => ?_) (fun g_139 h => ?_)
          · skip
            refine Ops.gp rfl g_139 rfl ?_
            refine Ops.gp rfl g_139 rfl ?_
            refine Ops.st (s := 38008) (.pkT rfl g_139 rfl) rfl rfl ?_
            refine Ops.p rfl ?_
            refine Ops.nil ?_
            refine Run.ret ?_
            obtain rfl := someO h
            exact Ends.mkG (.inl rfl) rfl (gh_pk [0] [] hB rfl rfl rfl rfl) rfl rfl
          · skip
            refine Ops.gn rfl g_139 ?_
            refine Ops.gn rfl g_139 ?_
            refine Ops.st (s := 38008) (.pkF rfl g_139 rfl) rfl rfl ?_
            refine Ops.p rfl ?_
            refine Ops.nil ?_
            refine Run.ret ?_
            obtain rfl := someO h
            exact Ends.mkG (.inl rfl) rfl (gh_pk [0] [] hB rfl rfl rfl rfl) rfl rfl
def impl_Propose_1 (N : Nat) (x_1 : Peer) (x_2 : Int) : Option (Bool) :=
 some (x_1.Id == x_2)
theorem sem_impl_Propose_1 (N : Nat) (x_1 : Peer) (x_2 : Int) (r : Bool) (h : impl_Propose_1 N x_1 x_2 = some r) : Says Try.prog 127 [.agg [VI x_1.Id, VI x_1.Next, VI x_1.Match, VI x_1.Sent], .ptr 0 0] 1 [(0, .box [VI x_2])] (VB r) [(0, .box [VI x_2])] := by
  unfold impl_Propose_1 at h
  refine Says.of_run s127 Try.call127 rfl fun B hB => ?_
  have hm : B.m ≤ 1000 := by omega
  refine Run.seq ?_
  refine Run.ops hm ?_
  refine Ops.st (s := 1000) (.bx rfl rfl) rfl rfl ?_
  refine Ops.p rfl ?_
  refine Ops.nil ?_
  refine Run.seq ?_
  refine Run.ops hm ?_
  refine Ops.p rfl ?_
  refine Ops.p rfl ?_
  refine Ops.p rfl ?_
  refine Ops.p rfl ?_
  refine Ops.p rfl ?_
  refine Ops.nil ?_
  refine Run.ret ?_
  obtain rfl := someO h
  exact Ends.mkG (.inl rfl) rfl (gh_pk [0] [0] hB rfl rfl rfl rfl) rfl rfl
def slices_IndexFunc_Peer_l1 (N : Nat) (x_1 : (List Peer)) (x_2 : Int) : Nat → Int → Option ((Int) ⊕ (Unit))
 | 0, _ => none
 | m + 1, x_155 =>
 (if (decide (x_155 < (x_1.length : Int))) = true then
 (at? x_1 x_155).bind fun x_167 =>
 (impl_Propose_1 N x_167 x_2).bind fun y_168 =>
 (if y_168 = true then
 some (Sum.inl x_155)
 else
 slices_IndexFunc_Peer_l1 N x_1 x_2 m (w64 (x_155 + (1 : Int))))
 else
 some (Sum.inr ()))
def slices_IndexFunc_Peer_l1_r (N : Nat) (x_1 : (List Peer)) (x_2 : Int) : (List Peer) → Int → Option ((Int) ⊕ (Unit))
 | [], x_155 =>
 some (Sum.inr ())
 | hd :: tl, x_155 =>
 (some hd).bind fun x_167 =>
 (impl_Propose_1 N x_167 x_2).bind fun y_168 =>
 (if y_168 = true then
 some (Sum.inl x_155)
 else
 slices_IndexFunc_Peer_l1_r N x_1 x_2 tl (w64 (x_155 + (1 : Int))))
theorem slices_IndexFunc_Peer_l1_rng (N : Nat) (x_1 : (List Peer)) (x_2 : Int) (hx : x_1.length ≤ 1099511627776) : ∀ (d k m : Nat), x_1.length = k + d → d < m → slices_IndexFunc_Peer_l1 N x_1 x_2 m (k : Int) = slices_IndexFunc_Peer_l1_r N x_1 x_2 (x_1.drop k) (k : Int) := by
  intro d
  induction d with
  | zero =>
    intro k m hd hm
    obtain ⟨m, rfl⟩ : ∃ q, m = q + 1 := ⟨m - 1, by omega⟩
    rw [slices_IndexFunc_Peer_l1, if_neg (by simp; omega), List.drop_eq_nil_of_le (by omega), slices_IndexFunc_Peer_l1_r]
  | succ d ih =>
    intro k m hd hm
    obtain ⟨m, rfl⟩ : ∃ q, m = q + 1 := ⟨m - 1, by omega⟩
    have hk : k < x_1.length := by omega
    rw [slices_IndexFunc_Peer_l1, if_pos (by simp; omega), List.drop_eq_getElem_cons hk, slices_IndexFunc_Peer_l1_r]
    have h1 := at_lt hk
    have h2 := w64_succ (k := k) (by omega)
    have h3 := ih (k + 1) m
    simp only [h1, h2, h3 (by omega) (by omega)]
theorem slices_IndexFunc_Peer_l1_eq {N : Nat} (x_1 : (List Peer)) (x_2 : Int) (hx : x_1.length ≤ 1099511627776) (hN : x_1.length < N) : slices_IndexFunc_Peer_l1 N x_1 x_2 N 0 = slices_IndexFunc_Peer_l1_r N x_1 x_2 x_1 0 := slices_IndexFunc_Peer_l1_rng N x_1 x_2 hx x_1.length 0 N (by omega) hN
def slices_IndexFunc_Peer (N : Nat) (x_1 : (List Peer)) (x_2 : Int) : Option (Int) :=
 joinP (fun (v_152 : Unit) =>
 some (-1 : Int)) fun j_152 =>
 (slices_IndexFunc_Peer_l1 N x_1 x_2 N (0 : Int)).bind (Sum.elim (fun v_162 => some v_162) (fun (v_163 : Unit) => j_152 ()))
theorem sem_slices_IndexFunc_Peer (N : Nat) (x_1 : (List Peer)) (x_2 : Int) (r : Int) (h : slices_IndexFunc_Peer N x_1 x_2 = some r) : Says Try.prog 126 [RO 172 (x_1.map encPeer), .fn 127 [.ptr 0 0]] 1 [(0, .box [VI x_2])] (VI r) [(0, .box [VI x_2])] := by
  unfold slices_IndexFunc_Peer at h
  refine Says.of_run s126 Try.call126 rfl fun B hB => ?_
  have hm : B.m ≤ 1000 := by omega
  refine Run.seq ?_
  refine Run.ops hm ?_
  refine Ops.p rfl ?_
  refine Ops.nil ?_
  refine Run.seqO h (fun (v_152 : Unit) => []) (fun (v_152 : Unit) => [(0, .box [VI x_2])]) (fun h => ?_) (fun v_152 h => ?_)
  · skip
    refine Run.seq ?_
    refine Run.ops hm ?_
    refine Ops.p rfl ?_
    refine Ops.st (s := 5112) (Ev.lnF rfl) rfl rfl ?_
    refine Ops.p rfl ?_
    refine Ops.nil ?_
    refine Run.block ?_
    obtain ⟨res_163, h, hk_163⟩ := bindO h
    refine Run.loop (n := N) (fun m_163 fr σ => ∃ (x_155 : Int), slices_IndexFunc_Peer_l1 N x_1 x_2 m_163 x_155 = some res_163 ∧ fr = [(0, RO 172 (x_1.map encPeer)), (1, .fn 127 [.ptr 0 0]), (7, VI (x_1.length : Int)), (8, VI x_155)] ∧ σ = [(0, .box [VI x_2])]) (gh_pk [0, 1, 7, 8] [0] hB rfl rfl rfl rfl) ⟨_, h, rfl, rfl⟩ ?_
    rintro m_163 fr σ ⟨x_155, h, rfl, rfl⟩
    obtain _ | m_163 := m_163
    · rw [slices_IndexFunc_Peer_l1] at h; cases h
    rw [slices_IndexFunc_Peer_l1] at h
    refine Run.seq ?_
    refine Run.ops hm ?_
    refine Ops.p rfl ?_
    refine Ops.nil ?_
    refine Run.seq ?_
    refine Run.condO rfl h (fun g_166 h => ?_) (fun g_166 h => ?_)
    · skip
      refine Run.skip ?_
      refine Run.seq ?_
      refine Run.block ?_
      refine Run.seq ?_
      refine Run.ops hm ?_
      refine Ops.p rfl ?_
      refine Ops.p rfl ?_
      refine Ops.nil ?_
      refine Run.seq ?_
      refine Run.ops hm ?_
      refine Ops.p rfl ?_
      refine Ops.p rfl ?_
      refine Ops.p rfl ?_
      obtain ⟨x_167, hx_167, h⟩ := bindO h
      refine Ops.st (s := 17432) (Ev.iaF rfl rfl hx_167) rfl rfl ?_
      refine Ops.p rfl ?_
      obtain ⟨y_168, hy_168, h⟩ := bindO h
      refine Ops.st (s := 17464) (Ev.callx [0] [] 0 rfl (sem_impl_Propose_1 N x_167 x_2 _ hy_168) rfl rfl (.cons (.agg (.cons (.c _) (.cons (.c _) (.cons (.c _) (.cons (.c _) .nil))))) (.cons (.ptr rfl) .nil)) rfl (.inl rfl) rfl rfl) rfl rfl ?_
      refine Ops.nil ?_
      refine Run.condO rfl h (fun g_169 h => ?_) (fun g_169 h => ?_)
      · skip
        refine Run.seq ?_
        refine Run.ops hm ?_
        refine Ops.p rfl ?_
        refine Ops.p rfl ?_
        refine Ops.nil ?_
        refine Run.ret ?_
        obtain rfl := someO h
        have h := hk_163
        replace h := inlO h
        obtain rfl := someO h
        exact Ends.mkG (.inl rfl) rfl (gh_pk [0] [0] hB rfl rfl rfl rfl) rfl rfl
      · skip
        refine Run.skip ?_
        refine Run.ops hm ?_
        refine Ops.p rfl ?_
        refine Ops.p rfl ?_
        refine Ops.nil ?_
        exact ⟨m_163, Nat.lt_succ_self m_163, _, _, (gh_pk [0, 1, 7, 8] [0] hB rfl rfl rfl rfl), _, h, rfl, rfl⟩
    · skip
      refine Run.exit ?_
      obtain rfl := someO h
      have h := hk_163
      replace h := inrO h
      exact ⟨_, _, (gh_pk [] [0] hB rfl rfl rfl rfl), (), h, rfl, rfl⟩
  · skip
    refine Run.seq ?_
    refine Run.ops hm ?_
    refine Ops.p rfl ?_
    refine Ops.nil ?_
    refine Run.ret ?_
    obtain rfl := someO h
    exact Ends.mkG (.inl rfl) rfl (gh_pk [0] [0] hB rfl rfl rfl rfl) rfl rfl
def impl_Propose_l1 (N : Nat) (x_1 : Node) (y_740 : Int) (y_1181 : Nat × (List Int)) : Nat → Int → (List Peer) → Option ((List Peer))
 | 0, _, _ => none
 | m + 1, x_1248, x_1283 =>
 (if (decide (x_1248 < ((y_1181.1 : Nat) : Int))) = true then
 (at? (y_1181.2.take y_1181.1) x_1248).bind fun x_1313 =>
 joinP (fun (v_1318 : Int × Int × Int × Int) =>
 (cat? x_1283 ([(Peer.mk v_1318.1 v_1318.2.1 v_1318.2.2.1 v_1318.2.2.2)] : List Peer)).bind fun x_1323 =>
 impl_Propose_l1 N x_1 y_740 y_1181 m (w64 (x_1248 + (1 : Int))) x_1323) fun j_1318 =>
 (slices_IndexFunc_Peer N x_1.Peers x_1313).bind fun y_1320 =>
 (if (decide (y_1320 ≥ (0 : Int))) = true then
 (at? x_1.Peers y_1320).bind fun x_1322 =>
 j_1318 (x_1322.Id, x_1322.Next, x_1322.Match, x_1322.Sent)
 else
 j_1318 (x_1313, w64 (y_740 + (1 : Int)), (0 : Int), (0 : Int)))
 else
 some x_1283)
def impl_Propose (N : Nat) (x_1 : Node) (x_2 : Int) (x_3 : ByteArray) : Option (Node × (List Message) × Int × Bool) :=
 (impl_NodeOk N x_1).bind fun y_720 =>
 (if (!y_720) = true then
 some ((Node.mk (0 : Int) (0 : Int) (0 : Int) (0 : Int) (0 : Int) ([]) (Log.mk (0 : Int) (0 : Int) ([])) (0 : Int) (0 : Int) (0 : Int) ([]) ([])), [], (0 : Int), false)
 else
 (if (x_1.Role != (2 : Int)) = true then
 some ((Node.mk (0 : Int) (0 : Int) (0 : Int) (0 : Int) (0 : Int) ([]) (Log.mk (0 : Int) (0 : Int) ([])) (0 : Int) (0 : Int) (0 : Int) ([]) ([])), [], (0 : Int), false)
 else
 (if (decide ((x_1.Log.Entries.length : Int) ≥ (120 : Int))) = true then
 some ((Node.mk (0 : Int) (0 : Int) (0 : Int) (0 : Int) (0 : Int) ([]) (Log.mk (0 : Int) (0 : Int) ([])) (0 : Int) (0 : Int) (0 : Int) ([]) ([])), [], (0 : Int), false)
 else
 (impl_last N x_1.Log).bind fun y_724 =>
 (if (decide (y_724 ≥ (100000 : Int))) = true then
 some ((Node.mk (0 : Int) (0 : Int) (0 : Int) (0 : Int) (0 : Int) ([]) (Log.mk (0 : Int) (0 : Int) ([])) (0 : Int) (0 : Int) (0 : Int) ([]) ([])), [], (0 : Int), false)
 else
 joinP (fun (v_731 : Unit) =>
 (impl_copyNode N x_1).bind fun y_738 =>
 (impl_last N x_1.Log).bind fun y_740 =>
 (cat? y_738.Log.Entries ([(Entry.mk x_1.Term x_2 x_3)] : List Entry)).bind fun x_742 =>
 joinP (fun (v_1033 : (List Int) × (List Entry) × (List Int) × (List Peer) × (List Peer) × (List Message)) =>
 (core_commit N (Tcore.mk (Node.mk y_738.Id y_738.Term y_738.Vote y_738.Role y_738.Lead y_738.Conf (Log.mk y_738.Log.Start y_738.Log.StartTerm x_742) y_738.Commit y_738.Clock y_738.Limit y_738.Votes v_1033.2.2.2.2.1) v_1033.2.2.2.2.2)).bind fun y_1325 =>
 (core_sendAll_i1 N y_1325).bind fun y_1327 =>
 some (y_1327.n, y_1327.out, w64 (y_740 + (1 : Int)), true)) fun j_1033 =>
 (if (x_2 == (2 : Int)) = true then
 joinP (fun (v_1179 : (List Peer)) =>
 j_1033 (([] : (List Int)), ([] : (List Entry)), ([] : (List Int)), ([] : (List Peer)), v_1179, ([] : (List Message)))) fun j_1179 =>
 (impl_othersOf N (Node.mk y_738.Id y_738.Term y_738.Vote y_738.Role y_738.Lead y_738.Conf (Log.mk y_738.Log.Start y_738.Log.StartTerm x_742) y_738.Commit y_738.Clock y_738.Limit y_738.Votes y_738.Peers)).bind fun y_1181 =>
 (impl_Propose_l1 N x_1 y_740 y_1181 N (0 : Int) ([] : (List Peer))).bind (fun (v_1308 : (List Peer)) => j_1179 v_1308)
 else
 j_1033 (([] : (List Int)), ([] : (List Entry)), ([] : (List Int)), ([] : (List Peer)), y_738.Peers, ([] : (List Message))))) fun j_731 =>
 (impl_EntryOk N (Entry.mk x_1.Term x_2 x_3)).bind fun y_732 =>
 (if (!y_732) = true then
 some ((Node.mk (0 : Int) (0 : Int) (0 : Int) (0 : Int) (0 : Int) ([]) (Log.mk (0 : Int) (0 : Int) ([])) (0 : Int) (0 : Int) (0 : Int) ([]) ([])), [], (0 : Int), false)
 else
 (if (x_2 == (2 : Int)) = true then
 (impl_confMay N x_1 x_3).bind fun y_735 =>
 (if (!y_735) = true then
 some ((Node.mk (0 : Int) (0 : Int) (0 : Int) (0 : Int) (0 : Int) ([]) (Log.mk (0 : Int) (0 : Int) ([])) (0 : Int) (0 : Int) (0 : Int) ([]) ([])), [], (0 : Int), false)
 else
 j_731 ())
 else
 j_731 ()))))))
theorem sem_impl_Propose (N : Nat) (x_1 : Node) (x_2 : Int) (x_3 : ByteArray) (r : Node × (List Message) × Int × Bool) (h : impl_Propose N x_1 x_2 x_3 = some r) : Says Try.prog 60 [.agg [VI x_1.Id, VI x_1.Term, VI x_1.Vote, VI x_1.Role, VI x_1.Lead, RO 3 (x_1.Conf.map encI), VI x_1.Log.Start, VI x_1.Log.StartTerm, RO 48 (x_1.Log.Entries.map encEntry), VI x_1.Commit, VI x_1.Clock, VI x_1.Limit, RO 3 (x_1.Votes.map encI), RO 172 (x_1.Peers.map encPeer)], VI x_2, VS x_3] 0 [] (.tup [.agg [VI r.1.Id, VI r.1.Term, VI r.1.Vote, VI r.1.Role, VI r.1.Lead, .sl 0 3 0 r.1.Conf.length, VI r.1.Log.Start, VI r.1.Log.StartTerm, .sl 1 48 0 r.1.Log.Entries.length, VI r.1.Commit, VI r.1.Clock, VI r.1.Limit, .sl 2 3 0 r.1.Votes.length, .sl 3 172 0 r.1.Peers.length], .sl 4 168 0 r.2.1.length, VI r.2.2.1, VB r.2.2.2]) [(0, .vec 3 (r.1.Conf.map encI)), (1, .vec 48 (r.1.Log.Entries.map encEntry)), (2, .vec 3 (r.1.Votes.map encI)), (3, .vec 172 (r.1.Peers.map encPeer)), (4, .vec 168 (r.2.1.map (encMessage true)))] := by
  unfold impl_Propose at h
  refine Says.of_run s60 Try.call60 rfl fun B hB => ?_
  have hm : B.m ≤ 1000 := by omega
  refine Run.seq ?_
  refine Run.ops hm ?_
  refine Ops.st (s := 1000) (.bx rfl rfl) rfl rfl ?_
  refine Ops.st (s := 1016) (.al rfl rfl) rfl rfl ?_
  refine Ops.p rfl ?_
  refine Ops.p rfl ?_
  refine Ops.p rfl ?_
  refine Ops.nil ?_
  refine Run.seq ?_
  refine Run.seq ?_
  refine Run.ops hm ?_
  refine Ops.p rfl ?_
  obtain ⟨y_720, hy_720, h⟩ := bindO h
  refine Ops.st (s := 5112) (Ev.call [] [] 0 (sem_impl_NodeOk N x_1 _ hy_720) rfl rfl (.cons (.agg (.cons (.c _) (.cons (.c _) (.cons (.c _) (.cons (.c _) (.cons (.c _) (.cons (.c _) (.cons (.c _) (.cons (.c _) (.cons (.c _) (.cons (.c _) (.cons (.c _) (.cons (.c _) (.cons (.c _) (.cons (.c _) .nil))))))))))))))) .nil) rfl (.inl rfl) rfl rfl) rfl rfl ?_
  refine Ops.p rfl ?_
  refine Ops.p rfl ?_
  refine Ops.askO (x := .t 21) rfl h (fun g_721 h => ?_) (fun g_721 h => ?_)
  · skip
    refine Ops.gn rfl g_721 ?_
    refine Ops.gn rfl g_721 ?_
    refine Ops.gn rfl g_721 ?_
    refine Ops.st (s := 5208) (.pkT rfl g_721 rfl) rfl rfl ?_
    refine Ops.p rfl ?_
    refine Ops.gn rfl rfl ?_
    refine Ops.gn rfl rfl ?_
    refine Ops.gn rfl rfl ?_
    refine Ops.gn rfl rfl ?_
    refine Ops.gn rfl rfl ?_
    refine Ops.st (s := 5320) (.pkT rfl rfl rfl) rfl rfl ?_
    refine Ops.p rfl ?_
    refine Ops.gn rfl rfl ?_
    refine Ops.gn rfl rfl ?_
    refine Ops.gn rfl rfl ?_
    refine Ops.gn rfl rfl ?_
    refine Ops.st (s := 5416) (.pkT rfl rfl rfl) rfl rfl ?_
    refine Ops.nil ?_
    refine Run.condT rfl rfl ?_
    refine Run.seq ?_
    refine Run.ops hm ?_
    refine Ops.st (s := 9192) (.bd rfl rfl) rfl rfl ?_
    refine Ops.s0 (s := 9208) (.sto rfl rfl rfl rfl rfl rfl) rfl rfl ?_
    refine Ops.p rfl ?_
    refine Ops.p rfl ?_
    refine Ops.p rfl ?_
    refine Ops.nil ?_
    refine Run.ret ?_
    obtain rfl := someO h
    exact Ends.mkG (.inl rfl) rfl (Gh.trans (Gh.trans (gh_prn [0, 1, 2, 3] [] hB rfl) (gh_nil [0, 1] [] hB rfl rfl rfl)) (gh_pk [0, 1, 2, 3] [10000000, 10000001, 10000002, 10000003, 10000064] hB rfl rfl rfl rfl)) rfl rfl
  · skip
    refine Ops.gp rfl g_721 rfl ?_
    refine Ops.gp rfl g_721 rfl ?_
    refine Ops.gp rfl g_721 rfl ?_
    refine Ops.st (s := 5208) (.pkF rfl g_721 rfl) rfl rfl ?_
    refine Ops.p rfl ?_
    refine Ops.askO (x := .t 26) rfl h (fun g_722 h => ?_) (fun g_722 h => ?_)
    · skip
      refine Ops.gn rfl g_722 ?_
      refine Ops.gn rfl g_722 ?_
      refine Ops.gn rfl g_722 ?_
      refine Ops.gn rfl g_722 ?_
      refine Ops.gn rfl g_722 ?_
      refine Ops.st (s := 5320) (.pkT rfl g_722 rfl) rfl rfl ?_
      refine Ops.p rfl ?_
      refine Ops.gn rfl rfl ?_
      refine Ops.gn rfl rfl ?_
      refine Ops.gn rfl rfl ?_
      refine Ops.gn rfl rfl ?_
      refine Ops.st (s := 5416) (.pkT rfl rfl rfl) rfl rfl ?_
      refine Ops.nil ?_
      refine Run.condT rfl rfl ?_
      refine Run.seq ?_
      refine Run.ops hm ?_
      refine Ops.st (s := 9192) (.bd rfl rfl) rfl rfl ?_
      refine Ops.s0 (s := 9208) (.sto rfl rfl rfl rfl rfl rfl) rfl rfl ?_
      refine Ops.p rfl ?_
      refine Ops.p rfl ?_
      refine Ops.p rfl ?_
      refine Ops.nil ?_
      refine Run.ret ?_
      obtain rfl := someO h
      exact Ends.mkG (.inl rfl) rfl (Gh.trans (Gh.trans (gh_prn [0, 1, 2, 3] [] hB rfl) (gh_nil [0, 1] [] hB rfl rfl rfl)) (gh_pk [0, 1, 2, 3] [10000000, 10000001, 10000002, 10000003, 10000064] hB rfl rfl rfl rfl)) rfl rfl
    · skip
      refine Ops.gp rfl g_722 rfl ?_
      refine Ops.gp rfl g_722 rfl ?_
      refine Ops.gp rfl g_722 rfl ?_
      refine Ops.gs (s := 5288) rfl g_722 (Ev.lnF rfl) rfl rfl ?_
      refine Ops.gp rfl g_722 rfl ?_
      refine Ops.st (s := 5320) (.pkF rfl g_722 rfl) rfl rfl ?_
      refine Ops.p rfl ?_
      refine Ops.askO (x := .t 33) rfl h (fun g_723 h => ?_) (fun g_723 h => ?_)
      · skip
        refine Ops.gn rfl g_723 ?_
        refine Ops.gn rfl g_723 ?_
        refine Ops.gn rfl g_723 ?_
        refine Ops.gn rfl g_723 ?_
        refine Ops.st (s := 5416) (.pkT rfl g_723 rfl) rfl rfl ?_
        refine Ops.nil ?_
        refine Run.condT rfl rfl ?_
        refine Run.seq ?_
        refine Run.ops hm ?_
        refine Ops.st (s := 9192) (.bd rfl rfl) rfl rfl ?_
        refine Ops.s0 (s := 9208) (.sto rfl rfl rfl rfl rfl rfl) rfl rfl ?_
        refine Ops.p rfl ?_
        refine Ops.p rfl ?_
        refine Ops.p rfl ?_
        refine Ops.nil ?_
        refine Run.ret ?_
        obtain rfl := someO h
        exact Ends.mkG (.inl rfl) rfl (Gh.trans (Gh.trans (gh_prn [0, 1, 2, 3] [] hB rfl) (gh_nil [0, 1] [] hB rfl rfl rfl)) (gh_pk [0, 1, 2, 3] [10000000, 10000001, 10000002, 10000003, 10000064] hB rfl rfl rfl rfl)) rfl rfl
      · skip
        refine Ops.gp rfl g_723 rfl ?_
        refine Ops.gp rfl g_723 rfl ?_
        obtain ⟨y_724, hy_724, h⟩ := bindO h
        refine Ops.gs (s := 5384) rfl g_723 (Ev.call [] [] 0 (sem_impl_last N x_1.Log _ hy_724) rfl rfl (.cons (.agg (.cons (.c _) (.cons (.c _) (.cons (.c _) .nil)))) .nil) rfl (.inl rfl) rfl rfl) rfl rfl ?_
        refine Ops.gp rfl g_723 rfl ?_
        refine Ops.st (s := 5416) (.pkF rfl g_723 rfl) rfl rfl ?_
        refine Ops.nil ?_
        refine Run.condO rfl h (fun g_725 h => ?_) (fun g_725 h => ?_)
        · skip
          refine Run.seq ?_
          refine Run.ops hm ?_
          refine Ops.st (s := 9192) (.bd rfl rfl) rfl rfl ?_
          refine Ops.s0 (s := 9208) (.sto rfl rfl rfl rfl rfl rfl) rfl rfl ?_
          refine Ops.p rfl ?_
          refine Ops.p rfl ?_
          refine Ops.p rfl ?_
          refine Ops.nil ?_
          refine Run.ret ?_
          obtain rfl := someO h
          exact Ends.mkG (.inl rfl) rfl (Gh.trans (Gh.trans (gh_prn [0, 1, 2, 3] [] hB rfl) (gh_nil [0, 1] [] hB rfl rfl rfl)) (gh_pk [0, 1, 2, 3] [10000000, 10000001, 10000002, 10000003, 10000064] hB rfl rfl rfl rfl)) rfl rfl
        · skip
          refine Run.skip ?_
          refine Run.seq ?_
          refine Run.ops hm ?_
          refine Ops.p rfl ?_
          refine Ops.p rfl ?_
          refine Ops.p rfl ?_
          refine Ops.p rfl ?_
          refine Ops.st (s := 13352) (.bd rfl rfl) rfl rfl ?_
          refine Ops.st (s := 13368) (.al rfl rfl) rfl rfl ?_
          refine Ops.s0 (s := 13384) (.sto rfl rfl rfl rfl rfl rfl) rfl rfl ?_
          refine Ops.nil ?_
          refine Run.seqO h (fun (v_731 : Unit) => [(1, VI x_2), (3, .ptr 0 0), (6, .ptr 1 0), (10, .ptr 2 0)]) (fun (v_731 : Unit) => [(0, .box [VI x_1.Id, VI x_1.Term, VI x_1.Vote, VI x_1.Role, VI x_1.Lead, RO 3 (x_1.Conf.map encI), VI x_1.Log.Start, VI x_1.Log.StartTerm, RO 48 (x_1.Log.Entries.map encEntry), VI x_1.Commit, VI x_1.Clock, VI x_1.Limit, RO 3 (x_1.Votes.map encI), RO 172 (x_1.Peers.map encPeer)]), (1, .box [VI (0 : Int), VI (0 : Int), VI (0 : Int), VI (0 : Int), VI (0 : Int), .sl 3 3 0 (([] : List Int).length), VI (0 : Int), VI (0 : Int), .sl 4 48 0 (([] : List Entry).length), VI (0 : Int), VI (0 : Int), VI (0 : Int), .sl 5 3 0 (([] : List Int).length), .sl 6 172 0 (([] : List Peer).length)]), (2, .box [VI x_1.Term, VI x_2, VS x_3]), (3, .vec 3 (([] : List Int).map encI)), (4, .vec 48 (([] : List Entry).map encEntry)), (5, .vec 3 (([] : List Int).map encI)), (6, .vec 172 (([] : List Peer).map encPeer))]) (fun h => ?_) (fun v_731 h => ?_)
          · skip
            refine Run.seq ?_
            refine Run.ops hm ?_
            refine Ops.p rfl ?_
            obtain ⟨y_732, hy_732, h⟩ := bindO h
            refine Ops.st (s := 17400) (Ev.call [] [] 0 (sem_impl_EntryOk N (Entry.mk x_1.Term x_2 x_3) _ hy_732) rfl rfl (.cons (.agg (.cons (.c _) (.cons (.c _) (.cons (.c _) .nil)))) .nil) rfl (.inl rfl) rfl rfl) rfl rfl ?_
            refine Ops.p rfl ?_
            refine Ops.p rfl ?_
            refine Ops.askO (x := .t 48) rfl h (fun g_733 h => ?_) (fun g_733 h => ?_)
            · skip
              refine Ops.gn rfl g_733 ?_
              refine Ops.gn rfl g_733 ?_
              refine Ops.gn rfl g_733 ?_
              refine Ops.gu rfl ?_
              refine Ops.gu rfl ?_
              refine Ops.gu rfl ?_
              refine Ops.gu rfl ?_
              refine Ops.gn rfl g_733 ?_
              refine Ops.st (s := 17576) (.pkT rfl g_733 rfl) rfl rfl ?_
              refine Ops.nil ?_
              refine Run.condT rfl rfl ?_
              refine Run.seq ?_
              refine Run.ops hm ?_
              refine Ops.st (s := 21480) (.bd rfl rfl) rfl rfl ?_
              refine Ops.s0 (s := 21496) (.sto rfl rfl rfl rfl rfl rfl) rfl rfl ?_
              refine Ops.p rfl ?_
              refine Ops.p rfl ?_
              refine Ops.p rfl ?_
              refine Ops.nil ?_
              refine Run.ret ?_
              obtain rfl := someO h
              exact Ends.mkG (.inl rfl) rfl (Gh.trans (Gh.trans (gh_prn [0, 1, 2, 3] [] hB rfl) (gh_nil [0, 1] [] hB rfl rfl rfl)) (gh_pk [0, 1, 2, 3] [10000000, 10000001, 10000002, 10000003, 10000064] hB rfl rfl rfl rfl)) rfl rfl
            · skip
              refine Ops.gp rfl g_733 rfl ?_
              refine Ops.gp rfl g_733 rfl ?_
              refine Ops.gp rfl g_733 rfl ?_
              refine Ops.askO (x := .t 51) rfl h (fun g_734 h => ?_) (fun g_734 h => ?_)
              · skip
                refine Ops.gp rfl g_734 rfl ?_
                refine Ops.gp rfl g_734 rfl ?_
                obtain ⟨y_735, hy_735, h⟩ := bindO h
                refine Ops.gs (s := 17528) rfl g_734 (Ev.call [] [] 0 (sem_impl_confMay N x_1 x_3 _ hy_735) rfl rfl (.cons (.agg (.cons (.c _) (.cons (.c _) (.cons (.c _) (.cons (.c _) (.cons (.c _) (.cons (.c _) (.cons (.c _) (.cons (.c _) (.cons (.c _) (.cons (.c _) (.cons (.c _) (.cons (.c _) (.cons (.c _) (.cons (.c _) .nil))))))))))))))) (.cons (.c _) .nil)) rfl (.inl rfl) rfl rfl) rfl rfl ?_
                refine Ops.gp rfl g_734 rfl ?_
                refine Ops.gs (s := 17560) rfl g_733 (.pkT rfl g_734 rfl) rfl rfl ?_
                refine Ops.st (s := 17576) (.pkF rfl g_733 rfl) rfl rfl ?_
                refine Ops.nil ?_
                refine Run.condO rfl h (fun g_736 h => ?_) (fun g_736 h => ?_)
                · skip
                  refine Run.seq ?_
                  refine Run.ops hm ?_
                  refine Ops.st (s := 21480) (.bd rfl rfl) rfl rfl ?_
                  refine Ops.s0 (s := 21496) (.sto rfl rfl rfl rfl rfl rfl) rfl rfl ?_
                  refine Ops.p rfl ?_
                  refine Ops.p rfl ?_
                  refine Ops.p rfl ?_
                  refine Ops.nil ?_
                  refine Run.ret ?_
                  obtain rfl := someO h
                  exact Ends.mkG (.inl rfl) rfl (Gh.trans (Gh.trans (gh_prn [0, 1, 2, 3] [] hB rfl) (gh_nil [0, 1] [] hB rfl rfl rfl)) (gh_pk [0, 1, 2, 3] [10000000, 10000001, 10000002, 10000003, 10000064] hB rfl rfl rfl rfl)) rfl rfl
                · skip
                  refine Run.skip ?_
                  exact ⟨_, _, (Gh.trans (Gh.trans (gh_prn [1, 3, 6, 10] [1000, 1016, 13368] hB rfl) (gh_nil [] [1016] hB rfl rfl rfl)) (gh_pk [1, 3, 6, 10] [1000, 1016, 13368, 20000000, 20000001, 20000002, 20000003] hB rfl rfl rfl rfl)), (), h, rfl, rfl⟩
              · skip
                refine Ops.gn rfl g_734 ?_
                refine Ops.gn rfl g_734 ?_
                refine Ops.gn rfl g_734 ?_
                refine Ops.gn rfl g_734 ?_
                refine Ops.gs (s := 17560) rfl g_733 (.pkF rfl g_734 rfl) rfl rfl ?_
                refine Ops.st (s := 17576) (.pkF rfl g_733 rfl) rfl rfl ?_
                refine Ops.nil ?_
                refine Run.condF rfl rfl ?_
                refine Run.skip ?_
                exact ⟨_, _, (Gh.trans (Gh.trans (gh_prn [1, 3, 6, 10] [1000, 1016, 13368] hB rfl) (gh_nil [] [1016] hB rfl rfl rfl)) (gh_pk [1, 3, 6, 10] [1000, 1016, 13368, 20000000, 20000001, 20000002, 20000003] hB rfl rfl rfl rfl)), (), h, rfl, rfl⟩
          · skip
            refine Run.seq ?_
            refine Run.ops hm ?_
            refine Ops.p rfl ?_
            obtain ⟨y_738, hy_738, h⟩ := bindO h
            refine Ops.st (s := 25592) (Ev.call [] [] 4 (sem_impl_copyNode N x_1 _ hy_738) rfl rfl (.cons (.agg (.cons (.c _) (.cons (.c _) (.cons (.c _) (.cons (.c _) (.cons (.c _) (.cons (.c _) (.cons (.c _) (.cons (.c _) (.cons (.c _) (.cons (.c _) (.cons (.c _) (.cons (.c _) (.cons (.c _) (.cons (.c _) .nil))))))))))))))) .nil) rfl (.inl rfl) rfl rfl) rfl rfl ?_
            refine Ops.st (s := 25608) (.bd rfl rfl) rfl rfl ?_
            refine Ops.st (s := 25624) (.bx rfl rfl) rfl rfl ?_
            refine Ops.p rfl ?_
            refine Ops.nil ?_
            refine Run.seq ?_
            refine Run.ops hm ?_
            refine Ops.p rfl ?_
            refine Ops.p rfl ?_
            obtain ⟨y_740, hy_740, h⟩ := bindO h
            refine Ops.st (s := 29704) (Ev.call [] [] 0 (sem_impl_last N x_1.Log _ hy_740) rfl rfl (.cons (.agg (.cons (.c _) (.cons (.c _) (.cons (.c _) .nil)))) .nil) rfl (.inl rfl) rfl rfl) rfl rfl ?_
            refine Ops.p rfl ?_
            refine Ops.nil ?_
            refine Run.seq ?_
            refine Run.draw hm hmix ?_
            refine OpsD.p rfl ?_
            refine OpsD.p rfl ?_
            refine OpsD.p rfl ?_
            refine OpsD.p rfl ?_
            refine OpsD.p rfl ?_
            refine OpsD.p rfl ?_
            refine OpsD.p rfl ?_
            refine OpsD.p rfl ?_
            refine OpsD.st (s := 33896) (Ev.bsW (ys := ([(Entry.mk x_1.Term x_2 x_3)] : List Entry)) (f := encEntry) rfl (.cons (.c _) (.cons (.c _) (.cons (.c _) .nil))) rfl rfl rfl rfl rfl) rfl rfl ?_
            obtain ⟨x_742, hx_742, h⟩ := bindO h
            refine OpsD.st (s := 33912) (Ev.apW (f := encEntry) (ontoW rfl rfl rfl) (addsW rfl rfl rfl (fun _ => rfl)) rfl bt48 rfl hx_742) rfl rfl ?_
            refine OpsD.p rfl ?_
            refine OpsD.p rfl ?_
            refine OpsD.p rfl ?_
            refine OpsD.p rfl ?_
            refine OpsD.s0 (s := 33992) (.sto rfl rfl rfl rfl rfl rfl) rfl rfl ?_
            refine OpsD.nil ⟨by kernel_rfl, ?_⟩
            refine Run.seqO h (fun (v_1033 : (List Int) × (List Entry) × (List Int) × (List Peer) × (List Peer) × (List Message)) => [(6, .ptr 0 0), (11, .ptr 1 0), (12, VI y_740)]) (fun (v_1033 : (List Int) × (List Entry) × (List Int) × (List Peer) × (List Peer) × (List Message)) => [(0, .box [VI (0 : Int), VI (0 : Int), VI (0 : Int), VI (0 : Int), VI (0 : Int), .sl 2 3 0 v_1033.1.length, VI (0 : Int), VI (0 : Int), .sl 3 48 0 v_1033.2.1.length, VI (0 : Int), VI (0 : Int), VI (0 : Int), .sl 4 3 0 v_1033.2.2.1.length, .sl 5 172 0 v_1033.2.2.2.1.length]), (1, .box [VI y_738.Id, VI y_738.Term, VI y_738.Vote, VI y_738.Role, VI y_738.Lead, .sl 6 3 0 y_738.Conf.length, VI y_738.Log.Start, VI y_738.Log.StartTerm, .sl 7 48 0 x_742.length, VI y_738.Commit, VI y_738.Clock, VI y_738.Limit, .sl 8 3 0 y_738.Votes.length, .sl 9 172 0 v_1033.2.2.2.2.1.length, .sl 10 168 0 v_1033.2.2.2.2.2.length]), (2, .vec 3 (v_1033.1.map encI)), (3, .vec 48 (v_1033.2.1.map encEntry)), (4, .vec 3 (v_1033.2.2.1.map encI)), (5, .vec 172 (v_1033.2.2.2.1.map encPeer)), (6, .vec 3 (y_738.Conf.map encI)), (7, .vec 48 (x_742.map encEntry)), (8, .vec 3 (y_738.Votes.map encI)), (9, .vec 172 (v_1033.2.2.2.2.1.map encPeer)), (10, .vec 168 (v_1033.2.2.2.2.2.map (encMessage true)))]) (fun h => ?_) (fun v_1033 h => ?_)
            · skip
              refine Run.seq ?_
              refine Run.ops hm ?_
              refine Ops.p rfl ?_
              refine Ops.p rfl ?_
              refine Ops.nil ?_
              refine Run.condO rfl h (fun g_1034 h => ?_) (fun g_1034 h => ?_)
              · skip
                refine Run.seq ?_
                refine Run.ops hm ?_
                refine Ops.p rfl ?_
                refine Ops.nil ?_
                refine Run.seqO h (fun (v_1179 : (List Peer)) => [(6, .ptr 0 0), (11, .ptr 1 0), (12, VI y_740), (13, .sl 2 172 0 v_1179.length)]) (fun (v_1179 : (List Peer)) => [(0, .box [VI (0 : Int), VI (0 : Int), VI (0 : Int), VI (0 : Int), VI (0 : Int), .sl 3 3 0 (([] : (List Int)).length), VI (0 : Int), VI (0 : Int), .sl 4 48 0 (([] : (List Entry)).length), VI (0 : Int), VI (0 : Int), VI (0 : Int), .sl 5 3 0 (([] : (List Int)).length), .sl 6 172 0 (([] : (List Peer)).length)]), (1, .box [VI y_738.Id, VI y_738.Term, VI y_738.Vote, VI y_738.Role, VI y_738.Lead, .sl 7 3 0 y_738.Conf.length, VI y_738.Log.Start, VI y_738.Log.StartTerm, .sl 8 48 0 x_742.length, VI y_738.Commit, VI y_738.Clock, VI y_738.Limit, .sl 9 3 0 y_738.Votes.length, .sl 10 172 0 y_738.Peers.length, .sl 11 168 0 (([] : (List Message)).length)]), (2, .vec 172 (v_1179.map encPeer)), (3, .vec 3 (([] : (List Int)).map encI)), (4, .vec 48 (([] : (List Entry)).map encEntry)), (5, .vec 3 (([] : (List Int)).map encI)), (6, .vec 172 (([] : (List Peer)).map encPeer)), (7, .vec 3 (y_738.Conf.map encI)), (8, .vec 48 (x_742.map encEntry)), (9, .vec 3 (y_738.Votes.map encI)), (10, .vec 172 (y_738.Peers.map encPeer)), (11, .vec 168 (([] : (List Message)).map (encMessage true)))]) (fun h => ?_) (fun v_1179 h => ?_)
                · skip
                  refine Run.seq ?_
                  refine Run.ops hm ?_
                  refine Ops.p rfl ?_
                  refine Ops.p rfl ?_
                  refine Ops.p rfl ?_
                  refine Ops.p rfl ?_
                  obtain ⟨y_1181, hy_1181, h⟩ := bindO h
                  refine Ops.st (s := 46120) (Ev.call [] [25592, 33912, 25594, 25595] 1 (sem_impl_othersOf N (Node.mk y_738.Id y_738.Term y_738.Vote y_738.Role y_738.Lead y_738.Conf (Log.mk y_738.Log.Start y_738.Log.StartTerm x_742) y_738.Commit y_738.Clock y_738.Limit y_738.Votes y_738.Peers) _ hy_1181) rfl rfl (.cons (.agg (.cons (.c _) (.cons (.c _) (.cons (.c _) (.cons (.c _) (.cons (.c _) (.cons (.borrow rfl (by decide) (lendW (fun _ => rfl) _ rfl)) (.cons (.c _) (.cons (.c _) (.cons (.borrow rfl (by decide) (lendW (fun _ => rfl) _ rfl)) (.cons (.c _) (.cons (.c _) (.cons (.c _) (.cons (.borrow rfl (by decide) (lendW (fun _ => rfl) _ rfl)) (.cons (.borrow rfl (by decide) (lendW (fun _ => rfl) _ rfl)) .nil))))))))))))))) .nil) rfl (.inr ⟨rfl, ownL_root ⟨own_rows (fun _ => rfl) _, trivial⟩⟩) rfl rfl) rfl rfl ?_
                  refine Ops.p rfl ?_
                  refine Ops.p rfl ?_
                  refine Ops.nil ?_
                  refine Run.block ?_
                  obtain ⟨res_1308, h, hk_1308⟩ := bindO h
                  refine Run.loop (n := N) (fun m_1308 fr σ => ∃ (x_1248 : Int), ∃ (x_1283 : (List Peer)), impl_Propose_l1 N x_1 y_740 y_1181 m_1308 x_1248 x_1283 = some res_1308 ∧ fr = [(3, .ptr 0 0), (6, .ptr 1 0), (11, .ptr 2 0), (12, VI y_740), (13, .sl 3 172 0 x_1283.length), (86, .sl 4 3 0 y_1181.1), (87, VI ((y_1181.1 : Nat) : Int)), (88, VI x_1248)] ∧ σ = [(0, .box [VI x_1.Id, VI x_1.Term, VI x_1.Vote, VI x_1.Role, VI x_1.Lead, RO 3 (x_1.Conf.map encI), VI x_1.Log.Start, VI x_1.Log.StartTerm, RO 48 (x_1.Log.Entries.map encEntry), VI x_1.Commit, VI x_1.Clock, VI x_1.Limit, RO 3 (x_1.Votes.map encI), RO 172 (x_1.Peers.map encPeer)]), (1, .box [VI (0 : Int), VI (0 : Int), VI (0 : Int), VI (0 : Int), VI (0 : Int), .sl 5 3 0 (([] : (List Int)).length), VI (0 : Int), VI (0 : Int), .sl 6 48 0 (([] : (List Entry)).length), VI (0 : Int), VI (0 : Int), VI (0 : Int), .sl 7 3 0 (([] : (List Int)).length), .sl 8 172 0 (([] : (List Peer)).length)]), (2, .box [VI y_738.Id, VI y_738.Term, VI y_738.Vote, VI y_738.Role, VI y_738.Lead, .sl 9 3 0 y_738.Conf.length, VI y_738.Log.Start, VI y_738.Log.StartTerm, .sl 10 48 0 x_742.length, VI y_738.Commit, VI y_738.Clock, VI y_738.Limit, .sl 11 3 0 y_738.Votes.length, .sl 12 172 0 y_738.Peers.length, .sl 13 168 0 (([] : (List Message)).length)]), (3, .vec 172 (x_1283.map encPeer)), (4, .vec 3 (y_1181.2.map encI)), (5, .vec 3 (([] : (List Int)).map encI)), (6, .vec 48 (([] : (List Entry)).map encEntry)), (7, .vec 3 (([] : (List Int)).map encI)), (8, .vec 172 (([] : (List Peer)).map encPeer)), (9, .vec 3 (y_738.Conf.map encI)), (10, .vec 48 (x_742.map encEntry)), (11, .vec 3 (y_738.Votes.map encI)), (12, .vec 172 (y_738.Peers.map encPeer)), (13, .vec 168 (([] : (List Message)).map (encMessage true)))]) (Gh.trans (Gh.trans (gh_prn [3, 6, 11, 12, 13, 86, 87, 88] [0, 1, 25624, 46120, 3, 4, 5, 6, 25592, 33912, 25594, 25595] hB rfl) (gh_nil [13] [25624] hB rfl rfl rfl)) (gh_pk [3, 6, 11, 12, 13, 86, 87, 88] [0, 1, 25624, 10000000, 46120, 3, 4, 5, 6, 25592, 33912, 25594, 25595, 20000000] hB rfl rfl rfl rfl)) ⟨_, _, h, rfl, rfl⟩ ?_
                  rintro m_1308 fr σ ⟨x_1248, x_1283, h, rfl, rfl⟩
                  obtain _ | m_1308 := m_1308
                  · rw [impl_Propose_l1] at h; cases h
                  rw [impl_Propose_l1] at h
                  refine Run.seq ?_
                  refine Run.ops hm ?_
                  refine Ops.p rfl ?_
                  refine Ops.nil ?_
                  refine Run.seq ?_
                  refine Run.condO rfl h (fun g_1311 h => ?_) (fun g_1311 h => ?_)
                  · skip
                    refine Run.skip ?_
                    refine Run.seq ?_
                    refine Run.block ?_
                    refine Run.seq ?_
                    refine Run.ops hm ?_
                    obtain ⟨x_1313, hx_1313, h⟩ := bindO h
                    refine Ops.st (s := 54248) (Ev.iaP (xs := y_1181.2) rfl rfl hx_1313) rfl rfl ?_
                    refine Ops.st (s := 54264) (Ev.ldE (f := encI) rfl rfl (at_part hx_1313) rfl rfl rfl) rfl rfl ?_
                    refine Ops.st (s := 54280) (.al rfl rfl) rfl rfl ?_
                    refine Ops.s0 (s := 54296) (.sto rfl rfl rfl rfl rfl rfl) rfl rfl ?_
                    refine Ops.nil ?_
                    refine Run.seq ?_
                    refine Run.ops hm ?_
                    refine Ops.p rfl ?_
                    refine Ops.p rfl ?_
                    refine Ops.p rfl ?_
                    refine Ops.st (s := 58392) (.bd rfl rfl) rfl rfl ?_
                    refine Ops.st (s := 58408) (.al rfl rfl) rfl rfl ?_
                    refine Ops.s0 (s := 58424) (.sto rfl rfl rfl rfl rfl rfl) rfl rfl ?_
                    refine Ops.nil ?_
                    refine Run.seqO h (fun (v_1318 : Int × Int × Int × Int) => [(3, .ptr 0 0), (6, .ptr 1 0), (11, .ptr 2 0), (12, VI y_740), (13, .sl 3 172 0 x_1283.length), (16, .ptr 4 0), (86, .sl 5 3 0 y_1181.1), (87, VI ((y_1181.1 : Nat) : Int)), (88, VI x_1248)]) (fun (v_1318 : Int × Int × Int × Int) => [(0, .box [VI x_1.Id, VI x_1.Term, VI x_1.Vote, VI x_1.Role, VI x_1.Lead, RO 3 (x_1.Conf.map encI), VI x_1.Log.Start, VI x_1.Log.StartTerm, RO 48 (x_1.Log.Entries.map encEntry), VI x_1.Commit, VI x_1.Clock, VI x_1.Limit, RO 3 (x_1.Votes.map encI), RO 172 (x_1.Peers.map encPeer)]), (1, .box [VI (0 : Int), VI (0 : Int), VI (0 : Int), VI (0 : Int), VI (0 : Int), .sl 6 3 0 (([] : (List Int)).length), VI (0 : Int), VI (0 : Int), .sl 7 48 0 (([] : (List Entry)).length), VI (0 : Int), VI (0 : Int), VI (0 : Int), .sl 8 3 0 (([] : (List Int)).length), .sl 9 172 0 (([] : (List Peer)).length)]), (2, .box [VI y_738.Id, VI y_738.Term, VI y_738.Vote, VI y_738.Role, VI y_738.Lead, .sl 10 3 0 y_738.Conf.length, VI y_738.Log.Start, VI y_738.Log.StartTerm, .sl 11 48 0 x_742.length, VI y_738.Commit, VI y_738.Clock, VI y_738.Limit, .sl 12 3 0 y_738.Votes.length, .sl 13 172 0 y_738.Peers.length, .sl 14 168 0 (([] : (List Message)).length)]), (3, .vec 172 (x_1283.map encPeer)), (4, .box [VI v_1318.1, VI v_1318.2.1, VI v_1318.2.2.1, VI v_1318.2.2.2]), (5, .vec 3 (y_1181.2.map encI)), (6, .vec 3 (([] : (List Int)).map encI)), (7, .vec 48 (([] : (List Entry)).map encEntry)), (8, .vec 3 (([] : (List Int)).map encI)), (9, .vec 172 (([] : (List Peer)).map encPeer)), (10, .vec 3 (y_738.Conf.map encI)), (11, .vec 48 (x_742.map encEntry)), (12, .vec 3 (y_738.Votes.map encI)), (13, .vec 172 (y_738.Peers.map encPeer)), (14, .vec 168 (([] : (List Message)).map (encMessage true)))]) (fun h => ?_) (fun v_1318 h => ?_)
                    · skip
                      refine Run.seq ?_
                      refine Run.ops hm ?_
                      refine Ops.p rfl ?_
                      refine Ops.p rfl ?_
                      refine Ops.p rfl ?_
                      obtain ⟨y_1320, hy_1320, h⟩ := bindO h
                      refine Ops.st (s := 62488) (Ev.call [54280] [] 0 (sem_slices_IndexFunc_Peer N x_1.Peers x_1313 _ hy_1320) rfl rfl (.cons (.c _) (.cons (.fn (.cons (.ptr rfl) .nil)) .nil)) rfl (.inl rfl) rfl rfl) rfl rfl ?_
                      refine Ops.p rfl ?_
                      refine Ops.nil ?_
                      refine Run.seq ?_
                      refine Run.ops hm ?_
                      refine Ops.p rfl ?_
                      refine Ops.p rfl ?_
                      refine Ops.nil ?_
                      refine Run.condO rfl h (fun g_1321 h => ?_) (fun g_1321 h => ?_)
                      · skip
                        refine Run.ops hm ?_
                        refine Ops.p rfl ?_
                        refine Ops.p rfl ?_
                        refine Ops.p rfl ?_
                        obtain ⟨x_1322, hx_1322, h⟩ := bindO h
                        refine Ops.st (s := 70680) (Ev.iaF rfl rfl hx_1322) rfl rfl ?_
                        refine Ops.p rfl ?_
                        refine Ops.s0 (s := 70712) (.sto rfl rfl rfl rfl rfl rfl) rfl rfl ?_
                        refine Ops.nil ?_
                        exact ⟨_, _, (gh_pk [3, 6, 11, 12, 13, 16, 86, 87, 88] [0, 1, 2, 3, 58408, 4, 5, 6, 7, 8, 9, 10, 11, 12, 13] hB rfl rfl rfl rfl), (x_1322.Id, x_1322.Next, x_1322.Match, x_1322.Sent), h, rfl, rfl⟩
                      · skip
                        refine Run.skip ?_
                        exact ⟨_, _, (gh_pk [3, 6, 11, 12, 13, 16, 86, 87, 88] [0, 1, 2, 3, 58408, 4, 5, 6, 7, 8, 9, 10, 11, 12, 13] hB rfl rfl rfl rfl), (x_1313, w64 (y_740 + (1 : Int)), (0 : Int), (0 : Int)), h, rfl, rfl⟩
                    · skip
                      refine Run.ops hm ?_
                      refine Ops.p rfl ?_
                      refine Ops.p rfl ?_
                      refine Ops.st (s := 74760) (Ev.bsW (ys := ([(Peer.mk v_1318.1 v_1318.2.1 v_1318.2.2.1 v_1318.2.2.2)] : List Peer)) (f := encPeer) rfl (.cons (.c _) (.cons (.c _) (.cons (.c _) (.cons (.c _) .nil)))) rfl rfl rfl rfl rfl) rfl rfl ?_
                      obtain ⟨x_1323, hx_1323, h⟩ := bindO h
                      refine Ops.st (s := 74776) (Ev.apW (f := encPeer) (ontoW rfl rfl rfl) (addsW rfl rfl rfl (fun _ => rfl)) rfl bt172 rfl hx_1323) rfl rfl ?_
                      refine Ops.p rfl ?_
                      refine Ops.nil ?_
                      refine Run.ops hm ?_
                      refine Ops.p rfl ?_
                      refine Ops.p rfl ?_
                      refine Ops.nil ?_
                      exact ⟨m_1308, Nat.lt_succ_self m_1308, _, _, (gh_pk [3, 6, 11, 12, 13, 86, 87, 88] [0, 1, 2, 74776, 5, 6, 7, 8, 9, 10, 11, 12, 13, 14] hB rfl rfl rfl rfl), _, _, h, rfl, rfl⟩
                  · skip
                    refine Run.exit ?_
                    obtain rfl := someO h
                    have h := hk_1308
                    exact ⟨_, _, (gh_pk [6, 11, 12, 13] [1, 2, 3, 5, 6, 7, 8, 9, 10, 11, 12, 13] hB rfl rfl rfl rfl), x_1283, h, rfl, rfl⟩
                · skip
                  refine Run.ops hm ?_
                  refine Ops.p rfl ?_
                  refine Ops.p rfl ?_
                  refine Ops.p rfl ?_
                  refine Ops.p rfl ?_
                  refine Ops.p rfl ?_
                  refine Ops.s0 (s := 83000) (.sto rfl rfl rfl rfl rfl rfl) rfl rfl ?_
                  refine Ops.nil ?_
                  exact ⟨_, _, (gh_pk [6, 11, 12] [0, 1, 3, 4, 5, 6, 7, 8, 9, 2, 11] hB rfl rfl rfl rfl), (([] : (List Int)), ([] : (List Entry)), ([] : (List Int)), ([] : (List Peer)), v_1179, ([] : (List Message))), h, rfl, rfl⟩
              · skip
                refine Run.skip ?_
                exact ⟨_, _, (Gh.trans (Gh.trans (gh_prn [6, 11, 12] [1, 25624, 3, 4, 5, 6, 25592, 33912, 25594, 25595] hB rfl) (gh_nil [] [25624] hB rfl rfl rfl)) (gh_pk [6, 11, 12] [1, 25624, 3, 4, 5, 6, 25592, 33912, 25594, 25595, 20000000] hB rfl rfl rfl rfl)), (([] : (List Int)), ([] : (List Entry)), ([] : (List Int)), ([] : (List Peer)), y_738.Peers, ([] : (List Message))), h, rfl, rfl⟩
            · skip
              refine Run.seq ?_
              refine Run.ops hm ?_
              refine Ops.p rfl ?_
              obtain ⟨y_1325, hy_1325, h⟩ := bindO h
              refine Ops.st (s := 87032) (Ev.call [1, 6, 7, 8, 9, 10] [] 5 (sem_core_commit N (Tcore.mk (Node.mk y_738.Id y_738.Term y_738.Vote y_738.Role y_738.Lead y_738.Conf (Log.mk y_738.Log.Start y_738.Log.StartTerm x_742) y_738.Commit y_738.Clock y_738.Limit y_738.Votes v_1033.2.2.2.2.1) v_1033.2.2.2.2.2) _ hy_1325) rfl rfl (.cons (.ptr rfl) .nil) rfl (.inl rfl) rfl rfl) rfl rfl ?_
              refine Ops.nil ?_
              refine Run.seq ?_
              refine Run.ops hm ?_
              refine Ops.p rfl ?_
              obtain ⟨y_1327, hy_1327, h⟩ := bindO h
              refine Ops.st (s := 91128) (Ev.call [1, 87032, 87033, 87034, 87035, 87036] [] 5 (sem_core_sendAll_i1 N y_1325 _ hy_1327) rfl rfl (.cons (.ptr rfl) .nil) rfl (.inl rfl) rfl rfl) rfl rfl ?_
              refine Ops.nil ?_
              refine Run.seq ?_
              refine Run.draw hm hmix ?_
              refine OpsD.p rfl ?_
              refine OpsD.p rfl ?_
              refine OpsD.p rfl ?_
              refine OpsD.p rfl ?_
              refine OpsD.p rfl ?_
              refine OpsD.p rfl ?_
              refine OpsD.p rfl ?_
              refine OpsD.p rfl ?_
              refine OpsD.p rfl ?_
              refine OpsD.p rfl ?_
              refine OpsD.s0 (s := 95368) (.sto rfl rfl rfl rfl rfl rfl) rfl rfl ?_
              refine OpsD.p rfl ?_
              refine OpsD.p rfl ?_
              refine OpsD.p rfl ?_
              refine OpsD.nil ⟨by kernel_rfl, ?_⟩
              refine Run.ret ?_
              obtain rfl := someO h
              exact Ends.mkG (.inl rfl) rfl (gh_pk [0, 1, 2, 3] [91128, 91129, 91130, 91131, 91132] hB rfl rfl rfl rfl) rfl rfl
def spec_l01In (N : Nat) (x_1 : Int) (x_2 : Int) (x_3 : Int) : Option (Bool) :=
 (if (decide (x_1 ≥ x_2)) = true then
 some (decide (x_1 ≤ x_3))
 else
 some false)
theorem sem_spec_l01In (N : Nat) (x_1 : Int) (x_2 : Int) (x_3 : Int) (r : Bool) (h : spec_l01In N x_1 x_2 x_3 = some r) : Says Try.prog 94 [VI x_1, VI x_2, VI x_3] 0 [] (VB r) [] := by
  unfold spec_l01In at h
  refine Says.of_run s94 Try.call94 rfl fun B hB => ?_
  have hm : B.m ≤ 1000 := by omega
  refine Run.seq ?_
  refine Run.ops hm ?_
  refine Ops.p rfl ?_
  refine Ops.nil ?_
  refine Run.seq ?_
  refine Run.ops hm ?_
  refine Ops.p rfl ?_
  refine Ops.p rfl ?_
  refine Ops.p rfl ?_
  refine Ops.p rfl ?_
  refine Ops.askO (x := .t 10) rfl h (fun g_101 h => ?_) (fun g_101 h => ?_)
  · skip
    refine Ops.gp rfl g_101 rfl ?_
    refine Ops.gp rfl g_101 rfl ?_
    refine Ops.gp rfl g_101 rfl ?_
    refine Ops.st (s := 5208) (.pkT rfl g_101 rfl) rfl rfl ?_
    refine Ops.p rfl ?_
    refine Ops.nil ?_
    refine Run.ret ?_
    obtain rfl := someO h
    exact Ends.mkG (.inl rfl) rfl (gh_pk [0] [] hB rfl rfl rfl rfl) rfl rfl
  · skip
    refine Ops.gn rfl g_101 ?_
    refine Ops.gn rfl g_101 ?_
    refine Ops.gn rfl g_101 ?_
    refine Ops.st (s := 5208) (.pkF rfl g_101 rfl) rfl rfl ?_
    refine Ops.p rfl ?_
    refine Ops.nil ?_
    refine Run.ret ?_
    obtain rfl := someO h
    exact Ends.mkG (.inl rfl) rfl (gh_pk [0] [] hB rfl rfl rfl rfl) rfl rfl
def spec_l07Rise_l1 (N : Nat) (x_1 : (List Int)) (x_2 : Int) (x_3 : Int) : Nat → Int → Option ((Bool) ⊕ (Unit))
 | 0, _ => none
 | m + 1, x_228 =>
 (if (decide (x_228 < (x_1.length : Int))) = true then
 joinP (fun (v_258 : Unit) =>
 spec_l07Rise_l1 N x_1 x_2 x_3 m (w64 (x_228 + (1 : Int)))) fun j_258 =>
 (at? x_1 x_228).bind fun x_259 =>
 (spec_l01In N x_259 x_2 x_3).bind fun y_260 =>
 (if (!y_260) = true then
 some (Sum.inl false)
 else
 (if (decide (x_228 > (0 : Int))) = true then
 (at? x_1 (w64 (x_228 - (1 : Int)))).bind fun x_263 =>
 (at? x_1 x_228).bind fun x_264 =>
 (if (decide (x_263 ≥ x_264)) = true then
 some (Sum.inl false)
 else
 j_258 ())
 else
 j_258 ()))
 else
 some (Sum.inr ()))
def spec_l07Rise_l1_r (N : Nat) (x_1 : (List Int)) (x_2 : Int) (x_3 : Int) : (List Int) → Int → Option ((Bool) ⊕ (Unit))
 | [], x_228 =>
 some (Sum.inr ())
 | hd :: tl, x_228 =>
 joinP (fun (v_258 : Unit) =>
 spec_l07Rise_l1_r N x_1 x_2 x_3 tl (w64 (x_228 + (1 : Int)))) fun j_258 =>
 (some hd).bind fun x_259 =>
 (spec_l01In N x_259 x_2 x_3).bind fun y_260 =>
 (if (!y_260) = true then
 some (Sum.inl false)
 else
 (if (decide (x_228 > (0 : Int))) = true then
 (at? x_1 (w64 (x_228 - (1 : Int)))).bind fun x_263 =>
 (some hd).bind fun x_264 =>
 (if (decide (x_263 ≥ x_264)) = true then
 some (Sum.inl false)
 else
 j_258 ())
 else
 j_258 ()))
theorem spec_l07Rise_l1_rng (N : Nat) (x_1 : (List Int)) (x_2 : Int) (x_3 : Int) (hx : x_1.length ≤ 1099511627776) : ∀ (d k m : Nat), x_1.length = k + d → d < m → spec_l07Rise_l1 N x_1 x_2 x_3 m (k : Int) = spec_l07Rise_l1_r N x_1 x_2 x_3 (x_1.drop k) (k : Int) := by
  intro d
  induction d with
  | zero =>
    intro k m hd hm
    obtain ⟨m, rfl⟩ : ∃ q, m = q + 1 := ⟨m - 1, by omega⟩
    rw [spec_l07Rise_l1, if_neg (by simp; omega), List.drop_eq_nil_of_le (by omega), spec_l07Rise_l1_r]
  | succ d ih =>
    intro k m hd hm
    obtain ⟨m, rfl⟩ : ∃ q, m = q + 1 := ⟨m - 1, by omega⟩
    have hk : k < x_1.length := by omega
    rw [spec_l07Rise_l1, if_pos (by simp; omega), List.drop_eq_getElem_cons hk, spec_l07Rise_l1_r]
    have h1 := at_lt hk
    have h2 := w64_succ (k := k) (by omega)
    have h3 := ih (k + 1) m
    simp only [h1, h2, h3 (by omega) (by omega)]
theorem spec_l07Rise_l1_eq {N : Nat} (x_1 : (List Int)) (x_2 : Int) (x_3 : Int) (hx : x_1.length ≤ 1099511627776) (hN : x_1.length < N) : spec_l07Rise_l1 N x_1 x_2 x_3 N 0 = spec_l07Rise_l1_r N x_1 x_2 x_3 x_1 0 := spec_l07Rise_l1_rng N x_1 x_2 x_3 hx x_1.length 0 N (by omega) hN
def spec_l07Rise (N : Nat) (x_1 : (List Int)) (x_2 : Int) (x_3 : Int) : Option (Bool) :=
 joinP (fun (v_224 : Unit) =>
 some true) fun j_224 =>
 (spec_l07Rise_l1 N x_1 x_2 x_3 N (0 : Int)).bind (Sum.elim (fun v_246 => some v_246) (fun (v_247 : Unit) => j_224 ()))
theorem sem_spec_l07Rise (N : Nat) (x_1 : (List Int)) (x_2 : Int) (x_3 : Int) (r : Bool) (h : spec_l07Rise N x_1 x_2 x_3 = some r) : Says Try.prog 131 [RO 3 (x_1.map encI), VI x_2, VI x_3] 0 [] (VB r) [] := by
  unfold spec_l07Rise at h
  refine Says.of_run s131 Try.call131 rfl fun B hB => ?_
  have hm : B.m ≤ 1000 := by omega
  refine Run.seq ?_
  refine Run.ops hm ?_
  refine Ops.p rfl ?_
  refine Ops.nil ?_
  refine Run.seqO h (fun (v_224 : Unit) => []) (fun (v_224 : Unit) => []) (fun h => ?_) (fun v_224 h => ?_)
  · skip
    refine Run.seq ?_
    refine Run.ops hm ?_
    refine Ops.p rfl ?_
    refine Ops.nil ?_
    refine Run.block ?_
    obtain ⟨res_247, h, hk_247⟩ := bindO h
    refine Run.loop (n := N) (fun m_247 fr σ => ∃ (x_228 : Int), spec_l07Rise_l1 N x_1 x_2 x_3 m_247 x_228 = some res_247 ∧ fr = [(0, RO 3 (x_1.map encI)), (1, VI x_2), (2, VI x_3), (7, VI x_228)] ∧ σ = []) (gh_pk [0, 1, 2, 7] [] hB rfl rfl rfl rfl) ⟨_, h, rfl, rfl⟩ ?_
    rintro m_247 fr σ ⟨x_228, h, rfl, rfl⟩
    obtain _ | m_247 := m_247
    · rw [spec_l07Rise_l1] at h; cases h
    rw [spec_l07Rise_l1] at h
    refine Run.seq ?_
    refine Run.seq ?_
    refine Run.ops hm ?_
    refine Ops.p rfl ?_
    refine Ops.p rfl ?_
    refine Ops.st (s := 9224) (Ev.lnF rfl) rfl rfl ?_
    refine Ops.p rfl ?_
    refine Ops.nil ?_
    refine Run.condO rfl h (fun g_250 h => ?_) (fun g_250 h => ?_)
    · skip
      refine Run.skip ?_
      refine Run.seqO h (fun (v_258 : Unit) => [(0, RO 3 (x_1.map encI)), (1, VI x_2), (2, VI x_3), (7, VI x_228)]) (fun (v_258 : Unit) => []) (fun h => ?_) (fun v_258 h => ?_)
      · skip
        refine Run.block ?_
        refine Run.seq ?_
        refine Run.draw hm hmix ?_
        refine OpsD.p rfl ?_
        refine OpsD.p rfl ?_
        obtain ⟨x_259, hx_259, h⟩ := bindO h
        refine OpsD.st (s := 17416) (Ev.iaF rfl rfl hx_259) rfl rfl ?_
        refine OpsD.p rfl ?_
        refine OpsD.p rfl ?_
        refine OpsD.p rfl ?_
        obtain ⟨y_260, hy_260, h⟩ := bindO h
        refine OpsD.st (s := 17480) (Ev.call [] [] 0 (sem_spec_l01In N x_259 x_2 x_3 _ hy_260) rfl rfl (.cons (.c _) (.cons (.c _) (.cons (.c _) .nil))) rfl (.inl rfl) rfl rfl) rfl rfl ?_
        refine OpsD.p rfl ?_
        refine OpsD.p rfl ?_
        refine OpsD.askO (x := .t 22) rfl h (fun g_261 h => ?_) (fun g_261 h => ?_)
        · skip
          refine OpsD.gn rfl g_261 ?_
          refine OpsD.gn rfl g_261 ?_
          refine OpsD.gn rfl g_261 ?_
          refine OpsD.gu rfl ?_
          refine OpsD.gu rfl ?_
          refine OpsD.gu rfl ?_
          refine OpsD.gu rfl ?_
          refine OpsD.gu rfl ?_
          refine OpsD.gu rfl ?_
          refine OpsD.gu rfl ?_
          refine OpsD.gu rfl ?_
          refine OpsD.gu rfl ?_
          refine OpsD.gu rfl ?_
          refine OpsD.gn rfl g_261 ?_
          refine OpsD.st (s := 17752) (.pkT rfl g_261 rfl) rfl rfl ?_
          refine OpsD.nil ⟨by kernel_rfl, ?_⟩
          refine Run.condT rfl rfl ?_
          refine Run.seq ?_
          refine Run.ops hm ?_
          refine Ops.p rfl ?_
          refine Ops.nil ?_
          refine Run.ret ?_
          obtain rfl := someO h
          have h := hk_247
          replace h := inlO h
          obtain rfl := someO h
          exact Ends.mkG (.inl rfl) rfl (gh_pk [0] [] hB rfl rfl rfl rfl) rfl rfl
        · skip
          refine OpsD.gp rfl g_261 rfl ?_
          refine OpsD.gp rfl g_261 rfl ?_
          refine OpsD.gp rfl g_261 rfl ?_
          refine OpsD.askO (x := .t 25) rfl h (fun g_262 h => ?_) (fun g_262 h => ?_)
          · skip
            refine OpsD.gp rfl g_262 rfl ?_
            refine OpsD.gp rfl g_262 rfl ?_
            refine OpsD.gp rfl g_262 rfl ?_
            obtain ⟨x_263, hx_263, h⟩ := bindO h
            refine OpsD.gs (s := 17624) rfl g_262 (Ev.iaF rfl rfl hx_263) rfl rfl ?_
            refine OpsD.gp rfl g_262 rfl ?_
            refine OpsD.gp rfl g_262 rfl ?_
            refine OpsD.gp rfl g_262 rfl ?_
            obtain ⟨x_264, hx_264, h⟩ := bindO h
            refine OpsD.gs (s := 17688) rfl g_262 (Ev.iaF rfl rfl hx_264) rfl rfl ?_
            refine OpsD.gp rfl g_262 rfl ?_
            refine OpsD.gp rfl g_262 rfl ?_
            refine OpsD.gs (s := 17736) rfl g_261 (.pkT rfl g_262 rfl) rfl rfl ?_
            refine OpsD.st (s := 17752) (.pkF rfl g_261 rfl) rfl rfl ?_
            refine OpsD.nil ⟨by kernel_rfl, ?_⟩
            refine Run.condO rfl h (fun g_265 h => ?_) (fun g_265 h => ?_)
            · skip
              refine Run.seq ?_
              refine Run.ops hm ?_
              refine Ops.p rfl ?_
              refine Ops.nil ?_
              refine Run.ret ?_
              obtain rfl := someO h
              have h := hk_247
              replace h := inlO h
              obtain rfl := someO h
              exact Ends.mkG (.inl rfl) rfl (gh_pk [0] [] hB rfl rfl rfl rfl) rfl rfl
            · skip
              refine Run.skip ?_
              exact ⟨_, _, (gh_pk [0, 1, 2, 7] [] hB rfl rfl rfl rfl), (), h, rfl, rfl⟩
          · skip
            refine OpsD.gn rfl g_262 ?_
            refine OpsD.gn rfl g_262 ?_
            refine OpsD.gn rfl g_262 ?_
            refine OpsD.gn rfl g_262 ?_
            refine OpsD.gn rfl g_262 ?_
            refine OpsD.gn rfl g_262 ?_
            refine OpsD.gn rfl g_262 ?_
            refine OpsD.gn rfl g_262 ?_
            refine OpsD.gn rfl g_262 ?_
            refine OpsD.gn rfl g_262 ?_
            refine OpsD.gs (s := 17736) rfl g_261 (.pkF rfl g_262 rfl) rfl rfl ?_
            refine OpsD.st (s := 17752) (.pkF rfl g_261 rfl) rfl rfl ?_
            refine OpsD.nil ⟨by kernel_rfl, ?_⟩
            refine Run.condF rfl rfl ?_
            refine Run.skip ?_
            exact ⟨_, _, (gh_pk [0, 1, 2, 7] [] hB rfl rfl rfl rfl), (), h, rfl, rfl⟩
      · skip
        refine Run.ops hm ?_
        refine Ops.p rfl ?_
        refine Ops.p rfl ?_
        refine Ops.p rfl ?_
        refine Ops.nil ?_
        exact ⟨m_247, Nat.lt_succ_self m_247, _, _, (gh_pk [0, 1, 2, 7] [] hB rfl rfl rfl rfl), _, h, rfl, rfl⟩
    · skip
      refine Run.exit ?_
      obtain rfl := someO h
      have h := hk_247
      replace h := inrO h
      exact ⟨_, _, (gh_pk [] [] hB rfl rfl rfl rfl), (), h, rfl, rfl⟩
  · skip
    refine Run.seq ?_
    refine Run.ops hm ?_
    refine Ops.p rfl ?_
    refine Ops.nil ?_
    refine Run.ret ?_
    obtain rfl := someO h
    exact Ends.mkG (.inl rfl) rfl (gh_pk [0] [] hB rfl rfl rfl rfl) rfl rfl
end Go.Proofs.Ytebbgdjmplceiaa.Pe.FnAlone
