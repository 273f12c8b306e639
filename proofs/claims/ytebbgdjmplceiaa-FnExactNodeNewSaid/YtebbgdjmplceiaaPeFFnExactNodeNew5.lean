/- Functions, as pure functions; and that Go does just that. -/
import Derived.Test.YtebbgdjmplceiaaPeFFnExactNodeNew4
namespace Go.Proofs.Ytebbgdjmplceiaa.Pe.FnExactNodeNew
open Go Go.RowKit
set_option linter.unusedVariables false
set_option linter.unusedSimpArgs false
set_option maxHeartbeats 40000000
def laws_heldLog (N : Nat) (x_1 : Log) (x_2 : Int) : Option (Int) :=
 (laws_heldEntryS N x_1.Entries x_2).bind fun y_105 =>
 (if (decide (y_105 < (0 : Int))) = true then
 some (-1 : Int)
 else
 some y_105)
theorem sem_laws_heldLog (N : Nat) (x_1 : Log) (x_2 : Int) (r : Int) (h : laws_heldLog N x_1 x_2 = some r) : Says Try.prog 133 [.agg [VI x_1.Start, VI x_1.StartTerm, RO 48 (x_1.Entries.map encEntry)], VI x_2] 0 [] (VI r) [] := by
  unfold laws_heldLog at h
  refine Says.of_run s133 Try.call133 rfl fun B hB => ?_
  have hm : B.m ≤ 1000 := by omega
  refine Run.seq ?_
  refine Run.ops hm ?_
  refine Ops.st (s := 1000) (.bx rfl rfl) rfl rfl ?_
  refine Ops.p rfl ?_
  refine Ops.nil ?_
  refine Run.seq ?_
  refine Run.ops hm ?_
  refine Ops.p rfl ?_
  refine Ops.p rfl ?_
  refine Ops.p rfl ?_
  obtain ⟨y_105, hy_105, h⟩ := bindO h
  refine Ops.st (s := 5144) (Ev.call [] [] 0 (sem_laws_heldEntryS N x_1.Entries x_2 _ hy_105) rfl rfl (.cons (.c _) (.cons (.c _) .nil)) rfl (.inl rfl) rfl rfl) rfl rfl ?_
  refine Ops.p rfl ?_
  refine Ops.nil ?_
  refine Run.seq ?_
  refine Run.seq ?_
  refine Run.ops hm ?_
  refine Ops.p rfl ?_
  refine Ops.p rfl ?_
  refine Ops.nil ?_
  refine Run.condO rfl h (fun g_107 h => ?_) (fun g_107 h => ?_)
  · skip
    refine Run.seq ?_
    refine Run.ops hm ?_
    refine Ops.p rfl ?_
    refine Ops.nil ?_
    refine Run.ret ?_
    obtain rfl := someO h
    exact Ends.mkG (.inl rfl) rfl (gh_pk [0] [] hB rfl rfl rfl rfl) rfl rfl
  · skip
    refine Run.skip ?_
    refine Run.seq ?_
    refine Run.ops hm ?_
    refine Ops.p rfl ?_
    refine Ops.p rfl ?_
    refine Ops.nil ?_
    refine Run.ret ?_
    obtain rfl := someO h
    exact Ends.mkG (.inl rfl) rfl (gh_pk [0] [] hB rfl rfl rfl rfl) rfl rfl
def laws_heldPeerS_l1 (N : Nat) (x_1 : (List Peer)) : Nat → Int → Int → Option ((Int) ⊕ (Int))
 | 0, _, _ => none
 | m + 1, x_325, x_326 =>
 (if (decide (x_326 < (x_1.length : Int))) = true then
 (at? x_1 x_326).bind fun x_384 =>
 (if (x_384.Id != x_325) = true then
 some (Sum.inl (-1 : Int))
 else
 (at? x_1 x_326).bind fun x_388 =>
 (if (x_388.Next != (w64 (x_325 + (1 : Int)))) = true then
 some (Sum.inl (-1 : Int))
 else
 (at? x_1 x_326).bind fun x_392 =>
 (if (x_392.Match != (w64 ((w64 (x_325 + (1 : Int))) + (1 : Int)))) = true then
 some (Sum.inl (-1 : Int))
 else
 (at? x_1 x_326).bind fun x_396 =>
 (if (x_396.Sent != (w64 ((w64 ((w64 (x_325 + (1 : Int))) + (1 : Int))) + (1 : Int)))) = true then
 some (Sum.inl (-1 : Int))
 else
 laws_heldPeerS_l1 N x_1 m (w64 ((w64 ((w64 ((w64 (x_325 + (1 : Int))) + (1 : Int))) + (1 : Int))) + (1 : Int))) (w64 (x_326 + (1 : Int)))))))
 else
 some (Sum.inr x_325))
def laws_heldPeerS_l1_r (N : Nat) (x_1 : (List Peer)) : (List Peer) → Int → Int → Option ((Int) ⊕ (Int))
 | [], x_325, x_326 =>
 some (Sum.inr x_325)
 | hd :: tl, x_325, x_326 =>
 (some hd).bind fun x_384 =>
 (if (x_384.Id != x_325) = true then
 some (Sum.inl (-1 : Int))
 else
 (some hd).bind fun x_388 =>
 (if (x_388.Next != (w64 (x_325 + (1 : Int)))) = true then
 some (Sum.inl (-1 : Int))
 else
 (some hd).bind fun x_392 =>
 (if (x_392.Match != (w64 ((w64 (x_325 + (1 : Int))) + (1 : Int)))) = true then
 some (Sum.inl (-1 : Int))
 else
 (some hd).bind fun x_396 =>
 (if (x_396.Sent != (w64 ((w64 ((w64 (x_325 + (1 : Int))) + (1 : Int))) + (1 : Int)))) = true then
 some (Sum.inl (-1 : Int))
 else
 laws_heldPeerS_l1_r N x_1 tl (w64 ((w64 ((w64 ((w64 (x_325 + (1 : Int))) + (1 : Int))) + (1 : Int))) + (1 : Int))) (w64 (x_326 + (1 : Int)))))))
theorem laws_heldPeerS_l1_rng (N : Nat) (x_1 : (List Peer)) (hx : x_1.length ≤ 1099511627776) : ∀ (d k m : Nat) (x_325 : Int), x_1.length = k + d → d < m → laws_heldPeerS_l1 N x_1 m x_325 (k : Int) = laws_heldPeerS_l1_r N x_1 (x_1.drop k) x_325 (k : Int) := by
  intro d
  induction d with
  | zero =>
    intro k m x_325 hd hm
    obtain ⟨m, rfl⟩ : ∃ q, m = q + 1 := ⟨m - 1, by omega⟩
    rw [laws_heldPeerS_l1, if_neg (by simp; omega), List.drop_eq_nil_of_le (by omega), laws_heldPeerS_l1_r]
  | succ d ih =>
    intro k m x_325 hd hm
    obtain ⟨m, rfl⟩ : ∃ q, m = q + 1 := ⟨m - 1, by omega⟩
    have hk : k < x_1.length := by omega
    rw [laws_heldPeerS_l1, if_pos (by simp; omega), List.drop_eq_getElem_cons hk, laws_heldPeerS_l1_r]
    have h1 := at_lt hk
    have h2 := w64_succ (k := k) (by omega)
    have h3 := ih (k + 1) m
    simp only [h1, h2, h3 _ (by omega) (by omega)]
theorem laws_heldPeerS_l1_eq {N : Nat} (x_1 : (List Peer)) (hx : x_1.length ≤ 1099511627776) (hN : x_1.length < N) (x_325 : Int) : laws_heldPeerS_l1 N x_1 N x_325 0 = laws_heldPeerS_l1_r N x_1 x_1 x_325 0 := laws_heldPeerS_l1_rng N x_1 hx x_1.length 0 N x_325 (by omega) hN
def laws_heldPeerS (N : Nat) (x_1 : (List Peer)) (x_2 : Int) : Option (Int) :=
 joinP (fun (v_323 : Int) =>
 some v_323) fun j_323 =>
 (laws_heldPeerS_l1 N x_1 N x_2 (0 : Int)).bind (Sum.elim (fun v_361 => some v_361) (fun (v_362 : Int) => j_323 v_362))
theorem sem_laws_heldPeerS (N : Nat) (x_1 : (List Peer)) (x_2 : Int) (r : Int) (h : laws_heldPeerS N x_1 x_2 = some r) : Says Try.prog 134 [RO 172 (x_1.map encPeer), VI x_2] 0 [] (VI r) [] := by
  unfold laws_heldPeerS at h
  refine Says.of_run s134 Try.call134 rfl fun B hB => ?_
  have hm : B.m ≤ 1000 := by omega
  refine Run.seq ?_
  refine Run.ops hm ?_
  refine Ops.p rfl ?_
  refine Ops.nil ?_
  refine Run.seqO h (fun (v_323 : Int) => [(1, VI v_323)]) (fun (v_323 : Int) => []) (fun h => ?_) (fun v_323 h => ?_)
  · skip
    refine Run.seq ?_
    refine Run.ops hm ?_
    refine Ops.p rfl ?_
    refine Ops.nil ?_
    refine Run.block ?_
    obtain ⟨res_362, h, hk_362⟩ := bindO h
    refine Run.loop (n := N) (fun m_362 fr σ => ∃ (x_325 : Int), ∃ (x_326 : Int), laws_heldPeerS_l1 N x_1 m_362 x_325 x_326 = some res_362 ∧ fr = [(0, RO 172 (x_1.map encPeer)), (1, VI x_325), (5, VI x_326)] ∧ σ = []) (gh_pk [0, 1, 5] [] hB rfl rfl rfl rfl) ⟨_, _, h, rfl, rfl⟩ ?_
    rintro m_362 fr σ ⟨x_325, x_326, h, rfl, rfl⟩
    obtain _ | m_362 := m_362
    · rw [laws_heldPeerS_l1] at h; cases h
    rw [laws_heldPeerS_l1] at h
    refine Run.seq ?_
    refine Run.seq ?_
    refine Run.ops hm ?_
    refine Ops.p rfl ?_
    refine Ops.p rfl ?_
    refine Ops.st (s := 9224) (Ev.lnF rfl) rfl rfl ?_
    refine Ops.p rfl ?_
    refine Ops.nil ?_
    refine Run.condO rfl h (fun g_365 h => ?_) (fun g_365 h => ?_)
    · skip
      refine Run.skip ?_
      refine Run.seq ?_
      refine Run.block ?_
      refine Run.seq ?_
      refine Run.seq ?_
      refine Run.ops hm ?_
      refine Ops.p rfl ?_
      refine Ops.p rfl ?_
      obtain ⟨x_384, hx_384, h⟩ := bindO h
      refine Ops.st (s := 17416) (Ev.iaF rfl rfl hx_384) rfl rfl ?_
      refine Ops.p rfl ?_
      refine Ops.p rfl ?_
      refine Ops.p rfl ?_
      refine Ops.p rfl ?_
      refine Ops.nil ?_
      refine Run.condO rfl h (fun g_385 h => ?_) (fun g_385 h => ?_)
      · skip
        refine Run.seq ?_
        refine Run.ops hm ?_
        refine Ops.p rfl ?_
        refine Ops.nil ?_
        refine Run.ret ?_
        obtain rfl := someO h
        have h := hk_362
        replace h := inlO h
        obtain rfl := someO h
        exact Ends.mkG (.inl rfl) rfl (gh_pk [0] [] hB rfl rfl rfl rfl) rfl rfl
      · skip
        refine Run.skip ?_
        refine Run.seq ?_
        refine Run.ops hm ?_
        refine Ops.p rfl ?_
        refine Ops.p rfl ?_
        refine Ops.p rfl ?_
        refine Ops.nil ?_
        refine Run.seq ?_
        refine Run.seq ?_
        refine Run.ops hm ?_
        refine Ops.p rfl ?_
        refine Ops.p rfl ?_
        obtain ⟨x_388, hx_388, h⟩ := bindO h
        refine Ops.st (s := 29704) (Ev.iaF rfl rfl hx_388) rfl rfl ?_
        refine Ops.p rfl ?_
        refine Ops.p rfl ?_
        refine Ops.p rfl ?_
        refine Ops.p rfl ?_
        refine Ops.nil ?_
        refine Run.condO rfl h (fun g_389 h => ?_) (fun g_389 h => ?_)
        · skip
          refine Run.seq ?_
          refine Run.ops hm ?_
          refine Ops.p rfl ?_
          refine Ops.nil ?_
          refine Run.ret ?_
          obtain rfl := someO h
          have h := hk_362
          replace h := inlO h
          obtain rfl := someO h
          exact Ends.mkG (.inl rfl) rfl (gh_pk [0] [] hB rfl rfl rfl rfl) rfl rfl
        · skip
          refine Run.skip ?_
          refine Run.seq ?_
          refine Run.ops hm ?_
          refine Ops.p rfl ?_
          refine Ops.p rfl ?_
          refine Ops.p rfl ?_
          refine Ops.nil ?_
          refine Run.seq ?_
          refine Run.seq ?_
          refine Run.ops hm ?_
          refine Ops.p rfl ?_
          refine Ops.p rfl ?_
          obtain ⟨x_392, hx_392, h⟩ := bindO h
          refine Ops.st (s := 41992) (Ev.iaF rfl rfl hx_392) rfl rfl ?_
          refine Ops.p rfl ?_
          refine Ops.p rfl ?_
          refine Ops.p rfl ?_
          refine Ops.p rfl ?_
          refine Ops.nil ?_
          refine Run.condO rfl h (fun g_393 h => ?_) (fun g_393 h => ?_)
          · skip
            refine Run.seq ?_
            refine Run.ops hm ?_
            refine Ops.p rfl ?_
            refine Ops.nil ?_
            refine Run.ret ?_
            obtain rfl := someO h
            have h := hk_362
            replace h := inlO h
            obtain rfl := someO h
            exact Ends.mkG (.inl rfl) rfl (gh_pk [0] [] hB rfl rfl rfl rfl) rfl rfl
          · skip
            refine Run.skip ?_
            refine Run.seq ?_
            refine Run.ops hm ?_
            refine Ops.p rfl ?_
            refine Ops.p rfl ?_
            refine Ops.p rfl ?_
            refine Ops.nil ?_
            refine Run.seq ?_
            refine Run.seq ?_
            refine Run.ops hm ?_
            refine Ops.p rfl ?_
            refine Ops.p rfl ?_
            obtain ⟨x_396, hx_396, h⟩ := bindO h
            refine Ops.st (s := 54280) (Ev.iaF rfl rfl hx_396) rfl rfl ?_
            refine Ops.p rfl ?_
            refine Ops.p rfl ?_
            refine Ops.p rfl ?_
            refine Ops.p rfl ?_
            refine Ops.nil ?_
            refine Run.condO rfl h (fun g_397 h => ?_) (fun g_397 h => ?_)
            · skip
              refine Run.seq ?_
              refine Run.ops hm ?_
              refine Ops.p rfl ?_
              refine Ops.nil ?_
              refine Run.ret ?_
              obtain rfl := someO h
              have h := hk_362
              replace h := inlO h
              obtain rfl := someO h
              exact Ends.mkG (.inl rfl) rfl (gh_pk [0] [] hB rfl rfl rfl rfl) rfl rfl
            · skip
              refine Run.skip ?_
              refine Run.ops hm ?_
              refine Ops.p rfl ?_
              refine Ops.p rfl ?_
              refine Ops.p rfl ?_
              refine Ops.nil ?_
              refine Run.ops hm ?_
              refine Ops.p rfl ?_
              refine Ops.p rfl ?_
              refine Ops.p rfl ?_
              refine Ops.nil ?_
              exact ⟨m_362, Nat.lt_succ_self m_362, _, _, (gh_pk [0, 1, 5] [] hB rfl rfl rfl rfl), _, _, h, rfl, rfl⟩
    · skip
      refine Run.exit ?_
      obtain rfl := someO h
      have h := hk_362
      replace h := inrO h
      exact ⟨_, _, (gh_pk [1] [] hB rfl rfl rfl rfl), x_325, h, rfl, rfl⟩
  · skip
    refine Run.seq ?_
    refine Run.ops hm ?_
    refine Ops.p rfl ?_
    refine Ops.p rfl ?_
    refine Ops.nil ?_
    refine Run.ret ?_
    obtain rfl := someO h
    exact Ends.mkG (.inl rfl) rfl (gh_pk [0] [] hB rfl rfl rfl rfl) rfl rfl
def laws_heldNode (N : Nat) (x_1 : Node) (x_2 : Int) : Option (Int) :=
 (laws_heldIntS N x_1.Conf x_2).bind fun y_117 =>
 (if (decide (y_117 < (0 : Int))) = true then
 some (-1 : Int)
 else
 (laws_heldLog N x_1.Log y_117).bind fun y_121 =>
 (if (decide (y_121 < (0 : Int))) = true then
 some (-1 : Int)
 else
 (laws_heldIntS N x_1.Votes y_121).bind fun y_125 =>
 (if (decide (y_125 < (0 : Int))) = true then
 some (-1 : Int)
 else
 (laws_heldPeerS N x_1.Peers y_125).bind fun y_129 =>
 (if (decide (y_129 < (0 : Int))) = true then
 some (-1 : Int)
 else
 some y_129))))
theorem sem_laws_heldNode (N : Nat) (x_1 : Node) (x_2 : Int) (r : Int) (h : laws_heldNode N x_1 x_2 = some r) : Says Try.prog 67 [.agg [VI x_1.Id, VI x_1.Term, VI x_1.Vote, VI x_1.Role, VI x_1.Lead, RO 3 (x_1.Conf.map encI), VI x_1.Log.Start, VI x_1.Log.StartTerm, RO 48 (x_1.Log.Entries.map encEntry), VI x_1.Commit, VI x_1.Clock, VI x_1.Limit, RO 3 (x_1.Votes.map encI), RO 172 (x_1.Peers.map encPeer)], VI x_2] 0 [] (VI r) [] := by
  unfold laws_heldNode at h
  refine Says.of_run s67 Try.call67 rfl fun B hB => ?_
  have hm : B.m ≤ 1000 := by omega
  refine Run.seq ?_
  refine Run.ops hm ?_
  refine Ops.st (s := 1000) (.bx rfl rfl) rfl rfl ?_
  refine Ops.p rfl ?_
  refine Ops.nil ?_
  refine Run.seq ?_
  refine Run.ops hm ?_
  refine Ops.p rfl ?_
  refine Ops.p rfl ?_
  refine Ops.p rfl ?_
  obtain ⟨y_117, hy_117, h⟩ := bindO h
  refine Ops.st (s := 5144) (Ev.call [] [] 0 (sem_laws_heldIntS N x_1.Conf x_2 _ hy_117) rfl rfl (.cons (.c _) (.cons (.c _) .nil)) rfl (.inl rfl) rfl rfl) rfl rfl ?_
  refine Ops.p rfl ?_
  refine Ops.nil ?_
  refine Run.seq ?_
  refine Run.seq ?_
  refine Run.ops hm ?_
  refine Ops.p rfl ?_
  refine Ops.p rfl ?_
  refine Ops.nil ?_
  refine Run.condO rfl h (fun g_119 h => ?_) (fun g_119 h => ?_)
  · skip
    refine Run.seq ?_
    refine Run.ops hm ?_
    refine Ops.p rfl ?_
    refine Ops.nil ?_
    refine Run.ret ?_
    obtain rfl := someO h
    exact Ends.mkG (.inl rfl) rfl (gh_pk [0] [] hB rfl rfl rfl rfl) rfl rfl
  · skip
    refine Run.skip ?_
    refine Run.seq ?_
    refine Run.ops hm ?_
    refine Ops.p rfl ?_
    refine Ops.p rfl ?_
    refine Ops.p rfl ?_
    obtain ⟨y_121, hy_121, h⟩ := bindO h
    refine Ops.st (s := 17432) (Ev.call [] [] 0 (sem_laws_heldLog N x_1.Log y_117 _ hy_121) rfl rfl (.cons (.agg (.cons (.c _) (.cons (.c _) (.cons (.c _) .nil)))) (.cons (.c _) .nil)) rfl (.inl rfl) rfl rfl) rfl rfl ?_
    refine Ops.p rfl ?_
    refine Ops.nil ?_
    refine Run.seq ?_
    refine Run.seq ?_
    refine Run.ops hm ?_
    refine Ops.p rfl ?_
    refine Ops.p rfl ?_
    refine Ops.nil ?_
    refine Run.condO rfl h (fun g_123 h => ?_) (fun g_123 h => ?_)
    · skip
      refine Run.seq ?_
      refine Run.ops hm ?_
      refine Ops.p rfl ?_
      refine Ops.nil ?_
      refine Run.ret ?_
      obtain rfl := someO h
      exact Ends.mkG (.inl rfl) rfl (gh_pk [0] [] hB rfl rfl rfl rfl) rfl rfl
    · skip
      refine Run.skip ?_
      refine Run.seq ?_
      refine Run.ops hm ?_
      refine Ops.p rfl ?_
      refine Ops.p rfl ?_
      refine Ops.p rfl ?_
      obtain ⟨y_125, hy_125, h⟩ := bindO h
      refine Ops.st (s := 29720) (Ev.call [] [] 0 (sem_laws_heldIntS N x_1.Votes y_121 _ hy_125) rfl rfl (.cons (.c _) (.cons (.c _) .nil)) rfl (.inl rfl) rfl rfl) rfl rfl ?_
      refine Ops.p rfl ?_
      refine Ops.nil ?_
      refine Run.seq ?_
      refine Run.seq ?_
      refine Run.ops hm ?_
      refine Ops.p rfl ?_
      refine Ops.p rfl ?_
      refine Ops.nil ?_
      refine Run.condO rfl h (fun g_127 h => ?_) (fun g_127 h => ?_)
      · skip
        refine Run.seq ?_
        refine Run.ops hm ?_
        refine Ops.p rfl ?_
        refine Ops.nil ?_
        refine Run.ret ?_
        obtain rfl := someO h
        exact Ends.mkG (.inl rfl) rfl (gh_pk [0] [] hB rfl rfl rfl rfl) rfl rfl
      · skip
        refine Run.skip ?_
        refine Run.seq ?_
        refine Run.ops hm ?_
        refine Ops.p rfl ?_
        refine Ops.p rfl ?_
        refine Ops.p rfl ?_
        obtain ⟨y_129, hy_129, h⟩ := bindO h
        refine Ops.st (s := 42008) (Ev.call [] [] 0 (sem_laws_heldPeerS N x_1.Peers y_125 _ hy_129) rfl rfl (.cons (.c _) (.cons (.c _) .nil)) rfl (.inl rfl) rfl rfl) rfl rfl ?_
        refine Ops.p rfl ?_
        refine Ops.nil ?_
        refine Run.seq ?_
        refine Run.seq ?_
        refine Run.ops hm ?_
        refine Ops.p rfl ?_
        refine Ops.p rfl ?_
        refine Ops.nil ?_
        refine Run.condO rfl h (fun g_131 h => ?_) (fun g_131 h => ?_)
        · skip
          refine Run.seq ?_
          refine Run.ops hm ?_
          refine Ops.p rfl ?_
          refine Ops.nil ?_
          refine Run.ret ?_
          obtain rfl := someO h
          exact Ends.mkG (.inl rfl) rfl (gh_pk [0] [] hB rfl rfl rfl rfl) rfl rfl
        · skip
          refine Run.skip ?_
          refine Run.seq ?_
          refine Run.ops hm ?_
          refine Ops.p rfl ?_
          refine Ops.p rfl ?_
          refine Ops.nil ?_
          refine Run.ret ?_
          obtain rfl := someO h
          exact Ends.mkG (.inl rfl) rfl (gh_pk [0] [] hB rfl rfl rfl rfl) rfl rfl
def laws_FnExactNodeNew (N : Nat) (x_1 : Int) (x_2 : (List Int)) : Option (Bool) :=
 (if (decide ((x_2.length : Int) > (1048576 : Int))) = true then
 some true
 else
 (laws_toIntS N x_2).bind fun y_167 =>
 (spec_NodeNew N x_1 y_167).bind fun y_168 =>
 (laws_toIntS N x_2).bind fun y_170 =>
 (impl_NodeNew N x_1 y_170).bind fun y_172 =>
 (laws_eqNode N y_172.1 y_168.1).bind fun y_176 =>
 (if (!y_176) = true then
 some false
 else
 (if ((y_172.2 == y_168.2) ^^ true) = true then
 some false
 else
 (laws_toIntS N x_2).bind fun y_182 =>
 (laws_eqIntS N y_170 y_182).bind fun y_183 =>
 (if (!y_183) = true then
 some false
 else
 (laws_markIntS N y_170 (1 : Int)).bind fun y_187 =>
 (len? y_170 y_187.2).bind fun y_188 =>
 (if (decide (y_187.1 < (0 : Int))) = true then
 some false
 else
 (laws_eqNode N y_172.1 y_168.1).bind fun y_193 =>
 (if (!y_193) = true then
 some false
 else
 (laws_markNode N y_172.1 (1 : Int)).bind fun y_200 =>
 (len? y_172.1.Conf y_200.2.1).bind fun y_201 =>
 (len? y_172.1.Log.Entries y_200.2.2.1).bind fun y_202 =>
 (len? y_172.1.Votes y_200.2.2.2.1).bind fun y_203 =>
 (len? y_172.1.Peers y_200.2.2.2.2).bind fun y_204 =>
 (laws_heldNode N (Node.mk y_172.1.Id y_172.1.Term y_172.1.Vote y_172.1.Role y_172.1.Lead y_200.2.1 (Log.mk y_172.1.Log.Start y_172.1.Log.StartTerm y_200.2.2.1) y_172.1.Commit y_172.1.Clock y_172.1.Limit y_200.2.2.2.1 y_200.2.2.2.2) (1 : Int)).bind fun y_206 =>
 (if (decide (y_206 < (0 : Int))) = true then
 some false
 else
 (if (y_206 != y_200.1) = true then
 some false
 else
 (laws_toIntS N x_2).bind fun y_213 =>
 (impl_NodeNew N x_1 y_213).bind fun y_214 =>
 (laws_eqNode N y_214.1 y_168.1).bind fun y_218 =>
 (if (!y_218) = true then
 some false
 else
 (if ((y_214.2 == y_168.2) ^^ true) = true then
 some false
 else
 (laws_heldNode N (Node.mk y_172.1.Id y_172.1.Term y_172.1.Vote y_172.1.Role y_172.1.Lead y_200.2.1 (Log.mk y_172.1.Log.Start y_172.1.Log.StartTerm y_200.2.2.1) y_172.1.Commit y_172.1.Clock y_172.1.Limit y_200.2.2.2.1 y_200.2.2.2.2) (1 : Int)).bind fun y_222 =>
 (if (decide (y_222 < (0 : Int))) = true then
 some false
 else
 (if (y_222 != y_200.1) = true then
 some false
 else
 some true))))))))))))
theorem sem_laws_FnExactNodeNew (N : Nat) (x_1 : Int) (x_2 : (List Int)) (r : Bool) (h : laws_FnExactNodeNew N x_1 x_2 = some r) : Says Try.prog 13 [VI x_1, RO 3 (x_2.map encI)] 0 [] (VB r) [] := by
  unfold laws_FnExactNodeNew at h
  refine Says.of_run s13 Try.call13 rfl fun B hB => ?_
  have hm : B.m ≤ 1000 := by omega
  refine Run.seq ?_
  refine Run.ops hm ?_
  refine Ops.p rfl ?_
  refine Ops.nil ?_
  refine Run.seq ?_
  refine Run.seq ?_
  refine Run.ops hm ?_
  refine Ops.p rfl ?_
  refine Ops.st (s := 5112) (Ev.lnF rfl) rfl rfl ?_
  refine Ops.p rfl ?_
  refine Ops.nil ?_
  refine Run.condO rfl h (fun g_164 h => ?_) (fun g_164 h => ?_)
  · skip
    refine Run.seq ?_
    refine Run.ops hm ?_
    refine Ops.p rfl ?_
    refine Ops.nil ?_
    refine Run.ret ?_
    obtain rfl := someO h
    exact Ends.mkG (.inl rfl) rfl (gh_pk [0] [] hB rfl rfl rfl rfl) rfl rfl
  · skip
    refine Run.skip ?_
    refine Run.seq ?_
    refine Run.ops hm ?_
    refine Ops.p rfl ?_
    refine Ops.p rfl ?_
    obtain ⟨y_167, hy_167, h⟩ := bindO h
    refine Ops.st (s := 13320) (Ev.call [] [] 1 (sem_laws_toIntS N x_2 _ hy_167) rfl rfl (.cons (.c _) .nil) rfl (.inl rfl) rfl rfl) rfl rfl ?_
    obtain ⟨y_168, hy_168, h⟩ := bindO h
    refine Ops.st (s := 13336) (Ev.call [] [13320] 4 (sem_spec_NodeNew N x_1 y_167 _ hy_168) rfl rfl (.cons (.c _) (.cons (.borrow rfl (by decide) (lendW (fun _ => rfl) _ rfl)) .nil)) rfl (.inr ⟨rfl, ownL_root ⟨own_rows (fun _ => rfl) _, own_rows (fun _ => rfl) _, own_rows (fun _ => rfl) _, own_rows (fun _ => rfl) _, trivial⟩⟩) rfl rfl) rfl rfl ?_
    refine Ops.p rfl ?_
    refine Ops.p rfl ?_
    refine Ops.p rfl ?_
    refine Ops.st (s := 13400) (.al rfl rfl) rfl rfl ?_
    refine Ops.s0 (s := 13416) (.sto rfl rfl rfl rfl rfl rfl) rfl rfl ?_
    refine Ops.p rfl ?_
    refine Ops.nil ?_
    refine Run.seq ?_
    refine Run.ops hm ?_
    refine Ops.p rfl ?_
    obtain ⟨y_170, hy_170, h⟩ := bindO h
    refine Ops.st (s := 17400) (Ev.call [] [] 1 (sem_laws_toIntS N x_2 _ hy_170) rfl rfl (.cons (.c _) .nil) rfl (.inl rfl) rfl rfl) rfl rfl ?_
    refine Ops.p rfl ?_
    refine Ops.nil ?_
    refine Run.seq ?_
    refine Run.ops hm ?_
    refine Ops.p rfl ?_
    refine Ops.p rfl ?_
    obtain ⟨y_172, hy_172, h⟩ := bindO h
    refine Ops.st (s := 21512) (Ev.call [] [17400] 4 (sem_impl_NodeNew N x_1 y_170 _ hy_172) rfl rfl (.cons (.c _) (.cons (.borrow rfl (by decide) (lendW (fun _ => rfl) _ rfl)) .nil)) rfl (.inr ⟨rfl, ownL_root ⟨own_rows (fun _ => rfl) _, own_rows (fun _ => rfl) _, own_rows (fun _ => rfl) _, own_rows (fun _ => rfl) _, trivial⟩⟩) rfl rfl) rfl rfl ?_
    refine Ops.p rfl ?_
    refine Ops.p rfl ?_
    refine Ops.p rfl ?_
    refine Ops.st (s := 21576) (.al rfl rfl) rfl rfl ?_
    refine Ops.s0 (s := 21592) (.sto rfl rfl rfl rfl rfl rfl) rfl rfl ?_
    refine Ops.p rfl ?_
    refine Ops.nil ?_
    refine Run.seq ?_
    refine Run.seq ?_
    refine Run.ops hm ?_
    refine Ops.p rfl ?_
    refine Ops.p rfl ?_
    obtain ⟨y_176, hy_176, h⟩ := bindO h
    refine Ops.st (s := 25608) (Ev.call [] [21512, 21513, 21514, 21515, 13336, 13337, 13338, 13339] 0 (sem_laws_eqNode N y_172.1 y_168.1 _ hy_176) rfl rfl (.cons (.agg (.cons (.c _) (.cons (.c _) (.cons (.c _) (.cons (.c _) (.cons (.c _) (.cons (.borrow rfl (by decide) (lendW (fun _ => rfl) _ rfl)) (.cons (.c _) (.cons (.c _) (.cons (.borrow rfl (by decide) (lendW (fun _ => rfl) _ rfl)) (.cons (.c _) (.cons (.c _) (.cons (.c _) (.cons (.borrow rfl (by decide) (lendW (fun _ => rfl) _ rfl)) (.cons (.borrow rfl (by decide) (lendW (fun _ => rfl) _ rfl)) .nil))))))))))))))) (.cons (.agg (.cons (.c _) (.cons (.c _) (.cons (.c _) (.cons (.c _) (.cons (.c _) (.cons (.borrow rfl (by decide) (lendW (fun _ => rfl) _ rfl)) (.cons (.c _) (.cons (.c _) (.cons (.borrow rfl (by decide) (lendW (fun _ => rfl) _ rfl)) (.cons (.c _) (.cons (.c _) (.cons (.c _) (.cons (.borrow rfl (by decide) (lendW (fun _ => rfl) _ rfl)) (.cons (.borrow rfl (by decide) (lendW (fun _ => rfl) _ rfl)) .nil))))))))))))))) .nil)) rfl (.inr ⟨rfl, ownL_root trivial⟩) rfl rfl) rfl rfl ?_
    refine Ops.p rfl ?_
    refine Ops.p rfl ?_
    refine Ops.askO (x := .t 37) rfl h (fun g_177 h => ?_) (fun g_177 h => ?_)
    · skip
      refine Ops.gn rfl g_177 ?_
      refine Ops.gn rfl g_177 ?_
      refine Ops.gn rfl g_177 ?_
      refine Ops.st (s := 25704) (.pkT rfl g_177 rfl) rfl rfl ?_
      refine Ops.nil ?_
      refine Run.condT rfl rfl ?_
      refine Run.seq ?_
      refine Run.ops hm ?_
      refine Ops.p rfl ?_
      refine Ops.nil ?_
      refine Run.ret ?_
      obtain rfl := someO h
      exact Ends.mkG (.inl rfl) rfl (gh_pk [0] [] hB rfl rfl rfl rfl) rfl rfl
    · skip
      refine Ops.gp rfl g_177 rfl ?_
      refine Ops.gp rfl g_177 rfl ?_
      refine Ops.gp rfl g_177 rfl ?_
      refine Ops.st (s := 25704) (.pkF rfl g_177 rfl) rfl rfl ?_
      refine Ops.nil ?_
      refine Run.condO rfl h (fun g_178 h => ?_) (fun g_178 h => ?_)
      · skip
        refine Run.seq ?_
        refine Run.ops hm ?_
        refine Ops.p rfl ?_
        refine Ops.nil ?_
        refine Run.ret ?_
        obtain rfl := someO h
        exact Ends.mkG (.inl rfl) rfl (gh_pk [0] [] hB rfl rfl rfl rfl) rfl rfl
      · skip
        refine Run.skip ?_
        refine Run.seq ?_
        refine Run.seq ?_
        refine Run.ops hm ?_
        refine Ops.p rfl ?_
        refine Ops.p rfl ?_
        obtain ⟨y_182, hy_182, h⟩ := bindO h
        refine Ops.st (s := 33800) (Ev.call [] [] 1 (sem_laws_toIntS N x_2 _ hy_182) rfl rfl (.cons (.c _) .nil) rfl (.inl rfl) rfl rfl) rfl rfl ?_
        obtain ⟨y_183, hy_183, h⟩ := bindO h
        refine Ops.st (s := 33816) (Ev.call [] [17400, 33800] 0 (sem_laws_eqIntS N y_170 y_182 _ hy_183) rfl rfl (.cons (.borrow rfl (by decide) (lendW (fun _ => rfl) _ rfl)) (.cons (.borrow rfl (by decide) (lendW (fun _ => rfl) _ rfl)) .nil)) rfl (.inr ⟨rfl, ownL_root trivial⟩) rfl rfl) rfl rfl ?_
        refine Ops.p rfl ?_
        refine Ops.nil ?_
        refine Run.condO rfl h (fun g_184 h => ?_) (fun g_184 h => ?_)
        · skip
          refine Run.seq ?_
          refine Run.ops hm ?_
          refine Ops.p rfl ?_
          refine Ops.nil ?_
          refine Run.ret ?_
          obtain rfl := someO h
          exact Ends.mkG (.inl rfl) rfl (gh_pk [0] [] hB rfl rfl rfl rfl) rfl rfl
        · skip
          refine Run.skip ?_
          refine Run.seq ?_
          refine Run.ops hm ?_
          refine Ops.p rfl ?_
          refine Ops.nil ?_
          refine Run.seq ?_
          refine Run.ops hm ?_
          refine Ops.p rfl ?_
          refine Ops.p rfl ?_
          obtain ⟨y_187, hy_187, h⟩ := bindO h
          obtain ⟨y_188, hy_188, h⟩ := bindO h
          refine Ops.st (s := 46088) (Ev.call [17400] [] 0 (sem_laws_markIntS N y_170 (1 : Int) _ hy_187) rfl rfl (.cons (.sl rfl) (.cons (.c _) .nil)) rfl (.inl rfl) rfl rfl) rfl rfl ?_
          refine Ops.p rfl ?_
          refine Ops.nil ?_
          refine Run.seq ?_
          refine Run.seq ?_
          refine Run.ops hm ?_
          refine Ops.p rfl ?_
          refine Ops.p rfl ?_
          refine Ops.p rfl ?_
          refine Ops.askO (x := .t 52) rfl h (fun g_192 h => ?_) (fun g_192 h => ?_)
          · skip
            refine Ops.gn rfl g_192 ?_
            refine Ops.gn rfl g_192 ?_
            refine Ops.gn rfl g_192 ?_
            refine Ops.gn rfl g_192 ?_
            refine Ops.st (s := 50264) (.pkT rfl g_192 rfl) rfl rfl ?_
            refine Ops.p rfl ?_
            refine Ops.gn rfl rfl ?_
            refine Ops.gn rfl rfl ?_
            refine Ops.gn rfl rfl ?_
            refine Ops.st (s := 50344) (.pkT rfl rfl rfl) rfl rfl ?_
            refine Ops.nil ?_
            refine Run.condT rfl rfl ?_
            refine Run.seq ?_
            refine Run.ops hm ?_
            refine Ops.p rfl ?_
            refine Ops.nil ?_
            refine Run.ret ?_
            obtain rfl := someO h
            exact Ends.mkG (.inl rfl) rfl (gh_pk [0] [] hB rfl rfl rfl rfl) rfl rfl
          · skip
            refine Ops.gp rfl g_192 rfl ?_
            refine Ops.gp rfl g_192 rfl ?_
            obtain ⟨y_193, hy_193, h⟩ := bindO h
            refine Ops.gs (s := 50232) rfl g_192 (Ev.call [] [21512, 21513, 21514, 21515, 13336, 13337, 13338, 13339] 0 (sem_laws_eqNode N y_172.1 y_168.1 _ hy_193) rfl rfl (.cons (.agg (.cons (.c _) (.cons (.c _) (.cons (.c _) (.cons (.c _) (.cons (.c _) (.cons (.borrow rfl (by decide) (lendW (fun _ => rfl) _ rfl)) (.cons (.c _) (.cons (.c _) (.cons (.borrow rfl (by decide) (lendW (fun _ => rfl) _ rfl)) (.cons (.c _) (.cons (.c _) (.cons (.c _) (.cons (.borrow rfl (by decide) (lendW (fun _ => rfl) _ rfl)) (.cons (.borrow rfl (by decide) (lendW (fun _ => rfl) _ rfl)) .nil))))))))))))))) (.cons (.agg (.cons (.c _) (.cons (.c _) (.cons (.c _) (.cons (.c _) (.cons (.c _) (.cons (.borrow rfl (by decide) (lendW (fun _ => rfl) _ rfl)) (.cons (.c _) (.cons (.c _) (.cons (.borrow rfl (by decide) (lendW (fun _ => rfl) _ rfl)) (.cons (.c _) (.cons (.c _) (.cons (.c _) (.cons (.borrow rfl (by decide) (lendW (fun _ => rfl) _ rfl)) (.cons (.borrow rfl (by decide) (lendW (fun _ => rfl) _ rfl)) .nil))))))))))))))) .nil)) rfl (.inr ⟨rfl, ownL_root trivial⟩) rfl rfl) rfl rfl ?_
            refine Ops.gp rfl g_192 rfl ?_
            refine Ops.st (s := 50264) (.pkF rfl g_192 rfl) rfl rfl ?_
            refine Ops.p rfl ?_
            refine Ops.askO (x := .t 58) rfl h (fun g_194 h => ?_) (fun g_194 h => ?_)
            · skip
              refine Ops.gn rfl g_194 ?_
              refine Ops.gn rfl g_194 ?_
              refine Ops.gn rfl g_194 ?_
              refine Ops.st (s := 50344) (.pkT rfl g_194 rfl) rfl rfl ?_
              refine Ops.nil ?_
              refine Run.condT rfl rfl ?_
              refine Run.seq ?_
              refine Run.ops hm ?_
              refine Ops.p rfl ?_
              refine Ops.nil ?_
              refine Run.ret ?_
              obtain rfl := someO h
              exact Ends.mkG (.inl rfl) rfl (gh_pk [0] [] hB rfl rfl rfl rfl) rfl rfl
            · skip
              refine Ops.gp rfl g_194 rfl ?_
              refine Ops.gp rfl g_194 rfl ?_
              refine Ops.gp rfl g_194 rfl ?_
              refine Ops.st (s := 50344) (.pkF rfl g_194 rfl) rfl rfl ?_
              refine Ops.nil ?_
              refine Run.condF rfl g_178 ?_
              refine Run.skip ?_
              refine Run.seq ?_
              refine Run.ops hm ?_
              refine Ops.p rfl ?_
              refine Ops.nil ?_
              refine Run.seq ?_
              refine Run.ops hm ?_
              refine Ops.p rfl ?_
              refine Ops.p rfl ?_
              obtain ⟨y_200, hy_200, h⟩ := bindO h
              obtain ⟨y_201, hy_201, h⟩ := bindO h
              obtain ⟨y_202, hy_202, h⟩ := bindO h
              obtain ⟨y_203, hy_203, h⟩ := bindO h
              obtain ⟨y_204, hy_204, h⟩ := bindO h
              refine Ops.st (s := 62472) (Ev.call [21512, 21513, 21514, 21515] [] 0 (sem_laws_markNode N y_172.1 (1 : Int) _ hy_200) rfl rfl (.cons (.agg (.cons (.c _) (.cons (.c _) (.cons (.c _) (.cons (.c _) (.cons (.c _) (.cons (.sl rfl) (.cons (.c _) (.cons (.c _) (.cons (.sl rfl) (.cons (.c _) (.cons (.c _) (.cons (.c _) (.cons (.sl rfl) (.cons (.sl rfl) .nil))))))))))))))) (.cons (.c _) .nil)) rfl (.inl rfl) rfl rfl) rfl rfl ?_
              refine Ops.p rfl ?_
              refine Ops.nil ?_
              refine Run.seq ?_
              refine Run.ops hm ?_
              refine Ops.p rfl ?_
              refine Ops.nil ?_
              refine Run.seq ?_
              refine Run.ops hm ?_
              refine Ops.p rfl ?_
              refine Ops.p rfl ?_
              obtain ⟨y_206, hy_206, h⟩ := bindO h
              refine Ops.st (s := 70664) (Ev.call [] [21512, 21513, 21514, 21515] 0 (sem_laws_heldNode N (Node.mk y_172.1.Id y_172.1.Term y_172.1.Vote y_172.1.Role y_172.1.Lead y_200.2.1 (Log.mk y_172.1.Log.Start y_172.1.Log.StartTerm y_200.2.2.1) y_172.1.Commit y_172.1.Clock y_172.1.Limit y_200.2.2.2.1 y_200.2.2.2.2) (1 : Int) _ hy_206) rfl rfl (.cons (.agg (.cons (.c _) (.cons (.c _) (.cons (.c _) (.cons (.c _) (.cons (.c _) (.cons (.borrow rfl (by decide) (lendW (fun _ => rfl) _ (len_some hy_201))) (.cons (.c _) (.cons (.c _) (.cons (.borrow rfl (by decide) (lendW (fun _ => rfl) _ (len_some hy_202))) (.cons (.c _) (.cons (.c _) (.cons (.c _) (.cons (.borrow rfl (by decide) (lendW (fun _ => rfl) _ (len_some hy_203))) (.cons (.borrow rfl (by decide) (lendW (fun _ => rfl) _ (len_some hy_204))) .nil))))))))))))))) (.cons (.c _) .nil)) rfl (.inr ⟨rfl, ownL_root trivial⟩) rfl rfl) rfl rfl ?_
              refine Ops.p rfl ?_
              refine Ops.nil ?_
              refine Run.seq ?_
              refine Run.seq ?_
              refine Run.ops hm ?_
              refine Ops.p rfl ?_
              refine Ops.p rfl ?_
              refine Ops.nil ?_
              refine Run.condO rfl h (fun g_208 h => ?_) (fun g_208 h => ?_)
              · skip
                refine Run.seq ?_
                refine Run.ops hm ?_
                refine Ops.p rfl ?_
                refine Ops.nil ?_
                refine Run.ret ?_
                obtain rfl := someO h
                exact Ends.mkG (.inl rfl) rfl (gh_pk [0] [] hB rfl rfl rfl rfl) rfl rfl
              · skip
                refine Run.skip ?_
                refine Run.seq ?_
                refine Run.seq ?_
                refine Run.ops hm ?_
                refine Ops.p rfl ?_
                refine Ops.p rfl ?_
                refine Ops.p rfl ?_
                refine Ops.nil ?_
                refine Run.condO rfl h (fun g_210 h => ?_) (fun g_210 h => ?_)
                · skip
                  refine Run.seq ?_
                  refine Run.ops hm ?_
                  refine Ops.p rfl ?_
                  refine Ops.nil ?_
                  refine Run.ret ?_
                  obtain rfl := someO h
                  exact Ends.mkG (.inl rfl) rfl (gh_pk [0] [] hB rfl rfl rfl rfl) rfl rfl
                · skip
                  refine Run.skip ?_
                  refine Run.seq ?_
                  refine Run.ops hm ?_
                  refine Ops.p rfl ?_
                  refine Ops.p rfl ?_
                  obtain ⟨y_213, hy_213, h⟩ := bindO h
                  refine Ops.st (s := 91144) (Ev.call [] [] 1 (sem_laws_toIntS N x_2 _ hy_213) rfl rfl (.cons (.c _) .nil) rfl (.inl rfl) rfl rfl) rfl rfl ?_
                  obtain ⟨y_214, hy_214, h⟩ := bindO h
                  refine Ops.st (s := 91160) (Ev.call [] [91144] 4 (sem_impl_NodeNew N x_1 y_213 _ hy_214) rfl rfl (.cons (.c _) (.cons (.borrow rfl (by decide) (lendW (fun _ => rfl) _ rfl)) .nil)) rfl (.inr ⟨rfl, ownL_root ⟨own_rows (fun _ => rfl) _, own_rows (fun _ => rfl) _, own_rows (fun _ => rfl) _, own_rows (fun _ => rfl) _, trivial⟩⟩) rfl rfl) rfl rfl ?_
                  refine Ops.p rfl ?_
                  refine Ops.p rfl ?_
                  refine Ops.p rfl ?_
                  refine Ops.st (s := 91224) (.al rfl rfl) rfl rfl ?_
                  refine Ops.s0 (s := 91240) (.sto rfl rfl rfl rfl rfl rfl) rfl rfl ?_
                  refine Ops.p rfl ?_
                  refine Ops.nil ?_
                  refine Run.seq ?_
                  refine Run.seq ?_
                  refine Run.ops hm ?_
                  refine Ops.p rfl ?_
                  refine Ops.p rfl ?_
                  obtain ⟨y_218, hy_218, h⟩ := bindO h
                  refine Ops.st (s := 95240) (Ev.call [] [91160, 91161, 91162, 91163, 13336, 13337, 13338, 13339] 0 (sem_laws_eqNode N y_214.1 y_168.1 _ hy_218) rfl rfl (.cons (.agg (.cons (.c _) (.cons (.c _) (.cons (.c _) (.cons (.c _) (.cons (.c _) (.cons (.borrow rfl (by decide) (lendW (fun _ => rfl) _ rfl)) (.cons (.c _) (.cons (.c _) (.cons (.borrow rfl (by decide) (lendW (fun _ => rfl) _ rfl)) (.cons (.c _) (.cons (.c _) (.cons (.c _) (.cons (.borrow rfl (by decide) (lendW (fun _ => rfl) _ rfl)) (.cons (.borrow rfl (by decide) (lendW (fun _ => rfl) _ rfl)) .nil))))))))))))))) (.cons (.agg (.cons (.c _) (.cons (.c _) (.cons (.c _) (.cons (.c _) (.cons (.c _) (.cons (.borrow rfl (by decide) (lendW (fun _ => rfl) _ rfl)) (.cons (.c _) (.cons (.c _) (.cons (.borrow rfl (by decide) (lendW (fun _ => rfl) _ rfl)) (.cons (.c _) (.cons (.c _) (.cons (.c _) (.cons (.borrow rfl (by decide) (lendW (fun _ => rfl) _ rfl)) (.cons (.borrow rfl (by decide) (lendW (fun _ => rfl) _ rfl)) .nil))))))))))))))) .nil)) rfl (.inr ⟨rfl, ownL_root trivial⟩) rfl rfl) rfl rfl ?_
                  refine Ops.p rfl ?_
                  refine Ops.p rfl ?_
                  refine Ops.askO (x := .t 85) rfl h (fun g_219 h => ?_) (fun g_219 h => ?_)
                  · skip
                    refine Ops.gn rfl g_219 ?_
                    refine Ops.gn rfl g_219 ?_
                    refine Ops.gn rfl g_219 ?_
                    refine Ops.st (s := 95336) (.pkT rfl g_219 rfl) rfl rfl ?_
                    refine Ops.nil ?_
                    refine Run.condT rfl rfl ?_
                    refine Run.seq ?_
                    refine Run.ops hm ?_
                    refine Ops.p rfl ?_
                    refine Ops.nil ?_
                    refine Run.ret ?_
                    obtain rfl := someO h
                    exact Ends.mkG (.inl rfl) rfl (gh_pk [0] [] hB rfl rfl rfl rfl) rfl rfl
                  · skip
                    refine Ops.gp rfl g_219 rfl ?_
                    refine Ops.gp rfl g_219 rfl ?_
                    refine Ops.gp rfl g_219 rfl ?_
                    refine Ops.st (s := 95336) (.pkF rfl g_219 rfl) rfl rfl ?_
                    refine Ops.nil ?_
                    refine Run.condO rfl h (fun g_220 h => ?_) (fun g_220 h => ?_)
                    · skip
                      refine Run.seq ?_
                      refine Run.ops hm ?_
                      refine Ops.p rfl ?_
                      refine Ops.nil ?_
                      refine Run.ret ?_
                      obtain rfl := someO h
                      exact Ends.mkG (.inl rfl) rfl (gh_pk [0] [] hB rfl rfl rfl rfl) rfl rfl
                    · skip
                      refine Run.skip ?_
                      refine Run.seq ?_
                      refine Run.ops hm ?_
                      refine Ops.p rfl ?_
                      refine Ops.nil ?_
                      refine Run.seq ?_
                      refine Run.ops hm ?_
                      refine Ops.p rfl ?_
                      refine Ops.p rfl ?_
                      obtain ⟨y_222, hy_222, h⟩ := bindO h
                      refine Ops.st (s := 107528) (Ev.call [] [21512, 21513, 21514, 21515] 0 (sem_laws_heldNode N (Node.mk y_172.1.Id y_172.1.Term y_172.1.Vote y_172.1.Role y_172.1.Lead y_200.2.1 (Log.mk y_172.1.Log.Start y_172.1.Log.StartTerm y_200.2.2.1) y_172.1.Commit y_172.1.Clock y_172.1.Limit y_200.2.2.2.1 y_200.2.2.2.2) (1 : Int) _ hy_222) rfl rfl (.cons (.agg (.cons (.c _) (.cons (.c _) (.cons (.c _) (.cons (.c _) (.cons (.c _) (.cons (.borrow rfl (by decide) (lendW (fun _ => rfl) _ (len_some hy_201))) (.cons (.c _) (.cons (.c _) (.cons (.borrow rfl (by decide) (lendW (fun _ => rfl) _ (len_some hy_202))) (.cons (.c _) (.cons (.c _) (.cons (.c _) (.cons (.borrow rfl (by decide) (lendW (fun _ => rfl) _ (len_some hy_203))) (.cons (.borrow rfl (by decide) (lendW (fun _ => rfl) _ (len_some hy_204))) .nil))))))))))))))) (.cons (.c _) .nil)) rfl (.inr ⟨rfl, ownL_root trivial⟩) rfl rfl) rfl rfl ?_
                      refine Ops.p rfl ?_
                      refine Ops.nil ?_
                      refine Run.seq ?_
                      refine Run.seq ?_
                      refine Run.ops hm ?_
                      refine Ops.p rfl ?_
                      refine Ops.p rfl ?_
                      refine Ops.nil ?_
                      refine Run.condO rfl h (fun g_224 h => ?_) (fun g_224 h => ?_)
                      · skip
                        refine Run.seq ?_
                        refine Run.ops hm ?_
                        refine Ops.p rfl ?_
                        refine Ops.nil ?_
                        refine Run.ret ?_
                        obtain rfl := someO h
                        exact Ends.mkG (.inl rfl) rfl (gh_pk [0] [] hB rfl rfl rfl rfl) rfl rfl
                      · skip
                        refine Run.skip ?_
                        refine Run.seq ?_
                        refine Run.seq ?_
                        refine Run.ops hm ?_
                        refine Ops.p rfl ?_
                        refine Ops.p rfl ?_
                        refine Ops.p rfl ?_
                        refine Ops.nil ?_
                        refine Run.condO rfl h (fun g_225 h => ?_) (fun g_225 h => ?_)
                        · skip
                          refine Run.seq ?_
                          refine Run.ops hm ?_
                          refine Ops.p rfl ?_
                          refine Ops.nil ?_
                          refine Run.ret ?_
                          obtain rfl := someO h
                          exact Ends.mkG (.inl rfl) rfl (gh_pk [0] [] hB rfl rfl rfl rfl) rfl rfl
                        · skip
                          refine Run.skip ?_
                          refine Run.seq ?_
                          refine Run.ops hm ?_
                          refine Ops.p rfl ?_
                          refine Ops.nil ?_
                          refine Run.ret ?_
                          obtain rfl := someO h
                          exact Ends.mkG (.inl rfl) rfl (gh_pk [0] [] hB rfl rfl rfl rfl) rfl rfl
end Go.Proofs.Ytebbgdjmplceiaa.Pe.FnExactNodeNew
