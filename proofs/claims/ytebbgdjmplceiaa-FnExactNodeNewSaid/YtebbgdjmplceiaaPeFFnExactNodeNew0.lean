/- Functions, as pure functions; and that Go does just that. -/
import Derived.Test.YtebbgdjmplceiaaPeTy
import Derived.Test.YtebbgdjmplceiaaPeSFnExactNodeNew
namespace Go.Proofs.Ytebbgdjmplceiaa.Pe.FnExactNodeNew
open Go Go.RowKit
set_option linter.unusedVariables false
set_option linter.unusedSimpArgs false
set_option maxHeartbeats 40000000
theorem hmix : Try.prog.follows .mixedOrders = true := by kernel_rfl
structure Entry where
  Term : Int
  Kind : Int
  Data : ByteArray
abbrev encEntry (x : Entry) : List C := [.i .i64 x.Term, .i .i64 x.Kind, .s x.Data]
structure Log where
  Start : Int
  StartTerm : Int
  Entries : (List Entry)
abbrev encLog (o : Bool) (x : Log) : List C := [.i .i64 x.Start, .i .i64 x.StartTerm, .row o 48 (x.Entries.map encEntry)]
theorem ro_encLog (x : Log) : roCs (encLog true x) = encLog false x := by simp only [encLog, roCs, roC, roRows_mapf (fun _ => rfl)]
theorem own_encLog (x : Log) : ownCs (encLog true x) = true := by simp only [encLog, ownCs, ownC, Bool.and_self, Bool.and_true, Bool.true_and, own_rows (f := encEntry) (fun _ => rfl)]
structure Peer where
  Id : Int
  Next : Int
  Match : Int
  Sent : Int
abbrev encPeer (x : Peer) : List C := [.i .i64 x.Id, .i .i64 x.Next, .i .i64 x.Match, .i .i64 x.Sent]
structure Node where
  Id : Int
  Term : Int
  Vote : Int
  Role : Int
  Lead : Int
  Conf : (List Int)
  Log : Log
  Commit : Int
  Clock : Int
  Limit : Int
  Votes : (List Int)
  Peers : (List Peer)
abbrev encNode (o : Bool) (x : Node) : List C := [.i .i64 x.Id, .i .i64 x.Term, .i .i64 x.Vote, .i .i64 x.Role, .i .i64 x.Lead, .row o 3 (x.Conf.map encI), .i .i64 x.Log.Start, .i .i64 x.Log.StartTerm, .row o 48 (x.Log.Entries.map encEntry), .i .i64 x.Commit, .i .i64 x.Clock, .i .i64 x.Limit, .row o 3 (x.Votes.map encI), .row o 172 (x.Peers.map encPeer)]
theorem ro_encNode (x : Node) : roCs (encNode true x) = encNode false x := by simp only [encNode, roCs, roC, roRows_mapf (fun _ => rfl), roRows_mapf (fun _ => rfl), roRows_mapf (fun _ => rfl), roRows_mapf (fun _ => rfl)]
theorem own_encNode (x : Node) : ownCs (encNode true x) = true := by simp only [encNode, ownCs, ownC, Bool.and_self, Bool.and_true, Bool.true_and, own_rows (f := encI) (fun _ => rfl), own_rows (f := encEntry) (fun _ => rfl), own_rows (f := encI) (fun _ => rfl), own_rows (f := encPeer) (fun _ => rfl)]
theorem bt3 : bytesOf Try.prog 3 ≤ 2048 := of_decide_eq_true (by kernel_rfl)
def laws_toIntS_l1 (N : Nat) (x_1 : (List Int)) : Nat → Int → (List Int) → Option ((List Int))
 | 0, _, _ => none
 | m + 1, x_158, x_159 =>
 (if (decide (x_158 < (x_1.length : Int))) = true then
 (at? x_1 x_158).bind fun x_172 =>
 (at? x_159 x_158).bind fun x_173 =>
 laws_toIntS_l1 N x_1 m (w64 (x_158 + (1 : Int))) (x_159.set x_158.toNat x_172)
 else
 some x_159)
def laws_toIntS_l1_r (N : Nat) (x_1 : (List Int)) : (List Int) → Int → (List Int) → Option ((List Int))
 | [], x_158, x_159 =>
 some x_159
 | hd :: tl, x_158, x_159 =>
 (some hd).bind fun x_172 =>
 (at? x_159 x_158).bind fun x_173 =>
 laws_toIntS_l1_r N x_1 tl (w64 (x_158 + (1 : Int))) (x_159.set x_158.toNat x_172)
theorem laws_toIntS_l1_rng (N : Nat) (x_1 : (List Int)) (hx : x_1.length ≤ 1099511627776) : ∀ (d k m : Nat) (x_159 : (List Int)), x_1.length = k + d → d < m → laws_toIntS_l1 N x_1 m (k : Int) x_159 = laws_toIntS_l1_r N x_1 (x_1.drop k) (k : Int) x_159 := by
  intro d
  induction d with
  | zero =>
    intro k m x_159 hd hm
    obtain ⟨m, rfl⟩ : ∃ q, m = q + 1 := ⟨m - 1, by omega⟩
    rw [laws_toIntS_l1, if_neg (by simp; omega), List.drop_eq_nil_of_le (by omega), laws_toIntS_l1_r]
  | succ d ih =>
    intro k m x_159 hd hm
    obtain ⟨m, rfl⟩ : ∃ q, m = q + 1 := ⟨m - 1, by omega⟩
    have hk : k < x_1.length := by omega
    rw [laws_toIntS_l1, if_pos (by simp; omega), List.drop_eq_getElem_cons hk, laws_toIntS_l1_r]
    have h1 := at_lt hk
    have h2 := w64_succ (k := k) (by omega)
    have h3 := ih (k + 1) m
    simp only [h1, h2, h3 _ (by omega) (by omega)]
theorem laws_toIntS_l1_eq {N : Nat} (x_1 : (List Int)) (hx : x_1.length ≤ 1099511627776) (hN : x_1.length < N) (x_159 : (List Int)) : laws_toIntS_l1 N x_1 N 0 x_159 = laws_toIntS_l1_r N x_1 x_1 0 x_159 := laws_toIntS_l1_rng N x_1 hx x_1.length 0 N x_159 (by omega) hN
def laws_toIntS (N : Nat) (x_1 : (List Int)) : Option ((List Int)) :=
 (mk? (0 : Int) (x_1.length : Int)).bind fun x_138 =>
 joinP (fun (v_156 : (List Int)) =>
 some v_156) fun j_156 =>
 (laws_toIntS_l1 N x_1 N (0 : Int) x_138).bind (fun (v_166 : (List Int)) => j_156 v_166)
theorem sem_laws_toIntS (N : Nat) (x_1 : (List Int)) (r : (List Int)) (h : laws_toIntS N x_1 = some r) : Says Try.prog 66 [RO 3 (x_1.map encI)] 0 [] (.sl 0 3 0 r.length) [(0, .vec 3 (r.map encI))] := by
  unfold laws_toIntS at h
  refine Says.of_run s66 Try.call66 rfl fun B hB => ?_
  have hm : B.m ≤ 1000 := by omega
  refine Run.seq ?_
  refine Run.ops hm ?_
  refine Ops.p rfl ?_
  refine Ops.nil ?_
  refine Run.seq ?_
  refine Run.ops hm ?_
  refine Ops.p rfl ?_
  refine Ops.st (s := 5112) (Ev.lnF rfl) rfl rfl ?_
  obtain ⟨x_138, hx_138, h⟩ := bindO h
  refine Ops.st (s := 5128) (Ev.msW (f := encI) (zv := (0 : Int)) rfl rfl rfl bt3 rfl hx_138) rfl rfl ?_
  refine Ops.p rfl ?_
  refine Ops.nil ?_
  refine Run.seqO h (fun (v_156 : (List Int)) => [(3, .sl 0 3 0 v_156.length)]) (fun (v_156 : (List Int)) => [(0, .vec 3 (v_156.map encI))]) (fun h => ?_) (fun v_156 h => ?_)
  · skip
    refine Run.seq ?_
    refine Run.ops hm ?_
    refine Ops.p rfl ?_
    refine Ops.nil ?_
    refine Run.block ?_
    obtain ⟨res_166, h, hk_166⟩ := bindO h
    refine Run.loop (n := N) (fun m_166 fr σ => ∃ (x_158 : Int), ∃ (x_159 : (List Int)), laws_toIntS_l1 N x_1 m_166 x_158 x_159 = some res_166 ∧ fr = [(0, RO 3 (x_1.map encI)), (3, .sl 0 3 0 x_159.length), (4, VI x_158)] ∧ σ = [(0, .vec 3 (x_159.map encI))]) (gh_pk [0, 3, 4] [5128] hB rfl rfl rfl rfl) ⟨_, _, h, rfl, rfl⟩ ?_
    rintro m_166 fr σ ⟨x_158, x_159, h, rfl, rfl⟩
    obtain _ | m_166 := m_166
    · rw [laws_toIntS_l1] at h; cases h
    rw [laws_toIntS_l1] at h
    refine Run.seq ?_
    refine Run.seq ?_
    refine Run.ops hm ?_
    refine Ops.p rfl ?_
    refine Ops.p rfl ?_
    refine Ops.st (s := 13320) (Ev.lnF rfl) rfl rfl ?_
    refine Ops.p rfl ?_
    refine Ops.nil ?_
    refine Run.condO rfl h (fun g_169 h => ?_) (fun g_169 h => ?_)
    · skip
      refine Run.skip ?_
      refine Run.seq ?_
      refine Run.block ?_
      refine Run.ops hm ?_
      refine Ops.p rfl ?_
      refine Ops.p rfl ?_
      refine Ops.p rfl ?_
      refine Ops.p rfl ?_
      obtain ⟨x_172, hx_172, h⟩ := bindO h
      refine Ops.st (s := 21544) (Ev.iaF rfl rfl hx_172) rfl rfl ?_
      refine Ops.p rfl ?_
      obtain ⟨x_173, hx_173, h⟩ := bindO h
      refine Ops.st (s := 21576) (Ev.iaW rfl rfl rfl hx_173) rfl rfl ?_
      refine Ops.s0 (s := 21592) (Ev.stE (f := encI) (v' := x_172) rfl rfl (at_some hx_173).2 rfl (.cons (.c _) .nil) rfl rfl rfl rfl rfl) rfl rfl ?_
      refine Ops.nil ?_
      refine Run.ops hm ?_
      refine Ops.p rfl ?_
      refine Ops.p rfl ?_
      refine Ops.p rfl ?_
      refine Ops.nil ?_
      exact ⟨m_166, Nat.lt_succ_self m_166, _, _, (gh_pk [0, 3, 4] [0] hB rfl rfl (by first | rfl | (simp only [List.length_set]; done) | (simp only [List.length_set]; rfl)) (by first | rfl | (simp only [List.length_set]; done) | (simp only [List.length_set]; rfl))), _, _, h, rfl, rfl⟩
    · skip
      refine Run.exit ?_
      obtain rfl := someO h
      have h := hk_166
      exact ⟨_, _, (gh_pk [3] [0] hB rfl rfl rfl rfl), x_159, h, rfl, rfl⟩
  · skip
    refine Run.seq ?_
    refine Run.ops hm ?_
    refine Ops.p rfl ?_
    refine Ops.p rfl ?_
    refine Ops.nil ?_
    refine Run.ret ?_
    obtain rfl := someO h
    exact Ends.mkG (.inl rfl) rfl (gh_pk [0] [0] hB rfl rfl rfl rfl) rfl rfl
def spec_l01In (N : Nat) (x_1 : Int) (x_2 : Int) (x_3 : Int) : Option (Bool) :=
 (if (decide (x_1 ≥ x_2)) = true then
 some (decide (x_1 ≤ x_3))
 else
 some false)
theorem sem_spec_l01In (N : Nat) (x_1 : Int) (x_2 : Int) (x_3 : Int) (r : Bool) (h : spec_l01In N x_1 x_2 x_3 = some r) : Says Try.prog 94 [VI x_1, VI x_2, VI x_3] 0 [] (VB r) [] := by
  unfold spec_l01In at h
  refine Says.of_run s94 Try.call94 rfl fun B hB => ?_
  have hm : B.m ≤ 1000 := by omega
  refine Run.seq ?_
  refine Run.ops hm ?_
  refine Ops.p rfl ?_
  refine Ops.nil ?_
  refine Run.seq ?_
  refine Run.ops hm ?_
  refine Ops.p rfl ?_
  refine Ops.p rfl ?_
  refine Ops.p rfl ?_
  refine Ops.p rfl ?_
  refine Ops.askO (x := .t 10) rfl h (fun g_101 h => ?_) (fun g_101 h => ?_)
  · skip
    refine Ops.gp rfl g_101 rfl ?_
    refine Ops.gp rfl g_101 rfl ?_
    refine Ops.gp rfl g_101 rfl ?_
    refine Ops.st (s := 5208) (.pkT rfl g_101 rfl) rfl rfl ?_
    refine Ops.p rfl ?_
    refine Ops.nil ?_
    refine Run.ret ?_
    obtain rfl := someO h
    exact Ends.mkG (.inl rfl) rfl (gh_pk [0] [] hB rfl rfl rfl rfl) rfl rfl
  · skip
    refine Ops.gn rfl g_101 ?_
    refine Ops.gn rfl g_101 ?_
    refine Ops.gn rfl g_101 ?_
    refine Ops.st (s := 5208) (.pkF rfl g_101 rfl) rfl rfl ?_
    refine Ops.p rfl ?_
    refine Ops.nil ?_
    refine Run.ret ?_
    obtain rfl := someO h
    exact Ends.mkG (.inl rfl) rfl (gh_pk [0] [] hB rfl rfl rfl rfl) rfl rfl
def spec_l07Rise_l1 (N : Nat) (x_1 : (List Int)) (x_2 : Int) (x_3 : Int) : Nat → Int → Option ((Bool) ⊕ (Unit))
 | 0, _ => none
 | m + 1, x_228 =>
 (if (decide (x_228 < (x_1.length : Int))) = true then
 joinP (fun (v_258 : Unit) =>
 spec_l07Rise_l1 N x_1 x_2 x_3 m (w64 (x_228 + (1 : Int)))) fun j_258 =>
 (at? x_1 x_228).bind fun x_259 =>
 (spec_l01In N x_259 x_2 x_3).bind fun y_260 =>
 (if (!y_260) = true then
 some (Sum.inl false)
 else
 (if (decide (x_228 > (0 : Int))) = true then
 (at? x_1 (w64 (x_228 - (1 : Int)))).bind fun x_263 =>
 (at? x_1 x_228).bind fun x_264 =>
 (if (decide (x_263 ≥ x_264)) = true then
 some (Sum.inl false)
 else
 j_258 ())
 else
 j_258 ()))
 else
 some (Sum.inr ()))
def spec_l07Rise_l1_r (N : Nat) (x_1 : (List Int)) (x_2 : Int) (x_3 : Int) : (List Int) → Int → Option ((Bool) ⊕ (Unit))
 | [], x_228 =>
 some (Sum.inr ())
 | hd :: tl, x_228 =>
 joinP (fun (v_258 : Unit) =>
 spec_l07Rise_l1_r N x_1 x_2 x_3 tl (w64 (x_228 + (1 : Int)))) fun j_258 =>
 (some hd).bind fun x_259 =>
 (spec_l01In N x_259 x_2 x_3).bind fun y_260 =>
 (if (!y_260) = true then
 some (Sum.inl false)
 else
 (if (decide (x_228 > (0 : Int))) = true then
 (at? x_1 (w64 (x_228 - (1 : Int)))).bind fun x_263 =>
 (some hd).bind fun x_264 =>
 (if (decide (x_263 ≥ x_264)) = true then
 some (Sum.inl false)
 else
 j_258 ())
 else
 j_258 ()))
theorem spec_l07Rise_l1_rng (N : Nat) (x_1 : (List Int)) (x_2 : Int) (x_3 : Int) (hx : x_1.length ≤ 1099511627776) : ∀ (d k m : Nat), x_1.length = k + d → d < m → spec_l07Rise_l1 N x_1 x_2 x_3 m (k : Int) = spec_l07Rise_l1_r N x_1 x_2 x_3 (x_1.drop k) (k : Int) := by
  intro d
  induction d with
  | zero =>
    intro k m hd hm
    obtain ⟨m, rfl⟩ : ∃ q, m = q + 1 := ⟨m - 1, by omega⟩
    rw [spec_l07Rise_l1, if_neg (by simp; omega), List.drop_eq_nil_of_le (by omega), spec_l07Rise_l1_r]
  | succ d ih =>
    intro k m hd hm
    obtain ⟨m, rfl⟩ : ∃ q, m = q + 1 := ⟨m - 1, by omega⟩
    have hk : k < x_1.length := by omega
    rw [spec_l07Rise_l1, if_pos (by simp; omega), List.drop_eq_getElem_cons hk, spec_l07Rise_l1_r]
    have h1 := at_lt hk
    have h2 := w64_succ (k := k) (by omega)
    have h3 := ih (k + 1) m
    simp only [h1, h2, h3 (by omega) (by omega)]
theorem spec_l07Rise_l1_eq {N : Nat} (x_1 : (List Int)) (x_2 : Int) (x_3 : Int) (hx : x_1.length ≤ 1099511627776) (hN : x_1.length < N) : spec_l07Rise_l1 N x_1 x_2 x_3 N 0 = spec_l07Rise_l1_r N x_1 x_2 x_3 x_1 0 := spec_l07Rise_l1_rng N x_1 x_2 x_3 hx x_1.length 0 N (by omega) hN
def spec_l07Rise (N : Nat) (x_1 : (List Int)) (x_2 : Int) (x_3 : Int) : Option (Bool) :=
 joinP (fun (v_224 : Unit) =>
 some true) fun j_224 =>
 (spec_l07Rise_l1 N x_1 x_2 x_3 N (0 : Int)).bind (Sum.elim (fun v_246 => some v_246) (fun (v_247 : Unit) => j_224 ()))
theorem sem_spec_l07Rise (N : Nat) (x_1 : (List Int)) (x_2 : Int) (x_3 : Int) (r : Bool) (h : spec_l07Rise N x_1 x_2 x_3 = some r) : Says Try.prog 131 [RO 3 (x_1.map encI), VI x_2, VI x_3] 0 [] (VB r) [] := by
  unfold spec_l07Rise at h
  refine Says.of_run s131 Try.call131 rfl fun B hB => ?_
  have hm : B.m ≤ 1000 := by omega
  refine Run.seq ?_
  refine Run.ops hm ?_
  refine Ops.p rfl ?_
  refine Ops.nil ?_
  refine Run.seqO h (fun (v_224 : Unit) => []) (fun (v_224 : Unit) => []) (fun h => ?_) (fun v_224 h => ?_)
  · skip
    refine Run.seq ?_
    refine Run.ops hm ?_
    refine Ops.p rfl ?_
    refine Ops.nil ?_
    refine Run.block ?_
    obtain ⟨res_247, h, hk_247⟩ := bindO h
    refine Run.loop (n := N) (fun m_247 fr σ => ∃ (x_228 : Int), spec_l07Rise_l1 N x_1 x_2 x_3 m_247 x_228 = some res_247 ∧ fr = [(0, RO 3 (x_1.map encI)), (1, VI x_2), (2, VI x_3), (7, VI x_228)] ∧ σ = []) (gh_pk [0, 1, 2, 7] [] hB rfl rfl rfl rfl) ⟨_, h, rfl, rfl⟩ ?_
    rintro m_247 fr σ ⟨x_228, h, rfl, rfl⟩
    obtain _ | m_247 := m_247
    · rw [spec_l07Rise_l1] at h; cases h
    rw [spec_l07Rise_l1] at h
    refine Run.seq ?_
    refine Run.seq ?_
    refine Run.ops hm ?_
    refine Ops.p rfl ?_
    refine Ops.p rfl ?_
    refine Ops.st (s := 9224) (Ev.lnF rfl) rfl rfl ?_
    refine Ops.p rfl ?_
    refine Ops.nil ?_
    refine Run.condO rfl h (fun g_250 h => ?_) (fun g_250 h => ?_)
    · skip
      refine Run.skip ?_
      refine Run.seqO h (fun (v_258 : Unit) => [(0, RO 3 (x_1.map encI)), (1, VI x_2), (2, VI x_3), (7, VI x_228)]) (fun (v_258 : Unit) => []) (fun h => ?_) (fun v_258 h => ?_)
      · skip
        refine Run.block ?_
        refine Run.seq ?_
        refine Run.draw hm hmix ?_
        refine OpsD.p rfl ?_
        refine OpsD.p rfl ?_
        obtain ⟨x_259, hx_259, h⟩ := bindO h
        refine OpsD.st (s := 17416) (Ev.iaF rfl rfl hx_259) rfl rfl ?_
        refine OpsD.p rfl ?_
        refine OpsD.p rfl ?_
        refine OpsD.p rfl ?_
        obtain ⟨y_260, hy_260, h⟩ := bindO h
        refine OpsD.st (s := 17480) (Ev.call [] [] 0 (sem_spec_l01In N x_259 x_2 x_3 _ hy_260) rfl rfl (.cons (.c _) (.cons (.c _) (.cons (.c _) .nil))) rfl (.inl rfl) rfl rfl) rfl rfl ?_
        refine OpsD.p rfl ?_
        refine OpsD.p rfl ?_
        refine OpsD.askO (x := .t 22) rfl h (fun g_261 h => ?_) (fun g_261 h => ?_)
        · skip
          refine OpsD.gn rfl g_261 ?_
          refine OpsD.gn rfl g_261 ?_
          refine OpsD.gn rfl g_261 ?_
          refine OpsD.gu rfl ?_
          refine OpsD.gu rfl ?_
          refine OpsD.gu rfl ?_
          refine OpsD.gu rfl ?_
          refine OpsD.gu rfl ?_
          refine OpsD.gu rfl ?_
          refine OpsD.gu rfl ?_
          refine OpsD.gu rfl ?_
          refine OpsD.gu rfl ?_
          refine OpsD.gu rfl ?_
          refine OpsD.gn rfl g_261 ?_
          refine OpsD.st (s := 17752) (.pkT rfl g_261 rfl) rfl rfl ?_
          refine OpsD.nil ⟨by kernel_rfl, ?_⟩
          refine Run.condT rfl rfl ?_
          refine Run.seq ?_
          refine Run.ops hm ?_
          refine Ops.p rfl ?_
          refine Ops.nil ?_
          refine Run.ret ?_
          obtain rfl := someO h
          have h := hk_247
          replace h := inlO h
          obtain rfl := someO h
          exact Ends.mkG (.inl rfl) rfl (gh_pk [0] [] hB rfl rfl rfl rfl) rfl rfl
        · skip
          refine OpsD.gp rfl g_261 rfl ?_
          refine OpsD.gp rfl g_261 rfl ?_
          refine OpsD.gp rfl g_261 rfl ?_
          refine OpsD.askO (x := .t 25) rfl h (fun g_262 h => ?_) (fun g_262 h => ?_)
          · skip
            refine OpsD.gp rfl g_262 rfl ?_
            refine OpsD.gp rfl g_262 rfl ?_
            refine OpsD.gp rfl g_262 rfl ?_
            obtain ⟨x_263, hx_263, h⟩ := bindO h
            refine OpsD.gs (s := 17624) rfl g_262 (Ev.iaF rfl rfl hx_263) rfl rfl ?_
            refine OpsD.gp rfl g_262 rfl ?_
            refine OpsD.gp rfl g_262 rfl ?_
            refine OpsD.gp rfl g_262 rfl ?_
            obtain ⟨x_264, hx_264, h⟩ := bindO h
            refine OpsD.gs (s := 17688) rfl g_262 (Ev.iaF rfl rfl hx_264) rfl rfl ?_
            refine OpsD.gp rfl g_262 rfl ?_
            refine OpsD.gp rfl g_262 rfl ?_
            refine OpsD.gs (s := 17736) rfl g_261 (.pkT rfl g_262 rfl) rfl rfl ?_
            refine OpsD.st (s := 17752) (.pkF rfl g_261 rfl) rfl rfl ?_
            refine OpsD.nil ⟨by kernel_rfl, ?_⟩
            refine Run.condO rfl h (fun g_265 h => ?_) (fun g_265 h => ?_)
            · skip
              refine Run.seq ?_
              refine Run.ops hm ?_
              refine Ops.p rfl ?_
              refine Ops.nil ?_
              refine Run.ret ?_
              obtain rfl := someO h
              have h := hk_247
              replace h := inlO h
              obtain rfl := someO h
              exact Ends.mkG (.inl rfl) rfl (gh_pk [0] [] hB rfl rfl rfl rfl) rfl rfl
            · skip
              refine Run.skip ?_
              exact ⟨_, _, (gh_pk [0, 1, 2, 7] [] hB rfl rfl rfl rfl), (), h, rfl, rfl⟩
          · skip
            refine OpsD.gn rfl g_262 ?_
            refine OpsD.gn rfl g_262 ?_
            refine OpsD.gn rfl g_262 ?_
            refine OpsD.gn rfl g_262 ?_
            refine OpsD.gn rfl g_262 ?_
            refine OpsD.gn rfl g_262 ?_
            refine OpsD.gn rfl g_262 ?_
            refine OpsD.gn rfl g_262 ?_
            refine OpsD.gn rfl g_262 ?_
            refine OpsD.gn rfl g_262 ?_
            refine OpsD.gs (s := 17736) rfl g_261 (.pkF rfl g_262 rfl) rfl rfl ?_
            refine OpsD.st (s := 17752) (.pkF rfl g_261 rfl) rfl rfl ?_
            refine OpsD.nil ⟨by kernel_rfl, ?_⟩
            refine Run.condF rfl rfl ?_
            refine Run.skip ?_
            exact ⟨_, _, (gh_pk [0, 1, 2, 7] [] hB rfl rfl rfl rfl), (), h, rfl, rfl⟩
      · skip
        refine Run.ops hm ?_
        refine Ops.p rfl ?_
        refine Ops.p rfl ?_
        refine Ops.p rfl ?_
        refine Ops.nil ?_
        exact ⟨m_247, Nat.lt_succ_self m_247, _, _, (gh_pk [0, 1, 2, 7] [] hB rfl rfl rfl rfl), _, h, rfl, rfl⟩
    · skip
      refine Run.exit ?_
      obtain rfl := someO h
      have h := hk_247
      replace h := inrO h
      exact ⟨_, _, (gh_pk [] [] hB rfl rfl rfl rfl), (), h, rfl, rfl⟩
  · skip
    refine Run.seq ?_
    refine Run.ops hm ?_
    refine Ops.p rfl ?_
    refine Ops.nil ?_
    refine Run.ret ?_
    obtain rfl := someO h
    exact Ends.mkG (.inl rfl) rfl (gh_pk [0] [] hB rfl rfl rfl rfl) rfl rfl
def spec_ConfOk (N : Nat) (x_1 : (List Int)) : Option (Bool) :=
 (spec_l01In N (x_1.length : Int) (1 : Int) (4 : Int)).bind fun y_103 =>
 (if y_103 = true then
 (spec_l07Rise N x_1 (1 : Int) (4 : Int)).bind fun y_105 =>
 some y_105
 else
 some false)
theorem sem_spec_ConfOk (N : Nat) (x_1 : (List Int)) (r : Bool) (h : spec_ConfOk N x_1 = some r) : Says Try.prog 96 [RO 3 (x_1.map encI)] 0 [] (VB r) [] := by
  unfold spec_ConfOk at h
  refine Says.of_run s96 Try.call96 rfl fun B hB => ?_
  have hm : B.m ≤ 1000 := by omega
  refine Run.seq ?_
  refine Run.ops hm ?_
  refine Ops.p rfl ?_
  refine Ops.nil ?_
  refine Run.seq ?_
  refine Run.ops hm ?_
  refine Ops.p rfl ?_
  refine Ops.st (s := 5112) (Ev.lnF rfl) rfl rfl ?_
  obtain ⟨y_103, hy_103, h⟩ := bindO h
  refine Ops.st (s := 5128) (Ev.call [] [] 0 (sem_spec_l01In N (x_1.length : Int) (1 : Int) (4 : Int) _ hy_103) rfl rfl (.cons (.c _) (.cons (.c _) (.cons (.c _) .nil))) rfl (.inl rfl) rfl rfl) rfl rfl ?_
  refine Ops.p rfl ?_
  refine Ops.askO (x := .t 6) rfl h (fun g_104 h => ?_) (fun g_104 h => ?_)
  · skip
    refine Ops.gp rfl g_104 rfl ?_
    obtain ⟨y_105, hy_105, h⟩ := bindO h
    refine Ops.gs (s := 5176) rfl g_104 (Ev.call [] [] 0 (sem_spec_l07Rise N x_1 (1 : Int) (4 : Int) _ hy_105) rfl rfl (.cons (.c _) (.cons (.c _) (.cons (.c _) .nil))) rfl (.inl rfl) rfl rfl) rfl rfl ?_
    refine Ops.st (s := 5192) (.pkT rfl g_104 rfl) rfl rfl ?_
    refine Ops.p rfl ?_
    refine Ops.nil ?_
    refine Run.ret ?_
    obtain rfl := someO h
    exact Ends.mkG (.inl rfl) rfl (gh_pk [0] [] hB rfl rfl rfl rfl) rfl rfl
  · skip
    refine Ops.gn rfl g_104 ?_
    refine Ops.gn rfl g_104 ?_
    refine Ops.st (s := 5192) (.pkF rfl g_104 rfl) rfl rfl ?_
    refine Ops.p rfl ?_
    refine Ops.nil ?_
    refine Run.ret ?_
    obtain rfl := someO h
    exact Ends.mkG (.inl rfl) rfl (gh_pk [0] [] hB rfl rfl rfl rfl) rfl rfl
def spec_ReadConf_l1 (N : Nat) (x_1 : ByteArray) : Nat → Int → (List Int) → Option ((List Int))
 | 0, _, _ => none
 | m + 1, x_172, x_173 =>
 (if (decide (x_172 < (x_1.size : Int))) = true then
 (if (decide (x_172 ≤ (4 : Int))) = true then
 (sat? x_1 x_172).bind fun x_190 =>
 (cat? x_173 ([w64 (x_190)] : List Int)).bind fun x_191 =>
 spec_ReadConf_l1 N x_1 m (w64 (x_172 + (1 : Int))) x_191
 else
 some x_173)
 else
 some x_173)
def spec_ReadConf (N : Nat) (x_1 : ByteArray) : Option ((List Int) × Bool) :=
 joinP (fun (v_170 : (List Int)) =>
 (if (((v_170.length : Nat) : Int) != (x_1.size : Int)) = true then
 some (([] : List Int), false)
 else
 (spec_ConfOk N v_170).bind fun y_196 =>
 (if (!y_196) = true then
 some (([] : List Int), false)
 else
 some (v_170, true)))) fun j_170 =>
 (spec_ReadConf_l1 N x_1 N (0 : Int) ([] : List Int)).bind (fun (v_182 : (List Int)) => j_170 v_182)
theorem sem_spec_ReadConf (N : Nat) (x_1 : ByteArray) (r : (List Int) × Bool) (h : spec_ReadConf N x_1 = some r) : Says Try.prog 106 [VS x_1] 0 [] (.tup [.sl 0 3 0 r.1.length, VB r.2]) [(0, .vec 3 (r.1.map encI))] := by
  unfold spec_ReadConf at h
  refine Says.of_run s106 Try.call106 rfl fun B hB => ?_
  have hm : B.m ≤ 1000 := by omega
  refine Run.seq ?_
  refine Run.ops hm ?_
  refine Ops.p rfl ?_
  refine Ops.p rfl ?_
  refine Ops.nil ?_
  refine Run.seq ?_
  refine Run.ops hm ?_
  refine Ops.st (s := 5096) (Ev.bsW (ys := ([] : List Int)) (f := encI) rfl .nil rfl rfl rfl rfl rfl) rfl rfl ?_
  refine Ops.p rfl ?_
  refine Ops.nil ?_
  refine Run.seqO h (fun (v_170 : (List Int)) => [(0, VS x_1), (4, .sl 0 3 0 v_170.length)]) (fun (v_170 : (List Int)) => [(0, .vec 3 (v_170.map encI))]) (fun h => ?_) (fun v_170 h => ?_)
  · skip
    refine Run.seq ?_
    refine Run.ops hm ?_
    refine Ops.p rfl ?_
    refine Ops.nil ?_
    refine Run.block ?_
    obtain ⟨res_182, h, hk_182⟩ := bindO h
    refine Run.loop (n := N) (fun m_182 fr σ => ∃ (x_172 : Int), ∃ (x_173 : (List Int)), spec_ReadConf_l1 N x_1 m_182 x_172 x_173 = some res_182 ∧ fr = [(0, VS x_1), (4, .sl 0 3 0 x_173.length), (5, VI x_172)] ∧ σ = [(0, .vec 3 (x_173.map encI))]) (gh_pk [0, 4, 5] [5096] hB rfl rfl rfl rfl) ⟨_, _, h, rfl, rfl⟩ ?_
    rintro m_182 fr σ ⟨x_172, x_173, h, rfl, rfl⟩
    obtain _ | m_182 := m_182
    · rw [spec_ReadConf_l1] at h; cases h
    rw [spec_ReadConf_l1] at h
    refine Run.seq ?_
    refine Run.seq ?_
    refine Run.ops hm ?_
    refine Ops.p rfl ?_
    refine Ops.p rfl ?_
    refine Ops.p rfl ?_
    refine Ops.p rfl ?_
    refine Ops.p rfl ?_
    refine Ops.askO (x := .t 11) rfl h (fun g_186 h => ?_) (fun g_186 h => ?_)
    · skip
      refine Ops.gp rfl g_186 rfl ?_
      refine Ops.gp rfl g_186 rfl ?_
      refine Ops.st (s := 13400) (.pkT rfl g_186 rfl) rfl rfl ?_
      refine Ops.nil ?_
      refine Run.condO rfl h (fun g_187 h => ?_) (fun g_187 h => ?_)
      · skip
        refine Run.skip ?_
        refine Run.seq ?_
        refine Run.block ?_
        refine Run.ops hm ?_
        refine Ops.p rfl ?_
        refine Ops.p rfl ?_
        refine Ops.p rfl ?_
        obtain ⟨x_190, hx_190, h⟩ := bindO h
        refine Ops.st (s := 21528) (Ev.ixS rfl rfl hx_190) rfl rfl ?_
        refine Ops.p rfl ?_
        refine Ops.st (s := 21560) (Ev.bsW (ys := ([w64 (x_190)] : List Int)) (f := encI) rfl (.cons (.c _) .nil) rfl rfl rfl rfl rfl) rfl rfl ?_
        obtain ⟨x_191, hx_191, h⟩ := bindO h
        refine Ops.st (s := 21576) (Ev.apW (f := encI) (ontoW rfl rfl rfl) (addsW rfl rfl rfl (fun _ => rfl)) rfl bt3 rfl hx_191) rfl rfl ?_
        refine Ops.p rfl ?_
        refine Ops.nil ?_
        refine Run.ops hm ?_
        refine Ops.p rfl ?_
        refine Ops.p rfl ?_
        refine Ops.p rfl ?_
        refine Ops.nil ?_
        exact ⟨m_182, Nat.lt_succ_self m_182, _, _, (gh_pk [0, 4, 5] [21576] hB rfl rfl rfl rfl), _, _, h, rfl, rfl⟩
      · skip
        refine Run.exit ?_
        obtain rfl := someO h
        have h := hk_182
        exact ⟨_, _, (gh_pk [0, 4] [0] hB rfl rfl rfl rfl), x_173, h, rfl, rfl⟩
    · skip
      refine Ops.gn rfl g_186 ?_
      refine Ops.gn rfl g_186 ?_
      refine Ops.st (s := 13400) (.pkF rfl g_186 rfl) rfl rfl ?_
      refine Ops.nil ?_
      refine Run.condF rfl rfl ?_
      refine Run.exit ?_
      obtain rfl := someO h
      have h := hk_182
      exact ⟨_, _, (gh_pk [0, 4] [0] hB rfl rfl rfl rfl), x_173, h, rfl, rfl⟩
  · skip
    refine Run.seq ?_
    refine Run.seq ?_
    refine Run.ops hm ?_
    refine Ops.p rfl ?_
    refine Ops.p rfl ?_
    refine Ops.p rfl ?_
    refine Ops.p rfl ?_
    refine Ops.p rfl ?_
    refine Ops.p rfl ?_
    refine Ops.askO (x := .t 29) rfl h (fun g_195 h => ?_) (fun g_195 h => ?_)
    · skip
      refine Ops.gn rfl g_195 ?_
      refine Ops.gn rfl g_195 ?_
      refine Ops.gn rfl g_195 ?_
      refine Ops.st (s := 25720) (.pkT rfl g_195 rfl) rfl rfl ?_
      refine Ops.nil ?_
      refine Run.condT rfl rfl ?_
      refine Run.seq ?_
      refine Run.ops hm ?_
      refine Ops.st (s := 29672) (Ev.bsW (ys := ([] : List Int)) (f := encI) rfl .nil rfl rfl rfl rfl rfl) rfl rfl ?_
      refine Ops.p rfl ?_
      refine Ops.p rfl ?_
      refine Ops.nil ?_
      refine Run.ret ?_
      obtain rfl := someO h
      exact Ends.mkG (.inl rfl) rfl (gh_pk [0, 1] [29672] hB rfl rfl rfl rfl) rfl rfl
    · skip
      refine Ops.gp rfl g_195 rfl ?_
      obtain ⟨y_196, hy_196, h⟩ := bindO h
      refine Ops.gs (s := 25688) rfl g_195 (Ev.call [] [0] 0 (sem_spec_ConfOk N v_170 _ hy_196) rfl rfl (.cons (.borrow rfl (by decide) (lendW (fun _ => rfl) _ rfl)) .nil) rfl (.inr ⟨rfl, ownL_root trivial⟩) rfl rfl) rfl rfl ?_
      refine Ops.gp rfl g_195 rfl ?_
      refine Ops.st (s := 25720) (.pkF rfl g_195 rfl) rfl rfl ?_
      refine Ops.nil ?_
      refine Run.condO rfl h (fun g_197 h => ?_) (fun g_197 h => ?_)
      · skip
        refine Run.seq ?_
        refine Run.ops hm ?_
        refine Ops.st (s := 29672) (Ev.bsW (ys := ([] : List Int)) (f := encI) rfl .nil rfl rfl rfl rfl rfl) rfl rfl ?_
        refine Ops.p rfl ?_
        refine Ops.p rfl ?_
        refine Ops.nil ?_
        refine Run.ret ?_
        obtain rfl := someO h
        exact Ends.mkG (.inl rfl) rfl (gh_pk [0, 1] [29672] hB rfl rfl rfl rfl) rfl rfl
      · skip
        refine Run.skip ?_
        refine Run.seq ?_
        refine Run.ops hm ?_
        refine Ops.p rfl ?_
        refine Ops.p rfl ?_
        refine Ops.p rfl ?_
        refine Ops.nil ?_
        refine Run.ret ?_
        obtain rfl := someO h
        exact Ends.mkG (.inl rfl) rfl (gh_pk [0, 1] [0] hB rfl rfl rfl rfl) rfl rfl
def spec_EntryOk (N : Nat) (x_1 : Entry) : Option (Bool) :=
 (spec_l01In N x_1.Term (0 : Int) (100000 : Int)).bind fun y_111 =>
 (if (!y_111) = true then
 some false
 else
 (if (x_1.Kind == (1 : Int)) = true then
 some (decide (x_1.Data = (⟨#[]⟩ : ByteArray)))
 else
 (if (x_1.Kind == (2 : Int)) = true then
 (spec_ReadConf N x_1.Data).bind fun y_116 =>
 some y_116.2
 else
 (if (x_1.Kind == (3 : Int)) = true then
 some (decide ((x_1.Data.size : Int) ≤ (120 : Int)))
 else
 some false))))
theorem sem_spec_EntryOk (N : Nat) (x_1 : Entry) (r : Bool) (h : spec_EntryOk N x_1 = some r) : Says Try.prog 143 [.agg [VI x_1.Term, VI x_1.Kind, VS x_1.Data]] 0 [] (VB r) [] := by
  unfold spec_EntryOk at h
  refine Says.of_run s143 Try.call143 rfl fun B hB => ?_
  have hm : B.m ≤ 1000 := by omega
  refine Run.seq ?_
  refine Run.ops hm ?_
  refine Ops.st (s := 1000) (.bx rfl rfl) rfl rfl ?_
  refine Ops.p rfl ?_
  refine Ops.nil ?_
  refine Run.seq ?_
  refine Run.seq ?_
  refine Run.ops hm ?_
  refine Ops.p rfl ?_
  refine Ops.p rfl ?_
  obtain ⟨y_111, hy_111, h⟩ := bindO h
  refine Ops.st (s := 5128) (Ev.call [] [] 0 (sem_spec_l01In N x_1.Term (0 : Int) (100000 : Int) _ hy_111) rfl rfl (.cons (.c _) (.cons (.c _) (.cons (.c _) .nil))) rfl (.inl rfl) rfl rfl) rfl rfl ?_
  refine Ops.p rfl ?_
  refine Ops.nil ?_
  refine Run.condO rfl h (fun g_112 h => ?_) (fun g_112 h => ?_)
  · skip
    refine Run.seq ?_
    refine Run.ops hm ?_
    refine Ops.p rfl ?_
    refine Ops.nil ?_
    refine Run.ret ?_
    obtain rfl := someO h
    exact Ends.mkG (.inl rfl) rfl (gh_pk [0] [] hB rfl rfl rfl rfl) rfl rfl
  · skip
    refine Run.skip ?_
    refine Run.seq ?_
    refine Run.seq ?_
    refine Run.ops hm ?_
    refine Ops.p rfl ?_
    refine Ops.p rfl ?_
    refine Ops.nil ?_
    refine Run.block ?_
    refine Run.seq ?_
    refine Run.ops hm ?_
    refine Ops.p rfl ?_
    refine Ops.p rfl ?_
    refine Ops.nil ?_
    refine Run.condO rfl h (fun g_113 h => ?_) (fun g_113 h => ?_)
    · skip
      refine Run.seq ?_
      refine Run.ops hm ?_
      refine Ops.p rfl ?_
      refine Ops.p rfl ?_
      refine Ops.p rfl ?_
      refine Ops.p rfl ?_
      refine Ops.nil ?_
      refine Run.ret ?_
      obtain rfl := someO h
      exact Ends.mkG (.inl rfl) rfl (gh_pk [0] [] hB rfl rfl rfl rfl) rfl rfl
    · skip
      refine Run.seq ?_
      refine Run.ops hm ?_
      refine Ops.p rfl ?_
      refine Ops.p rfl ?_
      refine Ops.nil ?_
      refine Run.condO rfl h (fun g_114 h => ?_) (fun g_114 h => ?_)
      · skip
        refine Run.seq ?_
        refine Run.ops hm ?_
        refine Ops.p rfl ?_
        refine Ops.p rfl ?_
        obtain ⟨y_116, hy_116, h⟩ := bindO h
        refine Ops.st (s := 29704) (Ev.call [] [] 1 (sem_spec_ReadConf N x_1.Data _ hy_116) rfl rfl (.cons (.c _) .nil) rfl (.inl rfl) rfl rfl) rfl rfl ?_
        refine Ops.p rfl ?_
        refine Ops.p rfl ?_
        refine Ops.p rfl ?_
        refine Ops.p rfl ?_
        refine Ops.p rfl ?_
        refine Ops.nil ?_
        refine Run.seq ?_
        refine Run.ops hm ?_
        refine Ops.p rfl ?_
        refine Ops.p rfl ?_
        refine Ops.nil ?_
        refine Run.ret ?_
        obtain rfl := someO h
        exact Ends.mkG (.inl rfl) rfl (gh_pk [0] [] hB rfl rfl rfl rfl) rfl rfl
      · skip
        refine Run.seq ?_
        refine Run.ops hm ?_
        refine Ops.p rfl ?_
        refine Ops.p rfl ?_
        refine Ops.nil ?_
        refine Run.condO rfl h (fun g_117 h => ?_) (fun g_117 h => ?_)
        · skip
          refine Run.seq ?_
          refine Run.ops hm ?_
          refine Ops.p rfl ?_
          refine Ops.p rfl ?_
          refine Ops.p rfl ?_
          refine Ops.p rfl ?_
          refine Ops.p rfl ?_
          refine Ops.nil ?_
          refine Run.ret ?_
          obtain rfl := someO h
          exact Ends.mkG (.inl rfl) rfl (gh_pk [0] [] hB rfl rfl rfl rfl) rfl rfl
        · skip
          refine Run.skip ?_
          refine Run.seq ?_
          refine Run.ops hm ?_
          refine Ops.p rfl ?_
          refine Ops.nil ?_
          refine Run.ret ?_
          obtain rfl := someO h
          exact Ends.mkG (.inl rfl) rfl (gh_pk [0] [] hB rfl rfl rfl rfl) rfl rfl
def spec_LogOk_l1 (N : Nat) (x_1 : Log) : Nat → Int → Int → Option ((Bool) ⊕ (Unit))
 | 0, _, _ => none
 | m + 1, x_294, x_295 =>
 (if (decide (x_295 < (x_1.Entries.length : Int))) = true then
 (at? x_1.Entries x_295).bind fun x_344 =>
 (spec_EntryOk N x_344).bind fun y_345 =>
 (if (!y_345) = true then
 some (Sum.inl false)
 else
 (at? x_1.Entries x_295).bind fun x_347 =>
 (if (decide (x_347.Term < x_294)) = true then
 some (Sum.inl false)
 else
 (at? x_1.Entries x_295).bind fun x_349 =>
 spec_LogOk_l1 N x_1 m x_349.Term (w64 (x_295 + (1 : Int)))))
 else
 some (Sum.inr ()))
def spec_LogOk_l1_r (N : Nat) (x_1 : Log) : (List Entry) → Int → Int → Option ((Bool) ⊕ (Unit))
 | [], x_294, x_295 =>
 some (Sum.inr ())
 | hd :: tl, x_294, x_295 =>
 (some hd).bind fun x_344 =>
 (spec_EntryOk N x_344).bind fun y_345 =>
 (if (!y_345) = true then
 some (Sum.inl false)
 else
 (some hd).bind fun x_347 =>
 (if (decide (x_347.Term < x_294)) = true then
 some (Sum.inl false)
 else
 (some hd).bind fun x_349 =>
 spec_LogOk_l1_r N x_1 tl x_349.Term (w64 (x_295 + (1 : Int)))))
theorem spec_LogOk_l1_rng (N : Nat) (x_1 : Log) (hx : x_1.Entries.length ≤ 1099511627776) : ∀ (d k m : Nat) (x_294 : Int), x_1.Entries.length = k + d → d < m → spec_LogOk_l1 N x_1 m x_294 (k : Int) = spec_LogOk_l1_r N x_1 (x_1.Entries.drop k) x_294 (k : Int) := by
  intro d
  induction d with
  | zero =>
    intro k m x_294 hd hm
    obtain ⟨m, rfl⟩ : ∃ q, m = q + 1 := ⟨m - 1, by omega⟩
    rw [spec_LogOk_l1, if_neg (by simp; omega), List.drop_eq_nil_of_le (by omega), spec_LogOk_l1_r]
  | succ d ih =>
    intro k m x_294 hd hm
    obtain ⟨m, rfl⟩ : ∃ q, m = q + 1 := ⟨m - 1, by omega⟩
    have hk : k < x_1.Entries.length := by omega
    rw [spec_LogOk_l1, if_pos (by simp; omega), List.drop_eq_getElem_cons hk, spec_LogOk_l1_r]
    have h1 := at_lt hk
    have h2 := w64_succ (k := k) (by omega)
    have h3 := ih (k + 1) m
    simp only [h1, h2, h3 _ (by omega) (by omega)]
theorem spec_LogOk_l1_eq {N : Nat} (x_1 : Log) (hx : x_1.Entries.length ≤ 1099511627776) (hN : x_1.Entries.length < N) (x_294 : Int) : spec_LogOk_l1 N x_1 N x_294 0 = spec_LogOk_l1_r N x_1 x_1.Entries x_294 0 := spec_LogOk_l1_rng N x_1 hx x_1.Entries.length 0 N x_294 (by omega) hN
def spec_LogOk (N : Nat) (x_1 : Log) : Option (Bool) :=
 (spec_l01In N x_1.Start (0 : Int) (100000 : Int)).bind fun y_231 =>
 (if (!y_231) = true then
 some false
 else
 (spec_l01In N x_1.StartTerm (0 : Int) (100000 : Int)).bind fun y_233 =>
 (if (!y_233) = true then
 some false
 else
 (if (decide ((x_1.Entries.length : Int) > (120 : Int))) = true then
 some false
 else
 (if (decide ((w64 (x_1.Start + (x_1.Entries.length : Int))) > (100000 : Int))) = true then
 some false
 else
 joinP (fun (v_293 : Unit) =>
 some true) fun j_293 =>
 (spec_LogOk_l1 N x_1 N x_1.StartTerm (0 : Int)).bind (Sum.elim (fun v_323 => some v_323) (fun (v_324 : Unit) => j_293 ()))))))
theorem sem_spec_LogOk (N : Nat) (x_1 : Log) (r : Bool) (h : spec_LogOk N x_1 = some r) : Says Try.prog 86 [.agg [VI x_1.Start, VI x_1.StartTerm, RO 48 (x_1.Entries.map encEntry)]] 0 [] (VB r) [] := by
  unfold spec_LogOk at h
  refine Says.of_run s86 Try.call86 rfl fun B hB => ?_
  have hm : B.m ≤ 1000 := by omega
  refine Run.seq ?_
  refine Run.ops hm ?_
  refine Ops.st (s := 1000) (.bx rfl rfl) rfl rfl ?_
  refine Ops.p rfl ?_
  refine Ops.nil ?_
  refine Run.seq ?_
  refine Run.seq ?_
  refine Run.ops hm ?_
  refine Ops.p rfl ?_
  refine Ops.p rfl ?_
  obtain ⟨y_231, hy_231, h⟩ := bindO h
  refine Ops.st (s := 5128) (Ev.call [] [] 0 (sem_spec_l01In N x_1.Start (0 : Int) (100000 : Int) _ hy_231) rfl rfl (.cons (.c _) (.cons (.c _) (.cons (.c _) .nil))) rfl (.inl rfl) rfl rfl) rfl rfl ?_
  refine Ops.p rfl ?_
  refine Ops.p rfl ?_
  refine Ops.askO (x := .t 9) rfl h (fun g_232 h => ?_) (fun g_232 h => ?_)
  · skip
    refine Ops.gn rfl g_232 ?_
    refine Ops.gn rfl g_232 ?_
    refine Ops.gn rfl g_232 ?_
    refine Ops.gn rfl g_232 ?_
    refine Ops.st (s := 5240) (.pkT rfl g_232 rfl) rfl rfl ?_
    refine Ops.p rfl ?_
    refine Ops.gn rfl rfl ?_
    refine Ops.gn rfl rfl ?_
    refine Ops.gn rfl rfl ?_
    refine Ops.gn rfl rfl ?_
    refine Ops.st (s := 5336) (.pkT rfl rfl rfl) rfl rfl ?_
    refine Ops.p rfl ?_
    refine Ops.gn rfl rfl ?_
    refine Ops.gn rfl rfl ?_
    refine Ops.gn rfl rfl ?_
    refine Ops.gn rfl rfl ?_
    refine Ops.gn rfl rfl ?_
    refine Ops.gn rfl rfl ?_
    refine Ops.gn rfl rfl ?_
    refine Ops.st (s := 5480) (.pkT rfl rfl rfl) rfl rfl ?_
    refine Ops.nil ?_
    refine Run.condT rfl rfl ?_
    refine Run.seq ?_
    refine Run.ops hm ?_
    refine Ops.p rfl ?_
    refine Ops.nil ?_
    refine Run.ret ?_
    obtain rfl := someO h
    exact Ends.mkG (.inl rfl) rfl (gh_pk [0] [] hB rfl rfl rfl rfl) rfl rfl
  · skip
    refine Ops.gp rfl g_232 rfl ?_
    refine Ops.gp rfl g_232 rfl ?_
    obtain ⟨y_233, hy_233, h⟩ := bindO h
    refine Ops.gs (s := 5208) rfl g_232 (Ev.call [] [] 0 (sem_spec_l01In N x_1.StartTerm (0 : Int) (100000 : Int) _ hy_233) rfl rfl (.cons (.c _) (.cons (.c _) (.cons (.c _) .nil))) rfl (.inl rfl) rfl rfl) rfl rfl ?_
    refine Ops.gp rfl g_232 rfl ?_
    refine Ops.st (s := 5240) (.pkF rfl g_232 rfl) rfl rfl ?_
    refine Ops.p rfl ?_
    refine Ops.askO (x := .t 15) rfl h (fun g_234 h => ?_) (fun g_234 h => ?_)
    · skip
      refine Ops.gn rfl g_234 ?_
      refine Ops.gn rfl g_234 ?_
      refine Ops.gn rfl g_234 ?_
      refine Ops.gn rfl g_234 ?_
      refine Ops.st (s := 5336) (.pkT rfl g_234 rfl) rfl rfl ?_
      refine Ops.p rfl ?_
      refine Ops.gn rfl rfl ?_
      refine Ops.gn rfl rfl ?_
      refine Ops.gn rfl rfl ?_
      refine Ops.gn rfl rfl ?_
      refine Ops.gn rfl rfl ?_
      refine Ops.gn rfl rfl ?_
      refine Ops.gn rfl rfl ?_
      refine Ops.st (s := 5480) (.pkT rfl rfl rfl) rfl rfl ?_
      refine Ops.nil ?_
      refine Run.condT rfl rfl ?_
      refine Run.seq ?_
      refine Run.ops hm ?_
      refine Ops.p rfl ?_
      refine Ops.nil ?_
      refine Run.ret ?_
      obtain rfl := someO h
      exact Ends.mkG (.inl rfl) rfl (gh_pk [0] [] hB rfl rfl rfl rfl) rfl rfl
    · skip
      refine Ops.gp rfl g_234 rfl ?_
      refine Ops.gp rfl g_234 rfl ?_
      refine Ops.gs (s := 5304) rfl g_234 (Ev.lnF rfl) rfl rfl ?_
      refine Ops.gp rfl g_234 rfl ?_
      refine Ops.st (s := 5336) (.pkF rfl g_234 rfl) rfl rfl ?_
      refine Ops.p rfl ?_
      refine Ops.askO (x := .t 21) rfl h (fun g_235 h => ?_) (fun g_235 h => ?_)
      · skip
        refine Ops.gn rfl g_235 ?_
        refine Ops.gn rfl g_235 ?_
        refine Ops.gn rfl g_235 ?_
        refine Ops.gn rfl g_235 ?_
        refine Ops.gn rfl g_235 ?_
        refine Ops.gn rfl g_235 ?_
        refine Ops.gn rfl g_235 ?_
        refine Ops.st (s := 5480) (.pkT rfl g_235 rfl) rfl rfl ?_
        refine Ops.nil ?_
        refine Run.condT rfl rfl ?_
        refine Run.seq ?_
        refine Run.ops hm ?_
        refine Ops.p rfl ?_
        refine Ops.nil ?_
        refine Run.ret ?_
        obtain rfl := someO h
        exact Ends.mkG (.inl rfl) rfl (gh_pk [0] [] hB rfl rfl rfl rfl) rfl rfl
      · skip
        refine Ops.gp rfl g_235 rfl ?_
        refine Ops.gp rfl g_235 rfl ?_
        refine Ops.gp rfl g_235 rfl ?_
        refine Ops.gp rfl g_235 rfl ?_
        refine Ops.gs (s := 5432) rfl g_235 (Ev.lnF rfl) rfl rfl ?_
        refine Ops.gp rfl g_235 rfl ?_
        refine Ops.gp rfl g_235 rfl ?_
        refine Ops.st (s := 5480) (.pkF rfl g_235 rfl) rfl rfl ?_
        refine Ops.nil ?_
        refine Run.condO rfl h (fun g_236 h => ?_) (fun g_236 h => ?_)
        · skip
          refine Run.seq ?_
          refine Run.ops hm ?_
          refine Ops.p rfl ?_
          refine Ops.nil ?_
          refine Run.ret ?_
          obtain rfl := someO h
          exact Ends.mkG (.inl rfl) rfl (gh_pk [0] [] hB rfl rfl rfl rfl) rfl rfl
        · skip
          refine Run.skip ?_
          refine Run.seq ?_
          refine Run.ops hm ?_
          refine Ops.p rfl ?_
          refine Ops.p rfl ?_
          refine Ops.p rfl ?_
          refine Ops.nil ?_
          refine Run.seqO h (fun (v_293 : Unit) => []) (fun (v_293 : Unit) => []) (fun h => ?_) (fun v_293 h => ?_)
          · skip
            refine Run.seq ?_
            refine Run.ops hm ?_
            refine Ops.p rfl ?_
            refine Ops.nil ?_
            refine Run.block ?_
            obtain ⟨res_324, h, hk_324⟩ := bindO h
            refine Run.loop (n := N) (fun m_324 fr σ => ∃ (x_294 : Int), ∃ (x_295 : Int), spec_LogOk_l1 N x_1 m_324 x_294 x_295 = some res_324 ∧ fr = [(1, .ptr 0 0), (3, VI x_294), (4, VI x_295)] ∧ σ = [(0, .box [VI x_1.Start, VI x_1.StartTerm, RO 48 (x_1.Entries.map encEntry)])]) (gh_pk [1, 3, 4] [1000] hB rfl rfl rfl rfl) ⟨_, _, h, rfl, rfl⟩ ?_
            rintro m_324 fr σ ⟨x_294, x_295, h, rfl, rfl⟩
            obtain _ | m_324 := m_324
            · rw [spec_LogOk_l1] at h; cases h
            rw [spec_LogOk_l1] at h
            refine Run.seq ?_
            refine Run.seq ?_
            refine Run.ops hm ?_
            refine Ops.p rfl ?_
            refine Ops.p rfl ?_
            refine Ops.p rfl ?_
            refine Ops.st (s := 21528) (Ev.lnF rfl) rfl rfl ?_
            refine Ops.p rfl ?_
            refine Ops.nil ?_
            refine Run.condO rfl h (fun g_327 h => ?_) (fun g_327 h => ?_)
            · skip
              refine Run.skip ?_
              refine Run.seq ?_
              refine Run.block ?_
              refine Run.seq ?_
              refine Run.seq ?_
              refine Run.ops hm ?_
              refine Ops.p rfl ?_
              refine Ops.p rfl ?_
              refine Ops.p rfl ?_
              obtain ⟨x_344, hx_344, h⟩ := bindO h
              refine Ops.st (s := 29720) (Ev.iaF rfl rfl hx_344) rfl rfl ?_
              refine Ops.p rfl ?_
              obtain ⟨y_345, hy_345, h⟩ := bindO h
              refine Ops.st (s := 29752) (Ev.call [] [] 0 (sem_spec_EntryOk N x_344 _ hy_345) rfl rfl (.cons (.agg (.cons (.c _) (.cons (.c _) (.cons (.c _) .nil)))) .nil) rfl (.inl rfl) rfl rfl) rfl rfl ?_
              refine Ops.p rfl ?_
              refine Ops.p rfl ?_
              refine Ops.askO (x := .t 46) rfl h (fun g_346 h => ?_) (fun g_346 h => ?_)
              · skip
                refine Ops.gn rfl g_346 ?_
                refine Ops.gn rfl g_346 ?_
                refine Ops.gn rfl g_346 ?_
                refine Ops.gn rfl g_346 ?_
                refine Ops.gn rfl g_346 ?_
                refine Ops.gn rfl g_346 ?_
                refine Ops.gn rfl g_346 ?_
                refine Ops.gn rfl g_346 ?_
                refine Ops.st (s := 29928) (.pkT rfl g_346 rfl) rfl rfl ?_
                refine Ops.nil ?_
                refine Run.condT rfl rfl ?_
                refine Run.seq ?_
                refine Run.ops hm ?_
                refine Ops.p rfl ?_
                refine Ops.nil ?_
                refine Run.ret ?_
                obtain rfl := someO h
                have h := hk_324
                replace h := inlO h
                obtain rfl := someO h
                exact Ends.mkG (.inl rfl) rfl (gh_pk [0] [] hB rfl rfl rfl rfl) rfl rfl
              · skip
                refine Ops.gp rfl g_346 rfl ?_
                refine Ops.gp rfl g_346 rfl ?_
                refine Ops.gp rfl g_346 rfl ?_
                obtain ⟨x_347, hx_347, h⟩ := bindO h
                refine Ops.gs (s := 29848) rfl g_346 (Ev.iaF rfl rfl hx_347) rfl rfl ?_
                refine Ops.gp rfl g_346 rfl ?_
                refine Ops.gp rfl g_346 rfl ?_
                refine Ops.gp rfl g_346 rfl ?_
                refine Ops.gp rfl g_346 rfl ?_
                refine Ops.st (s := 29928) (.pkF rfl g_346 rfl) rfl rfl ?_
                refine Ops.nil ?_
                refine Run.condO rfl h (fun g_348 h => ?_) (fun g_348 h => ?_)
                · skip
                  refine Run.seq ?_
                  refine Run.ops hm ?_
                  refine Ops.p rfl ?_
                  refine Ops.nil ?_
                  refine Run.ret ?_
                  obtain rfl := someO h
                  have h := hk_324
                  replace h := inlO h
                  obtain rfl := someO h
                  exact Ends.mkG (.inl rfl) rfl (gh_pk [0] [] hB rfl rfl rfl rfl) rfl rfl
                · skip
                  refine Run.skip ?_
                  refine Run.ops hm ?_
                  refine Ops.p rfl ?_
                  refine Ops.p rfl ?_
                  refine Ops.p rfl ?_
                  obtain ⟨x_349, hx_349, h⟩ := bindO h
                  refine Ops.st (s := 37912) (Ev.iaF rfl rfl hx_349) rfl rfl ?_
                  refine Ops.p rfl ?_
                  refine Ops.p rfl ?_
                  refine Ops.p rfl ?_
                  refine Ops.nil ?_
                  refine Run.ops hm ?_
                  refine Ops.p rfl ?_
                  refine Ops.p rfl ?_
                  refine Ops.p rfl ?_
                  refine Ops.nil ?_
                  exact ⟨m_324, Nat.lt_succ_self m_324, _, _, (gh_pk [1, 3, 4] [0] hB rfl rfl rfl rfl), _, _, h, rfl, rfl⟩
            · skip
              refine Run.exit ?_
              obtain rfl := someO h
              have h := hk_324
              replace h := inrO h
              exact ⟨_, _, (gh_pk [] [] hB rfl rfl rfl rfl), (), h, rfl, rfl⟩
          · skip
            refine Run.seq ?_
            refine Run.ops hm ?_
            refine Ops.p rfl ?_
            refine Ops.nil ?_
            refine Run.ret ?_
            obtain rfl := someO h
            exact Ends.mkG (.inl rfl) rfl (gh_pk [0] [] hB rfl rfl rfl rfl) rfl rfl
def spec_LogLast (N : Nat) (x_1 : Log) : Option (Int × Int) :=
 (if ((x_1.Entries.length : Int) == (0 : Int)) = true then
 some (x_1.Start, x_1.StartTerm)
 else
 (at? x_1.Entries (w64 ((x_1.Entries.length : Int) - (1 : Int)))).bind fun x_105 =>
 some (w64 (x_1.Start + (x_1.Entries.length : Int)), x_105.Term))
theorem sem_spec_LogLast (N : Nat) (x_1 : Log) (r : Int × Int) (h : spec_LogLast N x_1 = some r) : Says Try.prog 130 [.agg [VI x_1.Start, VI x_1.StartTerm, RO 48 (x_1.Entries.map encEntry)]] 0 [] (.tup [VI r.1, VI r.2]) [] := by
  unfold spec_LogLast at h
  refine Says.of_run s130 Try.call130 rfl fun B hB => ?_
  have hm : B.m ≤ 1000 := by omega
  refine Run.seq ?_
  refine Run.ops hm ?_
  refine Ops.st (s := 1000) (.bx rfl rfl) rfl rfl ?_
  refine Ops.p rfl ?_
  refine Ops.p rfl ?_
  refine Ops.nil ?_
  refine Run.seq ?_
  refine Run.ops hm ?_
  refine Ops.p rfl ?_
  refine Ops.p rfl ?_
  refine Ops.st (s := 5128) (Ev.lnF rfl) rfl rfl ?_
  refine Ops.p rfl ?_
  refine Ops.nil ?_
  refine Run.seq ?_
  refine Run.seq ?_
  refine Run.ops hm ?_
  refine Ops.p rfl ?_
  refine Ops.p rfl ?_
  refine Ops.nil ?_
  refine Run.condO rfl h (fun g_104 h => ?_) (fun g_104 h => ?_)
  · skip
    refine Run.seq ?_
    refine Run.draw hm hmix ?_
    refine OpsD.p rfl ?_
    refine OpsD.p rfl ?_
    refine OpsD.p rfl ?_
    refine OpsD.p rfl ?_
    refine OpsD.p rfl ?_
    refine OpsD.p rfl ?_
    refine OpsD.nil ⟨by kernel_rfl, ?_⟩
    refine Run.ret ?_
    obtain rfl := someO h
    exact Ends.mkG (.inl rfl) rfl (gh_pk [0, 1] [] hB rfl rfl rfl rfl) rfl rfl
  · skip
    refine Run.skip ?_
    refine Run.seq ?_
    refine Run.draw hm hmix ?_
    refine OpsD.p rfl ?_
    refine OpsD.p rfl ?_
    refine OpsD.p rfl ?_
    refine OpsD.p rfl ?_
    refine OpsD.p rfl ?_
    refine OpsD.p rfl ?_
    refine OpsD.p rfl ?_
    refine OpsD.p rfl ?_
    obtain ⟨x_105, hx_105, h⟩ := bindO h
    refine OpsD.st (s := 17512) (Ev.iaF rfl rfl hx_105) rfl rfl ?_
    refine OpsD.p rfl ?_
    refine OpsD.p rfl ?_
    refine OpsD.p rfl ?_
    refine OpsD.p rfl ?_
    refine OpsD.nil ⟨by kernel_rfl, ?_⟩
    refine Run.ret ?_
    obtain rfl := someO h
    exact Ends.mkG (.inl rfl) rfl (gh_pk [0, 1] [] hB rfl rfl rfl rfl) rfl rfl
def spec_ConfAt_l1 (N : Nat) (x_1 : Node) (x_2 : Int) : Nat → Int → (List Int) → Option ((List Int))
 | 0, _, _ => none
 | m + 1, x_278, x_293 =>
 (if (decide (x_278 < (x_1.Log.Entries.length : Int))) = true then
 (if (decide ((w64 ((w64 (x_1.Log.Start + (1 : Int))) + x_278)) ≤ x_2)) = true then
 joinP (fun (v_326 : (List Int)) =>
 spec_ConfAt_l1 N x_1 x_2 m (w64 (x_278 + (1 : Int))) v_326) fun j_326 =>
 (at? x_1.Log.Entries x_278).bind fun x_327 =>
 (if (x_327.Kind == (2 : Int)) = true then
 (at? x_1.Log.Entries x_278).bind fun x_331 =>
 (spec_ReadConf N x_331.Data).bind fun y_332 =>
 (if y_332.2 = true then
 j_326 y_332.1
 else
 j_326 x_293)
 else
 j_326 x_293)
 else
 some x_293)
 else
 some x_293)
def spec_ConfAt_l1_r (N : Nat) (x_1 : Node) (x_2 : Int) : (List Entry) → Int → (List Int) → Option ((List Int))
 | [], x_278, x_293 =>
 some x_293
 | hd :: tl, x_278, x_293 =>
 (if (decide ((w64 ((w64 (x_1.Log.Start + (1 : Int))) + x_278)) ≤ x_2)) = true then
 joinP (fun (v_326 : (List Int)) =>
 spec_ConfAt_l1_r N x_1 x_2 tl (w64 (x_278 + (1 : Int))) v_326) fun j_326 =>
 (some hd).bind fun x_327 =>
 (if (x_327.Kind == (2 : Int)) = true then
 (some hd).bind fun x_331 =>
 (spec_ReadConf N x_331.Data).bind fun y_332 =>
 (if y_332.2 = true then
 j_326 y_332.1
 else
 j_326 x_293)
 else
 j_326 x_293)
 else
 some x_293)
theorem spec_ConfAt_l1_rng (N : Nat) (x_1 : Node) (x_2 : Int) (hx : x_1.Log.Entries.length ≤ 1099511627776) : ∀ (d k m : Nat) (x_293 : (List Int)), x_1.Log.Entries.length = k + d → d < m → spec_ConfAt_l1 N x_1 x_2 m (k : Int) x_293 = spec_ConfAt_l1_r N x_1 x_2 (x_1.Log.Entries.drop k) (k : Int) x_293 := by
  intro d
  induction d with
  | zero =>
    intro k m x_293 hd hm
    obtain ⟨m, rfl⟩ : ∃ q, m = q + 1 := ⟨m - 1, by omega⟩
    rw [spec_ConfAt_l1, if_neg (by simp; omega), List.drop_eq_nil_of_le (by omega), spec_ConfAt_l1_r]
  | succ d ih =>
    intro k m x_293 hd hm
    obtain ⟨m, rfl⟩ : ∃ q, m = q + 1 := ⟨m - 1, by omega⟩
    have hk : k < x_1.Log.Entries.length := by omega
    rw [spec_ConfAt_l1, if_pos (by simp; omega), List.drop_eq_getElem_cons hk, spec_ConfAt_l1_r]
    have h1 := at_lt hk
    have h2 := w64_succ (k := k) (by omega)
    have h3 := ih (k + 1) m
    simp only [h1, h2, h3 _ (by omega) (by omega)]
theorem spec_ConfAt_l1_eq {N : Nat} (x_1 : Node) (x_2 : Int) (hx : x_1.Log.Entries.length ≤ 1099511627776) (hN : x_1.Log.Entries.length < N) (x_293 : (List Int)) : spec_ConfAt_l1 N x_1 x_2 N 0 x_293 = spec_ConfAt_l1_r N x_1 x_2 x_1.Log.Entries 0 x_293 := spec_ConfAt_l1_rng N x_1 x_2 hx x_1.Log.Entries.length 0 N x_293 (by omega) hN
def spec_ConfAt (N : Nat) (x_1 : Node) (x_2 : Int) : Option ((List Int)) :=
 (cat? ([] : List Int) x_1.Conf).bind fun x_218 =>
 joinP (fun (v_276 : (List Int)) =>
 some v_276) fun j_276 =>
 (spec_ConfAt_l1 N x_1 x_2 N (0 : Int) x_218).bind (fun (v_313 : (List Int)) => j_276 v_313)
theorem sem_spec_ConfAt (N : Nat) (x_1 : Node) (x_2 : Int) (r : (List Int)) (h : spec_ConfAt N x_1 x_2 = some r) : Says Try.prog 46 [.agg [VI x_1.Id, VI x_1.Term, VI x_1.Vote, VI x_1.Role, VI x_1.Lead, RO 3 (x_1.Conf.map encI), VI x_1.Log.Start, VI x_1.Log.StartTerm, RO 48 (x_1.Log.Entries.map encEntry), VI x_1.Commit, VI x_1.Clock, VI x_1.Limit, RO 3 (x_1.Votes.map encI), RO 172 (x_1.Peers.map encPeer)], VI x_2] 0 [] (.sl 0 3 0 r.length) [(0, .vec 3 (r.map encI))] := by
  unfold spec_ConfAt at h
  refine Says.of_run s46 Try.call46 rfl fun B hB => ?_
  have hm : B.m ≤ 1000 := by omega
  refine Run.seq ?_
  refine Run.ops hm ?_
  refine Ops.st (s := 1000) (.bx rfl rfl) rfl rfl ?_
  refine Ops.p rfl ?_
  refine Ops.nil ?_
  refine Run.seq ?_
  refine Run.ops hm ?_
  refine Ops.st (s := 5096) (Ev.bsW (ys := ([] : List Int)) (f := encI) rfl .nil rfl rfl rfl rfl rfl) rfl rfl ?_
  refine Ops.p rfl ?_
  refine Ops.p rfl ?_
  obtain ⟨x_218, hx_218, h⟩ := bindO h
  refine Ops.st (s := 5144) (Ev.apW (f := encI) (ontoW rfl rfl rfl) (addsF rfl) rfl bt3 rfl hx_218) rfl rfl ?_
  refine Ops.p rfl ?_
  refine Ops.nil ?_
  refine Run.seqO h (fun (v_276 : (List Int)) => [(5, .sl 0 3 0 v_276.length)]) (fun (v_276 : (List Int)) => [(0, .vec 3 (v_276.map encI))]) (fun h => ?_) (fun v_276 h => ?_)
  · skip
    refine Run.seq ?_
    refine Run.ops hm ?_
    refine Ops.p rfl ?_
    refine Ops.nil ?_
    refine Run.block ?_
    obtain ⟨res_313, h, hk_313⟩ := bindO h
    refine Run.loop (n := N) (fun m_313 fr σ => ∃ (x_278 : Int), ∃ (x_293 : (List Int)), spec_ConfAt_l1 N x_1 x_2 m_313 x_278 x_293 = some res_313 ∧ fr = [(1, VI x_2), (2, .ptr 0 0), (5, .sl 1 3 0 x_293.length), (6, VI x_278)] ∧ σ = [(0, .box [VI x_1.Id, VI x_1.Term, VI x_1.Vote, VI x_1.Role, VI x_1.Lead, RO 3 (x_1.Conf.map encI), VI x_1.Log.Start, VI x_1.Log.StartTerm, RO 48 (x_1.Log.Entries.map encEntry), VI x_1.Commit, VI x_1.Clock, VI x_1.Limit, RO 3 (x_1.Votes.map encI), RO 172 (x_1.Peers.map encPeer)]), (1, .vec 3 (x_293.map encI))]) (gh_pk [1, 2, 5, 6] [1000, 5144] hB rfl rfl rfl rfl) ⟨_, _, h, rfl, rfl⟩ ?_
    rintro m_313 fr σ ⟨x_278, x_293, h, rfl, rfl⟩
    obtain _ | m_313 := m_313
    · rw [spec_ConfAt_l1] at h; cases h
    rw [spec_ConfAt_l1] at h
    refine Run.seq ?_
    refine Run.seq ?_
    refine Run.ops hm ?_
    refine Ops.p rfl ?_
    refine Ops.p rfl ?_
    refine Ops.p rfl ?_
    refine Ops.p rfl ?_
    refine Ops.st (s := 13352) (Ev.lnF rfl) rfl rfl ?_
    refine Ops.p rfl ?_
    refine Ops.p rfl ?_
    refine Ops.askO (x := .t 19) rfl h (fun g_317 h => ?_) (fun g_317 h => ?_)
    · skip
      refine Ops.gp rfl g_317 rfl ?_
      refine Ops.gp rfl g_317 rfl ?_
      refine Ops.gp rfl g_317 rfl ?_
      refine Ops.gp rfl g_317 rfl ?_
      refine Ops.gp rfl g_317 rfl ?_
      refine Ops.gp rfl g_317 rfl ?_
      refine Ops.gp rfl g_317 rfl ?_
      refine Ops.gp rfl g_317 rfl ?_
      refine Ops.st (s := 13528) (.pkT rfl g_317 rfl) rfl rfl ?_
      refine Ops.nil ?_
      refine Run.condO rfl h (fun g_318 h => ?_) (fun g_318 h => ?_)
      · skip
        refine Run.skip ?_
        refine Run.seqO h (fun (v_326 : (List Int)) => [(1, VI x_2), (2, .ptr 0 0), (5, .sl 1 3 0 v_326.length), (6, VI x_278)]) (fun (v_326 : (List Int)) => [(0, .box [VI x_1.Id, VI x_1.Term, VI x_1.Vote, VI x_1.Role, VI x_1.Lead, RO 3 (x_1.Conf.map encI), VI x_1.Log.Start, VI x_1.Log.StartTerm, RO 48 (x_1.Log.Entries.map encEntry), VI x_1.Commit, VI x_1.Clock, VI x_1.Limit, RO 3 (x_1.Votes.map encI), RO 172 (x_1.Peers.map encPeer)]), (1, .vec 3 (v_326.map encI))]) (fun h => ?_) (fun v_326 h => ?_)
        · skip
          refine Run.block ?_
          refine Run.seq ?_
          refine Run.ops hm ?_
          refine Ops.p rfl ?_
          refine Ops.p rfl ?_
          refine Ops.p rfl ?_
          refine Ops.p rfl ?_
          obtain ⟨x_327, hx_327, h⟩ := bindO h
          refine Ops.st (s := 21544) (Ev.iaF rfl rfl hx_327) rfl rfl ?_
          refine Ops.p rfl ?_
          refine Ops.p rfl ?_
          refine Ops.p rfl ?_
          refine Ops.nil ?_
          refine Run.condO rfl h (fun g_328 h => ?_) (fun g_328 h => ?_)
          · skip
            refine Run.seq ?_
            refine Run.ops hm ?_
            refine Ops.p rfl ?_
            refine Ops.p rfl ?_
            refine Ops.p rfl ?_
            refine Ops.p rfl ?_
            obtain ⟨x_331, hx_331, h⟩ := bindO h
            refine Ops.st (s := 25640) (Ev.iaF rfl rfl hx_331) rfl rfl ?_
            refine Ops.p rfl ?_
            refine Ops.p rfl ?_
            obtain ⟨y_332, hy_332, h⟩ := bindO h
            refine Ops.st (s := 25688) (Ev.call [] [] 1 (sem_spec_ReadConf N x_331.Data _ hy_332) rfl rfl (.cons (.c _) .nil) rfl (.inl rfl) rfl rfl) rfl rfl ?_
            refine Ops.p rfl ?_
            refine Ops.p rfl ?_
            refine Ops.p rfl ?_
            refine Ops.p rfl ?_
            refine Ops.p rfl ?_
            refine Ops.nil ?_
            refine Run.seq ?_
            refine Run.ops hm ?_
            refine Ops.p rfl ?_
            refine Ops.nil ?_
            refine Run.condO rfl h (fun g_333 h => ?_) (fun g_333 h => ?_)
            · skip
              refine Run.ops hm ?_
              refine Ops.p rfl ?_
              refine Ops.p rfl ?_
              refine Ops.nil ?_
              exact ⟨_, _, (gh_pk [1, 2, 5, 6] [0, 25688] hB rfl rfl rfl rfl), y_332.1, h, rfl, rfl⟩
            · skip
              refine Run.skip ?_
              exact ⟨_, _, (gh_pk [1, 2, 5, 6] [0, 1] hB rfl rfl rfl rfl), x_293, h, rfl, rfl⟩
          · skip
            refine Run.skip ?_
            exact ⟨_, _, (gh_pk [1, 2, 5, 6] [0, 1] hB rfl rfl rfl rfl), x_293, h, rfl, rfl⟩
        · skip
          refine Run.ops hm ?_
          refine Ops.p rfl ?_
          refine Ops.p rfl ?_
          refine Ops.p rfl ?_
          refine Ops.nil ?_
          exact ⟨m_313, Nat.lt_succ_self m_313, _, _, (gh_pk [1, 2, 5, 6] [0, 1] hB rfl rfl rfl rfl), _, _, h, rfl, rfl⟩
      · skip
        refine Run.exit ?_
        obtain rfl := someO h
        have h := hk_313
        exact ⟨_, _, (gh_pk [5] [1] hB rfl rfl rfl rfl), x_293, h, rfl, rfl⟩
    · skip
      refine Ops.gn rfl g_317 ?_
      refine Ops.gn rfl g_317 ?_
      refine Ops.gn rfl g_317 ?_
      refine Ops.gn rfl g_317 ?_
      refine Ops.gn rfl g_317 ?_
      refine Ops.gn rfl g_317 ?_
      refine Ops.gn rfl g_317 ?_
      refine Ops.gn rfl g_317 ?_
      refine Ops.st (s := 13528) (.pkF rfl g_317 rfl) rfl rfl ?_
      refine Ops.nil ?_
      refine Run.condF rfl rfl ?_
      refine Run.exit ?_
      obtain rfl := someO h
      have h := hk_313
      exact ⟨_, _, (gh_pk [5] [1] hB rfl rfl rfl rfl), x_293, h, rfl, rfl⟩
  · skip
    refine Run.seq ?_
    refine Run.ops hm ?_
    refine Ops.p rfl ?_
    refine Ops.p rfl ?_
    refine Ops.nil ?_
    refine Run.ret ?_
    obtain rfl := someO h
    exact Ends.mkG (.inl rfl) rfl (gh_pk [0] [0] hB rfl rfl rfl rfl) rfl rfl
def spec_ConfOf (N : Nat) (x_1 : Node) : Option ((List Int)) :=
 (spec_ConfAt N x_1 (100120 : Int)).bind fun y_101 =>
 some y_101
theorem sem_spec_ConfOf (N : Nat) (x_1 : Node) (r : (List Int)) (h : spec_ConfOf N x_1 = some r) : Says Try.prog 54 [.agg [VI x_1.Id, VI x_1.Term, VI x_1.Vote, VI x_1.Role, VI x_1.Lead, RO 3 (x_1.Conf.map encI), VI x_1.Log.Start, VI x_1.Log.StartTerm, RO 48 (x_1.Log.Entries.map encEntry), VI x_1.Commit, VI x_1.Clock, VI x_1.Limit, RO 3 (x_1.Votes.map encI), RO 172 (x_1.Peers.map encPeer)]] 0 [] (.sl 0 3 0 r.length) [(0, .vec 3 (r.map encI))] := by
  unfold spec_ConfOf at h
  refine Says.of_run s54 Try.call54 rfl fun B hB => ?_
  have hm : B.m ≤ 1000 := by omega
  refine Run.seq ?_
  refine Run.ops hm ?_
  refine Ops.st (s := 1000) (.bx rfl rfl) rfl rfl ?_
  refine Ops.p rfl ?_
  refine Ops.nil ?_
  refine Run.seq ?_
  refine Run.ops hm ?_
  refine Ops.p rfl ?_
  obtain ⟨y_101, hy_101, h⟩ := bindO h
  refine Ops.st (s := 5112) (Ev.call [] [] 1 (sem_spec_ConfAt N x_1 (100120 : Int) _ hy_101) rfl rfl (.cons (.agg (.cons (.c _) (.cons (.c _) (.cons (.c _) (.cons (.c _) (.cons (.c _) (.cons (.c _) (.cons (.c _) (.cons (.c _) (.cons (.c _) (.cons (.c _) (.cons (.c _) (.cons (.c _) (.cons (.c _) (.cons (.c _) .nil))))))))))))))) (.cons (.c _) .nil)) rfl (.inl rfl) rfl rfl) rfl rfl ?_
  refine Ops.p rfl ?_
  refine Ops.nil ?_
  refine Run.ret ?_
  obtain rfl := someO h
  exact Ends.mkG (.inl rfl) rfl (gh_pk [0] [5112] hB rfl rfl rfl rfl) rfl rfl
def spec_l16Others_l1 (N : Nat) (x_1 : (List Int)) (x_2 : Int) : Nat → Int → (List Int) → Option ((List Int))
 | 0, _, _ => none
 | m + 1, x_188, x_189 =>
 (if (decide (x_188 < (x_1.length : Int))) = true then
 joinP (fun (v_209 : (List Int)) =>
 spec_l16Others_l1 N x_1 x_2 m (w64 (x_188 + (1 : Int))) v_209) fun j_209 =>
 (at? x_1 x_188).bind fun x_210 =>
 (if (x_210 != x_2) = true then
 (at? x_1 x_188).bind fun x_212 =>
 (cat? x_189 ([x_212] : List Int)).bind fun x_213 =>
 j_209 x_213
 else
 j_209 x_189)
 else
 some x_189)
def spec_l16Others_l1_r (N : Nat) (x_1 : (List Int)) (x_2 : Int) : (List Int) → Int → (List Int) → Option ((List Int))
 | [], x_188, x_189 =>
 some x_189
 | hd :: tl, x_188, x_189 =>
 joinP (fun (v_209 : (List Int)) =>
 spec_l16Others_l1_r N x_1 x_2 tl (w64 (x_188 + (1 : Int))) v_209) fun j_209 =>
 (some hd).bind fun x_210 =>
 (if (x_210 != x_2) = true then
 (some hd).bind fun x_212 =>
 (cat? x_189 ([x_212] : List Int)).bind fun x_213 =>
 j_209 x_213
 else
 j_209 x_189)
theorem spec_l16Others_l1_rng (N : Nat) (x_1 : (List Int)) (x_2 : Int) (hx : x_1.length ≤ 1099511627776) : ∀ (d k m : Nat) (x_189 : (List Int)), x_1.length = k + d → d < m → spec_l16Others_l1 N x_1 x_2 m (k : Int) x_189 = spec_l16Others_l1_r N x_1 x_2 (x_1.drop k) (k : Int) x_189 := by
  intro d
  induction d with
  | zero =>
    intro k m x_189 hd hm
    obtain ⟨m, rfl⟩ : ∃ q, m = q + 1 := ⟨m - 1, by omega⟩
    rw [spec_l16Others_l1, if_neg (by simp; omega), List.drop_eq_nil_of_le (by omega), spec_l16Others_l1_r]
  | succ d ih =>
    intro k m x_189 hd hm
    obtain ⟨m, rfl⟩ : ∃ q, m = q + 1 := ⟨m - 1, by omega⟩
    have hk : k < x_1.length := by omega
    rw [spec_l16Others_l1, if_pos (by simp; omega), List.drop_eq_getElem_cons hk, spec_l16Others_l1_r]
    have h1 := at_lt hk
    have h2 := w64_succ (k := k) (by omega)
    have h3 := ih (k + 1) m
    simp only [h1, h2, h3 _ (by omega) (by omega)]
theorem spec_l16Others_l1_eq {N : Nat} (x_1 : (List Int)) (x_2 : Int) (hx : x_1.length ≤ 1099511627776) (hN : x_1.length < N) (x_189 : (List Int)) : spec_l16Others_l1 N x_1 x_2 N 0 x_189 = spec_l16Others_l1_r N x_1 x_2 x_1 0 x_189 := spec_l16Others_l1_rng N x_1 x_2 hx x_1.length 0 N x_189 (by omega) hN
def spec_l16Others (N : Nat) (x_1 : (List Int)) (x_2 : Int) : Option ((List Int)) :=
 joinP (fun (v_185 : (List Int)) =>
 some v_185) fun j_185 =>
 (spec_l16Others_l1 N x_1 x_2 N (0 : Int) ([] : List Int)).bind (fun (v_201 : (List Int)) => j_185 v_201)
theorem sem_spec_l16Others (N : Nat) (x_1 : (List Int)) (x_2 : Int) (r : (List Int)) (h : spec_l16Others N x_1 x_2 = some r) : Says Try.prog 132 [RO 3 (x_1.map encI), VI x_2] 0 [] (.sl 0 3 0 r.length) [(0, .vec 3 (r.map encI))] := by
  unfold spec_l16Others at h
  refine Says.of_run s132 Try.call132 rfl fun B hB => ?_
  have hm : B.m ≤ 1000 := by omega
  refine Run.seq ?_
  refine Run.ops hm ?_
  refine Ops.p rfl ?_
  refine Ops.nil ?_
  refine Run.seq ?_
  refine Run.ops hm ?_
  refine Ops.st (s := 5096) (Ev.bsW (ys := ([] : List Int)) (f := encI) rfl .nil rfl rfl rfl rfl rfl) rfl rfl ?_
  refine Ops.p rfl ?_
  refine Ops.nil ?_
  refine Run.seqO h (fun (v_185 : (List Int)) => [(5, .sl 0 3 0 v_185.length)]) (fun (v_185 : (List Int)) => [(0, .vec 3 (v_185.map encI))]) (fun h => ?_) (fun v_185 h => ?_)
  · skip
    refine Run.seq ?_
    refine Run.ops hm ?_
    refine Ops.p rfl ?_
    refine Ops.nil ?_
    refine Run.block ?_
    obtain ⟨res_201, h, hk_201⟩ := bindO h
    refine Run.loop (n := N) (fun m_201 fr σ => ∃ (x_188 : Int), ∃ (x_189 : (List Int)), spec_l16Others_l1 N x_1 x_2 m_201 x_188 x_189 = some res_201 ∧ fr = [(0, RO 3 (x_1.map encI)), (1, VI x_2), (5, .sl 0 3 0 x_189.length), (6, VI x_188)] ∧ σ = [(0, .vec 3 (x_189.map encI))]) (gh_pk [0, 1, 5, 6] [5096] hB rfl rfl rfl rfl) ⟨_, _, h, rfl, rfl⟩ ?_
    rintro m_201 fr σ ⟨x_188, x_189, h, rfl, rfl⟩
    obtain _ | m_201 := m_201
    · rw [spec_l16Others_l1] at h; cases h
    rw [spec_l16Others_l1] at h
    refine Run.seq ?_
    refine Run.seq ?_
    refine Run.ops hm ?_
    refine Ops.p rfl ?_
    refine Ops.p rfl ?_
    refine Ops.st (s := 13320) (Ev.lnF rfl) rfl rfl ?_
    refine Ops.p rfl ?_
    refine Ops.nil ?_
    refine Run.condO rfl h (fun g_204 h => ?_) (fun g_204 h => ?_)
    · skip
      refine Run.skip ?_
      refine Run.seqO h (fun (v_209 : (List Int)) => [(0, RO 3 (x_1.map encI)), (1, VI x_2), (5, .sl 0 3 0 v_209.length), (6, VI x_188)]) (fun (v_209 : (List Int)) => [(0, .vec 3 (v_209.map encI))]) (fun h => ?_) (fun v_209 h => ?_)
      · skip
        refine Run.block ?_
        refine Run.seq ?_
        refine Run.ops hm ?_
        refine Ops.p rfl ?_
        refine Ops.p rfl ?_
        obtain ⟨x_210, hx_210, h⟩ := bindO h
        refine Ops.st (s := 21512) (Ev.iaF rfl rfl hx_210) rfl rfl ?_
        refine Ops.p rfl ?_
        refine Ops.p rfl ?_
        refine Ops.p rfl ?_
        refine Ops.nil ?_
        refine Run.condO rfl h (fun g_211 h => ?_) (fun g_211 h => ?_)
        · skip
          refine Run.ops hm ?_
          refine Ops.p rfl ?_
          refine Ops.p rfl ?_
          refine Ops.p rfl ?_
          obtain ⟨x_212, hx_212, h⟩ := bindO h
          refine Ops.st (s := 25624) (Ev.iaF rfl rfl hx_212) rfl rfl ?_
          refine Ops.p rfl ?_
          refine Ops.st (s := 25656) (Ev.bsW (ys := ([x_212] : List Int)) (f := encI) rfl (.cons (.c _) .nil) rfl rfl rfl rfl rfl) rfl rfl ?_
          obtain ⟨x_213, hx_213, h⟩ := bindO h
          refine Ops.st (s := 25672) (Ev.apW (f := encI) (ontoW rfl rfl rfl) (addsW rfl rfl rfl (fun _ => rfl)) rfl bt3 rfl hx_213) rfl rfl ?_
          refine Ops.p rfl ?_
          refine Ops.nil ?_
          exact ⟨_, _, (gh_pk [0, 1, 5, 6] [25672] hB rfl rfl rfl rfl), x_213, h, rfl, rfl⟩
        · skip
          refine Run.skip ?_
          exact ⟨_, _, (gh_pk [0, 1, 5, 6] [0] hB rfl rfl rfl rfl), x_189, h, rfl, rfl⟩
      · skip
        refine Run.ops hm ?_
        refine Ops.p rfl ?_
        refine Ops.p rfl ?_
        refine Ops.p rfl ?_
        refine Ops.nil ?_
        exact ⟨m_201, Nat.lt_succ_self m_201, _, _, (gh_pk [0, 1, 5, 6] [0] hB rfl rfl rfl rfl), _, _, h, rfl, rfl⟩
    · skip
      refine Run.exit ?_
      obtain rfl := someO h
      have h := hk_201
      exact ⟨_, _, (gh_pk [5] [0] hB rfl rfl rfl rfl), x_189, h, rfl, rfl⟩
  · skip
    refine Run.seq ?_
    refine Run.ops hm ?_
    refine Ops.p rfl ?_
    refine Ops.p rfl ?_
    refine Ops.nil ?_
    refine Run.ret ?_
    obtain rfl := someO h
    exact Ends.mkG (.inl rfl) rfl (gh_pk [0] [0] hB rfl rfl rfl rfl) rfl rfl
end Go.Proofs.Ytebbgdjmplceiaa.Pe.FnExactNodeNew
