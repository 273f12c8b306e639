/- Functions, as pure functions; and that Go does just that. -/
import Derived.Test.YtebbgdjmplceiaaPeFFnExactNodeNew2
namespace Go.Proofs.Ytebbgdjmplceiaa.Pe.FnExactNodeNew
open Go Go.RowKit
set_option linter.unusedVariables false
set_option linter.unusedSimpArgs false
set_option maxHeartbeats 40000000
def impl_peersOk_l1 (N : Nat) (x_1 : Node) : Nat → Int → (List Int) → Option ((Bool) ⊕ ((List Int)))
 | 0, _, _ => none
 | m + 1, x_247, x_262 =>
 (if (decide (x_247 < (x_1.Peers.length : Int))) = true then
 (at? x_1.Peers x_247).bind fun x_282 =>
 (cat? x_262 ([x_282.Id] : List Int)).bind fun x_284 =>
 (impl_last N x_1.Log).bind fun y_285 =>
 (impl_within N x_282.Next (1 : Int) (w64 (y_285 + (1 : Int)))).bind fun y_286 =>
 (if (!y_286) = true then
 some (Sum.inl false)
 else
 (impl_within N x_282.Match (0 : Int) (w64 (x_282.Next - (1 : Int)))).bind fun y_288 =>
 (if (!y_288) = true then
 some (Sum.inl false)
 else
 (impl_within N x_282.Sent (0 : Int) (20000 : Int)).bind fun y_290 =>
 (if (!y_290) = true then
 some (Sum.inl false)
 else
 impl_peersOk_l1 N x_1 m (w64 (x_247 + (1 : Int))) x_284)))
 else
 some (Sum.inr x_262))
def impl_peersOk_l1_r (N : Nat) (x_1 : Node) : (List Peer) → Int → (List Int) → Option ((Bool) ⊕ ((List Int)))
 | [], x_247, x_262 =>
 some (Sum.inr x_262)
 | hd :: tl, x_247, x_262 =>
 (some hd).bind fun x_282 =>
 (cat? x_262 ([x_282.Id] : List Int)).bind fun x_284 =>
 (impl_last N x_1.Log).bind fun y_285 =>
 (impl_within N x_282.Next (1 : Int) (w64 (y_285 + (1 : Int)))).bind fun y_286 =>
 (if (!y_286) = true then
 some (Sum.inl false)
 else
 (impl_within N x_282.Match (0 : Int) (w64 (x_282.Next - (1 : Int)))).bind fun y_288 =>
 (if (!y_288) = true then
 some (Sum.inl false)
 else
 (impl_within N x_282.Sent (0 : Int) (20000 : Int)).bind fun y_290 =>
 (if (!y_290) = true then
 some (Sum.inl false)
 else
 impl_peersOk_l1_r N x_1 tl (w64 (x_247 + (1 : Int))) x_284)))
theorem impl_peersOk_l1_rng (N : Nat) (x_1 : Node) (hx : x_1.Peers.length ≤ 1099511627776) : ∀ (d k m : Nat) (x_262 : (List Int)), x_1.Peers.length = k + d → d < m → impl_peersOk_l1 N x_1 m (k : Int) x_262 = impl_peersOk_l1_r N x_1 (x_1.Peers.drop k) (k : Int) x_262 := by
  intro d
  induction d with
  | zero =>
    intro k m x_262 hd hm
    obtain ⟨m, rfl⟩ : ∃ q, m = q + 1 := ⟨m - 1, by omega⟩
    rw [impl_peersOk_l1, if_neg (by simp; omega), List.drop_eq_nil_of_le (by omega), impl_peersOk_l1_r]
  | succ d ih =>
    intro k m x_262 hd hm
    obtain ⟨m, rfl⟩ : ∃ q, m = q + 1 := ⟨m - 1, by omega⟩
    have hk : k < x_1.Peers.length := by omega
    rw [impl_peersOk_l1, if_pos (by simp; omega), List.drop_eq_getElem_cons hk, impl_peersOk_l1_r]
    have h1 := at_lt hk
    have h2 := w64_succ (k := k) (by omega)
    have h3 := ih (k + 1) m
    simp only [h1, h2, h3 _ (by omega) (by omega)]
theorem impl_peersOk_l1_eq {N : Nat} (x_1 : Node) (hx : x_1.Peers.length ≤ 1099511627776) (hN : x_1.Peers.length < N) (x_262 : (List Int)) : impl_peersOk_l1 N x_1 N 0 x_262 = impl_peersOk_l1_r N x_1 x_1.Peers 0 x_262 := impl_peersOk_l1_rng N x_1 hx x_1.Peers.length 0 N x_262 (by omega) hN
def impl_peersOk (N : Nat) (x_1 : Node) : Option (Bool) :=
 joinP (fun (v_244 : (List Int)) =>
 (impl_othersOf N x_1).bind fun y_292 =>
 (slices_Equal_int N v_244 (y_292.2.take y_292.1)).bind fun y_293 =>
 some y_293) fun j_244 =>
 (impl_peersOk_l1 N x_1 N (0 : Int) ([] : (List Int))).bind (Sum.elim (fun v_276 => some v_276) (fun (v_277 : (List Int)) => j_244 v_277))
theorem sem_impl_peersOk (N : Nat) (x_1 : Node) (r : Bool) (h : impl_peersOk N x_1 = some r) : Says Try.prog 129 [.agg [VI x_1.Id, VI x_1.Term, VI x_1.Vote, VI x_1.Role, VI x_1.Lead, RO 3 (x_1.Conf.map encI), VI x_1.Log.Start, VI x_1.Log.StartTerm, RO 48 (x_1.Log.Entries.map encEntry), VI x_1.Commit, VI x_1.Clock, VI x_1.Limit, RO 3 (x_1.Votes.map encI), RO 172 (x_1.Peers.map encPeer)]] 0 [] (VB r) [] := by
  unfold impl_peersOk at h
  refine Says.of_run s129 Try.call129 rfl fun B hB => ?_
  have hm : B.m ≤ 1000 := by omega
  refine Run.seq ?_
  refine Run.ops hm ?_
  refine Ops.st (s := 1000) (.bx rfl rfl) rfl rfl ?_
  refine Ops.p rfl ?_
  refine Ops.nil ?_
  refine Run.seq ?_
  refine Run.ops hm ?_
  refine Ops.p rfl ?_
  refine Ops.nil ?_
  refine Run.seqO h (fun (v_244 : (List Int)) => [(1, .ptr 0 0), (3, .sl 1 3 0 v_244.length)]) (fun (v_244 : (List Int)) => [(0, .box [VI x_1.Id, VI x_1.Term, VI x_1.Vote, VI x_1.Role, VI x_1.Lead, RO 3 (x_1.Conf.map encI), VI x_1.Log.Start, VI x_1.Log.StartTerm, RO 48 (x_1.Log.Entries.map encEntry), VI x_1.Commit, VI x_1.Clock, VI x_1.Limit, RO 3 (x_1.Votes.map encI), RO 172 (x_1.Peers.map encPeer)]), (1, .vec 3 (v_244.map encI))]) (fun h => ?_) (fun v_244 h => ?_)
  · skip
    refine Run.seq ?_
    refine Run.ops hm ?_
    refine Ops.p rfl ?_
    refine Ops.p rfl ?_
    refine Ops.st (s := 9224) (Ev.lnF rfl) rfl rfl ?_
    refine Ops.p rfl ?_
    refine Ops.nil ?_
    refine Run.block ?_
    obtain ⟨res_277, h, hk_277⟩ := bindO h
    refine Run.loop (n := N) (fun m_277 fr σ => ∃ (x_247 : Int), ∃ (x_262 : (List Int)), impl_peersOk_l1 N x_1 m_277 x_247 x_262 = some res_277 ∧ fr = [(1, .ptr 0 0), (3, .sl 1 3 0 x_262.length), (7, RO 172 (x_1.Peers.map encPeer)), (8, VI (x_1.Peers.length : Int)), (9, VI x_247)] ∧ σ = [(0, .box [VI x_1.Id, VI x_1.Term, VI x_1.Vote, VI x_1.Role, VI x_1.Lead, RO 3 (x_1.Conf.map encI), VI x_1.Log.Start, VI x_1.Log.StartTerm, RO 48 (x_1.Log.Entries.map encEntry), VI x_1.Commit, VI x_1.Clock, VI x_1.Limit, RO 3 (x_1.Votes.map encI), RO 172 (x_1.Peers.map encPeer)]), (1, .vec 3 (x_262.map encI))]) (Gh.trans (Gh.trans (gh_prn [1, 3, 7, 8, 9] [1000] hB rfl) (gh_nil [3] [] hB rfl rfl rfl)) (gh_pk [1, 3, 7, 8, 9] [1000, 10000000] hB rfl rfl rfl rfl)) ⟨_, _, h, rfl, rfl⟩ ?_
    rintro m_277 fr σ ⟨x_247, x_262, h, rfl, rfl⟩
    obtain _ | m_277 := m_277
    · rw [impl_peersOk_l1] at h; cases h
    rw [impl_peersOk_l1] at h
    refine Run.seq ?_
    refine Run.ops hm ?_
    refine Ops.p rfl ?_
    refine Ops.nil ?_
    refine Run.seq ?_
    refine Run.condO rfl h (fun g_280 h => ?_) (fun g_280 h => ?_)
    · skip
      refine Run.skip ?_
      refine Run.seq ?_
      refine Run.block ?_
      refine Run.seq ?_
      refine Run.ops hm ?_
      obtain ⟨x_282, hx_282, h⟩ := bindO h
      refine Ops.st (s := 17384) (Ev.iaF rfl rfl hx_282) rfl rfl ?_
      refine Ops.p rfl ?_
      refine Ops.st (s := 17416) (.al rfl rfl) rfl rfl ?_
      refine Ops.s0 (s := 17432) (.sto rfl rfl rfl rfl rfl rfl) rfl rfl ?_
      refine Ops.nil ?_
      refine Run.seq ?_
      refine Run.ops hm ?_
      refine Ops.p rfl ?_
      refine Ops.p rfl ?_
      refine Ops.p rfl ?_
      refine Ops.st (s := 21528) (Ev.bsW (ys := ([x_282.Id] : List Int)) (f := encI) rfl (.cons (.c _) .nil) rfl rfl rfl rfl rfl) rfl rfl ?_
      obtain ⟨x_284, hx_284, h⟩ := bindO h
      refine Ops.st (s := 21544) (Ev.apW (f := encI) (ontoW rfl rfl rfl) (addsW rfl rfl rfl (fun _ => rfl)) rfl bt3 rfl hx_284) rfl rfl ?_
      refine Ops.p rfl ?_
      refine Ops.nil ?_
      refine Run.seq ?_
      refine Run.draw hm hmix ?_
      refine OpsD.p rfl ?_
      refine OpsD.p rfl ?_
      refine OpsD.p rfl ?_
      refine OpsD.p rfl ?_
      obtain ⟨y_285, hy_285, h⟩ := bindO h
      refine OpsD.st (s := 25640) (Ev.call [] [] 0 (sem_impl_last N x_1.Log _ hy_285) rfl rfl (.cons (.agg (.cons (.c _) (.cons (.c _) (.cons (.c _) .nil)))) .nil) rfl (.inl rfl) rfl rfl) rfl rfl ?_
      refine OpsD.p rfl ?_
      obtain ⟨y_286, hy_286, h⟩ := bindO h
      refine OpsD.st (s := 25672) (Ev.call [] [] 0 (sem_impl_within N x_282.Next (1 : Int) (w64 (y_285 + (1 : Int))) _ hy_286) rfl rfl (.cons (.c _) (.cons (.c _) (.cons (.c _) .nil))) rfl (.inl rfl) rfl rfl) rfl rfl ?_
      refine OpsD.p rfl ?_
      refine OpsD.p rfl ?_
      refine OpsD.askO (x := .t 26) rfl h (fun g_287 h => ?_) (fun g_287 h => ?_)
      · skip
        refine OpsD.gn rfl g_287 ?_
        refine OpsD.gn rfl g_287 ?_
        refine OpsD.gn rfl g_287 ?_
        refine OpsD.gn rfl g_287 ?_
        refine OpsD.gn rfl g_287 ?_
        refine OpsD.gn rfl g_287 ?_
        refine OpsD.gn rfl g_287 ?_
        refine OpsD.st (s := 25832) (.pkT rfl g_287 rfl) rfl rfl ?_
        refine OpsD.p rfl ?_
        refine OpsD.gn rfl rfl ?_
        refine OpsD.gn rfl rfl ?_
        refine OpsD.gn rfl rfl ?_
        refine OpsD.gn rfl rfl ?_
        refine OpsD.st (s := 25928) (.pkT rfl rfl rfl) rfl rfl ?_
        refine OpsD.nil ⟨by kernel_rfl, ?_⟩
        refine Run.condT rfl rfl ?_
        refine Run.seq ?_
        refine Run.ops hm ?_
        refine Ops.p rfl ?_
        refine Ops.nil ?_
        refine Run.ret ?_
        obtain rfl := someO h
        have h := hk_277
        replace h := inlO h
        obtain rfl := someO h
        exact Ends.mkG (.inl rfl) rfl (gh_pk [0] [] hB rfl rfl rfl rfl) rfl rfl
      · skip
        refine OpsD.gp rfl g_287 rfl ?_
        refine OpsD.gp rfl g_287 rfl ?_
        refine OpsD.gp rfl g_287 rfl ?_
        refine OpsD.gp rfl g_287 rfl ?_
        refine OpsD.gp rfl g_287 rfl ?_
        obtain ⟨y_288, hy_288, h⟩ := bindO h
        refine OpsD.gs (s := 25800) rfl g_287 (Ev.call [] [] 0 (sem_impl_within N x_282.Match (0 : Int) (w64 (x_282.Next - (1 : Int))) _ hy_288) rfl rfl (.cons (.c _) (.cons (.c _) (.cons (.c _) .nil))) rfl (.inl rfl) rfl rfl) rfl rfl ?_
        refine OpsD.gp rfl g_287 rfl ?_
        refine OpsD.st (s := 25832) (.pkF rfl g_287 rfl) rfl rfl ?_
        refine OpsD.p rfl ?_
        refine OpsD.askO (x := .t 35) rfl h (fun g_289 h => ?_) (fun g_289 h => ?_)
        · skip
          refine OpsD.gn rfl g_289 ?_
          refine OpsD.gn rfl g_289 ?_
          refine OpsD.gn rfl g_289 ?_
          refine OpsD.gn rfl g_289 ?_
          refine OpsD.st (s := 25928) (.pkT rfl g_289 rfl) rfl rfl ?_
          refine OpsD.nil ⟨by kernel_rfl, ?_⟩
          refine Run.condT rfl rfl ?_
          refine Run.seq ?_
          refine Run.ops hm ?_
          refine Ops.p rfl ?_
          refine Ops.nil ?_
          refine Run.ret ?_
          obtain rfl := someO h
          have h := hk_277
          replace h := inlO h
          obtain rfl := someO h
          exact Ends.mkG (.inl rfl) rfl (gh_pk [0] [] hB rfl rfl rfl rfl) rfl rfl
        · skip
          refine OpsD.gp rfl g_289 rfl ?_
          refine OpsD.gp rfl g_289 rfl ?_
          obtain ⟨y_290, hy_290, h⟩ := bindO h
          refine OpsD.gs (s := 25896) rfl g_289 (Ev.call [] [] 0 (sem_impl_within N x_282.Sent (0 : Int) (20000 : Int) _ hy_290) rfl rfl (.cons (.c _) (.cons (.c _) (.cons (.c _) .nil))) rfl (.inl rfl) rfl rfl) rfl rfl ?_
          refine OpsD.gp rfl g_289 rfl ?_
          refine OpsD.st (s := 25928) (.pkF rfl g_289 rfl) rfl rfl ?_
          refine OpsD.nil ⟨by kernel_rfl, ?_⟩
          refine Run.condO rfl h (fun g_291 h => ?_) (fun g_291 h => ?_)
          · skip
            refine Run.seq ?_
            refine Run.ops hm ?_
            refine Ops.p rfl ?_
            refine Ops.nil ?_
            refine Run.ret ?_
            obtain rfl := someO h
            have h := hk_277
            replace h := inlO h
            obtain rfl := someO h
            exact Ends.mkG (.inl rfl) rfl (gh_pk [0] [] hB rfl rfl rfl rfl) rfl rfl
          · skip
            refine Run.skip ?_
            refine Run.ops hm ?_
            refine Ops.p rfl ?_
            refine Ops.p rfl ?_
            refine Ops.nil ?_
            exact ⟨m_277, Nat.lt_succ_self m_277, _, _, (gh_pk [1, 3, 7, 8, 9] [0, 21544] hB rfl rfl rfl rfl), _, _, h, rfl, rfl⟩
    · skip
      refine Run.exit ?_
      obtain rfl := someO h
      have h := hk_277
      replace h := inrO h
      exact ⟨_, _, (gh_pk [1, 3] [0, 1] hB rfl rfl rfl rfl), x_262, h, rfl, rfl⟩
  · skip
    refine Run.seq ?_
    refine Run.ops hm ?_
    refine Ops.p rfl ?_
    refine Ops.p rfl ?_
    obtain ⟨y_292, hy_292, h⟩ := bindO h
    refine Ops.st (s := 37896) (Ev.call [] [] 1 (sem_impl_othersOf N x_1 _ hy_292) rfl rfl (.cons (.agg (.cons (.c _) (.cons (.c _) (.cons (.c _) (.cons (.c _) (.cons (.c _) (.cons (.c _) (.cons (.c _) (.cons (.c _) (.cons (.c _) (.cons (.c _) (.cons (.c _) (.cons (.c _) (.cons (.c _) (.cons (.c _) .nil))))))))))))))) .nil) rfl (.inl rfl) rfl rfl) rfl rfl ?_
    obtain ⟨y_293, hy_293, h⟩ := bindO h
    refine Ops.st (s := 37912) (Ev.call [] [1, 37896] 0 (sem_slices_Equal_int N v_244 (y_292.2.take y_292.1) _ hy_293) rfl rfl (.cons (.borrow rfl (by decide) (lendW (fun _ => rfl) _ rfl)) (.cons (.borrow rfl (by decide) (lendP (fun _ => rfl) _ _ _)) .nil)) rfl (.inr ⟨rfl, ownL_root trivial⟩) rfl rfl) rfl rfl ?_
    refine Ops.p rfl ?_
    refine Ops.nil ?_
    refine Run.ret ?_
    obtain rfl := someO h
    exact Ends.mkG (.inl rfl) rfl (gh_pk [0] [] hB rfl rfl rfl rfl) rfl rfl
def impl_NodeOk_l1 (N : Nat) (x_1 : Node) : Nat → Int → Option ((Bool) ⊕ (Unit))
 | 0, _ => none
 | m + 1, x_311 =>
 (if (decide (x_311 < (x_1.Votes.length : Int))) = true then
 (at? x_1.Votes x_311).bind fun x_341 =>
 (impl_within N x_341 (1 : Int) (4 : Int)).bind fun y_342 =>
 (if (!y_342) = true then
 some (Sum.inl false)
 else
 (if (decide (x_311 > (0 : Int))) = true then
 (at? x_1.Votes (w64 (x_311 - (1 : Int)))).bind fun x_345 =>
 (if (decide (x_345 ≥ x_341)) = true then
 some (Sum.inl false)
 else
 impl_NodeOk_l1 N x_1 m (w64 (x_311 + (1 : Int))))
 else
 impl_NodeOk_l1 N x_1 m (w64 (x_311 + (1 : Int)))))
 else
 some (Sum.inr ()))
def impl_NodeOk_l1_r (N : Nat) (x_1 : Node) : (List Int) → Int → Option ((Bool) ⊕ (Unit))
 | [], x_311 =>
 some (Sum.inr ())
 | hd :: tl, x_311 =>
 (some hd).bind fun x_341 =>
 (impl_within N x_341 (1 : Int) (4 : Int)).bind fun y_342 =>
 (if (!y_342) = true then
 some (Sum.inl false)
 else
 (if (decide (x_311 > (0 : Int))) = true then
 (at? x_1.Votes (w64 (x_311 - (1 : Int)))).bind fun x_345 =>
 (if (decide (x_345 ≥ x_341)) = true then
 some (Sum.inl false)
 else
 impl_NodeOk_l1_r N x_1 tl (w64 (x_311 + (1 : Int))))
 else
 impl_NodeOk_l1_r N x_1 tl (w64 (x_311 + (1 : Int)))))
theorem impl_NodeOk_l1_rng (N : Nat) (x_1 : Node) (hx : x_1.Votes.length ≤ 1099511627776) : ∀ (d k m : Nat), x_1.Votes.length = k + d → d < m → impl_NodeOk_l1 N x_1 m (k : Int) = impl_NodeOk_l1_r N x_1 (x_1.Votes.drop k) (k : Int) := by
  intro d
  induction d with
  | zero =>
    intro k m hd hm
    obtain ⟨m, rfl⟩ : ∃ q, m = q + 1 := ⟨m - 1, by omega⟩
    rw [impl_NodeOk_l1, if_neg (by simp; omega), List.drop_eq_nil_of_le (by omega), impl_NodeOk_l1_r]
  | succ d ih =>
    intro k m hd hm
    obtain ⟨m, rfl⟩ : ∃ q, m = q + 1 := ⟨m - 1, by omega⟩
    have hk : k < x_1.Votes.length := by omega
    rw [impl_NodeOk_l1, if_pos (by simp; omega), List.drop_eq_getElem_cons hk, impl_NodeOk_l1_r]
    have h1 := at_lt hk
    have h2 := w64_succ (k := k) (by omega)
    have h3 := ih (k + 1) m
    simp only [h1, h2, h3 (by omega) (by omega)]
theorem impl_NodeOk_l1_eq {N : Nat} (x_1 : Node) (hx : x_1.Votes.length ≤ 1099511627776) (hN : x_1.Votes.length < N) : impl_NodeOk_l1 N x_1 N 0 = impl_NodeOk_l1_r N x_1 x_1.Votes 0 := impl_NodeOk_l1_rng N x_1 hx x_1.Votes.length 0 N (by omega) hN
def impl_NodeOk (N : Nat) (x_1 : Node) : Option (Bool) :=
 (impl_within N x_1.Id (1 : Int) (4 : Int)).bind fun y_234 =>
 (if (!y_234) = true then
 some false
 else
 (impl_ConfOk N x_1.Conf).bind fun y_236 =>
 (if (!y_236) = true then
 some false
 else
 (impl_LogOk N x_1.Log).bind fun y_238 =>
 (if (!y_238) = true then
 some false
 else
 (impl_LogLast N x_1.Log).bind fun y_241 =>
 (impl_within N x_1.Term y_241.2 (100000 : Int)).bind fun y_256 =>
 (if (!y_256) = true then
 some false
 else
 (impl_within N x_1.Vote (0 : Int) (4 : Int)).bind fun y_258 =>
 (if (!y_258) = true then
 some false
 else
 (impl_within N x_1.Lead (0 : Int) (4 : Int)).bind fun y_260 =>
 (if (!y_260) = true then
 some false
 else
 (impl_within N x_1.Role (0 : Int) (2 : Int)).bind fun y_262 =>
 (if (!y_262) = true then
 some false
 else
 (impl_within N x_1.Commit x_1.Log.Start y_241.1).bind fun y_264 =>
 (if (!y_264) = true then
 some false
 else
 (impl_within N x_1.Limit (1 : Int) (20 : Int)).bind fun y_266 =>
 (if (!y_266) = true then
 some false
 else
 (impl_within N x_1.Clock (0 : Int) (20 : Int)).bind fun y_268 =>
 (if (!y_268) = true then
 some false
 else
 joinP (fun (v_308 : Unit) =>
 joinP (fun (v_349 : Unit) =>
 (if (x_1.Role == (2 : Int)) = true then
 (impl_peersOk N x_1).bind fun y_355 =>
 some y_355
 else
 some ((x_1.Peers.length : Int) == (0 : Int)))) fun j_349 =>
 (if (x_1.Role != (1 : Int)) = true then
 (if (decide ((x_1.Votes.length : Int) > (0 : Int))) = true then
 some false
 else
 j_349 ())
 else
 j_349 ())) fun j_308 =>
 (impl_NodeOk_l1 N x_1 N (0 : Int)).bind (Sum.elim (fun v_335 => some v_335) (fun (v_336 : Unit) => j_308 ()))))))))))))
theorem sem_impl_NodeOk (N : Nat) (x_1 : Node) (r : Bool) (h : impl_NodeOk N x_1 = some r) : Says Try.prog 63 [.agg [VI x_1.Id, VI x_1.Term, VI x_1.Vote, VI x_1.Role, VI x_1.Lead, RO 3 (x_1.Conf.map encI), VI x_1.Log.Start, VI x_1.Log.StartTerm, RO 48 (x_1.Log.Entries.map encEntry), VI x_1.Commit, VI x_1.Clock, VI x_1.Limit, RO 3 (x_1.Votes.map encI), RO 172 (x_1.Peers.map encPeer)]] 0 [] (VB r) [] := by
  unfold impl_NodeOk at h
  refine Says.of_run s63 Try.call63 rfl fun B hB => ?_
  have hm : B.m ≤ 1000 := by omega
  refine Run.seq ?_
  refine Run.ops hm ?_
  refine Ops.st (s := 1000) (.bx rfl rfl) rfl rfl ?_
  refine Ops.p rfl ?_
  refine Ops.nil ?_
  refine Run.seq ?_
  refine Run.seq ?_
  refine Run.ops hm ?_
  refine Ops.p rfl ?_
  refine Ops.p rfl ?_
  obtain ⟨y_234, hy_234, h⟩ := bindO h
  refine Ops.st (s := 5128) (Ev.call [] [] 0 (sem_impl_within N x_1.Id (1 : Int) (4 : Int) _ hy_234) rfl rfl (.cons (.c _) (.cons (.c _) (.cons (.c _) .nil))) rfl (.inl rfl) rfl rfl) rfl rfl ?_
  refine Ops.p rfl ?_
  refine Ops.p rfl ?_
  refine Ops.askO (x := .t 11) rfl h (fun g_235 h => ?_) (fun g_235 h => ?_)
  · skip
    refine Ops.gn rfl g_235 ?_
    refine Ops.gn rfl g_235 ?_
    refine Ops.gn rfl g_235 ?_
    refine Ops.gn rfl g_235 ?_
    refine Ops.st (s := 5240) (.pkT rfl g_235 rfl) rfl rfl ?_
    refine Ops.p rfl ?_
    refine Ops.gn rfl rfl ?_
    refine Ops.gn rfl rfl ?_
    refine Ops.gn rfl rfl ?_
    refine Ops.gn rfl rfl ?_
    refine Ops.st (s := 5336) (.pkT rfl rfl rfl) rfl rfl ?_
    refine Ops.nil ?_
    refine Run.condT rfl rfl ?_
    refine Run.seq ?_
    refine Run.ops hm ?_
    refine Ops.p rfl ?_
    refine Ops.nil ?_
    refine Run.ret ?_
    obtain rfl := someO h
    exact Ends.mkG (.inl rfl) rfl (gh_pk [0] [] hB rfl rfl rfl rfl) rfl rfl
  · skip
    refine Ops.gp rfl g_235 rfl ?_
    refine Ops.gp rfl g_235 rfl ?_
    obtain ⟨y_236, hy_236, h⟩ := bindO h
    refine Ops.gs (s := 5208) rfl g_235 (Ev.call [] [] 0 (sem_impl_ConfOk N x_1.Conf _ hy_236) rfl rfl (.cons (.c _) .nil) rfl (.inl rfl) rfl rfl) rfl rfl ?_
    refine Ops.gp rfl g_235 rfl ?_
    refine Ops.st (s := 5240) (.pkF rfl g_235 rfl) rfl rfl ?_
    refine Ops.p rfl ?_
    refine Ops.askO (x := .t 17) rfl h (fun g_237 h => ?_) (fun g_237 h => ?_)
    · skip
      refine Ops.gn rfl g_237 ?_
      refine Ops.gn rfl g_237 ?_
      refine Ops.gn rfl g_237 ?_
      refine Ops.gn rfl g_237 ?_
      refine Ops.st (s := 5336) (.pkT rfl g_237 rfl) rfl rfl ?_
      refine Ops.nil ?_
      refine Run.condT rfl rfl ?_
      refine Run.seq ?_
      refine Run.ops hm ?_
      refine Ops.p rfl ?_
      refine Ops.nil ?_
      refine Run.ret ?_
      obtain rfl := someO h
      exact Ends.mkG (.inl rfl) rfl (gh_pk [0] [] hB rfl rfl rfl rfl) rfl rfl
    · skip
      refine Ops.gp rfl g_237 rfl ?_
      refine Ops.gp rfl g_237 rfl ?_
      obtain ⟨y_238, hy_238, h⟩ := bindO h
      refine Ops.gs (s := 5304) rfl g_237 (Ev.call [] [] 0 (sem_impl_LogOk N x_1.Log _ hy_238) rfl rfl (.cons (.agg (.cons (.c _) (.cons (.c _) (.cons (.c _) .nil)))) .nil) rfl (.inl rfl) rfl rfl) rfl rfl ?_
      refine Ops.gp rfl g_237 rfl ?_
      refine Ops.st (s := 5336) (.pkF rfl g_237 rfl) rfl rfl ?_
      refine Ops.nil ?_
      refine Run.condO rfl h (fun g_239 h => ?_) (fun g_239 h => ?_)
      · skip
        refine Run.seq ?_
        refine Run.ops hm ?_
        refine Ops.p rfl ?_
        refine Ops.nil ?_
        refine Run.ret ?_
        obtain rfl := someO h
        exact Ends.mkG (.inl rfl) rfl (gh_pk [0] [] hB rfl rfl rfl rfl) rfl rfl
      · skip
        refine Run.skip ?_
        refine Run.seq ?_
        refine Run.ops hm ?_
        refine Ops.p rfl ?_
        refine Ops.p rfl ?_
        obtain ⟨y_241, hy_241, h⟩ := bindO h
        refine Ops.st (s := 13320) (Ev.call [] [] 0 (sem_impl_LogLast N x_1.Log _ hy_241) rfl rfl (.cons (.agg (.cons (.c _) (.cons (.c _) (.cons (.c _) .nil)))) .nil) rfl (.inl rfl) rfl rfl) rfl rfl ?_
        refine Ops.p rfl ?_
        refine Ops.p rfl ?_
        refine Ops.p rfl ?_
        refine Ops.p rfl ?_
        refine Ops.p rfl ?_
        refine Ops.nil ?_
        refine Run.seq ?_
        refine Run.seq ?_
        refine Run.ops hm ?_
        refine Ops.p rfl ?_
        refine Ops.p rfl ?_
        refine Ops.p rfl ?_
        obtain ⟨y_256, hy_256, h⟩ := bindO h
        refine Ops.st (s := 17432) (Ev.call [] [] 0 (sem_impl_within N x_1.Term y_241.2 (100000 : Int) _ hy_256) rfl rfl (.cons (.c _) (.cons (.c _) (.cons (.c _) .nil))) rfl (.inl rfl) rfl rfl) rfl rfl ?_
        refine Ops.p rfl ?_
        refine Ops.p rfl ?_
        refine Ops.askO (x := .t 34) rfl h (fun g_257 h => ?_) (fun g_257 h => ?_)
        · skip
          refine Ops.gn rfl g_257 ?_
          refine Ops.gn rfl g_257 ?_
          refine Ops.gn rfl g_257 ?_
          refine Ops.gn rfl g_257 ?_
          refine Ops.st (s := 17544) (.pkT rfl g_257 rfl) rfl rfl ?_
          refine Ops.p rfl ?_
          refine Ops.gn rfl rfl ?_
          refine Ops.gn rfl rfl ?_
          refine Ops.gn rfl rfl ?_
          refine Ops.gn rfl rfl ?_
          refine Ops.st (s := 17640) (.pkT rfl rfl rfl) rfl rfl ?_
          refine Ops.p rfl ?_
          refine Ops.gn rfl rfl ?_
          refine Ops.gn rfl rfl ?_
          refine Ops.gn rfl rfl ?_
          refine Ops.gn rfl rfl ?_
          refine Ops.st (s := 17736) (.pkT rfl rfl rfl) rfl rfl ?_
          refine Ops.p rfl ?_
          refine Ops.gn rfl rfl ?_
          refine Ops.gn rfl rfl ?_
          refine Ops.gn rfl rfl ?_
          refine Ops.gn rfl rfl ?_
          refine Ops.gn rfl rfl ?_
          refine Ops.gn rfl rfl ?_
          refine Ops.gn rfl rfl ?_
          refine Ops.gn rfl rfl ?_
          refine Ops.st (s := 17896) (.pkT rfl rfl rfl) rfl rfl ?_
          refine Ops.p rfl ?_
          refine Ops.gn rfl rfl ?_
          refine Ops.gn rfl rfl ?_
          refine Ops.gn rfl rfl ?_
          refine Ops.gn rfl rfl ?_
          refine Ops.st (s := 17992) (.pkT rfl rfl rfl) rfl rfl ?_
          refine Ops.p rfl ?_
          refine Ops.gn rfl rfl ?_
          refine Ops.gn rfl rfl ?_
          refine Ops.gn rfl rfl ?_
          refine Ops.gn rfl rfl ?_
          refine Ops.st (s := 18088) (.pkT rfl rfl rfl) rfl rfl ?_
          refine Ops.nil ?_
          refine Run.condT rfl rfl ?_
          refine Run.seq ?_
          refine Run.ops hm ?_
          refine Ops.p rfl ?_
          refine Ops.nil ?_
          refine Run.ret ?_
          obtain rfl := someO h
          exact Ends.mkG (.inl rfl) rfl (gh_pk [0] [] hB rfl rfl rfl rfl) rfl rfl
        · skip
          refine Ops.gp rfl g_257 rfl ?_
          refine Ops.gp rfl g_257 rfl ?_
          obtain ⟨y_258, hy_258, h⟩ := bindO h
          refine Ops.gs (s := 17512) rfl g_257 (Ev.call [] [] 0 (sem_impl_within N x_1.Vote (0 : Int) (4 : Int) _ hy_258) rfl rfl (.cons (.c _) (.cons (.c _) (.cons (.c _) .nil))) rfl (.inl rfl) rfl rfl) rfl rfl ?_
          refine Ops.gp rfl g_257 rfl ?_
          refine Ops.st (s := 17544) (.pkF rfl g_257 rfl) rfl rfl ?_
          refine Ops.p rfl ?_
          refine Ops.askO (x := .t 40) rfl h (fun g_259 h => ?_) (fun g_259 h => ?_)
          · skip
            refine Ops.gn rfl g_259 ?_
            refine Ops.gn rfl g_259 ?_
            refine Ops.gn rfl g_259 ?_
            refine Ops.gn rfl g_259 ?_
            refine Ops.st (s := 17640) (.pkT rfl g_259 rfl) rfl rfl ?_
            refine Ops.p rfl ?_
            refine Ops.gn rfl rfl ?_
            refine Ops.gn rfl rfl ?_
            refine Ops.gn rfl rfl ?_
            refine Ops.gn rfl rfl ?_
            refine Ops.st (s := 17736) (.pkT rfl rfl rfl) rfl rfl ?_
            refine Ops.p rfl ?_
            refine Ops.gn rfl rfl ?_
            refine Ops.gn rfl rfl ?_
            refine Ops.gn rfl rfl ?_
            refine Ops.gn rfl rfl ?_
            refine Ops.gn rfl rfl ?_
            refine Ops.gn rfl rfl ?_
            refine Ops.gn rfl rfl ?_
            refine Ops.gn rfl rfl ?_
            refine Ops.st (s := 17896) (.pkT rfl rfl rfl) rfl rfl ?_
            refine Ops.p rfl ?_
            refine Ops.gn rfl rfl ?_
            refine Ops.gn rfl rfl ?_
            refine Ops.gn rfl rfl ?_
            refine Ops.gn rfl rfl ?_
            refine Ops.st (s := 17992) (.pkT rfl rfl rfl) rfl rfl ?_
            refine Ops.p rfl ?_
            refine Ops.gn rfl rfl ?_
            refine Ops.gn rfl rfl ?_
            refine Ops.gn rfl rfl ?_
            refine Ops.gn rfl rfl ?_
            refine Ops.st (s := 18088) (.pkT rfl rfl rfl) rfl rfl ?_
            refine Ops.nil ?_
            refine Run.condT rfl rfl ?_
            refine Run.seq ?_
            refine Run.ops hm ?_
            refine Ops.p rfl ?_
            refine Ops.nil ?_
            refine Run.ret ?_
            obtain rfl := someO h
            exact Ends.mkG (.inl rfl) rfl (gh_pk [0] [] hB rfl rfl rfl rfl) rfl rfl
          · skip
            refine Ops.gp rfl g_259 rfl ?_
            refine Ops.gp rfl g_259 rfl ?_
            obtain ⟨y_260, hy_260, h⟩ := bindO h
            refine Ops.gs (s := 17608) rfl g_259 (Ev.call [] [] 0 (sem_impl_within N x_1.Lead (0 : Int) (4 : Int) _ hy_260) rfl rfl (.cons (.c _) (.cons (.c _) (.cons (.c _) .nil))) rfl (.inl rfl) rfl rfl) rfl rfl ?_
            refine Ops.gp rfl g_259 rfl ?_
            refine Ops.st (s := 17640) (.pkF rfl g_259 rfl) rfl rfl ?_
            refine Ops.p rfl ?_
            refine Ops.askO (x := .t 46) rfl h (fun g_261 h => ?_) (fun g_261 h => ?_)
            · skip
              refine Ops.gn rfl g_261 ?_
              refine Ops.gn rfl g_261 ?_
              refine Ops.gn rfl g_261 ?_
              refine Ops.gn rfl g_261 ?_
              refine Ops.st (s := 17736) (.pkT rfl g_261 rfl) rfl rfl ?_
              refine Ops.p rfl ?_
              refine Ops.gn rfl rfl ?_
              refine Ops.gn rfl rfl ?_
              refine Ops.gn rfl rfl ?_
              refine Ops.gn rfl rfl ?_
              refine Ops.gn rfl rfl ?_
              refine Ops.gn rfl rfl ?_
              refine Ops.gn rfl rfl ?_
              refine Ops.gn rfl rfl ?_
              refine Ops.st (s := 17896) (.pkT rfl rfl rfl) rfl rfl ?_
              refine Ops.p rfl ?_
              refine Ops.gn rfl rfl ?_
              refine Ops.gn rfl rfl ?_
              refine Ops.gn rfl rfl ?_
              refine Ops.gn rfl rfl ?_
              refine Ops.st (s := 17992) (.pkT rfl rfl rfl) rfl rfl ?_
              refine Ops.p rfl ?_
              refine Ops.gn rfl rfl ?_
              refine Ops.gn rfl rfl ?_
              refine Ops.gn rfl rfl ?_
              refine Ops.gn rfl rfl ?_
              refine Ops.st (s := 18088) (.pkT rfl rfl rfl) rfl rfl ?_
              refine Ops.nil ?_
              refine Run.condT rfl rfl ?_
              refine Run.seq ?_
              refine Run.ops hm ?_
              refine Ops.p rfl ?_
              refine Ops.nil ?_
              refine Run.ret ?_
              obtain rfl := someO h
              exact Ends.mkG (.inl rfl) rfl (gh_pk [0] [] hB rfl rfl rfl rfl) rfl rfl
            · skip
              refine Ops.gp rfl g_261 rfl ?_
              refine Ops.gp rfl g_261 rfl ?_
              obtain ⟨y_262, hy_262, h⟩ := bindO h
              refine Ops.gs (s := 17704) rfl g_261 (Ev.call [] [] 0 (sem_impl_within N x_1.Role (0 : Int) (2 : Int) _ hy_262) rfl rfl (.cons (.c _) (.cons (.c _) (.cons (.c _) .nil))) rfl (.inl rfl) rfl rfl) rfl rfl ?_
              refine Ops.gp rfl g_261 rfl ?_
              refine Ops.st (s := 17736) (.pkF rfl g_261 rfl) rfl rfl ?_
              refine Ops.p rfl ?_
              refine Ops.askO (x := .t 52) rfl h (fun g_263 h => ?_) (fun g_263 h => ?_)
              · skip
                refine Ops.gn rfl g_263 ?_
                refine Ops.gn rfl g_263 ?_
                refine Ops.gn rfl g_263 ?_
                refine Ops.gn rfl g_263 ?_
                refine Ops.gn rfl g_263 ?_
                refine Ops.gn rfl g_263 ?_
                refine Ops.gn rfl g_263 ?_
                refine Ops.gn rfl g_263 ?_
                refine Ops.st (s := 17896) (.pkT rfl g_263 rfl) rfl rfl ?_
                refine Ops.p rfl ?_
                refine Ops.gn rfl rfl ?_
                refine Ops.gn rfl rfl ?_
                refine Ops.gn rfl rfl ?_
                refine Ops.gn rfl rfl ?_
                refine Ops.st (s := 17992) (.pkT rfl rfl rfl) rfl rfl ?_
                refine Ops.p rfl ?_
                refine Ops.gn rfl rfl ?_
                refine Ops.gn rfl rfl ?_
                refine Ops.gn rfl rfl ?_
                refine Ops.gn rfl rfl ?_
                refine Ops.st (s := 18088) (.pkT rfl rfl rfl) rfl rfl ?_
                refine Ops.nil ?_
                refine Run.condT rfl rfl ?_
                refine Run.seq ?_
                refine Run.ops hm ?_
                refine Ops.p rfl ?_
                refine Ops.nil ?_
                refine Run.ret ?_
                obtain rfl := someO h
                exact Ends.mkG (.inl rfl) rfl (gh_pk [0] [] hB rfl rfl rfl rfl) rfl rfl
              · skip
                refine Ops.gp rfl g_263 rfl ?_
                refine Ops.gp rfl g_263 rfl ?_
                refine Ops.gp rfl g_263 rfl ?_
                refine Ops.gp rfl g_263 rfl ?_
                refine Ops.gp rfl g_263 rfl ?_
                refine Ops.gp rfl g_263 rfl ?_
                obtain ⟨y_264, hy_264, h⟩ := bindO h
                refine Ops.gs (s := 17864) rfl g_263 (Ev.call [] [] 0 (sem_impl_within N x_1.Commit x_1.Log.Start y_241.1 _ hy_264) rfl rfl (.cons (.c _) (.cons (.c _) (.cons (.c _) .nil))) rfl (.inl rfl) rfl rfl) rfl rfl ?_
                refine Ops.gp rfl g_263 rfl ?_
                refine Ops.st (s := 17896) (.pkF rfl g_263 rfl) rfl rfl ?_
                refine Ops.p rfl ?_
                refine Ops.askO (x := .t 62) rfl h (fun g_265 h => ?_) (fun g_265 h => ?_)
                · skip
                  refine Ops.gn rfl g_265 ?_
                  refine Ops.gn rfl g_265 ?_
                  refine Ops.gn rfl g_265 ?_
                  refine Ops.gn rfl g_265 ?_
                  refine Ops.st (s := 17992) (.pkT rfl g_265 rfl) rfl rfl ?_
                  refine Ops.p rfl ?_
                  refine Ops.gn rfl rfl ?_
                  refine Ops.gn rfl rfl ?_
                  refine Ops.gn rfl rfl ?_
                  refine Ops.gn rfl rfl ?_
                  refine Ops.st (s := 18088) (.pkT rfl rfl rfl) rfl rfl ?_
                  refine Ops.nil ?_
                  refine Run.condT rfl rfl ?_
                  refine Run.seq ?_
                  refine Run.ops hm ?_
                  refine Ops.p rfl ?_
                  refine Ops.nil ?_
                  refine Run.ret ?_
                  obtain rfl := someO h
                  exact Ends.mkG (.inl rfl) rfl (gh_pk [0] [] hB rfl rfl rfl rfl) rfl rfl
                · skip
                  refine Ops.gp rfl g_265 rfl ?_
                  refine Ops.gp rfl g_265 rfl ?_
                  obtain ⟨y_266, hy_266, h⟩ := bindO h
                  refine Ops.gs (s := 17960) rfl g_265 (Ev.call [] [] 0 (sem_impl_within N x_1.Limit (1 : Int) (20 : Int) _ hy_266) rfl rfl (.cons (.c _) (.cons (.c _) (.cons (.c _) .nil))) rfl (.inl rfl) rfl rfl) rfl rfl ?_
                  refine Ops.gp rfl g_265 rfl ?_
                  refine Ops.st (s := 17992) (.pkF rfl g_265 rfl) rfl rfl ?_
                  refine Ops.p rfl ?_
                  refine Ops.askO (x := .t 68) rfl h (fun g_267 h => ?_) (fun g_267 h => ?_)
                  · skip
                    refine Ops.gn rfl g_267 ?_
                    refine Ops.gn rfl g_267 ?_
                    refine Ops.gn rfl g_267 ?_
                    refine Ops.gn rfl g_267 ?_
                    refine Ops.st (s := 18088) (.pkT rfl g_267 rfl) rfl rfl ?_
                    refine Ops.nil ?_
                    refine Run.condT rfl rfl ?_
                    refine Run.seq ?_
                    refine Run.ops hm ?_
                    refine Ops.p rfl ?_
                    refine Ops.nil ?_
                    refine Run.ret ?_
                    obtain rfl := someO h
                    exact Ends.mkG (.inl rfl) rfl (gh_pk [0] [] hB rfl rfl rfl rfl) rfl rfl
                  · skip
                    refine Ops.gp rfl g_267 rfl ?_
                    refine Ops.gp rfl g_267 rfl ?_
                    obtain ⟨y_268, hy_268, h⟩ := bindO h
                    refine Ops.gs (s := 18056) rfl g_267 (Ev.call [] [] 0 (sem_impl_within N x_1.Clock (0 : Int) (20 : Int) _ hy_268) rfl rfl (.cons (.c _) (.cons (.c _) (.cons (.c _) .nil))) rfl (.inl rfl) rfl rfl) rfl rfl ?_
                    refine Ops.gp rfl g_267 rfl ?_
                    refine Ops.st (s := 18088) (.pkF rfl g_267 rfl) rfl rfl ?_
                    refine Ops.nil ?_
                    refine Run.condO rfl h (fun g_269 h => ?_) (fun g_269 h => ?_)
                    · skip
                      refine Run.seq ?_
                      refine Run.ops hm ?_
                      refine Ops.p rfl ?_
                      refine Ops.nil ?_
                      refine Run.ret ?_
                      obtain rfl := someO h
                      exact Ends.mkG (.inl rfl) rfl (gh_pk [0] [] hB rfl rfl rfl rfl) rfl rfl
                    · skip
                      refine Run.skip ?_
                      refine Run.seqO h (fun (v_308 : Unit) => [(1, .ptr 0 0)]) (fun (v_308 : Unit) => [(0, .box [VI x_1.Id, VI x_1.Term, VI x_1.Vote, VI x_1.Role, VI x_1.Lead, RO 3 (x_1.Conf.map encI), VI x_1.Log.Start, VI x_1.Log.StartTerm, RO 48 (x_1.Log.Entries.map encEntry), VI x_1.Commit, VI x_1.Clock, VI x_1.Limit, RO 3 (x_1.Votes.map encI), RO 172 (x_1.Peers.map encPeer)])]) (fun h => ?_) (fun v_308 h => ?_)
                      · skip
                        refine Run.seq ?_
                        refine Run.ops hm ?_
                        refine Ops.p rfl ?_
                        refine Ops.p rfl ?_
                        refine Ops.st (s := 25608) (Ev.lnF rfl) rfl rfl ?_
                        refine Ops.p rfl ?_
                        refine Ops.nil ?_
                        refine Run.block ?_
                        obtain ⟨res_336, h, hk_336⟩ := bindO h
                        refine Run.loop (n := N) (fun m_336 fr σ => ∃ (x_311 : Int), impl_NodeOk_l1 N x_1 m_336 x_311 = some res_336 ∧ fr = [(1, .ptr 0 0), (75, RO 3 (x_1.Votes.map encI)), (76, VI (x_1.Votes.length : Int)), (77, VI x_311)] ∧ σ = [(0, .box [VI x_1.Id, VI x_1.Term, VI x_1.Vote, VI x_1.Role, VI x_1.Lead, RO 3 (x_1.Conf.map encI), VI x_1.Log.Start, VI x_1.Log.StartTerm, RO 48 (x_1.Log.Entries.map encEntry), VI x_1.Commit, VI x_1.Clock, VI x_1.Limit, RO 3 (x_1.Votes.map encI), RO 172 (x_1.Peers.map encPeer)])]) (gh_pk [1, 75, 76, 77] [1000] hB rfl rfl rfl rfl) ⟨_, h, rfl, rfl⟩ ?_
                        rintro m_336 fr σ ⟨x_311, h, rfl, rfl⟩
                        obtain _ | m_336 := m_336
                        · rw [impl_NodeOk_l1] at h; cases h
                        rw [impl_NodeOk_l1] at h
                        refine Run.seq ?_
                        refine Run.ops hm ?_
                        refine Ops.p rfl ?_
                        refine Ops.nil ?_
                        refine Run.seq ?_
                        refine Run.condO rfl h (fun g_339 h => ?_) (fun g_339 h => ?_)
                        · skip
                          refine Run.skip ?_
                          refine Run.seq ?_
                          refine Run.block ?_
                          refine Run.seq ?_
                          refine Run.ops hm ?_
                          refine Ops.p rfl ?_
                          obtain ⟨x_341, hx_341, h⟩ := bindO h
                          refine Ops.st (s := 33784) (Ev.iaF rfl rfl hx_341) rfl rfl ?_
                          refine Ops.p rfl ?_
                          refine Ops.p rfl ?_
                          refine Ops.p rfl ?_
                          refine Ops.nil ?_
                          refine Run.seq ?_
                          refine Run.ops hm ?_
                          refine Ops.p rfl ?_
                          obtain ⟨y_342, hy_342, h⟩ := bindO h
                          refine Ops.st (s := 37880) (Ev.call [] [] 0 (sem_impl_within N x_341 (1 : Int) (4 : Int) _ hy_342) rfl rfl (.cons (.c _) (.cons (.c _) (.cons (.c _) .nil))) rfl (.inl rfl) rfl rfl) rfl rfl ?_
                          refine Ops.p rfl ?_
                          refine Ops.p rfl ?_
                          refine Ops.askO (x := .t 85) rfl h (fun g_343 h => ?_) (fun g_343 h => ?_)
                          · skip
                            refine Ops.gn rfl g_343 ?_
                            refine Ops.gn rfl g_343 ?_
                            refine Ops.gn rfl g_343 ?_
                            refine Ops.gu rfl ?_
                            refine Ops.gu rfl ?_
                            refine Ops.gu rfl ?_
                            refine Ops.gu rfl ?_
                            refine Ops.gu rfl ?_
                            refine Ops.gu rfl ?_
                            refine Ops.gu rfl ?_
                            refine Ops.gu rfl ?_
                            refine Ops.gn rfl g_343 ?_
                            refine Ops.st (s := 38120) (.pkT rfl g_343 rfl) rfl rfl ?_
                            refine Ops.nil ?_
                            refine Run.condT rfl rfl ?_
                            refine Run.seq ?_
                            refine Run.ops hm ?_
                            refine Ops.p rfl ?_
                            refine Ops.nil ?_
                            refine Run.ret ?_
                            obtain rfl := someO h
                            have h := hk_336
                            replace h := inlO h
                            obtain rfl := someO h
                            exact Ends.mkG (.inl rfl) rfl (gh_pk [0] [] hB rfl rfl rfl rfl) rfl rfl
                          · skip
                            refine Ops.gp rfl g_343 rfl ?_
                            refine Ops.gp rfl g_343 rfl ?_
                            refine Ops.gp rfl g_343 rfl ?_
                            refine Ops.askO (x := .t 88) rfl h (fun g_344 h => ?_) (fun g_344 h => ?_)
                            · skip
                              refine Ops.gp rfl g_344 rfl ?_
                              refine Ops.gp rfl g_344 rfl ?_
                              refine Ops.gp rfl g_344 rfl ?_
                              refine Ops.gp rfl g_344 rfl ?_
                              obtain ⟨x_345, hx_345, h⟩ := bindO h
                              refine Ops.gs (s := 38040) rfl g_344 (Ev.iaF rfl rfl hx_345) rfl rfl ?_
                              refine Ops.gp rfl g_344 rfl ?_
                              refine Ops.gp rfl g_344 rfl ?_
                              refine Ops.gp rfl g_344 rfl ?_
                              refine Ops.gs (s := 38104) rfl g_343 (.pkT rfl g_344 rfl) rfl rfl ?_
                              refine Ops.st (s := 38120) (.pkF rfl g_343 rfl) rfl rfl ?_
                              refine Ops.nil ?_
                              refine Run.condO rfl h (fun g_346 h => ?_) (fun g_346 h => ?_)
                              · skip
                                refine Run.seq ?_
                                refine Run.ops hm ?_
                                refine Ops.p rfl ?_
                                refine Ops.nil ?_
                                refine Run.ret ?_
                                obtain rfl := someO h
                                have h := hk_336
                                replace h := inlO h
                                obtain rfl := someO h
                                exact Ends.mkG (.inl rfl) rfl (gh_pk [0] [] hB rfl rfl rfl rfl) rfl rfl
                              · skip
                                refine Run.skip ?_
                                refine Run.ops hm ?_
                                refine Ops.p rfl ?_
                                refine Ops.p rfl ?_
                                refine Ops.nil ?_
                                exact ⟨m_336, Nat.lt_succ_self m_336, _, _, (gh_pk [1, 75, 76, 77] [0] hB rfl rfl rfl rfl), _, h, rfl, rfl⟩
                            · skip
                              refine Ops.gn rfl g_344 ?_
                              refine Ops.gn rfl g_344 ?_
                              refine Ops.gn rfl g_344 ?_
                              refine Ops.gn rfl g_344 ?_
                              refine Ops.gn rfl g_344 ?_
                              refine Ops.gn rfl g_344 ?_
                              refine Ops.gn rfl g_344 ?_
                              refine Ops.gn rfl g_344 ?_
                              refine Ops.gs (s := 38104) rfl g_343 (.pkF rfl g_344 rfl) rfl rfl ?_
                              refine Ops.st (s := 38120) (.pkF rfl g_343 rfl) rfl rfl ?_
                              refine Ops.nil ?_
                              refine Run.condF rfl rfl ?_
                              refine Run.skip ?_
                              refine Run.ops hm ?_
                              refine Ops.p rfl ?_
                              refine Ops.p rfl ?_
                              refine Ops.nil ?_
                              exact ⟨m_336, Nat.lt_succ_self m_336, _, _, (gh_pk [1, 75, 76, 77] [0] hB rfl rfl rfl rfl), _, h, rfl, rfl⟩
                        · skip
                          refine Run.exit ?_
                          obtain rfl := someO h
                          have h := hk_336
                          replace h := inrO h
                          exact ⟨_, _, (gh_pk [1] [0] hB rfl rfl rfl rfl), (), h, rfl, rfl⟩
                      · skip
                        refine Run.seqO h (fun (v_349 : Unit) => [(1, .ptr 0 0)]) (fun (v_349 : Unit) => [(0, .box [VI x_1.Id, VI x_1.Term, VI x_1.Vote, VI x_1.Role, VI x_1.Lead, RO 3 (x_1.Conf.map encI), VI x_1.Log.Start, VI x_1.Log.StartTerm, RO 48 (x_1.Log.Entries.map encEntry), VI x_1.Commit, VI x_1.Clock, VI x_1.Limit, RO 3 (x_1.Votes.map encI), RO 172 (x_1.Peers.map encPeer)])]) (fun h => ?_) (fun v_349 h => ?_)
                        · skip
                          refine Run.seq ?_
                          refine Run.ops hm ?_
                          refine Ops.p rfl ?_
                          refine Ops.p rfl ?_
                          refine Ops.p rfl ?_
                          refine Ops.p rfl ?_
                          refine Ops.askO (x := .t 103) rfl h (fun g_350 h => ?_) (fun g_350 h => ?_)
                          · skip
                            refine Ops.gp rfl g_350 rfl ?_
                            refine Ops.gp rfl g_350 rfl ?_
                            refine Ops.gs (s := 50248) rfl g_350 (Ev.lnF rfl) rfl rfl ?_
                            refine Ops.gp rfl g_350 rfl ?_
                            refine Ops.st (s := 50280) (.pkT rfl g_350 rfl) rfl rfl ?_
                            refine Ops.nil ?_
                            refine Run.condO rfl h (fun g_351 h => ?_) (fun g_351 h => ?_)
                            · skip
                              refine Run.seq ?_
                              refine Run.ops hm ?_
                              refine Ops.p rfl ?_
                              refine Ops.nil ?_
                              refine Run.ret ?_
                              obtain rfl := someO h
                              exact Ends.mkG (.inl rfl) rfl (gh_pk [0] [] hB rfl rfl rfl rfl) rfl rfl
                            · skip
                              refine Run.skip ?_
                              exact ⟨_, _, (gh_pk [1] [0] hB rfl rfl rfl rfl), (), h, rfl, rfl⟩
                          · skip
                            refine Ops.gn rfl g_350 ?_
                            refine Ops.gn rfl g_350 ?_
                            refine Ops.gn rfl g_350 ?_
                            refine Ops.gn rfl g_350 ?_
                            refine Ops.st (s := 50280) (.pkF rfl g_350 rfl) rfl rfl ?_
                            refine Ops.nil ?_
                            refine Run.condF rfl rfl ?_
                            refine Run.skip ?_
                            exact ⟨_, _, (gh_pk [1] [0] hB rfl rfl rfl rfl), (), h, rfl, rfl⟩
                        · skip
                          refine Run.seq ?_
                          refine Run.seq ?_
                          refine Run.ops hm ?_
                          refine Ops.p rfl ?_
                          refine Ops.p rfl ?_
                          refine Ops.p rfl ?_
                          refine Ops.nil ?_
                          refine Run.condO rfl h (fun g_354 h => ?_) (fun g_354 h => ?_)
                          · skip
                            refine Run.seq ?_
                            refine Run.ops hm ?_
                            refine Ops.p rfl ?_
                            obtain ⟨y_355, hy_355, h⟩ := bindO h
                            refine Ops.st (s := 62456) (Ev.call [] [] 0 (sem_impl_peersOk N x_1 _ hy_355) rfl rfl (.cons (.agg (.cons (.c _) (.cons (.c _) (.cons (.c _) (.cons (.c _) (.cons (.c _) (.cons (.c _) (.cons (.c _) (.cons (.c _) (.cons (.c _) (.cons (.c _) (.cons (.c _) (.cons (.c _) (.cons (.c _) (.cons (.c _) .nil))))))))))))))) .nil) rfl (.inl rfl) rfl rfl) rfl rfl ?_
                            refine Ops.p rfl ?_
                            refine Ops.nil ?_
                            refine Run.ret ?_
                            obtain rfl := someO h
                            exact Ends.mkG (.inl rfl) rfl (gh_pk [0] [] hB rfl rfl rfl rfl) rfl rfl
                          · skip
                            refine Run.skip ?_
                            refine Run.seq ?_
                            refine Run.ops hm ?_
                            refine Ops.p rfl ?_
                            refine Ops.p rfl ?_
                            refine Ops.st (s := 66568) (Ev.lnF rfl) rfl rfl ?_
                            refine Ops.p rfl ?_
                            refine Ops.p rfl ?_
                            refine Ops.nil ?_
                            refine Run.ret ?_
                            obtain rfl := someO h
                            exact Ends.mkG (.inl rfl) rfl (gh_pk [0] [] hB rfl rfl rfl rfl) rfl rfl
def impl_NodeNew (N : Nat) (x_1 : Int) (x_2 : (List Int)) : Option (Node × Bool) :=
 (cat? ([] : List Int) x_2).bind fun x_107 =>
 (impl_NodeOk N (Node.mk x_1 (0 : Int) (0 : Int) (0 : Int) (0 : Int) x_107 (Log.mk (0 : Int) (0 : Int) ([])) (0 : Int) (0 : Int) (20 : Int) ([]) ([]))).bind fun y_110 =>
 (if (!y_110) = true then
 some ((Node.mk (0 : Int) (0 : Int) (0 : Int) (0 : Int) (0 : Int) ([]) (Log.mk (0 : Int) (0 : Int) ([])) (0 : Int) (0 : Int) (0 : Int) ([]) ([])), false)
 else
 some ((Node.mk x_1 (0 : Int) (0 : Int) (0 : Int) (0 : Int) x_107 (Log.mk (0 : Int) (0 : Int) ([])) (0 : Int) (0 : Int) (20 : Int) ([]) ([])), true))
theorem sem_impl_NodeNew (N : Nat) (x_1 : Int) (x_2 : (List Int)) (r : Node × Bool) (h : impl_NodeNew N x_1 x_2 = some r) : Says Try.prog 58 [VI x_1, RO 3 (x_2.map encI)] 0 [] (.tup [.agg [VI r.1.Id, VI r.1.Term, VI r.1.Vote, VI r.1.Role, VI r.1.Lead, .sl 0 3 0 r.1.Conf.length, VI r.1.Log.Start, VI r.1.Log.StartTerm, .sl 1 48 0 r.1.Log.Entries.length, VI r.1.Commit, VI r.1.Clock, VI r.1.Limit, .sl 2 3 0 r.1.Votes.length, .sl 3 172 0 r.1.Peers.length], VB r.2]) [(0, .vec 3 (r.1.Conf.map encI)), (1, .vec 48 (r.1.Log.Entries.map encEntry)), (2, .vec 3 (r.1.Votes.map encI)), (3, .vec 172 (r.1.Peers.map encPeer))] := by
  unfold impl_NodeNew at h
  refine Says.of_run s58 Try.call58 rfl fun B hB => ?_
  have hm : B.m ≤ 1000 := by omega
  refine Run.seq ?_
  refine Run.ops hm ?_
  refine Ops.st (s := 1000) (.al rfl rfl) rfl rfl ?_
  refine Ops.p rfl ?_
  refine Ops.nil ?_
  refine Run.seq ?_
  refine Run.ops hm ?_
  refine Ops.p rfl ?_
  refine Ops.p rfl ?_
  obtain ⟨x_107, hx_107, h⟩ := bindO h
  refine Ops.st (s := 5128) (Ev.apW (f := encI) (ontoN (f := encI) rfl) (addsF rfl) rfl bt3 rfl hx_107) rfl rfl ?_
  refine Ops.st (s := 5144) (.bd rfl rfl) rfl rfl ?_
  refine Ops.st (s := 5160) (.al rfl rfl) rfl rfl ?_
  refine Ops.s0 (s := 5176) (.sto rfl rfl rfl rfl rfl rfl) rfl rfl ?_
  refine Ops.nil ?_
  refine Run.seq ?_
  refine Run.seq ?_
  refine Run.ops hm ?_
  refine Ops.p rfl ?_
  obtain ⟨y_110, hy_110, h⟩ := bindO h
  refine Ops.st (s := 9208) (Ev.call [] [5128] 0 (sem_impl_NodeOk N (Node.mk x_1 (0 : Int) (0 : Int) (0 : Int) (0 : Int) x_107 (Log.mk (0 : Int) (0 : Int) ([])) (0 : Int) (0 : Int) (20 : Int) ([]) ([])) _ hy_110) rfl rfl (.cons (.agg (.cons (.c _) (.cons (.c _) (.cons (.c _) (.cons (.c _) (.cons (.c _) (.cons (.borrow rfl (by decide) (lendW (fun _ => rfl) _ rfl)) (.cons (.c _) (.cons (.c _) (.cons (.nil _ _) (.cons (.c _) (.cons (.c _) (.cons (.c _) (.cons (.nil _ _) (.cons (.nil _ _) .nil))))))))))))))) .nil) rfl (.inr ⟨rfl, ownL_root trivial⟩) rfl rfl) rfl rfl ?_
  refine Ops.p rfl ?_
  refine Ops.nil ?_
  refine Run.condO rfl h (fun g_111 h => ?_) (fun g_111 h => ?_)
  · skip
    refine Run.seq ?_
    refine Run.ops hm ?_
    refine Ops.st (s := 13288) (.bd rfl rfl) rfl rfl ?_
    refine Ops.s0 (s := 13304) (.sto rfl rfl rfl rfl rfl rfl) rfl rfl ?_
    refine Ops.p rfl ?_
    refine Ops.nil ?_
    refine Run.ret ?_
    obtain rfl := someO h
    exact Ends.mkG (.inl rfl) rfl (Gh.trans (Gh.trans (gh_prn [0, 1] [] hB rfl) (gh_nil [0] [] hB rfl rfl rfl)) (gh_pk [0, 1] [10000000, 10000001, 10000002, 10000003] hB rfl rfl rfl rfl)) rfl rfl
  · skip
    refine Run.skip ?_
    refine Run.seq ?_
    refine Run.ops hm ?_
    refine Ops.p rfl ?_
    refine Ops.s0 (s := 17400) (.sto rfl rfl rfl rfl rfl rfl) rfl rfl ?_
    refine Ops.p rfl ?_
    refine Ops.nil ?_
    refine Run.ret ?_
    obtain rfl := someO h
    exact Ends.mkG (.inl rfl) rfl (Gh.trans (Gh.trans (gh_prn [0, 1] [5128] hB rfl) (gh_nil [0] [] hB rfl rfl rfl)) (gh_pk [0, 1] [5128, 10000000, 10000001, 10000002] hB rfl rfl rfl rfl)) rfl rfl
def laws_eqIntS_l1 (N : Nat) (x_1 : (List Int)) (x_2 : (List Int)) : Nat → Int → Option ((Bool) ⊕ (Unit))
 | 0, _ => none
 | m + 1, x_174 =>
 (if (decide (x_174 < (x_1.length : Int))) = true then
 (at? x_1 x_174).bind fun x_191 =>
 (at? x_2 x_174).bind fun x_192 =>
 (if (x_191 != x_192) = true then
 some (Sum.inl false)
 else
 laws_eqIntS_l1 N x_1 x_2 m (w64 (x_174 + (1 : Int))))
 else
 some (Sum.inr ()))
def laws_eqIntS_l1_r (N : Nat) (x_1 : (List Int)) (x_2 : (List Int)) : (List Int) → Int → Option ((Bool) ⊕ (Unit))
 | [], x_174 =>
 some (Sum.inr ())
 | hd :: tl, x_174 =>
 (some hd).bind fun x_191 =>
 (at? x_2 x_174).bind fun x_192 =>
 (if (x_191 != x_192) = true then
 some (Sum.inl false)
 else
 laws_eqIntS_l1_r N x_1 x_2 tl (w64 (x_174 + (1 : Int))))
theorem laws_eqIntS_l1_rng (N : Nat) (x_1 : (List Int)) (x_2 : (List Int)) (hx : x_1.length ≤ 1099511627776) : ∀ (d k m : Nat), x_1.length = k + d → d < m → laws_eqIntS_l1 N x_1 x_2 m (k : Int) = laws_eqIntS_l1_r N x_1 x_2 (x_1.drop k) (k : Int) := by
  intro d
  induction d with
  | zero =>
    intro k m hd hm
    obtain ⟨m, rfl⟩ : ∃ q, m = q + 1 := ⟨m - 1, by omega⟩
    rw [laws_eqIntS_l1, if_neg (by simp; omega), List.drop_eq_nil_of_le (by omega), laws_eqIntS_l1_r]
  | succ d ih =>
    intro k m hd hm
    obtain ⟨m, rfl⟩ : ∃ q, m = q + 1 := ⟨m - 1, by omega⟩
    have hk : k < x_1.length := by omega
    rw [laws_eqIntS_l1, if_pos (by simp; omega), List.drop_eq_getElem_cons hk, laws_eqIntS_l1_r]
    have h1 := at_lt hk
    have h2 := w64_succ (k := k) (by omega)
    have h3 := ih (k + 1) m
    simp only [h1, h2, h3 (by omega) (by omega)]
theorem laws_eqIntS_l1_eq {N : Nat} (x_1 : (List Int)) (x_2 : (List Int)) (hx : x_1.length ≤ 1099511627776) (hN : x_1.length < N) : laws_eqIntS_l1 N x_1 x_2 N 0 = laws_eqIntS_l1_r N x_1 x_2 x_1 0 := laws_eqIntS_l1_rng N x_1 x_2 hx x_1.length 0 N (by omega) hN
def laws_eqIntS (N : Nat) (x_1 : (List Int)) (x_2 : (List Int)) : Option (Bool) :=
 (if ((x_1.length : Int) != (x_2.length : Int)) = true then
 some false
 else
 joinP (fun (v_171 : Unit) =>
 some true) fun j_171 =>
 (laws_eqIntS_l1 N x_1 x_2 N (0 : Int)).bind (Sum.elim (fun v_183 => some v_183) (fun (v_184 : Unit) => j_171 ())))
theorem sem_laws_eqIntS (N : Nat) (x_1 : (List Int)) (x_2 : (List Int)) (r : Bool) (h : laws_eqIntS N x_1 x_2 = some r) : Says Try.prog 49 [RO 3 (x_1.map encI), RO 3 (x_2.map encI)] 0 [] (VB r) [] := by
  unfold laws_eqIntS at h
  refine Says.of_run s49 Try.call49 rfl fun B hB => ?_
  have hm : B.m ≤ 1000 := by omega
  refine Run.seq ?_
  refine Run.ops hm ?_
  refine Ops.p rfl ?_
  refine Ops.nil ?_
  refine Run.seq ?_
  refine Run.seq ?_
  refine Run.ops hm ?_
  refine Ops.p rfl ?_
  refine Ops.st (s := 5112) (Ev.lnF rfl) rfl rfl ?_
  refine Ops.p rfl ?_
  refine Ops.st (s := 5144) (Ev.lnF rfl) rfl rfl ?_
  refine Ops.p rfl ?_
  refine Ops.nil ?_
  refine Run.condO rfl h (fun g_148 h => ?_) (fun g_148 h => ?_)
  · skip
    refine Run.seq ?_
    refine Run.ops hm ?_
    refine Ops.p rfl ?_
    refine Ops.nil ?_
    refine Run.ret ?_
    obtain rfl := someO h
    exact Ends.mkG (.inl rfl) rfl (gh_pk [0] [] hB rfl rfl rfl rfl) rfl rfl
  · skip
    refine Run.skip ?_
    refine Run.seqO h (fun (v_171 : Unit) => []) (fun (v_171 : Unit) => []) (fun h => ?_) (fun v_171 h => ?_)
    · skip
      refine Run.seq ?_
      refine Run.ops hm ?_
      refine Ops.p rfl ?_
      refine Ops.nil ?_
      refine Run.block ?_
      obtain ⟨res_184, h, hk_184⟩ := bindO h
      refine Run.loop (n := N) (fun m_184 fr σ => ∃ (x_174 : Int), laws_eqIntS_l1 N x_1 x_2 m_184 x_174 = some res_184 ∧ fr = [(0, RO 3 (x_1.map encI)), (1, RO 3 (x_2.map encI)), (5, VI x_174)] ∧ σ = []) (gh_pk [0, 1, 5] [] hB rfl rfl rfl rfl) ⟨_, h, rfl, rfl⟩ ?_
      rintro m_184 fr σ ⟨x_174, h, rfl, rfl⟩
      obtain _ | m_184 := m_184
      · rw [laws_eqIntS_l1] at h; cases h
      rw [laws_eqIntS_l1] at h
      refine Run.seq ?_
      refine Run.seq ?_
      refine Run.ops hm ?_
      refine Ops.p rfl ?_
      refine Ops.p rfl ?_
      refine Ops.st (s := 17416) (Ev.lnF rfl) rfl rfl ?_
      refine Ops.p rfl ?_
      refine Ops.nil ?_
      refine Run.condO rfl h (fun g_187 h => ?_) (fun g_187 h => ?_)
      · skip
        refine Run.skip ?_
        refine Run.seq ?_
        refine Run.block ?_
        refine Run.seq ?_
        refine Run.draw hm hmix ?_
        refine OpsD.p rfl ?_
        refine OpsD.p rfl ?_
        obtain ⟨x_191, hx_191, h⟩ := bindO h
        refine OpsD.st (s := 25608) (Ev.iaF rfl rfl hx_191) rfl rfl ?_
        refine OpsD.p rfl ?_
        refine OpsD.p rfl ?_
        refine OpsD.p rfl ?_
        obtain ⟨x_192, hx_192, h⟩ := bindO h
        refine OpsD.st (s := 25672) (Ev.iaF rfl rfl hx_192) rfl rfl ?_
        refine OpsD.p rfl ?_
        refine OpsD.p rfl ?_
        refine OpsD.nil ⟨by kernel_rfl, ?_⟩
        refine Run.condO rfl h (fun g_193 h => ?_) (fun g_193 h => ?_)
        · skip
          refine Run.seq ?_
          refine Run.ops hm ?_
          refine Ops.p rfl ?_
          refine Ops.nil ?_
          refine Run.ret ?_
          obtain rfl := someO h
          have h := hk_184
          replace h := inlO h
          obtain rfl := someO h
          exact Ends.mkG (.inl rfl) rfl (gh_pk [0] [] hB rfl rfl rfl rfl) rfl rfl
        · skip
          refine Run.skip ?_
          refine Run.ops hm ?_
          refine Ops.p rfl ?_
          refine Ops.p rfl ?_
          refine Ops.p rfl ?_
          refine Ops.nil ?_
          exact ⟨m_184, Nat.lt_succ_self m_184, _, _, (gh_pk [0, 1, 5] [] hB rfl rfl rfl rfl), _, h, rfl, rfl⟩
      · skip
        refine Run.exit ?_
        obtain rfl := someO h
        have h := hk_184
        replace h := inrO h
        exact ⟨_, _, (gh_pk [] [] hB rfl rfl rfl rfl), (), h, rfl, rfl⟩
    · skip
      refine Run.seq ?_
      refine Run.ops hm ?_
      refine Ops.p rfl ?_
      refine Ops.nil ?_
      refine Run.ret ?_
      obtain rfl := someO h
      exact Ends.mkG (.inl rfl) rfl (gh_pk [0] [] hB rfl rfl rfl rfl) rfl rfl
def laws_eqEntry (N : Nat) (x_1 : Entry) (x_2 : Entry) : Option (Bool) :=
 (if (x_1.Term != x_2.Term) = true then
 some false
 else
 (if (x_1.Kind != x_2.Kind) = true then
 some false
 else
 (if (!decide (x_1.Data = x_2.Data)) = true then
 some false
 else
 some true)))
theorem sem_laws_eqEntry (N : Nat) (x_1 : Entry) (x_2 : Entry) (r : Bool) (h : laws_eqEntry N x_1 x_2 = some r) : Says Try.prog 34 [.agg [VI x_1.Term, VI x_1.Kind, VS x_1.Data], .agg [VI x_2.Term, VI x_2.Kind, VS x_2.Data]] 0 [] (VB r) [] := by
  unfold laws_eqEntry at h
  refine Says.of_run s34 Try.call34 rfl fun B hB => ?_
  have hm : B.m ≤ 1000 := by omega
  refine Run.seq ?_
  refine Run.ops hm ?_
  refine Ops.st (s := 1000) (.bx rfl rfl) rfl rfl ?_
  refine Ops.st (s := 1016) (.bx rfl rfl) rfl rfl ?_
  refine Ops.p rfl ?_
  refine Ops.nil ?_
  refine Run.seq ?_
  refine Run.seq ?_
  refine Run.ops hm ?_
  refine Ops.p rfl ?_
  refine Ops.p rfl ?_
  refine Ops.p rfl ?_
  refine Ops.p rfl ?_
  refine Ops.p rfl ?_
  refine Ops.nil ?_
  refine Run.condO rfl h (fun g_106 h => ?_) (fun g_106 h => ?_)
  · skip
    refine Run.seq ?_
    refine Run.ops hm ?_
    refine Ops.p rfl ?_
    refine Ops.nil ?_
    refine Run.ret ?_
    obtain rfl := someO h
    exact Ends.mkG (.inl rfl) rfl (gh_pk [0] [] hB rfl rfl rfl rfl) rfl rfl
  · skip
    refine Run.skip ?_
    refine Run.seq ?_
    refine Run.seq ?_
    refine Run.ops hm ?_
    refine Ops.p rfl ?_
    refine Ops.p rfl ?_
    refine Ops.p rfl ?_
    refine Ops.p rfl ?_
    refine Ops.p rfl ?_
    refine Ops.nil ?_
    refine Run.condO rfl h (fun g_108 h => ?_) (fun g_108 h => ?_)
    · skip
      refine Run.seq ?_
      refine Run.ops hm ?_
      refine Ops.p rfl ?_
      refine Ops.nil ?_
      refine Run.ret ?_
      obtain rfl := someO h
      exact Ends.mkG (.inl rfl) rfl (gh_pk [0] [] hB rfl rfl rfl rfl) rfl rfl
    · skip
      refine Run.skip ?_
      refine Run.seq ?_
      refine Run.seq ?_
      refine Run.ops hm ?_
      refine Ops.p rfl ?_
      refine Ops.p rfl ?_
      refine Ops.p rfl ?_
      refine Ops.p rfl ?_
      refine Ops.p rfl ?_
      refine Ops.nil ?_
      refine Run.condO rfl h (fun g_109 h => ?_) (fun g_109 h => ?_)
      · skip
        refine Run.seq ?_
        refine Run.ops hm ?_
        refine Ops.p rfl ?_
        refine Ops.nil ?_
        refine Run.ret ?_
        obtain rfl := someO h
        exact Ends.mkG (.inl rfl) rfl (gh_pk [0] [] hB rfl rfl rfl rfl) rfl rfl
      · skip
        refine Run.skip ?_
        refine Run.seq ?_
        refine Run.ops hm ?_
        refine Ops.p rfl ?_
        refine Ops.nil ?_
        refine Run.ret ?_
        obtain rfl := someO h
        exact Ends.mkG (.inl rfl) rfl (gh_pk [0] [] hB rfl rfl rfl rfl) rfl rfl
def laws_eqEntryS_l1 (N : Nat) (x_1 : (List Entry)) (x_2 : (List Entry)) : Nat → Int → Option ((Bool) ⊕ (Unit))
 | 0, _ => none
 | m + 1, x_186 =>
 (if (decide (x_186 < (x_1.length : Int))) = true then
 (at? x_1 x_186).bind fun x_206 =>
 (at? x_2 x_186).bind fun x_207 =>
 (laws_eqEntry N x_206 x_207).bind fun y_208 =>
 (if (!y_208) = true then
 some (Sum.inl false)
 else
 laws_eqEntryS_l1 N x_1 x_2 m (w64 (x_186 + (1 : Int))))
 else
 some (Sum.inr ()))
def laws_eqEntryS_l1_r (N : Nat) (x_1 : (List Entry)) (x_2 : (List Entry)) : (List Entry) → Int → Option ((Bool) ⊕ (Unit))
 | [], x_186 =>
 some (Sum.inr ())
 | hd :: tl, x_186 =>
 (some hd).bind fun x_206 =>
 (at? x_2 x_186).bind fun x_207 =>
 (laws_eqEntry N x_206 x_207).bind fun y_208 =>
 (if (!y_208) = true then
 some (Sum.inl false)
 else
 laws_eqEntryS_l1_r N x_1 x_2 tl (w64 (x_186 + (1 : Int))))
theorem laws_eqEntryS_l1_rng (N : Nat) (x_1 : (List Entry)) (x_2 : (List Entry)) (hx : x_1.length ≤ 1099511627776) : ∀ (d k m : Nat), x_1.length = k + d → d < m → laws_eqEntryS_l1 N x_1 x_2 m (k : Int) = laws_eqEntryS_l1_r N x_1 x_2 (x_1.drop k) (k : Int) := by
  intro d
  induction d with
  | zero =>
    intro k m hd hm
    obtain ⟨m, rfl⟩ : ∃ q, m = q + 1 := ⟨m - 1, by omega⟩
    rw [laws_eqEntryS_l1, if_neg (by simp; omega), List.drop_eq_nil_of_le (by omega), laws_eqEntryS_l1_r]
  | succ d ih =>
    intro k m hd hm
    obtain ⟨m, rfl⟩ : ∃ q, m = q + 1 := ⟨m - 1, by omega⟩
    have hk : k < x_1.length := by omega
    rw [laws_eqEntryS_l1, if_pos (by simp; omega), List.drop_eq_getElem_cons hk, laws_eqEntryS_l1_r]
    have h1 := at_lt hk
    have h2 := w64_succ (k := k) (by omega)
    have h3 := ih (k + 1) m
    simp only [h1, h2, h3 (by omega) (by omega)]
theorem laws_eqEntryS_l1_eq {N : Nat} (x_1 : (List Entry)) (x_2 : (List Entry)) (hx : x_1.length ≤ 1099511627776) (hN : x_1.length < N) : laws_eqEntryS_l1 N x_1 x_2 N 0 = laws_eqEntryS_l1_r N x_1 x_2 x_1 0 := laws_eqEntryS_l1_rng N x_1 x_2 hx x_1.length 0 N (by omega) hN
def laws_eqEntryS (N : Nat) (x_1 : (List Entry)) (x_2 : (List Entry)) : Option (Bool) :=
 (if ((x_1.length : Int) != (x_2.length : Int)) = true then
 some false
 else
 joinP (fun (v_183 : Unit) =>
 some true) fun j_183 =>
 (laws_eqEntryS_l1 N x_1 x_2 N (0 : Int)).bind (Sum.elim (fun v_197 => some v_197) (fun (v_198 : Unit) => j_183 ())))
theorem sem_laws_eqEntryS (N : Nat) (x_1 : (List Entry)) (x_2 : (List Entry)) (r : Bool) (h : laws_eqEntryS N x_1 x_2 = some r) : Says Try.prog 91 [RO 48 (x_1.map encEntry), RO 48 (x_2.map encEntry)] 0 [] (VB r) [] := by
  unfold laws_eqEntryS at h
  refine Says.of_run s91 Try.call91 rfl fun B hB => ?_
  have hm : B.m ≤ 1000 := by omega
  refine Run.seq ?_
  refine Run.ops hm ?_
  refine Ops.p rfl ?_
  refine Ops.nil ?_
  refine Run.seq ?_
  refine Run.seq ?_
  refine Run.ops hm ?_
  refine Ops.p rfl ?_
  refine Ops.st (s := 5112) (Ev.lnF rfl) rfl rfl ?_
  refine Ops.p rfl ?_
  refine Ops.st (s := 5144) (Ev.lnF rfl) rfl rfl ?_
  refine Ops.p rfl ?_
  refine Ops.nil ?_
  refine Run.condO rfl h (fun g_156 h => ?_) (fun g_156 h => ?_)
  · skip
    refine Run.seq ?_
    refine Run.ops hm ?_
    refine Ops.p rfl ?_
    refine Ops.nil ?_
    refine Run.ret ?_
    obtain rfl := someO h
    exact Ends.mkG (.inl rfl) rfl (gh_pk [0] [] hB rfl rfl rfl rfl) rfl rfl
  · skip
    refine Run.skip ?_
    refine Run.seqO h (fun (v_183 : Unit) => []) (fun (v_183 : Unit) => []) (fun h => ?_) (fun v_183 h => ?_)
    · skip
      refine Run.seq ?_
      refine Run.ops hm ?_
      refine Ops.p rfl ?_
      refine Ops.nil ?_
      refine Run.block ?_
      obtain ⟨res_198, h, hk_198⟩ := bindO h
      refine Run.loop (n := N) (fun m_198 fr σ => ∃ (x_186 : Int), laws_eqEntryS_l1 N x_1 x_2 m_198 x_186 = some res_198 ∧ fr = [(0, RO 48 (x_1.map encEntry)), (1, RO 48 (x_2.map encEntry)), (5, VI x_186)] ∧ σ = []) (gh_pk [0, 1, 5] [] hB rfl rfl rfl rfl) ⟨_, h, rfl, rfl⟩ ?_
      rintro m_198 fr σ ⟨x_186, h, rfl, rfl⟩
      obtain _ | m_198 := m_198
      · rw [laws_eqEntryS_l1] at h; cases h
      rw [laws_eqEntryS_l1] at h
      refine Run.seq ?_
      refine Run.seq ?_
      refine Run.ops hm ?_
      refine Ops.p rfl ?_
      refine Ops.p rfl ?_
      refine Ops.st (s := 17416) (Ev.lnF rfl) rfl rfl ?_
      refine Ops.p rfl ?_
      refine Ops.nil ?_
      refine Run.condO rfl h (fun g_201 h => ?_) (fun g_201 h => ?_)
      · skip
        refine Run.skip ?_
        refine Run.seq ?_
        refine Run.block ?_
        refine Run.seq ?_
        refine Run.draw hm hmix ?_
        refine OpsD.p rfl ?_
        refine OpsD.p rfl ?_
        obtain ⟨x_206, hx_206, h⟩ := bindO h
        refine OpsD.st (s := 25608) (Ev.iaF rfl rfl hx_206) rfl rfl ?_
        refine OpsD.p rfl ?_
        refine OpsD.p rfl ?_
        refine OpsD.p rfl ?_
        obtain ⟨x_207, hx_207, h⟩ := bindO h
        refine OpsD.st (s := 25672) (Ev.iaF rfl rfl hx_207) rfl rfl ?_
        refine OpsD.p rfl ?_
        obtain ⟨y_208, hy_208, h⟩ := bindO h
        refine OpsD.st (s := 25704) (Ev.call [] [] 0 (sem_laws_eqEntry N x_206 x_207 _ hy_208) rfl rfl (.cons (.agg (.cons (.c _) (.cons (.c _) (.cons (.c _) .nil)))) (.cons (.agg (.cons (.c _) (.cons (.c _) (.cons (.c _) .nil)))) .nil)) rfl (.inl rfl) rfl rfl) rfl rfl ?_
        refine OpsD.p rfl ?_
        refine OpsD.nil ⟨by kernel_rfl, ?_⟩
        refine Run.condO rfl h (fun g_209 h => ?_) (fun g_209 h => ?_)
        · skip
          refine Run.seq ?_
          refine Run.ops hm ?_
          refine Ops.p rfl ?_
          refine Ops.nil ?_
          refine Run.ret ?_
          obtain rfl := someO h
          have h := hk_198
          replace h := inlO h
          obtain rfl := someO h
          exact Ends.mkG (.inl rfl) rfl (gh_pk [0] [] hB rfl rfl rfl rfl) rfl rfl
        · skip
          refine Run.skip ?_
          refine Run.ops hm ?_
          refine Ops.p rfl ?_
          refine Ops.p rfl ?_
          refine Ops.p rfl ?_
          refine Ops.nil ?_
          exact ⟨m_198, Nat.lt_succ_self m_198, _, _, (gh_pk [0, 1, 5] [] hB rfl rfl rfl rfl), _, h, rfl, rfl⟩
      · skip
        refine Run.exit ?_
        obtain rfl := someO h
        have h := hk_198
        replace h := inrO h
        exact ⟨_, _, (gh_pk [] [] hB rfl rfl rfl rfl), (), h, rfl, rfl⟩
    · skip
      refine Run.seq ?_
      refine Run.ops hm ?_
      refine Ops.p rfl ?_
      refine Ops.nil ?_
      refine Run.ret ?_
      obtain rfl := someO h
      exact Ends.mkG (.inl rfl) rfl (gh_pk [0] [] hB rfl rfl rfl rfl) rfl rfl
end Go.Proofs.Ytebbgdjmplceiaa.Pe.FnExactNodeNew
