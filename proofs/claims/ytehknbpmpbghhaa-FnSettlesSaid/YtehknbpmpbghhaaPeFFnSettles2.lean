/- Functions,as pure functions; and that Go does just that. -/
import Derived.Test.YtehknbpmpbghhaaPeFFnSettles1
namespace Go.Proofs.Ytehknbpmpbghhaa.Pe.FnSettles
open Go Go.RowKit
set_option linter.unusedVariables false
set_option linter.unusedSimpArgs false
set_option maxHeartbeats 40000000
def spec_l16SendAll_l1 (N : Nat) (x_1 : Tl16Run) : Nat → Int → Int → Int → Int → Int → Int → Int → Int → Int → Int → Int → (List Message) → Option (Int × Int × Int × Int × Int × Int × Int × Int × Int × Int × (List Message))
 | 0,_,_,_,_,_,_,_,_,_,_,_,_ => none
 | m + 1,x_138,x_139,x_140,x_141,x_142,x_143,x_144,x_145,x_146,x_147,x_148,x_153 =>
 (if (decide (x_138 < ((x_1.n.Peers.length : Nat) : Int))) = true then
 (at? x_1.n.Peers x_138).bind fun x_174 =>
 (spec_l16Send N (Tl16Run.mk (Node.mk x_139 x_140 x_141 x_142 x_143 x_1.n.Conf (Log.mk x_144 x_145 x_1.n.Log.Entries) x_146 x_147 x_148 x_1.n.Votes x_1.n.Peers) x_153) x_174).bind fun y_175 =>
 spec_l16SendAll_l1 N x_1 m (w64 (x_138 + 1)) y_175.n.Id y_175.n.Term y_175.n.Vote y_175.n.Role y_175.n.Lead y_175.n.Log.Start y_175.n.Log.StartTerm y_175.n.Commit y_175.n.Clock y_175.n.Limit y_175.told
 else
 some (x_139,x_140,x_141,x_142,x_143,x_144,x_145,x_146,x_147,x_148,x_153))
def spec_l16SendAll (N : Nat) (x_1 : Tl16Run) : Option (Tl16Run) :=
 (spec_l16SendAll_l1 N x_1 N 0 x_1.n.Id x_1.n.Term x_1.n.Vote x_1.n.Role x_1.n.Lead x_1.n.Log.Start x_1.n.Log.StartTerm x_1.n.Commit x_1.n.Clock x_1.n.Limit ([] : (List Message))).bind (fun v_164 => some (Tl16Run.mk (Node.mk v_164.1 v_164.2.1 v_164.2.2.1 v_164.2.2.2.1 v_164.2.2.2.2.1 x_1.n.Conf (Log.mk v_164.2.2.2.2.2.1 v_164.2.2.2.2.2.2.1 x_1.n.Log.Entries) v_164.2.2.2.2.2.2.2.1 v_164.2.2.2.2.2.2.2.2.1 v_164.2.2.2.2.2.2.2.2.2.1 x_1.n.Votes x_1.n.Peers) v_164.2.2.2.2.2.2.2.2.2.2))
theorem sem_spec_l16SendAll (N : Nat) (x_1 : Tl16Run) (r : Tl16Run) (h : spec_l16SendAll N x_1 = some r) : Says Try.prog 88 [.ptr 0 0] 5 [(0,.box [VI x_1.n.Id,VI x_1.n.Term,VI x_1.n.Vote,VI x_1.n.Role,VI x_1.n.Lead,.sl 1 3 0 x_1.n.Conf.length,VI x_1.n.Log.Start,VI x_1.n.Log.StartTerm,.sl 2 51 0 x_1.n.Log.Entries.length,VI x_1.n.Commit,VI x_1.n.Clock,VI x_1.n.Limit,.sl 3 3 0 x_1.n.Votes.length,.sl 4 135 0 x_1.n.Peers.length,NI 58]),(1,.vec 3 (x_1.n.Conf.map encI)),(2,.vec 51 (x_1.n.Log.Entries.map encEntry)),(3,.vec 3 (x_1.n.Votes.map encI)),(4,.vec 135 (x_1.n.Peers.map encPeer))] (.tup []) [(0,.box [VI r.n.Id,VI r.n.Term,VI r.n.Vote,VI r.n.Role,VI r.n.Lead,.sl 1 3 0 x_1.n.Conf.length,VI r.n.Log.Start,VI r.n.Log.StartTerm,.sl 2 51 0 x_1.n.Log.Entries.length,VI r.n.Commit,VI r.n.Clock,VI r.n.Limit,.sl 3 3 0 x_1.n.Votes.length,.sl 4 135 0 x_1.n.Peers.length,.sl 5 58 0 r.told.length]),(1,.vec 3 (x_1.n.Conf.map encI)),(2,.vec 51 (x_1.n.Log.Entries.map encEntry)),(3,.vec 3 (x_1.n.Votes.map encI)),(4,.vec 135 (x_1.n.Peers.map encPeer)),(5,.vec 58 (r.told.map (encMessage false)))] := by
 unfold spec_l16SendAll at h
 refine Says.of_run s88 Try.call88 rfl fun B hB => ?_
 have hm : B.m ≤ 1000 := by omega
 refine Run.seq (Run.ops hm (Ops.p rfl (Ops.nil (Run.block ?_))))
 obtain ⟨res_164,h,hk_164⟩ := bindO h
 refine Run.loop (n := N) (fun m_164 fr σ => ∃ (x_138 : Int),∃ (x_139 : Int),∃ (x_140 : Int),∃ (x_141 : Int),∃ (x_142 : Int),∃ (x_143 : Int),∃ (x_144 : Int),∃ (x_145 : Int),∃ (x_146 : Int),∃ (x_147 : Int),∃ (x_148 : Int),∃ (x_153 : (List Message)),spec_l16SendAll_l1 N x_1 m_164 x_138 x_139 x_140 x_141 x_142 x_143 x_144 x_145 x_146 x_147 x_148 x_153 = some res_164 ∧ fr = [(0,.ptr 0 0),(2,VI x_138)] ∧ σ = [(0,.box [VI x_139,VI x_140,VI x_141,VI x_142,VI x_143,.sl 1 3 0 x_1.n.Conf.length,VI x_144,VI x_145,.sl 2 51 0 x_1.n.Log.Entries.length,VI x_146,VI x_147,VI x_148,.sl 3 3 0 x_1.n.Votes.length,.sl 4 135 0 x_1.n.Peers.length,.sl 5 58 0 x_153.length]),(1,.vec 3 (x_1.n.Conf.map encI)),(2,.vec 51 (x_1.n.Log.Entries.map encEntry)),(3,.vec 3 (x_1.n.Votes.map encI)),(4,.vec 135 (x_1.n.Peers.map encPeer)),(5,.vec 58 (x_153.map (encMessage false)))]) (Gh.trans (Gh.trans (gh_prn [0,2] [0,1,2,3,4] hB rfl) (gh_nil [] [0] hB rfl rfl rfl)) (gh_pk [0,2] [0,1,2,3,4,20000000] hB rfl rfl rfl rfl)) ⟨_,_,_,_,_,_,_,_,_,_,_,_,h,rfl,rfl⟩ ?_
 rintro m_164 fr σ ⟨x_138,x_139,x_140,x_141,x_142,x_143,x_144,x_145,x_146,x_147,x_148,x_153,h,rfl,rfl⟩
 obtain _ | m_164 := m_164
 ·rw [spec_l16SendAll_l1] at h; cases h
 rw [spec_l16SendAll_l1] at h
 refine Run.seq (Run.seq (Run.ops hm (.p3 rfl rfl rfl (.p3 rfl rfl rfl (.p2 rfl rfl (Ops.nil (Run.condO rfl h (fun g_167 h => ?_) (fun g_167 h => ?_))))))))
 ·refine Run.skip (Run.seq (Run.block (Run.ops hm (.p3 rfl rfl rfl (.p3 rfl rfl rfl (Ops.p rfl ?_))))))
  obtain ⟨x_174,hx_174,h⟩ := bindO h
  refine Ops.st (s := 13400) (Ev.iaW rfl rfl rfl hx_174) rfl rfl (Ops.st (s := 13416) (Ev.ldE (f := encPeer) rfl rfl (at_some hx_174).2 rfl rfl rfl) rfl rfl ?_)
  obtain ⟨y_175,hy_175,h⟩ := bindO h
  exact Ops.st (s := 13432) (Ev.call [0,1,2,3,4,5] [] 1 (sem_spec_l16Send _ _ _ _ hy_175) rfl rfl (.cons (.ptr rfl) (.cons (.agg (.d4 .nil)) .nil)) rfl (.inl rfl) rfl rfl) rfl rfl (Ops.nil (Run.ops hm (.p3 rfl rfl rfl (Ops.nil (⟨m_164,Nat.lt_succ_self m_164,_,_,(gh_pk [0,2] [0,1,2,3,4,13432] hB rfl rfl rfl rfl),_,_,_,_,_,_,_,_,_,_,_,_,h,rfl,rfl⟩)))))
 ·refine Run.exit ?_
  obtain rfl := someO h
  have h := hk_164
  obtain rfl := someO h
  exact Ends.mkG (.inr rfl) rfl (gh_pk [] [0,1,2,3,4,5] hB rfl rfl rfl rfl) rfl rfl
def spec_l09In_l1 (N : Nat) (x_1 : (List Int)) (x_2 : Int) : Nat → Int → Option ((Bool) ⊕ (Unit))
 | 0,_ => none
 | m + 1,x_170 =>
 (if (decide (x_170 < (x_1.length : Int))) = true then
 (at? x_1 x_170).bind fun x_188 =>
 (if (x_188 == x_2) = true then
 some (Sum.inl true)
 else
 spec_l09In_l1 N x_1 x_2 m (w64 (x_170 + 1)))
 else
 some (Sum.inr ()))
def spec_l09In_l1_r (N : Nat) (x_1 : (List Int)) (x_2 : Int) : (List Int) → Int → Option ((Bool) ⊕ (Unit))
 | [],x_170 =>
 some (Sum.inr ())
 | hd :: tl,x_170 =>
 (some hd).bind fun x_188 =>
 (if (x_188 == x_2) = true then
 some (Sum.inl true)
 else
 spec_l09In_l1_r N x_1 x_2 tl (w64 (x_170 + 1)))
theorem spec_l09In_l1_rng (N : Nat) (x_1 : (List Int)) (x_2 : Int) (hx : x_1.length ≤ 1099511627776) : ∀ (d k m : Nat),x_1.length = k + d → d < m → spec_l09In_l1 N x_1 x_2 m (k : Int) = spec_l09In_l1_r N x_1 x_2 (x_1.drop k) (k : Int) := by
 intro d
 induction d with
 | zero =>
  intro k m hd hm
  obtain ⟨m,rfl⟩ : ∃ q,m = q + 1 := ⟨m - 1,by omega⟩
  rw [spec_l09In_l1,if_neg (by simp; omega),List.drop_eq_nil_of_le (by omega),spec_l09In_l1_r]
 | succ d ih =>
  intro k m hd hm
  obtain ⟨m,rfl⟩ : ∃ q,m = q + 1 := ⟨m - 1,by omega⟩
  have hk : k < x_1.length := by omega
  rw [spec_l09In_l1,if_pos (by simp; omega),List.drop_eq_getElem_cons hk,spec_l09In_l1_r]
  have h1 := at_lt hk
  have h2 := w64_succ (k := k) (by omega)
  have h3 := ih (k + 1) m
  simp only [h1,h2,h3 (by omega) (by omega)]
theorem spec_l09In_l1_eq {N : Nat} (x_1 : (List Int)) (x_2 : Int) (hx : x_1.length ≤ 1099511627776) (hN : x_1.length < N) : spec_l09In_l1 N x_1 x_2 N 0 = spec_l09In_l1_r N x_1 x_2 x_1 0 := spec_l09In_l1_rng N x_1 x_2 hx x_1.length 0 N (by omega) hN
def spec_l09In (N : Nat) (x_1 : (List Int)) (x_2 : Int) : Option (Bool) :=
 joinP (fun (v_167 : Unit) =>
 some false) fun j_167 =>
 (spec_l09In_l1 N x_1 x_2 N 0).bind (Sum.elim (fun v_179 => some v_179) (fun (v_180 : Unit) => j_167 ()))
theorem sem_spec_l09In (N : Nat) (x_1 : (List Int)) (x_2 : Int) (r : Bool) (h : spec_l09In N x_1 x_2 = some r) : Says Try.prog 113 [RO 3 (x_1.map encI),VI x_2] 0 [] (VB r) [] := by
 unfold spec_l09In at h
 refine Says.of_run s113 Try.call113 rfl fun B hB => ?_
 have hm : B.m ≤ 1000 := by omega
 refine Run.seq (Run.ops hm (Ops.p rfl (Ops.nil (Run.seqO h (fun v_167 => []) (fun (v_167 : Unit) => []) (fun h => ?_) (fun v_167 h => ?_)))))
 ·refine Run.seq (Run.ops hm (Ops.p rfl (Ops.nil (Run.block ?_))))
  obtain ⟨res_180,h,hk_180⟩ := bindO h
  refine Run.loop (n := N) (fun m_180 fr σ => ∃ (x_170 : Int),spec_l09In_l1 N x_1 x_2 m_180 x_170 = some res_180 ∧ fr = [(0,RO 3 (x_1.map encI)),(1,VI x_2),(5,VI x_170)] ∧ σ = []) (gh_pk [0,1,5] [] hB rfl rfl rfl rfl) ⟨_,h,rfl,rfl⟩ ?_
  rintro m_180 fr σ ⟨x_170,h,rfl,rfl⟩
  obtain _ | m_180 := m_180
  ·rw [spec_l09In_l1] at h; cases h
  rw [spec_l09In_l1] at h
  refine Run.seq (Run.seq (Run.ops hm (.p2 rfl rfl (Ops.st (s := 9224) (Ev.lnF rfl) rfl rfl (Ops.p rfl (Ops.nil (Run.condO rfl h (fun g_183 h => ?_) (fun g_183 h => ?_))))))))
  ·refine Run.skip (Run.seq (Run.block (Run.seq (Run.ops hm (.p2 rfl rfl ?_)))))
   obtain ⟨x_188,hx_188,h⟩ := bindO h
   refine Ops.st (s := 17416) (Ev.iaF rfl rfl hx_188) rfl rfl (.p3 rfl rfl rfl (Ops.nil (Run.condO rfl h (fun g_189 h => ?_) (fun g_189 h => ?_))))
   ·refine Run.seq (Run.ops hm (Ops.p rfl (Ops.nil (Run.ret ?_))))
    obtain rfl := someO h
    have h := hk_180
    replace h := inlO h
    obtain rfl := someO h
    exact Ends.mkG (.inl rfl) rfl (gh_pk [0] [] hB rfl rfl rfl rfl) rfl rfl
   ·exact Run.skip (Run.ops hm (.p3 rfl rfl rfl (Ops.nil (⟨m_180,Nat.lt_succ_self m_180,_,_,(gh_pk [0,1,5] [] hB rfl rfl rfl rfl),_,h,rfl,rfl⟩))))
  ·refine Run.exit ?_
   obtain rfl := someO h
   have h := hk_180
   replace h := inrO h
   exact ⟨_,_,(gh_pk [] [] hB rfl rfl rfl rfl),(),h,rfl,rfl⟩
 ·refine Run.seq (Run.ops hm (Ops.p rfl (Ops.nil (Run.ret ?_))))
  obtain rfl := someO h
  exact Ends.mkG (.inl rfl) rfl (gh_pk [0] [] hB rfl rfl rfl rfl) rfl rfl
def spec_Most_l1 (N : Nat) (x_1 : (List Int)) (x_2 : (List Int)) : Nat → Int → Int → Option (Int)
 | 0,_,_ => none
 | m + 1,x_204,x_205 =>
 (if (decide (x_205 < (x_1.length : Int))) = true then
 joinP (fun (v_228 : Int) =>
 spec_Most_l1 N x_1 x_2 m v_228 (w64 (x_205 + 1))) fun j_228 =>
 (at? x_1 x_205).bind fun x_231 =>
 (spec_l09In N x_2 x_231).bind fun y_232 =>
 (if y_232 = true then
 j_228 (w64 (x_204 + 1))
 else
 j_228 x_204)
 else
 some x_204)
def spec_Most_l1_r (N : Nat) (x_1 : (List Int)) (x_2 : (List Int)) : (List Int) → Int → Int → Option (Int)
 | [],x_204,x_205 =>
 some x_204
 | hd :: tl,x_204,x_205 =>
 joinP (fun (v_228 : Int) =>
 spec_Most_l1_r N x_1 x_2 tl v_228 (w64 (x_205 + 1))) fun j_228 =>
 (some hd).bind fun x_231 =>
 (spec_l09In N x_2 x_231).bind fun y_232 =>
 (if y_232 = true then
 j_228 (w64 (x_204 + 1))
 else
 j_228 x_204)
theorem spec_Most_l1_rng (N : Nat) (x_1 : (List Int)) (x_2 : (List Int)) (hx : x_1.length ≤ 1099511627776) : ∀ (d k m : Nat) (x_204 : Int),x_1.length = k + d → d < m → spec_Most_l1 N x_1 x_2 m x_204 (k : Int) = spec_Most_l1_r N x_1 x_2 (x_1.drop k) x_204 (k : Int) := by
 intro d
 induction d with
 | zero =>
  intro k m x_204 hd hm
  obtain ⟨m,rfl⟩ : ∃ q,m = q + 1 := ⟨m - 1,by omega⟩
  rw [spec_Most_l1,if_neg (by simp; omega),List.drop_eq_nil_of_le (by omega),spec_Most_l1_r]
 | succ d ih =>
  intro k m x_204 hd hm
  obtain ⟨m,rfl⟩ : ∃ q,m = q + 1 := ⟨m - 1,by omega⟩
  have hk : k < x_1.length := by omega
  rw [spec_Most_l1,if_pos (by simp; omega),List.drop_eq_getElem_cons hk,spec_Most_l1_r]
  have h1 := at_lt hk
  have h2 := w64_succ (k := k) (by omega)
  have h3 := ih (k + 1) m
  simp only [h1,h2,h3 _ (by omega) (by omega)]
theorem spec_Most_l1_eq {N : Nat} (x_1 : (List Int)) (x_2 : (List Int)) (hx : x_1.length ≤ 1099511627776) (hN : x_1.length < N) (x_204 : Int) : spec_Most_l1 N x_1 x_2 N x_204 0 = spec_Most_l1_r N x_1 x_2 x_1 x_204 0 := spec_Most_l1_rng N x_1 x_2 hx x_1.length 0 N x_204 (by omega) hN
def spec_Most (N : Nat) (x_1 : (List Int)) (x_2 : (List Int)) : Option (Bool) :=
 joinP (fun (v_201 : Int) =>
 (spec_ConfOk N x_1).bind fun y_236 =>
 (if y_236 = true then
 some (decide ((w64 (2 * v_201)) > (x_1.length : Int)))
 else
 some false)) fun j_201 =>
 (spec_Most_l1 N x_1 x_2 N 0 0).bind (fun v_219 => j_201 v_219)
theorem sem_spec_Most (N : Nat) (x_1 : (List Int)) (x_2 : (List Int)) (r : Bool) (h : spec_Most N x_1 x_2 = some r) : Says Try.prog 154 [RO 3 (x_1.map encI),RO 3 (x_2.map encI)] 0 [] (VB r) [] := by
 unfold spec_Most at h
 refine Says.of_run s154 Try.call154 rfl fun B hB => ?_
 have hm : B.m ≤ 1000 := by omega
 refine Run.seq (Run.ops hm (Ops.p rfl (Ops.nil (Run.seq (Run.ops hm (Ops.p rfl (Ops.nil (Run.seqO h (fun v_201 => [(0,RO 3 (x_1.map encI)),(5,VI v_201)]) (fun (v_201 : Int) => []) (fun h => ?_) (fun v_201 h => ?_)))))))))
 ·refine Run.seq (Run.ops hm (Ops.p rfl (Ops.nil (Run.block ?_))))
  obtain ⟨res_219,h,hk_219⟩ := bindO h
  refine Run.loop (n := N) (fun m_219 fr σ => ∃ (x_204 : Int),∃ (x_205 : Int),spec_Most_l1 N x_1 x_2 m_219 x_204 x_205 = some res_219 ∧ fr = [(0,RO 3 (x_1.map encI)),(1,RO 3 (x_2.map encI)),(5,VI x_204),(6,VI x_205)] ∧ σ = []) (gh_pk [0,1,5,6] [] hB rfl rfl rfl rfl) ⟨_,_,h,rfl,rfl⟩ ?_
  rintro m_219 fr σ ⟨x_204,x_205,h,rfl,rfl⟩
  obtain _ | m_219 := m_219
  ·rw [spec_Most_l1] at h; cases h
  rw [spec_Most_l1] at h
  refine Run.seq (Run.seq (Run.ops hm (.p2 rfl rfl (Ops.st (s := 13320) (Ev.lnF rfl) rfl rfl (Ops.p rfl (Ops.nil (Run.condO rfl h (fun g_222 h => ?_) (fun g_222 h => ?_))))))))
  ·refine Run.skip (Run.seqO h (fun v_228 => [(0,RO 3 (x_1.map encI)),(1,RO 3 (x_2.map encI)),(5,VI v_228),(6,VI x_205)]) (fun (v_228 : Int) => []) (fun h => ?_) (fun v_228 h => ?_))
   ·refine Run.block (Run.seq (Run.ops hm (.p3 rfl rfl rfl ?_)))
    obtain ⟨x_231,hx_231,h⟩ := bindO h
    refine Ops.st (s := 21528) (Ev.iaF rfl rfl hx_231) rfl rfl (Ops.p rfl ?_)
    obtain ⟨y_232,hy_232,h⟩ := bindO h
    refine Ops.st (s := 21560) (Ev.call [] [] 0 (sem_spec_l09In _ _ _ _ hy_232) rfl rfl (.d2 .nil) rfl (.inl rfl) rfl rfl) rfl rfl (Ops.nil (Run.condO rfl h (fun g_233 h => ?_) (fun g_233 h => ?_)))
    ·exact Run.ops hm (.p3 rfl rfl rfl (Ops.nil (⟨_,_,(gh_pk [0,1,5,6] [] hB rfl rfl rfl rfl),_,h,rfl,rfl⟩)))
    ·exact Run.skip (⟨_,_,(gh_pk [0,1,5,6] [] hB rfl rfl rfl rfl),_,h,rfl,rfl⟩)
   ·exact Run.ops hm (.p3 rfl rfl rfl (Ops.nil (⟨m_219,Nat.lt_succ_self m_219,_,_,(gh_pk [0,1,5,6] [] hB rfl rfl rfl rfl),_,_,h,rfl,rfl⟩)))
  ·refine Run.exit ?_
   obtain rfl := someO h
   have h := hk_219
   exact ⟨_,_,(gh_pk [0,5] [] hB rfl rfl rfl rfl),_,h,rfl,rfl⟩
 ·refine Run.seq (Run.ops hm (Ops.p rfl ?_))
  obtain ⟨y_236,hy_236,h⟩ := bindO h
  refine Ops.st (s := 29688) (Ev.call [] [] 0 (sem_spec_ConfOk _ _ _ hy_236) rfl rfl (.d1 .nil) rfl (.inl rfl) rfl rfl) rfl rfl (Ops.p rfl (Ops.askO (x := .t 23) rfl h (fun g_237 h => ?_) (fun g_237 h => ?_)))
  ·refine Ops.gp rfl g_237 rfl (Ops.gp rfl g_237 rfl (Ops.gp rfl g_237 rfl (Ops.gs (s := 29768) rfl g_237 (Ev.lnF rfl) rfl rfl (Ops.gp rfl g_237 rfl (Ops.st (s := 29800) (.pkT rfl g_237 rfl) rfl rfl (Ops.p rfl (Ops.nil (Run.ret ?_))))))))
   obtain rfl := someO h
   exact Ends.mkG (.inl rfl) rfl (gh_pk [0] [] hB rfl rfl rfl rfl) rfl rfl
  ·refine Ops.gn rfl g_237 (Ops.gn rfl g_237 (Ops.gn rfl g_237 (Ops.gn rfl g_237 (Ops.gn rfl g_237 (Ops.st (s := 29800) (.pkF rfl g_237 rfl) rfl rfl (Ops.p rfl (Ops.nil (Run.ret ?_))))))))
   obtain rfl := someO h
   exact Ends.mkG (.inl rfl) rfl (gh_pk [0] [] hB rfl rfl rfl rfl) rfl rfl
def spec_l16Elected (N : Nat) (x_1 : Tl16Run) : Option (Bool × Tl16Run) :=
 (spec_ConfOf N x_1.n).bind fun y_106 =>
 (spec_Most N y_106 x_1.n.Votes).bind fun y_107 =>
 some (y_107,(Tl16Run.mk x_1.n ([])))
theorem sem_spec_l16Elected (N : Nat) (x_1 : Tl16Run) (r : Bool × Tl16Run) (h : spec_l16Elected N x_1 = some r) : Says Try.prog 114 [.ptr 0 0] 5 [(0,.box [VI x_1.n.Id,VI x_1.n.Term,VI x_1.n.Vote,VI x_1.n.Role,VI x_1.n.Lead,.sl 1 3 0 x_1.n.Conf.length,VI x_1.n.Log.Start,VI x_1.n.Log.StartTerm,.sl 2 51 0 x_1.n.Log.Entries.length,VI x_1.n.Commit,VI x_1.n.Clock,VI x_1.n.Limit,.sl 3 3 0 x_1.n.Votes.length,.sl 4 135 0 x_1.n.Peers.length,NI 58]),(1,.vec 3 (x_1.n.Conf.map encI)),(2,.vec 51 (x_1.n.Log.Entries.map encEntry)),(3,.vec 3 (x_1.n.Votes.map encI)),(4,.vec 135 (x_1.n.Peers.map encPeer))] (VB r.1) [(0,.box [VI r.2.n.Id,VI r.2.n.Term,VI r.2.n.Vote,VI r.2.n.Role,VI r.2.n.Lead,.sl 1 3 0 x_1.n.Conf.length,VI r.2.n.Log.Start,VI r.2.n.Log.StartTerm,.sl 2 51 0 x_1.n.Log.Entries.length,VI r.2.n.Commit,VI r.2.n.Clock,VI r.2.n.Limit,.sl 3 3 0 x_1.n.Votes.length,.sl 4 135 0 x_1.n.Peers.length,.sl 5 58 0 r.2.told.length]),(1,.vec 3 (x_1.n.Conf.map encI)),(2,.vec 51 (x_1.n.Log.Entries.map encEntry)),(3,.vec 3 (x_1.n.Votes.map encI)),(4,.vec 135 (x_1.n.Peers.map encPeer)),(5,.vec 58 (r.2.told.map (encMessage false)))] := by
 unfold spec_l16Elected at h
 refine Says.of_run s114 Try.call114 rfl fun B hB => ?_
 have hm : B.m ≤ 1000 := by omega
 refine Run.seq (Run.ops hm (Ops.p rfl (Ops.nil (Run.seq (Run.draw hm hmix (OpsD.p rfl (OpsD.p rfl (OpsD.p rfl (OpsD.p rfl ?_)))))))))
 obtain ⟨y_106,hy_106,h⟩ := bindO h
 refine OpsD.st (s := 5160) (Ev.call [] [1,2,3,4] 1 (sem_spec_ConfOf _ _ _ hy_106) rfl rfl (.cons (.agg (.d4 (.d1 (.cons (.borrow rfl (by decide) (lendW (fun _ => rfl) _ rfl)) (.d2 (.cons (.borrow rfl (by decide) (lendW (fun _ => rfl) _ rfl)) (.d2 (.d1 (.cons (.borrow rfl (by decide) (lendW (fun _ => rfl) _ rfl)) (.cons (.borrow rfl (by decide) (lendW (fun _ => rfl) _ rfl)) .nil)))))))))) .nil) rfl (.inr ⟨rfl,ownL_root ⟨own_rows (fun _ => rfl) _,trivial⟩⟩) rfl rfl) rfl rfl ?_
 refine OpsD.p rfl (OpsD.p rfl (OpsD.p rfl (OpsD.p rfl (OpsD.p rfl ?_))))
 obtain ⟨y_107,hy_107,h⟩ := bindO h
 refine OpsD.st (s := 5256) (Ev.call [] [5160,3] 0 (sem_spec_Most _ _ _ _ hy_107) rfl rfl (.cons (.borrow rfl (by decide) (lendW (fun _ => rfl) _ rfl)) (.cons (.borrow rfl (by decide) (lendW (fun _ => rfl) _ rfl)) .nil)) rfl (.inr ⟨rfl,ownL_root trivial⟩) rfl rfl) rfl rfl ?_
 refine OpsD.p rfl (OpsD.nil ⟨by kernel_rfl,?_⟩)
 refine Run.ret ?_
 obtain rfl := someO h
 exact Ends.mkG (.inl rfl) rfl (Gh.trans (Gh.trans (gh_prn [0] [0,1,2,3,4] hB rfl) (gh_nil [] [0] hB rfl rfl rfl)) (gh_pk [0] [0,1,2,3,4,20000000] hB rfl rfl rfl rfl)) rfl rfl
def spec_l16Room (N : Nat) (x_1 : Node) : Option (Bool) :=
 (if (decide ((x_1.Log.Entries.length : Int) < 120)) = true then
 (spec_l12Last N x_1.Log).bind fun y_107 =>
 some (decide (y_107 < 100000))
 else
 some false)
theorem sem_spec_l16Room (N : Nat) (x_1 : Node) (r : Bool) (h : spec_l16Room N x_1 = some r) : Says Try.prog 79 [.agg [VI x_1.Id,VI x_1.Term,VI x_1.Vote,VI x_1.Role,VI x_1.Lead,RO 3 (x_1.Conf.map encI),VI x_1.Log.Start,VI x_1.Log.StartTerm,RO 51 (x_1.Log.Entries.map encEntry),VI x_1.Commit,VI x_1.Clock,VI x_1.Limit,RO 3 (x_1.Votes.map encI),RO 135 (x_1.Peers.map encPeer)]] 0 [] (VB r) [] := by
 unfold spec_l16Room at h
 refine Says.of_run s79 Try.call79 rfl fun B hB => ?_
 have hm : B.m ≤ 1000 := by omega
 refine Run.seq (Run.ops hm (Ops.st (s := 1000) (.bx rfl rfl) rfl rfl (Ops.p rfl (Ops.nil (Run.seq (Run.ops hm (.p3 rfl rfl rfl (Ops.st (s := 5144) (Ev.lnF rfl) rfl rfl (.p2 rfl rfl (Ops.askO (x := .t 8) rfl h (fun g_106 h => ?_) (fun g_106 h => ?_)))))))))))
 ·refine Ops.gp rfl g_106 rfl (Ops.gp rfl g_106 rfl ?_)
  obtain ⟨y_107,hy_107,h⟩ := bindO h
  refine Ops.gs (s := 5224) rfl g_106 (Ev.call [] [] 0 (sem_spec_l12Last _ _ _ hy_107) rfl rfl (.cons (.agg (.d2 (.d1 .nil))) .nil) rfl (.inl rfl) rfl rfl) rfl rfl (Ops.gp rfl g_106 rfl (Ops.st (s := 5256) (.pkT rfl g_106 rfl) rfl rfl (Ops.p rfl (Ops.nil (Run.ret ?_)))))
  obtain rfl := someO h
  exact Ends.mkG (.inl rfl) rfl (gh_pk [0] [] hB rfl rfl rfl rfl) rfl rfl
 ·refine Ops.gn rfl g_106 (Ops.gn rfl g_106 (Ops.gn rfl g_106 (Ops.gn rfl g_106 (Ops.st (s := 5256) (.pkF rfl g_106 rfl) rfl rfl (Ops.p rfl (Ops.nil (Run.ret ?_)))))))
  obtain rfl := someO h
  exact Ends.mkG (.inl rfl) rfl (gh_pk [0] [] hB rfl rfl rfl rfl) rfl rfl
def spec_l16ConfIndex_l1 (N : Nat) (x_1 : Node) : Nat → Int → Int → Option (Int)
 | 0,_,_ => none
 | m + 1,x_210,x_211 =>
 (if (decide (x_211 < (x_1.Log.Entries.length : Int))) = true then
 joinP (fun (v_242 : Int) =>
 spec_l16ConfIndex_l1 N x_1 m v_242 (w64 (x_211 + 1))) fun j_242 =>
 (at? x_1.Log.Entries x_211).bind fun x_244 =>
 (if (x_244.Kind == 2) = true then
 j_242 (w64 ((w64 (x_1.Log.Start + 1)) + x_211))
 else
 j_242 x_210)
 else
 some x_210)
def spec_l16ConfIndex_l1_r (N : Nat) (x_1 : Node) : (List Entry) → Int → Int → Option (Int)
 | [],x_210,x_211 =>
 some x_210
 | hd :: tl,x_210,x_211 =>
 joinP (fun (v_242 : Int) =>
 spec_l16ConfIndex_l1_r N x_1 tl v_242 (w64 (x_211 + 1))) fun j_242 =>
 (some hd).bind fun x_244 =>
 (if (x_244.Kind == 2) = true then
 j_242 (w64 ((w64 (x_1.Log.Start + 1)) + x_211))
 else
 j_242 x_210)
theorem spec_l16ConfIndex_l1_rng (N : Nat) (x_1 : Node) (hx : x_1.Log.Entries.length ≤ 1099511627776) : ∀ (d k m : Nat) (x_210 : Int),x_1.Log.Entries.length = k + d → d < m → spec_l16ConfIndex_l1 N x_1 m x_210 (k : Int) = spec_l16ConfIndex_l1_r N x_1 (x_1.Log.Entries.drop k) x_210 (k : Int) := by
 intro d
 induction d with
 | zero =>
  intro k m x_210 hd hm
  obtain ⟨m,rfl⟩ : ∃ q,m = q + 1 := ⟨m - 1,by omega⟩
  rw [spec_l16ConfIndex_l1,if_neg (by simp; omega),List.drop_eq_nil_of_le (by omega),spec_l16ConfIndex_l1_r]
 | succ d ih =>
  intro k m x_210 hd hm
  obtain ⟨m,rfl⟩ : ∃ q,m = q + 1 := ⟨m - 1,by omega⟩
  have hk : k < x_1.Log.Entries.length := by omega
  rw [spec_l16ConfIndex_l1,if_pos (by simp; omega),List.drop_eq_getElem_cons hk,spec_l16ConfIndex_l1_r]
  have h1 := at_lt hk
  have h2 := w64_succ (k := k) (by omega)
  have h3 := ih (k + 1) m
  simp only [h1,h2,h3 _ (by omega) (by omega)]
theorem spec_l16ConfIndex_l1_eq {N : Nat} (x_1 : Node) (hx : x_1.Log.Entries.length ≤ 1099511627776) (hN : x_1.Log.Entries.length < N) (x_210 : Int) : spec_l16ConfIndex_l1 N x_1 N x_210 0 = spec_l16ConfIndex_l1_r N x_1 x_1.Log.Entries x_210 0 := spec_l16ConfIndex_l1_rng N x_1 hx x_1.Log.Entries.length 0 N x_210 (by omega) hN
def spec_l16ConfIndex (N : Nat) (x_1 : Node) : Option (Int) :=
 joinP (fun (v_209 : Int) =>
 some v_209) fun j_209 =>
 (spec_l16ConfIndex_l1 N x_1 N x_1.Log.Start 0).bind (fun v_235 => j_209 v_235)
theorem sem_spec_l16ConfIndex (N : Nat) (x_1 : Node) (r : Int) (h : spec_l16ConfIndex N x_1 = some r) : Says Try.prog 82 [.agg [VI x_1.Id,VI x_1.Term,VI x_1.Vote,VI x_1.Role,VI x_1.Lead,RO 3 (x_1.Conf.map encI),VI x_1.Log.Start,VI x_1.Log.StartTerm,RO 51 (x_1.Log.Entries.map encEntry),VI x_1.Commit,VI x_1.Clock,VI x_1.Limit,RO 3 (x_1.Votes.map encI),RO 135 (x_1.Peers.map encPeer)]] 0 [] (VI r) [] := by
 unfold spec_l16ConfIndex at h
 refine Says.of_run s82 Try.call82 rfl fun B hB => ?_
 have hm : B.m ≤ 1000 := by omega
 refine Run.seq (Run.ops hm (Ops.st (s := 1000) (.bx rfl rfl) rfl rfl (Ops.p rfl (Ops.nil (Run.seq (Run.ops hm (.p3 rfl rfl rfl (Ops.p rfl (Ops.nil (Run.seqO h (fun v_209 => [(3,VI v_209)]) (fun (v_209 : Int) => []) (fun h => ?_) (fun v_209 h => ?_)))))))))))
 ·refine Run.seq (Run.ops hm (Ops.p rfl (Ops.nil (Run.block ?_))))
  obtain ⟨res_235,h,hk_235⟩ := bindO h
  refine Run.loop (n := N) (fun m_235 fr σ => ∃ (x_210 : Int),∃ (x_211 : Int),spec_l16ConfIndex_l1 N x_1 m_235 x_210 x_211 = some res_235 ∧ fr = [(1,.ptr 0 0),(3,VI x_210),(4,VI x_211)] ∧ σ = [(0,.box [VI x_1.Id,VI x_1.Term,VI x_1.Vote,VI x_1.Role,VI x_1.Lead,RO 3 (x_1.Conf.map encI),VI x_1.Log.Start,VI x_1.Log.StartTerm,RO 51 (x_1.Log.Entries.map encEntry),VI x_1.Commit,VI x_1.Clock,VI x_1.Limit,RO 3 (x_1.Votes.map encI),RO 135 (x_1.Peers.map encPeer)])]) (gh_pk [1,3,4] [1000] hB rfl rfl rfl rfl) ⟨_,_,h,rfl,rfl⟩ ?_
  rintro m_235 fr σ ⟨x_210,x_211,h,rfl,rfl⟩
  obtain _ | m_235 := m_235
  ·rw [spec_l16ConfIndex_l1] at h; cases h
  rw [spec_l16ConfIndex_l1] at h
  refine Run.seq (Run.seq (Run.ops hm (.p3 rfl rfl rfl (Ops.p rfl (Ops.st (s := 13352) (Ev.lnF rfl) rfl rfl (Ops.p rfl (Ops.nil (Run.condO rfl h (fun g_238 h => ?_) (fun g_238 h => ?_)))))))))
  ·refine Run.skip (Run.seqO h (fun v_242 => [(1,.ptr 0 0),(3,VI v_242),(4,VI x_211)]) (fun (v_242 : Int) => [(0,.box [VI x_1.Id,VI x_1.Term,VI x_1.Vote,VI x_1.Role,VI x_1.Lead,RO 3 (x_1.Conf.map encI),VI x_1.Log.Start,VI x_1.Log.StartTerm,RO 51 (x_1.Log.Entries.map encEntry),VI x_1.Commit,VI x_1.Clock,VI x_1.Limit,RO 3 (x_1.Votes.map encI),RO 135 (x_1.Peers.map encPeer)])]) (fun h => ?_) (fun v_242 h => ?_))
   ·refine Run.block (Run.seq (Run.ops hm (.p3 rfl rfl rfl (Ops.p rfl ?_))))
    obtain ⟨x_244,hx_244,h⟩ := bindO h
    refine Ops.st (s := 21544) (Ev.iaF rfl rfl hx_244) rfl rfl (.p3 rfl rfl rfl (Ops.nil (Run.condO rfl h (fun g_245 h => ?_) (fun g_245 h => ?_))))
    ·exact Run.ops hm (.p3 rfl rfl rfl (.p3 rfl rfl rfl (Ops.p rfl (Ops.nil (⟨_,_,(gh_pk [1,3,4] [0] hB rfl rfl rfl rfl),_,h,rfl,rfl⟩)))))
    ·exact Run.skip (⟨_,_,(gh_pk [1,3,4] [0] hB rfl rfl rfl rfl),_,h,rfl,rfl⟩)
   ·exact Run.ops hm (.p3 rfl rfl rfl (Ops.nil (⟨m_235,Nat.lt_succ_self m_235,_,_,(gh_pk [1,3,4] [0] hB rfl rfl rfl rfl),_,_,h,rfl,rfl⟩)))
  ·refine Run.exit ?_
   obtain rfl := someO h
   have h := hk_235
   exact ⟨_,_,(gh_pk [3] [] hB rfl rfl rfl rfl),_,h,rfl,rfl⟩
 ·refine Run.seq (Run.ops hm (.p2 rfl rfl (Ops.nil (Run.ret ?_))))
  obtain rfl := someO h
  exact Ends.mkG (.inl rfl) rfl (gh_pk [0] [] hB rfl rfl rfl rfl) rfl rfl
def spec_l16Follow (N : Nat) (x_1 : Tl16Run) (x_2 : Int) : Option (Tl16Run) :=
 some (Tl16Run.mk (Node.mk x_1.n.Id x_1.n.Term x_1.n.Vote 0 x_2 x_1.n.Conf x_1.n.Log x_1.n.Commit x_1.n.Clock x_1.n.Limit ([] : List Int) ([] : List Peer)) x_1.told)
theorem sem_spec_l16Follow (N : Nat) (x_1 : Tl16Run) (x_2 : Int) (r : Tl16Run) (h : spec_l16Follow N x_1 x_2 = some r) : Says Try.prog 155 [.ptr 0 0,VI x_2] 6 [(0,.box [VI x_1.n.Id,VI x_1.n.Term,VI x_1.n.Vote,VI x_1.n.Role,VI x_1.n.Lead,.sl 1 3 0 x_1.n.Conf.length,VI x_1.n.Log.Start,VI x_1.n.Log.StartTerm,.sl 2 51 0 x_1.n.Log.Entries.length,VI x_1.n.Commit,VI x_1.n.Clock,VI x_1.n.Limit,.sl 3 3 0 x_1.n.Votes.length,.sl 4 135 0 x_1.n.Peers.length,.sl 5 58 0 x_1.told.length]),(1,.vec 3 (x_1.n.Conf.map encI)),(2,.vec 51 (x_1.n.Log.Entries.map encEntry)),(3,.vec 3 (x_1.n.Votes.map encI)),(4,.vec 135 (x_1.n.Peers.map encPeer)),(5,.vec 58 (x_1.told.map (encMessage false)))] (.tup []) [(0,.box [VI r.n.Id,VI r.n.Term,VI r.n.Vote,VI r.n.Role,VI r.n.Lead,.sl 1 3 0 x_1.n.Conf.length,VI r.n.Log.Start,VI r.n.Log.StartTerm,.sl 2 51 0 x_1.n.Log.Entries.length,VI r.n.Commit,VI r.n.Clock,VI r.n.Limit,.sl 6 3 0 r.n.Votes.length,.sl 7 135 0 r.n.Peers.length,.sl 5 58 0 x_1.told.length]),(1,.vec 3 (x_1.n.Conf.map encI)),(2,.vec 51 (x_1.n.Log.Entries.map encEntry)),(3,.gone),(4,.gone),(5,.vec 58 (x_1.told.map (encMessage false))),(6,.vec 3 (r.n.Votes.map encI)),(7,.vec 135 (r.n.Peers.map encPeer))] := by
 unfold spec_l16Follow at h
 refine Says.of_run s155 Try.call155 rfl fun B hB => ?_
 have hm : B.m ≤ 1000 := by omega
 refine Run.seq (Run.ops hm (.p3 rfl rfl rfl (Ops.p rfl (Ops.s0 (s := 1064) (.sto rfl rfl rfl rfl rfl rfl) rfl rfl (Ops.nil (Run.seq (Run.ops hm (.p3 rfl rfl rfl (.p2 rfl rfl (Ops.s0 (s := 5176) (.sto rfl rfl rfl rfl rfl rfl) rfl rfl (Ops.nil (Run.seq (Run.ops hm (Ops.p rfl (Ops.st (s := 9208) (Ev.bsW (ys := ([] : List Int)) (f := encI) rfl .nil rfl rfl rfl rfl rfl) rfl rfl (.p3 rfl rfl rfl (Ops.s0 (s := 9272) (.sto rfl rfl rfl rfl rfl rfl) rfl rfl (Ops.nil (Run.ops hm (Ops.p rfl (Ops.st (s := 13304) (Ev.bsW (ys := ([] : List Peer)) (f := encPeer) rfl .nil rfl rfl rfl rfl rfl) rfl rfl (.p3 rfl rfl rfl (Ops.s0 (s := 13368) (.sto rfl rfl rfl rfl rfl rfl) rfl rfl (Ops.nil ?_))))))))))))))))))))))))
 obtain rfl := someO h
 exact Ends.mkG (.inr rfl) rfl (Gh.trans (Gh.trans (gh_prn [] [0,1,2,3,4,5,9208,13304] hB rfl) (gh_mvE [] [3,4] hB rfl rfl)) (gh_pk [] [0,1,2,3,4,5,9208,13304] hB rfl rfl rfl rfl)) rfl rfl
def spec_l16Commit_l2 (N : Nat) (x_1 : Tl16Run) (x_1620 : Int) : Nat → Int → (List Int) → Option ((List Int))
 | 0,_,_ => none
 | m + 1,x_2056,x_2073 =>
 (if (decide (x_2056 < ((x_1.n.Peers.length : Nat) : Int))) = true then
 joinP (fun (v_2102 : (List Int)) =>
 spec_l16Commit_l2 N x_1 x_1620 m (w64 (x_2056 + 1)) v_2102) fun j_2102 =>
 (at? x_1.n.Peers x_2056).bind fun x_2104 =>
 (if (decide (x_2104.Match ≥ x_1620)) = true then
 (at? x_1.n.Peers x_2056).bind fun x_2108 =>
 (cat? x_2073 ([x_2108.Id] : List Int)).bind fun x_2109 =>
 j_2102 x_2109
 else
 j_2102 x_2073)
 else
 some x_2073)
def spec_l16Commit_l1 (N : Nat) (x_1 : Tl16Run) (y_1117 : (List Int)) : Nat → Int → Int → Option (Int)
 | 0,_,_ => none
 | m + 1,x_1620,x_1628 =>
 (if (decide (x_1620 > x_1628)) = true then
 joinP (fun (v_1998 : Int) =>
 spec_l16Commit_l1 N x_1 y_1117 m (w64 (x_1620 - 1)) v_1998) fun j_1998 =>
 joinP (fun (v_2054 : (List Int)) =>
 (spec_LogTerm N x_1.n.Log x_1620).bind fun y_2113 =>
 (if (y_2113 == x_1.n.Term) = true then
 (spec_Most N y_1117 v_2054).bind fun y_2115 =>
 (if y_2115 = true then
 j_1998 x_1620
 else
 j_1998 x_1628)
 else
 j_1998 x_1628)) fun j_2054 =>
 (spec_l16Commit_l2 N x_1 x_1620 N 0 ([x_1.n.Id] : List Int)).bind (fun v_2091 => j_2054 v_2091)
 else
 some x_1628)
def spec_l16Commit (N : Nat) (x_1 : Tl16Run) : Option (Tl16Run) :=
 (spec_ConfOf N x_1.n).bind fun y_1117 =>
 (spec_l12Last N x_1.n.Log).bind fun y_1121 =>
 joinP (fun (v_1619 : Int) =>
 (if (x_1.n.Role == 2) = true then
 (spec_l09In N y_1117 x_1.n.Id).bind fun y_2122 =>
 (if (!y_2122) = true then
 (spec_l16ConfIndex N (Node.mk x_1.n.Id x_1.n.Term x_1.n.Vote x_1.n.Role x_1.n.Lead x_1.n.Conf x_1.n.Log v_1619 x_1.n.Clock x_1.n.Limit x_1.n.Votes x_1.n.Peers)).bind fun y_2124 =>
 (if (decide (y_2124 ≤ v_1619)) = true then
 (spec_l16Follow N (Tl16Run.mk (Node.mk x_1.n.Id x_1.n.Term x_1.n.Vote x_1.n.Role x_1.n.Lead x_1.n.Conf x_1.n.Log v_1619 x_1.n.Clock x_1.n.Limit x_1.n.Votes x_1.n.Peers) x_1.told) 0).bind fun y_2127 =>
 some (Tl16Run.mk (Node.mk y_2127.n.Id y_2127.n.Term y_2127.n.Vote y_2127.n.Role y_2127.n.Lead x_1.n.Conf (Log.mk y_2127.n.Log.Start y_2127.n.Log.StartTerm x_1.n.Log.Entries) y_2127.n.Commit y_2127.n.Clock y_2127.n.Limit y_2127.n.Votes y_2127.n.Peers) x_1.told)
 else
 some (Tl16Run.mk (Node.mk x_1.n.Id x_1.n.Term x_1.n.Vote x_1.n.Role x_1.n.Lead x_1.n.Conf x_1.n.Log v_1619 x_1.n.Clock x_1.n.Limit x_1.n.Votes x_1.n.Peers) x_1.told))
 else
 some (Tl16Run.mk (Node.mk x_1.n.Id x_1.n.Term x_1.n.Vote x_1.n.Role x_1.n.Lead x_1.n.Conf x_1.n.Log v_1619 x_1.n.Clock x_1.n.Limit x_1.n.Votes x_1.n.Peers) x_1.told))
 else
 some (Tl16Run.mk (Node.mk x_1.n.Id x_1.n.Term x_1.n.Vote x_1.n.Role x_1.n.Lead x_1.n.Conf x_1.n.Log v_1619 x_1.n.Clock x_1.n.Limit x_1.n.Votes x_1.n.Peers) x_1.told))) fun j_1619 =>
 (spec_l16Commit_l1 N x_1 y_1117 N y_1121 x_1.n.Commit).bind (fun v_1876 => j_1619 v_1876)
theorem sem_spec_l16Commit (N : Nat) (x_1 : Tl16Run) (r : Tl16Run) (h : spec_l16Commit N x_1 = some r) : Says Try.prog 87 [.ptr 0 0] 6 [(0,.box [VI x_1.n.Id,VI x_1.n.Term,VI x_1.n.Vote,VI x_1.n.Role,VI x_1.n.Lead,.sl 1 3 0 x_1.n.Conf.length,VI x_1.n.Log.Start,VI x_1.n.Log.StartTerm,.sl 2 51 0 x_1.n.Log.Entries.length,VI x_1.n.Commit,VI x_1.n.Clock,VI x_1.n.Limit,.sl 3 3 0 x_1.n.Votes.length,.sl 4 135 0 x_1.n.Peers.length,.sl 5 58 0 x_1.told.length]),(1,.vec 3 (x_1.n.Conf.map encI)),(2,.vec 51 (x_1.n.Log.Entries.map encEntry)),(3,.vec 3 (x_1.n.Votes.map encI)),(4,.vec 135 (x_1.n.Peers.map encPeer)),(5,.vec 58 (x_1.told.map (encMessage false)))] (.tup []) [(0,.box [VI r.n.Id,VI r.n.Term,VI r.n.Vote,VI r.n.Role,VI r.n.Lead,.sl 6 3 0 r.n.Conf.length,VI r.n.Log.Start,VI r.n.Log.StartTerm,.sl 7 51 0 r.n.Log.Entries.length,VI r.n.Commit,VI r.n.Clock,VI r.n.Limit,.sl 8 3 0 r.n.Votes.length,.sl 9 135 0 r.n.Peers.length,.sl 10 58 0 r.told.length]),(1,.gone),(2,.gone),(3,.gone),(4,.gone),(5,.gone),(6,.vec 3 (r.n.Conf.map encI)),(7,.vec 51 (r.n.Log.Entries.map encEntry)),(8,.vec 3 (r.n.Votes.map encI)),(9,.vec 135 (r.n.Peers.map encPeer)),(10,.vec 58 (r.told.map (encMessage false)))] := by
 unfold spec_l16Commit at h
 refine Says.of_run s87 Try.call87 rfl fun B hB => ?_
 have hm : B.m ≤ 1000 := by omega
 refine Run.seq (Run.ops hm (.p3 rfl rfl rfl (Ops.p rfl ?_)))
 obtain ⟨y_1117,hy_1117,h⟩ := bindO h
 refine Ops.st (s := 1064) (Ev.call [] [1,2,3,4] 1 (sem_spec_ConfOf _ _ _ hy_1117) rfl rfl (.cons (.agg (.d4 (.d1 (.cons (.borrow rfl (by decide) (lendW (fun _ => rfl) _ rfl)) (.d2 (.cons (.borrow rfl (by decide) (lendW (fun _ => rfl) _ rfl)) (.d2 (.d1 (.cons (.borrow rfl (by decide) (lendW (fun _ => rfl) _ rfl)) (.cons (.borrow rfl (by decide) (lendW (fun _ => rfl) _ rfl)) .nil)))))))))) .nil) rfl (.inr ⟨rfl,ownL_root ⟨own_rows (fun _ => rfl) _,trivial⟩⟩) rfl rfl) rfl rfl ?_
 refine Ops.p rfl (Ops.nil (Run.seq (Run.ops hm (.p3 rfl rfl rfl (.p2 rfl rfl ?_)))))
 obtain ⟨y_1121,hy_1121,h⟩ := bindO h
 refine Ops.st (s := 5176) (Ev.call [] [2] 0 (sem_spec_l12Last _ _ _ hy_1121) rfl rfl (.cons (.agg (.d2 (.cons (.borrow rfl (by decide) (lendW (fun _ => rfl) _ rfl)) .nil))) .nil) rfl (.inr ⟨rfl,ownL_root trivial⟩) rfl rfl) rfl rfl ?_
 refine Ops.p rfl (Ops.nil (Run.seqO h (fun v_1619 => [(0,.ptr 0 0),(2,.sl 6 3 0 y_1117.length)]) (fun (v_1619 : Int) => [(0,.box [VI x_1.n.Id,VI x_1.n.Term,VI x_1.n.Vote,VI x_1.n.Role,VI x_1.n.Lead,.sl 1 3 0 x_1.n.Conf.length,VI x_1.n.Log.Start,VI x_1.n.Log.StartTerm,.sl 2 51 0 x_1.n.Log.Entries.length,VI v_1619,VI x_1.n.Clock,VI x_1.n.Limit,.sl 3 3 0 x_1.n.Votes.length,.sl 4 135 0 x_1.n.Peers.length,.sl 5 58 0 x_1.told.length]),(1,.vec 3 (x_1.n.Conf.map encI)),(2,.vec 51 (x_1.n.Log.Entries.map encEntry)),(3,.vec 3 (x_1.n.Votes.map encI)),(4,.vec 135 (x_1.n.Peers.map encPeer)),(5,.vec 58 (x_1.told.map (encMessage false))),(6,.vec 3 (y_1117.map encI))]) (fun h => ?_) (fun v_1619 h => ?_)))
 ·refine Run.seq (Run.ops hm (.p2 rfl rfl (Ops.nil (Run.block ?_))))
  obtain ⟨res_1876,h,hk_1876⟩ := bindO h
  refine Run.loop (n := N) (fun m_1876 fr σ => ∃ (x_1620 : Int),∃ (x_1628 : Int),spec_l16Commit_l1 N x_1 y_1117 m_1876 x_1620 x_1628 = some res_1876 ∧ fr = [(0,.ptr 0 0),(2,.sl 6 3 0 y_1117.length),(4,VI x_1620)] ∧ σ = [(0,.box [VI x_1.n.Id,VI x_1.n.Term,VI x_1.n.Vote,VI x_1.n.Role,VI x_1.n.Lead,.sl 1 3 0 x_1.n.Conf.length,VI x_1.n.Log.Start,VI x_1.n.Log.StartTerm,.sl 2 51 0 x_1.n.Log.Entries.length,VI x_1628,VI x_1.n.Clock,VI x_1.n.Limit,.sl 3 3 0 x_1.n.Votes.length,.sl 4 135 0 x_1.n.Peers.length,.sl 5 58 0 x_1.told.length]),(1,.vec 3 (x_1.n.Conf.map encI)),(2,.vec 51 (x_1.n.Log.Entries.map encEntry)),(3,.vec 3 (x_1.n.Votes.map encI)),(4,.vec 135 (x_1.n.Peers.map encPeer)),(5,.vec 58 (x_1.told.map (encMessage false))),(6,.vec 3 (y_1117.map encI))]) (gh_pk [0,2,4] [0,1,2,3,4,5,1064] hB rfl rfl rfl rfl) ⟨_,_,h,rfl,rfl⟩ ?_
  rintro m_1876 fr σ ⟨x_1620,x_1628,h,rfl,rfl⟩
  obtain _ | m_1876 := m_1876
  ·rw [spec_l16Commit_l1] at h; cases h
  rw [spec_l16Commit_l1] at h
  refine Run.seq (Run.seq (Run.ops hm (.p3 rfl rfl rfl (.p3 rfl rfl rfl (Ops.p rfl (Ops.nil (Run.condO rfl h (fun g_1879 h => ?_) (fun g_1879 h => ?_))))))))
  ·refine Run.skip (Run.seqO h (fun v_1998 => [(0,.ptr 0 0),(2,.sl 6 3 0 y_1117.length),(4,VI x_1620)]) (fun (v_1998 : Int) => [(0,.box [VI x_1.n.Id,VI x_1.n.Term,VI x_1.n.Vote,VI x_1.n.Role,VI x_1.n.Lead,.sl 1 3 0 x_1.n.Conf.length,VI x_1.n.Log.Start,VI x_1.n.Log.StartTerm,.sl 2 51 0 x_1.n.Log.Entries.length,VI v_1998,VI x_1.n.Clock,VI x_1.n.Limit,.sl 3 3 0 x_1.n.Votes.length,.sl 4 135 0 x_1.n.Peers.length,.sl 5 58 0 x_1.told.length]),(1,.vec 3 (x_1.n.Conf.map encI)),(2,.vec 51 (x_1.n.Log.Entries.map encEntry)),(3,.vec 3 (x_1.n.Votes.map encI)),(4,.vec 135 (x_1.n.Peers.map encPeer)),(5,.vec 58 (x_1.told.map (encMessage false))),(6,.vec 3 (y_1117.map encI))]) (fun h => ?_) (fun v_1998 h => ?_))
   ·refine Run.block (Run.seq (Run.ops hm (.p3 rfl rfl rfl (.p2 rfl rfl (Ops.st (s := 21560) (Ev.bsW (ys := ([x_1.n.Id] : List Int)) (f := encI) rfl (.d1 .nil) rfl rfl rfl rfl rfl) rfl rfl (Ops.p rfl (Ops.nil (Run.seqO h (fun v_2054 => [(0,.ptr 0 0),(2,.sl 6 3 0 y_1117.length),(4,VI x_1620),(5,.sl 7 3 0 v_2054.length)]) (fun (v_2054 : (List Int)) => [(0,.box [VI x_1.n.Id,VI x_1.n.Term,VI x_1.n.Vote,VI x_1.n.Role,VI x_1.n.Lead,.sl 1 3 0 x_1.n.Conf.length,VI x_1.n.Log.Start,VI x_1.n.Log.StartTerm,.sl 2 51 0 x_1.n.Log.Entries.length,VI x_1628,VI x_1.n.Clock,VI x_1.n.Limit,.sl 3 3 0 x_1.n.Votes.length,.sl 4 135 0 x_1.n.Peers.length,.sl 5 58 0 x_1.told.length]),(1,.vec 3 (x_1.n.Conf.map encI)),(2,.vec 51 (x_1.n.Log.Entries.map encEntry)),(3,.vec 3 (x_1.n.Votes.map encI)),(4,.vec 135 (x_1.n.Peers.map encPeer)),(5,.vec 58 (x_1.told.map (encMessage false))),(6,.vec 3 (y_1117.map encI)),(7,.vec 3 (v_2054.map encI))]) (fun h => ?_) (fun v_2054 h => ?_)))))))))
    ·refine Run.seq (Run.ops hm (Ops.p rfl (Ops.nil (Run.block ?_))))
     obtain ⟨res_2091,h,hk_2091⟩ := bindO h
     refine Run.loop (n := N) (fun m_2091 fr σ => ∃ (x_2056 : Int),∃ (x_2073 : (List Int)),spec_l16Commit_l2 N x_1 x_1620 m_2091 x_2056 x_2073 = some res_2091 ∧ fr = [(0,.ptr 0 0),(2,.sl 6 3 0 y_1117.length),(4,VI x_1620),(5,.sl 7 3 0 x_2073.length),(6,VI x_2056)] ∧ σ = [(0,.box [VI x_1.n.Id,VI x_1.n.Term,VI x_1.n.Vote,VI x_1.n.Role,VI x_1.n.Lead,.sl 1 3 0 x_1.n.Conf.length,VI x_1.n.Log.Start,VI x_1.n.Log.StartTerm,.sl 2 51 0 x_1.n.Log.Entries.length,VI x_1628,VI x_1.n.Clock,VI x_1.n.Limit,.sl 3 3 0 x_1.n.Votes.length,.sl 4 135 0 x_1.n.Peers.length,.sl 5 58 0 x_1.told.length]),(1,.vec 3 (x_1.n.Conf.map encI)),(2,.vec 51 (x_1.n.Log.Entries.map encEntry)),(3,.vec 3 (x_1.n.Votes.map encI)),(4,.vec 135 (x_1.n.Peers.map encPeer)),(5,.vec 58 (x_1.told.map (encMessage false))),(6,.vec 3 (y_1117.map encI)),(7,.vec 3 (x_2073.map encI))]) (gh_pk [0,2,4,5,6] [0,1,2,3,4,5,6,21560] hB rfl rfl rfl rfl) ⟨_,_,h,rfl,rfl⟩ ?_
     rintro m_2091 fr σ ⟨x_2056,x_2073,h,rfl,rfl⟩
     obtain _ | m_2091 := m_2091
     ·rw [spec_l16Commit_l2] at h; cases h
     rw [spec_l16Commit_l2] at h
     refine Run.seq (Run.seq (Run.ops hm (.p3 rfl rfl rfl (.p3 rfl rfl rfl (.p2 rfl rfl (Ops.nil (Run.condO rfl h (fun g_2094 h => ?_) (fun g_2094 h => ?_))))))))
     ·refine Run.skip (Run.seqO h (fun v_2102 => [(0,.ptr 0 0),(2,.sl 6 3 0 y_1117.length),(4,VI x_1620),(5,.sl 7 3 0 v_2102.length),(6,VI x_2056)]) (fun (v_2102 : (List Int)) => [(0,.box [VI x_1.n.Id,VI x_1.n.Term,VI x_1.n.Vote,VI x_1.n.Role,VI x_1.n.Lead,.sl 1 3 0 x_1.n.Conf.length,VI x_1.n.Log.Start,VI x_1.n.Log.StartTerm,.sl 2 51 0 x_1.n.Log.Entries.length,VI x_1628,VI x_1.n.Clock,VI x_1.n.Limit,.sl 3 3 0 x_1.n.Votes.length,.sl 4 135 0 x_1.n.Peers.length,.sl 5 58 0 x_1.told.length]),(1,.vec 3 (x_1.n.Conf.map encI)),(2,.vec 51 (x_1.n.Log.Entries.map encEntry)),(3,.vec 3 (x_1.n.Votes.map encI)),(4,.vec 135 (x_1.n.Peers.map encPeer)),(5,.vec 58 (x_1.told.map (encMessage false))),(6,.vec 3 (y_1117.map encI)),(7,.vec 3 (v_2102.map encI))]) (fun h => ?_) (fun v_2102 h => ?_))
      ·refine Run.block (Run.seq (Run.ops hm (.p3 rfl rfl rfl (.p3 rfl rfl rfl ?_))))
       obtain ⟨x_2104,hx_2104,h⟩ := bindO h
       refine Ops.st (s := 37960) (Ev.iaW rfl rfl rfl hx_2104) rfl rfl (Ops.p rfl (Ops.st (s := 37992) (Ev.ldE (f := encPeer) rfl rfl (at_some hx_2104).2 rfl rfl rfl) rfl rfl (.p2 rfl rfl (Ops.nil (Run.condO rfl h (fun g_2105 h => ?_) (fun g_2105 h => ?_))))))
       ·refine Run.ops hm (.p3 rfl rfl rfl (.p3 rfl rfl rfl (Ops.p rfl ?_)))
        obtain ⟨x_2108,hx_2108,h⟩ := bindO h
        refine Ops.st (s := 42072) (Ev.iaW rfl rfl rfl hx_2108) rfl rfl (Ops.p rfl (Ops.st (s := 42104) (Ev.ldE (f := encPeer) rfl rfl (at_some hx_2108).2 rfl rfl rfl) rfl rfl (Ops.st (s := 42120) (Ev.bsW (ys := ([x_2108.Id] : List Int)) (f := encI) rfl (.d1 .nil) rfl rfl rfl rfl rfl) rfl rfl ?_)))
        obtain ⟨x_2109,hx_2109,h⟩ := bindO h
        exact Ops.st (s := 42136) (Ev.apW (f := encI) (ontoW rfl rfl rfl) (addsW rfl rfl rfl (fun _ => rfl)) rfl bt3 rfl hx_2109) rfl rfl (Ops.p rfl (Ops.nil (⟨_,_,(gh_pk [0,2,4,5,6] [0,1,2,3,4,5,6,42136] hB rfl rfl rfl rfl),_,h,rfl,rfl⟩)))
       ·exact Run.skip (⟨_,_,(gh_pk [0,2,4,5,6] [0,1,2,3,4,5,6,7] hB rfl rfl rfl rfl),_,h,rfl,rfl⟩)
      ·exact Run.ops hm (.p3 rfl rfl rfl (Ops.nil (⟨m_2091,Nat.lt_succ_self m_2091,_,_,(gh_pk [0,2,4,5,6] [0,1,2,3,4,5,6,7] hB rfl rfl rfl rfl),_,_,h,rfl,rfl⟩)))
     ·refine Run.exit ?_
      obtain rfl := someO h
      have h := hk_2091
      exact ⟨_,_,(gh_pk [0,2,4,5] [0,1,2,3,4,5,6,7] hB rfl rfl rfl rfl),_,h,rfl,rfl⟩
    ·refine Run.seq (Run.draw hm hmix (OpsD.p rfl (OpsD.p rfl (OpsD.p rfl (OpsD.p rfl (OpsD.p rfl (OpsD.p rfl ?_)))))))
     obtain ⟨y_2113,hy_2113,h⟩ := bindO h
     refine OpsD.st (s := 46152) (Ev.call [] [2] 0 (sem_spec_LogTerm _ _ _ _ hy_2113) rfl rfl (.cons (.agg (.d2 (.cons (.borrow rfl (by decide) (lendW (fun _ => rfl) _ rfl)) .nil))) (.d1 .nil)) rfl (.inr ⟨rfl,ownL_root trivial⟩) rfl rfl) rfl rfl ?_
     refine OpsD.p rfl (OpsD.p rfl (OpsD.p rfl (OpsD.p rfl (OpsD.p rfl (OpsD.p rfl (OpsD.p rfl (OpsD.askO (x := .t 80) rfl h (fun g_2114 h => ?_) (fun g_2114 h => ?_))))))))
     ·refine OpsD.gp rfl g_2114 rfl (OpsD.gp rfl g_2114 rfl ?_)
      obtain ⟨y_2115,hy_2115,h⟩ := bindO h
      refine OpsD.gs (s := 46312) rfl g_2114 (Ev.call [] [6,7] 0 (sem_spec_Most _ _ _ _ hy_2115) rfl rfl (.cons (.borrow rfl (by decide) (lendW (fun _ => rfl) _ rfl)) (.cons (.borrow rfl (by decide) (lendW (fun _ => rfl) _ rfl)) .nil)) rfl (.inr ⟨rfl,ownL_root trivial⟩) rfl rfl) rfl rfl ?_
      refine OpsD.st (s := 46328) (.pkT rfl g_2114 rfl) rfl rfl (OpsD.nil ⟨by kernel_rfl,?_⟩)
      refine Run.condO rfl h (fun g_2116 h => ?_) (fun g_2116 h => ?_)
      ·exact Run.ops hm (.p3 rfl rfl rfl (.p2 rfl rfl (Ops.s0 (s := 50232) (.sto rfl rfl rfl rfl rfl rfl) rfl rfl (Ops.nil (⟨_,_,(gh_pk [0,2,4] [0,1,2,3,4,5,6] hB rfl rfl rfl rfl),_,h,rfl,rfl⟩)))))
      ·exact Run.skip (⟨_,_,(gh_pk [0,2,4] [0,1,2,3,4,5,6] hB rfl rfl rfl rfl),_,h,rfl,rfl⟩)
     ·refine OpsD.gn rfl g_2114 (OpsD.gn rfl g_2114 (OpsD.gn rfl g_2114 (OpsD.st (s := 46328) (.pkF rfl g_2114 rfl) rfl rfl (OpsD.nil ⟨by kernel_rfl,?_⟩))))
      exact Run.condF rfl rfl (Run.skip (⟨_,_,(gh_pk [0,2,4] [0,1,2,3,4,5,6] hB rfl rfl rfl rfl),_,h,rfl,rfl⟩))
   ·exact Run.ops hm (.p3 rfl rfl rfl (Ops.nil (⟨m_1876,Nat.lt_succ_self m_1876,_,_,(gh_pk [0,2,4] [0,1,2,3,4,5,6] hB rfl rfl rfl rfl),_,_,h,rfl,rfl⟩)))
  ·refine Run.exit ?_
   obtain rfl := someO h
   have h := hk_1876
   exact ⟨_,_,(gh_pk [0,2] [0,1,2,3,4,5,6] hB rfl rfl rfl rfl),_,h,rfl,rfl⟩
 ·refine Run.seq (Run.draw hm hmix (OpsD.p rfl (OpsD.p rfl (OpsD.p rfl (OpsD.p rfl (OpsD.p rfl (OpsD.p rfl (OpsD.p rfl (OpsD.askO (x := .t 96) rfl h (fun g_2121 h => ?_) (fun g_2121 h => ?_))))))))))
  ·refine OpsD.gp rfl g_2121 rfl (OpsD.gp rfl g_2121 rfl (OpsD.gp rfl g_2121 rfl (OpsD.gp rfl g_2121 rfl (OpsD.gp rfl g_2121 rfl (OpsD.gp rfl g_2121 rfl ?_)))))
   obtain ⟨y_2122,hy_2122,h⟩ := bindO h
   refine OpsD.gs (s := 54456) rfl g_2121 (Ev.call [] [6] 0 (sem_spec_l09In _ _ _ _ hy_2122) rfl rfl (.cons (.borrow rfl (by decide) (lendW (fun _ => rfl) _ rfl)) (.d1 .nil)) rfl (.inr ⟨rfl,ownL_root trivial⟩) rfl rfl) rfl rfl ?_
   refine OpsD.gp rfl g_2121 rfl (OpsD.st (s := 54488) (.pkT rfl g_2121 rfl) rfl rfl (OpsD.p rfl (OpsD.askO (x := .t 106) rfl h (fun g_2123 h => ?_) (fun g_2123 h => ?_))))
   ·refine OpsD.gp rfl g_2123 rfl (OpsD.gp rfl g_2123 rfl (OpsD.gp rfl g_2123 rfl (OpsD.gp rfl g_2123 rfl ?_)))
    obtain ⟨y_2124,hy_2124,h⟩ := bindO h
    refine OpsD.gs (s := 54584) rfl g_2123 (Ev.call [] [1,2,3,4] 0 (sem_spec_l16ConfIndex _ _ _ hy_2124) rfl rfl (.cons (.agg (.d4 (.d1 (.cons (.borrow rfl (by decide) (lendW (fun _ => rfl) _ rfl)) (.d2 (.cons (.borrow rfl (by decide) (lendW (fun _ => rfl) _ rfl)) (.d2 (.d1 (.cons (.borrow rfl (by decide) (lendW (fun _ => rfl) _ rfl)) (.cons (.borrow rfl (by decide) (lendW (fun _ => rfl) _ rfl)) .nil)))))))))) .nil) rfl (.inr ⟨rfl,ownL_root trivial⟩) rfl rfl) rfl rfl ?_
    refine OpsD.gp rfl g_2123 rfl (OpsD.gp rfl g_2123 rfl (OpsD.gp rfl g_2123 rfl (OpsD.gp rfl g_2123 rfl (OpsD.gp rfl g_2123 rfl (OpsD.gp rfl g_2123 rfl (OpsD.st (s := 54696) (.pkT rfl g_2123 rfl) rfl rfl (OpsD.nil ⟨by kernel_rfl,?_⟩)))))))
    refine Run.condO rfl h (fun g_2125 h => ?_) (fun g_2125 h => ?_)
    ·refine Run.ops hm (Ops.p rfl ?_)
     obtain ⟨y_2127,hy_2127,h⟩ := bindO h
     refine Ops.st (s := 58360) (Ev.call [0,1,2,3,4,5] [] 2 (sem_spec_l16Follow _ _ _ _ hy_2127) rfl rfl (.cons (.ptr rfl) (.d1 .nil)) rfl (.inl rfl) rfl rfl) rfl rfl (Ops.nil ?_)
     obtain rfl := someO h
     exact Ends.mkG (.inr rfl) rfl (Gh.trans (Gh.trans (gh_prn [] [0,1,2,3,4,5,58360,58361] hB rfl) (gh_mvE [] [1,2,5] hB rfl rfl)) (gh_pk [] [0,1,2,3,4,5,30000001,30000002,58360,58361,30000005] hB rfl rfl rfl rfl)) rfl rfl
    ·refine Run.skip ?_
     obtain rfl := someO h
     exact Ends.mkG (.inr rfl) rfl (Gh.trans (Gh.trans (gh_prn [] [0,1,2,3,4,5] hB rfl) (gh_mvE [] [1,2,3,4,5] hB rfl rfl)) (gh_pk [] [0,1,2,3,4,5,30000001,30000002,30000003,30000004,30000005] hB rfl rfl rfl rfl)) rfl rfl
   ·refine OpsD.gn rfl g_2123 (OpsD.gn rfl g_2123 (OpsD.gn rfl g_2123 (OpsD.gn rfl g_2123 (OpsD.gn rfl g_2123 (OpsD.gn rfl g_2123 (OpsD.gn rfl g_2123 (OpsD.gn rfl g_2123 (OpsD.gn rfl g_2123 (OpsD.gn rfl g_2123 (OpsD.gn rfl g_2123 (OpsD.st (s := 54696) (.pkF rfl g_2123 rfl) rfl rfl (OpsD.nil ⟨by kernel_rfl,?_⟩))))))))))))
    refine Run.condF rfl rfl (Run.skip ?_)
    obtain rfl := someO h
    exact Ends.mkG (.inr rfl) rfl (Gh.trans (Gh.trans (gh_prn [] [0,1,2,3,4,5] hB rfl) (gh_mvE [] [1,2,3,4,5] hB rfl rfl)) (gh_pk [] [0,1,2,3,4,5,30000001,30000002,30000003,30000004,30000005] hB rfl rfl rfl rfl)) rfl rfl
  ·refine OpsD.gn rfl g_2121 (OpsD.gn rfl g_2121 (OpsD.gn rfl g_2121 (OpsD.gn rfl g_2121 (OpsD.gn rfl g_2121 (OpsD.gn rfl g_2121 (OpsD.gn rfl g_2121 (OpsD.gn rfl g_2121 (OpsD.st (s := 54488) (.pkF rfl g_2121 rfl) rfl rfl (OpsD.p rfl (OpsD.gn rfl rfl (OpsD.gn rfl rfl (OpsD.gn rfl rfl (OpsD.gn rfl rfl (OpsD.gn rfl rfl (OpsD.gn rfl rfl (OpsD.gn rfl rfl (OpsD.gn rfl rfl (OpsD.gn rfl rfl (OpsD.gn rfl rfl (OpsD.gn rfl rfl (OpsD.st (s := 54696) (.pkF rfl rfl rfl) rfl rfl (OpsD.nil ⟨by kernel_rfl,?_⟩))))))))))))))))))))))
   refine Run.condF rfl rfl (Run.skip ?_)
   obtain rfl := someO h
   exact Ends.mkG (.inr rfl) rfl (Gh.trans (Gh.trans (gh_prn [] [0,1,2,3,4,5] hB rfl) (gh_mvE [] [1,2,3,4,5] hB rfl rfl)) (gh_pk [] [0,1,2,3,4,5,30000001,30000002,30000003,30000004,30000005] hB rfl rfl rfl rfl)) rfl rfl
def spec_l16SendAll_i1_l1 (N : Nat) (x_1 : Tl16Run) : Nat → Int → Int → Int → Int → Int → Int → Int → Int → Int → Int → Int → (List Message) → Option (Int × Int × Int × Int × Int × Int × Int × Int × Int × Int × (List Message))
 | 0,_,_,_,_,_,_,_,_,_,_,_,_ => none
 | m + 1,x_190,x_191,x_192,x_193,x_194,x_195,x_196,x_197,x_198,x_199,x_200,x_205 =>
 (if (decide (x_190 < ((x_1.n.Peers.length : Nat) : Int))) = true then
 (at? x_1.n.Peers x_190).bind fun x_226 =>
 (spec_l16Send N (Tl16Run.mk (Node.mk x_191 x_192 x_193 x_194 x_195 x_1.n.Conf (Log.mk x_196 x_197 x_1.n.Log.Entries) x_198 x_199 x_200 x_1.n.Votes x_1.n.Peers) x_205) x_226).bind fun y_227 =>
 spec_l16SendAll_i1_l1 N x_1 m (w64 (x_190 + 1)) y_227.n.Id y_227.n.Term y_227.n.Vote y_227.n.Role y_227.n.Lead y_227.n.Log.Start y_227.n.Log.StartTerm y_227.n.Commit y_227.n.Clock y_227.n.Limit y_227.told
 else
 some (x_191,x_192,x_193,x_194,x_195,x_196,x_197,x_198,x_199,x_200,x_205))
def spec_l16SendAll_i1 (N : Nat) (x_1 : Tl16Run) : Option (Tl16Run) :=
 (spec_l16SendAll_i1_l1 N x_1 N 0 x_1.n.Id x_1.n.Term x_1.n.Vote x_1.n.Role x_1.n.Lead x_1.n.Log.Start x_1.n.Log.StartTerm x_1.n.Commit x_1.n.Clock x_1.n.Limit x_1.told).bind (fun v_216 => some (Tl16Run.mk (Node.mk v_216.1 v_216.2.1 v_216.2.2.1 v_216.2.2.2.1 v_216.2.2.2.2.1 x_1.n.Conf (Log.mk v_216.2.2.2.2.2.1 v_216.2.2.2.2.2.2.1 x_1.n.Log.Entries) v_216.2.2.2.2.2.2.2.1 v_216.2.2.2.2.2.2.2.2.1 v_216.2.2.2.2.2.2.2.2.2.1 x_1.n.Votes x_1.n.Peers) v_216.2.2.2.2.2.2.2.2.2.2))
theorem sem_spec_l16SendAll_i1 (N : Nat) (x_1 : Tl16Run) (r : Tl16Run) (h : spec_l16SendAll_i1 N x_1 = some r) : Says Try.prog 88 [.ptr 0 0] 6 [(0,.box [VI x_1.n.Id,VI x_1.n.Term,VI x_1.n.Vote,VI x_1.n.Role,VI x_1.n.Lead,.sl 1 3 0 x_1.n.Conf.length,VI x_1.n.Log.Start,VI x_1.n.Log.StartTerm,.sl 2 51 0 x_1.n.Log.Entries.length,VI x_1.n.Commit,VI x_1.n.Clock,VI x_1.n.Limit,.sl 3 3 0 x_1.n.Votes.length,.sl 4 135 0 x_1.n.Peers.length,.sl 5 58 0 x_1.told.length]),(1,.vec 3 (x_1.n.Conf.map encI)),(2,.vec 51 (x_1.n.Log.Entries.map encEntry)),(3,.vec 3 (x_1.n.Votes.map encI)),(4,.vec 135 (x_1.n.Peers.map encPeer)),(5,.vec 58 (x_1.told.map (encMessage false)))] (.tup []) [(0,.box [VI r.n.Id,VI r.n.Term,VI r.n.Vote,VI r.n.Role,VI r.n.Lead,.sl 6 3 0 r.n.Conf.length,VI r.n.Log.Start,VI r.n.Log.StartTerm,.sl 7 51 0 r.n.Log.Entries.length,VI r.n.Commit,VI r.n.Clock,VI r.n.Limit,.sl 8 3 0 r.n.Votes.length,.sl 9 135 0 r.n.Peers.length,.sl 10 58 0 r.told.length]),(1,.gone),(2,.gone),(3,.gone),(4,.gone),(5,.gone),(6,.vec 3 (r.n.Conf.map encI)),(7,.vec 51 (r.n.Log.Entries.map encEntry)),(8,.vec 3 (r.n.Votes.map encI)),(9,.vec 135 (r.n.Peers.map encPeer)),(10,.vec 58 (r.told.map (encMessage false)))] := by
 unfold spec_l16SendAll_i1 at h
 refine Says.of_run s88 Try.call88 rfl fun B hB => ?_
 have hm : B.m ≤ 1000 := by omega
 refine Run.seq (Run.ops hm (Ops.p rfl (Ops.nil (Run.block ?_))))
 obtain ⟨res_216,h,hk_216⟩ := bindO h
 refine Run.loop (n := N) (fun m_216 fr σ => ∃ (x_190 : Int),∃ (x_191 : Int),∃ (x_192 : Int),∃ (x_193 : Int),∃ (x_194 : Int),∃ (x_195 : Int),∃ (x_196 : Int),∃ (x_197 : Int),∃ (x_198 : Int),∃ (x_199 : Int),∃ (x_200 : Int),∃ (x_205 : (List Message)),spec_l16SendAll_i1_l1 N x_1 m_216 x_190 x_191 x_192 x_193 x_194 x_195 x_196 x_197 x_198 x_199 x_200 x_205 = some res_216 ∧ fr = [(0,.ptr 0 0),(2,VI x_190)] ∧ σ = [(0,.box [VI x_191,VI x_192,VI x_193,VI x_194,VI x_195,.sl 6 3 0 x_1.n.Conf.length,VI x_196,VI x_197,.sl 7 51 0 x_1.n.Log.Entries.length,VI x_198,VI x_199,VI x_200,.sl 8 3 0 x_1.n.Votes.length,.sl 9 135 0 x_1.n.Peers.length,.sl 10 58 0 x_205.length]),(1,.gone),(2,.gone),(3,.gone),(4,.gone),(5,.gone),(6,.vec 3 (x_1.n.Conf.map encI)),(7,.vec 51 (x_1.n.Log.Entries.map encEntry)),(8,.vec 3 (x_1.n.Votes.map encI)),(9,.vec 135 (x_1.n.Peers.map encPeer)),(10,.vec 58 (x_205.map (encMessage false)))]) (Gh.trans (Gh.trans (gh_prn [0,2] [0,1,2,3,4,5] hB rfl) (gh_mvE [0,2] [1,2,3,4,5] hB rfl rfl)) (gh_pk [0,2] [0,1,2,3,4,5,30000001,30000002,30000003,30000004,30000005] hB rfl rfl rfl rfl)) ⟨_,_,_,_,_,_,_,_,_,_,_,_,h,rfl,rfl⟩ ?_
 rintro m_216 fr σ ⟨x_190,x_191,x_192,x_193,x_194,x_195,x_196,x_197,x_198,x_199,x_200,x_205,h,rfl,rfl⟩
 obtain _ | m_216 := m_216
 ·rw [spec_l16SendAll_i1_l1] at h; cases h
 rw [spec_l16SendAll_i1_l1] at h
 refine Run.seq (Run.seq (Run.ops hm (.p3 rfl rfl rfl (.p3 rfl rfl rfl (.p2 rfl rfl (Ops.nil (Run.condO rfl h (fun g_219 h => ?_) (fun g_219 h => ?_))))))))
 ·refine Run.skip (Run.seq (Run.block (Run.ops hm (.p3 rfl rfl rfl (.p3 rfl rfl rfl (Ops.p rfl ?_))))))
  obtain ⟨x_226,hx_226,h⟩ := bindO h
  refine Ops.st (s := 13400) (Ev.iaW rfl rfl rfl hx_226) rfl rfl (Ops.st (s := 13416) (Ev.ldE (f := encPeer) rfl rfl (at_some hx_226).2 rfl rfl rfl) rfl rfl ?_)
  obtain ⟨y_227,hy_227,h⟩ := bindO h
  exact Ops.st (s := 13432) (Ev.call [0,6,7,8,9,10] [] 1 (sem_spec_l16Send _ _ _ _ hy_227) rfl rfl (.cons (.ptr rfl) (.cons (.agg (.d4 .nil)) .nil)) rfl (.inl rfl) rfl rfl) rfl rfl (Ops.nil (Run.ops hm (.p3 rfl rfl rfl (Ops.nil (⟨m_216,Nat.lt_succ_self m_216,_,_,(gh_pk [0,2] [0,1,2,3,4,5,6,7,8,9,13432] hB rfl rfl rfl rfl),_,_,_,_,_,_,_,_,_,_,_,_,h,rfl,rfl⟩)))))
 ·refine Run.exit ?_
  obtain rfl := someO h
  have h := hk_216
  obtain rfl := someO h
  exact Ends.mkG (.inr rfl) rfl (gh_pk [] [0,1,2,3,4,5,6,7,8,9,10] hB rfl rfl rfl rfl) rfl rfl
def spec_l16Lead_l1 (N : Nat) (y_211 : Int) (y_230 : (List Int)) : Nat → Int → (List Peer) → Option ((List Peer))
 | 0,_,_ => none
 | m + 1,x_273,x_288 =>
 (if (decide (x_273 < ((y_230.length : Nat) : Int))) = true then
 (at? y_230 x_273).bind fun x_310 =>
 (cat? x_288 ([(Peer.mk x_310 (w64 (y_211 + 1)) 0 0)] : List Peer)).bind fun x_311 =>
 spec_l16Lead_l1 N y_211 y_230 m (w64 (x_273 + 1)) x_311
 else
 some x_288)
def spec_l16Lead (N : Nat) (x_1 : Tl16Run) : Option (Tl16Run) :=
 (spec_l12Last N x_1.n.Log).bind fun y_211 =>
 joinP (fun (v_217 : (List Entry)) =>
 (spec_ConfOf N (Node.mk x_1.n.Id x_1.n.Term x_1.n.Vote 2 x_1.n.Id x_1.n.Conf (Log.mk x_1.n.Log.Start x_1.n.Log.StartTerm v_217) x_1.n.Commit x_1.n.Clock x_1.n.Limit ([] : List Int) x_1.n.Peers)).bind fun y_229 =>
 (spec_l16Others N y_229 x_1.n.Id).bind fun y_230 =>
 joinP (fun (v_271 : (List Peer)) =>
 (spec_l16Commit N (Tl16Run.mk (Node.mk x_1.n.Id x_1.n.Term x_1.n.Vote 2 x_1.n.Id x_1.n.Conf (Log.mk x_1.n.Log.Start x_1.n.Log.StartTerm v_217) x_1.n.Commit x_1.n.Clock x_1.n.Limit ([] : List Int) v_271) x_1.told)).bind fun y_313 =>
 (spec_l16SendAll_i1 N y_313).bind fun y_315 =>
 some y_315) fun j_271 =>
 (spec_l16Lead_l1 N y_211 y_230 N 0 ([] : List Peer)).bind (fun v_300 => j_271 v_300)) fun j_217 =>
 (spec_l16Room N (Node.mk x_1.n.Id x_1.n.Term x_1.n.Vote 2 x_1.n.Id x_1.n.Conf x_1.n.Log x_1.n.Commit x_1.n.Clock x_1.n.Limit ([] : List Int) x_1.n.Peers)).bind fun y_219 =>
 (if y_219 = true then
 (cat? x_1.n.Log.Entries ([(Entry.mk x_1.n.Term 1 (⟨#[]⟩ : ByteArray))] : List Entry)).bind fun x_222 =>
 j_217 x_222
 else
 j_217 x_1.n.Log.Entries)
theorem sem_spec_l16Lead (N : Nat) (x_1 : Tl16Run) (r : Tl16Run) (h : spec_l16Lead N x_1 = some r) : Says Try.prog 115 [.ptr 0 0] 6 [(0,.box [VI x_1.n.Id,VI x_1.n.Term,VI x_1.n.Vote,VI x_1.n.Role,VI x_1.n.Lead,.sl 1 3 0 x_1.n.Conf.length,VI x_1.n.Log.Start,VI x_1.n.Log.StartTerm,.sl 2 51 0 x_1.n.Log.Entries.length,VI x_1.n.Commit,VI x_1.n.Clock,VI x_1.n.Limit,.sl 3 3 0 x_1.n.Votes.length,.sl 4 135 0 x_1.n.Peers.length,.sl 5 58 0 x_1.told.length]),(1,.vec 3 (x_1.n.Conf.map encI)),(2,.vec 51 (x_1.n.Log.Entries.map encEntry)),(3,.vec 3 (x_1.n.Votes.map encI)),(4,.vec 135 (x_1.n.Peers.map encPeer)),(5,.vec 58 (x_1.told.map (encMessage false)))] (.tup []) [(0,.box [VI r.n.Id,VI r.n.Term,VI r.n.Vote,VI r.n.Role,VI r.n.Lead,.sl 6 3 0 r.n.Conf.length,VI r.n.Log.Start,VI r.n.Log.StartTerm,.sl 7 51 0 r.n.Log.Entries.length,VI r.n.Commit,VI r.n.Clock,VI r.n.Limit,.sl 8 3 0 r.n.Votes.length,.sl 9 135 0 r.n.Peers.length,.sl 10 58 0 r.told.length]),(1,.gone),(2,.gone),(3,.gone),(4,.gone),(5,.gone),(6,.vec 3 (r.n.Conf.map encI)),(7,.vec 51 (r.n.Log.Entries.map encEntry)),(8,.vec 3 (r.n.Votes.map encI)),(9,.vec 135 (r.n.Peers.map encPeer)),(10,.vec 58 (r.told.map (encMessage false)))] := by
 unfold spec_l16Lead at h
 refine Says.of_run s115 Try.call115 rfl fun B hB => ?_
 have hm : B.m ≤ 1000 := by omega
 refine Run.seq (Run.ops hm (.p3 rfl rfl rfl (.p2 rfl rfl ?_)))
 obtain ⟨y_211,hy_211,h⟩ := bindO h
 refine Ops.st (s := 1080) (Ev.call [] [2] 0 (sem_spec_l12Last _ _ _ hy_211) rfl rfl (.cons (.agg (.d2 (.cons (.borrow rfl (by decide) (lendW (fun _ => rfl) _ rfl)) .nil))) .nil) rfl (.inr ⟨rfl,ownL_root trivial⟩) rfl rfl) rfl rfl ?_
 refine Ops.p rfl (Ops.nil (Run.seq (Run.ops hm (.p3 rfl rfl rfl (Ops.p rfl (Ops.s0 (s := 5160) (.sto rfl rfl rfl rfl rfl rfl) rfl rfl (Ops.nil (Run.seq (Run.ops hm (.p3 rfl rfl rfl (.p3 rfl rfl rfl (.p3 rfl rfl rfl (Ops.s0 (s := 9336) (.sto rfl rfl rfl rfl rfl rfl) rfl rfl (Ops.nil (Run.seq (Run.ops hm (Ops.p rfl (Ops.st (s := 13304) (Ev.bsW (ys := ([] : List Int)) (f := encI) rfl .nil rfl rfl rfl rfl rfl) rfl rfl (.p3 rfl rfl rfl (Ops.s0 (s := 13368) (.sto rfl rfl rfl rfl rfl rfl) rfl rfl (Ops.nil (Run.seqO h (fun v_217 => [(0,.ptr 0 0),(2,VI y_211)]) (fun (v_217 : (List Entry)) => [(0,.box [VI x_1.n.Id,VI x_1.n.Term,VI x_1.n.Vote,VI 2,VI x_1.n.Id,.sl 6 3 0 x_1.n.Conf.length,VI x_1.n.Log.Start,VI x_1.n.Log.StartTerm,.sl 7 51 0 v_217.length,VI x_1.n.Commit,VI x_1.n.Clock,VI x_1.n.Limit,.sl 8 3 0 (([] : List Int).length),.sl 9 135 0 x_1.n.Peers.length,.sl 10 58 0 x_1.told.length]),(1,.gone),(2,.gone),(3,.gone),(4,.gone),(5,.gone),(6,.vec 3 (x_1.n.Conf.map encI)),(7,.vec 51 (v_217.map encEntry)),(8,.vec 3 (([] : List Int).map encI)),(9,.vec 135 (x_1.n.Peers.map encPeer)),(10,.vec 58 (x_1.told.map (encMessage false)))]) (fun h => ?_) (fun v_217 h => ?_)))))))))))))))))))))))
 ·refine Run.seq (Run.ops hm (.p3 rfl rfl rfl (Ops.p rfl ?_)))
  obtain ⟨y_219,hy_219,h⟩ := bindO h
  refine Ops.st (s := 17448) (Ev.call [] [1,2,13304,4] 0 (sem_spec_l16Room _ _ _ hy_219) rfl rfl (.cons (.agg (.d4 (.d1 (.cons (.borrow rfl (by decide) (lendW (fun _ => rfl) _ rfl)) (.d2 (.cons (.borrow rfl (by decide) (lendW (fun _ => rfl) _ rfl)) (.d2 (.d1 (.cons (.borrow rfl (by decide) (lendW (fun _ => rfl) _ rfl)) (.cons (.borrow rfl (by decide) (lendW (fun _ => rfl) _ rfl)) .nil)))))))))) .nil) rfl (.inr ⟨rfl,ownL_root trivial⟩) rfl rfl) rfl rfl ?_
  refine Ops.nil (Run.condO rfl h (fun g_220 h => ?_) (fun g_220 h => ?_))
  ·refine Run.draw hm hmix (OpsD.p rfl (OpsD.p rfl (OpsD.p rfl (OpsD.p rfl (OpsD.p rfl (OpsD.p rfl (OpsD.p rfl (OpsD.p rfl (OpsD.p rfl (OpsD.p rfl (OpsD.p rfl (OpsD.p rfl (OpsD.st (s := 21672) (.bd rfl rfl) rfl rfl (OpsD.st (s := 21688) (Ev.bsW (ys := ([(Entry.mk x_1.n.Term 1 (⟨#[]⟩ : ByteArray))] : List Entry)) (f := encEntry) rfl (.d2 (.d1 .nil)) rfl rfl rfl rfl rfl) rfl rfl ?_))))))))))))))
   obtain ⟨x_222,hx_222,h⟩ := bindO h
   refine OpsD.st (s := 21704) (Ev.apW (f := encEntry) (ontoW rfl rfl rfl) (addsW rfl rfl rfl (fun _ => rfl)) rfl bt51 rfl hx_222) rfl rfl (OpsD.p rfl (OpsD.p rfl (OpsD.p rfl (OpsD.p rfl (OpsD.s0 (s := 21784) (.sto rfl rfl rfl rfl rfl rfl) rfl rfl (OpsD.nil ⟨by kernel_rfl,?_⟩))))))
   exact ⟨_,_,(Gh.trans (Gh.trans (gh_prn [0,2] [0,1,2,3,4,5,21704,13304] hB rfl) (gh_mvE [0,2] [1,3,4,5] hB rfl rfl)) (gh_pk [0,2] [0,1,2,3,4,5,30000001,21704,13304,30000004,30000005] hB rfl rfl rfl rfl)),_,h,rfl,rfl⟩
  ·exact Run.skip (⟨_,_,(Gh.trans (Gh.trans (gh_prn [0,2] [0,1,2,3,4,5,13304] hB rfl) (gh_mvE [0,2] [1,2,3,4,5] hB rfl rfl)) (gh_pk [0,2] [0,1,2,3,4,5,30000001,30000002,13304,30000004,30000005] hB rfl rfl rfl rfl)),_,h,rfl,rfl⟩)
 ·refine Run.seq (Run.draw hm hmix (OpsD.p rfl (OpsD.p rfl (OpsD.p rfl (OpsD.p rfl ?_)))))
  obtain ⟨y_229,hy_229,h⟩ := bindO h
  refine OpsD.st (s := 25640) (Ev.call [] [6,7,8,9] 1 (sem_spec_ConfOf _ _ _ hy_229) rfl rfl (.cons (.agg (.d4 (.d1 (.cons (.borrow rfl (by decide) (lendW (fun _ => rfl) _ rfl)) (.d2 (.cons (.borrow rfl (by decide) (lendW (fun _ => rfl) _ rfl)) (.d2 (.d1 (.cons (.borrow rfl (by decide) (lendW (fun _ => rfl) _ rfl)) (.cons (.borrow rfl (by decide) (lendW (fun _ => rfl) _ rfl)) .nil)))))))))) .nil) rfl (.inr ⟨rfl,ownL_root ⟨own_rows (fun _ => rfl) _,trivial⟩⟩) rfl rfl) rfl rfl ?_
  refine OpsD.p rfl (OpsD.p rfl (OpsD.p rfl (OpsD.p rfl (OpsD.p rfl ?_))))
  obtain ⟨y_230,hy_230,h⟩ := bindO h
  refine OpsD.st (s := 25736) (Ev.call [] [25640] 1 (sem_spec_l16Others _ _ _ _ hy_230) rfl rfl (.cons (.borrow rfl (by decide) (lendW (fun _ => rfl) _ rfl)) (.d1 .nil)) rfl (.inr ⟨rfl,ownL_root ⟨own_rows (fun _ => rfl) _,trivial⟩⟩) rfl rfl) rfl rfl ?_
  refine OpsD.p rfl (OpsD.nil ⟨by kernel_rfl,?_⟩)
  refine Run.seq (Run.ops hm (Ops.p rfl (Ops.st (s := 29688) (Ev.bsW (ys := ([] : List Peer)) (f := encPeer) rfl .nil rfl rfl rfl rfl rfl) rfl rfl (.p3 rfl rfl rfl (Ops.s0 (s := 29752) (.sto rfl rfl rfl rfl rfl rfl) rfl rfl (Ops.nil (Run.seqO h (fun v_271 => [(0,.ptr 0 0)]) (fun (v_271 : (List Peer)) => [(0,.box [VI x_1.n.Id,VI x_1.n.Term,VI x_1.n.Vote,VI 2,VI x_1.n.Id,.sl 6 3 0 x_1.n.Conf.length,VI x_1.n.Log.Start,VI x_1.n.Log.StartTerm,.sl 7 51 0 v_217.length,VI x_1.n.Commit,VI x_1.n.Clock,VI x_1.n.Limit,.sl 8 3 0 (([] : List Int).length),.sl 9 135 0 v_271.length,.sl 10 58 0 x_1.told.length]),(1,.gone),(2,.gone),(3,.gone),(4,.gone),(5,.gone),(6,.vec 3 (x_1.n.Conf.map encI)),(7,.vec 51 (v_217.map encEntry)),(8,.vec 3 (([] : List Int).map encI)),(9,.vec 135 (v_271.map encPeer)),(10,.vec 58 (x_1.told.map (encMessage false)))]) (fun h => ?_) (fun v_271 h => ?_))))))))
  ·refine Run.seq (Run.ops hm (Ops.p rfl (Ops.nil (Run.block ?_))))
   obtain ⟨res_300,h,hk_300⟩ := bindO h
   refine Run.loop (n := N) (fun m_300 fr σ => ∃ (x_273 : Int),∃ (x_288 : (List Peer)),spec_l16Lead_l1 N y_211 y_230 m_300 x_273 x_288 = some res_300 ∧ fr = [(0,.ptr 0 0),(2,VI y_211),(3,.sl 6 3 0 y_230.length),(4,VI x_273)] ∧ σ = [(0,.box [VI x_1.n.Id,VI x_1.n.Term,VI x_1.n.Vote,VI 2,VI x_1.n.Id,.sl 7 3 0 x_1.n.Conf.length,VI x_1.n.Log.Start,VI x_1.n.Log.StartTerm,.sl 8 51 0 v_217.length,VI x_1.n.Commit,VI x_1.n.Clock,VI x_1.n.Limit,.sl 9 3 0 (([] : List Int).length),.sl 10 135 0 x_288.length,.sl 11 58 0 x_1.told.length]),(1,.gone),(2,.gone),(3,.gone),(4,.gone),(5,.gone),(6,.vec 3 (y_230.map encI)),(7,.vec 3 (x_1.n.Conf.map encI)),(8,.vec 51 (v_217.map encEntry)),(9,.vec 3 (([] : List Int).map encI)),(10,.vec 135 (x_288.map encPeer)),(11,.vec 58 (x_1.told.map (encMessage false)))]) (gh_pk [0,2,3,4] [0,1,2,3,4,5,25736,6,7,8,29688,10] hB rfl rfl rfl rfl) ⟨_,_,h,rfl,rfl⟩ ?_
   rintro m_300 fr σ ⟨x_273,x_288,h,rfl,rfl⟩
   obtain _ | m_300 := m_300
   ·rw [spec_l16Lead_l1] at h; cases h
   rw [spec_l16Lead_l1] at h
   refine Run.seq (Run.seq (Run.ops hm (.p3 rfl rfl rfl (Ops.p rfl (Ops.nil (Run.condO rfl h (fun g_303 h => ?_) (fun g_303 h => ?_)))))))
   ·refine Run.skip (Run.seq (Run.block (Run.draw hm hmix (OpsD.p rfl (OpsD.p rfl (OpsD.p rfl (OpsD.p rfl (OpsD.p rfl (OpsD.p rfl (OpsD.p rfl (OpsD.p rfl ?_)))))))))))
    obtain ⟨x_310,hx_310,h⟩ := bindO h
    refine OpsD.st (s := 46184) (Ev.iaW rfl rfl rfl hx_310) rfl rfl (OpsD.st (s := 46200) (Ev.ldE (f := encI) rfl rfl (at_some hx_310).2 rfl rfl rfl) rfl rfl (OpsD.p rfl (OpsD.p rfl (OpsD.st (s := 46248) (.bd rfl rfl) rfl rfl (OpsD.st (s := 46264) (Ev.bsW (ys := ([(Peer.mk x_310 (w64 (y_211 + 1)) 0 0)] : List Peer)) (f := encPeer) rfl (.d4 .nil) rfl rfl rfl rfl rfl) rfl rfl ?_)))))
    obtain ⟨x_311,hx_311,h⟩ := bindO h
    refine OpsD.st (s := 46280) (Ev.apW (f := encPeer) (ontoW rfl rfl rfl) (addsW rfl rfl rfl (fun _ => rfl)) rfl bt135 rfl hx_311) rfl rfl (OpsD.p rfl (OpsD.p rfl (OpsD.p rfl (OpsD.s0 (s := 46344) (.sto rfl rfl rfl rfl rfl rfl) rfl rfl (OpsD.nil ⟨by kernel_rfl,?_⟩)))))
    exact Run.ops hm (.p3 rfl rfl rfl (Ops.nil (⟨m_300,Nat.lt_succ_self m_300,_,_,(gh_pk [0,2,3,4] [0,1,2,3,4,5,6,7,8,9,46280,11] hB rfl rfl rfl rfl),_,_,h,rfl,rfl⟩)))
   ·refine Run.exit ?_
    obtain rfl := someO h
    have h := hk_300
    exact ⟨_,_,(gh_pk [0] [0,1,2,3,4,5,7,8,9,10,11] hB rfl rfl rfl rfl),_,h,rfl,rfl⟩
  ·refine Run.seq (Run.ops hm (Ops.p rfl ?_))
   obtain ⟨y_313,hy_313,h⟩ := bindO h
   refine Ops.st (s := 50168) (Ev.call [0,6,7,8,9,10] [] 5 (sem_spec_l16Commit _ _ _ hy_313) rfl rfl (.cons (.ptr rfl) .nil) rfl (.inl rfl) rfl rfl) rfl rfl (Ops.nil (Run.ops hm (Ops.p rfl ?_)))
   obtain ⟨y_315,hy_315,h⟩ := bindO h
   refine Ops.st (s := 54264) (Ev.call [0,50168,50169,50170,50171,50172] [] 5 (sem_spec_l16SendAll_i1 _ _ _ hy_315) rfl rfl (.cons (.ptr rfl) .nil) rfl (.inl rfl) rfl rfl) rfl rfl (Ops.nil ?_)
   obtain rfl := someO h
   exact Ends.mkG (.inr rfl) rfl (gh_pk [] [0,1,2,3,4,5,54264,54265,54266,54267,54268] hB rfl rfl rfl rfl) rfl rfl
end Go.Proofs.Ytehknbpmpbghhaa.Pe.FnSettles
