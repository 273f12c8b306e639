/- Functions, as pure functions; and that Go does just that. -/
import Derived.Test.YtebbgdjmplceiaaPeFFnExactSettle4
namespace Go.Proofs.Ytebbgdjmplceiaa.Pe.FnExactSettle
open Go Go.RowKit
set_option linter.unusedVariables false
set_option linter.unusedSimpArgs false
set_option maxHeartbeats 40000000
def laws_markIntS_l1 (N : Nat) : Nat → Int → Int → (List Int) → Option (Int × (List Int))
 | 0, _, _, _ => none
 | m + 1, x_153, x_154, x_155 =>
 (if (decide (x_154 < ((x_155.length : Nat) : Int))) = true then
 (at? x_155 x_154).bind fun x_169 =>
 laws_markIntS_l1 N m (w64 (x_153 + (1 : Int))) (w64 (x_154 + (1 : Int))) (x_155.set x_154.toNat x_153)
 else
 some (x_153, x_155))
def laws_markIntS (N : Nat) (x_1 : (List Int)) (x_2 : Int) : Option (Int × (List Int)) :=
 joinP (fun (v_152 : Int × (List Int)) =>
 some (v_152.1, v_152.2)) fun j_152 =>
 (laws_markIntS_l1 N N x_2 (0 : Int) x_1).bind (fun (v_162 : Int × (List Int)) => j_152 (v_162.1, v_162.2))
theorem sem_laws_markIntS (N : Nat) (x_1 : (List Int)) (x_2 : Int) (r : Int × (List Int)) (h : laws_markIntS N x_1 x_2 = some r) : Says Try.prog 52 [.sl 0 3 0 x_1.length, VI x_2] 1 [(0, .vec 3 (x_1.map encI))] (VI r.1) [(0, .vec 3 (r.2.map encI))] := by
  unfold laws_markIntS at h
  refine Says.of_run s52 Try.call52 rfl fun B hB => ?_
  have hm : B.m ≤ 1000 := by omega
  refine Run.seq ?_
  refine Run.ops hm ?_
  refine Ops.p rfl ?_
  refine Ops.nil ?_
  refine Run.seqO h (fun (v_152 : Int × (List Int)) => [(1, VI v_152.1)]) (fun (v_152 : Int × (List Int)) => [(0, .vec 3 (v_152.2.map encI))]) (fun h => ?_) (fun v_152 h => ?_)
  · skip
    refine Run.seq ?_
    refine Run.ops hm ?_
    refine Ops.p rfl ?_
    refine Ops.nil ?_
    refine Run.block ?_
    obtain ⟨res_162, h, hk_162⟩ := bindO h
    refine Run.loop (n := N) (fun m_162 fr σ => ∃ (x_153 : Int), ∃ (x_154 : Int), ∃ (x_155 : (List Int)), laws_markIntS_l1 N m_162 x_153 x_154 x_155 = some res_162 ∧ fr = [(0, .sl 0 3 0 x_155.length), (1, VI x_153), (5, VI x_154)] ∧ σ = [(0, .vec 3 (x_155.map encI))]) (gh_pk [0, 1, 5] [0] hB rfl rfl rfl rfl) ⟨_, _, _, h, rfl, rfl⟩ ?_
    rintro m_162 fr σ ⟨x_153, x_154, x_155, h, rfl, rfl⟩
    obtain _ | m_162 := m_162
    · rw [laws_markIntS_l1] at h; cases h
    rw [laws_markIntS_l1] at h
    refine Run.seq ?_
    refine Run.seq ?_
    refine Run.ops hm ?_
    refine Ops.p rfl ?_
    refine Ops.p rfl ?_
    refine Ops.p rfl ?_
    refine Ops.p rfl ?_
    refine Ops.nil ?_
    refine Run.condO rfl h (fun g_165 h => ?_) (fun g_165 h => ?_)
    · skip
      refine Run.skip ?_
      refine Run.seq ?_
      refine Run.block ?_
      refine Run.seq ?_
      refine Run.ops hm ?_
      refine Ops.p rfl ?_
      refine Ops.p rfl ?_
      refine Ops.p rfl ?_
      obtain ⟨x_169, hx_169, h⟩ := bindO h
      refine Ops.st (s := 17432) (Ev.iaW rfl rfl rfl hx_169) rfl rfl ?_
      refine Ops.s0 (s := 17448) (Ev.stE (f := encI) (v' := x_153) rfl rfl (at_some hx_169).2 rfl (.cons (.c _) .nil) rfl rfl rfl rfl rfl) rfl rfl ?_
      refine Ops.nil ?_
      refine Run.ops hm ?_
      refine Ops.p rfl ?_
      refine Ops.p rfl ?_
      refine Ops.p rfl ?_
      refine Ops.nil ?_
      refine Run.ops hm ?_
      refine Ops.p rfl ?_
      refine Ops.p rfl ?_
      refine Ops.p rfl ?_
      refine Ops.nil ?_
      exact ⟨m_162, Nat.lt_succ_self m_162, _, _, (gh_pk [0, 1, 5] [0] hB rfl rfl (by first | rfl | (simp only [List.length_set]; done) | (simp only [List.length_set]; rfl)) (by first | rfl | (simp only [List.length_set]; done) | (simp only [List.length_set]; rfl))), _, _, _, h, rfl, rfl⟩
    · skip
      refine Run.exit ?_
      obtain rfl := someO h
      have h := hk_162
      exact ⟨_, _, (gh_pk [1] [0] hB rfl rfl rfl rfl), (x_153, x_155), h, rfl, rfl⟩
  · skip
    refine Run.seq ?_
    refine Run.ops hm ?_
    refine Ops.p rfl ?_
    refine Ops.p rfl ?_
    refine Ops.nil ?_
    refine Run.ret ?_
    obtain rfl := someO h
    exact Ends.mkG (.inl rfl) rfl (gh_pk [0] [0] hB rfl rfl rfl rfl) rfl rfl
def laws_markText_l1 (N : Nat) : Nat → Int → ByteArray → Option (ByteArray)
 | 0, _, _ => none
 | m + 1, x_161, x_162 =>
 (if (decide (x_161 > (0 : Int))) = true then
 (intD .rem .i64 x_161 (10 : Int)).bind fun x_176 =>
 (scat? (strOf ([IntKind.wrap .u8 (w64 ((48 : Int) + x_176))] : List Int)) x_162).bind fun x_177 =>
 (intD .quo .i64 x_161 (10 : Int)).bind fun x_178 =>
 laws_markText_l1 N m x_178 x_177
 else
 some x_162)
def laws_markText (N : Nat) (x_1 : Int) : Option (ByteArray) :=
 (if (decide (x_1 ≤ (0 : Int))) = true then
 some (⟨#[109, 48]⟩ : ByteArray)
 else
 joinP (fun (v_160 : ByteArray) =>
 (scat? (⟨#[109]⟩ : ByteArray) v_160).bind fun x_179 =>
 some x_179) fun j_160 =>
 (laws_markText_l1 N N x_1 (⟨#[]⟩ : ByteArray)).bind (fun (v_170 : ByteArray) => j_160 v_170))
theorem sem_laws_markText (N : Nat) (x_1 : Int) (r : ByteArray) (h : laws_markText N x_1 = some r) : Says Try.prog 157 [VI x_1] 0 [] (VS r) [] := by
  unfold laws_markText at h
  refine Says.of_run s157 Try.call157 rfl fun B hB => ?_
  have hm : B.m ≤ 1000 := by omega
  refine Run.seq ?_
  refine Run.ops hm ?_
  refine Ops.p rfl ?_
  refine Ops.nil ?_
  refine Run.seq ?_
  refine Run.seq ?_
  refine Run.ops hm ?_
  refine Ops.p rfl ?_
  refine Ops.p rfl ?_
  refine Ops.nil ?_
  refine Run.condO rfl h (fun g_141 h => ?_) (fun g_141 h => ?_)
  · skip
    refine Run.seq ?_
    refine Run.ops hm ?_
    refine Ops.p rfl ?_
    refine Ops.nil ?_
    refine Run.ret ?_
    obtain rfl := someO h
    exact Ends.mkG (.inl rfl) rfl (gh_pk [0] [] hB rfl rfl rfl rfl) rfl rfl
  · skip
    refine Run.skip ?_
    refine Run.seq ?_
    refine Run.ops hm ?_
    refine Ops.p rfl ?_
    refine Ops.nil ?_
    refine Run.seqO h (fun (v_160 : ByteArray) => [(3, VS v_160)]) (fun (v_160 : ByteArray) => []) (fun h => ?_) (fun v_160 h => ?_)
    · skip
      refine Run.block ?_
      obtain ⟨res_170, h, hk_170⟩ := bindO h
      refine Run.loop (n := N) (fun m_170 fr σ => ∃ (x_161 : Int), ∃ (x_162 : ByteArray), laws_markText_l1 N m_170 x_161 x_162 = some res_170 ∧ fr = [(0, VI x_161), (3, VS x_162)] ∧ σ = []) (gh_pk [0, 3] [] hB rfl rfl rfl rfl) ⟨_, _, h, rfl, rfl⟩ ?_
      rintro m_170 fr σ ⟨x_161, x_162, h, rfl, rfl⟩
      obtain _ | m_170 := m_170
      · rw [laws_markText_l1] at h; cases h
      rw [laws_markText_l1] at h
      refine Run.seq ?_
      refine Run.seq ?_
      refine Run.ops hm ?_
      refine Ops.p rfl ?_
      refine Ops.p rfl ?_
      refine Ops.nil ?_
      refine Run.condO rfl h (fun g_173 h => ?_) (fun g_173 h => ?_)
      · skip
        refine Run.skip ?_
        refine Run.block ?_
        refine Run.seq ?_
        refine Run.ops hm ?_
        refine Ops.p rfl ?_
        obtain ⟨x_176, hx_176, h⟩ := bindO h
        refine Ops.st (s := 21496) (.bin rfl rfl hx_176) rfl rfl ?_
        refine Ops.p rfl ?_
        refine Ops.p rfl ?_
        refine Ops.st (s := 21544) (Ev.bsW (ys := ([IntKind.wrap .u8 (w64 ((48 : Int) + x_176))] : List Int)) (f := encU) rfl (.cons (.c _) .nil) rfl rfl rfl rfl rfl) rfl rfl ?_
        refine Ops.st (s := 21560) (.sbC (addsW (f := encU) rfl rfl rfl (fun _ => rfl))) rfl rfl ?_
        refine Ops.p rfl ?_
        obtain ⟨x_177, hx_177, h⟩ := bindO h
        refine Ops.st (s := 21592) (Ev.addS rfl rfl hx_177) rfl rfl ?_
        refine Ops.p rfl ?_
        refine Ops.nil ?_
        refine Run.ops hm ?_
        refine Ops.p rfl ?_
        obtain ⟨x_178, hx_178, h⟩ := bindO h
        refine Ops.st (s := 25592) (.bin rfl rfl hx_178) rfl rfl ?_
        refine Ops.p rfl ?_
        refine Ops.nil ?_
        exact ⟨m_170, Nat.lt_succ_self m_170, _, _, (gh_pk [0, 3] [] hB rfl rfl rfl rfl), _, _, h, rfl, rfl⟩
      · skip
        refine Run.exit ?_
        obtain rfl := someO h
        have h := hk_170
        exact ⟨_, _, (gh_pk [3] [] hB rfl rfl rfl rfl), x_162, h, rfl, rfl⟩
    · skip
      refine Run.seq ?_
      refine Run.ops hm ?_
      refine Ops.p rfl ?_
      obtain ⟨x_179, hx_179, h⟩ := bindO h
      refine Ops.st (s := 29688) (Ev.addS rfl rfl hx_179) rfl rfl ?_
      refine Ops.p rfl ?_
      refine Ops.nil ?_
      refine Run.ret ?_
      obtain rfl := someO h
      exact Ends.mkG (.inl rfl) rfl (gh_pk [0] [] hB rfl rfl rfl rfl) rfl rfl
def laws_markEntryS_l1 (N : Nat) : Nat → Int → Int → (List Entry) → Option (Int × (List Entry))
 | 0, _, _, _ => none
 | m + 1, x_225, x_226, x_227 =>
 (if (decide (x_226 < ((x_227.length : Nat) : Int))) = true then
 (at? x_227 x_226).bind fun x_259 =>
 (at? (x_227.set x_226.toNat (Entry.mk x_225 x_259.Kind x_259.Data)) x_226).bind fun x_261 =>
 (laws_markText N (w64 ((w64 (x_225 + (1 : Int))) + (1 : Int)))).bind fun y_264 =>
 (at? ((x_227.set x_226.toNat (Entry.mk x_225 x_259.Kind x_259.Data)).set x_226.toNat (Entry.mk x_261.Term (w64 (x_225 + (1 : Int))) x_261.Data)) x_226).bind fun x_265 =>
 laws_markEntryS_l1 N m (w64 ((w64 ((w64 (x_225 + (1 : Int))) + (1 : Int))) + (1 : Int))) (w64 (x_226 + (1 : Int))) (((x_227.set x_226.toNat (Entry.mk x_225 x_259.Kind x_259.Data)).set x_226.toNat (Entry.mk x_261.Term (w64 (x_225 + (1 : Int))) x_261.Data)).set x_226.toNat (Entry.mk x_265.Term x_265.Kind y_264))
 else
 some (x_225, x_227))
def laws_markEntryS (N : Nat) (x_1 : (List Entry)) (x_2 : Int) : Option (Int × (List Entry)) :=
 joinP (fun (v_224 : Int × (List Entry)) =>
 some (v_224.1, v_224.2)) fun j_224 =>
 (laws_markEntryS_l1 N N x_2 (0 : Int) x_1).bind (fun (v_246 : Int × (List Entry)) => j_224 (v_246.1, v_246.2))
theorem sem_laws_markEntryS (N : Nat) (x_1 : (List Entry)) (x_2 : Int) (r : Int × (List Entry)) (h : laws_markEntryS N x_1 x_2 = some r) : Says Try.prog 146 [.sl 0 48 0 x_1.length, VI x_2] 1 [(0, .vec 48 (x_1.map encEntry))] (VI r.1) [(0, .vec 48 (r.2.map encEntry))] := by
  unfold laws_markEntryS at h
  refine Says.of_run s146 Try.call146 rfl fun B hB => ?_
  have hm : B.m ≤ 1000 := by omega
  refine Run.seq ?_
  refine Run.ops hm ?_
  refine Ops.p rfl ?_
  refine Ops.nil ?_
  refine Run.seqO h (fun (v_224 : Int × (List Entry)) => [(1, VI v_224.1)]) (fun (v_224 : Int × (List Entry)) => [(0, .vec 48 (v_224.2.map encEntry))]) (fun h => ?_) (fun v_224 h => ?_)
  · skip
    refine Run.seq ?_
    refine Run.ops hm ?_
    refine Ops.p rfl ?_
    refine Ops.nil ?_
    refine Run.block ?_
    obtain ⟨res_246, h, hk_246⟩ := bindO h
    refine Run.loop (n := N) (fun m_246 fr σ => ∃ (x_225 : Int), ∃ (x_226 : Int), ∃ (x_227 : (List Entry)), laws_markEntryS_l1 N m_246 x_225 x_226 x_227 = some res_246 ∧ fr = [(0, .sl 0 48 0 x_227.length), (1, VI x_225), (5, VI x_226)] ∧ σ = [(0, .vec 48 (x_227.map encEntry))]) (gh_pk [0, 1, 5] [0] hB rfl rfl rfl rfl) ⟨_, _, _, h, rfl, rfl⟩ ?_
    rintro m_246 fr σ ⟨x_225, x_226, x_227, h, rfl, rfl⟩
    obtain _ | m_246 := m_246
    · rw [laws_markEntryS_l1] at h; cases h
    rw [laws_markEntryS_l1] at h
    refine Run.seq ?_
    refine Run.seq ?_
    refine Run.ops hm ?_
    refine Ops.p rfl ?_
    refine Ops.p rfl ?_
    refine Ops.p rfl ?_
    refine Ops.p rfl ?_
    refine Ops.nil ?_
    refine Run.condO rfl h (fun g_249 h => ?_) (fun g_249 h => ?_)
    · skip
      refine Run.skip ?_
      refine Run.seq ?_
      refine Run.block ?_
      refine Run.seq ?_
      refine Run.ops hm ?_
      refine Ops.p rfl ?_
      refine Ops.p rfl ?_
      refine Ops.p rfl ?_
      obtain ⟨x_259, hx_259, h⟩ := bindO h
      refine Ops.st (s := 17432) (Ev.iaW rfl rfl rfl hx_259) rfl rfl ?_
      refine Ops.p rfl ?_
      refine Ops.s0 (s := 17464) (Ev.stE (f := encEntry) (v' := (Entry.mk x_225 x_259.Kind x_259.Data)) rfl rfl (at_some hx_259).2 rfl (.cons (.c _) .nil) rfl rfl rfl rfl rfl) rfl rfl ?_
      refine Ops.nil ?_
      refine Run.seq ?_
      refine Run.ops hm ?_
      refine Ops.p rfl ?_
      refine Ops.p rfl ?_
      refine Ops.p rfl ?_
      refine Ops.nil ?_
      refine Run.seq ?_
      refine Run.ops hm ?_
      refine Ops.p rfl ?_
      refine Ops.p rfl ?_
      refine Ops.p rfl ?_
      obtain ⟨x_261, hx_261, h⟩ := bindO h
      refine Ops.st (s := 25624) (Ev.iaW rfl (by simp) rfl hx_261) rfl rfl ?_
      refine Ops.p rfl ?_
      refine Ops.s0 (s := 25656) (Ev.stE (f := encEntry) (v' := (Entry.mk x_261.Term (w64 (x_225 + (1 : Int))) x_261.Data)) rfl rfl (at_some hx_261).2 rfl (.cons (.c _) .nil) rfl rfl rfl rfl rfl) rfl rfl ?_
      refine Ops.nil ?_
      refine Run.seq ?_
      refine Run.ops hm ?_
      refine Ops.p rfl ?_
      refine Ops.p rfl ?_
      refine Ops.p rfl ?_
      refine Ops.nil ?_
      refine Run.seq ?_
      refine Run.ops hm ?_
      refine Ops.p rfl ?_
      refine Ops.p rfl ?_
      refine Ops.p rfl ?_
      obtain ⟨y_264, hy_264, h⟩ := bindO h
      refine Ops.st (s := 33816) (Ev.call [] [] 0 (sem_laws_markText N (w64 ((w64 (x_225 + (1 : Int))) + (1 : Int))) _ hy_264) rfl rfl (.cons (.c _) .nil) rfl (.inl rfl) rfl rfl) rfl rfl ?_
      obtain ⟨x_265, hx_265, h⟩ := bindO h
      refine Ops.st (s := 33832) (Ev.iaW rfl (by simp) rfl hx_265) rfl rfl ?_
      refine Ops.p rfl ?_
      refine Ops.s0 (s := 33864) (Ev.stE (f := encEntry) (v' := (Entry.mk x_265.Term x_265.Kind y_264)) rfl rfl (at_some hx_265).2 rfl (.cons (.c _) .nil) rfl rfl rfl rfl rfl) rfl rfl ?_
      refine Ops.nil ?_
      refine Run.ops hm ?_
      refine Ops.p rfl ?_
      refine Ops.p rfl ?_
      refine Ops.p rfl ?_
      refine Ops.nil ?_
      refine Run.ops hm ?_
      refine Ops.p rfl ?_
      refine Ops.p rfl ?_
      refine Ops.p rfl ?_
      refine Ops.nil ?_
      exact ⟨m_246, Nat.lt_succ_self m_246, _, _, (gh_pk [0, 1, 5] [0] hB rfl rfl (by first | rfl | (simp only [List.length_set]; done) | (simp only [List.length_set]; rfl)) (by first | rfl | (simp only [List.length_set]; done) | (simp only [List.length_set]; rfl))), _, _, _, h, rfl, rfl⟩
    · skip
      refine Run.exit ?_
      obtain rfl := someO h
      have h := hk_246
      exact ⟨_, _, (gh_pk [1] [0] hB rfl rfl rfl rfl), (x_225, x_227), h, rfl, rfl⟩
  · skip
    refine Run.seq ?_
    refine Run.ops hm ?_
    refine Ops.p rfl ?_
    refine Ops.p rfl ?_
    refine Ops.nil ?_
    refine Run.ret ?_
    obtain rfl := someO h
    exact Ends.mkG (.inl rfl) rfl (gh_pk [0] [0] hB rfl rfl rfl rfl) rfl rfl
def laws_markLog (N : Nat) (x_1 : Log) (x_2 : Int) : Option (Int × (List Entry)) :=
 (laws_markEntryS N x_1.Entries x_2).bind fun y_106 =>
 (len? x_1.Entries y_106.2).bind fun y_107 =>
 some (y_106.1, y_106.2)
theorem sem_laws_markLog (N : Nat) (x_1 : Log) (x_2 : Int) (r : Int × (List Entry)) (h : laws_markLog N x_1 x_2 = some r) : Says Try.prog 110 [.agg [VI x_1.Start, VI x_1.StartTerm, .sl 0 48 0 x_1.Entries.length], VI x_2] 1 [(0, .vec 48 (x_1.Entries.map encEntry))] (VI r.1) [(0, .vec 48 (r.2.map encEntry))] := by
  unfold laws_markLog at h
  refine Says.of_run s110 Try.call110 rfl fun B hB => ?_
  have hm : B.m ≤ 1000 := by omega
  refine Run.seq ?_
  refine Run.ops hm ?_
  refine Ops.st (s := 1000) (.bx rfl rfl) rfl rfl ?_
  refine Ops.p rfl ?_
  refine Ops.nil ?_
  refine Run.seq ?_
  refine Run.ops hm ?_
  refine Ops.p rfl ?_
  refine Ops.p rfl ?_
  refine Ops.p rfl ?_
  obtain ⟨y_106, hy_106, h⟩ := bindO h
  obtain ⟨y_107, hy_107, h⟩ := bindO h
  refine Ops.st (s := 5144) (Ev.call [0] [] 0 (sem_laws_markEntryS N x_1.Entries x_2 _ hy_106) rfl rfl (.cons (.sl rfl) (.cons (.c _) .nil)) rfl (.inl rfl) rfl rfl) rfl rfl ?_
  refine Ops.p rfl ?_
  refine Ops.nil ?_
  refine Run.seq ?_
  refine Run.ops hm ?_
  refine Ops.p rfl ?_
  refine Ops.p rfl ?_
  refine Ops.nil ?_
  refine Run.ret ?_
  obtain rfl := someO h
  exact Ends.mkG (.inl rfl) rfl (gh_pk [0] [0] hB rfl rfl rfl rfl) (by first | rfl | (simp only [List.length_set, (len_some hy_107)]; done) | (simp only [List.length_set, (len_some hy_107)]; rfl)) (by first | rfl | (simp only [List.length_set, (len_some hy_107)]; done) | (simp only [List.length_set, (len_some hy_107)]; rfl))
def laws_markPeerS_l1 (N : Nat) : Nat → Int → Int → (List Peer) → Option (Int × (List Peer))
 | 0, _, _, _ => none
 | m + 1, x_225, x_226, x_227 =>
 (if (decide (x_226 < ((x_227.length : Nat) : Int))) = true then
 (at? x_227 x_226).bind fun x_259 =>
 (at? (x_227.set x_226.toNat (Peer.mk x_225 x_259.Next x_259.Match x_259.Sent)) x_226).bind fun x_261 =>
 (at? ((x_227.set x_226.toNat (Peer.mk x_225 x_259.Next x_259.Match x_259.Sent)).set x_226.toNat (Peer.mk x_261.Id (w64 (x_225 + (1 : Int))) x_261.Match x_261.Sent)) x_226).bind fun x_263 =>
 (at? (((x_227.set x_226.toNat (Peer.mk x_225 x_259.Next x_259.Match x_259.Sent)).set x_226.toNat (Peer.mk x_261.Id (w64 (x_225 + (1 : Int))) x_261.Match x_261.Sent)).set x_226.toNat (Peer.mk x_263.Id x_263.Next (w64 ((w64 (x_225 + (1 : Int))) + (1 : Int))) x_263.Sent)) x_226).bind fun x_265 =>
 laws_markPeerS_l1 N m (w64 ((w64 ((w64 ((w64 (x_225 + (1 : Int))) + (1 : Int))) + (1 : Int))) + (1 : Int))) (w64 (x_226 + (1 : Int))) ((((x_227.set x_226.toNat (Peer.mk x_225 x_259.Next x_259.Match x_259.Sent)).set x_226.toNat (Peer.mk x_261.Id (w64 (x_225 + (1 : Int))) x_261.Match x_261.Sent)).set x_226.toNat (Peer.mk x_263.Id x_263.Next (w64 ((w64 (x_225 + (1 : Int))) + (1 : Int))) x_263.Sent)).set x_226.toNat (Peer.mk x_265.Id x_265.Next x_265.Match (w64 ((w64 ((w64 (x_225 + (1 : Int))) + (1 : Int))) + (1 : Int)))))
 else
 some (x_225, x_227))
def laws_markPeerS (N : Nat) (x_1 : (List Peer)) (x_2 : Int) : Option (Int × (List Peer)) :=
 joinP (fun (v_224 : Int × (List Peer)) =>
 some (v_224.1, v_224.2)) fun j_224 =>
 (laws_markPeerS_l1 N N x_2 (0 : Int) x_1).bind (fun (v_246 : Int × (List Peer)) => j_224 (v_246.1, v_246.2))
theorem sem_laws_markPeerS (N : Nat) (x_1 : (List Peer)) (x_2 : Int) (r : Int × (List Peer)) (h : laws_markPeerS N x_1 x_2 = some r) : Says Try.prog 111 [.sl 0 172 0 x_1.length, VI x_2] 1 [(0, .vec 172 (x_1.map encPeer))] (VI r.1) [(0, .vec 172 (r.2.map encPeer))] := by
  unfold laws_markPeerS at h
  refine Says.of_run s111 Try.call111 rfl fun B hB => ?_
  have hm : B.m ≤ 1000 := by omega
  refine Run.seq ?_
  refine Run.ops hm ?_
  refine Ops.p rfl ?_
  refine Ops.nil ?_
  refine Run.seqO h (fun (v_224 : Int × (List Peer)) => [(1, VI v_224.1)]) (fun (v_224 : Int × (List Peer)) => [(0, .vec 172 (v_224.2.map encPeer))]) (fun h => ?_) (fun v_224 h => ?_)
  · skip
    refine Run.seq ?_
    refine Run.ops hm ?_
    refine Ops.p rfl ?_
    refine Ops.nil ?_
    refine Run.block ?_
    obtain ⟨res_246, h, hk_246⟩ := bindO h
    refine Run.loop (n := N) (fun m_246 fr σ => ∃ (x_225 : Int), ∃ (x_226 : Int), ∃ (x_227 : (List Peer)), laws_markPeerS_l1 N m_246 x_225 x_226 x_227 = some res_246 ∧ fr = [(0, .sl 0 172 0 x_227.length), (1, VI x_225), (5, VI x_226)] ∧ σ = [(0, .vec 172 (x_227.map encPeer))]) (gh_pk [0, 1, 5] [0] hB rfl rfl rfl rfl) ⟨_, _, _, h, rfl, rfl⟩ ?_
    rintro m_246 fr σ ⟨x_225, x_226, x_227, h, rfl, rfl⟩
    obtain _ | m_246 := m_246
    · rw [laws_markPeerS_l1] at h; cases h
    rw [laws_markPeerS_l1] at h
    refine Run.seq ?_
    refine Run.seq ?_
    refine Run.ops hm ?_
    refine Ops.p rfl ?_
    refine Ops.p rfl ?_
    refine Ops.p rfl ?_
    refine Ops.p rfl ?_
    refine Ops.nil ?_
    refine Run.condO rfl h (fun g_249 h => ?_) (fun g_249 h => ?_)
    · skip
      refine Run.skip ?_
      refine Run.seq ?_
      refine Run.block ?_
      refine Run.seq ?_
      refine Run.ops hm ?_
      refine Ops.p rfl ?_
      refine Ops.p rfl ?_
      refine Ops.p rfl ?_
      obtain ⟨x_259, hx_259, h⟩ := bindO h
      refine Ops.st (s := 17432) (Ev.iaW rfl rfl rfl hx_259) rfl rfl ?_
      refine Ops.p rfl ?_
      refine Ops.s0 (s := 17464) (Ev.stE (f := encPeer) (v' := (Peer.mk x_225 x_259.Next x_259.Match x_259.Sent)) rfl rfl (at_some hx_259).2 rfl (.cons (.c _) .nil) rfl rfl rfl rfl rfl) rfl rfl ?_
      refine Ops.nil ?_
      refine Run.seq ?_
      refine Run.ops hm ?_
      refine Ops.p rfl ?_
      refine Ops.p rfl ?_
      refine Ops.p rfl ?_
      refine Ops.nil ?_
      refine Run.seq ?_
      refine Run.ops hm ?_
      refine Ops.p rfl ?_
      refine Ops.p rfl ?_
      refine Ops.p rfl ?_
      obtain ⟨x_261, hx_261, h⟩ := bindO h
      refine Ops.st (s := 25624) (Ev.iaW rfl (by simp) rfl hx_261) rfl rfl ?_
      refine Ops.p rfl ?_
      refine Ops.s0 (s := 25656) (Ev.stE (f := encPeer) (v' := (Peer.mk x_261.Id (w64 (x_225 + (1 : Int))) x_261.Match x_261.Sent)) rfl rfl (at_some hx_261).2 rfl (.cons (.c _) .nil) rfl rfl rfl rfl rfl) rfl rfl ?_
      refine Ops.nil ?_
      refine Run.seq ?_
      refine Run.ops hm ?_
      refine Ops.p rfl ?_
      refine Ops.p rfl ?_
      refine Ops.p rfl ?_
      refine Ops.nil ?_
      refine Run.seq ?_
      refine Run.ops hm ?_
      refine Ops.p rfl ?_
      refine Ops.p rfl ?_
      refine Ops.p rfl ?_
      obtain ⟨x_263, hx_263, h⟩ := bindO h
      refine Ops.st (s := 33816) (Ev.iaW rfl (by simp) rfl hx_263) rfl rfl ?_
      refine Ops.p rfl ?_
      refine Ops.s0 (s := 33848) (Ev.stE (f := encPeer) (v' := (Peer.mk x_263.Id x_263.Next (w64 ((w64 (x_225 + (1 : Int))) + (1 : Int))) x_263.Sent)) rfl rfl (at_some hx_263).2 rfl (.cons (.c _) .nil) rfl rfl rfl rfl rfl) rfl rfl ?_
      refine Ops.nil ?_
      refine Run.seq ?_
      refine Run.ops hm ?_
      refine Ops.p rfl ?_
      refine Ops.p rfl ?_
      refine Ops.p rfl ?_
      refine Ops.nil ?_
      refine Run.seq ?_
      refine Run.ops hm ?_
      refine Ops.p rfl ?_
      refine Ops.p rfl ?_
      refine Ops.p rfl ?_
      obtain ⟨x_265, hx_265, h⟩ := bindO h
      refine Ops.st (s := 42008) (Ev.iaW rfl (by simp) rfl hx_265) rfl rfl ?_
      refine Ops.p rfl ?_
      refine Ops.s0 (s := 42040) (Ev.stE (f := encPeer) (v' := (Peer.mk x_265.Id x_265.Next x_265.Match (w64 ((w64 ((w64 (x_225 + (1 : Int))) + (1 : Int))) + (1 : Int))))) rfl rfl (at_some hx_265).2 rfl (.cons (.c _) .nil) rfl rfl rfl rfl rfl) rfl rfl ?_
      refine Ops.nil ?_
      refine Run.ops hm ?_
      refine Ops.p rfl ?_
      refine Ops.p rfl ?_
      refine Ops.p rfl ?_
      refine Ops.nil ?_
      refine Run.ops hm ?_
      refine Ops.p rfl ?_
      refine Ops.p rfl ?_
      refine Ops.p rfl ?_
      refine Ops.nil ?_
      exact ⟨m_246, Nat.lt_succ_self m_246, _, _, (gh_pk [0, 1, 5] [0] hB rfl rfl (by first | rfl | (simp only [List.length_set]; done) | (simp only [List.length_set]; rfl)) (by first | rfl | (simp only [List.length_set]; done) | (simp only [List.length_set]; rfl))), _, _, _, h, rfl, rfl⟩
    · skip
      refine Run.exit ?_
      obtain rfl := someO h
      have h := hk_246
      exact ⟨_, _, (gh_pk [1] [0] hB rfl rfl rfl rfl), (x_225, x_227), h, rfl, rfl⟩
  · skip
    refine Run.seq ?_
    refine Run.ops hm ?_
    refine Ops.p rfl ?_
    refine Ops.p rfl ?_
    refine Ops.nil ?_
    refine Run.ret ?_
    obtain rfl := someO h
    exact Ends.mkG (.inl rfl) rfl (gh_pk [0] [0] hB rfl rfl rfl rfl) rfl rfl
def laws_markNode (N : Nat) (x_1 : Node) (x_2 : Int) : Option (Int × (List Int) × (List Entry) × (List Int) × (List Peer)) :=
 (laws_markIntS N x_1.Conf x_2).bind fun y_118 =>
 (len? x_1.Conf y_118.2).bind fun y_119 =>
 (laws_markLog N x_1.Log y_118.1).bind fun y_122 =>
 (len? x_1.Log.Entries y_122.2).bind fun y_123 =>
 (laws_markIntS N x_1.Votes y_122.1).bind fun y_126 =>
 (len? x_1.Votes y_126.2).bind fun y_127 =>
 (laws_markPeerS N x_1.Peers y_126.1).bind fun y_130 =>
 (len? x_1.Peers y_130.2).bind fun y_131 =>
 some (y_130.1, y_118.2, y_122.2, y_126.2, y_130.2)
theorem sem_laws_markNode (N : Nat) (x_1 : Node) (x_2 : Int) (r : Int × (List Int) × (List Entry) × (List Int) × (List Peer)) (h : laws_markNode N x_1 x_2 = some r) : Says Try.prog 51 [.agg [VI x_1.Id, VI x_1.Term, VI x_1.Vote, VI x_1.Role, VI x_1.Lead, .sl 0 3 0 x_1.Conf.length, VI x_1.Log.Start, VI x_1.Log.StartTerm, .sl 1 48 0 x_1.Log.Entries.length, VI x_1.Commit, VI x_1.Clock, VI x_1.Limit, .sl 2 3 0 x_1.Votes.length, .sl 3 172 0 x_1.Peers.length], VI x_2] 4 [(0, .vec 3 (x_1.Conf.map encI)), (1, .vec 48 (x_1.Log.Entries.map encEntry)), (2, .vec 3 (x_1.Votes.map encI)), (3, .vec 172 (x_1.Peers.map encPeer))] (VI r.1) [(0, .vec 3 (r.2.1.map encI)), (1, .vec 48 (r.2.2.1.map encEntry)), (2, .vec 3 (r.2.2.2.1.map encI)), (3, .vec 172 (r.2.2.2.2.map encPeer))] := by
  unfold laws_markNode at h
  refine Says.of_run s51 Try.call51 rfl fun B hB => ?_
  have hm : B.m ≤ 1000 := by omega
  refine Run.seq ?_
  refine Run.ops hm ?_
  refine Ops.st (s := 1000) (.bx rfl rfl) rfl rfl ?_
  refine Ops.p rfl ?_
  refine Ops.nil ?_
  refine Run.seq ?_
  refine Run.ops hm ?_
  refine Ops.p rfl ?_
  refine Ops.p rfl ?_
  refine Ops.p rfl ?_
  obtain ⟨y_118, hy_118, h⟩ := bindO h
  obtain ⟨y_119, hy_119, h⟩ := bindO h
  refine Ops.st (s := 5144) (Ev.call [0] [] 0 (sem_laws_markIntS N x_1.Conf x_2 _ hy_118) rfl rfl (.cons (.sl rfl) (.cons (.c _) .nil)) rfl (.inl rfl) rfl rfl) rfl rfl ?_
  refine Ops.p rfl ?_
  refine Ops.nil ?_
  refine Run.seq ?_
  refine Run.ops hm ?_
  refine Ops.p rfl ?_
  refine Ops.p rfl ?_
  refine Ops.p rfl ?_
  obtain ⟨y_122, hy_122, h⟩ := bindO h
  obtain ⟨y_123, hy_123, h⟩ := bindO h
  refine Ops.st (s := 9240) (Ev.call [1] [] 0 (sem_laws_markLog N x_1.Log y_118.1 _ hy_122) rfl rfl (.cons (.agg (.cons (.c _) (.cons (.c _) (.cons (.sl rfl) .nil)))) (.cons (.c _) .nil)) rfl (.inl rfl) rfl rfl) rfl rfl ?_
  refine Ops.p rfl ?_
  refine Ops.nil ?_
  refine Run.seq ?_
  refine Run.ops hm ?_
  refine Ops.p rfl ?_
  refine Ops.p rfl ?_
  refine Ops.p rfl ?_
  obtain ⟨y_126, hy_126, h⟩ := bindO h
  obtain ⟨y_127, hy_127, h⟩ := bindO h
  refine Ops.st (s := 13336) (Ev.call [2] [] 0 (sem_laws_markIntS N x_1.Votes y_122.1 _ hy_126) rfl rfl (.cons (.sl rfl) (.cons (.c _) .nil)) rfl (.inl rfl) rfl rfl) rfl rfl ?_
  refine Ops.p rfl ?_
  refine Ops.nil ?_
  refine Run.seq ?_
  refine Run.ops hm ?_
  refine Ops.p rfl ?_
  refine Ops.p rfl ?_
  refine Ops.p rfl ?_
  obtain ⟨y_130, hy_130, h⟩ := bindO h
  obtain ⟨y_131, hy_131, h⟩ := bindO h
  refine Ops.st (s := 17432) (Ev.call [3] [] 0 (sem_laws_markPeerS N x_1.Peers y_126.1 _ hy_130) rfl rfl (.cons (.sl rfl) (.cons (.c _) .nil)) rfl (.inl rfl) rfl rfl) rfl rfl ?_
  refine Ops.p rfl ?_
  refine Ops.nil ?_
  refine Run.seq ?_
  refine Run.ops hm ?_
  refine Ops.p rfl ?_
  refine Ops.p rfl ?_
  refine Ops.nil ?_
  refine Run.ret ?_
  obtain rfl := someO h
  exact Ends.mkG (.inl rfl) rfl (gh_pk [0] [0, 1, 2, 3] hB rfl rfl rfl rfl) (by first | rfl | (simp only [List.length_set, (len_some hy_119), (len_some hy_123), (len_some hy_127), (len_some hy_131)]; done) | (simp only [List.length_set, (len_some hy_119), (len_some hy_123), (len_some hy_127), (len_some hy_131)]; rfl)) (by first | rfl | (simp only [List.length_set, (len_some hy_119), (len_some hy_123), (len_some hy_127), (len_some hy_131)]; done) | (simp only [List.length_set, (len_some hy_119), (len_some hy_123), (len_some hy_127), (len_some hy_131)]; rfl))
def laws_heldIntS_l1 (N : Nat) (x_1 : (List Int)) : Nat → Int → Int → Option ((Int) ⊕ (Int))
 | 0, _, _ => none
 | m + 1, x_181, x_182 =>
 (if (decide (x_182 < (x_1.length : Int))) = true then
 (at? x_1 x_182).bind fun x_204 =>
 (if (x_204 != x_181) = true then
 some (Sum.inl (-1 : Int))
 else
 laws_heldIntS_l1 N x_1 m (w64 (x_181 + (1 : Int))) (w64 (x_182 + (1 : Int))))
 else
 some (Sum.inr x_181))
def laws_heldIntS_l1_r (N : Nat) (x_1 : (List Int)) : (List Int) → Int → Int → Option ((Int) ⊕ (Int))
 | [], x_181, x_182 =>
 some (Sum.inr x_181)
 | hd :: tl, x_181, x_182 =>
 (some hd).bind fun x_204 =>
 (if (x_204 != x_181) = true then
 some (Sum.inl (-1 : Int))
 else
 laws_heldIntS_l1_r N x_1 tl (w64 (x_181 + (1 : Int))) (w64 (x_182 + (1 : Int))))
theorem laws_heldIntS_l1_rng (N : Nat) (x_1 : (List Int)) (hx : x_1.length ≤ 1099511627776) : ∀ (d k m : Nat) (x_181 : Int), x_1.length = k + d → d < m → laws_heldIntS_l1 N x_1 m x_181 (k : Int) = laws_heldIntS_l1_r N x_1 (x_1.drop k) x_181 (k : Int) := by
  intro d
  induction d with
  | zero =>
    intro k m x_181 hd hm
    obtain ⟨m, rfl⟩ : ∃ q, m = q + 1 := ⟨m - 1, by omega⟩
    rw [laws_heldIntS_l1, if_neg (by simp; omega), List.drop_eq_nil_of_le (by omega), laws_heldIntS_l1_r]
  | succ d ih =>
    intro k m x_181 hd hm
    obtain ⟨m, rfl⟩ : ∃ q, m = q + 1 := ⟨m - 1, by omega⟩
    have hk : k < x_1.length := by omega
    rw [laws_heldIntS_l1, if_pos (by simp; omega), List.drop_eq_getElem_cons hk, laws_heldIntS_l1_r]
    have h1 := at_lt hk
    have h2 := w64_succ (k := k) (by omega)
    have h3 := ih (k + 1) m
    simp only [h1, h2, h3 _ (by omega) (by omega)]
theorem laws_heldIntS_l1_eq {N : Nat} (x_1 : (List Int)) (hx : x_1.length ≤ 1099511627776) (hN : x_1.length < N) (x_181 : Int) : laws_heldIntS_l1 N x_1 N x_181 0 = laws_heldIntS_l1_r N x_1 x_1 x_181 0 := laws_heldIntS_l1_rng N x_1 hx x_1.length 0 N x_181 (by omega) hN
def laws_heldIntS (N : Nat) (x_1 : (List Int)) (x_2 : Int) : Option (Int) :=
 joinP (fun (v_179 : Int) =>
 some v_179) fun j_179 =>
 (laws_heldIntS_l1 N x_1 N x_2 (0 : Int)).bind (Sum.elim (fun v_193 => some v_193) (fun (v_194 : Int) => j_179 v_194))
theorem sem_laws_heldIntS (N : Nat) (x_1 : (List Int)) (x_2 : Int) (r : Int) (h : laws_heldIntS N x_1 x_2 = some r) : Says Try.prog 53 [RO 3 (x_1.map encI), VI x_2] 0 [] (VI r) [] := by
  unfold laws_heldIntS at h
  refine Says.of_run s53 Try.call53 rfl fun B hB => ?_
  have hm : B.m ≤ 1000 := by omega
  refine Run.seq ?_
  refine Run.ops hm ?_
  refine Ops.p rfl ?_
  refine Ops.nil ?_
  refine Run.seqO h (fun (v_179 : Int) => [(1, VI v_179)]) (fun (v_179 : Int) => []) (fun h => ?_) (fun v_179 h => ?_)
  · skip
    refine Run.seq ?_
    refine Run.ops hm ?_
    refine Ops.p rfl ?_
    refine Ops.nil ?_
    refine Run.block ?_
    obtain ⟨res_194, h, hk_194⟩ := bindO h
    refine Run.loop (n := N) (fun m_194 fr σ => ∃ (x_181 : Int), ∃ (x_182 : Int), laws_heldIntS_l1 N x_1 m_194 x_181 x_182 = some res_194 ∧ fr = [(0, RO 3 (x_1.map encI)), (1, VI x_181), (5, VI x_182)] ∧ σ = []) (gh_pk [0, 1, 5] [] hB rfl rfl rfl rfl) ⟨_, _, h, rfl, rfl⟩ ?_
    rintro m_194 fr σ ⟨x_181, x_182, h, rfl, rfl⟩
    obtain _ | m_194 := m_194
    · rw [laws_heldIntS_l1] at h; cases h
    rw [laws_heldIntS_l1] at h
    refine Run.seq ?_
    refine Run.seq ?_
    refine Run.ops hm ?_
    refine Ops.p rfl ?_
    refine Ops.p rfl ?_
    refine Ops.st (s := 9224) (Ev.lnF rfl) rfl rfl ?_
    refine Ops.p rfl ?_
    refine Ops.nil ?_
    refine Run.condO rfl h (fun g_197 h => ?_) (fun g_197 h => ?_)
    · skip
      refine Run.skip ?_
      refine Run.seq ?_
      refine Run.block ?_
      refine Run.seq ?_
      refine Run.seq ?_
      refine Run.ops hm ?_
      refine Ops.p rfl ?_
      refine Ops.p rfl ?_
      obtain ⟨x_204, hx_204, h⟩ := bindO h
      refine Ops.st (s := 17416) (Ev.iaF rfl rfl hx_204) rfl rfl ?_
      refine Ops.p rfl ?_
      refine Ops.p rfl ?_
      refine Ops.p rfl ?_
      refine Ops.nil ?_
      refine Run.condO rfl h (fun g_205 h => ?_) (fun g_205 h => ?_)
      · skip
        refine Run.seq ?_
        refine Run.ops hm ?_
        refine Ops.p rfl ?_
        refine Ops.nil ?_
        refine Run.ret ?_
        obtain rfl := someO h
        have h := hk_194
        replace h := inlO h
        obtain rfl := someO h
        exact Ends.mkG (.inl rfl) rfl (gh_pk [0] [] hB rfl rfl rfl rfl) rfl rfl
      · skip
        refine Run.skip ?_
        refine Run.ops hm ?_
        refine Ops.p rfl ?_
        refine Ops.p rfl ?_
        refine Ops.p rfl ?_
        refine Ops.nil ?_
        refine Run.ops hm ?_
        refine Ops.p rfl ?_
        refine Ops.p rfl ?_
        refine Ops.p rfl ?_
        refine Ops.nil ?_
        exact ⟨m_194, Nat.lt_succ_self m_194, _, _, (gh_pk [0, 1, 5] [] hB rfl rfl rfl rfl), _, _, h, rfl, rfl⟩
    · skip
      refine Run.exit ?_
      obtain rfl := someO h
      have h := hk_194
      replace h := inrO h
      exact ⟨_, _, (gh_pk [1] [] hB rfl rfl rfl rfl), x_181, h, rfl, rfl⟩
  · skip
    refine Run.seq ?_
    refine Run.ops hm ?_
    refine Ops.p rfl ?_
    refine Ops.p rfl ?_
    refine Ops.nil ?_
    refine Run.ret ?_
    obtain rfl := someO h
    exact Ends.mkG (.inl rfl) rfl (gh_pk [0] [] hB rfl rfl rfl rfl) rfl rfl
def laws_heldEntryS_l1 (N : Nat) (x_1 : (List Entry)) : Nat → Int → Int → Option ((Int) ⊕ (Int))
 | 0, _, _ => none
 | m + 1, x_301, x_302 =>
 (if (decide (x_302 < (x_1.length : Int))) = true then
 (at? x_1 x_302).bind fun x_354 =>
 (if (x_354.Term != x_301) = true then
 some (Sum.inl (-1 : Int))
 else
 (at? x_1 x_302).bind fun x_358 =>
 (if (x_358.Kind != (w64 (x_301 + (1 : Int)))) = true then
 some (Sum.inl (-1 : Int))
 else
 (at? x_1 x_302).bind fun x_363 =>
 (laws_markText N (w64 ((w64 (x_301 + (1 : Int))) + (1 : Int)))).bind fun y_364 =>
 (if (!decide (x_363.Data = y_364)) = true then
 some (Sum.inl (-1 : Int))
 else
 laws_heldEntryS_l1 N x_1 m (w64 ((w64 ((w64 (x_301 + (1 : Int))) + (1 : Int))) + (1 : Int))) (w64 (x_302 + (1 : Int))))))
 else
 some (Sum.inr x_301))
def laws_heldEntryS_l1_r (N : Nat) (x_1 : (List Entry)) : (List Entry) → Int → Int → Option ((Int) ⊕ (Int))
 | [], x_301, x_302 =>
 some (Sum.inr x_301)
 | hd :: tl, x_301, x_302 =>
 (some hd).bind fun x_354 =>
 (if (x_354.Term != x_301) = true then
 some (Sum.inl (-1 : Int))
 else
 (some hd).bind fun x_358 =>
 (if (x_358.Kind != (w64 (x_301 + (1 : Int)))) = true then
 some (Sum.inl (-1 : Int))
 else
 (some hd).bind fun x_363 =>
 (laws_markText N (w64 ((w64 (x_301 + (1 : Int))) + (1 : Int)))).bind fun y_364 =>
 (if (!decide (x_363.Data = y_364)) = true then
 some (Sum.inl (-1 : Int))
 else
 laws_heldEntryS_l1_r N x_1 tl (w64 ((w64 ((w64 (x_301 + (1 : Int))) + (1 : Int))) + (1 : Int))) (w64 (x_302 + (1 : Int))))))
theorem laws_heldEntryS_l1_rng (N : Nat) (x_1 : (List Entry)) (hx : x_1.length ≤ 1099511627776) : ∀ (d k m : Nat) (x_301 : Int), x_1.length = k + d → d < m → laws_heldEntryS_l1 N x_1 m x_301 (k : Int) = laws_heldEntryS_l1_r N x_1 (x_1.drop k) x_301 (k : Int) := by
  intro d
  induction d with
  | zero =>
    intro k m x_301 hd hm
    obtain ⟨m, rfl⟩ : ∃ q, m = q + 1 := ⟨m - 1, by omega⟩
    rw [laws_heldEntryS_l1, if_neg (by simp; omega), List.drop_eq_nil_of_le (by omega), laws_heldEntryS_l1_r]
  | succ d ih =>
    intro k m x_301 hd hm
    obtain ⟨m, rfl⟩ : ∃ q, m = q + 1 := ⟨m - 1, by omega⟩
    have hk : k < x_1.length := by omega
    rw [laws_heldEntryS_l1, if_pos (by simp; omega), List.drop_eq_getElem_cons hk, laws_heldEntryS_l1_r]
    have h1 := at_lt hk
    have h2 := w64_succ (k := k) (by omega)
    have h3 := ih (k + 1) m
    simp only [h1, h2, h3 _ (by omega) (by omega)]
theorem laws_heldEntryS_l1_eq {N : Nat} (x_1 : (List Entry)) (hx : x_1.length ≤ 1099511627776) (hN : x_1.length < N) (x_301 : Int) : laws_heldEntryS_l1 N x_1 N x_301 0 = laws_heldEntryS_l1_r N x_1 x_1 x_301 0 := laws_heldEntryS_l1_rng N x_1 hx x_1.length 0 N x_301 (by omega) hN
def laws_heldEntryS (N : Nat) (x_1 : (List Entry)) (x_2 : Int) : Option (Int) :=
 joinP (fun (v_299 : Int) =>
 some v_299) fun j_299 =>
 (laws_heldEntryS_l1 N x_1 N x_2 (0 : Int)).bind (Sum.elim (fun v_333 => some v_333) (fun (v_334 : Int) => j_299 v_334))
theorem sem_laws_heldEntryS (N : Nat) (x_1 : (List Entry)) (x_2 : Int) (r : Int) (h : laws_heldEntryS N x_1 x_2 = some r) : Says Try.prog 156 [RO 48 (x_1.map encEntry), VI x_2] 0 [] (VI r) [] := by
  unfold laws_heldEntryS at h
  refine Says.of_run s156 Try.call156 rfl fun B hB => ?_
  have hm : B.m ≤ 1000 := by omega
  refine Run.seq ?_
  refine Run.ops hm ?_
  refine Ops.p rfl ?_
  refine Ops.nil ?_
  refine Run.seqO h (fun (v_299 : Int) => [(1, VI v_299)]) (fun (v_299 : Int) => []) (fun h => ?_) (fun v_299 h => ?_)
  · skip
    refine Run.seq ?_
    refine Run.ops hm ?_
    refine Ops.p rfl ?_
    refine Ops.nil ?_
    refine Run.block ?_
    obtain ⟨res_334, h, hk_334⟩ := bindO h
    refine Run.loop (n := N) (fun m_334 fr σ => ∃ (x_301 : Int), ∃ (x_302 : Int), laws_heldEntryS_l1 N x_1 m_334 x_301 x_302 = some res_334 ∧ fr = [(0, RO 48 (x_1.map encEntry)), (1, VI x_301), (5, VI x_302)] ∧ σ = []) (gh_pk [0, 1, 5] [] hB rfl rfl rfl rfl) ⟨_, _, h, rfl, rfl⟩ ?_
    rintro m_334 fr σ ⟨x_301, x_302, h, rfl, rfl⟩
    obtain _ | m_334 := m_334
    · rw [laws_heldEntryS_l1] at h; cases h
    rw [laws_heldEntryS_l1] at h
    refine Run.seq ?_
    refine Run.seq ?_
    refine Run.ops hm ?_
    refine Ops.p rfl ?_
    refine Ops.p rfl ?_
    refine Ops.st (s := 9224) (Ev.lnF rfl) rfl rfl ?_
    refine Ops.p rfl ?_
    refine Ops.nil ?_
    refine Run.condO rfl h (fun g_337 h => ?_) (fun g_337 h => ?_)
    · skip
      refine Run.skip ?_
      refine Run.seq ?_
      refine Run.block ?_
      refine Run.seq ?_
      refine Run.seq ?_
      refine Run.ops hm ?_
      refine Ops.p rfl ?_
      refine Ops.p rfl ?_
      obtain ⟨x_354, hx_354, h⟩ := bindO h
      refine Ops.st (s := 17416) (Ev.iaF rfl rfl hx_354) rfl rfl ?_
      refine Ops.p rfl ?_
      refine Ops.p rfl ?_
      refine Ops.p rfl ?_
      refine Ops.p rfl ?_
      refine Ops.nil ?_
      refine Run.condO rfl h (fun g_355 h => ?_) (fun g_355 h => ?_)
      · skip
        refine Run.seq ?_
        refine Run.ops hm ?_
        refine Ops.p rfl ?_
        refine Ops.nil ?_
        refine Run.ret ?_
        obtain rfl := someO h
        have h := hk_334
        replace h := inlO h
        obtain rfl := someO h
        exact Ends.mkG (.inl rfl) rfl (gh_pk [0] [] hB rfl rfl rfl rfl) rfl rfl
      · skip
        refine Run.skip ?_
        refine Run.seq ?_
        refine Run.ops hm ?_
        refine Ops.p rfl ?_
        refine Ops.p rfl ?_
        refine Ops.p rfl ?_
        refine Ops.nil ?_
        refine Run.seq ?_
        refine Run.seq ?_
        refine Run.ops hm ?_
        refine Ops.p rfl ?_
        refine Ops.p rfl ?_
        obtain ⟨x_358, hx_358, h⟩ := bindO h
        refine Ops.st (s := 29704) (Ev.iaF rfl rfl hx_358) rfl rfl ?_
        refine Ops.p rfl ?_
        refine Ops.p rfl ?_
        refine Ops.p rfl ?_
        refine Ops.p rfl ?_
        refine Ops.nil ?_
        refine Run.condO rfl h (fun g_359 h => ?_) (fun g_359 h => ?_)
        · skip
          refine Run.seq ?_
          refine Run.ops hm ?_
          refine Ops.p rfl ?_
          refine Ops.nil ?_
          refine Run.ret ?_
          obtain rfl := someO h
          have h := hk_334
          replace h := inlO h
          obtain rfl := someO h
          exact Ends.mkG (.inl rfl) rfl (gh_pk [0] [] hB rfl rfl rfl rfl) rfl rfl
        · skip
          refine Run.skip ?_
          refine Run.seq ?_
          refine Run.ops hm ?_
          refine Ops.p rfl ?_
          refine Ops.p rfl ?_
          refine Ops.p rfl ?_
          refine Ops.nil ?_
          refine Run.seq ?_
          refine Run.seq ?_
          refine Run.draw hm hmix ?_
          refine OpsD.p rfl ?_
          refine OpsD.p rfl ?_
          obtain ⟨x_363, hx_363, h⟩ := bindO h
          refine OpsD.st (s := 41992) (Ev.iaF rfl rfl hx_363) rfl rfl ?_
          refine OpsD.p rfl ?_
          refine OpsD.p rfl ?_
          refine OpsD.p rfl ?_
          obtain ⟨y_364, hy_364, h⟩ := bindO h
          refine OpsD.st (s := 42056) (Ev.call [] [] 0 (sem_laws_markText N (w64 ((w64 (x_301 + (1 : Int))) + (1 : Int))) _ hy_364) rfl rfl (.cons (.c _) .nil) rfl (.inl rfl) rfl rfl) rfl rfl ?_
          refine OpsD.p rfl ?_
          refine OpsD.nil ⟨by kernel_rfl, ?_⟩
          refine Run.condO rfl h (fun g_365 h => ?_) (fun g_365 h => ?_)
          · skip
            refine Run.seq ?_
            refine Run.ops hm ?_
            refine Ops.p rfl ?_
            refine Ops.nil ?_
            refine Run.ret ?_
            obtain rfl := someO h
            have h := hk_334
            replace h := inlO h
            obtain rfl := someO h
            exact Ends.mkG (.inl rfl) rfl (gh_pk [0] [] hB rfl rfl rfl rfl) rfl rfl
          · skip
            refine Run.skip ?_
            refine Run.ops hm ?_
            refine Ops.p rfl ?_
            refine Ops.p rfl ?_
            refine Ops.p rfl ?_
            refine Ops.nil ?_
            refine Run.ops hm ?_
            refine Ops.p rfl ?_
            refine Ops.p rfl ?_
            refine Ops.p rfl ?_
            refine Ops.nil ?_
            exact ⟨m_334, Nat.lt_succ_self m_334, _, _, (gh_pk [0, 1, 5] [] hB rfl rfl rfl rfl), _, _, h, rfl, rfl⟩
    · skip
      refine Run.exit ?_
      obtain rfl := someO h
      have h := hk_334
      replace h := inrO h
      exact ⟨_, _, (gh_pk [1] [] hB rfl rfl rfl rfl), x_301, h, rfl, rfl⟩
  · skip
    refine Run.seq ?_
    refine Run.ops hm ?_
    refine Ops.p rfl ?_
    refine Ops.p rfl ?_
    refine Ops.nil ?_
    refine Run.ret ?_
    obtain rfl := someO h
    exact Ends.mkG (.inl rfl) rfl (gh_pk [0] [] hB rfl rfl rfl rfl) rfl rfl
def laws_heldLog (N : Nat) (x_1 : Log) (x_2 : Int) : Option (Int) :=
 (laws_heldEntryS N x_1.Entries x_2).bind fun y_105 =>
 (if (decide (y_105 < (0 : Int))) = true then
 some (-1 : Int)
 else
 some y_105)
theorem sem_laws_heldLog (N : Nat) (x_1 : Log) (x_2 : Int) (r : Int) (h : laws_heldLog N x_1 x_2 = some r) : Says Try.prog 133 [.agg [VI x_1.Start, VI x_1.StartTerm, RO 48 (x_1.Entries.map encEntry)], VI x_2] 0 [] (VI r) [] := by
  unfold laws_heldLog at h
  refine Says.of_run s133 Try.call133 rfl fun B hB => ?_
  have hm : B.m ≤ 1000 := by omega
  refine Run.seq ?_
  refine Run.ops hm ?_
  refine Ops.st (s := 1000) (.bx rfl rfl) rfl rfl ?_
  refine Ops.p rfl ?_
  refine Ops.nil ?_
  refine Run.seq ?_
  refine Run.ops hm ?_
  refine Ops.p rfl ?_
  refine Ops.p rfl ?_
  refine Ops.p rfl ?_
  obtain ⟨y_105, hy_105, h⟩ := bindO h
  refine Ops.st (s := 5144) (Ev.call [] [] 0 (sem_laws_heldEntryS N x_1.Entries x_2 _ hy_105) rfl rfl (.cons (.c _) (.cons (.c _) .nil)) rfl (.inl rfl) rfl rfl) rfl rfl ?_
  refine Ops.p rfl ?_
  refine Ops.nil ?_
  refine Run.seq ?_
  refine Run.seq ?_
  refine Run.ops hm ?_
  refine Ops.p rfl ?_
  refine Ops.p rfl ?_
  refine Ops.nil ?_
  refine Run.condO rfl h (fun g_107 h => ?_) (fun g_107 h => ?_)
  · skip
    refine Run.seq ?_
    refine Run.ops hm ?_
    refine Ops.p rfl ?_
    refine Ops.nil ?_
    refine Run.ret ?_
    obtain rfl := someO h
    exact Ends.mkG (.inl rfl) rfl (gh_pk [0] [] hB rfl rfl rfl rfl) rfl rfl
  · skip
    refine Run.skip ?_
    refine Run.seq ?_
    refine Run.ops hm ?_
    refine Ops.p rfl ?_
    refine Ops.p rfl ?_
    refine Ops.nil ?_
    refine Run.ret ?_
    obtain rfl := someO h
    exact Ends.mkG (.inl rfl) rfl (gh_pk [0] [] hB rfl rfl rfl rfl) rfl rfl
def laws_heldPeerS_l1 (N : Nat) (x_1 : (List Peer)) : Nat → Int → Int → Option ((Int) ⊕ (Int))
 | 0, _, _ => none
 | m + 1, x_325, x_326 =>
 (if (decide (x_326 < (x_1.length : Int))) = true then
 (at? x_1 x_326).bind fun x_384 =>
 (if (x_384.Id != x_325) = true then
 some (Sum.inl (-1 : Int))
 else
 (at? x_1 x_326).bind fun x_388 =>
 (if (x_388.Next != (w64 (x_325 + (1 : Int)))) = true then
 some (Sum.inl (-1 : Int))
 else
 (at? x_1 x_326).bind fun x_392 =>
 (if (x_392.Match != (w64 ((w64 (x_325 + (1 : Int))) + (1 : Int)))) = true then
 some (Sum.inl (-1 : Int))
 else
 (at? x_1 x_326).bind fun x_396 =>
 (if (x_396.Sent != (w64 ((w64 ((w64 (x_325 + (1 : Int))) + (1 : Int))) + (1 : Int)))) = true then
 some (Sum.inl (-1 : Int))
 else
 laws_heldPeerS_l1 N x_1 m (w64 ((w64 ((w64 ((w64 (x_325 + (1 : Int))) + (1 : Int))) + (1 : Int))) + (1 : Int))) (w64 (x_326 + (1 : Int)))))))
 else
 some (Sum.inr x_325))
def laws_heldPeerS_l1_r (N : Nat) (x_1 : (List Peer)) : (List Peer) → Int → Int → Option ((Int) ⊕ (Int))
 | [], x_325, x_326 =>
 some (Sum.inr x_325)
 | hd :: tl, x_325, x_326 =>
 (some hd).bind fun x_384 =>
 (if (x_384.Id != x_325) = true then
 some (Sum.inl (-1 : Int))
 else
 (some hd).bind fun x_388 =>
 (if (x_388.Next != (w64 (x_325 + (1 : Int)))) = true then
 some (Sum.inl (-1 : Int))
 else
 (some hd).bind fun x_392 =>
 (if (x_392.Match != (w64 ((w64 (x_325 + (1 : Int))) + (1 : Int)))) = true then
 some (Sum.inl (-1 : Int))
 else
 (some hd).bind fun x_396 =>
 (if (x_396.Sent != (w64 ((w64 ((w64 (x_325 + (1 : Int))) + (1 : Int))) + (1 : Int)))) = true then
 some (Sum.inl (-1 : Int))
 else
 laws_heldPeerS_l1_r N x_1 tl (w64 ((w64 ((w64 ((w64 (x_325 + (1 : Int))) + (1 : Int))) + (1 : Int))) + (1 : Int))) (w64 (x_326 + (1 : Int)))))))
theorem laws_heldPeerS_l1_rng (N : Nat) (x_1 : (List Peer)) (hx : x_1.length ≤ 1099511627776) : ∀ (d k m : Nat) (x_325 : Int), x_1.length = k + d → d < m → laws_heldPeerS_l1 N x_1 m x_325 (k : Int) = laws_heldPeerS_l1_r N x_1 (x_1.drop k) x_325 (k : Int) := by
  intro d
  induction d with
  | zero =>
    intro k m x_325 hd hm
    obtain ⟨m, rfl⟩ : ∃ q, m = q + 1 := ⟨m - 1, by omega⟩
    rw [laws_heldPeerS_l1, if_neg (by simp; omega), List.drop_eq_nil_of_le (by omega), laws_heldPeerS_l1_r]
  | succ d ih =>
    intro k m x_325 hd hm
    obtain ⟨m, rfl⟩ : ∃ q, m = q + 1 := ⟨m - 1, by omega⟩
    have hk : k < x_1.length := by omega
    rw [laws_heldPeerS_l1, if_pos (by simp; omega), List.drop_eq_getElem_cons hk, laws_heldPeerS_l1_r]
    have h1 := at_lt hk
    have h2 := w64_succ (k := k) (by omega)
    have h3 := ih (k + 1) m
    simp only [h1, h2, h3 _ (by omega) (by omega)]
theorem laws_heldPeerS_l1_eq {N : Nat} (x_1 : (List Peer)) (hx : x_1.length ≤ 1099511627776) (hN : x_1.length < N) (x_325 : Int) : laws_heldPeerS_l1 N x_1 N x_325 0 = laws_heldPeerS_l1_r N x_1 x_1 x_325 0 := laws_heldPeerS_l1_rng N x_1 hx x_1.length 0 N x_325 (by omega) hN
def laws_heldPeerS (N : Nat) (x_1 : (List Peer)) (x_2 : Int) : Option (Int) :=
 joinP (fun (v_323 : Int) =>
 some v_323) fun j_323 =>
 (laws_heldPeerS_l1 N x_1 N x_2 (0 : Int)).bind (Sum.elim (fun v_361 => some v_361) (fun (v_362 : Int) => j_323 v_362))
theorem sem_laws_heldPeerS (N : Nat) (x_1 : (List Peer)) (x_2 : Int) (r : Int) (h : laws_heldPeerS N x_1 x_2 = some r) : Says Try.prog 134 [RO 172 (x_1.map encPeer), VI x_2] 0 [] (VI r) [] := by
  unfold laws_heldPeerS at h
  refine Says.of_run s134 Try.call134 rfl fun B hB => ?_
  have hm : B.m ≤ 1000 := by omega
  refine Run.seq ?_
  refine Run.ops hm ?_
  refine Ops.p rfl ?_
  refine Ops.nil ?_
  refine Run.seqO h (fun (v_323 : Int) => [(1, VI v_323)]) (fun (v_323 : Int) => []) (fun h => ?_) (fun v_323 h => ?_)
  · skip
    refine Run.seq ?_
    refine Run.ops hm ?_
    refine Ops.p rfl ?_
    refine Ops.nil ?_
    refine Run.block ?_
    obtain ⟨res_362, h, hk_362⟩ := bindO h
    refine Run.loop (n := N) (fun m_362 fr σ => ∃ (x_325 : Int), ∃ (x_326 : Int), laws_heldPeerS_l1 N x_1 m_362 x_325 x_326 = some res_362 ∧ fr = [(0, RO 172 (x_1.map encPeer)), (1, VI x_325), (5, VI x_326)] ∧ σ = []) (gh_pk [0, 1, 5] [] hB rfl rfl rfl rfl) ⟨_, _, h, rfl, rfl⟩ ?_
    rintro m_362 fr σ ⟨x_325, x_326, h, rfl, rfl⟩
    obtain _ | m_362 := m_362
    · rw [laws_heldPeerS_l1] at h; cases h
    rw [laws_heldPeerS_l1] at h
    refine Run.seq ?_
    refine Run.seq ?_
    refine Run.ops hm ?_
    refine Ops.p rfl ?_
    refine Ops.p rfl ?_
    refine Ops.st (s := 9224) (Ev.lnF rfl) rfl rfl ?_
    refine Ops.p rfl ?_
    refine Ops.nil ?_
    refine Run.condO rfl h (fun g_365 h => ?_) (fun g_365 h => ?_)
    · skip
      refine Run.skip ?_
      refine Run.seq ?_
      refine Run.block ?_
      refine Run.seq ?_
      refine Run.seq ?_
      refine Run.ops hm ?_
      refine Ops.p rfl ?_
      refine Ops.p rfl ?_
      obtain ⟨x_384, hx_384, h⟩ := bindO h
      refine Ops.st (s := 17416) (Ev.iaF rfl rfl hx_384) rfl rfl ?_
      refine Ops.p rfl ?_
      refine Ops.p rfl ?_
      refine Ops.p rfl ?_
      refine Ops.p rfl ?_
      refine Ops.nil ?_
      refine Run.condO rfl h (fun g_385 h => ?_) (fun g_385 h => ?_)
      · skip
        refine Run.seq ?_
        refine Run.ops hm ?_
        refine Ops.p rfl ?_
        refine Ops.nil ?_
        refine Run.ret ?_
        obtain rfl := someO h
        have h := hk_362
        replace h := inlO h
        obtain rfl := someO h
        exact Ends.mkG (.inl rfl) rfl (gh_pk [0] [] hB rfl rfl rfl rfl) rfl rfl
      · skip
        refine Run.skip ?_
        refine Run.seq ?_
        refine Run.ops hm ?_
        refine Ops.p rfl ?_
        refine Ops.p rfl ?_
        refine Ops.p rfl ?_
        refine Ops.nil ?_
        refine Run.seq ?_
        refine Run.seq ?_
        refine Run.ops hm ?_
        refine Ops.p rfl ?_
        refine Ops.p rfl ?_
        obtain ⟨x_388, hx_388, h⟩ := bindO h
        refine Ops.st (s := 29704) (Ev.iaF rfl rfl hx_388) rfl rfl ?_
        refine Ops.p rfl ?_
        refine Ops.p rfl ?_
        refine Ops.p rfl ?_
        refine Ops.p rfl ?_
        refine Ops.nil ?_
        refine Run.condO rfl h (fun g_389 h => ?_) (fun g_389 h => ?_)
        · skip
          refine Run.seq ?_
          refine Run.ops hm ?_
          refine Ops.p rfl ?_
          refine Ops.nil ?_
          refine Run.ret ?_
          obtain rfl := someO h
          have h := hk_362
          replace h := inlO h
          obtain rfl := someO h
          exact Ends.mkG (.inl rfl) rfl (gh_pk [0] [] hB rfl rfl rfl rfl) rfl rfl
        · skip
          refine Run.skip ?_
          refine Run.seq ?_
          refine Run.ops hm ?_
          refine Ops.p rfl ?_
          refine Ops.p rfl ?_
          refine Ops.p rfl ?_
          refine Ops.nil ?_
          refine Run.seq ?_
          refine Run.seq ?_
          refine Run.ops hm ?_
          refine Ops.p rfl ?_
          refine Ops.p rfl ?_
          obtain ⟨x_392, hx_392, h⟩ := bindO h
          refine Ops.st (s := 41992) (Ev.iaF rfl rfl hx_392) rfl rfl ?_
          refine Ops.p rfl ?_
          refine Ops.p rfl ?_
          refine Ops.p rfl ?_
          refine Ops.p rfl ?_
          refine Ops.nil ?_
          refine Run.condO rfl h (fun g_393 h => ?_) (fun g_393 h => ?_)
          · skip
            refine Run.seq ?_
            refine Run.ops hm ?_
            refine Ops.p rfl ?_
            refine Ops.nil ?_
            refine Run.ret ?_
            obtain rfl := someO h
            have h := hk_362
            replace h := inlO h
            obtain rfl := someO h
            exact Ends.mkG (.inl rfl) rfl (gh_pk [0] [] hB rfl rfl rfl rfl) rfl rfl
          · skip
            refine Run.skip ?_
            refine Run.seq ?_
            refine Run.ops hm ?_
            refine Ops.p rfl ?_
            refine Ops.p rfl ?_
            refine Ops.p rfl ?_
            refine Ops.nil ?_
            refine Run.seq ?_
            refine Run.seq ?_
            refine Run.ops hm ?_
            refine Ops.p rfl ?_
            refine Ops.p rfl ?_
            obtain ⟨x_396, hx_396, h⟩ := bindO h
            refine Ops.st (s := 54280) (Ev.iaF rfl rfl hx_396) rfl rfl ?_
            refine Ops.p rfl ?_
            refine Ops.p rfl ?_
            refine Ops.p rfl ?_
            refine Ops.p rfl ?_
            refine Ops.nil ?_
            refine Run.condO rfl h (fun g_397 h => ?_) (fun g_397 h => ?_)
            · skip
              refine Run.seq ?_
              refine Run.ops hm ?_
              refine Ops.p rfl ?_
              refine Ops.nil ?_
              refine Run.ret ?_
              obtain rfl := someO h
              have h := hk_362
              replace h := inlO h
              obtain rfl := someO h
              exact Ends.mkG (.inl rfl) rfl (gh_pk [0] [] hB rfl rfl rfl rfl) rfl rfl
            · skip
              refine Run.skip ?_
              refine Run.ops hm ?_
              refine Ops.p rfl ?_
              refine Ops.p rfl ?_
              refine Ops.p rfl ?_
              refine Ops.nil ?_
              refine Run.ops hm ?_
              refine Ops.p rfl ?_
              refine Ops.p rfl ?_
              refine Ops.p rfl ?_
              refine Ops.nil ?_
              exact ⟨m_362, Nat.lt_succ_self m_362, _, _, (gh_pk [0, 1, 5] [] hB rfl rfl rfl rfl), _, _, h, rfl, rfl⟩
    · skip
      refine Run.exit ?_
      obtain rfl := someO h
      have h := hk_362
      replace h := inrO h
      exact ⟨_, _, (gh_pk [1] [] hB rfl rfl rfl rfl), x_325, h, rfl, rfl⟩
  · skip
    refine Run.seq ?_
    refine Run.ops hm ?_
    refine Ops.p rfl ?_
    refine Ops.p rfl ?_
    refine Ops.nil ?_
    refine Run.ret ?_
    obtain rfl := someO h
    exact Ends.mkG (.inl rfl) rfl (gh_pk [0] [] hB rfl rfl rfl rfl) rfl rfl
def laws_heldNode (N : Nat) (x_1 : Node) (x_2 : Int) : Option (Int) :=
 (laws_heldIntS N x_1.Conf x_2).bind fun y_117 =>
 (if (decide (y_117 < (0 : Int))) = true then
 some (-1 : Int)
 else
 (laws_heldLog N x_1.Log y_117).bind fun y_121 =>
 (if (decide (y_121 < (0 : Int))) = true then
 some (-1 : Int)
 else
 (laws_heldIntS N x_1.Votes y_121).bind fun y_125 =>
 (if (decide (y_125 < (0 : Int))) = true then
 some (-1 : Int)
 else
 (laws_heldPeerS N x_1.Peers y_125).bind fun y_129 =>
 (if (decide (y_129 < (0 : Int))) = true then
 some (-1 : Int)
 else
 some y_129))))
theorem sem_laws_heldNode (N : Nat) (x_1 : Node) (x_2 : Int) (r : Int) (h : laws_heldNode N x_1 x_2 = some r) : Says Try.prog 67 [.agg [VI x_1.Id, VI x_1.Term, VI x_1.Vote, VI x_1.Role, VI x_1.Lead, RO 3 (x_1.Conf.map encI), VI x_1.Log.Start, VI x_1.Log.StartTerm, RO 48 (x_1.Log.Entries.map encEntry), VI x_1.Commit, VI x_1.Clock, VI x_1.Limit, RO 3 (x_1.Votes.map encI), RO 172 (x_1.Peers.map encPeer)], VI x_2] 0 [] (VI r) [] := by
  unfold laws_heldNode at h
  refine Says.of_run s67 Try.call67 rfl fun B hB => ?_
  have hm : B.m ≤ 1000 := by omega
  refine Run.seq ?_
  refine Run.ops hm ?_
  refine Ops.st (s := 1000) (.bx rfl rfl) rfl rfl ?_
  refine Ops.p rfl ?_
  refine Ops.nil ?_
  refine Run.seq ?_
  refine Run.ops hm ?_
  refine Ops.p rfl ?_
  refine Ops.p rfl ?_
  refine Ops.p rfl ?_
  obtain ⟨y_117, hy_117, h⟩ := bindO h
  refine Ops.st (s := 5144) (Ev.call [] [] 0 (sem_laws_heldIntS N x_1.Conf x_2 _ hy_117) rfl rfl (.cons (.c _) (.cons (.c _) .nil)) rfl (.inl rfl) rfl rfl) rfl rfl ?_
  refine Ops.p rfl ?_
  refine Ops.nil ?_
  refine Run.seq ?_
  refine Run.seq ?_
  refine Run.ops hm ?_
  refine Ops.p rfl ?_
  refine Ops.p rfl ?_
  refine Ops.nil ?_
  refine Run.condO rfl h (fun g_119 h => ?_) (fun g_119 h => ?_)
  · skip
    refine Run.seq ?_
    refine Run.ops hm ?_
    refine Ops.p rfl ?_
    refine Ops.nil ?_
    refine Run.ret ?_
    obtain rfl := someO h
    exact Ends.mkG (.inl rfl) rfl (gh_pk [0] [] hB rfl rfl rfl rfl) rfl rfl
  · skip
    refine Run.skip ?_
    refine Run.seq ?_
    refine Run.ops hm ?_
    refine Ops.p rfl ?_
    refine Ops.p rfl ?_
    refine Ops.p rfl ?_
    obtain ⟨y_121, hy_121, h⟩ := bindO h
    refine Ops.st (s := 17432) (Ev.call [] [] 0 (sem_laws_heldLog N x_1.Log y_117 _ hy_121) rfl rfl (.cons (.agg (.cons (.c _) (.cons (.c _) (.cons (.c _) .nil)))) (.cons (.c _) .nil)) rfl (.inl rfl) rfl rfl) rfl rfl ?_
    refine Ops.p rfl ?_
    refine Ops.nil ?_
    refine Run.seq ?_
    refine Run.seq ?_
    refine Run.ops hm ?_
    refine Ops.p rfl ?_
    refine Ops.p rfl ?_
    refine Ops.nil ?_
    refine Run.condO rfl h (fun g_123 h => ?_) (fun g_123 h => ?_)
    · skip
      refine Run.seq ?_
      refine Run.ops hm ?_
      refine Ops.p rfl ?_
      refine Ops.nil ?_
      refine Run.ret ?_
      obtain rfl := someO h
      exact Ends.mkG (.inl rfl) rfl (gh_pk [0] [] hB rfl rfl rfl rfl) rfl rfl
    · skip
      refine Run.skip ?_
      refine Run.seq ?_
      refine Run.ops hm ?_
      refine Ops.p rfl ?_
      refine Ops.p rfl ?_
      refine Ops.p rfl ?_
      obtain ⟨y_125, hy_125, h⟩ := bindO h
      refine Ops.st (s := 29720) (Ev.call [] [] 0 (sem_laws_heldIntS N x_1.Votes y_121 _ hy_125) rfl rfl (.cons (.c _) (.cons (.c _) .nil)) rfl (.inl rfl) rfl rfl) rfl rfl ?_
      refine Ops.p rfl ?_
      refine Ops.nil ?_
      refine Run.seq ?_
      refine Run.seq ?_
      refine Run.ops hm ?_
      refine Ops.p rfl ?_
      refine Ops.p rfl ?_
      refine Ops.nil ?_
      refine Run.condO rfl h (fun g_127 h => ?_) (fun g_127 h => ?_)
      · skip
        refine Run.seq ?_
        refine Run.ops hm ?_
        refine Ops.p rfl ?_
        refine Ops.nil ?_
        refine Run.ret ?_
        obtain rfl := someO h
        exact Ends.mkG (.inl rfl) rfl (gh_pk [0] [] hB rfl rfl rfl rfl) rfl rfl
      · skip
        refine Run.skip ?_
        refine Run.seq ?_
        refine Run.ops hm ?_
        refine Ops.p rfl ?_
        refine Ops.p rfl ?_
        refine Ops.p rfl ?_
        obtain ⟨y_129, hy_129, h⟩ := bindO h
        refine Ops.st (s := 42008) (Ev.call [] [] 0 (sem_laws_heldPeerS N x_1.Peers y_125 _ hy_129) rfl rfl (.cons (.c _) (.cons (.c _) .nil)) rfl (.inl rfl) rfl rfl) rfl rfl ?_
        refine Ops.p rfl ?_
        refine Ops.nil ?_
        refine Run.seq ?_
        refine Run.seq ?_
        refine Run.ops hm ?_
        refine Ops.p rfl ?_
        refine Ops.p rfl ?_
        refine Ops.nil ?_
        refine Run.condO rfl h (fun g_131 h => ?_) (fun g_131 h => ?_)
        · skip
          refine Run.seq ?_
          refine Run.ops hm ?_
          refine Ops.p rfl ?_
          refine Ops.nil ?_
          refine Run.ret ?_
          obtain rfl := someO h
          exact Ends.mkG (.inl rfl) rfl (gh_pk [0] [] hB rfl rfl rfl rfl) rfl rfl
        · skip
          refine Run.skip ?_
          refine Run.seq ?_
          refine Run.ops hm ?_
          refine Ops.p rfl ?_
          refine Ops.p rfl ?_
          refine Ops.nil ?_
          refine Run.ret ?_
          obtain rfl := someO h
          exact Ends.mkG (.inl rfl) rfl (gh_pk [0] [] hB rfl rfl rfl rfl) rfl rfl
def laws_FnExactSettle (N : Nat) (x_1 : Node) (x_2 : Int) : Option (Bool) :=
 (laws_szNode N x_1 (1048576 : Int)).bind fun y_172 =>
 (if (decide (y_172 < (0 : Int))) = true then
 some true
 else
 (laws_toNode N x_1).bind fun y_177 =>
 (spec_Settle N y_177 x_2).bind fun y_178 =>
 (laws_toNode N x_1).bind fun y_180 =>
 (impl_Settle N y_180 x_2).bind fun y_182 =>
 (laws_eqNode N y_182.1 y_178.1).bind fun y_186 =>
 (if (!y_186) = true then
 some false
 else
 (if ((y_182.2 == y_178.2) ^^ true) = true then
 some false
 else
 (laws_toNode N x_1).bind fun y_192 =>
 (laws_eqNode N y_180 y_192).bind fun y_193 =>
 (if (!y_193) = true then
 some false
 else
 (laws_markNode N y_180 (1 : Int)).bind fun y_200 =>
 (len? y_180.Conf y_200.2.1).bind fun y_201 =>
 (len? y_180.Log.Entries y_200.2.2.1).bind fun y_202 =>
 (len? y_180.Votes y_200.2.2.2.1).bind fun y_203 =>
 (len? y_180.Peers y_200.2.2.2.2).bind fun y_204 =>
 (if (decide (y_200.1 < (0 : Int))) = true then
 some false
 else
 (laws_eqNode N y_182.1 y_178.1).bind fun y_209 =>
 (if (!y_209) = true then
 some false
 else
 (laws_markNode N y_182.1 (1 : Int)).bind fun y_216 =>
 (len? y_182.1.Conf y_216.2.1).bind fun y_217 =>
 (len? y_182.1.Log.Entries y_216.2.2.1).bind fun y_218 =>
 (len? y_182.1.Votes y_216.2.2.2.1).bind fun y_219 =>
 (len? y_182.1.Peers y_216.2.2.2.2).bind fun y_220 =>
 (laws_heldNode N (Node.mk y_182.1.Id y_182.1.Term y_182.1.Vote y_182.1.Role y_182.1.Lead y_216.2.1 (Log.mk y_182.1.Log.Start y_182.1.Log.StartTerm y_216.2.2.1) y_182.1.Commit y_182.1.Clock y_182.1.Limit y_216.2.2.2.1 y_216.2.2.2.2) (1 : Int)).bind fun y_222 =>
 (if (decide (y_222 < (0 : Int))) = true then
 some false
 else
 (if (y_222 != y_216.1) = true then
 some false
 else
 (laws_toNode N x_1).bind fun y_229 =>
 (impl_Settle N y_229 x_2).bind fun y_230 =>
 (laws_eqNode N y_230.1 y_178.1).bind fun y_234 =>
 (if (!y_234) = true then
 some false
 else
 (if ((y_230.2 == y_178.2) ^^ true) = true then
 some false
 else
 (laws_heldNode N (Node.mk y_182.1.Id y_182.1.Term y_182.1.Vote y_182.1.Role y_182.1.Lead y_216.2.1 (Log.mk y_182.1.Log.Start y_182.1.Log.StartTerm y_216.2.2.1) y_182.1.Commit y_182.1.Clock y_182.1.Limit y_216.2.2.2.1 y_216.2.2.2.2) (1 : Int)).bind fun y_238 =>
 (if (decide (y_238 < (0 : Int))) = true then
 some false
 else
 (if (y_238 != y_216.1) = true then
 some false
 else
 some true))))))))))))
theorem sem_laws_FnExactSettle (N : Nat) (x_1 : Node) (x_2 : Int) (r : Bool) (h : laws_FnExactSettle N x_1 x_2 = some r) : Says Try.prog 14 [.agg [VI x_1.Id, VI x_1.Term, VI x_1.Vote, VI x_1.Role, VI x_1.Lead, RO 3 (x_1.Conf.map encI), VI x_1.Log.Start, VI x_1.Log.StartTerm, RO 71 (x_1.Log.Entries.map encEntry), VI x_1.Commit, VI x_1.Clock, VI x_1.Limit, RO 3 (x_1.Votes.map encI), RO 182 (x_1.Peers.map encPeer)], VI x_2] 0 [] (VB r) [] := by
  unfold laws_FnExactSettle at h
  refine Says.of_run s14 Try.call14 rfl fun B hB => ?_
  have hm : B.m ≤ 1000 := by omega
  refine Run.seq ?_
  refine Run.ops hm ?_
  refine Ops.st (s := 1000) (.bx rfl rfl) rfl rfl ?_
  refine Ops.p rfl ?_
  refine Ops.nil ?_
  refine Run.seq ?_
  refine Run.ops hm ?_
  refine Ops.p rfl ?_
  refine Ops.nil ?_
  refine Run.seq ?_
  refine Run.ops hm ?_
  refine Ops.p rfl ?_
  refine Ops.p rfl ?_
  obtain ⟨y_172, hy_172, h⟩ := bindO h
  refine Ops.st (s := 9224) (Ev.call [] [] 0 (sem_laws_szNode N x_1 (1048576 : Int) _ hy_172) rfl rfl (.cons (.agg (.cons (.c _) (.cons (.c _) (.cons (.c _) (.cons (.c _) (.cons (.c _) (.cons (.c _) (.cons (.c _) (.cons (.c _) (.cons (.c _) (.cons (.c _) (.cons (.c _) (.cons (.c _) (.cons (.c _) (.cons (.c _) .nil))))))))))))))) (.cons (.c _) .nil)) rfl (.inl rfl) rfl rfl) rfl rfl ?_
  refine Ops.p rfl ?_
  refine Ops.nil ?_
  refine Run.seq ?_
  refine Run.seq ?_
  refine Run.ops hm ?_
  refine Ops.p rfl ?_
  refine Ops.p rfl ?_
  refine Ops.nil ?_
  refine Run.condO rfl h (fun g_174 h => ?_) (fun g_174 h => ?_)
  · skip
    refine Run.seq ?_
    refine Run.ops hm ?_
    refine Ops.p rfl ?_
    refine Ops.nil ?_
    refine Run.ret ?_
    obtain rfl := someO h
    exact Ends.mkG (.inl rfl) rfl (gh_pk [0] [] hB rfl rfl rfl rfl) rfl rfl
  · skip
    refine Run.skip ?_
    refine Run.seq ?_
    refine Run.ops hm ?_
    refine Ops.p rfl ?_
    obtain ⟨y_177, hy_177, h⟩ := bindO h
    refine Ops.st (s := 21496) (Ev.call [] [] 4 (sem_laws_toNode N x_1 _ hy_177) rfl rfl (.cons (.agg (.cons (.c _) (.cons (.c _) (.cons (.c _) (.cons (.c _) (.cons (.c _) (.cons (.c _) (.cons (.c _) (.cons (.c _) (.cons (.c _) (.cons (.c _) (.cons (.c _) (.cons (.c _) (.cons (.c _) (.cons (.c _) .nil))))))))))))))) .nil) rfl (.inl rfl) rfl rfl) rfl rfl ?_
    refine Ops.p rfl ?_
    obtain ⟨y_178, hy_178, h⟩ := bindO h
    refine Ops.st (s := 21528) (Ev.call [] [21496, 21497, 21498, 21499] 4 (sem_spec_Settle N y_177 x_2 _ hy_178) rfl rfl (.cons (.agg (.cons (.c _) (.cons (.c _) (.cons (.c _) (.cons (.c _) (.cons (.c _) (.cons (.borrow rfl (by decide) (lendW (fun _ => rfl) _ rfl)) (.cons (.c _) (.cons (.c _) (.cons (.borrow rfl (by decide) (lendW (fun _ => rfl) _ rfl)) (.cons (.c _) (.cons (.c _) (.cons (.c _) (.cons (.borrow rfl (by decide) (lendW (fun _ => rfl) _ rfl)) (.cons (.borrow rfl (by decide) (lendW (fun _ => rfl) _ rfl)) .nil))))))))))))))) (.cons (.c _) .nil)) rfl (.inr ⟨rfl, ownL_root ⟨own_rows (fun _ => rfl) _, own_rows (fun _ => rfl) _, own_rows (fun _ => rfl) _, own_rows (fun _ => rfl) _, trivial⟩⟩) rfl rfl) rfl rfl ?_
    refine Ops.p rfl ?_
    refine Ops.p rfl ?_
    refine Ops.p rfl ?_
    refine Ops.st (s := 21592) (.al rfl rfl) rfl rfl ?_
    refine Ops.s0 (s := 21608) (.sto rfl rfl rfl rfl rfl rfl) rfl rfl ?_
    refine Ops.p rfl ?_
    refine Ops.nil ?_
    refine Run.seq ?_
    refine Run.ops hm ?_
    refine Ops.p rfl ?_
    obtain ⟨y_180, hy_180, h⟩ := bindO h
    refine Ops.st (s := 25592) (Ev.call [] [] 4 (sem_laws_toNode N x_1 _ hy_180) rfl rfl (.cons (.agg (.cons (.c _) (.cons (.c _) (.cons (.c _) (.cons (.c _) (.cons (.c _) (.cons (.c _) (.cons (.c _) (.cons (.c _) (.cons (.c _) (.cons (.c _) (.cons (.c _) (.cons (.c _) (.cons (.c _) (.cons (.c _) .nil))))))))))))))) .nil) rfl (.inl rfl) rfl rfl) rfl rfl ?_
    refine Ops.st (s := 25608) (.al rfl rfl) rfl rfl ?_
    refine Ops.s0 (s := 25624) (.sto rfl rfl rfl rfl rfl rfl) rfl rfl ?_
    refine Ops.nil ?_
    refine Run.seq ?_
    refine Run.ops hm ?_
    refine Ops.p rfl ?_
    refine Ops.p rfl ?_
    obtain ⟨y_182, hy_182, h⟩ := bindO h
    refine Ops.st (s := 29704) (Ev.call [] [25592, 25593, 25594, 25595] 4 (sem_impl_Settle N y_180 x_2 _ hy_182) rfl rfl (.cons (.agg (.cons (.c _) (.cons (.c _) (.cons (.c _) (.cons (.c _) (.cons (.c _) (.cons (.borrow rfl (by decide) (lendW (fun _ => rfl) _ rfl)) (.cons (.c _) (.cons (.c _) (.cons (.borrow rfl (by decide) (lendW (fun _ => rfl) _ rfl)) (.cons (.c _) (.cons (.c _) (.cons (.c _) (.cons (.borrow rfl (by decide) (lendW (fun _ => rfl) _ rfl)) (.cons (.borrow rfl (by decide) (lendW (fun _ => rfl) _ rfl)) .nil))))))))))))))) (.cons (.c _) .nil)) rfl (.inr ⟨rfl, ownL_root ⟨own_rows (fun _ => rfl) _, own_rows (fun _ => rfl) _, own_rows (fun _ => rfl) _, own_rows (fun _ => rfl) _, trivial⟩⟩) rfl rfl) rfl rfl ?_
    refine Ops.p rfl ?_
    refine Ops.p rfl ?_
    refine Ops.p rfl ?_
    refine Ops.st (s := 29768) (.al rfl rfl) rfl rfl ?_
    refine Ops.s0 (s := 29784) (.sto rfl rfl rfl rfl rfl rfl) rfl rfl ?_
    refine Ops.p rfl ?_
    refine Ops.nil ?_
    refine Run.seq ?_
    refine Run.seq ?_
    refine Run.ops hm ?_
    refine Ops.p rfl ?_
    refine Ops.p rfl ?_
    obtain ⟨y_186, hy_186, h⟩ := bindO h
    refine Ops.st (s := 33800) (Ev.call [] [29704, 29705, 29706, 29707, 21528, 21529, 21530, 21531] 0 (sem_laws_eqNode N y_182.1 y_178.1 _ hy_186) rfl rfl (.cons (.agg (.cons (.c _) (.cons (.c _) (.cons (.c _) (.cons (.c _) (.cons (.c _) (.cons (.borrow rfl (by decide) (lendW (fun _ => rfl) _ rfl)) (.cons (.c _) (.cons (.c _) (.cons (.borrow rfl (by decide) (lendW (fun _ => rfl) _ rfl)) (.cons (.c _) (.cons (.c _) (.cons (.c _) (.cons (.borrow rfl (by decide) (lendW (fun _ => rfl) _ rfl)) (.cons (.borrow rfl (by decide) (lendW (fun _ => rfl) _ rfl)) .nil))))))))))))))) (.cons (.agg (.cons (.c _) (.cons (.c _) (.cons (.c _) (.cons (.c _) (.cons (.c _) (.cons (.borrow rfl (by decide) (lendW (fun _ => rfl) _ rfl)) (.cons (.c _) (.cons (.c _) (.cons (.borrow rfl (by decide) (lendW (fun _ => rfl) _ rfl)) (.cons (.c _) (.cons (.c _) (.cons (.c _) (.cons (.borrow rfl (by decide) (lendW (fun _ => rfl) _ rfl)) (.cons (.borrow rfl (by decide) (lendW (fun _ => rfl) _ rfl)) .nil))))))))))))))) .nil)) rfl (.inr ⟨rfl, ownL_root trivial⟩) rfl rfl) rfl rfl ?_
    refine Ops.p rfl ?_
    refine Ops.p rfl ?_
    refine Ops.askO (x := .t 40) rfl h (fun g_187 h => ?_) (fun g_187 h => ?_)
    · skip
      refine Ops.gn rfl g_187 ?_
      refine Ops.gn rfl g_187 ?_
      refine Ops.gn rfl g_187 ?_
      refine Ops.st (s := 33896) (.pkT rfl g_187 rfl) rfl rfl ?_
      refine Ops.nil ?_
      refine Run.condT rfl rfl ?_
      refine Run.seq ?_
      refine Run.ops hm ?_
      refine Ops.p rfl ?_
      refine Ops.nil ?_
      refine Run.ret ?_
      obtain rfl := someO h
      exact Ends.mkG (.inl rfl) rfl (gh_pk [0] [] hB rfl rfl rfl rfl) rfl rfl
    · skip
      refine Ops.gp rfl g_187 rfl ?_
      refine Ops.gp rfl g_187 rfl ?_
      refine Ops.gp rfl g_187 rfl ?_
      refine Ops.st (s := 33896) (.pkF rfl g_187 rfl) rfl rfl ?_
      refine Ops.nil ?_
      refine Run.condO rfl h (fun g_188 h => ?_) (fun g_188 h => ?_)
      · skip
        refine Run.seq ?_
        refine Run.ops hm ?_
        refine Ops.p rfl ?_
        refine Ops.nil ?_
        refine Run.ret ?_
        obtain rfl := someO h
        exact Ends.mkG (.inl rfl) rfl (gh_pk [0] [] hB rfl rfl rfl rfl) rfl rfl
      · skip
        refine Run.skip ?_
        refine Run.seq ?_
        refine Run.seq ?_
        refine Run.draw hm hmix ?_
        refine OpsD.p rfl ?_
        refine OpsD.p rfl ?_
        obtain ⟨y_192, hy_192, h⟩ := bindO h
        refine OpsD.st (s := 41992) (Ev.call [] [] 4 (sem_laws_toNode N x_1 _ hy_192) rfl rfl (.cons (.agg (.cons (.c _) (.cons (.c _) (.cons (.c _) (.cons (.c _) (.cons (.c _) (.cons (.c _) (.cons (.c _) (.cons (.c _) (.cons (.c _) (.cons (.c _) (.cons (.c _) (.cons (.c _) (.cons (.c _) (.cons (.c _) .nil))))))))))))))) .nil) rfl (.inl rfl) rfl rfl) rfl rfl ?_
        obtain ⟨y_193, hy_193, h⟩ := bindO h
        refine OpsD.st (s := 42008) (Ev.call [] [25592, 25593, 25594, 25595, 41992, 41993, 41994, 41995] 0 (sem_laws_eqNode N y_180 y_192 _ hy_193) rfl rfl (.cons (.agg (.cons (.c _) (.cons (.c _) (.cons (.c _) (.cons (.c _) (.cons (.c _) (.cons (.borrow rfl (by decide) (lendW (fun _ => rfl) _ rfl)) (.cons (.c _) (.cons (.c _) (.cons (.borrow rfl (by decide) (lendW (fun _ => rfl) _ rfl)) (.cons (.c _) (.cons (.c _) (.cons (.c _) (.cons (.borrow rfl (by decide) (lendW (fun _ => rfl) _ rfl)) (.cons (.borrow rfl (by decide) (lendW (fun _ => rfl) _ rfl)) .nil))))))))))))))) (.cons (.agg (.cons (.c _) (.cons (.c _) (.cons (.c _) (.cons (.c _) (.cons (.c _) (.cons (.borrow rfl (by decide) (lendW (fun _ => rfl) _ rfl)) (.cons (.c _) (.cons (.c _) (.cons (.borrow rfl (by decide) (lendW (fun _ => rfl) _ rfl)) (.cons (.c _) (.cons (.c _) (.cons (.c _) (.cons (.borrow rfl (by decide) (lendW (fun _ => rfl) _ rfl)) (.cons (.borrow rfl (by decide) (lendW (fun _ => rfl) _ rfl)) .nil))))))))))))))) .nil)) rfl (.inr ⟨rfl, ownL_root trivial⟩) rfl rfl) rfl rfl ?_
        refine OpsD.p rfl ?_
        refine OpsD.nil ⟨by kernel_rfl, ?_⟩
        refine Run.condO rfl h (fun g_194 h => ?_) (fun g_194 h => ?_)
        · skip
          refine Run.seq ?_
          refine Run.ops hm ?_
          refine Ops.p rfl ?_
          refine Ops.nil ?_
          refine Run.ret ?_
          obtain rfl := someO h
          exact Ends.mkG (.inl rfl) rfl (gh_pk [0] [] hB rfl rfl rfl rfl) rfl rfl
        · skip
          refine Run.skip ?_
          refine Run.seq ?_
          refine Run.ops hm ?_
          refine Ops.p rfl ?_
          refine Ops.nil ?_
          refine Run.seq ?_
          refine Run.ops hm ?_
          refine Ops.p rfl ?_
          refine Ops.p rfl ?_
          obtain ⟨y_200, hy_200, h⟩ := bindO h
          obtain ⟨y_201, hy_201, h⟩ := bindO h
          obtain ⟨y_202, hy_202, h⟩ := bindO h
          obtain ⟨y_203, hy_203, h⟩ := bindO h
          obtain ⟨y_204, hy_204, h⟩ := bindO h
          refine Ops.st (s := 54280) (Ev.call [25592, 25593, 25594, 25595] [] 0 (sem_laws_markNode N y_180 (1 : Int) _ hy_200) rfl rfl (.cons (.agg (.cons (.c _) (.cons (.c _) (.cons (.c _) (.cons (.c _) (.cons (.c _) (.cons (.sl rfl) (.cons (.c _) (.cons (.c _) (.cons (.sl rfl) (.cons (.c _) (.cons (.c _) (.cons (.c _) (.cons (.sl rfl) (.cons (.sl rfl) .nil))))))))))))))) (.cons (.c _) .nil)) rfl (.inl rfl) rfl rfl) rfl rfl ?_
          refine Ops.p rfl ?_
          refine Ops.nil ?_
          refine Run.seq ?_
          refine Run.seq ?_
          refine Run.ops hm ?_
          refine Ops.p rfl ?_
          refine Ops.p rfl ?_
          refine Ops.p rfl ?_
          refine Ops.askO (x := .t 55) rfl h (fun g_208 h => ?_) (fun g_208 h => ?_)
          · skip
            refine Ops.gn rfl g_208 ?_
            refine Ops.gn rfl g_208 ?_
            refine Ops.gn rfl g_208 ?_
            refine Ops.gn rfl g_208 ?_
            refine Ops.st (s := 58456) (.pkT rfl g_208 rfl) rfl rfl ?_
            refine Ops.p rfl ?_
            refine Ops.gn rfl rfl ?_
            refine Ops.gn rfl rfl ?_
            refine Ops.gn rfl rfl ?_
            refine Ops.st (s := 58536) (.pkT rfl rfl rfl) rfl rfl ?_
            refine Ops.nil ?_
            refine Run.condT rfl rfl ?_
            refine Run.seq ?_
            refine Run.ops hm ?_
            refine Ops.p rfl ?_
            refine Ops.nil ?_
            refine Run.ret ?_
            obtain rfl := someO h
            exact Ends.mkG (.inl rfl) rfl (gh_pk [0] [] hB rfl rfl rfl rfl) rfl rfl
          · skip
            refine Ops.gp rfl g_208 rfl ?_
            refine Ops.gp rfl g_208 rfl ?_
            obtain ⟨y_209, hy_209, h⟩ := bindO h
            refine Ops.gs (s := 58424) rfl g_208 (Ev.call [] [29704, 29705, 29706, 29707, 21528, 21529, 21530, 21531] 0 (sem_laws_eqNode N y_182.1 y_178.1 _ hy_209) rfl rfl (.cons (.agg (.cons (.c _) (.cons (.c _) (.cons (.c _) (.cons (.c _) (.cons (.c _) (.cons (.borrow rfl (by decide) (lendW (fun _ => rfl) _ rfl)) (.cons (.c _) (.cons (.c _) (.cons (.borrow rfl (by decide) (lendW (fun _ => rfl) _ rfl)) (.cons (.c _) (.cons (.c _) (.cons (.c _) (.cons (.borrow rfl (by decide) (lendW (fun _ => rfl) _ rfl)) (.cons (.borrow rfl (by decide) (lendW (fun _ => rfl) _ rfl)) .nil))))))))))))))) (.cons (.agg (.cons (.c _) (.cons (.c _) (.cons (.c _) (.cons (.c _) (.cons (.c _) (.cons (.borrow rfl (by decide) (lendW (fun _ => rfl) _ rfl)) (.cons (.c _) (.cons (.c _) (.cons (.borrow rfl (by decide) (lendW (fun _ => rfl) _ rfl)) (.cons (.c _) (.cons (.c _) (.cons (.c _) (.cons (.borrow rfl (by decide) (lendW (fun _ => rfl) _ rfl)) (.cons (.borrow rfl (by decide) (lendW (fun _ => rfl) _ rfl)) .nil))))))))))))))) .nil)) rfl (.inr ⟨rfl, ownL_root trivial⟩) rfl rfl) rfl rfl ?_
            refine Ops.gp rfl g_208 rfl ?_
            refine Ops.st (s := 58456) (.pkF rfl g_208 rfl) rfl rfl ?_
            refine Ops.p rfl ?_
            refine Ops.askO (x := .t 61) rfl h (fun g_210 h => ?_) (fun g_210 h => ?_)
            · skip
              refine Ops.gn rfl g_210 ?_
              refine Ops.gn rfl g_210 ?_
              refine Ops.gn rfl g_210 ?_
              refine Ops.st (s := 58536) (.pkT rfl g_210 rfl) rfl rfl ?_
              refine Ops.nil ?_
              refine Run.condT rfl rfl ?_
              refine Run.seq ?_
              refine Run.ops hm ?_
              refine Ops.p rfl ?_
              refine Ops.nil ?_
              refine Run.ret ?_
              obtain rfl := someO h
              exact Ends.mkG (.inl rfl) rfl (gh_pk [0] [] hB rfl rfl rfl rfl) rfl rfl
            · skip
              refine Ops.gp rfl g_210 rfl ?_
              refine Ops.gp rfl g_210 rfl ?_
              refine Ops.gp rfl g_210 rfl ?_
              refine Ops.st (s := 58536) (.pkF rfl g_210 rfl) rfl rfl ?_
              refine Ops.nil ?_
              refine Run.condF rfl g_188 ?_
              refine Run.skip ?_
              refine Run.seq ?_
              refine Run.ops hm ?_
              refine Ops.p rfl ?_
              refine Ops.nil ?_
              refine Run.seq ?_
              refine Run.ops hm ?_
              refine Ops.p rfl ?_
              refine Ops.p rfl ?_
              obtain ⟨y_216, hy_216, h⟩ := bindO h
              obtain ⟨y_217, hy_217, h⟩ := bindO h
              obtain ⟨y_218, hy_218, h⟩ := bindO h
              obtain ⟨y_219, hy_219, h⟩ := bindO h
              obtain ⟨y_220, hy_220, h⟩ := bindO h
              refine Ops.st (s := 70664) (Ev.call [29704, 29705, 29706, 29707] [] 0 (sem_laws_markNode N y_182.1 (1 : Int) _ hy_216) rfl rfl (.cons (.agg (.cons (.c _) (.cons (.c _) (.cons (.c _) (.cons (.c _) (.cons (.c _) (.cons (.sl rfl) (.cons (.c _) (.cons (.c _) (.cons (.sl rfl) (.cons (.c _) (.cons (.c _) (.cons (.c _) (.cons (.sl rfl) (.cons (.sl rfl) .nil))))))))))))))) (.cons (.c _) .nil)) rfl (.inl rfl) rfl rfl) rfl rfl ?_
              refine Ops.p rfl ?_
              refine Ops.nil ?_
              refine Run.seq ?_
              refine Run.ops hm ?_
              refine Ops.p rfl ?_
              refine Ops.nil ?_
              refine Run.seq ?_
              refine Run.ops hm ?_
              refine Ops.p rfl ?_
              refine Ops.p rfl ?_
              obtain ⟨y_222, hy_222, h⟩ := bindO h
              refine Ops.st (s := 78856) (Ev.call [] [29704, 29705, 29706, 29707] 0 (sem_laws_heldNode N (Node.mk y_182.1.Id y_182.1.Term y_182.1.Vote y_182.1.Role y_182.1.Lead y_216.2.1 (Log.mk y_182.1.Log.Start y_182.1.Log.StartTerm y_216.2.2.1) y_182.1.Commit y_182.1.Clock y_182.1.Limit y_216.2.2.2.1 y_216.2.2.2.2) (1 : Int) _ hy_222) rfl rfl (.cons (.agg (.cons (.c _) (.cons (.c _) (.cons (.c _) (.cons (.c _) (.cons (.c _) (.cons (.borrow rfl (by decide) (lendW (fun _ => rfl) _ (len_some hy_217))) (.cons (.c _) (.cons (.c _) (.cons (.borrow rfl (by decide) (lendW (fun _ => rfl) _ (len_some hy_218))) (.cons (.c _) (.cons (.c _) (.cons (.c _) (.cons (.borrow rfl (by decide) (lendW (fun _ => rfl) _ (len_some hy_219))) (.cons (.borrow rfl (by decide) (lendW (fun _ => rfl) _ (len_some hy_220))) .nil))))))))))))))) (.cons (.c _) .nil)) rfl (.inr ⟨rfl, ownL_root trivial⟩) rfl rfl) rfl rfl ?_
              refine Ops.p rfl ?_
              refine Ops.nil ?_
              refine Run.seq ?_
              refine Run.seq ?_
              refine Run.ops hm ?_
              refine Ops.p rfl ?_
              refine Ops.p rfl ?_
              refine Ops.nil ?_
              refine Run.condO rfl h (fun g_224 h => ?_) (fun g_224 h => ?_)
              · skip
                refine Run.seq ?_
                refine Run.ops hm ?_
                refine Ops.p rfl ?_
                refine Ops.nil ?_
                refine Run.ret ?_
                obtain rfl := someO h
                exact Ends.mkG (.inl rfl) rfl (gh_pk [0] [] hB rfl rfl rfl rfl) rfl rfl
              · skip
                refine Run.skip ?_
                refine Run.seq ?_
                refine Run.seq ?_
                refine Run.ops hm ?_
                refine Ops.p rfl ?_
                refine Ops.p rfl ?_
                refine Ops.p rfl ?_
                refine Ops.nil ?_
                refine Run.condO rfl h (fun g_226 h => ?_) (fun g_226 h => ?_)
                · skip
                  refine Run.seq ?_
                  refine Run.ops hm ?_
                  refine Ops.p rfl ?_
                  refine Ops.nil ?_
                  refine Run.ret ?_
                  obtain rfl := someO h
                  exact Ends.mkG (.inl rfl) rfl (gh_pk [0] [] hB rfl rfl rfl rfl) rfl rfl
                · skip
                  refine Run.skip ?_
                  refine Run.seq ?_
                  refine Run.ops hm ?_
                  refine Ops.p rfl ?_
                  obtain ⟨y_229, hy_229, h⟩ := bindO h
                  refine Ops.st (s := 99320) (Ev.call [] [] 4 (sem_laws_toNode N x_1 _ hy_229) rfl rfl (.cons (.agg (.cons (.c _) (.cons (.c _) (.cons (.c _) (.cons (.c _) (.cons (.c _) (.cons (.c _) (.cons (.c _) (.cons (.c _) (.cons (.c _) (.cons (.c _) (.cons (.c _) (.cons (.c _) (.cons (.c _) (.cons (.c _) .nil))))))))))))))) .nil) rfl (.inl rfl) rfl rfl) rfl rfl ?_
                  refine Ops.p rfl ?_
                  obtain ⟨y_230, hy_230, h⟩ := bindO h
                  refine Ops.st (s := 99352) (Ev.call [] [99320, 99321, 99322, 99323] 4 (sem_impl_Settle N y_229 x_2 _ hy_230) rfl rfl (.cons (.agg (.cons (.c _) (.cons (.c _) (.cons (.c _) (.cons (.c _) (.cons (.c _) (.cons (.borrow rfl (by decide) (lendW (fun _ => rfl) _ rfl)) (.cons (.c _) (.cons (.c _) (.cons (.borrow rfl (by decide) (lendW (fun _ => rfl) _ rfl)) (.cons (.c _) (.cons (.c _) (.cons (.c _) (.cons (.borrow rfl (by decide) (lendW (fun _ => rfl) _ rfl)) (.cons (.borrow rfl (by decide) (lendW (fun _ => rfl) _ rfl)) .nil))))))))))))))) (.cons (.c _) .nil)) rfl (.inr ⟨rfl, ownL_root ⟨own_rows (fun _ => rfl) _, own_rows (fun _ => rfl) _, own_rows (fun _ => rfl) _, own_rows (fun _ => rfl) _, trivial⟩⟩) rfl rfl) rfl rfl ?_
                  refine Ops.p rfl ?_
                  refine Ops.p rfl ?_
                  refine Ops.p rfl ?_
                  refine Ops.st (s := 99416) (.al rfl rfl) rfl rfl ?_
                  refine Ops.s0 (s := 99432) (.sto rfl rfl rfl rfl rfl rfl) rfl rfl ?_
                  refine Ops.p rfl ?_
                  refine Ops.nil ?_
                  refine Run.seq ?_
                  refine Run.seq ?_
                  refine Run.ops hm ?_
                  refine Ops.p rfl ?_
                  refine Ops.p rfl ?_
                  obtain ⟨y_234, hy_234, h⟩ := bindO h
                  refine Ops.st (s := 103432) (Ev.call [] [99352, 99353, 99354, 99355, 21528, 21529, 21530, 21531] 0 (sem_laws_eqNode N y_230.1 y_178.1 _ hy_234) rfl rfl (.cons (.agg (.cons (.c _) (.cons (.c _) (.cons (.c _) (.cons (.c _) (.cons (.c _) (.cons (.borrow rfl (by decide) (lendW (fun _ => rfl) _ rfl)) (.cons (.c _) (.cons (.c _) (.cons (.borrow rfl (by decide) (lendW (fun _ => rfl) _ rfl)) (.cons (.c _) (.cons (.c _) (.cons (.c _) (.cons (.borrow rfl (by decide) (lendW (fun _ => rfl) _ rfl)) (.cons (.borrow rfl (by decide) (lendW (fun _ => rfl) _ rfl)) .nil))))))))))))))) (.cons (.agg (.cons (.c _) (.cons (.c _) (.cons (.c _) (.cons (.c _) (.cons (.c _) (.cons (.borrow rfl (by decide) (lendW (fun _ => rfl) _ rfl)) (.cons (.c _) (.cons (.c _) (.cons (.borrow rfl (by decide) (lendW (fun _ => rfl) _ rfl)) (.cons (.c _) (.cons (.c _) (.cons (.c _) (.cons (.borrow rfl (by decide) (lendW (fun _ => rfl) _ rfl)) (.cons (.borrow rfl (by decide) (lendW (fun _ => rfl) _ rfl)) .nil))))))))))))))) .nil)) rfl (.inr ⟨rfl, ownL_root trivial⟩) rfl rfl) rfl rfl ?_
                  refine Ops.p rfl ?_
                  refine Ops.p rfl ?_
                  refine Ops.askO (x := .t 88) rfl h (fun g_235 h => ?_) (fun g_235 h => ?_)
                  · skip
                    refine Ops.gn rfl g_235 ?_
                    refine Ops.gn rfl g_235 ?_
                    refine Ops.gn rfl g_235 ?_
                    refine Ops.st (s := 103528) (.pkT rfl g_235 rfl) rfl rfl ?_
                    refine Ops.nil ?_
                    refine Run.condT rfl rfl ?_
                    refine Run.seq ?_
                    refine Run.ops hm ?_
                    refine Ops.p rfl ?_
                    refine Ops.nil ?_
                    refine Run.ret ?_
                    obtain rfl := someO h
                    exact Ends.mkG (.inl rfl) rfl (gh_pk [0] [] hB rfl rfl rfl rfl) rfl rfl
                  · skip
                    refine Ops.gp rfl g_235 rfl ?_
                    refine Ops.gp rfl g_235 rfl ?_
                    refine Ops.gp rfl g_235 rfl ?_
                    refine Ops.st (s := 103528) (.pkF rfl g_235 rfl) rfl rfl ?_
                    refine Ops.nil ?_
                    refine Run.condO rfl h (fun g_236 h => ?_) (fun g_236 h => ?_)
                    · skip
                      refine Run.seq ?_
                      refine Run.ops hm ?_
                      refine Ops.p rfl ?_
                      refine Ops.nil ?_
                      refine Run.ret ?_
                      obtain rfl := someO h
                      exact Ends.mkG (.inl rfl) rfl (gh_pk [0] [] hB rfl rfl rfl rfl) rfl rfl
                    · skip
                      refine Run.skip ?_
                      refine Run.seq ?_
                      refine Run.ops hm ?_
                      refine Ops.p rfl ?_
                      refine Ops.nil ?_
                      refine Run.seq ?_
                      refine Run.ops hm ?_
                      refine Ops.p rfl ?_
                      refine Ops.p rfl ?_
                      obtain ⟨y_238, hy_238, h⟩ := bindO h
                      refine Ops.st (s := 115720) (Ev.call [] [29704, 29705, 29706, 29707] 0 (sem_laws_heldNode N (Node.mk y_182.1.Id y_182.1.Term y_182.1.Vote y_182.1.Role y_182.1.Lead y_216.2.1 (Log.mk y_182.1.Log.Start y_182.1.Log.StartTerm y_216.2.2.1) y_182.1.Commit y_182.1.Clock y_182.1.Limit y_216.2.2.2.1 y_216.2.2.2.2) (1 : Int) _ hy_238) rfl rfl (.cons (.agg (.cons (.c _) (.cons (.c _) (.cons (.c _) (.cons (.c _) (.cons (.c _) (.cons (.borrow rfl (by decide) (lendW (fun _ => rfl) _ (len_some hy_217))) (.cons (.c _) (.cons (.c _) (.cons (.borrow rfl (by decide) (lendW (fun _ => rfl) _ (len_some hy_218))) (.cons (.c _) (.cons (.c _) (.cons (.c _) (.cons (.borrow rfl (by decide) (lendW (fun _ => rfl) _ (len_some hy_219))) (.cons (.borrow rfl (by decide) (lendW (fun _ => rfl) _ (len_some hy_220))) .nil))))))))))))))) (.cons (.c _) .nil)) rfl (.inr ⟨rfl, ownL_root trivial⟩) rfl rfl) rfl rfl ?_
                      refine Ops.p rfl ?_
                      refine Ops.nil ?_
                      refine Run.seq ?_
                      refine Run.seq ?_
                      refine Run.ops hm ?_
                      refine Ops.p rfl ?_
                      refine Ops.p rfl ?_
                      refine Ops.nil ?_
                      refine Run.condO rfl h (fun g_240 h => ?_) (fun g_240 h => ?_)
                      · skip
                        refine Run.seq ?_
                        refine Run.ops hm ?_
                        refine Ops.p rfl ?_
                        refine Ops.nil ?_
                        refine Run.ret ?_
                        obtain rfl := someO h
                        exact Ends.mkG (.inl rfl) rfl (gh_pk [0] [] hB rfl rfl rfl rfl) rfl rfl
                      · skip
                        refine Run.skip ?_
                        refine Run.seq ?_
                        refine Run.seq ?_
                        refine Run.ops hm ?_
                        refine Ops.p rfl ?_
                        refine Ops.p rfl ?_
                        refine Ops.p rfl ?_
                        refine Ops.nil ?_
                        refine Run.condO rfl h (fun g_241 h => ?_) (fun g_241 h => ?_)
                        · skip
                          refine Run.seq ?_
                          refine Run.ops hm ?_
                          refine Ops.p rfl ?_
                          refine Ops.nil ?_
                          refine Run.ret ?_
                          obtain rfl := someO h
                          exact Ends.mkG (.inl rfl) rfl (gh_pk [0] [] hB rfl rfl rfl rfl) rfl rfl
                        · skip
                          refine Run.skip ?_
                          refine Run.seq ?_
                          refine Run.ops hm ?_
                          refine Ops.p rfl ?_
                          refine Ops.nil ?_
                          refine Run.ret ?_
                          obtain rfl := someO h
                          exact Ends.mkG (.inl rfl) rfl (gh_pk [0] [] hB rfl rfl rfl rfl) rfl rfl
end Go.Proofs.Ytebbgdjmplceiaa.Pe.FnExactSettle
