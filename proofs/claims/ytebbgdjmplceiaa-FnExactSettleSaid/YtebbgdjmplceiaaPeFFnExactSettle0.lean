/- Functions, as pure functions; and that Go does just that. -/
import Derived.Test.YtebbgdjmplceiaaPeTy
import Derived.Test.YtebbgdjmplceiaaPeSFnExactSettle
namespace Go.Proofs.Ytebbgdjmplceiaa.Pe.FnExactSettle
open Go Go.RowKit
set_option linter.unusedVariables false
set_option linter.unusedSimpArgs false
set_option maxHeartbeats 40000000
theorem hmix : Try.prog.follows .mixedOrders = true := by kernel_rfl
structure Entry where
  Term : Int
  Kind : Int
  Data : ByteArray
abbrev encEntry (x : Entry) : List C := [.i .i64 x.Term, .i .i64 x.Kind, .s x.Data]
structure Log where
  Start : Int
  StartTerm : Int
  Entries : (List Entry)
abbrev encLogL (o : Bool) (x : Log) : List C := [.i .i64 x.Start, .i .i64 x.StartTerm, .row o 71 (x.Entries.map encEntry)]
theorem ro_encLogL (x : Log) : roCs (encLogL true x) = encLogL false x := by simp only [encLogL, roCs, roC, roRows_mapf (fun _ => rfl)]
theorem own_encLogL (x : Log) : ownCs (encLogL true x) = true := by simp only [encLogL, ownCs, ownC, Bool.and_self, Bool.and_true, Bool.true_and, own_rows (f := encEntry) (fun _ => rfl)]
structure Peer where
  Id : Int
  Next : Int
  Match : Int
  Sent : Int
abbrev encPeer (x : Peer) : List C := [.i .i64 x.Id, .i .i64 x.Next, .i .i64 x.Match, .i .i64 x.Sent]
structure Node where
  Id : Int
  Term : Int
  Vote : Int
  Role : Int
  Lead : Int
  Conf : (List Int)
  Log : Log
  Commit : Int
  Clock : Int
  Limit : Int
  Votes : (List Int)
  Peers : (List Peer)
abbrev encNodeL (o : Bool) (x : Node) : List C := [.i .i64 x.Id, .i .i64 x.Term, .i .i64 x.Vote, .i .i64 x.Role, .i .i64 x.Lead, .row o 3 (x.Conf.map encI), .i .i64 x.Log.Start, .i .i64 x.Log.StartTerm, .row o 71 (x.Log.Entries.map encEntry), .i .i64 x.Commit, .i .i64 x.Clock, .i .i64 x.Limit, .row o 3 (x.Votes.map encI), .row o 182 (x.Peers.map encPeer)]
theorem ro_encNodeL (x : Node) : roCs (encNodeL true x) = encNodeL false x := by simp only [encNodeL, roCs, roC, roRows_mapf (fun _ => rfl), roRows_mapf (fun _ => rfl), roRows_mapf (fun _ => rfl), roRows_mapf (fun _ => rfl)]
theorem own_encNodeL (x : Node) : ownCs (encNodeL true x) = true := by simp only [encNodeL, ownCs, ownC, Bool.and_self, Bool.and_true, Bool.true_and, own_rows (f := encI) (fun _ => rfl), own_rows (f := encEntry) (fun _ => rfl), own_rows (f := encI) (fun _ => rfl), own_rows (f := encPeer) (fun _ => rfl)]
abbrev encLog (o : Bool) (x : Log) : List C := [.i .i64 x.Start, .i .i64 x.StartTerm, .row o 48 (x.Entries.map encEntry)]
theorem ro_encLog (x : Log) : roCs (encLog true x) = encLog false x := by simp only [encLog, roCs, roC, roRows_mapf (fun _ => rfl)]
theorem own_encLog (x : Log) : ownCs (encLog true x) = true := by simp only [encLog, ownCs, ownC, Bool.and_self, Bool.and_true, Bool.true_and, own_rows (f := encEntry) (fun _ => rfl)]
abbrev encNode (o : Bool) (x : Node) : List C := [.i .i64 x.Id, .i .i64 x.Term, .i .i64 x.Vote, .i .i64 x.Role, .i .i64 x.Lead, .row o 3 (x.Conf.map encI), .i .i64 x.Log.Start, .i .i64 x.Log.StartTerm, .row o 48 (x.Log.Entries.map encEntry), .i .i64 x.Commit, .i .i64 x.Clock, .i .i64 x.Limit, .row o 3 (x.Votes.map encI), .row o 172 (x.Peers.map encPeer)]
theorem ro_encNode (x : Node) : roCs (encNode true x) = encNode false x := by simp only [encNode, roCs, roC, roRows_mapf (fun _ => rfl), roRows_mapf (fun _ => rfl), roRows_mapf (fun _ => rfl), roRows_mapf (fun _ => rfl)]
theorem own_encNode (x : Node) : ownCs (encNode true x) = true := by simp only [encNode, ownCs, ownC, Bool.and_self, Bool.and_true, Bool.true_and, own_rows (f := encI) (fun _ => rfl), own_rows (f := encEntry) (fun _ => rfl), own_rows (f := encI) (fun _ => rfl), own_rows (f := encPeer) (fun _ => rfl)]
theorem bt3 : bytesOf Try.prog 3 ≤ 2048 := of_decide_eq_true (by kernel_rfl)
theorem bt48 : bytesOf Try.prog 48 ≤ 2048 := of_decide_eq_true (by kernel_rfl)
theorem bt172 : bytesOf Try.prog 172 ≤ 2048 := of_decide_eq_true (by kernel_rfl)
def laws_szIntS (N : Nat) (x_1 : (List Int)) (x_2 : Int) : Option (Int) :=
 (if (decide ((w64 (x_2 - (x_1.length : Int))) < (0 : Int))) = true then
 some (-1 : Int)
 else
 some (w64 (x_2 - (x_1.length : Int))))
theorem sem_laws_szIntS (N : Nat) (x_1 : (List Int)) (x_2 : Int) (r : Int) (h : laws_szIntS N x_1 x_2 = some r) : Says Try.prog 93 [RO 3 (x_1.map encI), VI x_2] 0 [] (VI r) [] := by
  unfold laws_szIntS at h
  refine Says.of_run s93 Try.call93 rfl fun B hB => ?_
  have hm : B.m ≤ 1000 := by omega
  refine Run.seq ?_
  refine Run.ops hm ?_
  refine Ops.p rfl ?_
  refine Ops.nil ?_
  refine Run.seq ?_
  refine Run.ops hm ?_
  refine Ops.p rfl ?_
  refine Ops.p rfl ?_
  refine Ops.st (s := 5128) (Ev.lnF rfl) rfl rfl ?_
  refine Ops.p rfl ?_
  refine Ops.p rfl ?_
  refine Ops.nil ?_
  refine Run.seq ?_
  refine Run.seq ?_
  refine Run.ops hm ?_
  refine Ops.p rfl ?_
  refine Ops.p rfl ?_
  refine Ops.nil ?_
  refine Run.condO rfl h (fun g_103 h => ?_) (fun g_103 h => ?_)
  · skip
    refine Run.seq ?_
    refine Run.ops hm ?_
    refine Ops.p rfl ?_
    refine Ops.nil ?_
    refine Run.ret ?_
    obtain rfl := someO h
    exact Ends.mkG (.inl rfl) rfl (gh_pk [0] [] hB rfl rfl rfl rfl) rfl rfl
  · skip
    refine Run.skip ?_
    refine Run.seq ?_
    refine Run.ops hm ?_
    refine Ops.p rfl ?_
    refine Ops.p rfl ?_
    refine Ops.nil ?_
    refine Run.ret ?_
    obtain rfl := someO h
    exact Ends.mkG (.inl rfl) rfl (gh_pk [0] [] hB rfl rfl rfl rfl) rfl rfl
def laws_szEntry (N : Nat) (x_1 : Entry) (x_2 : Int) : Option (Int) :=
 (if (decide ((w64 (x_2 - (x_1.Data.size : Int))) < (0 : Int))) = true then
 some (-1 : Int)
 else
 some (w64 (x_2 - (x_1.Data.size : Int))))
theorem sem_laws_szEntry (N : Nat) (x_1 : Entry) (x_2 : Int) (r : Int) (h : laws_szEntry N x_1 x_2 = some r) : Says Try.prog 102 [.agg [VI x_1.Term, VI x_1.Kind, VS x_1.Data], VI x_2] 0 [] (VI r) [] := by
  unfold laws_szEntry at h
  refine Says.of_run s102 Try.call102 rfl fun B hB => ?_
  have hm : B.m ≤ 1000 := by omega
  refine Run.seq ?_
  refine Run.ops hm ?_
  refine Ops.st (s := 1000) (.bx rfl rfl) rfl rfl ?_
  refine Ops.p rfl ?_
  refine Ops.nil ?_
  refine Run.seq ?_
  refine Run.ops hm ?_
  refine Ops.p rfl ?_
  refine Ops.p rfl ?_
  refine Ops.p rfl ?_
  refine Ops.p rfl ?_
  refine Ops.p rfl ?_
  refine Ops.p rfl ?_
  refine Ops.nil ?_
  refine Run.seq ?_
  refine Run.seq ?_
  refine Run.ops hm ?_
  refine Ops.p rfl ?_
  refine Ops.p rfl ?_
  refine Ops.nil ?_
  refine Run.condO rfl h (fun g_103 h => ?_) (fun g_103 h => ?_)
  · skip
    refine Run.seq ?_
    refine Run.ops hm ?_
    refine Ops.p rfl ?_
    refine Ops.nil ?_
    refine Run.ret ?_
    obtain rfl := someO h
    exact Ends.mkG (.inl rfl) rfl (gh_pk [0] [] hB rfl rfl rfl rfl) rfl rfl
  · skip
    refine Run.skip ?_
    refine Run.seq ?_
    refine Run.ops hm ?_
    refine Ops.p rfl ?_
    refine Ops.p rfl ?_
    refine Ops.nil ?_
    refine Run.ret ?_
    obtain rfl := someO h
    exact Ends.mkG (.inl rfl) rfl (gh_pk [0] [] hB rfl rfl rfl rfl) rfl rfl
def laws_szEntryS_l1 (N : Nat) (x_1 : (List Entry)) : Nat → Int → Int → Option ((Int) ⊕ (Int))
 | 0, _, _ => none
 | m + 1, x_197, x_198 =>
 (if (decide (x_198 < (x_1.length : Int))) = true then
 (at? x_1 x_198).bind fun x_223 =>
 (laws_szEntry N x_223 x_197).bind fun y_224 =>
 (if (decide (y_224 < (0 : Int))) = true then
 some (Sum.inl (-1 : Int))
 else
 laws_szEntryS_l1 N x_1 m y_224 (w64 (x_198 + (1 : Int))))
 else
 some (Sum.inr x_197))
def laws_szEntryS_l1_r (N : Nat) (x_1 : (List Entry)) : (List Entry) → Int → Int → Option ((Int) ⊕ (Int))
 | [], x_197, x_198 =>
 some (Sum.inr x_197)
 | hd :: tl, x_197, x_198 =>
 (some hd).bind fun x_223 =>
 (laws_szEntry N x_223 x_197).bind fun y_224 =>
 (if (decide (y_224 < (0 : Int))) = true then
 some (Sum.inl (-1 : Int))
 else
 laws_szEntryS_l1_r N x_1 tl y_224 (w64 (x_198 + (1 : Int))))
theorem laws_szEntryS_l1_rng (N : Nat) (x_1 : (List Entry)) (hx : x_1.length ≤ 1099511627776) : ∀ (d k m : Nat) (x_197 : Int), x_1.length = k + d → d < m → laws_szEntryS_l1 N x_1 m x_197 (k : Int) = laws_szEntryS_l1_r N x_1 (x_1.drop k) x_197 (k : Int) := by
  intro d
  induction d with
  | zero =>
    intro k m x_197 hd hm
    obtain ⟨m, rfl⟩ : ∃ q, m = q + 1 := ⟨m - 1, by omega⟩
    rw [laws_szEntryS_l1, if_neg (by simp; omega), List.drop_eq_nil_of_le (by omega), laws_szEntryS_l1_r]
  | succ d ih =>
    intro k m x_197 hd hm
    obtain ⟨m, rfl⟩ : ∃ q, m = q + 1 := ⟨m - 1, by omega⟩
    have hk : k < x_1.length := by omega
    rw [laws_szEntryS_l1, if_pos (by simp; omega), List.drop_eq_getElem_cons hk, laws_szEntryS_l1_r]
    have h1 := at_lt hk
    have h2 := w64_succ (k := k) (by omega)
    have h3 := ih (k + 1) m
    simp only [h1, h2, h3 _ (by omega) (by omega)]
theorem laws_szEntryS_l1_eq {N : Nat} (x_1 : (List Entry)) (hx : x_1.length ≤ 1099511627776) (hN : x_1.length < N) (x_197 : Int) : laws_szEntryS_l1 N x_1 N x_197 0 = laws_szEntryS_l1_r N x_1 x_1 x_197 0 := laws_szEntryS_l1_rng N x_1 hx x_1.length 0 N x_197 (by omega) hN
def laws_szEntryS (N : Nat) (x_1 : (List Entry)) (x_2 : Int) : Option (Int) :=
 (if (decide ((w64 (x_2 - (x_1.length : Int))) < (0 : Int))) = true then
 some (-1 : Int)
 else
 joinP (fun (v_195 : Int) =>
 some v_195) fun j_195 =>
 (laws_szEntryS_l1 N x_1 N (w64 (x_2 - (x_1.length : Int))) (0 : Int)).bind (Sum.elim (fun v_211 => some v_211) (fun (v_212 : Int) => j_195 v_212)))
theorem sem_laws_szEntryS (N : Nat) (x_1 : (List Entry)) (x_2 : Int) (r : Int) (h : laws_szEntryS N x_1 x_2 = some r) : Says Try.prog 85 [RO 71 (x_1.map encEntry), VI x_2] 0 [] (VI r) [] := by
  unfold laws_szEntryS at h
  refine Says.of_run s85 Try.call85 rfl fun B hB => ?_
  have hm : B.m ≤ 1000 := by omega
  refine Run.seq ?_
  refine Run.ops hm ?_
  refine Ops.p rfl ?_
  refine Ops.nil ?_
  refine Run.seq ?_
  refine Run.ops hm ?_
  refine Ops.p rfl ?_
  refine Ops.p rfl ?_
  refine Ops.st (s := 5128) (Ev.lnF rfl) rfl rfl ?_
  refine Ops.p rfl ?_
  refine Ops.p rfl ?_
  refine Ops.nil ?_
  refine Run.seq ?_
  refine Run.seq ?_
  refine Run.ops hm ?_
  refine Ops.p rfl ?_
  refine Ops.p rfl ?_
  refine Ops.nil ?_
  refine Run.condO rfl h (fun g_164 h => ?_) (fun g_164 h => ?_)
  · skip
    refine Run.seq ?_
    refine Run.ops hm ?_
    refine Ops.p rfl ?_
    refine Ops.nil ?_
    refine Run.ret ?_
    obtain rfl := someO h
    exact Ends.mkG (.inl rfl) rfl (gh_pk [0] [] hB rfl rfl rfl rfl) rfl rfl
  · skip
    refine Run.skip ?_
    refine Run.seqO h (fun (v_195 : Int) => [(1, VI v_195)]) (fun (v_195 : Int) => []) (fun h => ?_) (fun v_195 h => ?_)
    · skip
      refine Run.seq ?_
      refine Run.ops hm ?_
      refine Ops.p rfl ?_
      refine Ops.nil ?_
      refine Run.block ?_
      obtain ⟨res_212, h, hk_212⟩ := bindO h
      refine Run.loop (n := N) (fun m_212 fr σ => ∃ (x_197 : Int), ∃ (x_198 : Int), laws_szEntryS_l1 N x_1 m_212 x_197 x_198 = some res_212 ∧ fr = [(0, RO 71 (x_1.map encEntry)), (1, VI x_197), (5, VI x_198)] ∧ σ = []) (gh_pk [0, 1, 5] [] hB rfl rfl rfl rfl) ⟨_, _, h, rfl, rfl⟩ ?_
      rintro m_212 fr σ ⟨x_197, x_198, h, rfl, rfl⟩
      obtain _ | m_212 := m_212
      · rw [laws_szEntryS_l1] at h; cases h
      rw [laws_szEntryS_l1] at h
      refine Run.seq ?_
      refine Run.seq ?_
      refine Run.ops hm ?_
      refine Ops.p rfl ?_
      refine Ops.p rfl ?_
      refine Ops.st (s := 21512) (Ev.lnF rfl) rfl rfl ?_
      refine Ops.p rfl ?_
      refine Ops.nil ?_
      refine Run.condO rfl h (fun g_215 h => ?_) (fun g_215 h => ?_)
      · skip
        refine Run.skip ?_
        refine Run.seq ?_
        refine Run.block ?_
        refine Run.seq ?_
        refine Run.ops hm ?_
        refine Ops.p rfl ?_
        refine Ops.p rfl ?_
        obtain ⟨x_223, hx_223, h⟩ := bindO h
        refine Ops.st (s := 29704) (Ev.iaF rfl rfl hx_223) rfl rfl ?_
        refine Ops.p rfl ?_
        refine Ops.p rfl ?_
        obtain ⟨y_224, hy_224, h⟩ := bindO h
        refine Ops.st (s := 29752) (Ev.call [] [] 0 (sem_laws_szEntry N x_223 x_197 _ hy_224) rfl rfl (.cons (.agg (.cons (.c _) (.cons (.c _) (.cons (.c _) .nil)))) (.cons (.c _) .nil)) rfl (.inl rfl) rfl rfl) rfl rfl ?_
        refine Ops.p rfl ?_
        refine Ops.nil ?_
        refine Run.seq ?_
        refine Run.ops hm ?_
        refine Ops.p rfl ?_
        refine Ops.p rfl ?_
        refine Ops.nil ?_
        refine Run.condO rfl h (fun g_225 h => ?_) (fun g_225 h => ?_)
        · skip
          refine Run.seq ?_
          refine Run.ops hm ?_
          refine Ops.p rfl ?_
          refine Ops.nil ?_
          refine Run.ret ?_
          obtain rfl := someO h
          have h := hk_212
          replace h := inlO h
          obtain rfl := someO h
          exact Ends.mkG (.inl rfl) rfl (gh_pk [0] [] hB rfl rfl rfl rfl) rfl rfl
        · skip
          refine Run.skip ?_
          refine Run.ops hm ?_
          refine Ops.p rfl ?_
          refine Ops.p rfl ?_
          refine Ops.p rfl ?_
          refine Ops.nil ?_
          exact ⟨m_212, Nat.lt_succ_self m_212, _, _, (gh_pk [0, 1, 5] [] hB rfl rfl rfl rfl), _, _, h, rfl, rfl⟩
      · skip
        refine Run.exit ?_
        obtain rfl := someO h
        have h := hk_212
        replace h := inrO h
        exact ⟨_, _, (gh_pk [1] [] hB rfl rfl rfl rfl), x_197, h, rfl, rfl⟩
    · skip
      refine Run.seq ?_
      refine Run.ops hm ?_
      refine Ops.p rfl ?_
      refine Ops.p rfl ?_
      refine Ops.nil ?_
      refine Run.ret ?_
      obtain rfl := someO h
      exact Ends.mkG (.inl rfl) rfl (gh_pk [0] [] hB rfl rfl rfl rfl) rfl rfl
def laws_szLog (N : Nat) (x_1 : Log) (x_2 : Int) : Option (Int) :=
 (laws_szEntryS N x_1.Entries x_2).bind fun y_105 =>
 (if (decide (y_105 < (0 : Int))) = true then
 some (-1 : Int)
 else
 some y_105)
theorem sem_laws_szLog (N : Nat) (x_1 : Log) (x_2 : Int) (r : Int) (h : laws_szLog N x_1 x_2 = some r) : Says Try.prog 30 [.agg [VI x_1.Start, VI x_1.StartTerm, RO 71 (x_1.Entries.map encEntry)], VI x_2] 0 [] (VI r) [] := by
  unfold laws_szLog at h
  refine Says.of_run s30 Try.call30 rfl fun B hB => ?_
  have hm : B.m ≤ 1000 := by omega
  refine Run.seq ?_
  refine Run.ops hm ?_
  refine Ops.st (s := 1000) (.bx rfl rfl) rfl rfl ?_
  refine Ops.p rfl ?_
  refine Ops.nil ?_
  refine Run.seq ?_
  refine Run.ops hm ?_
  refine Ops.p rfl ?_
  refine Ops.p rfl ?_
  refine Ops.p rfl ?_
  obtain ⟨y_105, hy_105, h⟩ := bindO h
  refine Ops.st (s := 5144) (Ev.call [] [] 0 (sem_laws_szEntryS N x_1.Entries x_2 _ hy_105) rfl rfl (.cons (.c _) (.cons (.c _) .nil)) rfl (.inl rfl) rfl rfl) rfl rfl ?_
  refine Ops.p rfl ?_
  refine Ops.nil ?_
  refine Run.seq ?_
  refine Run.seq ?_
  refine Run.ops hm ?_
  refine Ops.p rfl ?_
  refine Ops.p rfl ?_
  refine Ops.nil ?_
  refine Run.condO rfl h (fun g_107 h => ?_) (fun g_107 h => ?_)
  · skip
    refine Run.seq ?_
    refine Run.ops hm ?_
    refine Ops.p rfl ?_
    refine Ops.nil ?_
    refine Run.ret ?_
    obtain rfl := someO h
    exact Ends.mkG (.inl rfl) rfl (gh_pk [0] [] hB rfl rfl rfl rfl) rfl rfl
  · skip
    refine Run.skip ?_
    refine Run.seq ?_
    refine Run.ops hm ?_
    refine Ops.p rfl ?_
    refine Ops.p rfl ?_
    refine Ops.nil ?_
    refine Run.ret ?_
    obtain rfl := someO h
    exact Ends.mkG (.inl rfl) rfl (gh_pk [0] [] hB rfl rfl rfl rfl) rfl rfl
def laws_szPeerS (N : Nat) (x_1 : (List Peer)) (x_2 : Int) : Option (Int) :=
 (if (decide ((w64 (x_2 - (x_1.length : Int))) < (0 : Int))) = true then
 some (-1 : Int)
 else
 some (w64 (x_2 - (x_1.length : Int))))
theorem sem_laws_szPeerS (N : Nat) (x_1 : (List Peer)) (x_2 : Int) (r : Int) (h : laws_szPeerS N x_1 x_2 = some r) : Says Try.prog 105 [RO 182 (x_1.map encPeer), VI x_2] 0 [] (VI r) [] := by
  unfold laws_szPeerS at h
  refine Says.of_run s105 Try.call105 rfl fun B hB => ?_
  have hm : B.m ≤ 1000 := by omega
  refine Run.seq ?_
  refine Run.ops hm ?_
  refine Ops.p rfl ?_
  refine Ops.nil ?_
  refine Run.seq ?_
  refine Run.ops hm ?_
  refine Ops.p rfl ?_
  refine Ops.p rfl ?_
  refine Ops.st (s := 5128) (Ev.lnF rfl) rfl rfl ?_
  refine Ops.p rfl ?_
  refine Ops.p rfl ?_
  refine Ops.nil ?_
  refine Run.seq ?_
  refine Run.seq ?_
  refine Run.ops hm ?_
  refine Ops.p rfl ?_
  refine Ops.p rfl ?_
  refine Ops.nil ?_
  refine Run.condO rfl h (fun g_103 h => ?_) (fun g_103 h => ?_)
  · skip
    refine Run.seq ?_
    refine Run.ops hm ?_
    refine Ops.p rfl ?_
    refine Ops.nil ?_
    refine Run.ret ?_
    obtain rfl := someO h
    exact Ends.mkG (.inl rfl) rfl (gh_pk [0] [] hB rfl rfl rfl rfl) rfl rfl
  · skip
    refine Run.skip ?_
    refine Run.seq ?_
    refine Run.ops hm ?_
    refine Ops.p rfl ?_
    refine Ops.p rfl ?_
    refine Ops.nil ?_
    refine Run.ret ?_
    obtain rfl := someO h
    exact Ends.mkG (.inl rfl) rfl (gh_pk [0] [] hB rfl rfl rfl rfl) rfl rfl
def laws_szNode (N : Nat) (x_1 : Node) (x_2 : Int) : Option (Int) :=
 (laws_szIntS N x_1.Conf x_2).bind fun y_117 =>
 (if (decide (y_117 < (0 : Int))) = true then
 some (-1 : Int)
 else
 (laws_szLog N x_1.Log y_117).bind fun y_121 =>
 (if (decide (y_121 < (0 : Int))) = true then
 some (-1 : Int)
 else
 (laws_szIntS N x_1.Votes y_121).bind fun y_125 =>
 (if (decide (y_125 < (0 : Int))) = true then
 some (-1 : Int)
 else
 (laws_szPeerS N x_1.Peers y_125).bind fun y_129 =>
 (if (decide (y_129 < (0 : Int))) = true then
 some (-1 : Int)
 else
 some y_129))))
theorem sem_laws_szNode (N : Nat) (x_1 : Node) (x_2 : Int) (r : Int) (h : laws_szNode N x_1 x_2 = some r) : Says Try.prog 45 [.agg [VI x_1.Id, VI x_1.Term, VI x_1.Vote, VI x_1.Role, VI x_1.Lead, RO 3 (x_1.Conf.map encI), VI x_1.Log.Start, VI x_1.Log.StartTerm, RO 71 (x_1.Log.Entries.map encEntry), VI x_1.Commit, VI x_1.Clock, VI x_1.Limit, RO 3 (x_1.Votes.map encI), RO 182 (x_1.Peers.map encPeer)], VI x_2] 0 [] (VI r) [] := by
  unfold laws_szNode at h
  refine Says.of_run s45 Try.call45 rfl fun B hB => ?_
  have hm : B.m ≤ 1000 := by omega
  refine Run.seq ?_
  refine Run.ops hm ?_
  refine Ops.st (s := 1000) (.bx rfl rfl) rfl rfl ?_
  refine Ops.p rfl ?_
  refine Ops.nil ?_
  refine Run.seq ?_
  refine Run.ops hm ?_
  refine Ops.p rfl ?_
  refine Ops.p rfl ?_
  refine Ops.p rfl ?_
  obtain ⟨y_117, hy_117, h⟩ := bindO h
  refine Ops.st (s := 5144) (Ev.call [] [] 0 (sem_laws_szIntS N x_1.Conf x_2 _ hy_117) rfl rfl (.cons (.c _) (.cons (.c _) .nil)) rfl (.inl rfl) rfl rfl) rfl rfl ?_
  refine Ops.p rfl ?_
  refine Ops.nil ?_
  refine Run.seq ?_
  refine Run.seq ?_
  refine Run.ops hm ?_
  refine Ops.p rfl ?_
  refine Ops.p rfl ?_
  refine Ops.nil ?_
  refine Run.condO rfl h (fun g_119 h => ?_) (fun g_119 h => ?_)
  · skip
    refine Run.seq ?_
    refine Run.ops hm ?_
    refine Ops.p rfl ?_
    refine Ops.nil ?_
    refine Run.ret ?_
    obtain rfl := someO h
    exact Ends.mkG (.inl rfl) rfl (gh_pk [0] [] hB rfl rfl rfl rfl) rfl rfl
  · skip
    refine Run.skip ?_
    refine Run.seq ?_
    refine Run.ops hm ?_
    refine Ops.p rfl ?_
    refine Ops.p rfl ?_
    refine Ops.p rfl ?_
    obtain ⟨y_121, hy_121, h⟩ := bindO h
    refine Ops.st (s := 17432) (Ev.call [] [] 0 (sem_laws_szLog N x_1.Log y_117 _ hy_121) rfl rfl (.cons (.agg (.cons (.c _) (.cons (.c _) (.cons (.c _) .nil)))) (.cons (.c _) .nil)) rfl (.inl rfl) rfl rfl) rfl rfl ?_
    refine Ops.p rfl ?_
    refine Ops.nil ?_
    refine Run.seq ?_
    refine Run.seq ?_
    refine Run.ops hm ?_
    refine Ops.p rfl ?_
    refine Ops.p rfl ?_
    refine Ops.nil ?_
    refine Run.condO rfl h (fun g_123 h => ?_) (fun g_123 h => ?_)
    · skip
      refine Run.seq ?_
      refine Run.ops hm ?_
      refine Ops.p rfl ?_
      refine Ops.nil ?_
      refine Run.ret ?_
      obtain rfl := someO h
      exact Ends.mkG (.inl rfl) rfl (gh_pk [0] [] hB rfl rfl rfl rfl) rfl rfl
    · skip
      refine Run.skip ?_
      refine Run.seq ?_
      refine Run.ops hm ?_
      refine Ops.p rfl ?_
      refine Ops.p rfl ?_
      refine Ops.p rfl ?_
      obtain ⟨y_125, hy_125, h⟩ := bindO h
      refine Ops.st (s := 29720) (Ev.call [] [] 0 (sem_laws_szIntS N x_1.Votes y_121 _ hy_125) rfl rfl (.cons (.c _) (.cons (.c _) .nil)) rfl (.inl rfl) rfl rfl) rfl rfl ?_
      refine Ops.p rfl ?_
      refine Ops.nil ?_
      refine Run.seq ?_
      refine Run.seq ?_
      refine Run.ops hm ?_
      refine Ops.p rfl ?_
      refine Ops.p rfl ?_
      refine Ops.nil ?_
      refine Run.condO rfl h (fun g_127 h => ?_) (fun g_127 h => ?_)
      · skip
        refine Run.seq ?_
        refine Run.ops hm ?_
        refine Ops.p rfl ?_
        refine Ops.nil ?_
        refine Run.ret ?_
        obtain rfl := someO h
        exact Ends.mkG (.inl rfl) rfl (gh_pk [0] [] hB rfl rfl rfl rfl) rfl rfl
      · skip
        refine Run.skip ?_
        refine Run.seq ?_
        refine Run.ops hm ?_
        refine Ops.p rfl ?_
        refine Ops.p rfl ?_
        refine Ops.p rfl ?_
        obtain ⟨y_129, hy_129, h⟩ := bindO h
        refine Ops.st (s := 42008) (Ev.call [] [] 0 (sem_laws_szPeerS N x_1.Peers y_125 _ hy_129) rfl rfl (.cons (.c _) (.cons (.c _) .nil)) rfl (.inl rfl) rfl rfl) rfl rfl ?_
        refine Ops.p rfl ?_
        refine Ops.nil ?_
        refine Run.seq ?_
        refine Run.seq ?_
        refine Run.ops hm ?_
        refine Ops.p rfl ?_
        refine Ops.p rfl ?_
        refine Ops.nil ?_
        refine Run.condO rfl h (fun g_131 h => ?_) (fun g_131 h => ?_)
        · skip
          refine Run.seq ?_
          refine Run.ops hm ?_
          refine Ops.p rfl ?_
          refine Ops.nil ?_
          refine Run.ret ?_
          obtain rfl := someO h
          exact Ends.mkG (.inl rfl) rfl (gh_pk [0] [] hB rfl rfl rfl rfl) rfl rfl
        · skip
          refine Run.skip ?_
          refine Run.seq ?_
          refine Run.ops hm ?_
          refine Ops.p rfl ?_
          refine Ops.p rfl ?_
          refine Ops.nil ?_
          refine Run.ret ?_
          obtain rfl := someO h
          exact Ends.mkG (.inl rfl) rfl (gh_pk [0] [] hB rfl rfl rfl rfl) rfl rfl
def laws_toIntS_l1 (N : Nat) (x_1 : (List Int)) : Nat → Int → (List Int) → Option ((List Int))
 | 0, _, _ => none
 | m + 1, x_158, x_159 =>
 (if (decide (x_158 < (x_1.length : Int))) = true then
 (at? x_1 x_158).bind fun x_172 =>
 (at? x_159 x_158).bind fun x_173 =>
 laws_toIntS_l1 N x_1 m (w64 (x_158 + (1 : Int))) (x_159.set x_158.toNat x_172)
 else
 some x_159)
def laws_toIntS_l1_r (N : Nat) (x_1 : (List Int)) : (List Int) → Int → (List Int) → Option ((List Int))
 | [], x_158, x_159 =>
 some x_159
 | hd :: tl, x_158, x_159 =>
 (some hd).bind fun x_172 =>
 (at? x_159 x_158).bind fun x_173 =>
 laws_toIntS_l1_r N x_1 tl (w64 (x_158 + (1 : Int))) (x_159.set x_158.toNat x_172)
theorem laws_toIntS_l1_rng (N : Nat) (x_1 : (List Int)) (hx : x_1.length ≤ 1099511627776) : ∀ (d k m : Nat) (x_159 : (List Int)), x_1.length = k + d → d < m → laws_toIntS_l1 N x_1 m (k : Int) x_159 = laws_toIntS_l1_r N x_1 (x_1.drop k) (k : Int) x_159 := by
  intro d
  induction d with
  | zero =>
    intro k m x_159 hd hm
    obtain ⟨m, rfl⟩ : ∃ q, m = q + 1 := ⟨m - 1, by omega⟩
    rw [laws_toIntS_l1, if_neg (by simp; omega), List.drop_eq_nil_of_le (by omega), laws_toIntS_l1_r]
  | succ d ih =>
    intro k m x_159 hd hm
    obtain ⟨m, rfl⟩ : ∃ q, m = q + 1 := ⟨m - 1, by omega⟩
    have hk : k < x_1.length := by omega
    rw [laws_toIntS_l1, if_pos (by simp; omega), List.drop_eq_getElem_cons hk, laws_toIntS_l1_r]
    have h1 := at_lt hk
    have h2 := w64_succ (k := k) (by omega)
    have h3 := ih (k + 1) m
    simp only [h1, h2, h3 _ (by omega) (by omega)]
theorem laws_toIntS_l1_eq {N : Nat} (x_1 : (List Int)) (hx : x_1.length ≤ 1099511627776) (hN : x_1.length < N) (x_159 : (List Int)) : laws_toIntS_l1 N x_1 N 0 x_159 = laws_toIntS_l1_r N x_1 x_1 0 x_159 := laws_toIntS_l1_rng N x_1 hx x_1.length 0 N x_159 (by omega) hN
def laws_toIntS (N : Nat) (x_1 : (List Int)) : Option ((List Int)) :=
 (mk? (0 : Int) (x_1.length : Int)).bind fun x_138 =>
 joinP (fun (v_156 : (List Int)) =>
 some v_156) fun j_156 =>
 (laws_toIntS_l1 N x_1 N (0 : Int) x_138).bind (fun (v_166 : (List Int)) => j_156 v_166)
theorem sem_laws_toIntS (N : Nat) (x_1 : (List Int)) (r : (List Int)) (h : laws_toIntS N x_1 = some r) : Says Try.prog 66 [RO 3 (x_1.map encI)] 0 [] (.sl 0 3 0 r.length) [(0, .vec 3 (r.map encI))] := by
  unfold laws_toIntS at h
  refine Says.of_run s66 Try.call66 rfl fun B hB => ?_
  have hm : B.m ≤ 1000 := by omega
  refine Run.seq ?_
  refine Run.ops hm ?_
  refine Ops.p rfl ?_
  refine Ops.nil ?_
  refine Run.seq ?_
  refine Run.ops hm ?_
  refine Ops.p rfl ?_
  refine Ops.st (s := 5112) (Ev.lnF rfl) rfl rfl ?_
  obtain ⟨x_138, hx_138, h⟩ := bindO h
  refine Ops.st (s := 5128) (Ev.msW (f := encI) (zv := (0 : Int)) rfl rfl rfl bt3 rfl hx_138) rfl rfl ?_
  refine Ops.p rfl ?_
  refine Ops.nil ?_
  refine Run.seqO h (fun (v_156 : (List Int)) => [(3, .sl 0 3 0 v_156.length)]) (fun (v_156 : (List Int)) => [(0, .vec 3 (v_156.map encI))]) (fun h => ?_) (fun v_156 h => ?_)
  · skip
    refine Run.seq ?_
    refine Run.ops hm ?_
    refine Ops.p rfl ?_
    refine Ops.nil ?_
    refine Run.block ?_
    obtain ⟨res_166, h, hk_166⟩ := bindO h
    refine Run.loop (n := N) (fun m_166 fr σ => ∃ (x_158 : Int), ∃ (x_159 : (List Int)), laws_toIntS_l1 N x_1 m_166 x_158 x_159 = some res_166 ∧ fr = [(0, RO 3 (x_1.map encI)), (3, .sl 0 3 0 x_159.length), (4, VI x_158)] ∧ σ = [(0, .vec 3 (x_159.map encI))]) (gh_pk [0, 3, 4] [5128] hB rfl rfl rfl rfl) ⟨_, _, h, rfl, rfl⟩ ?_
    rintro m_166 fr σ ⟨x_158, x_159, h, rfl, rfl⟩
    obtain _ | m_166 := m_166
    · rw [laws_toIntS_l1] at h; cases h
    rw [laws_toIntS_l1] at h
    refine Run.seq ?_
    refine Run.seq ?_
    refine Run.ops hm ?_
    refine Ops.p rfl ?_
    refine Ops.p rfl ?_
    refine Ops.st (s := 13320) (Ev.lnF rfl) rfl rfl ?_
    refine Ops.p rfl ?_
    refine Ops.nil ?_
    refine Run.condO rfl h (fun g_169 h => ?_) (fun g_169 h => ?_)
    · skip
      refine Run.skip ?_
      refine Run.seq ?_
      refine Run.block ?_
      refine Run.ops hm ?_
      refine Ops.p rfl ?_
      refine Ops.p rfl ?_
      refine Ops.p rfl ?_
      refine Ops.p rfl ?_
      obtain ⟨x_172, hx_172, h⟩ := bindO h
      refine Ops.st (s := 21544) (Ev.iaF rfl rfl hx_172) rfl rfl ?_
      refine Ops.p rfl ?_
      obtain ⟨x_173, hx_173, h⟩ := bindO h
      refine Ops.st (s := 21576) (Ev.iaW rfl rfl rfl hx_173) rfl rfl ?_
      refine Ops.s0 (s := 21592) (Ev.stE (f := encI) (v' := x_172) rfl rfl (at_some hx_173).2 rfl (.cons (.c _) .nil) rfl rfl rfl rfl rfl) rfl rfl ?_
      refine Ops.nil ?_
      refine Run.ops hm ?_
      refine Ops.p rfl ?_
      refine Ops.p rfl ?_
      refine Ops.p rfl ?_
      refine Ops.nil ?_
      exact ⟨m_166, Nat.lt_succ_self m_166, _, _, (gh_pk [0, 3, 4] [0] hB rfl rfl (by first | rfl | (simp only [List.length_set]; done) | (simp only [List.length_set]; rfl)) (by first | rfl | (simp only [List.length_set]; done) | (simp only [List.length_set]; rfl))), _, _, h, rfl, rfl⟩
    · skip
      refine Run.exit ?_
      obtain rfl := someO h
      have h := hk_166
      exact ⟨_, _, (gh_pk [3] [0] hB rfl rfl rfl rfl), x_159, h, rfl, rfl⟩
  · skip
    refine Run.seq ?_
    refine Run.ops hm ?_
    refine Ops.p rfl ?_
    refine Ops.p rfl ?_
    refine Ops.nil ?_
    refine Run.ret ?_
    obtain rfl := someO h
    exact Ends.mkG (.inl rfl) rfl (gh_pk [0] [0] hB rfl rfl rfl rfl) rfl rfl
def laws_toEntry (N : Nat) (x_1 : Entry) : Option (Entry) :=
 some x_1
theorem sem_laws_toEntry (N : Nat) (x_1 : Entry) (r : Entry) (h : laws_toEntry N x_1 = some r) : Says Try.prog 103 [.agg [VI x_1.Term, VI x_1.Kind, VS x_1.Data]] 0 [] (.agg [VI r.Term, VI r.Kind, VS r.Data]) [] := by
  unfold laws_toEntry at h
  refine Says.of_run s103 Try.call103 rfl fun B hB => ?_
  have hm : B.m ≤ 1000 := by omega
  refine Run.seq ?_
  refine Run.ops hm ?_
  refine Ops.st (s := 1000) (.bx rfl rfl) rfl rfl ?_
  refine Ops.st (s := 1016) (.al rfl rfl) rfl rfl ?_
  refine Ops.nil ?_
  refine Run.seq ?_
  refine Run.ops hm ?_
  refine Ops.st (s := 5096) (.al rfl rfl) rfl rfl ?_
  refine Ops.nil ?_
  refine Run.seq ?_
  refine Run.ops hm ?_
  refine Ops.p rfl ?_
  refine Ops.p rfl ?_
  refine Ops.p rfl ?_
  refine Ops.s0 (s := 9240) (.sto rfl rfl rfl rfl rfl rfl) rfl rfl ?_
  refine Ops.nil ?_
  refine Run.seq ?_
  refine Run.ops hm ?_
  refine Ops.p rfl ?_
  refine Ops.p rfl ?_
  refine Ops.p rfl ?_
  refine Ops.s0 (s := 13336) (.sto rfl rfl rfl rfl rfl rfl) rfl rfl ?_
  refine Ops.nil ?_
  refine Run.seq ?_
  refine Run.ops hm ?_
  refine Ops.p rfl ?_
  refine Ops.p rfl ?_
  refine Ops.p rfl ?_
  refine Ops.s0 (s := 17432) (.sto rfl rfl rfl rfl rfl rfl) rfl rfl ?_
  refine Ops.nil ?_
  refine Run.seq ?_
  refine Run.ops hm ?_
  refine Ops.p rfl ?_
  refine Ops.s0 (s := 21496) (.sto rfl rfl rfl rfl rfl rfl) rfl rfl ?_
  refine Ops.nil ?_
  refine Run.ret ?_
  obtain rfl := someO h
  exact Ends.mkG (.inl rfl) rfl (gh_pk [0] [] hB rfl rfl rfl rfl) rfl rfl
def laws_toEntryS_l1 (N : Nat) (x_1 : (List Entry)) : Nat → Int → (List Entry) → Option ((List Entry))
 | 0, _, _ => none
 | m + 1, x_170, x_171 =>
 (if (decide (x_170 < (x_1.length : Int))) = true then
 (at? x_1 x_170).bind fun x_187 =>
 (laws_toEntry N x_187).bind fun y_188 =>
 (at? x_171 x_170).bind fun x_189 =>
 laws_toEntryS_l1 N x_1 m (w64 (x_170 + (1 : Int))) (x_171.set x_170.toNat y_188)
 else
 some x_171)
def laws_toEntryS_l1_r (N : Nat) (x_1 : (List Entry)) : (List Entry) → Int → (List Entry) → Option ((List Entry))
 | [], x_170, x_171 =>
 some x_171
 | hd :: tl, x_170, x_171 =>
 (some hd).bind fun x_187 =>
 (laws_toEntry N x_187).bind fun y_188 =>
 (at? x_171 x_170).bind fun x_189 =>
 laws_toEntryS_l1_r N x_1 tl (w64 (x_170 + (1 : Int))) (x_171.set x_170.toNat y_188)
theorem laws_toEntryS_l1_rng (N : Nat) (x_1 : (List Entry)) (hx : x_1.length ≤ 1099511627776) : ∀ (d k m : Nat) (x_171 : (List Entry)), x_1.length = k + d → d < m → laws_toEntryS_l1 N x_1 m (k : Int) x_171 = laws_toEntryS_l1_r N x_1 (x_1.drop k) (k : Int) x_171 := by
  intro d
  induction d with
  | zero =>
    intro k m x_171 hd hm
    obtain ⟨m, rfl⟩ : ∃ q, m = q + 1 := ⟨m - 1, by omega⟩
    rw [laws_toEntryS_l1, if_neg (by simp; omega), List.drop_eq_nil_of_le (by omega), laws_toEntryS_l1_r]
  | succ d ih =>
    intro k m x_171 hd hm
    obtain ⟨m, rfl⟩ : ∃ q, m = q + 1 := ⟨m - 1, by omega⟩
    have hk : k < x_1.length := by omega
    rw [laws_toEntryS_l1, if_pos (by simp; omega), List.drop_eq_getElem_cons hk, laws_toEntryS_l1_r]
    have h1 := at_lt hk
    have h2 := w64_succ (k := k) (by omega)
    have h3 := ih (k + 1) m
    simp only [h1, h2, h3 _ (by omega) (by omega)]
theorem laws_toEntryS_l1_eq {N : Nat} (x_1 : (List Entry)) (hx : x_1.length ≤ 1099511627776) (hN : x_1.length < N) (x_171 : (List Entry)) : laws_toEntryS_l1 N x_1 N 0 x_171 = laws_toEntryS_l1_r N x_1 x_1 0 x_171 := laws_toEntryS_l1_rng N x_1 hx x_1.length 0 N x_171 (by omega) hN
def laws_toEntryS (N : Nat) (x_1 : (List Entry)) : Option ((List Entry)) :=
 (mk? (Entry.mk (0 : Int) (0 : Int) (⟨#[]⟩ : ByteArray)) (x_1.length : Int)).bind fun x_146 =>
 joinP (fun (v_168 : (List Entry)) =>
 some v_168) fun j_168 =>
 (laws_toEntryS_l1 N x_1 N (0 : Int) x_146).bind (fun (v_180 : (List Entry)) => j_168 v_180)
theorem sem_laws_toEntryS (N : Nat) (x_1 : (List Entry)) (r : (List Entry)) (h : laws_toEntryS N x_1 = some r) : Says Try.prog 88 [RO 71 (x_1.map encEntry)] 0 [] (.sl 0 48 0 r.length) [(0, .vec 48 (r.map encEntry))] := by
  unfold laws_toEntryS at h
  refine Says.of_run s88 Try.call88 rfl fun B hB => ?_
  have hm : B.m ≤ 1000 := by omega
  refine Run.seq ?_
  refine Run.ops hm ?_
  refine Ops.p rfl ?_
  refine Ops.nil ?_
  refine Run.seq ?_
  refine Run.ops hm ?_
  refine Ops.p rfl ?_
  refine Ops.st (s := 5112) (Ev.lnF rfl) rfl rfl ?_
  obtain ⟨x_146, hx_146, h⟩ := bindO h
  refine Ops.st (s := 5128) (Ev.msW (f := encEntry) (zv := (Entry.mk (0 : Int) (0 : Int) (⟨#[]⟩ : ByteArray))) rfl rfl rfl bt48 rfl hx_146) rfl rfl ?_
  refine Ops.p rfl ?_
  refine Ops.nil ?_
  refine Run.seqO h (fun (v_168 : (List Entry)) => [(3, .sl 0 48 0 v_168.length)]) (fun (v_168 : (List Entry)) => [(0, .vec 48 (v_168.map encEntry))]) (fun h => ?_) (fun v_168 h => ?_)
  · skip
    refine Run.seq ?_
    refine Run.ops hm ?_
    refine Ops.p rfl ?_
    refine Ops.nil ?_
    refine Run.block ?_
    obtain ⟨res_180, h, hk_180⟩ := bindO h
    refine Run.loop (n := N) (fun m_180 fr σ => ∃ (x_170 : Int), ∃ (x_171 : (List Entry)), laws_toEntryS_l1 N x_1 m_180 x_170 x_171 = some res_180 ∧ fr = [(0, RO 71 (x_1.map encEntry)), (3, .sl 0 48 0 x_171.length), (4, VI x_170)] ∧ σ = [(0, .vec 48 (x_171.map encEntry))]) (gh_pk [0, 3, 4] [5128] hB rfl rfl rfl rfl) ⟨_, _, h, rfl, rfl⟩ ?_
    rintro m_180 fr σ ⟨x_170, x_171, h, rfl, rfl⟩
    obtain _ | m_180 := m_180
    · rw [laws_toEntryS_l1] at h; cases h
    rw [laws_toEntryS_l1] at h
    refine Run.seq ?_
    refine Run.seq ?_
    refine Run.ops hm ?_
    refine Ops.p rfl ?_
    refine Ops.p rfl ?_
    refine Ops.st (s := 13320) (Ev.lnF rfl) rfl rfl ?_
    refine Ops.p rfl ?_
    refine Ops.nil ?_
    refine Run.condO rfl h (fun g_183 h => ?_) (fun g_183 h => ?_)
    · skip
      refine Run.skip ?_
      refine Run.seq ?_
      refine Run.block ?_
      refine Run.ops hm ?_
      refine Ops.p rfl ?_
      refine Ops.p rfl ?_
      refine Ops.p rfl ?_
      refine Ops.p rfl ?_
      obtain ⟨x_187, hx_187, h⟩ := bindO h
      refine Ops.st (s := 21544) (Ev.iaF rfl rfl hx_187) rfl rfl ?_
      refine Ops.p rfl ?_
      obtain ⟨y_188, hy_188, h⟩ := bindO h
      refine Ops.st (s := 21576) (Ev.call [] [] 0 (sem_laws_toEntry N x_187 _ hy_188) rfl rfl (.cons (.agg (.cons (.c _) (.cons (.c _) (.cons (.c _) .nil)))) .nil) rfl (.inl rfl) rfl rfl) rfl rfl ?_
      obtain ⟨x_189, hx_189, h⟩ := bindO h
      refine Ops.st (s := 21592) (Ev.iaW rfl rfl rfl hx_189) rfl rfl ?_
      refine Ops.s0 (s := 21608) (Ev.stE (f := encEntry) (v' := y_188) rfl rfl (at_some hx_189).2 rfl (.cons (.c _) (.cons (.c _) (.cons (.c _) .nil))) rfl rfl rfl rfl rfl) rfl rfl ?_
      refine Ops.nil ?_
      refine Run.ops hm ?_
      refine Ops.p rfl ?_
      refine Ops.p rfl ?_
      refine Ops.p rfl ?_
      refine Ops.nil ?_
      exact ⟨m_180, Nat.lt_succ_self m_180, _, _, (gh_pk [0, 3, 4] [0] hB rfl rfl (by first | rfl | (simp only [List.length_set]; done) | (simp only [List.length_set]; rfl)) (by first | rfl | (simp only [List.length_set]; done) | (simp only [List.length_set]; rfl))), _, _, h, rfl, rfl⟩
    · skip
      refine Run.exit ?_
      obtain rfl := someO h
      have h := hk_180
      exact ⟨_, _, (gh_pk [3] [0] hB rfl rfl rfl rfl), x_171, h, rfl, rfl⟩
  · skip
    refine Run.seq ?_
    refine Run.ops hm ?_
    refine Ops.p rfl ?_
    refine Ops.p rfl ?_
    refine Ops.nil ?_
    refine Run.ret ?_
    obtain rfl := someO h
    exact Ends.mkG (.inl rfl) rfl (gh_pk [0] [0] hB rfl rfl rfl rfl) rfl rfl
def laws_toLog (N : Nat) (x_1 : Log) : Option (Log) :=
 (laws_toEntryS N x_1.Entries).bind fun y_103 =>
 some (Log.mk x_1.Start x_1.StartTerm y_103)
theorem sem_laws_toLog (N : Nat) (x_1 : Log) (r : Log) (h : laws_toLog N x_1 = some r) : Says Try.prog 32 [.agg [VI x_1.Start, VI x_1.StartTerm, RO 71 (x_1.Entries.map encEntry)]] 0 [] (.agg [VI r.Start, VI r.StartTerm, .sl 0 48 0 r.Entries.length]) [(0, .vec 48 (r.Entries.map encEntry))] := by
  unfold laws_toLog at h
  refine Says.of_run s32 Try.call32 rfl fun B hB => ?_
  have hm : B.m ≤ 1000 := by omega
  refine Run.seq ?_
  refine Run.ops hm ?_
  refine Ops.st (s := 1000) (.bx rfl rfl) rfl rfl ?_
  refine Ops.st (s := 1016) (.al rfl rfl) rfl rfl ?_
  refine Ops.nil ?_
  refine Run.seq ?_
  refine Run.ops hm ?_
  refine Ops.st (s := 5096) (.al rfl rfl) rfl rfl ?_
  refine Ops.nil ?_
  refine Run.seq ?_
  refine Run.ops hm ?_
  refine Ops.p rfl ?_
  refine Ops.p rfl ?_
  refine Ops.p rfl ?_
  refine Ops.s0 (s := 9240) (.sto rfl rfl rfl rfl rfl rfl) rfl rfl ?_
  refine Ops.nil ?_
  refine Run.seq ?_
  refine Run.ops hm ?_
  refine Ops.p rfl ?_
  refine Ops.p rfl ?_
  refine Ops.p rfl ?_
  refine Ops.s0 (s := 13336) (.sto rfl rfl rfl rfl rfl rfl) rfl rfl ?_
  refine Ops.nil ?_
  refine Run.seq ?_
  refine Run.ops hm ?_
  refine Ops.p rfl ?_
  refine Ops.p rfl ?_
  obtain ⟨y_103, hy_103, h⟩ := bindO h
  refine Ops.st (s := 17416) (Ev.call [] [] 1 (sem_laws_toEntryS N x_1.Entries _ hy_103) rfl rfl (.cons (.c _) .nil) rfl (.inl rfl) rfl rfl) rfl rfl ?_
  refine Ops.p rfl ?_
  refine Ops.s0 (s := 17448) (.sto rfl rfl rfl rfl rfl rfl) rfl rfl ?_
  refine Ops.nil ?_
  refine Run.seq ?_
  refine Run.ops hm ?_
  refine Ops.p rfl ?_
  refine Ops.s0 (s := 21496) (.sto rfl rfl rfl rfl rfl rfl) rfl rfl ?_
  refine Ops.nil ?_
  refine Run.ret ?_
  obtain rfl := someO h
  exact Ends.mkG (.inl rfl) rfl (gh_pk [0] [17416] hB rfl rfl rfl rfl) rfl rfl
def laws_toPeer (N : Nat) (x_1 : Peer) : Option (Peer) :=
 some x_1
theorem sem_laws_toPeer (N : Nat) (x_1 : Peer) (r : Peer) (h : laws_toPeer N x_1 = some r) : Says Try.prog 144 [.agg [VI x_1.Id, VI x_1.Next, VI x_1.Match, VI x_1.Sent]] 0 [] (.agg [VI r.Id, VI r.Next, VI r.Match, VI r.Sent]) [] := by
  unfold laws_toPeer at h
  refine Says.of_run s144 Try.call144 rfl fun B hB => ?_
  have hm : B.m ≤ 1000 := by omega
  refine Run.seq ?_
  refine Run.ops hm ?_
  refine Ops.st (s := 1000) (.bx rfl rfl) rfl rfl ?_
  refine Ops.st (s := 1016) (.al rfl rfl) rfl rfl ?_
  refine Ops.nil ?_
  refine Run.seq ?_
  refine Run.ops hm ?_
  refine Ops.st (s := 5096) (.al rfl rfl) rfl rfl ?_
  refine Ops.nil ?_
  refine Run.seq ?_
  refine Run.ops hm ?_
  refine Ops.p rfl ?_
  refine Ops.p rfl ?_
  refine Ops.p rfl ?_
  refine Ops.s0 (s := 9240) (.sto rfl rfl rfl rfl rfl rfl) rfl rfl ?_
  refine Ops.nil ?_
  refine Run.seq ?_
  refine Run.ops hm ?_
  refine Ops.p rfl ?_
  refine Ops.p rfl ?_
  refine Ops.p rfl ?_
  refine Ops.s0 (s := 13336) (.sto rfl rfl rfl rfl rfl rfl) rfl rfl ?_
  refine Ops.nil ?_
  refine Run.seq ?_
  refine Run.ops hm ?_
  refine Ops.p rfl ?_
  refine Ops.p rfl ?_
  refine Ops.p rfl ?_
  refine Ops.s0 (s := 17432) (.sto rfl rfl rfl rfl rfl rfl) rfl rfl ?_
  refine Ops.nil ?_
  refine Run.seq ?_
  refine Run.ops hm ?_
  refine Ops.p rfl ?_
  refine Ops.p rfl ?_
  refine Ops.p rfl ?_
  refine Ops.s0 (s := 21528) (.sto rfl rfl rfl rfl rfl rfl) rfl rfl ?_
  refine Ops.nil ?_
  refine Run.seq ?_
  refine Run.ops hm ?_
  refine Ops.p rfl ?_
  refine Ops.s0 (s := 25592) (.sto rfl rfl rfl rfl rfl rfl) rfl rfl ?_
  refine Ops.nil ?_
  refine Run.ret ?_
  obtain rfl := someO h
  exact Ends.mkG (.inl rfl) rfl (gh_pk [0] [] hB rfl rfl rfl rfl) rfl rfl
def laws_toPeerS_l1 (N : Nat) (x_1 : (List Peer)) : Nat → Int → (List Peer) → Option ((List Peer))
 | 0, _, _ => none
 | m + 1, x_170, x_171 =>
 (if (decide (x_170 < (x_1.length : Int))) = true then
 (at? x_1 x_170).bind fun x_187 =>
 (laws_toPeer N x_187).bind fun y_188 =>
 (at? x_171 x_170).bind fun x_189 =>
 laws_toPeerS_l1 N x_1 m (w64 (x_170 + (1 : Int))) (x_171.set x_170.toNat y_188)
 else
 some x_171)
def laws_toPeerS_l1_r (N : Nat) (x_1 : (List Peer)) : (List Peer) → Int → (List Peer) → Option ((List Peer))
 | [], x_170, x_171 =>
 some x_171
 | hd :: tl, x_170, x_171 =>
 (some hd).bind fun x_187 =>
 (laws_toPeer N x_187).bind fun y_188 =>
 (at? x_171 x_170).bind fun x_189 =>
 laws_toPeerS_l1_r N x_1 tl (w64 (x_170 + (1 : Int))) (x_171.set x_170.toNat y_188)
theorem laws_toPeerS_l1_rng (N : Nat) (x_1 : (List Peer)) (hx : x_1.length ≤ 1099511627776) : ∀ (d k m : Nat) (x_171 : (List Peer)), x_1.length = k + d → d < m → laws_toPeerS_l1 N x_1 m (k : Int) x_171 = laws_toPeerS_l1_r N x_1 (x_1.drop k) (k : Int) x_171 := by
  intro d
  induction d with
  | zero =>
    intro k m x_171 hd hm
    obtain ⟨m, rfl⟩ : ∃ q, m = q + 1 := ⟨m - 1, by omega⟩
    rw [laws_toPeerS_l1, if_neg (by simp; omega), List.drop_eq_nil_of_le (by omega), laws_toPeerS_l1_r]
  | succ d ih =>
    intro k m x_171 hd hm
    obtain ⟨m, rfl⟩ : ∃ q, m = q + 1 := ⟨m - 1, by omega⟩
    have hk : k < x_1.length := by omega
    rw [laws_toPeerS_l1, if_pos (by simp; omega), List.drop_eq_getElem_cons hk, laws_toPeerS_l1_r]
    have h1 := at_lt hk
    have h2 := w64_succ (k := k) (by omega)
    have h3 := ih (k + 1) m
    simp only [h1, h2, h3 _ (by omega) (by omega)]
theorem laws_toPeerS_l1_eq {N : Nat} (x_1 : (List Peer)) (hx : x_1.length ≤ 1099511627776) (hN : x_1.length < N) (x_171 : (List Peer)) : laws_toPeerS_l1 N x_1 N 0 x_171 = laws_toPeerS_l1_r N x_1 x_1 0 x_171 := laws_toPeerS_l1_rng N x_1 hx x_1.length 0 N x_171 (by omega) hN
def laws_toPeerS (N : Nat) (x_1 : (List Peer)) : Option ((List Peer)) :=
 (mk? (Peer.mk (0 : Int) (0 : Int) (0 : Int) (0 : Int)) (x_1.length : Int)).bind fun x_146 =>
 joinP (fun (v_168 : (List Peer)) =>
 some v_168) fun j_168 =>
 (laws_toPeerS_l1 N x_1 N (0 : Int) x_146).bind (fun (v_180 : (List Peer)) => j_168 v_180)
theorem sem_laws_toPeerS (N : Nat) (x_1 : (List Peer)) (r : (List Peer)) (h : laws_toPeerS N x_1 = some r) : Says Try.prog 107 [RO 182 (x_1.map encPeer)] 0 [] (.sl 0 172 0 r.length) [(0, .vec 172 (r.map encPeer))] := by
  unfold laws_toPeerS at h
  refine Says.of_run s107 Try.call107 rfl fun B hB => ?_
  have hm : B.m ≤ 1000 := by omega
  refine Run.seq ?_
  refine Run.ops hm ?_
  refine Ops.p rfl ?_
  refine Ops.nil ?_
  refine Run.seq ?_
  refine Run.ops hm ?_
  refine Ops.p rfl ?_
  refine Ops.st (s := 5112) (Ev.lnF rfl) rfl rfl ?_
  obtain ⟨x_146, hx_146, h⟩ := bindO h
  refine Ops.st (s := 5128) (Ev.msW (f := encPeer) (zv := (Peer.mk (0 : Int) (0 : Int) (0 : Int) (0 : Int))) rfl rfl rfl bt172 rfl hx_146) rfl rfl ?_
  refine Ops.p rfl ?_
  refine Ops.nil ?_
  refine Run.seqO h (fun (v_168 : (List Peer)) => [(3, .sl 0 172 0 v_168.length)]) (fun (v_168 : (List Peer)) => [(0, .vec 172 (v_168.map encPeer))]) (fun h => ?_) (fun v_168 h => ?_)
  · skip
    refine Run.seq ?_
    refine Run.ops hm ?_
    refine Ops.p rfl ?_
    refine Ops.nil ?_
    refine Run.block ?_
    obtain ⟨res_180, h, hk_180⟩ := bindO h
    refine Run.loop (n := N) (fun m_180 fr σ => ∃ (x_170 : Int), ∃ (x_171 : (List Peer)), laws_toPeerS_l1 N x_1 m_180 x_170 x_171 = some res_180 ∧ fr = [(0, RO 182 (x_1.map encPeer)), (3, .sl 0 172 0 x_171.length), (4, VI x_170)] ∧ σ = [(0, .vec 172 (x_171.map encPeer))]) (gh_pk [0, 3, 4] [5128] hB rfl rfl rfl rfl) ⟨_, _, h, rfl, rfl⟩ ?_
    rintro m_180 fr σ ⟨x_170, x_171, h, rfl, rfl⟩
    obtain _ | m_180 := m_180
    · rw [laws_toPeerS_l1] at h; cases h
    rw [laws_toPeerS_l1] at h
    refine Run.seq ?_
    refine Run.seq ?_
    refine Run.ops hm ?_
    refine Ops.p rfl ?_
    refine Ops.p rfl ?_
    refine Ops.st (s := 13320) (Ev.lnF rfl) rfl rfl ?_
    refine Ops.p rfl ?_
    refine Ops.nil ?_
    refine Run.condO rfl h (fun g_183 h => ?_) (fun g_183 h => ?_)
    · skip
      refine Run.skip ?_
      refine Run.seq ?_
      refine Run.block ?_
      refine Run.ops hm ?_
      refine Ops.p rfl ?_
      refine Ops.p rfl ?_
      refine Ops.p rfl ?_
      refine Ops.p rfl ?_
      obtain ⟨x_187, hx_187, h⟩ := bindO h
      refine Ops.st (s := 21544) (Ev.iaF rfl rfl hx_187) rfl rfl ?_
      refine Ops.p rfl ?_
      obtain ⟨y_188, hy_188, h⟩ := bindO h
      refine Ops.st (s := 21576) (Ev.call [] [] 0 (sem_laws_toPeer N x_187 _ hy_188) rfl rfl (.cons (.agg (.cons (.c _) (.cons (.c _) (.cons (.c _) (.cons (.c _) .nil))))) .nil) rfl (.inl rfl) rfl rfl) rfl rfl ?_
      obtain ⟨x_189, hx_189, h⟩ := bindO h
      refine Ops.st (s := 21592) (Ev.iaW rfl rfl rfl hx_189) rfl rfl ?_
      refine Ops.s0 (s := 21608) (Ev.stE (f := encPeer) (v' := y_188) rfl rfl (at_some hx_189).2 rfl (.cons (.c _) (.cons (.c _) (.cons (.c _) (.cons (.c _) .nil)))) rfl rfl rfl rfl rfl) rfl rfl ?_
      refine Ops.nil ?_
      refine Run.ops hm ?_
      refine Ops.p rfl ?_
      refine Ops.p rfl ?_
      refine Ops.p rfl ?_
      refine Ops.nil ?_
      exact ⟨m_180, Nat.lt_succ_self m_180, _, _, (gh_pk [0, 3, 4] [0] hB rfl rfl (by first | rfl | (simp only [List.length_set]; done) | (simp only [List.length_set]; rfl)) (by first | rfl | (simp only [List.length_set]; done) | (simp only [List.length_set]; rfl))), _, _, h, rfl, rfl⟩
    · skip
      refine Run.exit ?_
      obtain rfl := someO h
      have h := hk_180
      exact ⟨_, _, (gh_pk [3] [0] hB rfl rfl rfl rfl), x_171, h, rfl, rfl⟩
  · skip
    refine Run.seq ?_
    refine Run.ops hm ?_
    refine Ops.p rfl ?_
    refine Ops.p rfl ?_
    refine Ops.nil ?_
    refine Run.ret ?_
    obtain rfl := someO h
    exact Ends.mkG (.inl rfl) rfl (gh_pk [0] [0] hB rfl rfl rfl rfl) rfl rfl
def laws_toNode (N : Nat) (x_1 : Node) : Option (Node) :=
 (laws_toIntS N x_1.Conf).bind fun y_109 =>
 (laws_toLog N x_1.Log).bind fun y_111 =>
 (laws_toIntS N x_1.Votes).bind fun y_113 =>
 (laws_toPeerS N x_1.Peers).bind fun y_115 =>
 some (Node.mk x_1.Id x_1.Term x_1.Vote x_1.Role x_1.Lead y_109 y_111 x_1.Commit x_1.Clock x_1.Limit y_113 y_115)
theorem sem_laws_toNode (N : Nat) (x_1 : Node) (r : Node) (h : laws_toNode N x_1 = some r) : Says Try.prog 47 [.agg [VI x_1.Id, VI x_1.Term, VI x_1.Vote, VI x_1.Role, VI x_1.Lead, RO 3 (x_1.Conf.map encI), VI x_1.Log.Start, VI x_1.Log.StartTerm, RO 71 (x_1.Log.Entries.map encEntry), VI x_1.Commit, VI x_1.Clock, VI x_1.Limit, RO 3 (x_1.Votes.map encI), RO 182 (x_1.Peers.map encPeer)]] 0 [] (.agg [VI r.Id, VI r.Term, VI r.Vote, VI r.Role, VI r.Lead, .sl 0 3 0 r.Conf.length, VI r.Log.Start, VI r.Log.StartTerm, .sl 1 48 0 r.Log.Entries.length, VI r.Commit, VI r.Clock, VI r.Limit, .sl 2 3 0 r.Votes.length, .sl 3 172 0 r.Peers.length]) [(0, .vec 3 (r.Conf.map encI)), (1, .vec 48 (r.Log.Entries.map encEntry)), (2, .vec 3 (r.Votes.map encI)), (3, .vec 172 (r.Peers.map encPeer))] := by
  unfold laws_toNode at h
  refine Says.of_run s47 Try.call47 rfl fun B hB => ?_
  have hm : B.m ≤ 1000 := by omega
  refine Run.seq ?_
  refine Run.ops hm ?_
  refine Ops.st (s := 1000) (.bx rfl rfl) rfl rfl ?_
  refine Ops.st (s := 1016) (.al rfl rfl) rfl rfl ?_
  refine Ops.nil ?_
  refine Run.seq ?_
  refine Run.ops hm ?_
  refine Ops.st (s := 5096) (.al rfl rfl) rfl rfl ?_
  refine Ops.nil ?_
  refine Run.seq ?_
  refine Run.ops hm ?_
  refine Ops.p rfl ?_
  refine Ops.p rfl ?_
  refine Ops.p rfl ?_
  refine Ops.s0 (s := 9240) (.sto rfl rfl rfl rfl rfl rfl) rfl rfl ?_
  refine Ops.nil ?_
  refine Run.seq ?_
  refine Run.ops hm ?_
  refine Ops.p rfl ?_
  refine Ops.p rfl ?_
  refine Ops.p rfl ?_
  refine Ops.s0 (s := 13336) (.sto rfl rfl rfl rfl rfl rfl) rfl rfl ?_
  refine Ops.nil ?_
  refine Run.seq ?_
  refine Run.ops hm ?_
  refine Ops.p rfl ?_
  refine Ops.p rfl ?_
  refine Ops.p rfl ?_
  refine Ops.s0 (s := 17432) (.sto rfl rfl rfl rfl rfl rfl) rfl rfl ?_
  refine Ops.nil ?_
  refine Run.seq ?_
  refine Run.ops hm ?_
  refine Ops.p rfl ?_
  refine Ops.p rfl ?_
  refine Ops.p rfl ?_
  refine Ops.s0 (s := 21528) (.sto rfl rfl rfl rfl rfl rfl) rfl rfl ?_
  refine Ops.nil ?_
  refine Run.seq ?_
  refine Run.ops hm ?_
  refine Ops.p rfl ?_
  refine Ops.p rfl ?_
  refine Ops.p rfl ?_
  refine Ops.s0 (s := 25624) (.sto rfl rfl rfl rfl rfl rfl) rfl rfl ?_
  refine Ops.nil ?_
  refine Run.seq ?_
  refine Run.ops hm ?_
  refine Ops.p rfl ?_
  refine Ops.p rfl ?_
  obtain ⟨y_109, hy_109, h⟩ := bindO h
  refine Ops.st (s := 29704) (Ev.call [] [] 1 (sem_laws_toIntS N x_1.Conf _ hy_109) rfl rfl (.cons (.c _) .nil) rfl (.inl rfl) rfl rfl) rfl rfl ?_
  refine Ops.p rfl ?_
  refine Ops.s0 (s := 29736) (.sto rfl rfl rfl rfl rfl rfl) rfl rfl ?_
  refine Ops.nil ?_
  refine Run.seq ?_
  refine Run.ops hm ?_
  refine Ops.p rfl ?_
  refine Ops.p rfl ?_
  obtain ⟨y_111, hy_111, h⟩ := bindO h
  refine Ops.st (s := 33800) (Ev.call [] [] 1 (sem_laws_toLog N x_1.Log _ hy_111) rfl rfl (.cons (.agg (.cons (.c _) (.cons (.c _) (.cons (.c _) .nil)))) .nil) rfl (.inl rfl) rfl rfl) rfl rfl ?_
  refine Ops.p rfl ?_
  refine Ops.s0 (s := 33832) (.sto rfl rfl rfl rfl rfl rfl) rfl rfl ?_
  refine Ops.nil ?_
  refine Run.seq ?_
  refine Run.ops hm ?_
  refine Ops.p rfl ?_
  refine Ops.p rfl ?_
  refine Ops.p rfl ?_
  refine Ops.s0 (s := 37912) (.sto rfl rfl rfl rfl rfl rfl) rfl rfl ?_
  refine Ops.nil ?_
  refine Run.seq ?_
  refine Run.ops hm ?_
  refine Ops.p rfl ?_
  refine Ops.p rfl ?_
  refine Ops.p rfl ?_
  refine Ops.s0 (s := 42008) (.sto rfl rfl rfl rfl rfl rfl) rfl rfl ?_
  refine Ops.nil ?_
  refine Run.seq ?_
  refine Run.ops hm ?_
  refine Ops.p rfl ?_
  refine Ops.p rfl ?_
  refine Ops.p rfl ?_
  refine Ops.s0 (s := 46104) (.sto rfl rfl rfl rfl rfl rfl) rfl rfl ?_
  refine Ops.nil ?_
  refine Run.seq ?_
  refine Run.ops hm ?_
  refine Ops.p rfl ?_
  refine Ops.p rfl ?_
  obtain ⟨y_113, hy_113, h⟩ := bindO h
  refine Ops.st (s := 50184) (Ev.call [] [] 1 (sem_laws_toIntS N x_1.Votes _ hy_113) rfl rfl (.cons (.c _) .nil) rfl (.inl rfl) rfl rfl) rfl rfl ?_
  refine Ops.p rfl ?_
  refine Ops.s0 (s := 50216) (.sto rfl rfl rfl rfl rfl rfl) rfl rfl ?_
  refine Ops.nil ?_
  refine Run.seq ?_
  refine Run.ops hm ?_
  refine Ops.p rfl ?_
  refine Ops.p rfl ?_
  obtain ⟨y_115, hy_115, h⟩ := bindO h
  refine Ops.st (s := 54280) (Ev.call [] [] 1 (sem_laws_toPeerS N x_1.Peers _ hy_115) rfl rfl (.cons (.c _) .nil) rfl (.inl rfl) rfl rfl) rfl rfl ?_
  refine Ops.p rfl ?_
  refine Ops.s0 (s := 54312) (.sto rfl rfl rfl rfl rfl rfl) rfl rfl ?_
  refine Ops.nil ?_
  refine Run.seq ?_
  refine Run.ops hm ?_
  refine Ops.p rfl ?_
  refine Ops.s0 (s := 58360) (.sto rfl rfl rfl rfl rfl rfl) rfl rfl ?_
  refine Ops.nil ?_
  refine Run.ret ?_
  obtain rfl := someO h
  exact Ends.mkG (.inl rfl) rfl (gh_pk [0] [29704, 33800, 50184, 54280] hB rfl rfl rfl rfl) rfl rfl
def spec_l01In (N : Nat) (x_1 : Int) (x_2 : Int) (x_3 : Int) : Option (Bool) :=
 (if (decide (x_1 ≥ x_2)) = true then
 some (decide (x_1 ≤ x_3))
 else
 some false)
theorem sem_spec_l01In (N : Nat) (x_1 : Int) (x_2 : Int) (x_3 : Int) (r : Bool) (h : spec_l01In N x_1 x_2 x_3 = some r) : Says Try.prog 94 [VI x_1, VI x_2, VI x_3] 0 [] (VB r) [] := by
  unfold spec_l01In at h
  refine Says.of_run s94 Try.call94 rfl fun B hB => ?_
  have hm : B.m ≤ 1000 := by omega
  refine Run.seq ?_
  refine Run.ops hm ?_
  refine Ops.p rfl ?_
  refine Ops.nil ?_
  refine Run.seq ?_
  refine Run.ops hm ?_
  refine Ops.p rfl ?_
  refine Ops.p rfl ?_
  refine Ops.p rfl ?_
  refine Ops.p rfl ?_
  refine Ops.askO (x := .t 10) rfl h (fun g_101 h => ?_) (fun g_101 h => ?_)
  · skip
    refine Ops.gp rfl g_101 rfl ?_
    refine Ops.gp rfl g_101 rfl ?_
    refine Ops.gp rfl g_101 rfl ?_
    refine Ops.st (s := 5208) (.pkT rfl g_101 rfl) rfl rfl ?_
    refine Ops.p rfl ?_
    refine Ops.nil ?_
    refine Run.ret ?_
    obtain rfl := someO h
    exact Ends.mkG (.inl rfl) rfl (gh_pk [0] [] hB rfl rfl rfl rfl) rfl rfl
  · skip
    refine Ops.gn rfl g_101 ?_
    refine Ops.gn rfl g_101 ?_
    refine Ops.gn rfl g_101 ?_
    refine Ops.st (s := 5208) (.pkF rfl g_101 rfl) rfl rfl ?_
    refine Ops.p rfl ?_
    refine Ops.nil ?_
    refine Run.ret ?_
    obtain rfl := someO h
    exact Ends.mkG (.inl rfl) rfl (gh_pk [0] [] hB rfl rfl rfl rfl) rfl rfl
def spec_l07Rise_l1 (N : Nat) (x_1 : (List Int)) (x_2 : Int) (x_3 : Int) : Nat → Int → Option ((Bool) ⊕ (Unit))
 | 0, _ => none
 | m + 1, x_228 =>
 (if (decide (x_228 < (x_1.length : Int))) = true then
 joinP (fun (v_258 : Unit) =>
 spec_l07Rise_l1 N x_1 x_2 x_3 m (w64 (x_228 + (1 : Int)))) fun j_258 =>
 (at? x_1 x_228).bind fun x_259 =>
 (spec_l01In N x_259 x_2 x_3).bind fun y_260 =>
 (if (!y_260) = true then
 some (Sum.inl false)
 else
 (if (decide (x_228 > (0 : Int))) = true then
 (at? x_1 (w64 (x_228 - (1 : Int)))).bind fun x_263 =>
 (at? x_1 x_228).bind fun x_264 =>
 (if (decide (x_263 ≥ x_264)) = true then
 some (Sum.inl false)
 else
 j_258 ())
 else
 j_258 ()))
 else
 some (Sum.inr ()))
def spec_l07Rise_l1_r (N : Nat) (x_1 : (List Int)) (x_2 : Int) (x_3 : Int) : (List Int) → Int → Option ((Bool) ⊕ (Unit))
 | [], x_228 =>
 some (Sum.inr ())
 | hd :: tl, x_228 =>
 joinP (fun (v_258 : Unit) =>
 spec_l07Rise_l1_r N x_1 x_2 x_3 tl (w64 (x_228 + (1 : Int)))) fun j_258 =>
 (some hd).bind fun x_259 =>
 (spec_l01In N x_259 x_2 x_3).bind fun y_260 =>
 (if (!y_260) = true then
 some (Sum.inl false)
 else
 (if (decide (x_228 > (0 : Int))) = true then
 (at? x_1 (w64 (x_228 - (1 : Int)))).bind fun x_263 =>
 (some hd).bind fun x_264 =>
 (if (decide (x_263 ≥ x_264)) = true then
 some (Sum.inl false)
 else
 j_258 ())
 else
 j_258 ()))
theorem spec_l07Rise_l1_rng (N : Nat) (x_1 : (List Int)) (x_2 : Int) (x_3 : Int) (hx : x_1.length ≤ 1099511627776) : ∀ (d k m : Nat), x_1.length = k + d → d < m → spec_l07Rise_l1 N x_1 x_2 x_3 m (k : Int) = spec_l07Rise_l1_r N x_1 x_2 x_3 (x_1.drop k) (k : Int) := by
  intro d
  induction d with
  | zero =>
    intro k m hd hm
    obtain ⟨m, rfl⟩ : ∃ q, m = q + 1 := ⟨m - 1, by omega⟩
    rw [spec_l07Rise_l1, if_neg (by simp; omega), List.drop_eq_nil_of_le (by omega), spec_l07Rise_l1_r]
  | succ d ih =>
    intro k m hd hm
    obtain ⟨m, rfl⟩ : ∃ q, m = q + 1 := ⟨m - 1, by omega⟩
    have hk : k < x_1.length := by omega
    rw [spec_l07Rise_l1, if_pos (by simp; omega), List.drop_eq_getElem_cons hk, spec_l07Rise_l1_r]
    have h1 := at_lt hk
    have h2 := w64_succ (k := k) (by omega)
    have h3 := ih (k + 1) m
    simp only [h1, h2, h3 (by omega) (by omega)]
theorem spec_l07Rise_l1_eq {N : Nat} (x_1 : (List Int)) (x_2 : Int) (x_3 : Int) (hx : x_1.length ≤ 1099511627776) (hN : x_1.length < N) : spec_l07Rise_l1 N x_1 x_2 x_3 N 0 = spec_l07Rise_l1_r N x_1 x_2 x_3 x_1 0 := spec_l07Rise_l1_rng N x_1 x_2 x_3 hx x_1.length 0 N (by omega) hN
def spec_l07Rise (N : Nat) (x_1 : (List Int)) (x_2 : Int) (x_3 : Int) : Option (Bool) :=
 joinP (fun (v_224 : Unit) =>
 some true) fun j_224 =>
 (spec_l07Rise_l1 N x_1 x_2 x_3 N (0 : Int)).bind (Sum.elim (fun v_246 => some v_246) (fun (v_247 : Unit) => j_224 ()))
theorem sem_spec_l07Rise (N : Nat) (x_1 : (List Int)) (x_2 : Int) (x_3 : Int) (r : Bool) (h : spec_l07Rise N x_1 x_2 x_3 = some r) : Says Try.prog 131 [RO 3 (x_1.map encI), VI x_2, VI x_3] 0 [] (VB r) [] := by
  unfold spec_l07Rise at h
  refine Says.of_run s131 Try.call131 rfl fun B hB => ?_
  have hm : B.m ≤ 1000 := by omega
  refine Run.seq ?_
  refine Run.ops hm ?_
  refine Ops.p rfl ?_
  refine Ops.nil ?_
  refine Run.seqO h (fun (v_224 : Unit) => []) (fun (v_224 : Unit) => []) (fun h => ?_) (fun v_224 h => ?_)
  · skip
    refine Run.seq ?_
    refine Run.ops hm ?_
    refine Ops.p rfl ?_
    refine Ops.nil ?_
    refine Run.block ?_
    obtain ⟨res_247, h, hk_247⟩ := bindO h
    refine Run.loop (n := N) (fun m_247 fr σ => ∃ (x_228 : Int), spec_l07Rise_l1 N x_1 x_2 x_3 m_247 x_228 = some res_247 ∧ fr = [(0, RO 3 (x_1.map encI)), (1, VI x_2), (2, VI x_3), (7, VI x_228)] ∧ σ = []) (gh_pk [0, 1, 2, 7] [] hB rfl rfl rfl rfl) ⟨_, h, rfl, rfl⟩ ?_
    rintro m_247 fr σ ⟨x_228, h, rfl, rfl⟩
    obtain _ | m_247 := m_247
    · rw [spec_l07Rise_l1] at h; cases h
    rw [spec_l07Rise_l1] at h
    refine Run.seq ?_
    refine Run.seq ?_
    refine Run.ops hm ?_
    refine Ops.p rfl ?_
    refine Ops.p rfl ?_
    refine Ops.st (s := 9224) (Ev.lnF rfl) rfl rfl ?_
    refine Ops.p rfl ?_
    refine Ops.nil ?_
    refine Run.condO rfl h (fun g_250 h => ?_) (fun g_250 h => ?_)
    · skip
      refine Run.skip ?_
      refine Run.seqO h (fun (v_258 : Unit) => [(0, RO 3 (x_1.map encI)), (1, VI x_2), (2, VI x_3), (7, VI x_228)]) (fun (v_258 : Unit) => []) (fun h => ?_) (fun v_258 h => ?_)
      · skip
        refine Run.block ?_
        refine Run.seq ?_
        refine Run.draw hm hmix ?_
        refine OpsD.p rfl ?_
        refine OpsD.p rfl ?_
        obtain ⟨x_259, hx_259, h⟩ := bindO h
        refine OpsD.st (s := 17416) (Ev.iaF rfl rfl hx_259) rfl rfl ?_
        refine OpsD.p rfl ?_
        refine OpsD.p rfl ?_
        refine OpsD.p rfl ?_
        obtain ⟨y_260, hy_260, h⟩ := bindO h
        refine OpsD.st (s := 17480) (Ev.call [] [] 0 (sem_spec_l01In N x_259 x_2 x_3 _ hy_260) rfl rfl (.cons (.c _) (.cons (.c _) (.cons (.c _) .nil))) rfl (.inl rfl) rfl rfl) rfl rfl ?_
        refine OpsD.p rfl ?_
        refine OpsD.p rfl ?_
        refine OpsD.askO (x := .t 22) rfl h (fun g_261 h => ?_) (fun g_261 h => ?_)
        · skip
          refine OpsD.gn rfl g_261 ?_
          refine OpsD.gn rfl g_261 ?_
          refine OpsD.gn rfl g_261 ?_
          refine OpsD.gu rfl ?_
          refine OpsD.gu rfl ?_
          refine OpsD.gu rfl ?_
          refine OpsD.gu rfl ?_
          refine OpsD.gu rfl ?_
          refine OpsD.gu rfl ?_
          refine OpsD.gu rfl ?_
          refine OpsD.gu rfl ?_
          refine OpsD.gu rfl ?_
          refine OpsD.gu rfl ?_
          refine OpsD.gn rfl g_261 ?_
          refine OpsD.st (s := 17752) (.pkT rfl g_261 rfl) rfl rfl ?_
          refine OpsD.nil ⟨by kernel_rfl, ?_⟩
          refine Run.condT rfl rfl ?_
          refine Run.seq ?_
          refine Run.ops hm ?_
          refine Ops.p rfl ?_
          refine Ops.nil ?_
          refine Run.ret ?_
          obtain rfl := someO h
          have h := hk_247
          replace h := inlO h
          obtain rfl := someO h
          exact Ends.mkG (.inl rfl) rfl (gh_pk [0] [] hB rfl rfl rfl rfl) rfl rfl
        · skip
          refine OpsD.gp rfl g_261 rfl ?_
          refine OpsD.gp rfl g_261 rfl ?_
          refine OpsD.gp rfl g_261 rfl ?_
          refine OpsD.askO (x := .t 25) rfl h (fun g_262 h => ?_) (fun g_262 h => ?_)
          · skip
            refine OpsD.gp rfl g_262 rfl ?_
            refine OpsD.gp rfl g_262 rfl ?_
            refine OpsD.gp rfl g_262 rfl ?_
            obtain ⟨x_263, hx_263, h⟩ := bindO h
            refine OpsD.gs (s := 17624) rfl g_262 (Ev.iaF rfl rfl hx_263) rfl rfl ?_
            refine OpsD.gp rfl g_262 rfl ?_
            refine OpsD.gp rfl g_262 rfl ?_
            refine OpsD.gp rfl g_262 rfl ?_
            obtain ⟨x_264, hx_264, h⟩ := bindO h
            refine OpsD.gs (s := 17688) rfl g_262 (Ev.iaF rfl rfl hx_264) rfl rfl ?_
            refine OpsD.gp rfl g_262 rfl ?_
            refine OpsD.gp rfl g_262 rfl ?_
            refine OpsD.gs (s := 17736) rfl g_261 (.pkT rfl g_262 rfl) rfl rfl ?_
            refine OpsD.st (s := 17752) (.pkF rfl g_261 rfl) rfl rfl ?_
            refine OpsD.nil ⟨by kernel_rfl, ?_⟩
            refine Run.condO rfl h (fun g_265 h => ?_) (fun g_265 h => ?_)
            · skip
              refine Run.seq ?_
              refine Run.ops hm ?_
              refine Ops.p rfl ?_
              refine Ops.nil ?_
              refine Run.ret ?_
              obtain rfl := someO h
              have h := hk_247
              replace h := inlO h
              obtain rfl := someO h
              exact Ends.mkG (.inl rfl) rfl (gh_pk [0] [] hB rfl rfl rfl rfl) rfl rfl
            · skip
              refine Run.skip ?_
              exact ⟨_, _, (gh_pk [0, 1, 2, 7] [] hB rfl rfl rfl rfl), (), h, rfl, rfl⟩
          · skip
            refine OpsD.gn rfl g_262 ?_
            refine OpsD.gn rfl g_262 ?_
            refine OpsD.gn rfl g_262 ?_
            refine OpsD.gn rfl g_262 ?_
            refine OpsD.gn rfl g_262 ?_
            refine OpsD.gn rfl g_262 ?_
            refine OpsD.gn rfl g_262 ?_
            refine OpsD.gn rfl g_262 ?_
            refine OpsD.gn rfl g_262 ?_
            refine OpsD.gn rfl g_262 ?_
            refine OpsD.gs (s := 17736) rfl g_261 (.pkF rfl g_262 rfl) rfl rfl ?_
            refine OpsD.st (s := 17752) (.pkF rfl g_261 rfl) rfl rfl ?_
            refine OpsD.nil ⟨by kernel_rfl, ?_⟩
            refine Run.condF rfl rfl ?_
            refine Run.skip ?_
            exact ⟨_, _, (gh_pk [0, 1, 2, 7] [] hB rfl rfl rfl rfl), (), h, rfl, rfl⟩
      · skip
        refine Run.ops hm ?_
        refine Ops.p rfl ?_
        refine Ops.p rfl ?_
        refine Ops.p rfl ?_
        refine Ops.nil ?_
        exact ⟨m_247, Nat.lt_succ_self m_247, _, _, (gh_pk [0, 1, 2, 7] [] hB rfl rfl rfl rfl), _, h, rfl, rfl⟩
    · skip
      refine Run.exit ?_
      obtain rfl := someO h
      have h := hk_247
      replace h := inrO h
      exact ⟨_, _, (gh_pk [] [] hB rfl rfl rfl rfl), (), h, rfl, rfl⟩
  · skip
    refine Run.seq ?_
    refine Run.ops hm ?_
    refine Ops.p rfl ?_
    refine Ops.nil ?_
    refine Run.ret ?_
    obtain rfl := someO h
    exact Ends.mkG (.inl rfl) rfl (gh_pk [0] [] hB rfl rfl rfl rfl) rfl rfl
def spec_ConfOk (N : Nat) (x_1 : (List Int)) : Option (Bool) :=
 (spec_l01In N (x_1.length : Int) (1 : Int) (4 : Int)).bind fun y_103 =>
 (if y_103 = true then
 (spec_l07Rise N x_1 (1 : Int) (4 : Int)).bind fun y_105 =>
 some y_105
 else
 some false)
theorem sem_spec_ConfOk (N : Nat) (x_1 : (List Int)) (r : Bool) (h : spec_ConfOk N x_1 = some r) : Says Try.prog 96 [RO 3 (x_1.map encI)] 0 [] (VB r) [] := by
  unfold spec_ConfOk at h
  refine Says.of_run s96 Try.call96 rfl fun B hB => ?_
  have hm : B.m ≤ 1000 := by omega
  refine Run.seq ?_
  refine Run.ops hm ?_
  refine Ops.p rfl ?_
  refine Ops.nil ?_
  refine Run.seq ?_
  refine Run.ops hm ?_
  refine Ops.p rfl ?_
  refine Ops.st (s := 5112) (Ev.lnF rfl) rfl rfl ?_
  obtain ⟨y_103, hy_103, h⟩ := bindO h
  refine Ops.st (s := 5128) (Ev.call [] [] 0 (sem_spec_l01In N (x_1.length : Int) (1 : Int) (4 : Int) _ hy_103) rfl rfl (.cons (.c _) (.cons (.c _) (.cons (.c _) .nil))) rfl (.inl rfl) rfl rfl) rfl rfl ?_
  refine Ops.p rfl ?_
  refine Ops.askO (x := .t 6) rfl h (fun g_104 h => ?_) (fun g_104 h => ?_)
  · skip
    refine Ops.gp rfl g_104 rfl ?_
    obtain ⟨y_105, hy_105, h⟩ := bindO h
    refine Ops.gs (s := 5176) rfl g_104 (Ev.call [] [] 0 (sem_spec_l07Rise N x_1 (1 : Int) (4 : Int) _ hy_105) rfl rfl (.cons (.c _) (.cons (.c _) (.cons (.c _) .nil))) rfl (.inl rfl) rfl rfl) rfl rfl ?_
    refine Ops.st (s := 5192) (.pkT rfl g_104 rfl) rfl rfl ?_
    refine Ops.p rfl ?_
    refine Ops.nil ?_
    refine Run.ret ?_
    obtain rfl := someO h
    exact Ends.mkG (.inl rfl) rfl (gh_pk [0] [] hB rfl rfl rfl rfl) rfl rfl
  · skip
    refine Ops.gn rfl g_104 ?_
    refine Ops.gn rfl g_104 ?_
    refine Ops.st (s := 5192) (.pkF rfl g_104 rfl) rfl rfl ?_
    refine Ops.p rfl ?_
    refine Ops.nil ?_
    refine Run.ret ?_
    obtain rfl := someO h
    exact Ends.mkG (.inl rfl) rfl (gh_pk [0] [] hB rfl rfl rfl rfl) rfl rfl
def spec_ReadConf_l1 (N : Nat) (x_1 : ByteArray) : Nat → Int → (List Int) → Option ((List Int))
 | 0, _, _ => none
 | m + 1, x_172, x_173 =>
 (if (decide (x_172 < (x_1.size : Int))) = true then
 (if (decide (x_172 ≤ (4 : Int))) = true then
 (sat? x_1 x_172).bind fun x_190 =>
 (cat? x_173 ([w64 (x_190)] : List Int)).bind fun x_191 =>
 spec_ReadConf_l1 N x_1 m (w64 (x_172 + (1 : Int))) x_191
 else
 some x_173)
 else
 some x_173)
def spec_ReadConf (N : Nat) (x_1 : ByteArray) : Option ((List Int) × Bool) :=
 joinP (fun (v_170 : (List Int)) =>
 (if (((v_170.length : Nat) : Int) != (x_1.size : Int)) = true then
 some (([] : List Int), false)
 else
 (spec_ConfOk N v_170).bind fun y_196 =>
 (if (!y_196) = true then
 some (([] : List Int), false)
 else
 some (v_170, true)))) fun j_170 =>
 (spec_ReadConf_l1 N x_1 N (0 : Int) ([] : List Int)).bind (fun (v_182 : (List Int)) => j_170 v_182)
theorem sem_spec_ReadConf (N : Nat) (x_1 : ByteArray) (r : (List Int) × Bool) (h : spec_ReadConf N x_1 = some r) : Says Try.prog 106 [VS x_1] 0 [] (.tup [.sl 0 3 0 r.1.length, VB r.2]) [(0, .vec 3 (r.1.map encI))] := by
  unfold spec_ReadConf at h
  refine Says.of_run s106 Try.call106 rfl fun B hB => ?_
  have hm : B.m ≤ 1000 := by omega
  refine Run.seq ?_
  refine Run.ops hm ?_
  refine Ops.p rfl ?_
  refine Ops.p rfl ?_
  refine Ops.nil ?_
  refine Run.seq ?_
  refine Run.ops hm ?_
  refine Ops.st (s := 5096) (Ev.bsW (ys := ([] : List Int)) (f := encI) rfl .nil rfl rfl rfl rfl rfl) rfl rfl ?_
  refine Ops.p rfl ?_
  refine Ops.nil ?_
  refine Run.seqO h (fun (v_170 : (List Int)) => [(0, VS x_1), (4, .sl 0 3 0 v_170.length)]) (fun (v_170 : (List Int)) => [(0, .vec 3 (v_170.map encI))]) (fun h => ?_) (fun v_170 h => ?_)
  · skip
    refine Run.seq ?_
    refine Run.ops hm ?_
    refine Ops.p rfl ?_
    refine Ops.nil ?_
    refine Run.block ?_
    obtain ⟨res_182, h, hk_182⟩ := bindO h
    refine Run.loop (n := N) (fun m_182 fr σ => ∃ (x_172 : Int), ∃ (x_173 : (List Int)), spec_ReadConf_l1 N x_1 m_182 x_172 x_173 = some res_182 ∧ fr = [(0, VS x_1), (4, .sl 0 3 0 x_173.length), (5, VI x_172)] ∧ σ = [(0, .vec 3 (x_173.map encI))]) (gh_pk [0, 4, 5] [5096] hB rfl rfl rfl rfl) ⟨_, _, h, rfl, rfl⟩ ?_
    rintro m_182 fr σ ⟨x_172, x_173, h, rfl, rfl⟩
    obtain _ | m_182 := m_182
    · rw [spec_ReadConf_l1] at h; cases h
    rw [spec_ReadConf_l1] at h
    refine Run.seq ?_
    refine Run.seq ?_
    refine Run.ops hm ?_
    refine Ops.p rfl ?_
    refine Ops.p rfl ?_
    refine Ops.p rfl ?_
    refine Ops.p rfl ?_
    refine Ops.p rfl ?_
    refine Ops.askO (x := .t 11) rfl h (fun g_186 h => ?_) (fun g_186 h => ?_)
    · skip
      refine Ops.gp rfl g_186 rfl ?_
      refine Ops.gp rfl g_186 rfl ?_
      refine Ops.st (s := 13400) (.pkT rfl g_186 rfl) rfl rfl ?_
      refine Ops.nil ?_
      refine Run.condO rfl h (fun g_187 h => ?_) (fun g_187 h => ?_)
      · skip
        refine Run.skip ?_
        refine Run.seq ?_
        refine Run.block ?_
        refine Run.ops hm ?_
        refine Ops.p rfl ?_
        refine Ops.p rfl ?_
        refine Ops.p rfl ?_
        obtain ⟨x_190, hx_190, h⟩ := bindO h
        refine Ops.st (s := 21528) (Ev.ixS rfl rfl hx_190) rfl rfl ?_
        refine Ops.p rfl ?_
        refine Ops.st (s := 21560) (Ev.bsW (ys := ([w64 (x_190)] : List Int)) (f := encI) rfl (.cons (.c _) .nil) rfl rfl rfl rfl rfl) rfl rfl ?_
        obtain ⟨x_191, hx_191, h⟩ := bindO h
        refine Ops.st (s := 21576) (Ev.apW (f := encI) (ontoW rfl rfl rfl) (addsW rfl rfl rfl (fun _ => rfl)) rfl bt3 rfl hx_191) rfl rfl ?_
        refine Ops.p rfl ?_
        refine Ops.nil ?_
        refine Run.ops hm ?_
        refine Ops.p rfl ?_
        refine Ops.p rfl ?_
        refine Ops.p rfl ?_
        refine Ops.nil ?_
        exact ⟨m_182, Nat.lt_succ_self m_182, _, _, (gh_pk [0, 4, 5] [21576] hB rfl rfl rfl rfl), _, _, h, rfl, rfl⟩
      · skip
        refine Run.exit ?_
        obtain rfl := someO h
        have h := hk_182
        exact ⟨_, _, (gh_pk [0, 4] [0] hB rfl rfl rfl rfl), x_173, h, rfl, rfl⟩
    · skip
      refine Ops.gn rfl g_186 ?_
      refine Ops.gn rfl g_186 ?_
      refine Ops.st (s := 13400) (.pkF rfl g_186 rfl) rfl rfl ?_
      refine Ops.nil ?_
      refine Run.condF rfl rfl ?_
      refine Run.exit ?_
      obtain rfl := someO h
      have h := hk_182
      exact ⟨_, _, (gh_pk [0, 4] [0] hB rfl rfl rfl rfl), x_173, h, rfl, rfl⟩
  · skip
    refine Run.seq ?_
    refine Run.seq ?_
    refine Run.ops hm ?_
    refine Ops.p rfl ?_
    refine Ops.p rfl ?_
    refine Ops.p rfl ?_
    refine Ops.p rfl ?_
    refine Ops.p rfl ?_
    refine Ops.p rfl ?_
    refine Ops.askO (x := .t 29) rfl h (fun g_195 h => ?_) (fun g_195 h => ?_)
    · skip
      refine Ops.gn rfl g_195 ?_
      refine Ops.gn rfl g_195 ?_
      refine Ops.gn rfl g_195 ?_
      refine Ops.st (s := 25720) (.pkT rfl g_195 rfl) rfl rfl ?_
      refine Ops.nil ?_
      refine Run.condT rfl rfl ?_
      refine Run.seq ?_
      refine Run.ops hm ?_
      refine Ops.st (s := 29672) (Ev.bsW (ys := ([] : List Int)) (f := encI) rfl .nil rfl rfl rfl rfl rfl) rfl rfl ?_
      refine Ops.p rfl ?_
      refine Ops.p rfl ?_
      refine Ops.nil ?_
      refine Run.ret ?_
      obtain rfl := someO h
      exact Ends.mkG (.inl rfl) rfl (gh_pk [0, 1] [29672] hB rfl rfl rfl rfl) rfl rfl
    · skip
      refine Ops.gp rfl g_195 rfl ?_
      obtain ⟨y_196, hy_196, h⟩ := bindO h
      refine Ops.gs (s := 25688) rfl g_195 (Ev.call [] [0] 0 (sem_spec_ConfOk N v_170 _ hy_196) rfl rfl (.cons (.borrow rfl (by decide) (lendW (fun _ => rfl) _ rfl)) .nil) rfl (.inr ⟨rfl, ownL_root trivial⟩) rfl rfl) rfl rfl ?_
      refine Ops.gp rfl g_195 rfl ?_
      refine Ops.st (s := 25720) (.pkF rfl g_195 rfl) rfl rfl ?_
      refine Ops.nil ?_
      refine Run.condO rfl h (fun g_197 h => ?_) (fun g_197 h => ?_)
      · skip
        refine Run.seq ?_
        refine Run.ops hm ?_
        refine Ops.st (s := 29672) (Ev.bsW (ys := ([] : List Int)) (f := encI) rfl .nil rfl rfl rfl rfl rfl) rfl rfl ?_
        refine Ops.p rfl ?_
        refine Ops.p rfl ?_
        refine Ops.nil ?_
        refine Run.ret ?_
        obtain rfl := someO h
        exact Ends.mkG (.inl rfl) rfl (gh_pk [0, 1] [29672] hB rfl rfl rfl rfl) rfl rfl
      · skip
        refine Run.skip ?_
        refine Run.seq ?_
        refine Run.ops hm ?_
        refine Ops.p rfl ?_
        refine Ops.p rfl ?_
        refine Ops.p rfl ?_
        refine Ops.nil ?_
        refine Run.ret ?_
        obtain rfl := someO h
        exact Ends.mkG (.inl rfl) rfl (gh_pk [0, 1] [0] hB rfl rfl rfl rfl) rfl rfl
end Go.Proofs.Ytebbgdjmplceiaa.Pe.FnExactSettle
