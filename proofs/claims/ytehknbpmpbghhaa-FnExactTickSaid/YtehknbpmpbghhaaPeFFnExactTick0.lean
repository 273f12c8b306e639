/- Functions, as pure functions; and that Go does just that. -/
import Derived.Test.YtehknbpmpbghhaaPeTy
import Derived.Test.YtehknbpmpbghhaaPeSFnExactTick
namespace Go.Proofs.Ytehknbpmpbghhaa.Pe.FnExactTick
open Go Go.RowKit
set_option linter.unusedVariables false
set_option linter.unusedSimpArgs false
set_option maxHeartbeats 40000000
theorem hmix : Try.prog.follows .mixedOrders = true := by kernel_rfl
structure Entry where
  Term : Int
  Kind : Int
  Data : ByteArray
abbrev encEntry (x : Entry) : List C := [.i .i64 x.Term, .i .i64 x.Kind, .s x.Data]
structure Log where
  Start : Int
  StartTerm : Int
  Entries : (List Entry)
abbrev encLogL (o : Bool) (x : Log) : List C := [.i .i64 x.Start, .i .i64 x.StartTerm, .row o 211 (x.Entries.map encEntry)]
theorem ro_encLogL (x : Log) : roCs (encLogL true x) = encLogL false x := by simp only [encLogL, roCs, roC, roRows_mapf (fun _ => rfl)]
theorem own_encLogL (x : Log) : ownCs (encLogL true x) = true := by simp only [encLogL, ownCs, ownC, Bool.and_self, Bool.and_true, Bool.true_and, own_rows (f := encEntry) (fun _ => rfl)]
structure Peer where
  Id : Int
  Next : Int
  Match : Int
  Sent : Int
abbrev encPeer (x : Peer) : List C := [.i .i64 x.Id, .i .i64 x.Next, .i .i64 x.Match, .i .i64 x.Sent]
structure Node where
  Id : Int
  Term : Int
  Vote : Int
  Role : Int
  Lead : Int
  Conf : (List Int)
  Log : Log
  Commit : Int
  Clock : Int
  Limit : Int
  Votes : (List Int)
  Peers : (List Peer)
abbrev encNodeL (o : Bool) (x : Node) : List C := [.i .i64 x.Id, .i .i64 x.Term, .i .i64 x.Vote, .i .i64 x.Role, .i .i64 x.Lead, .row o 3 (x.Conf.map encI), .i .i64 x.Log.Start, .i .i64 x.Log.StartTerm, .row o 211 (x.Log.Entries.map encEntry), .i .i64 x.Commit, .i .i64 x.Clock, .i .i64 x.Limit, .row o 3 (x.Votes.map encI), .row o 188 (x.Peers.map encPeer)]
theorem ro_encNodeL (x : Node) : roCs (encNodeL true x) = encNodeL false x := by simp only [encNodeL, roCs, roC, roRows_mapf (fun _ => rfl), roRows_mapf (fun _ => rfl), roRows_mapf (fun _ => rfl), roRows_mapf (fun _ => rfl)]
theorem own_encNodeL (x : Node) : ownCs (encNodeL true x) = true := by simp only [encNodeL, ownCs, ownC, Bool.and_self, Bool.and_true, Bool.true_and, own_rows (f := encI) (fun _ => rfl), own_rows (f := encEntry) (fun _ => rfl), own_rows (f := encI) (fun _ => rfl), own_rows (f := encPeer) (fun _ => rfl)]
abbrev encLog (o : Bool) (x : Log) : List C := [.i .i64 x.Start, .i .i64 x.StartTerm, .row o 51 (x.Entries.map encEntry)]
theorem ro_encLog (x : Log) : roCs (encLog true x) = encLog false x := by simp only [encLog, roCs, roC, roRows_mapf (fun _ => rfl)]
theorem own_encLog (x : Log) : ownCs (encLog true x) = true := by simp only [encLog, ownCs, ownC, Bool.and_self, Bool.and_true, Bool.true_and, own_rows (f := encEntry) (fun _ => rfl)]
abbrev encNode (o : Bool) (x : Node) : List C := [.i .i64 x.Id, .i .i64 x.Term, .i .i64 x.Vote, .i .i64 x.Role, .i .i64 x.Lead, .row o 3 (x.Conf.map encI), .i .i64 x.Log.Start, .i .i64 x.Log.StartTerm, .row o 51 (x.Log.Entries.map encEntry), .i .i64 x.Commit, .i .i64 x.Clock, .i .i64 x.Limit, .row o 3 (x.Votes.map encI), .row o 135 (x.Peers.map encPeer)]
theorem ro_encNode (x : Node) : roCs (encNode true x) = encNode false x := by simp only [encNode, roCs, roC, roRows_mapf (fun _ => rfl), roRows_mapf (fun _ => rfl), roRows_mapf (fun _ => rfl), roRows_mapf (fun _ => rfl)]
theorem own_encNode (x : Node) : ownCs (encNode true x) = true := by simp only [encNode, ownCs, ownC, Bool.and_self, Bool.and_true, Bool.true_and, own_rows (f := encI) (fun _ => rfl), own_rows (f := encEntry) (fun _ => rfl), own_rows (f := encI) (fun _ => rfl), own_rows (f := encPeer) (fun _ => rfl)]
structure Message where
  Kind : Int
  From : Int
  To : Int
  Term : Int
  Index : Int
  LogTerm : Int
  Commit : Int
  Ok : Bool
  Entries : (List Entry)
  Conf : (List Int)
  Data : ByteArray
  Last : Bool
abbrev encMessage (o : Bool) (x : Message) : List C := [.i .i64 x.Kind, .i .i64 x.From, .i .i64 x.To, .i .i64 x.Term, .i .i64 x.Index, .i .i64 x.LogTerm, .i .i64 x.Commit, .b x.Ok, .row o 51 (x.Entries.map encEntry), .row o 3 (x.Conf.map encI), .s x.Data, .b x.Last]
theorem ro_encMessage (x : Message) : roCs (encMessage true x) = encMessage false x := by simp only [encMessage, roCs, roC, roRows_mapf (fun _ => rfl), roRows_mapf (fun _ => rfl)]
theorem own_encMessage (x : Message) : ownCs (encMessage true x) = true := by simp only [encMessage, ownCs, ownC, Bool.and_self, Bool.and_true, Bool.true_and, own_rows (f := encEntry) (fun _ => rfl), own_rows (f := encI) (fun _ => rfl)]
structure Tl16Run where
  n : Node
  told : (List Message)
abbrev encTl16Run (o : Bool) (x : Tl16Run) : List C := [.i .i64 x.n.Id, .i .i64 x.n.Term, .i .i64 x.n.Vote, .i .i64 x.n.Role, .i .i64 x.n.Lead, .row o 3 (x.n.Conf.map encI), .i .i64 x.n.Log.Start, .i .i64 x.n.Log.StartTerm, .row o 51 (x.n.Log.Entries.map encEntry), .i .i64 x.n.Commit, .i .i64 x.n.Clock, .i .i64 x.n.Limit, .row o 3 (x.n.Votes.map encI), .row o 135 (x.n.Peers.map encPeer), .row o 58 (x.told.map (encMessage o))]
theorem ro_encTl16Run (x : Tl16Run) : roCs (encTl16Run true x) = encTl16Run false x := by simp only [encTl16Run, roCs, roC, roRows_mapf (fun _ => rfl), roRows_mapf (fun _ => rfl), roRows_mapf (fun _ => rfl), roRows_mapf (fun _ => rfl), roRows_mapf ro_encMessage]
theorem own_encTl16Run (x : Tl16Run) : ownCs (encTl16Run true x) = true := by simp only [encTl16Run, ownCs, ownC, Bool.and_self, Bool.and_true, Bool.true_and, own_rows (f := encI) (fun _ => rfl), own_rows (f := encEntry) (fun _ => rfl), own_rows (f := encI) (fun _ => rfl), own_rows (f := encPeer) (fun _ => rfl), own_rows (f := (encMessage true)) own_encMessage]
structure Tcore where
  n : Node
  out : (List Message)
abbrev encTcore (o : Bool) (x : Tcore) : List C := [.i .i64 x.n.Id, .i .i64 x.n.Term, .i .i64 x.n.Vote, .i .i64 x.n.Role, .i .i64 x.n.Lead, .row o 3 (x.n.Conf.map encI), .i .i64 x.n.Log.Start, .i .i64 x.n.Log.StartTerm, .row o 51 (x.n.Log.Entries.map encEntry), .i .i64 x.n.Commit, .i .i64 x.n.Clock, .i .i64 x.n.Limit, .row o 3 (x.n.Votes.map encI), .row o 135 (x.n.Peers.map encPeer), .row o 58 (x.out.map (encMessage o))]
theorem ro_encTcore (x : Tcore) : roCs (encTcore true x) = encTcore false x := by simp only [encTcore, roCs, roC, roRows_mapf (fun _ => rfl), roRows_mapf (fun _ => rfl), roRows_mapf (fun _ => rfl), roRows_mapf (fun _ => rfl), roRows_mapf ro_encMessage]
theorem own_encTcore (x : Tcore) : ownCs (encTcore true x) = true := by simp only [encTcore, ownCs, ownC, Bool.and_self, Bool.and_true, Bool.true_and, own_rows (f := encI) (fun _ => rfl), own_rows (f := encEntry) (fun _ => rfl), own_rows (f := encI) (fun _ => rfl), own_rows (f := encPeer) (fun _ => rfl), own_rows (f := (encMessage true)) own_encMessage]
theorem bt3 : bytesOf Try.prog 3 ≤ 2048 := of_decide_eq_true (by kernel_rfl)
theorem bt51 : bytesOf Try.prog 51 ≤ 2048 := of_decide_eq_true (by kernel_rfl)
theorem bt58 : bytesOf Try.prog 58 ≤ 2048 := of_decide_eq_true (by kernel_rfl)
theorem bt135 : bytesOf Try.prog 135 ≤ 2048 := of_decide_eq_true (by kernel_rfl)
def laws_szIntS (N : Nat) (x_1 : (List Int)) (x_2 : Int) : Option (Int) :=
 (if (decide ((w64 (x_2 - (x_1.length : Int))) < (0 : Int))) = true then
 some (-1 : Int)
 else
 some (w64 (x_2 - (x_1.length : Int))))
theorem sem_laws_szIntS (N : Nat) (x_1 : (List Int)) (x_2 : Int) (r : Int) (h : laws_szIntS N x_1 x_2 = some r) : Says Try.prog 75 [RO 3 (x_1.map encI), VI x_2] 0 [] (VI r) [] := by
  unfold laws_szIntS at h
  refine Says.of_run s75 Try.call75 rfl fun B hB => ?_
  have hm : B.m ≤ 1000 := by omega
  refine Run.seq (Run.ops hm (Ops.p rfl (Ops.nil (Run.seq (Run.ops hm (Ops.p rfl (Ops.p rfl (Ops.st (s := 5128) (Ev.lnF rfl) rfl rfl (Ops.p rfl (Ops.p rfl (Ops.nil (Run.seq (Run.seq (Run.ops hm (Ops.p rfl (Ops.p rfl (Ops.nil (Run.condO rfl h (fun g_103 h => ?_) (fun g_103 h => ?_)))))))))))))))))))
  · refine Run.seq (Run.ops hm (Ops.p rfl (Ops.nil (Run.ret ?_))))
    obtain rfl := someO h
    exact Ends.mkG (.inl rfl) rfl (gh_pk [0] [] hB rfl rfl rfl rfl) rfl rfl
  · refine Run.skip (Run.seq (Run.ops hm (Ops.p rfl (Ops.p rfl (Ops.nil (Run.ret ?_))))))
    obtain rfl := someO h
    exact Ends.mkG (.inl rfl) rfl (gh_pk [0] [] hB rfl rfl rfl rfl) rfl rfl
def laws_szEntry (N : Nat) (x_1 : Entry) (x_2 : Int) : Option (Int) :=
 (if (decide ((w64 (x_2 - (x_1.Data.size : Int))) < (0 : Int))) = true then
 some (-1 : Int)
 else
 some (w64 (x_2 - (x_1.Data.size : Int))))
theorem sem_laws_szEntry (N : Nat) (x_1 : Entry) (x_2 : Int) (r : Int) (h : laws_szEntry N x_1 x_2 = some r) : Says Try.prog 184 [.agg [VI x_1.Term, VI x_1.Kind, VS x_1.Data], VI x_2] 0 [] (VI r) [] := by
  unfold laws_szEntry at h
  refine Says.of_run s184 Try.call184 rfl fun B hB => ?_
  have hm : B.m ≤ 1000 := by omega
  refine Run.seq (Run.ops hm (Ops.st (s := 1000) (.bx rfl rfl) rfl rfl (Ops.p rfl (Ops.nil (Run.seq (Run.ops hm (Ops.p rfl (Ops.p rfl (Ops.p rfl (Ops.p rfl (Ops.p rfl (Ops.p rfl (Ops.nil (Run.seq (Run.seq (Run.ops hm (Ops.p rfl (Ops.p rfl (Ops.nil (Run.condO rfl h (fun g_103 h => ?_) (fun g_103 h => ?_)))))))))))))))))))))
  · refine Run.seq (Run.ops hm (Ops.p rfl (Ops.nil (Run.ret ?_))))
    obtain rfl := someO h
    exact Ends.mkG (.inl rfl) rfl (gh_pk [0] [] hB rfl rfl rfl rfl) rfl rfl
  · refine Run.skip (Run.seq (Run.ops hm (Ops.p rfl (Ops.p rfl (Ops.nil (Run.ret ?_))))))
    obtain rfl := someO h
    exact Ends.mkG (.inl rfl) rfl (gh_pk [0] [] hB rfl rfl rfl rfl) rfl rfl
def laws_szEntryS_l1 (N : Nat) (x_1 : (List Entry)) : Nat → Int → Int → Option ((Int) ⊕ (Int))
 | 0, _, _ => none
 | m + 1, x_245, x_246 =>
 (if (decide (x_246 < (x_1.length : Int))) = true then
 (at? x_1 x_246).bind fun x_287 =>
 (laws_szEntry N x_287 x_245).bind fun y_288 =>
 (if (decide (y_288 < (0 : Int))) = true then
 some (Sum.inl (-1 : Int))
 else
 laws_szEntryS_l1 N x_1 m y_288 (w64 (x_246 + (1 : Int))))
 else
 some (Sum.inr x_245))
def laws_szEntryS_l1_r (N : Nat) (x_1 : (List Entry)) : (List Entry) → Int → Int → Option ((Int) ⊕ (Int))
 | [], x_245, x_246 =>
 some (Sum.inr x_245)
 | hd :: tl, x_245, x_246 =>
 (some hd).bind fun x_287 =>
 (laws_szEntry N x_287 x_245).bind fun y_288 =>
 (if (decide (y_288 < (0 : Int))) = true then
 some (Sum.inl (-1 : Int))
 else
 laws_szEntryS_l1_r N x_1 tl y_288 (w64 (x_246 + (1 : Int))))
theorem laws_szEntryS_l1_rng (N : Nat) (x_1 : (List Entry)) (hx : x_1.length ≤ 1099511627776) : ∀ (d k m : Nat) (x_245 : Int), x_1.length = k + d → d < m → laws_szEntryS_l1 N x_1 m x_245 (k : Int) = laws_szEntryS_l1_r N x_1 (x_1.drop k) x_245 (k : Int) := by
  intro d
  induction d with
  | zero =>
    intro k m x_245 hd hm
    obtain ⟨m, rfl⟩ : ∃ q, m = q + 1 := ⟨m - 1, by omega⟩
    rw [laws_szEntryS_l1, if_neg (by simp; omega), List.drop_eq_nil_of_le (by omega), laws_szEntryS_l1_r]
  | succ d ih =>
    intro k m x_245 hd hm
    obtain ⟨m, rfl⟩ : ∃ q, m = q + 1 := ⟨m - 1, by omega⟩
    have hk : k < x_1.length := by omega
    rw [laws_szEntryS_l1, if_pos (by simp; omega), List.drop_eq_getElem_cons hk, laws_szEntryS_l1_r]
    have h1 := at_lt hk
    have h2 := w64_succ (k := k) (by omega)
    have h3 := ih (k + 1) m
    simp only [h1, h2, h3 _ (by omega) (by omega)]
theorem laws_szEntryS_l1_eq {N : Nat} (x_1 : (List Entry)) (hx : x_1.length ≤ 1099511627776) (hN : x_1.length < N) (x_245 : Int) : laws_szEntryS_l1 N x_1 N x_245 0 = laws_szEntryS_l1_r N x_1 x_1 x_245 0 := laws_szEntryS_l1_rng N x_1 hx x_1.length 0 N x_245 (by omega) hN
def laws_szEntryS (N : Nat) (x_1 : (List Entry)) (x_2 : Int) : Option (Int) :=
 (if (decide ((w64 (x_2 - (x_1.length : Int))) < (0 : Int))) = true then
 some (-1 : Int)
 else
 joinP (fun (v_243 : Int) =>
 some v_243) fun j_243 =>
 (laws_szEntryS_l1 N x_1 N (w64 (x_2 - (x_1.length : Int))) (0 : Int)).bind (Sum.elim (fun v_267 => some v_267) (fun (v_268 : Int) => j_243 v_268)))
theorem sem_laws_szEntryS (N : Nat) (x_1 : (List Entry)) (x_2 : Int) (r : Int) (h : laws_szEntryS N x_1 x_2 = some r) : Says Try.prog 150 [RO 211 (x_1.map encEntry), VI x_2] 0 [] (VI r) [] := by
  unfold laws_szEntryS at h
  refine Says.of_run s150 Try.call150 rfl fun B hB => ?_
  have hm : B.m ≤ 1000 := by omega
  refine Run.seq (Run.ops hm (Ops.p rfl (Ops.nil (Run.seq (Run.ops hm (Ops.p rfl (Ops.p rfl (Ops.st (s := 5128) (Ev.lnF rfl) rfl rfl (Ops.p rfl (Ops.p rfl (Ops.nil (Run.seq (Run.seq (Run.ops hm (Ops.p rfl (Ops.p rfl (Ops.nil (Run.condO rfl h (fun g_196 h => ?_) (fun g_196 h => ?_)))))))))))))))))))
  · refine Run.seq (Run.ops hm (Ops.p rfl (Ops.nil (Run.ret ?_))))
    obtain rfl := someO h
    exact Ends.mkG (.inl rfl) rfl (gh_pk [0] [] hB rfl rfl rfl rfl) rfl rfl
  · refine Run.skip (Run.seqO h (fun (v_243 : Int) => [(1, VI v_243)]) (fun (v_243 : Int) => []) (fun h => ?_) (fun v_243 h => ?_))
    · refine Run.seq (Run.ops hm (Ops.p rfl (Ops.nil (Run.block ?_))))
      obtain ⟨res_268, h, hk_268⟩ := bindO h
      refine Run.loop (n := N) (fun m_268 fr σ => ∃ (x_245 : Int), ∃ (x_246 : Int), laws_szEntryS_l1 N x_1 m_268 x_245 x_246 = some res_268 ∧ fr = [(0, RO 211 (x_1.map encEntry)), (1, VI x_245), (5, VI x_246)] ∧ σ = []) (gh_pk [0, 1, 5] [] hB rfl rfl rfl rfl) ⟨_, _, h, rfl, rfl⟩ ?_
      rintro m_268 fr σ ⟨x_245, x_246, h, rfl, rfl⟩
      obtain _ | m_268 := m_268
      · rw [laws_szEntryS_l1] at h; cases h
      rw [laws_szEntryS_l1] at h
      refine Run.seq (Run.seq (Run.ops hm (Ops.p rfl (Ops.p rfl (Ops.st (s := 21512) (Ev.lnF rfl) rfl rfl (Ops.p rfl (Ops.nil (Run.condO rfl h (fun g_271 h => ?_) (fun g_271 h => ?_)))))))))
      · refine Run.skip (Run.seq (Run.block (Run.seq (Run.ops hm (Ops.p rfl (Ops.p rfl ?_))))))
        obtain ⟨x_287, hx_287, h⟩ := bindO h
        refine Ops.st (s := 29704) (Ev.iaF rfl rfl hx_287) rfl rfl (Ops.p rfl (Ops.p rfl ?_))
        obtain ⟨y_288, hy_288, h⟩ := bindO h
        refine Ops.st (s := 29752) (Ev.call [] [] 0 (sem_laws_szEntry N x_287 x_245 _ hy_288) rfl rfl (.cons (.agg (.cons (.c _) (.cons (.c _) (.cons (.c _) .nil)))) (.cons (.c _) .nil)) rfl (.inl rfl) rfl rfl) rfl rfl (Ops.p rfl (Ops.nil (Run.seq (Run.ops hm (Ops.p rfl (Ops.p rfl (Ops.nil (Run.condO rfl h (fun g_289 h => ?_) (fun g_289 h => ?_)))))))))
        · refine Run.seq (Run.ops hm (Ops.p rfl (Ops.nil (Run.ret ?_))))
          obtain rfl := someO h
          have h := hk_268
          replace h := inlO h
          obtain rfl := someO h
          exact Ends.mkG (.inl rfl) rfl (gh_pk [0] [] hB rfl rfl rfl rfl) rfl rfl
        · exact Run.skip (Run.ops hm (Ops.p rfl (Ops.p rfl (Ops.p rfl (Ops.nil (⟨m_268, Nat.lt_succ_self m_268, _, _, (gh_pk [0, 1, 5] [] hB rfl rfl rfl rfl), _, _, h, rfl, rfl⟩))))))
      · refine Run.exit ?_
        obtain rfl := someO h
        have h := hk_268
        replace h := inrO h
        exact ⟨_, _, (gh_pk [1] [] hB rfl rfl rfl rfl), x_245, h, rfl, rfl⟩
    · refine Run.seq (Run.ops hm (Ops.p rfl (Ops.p rfl (Ops.nil (Run.ret ?_)))))
      obtain rfl := someO h
      exact Ends.mkG (.inl rfl) rfl (gh_pk [0] [] hB rfl rfl rfl rfl) rfl rfl
def laws_szLog (N : Nat) (x_1 : Log) (x_2 : Int) : Option (Int) :=
 (laws_szEntryS N x_1.Entries x_2).bind fun y_109 =>
 (if (decide (y_109 < (0 : Int))) = true then
 some (-1 : Int)
 else
 some y_109)
theorem sem_laws_szLog (N : Nat) (x_1 : Log) (x_2 : Int) (r : Int) (h : laws_szLog N x_1 x_2 = some r) : Says Try.prog 76 [.agg [VI x_1.Start, VI x_1.StartTerm, RO 211 (x_1.Entries.map encEntry)], VI x_2] 0 [] (VI r) [] := by
  unfold laws_szLog at h
  refine Says.of_run s76 Try.call76 rfl fun B hB => ?_
  have hm : B.m ≤ 1000 := by omega
  refine Run.seq (Run.ops hm (Ops.st (s := 1000) (.bx rfl rfl) rfl rfl (Ops.p rfl (Ops.nil (Run.seq (Run.ops hm (Ops.p rfl (Ops.p rfl (Ops.p rfl ?_)))))))))
  obtain ⟨y_109, hy_109, h⟩ := bindO h
  refine Ops.st (s := 5144) (Ev.call [] [] 0 (sem_laws_szEntryS N x_1.Entries x_2 _ hy_109) rfl rfl (.cons (.c _) (.cons (.c _) .nil)) rfl (.inl rfl) rfl rfl) rfl rfl (Ops.p rfl (Ops.nil (Run.seq (Run.seq (Run.ops hm (Ops.p rfl (Ops.p rfl (Ops.nil (Run.condO rfl h (fun g_111 h => ?_) (fun g_111 h => ?_))))))))))
  · refine Run.seq (Run.ops hm (Ops.p rfl (Ops.nil (Run.ret ?_))))
    obtain rfl := someO h
    exact Ends.mkG (.inl rfl) rfl (gh_pk [0] [] hB rfl rfl rfl rfl) rfl rfl
  · refine Run.skip (Run.seq (Run.ops hm (Ops.p rfl (Ops.p rfl (Ops.nil (Run.ret ?_))))))
    obtain rfl := someO h
    exact Ends.mkG (.inl rfl) rfl (gh_pk [0] [] hB rfl rfl rfl rfl) rfl rfl
def laws_szPeerS (N : Nat) (x_1 : (List Peer)) (x_2 : Int) : Option (Int) :=
 (if (decide ((w64 (x_2 - (x_1.length : Int))) < (0 : Int))) = true then
 some (-1 : Int)
 else
 some (w64 (x_2 - (x_1.length : Int))))
theorem sem_laws_szPeerS (N : Nat) (x_1 : (List Peer)) (x_2 : Int) (r : Int) (h : laws_szPeerS N x_1 x_2 = some r) : Says Try.prog 77 [RO 188 (x_1.map encPeer), VI x_2] 0 [] (VI r) [] := by
  unfold laws_szPeerS at h
  refine Says.of_run s77 Try.call77 rfl fun B hB => ?_
  have hm : B.m ≤ 1000 := by omega
  refine Run.seq (Run.ops hm (Ops.p rfl (Ops.nil (Run.seq (Run.ops hm (Ops.p rfl (Ops.p rfl (Ops.st (s := 5128) (Ev.lnF rfl) rfl rfl (Ops.p rfl (Ops.p rfl (Ops.nil (Run.seq (Run.seq (Run.ops hm (Ops.p rfl (Ops.p rfl (Ops.nil (Run.condO rfl h (fun g_103 h => ?_) (fun g_103 h => ?_)))))))))))))))))))
  · refine Run.seq (Run.ops hm (Ops.p rfl (Ops.nil (Run.ret ?_))))
    obtain rfl := someO h
    exact Ends.mkG (.inl rfl) rfl (gh_pk [0] [] hB rfl rfl rfl rfl) rfl rfl
  · refine Run.skip (Run.seq (Run.ops hm (Ops.p rfl (Ops.p rfl (Ops.nil (Run.ret ?_))))))
    obtain rfl := someO h
    exact Ends.mkG (.inl rfl) rfl (gh_pk [0] [] hB rfl rfl rfl rfl) rfl rfl
def laws_szNode (N : Nat) (x_1 : Node) (x_2 : Int) : Option (Int) :=
 (laws_szIntS N x_1.Conf x_2).bind fun y_127 =>
 (if (decide (y_127 < (0 : Int))) = true then
 some (-1 : Int)
 else
 (laws_szLog N x_1.Log y_127).bind fun y_133 =>
 (if (decide (y_133 < (0 : Int))) = true then
 some (-1 : Int)
 else
 (laws_szIntS N x_1.Votes y_133).bind fun y_139 =>
 (if (decide (y_139 < (0 : Int))) = true then
 some (-1 : Int)
 else
 (laws_szPeerS N x_1.Peers y_139).bind fun y_145 =>
 (if (decide (y_145 < (0 : Int))) = true then
 some (-1 : Int)
 else
 some y_145))))
theorem sem_laws_szNode (N : Nat) (x_1 : Node) (x_2 : Int) (r : Int) (h : laws_szNode N x_1 x_2 = some r) : Says Try.prog 27 [.agg [VI x_1.Id, VI x_1.Term, VI x_1.Vote, VI x_1.Role, VI x_1.Lead, RO 3 (x_1.Conf.map encI), VI x_1.Log.Start, VI x_1.Log.StartTerm, RO 211 (x_1.Log.Entries.map encEntry), VI x_1.Commit, VI x_1.Clock, VI x_1.Limit, RO 3 (x_1.Votes.map encI), RO 188 (x_1.Peers.map encPeer)], VI x_2] 0 [] (VI r) [] := by
  unfold laws_szNode at h
  refine Says.of_run s27 Try.call27 rfl fun B hB => ?_
  have hm : B.m ≤ 1000 := by omega
  refine Run.seq (Run.ops hm (Ops.st (s := 1000) (.bx rfl rfl) rfl rfl (Ops.p rfl (Ops.nil (Run.seq (Run.ops hm (Ops.p rfl (Ops.p rfl (Ops.p rfl ?_)))))))))
  obtain ⟨y_127, hy_127, h⟩ := bindO h
  refine Ops.st (s := 5144) (Ev.call [] [] 0 (sem_laws_szIntS N x_1.Conf x_2 _ hy_127) rfl rfl (.cons (.c _) (.cons (.c _) .nil)) rfl (.inl rfl) rfl rfl) rfl rfl (Ops.p rfl (Ops.nil (Run.seq (Run.seq (Run.ops hm (Ops.p rfl (Ops.p rfl (Ops.nil (Run.condO rfl h (fun g_129 h => ?_) (fun g_129 h => ?_))))))))))
  · refine Run.seq (Run.ops hm (Ops.p rfl (Ops.nil (Run.ret ?_))))
    obtain rfl := someO h
    exact Ends.mkG (.inl rfl) rfl (gh_pk [0] [] hB rfl rfl rfl rfl) rfl rfl
  · refine Run.skip (Run.seq (Run.ops hm (Ops.p rfl (Ops.p rfl (Ops.p rfl ?_)))))
    obtain ⟨y_133, hy_133, h⟩ := bindO h
    refine Ops.st (s := 17432) (Ev.call [] [] 0 (sem_laws_szLog N x_1.Log y_127 _ hy_133) rfl rfl (.cons (.agg (.cons (.c _) (.cons (.c _) (.cons (.c _) .nil)))) (.cons (.c _) .nil)) rfl (.inl rfl) rfl rfl) rfl rfl (Ops.p rfl (Ops.nil (Run.seq (Run.seq (Run.ops hm (Ops.p rfl (Ops.p rfl (Ops.nil (Run.condO rfl h (fun g_135 h => ?_) (fun g_135 h => ?_))))))))))
    · refine Run.seq (Run.ops hm (Ops.p rfl (Ops.nil (Run.ret ?_))))
      obtain rfl := someO h
      exact Ends.mkG (.inl rfl) rfl (gh_pk [0] [] hB rfl rfl rfl rfl) rfl rfl
    · refine Run.skip (Run.seq (Run.ops hm (Ops.p rfl (Ops.p rfl (Ops.p rfl ?_)))))
      obtain ⟨y_139, hy_139, h⟩ := bindO h
      refine Ops.st (s := 29720) (Ev.call [] [] 0 (sem_laws_szIntS N x_1.Votes y_133 _ hy_139) rfl rfl (.cons (.c _) (.cons (.c _) .nil)) rfl (.inl rfl) rfl rfl) rfl rfl (Ops.p rfl (Ops.nil (Run.seq (Run.seq (Run.ops hm (Ops.p rfl (Ops.p rfl (Ops.nil (Run.condO rfl h (fun g_141 h => ?_) (fun g_141 h => ?_))))))))))
      · refine Run.seq (Run.ops hm (Ops.p rfl (Ops.nil (Run.ret ?_))))
        obtain rfl := someO h
        exact Ends.mkG (.inl rfl) rfl (gh_pk [0] [] hB rfl rfl rfl rfl) rfl rfl
      · refine Run.skip (Run.seq (Run.ops hm (Ops.p rfl (Ops.p rfl (Ops.p rfl ?_)))))
        obtain ⟨y_145, hy_145, h⟩ := bindO h
        refine Ops.st (s := 42008) (Ev.call [] [] 0 (sem_laws_szPeerS N x_1.Peers y_139 _ hy_145) rfl rfl (.cons (.c _) (.cons (.c _) .nil)) rfl (.inl rfl) rfl rfl) rfl rfl (Ops.p rfl (Ops.nil (Run.seq (Run.seq (Run.ops hm (Ops.p rfl (Ops.p rfl (Ops.nil (Run.condO rfl h (fun g_147 h => ?_) (fun g_147 h => ?_))))))))))
        · refine Run.seq (Run.ops hm (Ops.p rfl (Ops.nil (Run.ret ?_))))
          obtain rfl := someO h
          exact Ends.mkG (.inl rfl) rfl (gh_pk [0] [] hB rfl rfl rfl rfl) rfl rfl
        · refine Run.skip (Run.seq (Run.ops hm (Ops.p rfl (Ops.p rfl (Ops.nil (Run.ret ?_))))))
          obtain rfl := someO h
          exact Ends.mkG (.inl rfl) rfl (gh_pk [0] [] hB rfl rfl rfl rfl) rfl rfl
def laws_toIntS_l1 (N : Nat) (x_1 : (List Int)) : Nat → Int → (List Int) → Option ((List Int))
 | 0, _, _ => none
 | m + 1, x_186, x_187 =>
 (if (decide (x_186 < (x_1.length : Int))) = true then
 (at? x_1 x_186).bind fun x_208 =>
 (at? x_187 x_186).bind fun x_209 =>
 laws_toIntS_l1 N x_1 m (w64 (x_186 + (1 : Int))) (x_187.set x_186.toNat x_208)
 else
 some x_187)
def laws_toIntS_l1_r (N : Nat) (x_1 : (List Int)) : (List Int) → Int → (List Int) → Option ((List Int))
 | [], x_186, x_187 =>
 some x_187
 | hd :: tl, x_186, x_187 =>
 (some hd).bind fun x_208 =>
 (at? x_187 x_186).bind fun x_209 =>
 laws_toIntS_l1_r N x_1 tl (w64 (x_186 + (1 : Int))) (x_187.set x_186.toNat x_208)
theorem laws_toIntS_l1_rng (N : Nat) (x_1 : (List Int)) (hx : x_1.length ≤ 1099511627776) : ∀ (d k m : Nat) (x_187 : (List Int)), x_1.length = k + d → d < m → laws_toIntS_l1 N x_1 m (k : Int) x_187 = laws_toIntS_l1_r N x_1 (x_1.drop k) (k : Int) x_187 := by
  intro d
  induction d with
  | zero =>
    intro k m x_187 hd hm
    obtain ⟨m, rfl⟩ : ∃ q, m = q + 1 := ⟨m - 1, by omega⟩
    rw [laws_toIntS_l1, if_neg (by simp; omega), List.drop_eq_nil_of_le (by omega), laws_toIntS_l1_r]
  | succ d ih =>
    intro k m x_187 hd hm
    obtain ⟨m, rfl⟩ : ∃ q, m = q + 1 := ⟨m - 1, by omega⟩
    have hk : k < x_1.length := by omega
    rw [laws_toIntS_l1, if_pos (by simp; omega), List.drop_eq_getElem_cons hk, laws_toIntS_l1_r]
    have h1 := at_lt hk
    have h2 := w64_succ (k := k) (by omega)
    have h3 := ih (k + 1) m
    simp only [h1, h2, h3 _ (by omega) (by omega)]
theorem laws_toIntS_l1_eq {N : Nat} (x_1 : (List Int)) (hx : x_1.length ≤ 1099511627776) (hN : x_1.length < N) (x_187 : (List Int)) : laws_toIntS_l1 N x_1 N 0 x_187 = laws_toIntS_l1_r N x_1 x_1 0 x_187 := laws_toIntS_l1_rng N x_1 hx x_1.length 0 N x_187 (by omega) hN
def laws_toIntS (N : Nat) (x_1 : (List Int)) : Option ((List Int)) :=
 (mk? (0 : Int) (x_1.length : Int)).bind fun x_158 =>
 joinP (fun (v_184 : (List Int)) =>
 some v_184) fun j_184 =>
 (laws_toIntS_l1 N x_1 N (0 : Int) x_158).bind (fun (v_198 : (List Int)) => j_184 v_198)
theorem sem_laws_toIntS (N : Nat) (x_1 : (List Int)) (r : (List Int)) (h : laws_toIntS N x_1 = some r) : Says Try.prog 89 [RO 3 (x_1.map encI)] 0 [] (.sl 0 3 0 r.length) [(0, .vec 3 (r.map encI))] := by
  unfold laws_toIntS at h
  refine Says.of_run s89 Try.call89 rfl fun B hB => ?_
  have hm : B.m ≤ 1000 := by omega
  refine Run.seq (Run.ops hm (Ops.p rfl (Ops.nil (Run.seq (Run.ops hm (Ops.p rfl (Ops.st (s := 5112) (Ev.lnF rfl) rfl rfl ?_)))))))
  obtain ⟨x_158, hx_158, h⟩ := bindO h
  refine Ops.st (s := 5128) (Ev.msW (f := encI) (zv := (0 : Int)) rfl rfl rfl bt3 rfl hx_158) rfl rfl (Ops.p rfl (Ops.nil (Run.seqO h (fun (v_184 : (List Int)) => [(3, .sl 0 3 0 v_184.length)]) (fun (v_184 : (List Int)) => [(0, .vec 3 (v_184.map encI))]) (fun h => ?_) (fun v_184 h => ?_))))
  · refine Run.seq (Run.ops hm (Ops.p rfl (Ops.nil (Run.block ?_))))
    obtain ⟨res_198, h, hk_198⟩ := bindO h
    refine Run.loop (n := N) (fun m_198 fr σ => ∃ (x_186 : Int), ∃ (x_187 : (List Int)), laws_toIntS_l1 N x_1 m_198 x_186 x_187 = some res_198 ∧ fr = [(0, RO 3 (x_1.map encI)), (3, .sl 0 3 0 x_187.length), (4, VI x_186)] ∧ σ = [(0, .vec 3 (x_187.map encI))]) (gh_pk [0, 3, 4] [5128] hB rfl rfl rfl rfl) ⟨_, _, h, rfl, rfl⟩ ?_
    rintro m_198 fr σ ⟨x_186, x_187, h, rfl, rfl⟩
    obtain _ | m_198 := m_198
    · rw [laws_toIntS_l1] at h; cases h
    rw [laws_toIntS_l1] at h
    refine Run.seq (Run.seq (Run.ops hm (Ops.p rfl (Ops.p rfl (Ops.st (s := 13320) (Ev.lnF rfl) rfl rfl (Ops.p rfl (Ops.nil (Run.condO rfl h (fun g_201 h => ?_) (fun g_201 h => ?_)))))))))
    · refine Run.skip (Run.seq (Run.block (Run.ops hm (Ops.p rfl (Ops.p rfl (Ops.p rfl (Ops.p rfl ?_)))))))
      obtain ⟨x_208, hx_208, h⟩ := bindO h
      refine Ops.st (s := 21544) (Ev.iaF rfl rfl hx_208) rfl rfl (Ops.p rfl ?_)
      obtain ⟨x_209, hx_209, h⟩ := bindO h
      exact Ops.st (s := 21576) (Ev.iaW rfl rfl rfl hx_209) rfl rfl (Ops.s0 (s := 21592) (Ev.stE (f := encI) (v' := x_208) rfl rfl (at_some hx_209).2 rfl (.cons (.c _) .nil) rfl rfl rfl rfl rfl) rfl rfl (Ops.nil (Run.ops hm (Ops.p rfl (Ops.p rfl (Ops.p rfl (Ops.nil (⟨m_198, Nat.lt_succ_self m_198, _, _, (gh_pk [0, 3, 4] [0] hB rfl rfl (by first | rfl | (simp only [List.length_set]; done) | (simp only [List.length_set]; rfl)) (by first | rfl | (simp only [List.length_set]; done) | (simp only [List.length_set]; rfl))), _, _, h, rfl, rfl⟩))))))))
    · refine Run.exit ?_
      obtain rfl := someO h
      have h := hk_198
      exact ⟨_, _, (gh_pk [3] [0] hB rfl rfl rfl rfl), x_187, h, rfl, rfl⟩
  · refine Run.seq (Run.ops hm (Ops.p rfl (Ops.p rfl (Ops.nil (Run.ret ?_)))))
    obtain rfl := someO h
    exact Ends.mkG (.inl rfl) rfl (gh_pk [0] [0] hB rfl rfl rfl rfl) rfl rfl
def laws_toEntry (N : Nat) (x_1 : Entry) : Option (Entry) :=
 some x_1
theorem sem_laws_toEntry (N : Nat) (x_1 : Entry) (r : Entry) (h : laws_toEntry N x_1 = some r) : Says Try.prog 185 [.agg [VI x_1.Term, VI x_1.Kind, VS x_1.Data]] 0 [] (.agg [VI r.Term, VI r.Kind, VS r.Data]) [] := by
  unfold laws_toEntry at h
  refine Says.of_run s185 Try.call185 rfl fun B hB => ?_
  have hm : B.m ≤ 1000 := by omega
  refine Run.seq (Run.ops hm (Ops.st (s := 1000) (.bx rfl rfl) rfl rfl (Ops.st (s := 1016) (.al rfl rfl) rfl rfl (Ops.nil (Run.seq (Run.ops hm (Ops.st (s := 5096) (.al rfl rfl) rfl rfl (Ops.nil (Run.seq (Run.ops hm (Ops.p rfl (Ops.p rfl (Ops.p rfl (Ops.s0 (s := 9240) (.sto rfl rfl rfl rfl rfl rfl) rfl rfl (Ops.nil (Run.seq (Run.ops hm (Ops.p rfl (Ops.p rfl (Ops.p rfl (Ops.s0 (s := 13336) (.sto rfl rfl rfl rfl rfl rfl) rfl rfl (Ops.nil (Run.seq (Run.ops hm (Ops.p rfl (Ops.p rfl (Ops.p rfl (Ops.s0 (s := 17432) (.sto rfl rfl rfl rfl rfl rfl) rfl rfl (Ops.nil (Run.seq (Run.ops hm (Ops.p rfl (Ops.s0 (s := 21496) (.sto rfl rfl rfl rfl rfl rfl) rfl rfl (Ops.nil (Run.ret ?_)))))))))))))))))))))))))))))))))))
  obtain rfl := someO h
  exact Ends.mkG (.inl rfl) rfl (gh_pk [0] [] hB rfl rfl rfl rfl) rfl rfl
def laws_toEntryS_l1 (N : Nat) (x_1 : (List Entry)) : Nat → Int → (List Entry) → Option ((List Entry))
 | 0, _, _ => none
 | m + 1, x_210, x_211 =>
 (if (decide (x_210 < (x_1.length : Int))) = true then
 (at? x_1 x_210).bind fun x_239 =>
 (laws_toEntry N x_239).bind fun y_240 =>
 (at? x_211 x_210).bind fun x_241 =>
 laws_toEntryS_l1 N x_1 m (w64 (x_210 + (1 : Int))) (x_211.set x_210.toNat y_240)
 else
 some x_211)
def laws_toEntryS_l1_r (N : Nat) (x_1 : (List Entry)) : (List Entry) → Int → (List Entry) → Option ((List Entry))
 | [], x_210, x_211 =>
 some x_211
 | hd :: tl, x_210, x_211 =>
 (some hd).bind fun x_239 =>
 (laws_toEntry N x_239).bind fun y_240 =>
 (at? x_211 x_210).bind fun x_241 =>
 laws_toEntryS_l1_r N x_1 tl (w64 (x_210 + (1 : Int))) (x_211.set x_210.toNat y_240)
theorem laws_toEntryS_l1_rng (N : Nat) (x_1 : (List Entry)) (hx : x_1.length ≤ 1099511627776) : ∀ (d k m : Nat) (x_211 : (List Entry)), x_1.length = k + d → d < m → laws_toEntryS_l1 N x_1 m (k : Int) x_211 = laws_toEntryS_l1_r N x_1 (x_1.drop k) (k : Int) x_211 := by
  intro d
  induction d with
  | zero =>
    intro k m x_211 hd hm
    obtain ⟨m, rfl⟩ : ∃ q, m = q + 1 := ⟨m - 1, by omega⟩
    rw [laws_toEntryS_l1, if_neg (by simp; omega), List.drop_eq_nil_of_le (by omega), laws_toEntryS_l1_r]
  | succ d ih =>
    intro k m x_211 hd hm
    obtain ⟨m, rfl⟩ : ∃ q, m = q + 1 := ⟨m - 1, by omega⟩
    have hk : k < x_1.length := by omega
    rw [laws_toEntryS_l1, if_pos (by simp; omega), List.drop_eq_getElem_cons hk, laws_toEntryS_l1_r]
    have h1 := at_lt hk
    have h2 := w64_succ (k := k) (by omega)
    have h3 := ih (k + 1) m
    simp only [h1, h2, h3 _ (by omega) (by omega)]
theorem laws_toEntryS_l1_eq {N : Nat} (x_1 : (List Entry)) (hx : x_1.length ≤ 1099511627776) (hN : x_1.length < N) (x_211 : (List Entry)) : laws_toEntryS_l1 N x_1 N 0 x_211 = laws_toEntryS_l1_r N x_1 x_1 0 x_211 := laws_toEntryS_l1_rng N x_1 hx x_1.length 0 N x_211 (by omega) hN
def laws_toEntryS (N : Nat) (x_1 : (List Entry)) : Option ((List Entry)) :=
 (mk? (Entry.mk (0 : Int) (0 : Int) (⟨#[]⟩ : ByteArray)) (x_1.length : Int)).bind fun x_174 =>
 joinP (fun (v_208 : (List Entry)) =>
 some v_208) fun j_208 =>
 (laws_toEntryS_l1 N x_1 N (0 : Int) x_174).bind (fun (v_226 : (List Entry)) => j_208 v_226)
theorem sem_laws_toEntryS (N : Nat) (x_1 : (List Entry)) (r : (List Entry)) (h : laws_toEntryS N x_1 = some r) : Says Try.prog 157 [RO 211 (x_1.map encEntry)] 0 [] (.sl 0 51 0 r.length) [(0, .vec 51 (r.map encEntry))] := by
  unfold laws_toEntryS at h
  refine Says.of_run s157 Try.call157 rfl fun B hB => ?_
  have hm : B.m ≤ 1000 := by omega
  refine Run.seq (Run.ops hm (Ops.p rfl (Ops.nil (Run.seq (Run.ops hm (Ops.p rfl (Ops.st (s := 5112) (Ev.lnF rfl) rfl rfl ?_)))))))
  obtain ⟨x_174, hx_174, h⟩ := bindO h
  refine Ops.st (s := 5128) (Ev.msW (f := encEntry) (zv := (Entry.mk (0 : Int) (0 : Int) (⟨#[]⟩ : ByteArray))) rfl rfl rfl bt51 rfl hx_174) rfl rfl (Ops.p rfl (Ops.nil (Run.seqO h (fun (v_208 : (List Entry)) => [(3, .sl 0 51 0 v_208.length)]) (fun (v_208 : (List Entry)) => [(0, .vec 51 (v_208.map encEntry))]) (fun h => ?_) (fun v_208 h => ?_))))
  · refine Run.seq (Run.ops hm (Ops.p rfl (Ops.nil (Run.block ?_))))
    obtain ⟨res_226, h, hk_226⟩ := bindO h
    refine Run.loop (n := N) (fun m_226 fr σ => ∃ (x_210 : Int), ∃ (x_211 : (List Entry)), laws_toEntryS_l1 N x_1 m_226 x_210 x_211 = some res_226 ∧ fr = [(0, RO 211 (x_1.map encEntry)), (3, .sl 0 51 0 x_211.length), (4, VI x_210)] ∧ σ = [(0, .vec 51 (x_211.map encEntry))]) (gh_pk [0, 3, 4] [5128] hB rfl rfl rfl rfl) ⟨_, _, h, rfl, rfl⟩ ?_
    rintro m_226 fr σ ⟨x_210, x_211, h, rfl, rfl⟩
    obtain _ | m_226 := m_226
    · rw [laws_toEntryS_l1] at h; cases h
    rw [laws_toEntryS_l1] at h
    refine Run.seq (Run.seq (Run.ops hm (Ops.p rfl (Ops.p rfl (Ops.st (s := 13320) (Ev.lnF rfl) rfl rfl (Ops.p rfl (Ops.nil (Run.condO rfl h (fun g_229 h => ?_) (fun g_229 h => ?_)))))))))
    · refine Run.skip (Run.seq (Run.block (Run.ops hm (Ops.p rfl (Ops.p rfl (Ops.p rfl (Ops.p rfl ?_)))))))
      obtain ⟨x_239, hx_239, h⟩ := bindO h
      refine Ops.st (s := 21544) (Ev.iaF rfl rfl hx_239) rfl rfl (Ops.p rfl ?_)
      obtain ⟨y_240, hy_240, h⟩ := bindO h
      refine Ops.st (s := 21576) (Ev.call [] [] 0 (sem_laws_toEntry N x_239 _ hy_240) rfl rfl (.cons (.agg (.cons (.c _) (.cons (.c _) (.cons (.c _) .nil)))) .nil) rfl (.inl rfl) rfl rfl) rfl rfl ?_
      obtain ⟨x_241, hx_241, h⟩ := bindO h
      exact Ops.st (s := 21592) (Ev.iaW rfl rfl rfl hx_241) rfl rfl (Ops.s0 (s := 21608) (Ev.stE (f := encEntry) (v' := y_240) rfl rfl (at_some hx_241).2 rfl (.cons (.c _) (.cons (.c _) (.cons (.c _) .nil))) rfl rfl rfl rfl rfl) rfl rfl (Ops.nil (Run.ops hm (Ops.p rfl (Ops.p rfl (Ops.p rfl (Ops.nil (⟨m_226, Nat.lt_succ_self m_226, _, _, (gh_pk [0, 3, 4] [0] hB rfl rfl (by first | rfl | (simp only [List.length_set]; done) | (simp only [List.length_set]; rfl)) (by first | rfl | (simp only [List.length_set]; done) | (simp only [List.length_set]; rfl))), _, _, h, rfl, rfl⟩))))))))
    · refine Run.exit ?_
      obtain rfl := someO h
      have h := hk_226
      exact ⟨_, _, (gh_pk [3] [0] hB rfl rfl rfl rfl), x_211, h, rfl, rfl⟩
  · refine Run.seq (Run.ops hm (Ops.p rfl (Ops.p rfl (Ops.nil (Run.ret ?_)))))
    obtain rfl := someO h
    exact Ends.mkG (.inl rfl) rfl (gh_pk [0] [0] hB rfl rfl rfl rfl) rfl rfl
def laws_toLog (N : Nat) (x_1 : Log) : Option (Log) :=
 (laws_toEntryS N x_1.Entries).bind fun y_107 =>
 some (Log.mk x_1.Start x_1.StartTerm y_107)
theorem sem_laws_toLog (N : Nat) (x_1 : Log) (r : Log) (h : laws_toLog N x_1 = some r) : Says Try.prog 90 [.agg [VI x_1.Start, VI x_1.StartTerm, RO 211 (x_1.Entries.map encEntry)]] 0 [] (.agg [VI r.Start, VI r.StartTerm, .sl 0 51 0 r.Entries.length]) [(0, .vec 51 (r.Entries.map encEntry))] := by
  unfold laws_toLog at h
  refine Says.of_run s90 Try.call90 rfl fun B hB => ?_
  have hm : B.m ≤ 1000 := by omega
  refine Run.seq (Run.ops hm (Ops.st (s := 1000) (.bx rfl rfl) rfl rfl (Ops.st (s := 1016) (.al rfl rfl) rfl rfl (Ops.nil (Run.seq (Run.ops hm (Ops.st (s := 5096) (.al rfl rfl) rfl rfl (Ops.nil (Run.seq (Run.ops hm (Ops.p rfl (Ops.p rfl (Ops.p rfl (Ops.s0 (s := 9240) (.sto rfl rfl rfl rfl rfl rfl) rfl rfl (Ops.nil (Run.seq (Run.ops hm (Ops.p rfl (Ops.p rfl (Ops.p rfl (Ops.s0 (s := 13336) (.sto rfl rfl rfl rfl rfl rfl) rfl rfl (Ops.nil (Run.seq (Run.ops hm (Ops.p rfl (Ops.p rfl ?_))))))))))))))))))))))))))
  obtain ⟨y_107, hy_107, h⟩ := bindO h
  refine Ops.st (s := 17416) (Ev.call [] [] 1 (sem_laws_toEntryS N x_1.Entries _ hy_107) rfl rfl (.cons (.c _) .nil) rfl (.inl rfl) rfl rfl) rfl rfl (Ops.p rfl (Ops.s0 (s := 17448) (.sto rfl rfl rfl rfl rfl rfl) rfl rfl (Ops.nil (Run.seq (Run.ops hm (Ops.p rfl (Ops.s0 (s := 21496) (.sto rfl rfl rfl rfl rfl rfl) rfl rfl (Ops.nil (Run.ret ?_)))))))))
  obtain rfl := someO h
  exact Ends.mkG (.inl rfl) rfl (gh_pk [0] [17416] hB rfl rfl rfl rfl) rfl rfl
def laws_toPeer (N : Nat) (x_1 : Peer) : Option (Peer) :=
 some x_1
theorem sem_laws_toPeer (N : Nat) (x_1 : Peer) (r : Peer) (h : laws_toPeer N x_1 = some r) : Says Try.prog 158 [.agg [VI x_1.Id, VI x_1.Next, VI x_1.Match, VI x_1.Sent]] 0 [] (.agg [VI r.Id, VI r.Next, VI r.Match, VI r.Sent]) [] := by
  unfold laws_toPeer at h
  refine Says.of_run s158 Try.call158 rfl fun B hB => ?_
  have hm : B.m ≤ 1000 := by omega
  refine Run.seq (Run.ops hm (Ops.st (s := 1000) (.bx rfl rfl) rfl rfl (Ops.st (s := 1016) (.al rfl rfl) rfl rfl (Ops.nil (Run.seq (Run.ops hm (Ops.st (s := 5096) (.al rfl rfl) rfl rfl (Ops.nil (Run.seq (Run.ops hm (Ops.p rfl (Ops.p rfl (Ops.p rfl (Ops.s0 (s := 9240) (.sto rfl rfl rfl rfl rfl rfl) rfl rfl (Ops.nil (Run.seq (Run.ops hm (Ops.p rfl (Ops.p rfl (Ops.p rfl (Ops.s0 (s := 13336) (.sto rfl rfl rfl rfl rfl rfl) rfl rfl (Ops.nil (Run.seq (Run.ops hm (Ops.p rfl (Ops.p rfl (Ops.p rfl (Ops.s0 (s := 17432) (.sto rfl rfl rfl rfl rfl rfl) rfl rfl (Ops.nil (Run.seq (Run.ops hm (Ops.p rfl (Ops.p rfl (Ops.p rfl (Ops.s0 (s := 21528) (.sto rfl rfl rfl rfl rfl rfl) rfl rfl (Ops.nil (Run.seq (Run.ops hm (Ops.p rfl (Ops.s0 (s := 25592) (.sto rfl rfl rfl rfl rfl rfl) rfl rfl (Ops.nil (Run.ret ?_))))))))))))))))))))))))))))))))))))))))))
  obtain rfl := someO h
  exact Ends.mkG (.inl rfl) rfl (gh_pk [0] [] hB rfl rfl rfl rfl) rfl rfl
def laws_toPeerS_l1 (N : Nat) (x_1 : (List Peer)) : Nat → Int → (List Peer) → Option ((List Peer))
 | 0, _, _ => none
 | m + 1, x_210, x_211 =>
 (if (decide (x_210 < (x_1.length : Int))) = true then
 (at? x_1 x_210).bind fun x_239 =>
 (laws_toPeer N x_239).bind fun y_240 =>
 (at? x_211 x_210).bind fun x_241 =>
 laws_toPeerS_l1 N x_1 m (w64 (x_210 + (1 : Int))) (x_211.set x_210.toNat y_240)
 else
 some x_211)
def laws_toPeerS_l1_r (N : Nat) (x_1 : (List Peer)) : (List Peer) → Int → (List Peer) → Option ((List Peer))
 | [], x_210, x_211 =>
 some x_211
 | hd :: tl, x_210, x_211 =>
 (some hd).bind fun x_239 =>
 (laws_toPeer N x_239).bind fun y_240 =>
 (at? x_211 x_210).bind fun x_241 =>
 laws_toPeerS_l1_r N x_1 tl (w64 (x_210 + (1 : Int))) (x_211.set x_210.toNat y_240)
theorem laws_toPeerS_l1_rng (N : Nat) (x_1 : (List Peer)) (hx : x_1.length ≤ 1099511627776) : ∀ (d k m : Nat) (x_211 : (List Peer)), x_1.length = k + d → d < m → laws_toPeerS_l1 N x_1 m (k : Int) x_211 = laws_toPeerS_l1_r N x_1 (x_1.drop k) (k : Int) x_211 := by
  intro d
  induction d with
  | zero =>
    intro k m x_211 hd hm
    obtain ⟨m, rfl⟩ : ∃ q, m = q + 1 := ⟨m - 1, by omega⟩
    rw [laws_toPeerS_l1, if_neg (by simp; omega), List.drop_eq_nil_of_le (by omega), laws_toPeerS_l1_r]
  | succ d ih =>
    intro k m x_211 hd hm
    obtain ⟨m, rfl⟩ : ∃ q, m = q + 1 := ⟨m - 1, by omega⟩
    have hk : k < x_1.length := by omega
    rw [laws_toPeerS_l1, if_pos (by simp; omega), List.drop_eq_getElem_cons hk, laws_toPeerS_l1_r]
    have h1 := at_lt hk
    have h2 := w64_succ (k := k) (by omega)
    have h3 := ih (k + 1) m
    simp only [h1, h2, h3 _ (by omega) (by omega)]
theorem laws_toPeerS_l1_eq {N : Nat} (x_1 : (List Peer)) (hx : x_1.length ≤ 1099511627776) (hN : x_1.length < N) (x_211 : (List Peer)) : laws_toPeerS_l1 N x_1 N 0 x_211 = laws_toPeerS_l1_r N x_1 x_1 0 x_211 := laws_toPeerS_l1_rng N x_1 hx x_1.length 0 N x_211 (by omega) hN
def laws_toPeerS (N : Nat) (x_1 : (List Peer)) : Option ((List Peer)) :=
 (mk? (Peer.mk (0 : Int) (0 : Int) (0 : Int) (0 : Int)) (x_1.length : Int)).bind fun x_174 =>
 joinP (fun (v_208 : (List Peer)) =>
 some v_208) fun j_208 =>
 (laws_toPeerS_l1 N x_1 N (0 : Int) x_174).bind (fun (v_226 : (List Peer)) => j_208 v_226)
theorem sem_laws_toPeerS (N : Nat) (x_1 : (List Peer)) (r : (List Peer)) (h : laws_toPeerS N x_1 = some r) : Says Try.prog 91 [RO 188 (x_1.map encPeer)] 0 [] (.sl 0 135 0 r.length) [(0, .vec 135 (r.map encPeer))] := by
  unfold laws_toPeerS at h
  refine Says.of_run s91 Try.call91 rfl fun B hB => ?_
  have hm : B.m ≤ 1000 := by omega
  refine Run.seq (Run.ops hm (Ops.p rfl (Ops.nil (Run.seq (Run.ops hm (Ops.p rfl (Ops.st (s := 5112) (Ev.lnF rfl) rfl rfl ?_)))))))
  obtain ⟨x_174, hx_174, h⟩ := bindO h
  refine Ops.st (s := 5128) (Ev.msW (f := encPeer) (zv := (Peer.mk (0 : Int) (0 : Int) (0 : Int) (0 : Int))) rfl rfl rfl bt135 rfl hx_174) rfl rfl (Ops.p rfl (Ops.nil (Run.seqO h (fun (v_208 : (List Peer)) => [(3, .sl 0 135 0 v_208.length)]) (fun (v_208 : (List Peer)) => [(0, .vec 135 (v_208.map encPeer))]) (fun h => ?_) (fun v_208 h => ?_))))
  · refine Run.seq (Run.ops hm (Ops.p rfl (Ops.nil (Run.block ?_))))
    obtain ⟨res_226, h, hk_226⟩ := bindO h
    refine Run.loop (n := N) (fun m_226 fr σ => ∃ (x_210 : Int), ∃ (x_211 : (List Peer)), laws_toPeerS_l1 N x_1 m_226 x_210 x_211 = some res_226 ∧ fr = [(0, RO 188 (x_1.map encPeer)), (3, .sl 0 135 0 x_211.length), (4, VI x_210)] ∧ σ = [(0, .vec 135 (x_211.map encPeer))]) (gh_pk [0, 3, 4] [5128] hB rfl rfl rfl rfl) ⟨_, _, h, rfl, rfl⟩ ?_
    rintro m_226 fr σ ⟨x_210, x_211, h, rfl, rfl⟩
    obtain _ | m_226 := m_226
    · rw [laws_toPeerS_l1] at h; cases h
    rw [laws_toPeerS_l1] at h
    refine Run.seq (Run.seq (Run.ops hm (Ops.p rfl (Ops.p rfl (Ops.st (s := 13320) (Ev.lnF rfl) rfl rfl (Ops.p rfl (Ops.nil (Run.condO rfl h (fun g_229 h => ?_) (fun g_229 h => ?_)))))))))
    · refine Run.skip (Run.seq (Run.block (Run.ops hm (Ops.p rfl (Ops.p rfl (Ops.p rfl (Ops.p rfl ?_)))))))
      obtain ⟨x_239, hx_239, h⟩ := bindO h
      refine Ops.st (s := 21544) (Ev.iaF rfl rfl hx_239) rfl rfl (Ops.p rfl ?_)
      obtain ⟨y_240, hy_240, h⟩ := bindO h
      refine Ops.st (s := 21576) (Ev.call [] [] 0 (sem_laws_toPeer N x_239 _ hy_240) rfl rfl (.cons (.agg (.cons (.c _) (.cons (.c _) (.cons (.c _) (.cons (.c _) .nil))))) .nil) rfl (.inl rfl) rfl rfl) rfl rfl ?_
      obtain ⟨x_241, hx_241, h⟩ := bindO h
      exact Ops.st (s := 21592) (Ev.iaW rfl rfl rfl hx_241) rfl rfl (Ops.s0 (s := 21608) (Ev.stE (f := encPeer) (v' := y_240) rfl rfl (at_some hx_241).2 rfl (.cons (.c _) (.cons (.c _) (.cons (.c _) (.cons (.c _) .nil)))) rfl rfl rfl rfl rfl) rfl rfl (Ops.nil (Run.ops hm (Ops.p rfl (Ops.p rfl (Ops.p rfl (Ops.nil (⟨m_226, Nat.lt_succ_self m_226, _, _, (gh_pk [0, 3, 4] [0] hB rfl rfl (by first | rfl | (simp only [List.length_set]; done) | (simp only [List.length_set]; rfl)) (by first | rfl | (simp only [List.length_set]; done) | (simp only [List.length_set]; rfl))), _, _, h, rfl, rfl⟩))))))))
    · refine Run.exit ?_
      obtain rfl := someO h
      have h := hk_226
      exact ⟨_, _, (gh_pk [3] [0] hB rfl rfl rfl rfl), x_211, h, rfl, rfl⟩
  · refine Run.seq (Run.ops hm (Ops.p rfl (Ops.p rfl (Ops.nil (Run.ret ?_)))))
    obtain rfl := someO h
    exact Ends.mkG (.inl rfl) rfl (gh_pk [0] [0] hB rfl rfl rfl rfl) rfl rfl
def laws_toNode (N : Nat) (x_1 : Node) : Option (Node) :=
 (laws_toIntS N x_1.Conf).bind fun y_119 =>
 (laws_toLog N x_1.Log).bind fun y_123 =>
 (laws_toIntS N x_1.Votes).bind fun y_127 =>
 (laws_toPeerS N x_1.Peers).bind fun y_131 =>
 some (Node.mk x_1.Id x_1.Term x_1.Vote x_1.Role x_1.Lead y_119 y_123 x_1.Commit x_1.Clock x_1.Limit y_127 y_131)
theorem sem_laws_toNode (N : Nat) (x_1 : Node) (r : Node) (h : laws_toNode N x_1 = some r) : Says Try.prog 29 [.agg [VI x_1.Id, VI x_1.Term, VI x_1.Vote, VI x_1.Role, VI x_1.Lead, RO 3 (x_1.Conf.map encI), VI x_1.Log.Start, VI x_1.Log.StartTerm, RO 211 (x_1.Log.Entries.map encEntry), VI x_1.Commit, VI x_1.Clock, VI x_1.Limit, RO 3 (x_1.Votes.map encI), RO 188 (x_1.Peers.map encPeer)]] 0 [] (.agg [VI r.Id, VI r.Term, VI r.Vote, VI r.Role, VI r.Lead, .sl 0 3 0 r.Conf.length, VI r.Log.Start, VI r.Log.StartTerm, .sl 1 51 0 r.Log.Entries.length, VI r.Commit, VI r.Clock, VI r.Limit, .sl 2 3 0 r.Votes.length, .sl 3 135 0 r.Peers.length]) [(0, .vec 3 (r.Conf.map encI)), (1, .vec 51 (r.Log.Entries.map encEntry)), (2, .vec 3 (r.Votes.map encI)), (3, .vec 135 (r.Peers.map encPeer))] := by
  unfold laws_toNode at h
  refine Says.of_run s29 Try.call29 rfl fun B hB => ?_
  have hm : B.m ≤ 1000 := by omega
  refine Run.seq (Run.ops hm (Ops.st (s := 1000) (.bx rfl rfl) rfl rfl (Ops.st (s := 1016) (.al rfl rfl) rfl rfl (Ops.nil (Run.seq (Run.ops hm (Ops.st (s := 5096) (.al rfl rfl) rfl rfl (Ops.nil (Run.seq (Run.ops hm (Ops.p rfl (Ops.p rfl (Ops.p rfl (Ops.s0 (s := 9240) (.sto rfl rfl rfl rfl rfl rfl) rfl rfl (Ops.nil (Run.seq (Run.ops hm (Ops.p rfl (Ops.p rfl (Ops.p rfl (Ops.s0 (s := 13336) (.sto rfl rfl rfl rfl rfl rfl) rfl rfl (Ops.nil (Run.seq (Run.ops hm (Ops.p rfl (Ops.p rfl (Ops.p rfl (Ops.s0 (s := 17432) (.sto rfl rfl rfl rfl rfl rfl) rfl rfl (Ops.nil (Run.seq (Run.ops hm (Ops.p rfl (Ops.p rfl (Ops.p rfl (Ops.s0 (s := 21528) (.sto rfl rfl rfl rfl rfl rfl) rfl rfl (Ops.nil (Run.seq (Run.ops hm (Ops.p rfl (Ops.p rfl (Ops.p rfl (Ops.s0 (s := 25624) (.sto rfl rfl rfl rfl rfl rfl) rfl rfl (Ops.nil (Run.seq (Run.ops hm (Ops.p rfl (Ops.p rfl ?_)))))))))))))))))))))))))))))))))))))))))))))))
  obtain ⟨y_119, hy_119, h⟩ := bindO h
  refine Ops.st (s := 29704) (Ev.call [] [] 1 (sem_laws_toIntS N x_1.Conf _ hy_119) rfl rfl (.cons (.c _) .nil) rfl (.inl rfl) rfl rfl) rfl rfl (Ops.p rfl (Ops.s0 (s := 29736) (.sto rfl rfl rfl rfl rfl rfl) rfl rfl (Ops.nil (Run.seq (Run.ops hm (Ops.p rfl (Ops.p rfl ?_)))))))
  obtain ⟨y_123, hy_123, h⟩ := bindO h
  refine Ops.st (s := 33800) (Ev.call [] [] 1 (sem_laws_toLog N x_1.Log _ hy_123) rfl rfl (.cons (.agg (.cons (.c _) (.cons (.c _) (.cons (.c _) .nil)))) .nil) rfl (.inl rfl) rfl rfl) rfl rfl (Ops.p rfl (Ops.s0 (s := 33832) (.sto rfl rfl rfl rfl rfl rfl) rfl rfl (Ops.nil (Run.seq (Run.ops hm (Ops.p rfl (Ops.p rfl (Ops.p rfl (Ops.s0 (s := 37912) (.sto rfl rfl rfl rfl rfl rfl) rfl rfl (Ops.nil (Run.seq (Run.ops hm (Ops.p rfl (Ops.p rfl (Ops.p rfl (Ops.s0 (s := 42008) (.sto rfl rfl rfl rfl rfl rfl) rfl rfl (Ops.nil (Run.seq (Run.ops hm (Ops.p rfl (Ops.p rfl (Ops.p rfl (Ops.s0 (s := 46104) (.sto rfl rfl rfl rfl rfl rfl) rfl rfl (Ops.nil (Run.seq (Run.ops hm (Ops.p rfl (Ops.p rfl ?_))))))))))))))))))))))))))))
  obtain ⟨y_127, hy_127, h⟩ := bindO h
  refine Ops.st (s := 50184) (Ev.call [] [] 1 (sem_laws_toIntS N x_1.Votes _ hy_127) rfl rfl (.cons (.c _) .nil) rfl (.inl rfl) rfl rfl) rfl rfl (Ops.p rfl (Ops.s0 (s := 50216) (.sto rfl rfl rfl rfl rfl rfl) rfl rfl (Ops.nil (Run.seq (Run.ops hm (Ops.p rfl (Ops.p rfl ?_)))))))
  obtain ⟨y_131, hy_131, h⟩ := bindO h
  refine Ops.st (s := 54280) (Ev.call [] [] 1 (sem_laws_toPeerS N x_1.Peers _ hy_131) rfl rfl (.cons (.c _) .nil) rfl (.inl rfl) rfl rfl) rfl rfl (Ops.p rfl (Ops.s0 (s := 54312) (.sto rfl rfl rfl rfl rfl rfl) rfl rfl (Ops.nil (Run.seq (Run.ops hm (Ops.p rfl (Ops.s0 (s := 58360) (.sto rfl rfl rfl rfl rfl rfl) rfl rfl (Ops.nil (Run.ret ?_)))))))))
  obtain rfl := someO h
  exact Ends.mkG (.inl rfl) rfl (gh_pk [0] [29704, 33800, 50184, 54280] hB rfl rfl rfl rfl) rfl rfl
def spec_l01In (N : Nat) (x_1 : Int) (x_2 : Int) (x_3 : Int) : Option (Bool) :=
 (if (decide (x_1 ≥ x_2)) = true then
 some (decide (x_1 ≤ x_3))
 else
 some false)
theorem sem_spec_l01In (N : Nat) (x_1 : Int) (x_2 : Int) (x_3 : Int) (r : Bool) (h : spec_l01In N x_1 x_2 x_3 = some r) : Says Try.prog 61 [VI x_1, VI x_2, VI x_3] 0 [] (VB r) [] := by
  unfold spec_l01In at h
  refine Says.of_run s61 Try.call61 rfl fun B hB => ?_
  have hm : B.m ≤ 1000 := by omega
  refine Run.seq (Run.ops hm (Ops.p rfl (Ops.nil (Run.seq (Run.ops hm (Ops.p rfl (Ops.p rfl (Ops.p rfl (Ops.p rfl (Ops.askO (x := .t 10) rfl h (fun g_103 h => ?_) (fun g_103 h => ?_)))))))))))
  · refine Ops.gp rfl g_103 rfl (Ops.gp rfl g_103 rfl (Ops.gp rfl g_103 rfl (Ops.st (s := 5208) (.pkT rfl g_103 rfl) rfl rfl (Ops.p rfl (Ops.nil (Run.ret ?_))))))
    obtain rfl := someO h
    exact Ends.mkG (.inl rfl) rfl (gh_pk [0] [] hB rfl rfl rfl rfl) rfl rfl
  · refine Ops.gn rfl g_103 (Ops.gn rfl g_103 (Ops.gn rfl g_103 (Ops.st (s := 5208) (.pkF rfl g_103 rfl) rfl rfl (Ops.p rfl (Ops.nil (Run.ret ?_))))))
    obtain rfl := someO h
    exact Ends.mkG (.inl rfl) rfl (gh_pk [0] [] hB rfl rfl rfl rfl) rfl rfl
def spec_l07Rise_l1 (N : Nat) (x_1 : (List Int)) (x_2 : Int) (x_3 : Int) : Nat → Int → Option ((Bool) ⊕ (Unit))
 | 0, _ => none
 | m + 1, x_300 =>
 (if (decide (x_300 < (x_1.length : Int))) = true then
 joinP (fun (v_348 : Unit) =>
 spec_l07Rise_l1 N x_1 x_2 x_3 m (w64 (x_300 + (1 : Int)))) fun j_348 =>
 (at? x_1 x_300).bind fun x_355 =>
 (spec_l01In N x_355 x_2 x_3).bind fun y_356 =>
 (if (!y_356) = true then
 some (Sum.inl false)
 else
 (if (decide (x_300 > (0 : Int))) = true then
 (at? x_1 (w64 (x_300 - (1 : Int)))).bind fun x_359 =>
 (at? x_1 x_300).bind fun x_360 =>
 (if (decide (x_359 ≥ x_360)) = true then
 some (Sum.inl false)
 else
 j_348 ())
 else
 j_348 ()))
 else
 some (Sum.inr ()))
def spec_l07Rise_l1_r (N : Nat) (x_1 : (List Int)) (x_2 : Int) (x_3 : Int) : (List Int) → Int → Option ((Bool) ⊕ (Unit))
 | [], x_300 =>
 some (Sum.inr ())
 | hd :: tl, x_300 =>
 joinP (fun (v_348 : Unit) =>
 spec_l07Rise_l1_r N x_1 x_2 x_3 tl (w64 (x_300 + (1 : Int)))) fun j_348 =>
 (some hd).bind fun x_355 =>
 (spec_l01In N x_355 x_2 x_3).bind fun y_356 =>
 (if (!y_356) = true then
 some (Sum.inl false)
 else
 (if (decide (x_300 > (0 : Int))) = true then
 (at? x_1 (w64 (x_300 - (1 : Int)))).bind fun x_359 =>
 (some hd).bind fun x_360 =>
 (if (decide (x_359 ≥ x_360)) = true then
 some (Sum.inl false)
 else
 j_348 ())
 else
 j_348 ()))
theorem spec_l07Rise_l1_rng (N : Nat) (x_1 : (List Int)) (x_2 : Int) (x_3 : Int) (hx : x_1.length ≤ 1099511627776) : ∀ (d k m : Nat), x_1.length = k + d → d < m → spec_l07Rise_l1 N x_1 x_2 x_3 m (k : Int) = spec_l07Rise_l1_r N x_1 x_2 x_3 (x_1.drop k) (k : Int) := by
  intro d
  induction d with
  | zero =>
    intro k m hd hm
    obtain ⟨m, rfl⟩ : ∃ q, m = q + 1 := ⟨m - 1, by omega⟩
    rw [spec_l07Rise_l1, if_neg (by simp; omega), List.drop_eq_nil_of_le (by omega), spec_l07Rise_l1_r]
  | succ d ih =>
    intro k m hd hm
    obtain ⟨m, rfl⟩ : ∃ q, m = q + 1 := ⟨m - 1, by omega⟩
    have hk : k < x_1.length := by omega
    rw [spec_l07Rise_l1, if_pos (by simp; omega), List.drop_eq_getElem_cons hk, spec_l07Rise_l1_r]
    have h1 := at_lt hk
    have h2 := w64_succ (k := k) (by omega)
    have h3 := ih (k + 1) m
    simp only [h1, h2, h3 (by omega) (by omega)]
theorem spec_l07Rise_l1_eq {N : Nat} (x_1 : (List Int)) (x_2 : Int) (x_3 : Int) (hx : x_1.length ≤ 1099511627776) (hN : x_1.length < N) : spec_l07Rise_l1 N x_1 x_2 x_3 N 0 = spec_l07Rise_l1_r N x_1 x_2 x_3 x_1 0 := spec_l07Rise_l1_rng N x_1 x_2 x_3 hx x_1.length 0 N (by omega) hN
def spec_l07Rise (N : Nat) (x_1 : (List Int)) (x_2 : Int) (x_3 : Int) : Option (Bool) :=
 joinP (fun (v_296 : Unit) =>
 some true) fun j_296 =>
 (spec_l07Rise_l1 N x_1 x_2 x_3 N (0 : Int)).bind (Sum.elim (fun v_330 => some v_330) (fun (v_331 : Unit) => j_296 ()))
theorem sem_spec_l07Rise (N : Nat) (x_1 : (List Int)) (x_2 : Int) (x_3 : Int) (r : Bool) (h : spec_l07Rise N x_1 x_2 x_3 = some r) : Says Try.prog 152 [RO 3 (x_1.map encI), VI x_2, VI x_3] 0 [] (VB r) [] := by
  unfold spec_l07Rise at h
  refine Says.of_run s152 Try.call152 rfl fun B hB => ?_
  have hm : B.m ≤ 1000 := by omega
  refine Run.seq (Run.ops hm (Ops.p rfl (Ops.nil (Run.seqO h (fun (v_296 : Unit) => []) (fun (v_296 : Unit) => []) (fun h => ?_) (fun v_296 h => ?_)))))
  · refine Run.seq (Run.ops hm (Ops.p rfl (Ops.nil (Run.block ?_))))
    obtain ⟨res_331, h, hk_331⟩ := bindO h
    refine Run.loop (n := N) (fun m_331 fr σ => ∃ (x_300 : Int), spec_l07Rise_l1 N x_1 x_2 x_3 m_331 x_300 = some res_331 ∧ fr = [(0, RO 3 (x_1.map encI)), (1, VI x_2), (2, VI x_3), (7, VI x_300)] ∧ σ = []) (gh_pk [0, 1, 2, 7] [] hB rfl rfl rfl rfl) ⟨_, h, rfl, rfl⟩ ?_
    rintro m_331 fr σ ⟨x_300, h, rfl, rfl⟩
    obtain _ | m_331 := m_331
    · rw [spec_l07Rise_l1] at h; cases h
    rw [spec_l07Rise_l1] at h
    refine Run.seq (Run.seq (Run.ops hm (Ops.p rfl (Ops.p rfl (Ops.st (s := 9224) (Ev.lnF rfl) rfl rfl (Ops.p rfl (Ops.nil (Run.condO rfl h (fun g_334 h => ?_) (fun g_334 h => ?_)))))))))
    · refine Run.skip (Run.seqO h (fun (v_348 : Unit) => [(0, RO 3 (x_1.map encI)), (1, VI x_2), (2, VI x_3), (7, VI x_300)]) (fun (v_348 : Unit) => []) (fun h => ?_) (fun v_348 h => ?_))
      · refine Run.block (Run.seq (Run.draw hm hmix (OpsD.p rfl (OpsD.p rfl ?_))))
        obtain ⟨x_355, hx_355, h⟩ := bindO h
        refine OpsD.st (s := 17416) (Ev.iaF rfl rfl hx_355) rfl rfl (OpsD.p rfl (OpsD.p rfl (OpsD.p rfl ?_)))
        obtain ⟨y_356, hy_356, h⟩ := bindO h
        refine OpsD.st (s := 17480) (Ev.call [] [] 0 (sem_spec_l01In N x_355 x_2 x_3 _ hy_356) rfl rfl (.cons (.c _) (.cons (.c _) (.cons (.c _) .nil))) rfl (.inl rfl) rfl rfl) rfl rfl (OpsD.p rfl (OpsD.p rfl (OpsD.askO (x := .t 22) rfl h (fun g_357 h => ?_) (fun g_357 h => ?_))))
        · refine OpsD.gn rfl g_357 (OpsD.gn rfl g_357 (OpsD.gn rfl g_357 (OpsD.gu rfl (OpsD.gu rfl (OpsD.gu rfl (OpsD.gu rfl (OpsD.gu rfl (OpsD.gu rfl (OpsD.gu rfl (OpsD.gu rfl (OpsD.gu rfl (OpsD.gu rfl (OpsD.gn rfl g_357 (OpsD.st (s := 17752) (.pkT rfl g_357 rfl) rfl rfl (OpsD.nil ⟨by kernel_rfl, ?_⟩)))))))))))))))
          refine Run.condT rfl rfl (Run.seq (Run.ops hm (Ops.p rfl (Ops.nil (Run.ret ?_)))))
          obtain rfl := someO h
          have h := hk_331
          replace h := inlO h
          obtain rfl := someO h
          exact Ends.mkG (.inl rfl) rfl (gh_pk [0] [] hB rfl rfl rfl rfl) rfl rfl
        · refine OpsD.gp rfl g_357 rfl (OpsD.gp rfl g_357 rfl (OpsD.gp rfl g_357 rfl (OpsD.askO (x := .t 25) rfl h (fun g_358 h => ?_) (fun g_358 h => ?_))))
          · refine OpsD.gp rfl g_358 rfl (OpsD.gp rfl g_358 rfl (OpsD.gp rfl g_358 rfl ?_))
            obtain ⟨x_359, hx_359, h⟩ := bindO h
            refine OpsD.gs (s := 17624) rfl g_358 (Ev.iaF rfl rfl hx_359) rfl rfl (OpsD.gp rfl g_358 rfl (OpsD.gp rfl g_358 rfl (OpsD.gp rfl g_358 rfl ?_)))
            obtain ⟨x_360, hx_360, h⟩ := bindO h
            refine OpsD.gs (s := 17688) rfl g_358 (Ev.iaF rfl rfl hx_360) rfl rfl (OpsD.gp rfl g_358 rfl (OpsD.gp rfl g_358 rfl (OpsD.gs (s := 17736) rfl g_357 (.pkT rfl g_358 rfl) rfl rfl (OpsD.st (s := 17752) (.pkF rfl g_357 rfl) rfl rfl (OpsD.nil ⟨by kernel_rfl, ?_⟩)))))
            refine Run.condO rfl h (fun g_361 h => ?_) (fun g_361 h => ?_)
            · refine Run.seq (Run.ops hm (Ops.p rfl (Ops.nil (Run.ret ?_))))
              obtain rfl := someO h
              have h := hk_331
              replace h := inlO h
              obtain rfl := someO h
              exact Ends.mkG (.inl rfl) rfl (gh_pk [0] [] hB rfl rfl rfl rfl) rfl rfl
            · exact Run.skip (⟨_, _, (gh_pk [0, 1, 2, 7] [] hB rfl rfl rfl rfl), (), h, rfl, rfl⟩)
          · refine OpsD.gn rfl g_358 (OpsD.gn rfl g_358 (OpsD.gn rfl g_358 (OpsD.gn rfl g_358 (OpsD.gn rfl g_358 (OpsD.gn rfl g_358 (OpsD.gn rfl g_358 (OpsD.gn rfl g_358 (OpsD.gn rfl g_358 (OpsD.gn rfl g_358 (OpsD.gs (s := 17736) rfl g_357 (.pkF rfl g_358 rfl) rfl rfl (OpsD.st (s := 17752) (.pkF rfl g_357 rfl) rfl rfl (OpsD.nil ⟨by kernel_rfl, ?_⟩))))))))))))
            exact Run.condF rfl rfl (Run.skip (⟨_, _, (gh_pk [0, 1, 2, 7] [] hB rfl rfl rfl rfl), (), h, rfl, rfl⟩))
      · exact Run.ops hm (Ops.p rfl (Ops.p rfl (Ops.p rfl (Ops.nil (⟨m_331, Nat.lt_succ_self m_331, _, _, (gh_pk [0, 1, 2, 7] [] hB rfl rfl rfl rfl), _, h, rfl, rfl⟩)))))
    · refine Run.exit ?_
      obtain rfl := someO h
      have h := hk_331
      replace h := inrO h
      exact ⟨_, _, (gh_pk [] [] hB rfl rfl rfl rfl), (), h, rfl, rfl⟩
  · refine Run.seq (Run.ops hm (Ops.p rfl (Ops.nil (Run.ret ?_))))
    obtain rfl := someO h
    exact Ends.mkG (.inl rfl) rfl (gh_pk [0] [] hB rfl rfl rfl rfl) rfl rfl
def spec_ConfOk (N : Nat) (x_1 : (List Int)) : Option (Bool) :=
 (spec_l01In N (x_1.length : Int) (1 : Int) (4 : Int)).bind fun y_109 =>
 (if y_109 = true then
 (spec_l07Rise N x_1 (1 : Int) (4 : Int)).bind fun y_111 =>
 some y_111
 else
 some false)
theorem sem_spec_ConfOk (N : Nat) (x_1 : (List Int)) (r : Bool) (h : spec_ConfOk N x_1 = some r) : Says Try.prog 151 [RO 3 (x_1.map encI)] 0 [] (VB r) [] := by
  unfold spec_ConfOk at h
  refine Says.of_run s151 Try.call151 rfl fun B hB => ?_
  have hm : B.m ≤ 1000 := by omega
  refine Run.seq (Run.ops hm (Ops.p rfl (Ops.nil (Run.seq (Run.ops hm (Ops.p rfl (Ops.st (s := 5112) (Ev.lnF rfl) rfl rfl ?_)))))))
  obtain ⟨y_109, hy_109, h⟩ := bindO h
  refine Ops.st (s := 5128) (Ev.call [] [] 0 (sem_spec_l01In N (x_1.length : Int) (1 : Int) (4 : Int) _ hy_109) rfl rfl (.cons (.c _) (.cons (.c _) (.cons (.c _) .nil))) rfl (.inl rfl) rfl rfl) rfl rfl (Ops.p rfl (Ops.askO (x := .t 6) rfl h (fun g_110 h => ?_) (fun g_110 h => ?_)))
  · refine Ops.gp rfl g_110 rfl ?_
    obtain ⟨y_111, hy_111, h⟩ := bindO h
    refine Ops.gs (s := 5176) rfl g_110 (Ev.call [] [] 0 (sem_spec_l07Rise N x_1 (1 : Int) (4 : Int) _ hy_111) rfl rfl (.cons (.c _) (.cons (.c _) (.cons (.c _) .nil))) rfl (.inl rfl) rfl rfl) rfl rfl (Ops.st (s := 5192) (.pkT rfl g_110 rfl) rfl rfl (Ops.p rfl (Ops.nil (Run.ret ?_))))
    obtain rfl := someO h
    exact Ends.mkG (.inl rfl) rfl (gh_pk [0] [] hB rfl rfl rfl rfl) rfl rfl
  · refine Ops.gn rfl g_110 (Ops.gn rfl g_110 (Ops.st (s := 5192) (.pkF rfl g_110 rfl) rfl rfl (Ops.p rfl (Ops.nil (Run.ret ?_)))))
    obtain rfl := someO h
    exact Ends.mkG (.inl rfl) rfl (gh_pk [0] [] hB rfl rfl rfl rfl) rfl rfl
def spec_ReadConf_l1 (N : Nat) (x_1 : ByteArray) : Nat → Int → (List Int) → Option ((List Int))
 | 0, _, _ => none
 | m + 1, x_212, x_213 =>
 (if (decide (x_212 < (x_1.size : Int))) = true then
 (if (decide (x_212 ≤ (4 : Int))) = true then
 (sat? x_1 x_212).bind fun x_242 =>
 (cat? x_213 ([w64 (x_242)] : List Int)).bind fun x_243 =>
 spec_ReadConf_l1 N x_1 m (w64 (x_212 + (1 : Int))) x_243
 else
 some x_213)
 else
 some x_213)
def spec_ReadConf (N : Nat) (x_1 : ByteArray) : Option ((List Int) × Bool) :=
 joinP (fun (v_210 : (List Int)) =>
 (if (((v_210.length : Nat) : Int) != (x_1.size : Int)) = true then
 some (([] : List Int), false)
 else
 (spec_ConfOk N v_210).bind fun y_252 =>
 (if (!y_252) = true then
 some (([] : List Int), false)
 else
 some (v_210, true)))) fun j_210 =>
 (spec_ReadConf_l1 N x_1 N (0 : Int) ([] : List Int)).bind (fun (v_228 : (List Int)) => j_210 v_228)
theorem sem_spec_ReadConf (N : Nat) (x_1 : ByteArray) (r : (List Int) × Bool) (h : spec_ReadConf N x_1 = some r) : Says Try.prog 80 [VS x_1] 0 [] (.tup [.sl 0 3 0 r.1.length, VB r.2]) [(0, .vec 3 (r.1.map encI))] := by
  unfold spec_ReadConf at h
  refine Says.of_run s80 Try.call80 rfl fun B hB => ?_
  have hm : B.m ≤ 1000 := by omega
  refine Run.seq (Run.ops hm (Ops.p rfl (Ops.p rfl (Ops.nil (Run.seq (Run.ops hm (Ops.st (s := 5096) (Ev.bsW (ys := ([] : List Int)) (f := encI) rfl .nil rfl rfl rfl rfl rfl) rfl rfl (Ops.p rfl (Ops.nil (Run.seqO h (fun (v_210 : (List Int)) => [(0, VS x_1), (4, .sl 0 3 0 v_210.length)]) (fun (v_210 : (List Int)) => [(0, .vec 3 (v_210.map encI))]) (fun h => ?_) (fun v_210 h => ?_)))))))))))
  · refine Run.seq (Run.ops hm (Ops.p rfl (Ops.nil (Run.block ?_))))
    obtain ⟨res_228, h, hk_228⟩ := bindO h
    refine Run.loop (n := N) (fun m_228 fr σ => ∃ (x_212 : Int), ∃ (x_213 : (List Int)), spec_ReadConf_l1 N x_1 m_228 x_212 x_213 = some res_228 ∧ fr = [(0, VS x_1), (4, .sl 0 3 0 x_213.length), (5, VI x_212)] ∧ σ = [(0, .vec 3 (x_213.map encI))]) (gh_pk [0, 4, 5] [5096] hB rfl rfl rfl rfl) ⟨_, _, h, rfl, rfl⟩ ?_
    rintro m_228 fr σ ⟨x_212, x_213, h, rfl, rfl⟩
    obtain _ | m_228 := m_228
    · rw [spec_ReadConf_l1] at h; cases h
    rw [spec_ReadConf_l1] at h
    refine Run.seq (Run.seq (Run.ops hm (Ops.p rfl (Ops.p rfl (Ops.p rfl (Ops.p rfl (Ops.p rfl (Ops.askO (x := .t 11) rfl h (fun g_234 h => ?_) (fun g_234 h => ?_)))))))))
    · refine Ops.gp rfl g_234 rfl (Ops.gp rfl g_234 rfl (Ops.st (s := 13400) (.pkT rfl g_234 rfl) rfl rfl (Ops.nil (Run.condO rfl h (fun g_235 h => ?_) (fun g_235 h => ?_)))))
      · refine Run.skip (Run.seq (Run.block (Run.ops hm (Ops.p rfl (Ops.p rfl (Ops.p rfl ?_))))))
        obtain ⟨x_242, hx_242, h⟩ := bindO h
        refine Ops.st (s := 21528) (Ev.ixS rfl rfl hx_242) rfl rfl (Ops.p rfl (Ops.st (s := 21560) (Ev.bsW (ys := ([w64 (x_242)] : List Int)) (f := encI) rfl (.cons (.c _) .nil) rfl rfl rfl rfl rfl) rfl rfl ?_))
        obtain ⟨x_243, hx_243, h⟩ := bindO h
        exact Ops.st (s := 21576) (Ev.apW (f := encI) (ontoW rfl rfl rfl) (addsW rfl rfl rfl (fun _ => rfl)) rfl bt3 rfl hx_243) rfl rfl (Ops.p rfl (Ops.nil (Run.ops hm (Ops.p rfl (Ops.p rfl (Ops.p rfl (Ops.nil (⟨m_228, Nat.lt_succ_self m_228, _, _, (gh_pk [0, 4, 5] [21576] hB rfl rfl rfl rfl), _, _, h, rfl, rfl⟩))))))))
      · refine Run.exit ?_
        obtain rfl := someO h
        have h := hk_228
        exact ⟨_, _, (gh_pk [0, 4] [0] hB rfl rfl rfl rfl), x_213, h, rfl, rfl⟩
    · refine Ops.gn rfl g_234 (Ops.gn rfl g_234 (Ops.st (s := 13400) (.pkF rfl g_234 rfl) rfl rfl (Ops.nil (Run.condF rfl rfl (Run.exit ?_)))))
      obtain rfl := someO h
      have h := hk_228
      exact ⟨_, _, (gh_pk [0, 4] [0] hB rfl rfl rfl rfl), x_213, h, rfl, rfl⟩
  · refine Run.seq (Run.seq (Run.ops hm (Ops.p rfl (Ops.p rfl (Ops.p rfl (Ops.p rfl (Ops.p rfl (Ops.p rfl (Ops.askO (x := .t 29) rfl h (fun g_251 h => ?_) (fun g_251 h => ?_))))))))))
    · refine Ops.gn rfl g_251 (Ops.gn rfl g_251 (Ops.gn rfl g_251 (Ops.st (s := 25720) (.pkT rfl g_251 rfl) rfl rfl (Ops.nil (Run.condT rfl rfl (Run.seq (Run.ops hm (Ops.st (s := 29672) (Ev.bsW (ys := ([] : List Int)) (f := encI) rfl .nil rfl rfl rfl rfl rfl) rfl rfl (Ops.p rfl (Ops.p rfl (Ops.nil (Run.ret ?_))))))))))))
      obtain rfl := someO h
      exact Ends.mkG (.inl rfl) rfl (gh_pk [0, 1] [29672] hB rfl rfl rfl rfl) rfl rfl
    · refine Ops.gp rfl g_251 rfl ?_
      obtain ⟨y_252, hy_252, h⟩ := bindO h
      refine Ops.gs (s := 25688) rfl g_251 (Ev.call [] [0] 0 (sem_spec_ConfOk N v_210 _ hy_252) rfl rfl (.cons (.borrow rfl (by decide) (lendW (fun _ => rfl) _ rfl)) .nil) rfl (.inr ⟨rfl, ownL_root trivial⟩) rfl rfl) rfl rfl ?_
      refine Ops.gp rfl g_251 rfl (Ops.st (s := 25720) (.pkF rfl g_251 rfl) rfl rfl (Ops.nil (Run.condO rfl h (fun g_253 h => ?_) (fun g_253 h => ?_))))
      · refine Run.seq (Run.ops hm (Ops.st (s := 29672) (Ev.bsW (ys := ([] : List Int)) (f := encI) rfl .nil rfl rfl rfl rfl rfl) rfl rfl (Ops.p rfl (Ops.p rfl (Ops.nil (Run.ret ?_))))))
        obtain rfl := someO h
        exact Ends.mkG (.inl rfl) rfl (gh_pk [0, 1] [29672] hB rfl rfl rfl rfl) rfl rfl
      · refine Run.skip (Run.seq (Run.ops hm (Ops.p rfl (Ops.p rfl (Ops.p rfl (Ops.nil (Run.ret ?_)))))))
        obtain rfl := someO h
        exact Ends.mkG (.inl rfl) rfl (gh_pk [0, 1] [0] hB rfl rfl rfl rfl) rfl rfl
def spec_EntryOk (N : Nat) (x_1 : Entry) : Option (Bool) :=
 (spec_l01In N x_1.Term (0 : Int) (100000 : Int)).bind fun y_117 =>
 (if (!y_117) = true then
 some false
 else
 (if (x_1.Kind == (1 : Int)) = true then
 some (decide (x_1.Data = (⟨#[]⟩ : ByteArray)))
 else
 (if (x_1.Kind == (2 : Int)) = true then
 (spec_ReadConf N x_1.Data).bind fun y_124 =>
 some y_124.2
 else
 (if (x_1.Kind == (3 : Int)) = true then
 some (decide ((x_1.Data.size : Int) ≤ (120 : Int)))
 else
 some false))))
theorem sem_spec_EntryOk (N : Nat) (x_1 : Entry) (r : Bool) (h : spec_EntryOk N x_1 = some r) : Says Try.prog 62 [.agg [VI x_1.Term, VI x_1.Kind, VS x_1.Data]] 0 [] (VB r) [] := by
  unfold spec_EntryOk at h
  refine Says.of_run s62 Try.call62 rfl fun B hB => ?_
  have hm : B.m ≤ 1000 := by omega
  refine Run.seq (Run.ops hm (Ops.st (s := 1000) (.bx rfl rfl) rfl rfl (Ops.p rfl (Ops.nil (Run.seq (Run.seq (Run.ops hm (Ops.p rfl (Ops.p rfl ?_)))))))))
  obtain ⟨y_117, hy_117, h⟩ := bindO h
  refine Ops.st (s := 5128) (Ev.call [] [] 0 (sem_spec_l01In N x_1.Term (0 : Int) (100000 : Int) _ hy_117) rfl rfl (.cons (.c _) (.cons (.c _) (.cons (.c _) .nil))) rfl (.inl rfl) rfl rfl) rfl rfl (Ops.p rfl (Ops.nil (Run.condO rfl h (fun g_118 h => ?_) (fun g_118 h => ?_))))
  · refine Run.seq (Run.ops hm (Ops.p rfl (Ops.nil (Run.ret ?_))))
    obtain rfl := someO h
    exact Ends.mkG (.inl rfl) rfl (gh_pk [0] [] hB rfl rfl rfl rfl) rfl rfl
  · refine Run.skip (Run.seq (Run.seq (Run.ops hm (Ops.p rfl (Ops.p rfl (Ops.nil (Run.block (Run.seq (Run.ops hm (Ops.p rfl (Ops.p rfl (Ops.nil (Run.condO rfl h (fun g_119 h => ?_) (fun g_119 h => ?_))))))))))))))
    · refine Run.seq (Run.ops hm (Ops.p rfl (Ops.p rfl (Ops.p rfl (Ops.p rfl (Ops.nil (Run.ret ?_)))))))
      obtain rfl := someO h
      exact Ends.mkG (.inl rfl) rfl (gh_pk [0] [] hB rfl rfl rfl rfl) rfl rfl
    · refine Run.seq (Run.ops hm (Ops.p rfl (Ops.p rfl (Ops.nil (Run.condO rfl h (fun g_120 h => ?_) (fun g_120 h => ?_))))))
      · refine Run.seq (Run.ops hm (Ops.p rfl (Ops.p rfl ?_)))
        obtain ⟨y_124, hy_124, h⟩ := bindO h
        refine Ops.st (s := 29704) (Ev.call [] [] 1 (sem_spec_ReadConf N x_1.Data _ hy_124) rfl rfl (.cons (.c _) .nil) rfl (.inl rfl) rfl rfl) rfl rfl (Ops.p rfl (Ops.p rfl (Ops.p rfl (Ops.p rfl (Ops.p rfl (Ops.nil (Run.seq (Run.ops hm (Ops.p rfl (Ops.p rfl (Ops.nil (Run.ret ?_))))))))))))
        obtain rfl := someO h
        exact Ends.mkG (.inl rfl) rfl (gh_pk [0] [] hB rfl rfl rfl rfl) rfl rfl
      · refine Run.seq (Run.ops hm (Ops.p rfl (Ops.p rfl (Ops.nil (Run.condO rfl h (fun g_125 h => ?_) (fun g_125 h => ?_))))))
        · refine Run.seq (Run.ops hm (Ops.p rfl (Ops.p rfl (Ops.p rfl (Ops.p rfl (Ops.p rfl (Ops.nil (Run.ret ?_))))))))
          obtain rfl := someO h
          exact Ends.mkG (.inl rfl) rfl (gh_pk [0] [] hB rfl rfl rfl rfl) rfl rfl
        · refine Run.skip (Run.seq (Run.ops hm (Ops.p rfl (Ops.nil (Run.ret ?_)))))
          obtain rfl := someO h
          exact Ends.mkG (.inl rfl) rfl (gh_pk [0] [] hB rfl rfl rfl rfl) rfl rfl
def spec_LogOk_l1 (N : Nat) (x_1 : Log) : Nat → Int → Int → Option ((Bool) ⊕ (Unit))
 | 0, _, _ => none
 | m + 1, x_422, x_423 =>
 (if (decide (x_423 < (x_1.Entries.length : Int))) = true then
 (at? x_1.Entries x_423).bind fun x_507 =>
 (spec_EntryOk N x_507).bind fun y_508 =>
 (if (!y_508) = true then
 some (Sum.inl false)
 else
 (at? x_1.Entries x_423).bind fun x_510 =>
 (if (decide (x_510.Term < x_422)) = true then
 some (Sum.inl false)
 else
 (at? x_1.Entries x_423).bind fun x_513 =>
 spec_LogOk_l1 N x_1 m x_513.Term (w64 (x_423 + (1 : Int)))))
 else
 some (Sum.inr ()))
def spec_LogOk_l1_r (N : Nat) (x_1 : Log) : (List Entry) → Int → Int → Option ((Bool) ⊕ (Unit))
 | [], x_422, x_423 =>
 some (Sum.inr ())
 | hd :: tl, x_422, x_423 =>
 (some hd).bind fun x_507 =>
 (spec_EntryOk N x_507).bind fun y_508 =>
 (if (!y_508) = true then
 some (Sum.inl false)
 else
 (some hd).bind fun x_510 =>
 (if (decide (x_510.Term < x_422)) = true then
 some (Sum.inl false)
 else
 (some hd).bind fun x_513 =>
 spec_LogOk_l1_r N x_1 tl x_513.Term (w64 (x_423 + (1 : Int)))))
theorem spec_LogOk_l1_rng (N : Nat) (x_1 : Log) (hx : x_1.Entries.length ≤ 1099511627776) : ∀ (d k m : Nat) (x_422 : Int), x_1.Entries.length = k + d → d < m → spec_LogOk_l1 N x_1 m x_422 (k : Int) = spec_LogOk_l1_r N x_1 (x_1.Entries.drop k) x_422 (k : Int) := by
  intro d
  induction d with
  | zero =>
    intro k m x_422 hd hm
    obtain ⟨m, rfl⟩ : ∃ q, m = q + 1 := ⟨m - 1, by omega⟩
    rw [spec_LogOk_l1, if_neg (by simp; omega), List.drop_eq_nil_of_le (by omega), spec_LogOk_l1_r]
  | succ d ih =>
    intro k m x_422 hd hm
    obtain ⟨m, rfl⟩ : ∃ q, m = q + 1 := ⟨m - 1, by omega⟩
    have hk : k < x_1.Entries.length := by omega
    rw [spec_LogOk_l1, if_pos (by simp; omega), List.drop_eq_getElem_cons hk, spec_LogOk_l1_r]
    have h1 := at_lt hk
    have h2 := w64_succ (k := k) (by omega)
    have h3 := ih (k + 1) m
    simp only [h1, h2, h3 _ (by omega) (by omega)]
theorem spec_LogOk_l1_eq {N : Nat} (x_1 : Log) (hx : x_1.Entries.length ≤ 1099511627776) (hN : x_1.Entries.length < N) (x_422 : Int) : spec_LogOk_l1 N x_1 N x_422 0 = spec_LogOk_l1_r N x_1 x_1.Entries x_422 0 := spec_LogOk_l1_rng N x_1 hx x_1.Entries.length 0 N x_422 (by omega) hN
def spec_LogOk (N : Nat) (x_1 : Log) : Option (Bool) :=
 (spec_l01In N x_1.Start (0 : Int) (100000 : Int)).bind fun y_323 =>
 (if (!y_323) = true then
 some false
 else
 (spec_l01In N x_1.StartTerm (0 : Int) (100000 : Int)).bind fun y_325 =>
 (if (!y_325) = true then
 some false
 else
 (if (decide ((x_1.Entries.length : Int) > (120 : Int))) = true then
 some false
 else
 (if (decide ((w64 (x_1.Start + (x_1.Entries.length : Int))) > (100000 : Int))) = true then
 some false
 else
 joinP (fun (v_421 : Unit) =>
 some true) fun j_421 =>
 (spec_LogOk_l1 N x_1 N x_1.StartTerm (0 : Int)).bind (Sum.elim (fun v_469 => some v_469) (fun (v_470 : Unit) => j_421 ()))))))
theorem sem_spec_LogOk (N : Nat) (x_1 : Log) (r : Bool) (h : spec_LogOk N x_1 = some r) : Says Try.prog 18 [.agg [VI x_1.Start, VI x_1.StartTerm, RO 51 (x_1.Entries.map encEntry)]] 0 [] (VB r) [] := by
  unfold spec_LogOk at h
  refine Says.of_run s18 Try.call18 rfl fun B hB => ?_
  have hm : B.m ≤ 1000 := by omega
  refine Run.seq (Run.ops hm (Ops.st (s := 1000) (.bx rfl rfl) rfl rfl (Ops.p rfl (Ops.nil (Run.seq (Run.seq (Run.ops hm (Ops.p rfl (Ops.p rfl ?_)))))))))
  obtain ⟨y_323, hy_323, h⟩ := bindO h
  refine Ops.st (s := 5128) (Ev.call [] [] 0 (sem_spec_l01In N x_1.Start (0 : Int) (100000 : Int) _ hy_323) rfl rfl (.cons (.c _) (.cons (.c _) (.cons (.c _) .nil))) rfl (.inl rfl) rfl rfl) rfl rfl (Ops.p rfl (Ops.p rfl (Ops.askO (x := .t 9) rfl h (fun g_324 h => ?_) (fun g_324 h => ?_))))
  · refine Ops.gn rfl g_324 (Ops.gn rfl g_324 (Ops.gn rfl g_324 (Ops.gn rfl g_324 (Ops.st (s := 5240) (.pkT rfl g_324 rfl) rfl rfl (Ops.p rfl (Ops.gn rfl rfl (Ops.gn rfl rfl (Ops.gn rfl rfl (Ops.gn rfl rfl (Ops.st (s := 5336) (.pkT rfl rfl rfl) rfl rfl (Ops.p rfl (Ops.gn rfl rfl (Ops.gn rfl rfl (Ops.gn rfl rfl (Ops.gn rfl rfl (Ops.gn rfl rfl (Ops.gn rfl rfl (Ops.gn rfl rfl (Ops.st (s := 5480) (.pkT rfl rfl rfl) rfl rfl (Ops.nil (Run.condT rfl rfl (Run.seq (Run.ops hm (Ops.p rfl (Ops.nil (Run.ret ?_))))))))))))))))))))))))))
    obtain rfl := someO h
    exact Ends.mkG (.inl rfl) rfl (gh_pk [0] [] hB rfl rfl rfl rfl) rfl rfl
  · refine Ops.gp rfl g_324 rfl (Ops.gp rfl g_324 rfl ?_)
    obtain ⟨y_325, hy_325, h⟩ := bindO h
    refine Ops.gs (s := 5208) rfl g_324 (Ev.call [] [] 0 (sem_spec_l01In N x_1.StartTerm (0 : Int) (100000 : Int) _ hy_325) rfl rfl (.cons (.c _) (.cons (.c _) (.cons (.c _) .nil))) rfl (.inl rfl) rfl rfl) rfl rfl (Ops.gp rfl g_324 rfl (Ops.st (s := 5240) (.pkF rfl g_324 rfl) rfl rfl (Ops.p rfl (Ops.askO (x := .t 15) rfl h (fun g_326 h => ?_) (fun g_326 h => ?_)))))
    · refine Ops.gn rfl g_326 (Ops.gn rfl g_326 (Ops.gn rfl g_326 (Ops.gn rfl g_326 (Ops.st (s := 5336) (.pkT rfl g_326 rfl) rfl rfl (Ops.p rfl (Ops.gn rfl rfl (Ops.gn rfl rfl (Ops.gn rfl rfl (Ops.gn rfl rfl (Ops.gn rfl rfl (Ops.gn rfl rfl (Ops.gn rfl rfl (Ops.st (s := 5480) (.pkT rfl rfl rfl) rfl rfl (Ops.nil (Run.condT rfl rfl (Run.seq (Run.ops hm (Ops.p rfl (Ops.nil (Run.ret ?_))))))))))))))))))))
      obtain rfl := someO h
      exact Ends.mkG (.inl rfl) rfl (gh_pk [0] [] hB rfl rfl rfl rfl) rfl rfl
    · refine Ops.gp rfl g_326 rfl (Ops.gp rfl g_326 rfl (Ops.gs (s := 5304) rfl g_326 (Ev.lnF rfl) rfl rfl (Ops.gp rfl g_326 rfl (Ops.st (s := 5336) (.pkF rfl g_326 rfl) rfl rfl (Ops.p rfl (Ops.askO (x := .t 21) rfl h (fun g_327 h => ?_) (fun g_327 h => ?_)))))))
      · refine Ops.gn rfl g_327 (Ops.gn rfl g_327 (Ops.gn rfl g_327 (Ops.gn rfl g_327 (Ops.gn rfl g_327 (Ops.gn rfl g_327 (Ops.gn rfl g_327 (Ops.st (s := 5480) (.pkT rfl g_327 rfl) rfl rfl (Ops.nil (Run.condT rfl rfl (Run.seq (Run.ops hm (Ops.p rfl (Ops.nil (Run.ret ?_))))))))))))))
        obtain rfl := someO h
        exact Ends.mkG (.inl rfl) rfl (gh_pk [0] [] hB rfl rfl rfl rfl) rfl rfl
      · refine Ops.gp rfl g_327 rfl (Ops.gp rfl g_327 rfl (Ops.gp rfl g_327 rfl (Ops.gp rfl g_327 rfl (Ops.gs (s := 5432) rfl g_327 (Ev.lnF rfl) rfl rfl (Ops.gp rfl g_327 rfl (Ops.gp rfl g_327 rfl (Ops.st (s := 5480) (.pkF rfl g_327 rfl) rfl rfl (Ops.nil (Run.condO rfl h (fun g_328 h => ?_) (fun g_328 h => ?_))))))))))
        · refine Run.seq (Run.ops hm (Ops.p rfl (Ops.nil (Run.ret ?_))))
          obtain rfl := someO h
          exact Ends.mkG (.inl rfl) rfl (gh_pk [0] [] hB rfl rfl rfl rfl) rfl rfl
        · refine Run.skip (Run.seq (Run.ops hm (Ops.p rfl (Ops.p rfl (Ops.p rfl (Ops.nil (Run.seqO h (fun (v_421 : Unit) => []) (fun (v_421 : Unit) => []) (fun h => ?_) (fun v_421 h => ?_))))))))
          · refine Run.seq (Run.ops hm (Ops.p rfl (Ops.nil (Run.block ?_))))
            obtain ⟨res_470, h, hk_470⟩ := bindO h
            refine Run.loop (n := N) (fun m_470 fr σ => ∃ (x_422 : Int), ∃ (x_423 : Int), spec_LogOk_l1 N x_1 m_470 x_422 x_423 = some res_470 ∧ fr = [(1, .ptr 0 0), (3, VI x_422), (4, VI x_423)] ∧ σ = [(0, .box [VI x_1.Start, VI x_1.StartTerm, RO 51 (x_1.Entries.map encEntry)])]) (gh_pk [1, 3, 4] [1000] hB rfl rfl rfl rfl) ⟨_, _, h, rfl, rfl⟩ ?_
            rintro m_470 fr σ ⟨x_422, x_423, h, rfl, rfl⟩
            obtain _ | m_470 := m_470
            · rw [spec_LogOk_l1] at h; cases h
            rw [spec_LogOk_l1] at h
            refine Run.seq (Run.seq (Run.ops hm (Ops.p rfl (Ops.p rfl (Ops.p rfl (Ops.st (s := 21528) (Ev.lnF rfl) rfl rfl (Ops.p rfl (Ops.nil (Run.condO rfl h (fun g_473 h => ?_) (fun g_473 h => ?_))))))))))
            · refine Run.skip (Run.seq (Run.block (Run.seq (Run.seq (Run.ops hm (Ops.p rfl (Ops.p rfl (Ops.p rfl ?_))))))))
              obtain ⟨x_507, hx_507, h⟩ := bindO h
              refine Ops.st (s := 29720) (Ev.iaF rfl rfl hx_507) rfl rfl (Ops.p rfl ?_)
              obtain ⟨y_508, hy_508, h⟩ := bindO h
              refine Ops.st (s := 29752) (Ev.call [] [] 0 (sem_spec_EntryOk N x_507 _ hy_508) rfl rfl (.cons (.agg (.cons (.c _) (.cons (.c _) (.cons (.c _) .nil)))) .nil) rfl (.inl rfl) rfl rfl) rfl rfl (Ops.p rfl (Ops.p rfl (Ops.askO (x := .t 46) rfl h (fun g_509 h => ?_) (fun g_509 h => ?_))))
              · refine Ops.gn rfl g_509 (Ops.gn rfl g_509 (Ops.gn rfl g_509 (Ops.gn rfl g_509 (Ops.gn rfl g_509 (Ops.gn rfl g_509 (Ops.gn rfl g_509 (Ops.gn rfl g_509 (Ops.st (s := 29928) (.pkT rfl g_509 rfl) rfl rfl (Ops.nil (Run.condT rfl rfl (Run.seq (Run.ops hm (Ops.p rfl (Ops.nil (Run.ret ?_)))))))))))))))
                obtain rfl := someO h
                have h := hk_470
                replace h := inlO h
                obtain rfl := someO h
                exact Ends.mkG (.inl rfl) rfl (gh_pk [0] [] hB rfl rfl rfl rfl) rfl rfl
              · refine Ops.gp rfl g_509 rfl (Ops.gp rfl g_509 rfl (Ops.gp rfl g_509 rfl ?_))
                obtain ⟨x_510, hx_510, h⟩ := bindO h
                refine Ops.gs (s := 29848) rfl g_509 (Ev.iaF rfl rfl hx_510) rfl rfl (Ops.gp rfl g_509 rfl (Ops.gp rfl g_509 rfl (Ops.gp rfl g_509 rfl (Ops.gp rfl g_509 rfl (Ops.st (s := 29928) (.pkF rfl g_509 rfl) rfl rfl (Ops.nil (Run.condO rfl h (fun g_511 h => ?_) (fun g_511 h => ?_))))))))
                · refine Run.seq (Run.ops hm (Ops.p rfl (Ops.nil (Run.ret ?_))))
                  obtain rfl := someO h
                  have h := hk_470
                  replace h := inlO h
                  obtain rfl := someO h
                  exact Ends.mkG (.inl rfl) rfl (gh_pk [0] [] hB rfl rfl rfl rfl) rfl rfl
                · refine Run.skip (Run.ops hm (Ops.p rfl (Ops.p rfl (Ops.p rfl ?_))))
                  obtain ⟨x_513, hx_513, h⟩ := bindO h
                  exact Ops.st (s := 37912) (Ev.iaF rfl rfl hx_513) rfl rfl (Ops.p rfl (Ops.p rfl (Ops.p rfl (Ops.nil (Run.ops hm (Ops.p rfl (Ops.p rfl (Ops.p rfl (Ops.nil (⟨m_470, Nat.lt_succ_self m_470, _, _, (gh_pk [1, 3, 4] [0] hB rfl rfl rfl rfl), _, _, h, rfl, rfl⟩))))))))))
            · refine Run.exit ?_
              obtain rfl := someO h
              have h := hk_470
              replace h := inrO h
              exact ⟨_, _, (gh_pk [] [] hB rfl rfl rfl rfl), (), h, rfl, rfl⟩
          · refine Run.seq (Run.ops hm (Ops.p rfl (Ops.nil (Run.ret ?_))))
            obtain rfl := someO h
            exact Ends.mkG (.inl rfl) rfl (gh_pk [0] [] hB rfl rfl rfl rfl) rfl rfl
end Go.Proofs.Ytehknbpmpbghhaa.Pe.FnExactTick
