/- Functions, as pure functions; and that Go does just that. -/
import Derived.Test.YtebbgdjmplceiaaPeTy
import Derived.Test.YtebbgdjmplceiaaPeSFnAlone
namespace Go.Proofs.Ytebbgdjmplceiaa.Pe.FnAlone
open Go Go.RowKit
set_option linter.unusedVariables false
set_option linter.unusedSimpArgs false
set_option maxHeartbeats 40000000
theorem hmix : Try.prog.follows .mixedOrders = true := by kernel_rfl
structure Tl01Cur where
  b : (List Int)
  i : Int
  h : Int
abbrev encTl01Cur (o : Bool) (x : Tl01Cur) : List C := [.row o 5 (x.b.map encU), .i .i64 x.i, .i .i64 x.h]
theorem ro_encTl01Cur (x : Tl01Cur) : roCs (encTl01Cur true x) = encTl01Cur false x := by simp only [encTl01Cur, roCs, roC, roRows_mapf (fun _ => rfl)]
theorem own_encTl01Cur (x : Tl01Cur) : ownCs (encTl01Cur true x) = true := by simp only [encTl01Cur, ownCs, ownC, Bool.and_self, Bool.and_true, Bool.true_and, own_rows (f := encU) (fun _ => rfl)]
structure Entry where
  Term : Int
  Kind : Int
  Data : ByteArray
abbrev encEntry (x : Entry) : List C := [.i .i64 x.Term, .i .i64 x.Kind, .s x.Data]
structure Log where
  Start : Int
  StartTerm : Int
  Entries : (List Entry)
abbrev encLog (o : Bool) (x : Log) : List C := [.i .i64 x.Start, .i .i64 x.StartTerm, .row o 48 (x.Entries.map encEntry)]
theorem ro_encLog (x : Log) : roCs (encLog true x) = encLog false x := by simp only [encLog, roCs, roC, roRows_mapf (fun _ => rfl)]
theorem own_encLog (x : Log) : ownCs (encLog true x) = true := by simp only [encLog, ownCs, ownC, Bool.and_self, Bool.and_true, Bool.true_and, own_rows (f := encEntry) (fun _ => rfl)]
structure Peer where
  Id : Int
  Next : Int
  Match : Int
  Sent : Int
abbrev encPeer (x : Peer) : List C := [.i .i64 x.Id, .i .i64 x.Next, .i .i64 x.Match, .i .i64 x.Sent]
structure Node where
  Id : Int
  Term : Int
  Vote : Int
  Role : Int
  Lead : Int
  Conf : (List Int)
  Log : Log
  Commit : Int
  Clock : Int
  Limit : Int
  Votes : (List Int)
  Peers : (List Peer)
abbrev encNode (o : Bool) (x : Node) : List C := [.i .i64 x.Id, .i .i64 x.Term, .i .i64 x.Vote, .i .i64 x.Role, .i .i64 x.Lead, .row o 3 (x.Conf.map encI), .i .i64 x.Log.Start, .i .i64 x.Log.StartTerm, .row o 48 (x.Log.Entries.map encEntry), .i .i64 x.Commit, .i .i64 x.Clock, .i .i64 x.Limit, .row o 3 (x.Votes.map encI), .row o 172 (x.Peers.map encPeer)]
theorem ro_encNode (x : Node) : roCs (encNode true x) = encNode false x := by simp only [encNode, roCs, roC, roRows_mapf (fun _ => rfl), roRows_mapf (fun _ => rfl), roRows_mapf (fun _ => rfl), roRows_mapf (fun _ => rfl)]
theorem own_encNode (x : Node) : ownCs (encNode true x) = true := by simp only [encNode, ownCs, ownC, Bool.and_self, Bool.and_true, Bool.true_and, own_rows (f := encI) (fun _ => rfl), own_rows (f := encEntry) (fun _ => rfl), own_rows (f := encI) (fun _ => rfl), own_rows (f := encPeer) (fun _ => rfl)]
structure Message where
  Kind : Int
  From : Int
  To : Int
  Term : Int
  Index : Int
  LogTerm : Int
  Commit : Int
  Ok : Bool
  Entries : (List Entry)
  Conf : (List Int)
  Data : ByteArray
  Last : Bool
abbrev encMessage (o : Bool) (x : Message) : List C := [.i .i64 x.Kind, .i .i64 x.From, .i .i64 x.To, .i .i64 x.Term, .i .i64 x.Index, .i .i64 x.LogTerm, .i .i64 x.Commit, .b x.Ok, .row o 48 (x.Entries.map encEntry), .row o 3 (x.Conf.map encI), .s x.Data, .b x.Last]
theorem ro_encMessage (x : Message) : roCs (encMessage true x) = encMessage false x := by simp only [encMessage, roCs, roC, roRows_mapf (fun _ => rfl), roRows_mapf (fun _ => rfl)]
theorem own_encMessage (x : Message) : ownCs (encMessage true x) = true := by simp only [encMessage, ownCs, ownC, Bool.and_self, Bool.and_true, Bool.true_and, own_rows (f := encEntry) (fun _ => rfl), own_rows (f := encI) (fun _ => rfl)]
structure Tcore where
  n : Node
  out : (List Message)
abbrev encTcore (o : Bool) (x : Tcore) : List C := [.i .i64 x.n.Id, .i .i64 x.n.Term, .i .i64 x.n.Vote, .i .i64 x.n.Role, .i .i64 x.n.Lead, .row o 3 (x.n.Conf.map encI), .i .i64 x.n.Log.Start, .i .i64 x.n.Log.StartTerm, .row o 48 (x.n.Log.Entries.map encEntry), .i .i64 x.n.Commit, .i .i64 x.n.Clock, .i .i64 x.n.Limit, .row o 3 (x.n.Votes.map encI), .row o 172 (x.n.Peers.map encPeer), .row o 168 (x.out.map (encMessage o))]
theorem ro_encTcore (x : Tcore) : roCs (encTcore true x) = encTcore false x := by simp only [encTcore, roCs, roC, roRows_mapf (fun _ => rfl), roRows_mapf (fun _ => rfl), roRows_mapf (fun _ => rfl), roRows_mapf (fun _ => rfl), roRows_mapf ro_encMessage]
theorem own_encTcore (x : Tcore) : ownCs (encTcore true x) = true := by simp only [encTcore, ownCs, ownC, Bool.and_self, Bool.and_true, Bool.true_and, own_rows (f := encI) (fun _ => rfl), own_rows (f := encEntry) (fun _ => rfl), own_rows (f := encI) (fun _ => rfl), own_rows (f := encPeer) (fun _ => rfl), own_rows (f := (encMessage true)) own_encMessage]
theorem bt3 : bytesOf Try.prog 3 ≤ 2048 := of_decide_eq_true (by kernel_rfl)
theorem bt5 : bytesOf Try.prog 5 ≤ 2048 := of_decide_eq_true (by kernel_rfl)
theorem bt48 : bytesOf Try.prog 48 ≤ 2048 := of_decide_eq_true (by kernel_rfl)
theorem bt168 : bytesOf Try.prog 168 ≤ 2048 := of_decide_eq_true (by kernel_rfl)
theorem bt172 : bytesOf Try.prog 172 ≤ 2048 := of_decide_eq_true (by kernel_rfl)
def laws_big (N : Nat) (x_1 : (List Int)) : Option (Bool) :=
 some (decide ((x_1.length : Int) > (1048576 : Int)))
theorem sem_laws_big (N : Nat) (x_1 : (List Int)) (r : Bool) (h : laws_big N x_1 = some r) : Says Try.prog 56 [RO 5 (x_1.map encU)] 0 [] (VB r) [] := by
  unfold laws_big at h
  refine Says.of_run s56 Try.call56 rfl fun B hB => ?_
  have hm : B.m ≤ 1000 := by omega
  refine Run.seq ?_
  refine Run.ops hm ?_
  refine Ops.p rfl ?_
  refine Ops.nil ?_
  refine Run.seq ?_
  refine Run.ops hm ?_
  refine Ops.p rfl ?_
  refine Ops.st (s := 5112) (Ev.lnF rfl) rfl rfl ?_
  refine Ops.p rfl ?_
  refine Ops.p rfl ?_
  refine Ops.nil ?_
  refine Run.ret ?_
  obtain rfl := someO h
  exact Ends.mkG (.inl rfl) rfl (gh_pk [0] [] hB rfl rfl rfl rfl) rfl rfl
def spec_l01New_l1 (N : Nat) (x_1 : (List Int)) : Nat → Int → Int → Option (Int)
 | 0, _, _ => none
 | m + 1, x_166, x_167 =>
 (if (decide (x_167 < (x_1.length : Int))) = true then
 (if (decide (x_167 < (4000 : Int))) = true then
 (at? x_1 x_167).bind fun x_184 =>
 (intD .and .i64 (w64 ((w64 ((w64 (x_166 * (131 : Int))) + (w64 (x_184)))) + (7 : Int))) (1073741823 : Int)).bind fun x_185 =>
 spec_l01New_l1 N x_1 m x_185 (w64 (x_167 + (1 : Int)))
 else
 some x_166)
 else
 some x_166)
def spec_l01New_l1_r (N : Nat) (x_1 : (List Int)) : (List Int) → Int → Int → Option (Int)
 | [], x_166, x_167 =>
 some x_166
 | hd :: tl, x_166, x_167 =>
 (if (decide (x_167 < (4000 : Int))) = true then
 (some hd).bind fun x_184 =>
 (intD .and .i64 (w64 ((w64 ((w64 (x_166 * (131 : Int))) + (w64 (x_184)))) + (7 : Int))) (1073741823 : Int)).bind fun x_185 =>
 spec_l01New_l1_r N x_1 tl x_185 (w64 (x_167 + (1 : Int)))
 else
 some x_166)
theorem spec_l01New_l1_rng (N : Nat) (x_1 : (List Int)) (hx : x_1.length ≤ 1099511627776) : ∀ (d k m : Nat) (x_166 : Int), x_1.length = k + d → d < m → spec_l01New_l1 N x_1 m x_166 (k : Int) = spec_l01New_l1_r N x_1 (x_1.drop k) x_166 (k : Int) := by
  intro d
  induction d with
  | zero =>
    intro k m x_166 hd hm
    obtain ⟨m, rfl⟩ : ∃ q, m = q + 1 := ⟨m - 1, by omega⟩
    rw [spec_l01New_l1, if_neg (by simp; omega), List.drop_eq_nil_of_le (by omega), spec_l01New_l1_r]
  | succ d ih =>
    intro k m x_166 hd hm
    obtain ⟨m, rfl⟩ : ∃ q, m = q + 1 := ⟨m - 1, by omega⟩
    have hk : k < x_1.length := by omega
    rw [spec_l01New_l1, if_pos (by simp; omega), List.drop_eq_getElem_cons hk, spec_l01New_l1_r]
    have h1 := at_lt hk
    have h2 := w64_succ (k := k) (by omega)
    have h3 := ih (k + 1) m
    simp only [h1, h2, h3 _ (by omega) (by omega)]
theorem spec_l01New_l1_eq {N : Nat} (x_1 : (List Int)) (hx : x_1.length ≤ 1099511627776) (hN : x_1.length < N) (x_166 : Int) : spec_l01New_l1 N x_1 N x_166 0 = spec_l01New_l1_r N x_1 x_1 x_166 0 := spec_l01New_l1_rng N x_1 hx x_1.length 0 N x_166 (by omega) hN
def spec_l01New (N : Nat) (x_1 : (List Int)) : Option (Tl01Cur) :=
 joinP (fun (v_164 : Int) =>
 some (Tl01Cur.mk x_1 (0 : Int) v_164)) fun j_164 =>
 (spec_l01New_l1 N x_1 N (w64 ((10301 : Int) + (x_1.length : Int))) (0 : Int)).bind (fun (v_176 : Int) => j_164 v_176)
theorem sem_spec_l01New (N : Nat) (x_1 : (List Int)) (r : Tl01Cur) (h : spec_l01New N x_1 = some r) : Says Try.prog 112 [RO 5 (x_1.map encU)] 0 [] (.ptr 0 0) [(0, .box [RO 5 (r.b.map encU), VI r.i, VI r.h])] := by
  unfold spec_l01New at h
  refine Says.of_run s112 Try.call112 rfl fun B hB => ?_
  have hm : B.m ≤ 1000 := by omega
  refine Run.seq ?_
  refine Run.ops hm ?_
  refine Ops.p rfl ?_
  refine Ops.nil ?_
  refine Run.seq ?_
  refine Run.ops hm ?_
  refine Ops.p rfl ?_
  refine Ops.st (s := 5112) (Ev.lnF rfl) rfl rfl ?_
  refine Ops.p rfl ?_
  refine Ops.p rfl ?_
  refine Ops.nil ?_
  refine Run.seqO h (fun (v_164 : Int) => [(0, RO 5 (x_1.map encU)), (3, VI v_164)]) (fun (v_164 : Int) => []) (fun h => ?_) (fun v_164 h => ?_)
  · skip
    refine Run.seq ?_
    refine Run.ops hm ?_
    refine Ops.p rfl ?_
    refine Ops.nil ?_
    refine Run.block ?_
    obtain ⟨res_176, h, hk_176⟩ := bindO h
    refine Run.loop (n := N) (fun m_176 fr σ => ∃ (x_166 : Int), ∃ (x_167 : Int), spec_l01New_l1 N x_1 m_176 x_166 x_167 = some res_176 ∧ fr = [(0, RO 5 (x_1.map encU)), (3, VI x_166), (4, VI x_167)] ∧ σ = []) (gh_pk [0, 3, 4] [] hB rfl rfl rfl rfl) ⟨_, _, h, rfl, rfl⟩ ?_
    rintro m_176 fr σ ⟨x_166, x_167, h, rfl, rfl⟩
    obtain _ | m_176 := m_176
    · rw [spec_l01New_l1] at h; cases h
    rw [spec_l01New_l1] at h
    refine Run.seq ?_
    refine Run.seq ?_
    refine Run.ops hm ?_
    refine Ops.p rfl ?_
    refine Ops.p rfl ?_
    refine Ops.st (s := 13320) (Ev.lnF rfl) rfl rfl ?_
    refine Ops.p rfl ?_
    refine Ops.p rfl ?_
    refine Ops.askO (x := .t 12) rfl h (fun g_180 h => ?_) (fun g_180 h => ?_)
    · skip
      refine Ops.gp rfl g_180 rfl ?_
      refine Ops.gp rfl g_180 rfl ?_
      refine Ops.st (s := 13400) (.pkT rfl g_180 rfl) rfl rfl ?_
      refine Ops.nil ?_
      refine Run.condO rfl h (fun g_181 h => ?_) (fun g_181 h => ?_)
      · skip
        refine Run.skip ?_
        refine Run.seq ?_
        refine Run.block ?_
        refine Run.ops hm ?_
        refine Ops.p rfl ?_
        refine Ops.p rfl ?_
        refine Ops.p rfl ?_
        refine Ops.p rfl ?_
        obtain ⟨x_184, hx_184, h⟩ := bindO h
        refine Ops.st (s := 21544) (Ev.iaF rfl rfl hx_184) rfl rfl ?_
        refine Ops.p rfl ?_
        refine Ops.p rfl ?_
        refine Ops.p rfl ?_
        refine Ops.p rfl ?_
        obtain ⟨x_185, hx_185, h⟩ := bindO h
        refine Ops.st (s := 21624) (.bin rfl rfl hx_185) rfl rfl ?_
        refine Ops.p rfl ?_
        refine Ops.nil ?_
        refine Run.ops hm ?_
        refine Ops.p rfl ?_
        refine Ops.p rfl ?_
        refine Ops.p rfl ?_
        refine Ops.nil ?_
        exact ⟨m_176, Nat.lt_succ_self m_176, _, _, (gh_pk [0, 3, 4] [] hB rfl rfl rfl rfl), _, _, h, rfl, rfl⟩
      · skip
        refine Run.exit ?_
        obtain rfl := someO h
        have h := hk_176
        exact ⟨_, _, (gh_pk [0, 3] [] hB rfl rfl rfl rfl), x_166, h, rfl, rfl⟩
    · skip
      refine Ops.gn rfl g_180 ?_
      refine Ops.gn rfl g_180 ?_
      refine Ops.st (s := 13400) (.pkF rfl g_180 rfl) rfl rfl ?_
      refine Ops.nil ?_
      refine Run.condF rfl rfl ?_
      refine Run.exit ?_
      obtain rfl := someO h
      have h := hk_176
      exact ⟨_, _, (gh_pk [0, 3] [] hB rfl rfl rfl rfl), x_166, h, rfl, rfl⟩
  · skip
    refine Run.seq ?_
    refine Run.ops hm ?_
    refine Ops.p rfl ?_
    refine Ops.p rfl ?_
    refine Ops.st (s := 25608) (.bd rfl rfl) rfl rfl ?_
    refine Ops.st (s := 25624) (.bx rfl rfl) rfl rfl ?_
    refine Ops.p rfl ?_
    refine Ops.nil ?_
    refine Run.ret ?_
    obtain rfl := someO h
    exact Ends.mkG (.inl rfl) rfl (gh_pk [0] [25624] hB rfl rfl rfl rfl) rfl rfl
def spec_l01Byte (N : Nat) (x_1 : Tl01Cur) : Option (Int × Tl01Cur) :=
 (intSh .shr .i64 (w64 ((w64 (x_1.h * (6364136223846793005 : Int))) + (1442695040888963407 : Int))) (33 : Int)).bind fun x_123 =>
 (intSh .shr .i64 (w64 ((w64 (x_1.h * (6364136223846793005 : Int))) + (1442695040888963407 : Int))) (45 : Int)).bind fun x_124 =>
 (intD .xor .i64 x_123 x_124).bind fun x_125 =>
 (intD .and .i64 x_125 (255 : Int)).bind fun x_126 =>
 joinP (fun (v_132 : Int × Int) =>
 some (v_132.1, (Tl01Cur.mk x_1.b v_132.2 (w64 ((w64 (x_1.h * (6364136223846793005 : Int))) + (1442695040888963407 : Int)))))) fun j_132 =>
 (if (decide (x_1.i < (x_1.b.length : Int))) = true then
 (at? x_1.b x_1.i).bind fun x_136 =>
 (intD .and .i64 (w64 (x_126 + (w64 (x_136)))) (255 : Int)).bind fun x_137 =>
 j_132 (x_137, w64 (x_1.i + (1 : Int)))
 else
 j_132 (x_126, x_1.i))
theorem sem_spec_l01Byte (N : Nat) (x_1 : Tl01Cur) (r : Int × Tl01Cur) (h : spec_l01Byte N x_1 = some r) : Says Try.prog 113 [.ptr 0 0] 1 [(0, .box [RO 5 (x_1.b.map encU), VI x_1.i, VI x_1.h])] (VI r.1) [(0, .box [RO 5 (r.2.b.map encU), VI r.2.i, VI r.2.h])] := by
  unfold spec_l01Byte at h
  refine Says.of_run s113 Try.call113 rfl fun B hB => ?_
  have hm : B.m ≤ 1000 := by omega
  refine Run.seq ?_
  refine Run.ops hm ?_
  refine Ops.p rfl ?_
  refine Ops.nil ?_
  refine Run.seq ?_
  refine Run.ops hm ?_
  refine Ops.p rfl ?_
  refine Ops.p rfl ?_
  refine Ops.p rfl ?_
  refine Ops.p rfl ?_
  refine Ops.p rfl ?_
  refine Ops.p rfl ?_
  refine Ops.p rfl ?_
  refine Ops.p rfl ?_
  refine Ops.p rfl ?_
  refine Ops.s0 (s := 5240) (.sto rfl rfl rfl rfl rfl rfl) rfl rfl ?_
  refine Ops.nil ?_
  refine Run.seq ?_
  refine Run.draw hm hmix ?_
  refine OpsD.p rfl ?_
  refine OpsD.p rfl ?_
  refine OpsD.p rfl ?_
  refine OpsD.p rfl ?_
  obtain ⟨x_123, hx_123, h⟩ := bindO h
  refine OpsD.st (s := 9256) (.sh rfl rfl hx_123) rfl rfl ?_
  refine OpsD.p rfl ?_
  refine OpsD.p rfl ?_
  refine OpsD.p rfl ?_
  refine OpsD.p rfl ?_
  obtain ⟨x_124, hx_124, h⟩ := bindO h
  refine OpsD.st (s := 9336) (.sh rfl rfl hx_124) rfl rfl ?_
  obtain ⟨x_125, hx_125, h⟩ := bindO h
  refine OpsD.st (s := 9352) (.bin rfl rfl hx_125) rfl rfl ?_
  obtain ⟨x_126, hx_126, h⟩ := bindO h
  refine OpsD.st (s := 9368) (.bin rfl rfl hx_126) rfl rfl ?_
  refine OpsD.p rfl ?_
  refine OpsD.nil ⟨by kernel_rfl, ?_⟩
  refine Run.seqO h (fun (v_132 : Int × Int) => [(3, VI v_132.1)]) (fun (v_132 : Int × Int) => [(0, .box [RO 5 (x_1.b.map encU), VI v_132.2, VI (w64 ((w64 (x_1.h * (6364136223846793005 : Int))) + (1442695040888963407 : Int)))])]) (fun h => ?_) (fun v_132 h => ?_)
  · skip
    refine Run.seq ?_
    refine Run.draw hm hmix ?_
    refine OpsD.p rfl ?_
    refine OpsD.p rfl ?_
    refine OpsD.p rfl ?_
    refine OpsD.p rfl ?_
    refine OpsD.p rfl ?_
    refine OpsD.p rfl ?_
    refine OpsD.p rfl ?_
    refine OpsD.p rfl ?_
    refine OpsD.st (s := 13416) (Ev.lnF rfl) rfl rfl ?_
    refine OpsD.p rfl ?_
    refine OpsD.nil ⟨by kernel_rfl, ?_⟩
    refine Run.condO rfl h (fun g_133 h => ?_) (fun g_133 h => ?_)
    · skip
      refine Run.seq ?_
      refine Run.draw hm hmix ?_
      refine OpsD.p rfl ?_
      refine OpsD.p rfl ?_
      refine OpsD.p rfl ?_
      refine OpsD.p rfl ?_
      refine OpsD.p rfl ?_
      refine OpsD.p rfl ?_
      refine OpsD.p rfl ?_
      refine OpsD.p rfl ?_
      refine OpsD.p rfl ?_
      obtain ⟨x_136, hx_136, h⟩ := bindO h
      refine OpsD.st (s := 17528) (Ev.iaF rfl rfl hx_136) rfl rfl ?_
      refine OpsD.p rfl ?_
      refine OpsD.p rfl ?_
      refine OpsD.p rfl ?_
      obtain ⟨x_137, hx_137, h⟩ := bindO h
      refine OpsD.st (s := 17592) (.bin rfl rfl hx_137) rfl rfl ?_
      refine OpsD.p rfl ?_
      refine OpsD.nil ⟨by kernel_rfl, ?_⟩
      refine Run.ops hm ?_
      refine Ops.p rfl ?_
      refine Ops.p rfl ?_
      refine Ops.p rfl ?_
      refine Ops.p rfl ?_
      refine Ops.p rfl ?_
      refine Ops.p rfl ?_
      refine Ops.p rfl ?_
      refine Ops.p rfl ?_
      refine Ops.s0 (s := 21608) (.sto rfl rfl rfl rfl rfl rfl) rfl rfl ?_
      refine Ops.nil ?_
      exact ⟨_, _, (gh_pk [3] [0] hB rfl rfl rfl rfl), (x_137, w64 (x_1.i + (1 : Int))), h, rfl, rfl⟩
    · skip
      refine Run.skip ?_
      exact ⟨_, _, (gh_pk [3] [0] hB rfl rfl rfl rfl), (x_126, x_1.i), h, rfl, rfl⟩
  · skip
    refine Run.seq ?_
    refine Run.ops hm ?_
    refine Ops.p rfl ?_
    refine Ops.p rfl ?_
    refine Ops.nil ?_
    refine Run.ret ?_
    obtain rfl := someO h
    exact Ends.mkG (.inl rfl) rfl (gh_pk [0] [0] hB rfl rfl rfl rfl) rfl rfl
def spec_l01Below (N : Nat) (x_1 : Tl01Cur) (x_2 : Int) : Option (Int × Tl01Cur) :=
 (if (decide (x_2 ≤ (0 : Int))) = true then
 some ((0 : Int), x_1)
 else
 (if (decide (x_2 ≤ (256 : Int))) = true then
 (spec_l01Byte N x_1).bind fun y_123 =>
 (intD .rem .i64 y_123.1 x_2).bind fun x_124 =>
 some (x_124, y_123.2)
 else
 (spec_l01Byte N x_1).bind fun y_126 =>
 (spec_l01Byte N y_126.2).bind fun y_128 =>
 (spec_l01Byte N y_128.2).bind fun y_130 =>
 (spec_l01Byte N y_130.2).bind fun y_132 =>
 (intD .rem .i64 (w64 ((w64 ((w64 ((w64 (y_126.1 * (16777216 : Int))) + (w64 (y_128.1 * (65536 : Int))))) + (w64 (y_130.1 * (256 : Int))))) + y_132.1)) x_2).bind fun x_133 =>
 some (x_133, y_132.2)))
theorem sem_spec_l01Below (N : Nat) (x_1 : Tl01Cur) (x_2 : Int) (r : Int × Tl01Cur) (h : spec_l01Below N x_1 x_2 = some r) : Says Try.prog 114 [.ptr 0 0, VI x_2] 1 [(0, .box [RO 5 (x_1.b.map encU), VI x_1.i, VI x_1.h])] (VI r.1) [(0, .box [RO 5 (r.2.b.map encU), VI r.2.i, VI r.2.h])] := by
  unfold spec_l01Below at h
  refine Says.of_run s114 Try.call114 rfl fun B hB => ?_
  have hm : B.m ≤ 1000 := by omega
  refine Run.seq ?_
  refine Run.ops hm ?_
  refine Ops.p rfl ?_
  refine Ops.nil ?_
  refine Run.seq ?_
  refine Run.seq ?_
  refine Run.ops hm ?_
  refine Ops.p rfl ?_
  refine Ops.p rfl ?_
  refine Ops.nil ?_
  refine Run.condO rfl h (fun g_118 h => ?_) (fun g_118 h => ?_)
  · skip
    refine Run.seq ?_
    refine Run.ops hm ?_
    refine Ops.p rfl ?_
    refine Ops.nil ?_
    refine Run.ret ?_
    obtain rfl := someO h
    exact Ends.mkG (.inl rfl) rfl (gh_pk [0] [0] hB rfl rfl rfl rfl) rfl rfl
  · skip
    refine Run.skip ?_
    refine Run.seq ?_
    refine Run.seq ?_
    refine Run.ops hm ?_
    refine Ops.p rfl ?_
    refine Ops.p rfl ?_
    refine Ops.nil ?_
    refine Run.condO rfl h (fun g_122 h => ?_) (fun g_122 h => ?_)
    · skip
      refine Run.seq ?_
      refine Run.ops hm ?_
      refine Ops.p rfl ?_
      obtain ⟨y_123, hy_123, h⟩ := bindO h
      refine Ops.st (s := 17400) (Ev.call [0] [] 0 (sem_spec_l01Byte N x_1 _ hy_123) rfl rfl (.cons (.ptr rfl) .nil) rfl (.inl rfl) rfl rfl) rfl rfl ?_
      refine Ops.p rfl ?_
      obtain ⟨x_124, hx_124, h⟩ := bindO h
      refine Ops.st (s := 17432) (.bin rfl rfl hx_124) rfl rfl ?_
      refine Ops.p rfl ?_
      refine Ops.nil ?_
      refine Run.ret ?_
      obtain rfl := someO h
      exact Ends.mkG (.inl rfl) rfl (gh_pk [0] [0] hB rfl rfl rfl rfl) rfl rfl
    · skip
      refine Run.skip ?_
      refine Run.seq ?_
      refine Run.ops hm ?_
      refine Ops.p rfl ?_
      obtain ⟨y_126, hy_126, h⟩ := bindO h
      refine Ops.st (s := 21496) (Ev.call [0] [] 0 (sem_spec_l01Byte N x_1 _ hy_126) rfl rfl (.cons (.ptr rfl) .nil) rfl (.inl rfl) rfl rfl) rfl rfl ?_
      refine Ops.p rfl ?_
      refine Ops.nil ?_
      refine Run.seq ?_
      refine Run.ops hm ?_
      refine Ops.p rfl ?_
      obtain ⟨y_128, hy_128, h⟩ := bindO h
      refine Ops.st (s := 25592) (Ev.call [0] [] 0 (sem_spec_l01Byte N y_126.2 _ hy_128) rfl rfl (.cons (.ptr rfl) .nil) rfl (.inl rfl) rfl rfl) rfl rfl ?_
      refine Ops.p rfl ?_
      refine Ops.nil ?_
      refine Run.seq ?_
      refine Run.ops hm ?_
      refine Ops.p rfl ?_
      obtain ⟨y_130, hy_130, h⟩ := bindO h
      refine Ops.st (s := 29688) (Ev.call [0] [] 0 (sem_spec_l01Byte N y_128.2 _ hy_130) rfl rfl (.cons (.ptr rfl) .nil) rfl (.inl rfl) rfl rfl) rfl rfl ?_
      refine Ops.p rfl ?_
      refine Ops.nil ?_
      refine Run.seq ?_
      refine Run.ops hm ?_
      refine Ops.p rfl ?_
      obtain ⟨y_132, hy_132, h⟩ := bindO h
      refine Ops.st (s := 33784) (Ev.call [0] [] 0 (sem_spec_l01Byte N y_130.2 _ hy_132) rfl rfl (.cons (.ptr rfl) .nil) rfl (.inl rfl) rfl rfl) rfl rfl ?_
      refine Ops.p rfl ?_
      refine Ops.nil ?_
      refine Run.seq ?_
      refine Run.ops hm ?_
      refine Ops.p rfl ?_
      refine Ops.p rfl ?_
      refine Ops.p rfl ?_
      refine Ops.p rfl ?_
      refine Ops.p rfl ?_
      refine Ops.p rfl ?_
      refine Ops.p rfl ?_
      refine Ops.p rfl ?_
      refine Ops.p rfl ?_
      refine Ops.p rfl ?_
      refine Ops.p rfl ?_
      obtain ⟨x_133, hx_133, h⟩ := bindO h
      refine Ops.st (s := 38040) (.bin rfl rfl hx_133) rfl rfl ?_
      refine Ops.p rfl ?_
      refine Ops.nil ?_
      refine Run.ret ?_
      obtain rfl := someO h
      exact Ends.mkG (.inl rfl) rfl (gh_pk [0] [0] hB rfl rfl rfl rfl) rfl rfl
def spec_DrawPlaces_l1 (N : Nat) : Nat → Int → (List Int) → Int → Int → (List Int) → Option ((List Int))
 | 0, _, _, _, _, _ => none
 | m + 1, x_167, x_168, x_169, x_170, x_171 =>
 (if (decide (x_167 < (12 : Int))) = true then
 (spec_l01Below N (Tl01Cur.mk x_168 x_169 x_170) (10000 : Int)).bind fun y_184 =>
 (cat? x_171 ([y_184.1] : List Int)).bind fun x_185 =>
 spec_DrawPlaces_l1 N m (w64 (x_167 + (1 : Int))) y_184.2.b y_184.2.i y_184.2.h x_185
 else
 some x_171)
def spec_DrawPlaces (N : Nat) (x_1 : (List Int)) : Option ((List Int)) :=
 (spec_l01New N x_1).bind fun y_144 =>
 (spec_l01Byte N y_144).bind fun y_146 =>
 joinP (fun (v_166 : (List Int)) =>
 some v_166) fun j_166 =>
 (spec_DrawPlaces_l1 N N (0 : Int) y_146.2.b y_146.2.i y_146.2.h ([] : List Int)).bind (fun (v_178 : (List Int)) => j_166 v_178)
theorem sem_spec_DrawPlaces (N : Nat) (x_1 : (List Int)) (r : (List Int)) (h : spec_DrawPlaces N x_1 = some r) : Says Try.prog 57 [RO 5 (x_1.map encU)] 0 [] (.sl 0 3 0 r.length) [(0, .vec 3 (r.map encI))] := by
  unfold spec_DrawPlaces at h
  refine Says.of_run s57 Try.call57 rfl fun B hB => ?_
  have hm : B.m ≤ 1000 := by omega
  refine Run.seq ?_
  refine Run.ops hm ?_
  refine Ops.p rfl ?_
  refine Ops.nil ?_
  refine Run.seq ?_
  refine Run.ops hm ?_
  refine Ops.p rfl ?_
  obtain ⟨y_144, hy_144, h⟩ := bindO h
  refine Ops.st (s := 5112) (Ev.call [] [] 1 (sem_spec_l01New N x_1 _ hy_144) rfl rfl (.cons (.c _) .nil) rfl (.inl rfl) rfl rfl) rfl rfl ?_
  refine Ops.p rfl ?_
  refine Ops.nil ?_
  refine Run.seq ?_
  refine Run.ops hm ?_
  refine Ops.p rfl ?_
  obtain ⟨y_146, hy_146, h⟩ := bindO h
  refine Ops.st (s := 9208) (Ev.call [5112] [] 0 (sem_spec_l01Byte N y_144 _ hy_146) rfl rfl (.cons (.ptr rfl) .nil) rfl (.inl rfl) rfl rfl) rfl rfl ?_
  refine Ops.nil ?_
  refine Run.seq ?_
  refine Run.ops hm ?_
  refine Ops.st (s := 13288) (Ev.bsW (ys := ([] : List Int)) (f := encI) rfl .nil rfl rfl rfl rfl rfl) rfl rfl ?_
  refine Ops.p rfl ?_
  refine Ops.nil ?_
  refine Run.seqO h (fun (v_166 : (List Int)) => [(4, .sl 0 3 0 v_166.length)]) (fun (v_166 : (List Int)) => [(0, .vec 3 (v_166.map encI))]) (fun h => ?_) (fun v_166 h => ?_)
  · skip
    refine Run.seq ?_
    refine Run.ops hm ?_
    refine Ops.p rfl ?_
    refine Ops.nil ?_
    refine Run.block ?_
    obtain ⟨res_178, h, hk_178⟩ := bindO h
    refine Run.loop (n := N) (fun m_178 fr σ => ∃ (x_167 : Int), ∃ (x_168 : (List Int)), ∃ (x_169 : Int), ∃ (x_170 : Int), ∃ (x_171 : (List Int)), spec_DrawPlaces_l1 N m_178 x_167 x_168 x_169 x_170 x_171 = some res_178 ∧ fr = [(3, .ptr 0 0), (4, .sl 1 3 0 x_171.length), (5, VI x_167)] ∧ σ = [(0, .box [RO 5 (x_168.map encU), VI x_169, VI x_170]), (1, .vec 3 (x_171.map encI))]) (gh_pk [3, 4, 5] [5112, 13288] hB rfl rfl rfl rfl) ⟨_, _, _, _, _, h, rfl, rfl⟩ ?_
    rintro m_178 fr σ ⟨x_167, x_168, x_169, x_170, x_171, h, rfl, rfl⟩
    obtain _ | m_178 := m_178
    · rw [spec_DrawPlaces_l1] at h; cases h
    rw [spec_DrawPlaces_l1] at h
    refine Run.seq ?_
    refine Run.seq ?_
    refine Run.ops hm ?_
    refine Ops.p rfl ?_
    refine Ops.p rfl ?_
    refine Ops.nil ?_
    refine Run.condO rfl h (fun g_181 h => ?_) (fun g_181 h => ?_)
    · skip
      refine Run.skip ?_
      refine Run.seq ?_
      refine Run.block ?_
      refine Run.ops hm ?_
      refine Ops.p rfl ?_
      refine Ops.p rfl ?_
      obtain ⟨y_184, hy_184, h⟩ := bindO h
      refine Ops.st (s := 29704) (Ev.call [0] [] 0 (sem_spec_l01Below N (Tl01Cur.mk x_168 x_169 x_170) (10000 : Int) _ hy_184) rfl rfl (.cons (.ptr rfl) (.cons (.c _) .nil)) rfl (.inl rfl) rfl rfl) rfl rfl ?_
      refine Ops.st (s := 29720) (Ev.bsW (ys := ([y_184.1] : List Int)) (f := encI) rfl (.cons (.c _) .nil) rfl rfl rfl rfl rfl) rfl rfl ?_
      obtain ⟨x_185, hx_185, h⟩ := bindO h
      refine Ops.st (s := 29736) (Ev.apW (f := encI) (ontoW rfl rfl rfl) (addsW rfl rfl rfl (fun _ => rfl)) rfl bt3 rfl hx_185) rfl rfl ?_
      refine Ops.p rfl ?_
      refine Ops.nil ?_
      refine Run.ops hm ?_
      refine Ops.p rfl ?_
      refine Ops.p rfl ?_
      refine Ops.p rfl ?_
      refine Ops.nil ?_
      exact ⟨m_178, Nat.lt_succ_self m_178, _, _, (gh_pk [3, 4, 5] [0, 29736] hB rfl rfl rfl rfl), _, _, _, _, _, h, rfl, rfl⟩
    · skip
      refine Run.exit ?_
      obtain rfl := someO h
      have h := hk_178
      exact ⟨_, _, (gh_pk [4] [1] hB rfl rfl rfl rfl), x_171, h, rfl, rfl⟩
  · skip
    refine Run.seq ?_
    refine Run.ops hm ?_
    refine Ops.p rfl ?_
    refine Ops.p rfl ?_
    refine Ops.nil ?_
    refine Run.ret ?_
    obtain rfl := someO h
    exact Ends.mkG (.inl rfl) rfl (gh_pk [0] [0] hB rfl rfl rfl rfl) rfl rfl
def impl_within (N : Nat) (x_1 : Int) (x_2 : Int) (x_3 : Int) : Option (Bool) :=
 (if (decide (x_1 ≥ x_2)) = true then
 some (decide (x_1 ≤ x_3))
 else
 some false)
theorem sem_impl_within (N : Nat) (x_1 : Int) (x_2 : Int) (x_3 : Int) (r : Bool) (h : impl_within N x_1 x_2 x_3 = some r) : Says Try.prog 98 [VI x_1, VI x_2, VI x_3] 0 [] (VB r) [] := by
  unfold impl_within at h
  refine Says.of_run s98 Try.call98 rfl fun B hB => ?_
  have hm : B.m ≤ 1000 := by omega
  refine Run.seq ?_
  refine Run.ops hm ?_
  refine Ops.p rfl ?_
  refine Ops.nil ?_
  refine Run.seq ?_
  refine Run.ops hm ?_
  refine Ops.p rfl ?_
  refine Ops.p rfl ?_
  refine Ops.p rfl ?_
  refine Ops.p rfl ?_
  refine Ops.askO (x := .t 10) rfl h (fun g_101 h => ?_) (fun g_101 h => ?_)
  · skip
    refine Ops.gp rfl g_101 rfl ?_
    refine Ops.gp rfl g_101 rfl ?_
    refine Ops.gp rfl g_101 rfl ?_
    refine Ops.st (s := 5208) (.pkT rfl g_101 rfl) rfl rfl ?_
    refine Ops.p rfl ?_
    refine Ops.nil ?_
    refine Run.ret ?_
    obtain rfl := someO h
    exact Ends.mkG (.inl rfl) rfl (gh_pk [0] [] hB rfl rfl rfl rfl) rfl rfl
  · skip
    refine Ops.gn rfl g_101 ?_
    refine Ops.gn rfl g_101 ?_
    refine Ops.gn rfl g_101 ?_
    refine Ops.st (s := 5208) (.pkF rfl g_101 rfl) rfl rfl ?_
    refine Ops.p rfl ?_
    refine Ops.nil ?_
    refine Run.ret ?_
    obtain rfl := someO h
    exact Ends.mkG (.inl rfl) rfl (gh_pk [0] [] hB rfl rfl rfl rfl) rfl rfl
def impl_ConfOk_l1 (N : Nat) (x_1 : (List Int)) : Nat → Int → Option ((Bool) ⊕ (Unit))
 | 0, _ => none
 | m + 1, x_181 =>
 (if (decide (x_181 < (x_1.length : Int))) = true then
 (at? x_1 x_181).bind fun x_197 =>
 (impl_within N x_197 (1 : Int) (4 : Int)).bind fun y_198 =>
 (if (!y_198) = true then
 some (Sum.inl false)
 else
 (if (decide (x_181 > (0 : Int))) = true then
 (at? x_1 (w64 (x_181 - (1 : Int)))).bind fun x_201 =>
 (if (decide (x_201 ≥ x_197)) = true then
 some (Sum.inl false)
 else
 impl_ConfOk_l1 N x_1 m (w64 (x_181 + (1 : Int))))
 else
 impl_ConfOk_l1 N x_1 m (w64 (x_181 + (1 : Int)))))
 else
 some (Sum.inr ()))
def impl_ConfOk_l1_r (N : Nat) (x_1 : (List Int)) : (List Int) → Int → Option ((Bool) ⊕ (Unit))
 | [], x_181 =>
 some (Sum.inr ())
 | hd :: tl, x_181 =>
 (some hd).bind fun x_197 =>
 (impl_within N x_197 (1 : Int) (4 : Int)).bind fun y_198 =>
 (if (!y_198) = true then
 some (Sum.inl false)
 else
 (if (decide (x_181 > (0 : Int))) = true then
 (at? x_1 (w64 (x_181 - (1 : Int)))).bind fun x_201 =>
 (if (decide (x_201 ≥ x_197)) = true then
 some (Sum.inl false)
 else
 impl_ConfOk_l1_r N x_1 tl (w64 (x_181 + (1 : Int))))
 else
 impl_ConfOk_l1_r N x_1 tl (w64 (x_181 + (1 : Int)))))
theorem impl_ConfOk_l1_rng (N : Nat) (x_1 : (List Int)) (hx : x_1.length ≤ 1099511627776) : ∀ (d k m : Nat), x_1.length = k + d → d < m → impl_ConfOk_l1 N x_1 m (k : Int) = impl_ConfOk_l1_r N x_1 (x_1.drop k) (k : Int) := by
  intro d
  induction d with
  | zero =>
    intro k m hd hm
    obtain ⟨m, rfl⟩ : ∃ q, m = q + 1 := ⟨m - 1, by omega⟩
    rw [impl_ConfOk_l1, if_neg (by simp; omega), List.drop_eq_nil_of_le (by omega), impl_ConfOk_l1_r]
  | succ d ih =>
    intro k m hd hm
    obtain ⟨m, rfl⟩ : ∃ q, m = q + 1 := ⟨m - 1, by omega⟩
    have hk : k < x_1.length := by omega
    rw [impl_ConfOk_l1, if_pos (by simp; omega), List.drop_eq_getElem_cons hk, impl_ConfOk_l1_r]
    have h1 := at_lt hk
    have h2 := w64_succ (k := k) (by omega)
    have h3 := ih (k + 1) m
    simp only [h1, h2, h3 (by omega) (by omega)]
theorem impl_ConfOk_l1_eq {N : Nat} (x_1 : (List Int)) (hx : x_1.length ≤ 1099511627776) (hN : x_1.length < N) : impl_ConfOk_l1 N x_1 N 0 = impl_ConfOk_l1_r N x_1 x_1 0 := impl_ConfOk_l1_rng N x_1 hx x_1.length 0 N (by omega) hN
def impl_ConfOk (N : Nat) (x_1 : (List Int)) : Option (Bool) :=
 joinP (fun (v_177 : Unit) =>
 (impl_within N (x_1.length : Int) (1 : Int) (4 : Int)).bind fun y_203 =>
 some y_203) fun j_177 =>
 (impl_ConfOk_l1 N x_1 N (0 : Int)).bind (Sum.elim (fun v_191 => some v_191) (fun (v_192 : Unit) => j_177 ()))
theorem sem_impl_ConfOk (N : Nat) (x_1 : (List Int)) (r : Bool) (h : impl_ConfOk N x_1 = some r) : Says Try.prog 100 [RO 3 (x_1.map encI)] 0 [] (VB r) [] := by
  unfold impl_ConfOk at h
  refine Says.of_run s100 Try.call100 rfl fun B hB => ?_
  have hm : B.m ≤ 1000 := by omega
  refine Run.seq ?_
  refine Run.ops hm ?_
  refine Ops.p rfl ?_
  refine Ops.nil ?_
  refine Run.seqO h (fun (v_177 : Unit) => [(0, RO 3 (x_1.map encI))]) (fun (v_177 : Unit) => []) (fun h => ?_) (fun v_177 h => ?_)
  · skip
    refine Run.seq ?_
    refine Run.ops hm ?_
    refine Ops.p rfl ?_
    refine Ops.st (s := 5112) (Ev.lnF rfl) rfl rfl ?_
    refine Ops.p rfl ?_
    refine Ops.nil ?_
    refine Run.block ?_
    obtain ⟨res_192, h, hk_192⟩ := bindO h
    refine Run.loop (n := N) (fun m_192 fr σ => ∃ (x_181 : Int), impl_ConfOk_l1 N x_1 m_192 x_181 = some res_192 ∧ fr = [(0, RO 3 (x_1.map encI)), (5, RO 3 (x_1.map encI)), (6, VI (x_1.length : Int)), (7, VI x_181)] ∧ σ = []) (gh_pk [0, 5, 6, 7] [] hB rfl rfl rfl rfl) ⟨_, h, rfl, rfl⟩ ?_
    rintro m_192 fr σ ⟨x_181, h, rfl, rfl⟩
    obtain _ | m_192 := m_192
    · rw [impl_ConfOk_l1] at h; cases h
    rw [impl_ConfOk_l1] at h
    refine Run.seq ?_
    refine Run.ops hm ?_
    refine Ops.p rfl ?_
    refine Ops.nil ?_
    refine Run.seq ?_
    refine Run.condO rfl h (fun g_195 h => ?_) (fun g_195 h => ?_)
    · skip
      refine Run.skip ?_
      refine Run.seq ?_
      refine Run.block ?_
      refine Run.seq ?_
      refine Run.ops hm ?_
      refine Ops.p rfl ?_
      obtain ⟨x_197, hx_197, h⟩ := bindO h
      refine Ops.st (s := 13304) (Ev.iaF rfl rfl hx_197) rfl rfl ?_
      refine Ops.p rfl ?_
      refine Ops.p rfl ?_
      refine Ops.p rfl ?_
      refine Ops.nil ?_
      refine Run.seq ?_
      refine Run.ops hm ?_
      refine Ops.p rfl ?_
      obtain ⟨y_198, hy_198, h⟩ := bindO h
      refine Ops.st (s := 17400) (Ev.call [] [] 0 (sem_impl_within N x_197 (1 : Int) (4 : Int) _ hy_198) rfl rfl (.cons (.c _) (.cons (.c _) (.cons (.c _) .nil))) rfl (.inl rfl) rfl rfl) rfl rfl ?_
      refine Ops.p rfl ?_
      refine Ops.p rfl ?_
      refine Ops.askO (x := .t 15) rfl h (fun g_199 h => ?_) (fun g_199 h => ?_)
      · skip
        refine Ops.gn rfl g_199 ?_
        refine Ops.gn rfl g_199 ?_
        refine Ops.gn rfl g_199 ?_
        refine Ops.gu rfl ?_
        refine Ops.gu rfl ?_
        refine Ops.gu rfl ?_
        refine Ops.gu rfl ?_
        refine Ops.gu rfl ?_
        refine Ops.gu rfl ?_
        refine Ops.gu rfl ?_
        refine Ops.gn rfl g_199 ?_
        refine Ops.st (s := 17624) (.pkT rfl g_199 rfl) rfl rfl ?_
        refine Ops.nil ?_
        refine Run.condT rfl rfl ?_
        refine Run.seq ?_
        refine Run.ops hm ?_
        refine Ops.p rfl ?_
        refine Ops.nil ?_
        refine Run.ret ?_
        obtain rfl := someO h
        have h := hk_192
        replace h := inlO h
        obtain rfl := someO h
        exact Ends.mkG (.inl rfl) rfl (gh_pk [0] [] hB rfl rfl rfl rfl) rfl rfl
      · skip
        refine Ops.gp rfl g_199 rfl ?_
        refine Ops.gp rfl g_199 rfl ?_
        refine Ops.gp rfl g_199 rfl ?_
        refine Ops.askO (x := .t 18) rfl h (fun g_200 h => ?_) (fun g_200 h => ?_)
        · skip
          refine Ops.gp rfl g_200 rfl ?_
          refine Ops.gp rfl g_200 rfl ?_
          refine Ops.gp rfl g_200 rfl ?_
          obtain ⟨x_201, hx_201, h⟩ := bindO h
          refine Ops.gs (s := 17544) rfl g_200 (Ev.iaF rfl rfl hx_201) rfl rfl ?_
          refine Ops.gp rfl g_200 rfl ?_
          refine Ops.gp rfl g_200 rfl ?_
          refine Ops.gp rfl g_200 rfl ?_
          refine Ops.gs (s := 17608) rfl g_199 (.pkT rfl g_200 rfl) rfl rfl ?_
          refine Ops.st (s := 17624) (.pkF rfl g_199 rfl) rfl rfl ?_
          refine Ops.nil ?_
          refine Run.condO rfl h (fun g_202 h => ?_) (fun g_202 h => ?_)
          · skip
            refine Run.seq ?_
            refine Run.ops hm ?_
            refine Ops.p rfl ?_
            refine Ops.nil ?_
            refine Run.ret ?_
            obtain rfl := someO h
            have h := hk_192
            replace h := inlO h
            obtain rfl := someO h
            exact Ends.mkG (.inl rfl) rfl (gh_pk [0] [] hB rfl rfl rfl rfl) rfl rfl
          · skip
            refine Run.skip ?_
            refine Run.ops hm ?_
            refine Ops.p rfl ?_
            refine Ops.p rfl ?_
            refine Ops.nil ?_
            exact ⟨m_192, Nat.lt_succ_self m_192, _, _, (gh_pk [0, 5, 6, 7] [] hB rfl rfl rfl rfl), _, h, rfl, rfl⟩
        · skip
          refine Ops.gn rfl g_200 ?_
          refine Ops.gn rfl g_200 ?_
          refine Ops.gn rfl g_200 ?_
          refine Ops.gn rfl g_200 ?_
          refine Ops.gn rfl g_200 ?_
          refine Ops.gn rfl g_200 ?_
          refine Ops.gn rfl g_200 ?_
          refine Ops.gs (s := 17608) rfl g_199 (.pkF rfl g_200 rfl) rfl rfl ?_
          refine Ops.st (s := 17624) (.pkF rfl g_199 rfl) rfl rfl ?_
          refine Ops.nil ?_
          refine Run.condF rfl rfl ?_
          refine Run.skip ?_
          refine Run.ops hm ?_
          refine Ops.p rfl ?_
          refine Ops.p rfl ?_
          refine Ops.nil ?_
          exact ⟨m_192, Nat.lt_succ_self m_192, _, _, (gh_pk [0, 5, 6, 7] [] hB rfl rfl rfl rfl), _, h, rfl, rfl⟩
    · skip
      refine Run.exit ?_
      obtain rfl := someO h
      have h := hk_192
      replace h := inrO h
      exact ⟨_, _, (gh_pk [0] [] hB rfl rfl rfl rfl), (), h, rfl, rfl⟩
  · skip
    refine Run.seq ?_
    refine Run.ops hm ?_
    refine Ops.p rfl ?_
    refine Ops.st (s := 29688) (Ev.lnF rfl) rfl rfl ?_
    obtain ⟨y_203, hy_203, h⟩ := bindO h
    refine Ops.st (s := 29704) (Ev.call [] [] 0 (sem_impl_within N (x_1.length : Int) (1 : Int) (4 : Int) _ hy_203) rfl rfl (.cons (.c _) (.cons (.c _) (.cons (.c _) .nil))) rfl (.inl rfl) rfl rfl) rfl rfl ?_
    refine Ops.p rfl ?_
    refine Ops.nil ?_
    refine Run.ret ?_
    obtain rfl := someO h
    exact Ends.mkG (.inl rfl) rfl (gh_pk [0] [] hB rfl rfl rfl rfl) rfl rfl
def impl_ReadConf_l1 (N : Nat) (x_1 : ByteArray) : Nat → Int → (List Int) → Option ((List Int))
 | 0, _, _ => none
 | m + 1, x_158, x_159 =>
 (if (decide (x_158 < (x_1.size : Int))) = true then
 (sat? x_1 x_158).bind fun x_172 =>
 (cat? x_159 ([w64 (x_172)] : List Int)).bind fun x_173 =>
 impl_ReadConf_l1 N x_1 m (w64 (x_158 + (1 : Int))) x_173
 else
 some x_159)
def impl_ReadConf (N : Nat) (x_1 : ByteArray) : Option ((List Int) × Bool) :=
 joinP (fun (v_156 : (List Int)) =>
 (impl_ConfOk N v_156).bind fun y_176 =>
 (if (!y_176) = true then
 some ([], false)
 else
 some (v_156, true))) fun j_156 =>
 (impl_ReadConf_l1 N x_1 N (0 : Int) ([] : (List Int))).bind (fun (v_166 : (List Int)) => j_156 v_166)
theorem sem_impl_ReadConf (N : Nat) (x_1 : ByteArray) (r : (List Int) × Bool) (h : impl_ReadConf N x_1 = some r) : Says Try.prog 108 [VS x_1] 0 [] (.tup [.sl 0 3 0 r.1.length, VB r.2]) [(0, .vec 3 (r.1.map encI))] := by
  unfold impl_ReadConf at h
  refine Says.of_run s108 Try.call108 rfl fun B hB => ?_
  have hm : B.m ≤ 1000 := by omega
  refine Run.seq ?_
  refine Run.ops hm ?_
  refine Ops.p rfl ?_
  refine Ops.p rfl ?_
  refine Ops.nil ?_
  refine Run.seq ?_
  refine Run.ops hm ?_
  refine Ops.p rfl ?_
  refine Ops.nil ?_
  refine Run.seqO h (fun (v_156 : (List Int)) => [(4, .sl 0 3 0 v_156.length)]) (fun (v_156 : (List Int)) => [(0, .vec 3 (v_156.map encI))]) (fun h => ?_) (fun v_156 h => ?_)
  · skip
    refine Run.seq ?_
    refine Run.ops hm ?_
    refine Ops.p rfl ?_
    refine Ops.nil ?_
    refine Run.block ?_
    obtain ⟨res_166, h, hk_166⟩ := bindO h
    refine Run.loop (n := N) (fun m_166 fr σ => ∃ (x_158 : Int), ∃ (x_159 : (List Int)), impl_ReadConf_l1 N x_1 m_166 x_158 x_159 = some res_166 ∧ fr = [(0, VS x_1), (4, .sl 0 3 0 x_159.length), (5, VI x_158)] ∧ σ = [(0, .vec 3 (x_159.map encI))]) (Gh.trans (Gh.trans (gh_prn [0, 4, 5] [] hB rfl) (gh_nil [4] [] hB rfl rfl rfl)) (gh_pk [0, 4, 5] [10000000] hB rfl rfl rfl rfl)) ⟨_, _, h, rfl, rfl⟩ ?_
    rintro m_166 fr σ ⟨x_158, x_159, h, rfl, rfl⟩
    obtain _ | m_166 := m_166
    · rw [impl_ReadConf_l1] at h; cases h
    rw [impl_ReadConf_l1] at h
    refine Run.seq ?_
    refine Run.seq ?_
    refine Run.ops hm ?_
    refine Ops.p rfl ?_
    refine Ops.p rfl ?_
    refine Ops.p rfl ?_
    refine Ops.p rfl ?_
    refine Ops.nil ?_
    refine Run.condO rfl h (fun g_169 h => ?_) (fun g_169 h => ?_)
    · skip
      refine Run.skip ?_
      refine Run.seq ?_
      refine Run.block ?_
      refine Run.ops hm ?_
      refine Ops.p rfl ?_
      refine Ops.p rfl ?_
      refine Ops.p rfl ?_
      obtain ⟨x_172, hx_172, h⟩ := bindO h
      refine Ops.st (s := 21528) (Ev.ixS rfl rfl hx_172) rfl rfl ?_
      refine Ops.p rfl ?_
      refine Ops.st (s := 21560) (Ev.bsW (ys := ([w64 (x_172)] : List Int)) (f := encI) rfl (.cons (.c _) .nil) rfl rfl rfl rfl rfl) rfl rfl ?_
      obtain ⟨x_173, hx_173, h⟩ := bindO h
      refine Ops.st (s := 21576) (Ev.apW (f := encI) (ontoW rfl rfl rfl) (addsW rfl rfl rfl (fun _ => rfl)) rfl bt3 rfl hx_173) rfl rfl ?_
      refine Ops.p rfl ?_
      refine Ops.nil ?_
      refine Run.ops hm ?_
      refine Ops.p rfl ?_
      refine Ops.p rfl ?_
      refine Ops.p rfl ?_
      refine Ops.nil ?_
      exact ⟨m_166, Nat.lt_succ_self m_166, _, _, (gh_pk [0, 4, 5] [21576] hB rfl rfl rfl rfl), _, _, h, rfl, rfl⟩
    · skip
      refine Run.exit ?_
      obtain rfl := someO h
      have h := hk_166
      exact ⟨_, _, (gh_pk [4] [0] hB rfl rfl rfl rfl), x_159, h, rfl, rfl⟩
  · skip
    refine Run.seq ?_
    refine Run.seq ?_
    refine Run.ops hm ?_
    refine Ops.p rfl ?_
    obtain ⟨y_176, hy_176, h⟩ := bindO h
    refine Ops.st (s := 25592) (Ev.call [] [0] 0 (sem_impl_ConfOk N v_156 _ hy_176) rfl rfl (.cons (.borrow rfl (by decide) (lendW (fun _ => rfl) _ rfl)) .nil) rfl (.inr ⟨rfl, ownL_root trivial⟩) rfl rfl) rfl rfl ?_
    refine Ops.p rfl ?_
    refine Ops.nil ?_
    refine Run.condO rfl h (fun g_177 h => ?_) (fun g_177 h => ?_)
    · skip
      refine Run.seq ?_
      refine Run.ops hm ?_
      refine Ops.p rfl ?_
      refine Ops.p rfl ?_
      refine Ops.nil ?_
      refine Run.ret ?_
      obtain rfl := someO h
      exact Ends.mkG (.inl rfl) rfl (Gh.trans (Gh.trans (gh_prn [0, 1] [] hB rfl) (gh_nil [0] [] hB rfl rfl rfl)) (gh_pk [0, 1] [10000000] hB rfl rfl rfl rfl)) rfl rfl
    · skip
      refine Run.skip ?_
      refine Run.seq ?_
      refine Run.ops hm ?_
      refine Ops.p rfl ?_
      refine Ops.p rfl ?_
      refine Ops.p rfl ?_
      refine Ops.nil ?_
      refine Run.ret ?_
      obtain rfl := someO h
      exact Ends.mkG (.inl rfl) rfl (gh_pk [0, 1] [0] hB rfl rfl rfl rfl) rfl rfl
def impl_EntryOk (N : Nat) (x_1 : Entry) : Option (Bool) :=
 (impl_within N x_1.Term (0 : Int) (100000 : Int)).bind fun y_111 =>
 (if (!y_111) = true then
 some false
 else
 (if (x_1.Kind == (1 : Int)) = true then
 some (decide (x_1.Data = (⟨#[]⟩ : ByteArray)))
 else
 (if (x_1.Kind == (2 : Int)) = true then
 (impl_ReadConf N x_1.Data).bind fun y_116 =>
 some y_116.2
 else
 (if (x_1.Kind == (3 : Int)) = true then
 some (decide ((x_1.Data.size : Int) ≤ (120 : Int)))
 else
 some false))))
theorem sem_impl_EntryOk (N : Nat) (x_1 : Entry) (r : Bool) (h : impl_EntryOk N x_1 = some r) : Says Try.prog 124 [.agg [VI x_1.Term, VI x_1.Kind, VS x_1.Data]] 0 [] (VB r) [] := by
  unfold impl_EntryOk at h
  refine Says.of_run s124 Try.call124 rfl fun B hB => ?_
  have hm : B.m ≤ 1000 := by omega
  refine Run.seq ?_
  refine Run.ops hm ?_
  refine Ops.st (s := 1000) (.bx rfl rfl) rfl rfl ?_
  refine Ops.p rfl ?_
  refine Ops.nil ?_
  refine Run.seq ?_
  refine Run.seq ?_
  refine Run.ops hm ?_
  refine Ops.p rfl ?_
  refine Ops.p rfl ?_
  obtain ⟨y_111, hy_111, h⟩ := bindO h
  refine Ops.st (s := 5128) (Ev.call [] [] 0 (sem_impl_within N x_1.Term (0 : Int) (100000 : Int) _ hy_111) rfl rfl (.cons (.c _) (.cons (.c _) (.cons (.c _) .nil))) rfl (.inl rfl) rfl rfl) rfl rfl ?_
  refine Ops.p rfl ?_
  refine Ops.nil ?_
  refine Run.condO rfl h (fun g_112 h => ?_) (fun g_112 h => ?_)
  · skip
    refine Run.seq ?_
    refine Run.ops hm ?_
    refine Ops.p rfl ?_
    refine Ops.nil ?_
    refine Run.ret ?_
    obtain rfl := someO h
    exact Ends.mkG (.inl rfl) rfl (gh_pk [0] [] hB rfl rfl rfl rfl) rfl rfl
  · skip
    refine Run.skip ?_
    refine Run.seq ?_
    refine Run.seq ?_
    refine Run.ops hm ?_
    refine Ops.p rfl ?_
    refine Ops.p rfl ?_
    refine Ops.nil ?_
    refine Run.block ?_
    refine Run.seq ?_
    refine Run.ops hm ?_
    refine Ops.p rfl ?_
    refine Ops.p rfl ?_
    refine Ops.nil ?_
    refine Run.condO rfl h (fun g_113 h => ?_) (fun g_113 h => ?_)
    · skip
      refine Run.seq ?_
      refine Run.ops hm ?_
      refine Ops.p rfl ?_
      refine Ops.p rfl ?_
      refine Ops.p rfl ?_
      refine Ops.p rfl ?_
      refine Ops.nil ?_
      refine Run.ret ?_
      obtain rfl := someO h
      exact Ends.mkG (.inl rfl) rfl (gh_pk [0] [] hB rfl rfl rfl rfl) rfl rfl
    · skip
      refine Run.seq ?_
      refine Run.ops hm ?_
      refine Ops.p rfl ?_
      refine Ops.p rfl ?_
      refine Ops.nil ?_
      refine Run.condO rfl h (fun g_114 h => ?_) (fun g_114 h => ?_)
      · skip
        refine Run.seq ?_
        refine Run.ops hm ?_
        refine Ops.p rfl ?_
        refine Ops.p rfl ?_
        obtain ⟨y_116, hy_116, h⟩ := bindO h
        refine Ops.st (s := 29704) (Ev.call [] [] 1 (sem_impl_ReadConf N x_1.Data _ hy_116) rfl rfl (.cons (.c _) .nil) rfl (.inl rfl) rfl rfl) rfl rfl ?_
        refine Ops.p rfl ?_
        refine Ops.p rfl ?_
        refine Ops.p rfl ?_
        refine Ops.p rfl ?_
        refine Ops.p rfl ?_
        refine Ops.nil ?_
        refine Run.seq ?_
        refine Run.ops hm ?_
        refine Ops.p rfl ?_
        refine Ops.p rfl ?_
        refine Ops.nil ?_
        refine Run.ret ?_
        obtain rfl := someO h
        exact Ends.mkG (.inl rfl) rfl (gh_pk [0] [] hB rfl rfl rfl rfl) rfl rfl
      · skip
        refine Run.seq ?_
        refine Run.ops hm ?_
        refine Ops.p rfl ?_
        refine Ops.p rfl ?_
        refine Ops.nil ?_
        refine Run.condO rfl h (fun g_117 h => ?_) (fun g_117 h => ?_)
        · skip
          refine Run.seq ?_
          refine Run.ops hm ?_
          refine Ops.p rfl ?_
          refine Ops.p rfl ?_
          refine Ops.p rfl ?_
          refine Ops.p rfl ?_
          refine Ops.p rfl ?_
          refine Ops.nil ?_
          refine Run.ret ?_
          obtain rfl := someO h
          exact Ends.mkG (.inl rfl) rfl (gh_pk [0] [] hB rfl rfl rfl rfl) rfl rfl
        · skip
          refine Run.skip ?_
          refine Run.seq ?_
          refine Run.ops hm ?_
          refine Ops.p rfl ?_
          refine Ops.nil ?_
          refine Run.ret ?_
          obtain rfl := someO h
          exact Ends.mkG (.inl rfl) rfl (gh_pk [0] [] hB rfl rfl rfl rfl) rfl rfl
def impl_LogOk_l1 (N : Nat) (x_1 : Log) : Nat → Int → Int → Option ((Bool) ⊕ (Unit))
 | 0, _, _ => none
 | m + 1, x_207, x_210 =>
 (if (decide (x_210 < (x_1.Entries.length : Int))) = true then
 (at? x_1.Entries x_210).bind fun x_227 =>
 (impl_EntryOk N x_227).bind fun y_231 =>
 (if (!y_231) = true then
 some (Sum.inl false)
 else
 (if (decide (x_227.Term < x_207)) = true then
 some (Sum.inl false)
 else
 impl_LogOk_l1 N x_1 m x_227.Term (w64 (x_210 + (1 : Int)))))
 else
 some (Sum.inr ()))
def impl_LogOk_l1_r (N : Nat) (x_1 : Log) : (List Entry) → Int → Int → Option ((Bool) ⊕ (Unit))
 | [], x_207, x_210 =>
 some (Sum.inr ())
 | hd :: tl, x_207, x_210 =>
 (some hd).bind fun x_227 =>
 (impl_EntryOk N x_227).bind fun y_231 =>
 (if (!y_231) = true then
 some (Sum.inl false)
 else
 (if (decide (x_227.Term < x_207)) = true then
 some (Sum.inl false)
 else
 impl_LogOk_l1_r N x_1 tl x_227.Term (w64 (x_210 + (1 : Int)))))
theorem impl_LogOk_l1_rng (N : Nat) (x_1 : Log) (hx : x_1.Entries.length ≤ 1099511627776) : ∀ (d k m : Nat) (x_207 : Int), x_1.Entries.length = k + d → d < m → impl_LogOk_l1 N x_1 m x_207 (k : Int) = impl_LogOk_l1_r N x_1 (x_1.Entries.drop k) x_207 (k : Int) := by
  intro d
  induction d with
  | zero =>
    intro k m x_207 hd hm
    obtain ⟨m, rfl⟩ : ∃ q, m = q + 1 := ⟨m - 1, by omega⟩
    rw [impl_LogOk_l1, if_neg (by simp; omega), List.drop_eq_nil_of_le (by omega), impl_LogOk_l1_r]
  | succ d ih =>
    intro k m x_207 hd hm
    obtain ⟨m, rfl⟩ : ∃ q, m = q + 1 := ⟨m - 1, by omega⟩
    have hk : k < x_1.Entries.length := by omega
    rw [impl_LogOk_l1, if_pos (by simp; omega), List.drop_eq_getElem_cons hk, impl_LogOk_l1_r]
    have h1 := at_lt hk
    have h2 := w64_succ (k := k) (by omega)
    have h3 := ih (k + 1) m
    simp only [h1, h2, h3 _ (by omega) (by omega)]
theorem impl_LogOk_l1_eq {N : Nat} (x_1 : Log) (hx : x_1.Entries.length ≤ 1099511627776) (hN : x_1.Entries.length < N) (x_207 : Int) : impl_LogOk_l1 N x_1 N x_207 0 = impl_LogOk_l1_r N x_1 x_1.Entries x_207 0 := impl_LogOk_l1_rng N x_1 hx x_1.Entries.length 0 N x_207 (by omega) hN
def impl_LogOk (N : Nat) (x_1 : Log) : Option (Bool) :=
 (impl_within N x_1.Start (0 : Int) (100000 : Int)).bind fun y_173 =>
 (if (!y_173) = true then
 some false
 else
 (impl_within N x_1.StartTerm (0 : Int) (100000 : Int)).bind fun y_175 =>
 (if (!y_175) = true then
 some false
 else
 (if (decide ((x_1.Entries.length : Int) > (120 : Int))) = true then
 some false
 else
 (if (decide ((w64 (x_1.Start + (x_1.Entries.length : Int))) > (100000 : Int))) = true then
 some false
 else
 joinP (fun (v_206 : Unit) =>
 some true) fun j_206 =>
 (impl_LogOk_l1 N x_1 N x_1.StartTerm (0 : Int)).bind (Sum.elim (fun v_221 => some v_221) (fun (v_222 : Unit) => j_206 ()))))))
theorem sem_impl_LogOk (N : Nat) (x_1 : Log) (r : Bool) (h : impl_LogOk N x_1 = some r) : Says Try.prog 89 [.agg [VI x_1.Start, VI x_1.StartTerm, RO 48 (x_1.Entries.map encEntry)]] 0 [] (VB r) [] := by
  unfold impl_LogOk at h
  refine Says.of_run s89 Try.call89 rfl fun B hB => ?_
  have hm : B.m ≤ 1000 := by omega
  refine Run.seq ?_
  refine Run.ops hm ?_
  refine Ops.st (s := 1000) (.bx rfl rfl) rfl rfl ?_
  refine Ops.p rfl ?_
  refine Ops.nil ?_
  refine Run.seq ?_
  refine Run.seq ?_
  refine Run.ops hm ?_
  refine Ops.p rfl ?_
  refine Ops.p rfl ?_
  obtain ⟨y_173, hy_173, h⟩ := bindO h
  refine Ops.st (s := 5128) (Ev.call [] [] 0 (sem_impl_within N x_1.Start (0 : Int) (100000 : Int) _ hy_173) rfl rfl (.cons (.c _) (.cons (.c _) (.cons (.c _) .nil))) rfl (.inl rfl) rfl rfl) rfl rfl ?_
  refine Ops.p rfl ?_
  refine Ops.p rfl ?_
  refine Ops.askO (x := .t 10) rfl h (fun g_174 h => ?_) (fun g_174 h => ?_)
  · skip
    refine Ops.gn rfl g_174 ?_
    refine Ops.gn rfl g_174 ?_
    refine Ops.gn rfl g_174 ?_
    refine Ops.gn rfl g_174 ?_
    refine Ops.st (s := 5240) (.pkT rfl g_174 rfl) rfl rfl ?_
    refine Ops.p rfl ?_
    refine Ops.gn rfl rfl ?_
    refine Ops.gn rfl rfl ?_
    refine Ops.gn rfl rfl ?_
    refine Ops.gn rfl rfl ?_
    refine Ops.st (s := 5336) (.pkT rfl rfl rfl) rfl rfl ?_
    refine Ops.p rfl ?_
    refine Ops.gn rfl rfl ?_
    refine Ops.gn rfl rfl ?_
    refine Ops.gn rfl rfl ?_
    refine Ops.gn rfl rfl ?_
    refine Ops.gn rfl rfl ?_
    refine Ops.gn rfl rfl ?_
    refine Ops.gn rfl rfl ?_
    refine Ops.st (s := 5480) (.pkT rfl rfl rfl) rfl rfl ?_
    refine Ops.nil ?_
    refine Run.condT rfl rfl ?_
    refine Run.seq ?_
    refine Run.ops hm ?_
    refine Ops.p rfl ?_
    refine Ops.nil ?_
    refine Run.ret ?_
    obtain rfl := someO h
    exact Ends.mkG (.inl rfl) rfl (gh_pk [0] [] hB rfl rfl rfl rfl) rfl rfl
  · skip
    refine Ops.gp rfl g_174 rfl ?_
    refine Ops.gp rfl g_174 rfl ?_
    obtain ⟨y_175, hy_175, h⟩ := bindO h
    refine Ops.gs (s := 5208) rfl g_174 (Ev.call [] [] 0 (sem_impl_within N x_1.StartTerm (0 : Int) (100000 : Int) _ hy_175) rfl rfl (.cons (.c _) (.cons (.c _) (.cons (.c _) .nil))) rfl (.inl rfl) rfl rfl) rfl rfl ?_
    refine Ops.gp rfl g_174 rfl ?_
    refine Ops.st (s := 5240) (.pkF rfl g_174 rfl) rfl rfl ?_
    refine Ops.p rfl ?_
    refine Ops.askO (x := .t 16) rfl h (fun g_176 h => ?_) (fun g_176 h => ?_)
    · skip
      refine Ops.gn rfl g_176 ?_
      refine Ops.gn rfl g_176 ?_
      refine Ops.gn rfl g_176 ?_
      refine Ops.gn rfl g_176 ?_
      refine Ops.st (s := 5336) (.pkT rfl g_176 rfl) rfl rfl ?_
      refine Ops.p rfl ?_
      refine Ops.gn rfl rfl ?_
      refine Ops.gn rfl rfl ?_
      refine Ops.gn rfl rfl ?_
      refine Ops.gn rfl rfl ?_
      refine Ops.gn rfl rfl ?_
      refine Ops.gn rfl rfl ?_
      refine Ops.gn rfl rfl ?_
      refine Ops.st (s := 5480) (.pkT rfl rfl rfl) rfl rfl ?_
      refine Ops.nil ?_
      refine Run.condT rfl rfl ?_
      refine Run.seq ?_
      refine Run.ops hm ?_
      refine Ops.p rfl ?_
      refine Ops.nil ?_
      refine Run.ret ?_
      obtain rfl := someO h
      exact Ends.mkG (.inl rfl) rfl (gh_pk [0] [] hB rfl rfl rfl rfl) rfl rfl
    · skip
      refine Ops.gp rfl g_176 rfl ?_
      refine Ops.gp rfl g_176 rfl ?_
      refine Ops.gs (s := 5304) rfl g_176 (Ev.lnF rfl) rfl rfl ?_
      refine Ops.gp rfl g_176 rfl ?_
      refine Ops.st (s := 5336) (.pkF rfl g_176 rfl) rfl rfl ?_
      refine Ops.p rfl ?_
      refine Ops.askO (x := .t 22) rfl h (fun g_177 h => ?_) (fun g_177 h => ?_)
      · skip
        refine Ops.gn rfl g_177 ?_
        refine Ops.gn rfl g_177 ?_
        refine Ops.gn rfl g_177 ?_
        refine Ops.gn rfl g_177 ?_
        refine Ops.gn rfl g_177 ?_
        refine Ops.gn rfl g_177 ?_
        refine Ops.gn rfl g_177 ?_
        refine Ops.st (s := 5480) (.pkT rfl g_177 rfl) rfl rfl ?_
        refine Ops.nil ?_
        refine Run.condT rfl rfl ?_
        refine Run.seq ?_
        refine Run.ops hm ?_
        refine Ops.p rfl ?_
        refine Ops.nil ?_
        refine Run.ret ?_
        obtain rfl := someO h
        exact Ends.mkG (.inl rfl) rfl (gh_pk [0] [] hB rfl rfl rfl rfl) rfl rfl
      · skip
        refine Ops.gp rfl g_177 rfl ?_
        refine Ops.gp rfl g_177 rfl ?_
        refine Ops.gp rfl g_177 rfl ?_
        refine Ops.gp rfl g_177 rfl ?_
        refine Ops.gs (s := 5432) rfl g_177 (Ev.lnF rfl) rfl rfl ?_
        refine Ops.gp rfl g_177 rfl ?_
        refine Ops.gp rfl g_177 rfl ?_
        refine Ops.st (s := 5480) (.pkF rfl g_177 rfl) rfl rfl ?_
        refine Ops.nil ?_
        refine Run.condO rfl h (fun g_178 h => ?_) (fun g_178 h => ?_)
        · skip
          refine Run.seq ?_
          refine Run.ops hm ?_
          refine Ops.p rfl ?_
          refine Ops.nil ?_
          refine Run.ret ?_
          obtain rfl := someO h
          exact Ends.mkG (.inl rfl) rfl (gh_pk [0] [] hB rfl rfl rfl rfl) rfl rfl
        · skip
          refine Run.skip ?_
          refine Run.seq ?_
          refine Run.ops hm ?_
          refine Ops.p rfl ?_
          refine Ops.p rfl ?_
          refine Ops.p rfl ?_
          refine Ops.nil ?_
          refine Run.seqO h (fun (v_206 : Unit) => []) (fun (v_206 : Unit) => []) (fun h => ?_) (fun v_206 h => ?_)
          · skip
            refine Run.seq ?_
            refine Run.ops hm ?_
            refine Ops.p rfl ?_
            refine Ops.p rfl ?_
            refine Ops.st (s := 17416) (Ev.lnF rfl) rfl rfl ?_
            refine Ops.p rfl ?_
            refine Ops.nil ?_
            refine Run.block ?_
            obtain ⟨res_222, h, hk_222⟩ := bindO h
            refine Run.loop (n := N) (fun m_222 fr σ => ∃ (x_207 : Int), ∃ (x_210 : Int), impl_LogOk_l1 N x_1 m_222 x_207 x_210 = some res_222 ∧ fr = [(3, VI x_207), (34, RO 48 (x_1.Entries.map encEntry)), (35, VI (x_1.Entries.length : Int)), (36, VI x_210)] ∧ σ = []) (gh_pk [3, 34, 35, 36] [] hB rfl rfl rfl rfl) ⟨_, _, h, rfl, rfl⟩ ?_
            rintro m_222 fr σ ⟨x_207, x_210, h, rfl, rfl⟩
            obtain _ | m_222 := m_222
            · rw [impl_LogOk_l1] at h; cases h
            rw [impl_LogOk_l1] at h
            refine Run.seq ?_
            refine Run.ops hm ?_
            refine Ops.p rfl ?_
            refine Ops.nil ?_
            refine Run.seq ?_
            refine Run.condO rfl h (fun g_225 h => ?_) (fun g_225 h => ?_)
            · skip
              refine Run.skip ?_
              refine Run.seq ?_
              refine Run.block ?_
              refine Run.seq ?_
              refine Run.ops hm ?_
              obtain ⟨x_227, hx_227, h⟩ := bindO h
              refine Ops.st (s := 25576) (Ev.iaF rfl rfl hx_227) rfl rfl ?_
              refine Ops.p rfl ?_
              refine Ops.st (s := 25608) (.al rfl rfl) rfl rfl ?_
              refine Ops.s0 (s := 25624) (.sto rfl rfl rfl rfl rfl rfl) rfl rfl ?_
              refine Ops.nil ?_
              refine Run.seq ?_
              refine Run.seq ?_
              refine Run.ops hm ?_
              refine Ops.p rfl ?_
              obtain ⟨y_231, hy_231, h⟩ := bindO h
              refine Ops.st (s := 29688) (Ev.call [] [] 0 (sem_impl_EntryOk N x_227 _ hy_231) rfl rfl (.cons (.agg (.cons (.c _) (.cons (.c _) (.cons (.c _) .nil)))) .nil) rfl (.inl rfl) rfl rfl) rfl rfl ?_
              refine Ops.p rfl ?_
              refine Ops.p rfl ?_
              refine Ops.askO (x := .t 43) rfl h (fun g_232 h => ?_) (fun g_232 h => ?_)
              · skip
                refine Ops.gn rfl g_232 ?_
                refine Ops.gn rfl g_232 ?_
                refine Ops.gn rfl g_232 ?_
                refine Ops.gn rfl g_232 ?_
                refine Ops.st (s := 29800) (.pkT rfl g_232 rfl) rfl rfl ?_
                refine Ops.nil ?_
                refine Run.condT rfl rfl ?_
                refine Run.seq ?_
                refine Run.ops hm ?_
                refine Ops.p rfl ?_
                refine Ops.nil ?_
                refine Run.ret ?_
                obtain rfl := someO h
                have h := hk_222
                replace h := inlO h
                obtain rfl := someO h
                exact Ends.mkG (.inl rfl) rfl (gh_pk [0] [] hB rfl rfl rfl rfl) rfl rfl
              · skip
                refine Ops.gp rfl g_232 rfl ?_
                refine Ops.gp rfl g_232 rfl ?_
                refine Ops.gp rfl g_232 rfl ?_
                refine Ops.gp rfl g_232 rfl ?_
                refine Ops.st (s := 29800) (.pkF rfl g_232 rfl) rfl rfl ?_
                refine Ops.nil ?_
                refine Run.condO rfl h (fun g_233 h => ?_) (fun g_233 h => ?_)
                · skip
                  refine Run.seq ?_
                  refine Run.ops hm ?_
                  refine Ops.p rfl ?_
                  refine Ops.nil ?_
                  refine Run.ret ?_
                  obtain rfl := someO h
                  have h := hk_222
                  replace h := inlO h
                  obtain rfl := someO h
                  exact Ends.mkG (.inl rfl) rfl (gh_pk [0] [] hB rfl rfl rfl rfl) rfl rfl
                · skip
                  refine Run.skip ?_
                  refine Run.ops hm ?_
                  refine Ops.p rfl ?_
                  refine Ops.p rfl ?_
                  refine Ops.p rfl ?_
                  refine Ops.nil ?_
                  refine Run.ops hm ?_
                  refine Ops.p rfl ?_
                  refine Ops.p rfl ?_
                  refine Ops.nil ?_
                  exact ⟨m_222, Nat.lt_succ_self m_222, _, _, (gh_pk [3, 34, 35, 36] [] hB rfl rfl rfl rfl), _, _, h, rfl, rfl⟩
            · skip
              refine Run.exit ?_
              obtain rfl := someO h
              have h := hk_222
              replace h := inrO h
              exact ⟨_, _, (gh_pk [] [] hB rfl rfl rfl rfl), (), h, rfl, rfl⟩
          · skip
            refine Run.seq ?_
            refine Run.ops hm ?_
            refine Ops.p rfl ?_
            refine Ops.nil ?_
            refine Run.ret ?_
            obtain rfl := someO h
            exact Ends.mkG (.inl rfl) rfl (gh_pk [0] [] hB rfl rfl rfl rfl) rfl rfl
def impl_LogLast (N : Nat) (x_1 : Log) : Option (Int × Int) :=
 (if ((x_1.Entries.length : Int) == (0 : Int)) = true then
 some (x_1.Start, x_1.StartTerm)
 else
 (at? x_1.Entries (w64 ((x_1.Entries.length : Int) - (1 : Int)))).bind fun x_105 =>
 some (w64 (x_1.Start + (x_1.Entries.length : Int)), x_105.Term))
theorem sem_impl_LogLast (N : Nat) (x_1 : Log) (r : Int × Int) (h : impl_LogLast N x_1 = some r) : Says Try.prog 120 [.agg [VI x_1.Start, VI x_1.StartTerm, RO 48 (x_1.Entries.map encEntry)]] 0 [] (.tup [VI r.1, VI r.2]) [] := by
  unfold impl_LogLast at h
  refine Says.of_run s120 Try.call120 rfl fun B hB => ?_
  have hm : B.m ≤ 1000 := by omega
  refine Run.seq ?_
  refine Run.ops hm ?_
  refine Ops.st (s := 1000) (.bx rfl rfl) rfl rfl ?_
  refine Ops.p rfl ?_
  refine Ops.p rfl ?_
  refine Ops.nil ?_
  refine Run.seq ?_
  refine Run.ops hm ?_
  refine Ops.p rfl ?_
  refine Ops.p rfl ?_
  refine Ops.st (s := 5128) (Ev.lnF rfl) rfl rfl ?_
  refine Ops.p rfl ?_
  refine Ops.nil ?_
  refine Run.seq ?_
  refine Run.seq ?_
  refine Run.ops hm ?_
  refine Ops.p rfl ?_
  refine Ops.p rfl ?_
  refine Ops.nil ?_
  refine Run.condO rfl h (fun g_104 h => ?_) (fun g_104 h => ?_)
  · skip
    refine Run.seq ?_
    refine Run.draw hm hmix ?_
    refine OpsD.p rfl ?_
    refine OpsD.p rfl ?_
    refine OpsD.p rfl ?_
    refine OpsD.p rfl ?_
    refine OpsD.p rfl ?_
    refine OpsD.p rfl ?_
    refine OpsD.nil ⟨by kernel_rfl, ?_⟩
    refine Run.ret ?_
    obtain rfl := someO h
    exact Ends.mkG (.inl rfl) rfl (gh_pk [0, 1] [] hB rfl rfl rfl rfl) rfl rfl
  · skip
    refine Run.skip ?_
    refine Run.seq ?_
    refine Run.draw hm hmix ?_
    refine OpsD.p rfl ?_
    refine OpsD.p rfl ?_
    refine OpsD.p rfl ?_
    refine OpsD.p rfl ?_
    refine OpsD.p rfl ?_
    refine OpsD.p rfl ?_
    refine OpsD.p rfl ?_
    refine OpsD.p rfl ?_
    obtain ⟨x_105, hx_105, h⟩ := bindO h
    refine OpsD.st (s := 17512) (Ev.iaF rfl rfl hx_105) rfl rfl ?_
    refine OpsD.p rfl ?_
    refine OpsD.p rfl ?_
    refine OpsD.p rfl ?_
    refine OpsD.p rfl ?_
    refine OpsD.nil ⟨by kernel_rfl, ?_⟩
    refine Run.ret ?_
    obtain rfl := someO h
    exact Ends.mkG (.inl rfl) rfl (gh_pk [0, 1] [] hB rfl rfl rfl rfl) rfl rfl
def impl_last (N : Nat) (x_1 : Log) : Option (Int) :=
 some (w64 (x_1.Start + (x_1.Entries.length : Int)))
theorem sem_impl_last (N : Nat) (x_1 : Log) (r : Int) (h : impl_last N x_1 = some r) : Says Try.prog 123 [.agg [VI x_1.Start, VI x_1.StartTerm, RO 48 (x_1.Entries.map encEntry)]] 0 [] (VI r) [] := by
  unfold impl_last at h
  refine Says.of_run s123 Try.call123 rfl fun B hB => ?_
  have hm : B.m ≤ 1000 := by omega
  refine Run.seq ?_
  refine Run.ops hm ?_
  refine Ops.st (s := 1000) (.bx rfl rfl) rfl rfl ?_
  refine Ops.p rfl ?_
  refine Ops.nil ?_
  refine Run.seq ?_
  refine Run.ops hm ?_
  refine Ops.p rfl ?_
  refine Ops.p rfl ?_
  refine Ops.p rfl ?_
  refine Ops.p rfl ?_
  refine Ops.st (s := 5160) (Ev.lnF rfl) rfl rfl ?_
  refine Ops.p rfl ?_
  refine Ops.p rfl ?_
  refine Ops.nil ?_
  refine Run.ret ?_
  obtain rfl := someO h
  exact Ends.mkG (.inl rfl) rfl (gh_pk [0] [] hB rfl rfl rfl rfl) rfl rfl
def impl_ConfAt_l1 (N : Nat) (x_1 : Node) (x_2 : Int) : Nat → Int → Option (((List Int)) ⊕ (Unit))
 | 0, _ => none
 | m + 1, x_263 =>
 (if (decide (x_263 ≥ (0 : Int))) = true then
 joinP (fun (v_307 : Unit) =>
 impl_ConfAt_l1 N x_1 x_2 m (w64 (x_263 - (1 : Int)))) fun j_307 =>
 (at? x_1.Log.Entries x_263).bind fun x_309 =>
 (impl_ReadConf N x_309.Data).bind fun y_311 =>
 (if y_311.2 = true then
 (if (x_309.Kind == (2 : Int)) = true then
 (if (decide ((w64 ((w64 (x_1.Log.Start + x_263)) + (1 : Int))) ≤ x_2)) = true then
 some (Sum.inl y_311.1)
 else
 j_307 ())
 else
 j_307 ())
 else
 j_307 ())
 else
 some (Sum.inr ()))
def impl_ConfAt (N : Nat) (x_1 : Node) (x_2 : Int) : Option ((List Int)) :=
 joinP (fun (v_261 : Unit) =>
 (cat? ([] : List Int) x_1.Conf).bind fun x_315 =>
 some x_315) fun j_261 =>
 (impl_ConfAt_l1 N x_1 x_2 N (w64 ((x_1.Log.Entries.length : Int) - (1 : Int)))).bind (Sum.elim (fun v_295 => some v_295) (fun (v_296 : Unit) => j_261 ()))
theorem sem_impl_ConfAt (N : Nat) (x_1 : Node) (x_2 : Int) (r : (List Int)) (h : impl_ConfAt N x_1 x_2 = some r) : Says Try.prog 48 [.agg [VI x_1.Id, VI x_1.Term, VI x_1.Vote, VI x_1.Role, VI x_1.Lead, RO 3 (x_1.Conf.map encI), VI x_1.Log.Start, VI x_1.Log.StartTerm, RO 48 (x_1.Log.Entries.map encEntry), VI x_1.Commit, VI x_1.Clock, VI x_1.Limit, RO 3 (x_1.Votes.map encI), RO 172 (x_1.Peers.map encPeer)], VI x_2] 0 [] (.sl 0 3 0 r.length) [(0, .vec 3 (r.map encI))] := by
  unfold impl_ConfAt at h
  refine Says.of_run s48 Try.call48 rfl fun B hB => ?_
  have hm : B.m ≤ 1000 := by omega
  refine Run.seq ?_
  refine Run.ops hm ?_
  refine Ops.st (s := 1000) (.bx rfl rfl) rfl rfl ?_
  refine Ops.p rfl ?_
  refine Ops.nil ?_
  refine Run.seqO h (fun (v_261 : Unit) => [(2, .ptr 0 0)]) (fun (v_261 : Unit) => [(0, .box [VI x_1.Id, VI x_1.Term, VI x_1.Vote, VI x_1.Role, VI x_1.Lead, RO 3 (x_1.Conf.map encI), VI x_1.Log.Start, VI x_1.Log.StartTerm, RO 48 (x_1.Log.Entries.map encEntry), VI x_1.Commit, VI x_1.Clock, VI x_1.Limit, RO 3 (x_1.Votes.map encI), RO 172 (x_1.Peers.map encPeer)])]) (fun h => ?_) (fun v_261 h => ?_)
  · skip
    refine Run.seq ?_
    refine Run.ops hm ?_
    refine Ops.p rfl ?_
    refine Ops.p rfl ?_
    refine Ops.p rfl ?_
    refine Ops.st (s := 5144) (Ev.lnF rfl) rfl rfl ?_
    refine Ops.p rfl ?_
    refine Ops.p rfl ?_
    refine Ops.nil ?_
    refine Run.block ?_
    obtain ⟨res_296, h, hk_296⟩ := bindO h
    refine Run.loop (n := N) (fun m_296 fr σ => ∃ (x_263 : Int), impl_ConfAt_l1 N x_1 x_2 m_296 x_263 = some res_296 ∧ fr = [(1, VI x_2), (2, .ptr 0 0), (5, VI x_263)] ∧ σ = [(0, .box [VI x_1.Id, VI x_1.Term, VI x_1.Vote, VI x_1.Role, VI x_1.Lead, RO 3 (x_1.Conf.map encI), VI x_1.Log.Start, VI x_1.Log.StartTerm, RO 48 (x_1.Log.Entries.map encEntry), VI x_1.Commit, VI x_1.Clock, VI x_1.Limit, RO 3 (x_1.Votes.map encI), RO 172 (x_1.Peers.map encPeer)])]) (gh_pk [1, 2, 5] [1000] hB rfl rfl rfl rfl) ⟨_, h, rfl, rfl⟩ ?_
    rintro m_296 fr σ ⟨x_263, h, rfl, rfl⟩
    obtain _ | m_296 := m_296
    · rw [impl_ConfAt_l1] at h; cases h
    rw [impl_ConfAt_l1] at h
    refine Run.seq ?_
    refine Run.seq ?_
    refine Run.ops hm ?_
    refine Ops.p rfl ?_
    refine Ops.p rfl ?_
    refine Ops.nil ?_
    refine Run.condO rfl h (fun g_299 h => ?_) (fun g_299 h => ?_)
    · skip
      refine Run.skip ?_
      refine Run.seqO h (fun (v_307 : Unit) => [(1, VI x_2), (2, .ptr 0 0), (5, VI x_263)]) (fun (v_307 : Unit) => [(0, .box [VI x_1.Id, VI x_1.Term, VI x_1.Vote, VI x_1.Role, VI x_1.Lead, RO 3 (x_1.Conf.map encI), VI x_1.Log.Start, VI x_1.Log.StartTerm, RO 48 (x_1.Log.Entries.map encEntry), VI x_1.Commit, VI x_1.Clock, VI x_1.Limit, RO 3 (x_1.Votes.map encI), RO 172 (x_1.Peers.map encPeer)])]) (fun h => ?_) (fun v_307 h => ?_)
      · skip
        refine Run.block ?_
        refine Run.seq ?_
        refine Run.ops hm ?_
        refine Ops.p rfl ?_
        refine Ops.p rfl ?_
        refine Ops.p rfl ?_
        refine Ops.p rfl ?_
        obtain ⟨x_309, hx_309, h⟩ := bindO h
        refine Ops.st (s := 17448) (Ev.iaF rfl rfl hx_309) rfl rfl ?_
        refine Ops.p rfl ?_
        refine Ops.st (s := 17480) (.al rfl rfl) rfl rfl ?_
        refine Ops.s0 (s := 17496) (.sto rfl rfl rfl rfl rfl rfl) rfl rfl ?_
        refine Ops.nil ?_
        refine Run.seq ?_
        refine Run.ops hm ?_
        refine Ops.p rfl ?_
        refine Ops.p rfl ?_
        obtain ⟨y_311, hy_311, h⟩ := bindO h
        refine Ops.st (s := 21512) (Ev.call [] [] 1 (sem_impl_ReadConf N x_309.Data _ hy_311) rfl rfl (.cons (.c _) .nil) rfl (.inl rfl) rfl rfl) rfl rfl ?_
        refine Ops.p rfl ?_
        refine Ops.p rfl ?_
        refine Ops.p rfl ?_
        refine Ops.p rfl ?_
        refine Ops.p rfl ?_
        refine Ops.nil ?_
        refine Run.seq ?_
        refine Run.ops hm ?_
        refine Ops.p rfl ?_
        refine Ops.p rfl ?_
        refine Ops.askO (x := .t 31) rfl h (fun g_312 h => ?_) (fun g_312 h => ?_)
        · skip
          refine Ops.gp rfl g_312 rfl ?_
          refine Ops.gp rfl g_312 rfl ?_
          refine Ops.gp rfl g_312 rfl ?_
          refine Ops.st (s := 25656) (.pkT rfl g_312 rfl) rfl rfl ?_
          refine Ops.p rfl ?_
          refine Ops.askO (x := .t 36) rfl h (fun g_313 h => ?_) (fun g_313 h => ?_)
          · skip
            refine Ops.gp rfl g_313 rfl ?_
            refine Ops.gp rfl g_313 rfl ?_
            refine Ops.gp rfl g_313 rfl ?_
            refine Ops.gp rfl g_313 rfl ?_
            refine Ops.gp rfl g_313 rfl ?_
            refine Ops.gp rfl g_313 rfl ?_
            refine Ops.gp rfl g_313 rfl ?_
            refine Ops.gp rfl g_313 rfl ?_
            refine Ops.st (s := 25816) (.pkT rfl g_313 rfl) rfl rfl ?_
            refine Ops.nil ?_
            refine Run.condO rfl h (fun g_314 h => ?_) (fun g_314 h => ?_)
            · skip
              refine Run.seq ?_
              refine Run.ops hm ?_
              refine Ops.p rfl ?_
              refine Ops.p rfl ?_
              refine Ops.nil ?_
              refine Run.ret ?_
              obtain rfl := someO h
              have h := hk_296
              replace h := inlO h
              obtain rfl := someO h
              exact Ends.mkG (.inl rfl) rfl (gh_pk [0] [21512] hB rfl rfl rfl rfl) rfl rfl
            · skip
              refine Run.skip ?_
              exact ⟨_, _, (gh_pk [1, 2, 5] [0] hB rfl rfl rfl rfl), (), h, rfl, rfl⟩
          · skip
            refine Ops.gn rfl g_313 ?_
            refine Ops.gn rfl g_313 ?_
            refine Ops.gn rfl g_313 ?_
            refine Ops.gn rfl g_313 ?_
            refine Ops.gn rfl g_313 ?_
            refine Ops.gn rfl g_313 ?_
            refine Ops.gn rfl g_313 ?_
            refine Ops.gn rfl g_313 ?_
            refine Ops.st (s := 25816) (.pkF rfl g_313 rfl) rfl rfl ?_
            refine Ops.nil ?_
            refine Run.condF rfl rfl ?_
            refine Run.skip ?_
            exact ⟨_, _, (gh_pk [1, 2, 5] [0] hB rfl rfl rfl rfl), (), h, rfl, rfl⟩
        · skip
          refine Ops.gn rfl g_312 ?_
          refine Ops.gn rfl g_312 ?_
          refine Ops.gn rfl g_312 ?_
          refine Ops.st (s := 25656) (.pkF rfl g_312 rfl) rfl rfl ?_
          refine Ops.p rfl ?_
          refine Ops.gn rfl rfl ?_
          refine Ops.gn rfl rfl ?_
          refine Ops.gn rfl rfl ?_
          refine Ops.gn rfl rfl ?_
          refine Ops.gn rfl rfl ?_
          refine Ops.gn rfl rfl ?_
          refine Ops.gn rfl rfl ?_
          refine Ops.gn rfl rfl ?_
          refine Ops.st (s := 25816) (.pkF rfl rfl rfl) rfl rfl ?_
          refine Ops.nil ?_
          refine Run.condF rfl rfl ?_
          refine Run.skip ?_
          exact ⟨_, _, (gh_pk [1, 2, 5] [0] hB rfl rfl rfl rfl), (), h, rfl, rfl⟩
      · skip
        refine Run.ops hm ?_
        refine Ops.p rfl ?_
        refine Ops.p rfl ?_
        refine Ops.p rfl ?_
        refine Ops.nil ?_
        exact ⟨m_296, Nat.lt_succ_self m_296, _, _, (gh_pk [1, 2, 5] [0] hB rfl rfl rfl rfl), _, h, rfl, rfl⟩
    · skip
      refine Run.exit ?_
      obtain rfl := someO h
      have h := hk_296
      replace h := inrO h
      exact ⟨_, _, (gh_pk [2] [0] hB rfl rfl rfl rfl), (), h, rfl, rfl⟩
  · skip
    refine Run.seq ?_
    refine Run.ops hm ?_
    refine Ops.p rfl ?_
    refine Ops.p rfl ?_
    obtain ⟨x_315, hx_315, h⟩ := bindO h
    refine Ops.st (s := 33800) (Ev.apW (f := encI) (ontoN (f := encI) rfl) (addsF rfl) rfl bt3 rfl hx_315) rfl rfl ?_
    refine Ops.p rfl ?_
    refine Ops.nil ?_
    refine Run.ret ?_
    obtain rfl := someO h
    exact Ends.mkG (.inl rfl) rfl (gh_pk [0] [33800] hB rfl rfl rfl rfl) rfl rfl
end Go.Proofs.Ytebbgdjmplceiaa.Pe.FnAlone
