/- What the law's helper functions tell. -/
import Derived.Test.YtehknbpmpbghhaaPeLib
import Derived.Test.YtehknbpmpbghhaaPeFFnExactTick8
namespace Go.Proofs.Ytehknbpmpbghhaa.Pe.FnExactTick
open Go Go.RowKit
set_option linter.unusedVariables false
set_option linter.unusedSimpArgs false
set_option maxHeartbeats 40000000
theorem at_set {α : Type} {xs : List α} {k : Nat} (h : k < xs.length) (y : α) : at? (xs.set k y) (k : Int) = some y := by
  unfold at?
  rw [if_pos (by omega), Int.toNat_natCast, List.getElem?_set_self h]
theorem le_sum {α : Type} {f : α → Nat} {y : α} : ∀ {xs : List α}, y ∈ xs → f y ≤ (xs.map f).sum
  | x :: xs, h => by
    rcases List.mem_cons.1 h with rfl | h
    · simp
    · have := le_sum (f := f) h
      simp only [List.map_cons, List.sum_cons]
      omega
def wfEntry (x : Entry) : Prop := (WI .i64 x.Term) ∧ (WI .i64 x.Kind) ∧ (x.Data.size ≤ maxLen)
def wfLog (x : Log) : Prop := (WI .i64 x.Start) ∧ (WI .i64 x.StartTerm) ∧ (x.Entries.length ≤ maxLen ∧ ∀ y ∈ x.Entries, wfEntry y)
def wfPeer (x : Peer) : Prop := (WI .i64 x.Id) ∧ (WI .i64 x.Next) ∧ (WI .i64 x.Match) ∧ (WI .i64 x.Sent)
def wfNode (x : Node) : Prop := (WI .i64 x.Id) ∧ (WI .i64 x.Term) ∧ (WI .i64 x.Vote) ∧ (WI .i64 x.Role) ∧ (WI .i64 x.Lead) ∧ (x.Conf.length ≤ maxLen ∧ ∀ y ∈ x.Conf, WI .i64 y) ∧ (wfLog x.Log) ∧ (WI .i64 x.Commit) ∧ (WI .i64 x.Clock) ∧ (WI .i64 x.Limit) ∧ (x.Votes.length ≤ maxLen ∧ ∀ y ∈ x.Votes, WI .i64 y) ∧ (x.Peers.length ≤ maxLen ∧ ∀ y ∈ x.Peers, wfPeer y)
theorem sz_IntS (N : Nat) (x : (List Int)) (l : Int) (h0 : 0 ≤ l) (h1 : l ≤ 1099511627776) (w : x.length ≤ maxLen ∧ ∀ y ∈ x, WI .i64 y) (hN : Big N) : laws_szIntS N x l = some (if ((totL (fun _ => 0)) x : Int) ≤ l then l - (totL (fun _ => 0)) x else -1) := by
  have hM := maxLen_le
  unfold laws_szIntS
  have e1 : w64 (l - (x.length : Int)) = l - x.length := w64_id (by have := w.1; omega) (by omega)
  rw [e1]
  by_cases c : l - (x.length : Int) < 0
  · rw [if_pos (by simpa using c), if_neg (by simp only [totL]; omega)]
  rw [if_neg (by simpa using c)]
  have hs : (x.map (fun _ => 0)).sum = 0 := by
    clear e1 c w
    induction x with
    | nil => rfl
    | cons y x ih => simp [ih]
  rw [if_pos (by simp only [totL, hs]; omega)]
  first
    | (simp only [totL, hs]; done)
    | (simp only [totL, hs]; congr 1; done)
    | (simp only [totL, hs]; congr 1; omega)
def totEntry (x : Entry) : Nat := ByteArray.size x.Data
theorem sz_Entry (N : Nat) (x : Entry) (l : Int) (h0 : 0 ≤ l) (h1 : l ≤ 1099511627776) (w : wfEntry x) (hN : Big N) : laws_szEntry N x l = some (if (totEntry x : Int) ≤ l then l - totEntry x else -1) := by
  have hM := maxLen_le
  unfold laws_szEntry
  unfold wfEntry at w
  have e1 : w64 (l - (x.Data.size : Int)) = l - x.Data.size := w64_id (by have := w.2.2; omega) (by omega)
  rw [e1]
  by_cases c1 : l - (x.Data.size : Int) < 0
  · rw [if_pos (by simpa using c1), if_neg (by simp only [totEntry]; omega)]
  rw [if_neg (by simpa using c1)]
  rw [if_pos (by simp only [totEntry]; omega)]
  first
    | (simp only [totEntry]; done)
    | (simp only [totEntry]; congr 1; done)
    | (simp only [totEntry]; congr 1; omega)
theorem sz_EntryS_r (N : Nat) (hN : Big N) (c : (List Entry)) : ∀ (tl : (List Entry)) (l i : Int), 0 ≤ l → l ≤ 1099511627776 → (∀ y ∈ tl, wfEntry y) → laws_szEntryS_l1_r N c tl l i = some (if ((tl.map totEntry).sum : Int) ≤ l then .inr (l - (tl.map totEntry).sum) else .inl (-1))
  | [], l, i, h0, h1, w => by simp [laws_szEntryS_l1_r, h0]
  | y :: tl, l, i, h0, h1, w => by
    rw [laws_szEntryS_l1_r]
    simp only [Option.bind_some, List.map_cons, List.sum_cons]
    rw [sz_Entry N y l h0 h1 (w y (by simp)) hN]
    simp only [Option.bind_some]
    by_cases c1 : ¬ ((totEntry y : Int) ≤ l)
    · rw [if_neg c1, if_pos (by decide), if_neg (by omega)]
    replace c1 := Classical.not_not.1 c1
    rw [if_pos c1, if_neg (by simp; omega), sz_EntryS_r N hN c tl _ _ (by omega) (by omega) (fun z hz => w z (by simp [hz]))]
    by_cases c2 : ((tl.map totEntry).sum : Int) ≤ l - totEntry y
    · rw [if_pos c2, if_pos (by omega)]
      congr 2 <;> omega
    · rw [if_neg c2, if_neg (by omega)]
theorem sz_EntryS (N : Nat) (x : (List Entry)) (l : Int) (h0 : 0 ≤ l) (h1 : l ≤ 1099511627776) (w : x.length ≤ maxLen ∧ ∀ y ∈ x, wfEntry y) (hN : Big N) : laws_szEntryS N x l = some (if ((totL totEntry) x : Int) ≤ l then l - (totL totEntry) x else -1) := by
  have hM := maxLen_le
  unfold laws_szEntryS
  have e1 : w64 (l - (x.length : Int)) = l - x.length := w64_id (by have := w.1; omega) (by omega)
  rw [e1]
  by_cases c : l - (x.length : Int) < 0
  · rw [if_pos (by simpa using c), if_neg (by simp only [totL]; omega)]
  rw [if_neg (by simpa using c)]
  simp only [joinP]
  rw [laws_szEntryS_l1_eq x (by omega) (by omega), sz_EntryS_r N hN x x _ _ (by omega) (by omega) w.2]
  simp only [Option.bind_some]
  by_cases c2 : ((x.map totEntry).sum : Int) ≤ l - x.length
  · rw [if_pos c2, if_pos (by simp only [totL]; omega)]
    simp only [Sum.elim_inr, totL]
    congr 1 <;> omega
  · rw [if_neg c2, if_neg (by simp only [totL]; omega)]
    rfl
def totLog (x : Log) : Nat := (totL totEntry) x.Entries
theorem sz_Log (N : Nat) (x : Log) (l : Int) (h0 : 0 ≤ l) (h1 : l ≤ 1099511627776) (w : wfLog x) (hN : Big N) : laws_szLog N x l = some (if (totLog x : Int) ≤ l then l - totLog x else -1) := by
  have hM := maxLen_le
  unfold laws_szLog
  unfold wfLog at w
  rw [sz_EntryS N x.Entries l (by omega) (by omega) w.2.2 hN]
  simp only [Option.bind_some]
  by_cases c1 : ¬ (((totL totEntry) x.Entries : Int) ≤ l)
  · rw [if_neg c1, if_pos (by decide), if_neg (by simp only [totLog]; omega)]
  replace c1 := Classical.not_not.1 c1
  rw [if_pos c1, if_neg (by simp; omega)]
  rw [if_pos (by simp only [totLog]; omega)]
  first
    | (simp only [totLog]; done)
    | (simp only [totLog]; congr 1; done)
    | (simp only [totLog]; congr 1; omega)
def totPeer (x : Peer) : Nat := 0
theorem sz_PeerS (N : Nat) (x : (List Peer)) (l : Int) (h0 : 0 ≤ l) (h1 : l ≤ 1099511627776) (w : x.length ≤ maxLen ∧ ∀ y ∈ x, wfPeer y) (hN : Big N) : laws_szPeerS N x l = some (if ((totL totPeer) x : Int) ≤ l then l - (totL totPeer) x else -1) := by
  have hM := maxLen_le
  unfold laws_szPeerS
  have e1 : w64 (l - (x.length : Int)) = l - x.length := w64_id (by have := w.1; omega) (by omega)
  rw [e1]
  by_cases c : l - (x.length : Int) < 0
  · rw [if_pos (by simpa using c), if_neg (by simp only [totL]; omega)]
  rw [if_neg (by simpa using c)]
  have hs : (x.map totPeer).sum = 0 := by
    clear e1 c w
    induction x with
    | nil => rfl
    | cons y x ih => simp [ih, totPeer]
  rw [if_pos (by simp only [totL, hs]; omega)]
  first
    | (simp only [totL, hs]; done)
    | (simp only [totL, hs]; congr 1; done)
    | (simp only [totL, hs]; congr 1; omega)
def totNode (x : Node) : Nat := (totL (fun _ => 0)) x.Conf + totLog x.Log + (totL (fun _ => 0)) x.Votes + (totL totPeer) x.Peers
theorem sz_Node (N : Nat) (x : Node) (l : Int) (h0 : 0 ≤ l) (h1 : l ≤ 1099511627776) (w : wfNode x) (hN : Big N) : laws_szNode N x l = some (if (totNode x : Int) ≤ l then l - totNode x else -1) := by
  have hM := maxLen_le
  unfold laws_szNode
  unfold wfNode at w
  rw [sz_IntS N x.Conf l (by omega) (by omega) w.2.2.2.2.2.1 hN]
  simp only [Option.bind_some]
  by_cases c1 : ¬ (((totL (fun _ => 0)) x.Conf : Int) ≤ l)
  · rw [if_neg c1, if_pos (by decide), if_neg (by simp only [totNode]; omega)]
  replace c1 := Classical.not_not.1 c1
  rw [if_pos c1, if_neg (by simp; omega)]
  rw [sz_Log N x.Log (l - ((totL (fun _ => 0)) x.Conf : Int)) (by omega) (by omega) w.2.2.2.2.2.2.1 hN]
  simp only [Option.bind_some]
  by_cases c2 : ¬ ((totLog x.Log : Int) ≤ (l - ((totL (fun _ => 0)) x.Conf : Int)))
  · rw [if_neg c2, if_pos (by decide), if_neg (by simp only [totNode]; omega)]
  replace c2 := Classical.not_not.1 c2
  rw [if_pos c2, if_neg (by simp; omega)]
  rw [sz_IntS N x.Votes ((l - ((totL (fun _ => 0)) x.Conf : Int)) - (totLog x.Log : Int)) (by omega) (by omega) w.2.2.2.2.2.2.2.2.2.2.1 hN]
  simp only [Option.bind_some]
  by_cases c3 : ¬ (((totL (fun _ => 0)) x.Votes : Int) ≤ ((l - ((totL (fun _ => 0)) x.Conf : Int)) - (totLog x.Log : Int)))
  · rw [if_neg c3, if_pos (by decide), if_neg (by simp only [totNode]; omega)]
  replace c3 := Classical.not_not.1 c3
  rw [if_pos c3, if_neg (by simp; omega)]
  rw [sz_PeerS N x.Peers (((l - ((totL (fun _ => 0)) x.Conf : Int)) - (totLog x.Log : Int)) - ((totL (fun _ => 0)) x.Votes : Int)) (by omega) (by omega) w.2.2.2.2.2.2.2.2.2.2.2 hN]
  simp only [Option.bind_some]
  by_cases c4 : ¬ (((totL totPeer) x.Peers : Int) ≤ (((l - ((totL (fun _ => 0)) x.Conf : Int)) - (totLog x.Log : Int)) - ((totL (fun _ => 0)) x.Votes : Int)))
  · rw [if_neg c4, if_pos (by decide), if_neg (by simp only [totNode]; omega)]
  replace c4 := Classical.not_not.1 c4
  rw [if_pos c4, if_neg (by simp; omega)]
  rw [if_pos (by simp only [totNode]; omega)]
  first
    | (simp only [totNode]; done)
    | (simp only [totNode]; congr 1; done)
    | (simp only [totNode]; congr 1; omega)
theorem to_IntS_r (N : Nat) (c : (List Int)) : ∀ (tl : (List Int)) (k : Nat) (acc : (List Int)), acc.length = k + tl.length → k + tl.length ≤ 1099511627776 → laws_toIntS_l1_r N c tl (k : Int) acc = some (acc.take k ++ tl)
  | [], k, acc, h, hk => by
    rw [laws_toIntS_l1_r, List.append_nil, List.take_of_length_le (by simp at h; omega)]
  | y :: tl, k, acc, h, hk => by
    simp only [List.length_cons] at h hk
    rw [laws_toIntS_l1_r]
    have hlt : k < acc.length := by omega
    simp only [Option.bind_some, at_lt hlt, w64_succ (k := k) (by omega), Int.toNat_natCast]
    rw [to_IntS_r N c tl (k + 1) _ (by simp; omega) (by omega), take_set_succ hlt, List.append_assoc]
    rfl
theorem to_IntS (N : Nat) (x : (List Int)) (h : (totL (fun _ => 0)) x ≤ 1099511627) (hN : Big N) : laws_toIntS N x = some x := by
  unfold laws_toIntS
  have hl : x.length ≤ 1099511627 := by simp only [totL] at h; omega
  rw [mk_some (by omega)]
  simp only [Option.bind_some, joinP]
  rw [laws_toIntS_l1_eq x (by omega) (by omega), show (0 : Int) = ((0 : Nat) : Int) from rfl, to_IntS_r N x x 0 _ (by simp) (by omega) ]
  simp
theorem to_Entry (N : Nat) (x : Entry) (h : totEntry x ≤ 1099511627) (hN : Big N) : laws_toEntry N x = some x := by
  unfold laws_toEntry
  simp only [totEntry] at h
  try rfl
theorem to_EntryS_r (N : Nat) (hN : Big N) (c : (List Entry)) : ∀ (tl : (List Entry)) (k : Nat) (acc : (List Entry)), acc.length = k + tl.length → k + tl.length ≤ 1099511627776 → (∀ y ∈ tl, totEntry y ≤ 1099511627) → laws_toEntryS_l1_r N c tl (k : Int) acc = some (acc.take k ++ tl)
  | [], k, acc, h, hk, w => by
    rw [laws_toEntryS_l1_r, List.append_nil, List.take_of_length_le (by simp at h; omega)]
  | y :: tl, k, acc, h, hk, w => by
    simp only [List.length_cons] at h hk
    rw [laws_toEntryS_l1_r]
    have hlt : k < acc.length := by omega
    simp only [Option.bind_some, to_Entry N y (w y (by simp)) hN, at_lt hlt, w64_succ (k := k) (by omega), Int.toNat_natCast]
    rw [to_EntryS_r N hN c tl (k + 1) _ (by simp; omega) (by omega) (fun z hz => w z (by simp [hz])), take_set_succ hlt, List.append_assoc]
    rfl
theorem to_EntryS (N : Nat) (x : (List Entry)) (h : (totL totEntry) x ≤ 1099511627) (hN : Big N) : laws_toEntryS N x = some x := by
  unfold laws_toEntryS
  have hl : x.length ≤ 1099511627 := by simp only [totL] at h; omega
  rw [mk_some (by omega)]
  simp only [Option.bind_some, joinP]
  rw [laws_toEntryS_l1_eq x (by omega) (by omega), show (0 : Int) = ((0 : Nat) : Int) from rfl, to_EntryS_r N hN x x 0 _ (by simp) (by omega) (fun y hy => Nat.le_trans (le_sum hy) (by simp only [totL] at h; omega))]
  simp
theorem to_Log (N : Nat) (x : Log) (h : totLog x ≤ 1099511627) (hN : Big N) : laws_toLog N x = some x := by
  unfold laws_toLog
  simp only [totLog] at h
  rw [to_EntryS N x.Entries (by omega) hN]
  simp only [Option.bind_some]
  try rfl
theorem to_Peer (N : Nat) (x : Peer) (h : totPeer x ≤ 1099511627) (hN : Big N) : laws_toPeer N x = some x := by
  unfold laws_toPeer
  try rfl
theorem to_PeerS_r (N : Nat) (hN : Big N) (c : (List Peer)) : ∀ (tl : (List Peer)) (k : Nat) (acc : (List Peer)), acc.length = k + tl.length → k + tl.length ≤ 1099511627776 → (∀ y ∈ tl, totPeer y ≤ 1099511627) → laws_toPeerS_l1_r N c tl (k : Int) acc = some (acc.take k ++ tl)
  | [], k, acc, h, hk, w => by
    rw [laws_toPeerS_l1_r, List.append_nil, List.take_of_length_le (by simp at h; omega)]
  | y :: tl, k, acc, h, hk, w => by
    simp only [List.length_cons] at h hk
    rw [laws_toPeerS_l1_r]
    have hlt : k < acc.length := by omega
    simp only [Option.bind_some, to_Peer N y (w y (by simp)) hN, at_lt hlt, w64_succ (k := k) (by omega), Int.toNat_natCast]
    rw [to_PeerS_r N hN c tl (k + 1) _ (by simp; omega) (by omega) (fun z hz => w z (by simp [hz])), take_set_succ hlt, List.append_assoc]
    rfl
theorem to_PeerS (N : Nat) (x : (List Peer)) (h : (totL totPeer) x ≤ 1099511627) (hN : Big N) : laws_toPeerS N x = some x := by
  unfold laws_toPeerS
  have hl : x.length ≤ 1099511627 := by simp only [totL] at h; omega
  rw [mk_some (by omega)]
  simp only [Option.bind_some, joinP]
  rw [laws_toPeerS_l1_eq x (by omega) (by omega), show (0 : Int) = ((0 : Nat) : Int) from rfl, to_PeerS_r N hN x x 0 _ (by simp) (by omega) (fun y hy => Nat.le_trans (le_sum hy) (by simp only [totL] at h; omega))]
  simp
theorem to_Node (N : Nat) (x : Node) (h : totNode x ≤ 1099511627) (hN : Big N) : laws_toNode N x = some x := by
  unfold laws_toNode
  simp only [totNode] at h
  rw [to_IntS N x.Conf (by omega) hN]
  simp only [Option.bind_some]
  rw [to_Log N x.Log (by omega) hN]
  simp only [Option.bind_some]
  rw [to_IntS N x.Votes (by omega) hN]
  simp only [Option.bind_some]
  rw [to_PeerS N x.Peers (by omega) hN]
  simp only [Option.bind_some]
  try rfl
theorem eq_IntS_r (N : Nat) (hN : Big N) (c : (List Int)) (hc : c.length ≤ 1099511627776) : ∀ (d k : Nat), c.length = k + d → laws_eqIntS_l1_r N c c (c.drop k) (k : Int) = some (.inr ())
  | 0, k, h => by rw [List.drop_eq_nil_of_le (by omega), laws_eqIntS_l1_r]
  | d + 1, k, h => by
    have hk : k < c.length := by omega
    rw [List.drop_eq_getElem_cons hk, laws_eqIntS_l1_r]
    simp only [Option.bind_some, at_lt hk, w64_succ (k := k) (by omega)]
    have := eq_IntS_r N hN c hc  d (k + 1) (by omega)
    simpa using this
theorem eq_IntS (N : Nat) (x : (List Int)) (h : (totL (fun _ => 0)) x ≤ 1099511627) (hN : Big N) : laws_eqIntS N x x = some true := by
  unfold laws_eqIntS
  have hl : x.length ≤ 1099511627 := by simp only [totL] at h; omega
  have := eq_IntS_r N hN x (by omega)  x.length 0 (by omega)
  simp only [List.drop_zero] at this
  simp only [joinP]
  rw [if_neg (by simp), laws_eqIntS_l1_eq x x (by omega) (by omega), show (0 : Int) = ((0 : Nat) : Int) from rfl, this]
  rfl
theorem eq_Entry (N : Nat) (x : Entry) (h : totEntry x ≤ 1099511627) (hN : Big N) : laws_eqEntry N x x = some true := by
  unfold laws_eqEntry
  simp only [totEntry] at h
  simp
theorem eq_EntryS_r (N : Nat) (hN : Big N) (c : (List Entry)) (hc : c.length ≤ 1099511627776) (w : ∀ y ∈ c, totEntry y ≤ 1099511627) : ∀ (d k : Nat), c.length = k + d → laws_eqEntryS_l1_r N c c (c.drop k) (k : Int) = some (.inr ())
  | 0, k, h => by rw [List.drop_eq_nil_of_le (by omega), laws_eqEntryS_l1_r]
  | d + 1, k, h => by
    have hk : k < c.length := by omega
    rw [List.drop_eq_getElem_cons hk, laws_eqEntryS_l1_r]
    simp only [Option.bind_some, at_lt hk, w64_succ (k := k) (by omega)]
    have := eq_EntryS_r N hN c hc w d (k + 1) (by omega)
    simpa [eq_Entry N _ (w _ (List.getElem_mem hk)) hN] using this
theorem eq_EntryS (N : Nat) (x : (List Entry)) (h : (totL totEntry) x ≤ 1099511627) (hN : Big N) : laws_eqEntryS N x x = some true := by
  unfold laws_eqEntryS
  have hl : x.length ≤ 1099511627 := by simp only [totL] at h; omega
  have := eq_EntryS_r N hN x (by omega) (fun y hy => Nat.le_trans (le_sum hy) (by simp only [totL] at h; omega)) x.length 0 (by omega)
  simp only [List.drop_zero] at this
  simp only [joinP]
  rw [if_neg (by simp), laws_eqEntryS_l1_eq x x (by omega) (by omega), show (0 : Int) = ((0 : Nat) : Int) from rfl, this]
  rfl
theorem eq_Log (N : Nat) (x : Log) (h : totLog x ≤ 1099511627) (hN : Big N) : laws_eqLog N x x = some true := by
  unfold laws_eqLog
  simp only [totLog] at h
  simp [eq_EntryS N x.Entries (by omega) hN]
theorem eq_Peer (N : Nat) (x : Peer) (h : totPeer x ≤ 1099511627) (hN : Big N) : laws_eqPeer N x x = some true := by
  unfold laws_eqPeer
  simp
theorem eq_PeerS_r (N : Nat) (hN : Big N) (c : (List Peer)) (hc : c.length ≤ 1099511627776) (w : ∀ y ∈ c, totPeer y ≤ 1099511627) : ∀ (d k : Nat), c.length = k + d → laws_eqPeerS_l1_r N c c (c.drop k) (k : Int) = some (.inr ())
  | 0, k, h => by rw [List.drop_eq_nil_of_le (by omega), laws_eqPeerS_l1_r]
  | d + 1, k, h => by
    have hk : k < c.length := by omega
    rw [List.drop_eq_getElem_cons hk, laws_eqPeerS_l1_r]
    simp only [Option.bind_some, at_lt hk, w64_succ (k := k) (by omega)]
    have := eq_PeerS_r N hN c hc w d (k + 1) (by omega)
    simpa [eq_Peer N _ (w _ (List.getElem_mem hk)) hN] using this
theorem eq_PeerS (N : Nat) (x : (List Peer)) (h : (totL totPeer) x ≤ 1099511627) (hN : Big N) : laws_eqPeerS N x x = some true := by
  unfold laws_eqPeerS
  have hl : x.length ≤ 1099511627 := by simp only [totL] at h; omega
  have := eq_PeerS_r N hN x (by omega) (fun y hy => Nat.le_trans (le_sum hy) (by simp only [totL] at h; omega)) x.length 0 (by omega)
  simp only [List.drop_zero] at this
  simp only [joinP]
  rw [if_neg (by simp), laws_eqPeerS_l1_eq x x (by omega) (by omega), show (0 : Int) = ((0 : Nat) : Int) from rfl, this]
  rfl
theorem eq_Node (N : Nat) (x : Node) (h : totNode x ≤ 1099511627) (hN : Big N) : laws_eqNode N x x = some true := by
  unfold laws_eqNode
  simp only [totNode] at h
  simp [eq_IntS N x.Conf (by omega) hN, eq_Log N x.Log (by omega) hN, eq_IntS N x.Votes (by omega) hN, eq_PeerS N x.Peers (by omega) hN]
def totMessage (x : Message) : Nat := (totL totEntry) x.Entries + (totL (fun _ => 0)) x.Conf + ByteArray.size x.Data
theorem eq_Message (N : Nat) (x : Message) (h : totMessage x ≤ 1099511627) (hN : Big N) : laws_eqMessage N x x = some true := by
  unfold laws_eqMessage
  simp only [totMessage] at h
  simp [eq_EntryS N x.Entries (by omega) hN, eq_IntS N x.Conf (by omega) hN]
theorem eq_MessageS_r (N : Nat) (hN : Big N) (c : (List Message)) (hc : c.length ≤ 1099511627776) (w : ∀ y ∈ c, totMessage y ≤ 1099511627) : ∀ (d k : Nat), c.length = k + d → laws_eqMessageS_l1_r N c c (c.drop k) (k : Int) = some (.inr ())
  | 0, k, h => by rw [List.drop_eq_nil_of_le (by omega), laws_eqMessageS_l1_r]
  | d + 1, k, h => by
    have hk : k < c.length := by omega
    rw [List.drop_eq_getElem_cons hk, laws_eqMessageS_l1_r]
    simp only [Option.bind_some, at_lt hk, w64_succ (k := k) (by omega)]
    have := eq_MessageS_r N hN c hc w d (k + 1) (by omega)
    simpa [eq_Message N _ (w _ (List.getElem_mem hk)) hN] using this
theorem eq_MessageS (N : Nat) (x : (List Message)) (h : (totL totMessage) x ≤ 1099511627) (hN : Big N) : laws_eqMessageS N x x = some true := by
  unfold laws_eqMessageS
  have hl : x.length ≤ 1099511627 := by simp only [totL] at h; omega
  have := eq_MessageS_r N hN x (by omega) (fun y hy => Nat.le_trans (le_sum hy) (by simp only [totL] at h; omega)) x.length 0 (by omega)
  simp only [List.drop_zero] at this
  simp only [joinP]
  rw [if_neg (by simp), laws_eqMessageS_l1_eq x x (by omega) (by omega), show (0 : Int) = ((0 : Nat) : Int) from rfl, this]
  rfl
def HP_IntS (N : Nat) (y : Int) (k : Int) : Prop := y = k
def HL_IntS (N : Nat) : Int → List Int → Prop
  | _, [] => True
  | k, y :: ys => HP_IntS N y k ∧ HL_IntS N (k + 1) ys
theorem HL_IntS_snoc {N : Nat} {y : Int} : ∀ {xs : List Int} {k : Int}, HL_IntS N k xs → HP_IntS N y (k + 1 * xs.length) → HL_IntS N k (xs ++ [y])
  | [], k, _, h => by
    refine ⟨?_, trivial⟩
    simpa using h
  | x :: xs, k, h, h2 => by
    refine ⟨h.1, HL_IntS_snoc h.2 ?_⟩
    rw [show k + 1 + 1 * (xs.length : Int) = k + 1 * ((x :: xs).length : Int) by simp only [List.length_cons]; omega]
    exact h2
theorem mark_IntS_r (N : Nat) (hN : Big N) (k0 : Int) (h1 : 1 ≤ k0) : ∀ (d i m : Nat) (k : Int) (acc : (List Int)), acc.length = i + d → d < m → HL_IntS N k0 (acc.take i) → k = k0 + 1 * i → k0 + 1 * acc.length ≤ 1099511627 → ∃ acc', laws_markIntS_l1 N m k (i : Int) acc = some (k0 + 1 * acc.length, acc') ∧ acc.length = acc'.length ∧ HL_IntS N k0 acc'
  | 0, i, m, k, acc, hl, hm, hh, hk, hb => by
    obtain ⟨m, rfl⟩ : ∃ q, m = q + 1 := ⟨m - 1, by omega⟩
    rw [List.take_of_length_le (by omega)] at hh
    refine ⟨acc, ?_, rfl, hh⟩
    rw [laws_markIntS_l1, if_neg (by simp; omega), hk, hl]
    rfl
  | d + 1, i, m, k, acc, hl, hm, hh, hk, hb => by
    obtain ⟨m, rfl⟩ : ∃ q, m = q + 1 := ⟨m - 1, by omega⟩
    have hlt : i < acc.length := by omega
    have w1 : w64 (k + 1) = k + 1 := w64_id (by omega) (by omega)
    rw [laws_markIntS_l1, if_pos (by simp; omega)]
    simp only [at_lt hlt, at_set hlt, Option.bind_some, List.set_set, Int.toNat_natCast, w64_succ (k := i) (by omega), w1]
    have hlen : (acc.set i (k)).length = acc.length := List.length_set
    obtain ⟨acc', e1, e2, e3⟩ := mark_IntS_r N hN k0 h1 d (i + 1) m (k + 1) (acc.set i (k)) (by rw [hlen]; omega) (by omega) (by
      rw [take_set_succ hlt]
      refine HL_IntS_snoc hh ?_
      rw [List.length_take, Nat.min_eq_left (by omega), ← hk]
      exact rfl) (by omega) (by rw [hlen]; exact hb)
    rw [hlen] at e1 e2
    exact ⟨acc', e1, e2, e3⟩
theorem held_IntS_r (N : Nat) (c : (List Int)) : ∀ (ys : List Int) (k : Int) (i : Nat), HL_IntS N k ys → 1 ≤ k → k + 1 * ys.length ≤ 1099511627 → i + ys.length ≤ 1099511627 → laws_heldIntS_l1_r N c ys k (i : Int) = some (.inr (k + 1 * ys.length))
  | [], k, i, h, h1, h2, h3 => by
    rw [laws_heldIntS_l1_r]
    simp
  | y :: ys, k, i, h, h1, h2, h3 => by
    simp only [List.length_cons] at h2 h3
    obtain ⟨hy, hs⟩ := h
    have ih := held_IntS_r N c ys (k + 1) (i + 1) hs (by omega) (by omega) (by omega)
    have a0 : y = k := hy
    have w1 : w64 (k + 1) = k + 1 := w64_id (by omega) (by omega)
    rw [laws_heldIntS_l1_r]
    simp only [Option.bind_some, w64_succ (k := i) (by omega), a0, w1, bne_self_eq_false, decide_true, Bool.not_true, Bool.false_eq_true, if_false, ih, List.length_cons]
    congr 2
    omega
theorem mark_IntS (N : Nat) (hN : Big N) (x : (List Int)) (k : Int) (h1 : 1 ≤ k) (hb : k + 1 * x.length ≤ 1099511627) : ∃ y, laws_markIntS N x k = some (k + 1 * x.length, y) ∧ x.length = y.length ∧ laws_heldIntS N y k = some (k + 1 * x.length) := by
  obtain ⟨y, e1, e2, e3⟩ := mark_IntS_r N hN k h1 x.length 0 N k x (by omega) (by omega) trivial (by simp) hb
  refine ⟨y, ?_, e2, ?_⟩
  · unfold laws_markIntS
    simp only [joinP]
    rw [show (0 : Int) = ((0 : Nat) : Int) from rfl, e1]
    rfl
  · unfold laws_heldIntS
    simp only [joinP]
    rw [laws_heldIntS_l1_eq y (by omega) (by omega), show (0 : Int) = ((0 : Nat) : Int) from rfl, held_IntS_r N y y k 0 e3 h1 (by omega) (by omega), e2]
    rfl
theorem strOf_size (n : Int) : (strOf ([n] : List Int)).size = 1 := rfl
theorem mark_text_r (N : Nat) : ∀ (m : Nat) (k : Int) (out : ByteArray), 0 ≤ k → k < m → out.size + k ≤ 1099511627776 → ∃ t, laws_markText_l1 N m k out = some t ∧ (t.size : Int) ≤ out.size + k
  | 0, k, out, h0, hm, hs => by omega
  | m + 1, k, out, h0, hm, hs => by
    rw [laws_markText_l1]
    by_cases hk : k > 0
    · rw [if_pos (by simpa using hk)]
      simp only [intD]
      rw [if_neg (by decide), if_neg (by decide)]
      simp only [Option.bind_some]
      have hq : IntKind.i64.wrap (k.tdiv 10) = k / 10 := by
        rw [Int.tdiv_eq_ediv_of_nonneg h0]
        exact w64_id (by omega) (by omega)
      rw [hq, scat_ok (by rw [strOf_size]; omega), Option.bind_some]
      obtain ⟨t, e1, e2⟩ := mark_text_r N m (k / 10) (strOf ([IntKind.wrap .u8 (w64 ((48 : Int) + k.tmod 10))] : List Int) ++ out) (by omega) (by omega) (by rw [ByteArray.size_append, strOf_size]; omega)
      refine ⟨t, e1, ?_⟩
      rw [ByteArray.size_append, strOf_size] at e2
      omega
    · rw [if_neg (by simpa using hk)]
      exact ⟨out, rfl, by omega⟩
theorem mark_text (N : Nat) (hN : Big N) (k : Int) (h0 : 0 ≤ k) (hk : k ≤ 1099511627) : ∃ t, laws_markText N k = some t := by
  unfold laws_markText
  by_cases h : k ≤ 0
  · exact ⟨_, by rw [if_pos (by simpa using h)]⟩
  · rw [if_neg (by simpa using h)]
    simp only [joinP]
    obtain ⟨t, e1, e2⟩ := mark_text_r N N k ⟨#[]⟩ h0 (by omega) (by
      have : (⟨#[]⟩ : ByteArray).size = 0 := rfl
      omega)
    have hz : (⟨#[]⟩ : ByteArray).size = 0 := rfl
    have ho : (⟨#[109]⟩ : ByteArray).size = 1 := rfl
    rw [e1, Option.bind_some, scat_ok (by omega)]
    exact ⟨_, rfl⟩
def HP_EntryS (N : Nat) (y : Entry) (k : Int) : Prop := y.Term = k ∧ y.Kind = k + 1 ∧ laws_markText N (k + 1 + 1) = some y.Data
def HL_EntryS (N : Nat) : Int → List Entry → Prop
  | _, [] => True
  | k, y :: ys => HP_EntryS N y k ∧ HL_EntryS N (k + 1 + 1 + 1) ys
theorem HL_EntryS_snoc {N : Nat} {y : Entry} : ∀ {xs : List Entry} {k : Int}, HL_EntryS N k xs → HP_EntryS N y (k + 3 * xs.length) → HL_EntryS N k (xs ++ [y])
  | [], k, _, h => by
    refine ⟨?_, trivial⟩
    simpa using h
  | x :: xs, k, h, h2 => by
    refine ⟨h.1, HL_EntryS_snoc h.2 ?_⟩
    rw [show k + 1 + 1 + 1 + 3 * (xs.length : Int) = k + 3 * ((x :: xs).length : Int) by simp only [List.length_cons]; omega]
    exact h2
theorem mark_EntryS_r (N : Nat) (hN : Big N) (k0 : Int) (h1 : 1 ≤ k0) : ∀ (d i m : Nat) (k : Int) (acc : (List Entry)), acc.length = i + d → d < m → HL_EntryS N k0 (acc.take i) → k = k0 + 3 * i → k0 + 3 * acc.length ≤ 1099511627 → ∃ acc', laws_markEntryS_l1 N m k (i : Int) acc = some (k0 + 3 * acc.length, acc') ∧ acc.length = acc'.length ∧ HL_EntryS N k0 acc'
  | 0, i, m, k, acc, hl, hm, hh, hk, hb => by
    obtain ⟨m, rfl⟩ : ∃ q, m = q + 1 := ⟨m - 1, by omega⟩
    rw [List.take_of_length_le (by omega)] at hh
    refine ⟨acc, ?_, rfl, hh⟩
    rw [laws_markEntryS_l1, if_neg (by simp; omega), hk, hl]
    rfl
  | d + 1, i, m, k, acc, hl, hm, hh, hk, hb => by
    obtain ⟨m, rfl⟩ : ∃ q, m = q + 1 := ⟨m - 1, by omega⟩
    have hlt : i < acc.length := by omega
    obtain ⟨t2, ht2⟩ := mark_text N hN (k + 1 + 1) (by omega) (by omega)
    have w1 : w64 (k + 1) = k + 1 := w64_id (by omega) (by omega)
    have w2 : w64 (k + 1 + 1) = k + 1 + 1 := w64_id (by omega) (by omega)
    have w3 : w64 (k + 1 + 1 + 1) = k + 1 + 1 + 1 := w64_id (by omega) (by omega)
    rw [laws_markEntryS_l1, if_pos (by simp; omega)]
    simp only [at_lt hlt, at_set hlt, Option.bind_some, List.set_set, Int.toNat_natCast, w64_succ (k := i) (by omega), w1, w2, w3, ht2]
    have hlen : (acc.set i ((Entry.mk k (k + 1) t2))).length = acc.length := List.length_set
    obtain ⟨acc', e1, e2, e3⟩ := mark_EntryS_r N hN k0 h1 d (i + 1) m (k + 1 + 1 + 1) (acc.set i ((Entry.mk k (k + 1) t2))) (by rw [hlen]; omega) (by omega) (by
      rw [take_set_succ hlt]
      refine HL_EntryS_snoc hh ?_
      rw [List.length_take, Nat.min_eq_left (by omega), ← hk]
      exact ⟨rfl, rfl, ht2⟩) (by omega) (by rw [hlen]; exact hb)
    rw [hlen] at e1 e2
    exact ⟨acc', e1, e2, e3⟩
theorem held_EntryS_r (N : Nat) (c : (List Entry)) : ∀ (ys : List Entry) (k : Int) (i : Nat), HL_EntryS N k ys → 1 ≤ k → k + 3 * ys.length ≤ 1099511627 → i + ys.length ≤ 1099511627 → laws_heldEntryS_l1_r N c ys k (i : Int) = some (.inr (k + 3 * ys.length))
  | [], k, i, h, h1, h2, h3 => by
    rw [laws_heldEntryS_l1_r]
    simp
  | y :: ys, k, i, h, h1, h2, h3 => by
    simp only [List.length_cons] at h2 h3
    obtain ⟨hy, hs⟩ := h
    have ih := held_EntryS_r N c ys (k + 1 + 1 + 1) (i + 1) hs (by omega) (by omega) (by omega)
    obtain ⟨a0, a1, a2⟩ := hy
    have w1 : w64 (k + 1) = k + 1 := w64_id (by omega) (by omega)
    have w2 : w64 (k + 1 + 1) = k + 1 + 1 := w64_id (by omega) (by omega)
    have w3 : w64 (k + 1 + 1 + 1) = k + 1 + 1 + 1 := w64_id (by omega) (by omega)
    rw [laws_heldEntryS_l1_r]
    simp only [Option.bind_some, w64_succ (k := i) (by omega), a0, a1, a2, w1, w2, w3, bne_self_eq_false, decide_true, Bool.not_true, Bool.false_eq_true, if_false, ih, List.length_cons]
    congr 2
    omega
theorem mark_EntryS (N : Nat) (hN : Big N) (x : (List Entry)) (k : Int) (h1 : 1 ≤ k) (hb : k + 3 * x.length ≤ 1099511627) : ∃ y, laws_markEntryS N x k = some (k + 3 * x.length, y) ∧ x.length = y.length ∧ laws_heldEntryS N y k = some (k + 3 * x.length) := by
  obtain ⟨y, e1, e2, e3⟩ := mark_EntryS_r N hN k h1 x.length 0 N k x (by omega) (by omega) trivial (by simp) hb
  refine ⟨y, ?_, e2, ?_⟩
  · unfold laws_markEntryS
    simp only [joinP]
    rw [show (0 : Int) = ((0 : Nat) : Int) from rfl, e1]
    rfl
  · unfold laws_heldEntryS
    simp only [joinP]
    rw [laws_heldEntryS_l1_eq y (by omega) (by omega), show (0 : Int) = ((0 : Nat) : Int) from rfl, held_EntryS_r N y y k 0 e3 h1 (by omega) (by omega), e2]
    rfl
def HP_PeerS (N : Nat) (y : Peer) (k : Int) : Prop := y.Id = k ∧ y.Next = k + 1 ∧ y.Match = k + 1 + 1 ∧ y.Sent = k + 1 + 1 + 1
def HL_PeerS (N : Nat) : Int → List Peer → Prop
  | _, [] => True
  | k, y :: ys => HP_PeerS N y k ∧ HL_PeerS N (k + 1 + 1 + 1 + 1) ys
theorem HL_PeerS_snoc {N : Nat} {y : Peer} : ∀ {xs : List Peer} {k : Int}, HL_PeerS N k xs → HP_PeerS N y (k + 4 * xs.length) → HL_PeerS N k (xs ++ [y])
  | [], k, _, h => by
    refine ⟨?_, trivial⟩
    simpa using h
  | x :: xs, k, h, h2 => by
    refine ⟨h.1, HL_PeerS_snoc h.2 ?_⟩
    rw [show k + 1 + 1 + 1 + 1 + 4 * (xs.length : Int) = k + 4 * ((x :: xs).length : Int) by simp only [List.length_cons]; omega]
    exact h2
theorem mark_PeerS_r (N : Nat) (hN : Big N) (k0 : Int) (h1 : 1 ≤ k0) : ∀ (d i m : Nat) (k : Int) (acc : (List Peer)), acc.length = i + d → d < m → HL_PeerS N k0 (acc.take i) → k = k0 + 4 * i → k0 + 4 * acc.length ≤ 1099511627 → ∃ acc', laws_markPeerS_l1 N m k (i : Int) acc = some (k0 + 4 * acc.length, acc') ∧ acc.length = acc'.length ∧ HL_PeerS N k0 acc'
  | 0, i, m, k, acc, hl, hm, hh, hk, hb => by
    obtain ⟨m, rfl⟩ : ∃ q, m = q + 1 := ⟨m - 1, by omega⟩
    rw [List.take_of_length_le (by omega)] at hh
    refine ⟨acc, ?_, rfl, hh⟩
    rw [laws_markPeerS_l1, if_neg (by simp; omega), hk, hl]
    rfl
  | d + 1, i, m, k, acc, hl, hm, hh, hk, hb => by
    obtain ⟨m, rfl⟩ : ∃ q, m = q + 1 := ⟨m - 1, by omega⟩
    have hlt : i < acc.length := by omega
    have w1 : w64 (k + 1) = k + 1 := w64_id (by omega) (by omega)
    have w2 : w64 (k + 1 + 1) = k + 1 + 1 := w64_id (by omega) (by omega)
    have w3 : w64 (k + 1 + 1 + 1) = k + 1 + 1 + 1 := w64_id (by omega) (by omega)
    have w4 : w64 (k + 1 + 1 + 1 + 1) = k + 1 + 1 + 1 + 1 := w64_id (by omega) (by omega)
    rw [laws_markPeerS_l1, if_pos (by simp; omega)]
    simp only [at_lt hlt, at_set hlt, Option.bind_some, List.set_set, Int.toNat_natCast, w64_succ (k := i) (by omega), w1, w2, w3, w4]
    have hlen : (acc.set i ((Peer.mk k (k + 1) (k + 1 + 1) (k + 1 + 1 + 1)))).length = acc.length := List.length_set
    obtain ⟨acc', e1, e2, e3⟩ := mark_PeerS_r N hN k0 h1 d (i + 1) m (k + 1 + 1 + 1 + 1) (acc.set i ((Peer.mk k (k + 1) (k + 1 + 1) (k + 1 + 1 + 1)))) (by rw [hlen]; omega) (by omega) (by
      rw [take_set_succ hlt]
      refine HL_PeerS_snoc hh ?_
      rw [List.length_take, Nat.min_eq_left (by omega), ← hk]
      exact ⟨rfl, rfl, rfl, rfl⟩) (by omega) (by rw [hlen]; exact hb)
    rw [hlen] at e1 e2
    exact ⟨acc', e1, e2, e3⟩
theorem held_PeerS_r (N : Nat) (c : (List Peer)) : ∀ (ys : List Peer) (k : Int) (i : Nat), HL_PeerS N k ys → 1 ≤ k → k + 4 * ys.length ≤ 1099511627 → i + ys.length ≤ 1099511627 → laws_heldPeerS_l1_r N c ys k (i : Int) = some (.inr (k + 4 * ys.length))
  | [], k, i, h, h1, h2, h3 => by
    rw [laws_heldPeerS_l1_r]
    simp
  | y :: ys, k, i, h, h1, h2, h3 => by
    simp only [List.length_cons] at h2 h3
    obtain ⟨hy, hs⟩ := h
    have ih := held_PeerS_r N c ys (k + 1 + 1 + 1 + 1) (i + 1) hs (by omega) (by omega) (by omega)
    obtain ⟨a0, a1, a2, a3⟩ := hy
    have w1 : w64 (k + 1) = k + 1 := w64_id (by omega) (by omega)
    have w2 : w64 (k + 1 + 1) = k + 1 + 1 := w64_id (by omega) (by omega)
    have w3 : w64 (k + 1 + 1 + 1) = k + 1 + 1 + 1 := w64_id (by omega) (by omega)
    have w4 : w64 (k + 1 + 1 + 1 + 1) = k + 1 + 1 + 1 + 1 := w64_id (by omega) (by omega)
    rw [laws_heldPeerS_l1_r]
    simp only [Option.bind_some, w64_succ (k := i) (by omega), a0, a1, a2, a3, w1, w2, w3, w4, bne_self_eq_false, decide_true, Bool.not_true, Bool.false_eq_true, if_false, ih, List.length_cons]
    congr 2
    omega
theorem mark_PeerS (N : Nat) (hN : Big N) (x : (List Peer)) (k : Int) (h1 : 1 ≤ k) (hb : k + 4 * x.length ≤ 1099511627) : ∃ y, laws_markPeerS N x k = some (k + 4 * x.length, y) ∧ x.length = y.length ∧ laws_heldPeerS N y k = some (k + 4 * x.length) := by
  obtain ⟨y, e1, e2, e3⟩ := mark_PeerS_r N hN k h1 x.length 0 N k x (by omega) (by omega) trivial (by simp) hb
  refine ⟨y, ?_, e2, ?_⟩
  · unfold laws_markPeerS
    simp only [joinP]
    rw [show (0 : Int) = ((0 : Nat) : Int) from rfl, e1]
    rfl
  · unfold laws_heldPeerS
    simp only [joinP]
    rw [laws_heldPeerS_l1_eq y (by omega) (by omega), show (0 : Int) = ((0 : Nat) : Int) from rfl, held_PeerS_r N y y k 0 e3 h1 (by omega) (by omega), e2]
    rfl
end Go.Proofs.Ytehknbpmpbghhaa.Pe.FnExactTick
