import Derived.Test.YtedoifjaobebeaaGreatDoorPeLib
import Derived.Test.YtedoifjaobebeaaGreatDoorPeFFnExactShowWorld3
namespace Go.Proofs.YtedoifjaobebeaaGreatDoor.Pe.FnExactShowWorld
open Go Go.RowKit
set_option linter.unusedVariables false
set_option linter.unusedSimpArgs false
set_option maxHeartbeats 40000000
theorem at_set {α : Type} {xs : List α} {k : Nat} (h : k < xs.length) (y : α) : at? (xs.set k y) (k : Int) = some y := by
 unfold at?
 rw [if_pos (by omega),Int.toNat_natCast,List.getElem?_set_self h]
theorem le_sum {α : Type} {f : α → Nat} {y : α} : ∀ {xs : List α},y ∈ xs → f y ≤ (xs.map f).sum
 | x :: xs,h => by
  rcases List.mem_cons.1 h with rfl | h
  ·simp
  ·have := le_sum (f := f) h
   simp only [List.map_cons,List.sum_cons]
   omega
def wfEntry (x : Entry) : Prop := (WI .i64 x.Term) ∧ (WI .i64 x.Kind) ∧ (x.Data.size ≤ maxLen)
def wfLog (x : Log) : Prop := (WI .i64 x.Start) ∧ (WI .i64 x.StartTerm) ∧ (x.Entries.length ≤ maxLen ∧ ∀ y ∈ x.Entries,wfEntry y)
def wfPeer (x : Peer) : Prop := (WI .i64 x.Id) ∧ (WI .i64 x.Next) ∧ (WI .i64 x.Match) ∧ (WI .i64 x.Sent)
def wfNode (x : Node) : Prop := (WI .i64 x.Id) ∧ (WI .i64 x.Term) ∧ (WI .i64 x.Vote) ∧ (WI .i64 x.Role) ∧ (WI .i64 x.Lead) ∧ (x.Conf.length ≤ maxLen ∧ ∀ y ∈ x.Conf,WI .i64 y) ∧ (wfLog x.Log) ∧ (WI .i64 x.Commit) ∧ (WI .i64 x.Clock) ∧ (WI .i64 x.Limit) ∧ (x.Votes.length ≤ maxLen ∧ ∀ y ∈ x.Votes,WI .i64 y) ∧ (x.Peers.length ≤ maxLen ∧ ∀ y ∈ x.Peers,wfPeer y)
def wfFile (x : File) : Prop := (x.Name.size ≤ maxLen) ∧ (x.Text.size ≤ maxLen)
def wfDisk (x : Disk) : Prop := (x.Files.length ≤ maxLen ∧ ∀ y ∈ x.Files,wfFile y)
def wfManifest (x : Manifest) : Prop := (x.Segs.length ≤ maxLen ∧ ∀ y ∈ x.Segs,WI .i64 y) ∧ (WI .i64 x.Next) ∧ (WI .i64 x.Base) ∧ (WI .i64 x.BaseTerm) ∧ (x.Conf.length ≤ maxLen ∧ ∀ y ∈ x.Conf,WI .i64 y)
def wfSpot (x : Spot) : Prop := (x.Key.size ≤ maxLen) ∧ (WI .i64 x.Seg) ∧ (WI .i64 x.At) ∧ (WI .i64 x.Size)
def wfShelf (x : Shelf) : Prop := (wfManifest x.Man) ∧ (x.Dir.length ≤ maxLen ∧ ∀ y ∈ x.Dir,wfSpot y) ∧ (WI .i64 x.Stamp)
def wfServer (x : Server) : Prop := (wfNode x.Node) ∧ (wfDisk x.Disk) ∧ (wfShelf x.Shelf) ∧ (x.Stage.size ≤ maxLen) ∧ (WI .i64 x.StageAt) ∧ (WI .i64 x.StageTerm)
def wfMessage (x : Message) : Prop := (WI .i64 x.Kind) ∧ (WI .i64 x.From) ∧ (WI .i64 x.To) ∧ (WI .i64 x.Term) ∧ (WI .i64 x.Index) ∧ (WI .i64 x.LogTerm) ∧ (WI .i64 x.Commit) ∧ (True) ∧ (x.Entries.length ≤ maxLen ∧ ∀ y ∈ x.Entries,wfEntry y) ∧ (x.Conf.length ≤ maxLen ∧ ∀ y ∈ x.Conf,WI .i64 y) ∧ (x.Data.size ≤ maxLen) ∧ (True)
def wfWait (x : Wait) : Prop := (WI .i64 x.Node) ∧ (WI .i64 x.Index) ∧ (WI .i64 x.Term) ∧ (WI .i64 x.Call)
def wfLeader (x : Leader) : Prop := (WI .i64 x.Node) ∧ (WI .i64 x.Term) ∧ (wfLog x.Log)
def wfApplied (x : Applied) : Prop := (WI .i64 x.Node) ∧ (WI .i64 x.Term) ∧ (WI .i64 x.Index) ∧ (wfEntry x.Entry)
def wfCommand (x : Command) : Prop := (WI .i64 x.Op) ∧ (WI .i64 x.Session) ∧ (WI .i64 x.Seq) ∧ (x.Key.size ≤ maxLen) ∧ (x.Value.size ≤ maxLen) ∧ (x.Old.size ≤ maxLen)
def wfReply (x : Reply) : Prop := (WI .i64 x.Call) ∧ (WI .i64 x.Index) ∧ (wfCommand x.Command) ∧ (x.Text.size ≤ maxLen)
def wfWorld (x : World) : Prop := (x.Up.length ≤ maxLen ∧ ∀ y ∈ x.Up,True) ∧ (x.Servers.length ≤ maxLen ∧ ∀ y ∈ x.Servers,wfServer y) ∧ (x.Net.length ≤ maxLen ∧ ∀ y ∈ x.Net,wfMessage y) ∧ (x.Waits.length ≤ maxLen ∧ ∀ y ∈ x.Waits,wfWait y) ∧ (x.Leaders.length ≤ maxLen ∧ ∀ y ∈ x.Leaders,wfLeader y) ∧ (x.Applied.length ≤ maxLen ∧ ∀ y ∈ x.Applied,wfApplied y) ∧ (x.Replies.length ≤ maxLen ∧ ∀ y ∈ x.Replies,wfReply y)
theorem sz_BoolS (N : Nat) (x : (List Bool)) (l : Int) (h0 : 0 ≤ l) (h1 : l ≤ 1099511627776) (w : x.length ≤ maxLen ∧ ∀ y ∈ x,True) (hN : Big N) : laws_szBoolS N x l = some (if ((totL (fun _ => 0)) x : Int) ≤ l then l - (totL (fun _ => 0)) x else -1) := by
 have hM := maxLen_le
 unfold laws_szBoolS
 have e1 : w64 (l - (x.length : Int)) = l - x.length := w64_id (by have := w.1; omega) (by omega)
 rw [e1]
 by_cases c : l - (x.length : Int) < 0
 ·rw [if_pos (by simpa using c),if_neg (by simp only [totL]; omega)]
 rw [if_neg (by simpa using c)]
 have hs : (x.map (fun _ => 0)).sum = 0 := by
  clear e1 c w
  induction x with
  | nil => rfl
  | cons y x ih => simp [ih]
 rw [if_pos (by simp only [totL,hs]; omega)]
 first
  | (simp only [totL,hs]; done)
  | (simp only [totL,hs]; congr 1; done)
  | (simp only [totL,hs]; congr 1; omega)
theorem sz_IntS (N : Nat) (x : (List Int)) (l : Int) (h0 : 0 ≤ l) (h1 : l ≤ 1099511627776) (w : x.length ≤ maxLen ∧ ∀ y ∈ x,WI .i64 y) (hN : Big N) : laws_szIntS N x l = some (if ((totL (fun _ => 0)) x : Int) ≤ l then l - (totL (fun _ => 0)) x else -1) := by
 have hM := maxLen_le
 unfold laws_szIntS
 have e1 : w64 (l - (x.length : Int)) = l - x.length := w64_id (by have := w.1; omega) (by omega)
 rw [e1]
 by_cases c : l - (x.length : Int) < 0
 ·rw [if_pos (by simpa using c),if_neg (by simp only [totL]; omega)]
 rw [if_neg (by simpa using c)]
 have hs : (x.map (fun _ => 0)).sum = 0 := by
  clear e1 c w
  induction x with
  | nil => rfl
  | cons y x ih => simp [ih]
 rw [if_pos (by simp only [totL,hs]; omega)]
 first
  | (simp only [totL,hs]; done)
  | (simp only [totL,hs]; congr 1; done)
  | (simp only [totL,hs]; congr 1; omega)
def totEntry (x : Entry) : Nat := ByteArray.size x.Data
theorem sz_Entry (N : Nat) (x : Entry) (l : Int) (h0 : 0 ≤ l) (h1 : l ≤ 1099511627776) (w : wfEntry x) (hN : Big N) : laws_szEntry N x l = some (if (totEntry x : Int) ≤ l then l - totEntry x else -1) := by
 have hM := maxLen_le
 unfold laws_szEntry
 unfold wfEntry at w
 have e1 : w64 (l - (x.Data.size : Int)) = l - x.Data.size := w64_id (by have := w.2.2; omega) (by omega)
 rw [e1]
 by_cases c1 : l - (x.Data.size : Int) < 0
 ·rw [if_pos (by simpa using c1),if_neg (by simp only [totEntry]; omega)]
 rw [if_neg (by simpa using c1)]
 rw [if_pos (by simp only [totEntry]; omega)]
 first
  | (simp only [totEntry]; done)
  | (simp only [totEntry]; congr 1; done)
  | (simp only [totEntry]; congr 1; omega)
theorem sz_EntryS_r (N : Nat) (hN : Big N) (c : (List Entry)) : ∀ (tl : (List Entry)) (l i : Int),0 ≤ l → l ≤ 1099511627776 → (∀ y ∈ tl,wfEntry y) → laws_szEntryS_l1_r N c tl l i = some (if ((tl.map totEntry).sum : Int) ≤ l then .inr (l - (tl.map totEntry).sum) else .inl (-1))
 | [],l,i,h0,h1,w => by simp [laws_szEntryS_l1_r,h0]
 | y :: tl,l,i,h0,h1,w => by
  rw [laws_szEntryS_l1_r]
  simp only [Option.bind_some,List.map_cons,List.sum_cons]
  rw [sz_Entry N y l h0 h1 (w y (by simp)) hN]
  simp only [Option.bind_some]
  by_cases c1 : ¬ ((totEntry y : Int) ≤ l)
  ·rw [if_neg c1,if_pos (by decide),if_neg (by omega)]
  replace c1 := Classical.not_not.1 c1
  rw [if_pos c1,if_neg (by simp; omega),sz_EntryS_r N hN c tl _ _ (by omega) (by omega) (fun z hz => w z (by simp [hz]))]
  by_cases c2 : ((tl.map totEntry).sum : Int) ≤ l - totEntry y
  ·rw [if_pos c2,if_pos (by omega)]
   congr 2 <;> omega
  ·rw [if_neg c2,if_neg (by omega)]
theorem sz_EntryS (N : Nat) (x : (List Entry)) (l : Int) (h0 : 0 ≤ l) (h1 : l ≤ 1099511627776) (w : x.length ≤ maxLen ∧ ∀ y ∈ x,wfEntry y) (hN : Big N) : laws_szEntryS N x l = some (if ((totL totEntry) x : Int) ≤ l then l - (totL totEntry) x else -1) := by
 have hM := maxLen_le
 unfold laws_szEntryS
 have e1 : w64 (l - (x.length : Int)) = l - x.length := w64_id (by have := w.1; omega) (by omega)
 rw [e1]
 by_cases c : l - (x.length : Int) < 0
 ·rw [if_pos (by simpa using c),if_neg (by simp only [totL]; omega)]
 rw [if_neg (by simpa using c)]
 simp only [joinP]
 rw [laws_szEntryS_l1_eq x (by omega) (by omega),sz_EntryS_r N hN x x _ _ (by omega) (by omega) w.2]
 simp only [Option.bind_some]
 by_cases c2 : ((x.map totEntry).sum : Int) ≤ l - x.length
 ·rw [if_pos c2,if_pos (by simp only [totL]; omega)]
  simp only [Sum.elim_inr,totL]
  congr 1 <;> omega
 ·rw [if_neg c2,if_neg (by simp only [totL]; omega)]
  rfl
def totLog (x : Log) : Nat := (totL totEntry) x.Entries
theorem sz_Log (N : Nat) (x : Log) (l : Int) (h0 : 0 ≤ l) (h1 : l ≤ 1099511627776) (w : wfLog x) (hN : Big N) : laws_szLog N x l = some (if (totLog x : Int) ≤ l then l - totLog x else -1) := by
 have hM := maxLen_le
 unfold laws_szLog
 unfold wfLog at w
 rw [sz_EntryS N x.Entries l (by omega) (by omega) w.2.2 hN]
 simp only [Option.bind_some]
 by_cases c1 : ¬ (((totL totEntry) x.Entries : Int) ≤ l)
 ·rw [if_neg c1,if_pos (by decide),if_neg (by simp only [totLog]; omega)]
 replace c1 := Classical.not_not.1 c1
 rw [if_pos c1,if_neg (by simp; omega)]
 rw [if_pos (by simp only [totLog]; omega)]
 first
  | (simp only [totLog]; done)
  | (simp only [totLog]; congr 1; done)
  | (simp only [totLog]; congr 1; omega)
def totPeer (x : Peer) : Nat := 0
theorem sz_PeerS (N : Nat) (x : (List Peer)) (l : Int) (h0 : 0 ≤ l) (h1 : l ≤ 1099511627776) (w : x.length ≤ maxLen ∧ ∀ y ∈ x,wfPeer y) (hN : Big N) : laws_szPeerS N x l = some (if ((totL totPeer) x : Int) ≤ l then l - (totL totPeer) x else -1) := by
 have hM := maxLen_le
 unfold laws_szPeerS
 have e1 : w64 (l - (x.length : Int)) = l - x.length := w64_id (by have := w.1; omega) (by omega)
 rw [e1]
 by_cases c : l - (x.length : Int) < 0
 ·rw [if_pos (by simpa using c),if_neg (by simp only [totL]; omega)]
 rw [if_neg (by simpa using c)]
 have hs : (x.map totPeer).sum = 0 := by
  clear e1 c w
  induction x with
  | nil => rfl
  | cons y x ih => simp [ih,totPeer]
 rw [if_pos (by simp only [totL,hs]; omega)]
 first
  | (simp only [totL,hs]; done)
  | (simp only [totL,hs]; congr 1; done)
  | (simp only [totL,hs]; congr 1; omega)
def totNode (x : Node) : Nat := (totL (fun _ => 0)) x.Conf + totLog x.Log + (totL (fun _ => 0)) x.Votes + (totL totPeer) x.Peers
theorem sz_Node (N : Nat) (x : Node) (l : Int) (h0 : 0 ≤ l) (h1 : l ≤ 1099511627776) (w : wfNode x) (hN : Big N) : laws_szNode N x l = some (if (totNode x : Int) ≤ l then l - totNode x else -1) := by
 have hM := maxLen_le
 unfold laws_szNode
 unfold wfNode at w
 rw [sz_IntS N x.Conf l (by omega) (by omega) w.2.2.2.2.2.1 hN]
 simp only [Option.bind_some]
 by_cases c1 : ¬ (((totL (fun _ => 0)) x.Conf : Int) ≤ l)
 ·rw [if_neg c1,if_pos (by decide),if_neg (by simp only [totNode]; omega)]
 replace c1 := Classical.not_not.1 c1
 rw [if_pos c1,if_neg (by simp; omega)]
 rw [sz_Log N x.Log (l - ((totL (fun _ => 0)) x.Conf : Int)) (by omega) (by omega) w.2.2.2.2.2.2.1 hN]
 simp only [Option.bind_some]
 by_cases c2 : ¬ ((totLog x.Log : Int) ≤ (l - ((totL (fun _ => 0)) x.Conf : Int)))
 ·rw [if_neg c2,if_pos (by decide),if_neg (by simp only [totNode]; omega)]
 replace c2 := Classical.not_not.1 c2
 rw [if_pos c2,if_neg (by simp; omega)]
 rw [sz_IntS N x.Votes ((l - ((totL (fun _ => 0)) x.Conf : Int)) - (totLog x.Log : Int)) (by omega) (by omega) w.2.2.2.2.2.2.2.2.2.2.1 hN]
 simp only [Option.bind_some]
 by_cases c3 : ¬ (((totL (fun _ => 0)) x.Votes : Int) ≤ ((l - ((totL (fun _ => 0)) x.Conf : Int)) - (totLog x.Log : Int)))
 ·rw [if_neg c3,if_pos (by decide),if_neg (by simp only [totNode]; omega)]
 replace c3 := Classical.not_not.1 c3
 rw [if_pos c3,if_neg (by simp; omega)]
 rw [sz_PeerS N x.Peers (((l - ((totL (fun _ => 0)) x.Conf : Int)) - (totLog x.Log : Int)) - ((totL (fun _ => 0)) x.Votes : Int)) (by omega) (by omega) w.2.2.2.2.2.2.2.2.2.2.2 hN]
 simp only [Option.bind_some]
 by_cases c4 : ¬ (((totL totPeer) x.Peers : Int) ≤ (((l - ((totL (fun _ => 0)) x.Conf : Int)) - (totLog x.Log : Int)) - ((totL (fun _ => 0)) x.Votes : Int)))
 ·rw [if_neg c4,if_pos (by decide),if_neg (by simp only [totNode]; omega)]
 replace c4 := Classical.not_not.1 c4
 rw [if_pos c4,if_neg (by simp; omega)]
 rw [if_pos (by simp only [totNode]; omega)]
 first
  | (simp only [totNode]; done)
  | (simp only [totNode]; congr 1; done)
  | (simp only [totNode]; congr 1; omega)
def totFile (x : File) : Nat := ByteArray.size x.Name + ByteArray.size x.Text
theorem sz_File (N : Nat) (x : File) (l : Int) (h0 : 0 ≤ l) (h1 : l ≤ 1099511627776) (w : wfFile x) (hN : Big N) : laws_szFile N x l = some (if (totFile x : Int) ≤ l then l - totFile x else -1) := by
 have hM := maxLen_le
 unfold laws_szFile
 unfold wfFile at w
 have e1 : w64 (l - (x.Name.size : Int)) = l - x.Name.size := w64_id (by have := w.1; omega) (by omega)
 rw [e1]
 by_cases c1 : l - (x.Name.size : Int) < 0
 ·rw [if_pos (by simpa using c1),if_neg (by simp only [totFile]; omega)]
 rw [if_neg (by simpa using c1)]
 have e2 : w64 ((l - (x.Name.size : Int)) - (x.Text.size : Int)) = (l - (x.Name.size : Int)) - x.Text.size := w64_id (by have := w.2; omega) (by omega)
 rw [e2]
 by_cases c2 : (l - (x.Name.size : Int)) - (x.Text.size : Int) < 0
 ·rw [if_pos (by simpa using c2),if_neg (by simp only [totFile]; omega)]
 rw [if_neg (by simpa using c2)]
 rw [if_pos (by simp only [totFile]; omega)]
 first
  | (simp only [totFile]; done)
  | (simp only [totFile]; congr 1; done)
  | (simp only [totFile]; congr 1; omega)
theorem sz_FileS_r (N : Nat) (hN : Big N) (c : (List File)) : ∀ (tl : (List File)) (l i : Int),0 ≤ l → l ≤ 1099511627776 → (∀ y ∈ tl,wfFile y) → laws_szFileS_l1_r N c tl l i = some (if ((tl.map totFile).sum : Int) ≤ l then .inr (l - (tl.map totFile).sum) else .inl (-1))
 | [],l,i,h0,h1,w => by simp [laws_szFileS_l1_r,h0]
 | y :: tl,l,i,h0,h1,w => by
  rw [laws_szFileS_l1_r]
  simp only [Option.bind_some,List.map_cons,List.sum_cons]
  rw [sz_File N y l h0 h1 (w y (by simp)) hN]
  simp only [Option.bind_some]
  by_cases c1 : ¬ ((totFile y : Int) ≤ l)
  ·rw [if_neg c1,if_pos (by decide),if_neg (by omega)]
  replace c1 := Classical.not_not.1 c1
  rw [if_pos c1,if_neg (by simp; omega),sz_FileS_r N hN c tl _ _ (by omega) (by omega) (fun z hz => w z (by simp [hz]))]
  by_cases c2 : ((tl.map totFile).sum : Int) ≤ l - totFile y
  ·rw [if_pos c2,if_pos (by omega)]
   congr 2 <;> omega
  ·rw [if_neg c2,if_neg (by omega)]
theorem sz_FileS (N : Nat) (x : (List File)) (l : Int) (h0 : 0 ≤ l) (h1 : l ≤ 1099511627776) (w : x.length ≤ maxLen ∧ ∀ y ∈ x,wfFile y) (hN : Big N) : laws_szFileS N x l = some (if ((totL totFile) x : Int) ≤ l then l - (totL totFile) x else -1) := by
 have hM := maxLen_le
 unfold laws_szFileS
 have e1 : w64 (l - (x.length : Int)) = l - x.length := w64_id (by have := w.1; omega) (by omega)
 rw [e1]
 by_cases c : l - (x.length : Int) < 0
 ·rw [if_pos (by simpa using c),if_neg (by simp only [totL]; omega)]
 rw [if_neg (by simpa using c)]
 simp only [joinP]
 rw [laws_szFileS_l1_eq x (by omega) (by omega),sz_FileS_r N hN x x _ _ (by omega) (by omega) w.2]
 simp only [Option.bind_some]
 by_cases c2 : ((x.map totFile).sum : Int) ≤ l - x.length
 ·rw [if_pos c2,if_pos (by simp only [totL]; omega)]
  simp only [Sum.elim_inr,totL]
  congr 1 <;> omega
 ·rw [if_neg c2,if_neg (by simp only [totL]; omega)]
  rfl
def totDisk (x : Disk) : Nat := (totL totFile) x.Files
theorem sz_Disk (N : Nat) (x : Disk) (l : Int) (h0 : 0 ≤ l) (h1 : l ≤ 1099511627776) (w : wfDisk x) (hN : Big N) : laws_szDisk N x l = some (if (totDisk x : Int) ≤ l then l - totDisk x else -1) := by
 have hM := maxLen_le
 unfold laws_szDisk
 unfold wfDisk at w
 rw [sz_FileS N x.Files l (by omega) (by omega) w hN]
 simp only [Option.bind_some]
 by_cases c1 : ¬ (((totL totFile) x.Files : Int) ≤ l)
 ·rw [if_neg c1,if_pos (by decide),if_neg (by simp only [totDisk]; omega)]
 replace c1 := Classical.not_not.1 c1
 rw [if_pos c1,if_neg (by simp; omega)]
 rw [if_pos (by simp only [totDisk]; omega)]
 first
  | (simp only [totDisk]; done)
  | (simp only [totDisk]; congr 1; done)
  | (simp only [totDisk]; congr 1; omega)
def totManifest (x : Manifest) : Nat := (totL (fun _ => 0)) x.Segs + (totL (fun _ => 0)) x.Conf
theorem sz_Manifest (N : Nat) (x : Manifest) (l : Int) (h0 : 0 ≤ l) (h1 : l ≤ 1099511627776) (w : wfManifest x) (hN : Big N) : laws_szManifest N x l = some (if (totManifest x : Int) ≤ l then l - totManifest x else -1) := by
 have hM := maxLen_le
 unfold laws_szManifest
 unfold wfManifest at w
 rw [sz_IntS N x.Segs l (by omega) (by omega) w.1 hN]
 simp only [Option.bind_some]
 by_cases c1 : ¬ (((totL (fun _ => 0)) x.Segs : Int) ≤ l)
 ·rw [if_neg c1,if_pos (by decide),if_neg (by simp only [totManifest]; omega)]
 replace c1 := Classical.not_not.1 c1
 rw [if_pos c1,if_neg (by simp; omega)]
 rw [sz_IntS N x.Conf (l - ((totL (fun _ => 0)) x.Segs : Int)) (by omega) (by omega) w.2.2.2.2 hN]
 simp only [Option.bind_some]
 by_cases c2 : ¬ (((totL (fun _ => 0)) x.Conf : Int) ≤ (l - ((totL (fun _ => 0)) x.Segs : Int)))
 ·rw [if_neg c2,if_pos (by decide),if_neg (by simp only [totManifest]; omega)]
 replace c2 := Classical.not_not.1 c2
 rw [if_pos c2,if_neg (by simp; omega)]
 rw [if_pos (by simp only [totManifest]; omega)]
 first
  | (simp only [totManifest]; done)
  | (simp only [totManifest]; congr 1; done)
  | (simp only [totManifest]; congr 1; omega)
def totSpot (x : Spot) : Nat := ByteArray.size x.Key
theorem sz_Spot (N : Nat) (x : Spot) (l : Int) (h0 : 0 ≤ l) (h1 : l ≤ 1099511627776) (w : wfSpot x) (hN : Big N) : laws_szSpot N x l = some (if (totSpot x : Int) ≤ l then l - totSpot x else -1) := by
 have hM := maxLen_le
 unfold laws_szSpot
 unfold wfSpot at w
 have e1 : w64 (l - (x.Key.size : Int)) = l - x.Key.size := w64_id (by have := w.1; omega) (by omega)
 rw [e1]
 by_cases c1 : l - (x.Key.size : Int) < 0
 ·rw [if_pos (by simpa using c1),if_neg (by simp only [totSpot]; omega)]
 rw [if_neg (by simpa using c1)]
 rw [if_pos (by simp only [totSpot]; omega)]
 first
  | (simp only [totSpot]; done)
  | (simp only [totSpot]; congr 1; done)
  | (simp only [totSpot]; congr 1; omega)
theorem sz_SpotS_r (N : Nat) (hN : Big N) (c : (List Spot)) : ∀ (tl : (List Spot)) (l i : Int),0 ≤ l → l ≤ 1099511627776 → (∀ y ∈ tl,wfSpot y) → laws_szSpotS_l1_r N c tl l i = some (if ((tl.map totSpot).sum : Int) ≤ l then .inr (l - (tl.map totSpot).sum) else .inl (-1))
 | [],l,i,h0,h1,w => by simp [laws_szSpotS_l1_r,h0]
 | y :: tl,l,i,h0,h1,w => by
  rw [laws_szSpotS_l1_r]
  simp only [Option.bind_some,List.map_cons,List.sum_cons]
  rw [sz_Spot N y l h0 h1 (w y (by simp)) hN]
  simp only [Option.bind_some]
  by_cases c1 : ¬ ((totSpot y : Int) ≤ l)
  ·rw [if_neg c1,if_pos (by decide),if_neg (by omega)]
  replace c1 := Classical.not_not.1 c1
  rw [if_pos c1,if_neg (by simp; omega),sz_SpotS_r N hN c tl _ _ (by omega) (by omega) (fun z hz => w z (by simp [hz]))]
  by_cases c2 : ((tl.map totSpot).sum : Int) ≤ l - totSpot y
  ·rw [if_pos c2,if_pos (by omega)]
   congr 2 <;> omega
  ·rw [if_neg c2,if_neg (by omega)]
theorem sz_SpotS (N : Nat) (x : (List Spot)) (l : Int) (h0 : 0 ≤ l) (h1 : l ≤ 1099511627776) (w : x.length ≤ maxLen ∧ ∀ y ∈ x,wfSpot y) (hN : Big N) : laws_szSpotS N x l = some (if ((totL totSpot) x : Int) ≤ l then l - (totL totSpot) x else -1) := by
 have hM := maxLen_le
 unfold laws_szSpotS
 have e1 : w64 (l - (x.length : Int)) = l - x.length := w64_id (by have := w.1; omega) (by omega)
 rw [e1]
 by_cases c : l - (x.length : Int) < 0
 ·rw [if_pos (by simpa using c),if_neg (by simp only [totL]; omega)]
 rw [if_neg (by simpa using c)]
 simp only [joinP]
 rw [laws_szSpotS_l1_eq x (by omega) (by omega),sz_SpotS_r N hN x x _ _ (by omega) (by omega) w.2]
 simp only [Option.bind_some]
 by_cases c2 : ((x.map totSpot).sum : Int) ≤ l - x.length
 ·rw [if_pos c2,if_pos (by simp only [totL]; omega)]
  simp only [Sum.elim_inr,totL]
  congr 1 <;> omega
 ·rw [if_neg c2,if_neg (by simp only [totL]; omega)]
  rfl
def totShelf (x : Shelf) : Nat := totManifest x.Man + (totL totSpot) x.Dir
theorem sz_Shelf (N : Nat) (x : Shelf) (l : Int) (h0 : 0 ≤ l) (h1 : l ≤ 1099511627776) (w : wfShelf x) (hN : Big N) : laws_szShelf N x l = some (if (totShelf x : Int) ≤ l then l - totShelf x else -1) := by
 have hM := maxLen_le
 unfold laws_szShelf
 unfold wfShelf at w
 rw [sz_Manifest N x.Man l (by omega) (by omega) w.1 hN]
 simp only [Option.bind_some]
 by_cases c1 : ¬ ((totManifest x.Man : Int) ≤ l)
 ·rw [if_neg c1,if_pos (by decide),if_neg (by simp only [totShelf]; omega)]
 replace c1 := Classical.not_not.1 c1
 rw [if_pos c1,if_neg (by simp; omega)]
 rw [sz_SpotS N x.Dir (l - (totManifest x.Man : Int)) (by omega) (by omega) w.2.1 hN]
 simp only [Option.bind_some]
 by_cases c2 : ¬ (((totL totSpot) x.Dir : Int) ≤ (l - (totManifest x.Man : Int)))
 ·rw [if_neg c2,if_pos (by decide),if_neg (by simp only [totShelf]; omega)]
 replace c2 := Classical.not_not.1 c2
 rw [if_pos c2,if_neg (by simp; omega)]
 rw [if_pos (by simp only [totShelf]; omega)]
 first
  | (simp only [totShelf]; done)
  | (simp only [totShelf]; congr 1; done)
  | (simp only [totShelf]; congr 1; omega)
def totServer (x : Server) : Nat := totNode x.Node + totDisk x.Disk + totShelf x.Shelf + ByteArray.size x.Stage
theorem sz_Server (N : Nat) (x : Server) (l : Int) (h0 : 0 ≤ l) (h1 : l ≤ 1099511627776) (w : wfServer x) (hN : Big N) : laws_szServer N x l = some (if (totServer x : Int) ≤ l then l - totServer x else -1) := by
 have hM := maxLen_le
 unfold laws_szServer
 unfold wfServer at w
 rw [sz_Node N x.Node l (by omega) (by omega) w.1 hN]
 simp only [Option.bind_some]
 by_cases c1 : ¬ ((totNode x.Node : Int) ≤ l)
 ·rw [if_neg c1,if_pos (by decide),if_neg (by simp only [totServer]; omega)]
 replace c1 := Classical.not_not.1 c1
 rw [if_pos c1,if_neg (by simp; omega)]
 rw [sz_Disk N x.Disk (l - (totNode x.Node : Int)) (by omega) (by omega) w.2.1 hN]
 simp only [Option.bind_some]
 by_cases c2 : ¬ ((totDisk x.Disk : Int) ≤ (l - (totNode x.Node : Int)))
 ·rw [if_neg c2,if_pos (by decide),if_neg (by simp only [totServer]; omega)]
 replace c2 := Classical.not_not.1 c2
 rw [if_pos c2,if_neg (by simp; omega)]
 rw [sz_Shelf N x.Shelf ((l - (totNode x.Node : Int)) - (totDisk x.Disk : Int)) (by omega) (by omega) w.2.2.1 hN]
 simp only [Option.bind_some]
 by_cases c3 : ¬ ((totShelf x.Shelf : Int) ≤ ((l - (totNode x.Node : Int)) - (totDisk x.Disk : Int)))
 ·rw [if_neg c3,if_pos (by decide),if_neg (by simp only [totServer]; omega)]
 replace c3 := Classical.not_not.1 c3
 rw [if_pos c3,if_neg (by simp; omega)]
 have e4 : w64 ((((l - (totNode x.Node : Int)) - (totDisk x.Disk : Int)) - (totShelf x.Shelf : Int)) - (x.Stage.size : Int)) = (((l - (totNode x.Node : Int)) - (totDisk x.Disk : Int)) - (totShelf x.Shelf : Int)) - x.Stage.size := w64_id (by have := w.2.2.2.1; omega) (by omega)
 rw [e4]
 by_cases c4 : (((l - (totNode x.Node : Int)) - (totDisk x.Disk : Int)) - (totShelf x.Shelf : Int)) - (x.Stage.size : Int) < 0
 ·rw [if_pos (by simpa using c4),if_neg (by simp only [totServer]; omega)]
 rw [if_neg (by simpa using c4)]
 rw [if_pos (by simp only [totServer]; omega)]
 first
  | (simp only [totServer]; done)
  | (simp only [totServer]; congr 1; done)
  | (simp only [totServer]; congr 1; omega)
theorem sz_ServerS_r (N : Nat) (hN : Big N) (c : (List Server)) : ∀ (tl : (List Server)) (l i : Int),0 ≤ l → l ≤ 1099511627776 → (∀ y ∈ tl,wfServer y) → laws_szServerS_l1_r N c tl l i = some (if ((tl.map totServer).sum : Int) ≤ l then .inr (l - (tl.map totServer).sum) else .inl (-1))
 | [],l,i,h0,h1,w => by simp [laws_szServerS_l1_r,h0]
 | y :: tl,l,i,h0,h1,w => by
  rw [laws_szServerS_l1_r]
  simp only [Option.bind_some,List.map_cons,List.sum_cons]
  rw [sz_Server N y l h0 h1 (w y (by simp)) hN]
  simp only [Option.bind_some]
  by_cases c1 : ¬ ((totServer y : Int) ≤ l)
  ·rw [if_neg c1,if_pos (by decide),if_neg (by omega)]
  replace c1 := Classical.not_not.1 c1
  rw [if_pos c1,if_neg (by simp; omega),sz_ServerS_r N hN c tl _ _ (by omega) (by omega) (fun z hz => w z (by simp [hz]))]
  by_cases c2 : ((tl.map totServer).sum : Int) ≤ l - totServer y
  ·rw [if_pos c2,if_pos (by omega)]
   congr 2 <;> omega
  ·rw [if_neg c2,if_neg (by omega)]
theorem sz_ServerS (N : Nat) (x : (List Server)) (l : Int) (h0 : 0 ≤ l) (h1 : l ≤ 1099511627776) (w : x.length ≤ maxLen ∧ ∀ y ∈ x,wfServer y) (hN : Big N) : laws_szServerS N x l = some (if ((totL totServer) x : Int) ≤ l then l - (totL totServer) x else -1) := by
 have hM := maxLen_le
 unfold laws_szServerS
 have e1 : w64 (l - (x.length : Int)) = l - x.length := w64_id (by have := w.1; omega) (by omega)
 rw [e1]
 by_cases c : l - (x.length : Int) < 0
 ·rw [if_pos (by simpa using c),if_neg (by simp only [totL]; omega)]
 rw [if_neg (by simpa using c)]
 simp only [joinP]
 rw [laws_szServerS_l1_eq x (by omega) (by omega),sz_ServerS_r N hN x x _ _ (by omega) (by omega) w.2]
 simp only [Option.bind_some]
 by_cases c2 : ((x.map totServer).sum : Int) ≤ l - x.length
 ·rw [if_pos c2,if_pos (by simp only [totL]; omega)]
  simp only [Sum.elim_inr,totL]
  congr 1 <;> omega
 ·rw [if_neg c2,if_neg (by simp only [totL]; omega)]
  rfl
def totMessage (x : Message) : Nat := (totL totEntry) x.Entries + (totL (fun _ => 0)) x.Conf + ByteArray.size x.Data
theorem sz_Message (N : Nat) (x : Message) (l : Int) (h0 : 0 ≤ l) (h1 : l ≤ 1099511627776) (w : wfMessage x) (hN : Big N) : laws_szMessage N x l = some (if (totMessage x : Int) ≤ l then l - totMessage x else -1) := by
 have hM := maxLen_le
 unfold laws_szMessage
 unfold wfMessage at w
 rw [sz_EntryS N x.Entries l (by omega) (by omega) w.2.2.2.2.2.2.2.2.1 hN]
 simp only [Option.bind_some]
 by_cases c1 : ¬ (((totL totEntry) x.Entries : Int) ≤ l)
 ·rw [if_neg c1,if_pos (by decide),if_neg (by simp only [totMessage]; omega)]
 replace c1 := Classical.not_not.1 c1
 rw [if_pos c1,if_neg (by simp; omega)]
 rw [sz_IntS N x.Conf (l - ((totL totEntry) x.Entries : Int)) (by omega) (by omega) w.2.2.2.2.2.2.2.2.2.1 hN]
 simp only [Option.bind_some]
 by_cases c2 : ¬ (((totL (fun _ => 0)) x.Conf : Int) ≤ (l - ((totL totEntry) x.Entries : Int)))
 ·rw [if_neg c2,if_pos (by decide),if_neg (by simp only [totMessage]; omega)]
 replace c2 := Classical.not_not.1 c2
 rw [if_pos c2,if_neg (by simp; omega)]
 have e3 : w64 (((l - ((totL totEntry) x.Entries : Int)) - ((totL (fun _ => 0)) x.Conf : Int)) - (x.Data.size : Int)) = ((l - ((totL totEntry) x.Entries : Int)) - ((totL (fun _ => 0)) x.Conf : Int)) - x.Data.size := w64_id (by have := w.2.2.2.2.2.2.2.2.2.2.1; omega) (by omega)
 rw [e3]
 by_cases c3 : ((l - ((totL totEntry) x.Entries : Int)) - ((totL (fun _ => 0)) x.Conf : Int)) - (x.Data.size : Int) < 0
 ·rw [if_pos (by simpa using c3),if_neg (by simp only [totMessage]; omega)]
 rw [if_neg (by simpa using c3)]
 rw [if_pos (by simp only [totMessage]; omega)]
 first
  | (simp only [totMessage]; done)
  | (simp only [totMessage]; congr 1; done)
  | (simp only [totMessage]; congr 1; omega)
theorem sz_MessageS_r (N : Nat) (hN : Big N) (c : (List Message)) : ∀ (tl : (List Message)) (l i : Int),0 ≤ l → l ≤ 1099511627776 → (∀ y ∈ tl,wfMessage y) → laws_szMessageS_l1_r N c tl l i = some (if ((tl.map totMessage).sum : Int) ≤ l then .inr (l - (tl.map totMessage).sum) else .inl (-1))
 | [],l,i,h0,h1,w => by simp [laws_szMessageS_l1_r,h0]
 | y :: tl,l,i,h0,h1,w => by
  rw [laws_szMessageS_l1_r]
  simp only [Option.bind_some,List.map_cons,List.sum_cons]
  rw [sz_Message N y l h0 h1 (w y (by simp)) hN]
  simp only [Option.bind_some]
  by_cases c1 : ¬ ((totMessage y : Int) ≤ l)
  ·rw [if_neg c1,if_pos (by decide),if_neg (by omega)]
  replace c1 := Classical.not_not.1 c1
  rw [if_pos c1,if_neg (by simp; omega),sz_MessageS_r N hN c tl _ _ (by omega) (by omega) (fun z hz => w z (by simp [hz]))]
  by_cases c2 : ((tl.map totMessage).sum : Int) ≤ l - totMessage y
  ·rw [if_pos c2,if_pos (by omega)]
   congr 2 <;> omega
  ·rw [if_neg c2,if_neg (by omega)]
theorem sz_MessageS (N : Nat) (x : (List Message)) (l : Int) (h0 : 0 ≤ l) (h1 : l ≤ 1099511627776) (w : x.length ≤ maxLen ∧ ∀ y ∈ x,wfMessage y) (hN : Big N) : laws_szMessageS N x l = some (if ((totL totMessage) x : Int) ≤ l then l - (totL totMessage) x else -1) := by
 have hM := maxLen_le
 unfold laws_szMessageS
 have e1 : w64 (l - (x.length : Int)) = l - x.length := w64_id (by have := w.1; omega) (by omega)
 rw [e1]
 by_cases c : l - (x.length : Int) < 0
 ·rw [if_pos (by simpa using c),if_neg (by simp only [totL]; omega)]
 rw [if_neg (by simpa using c)]
 simp only [joinP]
 rw [laws_szMessageS_l1_eq x (by omega) (by omega),sz_MessageS_r N hN x x _ _ (by omega) (by omega) w.2]
 simp only [Option.bind_some]
 by_cases c2 : ((x.map totMessage).sum : Int) ≤ l - x.length
 ·rw [if_pos c2,if_pos (by simp only [totL]; omega)]
  simp only [Sum.elim_inr,totL]
  congr 1 <;> omega
 ·rw [if_neg c2,if_neg (by simp only [totL]; omega)]
  rfl
def totWait (x : Wait) : Nat := 0
theorem sz_WaitS (N : Nat) (x : (List Wait)) (l : Int) (h0 : 0 ≤ l) (h1 : l ≤ 1099511627776) (w : x.length ≤ maxLen ∧ ∀ y ∈ x,wfWait y) (hN : Big N) : laws_szWaitS N x l = some (if ((totL totWait) x : Int) ≤ l then l - (totL totWait) x else -1) := by
 have hM := maxLen_le
 unfold laws_szWaitS
 have e1 : w64 (l - (x.length : Int)) = l - x.length := w64_id (by have := w.1; omega) (by omega)
 rw [e1]
 by_cases c : l - (x.length : Int) < 0
 ·rw [if_pos (by simpa using c),if_neg (by simp only [totL]; omega)]
 rw [if_neg (by simpa using c)]
 have hs : (x.map totWait).sum = 0 := by
  clear e1 c w
  induction x with
  | nil => rfl
  | cons y x ih => simp [ih,totWait]
 rw [if_pos (by simp only [totL,hs]; omega)]
 first
  | (simp only [totL,hs]; done)
  | (simp only [totL,hs]; congr 1; done)
  | (simp only [totL,hs]; congr 1; omega)
def totLeader (x : Leader) : Nat := totLog x.Log
theorem sz_Leader (N : Nat) (x : Leader) (l : Int) (h0 : 0 ≤ l) (h1 : l ≤ 1099511627776) (w : wfLeader x) (hN : Big N) : laws_szLeader N x l = some (if (totLeader x : Int) ≤ l then l - totLeader x else -1) := by
 have hM := maxLen_le
 unfold laws_szLeader
 unfold wfLeader at w
 rw [sz_Log N x.Log l (by omega) (by omega) w.2.2 hN]
 simp only [Option.bind_some]
 by_cases c1 : ¬ ((totLog x.Log : Int) ≤ l)
 ·rw [if_neg c1,if_pos (by decide),if_neg (by simp only [totLeader]; omega)]
 replace c1 := Classical.not_not.1 c1
 rw [if_pos c1,if_neg (by simp; omega)]
 rw [if_pos (by simp only [totLeader]; omega)]
 first
  | (simp only [totLeader]; done)
  | (simp only [totLeader]; congr 1; done)
  | (simp only [totLeader]; congr 1; omega)
theorem sz_LeaderS_r (N : Nat) (hN : Big N) (c : (List Leader)) : ∀ (tl : (List Leader)) (l i : Int),0 ≤ l → l ≤ 1099511627776 → (∀ y ∈ tl,wfLeader y) → laws_szLeaderS_l1_r N c tl l i = some (if ((tl.map totLeader).sum : Int) ≤ l then .inr (l - (tl.map totLeader).sum) else .inl (-1))
 | [],l,i,h0,h1,w => by simp [laws_szLeaderS_l1_r,h0]
 | y :: tl,l,i,h0,h1,w => by
  rw [laws_szLeaderS_l1_r]
  simp only [Option.bind_some,List.map_cons,List.sum_cons]
  rw [sz_Leader N y l h0 h1 (w y (by simp)) hN]
  simp only [Option.bind_some]
  by_cases c1 : ¬ ((totLeader y : Int) ≤ l)
  ·rw [if_neg c1,if_pos (by decide),if_neg (by omega)]
  replace c1 := Classical.not_not.1 c1
  rw [if_pos c1,if_neg (by simp; omega),sz_LeaderS_r N hN c tl _ _ (by omega) (by omega) (fun z hz => w z (by simp [hz]))]
  by_cases c2 : ((tl.map totLeader).sum : Int) ≤ l - totLeader y
  ·rw [if_pos c2,if_pos (by omega)]
   congr 2 <;> omega
  ·rw [if_neg c2,if_neg (by omega)]
theorem sz_LeaderS (N : Nat) (x : (List Leader)) (l : Int) (h0 : 0 ≤ l) (h1 : l ≤ 1099511627776) (w : x.length ≤ maxLen ∧ ∀ y ∈ x,wfLeader y) (hN : Big N) : laws_szLeaderS N x l = some (if ((totL totLeader) x : Int) ≤ l then l - (totL totLeader) x else -1) := by
 have hM := maxLen_le
 unfold laws_szLeaderS
 have e1 : w64 (l - (x.length : Int)) = l - x.length := w64_id (by have := w.1; omega) (by omega)
 rw [e1]
 by_cases c : l - (x.length : Int) < 0
 ·rw [if_pos (by simpa using c),if_neg (by simp only [totL]; omega)]
 rw [if_neg (by simpa using c)]
 simp only [joinP]
 rw [laws_szLeaderS_l1_eq x (by omega) (by omega),sz_LeaderS_r N hN x x _ _ (by omega) (by omega) w.2]
 simp only [Option.bind_some]
 by_cases c2 : ((x.map totLeader).sum : Int) ≤ l - x.length
 ·rw [if_pos c2,if_pos (by simp only [totL]; omega)]
  simp only [Sum.elim_inr,totL]
  congr 1 <;> omega
 ·rw [if_neg c2,if_neg (by simp only [totL]; omega)]
  rfl
def totApplied (x : Applied) : Nat := totEntry x.Entry
theorem sz_Applied (N : Nat) (x : Applied) (l : Int) (h0 : 0 ≤ l) (h1 : l ≤ 1099511627776) (w : wfApplied x) (hN : Big N) : laws_szApplied N x l = some (if (totApplied x : Int) ≤ l then l - totApplied x else -1) := by
 have hM := maxLen_le
 unfold laws_szApplied
 unfold wfApplied at w
 rw [sz_Entry N x.Entry l (by omega) (by omega) w.2.2.2 hN]
 simp only [Option.bind_some]
 by_cases c1 : ¬ ((totEntry x.Entry : Int) ≤ l)
 ·rw [if_neg c1,if_pos (by decide),if_neg (by simp only [totApplied]; omega)]
 replace c1 := Classical.not_not.1 c1
 rw [if_pos c1,if_neg (by simp; omega)]
 rw [if_pos (by simp only [totApplied]; omega)]
 first
  | (simp only [totApplied]; done)
  | (simp only [totApplied]; congr 1; done)
  | (simp only [totApplied]; congr 1; omega)
theorem sz_AppliedS_r (N : Nat) (hN : Big N) (c : (List Applied)) : ∀ (tl : (List Applied)) (l i : Int),0 ≤ l → l ≤ 1099511627776 → (∀ y ∈ tl,wfApplied y) → laws_szAppliedS_l1_r N c tl l i = some (if ((tl.map totApplied).sum : Int) ≤ l then .inr (l - (tl.map totApplied).sum) else .inl (-1))
 | [],l,i,h0,h1,w => by simp [laws_szAppliedS_l1_r,h0]
 | y :: tl,l,i,h0,h1,w => by
  rw [laws_szAppliedS_l1_r]
  simp only [Option.bind_some,List.map_cons,List.sum_cons]
  rw [sz_Applied N y l h0 h1 (w y (by simp)) hN]
  simp only [Option.bind_some]
  by_cases c1 : ¬ ((totApplied y : Int) ≤ l)
  ·rw [if_neg c1,if_pos (by decide),if_neg (by omega)]
  replace c1 := Classical.not_not.1 c1
  rw [if_pos c1,if_neg (by simp; omega),sz_AppliedS_r N hN c tl _ _ (by omega) (by omega) (fun z hz => w z (by simp [hz]))]
  by_cases c2 : ((tl.map totApplied).sum : Int) ≤ l - totApplied y
  ·rw [if_pos c2,if_pos (by omega)]
   congr 2 <;> omega
  ·rw [if_neg c2,if_neg (by omega)]
theorem sz_AppliedS (N : Nat) (x : (List Applied)) (l : Int) (h0 : 0 ≤ l) (h1 : l ≤ 1099511627776) (w : x.length ≤ maxLen ∧ ∀ y ∈ x,wfApplied y) (hN : Big N) : laws_szAppliedS N x l = some (if ((totL totApplied) x : Int) ≤ l then l - (totL totApplied) x else -1) := by
 have hM := maxLen_le
 unfold laws_szAppliedS
 have e1 : w64 (l - (x.length : Int)) = l - x.length := w64_id (by have := w.1; omega) (by omega)
 rw [e1]
 by_cases c : l - (x.length : Int) < 0
 ·rw [if_pos (by simpa using c),if_neg (by simp only [totL]; omega)]
 rw [if_neg (by simpa using c)]
 simp only [joinP]
 rw [laws_szAppliedS_l1_eq x (by omega) (by omega),sz_AppliedS_r N hN x x _ _ (by omega) (by omega) w.2]
 simp only [Option.bind_some]
 by_cases c2 : ((x.map totApplied).sum : Int) ≤ l - x.length
 ·rw [if_pos c2,if_pos (by simp only [totL]; omega)]
  simp only [Sum.elim_inr,totL]
  congr 1 <;> omega
 ·rw [if_neg c2,if_neg (by simp only [totL]; omega)]
  rfl
def totCommand (x : Command) : Nat := ByteArray.size x.Key + ByteArray.size x.Value + ByteArray.size x.Old
theorem sz_Command (N : Nat) (x : Command) (l : Int) (h0 : 0 ≤ l) (h1 : l ≤ 1099511627776) (w : wfCommand x) (hN : Big N) : laws_szCommand N x l = some (if (totCommand x : Int) ≤ l then l - totCommand x else -1) := by
 have hM := maxLen_le
 unfold laws_szCommand
 unfold wfCommand at w
 have e1 : w64 (l - (x.Key.size : Int)) = l - x.Key.size := w64_id (by have := w.2.2.2.1; omega) (by omega)
 rw [e1]
 by_cases c1 : l - (x.Key.size : Int) < 0
 ·rw [if_pos (by simpa using c1),if_neg (by simp only [totCommand]; omega)]
 rw [if_neg (by simpa using c1)]
 have e2 : w64 ((l - (x.Key.size : Int)) - (x.Value.size : Int)) = (l - (x.Key.size : Int)) - x.Value.size := w64_id (by have := w.2.2.2.2.1; omega) (by omega)
 rw [e2]
 by_cases c2 : (l - (x.Key.size : Int)) - (x.Value.size : Int) < 0
 ·rw [if_pos (by simpa using c2),if_neg (by simp only [totCommand]; omega)]
 rw [if_neg (by simpa using c2)]
 have e3 : w64 (((l - (x.Key.size : Int)) - (x.Value.size : Int)) - (x.Old.size : Int)) = ((l - (x.Key.size : Int)) - (x.Value.size : Int)) - x.Old.size := w64_id (by have := w.2.2.2.2.2; omega) (by omega)
 rw [e3]
 by_cases c3 : ((l - (x.Key.size : Int)) - (x.Value.size : Int)) - (x.Old.size : Int) < 0
 ·rw [if_pos (by simpa using c3),if_neg (by simp only [totCommand]; omega)]
 rw [if_neg (by simpa using c3)]
 rw [if_pos (by simp only [totCommand]; omega)]
 first
  | (simp only [totCommand]; done)
  | (simp only [totCommand]; congr 1; done)
  | (simp only [totCommand]; congr 1; omega)
def totReply (x : Reply) : Nat := totCommand x.Command + ByteArray.size x.Text
theorem sz_Reply (N : Nat) (x : Reply) (l : Int) (h0 : 0 ≤ l) (h1 : l ≤ 1099511627776) (w : wfReply x) (hN : Big N) : laws_szReply N x l = some (if (totReply x : Int) ≤ l then l - totReply x else -1) := by
 have hM := maxLen_le
 unfold laws_szReply
 unfold wfReply at w
 rw [sz_Command N x.Command l (by omega) (by omega) w.2.2.1 hN]
 simp only [Option.bind_some]
 by_cases c1 : ¬ ((totCommand x.Command : Int) ≤ l)
 ·rw [if_neg c1,if_pos (by decide),if_neg (by simp only [totReply]; omega)]
 replace c1 := Classical.not_not.1 c1
 rw [if_pos c1,if_neg (by simp; omega)]
 have e2 : w64 ((l - (totCommand x.Command : Int)) - (x.Text.size : Int)) = (l - (totCommand x.Command : Int)) - x.Text.size := w64_id (by have := w.2.2.2; omega) (by omega)
 rw [e2]
 by_cases c2 : (l - (totCommand x.Command : Int)) - (x.Text.size : Int) < 0
 ·rw [if_pos (by simpa using c2),if_neg (by simp only [totReply]; omega)]
 rw [if_neg (by simpa using c2)]
 rw [if_pos (by simp only [totReply]; omega)]
 first
  | (simp only [totReply]; done)
  | (simp only [totReply]; congr 1; done)
  | (simp only [totReply]; congr 1; omega)
theorem sz_ReplyS_r (N : Nat) (hN : Big N) (c : (List Reply)) : ∀ (tl : (List Reply)) (l i : Int),0 ≤ l → l ≤ 1099511627776 → (∀ y ∈ tl,wfReply y) → laws_szReplyS_l1_r N c tl l i = some (if ((tl.map totReply).sum : Int) ≤ l then .inr (l - (tl.map totReply).sum) else .inl (-1))
 | [],l,i,h0,h1,w => by simp [laws_szReplyS_l1_r,h0]
 | y :: tl,l,i,h0,h1,w => by
  rw [laws_szReplyS_l1_r]
  simp only [Option.bind_some,List.map_cons,List.sum_cons]
  rw [sz_Reply N y l h0 h1 (w y (by simp)) hN]
  simp only [Option.bind_some]
  by_cases c1 : ¬ ((totReply y : Int) ≤ l)
  ·rw [if_neg c1,if_pos (by decide),if_neg (by omega)]
  replace c1 := Classical.not_not.1 c1
  rw [if_pos c1,if_neg (by simp; omega),sz_ReplyS_r N hN c tl _ _ (by omega) (by omega) (fun z hz => w z (by simp [hz]))]
  by_cases c2 : ((tl.map totReply).sum : Int) ≤ l - totReply y
  ·rw [if_pos c2,if_pos (by omega)]
   congr 2 <;> omega
  ·rw [if_neg c2,if_neg (by omega)]
theorem sz_ReplyS (N : Nat) (x : (List Reply)) (l : Int) (h0 : 0 ≤ l) (h1 : l ≤ 1099511627776) (w : x.length ≤ maxLen ∧ ∀ y ∈ x,wfReply y) (hN : Big N) : laws_szReplyS N x l = some (if ((totL totReply) x : Int) ≤ l then l - (totL totReply) x else -1) := by
 have hM := maxLen_le
 unfold laws_szReplyS
 have e1 : w64 (l - (x.length : Int)) = l - x.length := w64_id (by have := w.1; omega) (by omega)
 rw [e1]
 by_cases c : l - (x.length : Int) < 0
 ·rw [if_pos (by simpa using c),if_neg (by simp only [totL]; omega)]
 rw [if_neg (by simpa using c)]
 simp only [joinP]
 rw [laws_szReplyS_l1_eq x (by omega) (by omega),sz_ReplyS_r N hN x x _ _ (by omega) (by omega) w.2]
 simp only [Option.bind_some]
 by_cases c2 : ((x.map totReply).sum : Int) ≤ l - x.length
 ·rw [if_pos c2,if_pos (by simp only [totL]; omega)]
  simp only [Sum.elim_inr,totL]
  congr 1 <;> omega
 ·rw [if_neg c2,if_neg (by simp only [totL]; omega)]
  rfl
def totWorld (x : World) : Nat := (totL (fun _ => 0)) x.Up + (totL totServer) x.Servers + (totL totMessage) x.Net + (totL totWait) x.Waits + (totL totLeader) x.Leaders + (totL totApplied) x.Applied + (totL totReply) x.Replies
theorem sz_World (N : Nat) (x : World) (l : Int) (h0 : 0 ≤ l) (h1 : l ≤ 1099511627776) (w : wfWorld x) (hN : Big N) : laws_szWorld N x l = some (if (totWorld x : Int) ≤ l then l - totWorld x else -1) := by
 have hM := maxLen_le
 unfold laws_szWorld
 unfold wfWorld at w
 rw [sz_BoolS N x.Up l (by omega) (by omega) w.1 hN]
 simp only [Option.bind_some]
 by_cases c1 : ¬ (((totL (fun _ => 0)) x.Up : Int) ≤ l)
 ·rw [if_neg c1,if_pos (by decide),if_neg (by simp only [totWorld]; omega)]
 replace c1 := Classical.not_not.1 c1
 rw [if_pos c1,if_neg (by simp; omega)]
 rw [sz_ServerS N x.Servers (l - ((totL (fun _ => 0)) x.Up : Int)) (by omega) (by omega) w.2.1 hN]
 simp only [Option.bind_some]
 by_cases c2 : ¬ (((totL totServer) x.Servers : Int) ≤ (l - ((totL (fun _ => 0)) x.Up : Int)))
 ·rw [if_neg c2,if_pos (by decide),if_neg (by simp only [totWorld]; omega)]
 replace c2 := Classical.not_not.1 c2
 rw [if_pos c2,if_neg (by simp; omega)]
 rw [sz_MessageS N x.Net ((l - ((totL (fun _ => 0)) x.Up : Int)) - ((totL totServer) x.Servers : Int)) (by omega) (by omega) w.2.2.1 hN]
 simp only [Option.bind_some]
 by_cases c3 : ¬ (((totL totMessage) x.Net : Int) ≤ ((l - ((totL (fun _ => 0)) x.Up : Int)) - ((totL totServer) x.Servers : Int)))
 ·rw [if_neg c3,if_pos (by decide),if_neg (by simp only [totWorld]; omega)]
 replace c3 := Classical.not_not.1 c3
 rw [if_pos c3,if_neg (by simp; omega)]
 rw [sz_WaitS N x.Waits (((l - ((totL (fun _ => 0)) x.Up : Int)) - ((totL totServer) x.Servers : Int)) - ((totL totMessage) x.Net : Int)) (by omega) (by omega) w.2.2.2.1 hN]
 simp only [Option.bind_some]
 by_cases c4 : ¬ (((totL totWait) x.Waits : Int) ≤ (((l - ((totL (fun _ => 0)) x.Up : Int)) - ((totL totServer) x.Servers : Int)) - ((totL totMessage) x.Net : Int)))
 ·rw [if_neg c4,if_pos (by decide),if_neg (by simp only [totWorld]; omega)]
 replace c4 := Classical.not_not.1 c4
 rw [if_pos c4,if_neg (by simp; omega)]
 rw [sz_LeaderS N x.Leaders ((((l - ((totL (fun _ => 0)) x.Up : Int)) - ((totL totServer) x.Servers : Int)) - ((totL totMessage) x.Net : Int)) - ((totL totWait) x.Waits : Int)) (by omega) (by omega) w.2.2.2.2.1 hN]
 simp only [Option.bind_some]
 by_cases c5 : ¬ (((totL totLeader) x.Leaders : Int) ≤ ((((l - ((totL (fun _ => 0)) x.Up : Int)) - ((totL totServer) x.Servers : Int)) - ((totL totMessage) x.Net : Int)) - ((totL totWait) x.Waits : Int)))
 ·rw [if_neg c5,if_pos (by decide),if_neg (by simp only [totWorld]; omega)]
 replace c5 := Classical.not_not.1 c5
 rw [if_pos c5,if_neg (by simp; omega)]
 rw [sz_AppliedS N x.Applied (((((l - ((totL (fun _ => 0)) x.Up : Int)) - ((totL totServer) x.Servers : Int)) - ((totL totMessage) x.Net : Int)) - ((totL totWait) x.Waits : Int)) - ((totL totLeader) x.Leaders : Int)) (by omega) (by omega) w.2.2.2.2.2.1 hN]
 simp only [Option.bind_some]
 by_cases c6 : ¬ (((totL totApplied) x.Applied : Int) ≤ (((((l - ((totL (fun _ => 0)) x.Up : Int)) - ((totL totServer) x.Servers : Int)) - ((totL totMessage) x.Net : Int)) - ((totL totWait) x.Waits : Int)) - ((totL totLeader) x.Leaders : Int)))
 ·rw [if_neg c6,if_pos (by decide),if_neg (by simp only [totWorld]; omega)]
 replace c6 := Classical.not_not.1 c6
 rw [if_pos c6,if_neg (by simp; omega)]
 rw [sz_ReplyS N x.Replies ((((((l - ((totL (fun _ => 0)) x.Up : Int)) - ((totL totServer) x.Servers : Int)) - ((totL totMessage) x.Net : Int)) - ((totL totWait) x.Waits : Int)) - ((totL totLeader) x.Leaders : Int)) - ((totL totApplied) x.Applied : Int)) (by omega) (by omega) w.2.2.2.2.2.2 hN]
 simp only [Option.bind_some]
 by_cases c7 : ¬ (((totL totReply) x.Replies : Int) ≤ ((((((l - ((totL (fun _ => 0)) x.Up : Int)) - ((totL totServer) x.Servers : Int)) - ((totL totMessage) x.Net : Int)) - ((totL totWait) x.Waits : Int)) - ((totL totLeader) x.Leaders : Int)) - ((totL totApplied) x.Applied : Int)))
 ·rw [if_neg c7,if_pos (by decide),if_neg (by simp only [totWorld]; omega)]
 replace c7 := Classical.not_not.1 c7
 rw [if_pos c7,if_neg (by simp; omega)]
 rw [if_pos (by simp only [totWorld]; omega)]
 first
  | (simp only [totWorld]; done)
  | (simp only [totWorld]; congr 1; done)
  | (simp only [totWorld]; congr 1; omega)
theorem to_BoolS_r (N : Nat) (c : (List Bool)) : ∀ (tl : (List Bool)) (k : Nat) (acc : (List Bool)),acc.length = k + tl.length → k + tl.length ≤ 1099511627776 → laws_toBoolS_l1_r N c tl (k : Int) acc = some (acc.take k ++ tl)
 | [],k,acc,h,hk => by
  rw [laws_toBoolS_l1_r,List.append_nil,List.take_of_length_le (by simp at h; omega)]
 | y :: tl,k,acc,h,hk => by
  simp only [List.length_cons] at h hk
  rw [laws_toBoolS_l1_r]
  have hlt : k < acc.length := by omega
  simp only [Option.bind_some,at_lt hlt,w64_succ (k := k) (by omega),Int.toNat_natCast]
  rw [to_BoolS_r N c tl (k + 1) _ (by simp; omega) (by omega),take_set_succ hlt,List.append_assoc]
  rfl
theorem to_BoolS (N : Nat) (x : (List Bool)) (h : (totL (fun _ => 0)) x ≤ 1099511627) (hN : Big N) : laws_toBoolS N x = some x := by
 unfold laws_toBoolS
 have hl : x.length ≤ 1099511627 := by simp only [totL] at h; omega
 rw [mk_some (by omega)]
 simp only [Option.bind_some,joinP]
 rw [laws_toBoolS_l1_eq x (by omega) (by omega),show (0 : Int) = ((0 : Nat) : Int) from rfl,to_BoolS_r N x x 0 _ (by simp) (by omega) ]
 simp
theorem to_IntS_r (N : Nat) (c : (List Int)) : ∀ (tl : (List Int)) (k : Nat) (acc : (List Int)),acc.length = k + tl.length → k + tl.length ≤ 1099511627776 → laws_toIntS_l1_r N c tl (k : Int) acc = some (acc.take k ++ tl)
 | [],k,acc,h,hk => by
  rw [laws_toIntS_l1_r,List.append_nil,List.take_of_length_le (by simp at h; omega)]
 | y :: tl,k,acc,h,hk => by
  simp only [List.length_cons] at h hk
  rw [laws_toIntS_l1_r]
  have hlt : k < acc.length := by omega
  simp only [Option.bind_some,at_lt hlt,w64_succ (k := k) (by omega),Int.toNat_natCast]
  rw [to_IntS_r N c tl (k + 1) _ (by simp; omega) (by omega),take_set_succ hlt,List.append_assoc]
  rfl
theorem to_IntS (N : Nat) (x : (List Int)) (h : (totL (fun _ => 0)) x ≤ 1099511627) (hN : Big N) : laws_toIntS N x = some x := by
 unfold laws_toIntS
 have hl : x.length ≤ 1099511627 := by simp only [totL] at h; omega
 rw [mk_some (by omega)]
 simp only [Option.bind_some,joinP]
 rw [laws_toIntS_l1_eq x (by omega) (by omega),show (0 : Int) = ((0 : Nat) : Int) from rfl,to_IntS_r N x x 0 _ (by simp) (by omega) ]
 simp
theorem to_Entry (N : Nat) (x : Entry) (h : totEntry x ≤ 1099511627) (hN : Big N) : laws_toEntry N x = some x := by
 unfold laws_toEntry
 simp only [totEntry] at h
 try rfl
theorem to_EntryS_r (N : Nat) (hN : Big N) (c : (List Entry)) : ∀ (tl : (List Entry)) (k : Nat) (acc : (List Entry)),acc.length = k + tl.length → k + tl.length ≤ 1099511627776 → (∀ y ∈ tl,totEntry y ≤ 1099511627) → laws_toEntryS_l1_r N c tl (k : Int) acc = some (acc.take k ++ tl)
 | [],k,acc,h,hk,w => by
  rw [laws_toEntryS_l1_r,List.append_nil,List.take_of_length_le (by simp at h; omega)]
 | y :: tl,k,acc,h,hk,w => by
  simp only [List.length_cons] at h hk
  rw [laws_toEntryS_l1_r]
  have hlt : k < acc.length := by omega
  simp only [Option.bind_some,to_Entry N y (w y (by simp)) hN,at_lt hlt,w64_succ (k := k) (by omega),Int.toNat_natCast]
  rw [to_EntryS_r N hN c tl (k + 1) _ (by simp; omega) (by omega) (fun z hz => w z (by simp [hz])),take_set_succ hlt,List.append_assoc]
  rfl
theorem to_EntryS (N : Nat) (x : (List Entry)) (h : (totL totEntry) x ≤ 1099511627) (hN : Big N) : laws_toEntryS N x = some x := by
 unfold laws_toEntryS
 have hl : x.length ≤ 1099511627 := by simp only [totL] at h; omega
 rw [mk_some (by omega)]
 simp only [Option.bind_some,joinP]
 rw [laws_toEntryS_l1_eq x (by omega) (by omega),show (0 : Int) = ((0 : Nat) : Int) from rfl,to_EntryS_r N hN x x 0 _ (by simp) (by omega) (fun y hy => Nat.le_trans (le_sum hy) (by simp only [totL] at h; omega))]
 simp
theorem to_Log (N : Nat) (x : Log) (h : totLog x ≤ 1099511627) (hN : Big N) : laws_toLog N x = some x := by
 unfold laws_toLog
 simp only [totLog] at h
 rw [to_EntryS N x.Entries (by omega) hN]
 simp only [Option.bind_some]
 try rfl
theorem to_Peer (N : Nat) (x : Peer) (h : totPeer x ≤ 1099511627) (hN : Big N) : laws_toPeer N x = some x := by
 unfold laws_toPeer
 try rfl
theorem to_PeerS_r (N : Nat) (hN : Big N) (c : (List Peer)) : ∀ (tl : (List Peer)) (k : Nat) (acc : (List Peer)),acc.length = k + tl.length → k + tl.length ≤ 1099511627776 → (∀ y ∈ tl,totPeer y ≤ 1099511627) → laws_toPeerS_l1_r N c tl (k : Int) acc = some (acc.take k ++ tl)
 | [],k,acc,h,hk,w => by
  rw [laws_toPeerS_l1_r,List.append_nil,List.take_of_length_le (by simp at h; omega)]
 | y :: tl,k,acc,h,hk,w => by
  simp only [List.length_cons] at h hk
  rw [laws_toPeerS_l1_r]
  have hlt : k < acc.length := by omega
  simp only [Option.bind_some,to_Peer N y (w y (by simp)) hN,at_lt hlt,w64_succ (k := k) (by omega),Int.toNat_natCast]
  rw [to_PeerS_r N hN c tl (k + 1) _ (by simp; omega) (by omega) (fun z hz => w z (by simp [hz])),take_set_succ hlt,List.append_assoc]
  rfl
theorem to_PeerS (N : Nat) (x : (List Peer)) (h : (totL totPeer) x ≤ 1099511627) (hN : Big N) : laws_toPeerS N x = some x := by
 unfold laws_toPeerS
 have hl : x.length ≤ 1099511627 := by simp only [totL] at h; omega
 rw [mk_some (by omega)]
 simp only [Option.bind_some,joinP]
 rw [laws_toPeerS_l1_eq x (by omega) (by omega),show (0 : Int) = ((0 : Nat) : Int) from rfl,to_PeerS_r N hN x x 0 _ (by simp) (by omega) (fun y hy => Nat.le_trans (le_sum hy) (by simp only [totL] at h; omega))]
 simp
theorem to_Node (N : Nat) (x : Node) (h : totNode x ≤ 1099511627) (hN : Big N) : laws_toNode N x = some x := by
 unfold laws_toNode
 simp only [totNode] at h
 rw [to_IntS N x.Conf (by omega) hN]
 simp only [Option.bind_some]
 rw [to_Log N x.Log (by omega) hN]
 simp only [Option.bind_some]
 rw [to_IntS N x.Votes (by omega) hN]
 simp only [Option.bind_some]
 rw [to_PeerS N x.Peers (by omega) hN]
 simp only [Option.bind_some]
 try rfl
theorem to_File (N : Nat) (x : File) (h : totFile x ≤ 1099511627) (hN : Big N) : laws_toFile N x = some x := by
 unfold laws_toFile
 simp only [totFile] at h
 try rfl
theorem to_FileS_r (N : Nat) (hN : Big N) (c : (List File)) : ∀ (tl : (List File)) (k : Nat) (acc : (List File)),acc.length = k + tl.length → k + tl.length ≤ 1099511627776 → (∀ y ∈ tl,totFile y ≤ 1099511627) → laws_toFileS_l1_r N c tl (k : Int) acc = some (acc.take k ++ tl)
 | [],k,acc,h,hk,w => by
  rw [laws_toFileS_l1_r,List.append_nil,List.take_of_length_le (by simp at h; omega)]
 | y :: tl,k,acc,h,hk,w => by
  simp only [List.length_cons] at h hk
  rw [laws_toFileS_l1_r]
  have hlt : k < acc.length := by omega
  simp only [Option.bind_some,to_File N y (w y (by simp)) hN,at_lt hlt,w64_succ (k := k) (by omega),Int.toNat_natCast]
  rw [to_FileS_r N hN c tl (k + 1) _ (by simp; omega) (by omega) (fun z hz => w z (by simp [hz])),take_set_succ hlt,List.append_assoc]
  rfl
theorem to_FileS (N : Nat) (x : (List File)) (h : (totL totFile) x ≤ 1099511627) (hN : Big N) : laws_toFileS N x = some x := by
 unfold laws_toFileS
 have hl : x.length ≤ 1099511627 := by simp only [totL] at h; omega
 rw [mk_some (by omega)]
 simp only [Option.bind_some,joinP]
 rw [laws_toFileS_l1_eq x (by omega) (by omega),show (0 : Int) = ((0 : Nat) : Int) from rfl,to_FileS_r N hN x x 0 _ (by simp) (by omega) (fun y hy => Nat.le_trans (le_sum hy) (by simp only [totL] at h; omega))]
 simp
theorem to_Disk (N : Nat) (x : Disk) (h : totDisk x ≤ 1099511627) (hN : Big N) : laws_toDisk N x = some x := by
 unfold laws_toDisk
 simp only [totDisk] at h
 rw [to_FileS N x.Files (by omega) hN]
 simp only [Option.bind_some]
 try rfl
theorem to_Manifest (N : Nat) (x : Manifest) (h : totManifest x ≤ 1099511627) (hN : Big N) : laws_toManifest N x = some x := by
 unfold laws_toManifest
 simp only [totManifest] at h
 rw [to_IntS N x.Segs (by omega) hN]
 simp only [Option.bind_some]
 rw [to_IntS N x.Conf (by omega) hN]
 simp only [Option.bind_some]
 try rfl
theorem to_Spot (N : Nat) (x : Spot) (h : totSpot x ≤ 1099511627) (hN : Big N) : laws_toSpot N x = some x := by
 unfold laws_toSpot
 simp only [totSpot] at h
 try rfl
theorem to_SpotS_r (N : Nat) (hN : Big N) (c : (List Spot)) : ∀ (tl : (List Spot)) (k : Nat) (acc : (List Spot)),acc.length = k + tl.length → k + tl.length ≤ 1099511627776 → (∀ y ∈ tl,totSpot y ≤ 1099511627) → laws_toSpotS_l1_r N c tl (k : Int) acc = some (acc.take k ++ tl)
 | [],k,acc,h,hk,w => by
  rw [laws_toSpotS_l1_r,List.append_nil,List.take_of_length_le (by simp at h; omega)]
 | y :: tl,k,acc,h,hk,w => by
  simp only [List.length_cons] at h hk
  rw [laws_toSpotS_l1_r]
  have hlt : k < acc.length := by omega
  simp only [Option.bind_some,to_Spot N y (w y (by simp)) hN,at_lt hlt,w64_succ (k := k) (by omega),Int.toNat_natCast]
  rw [to_SpotS_r N hN c tl (k + 1) _ (by simp; omega) (by omega) (fun z hz => w z (by simp [hz])),take_set_succ hlt,List.append_assoc]
  rfl
theorem to_SpotS (N : Nat) (x : (List Spot)) (h : (totL totSpot) x ≤ 1099511627) (hN : Big N) : laws_toSpotS N x = some x := by
 unfold laws_toSpotS
 have hl : x.length ≤ 1099511627 := by simp only [totL] at h; omega
 rw [mk_some (by omega)]
 simp only [Option.bind_some,joinP]
 rw [laws_toSpotS_l1_eq x (by omega) (by omega),show (0 : Int) = ((0 : Nat) : Int) from rfl,to_SpotS_r N hN x x 0 _ (by simp) (by omega) (fun y hy => Nat.le_trans (le_sum hy) (by simp only [totL] at h; omega))]
 simp
theorem to_Shelf (N : Nat) (x : Shelf) (h : totShelf x ≤ 1099511627) (hN : Big N) : laws_toShelf N x = some x := by
 unfold laws_toShelf
 simp only [totShelf] at h
 rw [to_Manifest N x.Man (by omega) hN]
 simp only [Option.bind_some]
 rw [to_SpotS N x.Dir (by omega) hN]
 simp only [Option.bind_some]
 try rfl
theorem to_Server (N : Nat) (x : Server) (h : totServer x ≤ 1099511627) (hN : Big N) : laws_toServer N x = some x := by
 unfold laws_toServer
 simp only [totServer] at h
 rw [to_Node N x.Node (by omega) hN]
 simp only [Option.bind_some]
 rw [to_Disk N x.Disk (by omega) hN]
 simp only [Option.bind_some]
 rw [to_Shelf N x.Shelf (by omega) hN]
 simp only [Option.bind_some]
 try rfl
theorem to_ServerS_r (N : Nat) (hN : Big N) (c : (List Server)) : ∀ (tl : (List Server)) (k : Nat) (acc : (List Server)),acc.length = k + tl.length → k + tl.length ≤ 1099511627776 → (∀ y ∈ tl,totServer y ≤ 1099511627) → laws_toServerS_l1_r N c tl (k : Int) acc = some (acc.take k ++ tl)
 | [],k,acc,h,hk,w => by
  rw [laws_toServerS_l1_r,List.append_nil,List.take_of_length_le (by simp at h; omega)]
 | y :: tl,k,acc,h,hk,w => by
  simp only [List.length_cons] at h hk
  rw [laws_toServerS_l1_r]
  have hlt : k < acc.length := by omega
  simp only [Option.bind_some,to_Server N y (w y (by simp)) hN,at_lt hlt,w64_succ (k := k) (by omega),Int.toNat_natCast]
  rw [to_ServerS_r N hN c tl (k + 1) _ (by simp; omega) (by omega) (fun z hz => w z (by simp [hz])),take_set_succ hlt,List.append_assoc]
  rfl
theorem to_ServerS (N : Nat) (x : (List Server)) (h : (totL totServer) x ≤ 1099511627) (hN : Big N) : laws_toServerS N x = some x := by
 unfold laws_toServerS
 have hl : x.length ≤ 1099511627 := by simp only [totL] at h; omega
 rw [mk_some (by omega)]
 simp only [Option.bind_some,joinP]
 rw [laws_toServerS_l1_eq x (by omega) (by omega),show (0 : Int) = ((0 : Nat) : Int) from rfl,to_ServerS_r N hN x x 0 _ (by simp) (by omega) (fun y hy => Nat.le_trans (le_sum hy) (by simp only [totL] at h; omega))]
 simp
theorem to_Message (N : Nat) (x : Message) (h : totMessage x ≤ 1099511627) (hN : Big N) : laws_toMessage N x = some x := by
 unfold laws_toMessage
 simp only [totMessage] at h
 rw [to_EntryS N x.Entries (by omega) hN]
 simp only [Option.bind_some]
 rw [to_IntS N x.Conf (by omega) hN]
 simp only [Option.bind_some]
 try rfl
theorem to_MessageS_r (N : Nat) (hN : Big N) (c : (List Message)) : ∀ (tl : (List Message)) (k : Nat) (acc : (List Message)),acc.length = k + tl.length → k + tl.length ≤ 1099511627776 → (∀ y ∈ tl,totMessage y ≤ 1099511627) → laws_toMessageS_l1_r N c tl (k : Int) acc = some (acc.take k ++ tl)
 | [],k,acc,h,hk,w => by
  rw [laws_toMessageS_l1_r,List.append_nil,List.take_of_length_le (by simp at h; omega)]
 | y :: tl,k,acc,h,hk,w => by
  simp only [List.length_cons] at h hk
  rw [laws_toMessageS_l1_r]
  have hlt : k < acc.length := by omega
  simp only [Option.bind_some,to_Message N y (w y (by simp)) hN,at_lt hlt,w64_succ (k := k) (by omega),Int.toNat_natCast]
  rw [to_MessageS_r N hN c tl (k + 1) _ (by simp; omega) (by omega) (fun z hz => w z (by simp [hz])),take_set_succ hlt,List.append_assoc]
  rfl
theorem to_MessageS (N : Nat) (x : (List Message)) (h : (totL totMessage) x ≤ 1099511627) (hN : Big N) : laws_toMessageS N x = some x := by
 unfold laws_toMessageS
 have hl : x.length ≤ 1099511627 := by simp only [totL] at h; omega
 rw [mk_some (by omega)]
 simp only [Option.bind_some,joinP]
 rw [laws_toMessageS_l1_eq x (by omega) (by omega),show (0 : Int) = ((0 : Nat) : Int) from rfl,to_MessageS_r N hN x x 0 _ (by simp) (by omega) (fun y hy => Nat.le_trans (le_sum hy) (by simp only [totL] at h; omega))]
 simp
theorem to_Wait (N : Nat) (x : Wait) (h : totWait x ≤ 1099511627) (hN : Big N) : laws_toWait N x = some x := by
 unfold laws_toWait
 try rfl
theorem to_WaitS_r (N : Nat) (hN : Big N) (c : (List Wait)) : ∀ (tl : (List Wait)) (k : Nat) (acc : (List Wait)),acc.length = k + tl.length → k + tl.length ≤ 1099511627776 → (∀ y ∈ tl,totWait y ≤ 1099511627) → laws_toWaitS_l1_r N c tl (k : Int) acc = some (acc.take k ++ tl)
 | [],k,acc,h,hk,w => by
  rw [laws_toWaitS_l1_r,List.append_nil,List.take_of_length_le (by simp at h; omega)]
 | y :: tl,k,acc,h,hk,w => by
  simp only [List.length_cons] at h hk
  rw [laws_toWaitS_l1_r]
  have hlt : k < acc.length := by omega
  simp only [Option.bind_some,to_Wait N y (w y (by simp)) hN,at_lt hlt,w64_succ (k := k) (by omega),Int.toNat_natCast]
  rw [to_WaitS_r N hN c tl (k + 1) _ (by simp; omega) (by omega) (fun z hz => w z (by simp [hz])),take_set_succ hlt,List.append_assoc]
  rfl
theorem to_WaitS (N : Nat) (x : (List Wait)) (h : (totL totWait) x ≤ 1099511627) (hN : Big N) : laws_toWaitS N x = some x := by
 unfold laws_toWaitS
 have hl : x.length ≤ 1099511627 := by simp only [totL] at h; omega
 rw [mk_some (by omega)]
 simp only [Option.bind_some,joinP]
 rw [laws_toWaitS_l1_eq x (by omega) (by omega),show (0 : Int) = ((0 : Nat) : Int) from rfl,to_WaitS_r N hN x x 0 _ (by simp) (by omega) (fun y hy => Nat.le_trans (le_sum hy) (by simp only [totL] at h; omega))]
 simp
theorem to_Leader (N : Nat) (x : Leader) (h : totLeader x ≤ 1099511627) (hN : Big N) : laws_toLeader N x = some x := by
 unfold laws_toLeader
 simp only [totLeader] at h
 rw [to_Log N x.Log (by omega) hN]
 simp only [Option.bind_some]
 try rfl
theorem to_LeaderS_r (N : Nat) (hN : Big N) (c : (List Leader)) : ∀ (tl : (List Leader)) (k : Nat) (acc : (List Leader)),acc.length = k + tl.length → k + tl.length ≤ 1099511627776 → (∀ y ∈ tl,totLeader y ≤ 1099511627) → laws_toLeaderS_l1_r N c tl (k : Int) acc = some (acc.take k ++ tl)
 | [],k,acc,h,hk,w => by
  rw [laws_toLeaderS_l1_r,List.append_nil,List.take_of_length_le (by simp at h; omega)]
 | y :: tl,k,acc,h,hk,w => by
  simp only [List.length_cons] at h hk
  rw [laws_toLeaderS_l1_r]
  have hlt : k < acc.length := by omega
  simp only [Option.bind_some,to_Leader N y (w y (by simp)) hN,at_lt hlt,w64_succ (k := k) (by omega),Int.toNat_natCast]
  rw [to_LeaderS_r N hN c tl (k + 1) _ (by simp; omega) (by omega) (fun z hz => w z (by simp [hz])),take_set_succ hlt,List.append_assoc]
  rfl
theorem to_LeaderS (N : Nat) (x : (List Leader)) (h : (totL totLeader) x ≤ 1099511627) (hN : Big N) : laws_toLeaderS N x = some x := by
 unfold laws_toLeaderS
 have hl : x.length ≤ 1099511627 := by simp only [totL] at h; omega
 rw [mk_some (by omega)]
 simp only [Option.bind_some,joinP]
 rw [laws_toLeaderS_l1_eq x (by omega) (by omega),show (0 : Int) = ((0 : Nat) : Int) from rfl,to_LeaderS_r N hN x x 0 _ (by simp) (by omega) (fun y hy => Nat.le_trans (le_sum hy) (by simp only [totL] at h; omega))]
 simp
theorem to_Applied (N : Nat) (x : Applied) (h : totApplied x ≤ 1099511627) (hN : Big N) : laws_toApplied N x = some x := by
 unfold laws_toApplied
 simp only [totApplied] at h
 rw [to_Entry N x.Entry (by omega) hN]
 simp only [Option.bind_some]
 try rfl
theorem to_AppliedS_r (N : Nat) (hN : Big N) (c : (List Applied)) : ∀ (tl : (List Applied)) (k : Nat) (acc : (List Applied)),acc.length = k + tl.length → k + tl.length ≤ 1099511627776 → (∀ y ∈ tl,totApplied y ≤ 1099511627) → laws_toAppliedS_l1_r N c tl (k : Int) acc = some (acc.take k ++ tl)
 | [],k,acc,h,hk,w => by
  rw [laws_toAppliedS_l1_r,List.append_nil,List.take_of_length_le (by simp at h; omega)]
 | y :: tl,k,acc,h,hk,w => by
  simp only [List.length_cons] at h hk
  rw [laws_toAppliedS_l1_r]
  have hlt : k < acc.length := by omega
  simp only [Option.bind_some,to_Applied N y (w y (by simp)) hN,at_lt hlt,w64_succ (k := k) (by omega),Int.toNat_natCast]
  rw [to_AppliedS_r N hN c tl (k + 1) _ (by simp; omega) (by omega) (fun z hz => w z (by simp [hz])),take_set_succ hlt,List.append_assoc]
  rfl
theorem to_AppliedS (N : Nat) (x : (List Applied)) (h : (totL totApplied) x ≤ 1099511627) (hN : Big N) : laws_toAppliedS N x = some x := by
 unfold laws_toAppliedS
 have hl : x.length ≤ 1099511627 := by simp only [totL] at h; omega
 rw [mk_some (by omega)]
 simp only [Option.bind_some,joinP]
 rw [laws_toAppliedS_l1_eq x (by omega) (by omega),show (0 : Int) = ((0 : Nat) : Int) from rfl,to_AppliedS_r N hN x x 0 _ (by simp) (by omega) (fun y hy => Nat.le_trans (le_sum hy) (by simp only [totL] at h; omega))]
 simp
theorem to_Command (N : Nat) (x : Command) (h : totCommand x ≤ 1099511627) (hN : Big N) : laws_toCommand N x = some x := by
 unfold laws_toCommand
 simp only [totCommand] at h
 try rfl
theorem to_Reply (N : Nat) (x : Reply) (h : totReply x ≤ 1099511627) (hN : Big N) : laws_toReply N x = some x := by
 unfold laws_toReply
 simp only [totReply] at h
 rw [to_Command N x.Command (by omega) hN]
 simp only [Option.bind_some]
 try rfl
theorem to_ReplyS_r (N : Nat) (hN : Big N) (c : (List Reply)) : ∀ (tl : (List Reply)) (k : Nat) (acc : (List Reply)),acc.length = k + tl.length → k + tl.length ≤ 1099511627776 → (∀ y ∈ tl,totReply y ≤ 1099511627) → laws_toReplyS_l1_r N c tl (k : Int) acc = some (acc.take k ++ tl)
 | [],k,acc,h,hk,w => by
  rw [laws_toReplyS_l1_r,List.append_nil,List.take_of_length_le (by simp at h; omega)]
 | y :: tl,k,acc,h,hk,w => by
  simp only [List.length_cons] at h hk
  rw [laws_toReplyS_l1_r]
  have hlt : k < acc.length := by omega
  simp only [Option.bind_some,to_Reply N y (w y (by simp)) hN,at_lt hlt,w64_succ (k := k) (by omega),Int.toNat_natCast]
  rw [to_ReplyS_r N hN c tl (k + 1) _ (by simp; omega) (by omega) (fun z hz => w z (by simp [hz])),take_set_succ hlt,List.append_assoc]
  rfl
theorem to_ReplyS (N : Nat) (x : (List Reply)) (h : (totL totReply) x ≤ 1099511627) (hN : Big N) : laws_toReplyS N x = some x := by
 unfold laws_toReplyS
 have hl : x.length ≤ 1099511627 := by simp only [totL] at h; omega
 rw [mk_some (by omega)]
 simp only [Option.bind_some,joinP]
 rw [laws_toReplyS_l1_eq x (by omega) (by omega),show (0 : Int) = ((0 : Nat) : Int) from rfl,to_ReplyS_r N hN x x 0 _ (by simp) (by omega) (fun y hy => Nat.le_trans (le_sum hy) (by simp only [totL] at h; omega))]
 simp
theorem to_World (N : Nat) (x : World) (h : totWorld x ≤ 1099511627) (hN : Big N) : laws_toWorld N x = some x := by
 unfold laws_toWorld
 simp only [totWorld] at h
 rw [to_BoolS N x.Up (by omega) hN]
 simp only [Option.bind_some]
 rw [to_ServerS N x.Servers (by omega) hN]
 simp only [Option.bind_some]
 rw [to_MessageS N x.Net (by omega) hN]
 simp only [Option.bind_some]
 rw [to_WaitS N x.Waits (by omega) hN]
 simp only [Option.bind_some]
 rw [to_LeaderS N x.Leaders (by omega) hN]
 simp only [Option.bind_some]
 rw [to_AppliedS N x.Applied (by omega) hN]
 simp only [Option.bind_some]
 rw [to_ReplyS N x.Replies (by omega) hN]
 simp only [Option.bind_some]
 try rfl
theorem eq_BoolS_r (N : Nat) (hN : Big N) (c : (List Bool)) (hc : c.length ≤ 1099511627776) : ∀ (d k : Nat),c.length = k + d → laws_eqBoolS_l1_r N c c (c.drop k) (k : Int) = some (.inr ())
 | 0,k,h => by rw [List.drop_eq_nil_of_le (by omega),laws_eqBoolS_l1_r]
 | d + 1,k,h => by
  have hk : k < c.length := by omega
  rw [List.drop_eq_getElem_cons hk,laws_eqBoolS_l1_r]
  simp only [Option.bind_some,at_lt hk,w64_succ (k := k) (by omega)]
  have := eq_BoolS_r N hN c hc  d (k + 1) (by omega)
  simpa using this
theorem eq_BoolS (N : Nat) (x : (List Bool)) (h : (totL (fun _ => 0)) x ≤ 1099511627) (hN : Big N) : laws_eqBoolS N x x = some true := by
 unfold laws_eqBoolS
 have hl : x.length ≤ 1099511627 := by simp only [totL] at h; omega
 have := eq_BoolS_r N hN x (by omega)  x.length 0 (by omega)
 simp only [List.drop_zero] at this
 simp only [joinP]
 rw [if_neg (by simp),laws_eqBoolS_l1_eq x x (by omega) (by omega),show (0 : Int) = ((0 : Nat) : Int) from rfl,this]
 rfl
theorem eq_IntS_r (N : Nat) (hN : Big N) (c : (List Int)) (hc : c.length ≤ 1099511627776) : ∀ (d k : Nat),c.length = k + d → laws_eqIntS_l1_r N c c (c.drop k) (k : Int) = some (.inr ())
 | 0,k,h => by rw [List.drop_eq_nil_of_le (by omega),laws_eqIntS_l1_r]
 | d + 1,k,h => by
  have hk : k < c.length := by omega
  rw [List.drop_eq_getElem_cons hk,laws_eqIntS_l1_r]
  simp only [Option.bind_some,at_lt hk,w64_succ (k := k) (by omega)]
  have := eq_IntS_r N hN c hc  d (k + 1) (by omega)
  simpa using this
theorem eq_IntS (N : Nat) (x : (List Int)) (h : (totL (fun _ => 0)) x ≤ 1099511627) (hN : Big N) : laws_eqIntS N x x = some true := by
 unfold laws_eqIntS
 have hl : x.length ≤ 1099511627 := by simp only [totL] at h; omega
 have := eq_IntS_r N hN x (by omega)  x.length 0 (by omega)
 simp only [List.drop_zero] at this
 simp only [joinP]
 rw [if_neg (by simp),laws_eqIntS_l1_eq x x (by omega) (by omega),show (0 : Int) = ((0 : Nat) : Int) from rfl,this]
 rfl
theorem eq_Entry (N : Nat) (x : Entry) (h : totEntry x ≤ 1099511627) (hN : Big N) : laws_eqEntry N x x = some true := by
 unfold laws_eqEntry
 simp only [totEntry] at h
 simp
theorem eq_EntryS_r (N : Nat) (hN : Big N) (c : (List Entry)) (hc : c.length ≤ 1099511627776) (w : ∀ y ∈ c,totEntry y ≤ 1099511627) : ∀ (d k : Nat),c.length = k + d → laws_eqEntryS_l1_r N c c (c.drop k) (k : Int) = some (.inr ())
 | 0,k,h => by rw [List.drop_eq_nil_of_le (by omega),laws_eqEntryS_l1_r]
 | d + 1,k,h => by
  have hk : k < c.length := by omega
  rw [List.drop_eq_getElem_cons hk,laws_eqEntryS_l1_r]
  simp only [Option.bind_some,at_lt hk,w64_succ (k := k) (by omega)]
  have := eq_EntryS_r N hN c hc w d (k + 1) (by omega)
  simpa [eq_Entry N _ (w _ (List.getElem_mem hk)) hN] using this
theorem eq_EntryS (N : Nat) (x : (List Entry)) (h : (totL totEntry) x ≤ 1099511627) (hN : Big N) : laws_eqEntryS N x x = some true := by
 unfold laws_eqEntryS
 have hl : x.length ≤ 1099511627 := by simp only [totL] at h; omega
 have := eq_EntryS_r N hN x (by omega) (fun y hy => Nat.le_trans (le_sum hy) (by simp only [totL] at h; omega)) x.length 0 (by omega)
 simp only [List.drop_zero] at this
 simp only [joinP]
 rw [if_neg (by simp),laws_eqEntryS_l1_eq x x (by omega) (by omega),show (0 : Int) = ((0 : Nat) : Int) from rfl,this]
 rfl
theorem eq_Log (N : Nat) (x : Log) (h : totLog x ≤ 1099511627) (hN : Big N) : laws_eqLog N x x = some true := by
 unfold laws_eqLog
 simp only [totLog] at h
 simp [eq_EntryS N x.Entries (by omega) hN]
theorem eq_Peer (N : Nat) (x : Peer) (h : totPeer x ≤ 1099511627) (hN : Big N) : laws_eqPeer N x x = some true := by
 unfold laws_eqPeer
 simp
theorem eq_PeerS_r (N : Nat) (hN : Big N) (c : (List Peer)) (hc : c.length ≤ 1099511627776) (w : ∀ y ∈ c,totPeer y ≤ 1099511627) : ∀ (d k : Nat),c.length = k + d → laws_eqPeerS_l1_r N c c (c.drop k) (k : Int) = some (.inr ())
 | 0,k,h => by rw [List.drop_eq_nil_of_le (by omega),laws_eqPeerS_l1_r]
 | d + 1,k,h => by
  have hk : k < c.length := by omega
  rw [List.drop_eq_getElem_cons hk,laws_eqPeerS_l1_r]
  simp only [Option.bind_some,at_lt hk,w64_succ (k := k) (by omega)]
  have := eq_PeerS_r N hN c hc w d (k + 1) (by omega)
  simpa [eq_Peer N _ (w _ (List.getElem_mem hk)) hN] using this
theorem eq_PeerS (N : Nat) (x : (List Peer)) (h : (totL totPeer) x ≤ 1099511627) (hN : Big N) : laws_eqPeerS N x x = some true := by
 unfold laws_eqPeerS
 have hl : x.length ≤ 1099511627 := by simp only [totL] at h; omega
 have := eq_PeerS_r N hN x (by omega) (fun y hy => Nat.le_trans (le_sum hy) (by simp only [totL] at h; omega)) x.length 0 (by omega)
 simp only [List.drop_zero] at this
 simp only [joinP]
 rw [if_neg (by simp),laws_eqPeerS_l1_eq x x (by omega) (by omega),show (0 : Int) = ((0 : Nat) : Int) from rfl,this]
 rfl
theorem eq_Node (N : Nat) (x : Node) (h : totNode x ≤ 1099511627) (hN : Big N) : laws_eqNode N x x = some true := by
 unfold laws_eqNode
 simp only [totNode] at h
 simp [eq_IntS N x.Conf (by omega) hN,eq_Log N x.Log (by omega) hN,eq_IntS N x.Votes (by omega) hN,eq_PeerS N x.Peers (by omega) hN]
theorem eq_File (N : Nat) (x : File) (h : totFile x ≤ 1099511627) (hN : Big N) : laws_eqFile N x x = some true := by
 unfold laws_eqFile
 simp only [totFile] at h
 simp
theorem eq_FileS_r (N : Nat) (hN : Big N) (c : (List File)) (hc : c.length ≤ 1099511627776) (w : ∀ y ∈ c,totFile y ≤ 1099511627) : ∀ (d k : Nat),c.length = k + d → laws_eqFileS_l1_r N c c (c.drop k) (k : Int) = some (.inr ())
 | 0,k,h => by rw [List.drop_eq_nil_of_le (by omega),laws_eqFileS_l1_r]
 | d + 1,k,h => by
  have hk : k < c.length := by omega
  rw [List.drop_eq_getElem_cons hk,laws_eqFileS_l1_r]
  simp only [Option.bind_some,at_lt hk,w64_succ (k := k) (by omega)]
  have := eq_FileS_r N hN c hc w d (k + 1) (by omega)
  simpa [eq_File N _ (w _ (List.getElem_mem hk)) hN] using this
theorem eq_FileS (N : Nat) (x : (List File)) (h : (totL totFile) x ≤ 1099511627) (hN : Big N) : laws_eqFileS N x x = some true := by
 unfold laws_eqFileS
 have hl : x.length ≤ 1099511627 := by simp only [totL] at h; omega
 have := eq_FileS_r N hN x (by omega) (fun y hy => Nat.le_trans (le_sum hy) (by simp only [totL] at h; omega)) x.length 0 (by omega)
 simp only [List.drop_zero] at this
 simp only [joinP]
 rw [if_neg (by simp),laws_eqFileS_l1_eq x x (by omega) (by omega),show (0 : Int) = ((0 : Nat) : Int) from rfl,this]
 rfl
theorem eq_Disk (N : Nat) (x : Disk) (h : totDisk x ≤ 1099511627) (hN : Big N) : laws_eqDisk N x x = some true := by
 unfold laws_eqDisk
 simp only [totDisk] at h
 simp [eq_FileS N x.Files (by omega) hN]
theorem eq_Manifest (N : Nat) (x : Manifest) (h : totManifest x ≤ 1099511627) (hN : Big N) : laws_eqManifest N x x = some true := by
 unfold laws_eqManifest
 simp only [totManifest] at h
 simp [eq_IntS N x.Segs (by omega) hN,eq_IntS N x.Conf (by omega) hN]
theorem eq_Spot (N : Nat) (x : Spot) (h : totSpot x ≤ 1099511627) (hN : Big N) : laws_eqSpot N x x = some true := by
 unfold laws_eqSpot
 simp only [totSpot] at h
 simp
theorem eq_SpotS_r (N : Nat) (hN : Big N) (c : (List Spot)) (hc : c.length ≤ 1099511627776) (w : ∀ y ∈ c,totSpot y ≤ 1099511627) : ∀ (d k : Nat),c.length = k + d → laws_eqSpotS_l1_r N c c (c.drop k) (k : Int) = some (.inr ())
 | 0,k,h => by rw [List.drop_eq_nil_of_le (by omega),laws_eqSpotS_l1_r]
 | d + 1,k,h => by
  have hk : k < c.length := by omega
  rw [List.drop_eq_getElem_cons hk,laws_eqSpotS_l1_r]
  simp only [Option.bind_some,at_lt hk,w64_succ (k := k) (by omega)]
  have := eq_SpotS_r N hN c hc w d (k + 1) (by omega)
  simpa [eq_Spot N _ (w _ (List.getElem_mem hk)) hN] using this
theorem eq_SpotS (N : Nat) (x : (List Spot)) (h : (totL totSpot) x ≤ 1099511627) (hN : Big N) : laws_eqSpotS N x x = some true := by
 unfold laws_eqSpotS
 have hl : x.length ≤ 1099511627 := by simp only [totL] at h; omega
 have := eq_SpotS_r N hN x (by omega) (fun y hy => Nat.le_trans (le_sum hy) (by simp only [totL] at h; omega)) x.length 0 (by omega)
 simp only [List.drop_zero] at this
 simp only [joinP]
 rw [if_neg (by simp),laws_eqSpotS_l1_eq x x (by omega) (by omega),show (0 : Int) = ((0 : Nat) : Int) from rfl,this]
 rfl
theorem eq_Shelf (N : Nat) (x : Shelf) (h : totShelf x ≤ 1099511627) (hN : Big N) : laws_eqShelf N x x = some true := by
 unfold laws_eqShelf
 simp only [totShelf] at h
 simp [eq_Manifest N x.Man (by omega) hN,eq_SpotS N x.Dir (by omega) hN]
theorem eq_Server (N : Nat) (x : Server) (h : totServer x ≤ 1099511627) (hN : Big N) : laws_eqServer N x x = some true := by
 unfold laws_eqServer
 simp only [totServer] at h
 simp [eq_Node N x.Node (by omega) hN,eq_Disk N x.Disk (by omega) hN,eq_Shelf N x.Shelf (by omega) hN]
theorem eq_ServerS_r (N : Nat) (hN : Big N) (c : (List Server)) (hc : c.length ≤ 1099511627776) (w : ∀ y ∈ c,totServer y ≤ 1099511627) : ∀ (d k : Nat),c.length = k + d → laws_eqServerS_l1_r N c c (c.drop k) (k : Int) = some (.inr ())
 | 0,k,h => by rw [List.drop_eq_nil_of_le (by omega),laws_eqServerS_l1_r]
 | d + 1,k,h => by
  have hk : k < c.length := by omega
  rw [List.drop_eq_getElem_cons hk,laws_eqServerS_l1_r]
  simp only [Option.bind_some,at_lt hk,w64_succ (k := k) (by omega)]
  have := eq_ServerS_r N hN c hc w d (k + 1) (by omega)
  simpa [eq_Server N _ (w _ (List.getElem_mem hk)) hN] using this
theorem eq_ServerS (N : Nat) (x : (List Server)) (h : (totL totServer) x ≤ 1099511627) (hN : Big N) : laws_eqServerS N x x = some true := by
 unfold laws_eqServerS
 have hl : x.length ≤ 1099511627 := by simp only [totL] at h; omega
 have := eq_ServerS_r N hN x (by omega) (fun y hy => Nat.le_trans (le_sum hy) (by simp only [totL] at h; omega)) x.length 0 (by omega)
 simp only [List.drop_zero] at this
 simp only [joinP]
 rw [if_neg (by simp),laws_eqServerS_l1_eq x x (by omega) (by omega),show (0 : Int) = ((0 : Nat) : Int) from rfl,this]
 rfl
theorem eq_Message (N : Nat) (x : Message) (h : totMessage x ≤ 1099511627) (hN : Big N) : laws_eqMessage N x x = some true := by
 unfold laws_eqMessage
 simp only [totMessage] at h
 simp [eq_EntryS N x.Entries (by omega) hN,eq_IntS N x.Conf (by omega) hN]
theorem eq_MessageS_r (N : Nat) (hN : Big N) (c : (List Message)) (hc : c.length ≤ 1099511627776) (w : ∀ y ∈ c,totMessage y ≤ 1099511627) : ∀ (d k : Nat),c.length = k + d → laws_eqMessageS_l1_r N c c (c.drop k) (k : Int) = some (.inr ())
 | 0,k,h => by rw [List.drop_eq_nil_of_le (by omega),laws_eqMessageS_l1_r]
 | d + 1,k,h => by
  have hk : k < c.length := by omega
  rw [List.drop_eq_getElem_cons hk,laws_eqMessageS_l1_r]
  simp only [Option.bind_some,at_lt hk,w64_succ (k := k) (by omega)]
  have := eq_MessageS_r N hN c hc w d (k + 1) (by omega)
  simpa [eq_Message N _ (w _ (List.getElem_mem hk)) hN] using this
theorem eq_MessageS (N : Nat) (x : (List Message)) (h : (totL totMessage) x ≤ 1099511627) (hN : Big N) : laws_eqMessageS N x x = some true := by
 unfold laws_eqMessageS
 have hl : x.length ≤ 1099511627 := by simp only [totL] at h; omega
 have := eq_MessageS_r N hN x (by omega) (fun y hy => Nat.le_trans (le_sum hy) (by simp only [totL] at h; omega)) x.length 0 (by omega)
 simp only [List.drop_zero] at this
 simp only [joinP]
 rw [if_neg (by simp),laws_eqMessageS_l1_eq x x (by omega) (by omega),show (0 : Int) = ((0 : Nat) : Int) from rfl,this]
 rfl
theorem eq_Wait (N : Nat) (x : Wait) (h : totWait x ≤ 1099511627) (hN : Big N) : laws_eqWait N x x = some true := by
 unfold laws_eqWait
 simp
theorem eq_WaitS_r (N : Nat) (hN : Big N) (c : (List Wait)) (hc : c.length ≤ 1099511627776) (w : ∀ y ∈ c,totWait y ≤ 1099511627) : ∀ (d k : Nat),c.length = k + d → laws_eqWaitS_l1_r N c c (c.drop k) (k : Int) = some (.inr ())
 | 0,k,h => by rw [List.drop_eq_nil_of_le (by omega),laws_eqWaitS_l1_r]
 | d + 1,k,h => by
  have hk : k < c.length := by omega
  rw [List.drop_eq_getElem_cons hk,laws_eqWaitS_l1_r]
  simp only [Option.bind_some,at_lt hk,w64_succ (k := k) (by omega)]
  have := eq_WaitS_r N hN c hc w d (k + 1) (by omega)
  simpa [eq_Wait N _ (w _ (List.getElem_mem hk)) hN] using this
theorem eq_WaitS (N : Nat) (x : (List Wait)) (h : (totL totWait) x ≤ 1099511627) (hN : Big N) : laws_eqWaitS N x x = some true := by
 unfold laws_eqWaitS
 have hl : x.length ≤ 1099511627 := by simp only [totL] at h; omega
 have := eq_WaitS_r N hN x (by omega) (fun y hy => Nat.le_trans (le_sum hy) (by simp only [totL] at h; omega)) x.length 0 (by omega)
 simp only [List.drop_zero] at this
 simp only [joinP]
 rw [if_neg (by simp),laws_eqWaitS_l1_eq x x (by omega) (by omega),show (0 : Int) = ((0 : Nat) : Int) from rfl,this]
 rfl
theorem eq_Leader (N : Nat) (x : Leader) (h : totLeader x ≤ 1099511627) (hN : Big N) : laws_eqLeader N x x = some true := by
 unfold laws_eqLeader
 simp only [totLeader] at h
 simp [eq_Log N x.Log (by omega) hN]
theorem eq_LeaderS_r (N : Nat) (hN : Big N) (c : (List Leader)) (hc : c.length ≤ 1099511627776) (w : ∀ y ∈ c,totLeader y ≤ 1099511627) : ∀ (d k : Nat),c.length = k + d → laws_eqLeaderS_l1_r N c c (c.drop k) (k : Int) = some (.inr ())
 | 0,k,h => by rw [List.drop_eq_nil_of_le (by omega),laws_eqLeaderS_l1_r]
 | d + 1,k,h => by
  have hk : k < c.length := by omega
  rw [List.drop_eq_getElem_cons hk,laws_eqLeaderS_l1_r]
  simp only [Option.bind_some,at_lt hk,w64_succ (k := k) (by omega)]
  have := eq_LeaderS_r N hN c hc w d (k + 1) (by omega)
  simpa [eq_Leader N _ (w _ (List.getElem_mem hk)) hN] using this
theorem eq_LeaderS (N : Nat) (x : (List Leader)) (h : (totL totLeader) x ≤ 1099511627) (hN : Big N) : laws_eqLeaderS N x x = some true := by
 unfold laws_eqLeaderS
 have hl : x.length ≤ 1099511627 := by simp only [totL] at h; omega
 have := eq_LeaderS_r N hN x (by omega) (fun y hy => Nat.le_trans (le_sum hy) (by simp only [totL] at h; omega)) x.length 0 (by omega)
 simp only [List.drop_zero] at this
 simp only [joinP]
 rw [if_neg (by simp),laws_eqLeaderS_l1_eq x x (by omega) (by omega),show (0 : Int) = ((0 : Nat) : Int) from rfl,this]
 rfl
theorem eq_Applied (N : Nat) (x : Applied) (h : totApplied x ≤ 1099511627) (hN : Big N) : laws_eqApplied N x x = some true := by
 unfold laws_eqApplied
 simp only [totApplied] at h
 simp [eq_Entry N x.Entry (by omega) hN]
theorem eq_AppliedS_r (N : Nat) (hN : Big N) (c : (List Applied)) (hc : c.length ≤ 1099511627776) (w : ∀ y ∈ c,totApplied y ≤ 1099511627) : ∀ (d k : Nat),c.length = k + d → laws_eqAppliedS_l1_r N c c (c.drop k) (k : Int) = some (.inr ())
 | 0,k,h => by rw [List.drop_eq_nil_of_le (by omega),laws_eqAppliedS_l1_r]
 | d + 1,k,h => by
  have hk : k < c.length := by omega
  rw [List.drop_eq_getElem_cons hk,laws_eqAppliedS_l1_r]
  simp only [Option.bind_some,at_lt hk,w64_succ (k := k) (by omega)]
  have := eq_AppliedS_r N hN c hc w d (k + 1) (by omega)
  simpa [eq_Applied N _ (w _ (List.getElem_mem hk)) hN] using this
theorem eq_AppliedS (N : Nat) (x : (List Applied)) (h : (totL totApplied) x ≤ 1099511627) (hN : Big N) : laws_eqAppliedS N x x = some true := by
 unfold laws_eqAppliedS
 have hl : x.length ≤ 1099511627 := by simp only [totL] at h; omega
 have := eq_AppliedS_r N hN x (by omega) (fun y hy => Nat.le_trans (le_sum hy) (by simp only [totL] at h; omega)) x.length 0 (by omega)
 simp only [List.drop_zero] at this
 simp only [joinP]
 rw [if_neg (by simp),laws_eqAppliedS_l1_eq x x (by omega) (by omega),show (0 : Int) = ((0 : Nat) : Int) from rfl,this]
 rfl
theorem eq_Command (N : Nat) (x : Command) (h : totCommand x ≤ 1099511627) (hN : Big N) : laws_eqCommand N x x = some true := by
 unfold laws_eqCommand
 simp only [totCommand] at h
 simp
theorem eq_Reply (N : Nat) (x : Reply) (h : totReply x ≤ 1099511627) (hN : Big N) : laws_eqReply N x x = some true := by
 unfold laws_eqReply
 simp only [totReply] at h
 simp [eq_Command N x.Command (by omega) hN]
theorem eq_ReplyS_r (N : Nat) (hN : Big N) (c : (List Reply)) (hc : c.length ≤ 1099511627776) (w : ∀ y ∈ c,totReply y ≤ 1099511627) : ∀ (d k : Nat),c.length = k + d → laws_eqReplyS_l1_r N c c (c.drop k) (k : Int) = some (.inr ())
 | 0,k,h => by rw [List.drop_eq_nil_of_le (by omega),laws_eqReplyS_l1_r]
 | d + 1,k,h => by
  have hk : k < c.length := by omega
  rw [List.drop_eq_getElem_cons hk,laws_eqReplyS_l1_r]
  simp only [Option.bind_some,at_lt hk,w64_succ (k := k) (by omega)]
  have := eq_ReplyS_r N hN c hc w d (k + 1) (by omega)
  simpa [eq_Reply N _ (w _ (List.getElem_mem hk)) hN] using this
theorem eq_ReplyS (N : Nat) (x : (List Reply)) (h : (totL totReply) x ≤ 1099511627) (hN : Big N) : laws_eqReplyS N x x = some true := by
 unfold laws_eqReplyS
 have hl : x.length ≤ 1099511627 := by simp only [totL] at h; omega
 have := eq_ReplyS_r N hN x (by omega) (fun y hy => Nat.le_trans (le_sum hy) (by simp only [totL] at h; omega)) x.length 0 (by omega)
 simp only [List.drop_zero] at this
 simp only [joinP]
 rw [if_neg (by simp),laws_eqReplyS_l1_eq x x (by omega) (by omega),show (0 : Int) = ((0 : Nat) : Int) from rfl,this]
 rfl
theorem eq_World (N : Nat) (x : World) (h : totWorld x ≤ 1099511627) (hN : Big N) : laws_eqWorld N x x = some true := by
 unfold laws_eqWorld
 simp only [totWorld] at h
 simp [eq_BoolS N x.Up (by omega) hN,eq_ServerS N x.Servers (by omega) hN,eq_MessageS N x.Net (by omega) hN,eq_WaitS N x.Waits (by omega) hN,eq_LeaderS N x.Leaders (by omega) hN,eq_AppliedS N x.Applied (by omega) hN,eq_ReplyS N x.Replies (by omega) hN]
end Go.Proofs.YtedoifjaobebeaaGreatDoor.Pe.FnExactShowWorld
