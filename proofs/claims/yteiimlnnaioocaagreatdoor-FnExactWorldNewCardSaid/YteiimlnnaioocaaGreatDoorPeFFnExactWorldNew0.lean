/- Functions,as pure functions; and that Go does just that. -/
import Derived.Test.YteiimlnnaioocaaGreatDoorPeTy
import Derived.Test.YteiimlnnaioocaaGreatDoorPeNorm
import Derived.Test.YteiimlnnaioocaaGreatDoorPeSpec
import Derived.Test.YteiimlnnaioocaaGreatDoorShelf
import Derived.Test.YteiimlnnaioocaaGreatDoorPeIns110
import Derived.Test.YteiimlnnaioocaaGreatDoorPeIns206
import Derived.Test.YteiimlnnaioocaaGreatDoorPeSFnExactWorldNew
namespace Go.Proofs.YteiimlnnaioocaaGreatDoor.Pe.FnExactWorldNew
open Go Go.RowKit
set_option linter.unusedVariables false
set_option linter.unusedSimpArgs false
set_option maxHeartbeats 40000000
set_option maxRecDepth 100000
theorem hmix : Tryz.prog.follows .mixedOrders = true := by kernel_rfl
structure Manifest where
 Segs : (List Int)
 Next : Int
 Base : Int
 BaseTerm : Int
 Conf : (List Int)
abbrev encManifest (o : Bool) (x : Manifest) : List C := [.row o 3 (x.Segs.map encI),.i .i64 x.Next,.i .i64 x.Base,.i .i64 x.BaseTerm,.row o 3 (x.Conf.map encI)]
theorem ro_encManifest (x : Manifest) : roCs (encManifest true x) = encManifest false x := by simp only [encManifest,roCs,roC,roRows_mapf (fun _ => rfl),roRows_mapf (fun _ => rfl)]
theorem ro2_encManifest (x : Manifest) : roCs (encManifest false x) = encManifest false x := by simp only [encManifest,roCs,roC,roRows_mapf (fun _ => rfl),roRows_mapf (fun _ => rfl)]
theorem own_encManifest (x : Manifest) : ownCs (encManifest true x) = true := by simp only [encManifest,ownCs,ownC,Bool.and_self,Bool.and_true,Bool.true_and,own_rows (f := encI) (fun _ => rfl),own_rows (f := encI) (fun _ => rfl)]
structure File where
 Name : ByteArray
 Text : ByteArray
abbrev encFile (x : File) : List C := [.s x.Name,.s x.Text]
structure Disk where
 Files : (List File)
abbrev encDisk (o : Bool) (x : Disk) : List C := [.row o 80 (x.Files.map encFile)]
theorem ro_encDisk (x : Disk) : roCs (encDisk true x) = encDisk false x := by simp only [encDisk,roCs,roC,roRows_mapf (fun _ => rfl)]
theorem ro2_encDisk (x : Disk) : roCs (encDisk false x) = encDisk false x := by simp only [encDisk,roCs,roC,roRows_mapf (fun _ => rfl)]
theorem own_encDisk (x : Disk) : ownCs (encDisk true x) = true := by simp only [encDisk,ownCs,ownC,Bool.and_self,Bool.and_true,Bool.true_and,own_rows (f := encFile) (fun _ => rfl)]
structure Entry where
 Term : Int
 Kind : Int
 Data : ByteArray
abbrev encEntry (x : Entry) : List C := [.i .i64 x.Term,.i .i64 x.Kind,.s x.Data]
structure Log where
 Start : Int
 StartTerm : Int
 Entries : (List Entry)
abbrev encLog (o : Bool) (x : Log) : List C := [.i .i64 x.Start,.i .i64 x.StartTerm,.row o 111 (x.Entries.map encEntry)]
theorem ro_encLog (x : Log) : roCs (encLog true x) = encLog false x := by simp only [encLog,roCs,roC,roRows_mapf (fun _ => rfl)]
theorem ro2_encLog (x : Log) : roCs (encLog false x) = encLog false x := by simp only [encLog,roCs,roC,roRows_mapf (fun _ => rfl)]
theorem own_encLog (x : Log) : ownCs (encLog true x) = true := by simp only [encLog,ownCs,ownC,Bool.and_self,Bool.and_true,Bool.true_and,own_rows (f := encEntry) (fun _ => rfl)]
structure Peer where
 Id : Int
 Next : Int
 Match : Int
 Sent : Int
abbrev encPeer (x : Peer) : List C := [.i .i64 x.Id,.i .i64 x.Next,.i .i64 x.Match,.i .i64 x.Sent]
structure Node where
 Id : Int
 Term : Int
 Vote : Int
 Role : Int
 Lead : Int
 Conf : (List Int)
 Log : Log
 Commit : Int
 Clock : Int
 Limit : Int
 Votes : (List Int)
 Peers : (List Peer)
abbrev encNode (o : Bool) (x : Node) : List C := [.i .i64 x.Id,.i .i64 x.Term,.i .i64 x.Vote,.i .i64 x.Role,.i .i64 x.Lead,.row o 3 (x.Conf.map encI),.i .i64 x.Log.Start,.i .i64 x.Log.StartTerm,.row o 111 (x.Log.Entries.map encEntry),.i .i64 x.Commit,.i .i64 x.Clock,.i .i64 x.Limit,.row o 3 (x.Votes.map encI),.row o 156 (x.Peers.map encPeer)]
theorem ro_encNode (x : Node) : roCs (encNode true x) = encNode false x := by simp only [encNode,roCs,roC,roRows_mapf (fun _ => rfl),roRows_mapf (fun _ => rfl),roRows_mapf (fun _ => rfl),roRows_mapf (fun _ => rfl)]
theorem ro2_encNode (x : Node) : roCs (encNode false x) = encNode false x := by simp only [encNode,roCs,roC,roRows_mapf (fun _ => rfl),roRows_mapf (fun _ => rfl),roRows_mapf (fun _ => rfl),roRows_mapf (fun _ => rfl)]
theorem own_encNode (x : Node) : ownCs (encNode true x) = true := by simp only [encNode,ownCs,ownC,Bool.and_self,Bool.and_true,Bool.true_and,own_rows (f := encI) (fun _ => rfl),own_rows (f := encEntry) (fun _ => rfl),own_rows (f := encI) (fun _ => rfl),own_rows (f := encPeer) (fun _ => rfl)]
structure Spot where
 Key : ByteArray
 Seg : Int
 At : Int
 Size : Int
abbrev encSpot (x : Spot) : List C := [.s x.Key,.i .i64 x.Seg,.i .i64 x.At,.i .i64 x.Size]
structure Shelf where
 Man : Manifest
 Dir : (List Spot)
 Stamp : Int
abbrev encShelf (o : Bool) (x : Shelf) : List C := [.row o 3 (x.Man.Segs.map encI),.i .i64 x.Man.Next,.i .i64 x.Man.Base,.i .i64 x.Man.BaseTerm,.row o 3 (x.Man.Conf.map encI),.row o 185 (x.Dir.map encSpot),.i .i64 x.Stamp]
theorem ro_encShelf (x : Shelf) : roCs (encShelf true x) = encShelf false x := by simp only [encShelf,roCs,roC,roRows_mapf (fun _ => rfl),roRows_mapf (fun _ => rfl),roRows_mapf (fun _ => rfl)]
theorem ro2_encShelf (x : Shelf) : roCs (encShelf false x) = encShelf false x := by simp only [encShelf,roCs,roC,roRows_mapf (fun _ => rfl),roRows_mapf (fun _ => rfl),roRows_mapf (fun _ => rfl)]
theorem own_encShelf (x : Shelf) : ownCs (encShelf true x) = true := by simp only [encShelf,ownCs,ownC,Bool.and_self,Bool.and_true,Bool.true_and,own_rows (f := encI) (fun _ => rfl),own_rows (f := encI) (fun _ => rfl),own_rows (f := encSpot) (fun _ => rfl)]
structure Server where
 Node : Node
 Disk : Disk
 Shelf : Shelf
 Stage : ByteArray
 StageAt : Int
 StageTerm : Int
abbrev encServer (o : Bool) (x : Server) : List C := [.i .i64 x.Node.Id,.i .i64 x.Node.Term,.i .i64 x.Node.Vote,.i .i64 x.Node.Role,.i .i64 x.Node.Lead,.row o 3 (x.Node.Conf.map encI),.i .i64 x.Node.Log.Start,.i .i64 x.Node.Log.StartTerm,.row o 111 (x.Node.Log.Entries.map encEntry),.i .i64 x.Node.Commit,.i .i64 x.Node.Clock,.i .i64 x.Node.Limit,.row o 3 (x.Node.Votes.map encI),.row o 156 (x.Node.Peers.map encPeer),.row o 80 (x.Disk.Files.map encFile),.row o 3 (x.Shelf.Man.Segs.map encI),.i .i64 x.Shelf.Man.Next,.i .i64 x.Shelf.Man.Base,.i .i64 x.Shelf.Man.BaseTerm,.row o 3 (x.Shelf.Man.Conf.map encI),.row o 185 (x.Shelf.Dir.map encSpot),.i .i64 x.Shelf.Stamp,.s x.Stage,.i .i64 x.StageAt,.i .i64 x.StageTerm]
theorem ro_encServer (x : Server) : roCs (encServer true x) = encServer false x := by simp only [encServer,roCs,roC,roRows_mapf (fun _ => rfl),roRows_mapf (fun _ => rfl),roRows_mapf (fun _ => rfl),roRows_mapf (fun _ => rfl),roRows_mapf (fun _ => rfl),roRows_mapf (fun _ => rfl),roRows_mapf (fun _ => rfl),roRows_mapf (fun _ => rfl)]
theorem ro2_encServer (x : Server) : roCs (encServer false x) = encServer false x := by simp only [encServer,roCs,roC,roRows_mapf (fun _ => rfl),roRows_mapf (fun _ => rfl),roRows_mapf (fun _ => rfl),roRows_mapf (fun _ => rfl),roRows_mapf (fun _ => rfl),roRows_mapf (fun _ => rfl),roRows_mapf (fun _ => rfl),roRows_mapf (fun _ => rfl)]
theorem own_encServer (x : Server) : ownCs (encServer true x) = true := by simp only [encServer,ownCs,ownC,Bool.and_self,Bool.and_true,Bool.true_and,own_rows (f := encI) (fun _ => rfl),own_rows (f := encEntry) (fun _ => rfl),own_rows (f := encI) (fun _ => rfl),own_rows (f := encPeer) (fun _ => rfl),own_rows (f := encFile) (fun _ => rfl),own_rows (f := encI) (fun _ => rfl),own_rows (f := encI) (fun _ => rfl),own_rows (f := encSpot) (fun _ => rfl)]
structure Message where
 Kind : Int
 From : Int
 To : Int
 Term : Int
 Index : Int
 LogTerm : Int
 Commit : Int
 Ok : Bool
 Entries : (List Entry)
 Conf : (List Int)
 Data : ByteArray
 Last : Bool
abbrev encMessage (o : Bool) (x : Message) : List C := [.i .i64 x.Kind,.i .i64 x.From,.i .i64 x.To,.i .i64 x.Term,.i .i64 x.Index,.i .i64 x.LogTerm,.i .i64 x.Commit,.b x.Ok,.row o 111 (x.Entries.map encEntry),.row o 3 (x.Conf.map encI),.s x.Data,.b x.Last]
theorem ro_encMessage (x : Message) : roCs (encMessage true x) = encMessage false x := by simp only [encMessage,roCs,roC,roRows_mapf (fun _ => rfl),roRows_mapf (fun _ => rfl)]
theorem ro2_encMessage (x : Message) : roCs (encMessage false x) = encMessage false x := by simp only [encMessage,roCs,roC,roRows_mapf (fun _ => rfl),roRows_mapf (fun _ => rfl)]
theorem own_encMessage (x : Message) : ownCs (encMessage true x) = true := by simp only [encMessage,ownCs,ownC,Bool.and_self,Bool.and_true,Bool.true_and,own_rows (f := encEntry) (fun _ => rfl),own_rows (f := encI) (fun _ => rfl)]
structure Wait where
 Node : Int
 Index : Int
 Term : Int
 Call : Int
abbrev encWait (x : Wait) : List C := [.i .i64 x.Node,.i .i64 x.Index,.i .i64 x.Term,.i .i64 x.Call]
structure Leader where
 Node : Int
 Term : Int
 Log : Log
abbrev encLeader (o : Bool) (x : Leader) : List C := [.i .i64 x.Node,.i .i64 x.Term,.i .i64 x.Log.Start,.i .i64 x.Log.StartTerm,.row o 111 (x.Log.Entries.map encEntry)]
theorem ro_encLeader (x : Leader) : roCs (encLeader true x) = encLeader false x := by simp only [encLeader,roCs,roC,roRows_mapf (fun _ => rfl)]
theorem ro2_encLeader (x : Leader) : roCs (encLeader false x) = encLeader false x := by simp only [encLeader,roCs,roC,roRows_mapf (fun _ => rfl)]
theorem own_encLeader (x : Leader) : ownCs (encLeader true x) = true := by simp only [encLeader,ownCs,ownC,Bool.and_self,Bool.and_true,Bool.true_and,own_rows (f := encEntry) (fun _ => rfl)]
structure Applied where
 Node : Int
 Term : Int
 Index : Int
 Entry : Entry
abbrev encApplied (x : Applied) : List C := [.i .i64 x.Node,.i .i64 x.Term,.i .i64 x.Index,.i .i64 x.Entry.Term,.i .i64 x.Entry.Kind,.s x.Entry.Data]
structure Command where
 Op : Int
 Session : Int
 Seq : Int
 Key : ByteArray
 Value : ByteArray
 Old : ByteArray
abbrev encCommand (x : Command) : List C := [.i .i64 x.Op,.i .i64 x.Session,.i .i64 x.Seq,.s x.Key,.s x.Value,.s x.Old]
structure Reply where
 Call : Int
 Index : Int
 Command : Command
 Text : ByteArray
abbrev encReply (x : Reply) : List C := [.i .i64 x.Call,.i .i64 x.Index,.i .i64 x.Command.Op,.i .i64 x.Command.Session,.i .i64 x.Command.Seq,.s x.Command.Key,.s x.Command.Value,.s x.Command.Old,.s x.Text]
structure Raw where
 Kind : Int
 Name : ByteArray
 To : ByteArray
 Text : ByteArray
abbrev encRaw (x : Raw) : List C := [.i .i64 x.Kind,.s x.Name,.s x.To,.s x.Text]
structure Tl05Cur where
 text : ByteArray
 at' : Int
 bad : Bool
abbrev encTl05Cur (x : Tl05Cur) : List C := [.s x.text,.i .i64 x.at',.b x.bad]
structure World where
 Up : (List Bool)
 Servers : (List Server)
 Net : (List Message)
 Waits : (List Wait)
 Leaders : (List Leader)
 Applied : (List Applied)
 Replies : (List Reply)
abbrev encWorld (o : Bool) (x : World) : List C := [.row o 4 (x.Up.map encB),.row o 58 (x.Servers.map (encServer o)),.row o 102 (x.Net.map (encMessage o)),.row o 105 (x.Waits.map encWait),.row o 108 (x.Leaders.map (encLeader o)),.row o 113 (x.Applied.map encApplied),.row o 118 (x.Replies.map encReply)]
theorem ro_encWorld (x : World) : roCs (encWorld true x) = encWorld false x := by simp only [encWorld,roCs,roC,roRows_mapf (fun _ => rfl),roRows_mapf ro_encServer,roRows_mapf ro_encMessage,roRows_mapf (fun _ => rfl),roRows_mapf ro_encLeader,roRows_mapf (fun _ => rfl),roRows_mapf (fun _ => rfl)]
theorem ro2_encWorld (x : World) : roCs (encWorld false x) = encWorld false x := by simp only [encWorld,roCs,roC,roRows_mapf (fun _ => rfl),roRows_mapf ro2_encServer,roRows_mapf ro2_encMessage,roRows_mapf (fun _ => rfl),roRows_mapf ro2_encLeader,roRows_mapf (fun _ => rfl),roRows_mapf (fun _ => rfl)]
theorem own_encWorld (x : World) : ownCs (encWorld true x) = true := by simp only [encWorld,ownCs,ownC,Bool.and_self,Bool.and_true,Bool.true_and,own_rows (f := encB) (fun _ => rfl),own_rows (f := (encServer true)) own_encServer,own_rows (f := (encMessage true)) own_encMessage,own_rows (f := encWait) (fun _ => rfl),own_rows (f := (encLeader true)) own_encLeader,own_rows (f := encApplied) (fun _ => rfl),own_rows (f := encReply) (fun _ => rfl)]
structure Treader where
 s : ByteArray
 at' : Int
 bad : Bool
abbrev encTreader (x : Treader) : List C := [.s x.s,.i .i64 x.at',.b x.bad]
structure Change where
 Key : ByteArray
 Value : ByteArray
 Gone : Bool
abbrev encChange (x : Change) : List C := [.s x.Key,.s x.Value,.b x.Gone]
structure Batch where
 Stamp : Int
 Changes : (List Change)
abbrev encBatch (o : Bool) (x : Batch) : List C := [.i .i64 x.Stamp,.row o 232 (x.Changes.map encChange)]
theorem ro_encBatch (x : Batch) : roCs (encBatch true x) = encBatch false x := by simp only [encBatch,roCs,roC,roRows_mapf (fun _ => rfl)]
theorem ro2_encBatch (x : Batch) : roCs (encBatch false x) = encBatch false x := by simp only [encBatch,roCs,roC,roRows_mapf (fun _ => rfl)]
theorem own_encBatch (x : Batch) : ownCs (encBatch true x) = true := by simp only [encBatch,ownCs,ownC,Bool.and_self,Bool.and_true,Bool.true_and,own_rows (f := encChange) (fun _ => rfl)]
structure Tplaced where
 b : Batch
 text : ByteArray
 at' : Int
abbrev encTplaced (o : Bool) (x : Tplaced) : List C := [.i .i64 x.b.Stamp,.row o 232 (x.b.Changes.map encChange),.s x.text,.i .i64 x.at']
theorem ro_encTplaced (x : Tplaced) : roCs (encTplaced true x) = encTplaced false x := by simp only [encTplaced,roCs,roC,roRows_mapf (fun _ => rfl)]
theorem ro2_encTplaced (x : Tplaced) : roCs (encTplaced false x) = encTplaced false x := by simp only [encTplaced,roCs,roC,roRows_mapf (fun _ => rfl)]
theorem own_encTplaced (x : Tplaced) : ownCs (encTplaced true x) = true := by simp only [encTplaced,ownCs,ownC,Bool.and_self,Bool.and_true,Bool.true_and,own_rows (f := encChange) (fun _ => rfl)]
theorem bt3 : bytesOf Tryz.prog 3 ≤ 2048 := of_decide_eq_true (by kernel_rfl)
theorem bt4 : bytesOf Tryz.prog 4 ≤ 2048 := of_decide_eq_true (by kernel_rfl)
theorem bt5 : bytesOf Tryz.prog 5 ≤ 2048 := of_decide_eq_true (by kernel_rfl)
theorem bt9 : bytesOf Tryz.prog 9 ≤ 2048 := of_decide_eq_true (by kernel_rfl)
theorem bt58 : bytesOf Tryz.prog 58 ≤ 2048 := of_decide_eq_true (by kernel_rfl)
theorem bt80 : bytesOf Tryz.prog 80 ≤ 2048 := of_decide_eq_true (by kernel_rfl)
theorem bt89 : bytesOf Tryz.prog 89 ≤ 2048 := of_decide_eq_true (by kernel_rfl)
theorem bt111 : bytesOf Tryz.prog 111 ≤ 2048 := of_decide_eq_true (by kernel_rfl)
theorem bt185 : bytesOf Tryz.prog 185 ≤ 2048 := of_decide_eq_true (by kernel_rfl)
def laws_toIntS_l1 (N : Nat) (x1 : (List Int)) : Nat → Int → (List Int) → Option ((List Int))
 | 0,_,_ => none
 | m + 1,x186,x187 =>
 (if (decide (x186 < (x1.length : Int))) = true then
 (at? x1 x186).bind fun x208 =>
 (at? x187 x186).bind fun x209 =>
 laws_toIntS_l1 N x1 m (w64 (x186 + 1)) (x187.set x186.toNat x208)
 else
 some x187)
def laws_toIntS_l1_r (N : Nat) (x1 : (List Int)) : (List Int) → Int → (List Int) → Option ((List Int))
 | [],x186,x187 =>
 some x187
 | hd :: tl,x186,x187 =>
 (some hd).bind fun x208 =>
 (at? x187 x186).bind fun x209 =>
 laws_toIntS_l1_r N x1 tl (w64 (x186 + 1)) (x187.set x186.toNat x208)
theorem laws_toIntS_l1_rng (N : Nat) (x1 : (List Int)) (hx : x1.length ≤ 1099511627776) : ∀ (d k m : Nat) (x187 : (List Int)),x1.length = k + d → d < m → laws_toIntS_l1 N x1 m (k : Int) x187 = laws_toIntS_l1_r N x1 (x1.drop k) (k : Int) x187 := by
 intro d
 induction d with
 | zero =>
  intro k m x187 hd hm
  obtain ⟨m,rfl⟩ : ∃ q,m = q + 1 := ⟨m - 1,by omega⟩
  rw [laws_toIntS_l1,if_neg (by simp; omega),List.drop_eq_nil_of_le (by omega),laws_toIntS_l1_r]
 | succ d ih =>
  intro k m x187 hd hm
  obtain ⟨m,rfl⟩ : ∃ q,m = q + 1 := ⟨m - 1,by omega⟩
  have hk : k < x1.length := by omega
  rw [laws_toIntS_l1,if_pos (by simp; omega),List.drop_eq_getElem_cons hk,laws_toIntS_l1_r]
  have h1 := at_lt hk
  have h2 := w64_succ (k := k) (by omega)
  have h3 := ih (k + 1) m
  simp only [h1,h2,h3 _ (by omega) (by omega)]
theorem laws_toIntS_l1_eq {N : Nat} (x1 : (List Int)) (hx : x1.length ≤ 1099511627776) (hN : x1.length < N) (x187 : (List Int)) : laws_toIntS_l1 N x1 N 0 x187 = laws_toIntS_l1_r N x1 x1 0 x187 := laws_toIntS_l1_rng N x1 hx x1.length 0 N x187 (by omega) hN
def laws_toIntS (N : Nat) (x1 : (List Int)) : Option ((List Int)) :=
 (mk? 0 (x1.length : Int)).bind fun x158 =>
 joinP (fun (v184 : (List Int)) =>
 some v184) fun j184 =>
 (laws_toIntS_l1 N x1 N 0 x158).bind (fun v198 => j184 v198)
theorem sem_laws_toIntS (N : Nat) (x1 : (List Int)) (r : (List Int)) (h : laws_toIntS N x1 = some r) : Says Tryz.prog 5 [RO 3 (x1.map encI)] 0 [] (.sl 0 3 0 r.length) [(0,.vec 3 (r.map encI))] := by
 unfold laws_toIntS at h
 refine Says.of_norm e Tryz.call5 e fun B hB => ?_
 have hm : B.m ≤ 1000 := by omega
 refine Run.so hm (.p e (.nil (.so hm (.p e (.z 5112 (Ev.lnF e) e e ?_)))))
 obtain ⟨x158,hx158,h⟩ := bindO h
 refine Ops.z 5128 (Ev.msW (f := encI) (zv := 0) e e e bt3 e hx158) e e (.p e (.nil (.seqO h (fun v184 => [(3,.sl 0 3 0 v184.length)]) (fun (v184 : (List Int)) => [(0,.vec 3 (v184.map encI))]) (fun h => ?_) (fun v184 h => ?_))))
 ·refine Run.so hm (.p e (.nil (.block ?_)))
  obtain ⟨res198,h,hk198⟩ := bindO h
  refine Run.loop (n := N) (fun m198 fr σ => ∃ (x186 : Int),∃ (x187 : (List Int)),laws_toIntS_l1 N x1 m198 x186 x187 = some res198 ∧ fr = [(0,RO 3 (x1.map encI)),(3,.sl 0 3 0 x187.length),(4,VI x186)] ∧ σ = [(0,.vec 3 (x187.map encI))]) (gh_pk [0,3,4] [5128] hB e e e e) ⟨_,_,h,e,e⟩ ?_
  rintro m198 fr σ ⟨x186,x187,h,rfl,rfl⟩
  obtain _ | m198 := m198
  ·rw [laws_toIntS_l1] at h; cases h
  rw [laws_toIntS_l1] at h
  refine Run.seq (.so hm (.p2 e e (.z 13320 (Ev.lnF e) e e (.p e (.nil (.condO e h (fun g201 h => ?_) (fun g201 h => ?_)))))))
  ·refine Run.skip (.seq (.block (.ops hm (.p3 e e e (.p e ?_)))))
   obtain ⟨x208,hx208,h⟩ := bindO h
   refine Ops.z 21544 (Ev.iaF e e hx208) e e (.p e ?_)
   obtain ⟨x209,hx209,h⟩ := bindO h
   exact Ops.z 21576 (Ev.iaW e e e hx209) e e (.y 21592 (Ev.stE (f := encI) (v' := x208) e e (at_some hx209).2 e (.d1 .nil) e e e e e) e e (.nil (.ops hm (.p3 e e e (.nil (⟨m198,Nat.lt_succ_self m198,_,_,(gh_pk [0,3,4] [0] hB e e (by first | rfl | (simp only [List.length_set]; done) | (simp only [List.length_set]; rfl)) (by first | rfl | (simp only [List.length_set]; done) | (simp only [List.length_set]; rfl))),_,_,h,e,e⟩))))))
  ·refine Run.exit ?_
   obtain rfl := someO h
   have h := hk198
   exact ⟨_,_,(gh_pk [3] [0] hB e e e e),_,h,e,e⟩
 ·refine Run.so hm (.p2 e e (.nil (.ret ?_)))
  obtain rfl := someO h
  exact Ends.mkG (.inl e) e (gh_pk [0] [0] hB e e e e) e e
def spec_l01In (N : Nat) (x1 : Int) (x2 : Int) (x3 : Int) : Option (Bool) :=
 (if (decide (x1 ≥ x2)) = true then
 some (decide (x1 ≤ x3))
 else
 some false)
theorem sem_spec_l01In (N : Nat) (x1 : Int) (x2 : Int) (x3 : Int) (r : Bool) (h : spec_l01In N x1 x2 x3 = some r) : Says Tryz.prog 13 [VI x1,VI x2,VI x3] 0 [] (VB r) [] := by
 unfold spec_l01In at h
 refine Says.of_norm e Tryz.call13 e fun B hB => ?_
 have hm : B.m ≤ 1000 := by omega
 refine Run.so hm (.p e (.nil (.so hm (.p3 e e e (.p e (.askO (x := .t 10) e h (fun g103 h => ?_) (fun g103 h => ?_)))))))
 ·refine Ops.gp e g103 e (.gp e g103 e (.gp e g103 e (.z 5208 (.pkT e g103 e) e e (.p e (.nil (.ret ?_))))))
  obtain rfl := someO h
  exact Ends.mkG (.inl e) e (gh_pk [0] [] hB e e e e) e e
 ·refine Ops.gn e g103 (.gn e g103 (.gn e g103 (.z 5208 (.pkF e g103 e) e e (.p e (.nil (.ret ?_))))))
  obtain rfl := someO h
  exact Ends.mkG (.inl e) e (gh_pk [0] [] hB e e e e) e e
def spec_l07Rise_l1 (N : Nat) (x1 : (List Int)) (x2 : Int) (x3 : Int) : Nat → Int → Option ((Bool) ⊕ (Unit))
 | 0,_ => none
 | m + 1,x300 =>
 (if (decide (x300 < (x1.length : Int))) = true then
 joinP (fun (v348 : Unit) =>
 spec_l07Rise_l1 N x1 x2 x3 m (w64 (x300 + 1))) fun j348 =>
 (at? x1 x300).bind fun x355 =>
 (spec_l01In N x355 x2 x3).bind fun y356 =>
 (if (!y356) = true then
 some (Sum.inl false)
 else
 (if (decide (x300 > 0)) = true then
 (at? x1 (w64 (x300 - 1))).bind fun x359 =>
 (at? x1 x300).bind fun x360 =>
 (if (decide (x359 ≥ x360)) = true then
 some (Sum.inl false)
 else
 j348 ())
 else
 j348 ()))
 else
 some (Sum.inr ()))
def spec_l07Rise_l1_r (N : Nat) (x1 : (List Int)) (x2 : Int) (x3 : Int) : (List Int) → Int → Option ((Bool) ⊕ (Unit))
 | [],x300 =>
 some (Sum.inr ())
 | hd :: tl,x300 =>
 joinP (fun (v348 : Unit) =>
 spec_l07Rise_l1_r N x1 x2 x3 tl (w64 (x300 + 1))) fun j348 =>
 (some hd).bind fun x355 =>
 (spec_l01In N x355 x2 x3).bind fun y356 =>
 (if (!y356) = true then
 some (Sum.inl false)
 else
 (if (decide (x300 > 0)) = true then
 (at? x1 (w64 (x300 - 1))).bind fun x359 =>
 (some hd).bind fun x360 =>
 (if (decide (x359 ≥ x360)) = true then
 some (Sum.inl false)
 else
 j348 ())
 else
 j348 ()))
theorem spec_l07Rise_l1_rng (N : Nat) (x1 : (List Int)) (x2 : Int) (x3 : Int) (hx : x1.length ≤ 1099511627776) : ∀ (d k m : Nat),x1.length = k + d → d < m → spec_l07Rise_l1 N x1 x2 x3 m (k : Int) = spec_l07Rise_l1_r N x1 x2 x3 (x1.drop k) (k : Int) := by
 intro d
 induction d with
 | zero =>
  intro k m hd hm
  obtain ⟨m,rfl⟩ : ∃ q,m = q + 1 := ⟨m - 1,by omega⟩
  rw [spec_l07Rise_l1,if_neg (by simp; omega),List.drop_eq_nil_of_le (by omega),spec_l07Rise_l1_r]
 | succ d ih =>
  intro k m hd hm
  obtain ⟨m,rfl⟩ : ∃ q,m = q + 1 := ⟨m - 1,by omega⟩
  have hk : k < x1.length := by omega
  rw [spec_l07Rise_l1,if_pos (by simp; omega),List.drop_eq_getElem_cons hk,spec_l07Rise_l1_r]
  have h1 := at_lt hk
  have h2 := w64_succ (k := k) (by omega)
  have h3 := ih (k + 1) m
  simp only [h1,h2,h3 (by omega) (by omega)]
theorem spec_l07Rise_l1_eq {N : Nat} (x1 : (List Int)) (x2 : Int) (x3 : Int) (hx : x1.length ≤ 1099511627776) (hN : x1.length < N) : spec_l07Rise_l1 N x1 x2 x3 N 0 = spec_l07Rise_l1_r N x1 x2 x3 x1 0 := spec_l07Rise_l1_rng N x1 x2 x3 hx x1.length 0 N (by omega) hN
def spec_l07Rise (N : Nat) (x1 : (List Int)) (x2 : Int) (x3 : Int) : Option (Bool) :=
 joinP (fun (v296 : Unit) =>
 some true) fun j296 =>
 (spec_l07Rise_l1 N x1 x2 x3 N 0).bind (Sum.elim (fun v330 => some v330) (fun (v331 : Unit) => j296 ()))
theorem sem_spec_l07Rise (N : Nat) (x1 : (List Int)) (x2 : Int) (x3 : Int) (r : Bool) (h : spec_l07Rise N x1 x2 x3 = some r) : Says Tryz.prog 99 [RO 3 (x1.map encI),VI x2,VI x3] 0 [] (VB r) [] := by
 unfold spec_l07Rise at h
 refine Says.of_norm e Tryz.call99 e fun B hB => ?_
 have hm : B.m ≤ 1000 := by omega
 refine Run.so hm (.p e (.nil (.seqO h (fun v296 => []) (fun (v296 : Unit) => []) (fun h => ?_) (fun v296 h => ?_))))
 ·refine Run.so hm (.p e (.nil (.block ?_)))
  obtain ⟨res331,h,hk331⟩ := bindO h
  refine Run.loop (n := N) (fun m331 fr σ => ∃ (x300 : Int),spec_l07Rise_l1 N x1 x2 x3 m331 x300 = some res331 ∧ fr = [(0,RO 3 (x1.map encI)),(1,VI x2),(2,VI x3),(7,VI x300)] ∧ σ = []) (gh_pk [0,1,2,7] [] hB e e e e) ⟨_,h,e,e⟩ ?_
  rintro m331 fr σ ⟨x300,h,rfl,rfl⟩
  obtain _ | m331 := m331
  ·rw [spec_l07Rise_l1] at h; cases h
  rw [spec_l07Rise_l1] at h
  refine Run.seq (.so hm (.p2 e e (.z 9224 (Ev.lnF e) e e (.p e (.nil (.condO e h (fun g334 h => ?_) (fun g334 h => ?_)))))))
  ·refine Run.skip (.seqO h (fun v348 => [(0,RO 3 (x1.map encI)),(1,VI x2),(2,VI x3),(7,VI x300)]) (fun (v348 : Unit) => []) (fun h => ?_) (fun v348 h => ?_))
   ·refine Run.block (.seq (.draw hm hmix (.p e (.p e ?_))))
    obtain ⟨x355,hx355,h⟩ := bindO h
    refine OpsD.z 17416 (Ev.iaF e e hx355) e e (.p e (.p e (.p e ?_)))
    obtain ⟨y356,hy356,h⟩ := bindO h
    refine OpsD.z 17480 (Ev.call [] [] 0 (sem_spec_l01In _ _ _ _ _ hy356) e e (.d2 (.d1 .nil)) e (.inl e) e e) e e (.p e (.p e (.askO (x := .t 22) e h (fun g357 h => ?_) (fun g357 h => ?_))))
    ·refine OpsD.gn e g357 (.gn e g357 (.gn e g357 (.gu e (.gu e (.gu e (.gu e (.gu e (.gu e (.gu e (.gu e (.gu e (.gu e (.gn e g357 (.z 17752 (.pkT e g357 e) e e (.nil ⟨by kernel_rfl,?_⟩)))))))))))))))
     refine Run.condT e e (.so hm (.p e (.nil (.ret ?_))))
     obtain rfl := someO h
     have h := hk331
     replace h := inlO h
     obtain rfl := someO h
     exact Ends.mkG (.inl e) e (gh_pk [0] [] hB e e e e) e e
    ·refine OpsD.gp e g357 e (.gp e g357 e (.gp e g357 e (.askO (x := .t 25) e h (fun g358 h => ?_) (fun g358 h => ?_))))
     ·refine OpsD.gp e g358 e (.gp e g358 e (.gp e g358 e ?_))
      obtain ⟨x359,hx359,h⟩ := bindO h
      refine OpsD.gs (s := 17624) e g358 (Ev.iaF e e hx359) e e (.gp e g358 e (.gp e g358 e (.gp e g358 e ?_)))
      obtain ⟨x360,hx360,h⟩ := bindO h
      refine OpsD.gs (s := 17688) e g358 (Ev.iaF e e hx360) e e (.gp e g358 e (.gp e g358 e (.gs (s := 17736) e g357 (.pkT e g358 e) e e (.z 17752 (.pkF e g357 e) e e (.nil ⟨by kernel_rfl,?_⟩)))))
      refine Run.condO e h (fun g361 h => ?_) (fun g361 h => ?_)
      ·refine Run.so hm (.p e (.nil (.ret ?_)))
       obtain rfl := someO h
       have h := hk331
       replace h := inlO h
       obtain rfl := someO h
       exact Ends.mkG (.inl e) e (gh_pk [0] [] hB e e e e) e e
      ·exact Run.skip (⟨_,_,(gh_pk [0,1,2,7] [] hB e e e e),(),h,e,e⟩)
     ·refine OpsD.gn e g358 (.gn e g358 (.gn e g358 (.gn e g358 (.gn e g358 (.gn e g358 (.gn e g358 (.gn e g358 (.gn e g358 (.gn e g358 (.gs (s := 17736) e g357 (.pkF e g358 e) e e (.z 17752 (.pkF e g357 e) e e (.nil ⟨by kernel_rfl,?_⟩))))))))))))
      exact Run.condF e e (.skip (⟨_,_,(gh_pk [0,1,2,7] [] hB e e e e),(),h,e,e⟩))
   ·exact Run.ops hm (.p3 e e e (.nil (⟨m331,Nat.lt_succ_self m331,_,_,(gh_pk [0,1,2,7] [] hB e e e e),_,h,e,e⟩)))
  ·refine Run.exit ?_
   obtain rfl := someO h
   have h := hk331
   replace h := inrO h
   exact ⟨_,_,(gh_pk [] [] hB e e e e),(),h,e,e⟩
 ·refine Run.so hm (.p e (.nil (.ret ?_)))
  obtain rfl := someO h
  exact Ends.mkG (.inl e) e (gh_pk [0] [] hB e e e e) e e
def spec_ConfOk (N : Nat) (x1 : (List Int)) : Option (Bool) :=
 (spec_l01In N (x1.length : Int) 1 4).bind fun y109 =>
 (if y109 = true then
 (spec_l07Rise N x1 1 4).bind fun y111 =>
 some y111
 else
 some false)
theorem sem_spec_ConfOk (N : Nat) (x1 : (List Int)) (r : Bool) (h : spec_ConfOk N x1 = some r) : Says Tryz.prog 97 [RO 3 (x1.map encI)] 0 [] (VB r) [] := by
 unfold spec_ConfOk at h
 refine Says.of_norm e Tryz.call97 e fun B hB => ?_
 have hm : B.m ≤ 1000 := by omega
 refine Run.so hm (.p e (.nil (.so hm (.p e (.z 5112 (Ev.lnF e) e e ?_)))))
 obtain ⟨y109,hy109,h⟩ := bindO h
 refine Ops.z 5128 (Ev.call [] [] 0 (sem_spec_l01In _ _ _ _ _ hy109) e e (.d2 (.d1 .nil)) e (.inl e) e e) e e (.p e (.askO (x := .t 6) e h (fun g110 h => ?_) (fun g110 h => ?_)))
 ·refine Ops.gp e g110 e ?_
  obtain ⟨y111,hy111,h⟩ := bindO h
  refine Ops.gs (s := 5176) e g110 (Ev.call [] [] 0 (sem_spec_l07Rise _ _ _ _ _ hy111) e e (.d2 (.d1 .nil)) e (.inl e) e e) e e (.z 5192 (.pkT e g110 e) e e (.p e (.nil (.ret ?_))))
  obtain rfl := someO h
  exact Ends.mkG (.inl e) e (gh_pk [0] [] hB e e e e) e e
 ·refine Ops.gn e g110 (.gn e g110 (.z 5192 (.pkF e g110 e) e e (.p e (.nil (.ret ?_)))))
  obtain rfl := someO h
  exact Ends.mkG (.inl e) e (gh_pk [0] [] hB e e e e) e e
def spec_ManifestOk (N : Nat) (x1 : Manifest) : Option (Bool) :=
 (spec_l01In N (x1.Segs.length : Int) 1 8).bind fun y133 =>
 (if y133 = true then
 (spec_l01In N x1.Next 0 1000).bind fun y135 =>
 (if y135 = true then
 (spec_l07Rise N x1.Segs 0 (w64 (x1.Next - 1))).bind fun y137 =>
 (if y137 = true then
 (spec_l01In N x1.Base 0 100000).bind fun y139 =>
 (if y139 = true then
 (spec_l01In N x1.BaseTerm 0 100000).bind fun y141 =>
 (if y141 = true then
 (spec_ConfOk N x1.Conf).bind fun y143 =>
 some y143
 else
 some false)
 else
 some false)
 else
 some false)
 else
 some false)
 else
 some false)
theorem sem_spec_ManifestOk (N : Nat) (x1 : Manifest) (r : Bool) (h : spec_ManifestOk N x1 = some r) : Says Tryz.prog 137 [.agg [RO 3 (x1.Segs.map encI),VI x1.Next,VI x1.Base,VI x1.BaseTerm,RO 3 (x1.Conf.map encI)]] 0 [] (VB r) [] := by
 unfold spec_ManifestOk at h
 refine Says.of_norm e Tryz.call137 e fun B hB => ?_
 have hm : B.m ≤ 1000 := by omega
 refine Run.so hm (.z 1000 (.bx e e) e e (.p e (.nil (.so hm (.p2 e e (.z 5128 (Ev.lnF e) e e ?_))))))
 obtain ⟨y133,hy133,h⟩ := bindO h
 refine Ops.z 5144 (Ev.call [] [] 0 (sem_spec_l01In _ _ _ _ _ hy133) e e (.d2 (.d1 .nil)) e (.inl e) e e) e e (.p e (.askO (x := .t 7) e h (fun g134 h => ?_) (fun g134 h => ?_)))
 ·refine Ops.gp e g134 e (.gp e g134 e ?_)
  obtain ⟨y135,hy135,h⟩ := bindO h
  refine Ops.gs (s := 5208) e g134 (Ev.call [] [] 0 (sem_spec_l01In _ _ _ _ _ hy135) e e (.d2 (.d1 .nil)) e (.inl e) e e) e e (.z 5224 (.pkT e g134 e) e e (.p e (.askO (x := .t 12) e h (fun g136 h => ?_) (fun g136 h => ?_))))
  ·refine Ops.gp e g136 e (.gp e g136 e (.gp e g136 e (.gp e g136 e (.gp e g136 e ?_))))
   obtain ⟨y137,hy137,h⟩ := bindO h
   refine Ops.gs (s := 5336) e g136 (Ev.call [] [] 0 (sem_spec_l07Rise _ _ _ _ _ hy137) e e (.d2 (.d1 .nil)) e (.inl e) e e) e e (.z 5352 (.pkT e g136 e) e e (.p e (.askO (x := .t 20) e h (fun g138 h => ?_) (fun g138 h => ?_))))
   ·refine Ops.gp e g138 e (.gp e g138 e ?_)
    obtain ⟨y139,hy139,h⟩ := bindO h
    refine Ops.gs (s := 5416) e g138 (Ev.call [] [] 0 (sem_spec_l01In _ _ _ _ _ hy139) e e (.d2 (.d1 .nil)) e (.inl e) e e) e e (.z 5432 (.pkT e g138 e) e e (.p e (.askO (x := .t 25) e h (fun g140 h => ?_) (fun g140 h => ?_))))
    ·refine Ops.gp e g140 e (.gp e g140 e ?_)
     obtain ⟨y141,hy141,h⟩ := bindO h
     refine Ops.gs (s := 5496) e g140 (Ev.call [] [] 0 (sem_spec_l01In _ _ _ _ _ hy141) e e (.d2 (.d1 .nil)) e (.inl e) e e) e e (.z 5512 (.pkT e g140 e) e e (.p e (.askO (x := .t 30) e h (fun g142 h => ?_) (fun g142 h => ?_))))
     ·refine Ops.gp e g142 e (.gp e g142 e ?_)
      obtain ⟨y143,hy143,h⟩ := bindO h
      refine Ops.gs (s := 5576) e g142 (Ev.call [] [] 0 (sem_spec_ConfOk _ _ _ hy143) e e (.d1 .nil) e (.inl e) e e) e e (.z 5592 (.pkT e g142 e) e e (.p e (.nil (.ret ?_))))
      obtain rfl := someO h
      exact Ends.mkG (.inl e) e (gh_pk [0] [] hB e e e e) e e
     ·refine Ops.gn e g142 (.gn e g142 (.gn e g142 (.z 5592 (.pkF e g142 e) e e (.p e (.nil (.ret ?_))))))
      obtain rfl := someO h
      exact Ends.mkG (.inl e) e (gh_pk [0] [] hB e e e e) e e
    ·refine Ops.gn e g140 (.gn e g140 (.gn e g140 (.z 5512 (.pkF e g140 e) e e (.p e (.gn e e (.gn e e (.gn e e (.z 5592 (.pkF e e e) e e (.p e (.nil (.ret ?_)))))))))))
     obtain rfl := someO h
     exact Ends.mkG (.inl e) e (gh_pk [0] [] hB e e e e) e e
   ·refine Ops.gn e g138 (.gn e g138 (.gn e g138 (.z 5432 (.pkF e g138 e) e e (.p e (.gn e e (.gn e e (.gn e e (.z 5512 (.pkF e e e) e e (.p e (.gn e e (.gn e e (.gn e e (.z 5592 (.pkF e e e) e e (.p e (.nil (.ret ?_))))))))))))))))
    obtain rfl := someO h
    exact Ends.mkG (.inl e) e (gh_pk [0] [] hB e e e e) e e
  ·refine Ops.gn e g136 (.gn e g136 (.gn e g136 (.gn e g136 (.gn e g136 (.gn e g136 (.z 5352 (.pkF e g136 e) e e (.p e (.gn e e (.gn e e (.gn e e (.z 5432 (.pkF e e e) e e (.p e (.gn e e (.gn e e (.gn e e (.z 5512 (.pkF e e e) e e (.p e (.gn e e (.gn e e (.gn e e (.z 5592 (.pkF e e e) e e (.p e (.nil (.ret ?_))))))))))))))))))))))))
   obtain rfl := someO h
   exact Ends.mkG (.inl e) e (gh_pk [0] [] hB e e e e) e e
 ·refine Ops.gn e g134 (.gn e g134 (.gn e g134 (.z 5224 (.pkF e g134 e) e e (.p e (.gn e e (.gn e e (.gn e e (.gn e e (.gn e e (.gn e e (.z 5352 (.pkF e e e) e e (.p e (.gn e e (.gn e e (.gn e e (.z 5432 (.pkF e e e) e e (.p e (.gn e e (.gn e e (.gn e e (.z 5512 (.pkF e e e) e e (.p e (.gn e e (.gn e e (.gn e e (.z 5592 (.pkF e e e) e e (.p e (.nil (.ret ?_)))))))))))))))))))))))))))))
  obtain rfl := someO h
  exact Ends.mkG (.inl e) e (gh_pk [0] [] hB e e e e) e e
def spec_l01Var_l1 (N : Nat) : Nat → Int → (List Int) → Option (Int × (List Int))
 | 0,_,_ => none
 | m + 1,x188,x189 =>
 (if (decide (x188 > 127)) = true then
 (intD .rem .i64 x188 128).bind fun x212 =>
 (cat? x189 ([IntKind.wrap .u8 (w64 (x212 + 128))] : List Int)).bind fun x213 =>
 (intD .quo .i64 x188 128).bind fun x215 =>
 spec_l01Var_l1 N m x215 x213
 else
 some (x188,x189))
def spec_l01Var (N : Nat) (x1 : Int) : Option (ByteArray) :=
 joinP (fun (v187 : Int × (List Int)) =>
 (cat? v187.2 ([IntKind.wrap .u8 (v187.1)] : List Int)).bind fun x217 =>
 some (strOf x217)) fun j187 =>
 (spec_l01Var_l1 N N x1 ([] : List Int)).bind (fun v202 => j187 (v202.1,v202.2))
theorem sem_spec_l01Var (N : Nat) (x1 : Int) (r : ByteArray) (h : spec_l01Var N x1 = some r) : Says Tryz.prog 138 [VI x1] 0 [] (VS r) [] := by
 unfold spec_l01Var at h
 refine Says.of_norm e Tryz.call138 e fun B hB => ?_
 have hm : B.m ≤ 1000 := by omega
 refine Run.so hm (.p e (.nil (.so hm (.z 5096 (Ev.bsW (ys := ([] : List Int)) (f := encU) e .nil e e e e e) e e (.p e (.nil (.seqO h (fun v187 => [(0,VI v187.1),(3,.sl 0 5 0 v187.2.length)]) (fun (v187 : Int × (List Int)) => [(0,.vec 5 (v187.2.map encU))]) (fun h => ?_) (fun v187 h => ?_))))))))
 ·refine Run.block ?_
  obtain ⟨res202,h,hk202⟩ := bindO h
  refine Run.loop (n := N) (fun m202 fr σ => ∃ (x188 : Int),∃ (x189 : (List Int)),spec_l01Var_l1 N m202 x188 x189 = some res202 ∧ fr = [(0,VI x188),(3,.sl 0 5 0 x189.length)] ∧ σ = [(0,.vec 5 (x189.map encU))]) (gh_pk [0,3] [5096] hB e e e e) ⟨_,_,h,e,e⟩ ?_
  rintro m202 fr σ ⟨x188,x189,h,rfl,rfl⟩
  obtain _ | m202 := m202
  ·rw [spec_l01Var_l1] at h; cases h
  rw [spec_l01Var_l1] at h
  refine Run.seq (.so hm (.p2 e e (.nil (.condO e h (fun g205 h => ?_) (fun g205 h => ?_)))))
  ·refine Run.skip (.block (.so hm (.p2 e e ?_)))
   obtain ⟨x212,hx212,h⟩ := bindO h
   refine Ops.z 13320 (.bin e e hx212) e e (.p2 e e (.z 13368 (Ev.bsW (ys := ([IntKind.wrap .u8 (w64 (x212 + 128))] : List Int)) (f := encU) e (.d1 .nil) e e e e e) e e ?_))
   obtain ⟨x213,hx213,h⟩ := bindO h
   refine Ops.z 13384 (Ev.apW (f := encU) (ontoW e e e) (addsW e e e (fun _ => e)) e bt5 e hx213) e e (.p e (.nil (.ops hm (.p e ?_))))
   obtain ⟨x215,hx215,h⟩ := bindO h
   exact Ops.z 17400 (.bin e e hx215) e e (.p e (.nil (⟨m202,Nat.lt_succ_self m202,_,_,(gh_pk [0,3] [13384] hB e e e e),_,_,h,e,e⟩)))
  ·refine Run.exit ?_
   obtain rfl := someO h
   have h := hk202
   exact ⟨_,_,(gh_pk [0,3] [0] hB e e e e),_,h,e,e⟩
 ·refine Run.so hm (.p3 e e e (.z 21528 (Ev.bsW (ys := ([IntKind.wrap .u8 (v187.1)] : List Int)) (f := encU) e (.d1 .nil) e e e e e) e e ?_))
  obtain ⟨x217,hx217,h⟩ := bindO h
  refine Ops.z 21544 (Ev.apW (f := encU) (ontoW e e e) (addsW e e e (fun _ => e)) e bt5 e hx217) e e (.z 21560 (.sbC (addsW (f := encU) e e e (fun _ => e))) e e (.p e (.nil (.ret ?_))))
  obtain rfl := someO h
  exact Ends.mkG (.inl e) e (gh_pk [0] [] hB e e e e) e e
def spec_SumMore_l2 (N : Nat) : Nat → Int → Int → Option (Int)
 | 0,_,_ => none
 | m + 1,x1114,x1117 =>
 (if (decide (x1117 < 8)) = true then
 joinP (fun (v1158 : Int) =>
 spec_SumMore_l2 N m v1158 (w64 (x1117 + 1))) fun j1158 =>
 (intD .rem .u32 x1114 2).bind fun x1162 =>
 (intD .quo .u32 x1114 2).bind fun x1166 =>
 (if (x1162 == 1) = true then
 (intD .xor .u32 x1166 3558460437).bind fun x1169 =>
 j1158 x1169
 else
 j1158 x1166)
 else
 some x1114)
def spec_SumMore_l1 (N : Nat) (x2 : ByteArray) : Nat → Int → Int → Option (Int)
 | 0,_,_ => none
 | m + 1,x903,x905 =>
 (if (decide (x905 < (x2.size : Int))) = true then
 joinP (fun (v1105 : Int) =>
 spec_SumMore_l1 N x2 m v1105 (w64 (x905 + 1))) fun j1105 =>
 (sat? x2 x905).bind fun x1112 =>
 (intD .xor .u32 x903 (IntKind.wrap .u32 (x1112))).bind fun x1113 =>
 (spec_SumMore_l2 N N x1113 0).bind (fun v1143 => j1105 v1143)
 else
 some x903)
def spec_SumMore (N : Nat) (x1 : Int) (x2 : ByteArray) : Option (Int) :=
 joinP (fun (v902 : Int) =>
 some v902) fun j902 =>
 (spec_SumMore_l1 N x2 N x1 0).bind (fun v1037 => j902 v1037)
theorem sem_spec_SumMore (N : Nat) (x1 : Int) (x2 : ByteArray) (r : Int) (h : spec_SumMore N x1 x2 = some r) : Says Tryz.prog 198 [.c (.i .u32 x1),VS x2] 0 [] (.c (.i .u32 r)) [] := by
 unfold spec_SumMore at h
 refine Says.of_norm e Tryz.call198 e fun B hB => ?_
 have hm : B.m ≤ 1000 := by omega
 refine Run.so hm (.p e (.nil (.seqO h (fun v902 => [(0,.c (.i .u32 v902))]) (fun (v902 : Int) => []) (fun h => ?_) (fun v902 h => ?_))))
 ·refine Run.so hm (.p e (.nil (.block ?_)))
  obtain ⟨res1037,h,hk1037⟩ := bindO h
  refine Run.loop (n := N) (fun m1037 fr σ => ∃ (x903 : Int),∃ (x905 : Int),spec_SumMore_l1 N x2 m1037 x903 x905 = some res1037 ∧ fr = [(0,.c (.i .u32 x903)),(1,VS x2),(5,VI x905)] ∧ σ = []) (gh_pk [0,1,5] [] hB e e e e) ⟨_,_,h,e,e⟩ ?_
  rintro m1037 fr σ ⟨x903,x905,h,rfl,rfl⟩
  obtain _ | m1037 := m1037
  ·rw [spec_SumMore_l1] at h; cases h
  rw [spec_SumMore_l1] at h
  refine Run.seq (.so hm (.p3 e e e (.p e (.nil (.condO e h (fun g1040 h => ?_) (fun g1040 h => ?_))))))
  ·refine Run.skip (.seqO h (fun v1105 => [(0,.c (.i .u32 v1105)),(1,VS x2),(5,VI x905)]) (fun (v1105 : Int) => []) (fun h => ?_) (fun v1105 h => ?_))
   ·refine Run.block (.so hm (.p3 e e e ?_))
    obtain ⟨x1112,hx1112,h⟩ := bindO h
    refine Ops.z 17432 (Ev.ixS e e hx1112) e e (.p e ?_)
    obtain ⟨x1113,hx1113,h⟩ := bindO h
    refine Ops.z 17464 (.bin e e hx1113) e e (.p e (.nil (.so hm (.p e (.nil (.block ?_))))))
    obtain ⟨res1143,h,hk1143⟩ := bindO h
    refine Run.loop (n := N) (fun m1143 fr σ => ∃ (x1114 : Int),∃ (x1117 : Int),spec_SumMore_l2 N m1143 x1114 x1117 = some res1143 ∧ fr = [(0,.c (.i .u32 x1114)),(1,VS x2),(5,VI x905),(6,VI x1117)] ∧ σ = []) (gh_pk [0,1,5,6] [] hB e e e e) ⟨_,_,h,e,e⟩ ?_
    rintro m1143 fr σ ⟨x1114,x1117,h,rfl,rfl⟩
    obtain _ | m1143 := m1143
    ·rw [spec_SumMore_l2] at h; cases h
    rw [spec_SumMore_l2] at h
    refine Run.seq (.so hm (.p2 e e (.nil (.condO e h (fun g1146 h => ?_) (fun g1146 h => ?_)))))
    ·refine Run.skip (.seqO h (fun v1158 => [(0,.c (.i .u32 v1158)),(1,VS x2),(5,VI x905),(6,VI x1117)]) (fun (v1158 : Int) => []) (fun h => ?_) (fun v1158 h => ?_))
     ·refine Run.block (.so hm (.p e ?_))
      obtain ⟨x1162,hx1162,h⟩ := bindO h
      refine Ops.z 33784 (.bin e e hx1162) e e (.p2 e e (.nil (.so hm (.p e ?_))))
      obtain ⟨x1166,hx1166,h⟩ := bindO h
      refine Ops.z 37880 (.bin e e hx1166) e e (.p e (.nil (.so hm (.p e (.nil (.condO e h (fun g1167 h => ?_) (fun g1167 h => ?_)))))))
      ·refine Run.ops hm (.p e ?_)
       obtain ⟨x1169,hx1169,h⟩ := bindO h
       exact Ops.z 46072 (.bin e e hx1169) e e (.p e (.nil (⟨_,_,(gh_pk [0,1,5,6] [] hB e e e e),_,h,e,e⟩)))
      ·exact Run.skip (⟨_,_,(gh_pk [0,1,5,6] [] hB e e e e),_,h,e,e⟩)
     ·exact Run.ops hm (.p3 e e e (.nil (⟨m1143,Nat.lt_succ_self m1143,_,_,(gh_pk [0,1,5,6] [] hB e e e e),_,_,h,e,e⟩)))
    ·refine Run.exit ?_
     obtain rfl := someO h
     have h := hk1143
     exact ⟨_,_,(gh_pk [0,1,5] [] hB e e e e),_,h,e,e⟩
   ·exact Run.ops hm (.p3 e e e (.nil (⟨m1037,Nat.lt_succ_self m1037,_,_,(gh_pk [0,1,5] [] hB e e e e),_,_,h,e,e⟩)))
  ·refine Run.exit ?_
   obtain rfl := someO h
   have h := hk1037
   exact ⟨_,_,(gh_pk [0] [] hB e e e e),_,h,e,e⟩
 ·refine Run.so hm (.p2 e e (.nil (.ret ?_)))
  obtain rfl := someO h
  exact Ends.mkG (.inl e) e (gh_pk [0] [] hB e e e e) e e
def spec_SumOf (N : Nat) (x1 : ByteArray) : Option (Int) :=
 (spec_SumMore N 4294967295 x1).bind fun y103 =>
 some y103
theorem sem_spec_SumOf (N : Nat) (x1 : ByteArray) (r : Int) (h : spec_SumOf N x1 = some r) : Says Tryz.prog 151 [VS x1] 0 [] (.c (.i .u32 r)) [] := by
 unfold spec_SumOf at h
 refine Says.of_norm e Tryz.call151 e fun B hB => ?_
 have hm : B.m ≤ 1000 := by omega
 refine Run.so hm (.p e (.nil (.so hm (.p e ?_))))
 obtain ⟨y103,hy103,h⟩ := bindO h
 refine Ops.z 5112 (Ev.call [] [] 0 (sem_spec_SumMore _ _ _ _ hy103) e e (.d2 .nil) e (.inl e) e e) e e (.p e (.nil (.ret ?_)))
 obtain rfl := someO h
 exact Ends.mkG (.inl e) e (gh_pk [0] [] hB e e e e) e e
def spec_l02Four (N : Nat) (x1 : Int) : Option (ByteArray) :=
 (intSh .shr .u32 x1 24).bind fun x109 =>
 (intSh .shr .u32 x1 16).bind fun x110 =>
 (intSh .shr .u32 x1 8).bind fun x111 =>
 some (strOf ([IntKind.wrap .u8 (x109),IntKind.wrap .u8 (x110),IntKind.wrap .u8 (x111),IntKind.wrap .u8 (x1)] : List Int))
theorem sem_spec_l02Four (N : Nat) (x1 : Int) (r : ByteArray) (h : spec_l02Four N x1 = some r) : Says Tryz.prog 150 [.c (.i .u32 x1)] 0 [] (VS r) [] := by
 unfold spec_l02Four at h
 refine Says.of_norm e Tryz.call150 e fun B hB => ?_
 have hm : B.m ≤ 1000 := by omega
 refine Run.so hm (.p e (.nil (.so hm (.p e ?_))))
 obtain ⟨x109,hx109,h⟩ := bindO h
 refine Ops.z 5112 (.sh e e hx109) e e (.p2 e e ?_)
 obtain ⟨x110,hx110,h⟩ := bindO h
 refine Ops.z 5160 (.sh e e hx110) e e (.p2 e e ?_)
 obtain ⟨x111,hx111,h⟩ := bindO h
 refine Ops.z 5208 (.sh e e hx111) e e (.p3 e e e (.z 5272 (Ev.bsW (ys := ([IntKind.wrap .u8 (x109),IntKind.wrap .u8 (x110),IntKind.wrap .u8 (x111),IntKind.wrap .u8 (x1)] : List Int)) (f := encU) e (.d4 .nil) e e e e e) e e (.z 5288 (.sbC (addsW (f := encU) e e e (fun _ => e))) e e (.p e (.nil (.ret ?_))))))
 obtain rfl := someO h
 exact Ends.mkG (.inl e) e (gh_pk [0] [] hB e e e e) e e
def spec_Sealed (N : Nat) (x1 : ByteArray) : Option (ByteArray × Bool) :=
 (if (decide ((x1.size : Int) > 20000)) = true then
 some ((⟨#[]⟩ : ByteArray),false)
 else
 (spec_SumOf N x1).bind fun y113 =>
 (spec_l02Four N y113).bind fun y114 =>
 (scat? x1 y114).bind fun x115 =>
 some (x115,true))
theorem sem_spec_Sealed (N : Nat) (x1 : ByteArray) (r : ByteArray × Bool) (h : spec_Sealed N x1 = some r) : Says Tryz.prog 139 [VS x1] 0 [] (.tup [VS r.1,VB r.2]) [] := by
 unfold spec_Sealed at h
 refine Says.of_norm e Tryz.call139 e fun B hB => ?_
 have hm : B.m ≤ 1000 := by omega
 refine Run.so hm (.p2 e e (.nil (.seq (.so hm (.p3 e e e (.nil (.condO e h (fun g109 h => ?_) (fun g109 h => ?_))))))))
 ·refine Run.so hm (.p2 e e (.nil (.ret ?_)))
  obtain rfl := someO h
  exact Ends.mkG (.inl e) e (gh_pk [0,1] [] hB e e e e) e e
 ·refine Run.skip (.so hm (.p2 e e ?_))
  obtain ⟨y113,hy113,h⟩ := bindO h
  refine Ops.z 13320 (Ev.call [] [] 0 (sem_spec_SumOf _ _ _ hy113) e e (.d1 .nil) e (.inl e) e e) e e ?_
  obtain ⟨y114,hy114,h⟩ := bindO h
  refine Ops.z 13336 (Ev.call [] [] 0 (sem_spec_l02Four _ _ _ hy114) e e (.d1 .nil) e (.inl e) e e) e e ?_
  obtain ⟨x115,hx115,h⟩ := bindO h
  refine Ops.z 13352 (Ev.addS e e hx115) e e (.p2 e e (.nil (.ret ?_)))
  obtain rfl := someO h
  exact Ends.mkG (.inl e) e (gh_pk [0,1] [] hB e e e e) e e
def spec_ManifestText_l1 (N : Nat) (x1 : Manifest) : Nat → ByteArray → Int → Option (ByteArray)
 | 0,_,_ => none
 | m + 1,x342,x343 =>
 (if (decide (x343 < (x1.Segs.length : Int))) = true then
 (at? x1.Segs x343).bind fun x376 =>
 (spec_l01Var N x376).bind fun y377 =>
 (scat? x342 y377).bind fun x378 =>
 spec_ManifestText_l1 N x1 m x378 (w64 (x343 + 1))
 else
 some x342)
def spec_ManifestText_l1_r (N : Nat) (x1 : Manifest) : (List Int) → ByteArray → Int → Option (ByteArray)
 | [],x342,x343 =>
 some x342
 | hd :: tl,x342,x343 =>
 (some hd).bind fun x376 =>
 (spec_l01Var N x376).bind fun y377 =>
 (scat? x342 y377).bind fun x378 =>
 spec_ManifestText_l1_r N x1 tl x378 (w64 (x343 + 1))
theorem spec_ManifestText_l1_rng (N : Nat) (x1 : Manifest) (hx : x1.Segs.length ≤ 1099511627776) : ∀ (d k m : Nat) (x342 : ByteArray),x1.Segs.length = k + d → d < m → spec_ManifestText_l1 N x1 m x342 (k : Int) = spec_ManifestText_l1_r N x1 (x1.Segs.drop k) x342 (k : Int) := by
 intro d
 induction d with
 | zero =>
  intro k m x342 hd hm
  obtain ⟨m,rfl⟩ : ∃ q,m = q + 1 := ⟨m - 1,by omega⟩
  rw [spec_ManifestText_l1,if_neg (by simp; omega),List.drop_eq_nil_of_le (by omega),spec_ManifestText_l1_r]
 | succ d ih =>
  intro k m x342 hd hm
  obtain ⟨m,rfl⟩ : ∃ q,m = q + 1 := ⟨m - 1,by omega⟩
  have hk : k < x1.Segs.length := by omega
  rw [spec_ManifestText_l1,if_pos (by simp; omega),List.drop_eq_getElem_cons hk,spec_ManifestText_l1_r]
  have h1 := at_lt hk
  have h2 := w64_succ (k := k) (by omega)
  have h3 := ih (k + 1) m
  simp only [h1,h2,h3 _ (by omega) (by omega)]
theorem spec_ManifestText_l1_eq {N : Nat} (x1 : Manifest) (hx : x1.Segs.length ≤ 1099511627776) (hN : x1.Segs.length < N) (x342 : ByteArray) : spec_ManifestText_l1 N x1 N x342 0 = spec_ManifestText_l1_r N x1 x1.Segs x342 0 := spec_ManifestText_l1_rng N x1 hx x1.Segs.length 0 N x342 (by omega) hN
def spec_ManifestText_l2 (N : Nat) (x1 : Manifest) : Nat → ByteArray → Int → Option (ByteArray)
 | 0,_,_ => none
 | m + 1,x449,x450 =>
 (if (decide (x450 < (x1.Conf.length : Int))) = true then
 (at? x1.Conf x450).bind fun x483 =>
 (spec_l01Var N x483).bind fun y484 =>
 (scat? x449 y484).bind fun x485 =>
 spec_ManifestText_l2 N x1 m x485 (w64 (x450 + 1))
 else
 some x449)
def spec_ManifestText_l2_r (N : Nat) (x1 : Manifest) : (List Int) → ByteArray → Int → Option (ByteArray)
 | [],x449,x450 =>
 some x449
 | hd :: tl,x449,x450 =>
 (some hd).bind fun x483 =>
 (spec_l01Var N x483).bind fun y484 =>
 (scat? x449 y484).bind fun x485 =>
 spec_ManifestText_l2_r N x1 tl x485 (w64 (x450 + 1))
theorem spec_ManifestText_l2_rng (N : Nat) (x1 : Manifest) (hx : x1.Conf.length ≤ 1099511627776) : ∀ (d k m : Nat) (x449 : ByteArray),x1.Conf.length = k + d → d < m → spec_ManifestText_l2 N x1 m x449 (k : Int) = spec_ManifestText_l2_r N x1 (x1.Conf.drop k) x449 (k : Int) := by
 intro d
 induction d with
 | zero =>
  intro k m x449 hd hm
  obtain ⟨m,rfl⟩ : ∃ q,m = q + 1 := ⟨m - 1,by omega⟩
  rw [spec_ManifestText_l2,if_neg (by simp; omega),List.drop_eq_nil_of_le (by omega),spec_ManifestText_l2_r]
 | succ d ih =>
  intro k m x449 hd hm
  obtain ⟨m,rfl⟩ : ∃ q,m = q + 1 := ⟨m - 1,by omega⟩
  have hk : k < x1.Conf.length := by omega
  rw [spec_ManifestText_l2,if_pos (by simp; omega),List.drop_eq_getElem_cons hk,spec_ManifestText_l2_r]
  have h1 := at_lt hk
  have h2 := w64_succ (k := k) (by omega)
  have h3 := ih (k + 1) m
  simp only [h1,h2,h3 _ (by omega) (by omega)]
theorem spec_ManifestText_l2_eq {N : Nat} (x1 : Manifest) (hx : x1.Conf.length ≤ 1099511627776) (hN : x1.Conf.length < N) (x449 : ByteArray) : spec_ManifestText_l2 N x1 N x449 0 = spec_ManifestText_l2_r N x1 x1.Conf x449 0 := spec_ManifestText_l2_rng N x1 hx x1.Conf.length 0 N x449 (by omega) hN
def spec_ManifestText (N : Nat) (x1 : Manifest) : Option (ByteArray × Bool) :=
 (spec_ManifestOk N x1).bind fun y298 =>
 (if (!y298) = true then
 some ((⟨#[]⟩ : ByteArray),false)
 else
 (spec_l01Var N (x1.Segs.length : Int)).bind fun y303 =>
 joinP (fun (v341 : ByteArray) =>
 (spec_l01Var N x1.Next).bind fun y403 =>
 (scat? v341 y403).bind fun x404 =>
 (spec_l01Var N x1.Base).bind fun y405 =>
 (scat? x404 y405).bind fun x406 =>
 (spec_l01Var N x1.BaseTerm).bind fun y407 =>
 (scat? x406 y407).bind fun x408 =>
 (spec_l01Var N (x1.Conf.length : Int)).bind fun y409 =>
 (scat? x408 y409).bind fun x410 =>
 joinP (fun (v448 : ByteArray) =>
 (spec_Sealed N v448).bind fun y487 =>
 some (y487.1,y487.2)) fun j448 =>
 (spec_ManifestText_l2 N x1 N x410 0).bind (fun v470 => j448 v470)) fun j341 =>
 (spec_ManifestText_l1 N x1 N y303 0).bind (fun v363 => j341 v363))
theorem sem_spec_ManifestText (N : Nat) (x1 : Manifest) (r : ByteArray × Bool) (h : spec_ManifestText N x1 = some r) : Says Tryz.prog 79 [.agg [RO 3 (x1.Segs.map encI),VI x1.Next,VI x1.Base,VI x1.BaseTerm,RO 3 (x1.Conf.map encI)]] 0 [] (.tup [VS r.1,VB r.2]) [] := by
 unfold spec_ManifestText at h
 refine Says.of_norm e Tryz.call79 e fun B hB => ?_
 have hm : B.m ≤ 1000 := by omega
 refine Run.so hm (.z 1000 (.bx e e) e e (.p2 e e (.nil (.seq (.so hm (.p e ?_))))))
 obtain ⟨y298,hy298,h⟩ := bindO h
 refine Ops.z 5112 (Ev.call [] [] 0 (sem_spec_ManifestOk _ _ _ hy298) e e (.cons (.agg (.d4 (.d1 .nil))) .nil) e (.inl e) e e) e e (.p e (.nil (.condO e h (fun g299 h => ?_) (fun g299 h => ?_))))
 ·refine Run.so hm (.p2 e e (.nil (.ret ?_)))
  obtain rfl := someO h
  exact Ends.mkG (.inl e) e (gh_pk [0,1] [] hB e e e e) e e
 ·refine Run.skip (.so hm (.p2 e e (.z 13320 (Ev.lnF e) e e ?_)))
  obtain ⟨y303,hy303,h⟩ := bindO h
  refine Ops.z 13336 (Ev.call [] [] 0 (sem_spec_l01Var _ _ _ hy303) e e (.d1 .nil) e (.inl e) e e) e e (.p e (.nil (.seqO h (fun v341 => [(1,.ptr 0 0),(4,VS v341)]) (fun (v341 : ByteArray) => [(0,.box [RO 3 (x1.Segs.map encI),VI x1.Next,VI x1.Base,VI x1.BaseTerm,RO 3 (x1.Conf.map encI)])]) (fun h => ?_) (fun v341 h => ?_))))
  ·refine Run.so hm (.p e (.nil (.block ?_)))
   obtain ⟨res363,h,hk363⟩ := bindO h
   refine Run.loop (n := N) (fun m363 fr σ => ∃ (x342 : ByteArray),∃ (x343 : Int),spec_ManifestText_l1 N x1 m363 x342 x343 = some res363 ∧ fr = [(1,.ptr 0 0),(4,VS x342),(5,VI x343)] ∧ σ = [(0,.box [RO 3 (x1.Segs.map encI),VI x1.Next,VI x1.Base,VI x1.BaseTerm,RO 3 (x1.Conf.map encI)])]) (gh_pk [1,4,5] [1000] hB e e e e) ⟨_,_,h,e,e⟩ ?_
   rintro m363 fr σ ⟨x342,x343,h,rfl,rfl⟩
   obtain _ | m363 := m363
   ·rw [spec_ManifestText_l1] at h; cases h
   rw [spec_ManifestText_l1] at h
   refine Run.seq (.so hm (.p3 e e e (.z 21528 (Ev.lnF e) e e (.p e (.nil (.condO e h (fun g366 h => ?_) (fun g366 h => ?_)))))))
   ·refine Run.skip (.seq (.block (.ops hm (.p3 e e e (.p e ?_)))))
    obtain ⟨x376,hx376,h⟩ := bindO h
    refine Ops.z 29736 (Ev.iaF e e hx376) e e (.p e ?_)
    obtain ⟨y377,hy377,h⟩ := bindO h
    refine Ops.z 29768 (Ev.call [] [] 0 (sem_spec_l01Var _ _ _ hy377) e e (.d1 .nil) e (.inl e) e e) e e ?_
    obtain ⟨x378,hx378,h⟩ := bindO h
    exact Ops.z 29784 (Ev.addS e e hx378) e e (.p e (.nil (.ops hm (.p3 e e e (.nil (⟨m363,Nat.lt_succ_self m363,_,_,(gh_pk [1,4,5] [0] hB e e e e),_,_,h,e,e⟩))))))
   ·refine Run.exit ?_
    obtain rfl := someO h
    have h := hk363
    exact ⟨_,_,(gh_pk [1,4] [0] hB e e e e),_,h,e,e⟩
  ·refine Run.seq (.draw hm hmix (.p e (.p e (.p e ?_))))
   obtain ⟨y403,hy403,h⟩ := bindO h
   refine OpsD.z 33816 (Ev.call [] [] 0 (sem_spec_l01Var _ _ _ hy403) e e (.d1 .nil) e (.inl e) e e) e e ?_
   obtain ⟨x404,hx404,h⟩ := bindO h
   refine OpsD.z 33832 (Ev.addS e e hx404) e e (.p e (.p e ?_))
   obtain ⟨y405,hy405,h⟩ := bindO h
   refine OpsD.z 33880 (Ev.call [] [] 0 (sem_spec_l01Var _ _ _ hy405) e e (.d1 .nil) e (.inl e) e e) e e ?_
   obtain ⟨x406,hx406,h⟩ := bindO h
   refine OpsD.z 33896 (Ev.addS e e hx406) e e (.p e (.p e ?_))
   obtain ⟨y407,hy407,h⟩ := bindO h
   refine OpsD.z 33944 (Ev.call [] [] 0 (sem_spec_l01Var _ _ _ hy407) e e (.d1 .nil) e (.inl e) e e) e e ?_
   obtain ⟨x408,hx408,h⟩ := bindO h
   refine OpsD.z 33960 (Ev.addS e e hx408) e e (.p e (.p e (.z 34008 (Ev.lnF e) e e ?_)))
   obtain ⟨y409,hy409,h⟩ := bindO h
   refine OpsD.z 34024 (Ev.call [] [] 0 (sem_spec_l01Var _ _ _ hy409) e e (.d1 .nil) e (.inl e) e e) e e ?_
   obtain ⟨x410,hx410,h⟩ := bindO h
   refine OpsD.z 34040 (Ev.addS e e hx410) e e (.p e (.nil ⟨by kernel_rfl,?_⟩))
   refine Run.seqO h (fun v448 => [(4,VS v448)]) (fun (v448 : ByteArray) => []) (fun h => ?_) (fun v448 h => ?_)
   ·refine Run.so hm (.p e (.nil (.block ?_)))
    obtain ⟨res470,h,hk470⟩ := bindO h
    refine Run.loop (n := N) (fun m470 fr σ => ∃ (x449 : ByteArray),∃ (x450 : Int),spec_ManifestText_l2 N x1 m470 x449 x450 = some res470 ∧ fr = [(1,.ptr 0 0),(4,VS x449),(6,VI x450)] ∧ σ = [(0,.box [RO 3 (x1.Segs.map encI),VI x1.Next,VI x1.Base,VI x1.BaseTerm,RO 3 (x1.Conf.map encI)])]) (gh_pk [1,4,6] [0] hB e e e e) ⟨_,_,h,e,e⟩ ?_
    rintro m470 fr σ ⟨x449,x450,h,rfl,rfl⟩
    obtain _ | m470 := m470
    ·rw [spec_ManifestText_l2] at h; cases h
    rw [spec_ManifestText_l2] at h
    refine Run.seq (.so hm (.p3 e e e (.z 42008 (Ev.lnF e) e e (.p e (.nil (.condO e h (fun g473 h => ?_) (fun g473 h => ?_)))))))
    ·refine Run.skip (.seq (.block (.ops hm (.p3 e e e (.p e ?_)))))
     obtain ⟨x483,hx483,h⟩ := bindO h
     refine Ops.z 50216 (Ev.iaF e e hx483) e e (.p e ?_)
     obtain ⟨y484,hy484,h⟩ := bindO h
     refine Ops.z 50248 (Ev.call [] [] 0 (sem_spec_l01Var _ _ _ hy484) e e (.d1 .nil) e (.inl e) e e) e e ?_
     obtain ⟨x485,hx485,h⟩ := bindO h
     exact Ops.z 50264 (Ev.addS e e hx485) e e (.p e (.nil (.ops hm (.p3 e e e (.nil (⟨m470,Nat.lt_succ_self m470,_,_,(gh_pk [1,4,6] [0] hB e e e e),_,_,h,e,e⟩))))))
    ·refine Run.exit ?_
     obtain rfl := someO h
     have h := hk470
     exact ⟨_,_,(gh_pk [4] [] hB e e e e),_,h,e,e⟩
   ·refine Run.so hm (.p e ?_)
    obtain ⟨y487,hy487,h⟩ := bindO h
    refine Ops.z 54264 (Ev.call [] [] 0 (sem_spec_Sealed _ _ _ hy487) e e (.d1 .nil) e (.inl e) e e) e e (.p3 e e e (.p e (.nil (.ret ?_))))
    obtain rfl := someO h
    exact Ends.mkG (.inl e) e (gh_pk [0,1] [] hB e e e e) e e
def spec_l01Figure (N : Nat) (x1 : Int) : Option (Int) :=
 (if (decide (x1 < 10)) = true then
 some (IntKind.wrap .u8 (w64 (48 + x1)))
 else
 some (IntKind.wrap .u8 (w64 ((w64 (97 + x1)) - 10))))
theorem sem_spec_l01Figure (N : Nat) (x1 : Int) (r : Int) (h : spec_l01Figure N x1 = some r) : Says Tryz.prog 192 [VI x1] 0 [] (.c (.i .u8 r)) [] := by
 unfold spec_l01Figure at h
 refine Says.of_norm e Tryz.call192 e fun B hB => ?_
 have hm : B.m ≤ 1000 := by omega
 refine Run.so hm (.p e (.nil (.seq (.so hm (.p2 e e (.nil (.condO e h (fun g103 h => ?_) (fun g103 h => ?_))))))))
 ·refine Run.so hm (.p3 e e e (.p e (.nil (.ret ?_))))
  obtain rfl := someO h
  exact Ends.mkG (.inl e) e (gh_pk [0] [] hB e e e e) e e
 ·refine Run.skip (.so hm (.p3 e e e (.p2 e e (.nil (.ret ?_)))))
  obtain rfl := someO h
  exact Ends.mkG (.inl e) e (gh_pk [0] [] hB e e e e) e e
def spec_Decimal_l1 (N : Nat) : Nat → Int → ByteArray → Option (ByteArray)
 | 0,_,_ => none
 | m + 1,x241,x243 =>
 (if (x241 != 0) = true then
 (intD .rem .i64 x241 10).bind fun x270 =>
 joinP (fun (v272 : Int) =>
 (spec_l01Figure N v272).bind fun y280 =>
 (scat? (strOf ([y280] : List Int)) x243).bind fun x281 =>
 (intD .quo .i64 x241 10).bind fun x283 =>
 spec_Decimal_l1 N m x283 x281) fun j272 =>
 (if (decide (x270 < 0)) = true then
 j272 (w64 ((-x270)))
 else
 j272 x270)
 else
 some x243)
def spec_Decimal (N : Nat) (x1 : Int) : Option (ByteArray) :=
 (if (x1 == 0) = true then
 some (⟨#[48]⟩ : ByteArray)
 else
 joinP (fun (v240 : ByteArray) =>
 (if (decide (x1 < 0)) = true then
 (scat? (⟨#[45]⟩ : ByteArray) v240).bind fun x289 =>
 some x289
 else
 some v240)) fun j240 =>
 (spec_Decimal_l1 N N x1 (⟨#[]⟩ : ByteArray)).bind (fun v263 => j240 v263))
theorem sem_spec_Decimal (N : Nat) (x1 : Int) (r : ByteArray) (h : spec_Decimal N x1 = some r) : Says Tryz.prog 140 [VI x1] 0 [] (VS r) [] := by
 unfold spec_Decimal at h
 refine Says.of_norm e Tryz.call140 e fun B hB => ?_
 have hm : B.m ≤ 1000 := by omega
 refine Run.so hm (.p e (.nil (.seq (.so hm (.p2 e e (.nil (.condO e h (fun g196 h => ?_) (fun g196 h => ?_))))))))
 ·refine Run.so hm (.p e (.nil (.ret ?_)))
  obtain rfl := someO h
  exact Ends.mkG (.inl e) e (gh_pk [0] [] hB e e e e) e e
 ·refine Run.skip (.so hm (.p3 e e e (.nil (.so hm (.p e (.nil (.seqO h (fun v240 => [(3,VB (decide (x1 < 0))),(4,VS v240)]) (fun (v240 : ByteArray) => []) (fun h => ?_) (fun v240 h => ?_))))))))
  ·refine Run.block ?_
   obtain ⟨res263,h,hk263⟩ := bindO h
   refine Run.loop (n := N) (fun m263 fr σ => ∃ (x241 : Int),∃ (x243 : ByteArray),spec_Decimal_l1 N m263 x241 x243 = some res263 ∧ fr = [(0,VI x241),(3,VB (decide (x1 < 0))),(4,VS x243)] ∧ σ = []) (gh_pk [0,3,4] [] hB e e e e) ⟨_,_,h,e,e⟩ ?_
   rintro m263 fr σ ⟨x241,x243,h,rfl,rfl⟩
   obtain _ | m263 := m263
   ·rw [spec_Decimal_l1] at h; cases h
   rw [spec_Decimal_l1] at h
   refine Run.seq (.so hm (.p2 e e (.nil (.condO e h (fun g266 h => ?_) (fun g266 h => ?_)))))
   ·refine Run.skip (.block (.so hm (.p e ?_)))
    obtain ⟨x270,hx270,h⟩ := bindO h
    refine Ops.z 25592 (.bin e e hx270) e e (.p e (.nil (.seqO h (fun v272 => [(0,VI x241),(3,VB (decide (x1 < 0))),(4,VS x243),(5,VI v272)]) (fun (v272 : Int) => []) (fun h => ?_) (fun v272 h => ?_))))
    ·refine Run.so hm (.p2 e e (.nil (.condO e h (fun g273 h => ?_) (fun g273 h => ?_))))
     ·exact Run.ops hm (.p3 e e e (.nil (⟨_,_,(gh_pk [0,3,4,5] [] hB e e e e),_,h,e,e⟩)))
     ·exact Run.skip (⟨_,_,(gh_pk [0,3,4,5] [] hB e e e e),_,h,e,e⟩)
    ·refine Run.so hm (.p e ?_)
     obtain ⟨y280,hy280,h⟩ := bindO h
     refine Ops.z 37880 (Ev.call [] [] 0 (sem_spec_l01Figure _ _ _ hy280) e e (.d1 .nil) e (.inl e) e e) e e (.z 37896 (Ev.bsW (ys := ([y280] : List Int)) (f := encU) e (.d1 .nil) e e e e e) e e (.z 37912 (.sbC (addsW (f := encU) e e e (fun _ => e))) e e (.p e ?_)))
     obtain ⟨x281,hx281,h⟩ := bindO h
     refine Ops.z 37944 (Ev.addS e e hx281) e e (.p e (.nil (.ops hm (.p e ?_))))
     obtain ⟨x283,hx283,h⟩ := bindO h
     exact Ops.z 41976 (.bin e e hx283) e e (.p e (.nil (⟨m263,Nat.lt_succ_self m263,_,_,(gh_pk [0,3,4] [] hB e e e e),_,_,h,e,e⟩)))
   ·refine Run.exit ?_
    obtain rfl := someO h
    have h := hk263
    exact ⟨_,_,(gh_pk [3,4] [] hB e e e e),_,h,e,e⟩
  ·refine Run.seq (.so hm (.p e (.nil (.condO e h (fun g287 h => ?_) (fun g287 h => ?_)))))
   ·refine Run.so hm (.p e ?_)
    obtain ⟨x289,hx289,h⟩ := bindO h
    refine Ops.z 50168 (Ev.addS e e hx289) e e (.p e (.nil (.ret ?_)))
    obtain rfl := someO h
    exact Ends.mkG (.inl e) e (gh_pk [0] [] hB e e e e) e e
   ·refine Run.skip (.so hm (.p2 e e (.nil (.ret ?_))))
    obtain rfl := someO h
    exact Ends.mkG (.inl e) e (gh_pk [0] [] hB e e e e) e e
def spec_SegName (N : Nat) (x1 : Int) : Option (ByteArray) :=
 (spec_l01In N x1 0 999).bind fun y114 =>
 (if (!y114) = true then
 some (⟨#[]⟩ : ByteArray)
 else
 (spec_Decimal N x1).bind fun y118 =>
 (scat? (⟨#[103]⟩ : ByteArray) y118).bind fun x119 =>
 some x119)
theorem sem_spec_SegName (N : Nat) (x1 : Int) (r : ByteArray) (h : spec_SegName N x1 = some r) : Says Tryz.prog 80 [VI x1] 0 [] (VS r) [] := by
 unfold spec_SegName at h
 refine Says.of_norm e Tryz.call80 e fun B hB => ?_
 have hm : B.m ≤ 1000 := by omega
 refine Run.so hm (.p e (.nil (.seq (.so hm (.p e ?_)))))
 obtain ⟨y114,hy114,h⟩ := bindO h
 refine Ops.z 5112 (Ev.call [] [] 0 (sem_spec_l01In _ _ _ _ _ hy114) e e (.d2 (.d1 .nil)) e (.inl e) e e) e e (.p e (.nil (.condO e h (fun g115 h => ?_) (fun g115 h => ?_))))
 ·refine Run.so hm (.p e (.nil (.ret ?_)))
  obtain rfl := someO h
  exact Ends.mkG (.inl e) e (gh_pk [0] [] hB e e e e) e e
 ·refine Run.skip (.so hm (.p e ?_))
  obtain ⟨y118,hy118,h⟩ := bindO h
  refine Ops.z 13304 (Ev.call [] [] 0 (sem_spec_Decimal _ _ _ hy118) e e (.d1 .nil) e (.inl e) e e) e e ?_
  obtain ⟨x119,hx119,h⟩ := bindO h
  refine Ops.z 13320 (Ev.addS e e hx119) e e (.p e (.nil (.ret ?_)))
  obtain rfl := someO h
  exact Ends.mkG (.inl e) e (gh_pk [0] [] hB e e e e) e e
def spec_FormatShelf (N : Nat) (x1 : (List Int)) : Option (Disk × Bool) :=
 (spec_ManifestText N (Manifest.mk ([0] : List Int) 1 0 0 x1)).bind fun y111 =>
 (if (!y111.2) = true then
 some ((Disk.mk ([])),false)
 else
 (spec_SegName N 0).bind fun y115 =>
 some ((Disk.mk ([(File.mk y115 (⟨#[]⟩ : ByteArray)),(File.mk (⟨#[109]⟩ : ByteArray) y111.1)] : List File)),true))
theorem sem_spec_FormatShelf (N : Nat) (x1 : (List Int)) (r : Disk × Bool) (h : spec_FormatShelf N x1 = some r) : Says Tryz.prog 39 [RO 3 (x1.map encI)] 0 [] (.tup [.agg [.sl 0 80 0 r.1.Files.length],VB r.2]) [(0,.vec 80 (r.1.Files.map encFile))] := by
 unfold spec_FormatShelf at h
 refine Says.of_norm e Tryz.call39 e fun B hB => ?_
 have hm : B.m ≤ 1000 := by omega
 refine Run.so hm (.z 1000 (.al e e) e e (.p e (.nil (.so hm (.z 5096 (Ev.bsW (ys := ([0] : List Int)) (f := encI) e (.d1 .nil) e e e e e) e e (.p e (.z 5128 (.bd e e) e e ?_)))))))
 obtain ⟨y111,hy111,h⟩ := bindO h
 refine Ops.z 5144 (Ev.call [] [5096] 0 (sem_spec_ManifestText _ _ _ hy111) e e (.cons (.agg (.cons (.borrow e (by decide) (lendW (fun _ => e) _ e)) (.d4 .nil))) .nil) e (.inr ⟨e,ownL_root trivial⟩) e e) e e ?_
 refine Ops.p e (.p3 e e e (.p e (.nil (.seq (.so hm (.p2 e e (.nil (.condO e h (fun g113 h => ?_) (fun g113 h => ?_)))))))))
 ·refine Run.so hm (.z 13288 (.bd e e) e e (.y 13304 (.sto e e e e e e) e e (.p e (.nil (.ret ?_)))))
  obtain rfl := someO h
  exact Ends.mkG (.inl e) e (Gh.trans (Gh.trans (gh_prn [0,1] [] hB e) (gh_nil [0] [] hB e e e)) (gh_pk [0,1] [10000000] hB e e e e)) e e
 ·refine Run.skip (.so hm ?_)
  obtain ⟨y115,hy115,h⟩ := bindO h
  refine Ops.z 17384 (Ev.call [] [] 0 (sem_spec_SegName _ _ _ hy115) e e (.d1 .nil) e (.inl e) e e) e e (.z 17400 (.bd e e) e e (.p e (.z 17432 (.bd e e) e e (.z 17448 (Ev.bsW (ys := ([(File.mk y115 (⟨#[]⟩ : ByteArray)),(File.mk (⟨#[109]⟩ : ByteArray) y111.1)] : List File)) (f := encFile) e (.d4 .nil) e e e e e) e e (.z 17464 (.bd e e) e e (.y 17480 (.sto e e e e e e) e e (.p e (.nil (.ret ?_)))))))))
  obtain rfl := someO h
  exact Ends.mkG (.inl e) e (gh_pk [0,1] [17448] hB e e e e) e e
def spec_LogOk_l1 (N : Nat) (x1 : Log) : Nat → Option (Unit)
 | 0 => none
 | m + 1 =>
 (if (decide (0 < (x1.Entries.length : Int))) = true then
 none
 else
 some ())
def spec_LogOk (N : Nat) (x1 : Log) : Option (Bool) :=
 (spec_l01In N x1.Start 0 100000).bind fun y159 =>
 (if (!y159) = true then
 some false
 else
 (spec_l01In N x1.StartTerm 0 100000).bind fun y161 =>
 (if (!y161) = true then
 some false
 else
 (if (decide ((x1.Entries.length : Int) > 120)) = true then
 some false
 else
 (if (decide ((w64 (x1.Start + (x1.Entries.length : Int))) > 100000)) = true then
 some false
 else
 joinP (fun (v175 : Unit) =>
 some true) fun j175 =>
 (spec_LogOk_l1 N x1 N).bind (fun v182 => j175 ())))))
theorem sem_spec_LogOk (N : Nat) (x1 : Log) (r : Bool) (h : spec_LogOk N x1 = some r) : Says Tryz.prog 81 [.agg [VI x1.Start,VI x1.StartTerm,RO 111 (x1.Entries.map encEntry)]] 0 [] (VB r) [] := by
 unfold spec_LogOk at h
 refine Says.of_norm e Tryz.call81 e fun B hB => ?_
 have hm : B.m ≤ 1000 := by omega
 refine Run.so hm (.z 1000 (.bx e e) e e (.p e (.nil (.seq (.so hm (.p2 e e ?_))))))
 obtain ⟨y159,hy159,h⟩ := bindO h
 refine Ops.z 5128 (Ev.call [] [] 0 (sem_spec_l01In _ _ _ _ _ hy159) e e (.d2 (.d1 .nil)) e (.inl e) e e) e e (.p2 e e (.askO (x := .t 9) e h (fun g160 h => ?_) (fun g160 h => ?_)))
 ·refine Ops.gn e g160 (.gn e g160 (.gn e g160 (.gn e g160 (.z 5240 (.pkT e g160 e) e e (.p e (.gn e e (.gn e e (.gn e e (.gn e e (.z 5336 (.pkT e e e) e e (.p e (.gn e e (.gn e e (.gn e e (.gn e e (.gn e e (.gn e e (.gn e e (.z 5480 (.pkT e e e) e e (.nil (.condT e e (.so hm (.p e (.nil (.ret ?_)))))))))))))))))))))))))
  obtain rfl := someO h
  exact Ends.mkG (.inl e) e (gh_pk [0] [] hB e e e e) e e
 ·refine Ops.gp e g160 e (.gp e g160 e ?_)
  obtain ⟨y161,hy161,h⟩ := bindO h
  refine Ops.gs (s := 5208) e g160 (Ev.call [] [] 0 (sem_spec_l01In _ _ _ _ _ hy161) e e (.d2 (.d1 .nil)) e (.inl e) e e) e e (.gp e g160 e (.z 5240 (.pkF e g160 e) e e (.p e (.askO (x := .t 15) e h (fun g162 h => ?_) (fun g162 h => ?_)))))
  ·refine Ops.gn e g162 (.gn e g162 (.gn e g162 (.gn e g162 (.z 5336 (.pkT e g162 e) e e (.p e (.gn e e (.gn e e (.gn e e (.gn e e (.gn e e (.gn e e (.gn e e (.z 5480 (.pkT e e e) e e (.nil (.condT e e (.so hm (.p e (.nil (.ret ?_)))))))))))))))))))
   obtain rfl := someO h
   exact Ends.mkG (.inl e) e (gh_pk [0] [] hB e e e e) e e
  ·refine Ops.gp e g162 e (.gp e g162 e (.gs (s := 5304) e g162 (Ev.lnF e) e e (.gp e g162 e (.z 5336 (.pkF e g162 e) e e (.p e (.askO (x := .t 21) e h (fun g163 h => ?_) (fun g163 h => ?_)))))))
   ·refine Ops.gn e g163 (.gn e g163 (.gn e g163 (.gn e g163 (.gn e g163 (.gn e g163 (.gn e g163 (.z 5480 (.pkT e g163 e) e e (.nil (.condT e e (.so hm (.p e (.nil (.ret ?_)))))))))))))
    obtain rfl := someO h
    exact Ends.mkG (.inl e) e (gh_pk [0] [] hB e e e e) e e
   ·refine Ops.gp e g163 e (.gp e g163 e (.gp e g163 e (.gp e g163 e (.gs (s := 5432) e g163 (Ev.lnF e) e e (.gp e g163 e (.gp e g163 e (.z 5480 (.pkF e g163 e) e e (.nil (.condO e h (fun g164 h => ?_) (fun g164 h => ?_))))))))))
    ·refine Run.so hm (.p e (.nil (.ret ?_)))
     obtain rfl := someO h
     exact Ends.mkG (.inl e) e (gh_pk [0] [] hB e e e e) e e
    ·refine Run.skip (.so hm (.p3 e e e (.nil (.seqO h (fun v175 => []) (fun (v175 : Unit) => []) (fun h => ?_) (fun v175 h => ?_)))))
     ·refine Run.so hm (.p e (.nil (.block ?_)))
      obtain ⟨res182,h,hk182⟩ := bindO h
      refine Run.loop (n := N) (fun m182 fr σ => spec_LogOk_l1 N x1 m182 = some res182 ∧ fr = [(1,.ptr 0 0),(4,VI 0)] ∧ σ = [(0,.box [VI x1.Start,VI x1.StartTerm,RO 111 (x1.Entries.map encEntry)])]) (gh_pk [1,4] [1000] hB e e e e) ⟨h,e,e⟩ ?_
      rintro m182 fr σ ⟨h,rfl,rfl⟩
      obtain _ | m182 := m182
      ·rw [spec_LogOk_l1] at h; cases h
      rw [spec_LogOk_l1] at h
      refine Run.seq (.so hm (.p3 e e e (.z 21528 (Ev.lnF e) e e (.p e (.nil (.condO e h (fun g185 h => ?_) (fun g185 h => ?_)))))))
      ·exact noO h
      ·refine Run.exit ?_
       obtain rfl := someO h
       have h := hk182
       exact ⟨_,_,(gh_pk [] [] hB e e e e),(),h,e,e⟩
     ·refine Run.so hm (.p e (.nil (.ret ?_)))
      obtain rfl := someO h
      exact Ends.mkG (.inl e) e (gh_pk [0] [] hB e e e e) e e
def spec_Frame (N : Nat) (x1 : ByteArray) : Option (ByteArray × Bool) :=
 (spec_l01In N (x1.size : Int) 1 9000).bind fun y120 =>
 (if (!y120) = true then
 some ((⟨#[]⟩ : ByteArray),false)
 else
 (spec_l01Var N (x1.size : Int)).bind fun y127 =>
 (spec_SumOf N x1).bind fun y128 =>
 (spec_l02Four N y128).bind fun y129 =>
 (scat? y127 y129).bind fun x130 =>
 (scat? x130 x1).bind fun x131 =>
 some (x131,true))
theorem sem_spec_Frame (N : Nat) (x1 : ByteArray) (r : ByteArray × Bool) (h : spec_Frame N x1 = some r) : Says Tryz.prog 95 [VS x1] 0 [] (.tup [VS r.1,VB r.2]) [] := by
 unfold spec_Frame at h
 refine Says.of_norm e Tryz.call95 e fun B hB => ?_
 have hm : B.m ≤ 1000 := by omega
 refine Run.so hm (.p2 e e (.nil (.seq (.so hm (.p2 e e ?_)))))
 obtain ⟨y120,hy120,h⟩ := bindO h
 refine Ops.z 5128 (Ev.call [] [] 0 (sem_spec_l01In _ _ _ _ _ hy120) e e (.d2 (.d1 .nil)) e (.inl e) e e) e e (.p e (.nil (.condO e h (fun g121 h => ?_) (fun g121 h => ?_))))
 ·refine Run.so hm (.p2 e e (.nil (.ret ?_)))
  obtain rfl := someO h
  exact Ends.mkG (.inl e) e (gh_pk [0,1] [] hB e e e e) e e
 ·refine Run.skip (.so hm (.p2 e e ?_))
  obtain ⟨y127,hy127,h⟩ := bindO h
  refine Ops.z 13320 (Ev.call [] [] 0 (sem_spec_l01Var _ _ _ hy127) e e (.d1 .nil) e (.inl e) e e) e e (.p e ?_)
  obtain ⟨y128,hy128,h⟩ := bindO h
  refine Ops.z 13352 (Ev.call [] [] 0 (sem_spec_SumOf _ _ _ hy128) e e (.d1 .nil) e (.inl e) e e) e e ?_
  obtain ⟨y129,hy129,h⟩ := bindO h
  refine Ops.z 13368 (Ev.call [] [] 0 (sem_spec_l02Four _ _ _ hy129) e e (.d1 .nil) e (.inl e) e e) e e ?_
  obtain ⟨x130,hx130,h⟩ := bindO h
  refine Ops.z 13384 (Ev.addS e e hx130) e e (.p e ?_)
  obtain ⟨x131,hx131,h⟩ := bindO h
  refine Ops.z 13416 (Ev.addS e e hx131) e e (.p2 e e (.nil (.ret ?_)))
  obtain rfl := someO h
  exact Ends.mkG (.inl e) e (gh_pk [0,1] [] hB e e e e) e e
def spec_l12Head (N : Nat) (x1 : Log) : Option (ByteArray) :=
 (spec_l01Var N x1.Start).bind fun y135 =>
 (scat? (⟨#[83]⟩ : ByteArray) y135).bind fun x136 =>
 (spec_l01Var N x1.StartTerm).bind fun y137 =>
 (scat? x136 y137).bind fun x138 =>
 (spec_Frame N x138).bind fun y139 =>
 some y139.1
theorem sem_spec_l12Head (N : Nat) (x1 : Log) (r : ByteArray) (h : spec_l12Head N x1 = some r) : Says Tryz.prog 82 [.agg [VI x1.Start,VI x1.StartTerm,RO 111 (x1.Entries.map encEntry)]] 0 [] (VS r) [] := by
 unfold spec_l12Head at h
 refine Says.of_norm e Tryz.call82 e fun B hB => ?_
 have hm : B.m ≤ 1000 := by omega
 refine Run.so hm (.z 1000 (.bx e e) e e (.p e (.nil (.seq (.draw hm hmix (.p e (.p e ?_)))))))
 obtain ⟨y135,hy135,h⟩ := bindO h
 refine OpsD.z 5128 (Ev.call [] [] 0 (sem_spec_l01Var _ _ _ hy135) e e (.d1 .nil) e (.inl e) e e) e e ?_
 obtain ⟨x136,hx136,h⟩ := bindO h
 refine OpsD.z 5144 (Ev.addS e e hx136) e e (.p e (.p e ?_))
 obtain ⟨y137,hy137,h⟩ := bindO h
 refine OpsD.z 5192 (Ev.call [] [] 0 (sem_spec_l01Var _ _ _ hy137) e e (.d1 .nil) e (.inl e) e e) e e ?_
 obtain ⟨x138,hx138,h⟩ := bindO h
 refine OpsD.z 5208 (Ev.addS e e hx138) e e ?_
 obtain ⟨y139,hy139,h⟩ := bindO h
 refine OpsD.z 5224 (Ev.call [] [] 0 (sem_spec_Frame _ _ _ hy139) e e (.d1 .nil) e (.inl e) e e) e e (.p e (.p e (.p e (.p e (.p e (.nil ⟨by kernel_rfl,?_⟩))))))
 refine Run.so hm (.p2 e e (.nil (.ret ?_)))
 obtain rfl := someO h
 exact Ends.mkG (.inl e) e (gh_pk [0] [] hB e e e e) e e
def spec_l12Frames_l1 (N : Nat) (x1 : Log) (x2 : Int) : Nat → Option (Unit)
 | 0 => none
 | m + 1 =>
 (if (decide (x2 < (x1.Entries.length : Int))) = true then
 none
 else
 some ())
def spec_l12Frames (N : Nat) (x1 : Log) (x2 : Int) : Option (ByteArray) :=
 joinP (fun (v134 : Unit) =>
 some (strOf ([] : List Int))) fun j134 =>
 (spec_l12Frames_l1 N x1 x2 N).bind (fun v142 => j134 ())
theorem sem_spec_l12Frames (N : Nat) (x1 : Log) (x2 : Int) (r : ByteArray) (h : spec_l12Frames N x1 x2 = some r) : Says Tryz.prog 83 [.agg [VI x1.Start,VI x1.StartTerm,RO 111 (x1.Entries.map encEntry)],VI x2] 0 [] (VS r) [] := by
 unfold spec_l12Frames at h
 refine Says.of_norm e Tryz.call83 e fun B hB => ?_
 have hm : B.m ≤ 1000 := by omega
 refine Run.so hm (.z 1000 (.bx e e) e e (.p e (.nil (.so hm (.z 5096 (Ev.bsW (ys := ([] : List Int)) (f := encU) e .nil e e e e e) e e (.p e (.nil (.seqO h (fun v134 => [(5,.sl 0 5 0 (([] : List Int).length))]) (fun (v134 : Unit) => [(0,.vec 5 (([] : List Int).map encU))]) (fun h => ?_) (fun v134 h => ?_)))))))))
 ·refine Run.so hm (.p2 e e (.nil (.block ?_)))
  obtain ⟨res142,h,hk142⟩ := bindO h
  refine Run.loop (n := N) (fun m142 fr σ => spec_l12Frames_l1 N x1 x2 m142 = some res142 ∧ fr = [(2,.ptr 0 0),(5,.sl 1 5 0 (([] : List Int).length)),(6,VI x2)] ∧ σ = [(0,.box [VI x1.Start,VI x1.StartTerm,RO 111 (x1.Entries.map encEntry)]),(1,.vec 5 (([] : List Int).map encU))]) (gh_pk [2,5,6] [1000,5096] hB e e e e) ⟨h,e,e⟩ ?_
  rintro m142 fr σ ⟨h,rfl,rfl⟩
  obtain _ | m142 := m142
  ·rw [spec_l12Frames_l1] at h; cases h
  rw [spec_l12Frames_l1] at h
  refine Run.seq (.so hm (.p3 e e e (.z 13336 (Ev.lnF e) e e (.p e (.nil (.condO e h (fun g145 h => ?_) (fun g145 h => ?_)))))))
  ·exact noO h
  ·refine Run.exit ?_
   obtain rfl := someO h
   have h := hk142
   exact ⟨_,_,(gh_pk [5] [1] hB e e e e),(),h,e,e⟩
 ·refine Run.so hm (.p e (.z 33784 (.sbC (addsW (f := encU) e e e (fun _ => e))) e e (.p e (.nil (.ret ?_)))))
  obtain rfl := someO h
  exact Ends.mkG (.inl e) e (gh_pk [0] [] hB e e e e) e e
def spec_LogFile (N : Nat) (x1 : Log) : Option (ByteArray × Bool) :=
 (spec_LogOk N x1).bind fun y124 =>
 (if (!y124) = true then
 some ((⟨#[]⟩ : ByteArray),false)
 else
 (spec_l12Head N x1).bind fun y135 =>
 (spec_l12Frames N x1 0).bind fun y136 =>
 (scat? y135 y136).bind fun x137 =>
 (if (decide ((x137.size : Int) > 20000)) = true then
 some ((⟨#[]⟩ : ByteArray),false)
 else
 some (x137,true)))
theorem sem_spec_LogFile (N : Nat) (x1 : Log) (r : ByteArray × Bool) (h : spec_LogFile N x1 = some r) : Says Tryz.prog 40 [.agg [VI x1.Start,VI x1.StartTerm,RO 111 (x1.Entries.map encEntry)]] 0 [] (.tup [VS r.1,VB r.2]) [] := by
 unfold spec_LogFile at h
 refine Says.of_norm e Tryz.call40 e fun B hB => ?_
 have hm : B.m ≤ 1000 := by omega
 refine Run.so hm (.z 1000 (.bx e e) e e (.p2 e e (.nil (.seq (.so hm (.p e ?_))))))
 obtain ⟨y124,hy124,h⟩ := bindO h
 refine Ops.z 5112 (Ev.call [] [] 0 (sem_spec_LogOk _ _ _ hy124) e e (.cons (.agg (.d2 (.d1 .nil))) .nil) e (.inl e) e e) e e (.p e (.nil (.condO e h (fun g125 h => ?_) (fun g125 h => ?_))))
 ·refine Run.so hm (.p2 e e (.nil (.ret ?_)))
  obtain rfl := someO h
  exact Ends.mkG (.inl e) e (gh_pk [0,1] [] hB e e e e) e e
 ·refine Run.skip (.seq (.draw hm hmix (.p e ?_)))
  obtain ⟨y135,hy135,h⟩ := bindO h
  refine OpsD.z 13304 (Ev.call [] [] 0 (sem_spec_l12Head _ _ _ hy135) e e (.cons (.agg (.d2 (.d1 .nil))) .nil) e (.inl e) e e) e e (.p e ?_)
  obtain ⟨y136,hy136,h⟩ := bindO h
  refine OpsD.z 13336 (Ev.call [] [] 0 (sem_spec_l12Frames _ _ _ _ hy136) e e (.cons (.agg (.d2 (.d1 .nil))) (.d1 .nil)) e (.inl e) e e) e e ?_
  obtain ⟨x137,hx137,h⟩ := bindO h
  refine OpsD.z 13352 (Ev.addS e e hx137) e e (.p e (.nil ⟨by kernel_rfl,?_⟩))
  refine Run.seq (.so hm (.p3 e e e (.nil (.condO e h (fun g139 h => ?_) (fun g139 h => ?_)))))
  ·refine Run.so hm (.p2 e e (.nil (.ret ?_)))
   obtain rfl := someO h
   exact Ends.mkG (.inl e) e (gh_pk [0,1] [] hB e e e e) e e
  ·refine Run.skip (.so hm (.p3 e e e (.nil (.ret ?_))))
   obtain rfl := someO h
   exact Ends.mkG (.inl e) e (gh_pk [0,1] [] hB e e e e) e e
def spec_l03Put_l1 (N : Nat) (x1 : Disk) (x2 : File) : Nat → Int → (List File) → Option ((List File))
 | 0,_,_ => none
 | m + 1,x317,x322 =>
 (if (decide (x317 < (x1.Files.length : Int))) = true then
 joinP (fun (v351 : (List File)) =>
 spec_l03Put_l1 N x1 x2 m (w64 (x317 + 1)) v351) fun j351 =>
 (at? x1.Files x317).bind fun x353 =>
 (if (Op.bytesLess x353.Name.toList x2.Name.toList) = true then
 (at? x1.Files x317).bind fun x357 =>
 (cat? x322 ([x357] : List File)).bind fun x358 =>
 j351 x358
 else
 j351 x322)
 else
 some x322)
def spec_l03Put_l1_r (N : Nat) (x1 : Disk) (x2 : File) : (List File) → Int → (List File) → Option ((List File))
 | [],x317,x322 =>
 some x322
 | hd :: tl,x317,x322 =>
 joinP (fun (v351 : (List File)) =>
 spec_l03Put_l1_r N x1 x2 tl (w64 (x317 + 1)) v351) fun j351 =>
 (some hd).bind fun x353 =>
 (if (Op.bytesLess x353.Name.toList x2.Name.toList) = true then
 (some hd).bind fun x357 =>
 (cat? x322 ([x357] : List File)).bind fun x358 =>
 j351 x358
 else
 j351 x322)
theorem spec_l03Put_l1_rng (N : Nat) (x1 : Disk) (x2 : File) (hx : x1.Files.length ≤ 1099511627776) : ∀ (d k m : Nat) (x322 : (List File)),x1.Files.length = k + d → d < m → spec_l03Put_l1 N x1 x2 m (k : Int) x322 = spec_l03Put_l1_r N x1 x2 (x1.Files.drop k) (k : Int) x322 := by
 intro d
 induction d with
 | zero =>
  intro k m x322 hd hm
  obtain ⟨m,rfl⟩ : ∃ q,m = q + 1 := ⟨m - 1,by omega⟩
  rw [spec_l03Put_l1,if_neg (by simp; omega),List.drop_eq_nil_of_le (by omega),spec_l03Put_l1_r]
 | succ d ih =>
  intro k m x322 hd hm
  obtain ⟨m,rfl⟩ : ∃ q,m = q + 1 := ⟨m - 1,by omega⟩
  have hk : k < x1.Files.length := by omega
  rw [spec_l03Put_l1,if_pos (by simp; omega),List.drop_eq_getElem_cons hk,spec_l03Put_l1_r]
  have h1 := at_lt hk
  have h2 := w64_succ (k := k) (by omega)
  have h3 := ih (k + 1) m
  simp only [h1,h2,h3 _ (by omega) (by omega)]
theorem spec_l03Put_l1_eq {N : Nat} (x1 : Disk) (x2 : File) (hx : x1.Files.length ≤ 1099511627776) (hN : x1.Files.length < N) (x322 : (List File)) : spec_l03Put_l1 N x1 x2 N 0 x322 = spec_l03Put_l1_r N x1 x2 x1.Files 0 x322 := spec_l03Put_l1_rng N x1 x2 hx x1.Files.length 0 N x322 (by omega) hN
def spec_l03Put_l2 (N : Nat) (x1 : Disk) (x2 : File) : Nat → Int → (List File) → Option ((List File))
 | 0,_,_ => none
 | m + 1,x406,x411 =>
 (if (decide (x406 < (x1.Files.length : Int))) = true then
 joinP (fun (v440 : (List File)) =>
 spec_l03Put_l2 N x1 x2 m (w64 (x406 + 1)) v440) fun j440 =>
 (at? x1.Files x406).bind fun x442 =>
 (if (!(Op.bytesLess x442.Name.toList x2.Name.toList || decide (x442.Name = x2.Name))) = true then
 (at? x1.Files x406).bind fun x446 =>
 (cat? x411 ([x446] : List File)).bind fun x447 =>
 j440 x447
 else
 j440 x411)
 else
 some x411)
def spec_l03Put_l2_r (N : Nat) (x1 : Disk) (x2 : File) : (List File) → Int → (List File) → Option ((List File))
 | [],x406,x411 =>
 some x411
 | hd :: tl,x406,x411 =>
 joinP (fun (v440 : (List File)) =>
 spec_l03Put_l2_r N x1 x2 tl (w64 (x406 + 1)) v440) fun j440 =>
 (some hd).bind fun x442 =>
 (if (!(Op.bytesLess x442.Name.toList x2.Name.toList || decide (x442.Name = x2.Name))) = true then
 (some hd).bind fun x446 =>
 (cat? x411 ([x446] : List File)).bind fun x447 =>
 j440 x447
 else
 j440 x411)
theorem spec_l03Put_l2_rng (N : Nat) (x1 : Disk) (x2 : File) (hx : x1.Files.length ≤ 1099511627776) : ∀ (d k m : Nat) (x411 : (List File)),x1.Files.length = k + d → d < m → spec_l03Put_l2 N x1 x2 m (k : Int) x411 = spec_l03Put_l2_r N x1 x2 (x1.Files.drop k) (k : Int) x411 := by
 intro d
 induction d with
 | zero =>
  intro k m x411 hd hm
  obtain ⟨m,rfl⟩ : ∃ q,m = q + 1 := ⟨m - 1,by omega⟩
  rw [spec_l03Put_l2,if_neg (by simp; omega),List.drop_eq_nil_of_le (by omega),spec_l03Put_l2_r]
 | succ d ih =>
  intro k m x411 hd hm
  obtain ⟨m,rfl⟩ : ∃ q,m = q + 1 := ⟨m - 1,by omega⟩
  have hk : k < x1.Files.length := by omega
  rw [spec_l03Put_l2,if_pos (by simp; omega),List.drop_eq_getElem_cons hk,spec_l03Put_l2_r]
  have h1 := at_lt hk
  have h2 := w64_succ (k := k) (by omega)
  have h3 := ih (k + 1) m
  simp only [h1,h2,h3 _ (by omega) (by omega)]
theorem spec_l03Put_l2_eq {N : Nat} (x1 : Disk) (x2 : File) (hx : x1.Files.length ≤ 1099511627776) (hN : x1.Files.length < N) (x411 : (List File)) : spec_l03Put_l2 N x1 x2 N 0 x411 = spec_l03Put_l2_r N x1 x2 x1.Files 0 x411 := spec_l03Put_l2_rng N x1 x2 hx x1.Files.length 0 N x411 (by omega) hN
def spec_l03Put (N : Nat) (x1 : Disk) (x2 : File) : Option (Disk) :=
 joinP (fun (v316 : (List File)) =>
 (cat? v316 ([x2] : List File)).bind fun x362 =>
 joinP (fun (v405 : (List File)) =>
 some (Disk.mk v405)) fun j405 =>
 (spec_l03Put_l2 N x1 x2 N 0 x362).bind (fun v429 => j405 v429)) fun j316 =>
 (spec_l03Put_l1 N x1 x2 N 0 ([] : (List File))).bind (fun v340 => j316 v340)
theorem sem_spec_l03Put (N : Nat) (x1 : Disk) (x2 : File) (r : Disk) (h : spec_l03Put N x1 x2 = some r) : Says Tryz.prog 41 [.agg [RO 80 (x1.Files.map encFile)],.agg [VS x2.Name,VS x2.Text]] 0 [] (.agg [.sl 0 80 0 r.Files.length]) [(0,.vec 80 (r.Files.map encFile))] := by
 unfold spec_l03Put at h
 refine Says.of_norm e Tryz.call41 e fun B hB => ?_
 have hm : B.m ≤ 1000 := by omega
 refine Run.so hm (.z 1000 (.bx e e) e e (.z 1016 (.bx e e) e e (.z 1032 (.al e e) e e (.nil (.so hm (.z 5096 (.bd e e) e e (.z 5112 (.al e e) e e (.y 5128 (.sto e e e e e e) e e (.nil (.seqO h (fun v316 => [(2,.ptr 0 0),(3,.ptr 1 0),(4,.ptr 2 0),(5,.ptr 3 0)]) (fun (v316 : (List File)) => [(0,.box [RO 80 (x1.Files.map encFile)]),(1,.box [VS x2.Name,VS x2.Text]),(2,.box [.sl 4 80 0 (([] : (List File)).length)]),(3,.box [.sl 5 80 0 v316.length]),(4,.vec 80 (([] : (List File)).map encFile)),(5,.vec 80 (v316.map encFile))]) (fun h => ?_) (fun v316 h => ?_)))))))))))
 ·refine Run.so hm (.p e (.nil (.block ?_)))
  obtain ⟨res340,h,hk340⟩ := bindO h
  refine Run.loop (n := N) (fun m340 fr σ => ∃ (x317 : Int),∃ (x322 : (List File)),spec_l03Put_l1 N x1 x2 m340 x317 x322 = some res340 ∧ fr = [(2,.ptr 0 0),(3,.ptr 1 0),(4,.ptr 2 0),(5,.ptr 3 0),(6,VI x317)] ∧ σ = [(0,.box [RO 80 (x1.Files.map encFile)]),(1,.box [VS x2.Name,VS x2.Text]),(2,.box [.sl 4 80 0 (([] : (List File)).length)]),(3,.box [.sl 5 80 0 x322.length]),(4,.vec 80 (([] : (List File)).map encFile)),(5,.vec 80 (x322.map encFile))]) (Gh.trans (Gh.trans (gh_prn [2,3,4,5,6] [1000,1016,1032,5112] hB e) (gh_nil [] [1032,5112] hB e e e)) (gh_pk [2,3,4,5,6] [1000,1016,1032,5112,20000000,20000064] hB e e e e)) ⟨_,_,h,e,e⟩ ?_
  rintro m340 fr σ ⟨x317,x322,h,rfl,rfl⟩
  obtain _ | m340 := m340
  ·rw [spec_l03Put_l1] at h; cases h
  rw [spec_l03Put_l1] at h
  refine Run.seq (.so hm (.p3 e e e (.z 13336 (Ev.lnF e) e e (.p e (.nil (.condO e h (fun g343 h => ?_) (fun g343 h => ?_)))))))
  ·refine Run.skip (.seqO h (fun v351 => [(2,.ptr 0 0),(3,.ptr 1 0),(4,.ptr 2 0),(5,.ptr 3 0),(6,VI x317)]) (fun (v351 : (List File)) => [(0,.box [RO 80 (x1.Files.map encFile)]),(1,.box [VS x2.Name,VS x2.Text]),(2,.box [.sl 4 80 0 (([] : (List File)).length)]),(3,.box [.sl 5 80 0 v351.length]),(4,.vec 80 (([] : (List File)).map encFile)),(5,.vec 80 (v351.map encFile))]) (fun h => ?_) (fun v351 h => ?_))
   ·refine Run.block (.seq (.draw hm hmix (.p e (.p e (.p e ?_)))))
    obtain ⟨x353,hx353,h⟩ := bindO h
    refine OpsD.z 21528 (Ev.iaF e e hx353) e e (.p e (.p e (.p e (.p e (.p e (.nil ⟨by kernel_rfl,?_⟩))))))
    refine Run.condO e h (fun g354 h => ?_) (fun g354 h => ?_)
    ·refine Run.draw hm hmix (.p e (.p e (.p e (.p e (.p e ?_)))))
     obtain ⟨x357,hx357,h⟩ := bindO h
     refine OpsD.z 25656 (Ev.iaF e e hx357) e e (.p e (.z 25688 (Ev.bsW (ys := ([x357] : List File)) (f := encFile) e (.d2 .nil) e e e e e) e e ?_))
     obtain ⟨x358,hx358,h⟩ := bindO h
     refine OpsD.z 25704 (Ev.apW (f := encFile) (ontoW e e e) (addsW e e e (fun _ => e)) e bt80 e hx358) e e (.p e (.y 25736 (.sto e e e e e e) e e (.nil ⟨by kernel_rfl,?_⟩)))
     exact ⟨_,_,(gh_pk [2,3,4,5,6] [0,1,2,3,4,25704] hB e e e e),_,h,e,e⟩
    ·exact Run.skip (⟨_,_,(gh_pk [2,3,4,5,6] [0,1,2,3,4,5] hB e e e e),_,h,e,e⟩)
   ·exact Run.ops hm (.p3 e e e (.nil (⟨m340,Nat.lt_succ_self m340,_,_,(gh_pk [2,3,4,5,6] [0,1,2,3,4,5] hB e e e e),_,_,h,e,e⟩)))
  ·refine Run.exit ?_
   obtain rfl := someO h
   have h := hk340
   exact ⟨_,_,(gh_pk [2,3,4,5] [0,1,2,3,4,5] hB e e e e),_,h,e,e⟩
 ·refine Run.so hm (.p3 e e e (.z 29720 (Ev.bsW (ys := ([x2] : List File)) (f := encFile) e (.d2 .nil) e e e e e) e e ?_))
  obtain ⟨x362,hx362,h⟩ := bindO h
  refine Ops.z 29736 (Ev.apW (f := encFile) (ontoW e e e) (addsW e e e (fun _ => e)) e bt80 e hx362) e e (.p e (.y 29768 (.sto e e e e e e) e e (.nil (.seqO h (fun v405 => [(4,.ptr 0 0),(5,.ptr 1 0)]) (fun (v405 : (List File)) => [(0,.box [.sl 2 80 0 (([] : (List File)).length)]),(1,.box [.sl 3 80 0 v405.length]),(2,.vec 80 (([] : (List File)).map encFile)),(3,.vec 80 (v405.map encFile))]) (fun h => ?_) (fun v405 h => ?_)))))
  ·refine Run.so hm (.p e (.nil (.block ?_)))
   obtain ⟨res429,h,hk429⟩ := bindO h
   refine Run.loop (n := N) (fun m429 fr σ => ∃ (x406 : Int),∃ (x411 : (List File)),spec_l03Put_l2 N x1 x2 m429 x406 x411 = some res429 ∧ fr = [(2,.ptr 0 0),(3,.ptr 1 0),(4,.ptr 2 0),(5,.ptr 3 0),(7,VI x406)] ∧ σ = [(0,.box [RO 80 (x1.Files.map encFile)]),(1,.box [VS x2.Name,VS x2.Text]),(2,.box [.sl 4 80 0 (([] : (List File)).length)]),(3,.box [.sl 5 80 0 x411.length]),(4,.vec 80 (([] : (List File)).map encFile)),(5,.vec 80 (x411.map encFile))]) (gh_pk [2,3,4,5,7] [0,1,2,3,4,29736] hB e e e e) ⟨_,_,h,e,e⟩ ?_
   rintro m429 fr σ ⟨x406,x411,h,rfl,rfl⟩
   obtain _ | m429 := m429
   ·rw [spec_l03Put_l2] at h; cases h
   rw [spec_l03Put_l2] at h
   refine Run.seq (.so hm (.p3 e e e (.z 37912 (Ev.lnF e) e e (.p e (.nil (.condO e h (fun g432 h => ?_) (fun g432 h => ?_)))))))
   ·refine Run.skip (.seqO h (fun v440 => [(2,.ptr 0 0),(3,.ptr 1 0),(4,.ptr 2 0),(5,.ptr 3 0),(7,VI x406)]) (fun (v440 : (List File)) => [(0,.box [RO 80 (x1.Files.map encFile)]),(1,.box [VS x2.Name,VS x2.Text]),(2,.box [.sl 4 80 0 (([] : (List File)).length)]),(3,.box [.sl 5 80 0 v440.length]),(4,.vec 80 (([] : (List File)).map encFile)),(5,.vec 80 (v440.map encFile))]) (fun h => ?_) (fun v440 h => ?_))
    ·refine Run.block (.seq (.draw hm hmix (.p e (.p e (.p e ?_)))))
     obtain ⟨x442,hx442,h⟩ := bindO h
     refine OpsD.z 46104 (Ev.iaF e e hx442) e e (.p e (.p e (.p e (.p e (.p e (.nil ⟨by kernel_rfl,?_⟩))))))
     refine Run.condO e h (fun g443 h => ?_) (fun g443 h => ?_)
     ·refine Run.draw hm hmix (.p e (.p e (.p e (.p e (.p e ?_)))))
      obtain ⟨x446,hx446,h⟩ := bindO h
      refine OpsD.z 50232 (Ev.iaF e e hx446) e e (.p e (.z 50264 (Ev.bsW (ys := ([x446] : List File)) (f := encFile) e (.d2 .nil) e e e e e) e e ?_))
      obtain ⟨x447,hx447,h⟩ := bindO h
      refine OpsD.z 50280 (Ev.apW (f := encFile) (ontoW e e e) (addsW e e e (fun _ => e)) e bt80 e hx447) e e (.p e (.y 50312 (.sto e e e e e e) e e (.nil ⟨by kernel_rfl,?_⟩)))
      exact ⟨_,_,(gh_pk [2,3,4,5,7] [0,1,2,3,4,50280] hB e e e e),_,h,e,e⟩
     ·exact Run.skip (⟨_,_,(gh_pk [2,3,4,5,7] [0,1,2,3,4,5] hB e e e e),_,h,e,e⟩)
    ·exact Run.ops hm (.p3 e e e (.nil (⟨m429,Nat.lt_succ_self m429,_,_,(gh_pk [2,3,4,5,7] [0,1,2,3,4,5] hB e e e e),_,_,h,e,e⟩)))
   ·refine Run.exit ?_
    obtain rfl := someO h
    have h := hk429
    exact ⟨_,_,(gh_pk [4,5] [2,3,4,5] hB e e e e),_,h,e,e⟩
  ·refine Run.so hm (.p e (.y 54264 (.sto e e e e e e) e e (.nil (.ret ?_))))
   obtain rfl := someO h
   exact Ends.mkG (.inl e) e (gh_pk [0] [3] hB e e e e) e e
def spec_FormatDisk (N : Nat) (x1 : (List Int)) : Option (Disk × Bool) :=
 (spec_FormatShelf N x1).bind fun y115 =>
 (if (!y115.2) = true then
 some ((Disk.mk ([])),false)
 else
 (spec_LogFile N (Log.mk 0 0 ([]))).bind fun y121 =>
 (spec_l03Put N y115.1 (File.mk (⟨#[108,111,103]⟩ : ByteArray) y121.1)).bind fun y123 =>
 some (y123,true))
theorem sem_spec_FormatDisk (N : Nat) (x1 : (List Int)) (r : Disk × Bool) (h : spec_FormatDisk N x1 = some r) : Says Tryz.prog 12 [RO 3 (x1.map encI)] 0 [] (.tup [.agg [.sl 0 80 0 r.1.Files.length],VB r.2]) [(0,.vec 80 (r.1.Files.map encFile))] := by
 unfold spec_FormatDisk at h
 refine Says.of_norm e Tryz.call12 e fun B hB => ?_
 have hm : B.m ≤ 1000 := by omega
 refine Run.so hm (.z 1000 (.al e e) e e (.p e (.nil (.so hm (.p e ?_)))))
 obtain ⟨y115,hy115,h⟩ := bindO h
 refine Ops.z 5112 (Ev.call [] [] 1 (sem_spec_FormatShelf _ _ _ hy115) e e (.d1 .nil) e (.inl e) e e) e e (.p3 e e e (.z 5176 (.al e e) e e (.y 5192 (.sto e e e e e e) e e (.p e (.nil (.seq (.so hm (.p2 e e (.nil (.condO e h (fun g117 h => ?_) (fun g117 h => ?_)))))))))))
 ·refine Run.so hm (.z 13288 (.bd e e) e e (.y 13304 (.sto e e e e e e) e e (.p e (.nil (.ret ?_)))))
  obtain rfl := someO h
  exact Ends.mkG (.inl e) e (Gh.trans (Gh.trans (gh_prn [0,1] [] hB e) (gh_nil [0] [] hB e e e)) (gh_pk [0,1] [10000000] hB e e e e)) e e
 ·refine Run.skip (.so hm (.z 17384 (.bd e e) e e ?_))
  obtain ⟨y121,hy121,h⟩ := bindO h
  refine Ops.z 17400 (Ev.call [] [] 0 (sem_spec_LogFile _ _ _ hy121) e e (.cons (.agg (.d2 (.cons (.nil _ _) .nil))) .nil) e (.inl e) e e) e e (.p3 e e e (.p2 e e (.nil (.so hm (.p2 e e (.z 21512 (.bd e e) e e ?_))))))
  obtain ⟨y123,hy123,h⟩ := bindO h
  refine Ops.z 21528 (Ev.call [] [5112] 1 (sem_spec_l03Put _ _ _ _ hy123) e e (.cons (.agg (.cons (.borrow e (by decide) (lendW (fun _ => e) _ e)) .nil)) (.cons (.agg (.d2 .nil)) .nil)) e (.inr ⟨e,ownL_root ⟨own_rows (fun _ => e) _,trivial⟩⟩) e e) e e ?_
  refine Ops.y 21544 (.sto e e e e e e) e e (.p e (.nil (.ret ?_)))
  obtain rfl := someO h
  exact Ends.mkG (.inl e) e (gh_pk [0,1] [21528] hB e e e e) e e
def spec_DiskOk_l1 (N : Nat) (x1 : Disk) : Nat → Int → Option ((Bool) ⊕ (Unit))
 | 0,_ => none
 | m + 1,x343 =>
 (if (decide (x343 < (x1.Files.length : Int))) = true then
 joinP (fun (v404 : Unit) =>
 spec_DiskOk_l1 N x1 m (w64 (x343 + 1))) fun j404 =>
 (at? x1.Files x343).bind fun x413 =>
 (spec_l01In N (x413.Name.size : Int) 1 12).bind fun y414 =>
 (if (!y414) = true then
 some (Sum.inl false)
 else
 (at? x1.Files x343).bind fun x416 =>
 (if (decide ((x416.Text.size : Int) > 20000)) = true then
 some (Sum.inl false)
 else
 (if (decide (x343 > 0)) = true then
 (at? x1.Files (w64 (x343 - 1))).bind fun x419 =>
 (at? x1.Files x343).bind fun x420 =>
 (if (!Op.bytesLess x419.Name.toList x420.Name.toList) = true then
 some (Sum.inl false)
 else
 j404 ())
 else
 j404 ())))
 else
 some (Sum.inr ()))
def spec_DiskOk_l1_r (N : Nat) (x1 : Disk) : (List File) → Int → Option ((Bool) ⊕ (Unit))
 | [],x343 =>
 some (Sum.inr ())
 | hd :: tl,x343 =>
 joinP (fun (v404 : Unit) =>
 spec_DiskOk_l1_r N x1 tl (w64 (x343 + 1))) fun j404 =>
 (some hd).bind fun x413 =>
 (spec_l01In N (x413.Name.size : Int) 1 12).bind fun y414 =>
 (if (!y414) = true then
 some (Sum.inl false)
 else
 (some hd).bind fun x416 =>
 (if (decide ((x416.Text.size : Int) > 20000)) = true then
 some (Sum.inl false)
 else
 (if (decide (x343 > 0)) = true then
 (at? x1.Files (w64 (x343 - 1))).bind fun x419 =>
 (some hd).bind fun x420 =>
 (if (!Op.bytesLess x419.Name.toList x420.Name.toList) = true then
 some (Sum.inl false)
 else
 j404 ())
 else
 j404 ())))
theorem spec_DiskOk_l1_rng (N : Nat) (x1 : Disk) (hx : x1.Files.length ≤ 1099511627776) : ∀ (d k m : Nat),x1.Files.length = k + d → d < m → spec_DiskOk_l1 N x1 m (k : Int) = spec_DiskOk_l1_r N x1 (x1.Files.drop k) (k : Int) := by
 intro d
 induction d with
 | zero =>
  intro k m hd hm
  obtain ⟨m,rfl⟩ : ∃ q,m = q + 1 := ⟨m - 1,by omega⟩
  rw [spec_DiskOk_l1,if_neg (by simp; omega),List.drop_eq_nil_of_le (by omega),spec_DiskOk_l1_r]
 | succ d ih =>
  intro k m hd hm
  obtain ⟨m,rfl⟩ : ∃ q,m = q + 1 := ⟨m - 1,by omega⟩
  have hk : k < x1.Files.length := by omega
  rw [spec_DiskOk_l1,if_pos (by simp; omega),List.drop_eq_getElem_cons hk,spec_DiskOk_l1_r]
  have h1 := at_lt hk
  have h2 := w64_succ (k := k) (by omega)
  have h3 := ih (k + 1) m
  simp only [h1,h2,h3 (by omega) (by omega)]
theorem spec_DiskOk_l1_eq {N : Nat} (x1 : Disk) (hx : x1.Files.length ≤ 1099511627776) (hN : x1.Files.length < N) : spec_DiskOk_l1 N x1 N 0 = spec_DiskOk_l1_r N x1 x1.Files 0 := spec_DiskOk_l1_rng N x1 hx x1.Files.length 0 N (by omega) hN
def spec_DiskOk (N : Nat) (x1 : Disk) : Option (Bool) :=
 (if (decide ((x1.Files.length : Int) > 30)) = true then
 some false
 else
 joinP (fun (v342 : Unit) =>
 some true) fun j342 =>
 (spec_DiskOk_l1 N x1 N 0).bind (Sum.elim (fun v382 => some v382) (fun (v383 : Unit) => j342 ())))
theorem sem_spec_DiskOk (N : Nat) (x1 : Disk) (r : Bool) (h : spec_DiskOk N x1 = some r) : Says Tryz.prog 87 [.agg [RO 80 (x1.Files.map encFile)]] 0 [] (VB r) [] := by
 unfold spec_DiskOk at h
 refine Says.of_norm e Tryz.call87 e fun B hB => ?_
 have hm : B.m ≤ 1000 := by omega
 refine Run.so hm (.z 1000 (.bx e e) e e (.p e (.nil (.seq (.so hm (.p2 e e (.z 5128 (Ev.lnF e) e e (.p e (.nil (.condO e h (fun g262 h => ?_) (fun g262 h => ?_)))))))))))
 ·refine Run.so hm (.p e (.nil (.ret ?_)))
  obtain rfl := someO h
  exact Ends.mkG (.inl e) e (gh_pk [0] [] hB e e e e) e e
 ·refine Run.skip (.seqO h (fun v342 => []) (fun (v342 : Unit) => []) (fun h => ?_) (fun v342 h => ?_))
  ·refine Run.so hm (.p e (.nil (.block ?_)))
   obtain ⟨res383,h,hk383⟩ := bindO h
   refine Run.loop (n := N) (fun m383 fr σ => ∃ (x343 : Int),spec_DiskOk_l1 N x1 m383 x343 = some res383 ∧ fr = [(1,.ptr 0 0),(3,VI x343)] ∧ σ = [(0,.box [RO 80 (x1.Files.map encFile)])]) (gh_pk [1,3] [1000] hB e e e e) ⟨_,h,e,e⟩ ?_
   rintro m383 fr σ ⟨x343,h,rfl,rfl⟩
   obtain _ | m383 := m383
   ·rw [spec_DiskOk_l1] at h; cases h
   rw [spec_DiskOk_l1] at h
   refine Run.seq (.so hm (.p3 e e e (.z 17432 (Ev.lnF e) e e (.p e (.nil (.condO e h (fun g386 h => ?_) (fun g386 h => ?_)))))))
   ·refine Run.skip (.seqO h (fun v404 => [(1,.ptr 0 0),(3,VI x343)]) (fun (v404 : Unit) => [(0,.box [RO 80 (x1.Files.map encFile)])]) (fun h => ?_) (fun v404 h => ?_))
    ·refine Run.block (.seq (.draw hm hmix (.p e (.p e (.p e ?_)))))
     obtain ⟨x413,hx413,h⟩ := bindO h
     refine OpsD.z 25624 (Ev.iaF e e hx413) e e (.p e (.p e (.p e ?_)))
     obtain ⟨y414,hy414,h⟩ := bindO h
     refine OpsD.z 25688 (Ev.call [] [] 0 (sem_spec_l01In _ _ _ _ _ hy414) e e (.d2 (.d1 .nil)) e (.inl e) e e) e e (.p e (.p e (.askO (x := .t 24) e h (fun g415 h => ?_) (fun g415 h => ?_))))
     ·refine OpsD.gn e g415 (.gn e g415 (.gn e g415 (.gn e g415 (.gn e g415 (.gn e g415 (.gn e g415 (.gn e g415 (.z 25864 (.pkT e g415 e) e e (.p e (.gn e e (.gn e e (.gn e e (.gu e (.gu e (.gu e (.gu e (.gu e (.gu e (.gu e (.gu e (.gu e (.gu e (.gu e (.gu e (.gu e (.gu e (.gn e e (.z 26184 (.pkT e e e) e e (.nil ⟨by kernel_rfl,?_⟩)))))))))))))))))))))))))))))
      refine Run.condT e e (.so hm (.p e (.nil (.ret ?_))))
      obtain rfl := someO h
      have h := hk383
      replace h := inlO h
      obtain rfl := someO h
      exact Ends.mkG (.inl e) e (gh_pk [0] [] hB e e e e) e e
     ·refine OpsD.gp e g415 e (.gp e g415 e (.gp e g415 e ?_))
      obtain ⟨x416,hx416,h⟩ := bindO h
      refine OpsD.gs (s := 25784) e g415 (Ev.iaF e e hx416) e e (.gp e g415 e (.gp e g415 e (.gp e g415 e (.gp e g415 e (.z 25864 (.pkF e g415 e) e e (.p e (.askO (x := .t 34) e h (fun g417 h => ?_) (fun g417 h => ?_))))))))
      ·refine OpsD.gn e g417 (.gn e g417 (.gn e g417 (.gu e (.gu e (.gu e (.gu e (.gu e (.gu e (.gu e (.gu e (.gu e (.gu e (.gu e (.gu e (.gu e (.gu e (.gn e g417 (.z 26184 (.pkT e g417 e) e e (.nil ⟨by kernel_rfl,?_⟩)))))))))))))))))))
       refine Run.condT e e (.so hm (.p e (.nil (.ret ?_))))
       obtain rfl := someO h
       have h := hk383
       replace h := inlO h
       obtain rfl := someO h
       exact Ends.mkG (.inl e) e (gh_pk [0] [] hB e e e e) e e
      ·refine OpsD.gp e g417 e (.gp e g417 e (.gp e g417 e (.askO (x := .t 37) e h (fun g418 h => ?_) (fun g418 h => ?_))))
       ·refine OpsD.gp e g418 e (.gp e g418 e (.gp e g418 e (.gp e g418 e ?_)))
        obtain ⟨x419,hx419,h⟩ := bindO h
        refine OpsD.gs (s := 26008) e g418 (Ev.iaF e e hx419) e e (.gp e g418 e (.gp e g418 e (.gp e g418 e (.gp e g418 e (.gp e g418 e ?_)))))
        obtain ⟨x420,hx420,h⟩ := bindO h
        refine OpsD.gs (s := 26104) e g418 (Ev.iaF e e hx420) e e (.gp e g418 e (.gp e g418 e (.gp e g418 e (.gs (s := 26168) e g417 (.pkT e g418 e) e e (.z 26184 (.pkF e g417 e) e e (.nil ⟨by kernel_rfl,?_⟩))))))
        refine Run.condO e h (fun g421 h => ?_) (fun g421 h => ?_)
        ·refine Run.so hm (.p e (.nil (.ret ?_)))
         obtain rfl := someO h
         have h := hk383
         replace h := inlO h
         obtain rfl := someO h
         exact Ends.mkG (.inl e) e (gh_pk [0] [] hB e e e e) e e
        ·exact Run.skip (⟨_,_,(gh_pk [1,3] [0] hB e e e e),(),h,e,e⟩)
       ·refine OpsD.gn e g418 (.gn e g418 (.gn e g418 (.gn e g418 (.gn e g418 (.gn e g418 (.gn e g418 (.gn e g418 (.gn e g418 (.gn e g418 (.gn e g418 (.gn e g418 (.gn e g418 (.gn e g418 (.gs (s := 26168) e g417 (.pkF e g418 e) e e (.z 26184 (.pkF e g417 e) e e (.nil ⟨by kernel_rfl,?_⟩))))))))))))))))
        exact Run.condF e e (.skip (⟨_,_,(gh_pk [1,3] [0] hB e e e e),(),h,e,e⟩))
    ·exact Run.ops hm (.p3 e e e (.nil (⟨m383,Nat.lt_succ_self m383,_,_,(gh_pk [1,3] [0] hB e e e e),_,h,e,e⟩)))
   ·refine Run.exit ?_
    obtain rfl := someO h
    have h := hk383
    replace h := inrO h
    exact ⟨_,_,(gh_pk [] [] hB e e e e),(),h,e,e⟩
  ·refine Run.so hm (.p e (.nil (.ret ?_)))
   obtain rfl := someO h
   exact Ends.mkG (.inl e) e (gh_pk [0] [] hB e e e e) e e
def spec_l03At_l1 (N : Nat) (x1 : Disk) (x2 : ByteArray) : Nat → Int → Option ((Int) ⊕ (Unit))
 | 0,_ => none
 | m + 1,x169 =>
 (if (decide (x169 < (x1.Files.length : Int))) = true then
 (at? x1.Files x169).bind fun x188 =>
 (if (decide (x188.Name = x2)) = true then
 some (Sum.inl x169)
 else
 spec_l03At_l1 N x1 x2 m (w64 (x169 + 1)))
 else
 some (Sum.inr ()))
def spec_l03At_l1_r (N : Nat) (x1 : Disk) (x2 : ByteArray) : (List File) → Int → Option ((Int) ⊕ (Unit))
 | [],x169 =>
 some (Sum.inr ())
 | hd :: tl,x169 =>
 (some hd).bind fun x188 =>
 (if (decide (x188.Name = x2)) = true then
 some (Sum.inl x169)
 else
 spec_l03At_l1_r N x1 x2 tl (w64 (x169 + 1)))
theorem spec_l03At_l1_rng (N : Nat) (x1 : Disk) (x2 : ByteArray) (hx : x1.Files.length ≤ 1099511627776) : ∀ (d k m : Nat),x1.Files.length = k + d → d < m → spec_l03At_l1 N x1 x2 m (k : Int) = spec_l03At_l1_r N x1 x2 (x1.Files.drop k) (k : Int) := by
 intro d
 induction d with
 | zero =>
  intro k m hd hm
  obtain ⟨m,rfl⟩ : ∃ q,m = q + 1 := ⟨m - 1,by omega⟩
  rw [spec_l03At_l1,if_neg (by simp; omega),List.drop_eq_nil_of_le (by omega),spec_l03At_l1_r]
 | succ d ih =>
  intro k m hd hm
  obtain ⟨m,rfl⟩ : ∃ q,m = q + 1 := ⟨m - 1,by omega⟩
  have hk : k < x1.Files.length := by omega
  rw [spec_l03At_l1,if_pos (by simp; omega),List.drop_eq_getElem_cons hk,spec_l03At_l1_r]
  have h1 := at_lt hk
  have h2 := w64_succ (k := k) (by omega)
  have h3 := ih (k + 1) m
  simp only [h1,h2,h3 (by omega) (by omega)]
theorem spec_l03At_l1_eq {N : Nat} (x1 : Disk) (x2 : ByteArray) (hx : x1.Files.length ≤ 1099511627776) (hN : x1.Files.length < N) : spec_l03At_l1 N x1 x2 N 0 = spec_l03At_l1_r N x1 x2 x1.Files 0 := spec_l03At_l1_rng N x1 x2 hx x1.Files.length 0 N (by omega) hN
def spec_l03At (N : Nat) (x1 : Disk) (x2 : ByteArray) : Option (Int) :=
 joinP (fun (v167 : Unit) =>
 some (-1 : Int)) fun j167 =>
 (spec_l03At_l1 N x1 x2 N 0).bind (Sum.elim (fun v179 => some v179) (fun (v180 : Unit) => j167 ()))
theorem sem_spec_l03At (N : Nat) (x1 : Disk) (x2 : ByteArray) (r : Int) (h : spec_l03At N x1 x2 = some r) : Says Tryz.prog 47 [.agg [RO 80 (x1.Files.map encFile)],VS x2] 0 [] (VI r) [] := by
 unfold spec_l03At at h
 refine Says.of_norm e Tryz.call47 e fun B hB => ?_
 have hm : B.m ≤ 1000 := by omega
 refine Run.so hm (.z 1000 (.bx e e) e e (.p e (.nil (.seqO h (fun v167 => []) (fun (v167 : Unit) => []) (fun h => ?_) (fun v167 h => ?_)))))
 ·refine Run.so hm (.p e (.nil (.block ?_)))
  obtain ⟨res180,h,hk180⟩ := bindO h
  refine Run.loop (n := N) (fun m180 fr σ => ∃ (x169 : Int),spec_l03At_l1 N x1 x2 m180 x169 = some res180 ∧ fr = [(1,VS x2),(2,.ptr 0 0),(5,VI x169)] ∧ σ = [(0,.box [RO 80 (x1.Files.map encFile)])]) (gh_pk [1,2,5] [1000] hB e e e e) ⟨_,h,e,e⟩ ?_
  rintro m180 fr σ ⟨x169,h,rfl,rfl⟩
  obtain _ | m180 := m180
  ·rw [spec_l03At_l1] at h; cases h
  rw [spec_l03At_l1] at h
  refine Run.seq (.so hm (.p3 e e e (.z 9240 (Ev.lnF e) e e (.p e (.nil (.condO e h (fun g183 h => ?_) (fun g183 h => ?_)))))))
  ·refine Run.skip (.seq (.block (.so hm (.p3 e e e ?_))))
   obtain ⟨x188,hx188,h⟩ := bindO h
   refine Ops.z 17432 (Ev.iaF e e hx188) e e (.p3 e e e (.p e (.nil (.condO e h (fun g189 h => ?_) (fun g189 h => ?_)))))
   ·refine Run.so hm (.p2 e e (.nil (.ret ?_)))
    obtain rfl := someO h
    have h := hk180
    replace h := inlO h
    obtain rfl := someO h
    exact Ends.mkG (.inl e) e (gh_pk [0] [] hB e e e e) e e
   ·exact Run.skip (.ops hm (.p3 e e e (.nil (⟨m180,Nat.lt_succ_self m180,_,_,(gh_pk [1,2,5] [0] hB e e e e),_,h,e,e⟩))))
  ·refine Run.exit ?_
   obtain rfl := someO h
   have h := hk180
   replace h := inrO h
   exact ⟨_,_,(gh_pk [] [] hB e e e e),(),h,e,e⟩
 ·refine Run.so hm (.p e (.nil (.ret ?_)))
  obtain rfl := someO h
  exact Ends.mkG (.inl e) e (gh_pk [0] [] hB e e e e) e e
def spec_FileAt (N : Nat) (x1 : Disk) (x2 : ByteArray) : Option (ByteArray × Bool) :=
 (spec_l03At N x1 x2).bind fun y119 =>
 (spec_DiskOk N x1).bind fun y127 =>
 (if (!y127) = true then
 some ((⟨#[]⟩ : ByteArray),false)
 else
 (if (decide (y119 < 0)) = true then
 some ((⟨#[]⟩ : ByteArray),false)
 else
 (at? x1.Files y119).bind fun x131 =>
 some (x131.Text,true)))
theorem sem_spec_FileAt (N : Nat) (x1 : Disk) (x2 : ByteArray) (r : ByteArray × Bool) (h : spec_FileAt N x1 x2 = some r) : Says Tryz.prog 43 [.agg [RO 80 (x1.Files.map encFile)],VS x2] 0 [] (.tup [VS r.1,VB r.2]) [] := by
 unfold spec_FileAt at h
 refine Says.of_norm e Tryz.call43 e fun B hB => ?_
 have hm : B.m ≤ 1000 := by omega
 refine Run.so hm (.z 1000 (.bx e e) e e (.p2 e e (.nil (.so hm (.p2 e e ?_)))))
 obtain ⟨y119,hy119,h⟩ := bindO h
 refine Ops.z 5128 (Ev.call [] [] 0 (sem_spec_l03At _ _ _ _ hy119) e e (.cons (.agg (.d1 .nil)) (.d1 .nil)) e (.inl e) e e) e e (.p e (.nil (.seq (.so hm (.p e ?_)))))
 obtain ⟨y127,hy127,h⟩ := bindO h
 refine Ops.z 9208 (Ev.call [] [] 0 (sem_spec_DiskOk _ _ _ hy127) e e (.cons (.agg (.d1 .nil)) .nil) e (.inl e) e e) e e (.p2 e e (.askO (x := .t 13) e h (fun g128 h => ?_) (fun g128 h => ?_)))
 ·refine Ops.gn e g128 (.gn e g128 (.z 9288 (.pkT e g128 e) e e (.nil (.condT e e (.so hm (.p2 e e (.nil (.ret ?_))))))))
  obtain rfl := someO h
  exact Ends.mkG (.inl e) e (gh_pk [0,1] [] hB e e e e) e e
 ·refine Ops.gp e g128 e (.gp e g128 e (.z 9288 (.pkF e g128 e) e e (.nil (.condO e h (fun g129 h => ?_) (fun g129 h => ?_)))))
  ·refine Run.so hm (.p2 e e (.nil (.ret ?_)))
   obtain rfl := someO h
   exact Ends.mkG (.inl e) e (gh_pk [0,1] [] hB e e e e) e e
  ·refine Run.skip (.so hm (.p3 e e e ?_))
   obtain ⟨x131,hx131,h⟩ := bindO h
   refine Ops.z 17432 (Ev.iaF e e hx131) e e (.p3 e e e (.p e (.nil (.ret ?_))))
   obtain rfl := someO h
   exact Ends.mkG (.inl e) e (gh_pk [0,1] [] hB e e e e) e e
def spec_Unsealed (N : Nat) (x1 : ByteArray) : Option (ByteArray × Bool) :=
 (if (decide ((w64 ((x1.size : Int) - 4)) < 0)) = true then
 some ((⟨#[]⟩ : ByteArray),false)
 else
 (if (decide ((w64 ((x1.size : Int) - 4)) > 20000)) = true then
 some ((⟨#[]⟩ : ByteArray),false)
 else
 (sdrop? x1 (w64 ((x1.size : Int) - 4))).bind fun x149 =>
 (stake? x1 (w64 ((x1.size : Int) - 4))).bind fun x150 =>
 (spec_SumOf N x150).bind fun y151 =>
 (spec_l02Four N y151).bind fun y152 =>
 (if (!decide (x149 = y152)) = true then
 some ((⟨#[]⟩ : ByteArray),false)
 else
 (stake? x1 (w64 ((x1.size : Int) - 4))).bind fun x155 =>
 some (x155,true))))
theorem sem_spec_Unsealed (N : Nat) (x1 : ByteArray) (r : ByteArray × Bool) (h : spec_Unsealed N x1 = some r) : Says Tryz.prog 194 [VS x1] 0 [] (.tup [VS r.1,VB r.2]) [] := by
 unfold spec_Unsealed at h
 refine Says.of_norm e Tryz.call194 e fun B hB => ?_
 have hm : B.m ≤ 1000 := by omega
 refine Run.so hm (.p2 e e (.nil (.so hm (.p3 e e e (.p e (.nil (.seq (.seq (.draw hm hmix (.p e (.p e (.p e (.askO (x := .t 10) e h (fun g147 h => ?_) (fun g147 h => ?_))))))))))))))
 ·refine OpsD.gn e g147 (.gn e g147 (.z 9272 (.pkT e g147 e) e e (.p e (.gn e e (.gn e e (.gn e e (.gn e e (.gn e e (.gn e e (.gn e e (.gn e e (.gn e e (.z 9448 (.pkT e e e) e e (.nil ⟨by kernel_rfl,?_⟩))))))))))))))
  refine Run.condT e e (.so hm (.p2 e e (.nil (.ret ?_))))
  obtain rfl := someO h
  exact Ends.mkG (.inl e) e (gh_pk [0,1] [] hB e e e e) e e
 ·refine OpsD.gp e g147 e (.gp e g147 e (.z 9272 (.pkF e g147 e) e e (.p e (.askO (x := .t 14) e h (fun g148 h => ?_) (fun g148 h => ?_)))))
  ·refine OpsD.gn e g148 (.gn e g148 (.gn e g148 (.gn e g148 (.gn e g148 (.gn e g148 (.gn e g148 (.gn e g148 (.gn e g148 (.z 9448 (.pkT e g148 e) e e (.nil ⟨by kernel_rfl,?_⟩))))))))))
   refine Run.condT e e (.so hm (.p2 e e (.nil (.ret ?_))))
   obtain rfl := someO h
   exact Ends.mkG (.inl e) e (gh_pk [0,1] [] hB e e e e) e e
  ·refine OpsD.gp e g148 e (.gp e g148 e ?_)
   obtain ⟨x149,hx149,h⟩ := bindO h
   refine OpsD.gs (s := 9336) e g148 (Ev.ssL e e hx149) e e (.gp e g148 e (.gp e g148 e ?_))
   obtain ⟨x150,hx150,h⟩ := bindO h
   refine OpsD.gs (s := 9384) e g148 (Ev.ssH e e hx150) e e ?_
   obtain ⟨y151,hy151,h⟩ := bindO h
   refine OpsD.gs (s := 9400) e g148 (Ev.call [] [] 0 (sem_spec_SumOf _ _ _ hy151) e e (.d1 .nil) e (.inl e) e e) e e ?_
   obtain ⟨y152,hy152,h⟩ := bindO h
   refine OpsD.gs (s := 9416) e g148 (Ev.call [] [] 0 (sem_spec_l02Four _ _ _ hy152) e e (.d1 .nil) e (.inl e) e e) e e (.gp e g148 e (.z 9448 (.pkF e g148 e) e e (.nil ⟨by kernel_rfl,?_⟩)))
   refine Run.condO e h (fun g153 h => ?_) (fun g153 h => ?_)
   ·refine Run.so hm (.p2 e e (.nil (.ret ?_)))
    obtain rfl := someO h
    exact Ends.mkG (.inl e) e (gh_pk [0,1] [] hB e e e e) e e
   ·refine Run.skip (.so hm (.p2 e e ?_))
    obtain ⟨x155,hx155,h⟩ := bindO h
    refine Ops.z 17416 (Ev.ssH e e hx155) e e (.p2 e e (.nil (.ret ?_)))
    obtain rfl := someO h
    exact Ends.mkG (.inl e) e (gh_pk [0,1] [] hB e e e e) e e
def spec_ReadVar_l1 (N : Nat) (x1 : ByteArray) (x2 : Int) : Nat → Int → Int → Int → Option ((Int × Int × Bool) ⊕ (Unit))
 | 0,_,_,_ => none
 | m + 1,x476,x477,x478 =>
 (if (decide (x478 < (x1.size : Int))) = true then
 (if (decide (x478 < (w64 (x2 + 5)))) = true then
 (sat? x1 x478).bind fun x575 =>
 (intD .rem .i64 (w64 (x575)) 128).bind fun x576 =>
 (sat? x1 x478).bind fun x578 =>
 (if (decide (x578 < 128)) = true then
 (if (decide ((w64 (x476 + (w64 (x576 * x477)))) > 1000000000)) = true then
 some (Sum.inl (0,0,false))
 else
 (spec_l01Var N (w64 (x476 + (w64 (x576 * x477))))).bind fun y591 =>
 (scut? x1 x2 (w64 (x478 + 1))).bind fun x592 =>
 (if (!decide (y591 = x592)) = true then
 some (Sum.inl (0,0,false))
 else
 some (Sum.inl (w64 (x476 + (w64 (x576 * x477))),w64 (x478 + 1),true))))
 else
 spec_ReadVar_l1 N x1 x2 m (w64 (x476 + (w64 (x576 * x477)))) (w64 (x477 * 128)) (w64 (x478 + 1)))
 else
 some (Sum.inr ()))
 else
 some (Sum.inr ()))
def spec_ReadVar (N : Nat) (x1 : ByteArray) (x2 : Int) : Option (Int × Int × Bool) :=
 (spec_l01In N x2 0 (x1.size : Int)).bind fun y351 =>
 (if (!y351) = true then
 some (0,0,false)
 else
 joinP (fun (v473 : Unit) =>
 some (0,0,false)) fun j473 =>
 (spec_ReadVar_l1 N x1 x2 N 0 1 x2).bind (Sum.elim (fun v535 => some v535) (fun (v536 : Unit) => j473 ())))
theorem sem_spec_ReadVar (N : Nat) (x1 : ByteArray) (x2 : Int) (r : Int × Int × Bool) (h : spec_ReadVar N x1 x2 = some r) : Says Tryz.prog 148 [VS x1,VI x2] 0 [] (.tup [VI r.1,VI r.2.1,VB r.2.2]) [] := by
 unfold spec_ReadVar at h
 refine Says.of_norm e Tryz.call148 e fun B hB => ?_
 have hm : B.m ≤ 1000 := by omega
 refine Run.so hm (.p3 e e e (.nil (.seq (.so hm (.p3 e e e ?_)))))
 obtain ⟨y351,hy351,h⟩ := bindO h
 refine Ops.z 5144 (Ev.call [] [] 0 (sem_spec_l01In _ _ _ _ _ hy351) e e (.d2 (.d1 .nil)) e (.inl e) e e) e e (.p e (.nil (.condO e h (fun g352 h => ?_) (fun g352 h => ?_))))
 ·refine Run.so hm (.p3 e e e (.nil (.ret ?_)))
  obtain rfl := someO h
  exact Ends.mkG (.inl e) e (gh_pk [0,1,2] [] hB e e e e) e e
 ·refine Run.skip (.so hm (.p e (.nil (.so hm (.p e (.nil (.seqO h (fun v473 => []) (fun (v473 : Unit) => []) (fun h => ?_) (fun v473 h => ?_))))))))
  ·refine Run.so hm (.p2 e e (.nil (.block ?_)))
   obtain ⟨res536,h,hk536⟩ := bindO h
   refine Run.loop (n := N) (fun m536 fr σ => ∃ (x476 : Int),∃ (x477 : Int),∃ (x478 : Int),spec_ReadVar_l1 N x1 x2 m536 x476 x477 x478 = some res536 ∧ fr = [(0,VS x1),(1,VI x2),(7,VI x476),(8,VI x477),(9,VI x478)] ∧ σ = []) (gh_pk [0,1,7,8,9] [] hB e e e e) ⟨_,_,_,h,e,e⟩ ?_
   rintro m536 fr σ ⟨x476,x477,x478,h,rfl,rfl⟩
   obtain _ | m536 := m536
   ·rw [spec_ReadVar_l1] at h; cases h
   rw [spec_ReadVar_l1] at h
   refine Run.seq (.so hm (.p3 e e e (.p2 e e (.askO (x := .t 20) e h (fun g542 h => ?_) (fun g542 h => ?_)))))
   ·refine Ops.gp e g542 e (.gp e g542 e (.gp e g542 e (.gp e g542 e (.z 25720 (.pkT e g542 e) e e (.nil (.condO e h (fun g543 h => ?_) (fun g543 h => ?_)))))))
    ·refine Run.skip (.seq (.block (.so hm (.p3 e e e ?_))))
     obtain ⟨x575,hx575,h⟩ := bindO h
     refine Ops.z 33816 (Ev.ixS e e hx575) e e (.p e ?_)
     obtain ⟨x576,hx576,h⟩ := bindO h
     refine Ops.z 33848 (.bin e e hx576) e e (.p3 e e e (.p e (.nil (.so hm (.p3 e e e (.nil (.so hm (.p2 e e ?_))))))))
     obtain ⟨x578,hx578,h⟩ := bindO h
     refine Ops.z 41992 (Ev.ixS e e hx578) e e (.p e (.nil (.condO e h (fun g579 h => ?_) (fun g579 h => ?_))))
     ·refine Run.seq (.seq (.draw hm hmix (.p e (.p e (.p e (.askO (x := .t 45) e h (fun g590 h => ?_) (fun g590 h => ?_)))))))
      ·refine OpsD.gn e g590 (.gn e g590 (.gn e g590 (.gn e g590 (.gn e g590 (.gn e g590 (.gn e g590 (.gn e g590 (.z 46232 (.pkT e g590 e) e e (.nil ⟨by kernel_rfl,?_⟩)))))))))
       refine Run.condT e e (.so hm (.p3 e e e (.nil (.ret ?_))))
       obtain rfl := someO h
       have h := hk536
       replace h := inlO h
       obtain rfl := someO h
       exact Ends.mkG (.inl e) e (gh_pk [0,1,2] [] hB e e e e) e e
      ·refine OpsD.gp e g590 e ?_
       obtain ⟨y591,hy591,h⟩ := bindO h
       refine OpsD.gs (s := 46120) e g590 (Ev.call [] [] 0 (sem_spec_l01Var _ _ _ hy591) e e (.d1 .nil) e (.inl e) e e) e e (.gp e g590 e (.gp e g590 e (.gp e g590 e (.gp e g590 e ?_))))
       obtain ⟨x592,hx592,h⟩ := bindO h
       refine OpsD.gs (s := 46200) e g590 (Ev.ssB e e e hx592) e e (.gp e g590 e (.z 46232 (.pkF e g590 e) e e (.nil ⟨by kernel_rfl,?_⟩)))
       refine Run.condO e h (fun g593 h => ?_) (fun g593 h => ?_)
       ·refine Run.so hm (.p3 e e e (.nil (.ret ?_)))
        obtain rfl := someO h
        have h := hk536
        replace h := inlO h
        obtain rfl := someO h
        exact Ends.mkG (.inl e) e (gh_pk [0,1,2] [] hB e e e e) e e
       ·refine Run.skip (.so hm (.p3 e e e (.p3 e e e (.nil (.ret ?_)))))
        obtain rfl := someO h
        have h := hk536
        replace h := inlO h
        obtain rfl := someO h
        exact Ends.mkG (.inl e) e (gh_pk [0,1,2] [] hB e e e e) e e
     ·exact Run.skip (.ops hm (.p3 e e e (.nil (⟨m536,Nat.lt_succ_self m536,_,_,(gh_pk [0,1,7,8,9] [] hB e e e e),_,_,_,h,e,e⟩))))
    ·refine Run.exit ?_
     obtain rfl := someO h
     have h := hk536
     replace h := inrO h
     exact ⟨_,_,(gh_pk [] [] hB e e e e),(),h,e,e⟩
   ·refine Ops.gn e g542 (.gn e g542 (.gn e g542 (.gn e g542 (.z 25720 (.pkF e g542 e) e e (.nil (.condF e e (.exit ?_)))))))
    obtain rfl := someO h
    have h := hk536
    replace h := inrO h
    exact ⟨_,_,(gh_pk [] [] hB e e e e),(),h,e,e⟩
  ·refine Run.so hm (.p3 e e e (.nil (.ret ?_)))
   obtain rfl := someO h
   exact Ends.mkG (.inl e) e (gh_pk [0,1,2] [] hB e e e e) e e
def spec_l05Var (N : Nat) (x1 : Tl05Cur) : Option (Int × Tl05Cur) :=
 (spec_ReadVar N x1.text x1.at').bind fun y113 =>
 (if x1.bad = true then
 some (0,(Tl05Cur.mk x1.text x1.at' true))
 else
 (if (!y113.2.2) = true then
 some (0,(Tl05Cur.mk x1.text x1.at' true))
 else
 some (y113.1,(Tl05Cur.mk x1.text y113.2.1 x1.bad))))
theorem sem_spec_l05Var (N : Nat) (x1 : Tl05Cur) (r : Int × Tl05Cur) (h : spec_l05Var N x1 = some r) : Says Tryz.prog 93 [.ptr 0 0] 1 [(0,.box [VS x1.text,VI x1.at',VB x1.bad])] (VI r.1) [(0,.box [VS r.2.text,VI r.2.at',VB r.2.bad])] := by
 unfold spec_l05Var at h
 refine Says.of_norm e Tryz.call93 e fun B hB => ?_
 have hm : B.m ≤ 1000 := by omega
 refine Run.so hm (.p e (.nil (.seq (.draw hm hmix (.p e (.p e (.p e (.p e (.p e (.p e (.p e (.p e ?_))))))))))))
 obtain ⟨y113,hy113,h⟩ := bindO h
 refine OpsD.z 5224 (Ev.call [] [] 0 (sem_spec_ReadVar _ _ _ _ hy113) e e (.d2 .nil) e (.inl e) e e) e e (.p e (.p e (.p e (.p e (.p e (.p e (.p e (.nil ⟨by kernel_rfl,?_⟩))))))))
 refine Run.seq (.so hm (.p3 e e e (.p2 e e (.askO (x := .t 23) e h (fun g118 h => ?_) (fun g118 h => ?_)))))
 ·refine Ops.gn e g118 (.gn e g118 (.z 9304 (.pkT e g118 e) e e (.nil (.condT e e (.so hm (.p3 e e e (.y 13336 (.sto e e e e e e) e e (.nil (.so hm (.p e (.nil (.ret ?_))))))))))))
  obtain rfl := someO h
  exact Ends.mkG (.inl e) e (gh_pk [0] [0] hB e e e e) e e
 ·refine Ops.gp e g118 e (.gp e g118 e (.z 9304 (.pkF e g118 e) e e (.nil (.condO e h (fun g119 h => ?_) (fun g119 h => ?_)))))
  ·refine Run.so hm (.p3 e e e (.y 13336 (.sto e e e e e e) e e (.nil (.so hm (.p e (.nil (.ret ?_)))))))
   obtain rfl := someO h
   exact Ends.mkG (.inl e) e (gh_pk [0] [0] hB e e e e) e e
  ·refine Run.skip (.so hm (.p3 e e e (.p e (.y 21544 (.sto e e e e e e) e e (.nil (.so hm (.p2 e e (.nil (.ret ?_)))))))))
   obtain rfl := someO h
   exact Ends.mkG (.inl e) e (gh_pk [0] [0] hB e e e e) e e
def spec_ReadManifest_l1 (N : Nat) (y363 : Int × Tl05Cur) : Nat → Int → ByteArray → Int → Bool → (List Int) → Option (ByteArray × Int × Bool × (List Int))
 | 0,_,_,_,_,_ => none
 | m + 1,x421,x425,x426,x427,x433 =>
 (if (decide (x421 < y363.1)) = true then
 (if (!x427) = true then
 (if (decide (x421 ≤ 8)) = true then
 (spec_l05Var N (Tl05Cur.mk x425 x426 x427)).bind fun y471 =>
 (cat? x433 ([y471.1] : List Int)).bind fun x472 =>
 spec_ReadManifest_l1 N y363 m (w64 (x421 + 1)) y471.2.text y471.2.at' y471.2.bad x472
 else
 some (x425,x426,x427,x433))
 else
 some (x425,x426,x427,x433))
 else
 some (x425,x426,x427,x433))
def spec_ReadManifest_l2 (N : Nat) (y488 : Int × Tl05Cur) : Nat → Int → ByteArray → Int → Bool → (List Int) → Option (ByteArray × Int × Bool × (List Int))
 | 0,_,_,_,_,_ => none
 | m + 1,x546,x550,x551,x552,x559 =>
 (if (decide (x546 < y488.1)) = true then
 (if (!x552) = true then
 (if (decide (x546 ≤ 4)) = true then
 (spec_l05Var N (Tl05Cur.mk x550 x551 x552)).bind fun y596 =>
 (cat? x559 ([y596.1] : List Int)).bind fun x597 =>
 spec_ReadManifest_l2 N y488 m (w64 (x546 + 1)) y596.2.text y596.2.at' y596.2.bad x597
 else
 some (x550,x551,x552,x559))
 else
 some (x550,x551,x552,x559))
 else
 some (x550,x551,x552,x559))
def spec_ReadManifest (N : Nat) (x1 : ByteArray) : Option (Manifest × Bool) :=
 (spec_Unsealed N x1).bind fun y359 =>
 (spec_l05Var N (Tl05Cur.mk y359.1 0 (!y359.2))).bind fun y363 =>
 joinP (fun (v418 : ByteArray × Int × Bool × (List Int)) =>
 (spec_l05Var N (Tl05Cur.mk v418.1 v418.2.1 v418.2.2.1)).bind fun y476 =>
 (spec_l05Var N y476.2).bind fun y480 =>
 (spec_l05Var N y480.2).bind fun y484 =>
 (spec_l05Var N y484.2).bind fun y488 =>
 joinP (fun (v543 : ByteArray × Int × Bool × (List Int)) =>
 (spec_ManifestText N (Manifest.mk v418.2.2.2 y476.1 y480.1 y484.1 v543.2.2.2)).bind fun y601 =>
 (if v543.2.2.1 = true then
 some ((Manifest.mk ([]) 0 0 0 ([])),false)
 else
 (if (!y601.2) = true then
 some ((Manifest.mk ([]) 0 0 0 ([])),false)
 else
 (if (!decide (y601.1 = x1)) = true then
 some ((Manifest.mk ([]) 0 0 0 ([])),false)
 else
 some ((Manifest.mk v418.2.2.2 y476.1 y480.1 y484.1 v543.2.2.2),true))))) fun j543 =>
 (spec_ReadManifest_l2 N y488 N 0 y488.2.text y488.2.at' y488.2.bad ([] : (List Int))).bind (fun v578 => j543 (v578.1,v578.2.1,v578.2.2.1,v578.2.2.2))) fun j418 =>
 (spec_ReadManifest_l1 N y363 N 0 y363.2.text y363.2.at' y363.2.bad ([] : (List Int))).bind (fun v453 => j418 (v453.1,v453.2.1,v453.2.2.1,v453.2.2.2))
theorem sem_spec_ReadManifest (N : Nat) (x1 : ByteArray) (r : Manifest × Bool) (h : spec_ReadManifest N x1 = some r) : Says Tryz.prog 143 [VS x1] 0 [] (.tup [.agg [.sl 0 3 0 r.1.Segs.length,VI r.1.Next,VI r.1.Base,VI r.1.BaseTerm,.sl 1 3 0 r.1.Conf.length],VB r.2]) [(0,.vec 3 (r.1.Segs.map encI)),(1,.vec 3 (r.1.Conf.map encI))] := by
 unfold spec_ReadManifest at h
 refine Says.of_norm e Tryz.call143 e fun B hB => ?_
 have hm : B.m ≤ 1000 := by omega
 refine Run.so hm (.z 1000 (.al e e) e e (.p e (.nil (.so hm (.p e ?_)))))
 obtain ⟨y359,hy359,h⟩ := bindO h
 refine Ops.z 5112 (Ev.call [] [] 0 (sem_spec_Unsealed _ _ _ hy359) e e (.d1 .nil) e (.inl e) e e) e e (.p3 e e e (.p2 e e (.nil (.so hm (.p3 e e e (.z 9240 (.bd e e) e e (.z 9256 (.bx e e) e e (.p e (.nil (.so hm (.z 13288 (.bd e e) e e (.z 13304 (.al e e) e e (.y 13320 (.sto e e e e e e) e e (.nil (.so hm (.p e ?_))))))))))))))))
 obtain ⟨y363,hy363,h⟩ := bindO h
 refine Ops.z 17400 (Ev.call [9256] [] 0 (sem_spec_l05Var _ _ _ hy363) e e (.cons (.ptr e) .nil) e (.inl e) e e) e e (.p e (.nil (.seqO h (fun v418 => [(0,VS x1),(2,.ptr 0 0),(6,.ptr 1 0),(7,.ptr 2 0)]) (fun (v418 : ByteArray × Int × Bool × (List Int)) => [(0,.box [.sl 3 3 0 (([] : (List Int)).length),VI 0,VI 0,VI 0,.sl 4 3 0 (([] : (List Int)).length)]),(1,.box [VS v418.1,VI v418.2.1,VB v418.2.2.1]),(2,.box [.sl 5 3 0 v418.2.2.2.length,VI 0,VI 0,VI 0,.sl 6 3 0 (([] : (List Int)).length)]),(3,.vec 3 (([] : (List Int)).map encI)),(4,.vec 3 (([] : (List Int)).map encI)),(5,.vec 3 (v418.2.2.2.map encI)),(6,.vec 3 (([] : (List Int)).map encI))]) (fun h => ?_) (fun v418 h => ?_))))
 ·refine Run.so hm (.p e (.nil (.block ?_)))
  obtain ⟨res453,h,hk453⟩ := bindO h
  refine Run.loop (n := N) (fun m453 fr σ => ∃ (x421 : Int),∃ (x425 : ByteArray),∃ (x426 : Int),∃ (x427 : Bool),∃ (x433 : (List Int)),spec_ReadManifest_l1 N y363 m453 x421 x425 x426 x427 x433 = some res453 ∧ fr = [(0,VS x1),(2,.ptr 0 0),(6,.ptr 1 0),(7,.ptr 2 0),(8,VI y363.1),(9,VI x421)] ∧ σ = [(0,.box [.sl 3 3 0 (([] : (List Int)).length),VI 0,VI 0,VI 0,.sl 4 3 0 (([] : (List Int)).length)]),(1,.box [VS x425,VI x426,VB x427]),(2,.box [.sl 5 3 0 x433.length,VI 0,VI 0,VI 0,.sl 6 3 0 (([] : (List Int)).length)]),(3,.vec 3 (([] : (List Int)).map encI)),(4,.vec 3 (([] : (List Int)).map encI)),(5,.vec 3 (x433.map encI)),(6,.vec 3 (([] : (List Int)).map encI))]) (Gh.trans (Gh.trans (gh_prn [0,2,6,7,8,9] [1000,9256,13304] hB e) (gh_nil [] [1000,13304] hB e e e)) (gh_pk [0,2,6,7,8,9] [1000,9256,13304,20000000,20000001,20000064,20000065] hB e e e e)) ⟨_,_,_,_,_,h,e,e⟩ ?_
  rintro m453 fr σ ⟨x421,x425,x426,x427,x433,h,rfl,rfl⟩
  obtain _ | m453 := m453
  ·rw [spec_ReadManifest_l1] at h; cases h
  rw [spec_ReadManifest_l1] at h
  refine Run.seq (.so hm (.p3 e e e (.p e (.askO (x := .t 29) e h (fun g462 h => ?_) (fun g462 h => ?_)))))
  ·refine Ops.gp e g462 e (.gp e g462 e (.gp e g462 e (.gp e g462 e (.gp e g462 e (.z 25720 (.pkT e g462 e) e e (.p e (.askO (x := .t 36) e h (fun g463 h => ?_) (fun g463 h => ?_))))))))
   ·refine Ops.gp e g463 e (.gp e g463 e (.z 25784 (.pkT e g463 e) e e (.nil (.condO e h (fun g464 h => ?_) (fun g464 h => ?_)))))
    ·refine Run.skip (.seq (.block (.draw hm hmix (.p e (.p e (.p e ?_))))))
     obtain ⟨y471,hy471,h⟩ := bindO h
     refine OpsD.z 33816 (Ev.call [1] [] 0 (sem_spec_l05Var _ _ _ hy471) e e (.cons (.ptr e) .nil) e (.inl e) e e) e e (.z 33832 (Ev.bsW (ys := ([y471.1] : List Int)) (f := encI) e (.d1 .nil) e e e e e) e e ?_)
     obtain ⟨x472,hx472,h⟩ := bindO h
     refine OpsD.z 33848 (Ev.apW (f := encI) (ontoW e e e) (addsW e e e (fun _ => e)) e bt3 e hx472) e e (.p e (.y 33880 (.sto e e e e e e) e e (.nil ⟨by kernel_rfl,?_⟩)))
     exact Run.ops hm (.p3 e e e (.nil (⟨m453,Nat.lt_succ_self m453,_,_,(gh_pk [0,2,6,7,8,9] [0,1,2,3,4,33848,6] hB e e e e),_,_,_,_,_,h,e,e⟩)))
    ·refine Run.exit ?_
     obtain rfl := someO h
     have h := hk453
     exact ⟨_,_,(gh_pk [0,2,6,7] [0,1,2,3,4,5,6] hB e e e e),_,h,e,e⟩
   ·refine Ops.gn e g463 (.gn e g463 (.z 25784 (.pkF e g463 e) e e (.nil (.condF e e (.exit ?_)))))
    obtain rfl := someO h
    have h := hk453
    exact ⟨_,_,(gh_pk [0,2,6,7] [0,1,2,3,4,5,6] hB e e e e),_,h,e,e⟩
  ·refine Ops.gn e g462 (.gn e g462 (.gn e g462 (.gn e g462 (.gn e g462 (.z 25720 (.pkF e g462 e) e e (.p e (.gn e e (.gn e e (.z 25784 (.pkF e e e) e e (.nil (.condF e e (.exit ?_))))))))))))
   obtain rfl := someO h
   have h := hk453
   exact ⟨_,_,(gh_pk [0,2,6,7] [0,1,2,3,4,5,6] hB e e e e),_,h,e,e⟩
 ·refine Run.so hm (.p e ?_)
  obtain ⟨y476,hy476,h⟩ := bindO h
  refine Ops.z 37880 (Ev.call [1] [] 0 (sem_spec_l05Var _ _ _ hy476) e e (.cons (.ptr e) .nil) e (.inl e) e e) e e (.p e (.y 37912 (.sto e e e e e e) e e (.nil (.so hm (.p e ?_)))))
  obtain ⟨y480,hy480,h⟩ := bindO h
  refine Ops.z 41976 (Ev.call [1] [] 0 (sem_spec_l05Var _ _ _ hy480) e e (.cons (.ptr e) .nil) e (.inl e) e e) e e (.p e (.y 42008 (.sto e e e e e e) e e (.nil (.so hm (.p e ?_)))))
  obtain ⟨y484,hy484,h⟩ := bindO h
  refine Ops.z 46072 (Ev.call [1] [] 0 (sem_spec_l05Var _ _ _ hy484) e e (.cons (.ptr e) .nil) e (.inl e) e e) e e (.p e (.y 46104 (.sto e e e e e e) e e (.nil (.so hm (.p e ?_)))))
  obtain ⟨y488,hy488,h⟩ := bindO h
  refine Ops.z 50168 (Ev.call [1] [] 0 (sem_spec_l05Var _ _ _ hy488) e e (.cons (.ptr e) .nil) e (.inl e) e e) e e (.p e (.nil (.seqO h (fun v543 => [(0,VS x1),(2,.ptr 0 0),(6,.ptr 1 0),(7,.ptr 2 0)]) (fun (v543 : ByteArray × Int × Bool × (List Int)) => [(0,.box [.sl 3 3 0 (([] : (List Int)).length),VI 0,VI 0,VI 0,.sl 4 3 0 (([] : (List Int)).length)]),(1,.box [VS v543.1,VI v543.2.1,VB v543.2.2.1]),(2,.box [.sl 5 3 0 v418.2.2.2.length,VI y476.1,VI y480.1,VI y484.1,.sl 6 3 0 v543.2.2.2.length]),(3,.vec 3 (([] : (List Int)).map encI)),(4,.vec 3 (([] : (List Int)).map encI)),(5,.vec 3 (v418.2.2.2.map encI)),(6,.vec 3 (v543.2.2.2.map encI))]) (fun h => ?_) (fun v543 h => ?_))))
  ·refine Run.so hm (.p e (.nil (.block ?_)))
   obtain ⟨res578,h,hk578⟩ := bindO h
   refine Run.loop (n := N) (fun m578 fr σ => ∃ (x546 : Int),∃ (x550 : ByteArray),∃ (x551 : Int),∃ (x552 : Bool),∃ (x559 : (List Int)),spec_ReadManifest_l2 N y488 m578 x546 x550 x551 x552 x559 = some res578 ∧ fr = [(0,VS x1),(2,.ptr 0 0),(6,.ptr 1 0),(7,.ptr 2 0),(8,VI y488.1),(10,VI x546)] ∧ σ = [(0,.box [.sl 3 3 0 (([] : (List Int)).length),VI 0,VI 0,VI 0,.sl 4 3 0 (([] : (List Int)).length)]),(1,.box [VS x550,VI x551,VB x552]),(2,.box [.sl 5 3 0 v418.2.2.2.length,VI y476.1,VI y480.1,VI y484.1,.sl 6 3 0 x559.length]),(3,.vec 3 (([] : (List Int)).map encI)),(4,.vec 3 (([] : (List Int)).map encI)),(5,.vec 3 (v418.2.2.2.map encI)),(6,.vec 3 (x559.map encI))]) (gh_pk [0,2,6,7,8,10] [0,1,2,3,4,5,6] hB e e e e) ⟨_,_,_,_,_,h,e,e⟩ ?_
   rintro m578 fr σ ⟨x546,x550,x551,x552,x559,h,rfl,rfl⟩
   obtain _ | m578 := m578
   ·rw [spec_ReadManifest_l2] at h; cases h
   rw [spec_ReadManifest_l2] at h
   refine Run.seq (.so hm (.p3 e e e (.p e (.askO (x := .t 63) e h (fun g587 h => ?_) (fun g587 h => ?_)))))
   ·refine Ops.gp e g587 e (.gp e g587 e (.gp e g587 e (.gp e g587 e (.gp e g587 e (.z 58488 (.pkT e g587 e) e e (.p e (.askO (x := .t 70) e h (fun g588 h => ?_) (fun g588 h => ?_))))))))
    ·refine Ops.gp e g588 e (.gp e g588 e (.z 58552 (.pkT e g588 e) e e (.nil (.condO e h (fun g589 h => ?_) (fun g589 h => ?_)))))
     ·refine Run.skip (.seq (.block (.draw hm hmix (.p e (.p e (.p e ?_))))))
      obtain ⟨y596,hy596,h⟩ := bindO h
      refine OpsD.z 66584 (Ev.call [1] [] 0 (sem_spec_l05Var _ _ _ hy596) e e (.cons (.ptr e) .nil) e (.inl e) e e) e e (.z 66600 (Ev.bsW (ys := ([y596.1] : List Int)) (f := encI) e (.d1 .nil) e e e e e) e e ?_)
      obtain ⟨x597,hx597,h⟩ := bindO h
      refine OpsD.z 66616 (Ev.apW (f := encI) (ontoW e e e) (addsW e e e (fun _ => e)) e bt3 e hx597) e e (.p e (.y 66648 (.sto e e e e e e) e e (.nil ⟨by kernel_rfl,?_⟩)))
      exact Run.ops hm (.p3 e e e (.nil (⟨m578,Nat.lt_succ_self m578,_,_,(gh_pk [0,2,6,7,8,10] [0,1,2,3,4,5,66616] hB e e e e),_,_,_,_,_,h,e,e⟩)))
     ·refine Run.exit ?_
      obtain rfl := someO h
      have h := hk578
      exact ⟨_,_,(gh_pk [0,2,6,7] [0,1,2,3,4,5,6] hB e e e e),_,h,e,e⟩
    ·refine Ops.gn e g588 (.gn e g588 (.z 58552 (.pkF e g588 e) e e (.nil (.condF e e (.exit ?_)))))
     obtain rfl := someO h
     have h := hk578
     exact ⟨_,_,(gh_pk [0,2,6,7] [0,1,2,3,4,5,6] hB e e e e),_,h,e,e⟩
   ·refine Ops.gn e g587 (.gn e g587 (.gn e g587 (.gn e g587 (.gn e g587 (.z 58488 (.pkF e g587 e) e e (.p e (.gn e e (.gn e e (.z 58552 (.pkF e e e) e e (.nil (.condF e e (.exit ?_))))))))))))
    obtain rfl := someO h
    have h := hk578
    exact ⟨_,_,(gh_pk [0,2,6,7] [0,1,2,3,4,5,6] hB e e e e),_,h,e,e⟩
  ·refine Run.so hm (.p e ?_)
   obtain ⟨y601,hy601,h⟩ := bindO h
   refine Ops.z 70648 (Ev.call [] [5,6] 0 (sem_spec_ManifestText _ _ _ hy601) e e (.cons (.agg (.cons (.borrow e (by decide) (lendW (fun _ => e) _ e)) (.d2 (.d1 (.cons (.borrow e (by decide) (lendW (fun _ => e) _ e)) .nil))))) .nil) e (.inr ⟨e,ownL_root trivial⟩) e e) e e ?_
   refine Ops.p e (.p3 e e e (.p e (.nil (.seq (.so hm (.p3 e e e (.p2 e e (.askO (x := .t 92) e h (fun g609 h => ?_) (fun g609 h => ?_)))))))))
   ·refine Ops.gn e g609 (.gn e g609 (.z 74840 (.pkT e g609 e) e e (.p e (.gn e e (.gn e e (.gn e e (.z 74920 (.pkT e e e) e e (.nil (.condT e e (.so hm (.z 78824 (.bd e e) e e (.y 78840 (.sto e e e e e e) e e (.p e (.nil (.ret ?_)))))))))))))))
    obtain rfl := someO h
    exact Ends.mkG (.inl e) e (Gh.trans (Gh.trans (gh_prn [0,1] [] hB e) (gh_nil [0] [] hB e e e)) (gh_pk [0,1] [10000000,10000001] hB e e e e)) e e
   ·refine Ops.gp e g609 e (.gp e g609 e (.z 74840 (.pkF e g609 e) e e (.p e (.askO (x := .t 96) e h (fun g610 h => ?_) (fun g610 h => ?_)))))
    ·refine Ops.gn e g610 (.gn e g610 (.gn e g610 (.z 74920 (.pkT e g610 e) e e (.nil (.condT e e (.so hm (.z 78824 (.bd e e) e e (.y 78840 (.sto e e e e e e) e e (.p e (.nil (.ret ?_)))))))))))
     obtain rfl := someO h
     exact Ends.mkG (.inl e) e (Gh.trans (Gh.trans (gh_prn [0,1] [] hB e) (gh_nil [0] [] hB e e e)) (gh_pk [0,1] [10000000,10000001] hB e e e e)) e e
    ·refine Ops.gp e g610 e (.gp e g610 e (.gp e g610 e (.z 74920 (.pkF e g610 e) e e (.nil (.condO e h (fun g611 h => ?_) (fun g611 h => ?_))))))
     ·refine Run.so hm (.z 78824 (.bd e e) e e (.y 78840 (.sto e e e e e e) e e (.p e (.nil (.ret ?_)))))
      obtain rfl := someO h
      exact Ends.mkG (.inl e) e (Gh.trans (Gh.trans (gh_prn [0,1] [] hB e) (gh_nil [0] [] hB e e e)) (gh_pk [0,1] [10000000,10000001] hB e e e e)) e e
     ·refine Run.skip (.so hm (.p e (.y 82936 (.sto e e e e e e) e e (.p e (.nil (.ret ?_))))))
      obtain rfl := someO h
      exact Ends.mkG (.inl e) e (gh_pk [0,1] [5,6] hB e e e e) e e
def spec_l03Text (N : Nat) (x1 : Disk) (x2 : ByteArray) : Option (ByteArray) :=
 (spec_l03At N x1 x2).bind fun y111 =>
 (if (decide (y111 < 0)) = true then
 some (⟨#[]⟩ : ByteArray)
 else
 (at? x1.Files y111).bind fun x115 =>
 some x115.Text)
theorem sem_spec_l03Text (N : Nat) (x1 : Disk) (x2 : ByteArray) (r : ByteArray) (h : spec_l03Text N x1 x2 = some r) : Says Tryz.prog 48 [.agg [RO 80 (x1.Files.map encFile)],VS x2] 0 [] (VS r) [] := by
 unfold spec_l03Text at h
 refine Says.of_norm e Tryz.call48 e fun B hB => ?_
 have hm : B.m ≤ 1000 := by omega
 refine Run.so hm (.z 1000 (.bx e e) e e (.p e (.nil (.so hm (.p2 e e ?_)))))
 obtain ⟨y111,hy111,h⟩ := bindO h
 refine Ops.z 5128 (Ev.call [] [] 0 (sem_spec_l03At _ _ _ _ hy111) e e (.cons (.agg (.d1 .nil)) (.d1 .nil)) e (.inl e) e e) e e (.p e (.nil (.seq (.so hm (.p2 e e (.nil (.condO e h (fun g113 h => ?_) (fun g113 h => ?_))))))))
 ·refine Run.so hm (.p e (.nil (.ret ?_)))
  obtain rfl := someO h
  exact Ends.mkG (.inl e) e (gh_pk [0] [] hB e e e e) e e
 ·refine Run.skip (.so hm (.p3 e e e ?_))
  obtain ⟨x115,hx115,h⟩ := bindO h
  refine Ops.z 17432 (Ev.iaF e e hx115) e e (.p3 e e e (.nil (.ret ?_)))
  obtain rfl := someO h
  exact Ends.mkG (.inl e) e (gh_pk [0] [] hB e e e e) e e
def spec_Unframe_l1 (N : Nat) (x1 : ByteArray) : Nat → Int → (List ByteArray) → Option (((List ByteArray) × Int) ⊕ (Int × (List ByteArray)))
 | 0,_,_ => none
 | m + 1,x329,x330 =>
 (if (decide (x329 < (x1.size : Int))) = true then
 (spec_ReadVar N x1 x329).bind fun y373 =>
 (if (!y373.2.2) = true then
 some (Sum.inl (x330,x329))
 else
 (if (decide (y373.1 > (w64 ((w64 ((x1.size : Int) - y373.2.1)) - 4)))) = true then
 some (Sum.inl (x330,x329))
 else
 (scut? x1 (w64 (y373.2.1 + 4)) (w64 ((w64 (y373.2.1 + 4)) + y373.1))).bind fun x383 =>
 (spec_Frame N x383).bind fun y387 =>
 (if (!y387.2) = true then
 some (Sum.inl (x330,x329))
 else
 (scut? x1 x329 (w64 ((w64 (y373.2.1 + 4)) + y373.1))).bind fun x396 =>
 (if (!decide (y387.1 = x396)) = true then
 some (Sum.inl (x330,x329))
 else
 (cat? x330 ([x383] : List ByteArray)).bind fun x401 =>
 spec_Unframe_l1 N x1 m (w64 ((w64 (y373.2.1 + 4)) + y373.1)) x401))))
 else
 some (Sum.inr (x329,x330)))
def spec_Unframe (N : Nat) (x1 : ByteArray) : Option ((List ByteArray) × Int) :=
 (if (decide ((x1.size : Int) > 20000)) = true then
 some (([] : List ByteArray),0)
 else
 joinP (fun (v327 : Int × (List ByteArray)) =>
 some (v327.2,v327.1)) fun j327 =>
 (spec_Unframe_l1 N x1 N 0 ([] : List ByteArray)).bind (Sum.elim (fun v365 => some v365) (fun (v366 : Int × (List ByteArray)) => j327 (v366.1,v366.2))))
theorem sem_spec_Unframe (N : Nat) (x1 : ByteArray) (r : (List ByteArray) × Int) (h : spec_Unframe N x1 = some r) : Says Tryz.prog 88 [VS x1] 0 [] (.tup [.sl 0 9 0 r.1.length,VI r.2]) [(0,.vec 9 (r.1.map encS))] := by
 unfold spec_Unframe at h
 refine Says.of_norm e Tryz.call88 e fun B hB => ?_
 have hm : B.m ≤ 1000 := by omega
 refine Run.so hm (.p2 e e (.nil (.so hm (.z 5096 (Ev.bsW (ys := ([] : List ByteArray)) (f := encS) e .nil e e e e e) e e (.p e (.nil (.so hm (.p e (.nil (.seq (.so hm (.p3 e e e (.nil (.condO e h (fun g252 h => ?_) (fun g252 h => ?_)))))))))))))))
 ·refine Run.so hm (.p3 e e e (.nil (.ret ?_)))
  obtain rfl := someO h
  exact Ends.mkG (.inl e) e (gh_pk [0,1] [5096] hB e e e e) e e
 ·refine Run.skip (.seqO h (fun v327 => [(4,.sl 0 9 0 v327.2.length),(5,VI v327.1)]) (fun (v327 : Int × (List ByteArray)) => [(0,.vec 9 (v327.2.map encS))]) (fun h => ?_) (fun v327 h => ?_))
  ·refine Run.block ?_
   obtain ⟨res366,h,hk366⟩ := bindO h
   refine Run.loop (n := N) (fun m366 fr σ => ∃ (x329 : Int),∃ (x330 : (List ByteArray)),spec_Unframe_l1 N x1 m366 x329 x330 = some res366 ∧ fr = [(0,VS x1),(4,.sl 0 9 0 x330.length),(5,VI x329)] ∧ σ = [(0,.vec 9 (x330.map encS))]) (gh_pk [0,4,5] [5096] hB e e e e) ⟨_,_,h,e,e⟩ ?_
   rintro m366 fr σ ⟨x329,x330,h,rfl,rfl⟩
   obtain _ | m366 := m366
   ·rw [spec_Unframe_l1] at h; cases h
   rw [spec_Unframe_l1] at h
   refine Run.seq (.so hm (.p3 e e e (.p e (.nil (.condO e h (fun g369 h => ?_) (fun g369 h => ?_))))))
   ·refine Run.skip (.block (.so hm (.p2 e e ?_)))
    obtain ⟨y373,hy373,h⟩ := bindO h
    refine Ops.z 25608 (Ev.call [] [] 0 (sem_spec_ReadVar _ _ _ _ hy373) e e (.d2 .nil) e (.inl e) e e) e e (.p3 e e e (.p3 e e e (.p e (.nil (.seq (.so hm (.p3 e e e (.askO (x := .t 30) e h (fun g378 h => ?_) (fun g378 h => ?_)))))))))
    ·refine Ops.gn e g378 (.gn e g378 (.gn e g378 (.gn e g378 (.gn e g378 (.gn e g378 (.gn e g378 (.z 29832 (.pkT e g378 e) e e (.nil (.condT e e (.so hm (.p3 e e e (.p e (.nil (.ret ?_))))))))))))))
     obtain rfl := someO h
     have h := hk366
     replace h := inlO h
     obtain rfl := someO h
     exact Ends.mkG (.inl e) e (gh_pk [0,1] [0] hB e e e e) e e
    ·refine Ops.gp e g378 e (.gp e g378 e (.gp e g378 e (.gp e g378 e (.gp e g378 e (.gp e g378 e (.gp e g378 e (.z 29832 (.pkF e g378 e) e e (.nil (.condO e h (fun g379 h => ?_) (fun g379 h => ?_))))))))))
     ·refine Run.so hm (.p3 e e e (.p e (.nil (.ret ?_))))
      obtain rfl := someO h
      have h := hk366
      replace h := inlO h
      obtain rfl := someO h
      exact Ends.mkG (.inl e) e (gh_pk [0,1] [0] hB e e e e) e e
     ·refine Run.skip (.so hm (.p3 e e e (.p3 e e e (.p e ?_))))
      obtain ⟨x383,hx383,h⟩ := bindO h
      refine Ops.z 37976 (Ev.ssB e e e hx383) e e (.p e (.nil (.so hm (.p e ?_))))
      obtain ⟨y387,hy387,h⟩ := bindO h
      refine Ops.z 41976 (Ev.call [] [] 0 (sem_spec_Frame _ _ _ hy387) e e (.d1 .nil) e (.inl e) e e) e e (.p3 e e e (.p2 e e (.nil (.seq (.so hm (.p3 e e e (.askO (x := .t 56) e h (fun g395 h => ?_) (fun g395 h => ?_))))))))
      ·refine Ops.gn e g395 (.gn e g395 (.gn e g395 (.gn e g395 (.gn e g395 (.gn e g395 (.gn e g395 (.gn e g395 (.gn e g395 (.z 46248 (.pkT e g395 e) e e (.nil (.condT e e (.so hm (.p3 e e e (.p e (.nil (.ret ?_))))))))))))))))
       obtain rfl := someO h
       have h := hk366
       replace h := inlO h
       obtain rfl := someO h
       exact Ends.mkG (.inl e) e (gh_pk [0,1] [0] hB e e e e) e e
      ·refine Ops.gp e g395 e (.gp e g395 e (.gp e g395 e (.gp e g395 e (.gp e g395 e (.gp e g395 e (.gp e g395 e ?_))))))
       obtain ⟨x396,hx396,h⟩ := bindO h
       refine Ops.gs (s := 46216) e g395 (Ev.ssB e e e hx396) e e (.gp e g395 e (.z 46248 (.pkF e g395 e) e e (.nil (.condO e h (fun g397 h => ?_) (fun g397 h => ?_)))))
       ·refine Run.so hm (.p3 e e e (.p e (.nil (.ret ?_))))
        obtain rfl := someO h
        have h := hk366
        replace h := inlO h
        obtain rfl := someO h
        exact Ends.mkG (.inl e) e (gh_pk [0,1] [0] hB e e e e) e e
       ·refine Run.skip (.so hm (.p2 e e (.z 54280 (Ev.bsW (ys := ([x383] : List ByteArray)) (f := encS) e (.d1 .nil) e e e e e) e e ?_)))
        obtain ⟨x401,hx401,h⟩ := bindO h
        exact Ops.z 54296 (Ev.apW (f := encS) (ontoW e e e) (addsW e e e (fun _ => e)) e bt9 e hx401) e e (.p e (.nil (.ops hm (.p3 e e e (.p2 e e (.nil (⟨m366,Nat.lt_succ_self m366,_,_,(gh_pk [0,4,5] [54296] hB e e e e),_,_,h,e,e⟩)))))))
   ·refine Run.exit ?_
    obtain rfl := someO h
    have h := hk366
    replace h := inrO h
    exact ⟨_,_,(gh_pk [4,5] [0] hB e e e e),_,h,e,e⟩
  ·refine Run.so hm (.p3 e e e (.p e (.nil (.ret ?_))))
   obtain rfl := someO h
   exact Ends.mkG (.inl e) e (gh_pk [0,1] [0] hB e e e e) e e
end Go.Proofs.YteiimlnnaioocaaGreatDoor.Pe.FnExactWorldNew
