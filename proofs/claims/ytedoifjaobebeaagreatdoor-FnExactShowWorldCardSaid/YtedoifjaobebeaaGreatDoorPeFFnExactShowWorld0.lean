/- Functions,as pure functions; and that Go does just that. -/
import Derived.Test.YtedoifjaobebeaaGreatDoorPeTy
import Derived.Test.YtedoifjaobebeaaGreatDoorPeNorm
import Derived.Test.YtedoifjaobebeaaGreatDoorPeSpec
import Derived.Test.YtedoifjaobebeaaGreatDoorShelf
import Derived.Test.YtedoifjaobebeaaGreatDoorPeSFnExactShowWorld
namespace Go.Proofs.YtedoifjaobebeaaGreatDoor.Pe.FnExactShowWorld
open Go Go.RowKit
set_option linter.unusedVariables false
set_option linter.unusedSimpArgs false
set_option maxHeartbeats 40000000
set_option maxRecDepth 100000
theorem hmix : Tryz.prog.follows .mixedOrders = true := by kernel_rfl
structure Entry where
 Term : Int
 Kind : Int
 Data : ByteArray
abbrev encEntry (x : Entry) : List C := [.i .i64 x.Term,.i .i64 x.Kind,.s x.Data]
structure Log where
 Start : Int
 StartTerm : Int
 Entries : (List Entry)
abbrev encLogL (o : Bool) (x : Log) : List C := [.i .i64 x.Start,.i .i64 x.StartTerm,.row o 97 (x.Entries.map encEntry)]
theorem ro_encLogL (x : Log) : roCs (encLogL true x) = encLogL false x := by simp only [encLogL,roCs,roC,roRows_mapf (fun _ => rfl)]
theorem ro2_encLogL (x : Log) : roCs (encLogL false x) = encLogL false x := by simp only [encLogL,roCs,roC,roRows_mapf (fun _ => rfl)]
theorem own_encLogL (x : Log) : ownCs (encLogL true x) = true := by simp only [encLogL,ownCs,ownC,Bool.and_self,Bool.and_true,Bool.true_and,own_rows (f := encEntry) (fun _ => rfl)]
structure Peer where
 Id : Int
 Next : Int
 Match : Int
 Sent : Int
abbrev encPeer (x : Peer) : List C := [.i .i64 x.Id,.i .i64 x.Next,.i .i64 x.Match,.i .i64 x.Sent]
structure Node where
 Id : Int
 Term : Int
 Vote : Int
 Role : Int
 Lead : Int
 Conf : (List Int)
 Log : Log
 Commit : Int
 Clock : Int
 Limit : Int
 Votes : (List Int)
 Peers : (List Peer)
abbrev encNodeL (o : Bool) (x : Node) : List C := [.i .i64 x.Id,.i .i64 x.Term,.i .i64 x.Vote,.i .i64 x.Role,.i .i64 x.Lead,.row o 3 (x.Conf.map encI),.i .i64 x.Log.Start,.i .i64 x.Log.StartTerm,.row o 97 (x.Log.Entries.map encEntry),.i .i64 x.Commit,.i .i64 x.Clock,.i .i64 x.Limit,.row o 3 (x.Votes.map encI),.row o 188 (x.Peers.map encPeer)]
theorem ro_encNodeL (x : Node) : roCs (encNodeL true x) = encNodeL false x := by simp only [encNodeL,roCs,roC,roRows_mapf (fun _ => rfl),roRows_mapf (fun _ => rfl),roRows_mapf (fun _ => rfl),roRows_mapf (fun _ => rfl)]
theorem ro2_encNodeL (x : Node) : roCs (encNodeL false x) = encNodeL false x := by simp only [encNodeL,roCs,roC,roRows_mapf (fun _ => rfl),roRows_mapf (fun _ => rfl),roRows_mapf (fun _ => rfl),roRows_mapf (fun _ => rfl)]
theorem own_encNodeL (x : Node) : ownCs (encNodeL true x) = true := by simp only [encNodeL,ownCs,ownC,Bool.and_self,Bool.and_true,Bool.true_and,own_rows (f := encI) (fun _ => rfl),own_rows (f := encEntry) (fun _ => rfl),own_rows (f := encI) (fun _ => rfl),own_rows (f := encPeer) (fun _ => rfl)]
structure File where
 Name : ByteArray
 Text : ByteArray
abbrev encFile (x : File) : List C := [.s x.Name,.s x.Text]
structure Disk where
 Files : (List File)
abbrev encDiskL (o : Bool) (x : Disk) : List C := [.row o 181 (x.Files.map encFile)]
theorem ro_encDiskL (x : Disk) : roCs (encDiskL true x) = encDiskL false x := by simp only [encDiskL,roCs,roC,roRows_mapf (fun _ => rfl)]
theorem ro2_encDiskL (x : Disk) : roCs (encDiskL false x) = encDiskL false x := by simp only [encDiskL,roCs,roC,roRows_mapf (fun _ => rfl)]
theorem own_encDiskL (x : Disk) : ownCs (encDiskL true x) = true := by simp only [encDiskL,ownCs,ownC,Bool.and_self,Bool.and_true,Bool.true_and,own_rows (f := encFile) (fun _ => rfl)]
structure Manifest where
 Segs : (List Int)
 Next : Int
 Base : Int
 BaseTerm : Int
 Conf : (List Int)
abbrev encManifestL (o : Bool) (x : Manifest) : List C := [.row o 3 (x.Segs.map encI),.i .i64 x.Next,.i .i64 x.Base,.i .i64 x.BaseTerm,.row o 3 (x.Conf.map encI)]
theorem ro_encManifestL (x : Manifest) : roCs (encManifestL true x) = encManifestL false x := by simp only [encManifestL,roCs,roC,roRows_mapf (fun _ => rfl),roRows_mapf (fun _ => rfl)]
theorem ro2_encManifestL (x : Manifest) : roCs (encManifestL false x) = encManifestL false x := by simp only [encManifestL,roCs,roC,roRows_mapf (fun _ => rfl),roRows_mapf (fun _ => rfl)]
theorem own_encManifestL (x : Manifest) : ownCs (encManifestL true x) = true := by simp only [encManifestL,ownCs,ownC,Bool.and_self,Bool.and_true,Bool.true_and,own_rows (f := encI) (fun _ => rfl),own_rows (f := encI) (fun _ => rfl)]
structure Spot where
 Key : ByteArray
 Seg : Int
 At : Int
 Size : Int
abbrev encSpot (x : Spot) : List C := [.s x.Key,.i .i64 x.Seg,.i .i64 x.At,.i .i64 x.Size]
structure Shelf where
 Man : Manifest
 Dir : (List Spot)
 Stamp : Int
abbrev encShelfL (o : Bool) (x : Shelf) : List C := [.row o 3 (x.Man.Segs.map encI),.i .i64 x.Man.Next,.i .i64 x.Man.Base,.i .i64 x.Man.BaseTerm,.row o 3 (x.Man.Conf.map encI),.row o 184 (x.Dir.map encSpot),.i .i64 x.Stamp]
theorem ro_encShelfL (x : Shelf) : roCs (encShelfL true x) = encShelfL false x := by simp only [encShelfL,roCs,roC,roRows_mapf (fun _ => rfl),roRows_mapf (fun _ => rfl),roRows_mapf (fun _ => rfl)]
theorem ro2_encShelfL (x : Shelf) : roCs (encShelfL false x) = encShelfL false x := by simp only [encShelfL,roCs,roC,roRows_mapf (fun _ => rfl),roRows_mapf (fun _ => rfl),roRows_mapf (fun _ => rfl)]
theorem own_encShelfL (x : Shelf) : ownCs (encShelfL true x) = true := by simp only [encShelfL,ownCs,ownC,Bool.and_self,Bool.and_true,Bool.true_and,own_rows (f := encI) (fun _ => rfl),own_rows (f := encI) (fun _ => rfl),own_rows (f := encSpot) (fun _ => rfl)]
structure Server where
 Node : Node
 Disk : Disk
 Shelf : Shelf
 Stage : ByteArray
 StageAt : Int
 StageTerm : Int
abbrev encServerL (o : Bool) (x : Server) : List C := [.i .i64 x.Node.Id,.i .i64 x.Node.Term,.i .i64 x.Node.Vote,.i .i64 x.Node.Role,.i .i64 x.Node.Lead,.row o 3 (x.Node.Conf.map encI),.i .i64 x.Node.Log.Start,.i .i64 x.Node.Log.StartTerm,.row o 97 (x.Node.Log.Entries.map encEntry),.i .i64 x.Node.Commit,.i .i64 x.Node.Clock,.i .i64 x.Node.Limit,.row o 3 (x.Node.Votes.map encI),.row o 188 (x.Node.Peers.map encPeer),.row o 181 (x.Disk.Files.map encFile),.row o 3 (x.Shelf.Man.Segs.map encI),.i .i64 x.Shelf.Man.Next,.i .i64 x.Shelf.Man.Base,.i .i64 x.Shelf.Man.BaseTerm,.row o 3 (x.Shelf.Man.Conf.map encI),.row o 184 (x.Shelf.Dir.map encSpot),.i .i64 x.Shelf.Stamp,.s x.Stage,.i .i64 x.StageAt,.i .i64 x.StageTerm]
theorem ro_encServerL (x : Server) : roCs (encServerL true x) = encServerL false x := by simp only [encServerL,roCs,roC,roRows_mapf (fun _ => rfl),roRows_mapf (fun _ => rfl),roRows_mapf (fun _ => rfl),roRows_mapf (fun _ => rfl),roRows_mapf (fun _ => rfl),roRows_mapf (fun _ => rfl),roRows_mapf (fun _ => rfl),roRows_mapf (fun _ => rfl)]
theorem ro2_encServerL (x : Server) : roCs (encServerL false x) = encServerL false x := by simp only [encServerL,roCs,roC,roRows_mapf (fun _ => rfl),roRows_mapf (fun _ => rfl),roRows_mapf (fun _ => rfl),roRows_mapf (fun _ => rfl),roRows_mapf (fun _ => rfl),roRows_mapf (fun _ => rfl),roRows_mapf (fun _ => rfl),roRows_mapf (fun _ => rfl)]
theorem own_encServerL (x : Server) : ownCs (encServerL true x) = true := by simp only [encServerL,ownCs,ownC,Bool.and_self,Bool.and_true,Bool.true_and,own_rows (f := encI) (fun _ => rfl),own_rows (f := encEntry) (fun _ => rfl),own_rows (f := encI) (fun _ => rfl),own_rows (f := encPeer) (fun _ => rfl),own_rows (f := encFile) (fun _ => rfl),own_rows (f := encI) (fun _ => rfl),own_rows (f := encI) (fun _ => rfl),own_rows (f := encSpot) (fun _ => rfl)]
structure Message where
 Kind : Int
 From : Int
 To : Int
 Term : Int
 Index : Int
 LogTerm : Int
 Commit : Int
 Ok : Bool
 Entries : (List Entry)
 Conf : (List Int)
 Data : ByteArray
 Last : Bool
abbrev encMessageL (o : Bool) (x : Message) : List C := [.i .i64 x.Kind,.i .i64 x.From,.i .i64 x.To,.i .i64 x.Term,.i .i64 x.Index,.i .i64 x.LogTerm,.i .i64 x.Commit,.b x.Ok,.row o 97 (x.Entries.map encEntry),.row o 3 (x.Conf.map encI),.s x.Data,.b x.Last]
theorem ro_encMessageL (x : Message) : roCs (encMessageL true x) = encMessageL false x := by simp only [encMessageL,roCs,roC,roRows_mapf (fun _ => rfl),roRows_mapf (fun _ => rfl)]
theorem ro2_encMessageL (x : Message) : roCs (encMessageL false x) = encMessageL false x := by simp only [encMessageL,roCs,roC,roRows_mapf (fun _ => rfl),roRows_mapf (fun _ => rfl)]
theorem own_encMessageL (x : Message) : ownCs (encMessageL true x) = true := by simp only [encMessageL,ownCs,ownC,Bool.and_self,Bool.and_true,Bool.true_and,own_rows (f := encEntry) (fun _ => rfl),own_rows (f := encI) (fun _ => rfl)]
structure Wait where
 Node : Int
 Index : Int
 Term : Int
 Call : Int
abbrev encWait (x : Wait) : List C := [.i .i64 x.Node,.i .i64 x.Index,.i .i64 x.Term,.i .i64 x.Call]
structure Leader where
 Node : Int
 Term : Int
 Log : Log
abbrev encLeaderL (o : Bool) (x : Leader) : List C := [.i .i64 x.Node,.i .i64 x.Term,.i .i64 x.Log.Start,.i .i64 x.Log.StartTerm,.row o 97 (x.Log.Entries.map encEntry)]
theorem ro_encLeaderL (x : Leader) : roCs (encLeaderL true x) = encLeaderL false x := by simp only [encLeaderL,roCs,roC,roRows_mapf (fun _ => rfl)]
theorem ro2_encLeaderL (x : Leader) : roCs (encLeaderL false x) = encLeaderL false x := by simp only [encLeaderL,roCs,roC,roRows_mapf (fun _ => rfl)]
theorem own_encLeaderL (x : Leader) : ownCs (encLeaderL true x) = true := by simp only [encLeaderL,ownCs,ownC,Bool.and_self,Bool.and_true,Bool.true_and,own_rows (f := encEntry) (fun _ => rfl)]
structure Applied where
 Node : Int
 Term : Int
 Index : Int
 Entry : Entry
abbrev encApplied (x : Applied) : List C := [.i .i64 x.Node,.i .i64 x.Term,.i .i64 x.Index,.i .i64 x.Entry.Term,.i .i64 x.Entry.Kind,.s x.Entry.Data]
structure Command where
 Op : Int
 Session : Int
 Seq : Int
 Key : ByteArray
 Value : ByteArray
 Old : ByteArray
abbrev encCommand (x : Command) : List C := [.i .i64 x.Op,.i .i64 x.Session,.i .i64 x.Seq,.s x.Key,.s x.Value,.s x.Old]
structure Reply where
 Call : Int
 Index : Int
 Command : Command
 Text : ByteArray
abbrev encReply (x : Reply) : List C := [.i .i64 x.Call,.i .i64 x.Index,.i .i64 x.Command.Op,.i .i64 x.Command.Session,.i .i64 x.Command.Seq,.s x.Command.Key,.s x.Command.Value,.s x.Command.Old,.s x.Text]
structure World where
 Up : (List Bool)
 Servers : (List Server)
 Net : (List Message)
 Waits : (List Wait)
 Leaders : (List Leader)
 Applied : (List Applied)
 Replies : (List Reply)
abbrev encWorldL (o : Bool) (x : World) : List C := [.row o 4 (x.Up.map encB),.row o 88 (x.Servers.map (encServerL o)),.row o 91 (x.Net.map (encMessageL o)),.row o 127 (x.Waits.map encWait),.row o 94 (x.Leaders.map (encLeaderL o)),.row o 99 (x.Applied.map encApplied),.row o 103 (x.Replies.map encReply)]
theorem ro_encWorldL (x : World) : roCs (encWorldL true x) = encWorldL false x := by simp only [encWorldL,roCs,roC,roRows_mapf (fun _ => rfl),roRows_mapf ro_encServerL,roRows_mapf ro_encMessageL,roRows_mapf (fun _ => rfl),roRows_mapf ro_encLeaderL,roRows_mapf (fun _ => rfl),roRows_mapf (fun _ => rfl)]
theorem ro2_encWorldL (x : World) : roCs (encWorldL false x) = encWorldL false x := by simp only [encWorldL,roCs,roC,roRows_mapf (fun _ => rfl),roRows_mapf ro2_encServerL,roRows_mapf ro2_encMessageL,roRows_mapf (fun _ => rfl),roRows_mapf ro2_encLeaderL,roRows_mapf (fun _ => rfl),roRows_mapf (fun _ => rfl)]
theorem own_encWorldL (x : World) : ownCs (encWorldL true x) = true := by simp only [encWorldL,ownCs,ownC,Bool.and_self,Bool.and_true,Bool.true_and,own_rows (f := encB) (fun _ => rfl),own_rows (f := (encServerL true)) own_encServerL,own_rows (f := (encMessageL true)) own_encMessageL,own_rows (f := encWait) (fun _ => rfl),own_rows (f := (encLeaderL true)) own_encLeaderL,own_rows (f := encApplied) (fun _ => rfl),own_rows (f := encReply) (fun _ => rfl)]
abbrev encLog (o : Bool) (x : Log) : List C := [.i .i64 x.Start,.i .i64 x.StartTerm,.row o 131 (x.Entries.map encEntry)]
theorem ro_encLog (x : Log) : roCs (encLog true x) = encLog false x := by simp only [encLog,roCs,roC,roRows_mapf (fun _ => rfl)]
theorem ro2_encLog (x : Log) : roCs (encLog false x) = encLog false x := by simp only [encLog,roCs,roC,roRows_mapf (fun _ => rfl)]
theorem own_encLog (x : Log) : ownCs (encLog true x) = true := by simp only [encLog,ownCs,ownC,Bool.and_self,Bool.and_true,Bool.true_and,own_rows (f := encEntry) (fun _ => rfl)]
abbrev encNode (o : Bool) (x : Node) : List C := [.i .i64 x.Id,.i .i64 x.Term,.i .i64 x.Vote,.i .i64 x.Role,.i .i64 x.Lead,.row o 3 (x.Conf.map encI),.i .i64 x.Log.Start,.i .i64 x.Log.StartTerm,.row o 131 (x.Log.Entries.map encEntry),.i .i64 x.Commit,.i .i64 x.Clock,.i .i64 x.Limit,.row o 3 (x.Votes.map encI),.row o 186 (x.Peers.map encPeer)]
theorem ro_encNode (x : Node) : roCs (encNode true x) = encNode false x := by simp only [encNode,roCs,roC,roRows_mapf (fun _ => rfl),roRows_mapf (fun _ => rfl),roRows_mapf (fun _ => rfl),roRows_mapf (fun _ => rfl)]
theorem ro2_encNode (x : Node) : roCs (encNode false x) = encNode false x := by simp only [encNode,roCs,roC,roRows_mapf (fun _ => rfl),roRows_mapf (fun _ => rfl),roRows_mapf (fun _ => rfl),roRows_mapf (fun _ => rfl)]
theorem own_encNode (x : Node) : ownCs (encNode true x) = true := by simp only [encNode,ownCs,ownC,Bool.and_self,Bool.and_true,Bool.true_and,own_rows (f := encI) (fun _ => rfl),own_rows (f := encEntry) (fun _ => rfl),own_rows (f := encI) (fun _ => rfl),own_rows (f := encPeer) (fun _ => rfl)]
abbrev encDisk (o : Bool) (x : Disk) : List C := [.row o 189 (x.Files.map encFile)]
theorem ro_encDisk (x : Disk) : roCs (encDisk true x) = encDisk false x := by simp only [encDisk,roCs,roC,roRows_mapf (fun _ => rfl)]
theorem ro2_encDisk (x : Disk) : roCs (encDisk false x) = encDisk false x := by simp only [encDisk,roCs,roC,roRows_mapf (fun _ => rfl)]
theorem own_encDisk (x : Disk) : ownCs (encDisk true x) = true := by simp only [encDisk,ownCs,ownC,Bool.and_self,Bool.and_true,Bool.true_and,own_rows (f := encFile) (fun _ => rfl)]
abbrev encManifest (o : Bool) (x : Manifest) : List C := [.row o 3 (x.Segs.map encI),.i .i64 x.Next,.i .i64 x.Base,.i .i64 x.BaseTerm,.row o 3 (x.Conf.map encI)]
theorem ro_encManifest (x : Manifest) : roCs (encManifest true x) = encManifest false x := by simp only [encManifest,roCs,roC,roRows_mapf (fun _ => rfl),roRows_mapf (fun _ => rfl)]
theorem ro2_encManifest (x : Manifest) : roCs (encManifest false x) = encManifest false x := by simp only [encManifest,roCs,roC,roRows_mapf (fun _ => rfl),roRows_mapf (fun _ => rfl)]
theorem own_encManifest (x : Manifest) : ownCs (encManifest true x) = true := by simp only [encManifest,ownCs,ownC,Bool.and_self,Bool.and_true,Bool.true_and,own_rows (f := encI) (fun _ => rfl),own_rows (f := encI) (fun _ => rfl)]
abbrev encShelf (o : Bool) (x : Shelf) : List C := [.row o 3 (x.Man.Segs.map encI),.i .i64 x.Man.Next,.i .i64 x.Man.Base,.i .i64 x.Man.BaseTerm,.row o 3 (x.Man.Conf.map encI),.row o 191 (x.Dir.map encSpot),.i .i64 x.Stamp]
theorem ro_encShelf (x : Shelf) : roCs (encShelf true x) = encShelf false x := by simp only [encShelf,roCs,roC,roRows_mapf (fun _ => rfl),roRows_mapf (fun _ => rfl),roRows_mapf (fun _ => rfl)]
theorem ro2_encShelf (x : Shelf) : roCs (encShelf false x) = encShelf false x := by simp only [encShelf,roCs,roC,roRows_mapf (fun _ => rfl),roRows_mapf (fun _ => rfl),roRows_mapf (fun _ => rfl)]
theorem own_encShelf (x : Shelf) : ownCs (encShelf true x) = true := by simp only [encShelf,ownCs,ownC,Bool.and_self,Bool.and_true,Bool.true_and,own_rows (f := encI) (fun _ => rfl),own_rows (f := encI) (fun _ => rfl),own_rows (f := encSpot) (fun _ => rfl)]
abbrev encServer (o : Bool) (x : Server) : List C := [.i .i64 x.Node.Id,.i .i64 x.Node.Term,.i .i64 x.Node.Vote,.i .i64 x.Node.Role,.i .i64 x.Node.Lead,.row o 3 (x.Node.Conf.map encI),.i .i64 x.Node.Log.Start,.i .i64 x.Node.Log.StartTerm,.row o 131 (x.Node.Log.Entries.map encEntry),.i .i64 x.Node.Commit,.i .i64 x.Node.Clock,.i .i64 x.Node.Limit,.row o 3 (x.Node.Votes.map encI),.row o 186 (x.Node.Peers.map encPeer),.row o 189 (x.Disk.Files.map encFile),.row o 3 (x.Shelf.Man.Segs.map encI),.i .i64 x.Shelf.Man.Next,.i .i64 x.Shelf.Man.Base,.i .i64 x.Shelf.Man.BaseTerm,.row o 3 (x.Shelf.Man.Conf.map encI),.row o 191 (x.Shelf.Dir.map encSpot),.i .i64 x.Shelf.Stamp,.s x.Stage,.i .i64 x.StageAt,.i .i64 x.StageTerm]
theorem ro_encServer (x : Server) : roCs (encServer true x) = encServer false x := by simp only [encServer,roCs,roC,roRows_mapf (fun _ => rfl),roRows_mapf (fun _ => rfl),roRows_mapf (fun _ => rfl),roRows_mapf (fun _ => rfl),roRows_mapf (fun _ => rfl),roRows_mapf (fun _ => rfl),roRows_mapf (fun _ => rfl),roRows_mapf (fun _ => rfl)]
theorem ro2_encServer (x : Server) : roCs (encServer false x) = encServer false x := by simp only [encServer,roCs,roC,roRows_mapf (fun _ => rfl),roRows_mapf (fun _ => rfl),roRows_mapf (fun _ => rfl),roRows_mapf (fun _ => rfl),roRows_mapf (fun _ => rfl),roRows_mapf (fun _ => rfl),roRows_mapf (fun _ => rfl),roRows_mapf (fun _ => rfl)]
theorem own_encServer (x : Server) : ownCs (encServer true x) = true := by simp only [encServer,ownCs,ownC,Bool.and_self,Bool.and_true,Bool.true_and,own_rows (f := encI) (fun _ => rfl),own_rows (f := encEntry) (fun _ => rfl),own_rows (f := encI) (fun _ => rfl),own_rows (f := encPeer) (fun _ => rfl),own_rows (f := encFile) (fun _ => rfl),own_rows (f := encI) (fun _ => rfl),own_rows (f := encI) (fun _ => rfl),own_rows (f := encSpot) (fun _ => rfl)]
abbrev encMessage (o : Bool) (x : Message) : List C := [.i .i64 x.Kind,.i .i64 x.From,.i .i64 x.To,.i .i64 x.Term,.i .i64 x.Index,.i .i64 x.LogTerm,.i .i64 x.Commit,.b x.Ok,.row o 131 (x.Entries.map encEntry),.row o 3 (x.Conf.map encI),.s x.Data,.b x.Last]
theorem ro_encMessage (x : Message) : roCs (encMessage true x) = encMessage false x := by simp only [encMessage,roCs,roC,roRows_mapf (fun _ => rfl),roRows_mapf (fun _ => rfl)]
theorem ro2_encMessage (x : Message) : roCs (encMessage false x) = encMessage false x := by simp only [encMessage,roCs,roC,roRows_mapf (fun _ => rfl),roRows_mapf (fun _ => rfl)]
theorem own_encMessage (x : Message) : ownCs (encMessage true x) = true := by simp only [encMessage,ownCs,ownC,Bool.and_self,Bool.and_true,Bool.true_and,own_rows (f := encEntry) (fun _ => rfl),own_rows (f := encI) (fun _ => rfl)]
abbrev encLeader (o : Bool) (x : Leader) : List C := [.i .i64 x.Node,.i .i64 x.Term,.i .i64 x.Log.Start,.i .i64 x.Log.StartTerm,.row o 131 (x.Log.Entries.map encEntry)]
theorem ro_encLeader (x : Leader) : roCs (encLeader true x) = encLeader false x := by simp only [encLeader,roCs,roC,roRows_mapf (fun _ => rfl)]
theorem ro2_encLeader (x : Leader) : roCs (encLeader false x) = encLeader false x := by simp only [encLeader,roCs,roC,roRows_mapf (fun _ => rfl)]
theorem own_encLeader (x : Leader) : ownCs (encLeader true x) = true := by simp only [encLeader,ownCs,ownC,Bool.and_self,Bool.and_true,Bool.true_and,own_rows (f := encEntry) (fun _ => rfl)]
abbrev encWorld (o : Bool) (x : World) : List C := [.row o 4 (x.Up.map encB),.row o 119 (x.Servers.map (encServer o)),.row o 122 (x.Net.map (encMessage o)),.row o 125 (x.Waits.map encWait),.row o 129 (x.Leaders.map (encLeader o)),.row o 133 (x.Applied.map encApplied),.row o 56 (x.Replies.map encReply)]
theorem ro_encWorld (x : World) : roCs (encWorld true x) = encWorld false x := by simp only [encWorld,roCs,roC,roRows_mapf (fun _ => rfl),roRows_mapf ro_encServer,roRows_mapf ro_encMessage,roRows_mapf (fun _ => rfl),roRows_mapf ro_encLeader,roRows_mapf (fun _ => rfl),roRows_mapf (fun _ => rfl)]
theorem ro2_encWorld (x : World) : roCs (encWorld false x) = encWorld false x := by simp only [encWorld,roCs,roC,roRows_mapf (fun _ => rfl),roRows_mapf ro2_encServer,roRows_mapf ro2_encMessage,roRows_mapf (fun _ => rfl),roRows_mapf ro2_encLeader,roRows_mapf (fun _ => rfl),roRows_mapf (fun _ => rfl)]
theorem own_encWorld (x : World) : ownCs (encWorld true x) = true := by simp only [encWorld,ownCs,ownC,Bool.and_self,Bool.and_true,Bool.true_and,own_rows (f := encB) (fun _ => rfl),own_rows (f := (encServer true)) own_encServer,own_rows (f := (encMessage true)) own_encMessage,own_rows (f := encWait) (fun _ => rfl),own_rows (f := (encLeader true)) own_encLeader,own_rows (f := encApplied) (fun _ => rfl),own_rows (f := encReply) (fun _ => rfl)]
theorem bt3 : bytesOf Tryz.prog 3 ≤ 2048 := of_decide_eq_true (by kernel_rfl)
theorem bt4 : bytesOf Tryz.prog 4 ≤ 2048 := of_decide_eq_true (by kernel_rfl)
theorem bt5 : bytesOf Tryz.prog 5 ≤ 2048 := of_decide_eq_true (by kernel_rfl)
theorem bt56 : bytesOf Tryz.prog 56 ≤ 2048 := of_decide_eq_true (by kernel_rfl)
theorem bt119 : bytesOf Tryz.prog 119 ≤ 2048 := of_decide_eq_true (by kernel_rfl)
theorem bt122 : bytesOf Tryz.prog 122 ≤ 2048 := of_decide_eq_true (by kernel_rfl)
theorem bt125 : bytesOf Tryz.prog 125 ≤ 2048 := of_decide_eq_true (by kernel_rfl)
theorem bt129 : bytesOf Tryz.prog 129 ≤ 2048 := of_decide_eq_true (by kernel_rfl)
theorem bt131 : bytesOf Tryz.prog 131 ≤ 2048 := of_decide_eq_true (by kernel_rfl)
theorem bt133 : bytesOf Tryz.prog 133 ≤ 2048 := of_decide_eq_true (by kernel_rfl)
theorem bt186 : bytesOf Tryz.prog 186 ≤ 2048 := of_decide_eq_true (by kernel_rfl)
theorem bt189 : bytesOf Tryz.prog 189 ≤ 2048 := of_decide_eq_true (by kernel_rfl)
theorem bt191 : bytesOf Tryz.prog 191 ≤ 2048 := of_decide_eq_true (by kernel_rfl)
def laws_szBoolS (N : Nat) (x1 : (List Bool)) (x2 : Int) : Option (Int) :=
 (if (decide ((w64 (x2 - (x1.length : Int))) < 0)) = true then
 some (-1 : Int)
 else
 some (w64 (x2 - (x1.length : Int))))
theorem sem_laws_szBoolS (N : Nat) (x1 : (List Bool)) (x2 : Int) (r : Int) (h : laws_szBoolS N x1 x2 = some r) : Says Tryz.prog 9 [RO 4 (x1.map encB),VI x2] 0 [] (VI r) [] := by
 unfold laws_szBoolS at h
 refine Says.of_norm e Tryz.call9 e fun B hB => ?_
 have hm : B.m ≤ 1000 := by omega
 refine Run.so hm (.p e (.nil (.so hm (.p2 e e (.z 5128 (Ev.lnF e) e e (.p2 e e (.nil (.seq (.so hm (.p2 e e (.nil (.condO e h (fun g103 h => ?_) (fun g103 h => ?_)))))))))))))
 ·refine Run.so hm (.p e (.nil (.ret ?_)))
  obtain rfl := someO h
  exact Ends.mkG (.inl e) e (gh_pk [0] [] hB e e e e) e e
 ·refine Run.skip (.so hm (.p2 e e (.nil (.ret ?_))))
  obtain rfl := someO h
  exact Ends.mkG (.inl e) e (gh_pk [0] [] hB e e e e) e e
def laws_szIntS (N : Nat) (x1 : (List Int)) (x2 : Int) : Option (Int) :=
 (if (decide ((w64 (x2 - (x1.length : Int))) < 0)) = true then
 some (-1 : Int)
 else
 some (w64 (x2 - (x1.length : Int))))
theorem sem_laws_szIntS (N : Nat) (x1 : (List Int)) (x2 : Int) (r : Int) (h : laws_szIntS N x1 x2 = some r) : Says Tryz.prog 55 [RO 3 (x1.map encI),VI x2] 0 [] (VI r) [] := by
 unfold laws_szIntS at h
 refine Says.of_norm e Tryz.call55 e fun B hB => ?_
 have hm : B.m ≤ 1000 := by omega
 refine Run.so hm (.p e (.nil (.so hm (.p2 e e (.z 5128 (Ev.lnF e) e e (.p2 e e (.nil (.seq (.so hm (.p2 e e (.nil (.condO e h (fun g103 h => ?_) (fun g103 h => ?_)))))))))))))
 ·refine Run.so hm (.p e (.nil (.ret ?_)))
  obtain rfl := someO h
  exact Ends.mkG (.inl e) e (gh_pk [0] [] hB e e e e) e e
 ·refine Run.skip (.so hm (.p2 e e (.nil (.ret ?_))))
  obtain rfl := someO h
  exact Ends.mkG (.inl e) e (gh_pk [0] [] hB e e e e) e e
def laws_szEntry (N : Nat) (x1 : Entry) (x2 : Int) : Option (Int) :=
 (if (decide ((w64 (x2 - (x1.Data.size : Int))) < 0)) = true then
 some (-1 : Int)
 else
 some (w64 (x2 - (x1.Data.size : Int))))
theorem sem_laws_szEntry (N : Nat) (x1 : Entry) (x2 : Int) (r : Int) (h : laws_szEntry N x1 x2 = some r) : Says Tryz.prog 57 [.agg [VI x1.Term,VI x1.Kind,VS x1.Data],VI x2] 0 [] (VI r) [] := by
 unfold laws_szEntry at h
 refine Says.of_norm e Tryz.call57 e fun B hB => ?_
 have hm : B.m ≤ 1000 := by omega
 refine Run.so hm (.z 1000 (.bx e e) e e (.p e (.nil (.so hm (.p3 e e e (.p3 e e e (.nil (.seq (.so hm (.p2 e e (.nil (.condO e h (fun g103 h => ?_) (fun g103 h => ?_)))))))))))))
 ·refine Run.so hm (.p e (.nil (.ret ?_)))
  obtain rfl := someO h
  exact Ends.mkG (.inl e) e (gh_pk [0] [] hB e e e e) e e
 ·refine Run.skip (.so hm (.p2 e e (.nil (.ret ?_))))
  obtain rfl := someO h
  exact Ends.mkG (.inl e) e (gh_pk [0] [] hB e e e e) e e
def laws_szEntryS_l1 (N : Nat) (x1 : (List Entry)) : Nat → Int → Int → Option ((Int) ⊕ (Int))
 | 0,_,_ => none
 | m + 1,x245,x246 =>
 (if (decide (x246 < (x1.length : Int))) = true then
 (at? x1 x246).bind fun x287 =>
 (laws_szEntry N x287 x245).bind fun y288 =>
 (if (decide (y288 < 0)) = true then
 some (Sum.inl (-1 : Int))
 else
 laws_szEntryS_l1 N x1 m y288 (w64 (x246 + 1)))
 else
 some (Sum.inr x245))
def laws_szEntryS_l1_r (N : Nat) (x1 : (List Entry)) : (List Entry) → Int → Int → Option ((Int) ⊕ (Int))
 | [],x245,x246 =>
 some (Sum.inr x245)
 | hd :: tl,x245,x246 =>
 (some hd).bind fun x287 =>
 (laws_szEntry N x287 x245).bind fun y288 =>
 (if (decide (y288 < 0)) = true then
 some (Sum.inl (-1 : Int))
 else
 laws_szEntryS_l1_r N x1 tl y288 (w64 (x246 + 1)))
theorem laws_szEntryS_l1_rng (N : Nat) (x1 : (List Entry)) (hx : x1.length ≤ 1099511627776) : ∀ (d k m : Nat) (x245 : Int),x1.length = k + d → d < m → laws_szEntryS_l1 N x1 m x245 (k : Int) = laws_szEntryS_l1_r N x1 (x1.drop k) x245 (k : Int) := by
 intro d
 induction d with
 | zero =>
  intro k m x245 hd hm
  obtain ⟨m,rfl⟩ : ∃ q,m = q + 1 := ⟨m - 1,by omega⟩
  rw [laws_szEntryS_l1,if_neg (by simp; omega),List.drop_eq_nil_of_le (by omega),laws_szEntryS_l1_r]
 | succ d ih =>
  intro k m x245 hd hm
  obtain ⟨m,rfl⟩ : ∃ q,m = q + 1 := ⟨m - 1,by omega⟩
  have hk : k < x1.length := by omega
  rw [laws_szEntryS_l1,if_pos (by simp; omega),List.drop_eq_getElem_cons hk,laws_szEntryS_l1_r]
  have h1 := at_lt hk
  have h2 := w64_succ (k := k) (by omega)
  have h3 := ih (k + 1) m
  simp only [h1,h2,h3 _ (by omega) (by omega)]
theorem laws_szEntryS_l1_eq {N : Nat} (x1 : (List Entry)) (hx : x1.length ≤ 1099511627776) (hN : x1.length < N) (x245 : Int) : laws_szEntryS_l1 N x1 N x245 0 = laws_szEntryS_l1_r N x1 x1 x245 0 := laws_szEntryS_l1_rng N x1 hx x1.length 0 N x245 (by omega) hN
def laws_szEntryS (N : Nat) (x1 : (List Entry)) (x2 : Int) : Option (Int) :=
 (if (decide ((w64 (x2 - (x1.length : Int))) < 0)) = true then
 some (-1 : Int)
 else
 joinP (fun (v243 : Int) =>
 some v243) fun j243 =>
 (laws_szEntryS_l1 N x1 N (w64 (x2 - (x1.length : Int))) 0).bind (Sum.elim (fun v267 => some v267) (fun (v268 : Int) => j243 v268)))
theorem sem_laws_szEntryS (N : Nat) (x1 : (List Entry)) (x2 : Int) (r : Int) (h : laws_szEntryS N x1 x2 = some r) : Says Tryz.prog 54 [RO 97 (x1.map encEntry),VI x2] 0 [] (VI r) [] := by
 unfold laws_szEntryS at h
 refine Says.of_norm e Tryz.call54 e fun B hB => ?_
 have hm : B.m ≤ 1000 := by omega
 refine Run.so hm (.p e (.nil (.so hm (.p2 e e (.z 5128 (Ev.lnF e) e e (.p2 e e (.nil (.seq (.so hm (.p2 e e (.nil (.condO e h (fun g196 h => ?_) (fun g196 h => ?_)))))))))))))
 ·refine Run.so hm (.p e (.nil (.ret ?_)))
  obtain rfl := someO h
  exact Ends.mkG (.inl e) e (gh_pk [0] [] hB e e e e) e e
 ·refine Run.skip (.seqO h (fun v243 => [(1,VI v243)]) (fun (v243 : Int) => []) (fun h => ?_) (fun v243 h => ?_))
  ·refine Run.so hm (.p e (.nil (.block ?_)))
   obtain ⟨res268,h,hk268⟩ := bindO h
   refine Run.loop (n := N) (fun m268 fr σ => ∃ (x245 : Int),∃ (x246 : Int),laws_szEntryS_l1 N x1 m268 x245 x246 = some res268 ∧ fr = [(0,RO 97 (x1.map encEntry)),(1,VI x245),(5,VI x246)] ∧ σ = []) (gh_pk [0,1,5] [] hB e e e e) ⟨_,_,h,e,e⟩ ?_
   rintro m268 fr σ ⟨x245,x246,h,rfl,rfl⟩
   obtain _ | m268 := m268
   ·rw [laws_szEntryS_l1] at h; cases h
   rw [laws_szEntryS_l1] at h
   refine Run.seq (.so hm (.p2 e e (.z 21512 (Ev.lnF e) e e (.p e (.nil (.condO e h (fun g271 h => ?_) (fun g271 h => ?_)))))))
   ·refine Run.skip (.seq (.block (.so hm (.p2 e e ?_))))
    obtain ⟨x287,hx287,h⟩ := bindO h
    refine Ops.z 29704 (Ev.iaF e e hx287) e e (.p2 e e ?_)
    obtain ⟨y288,hy288,h⟩ := bindO h
    refine Ops.z 29752 (Ev.call [] [] 0 (sem_laws_szEntry _ _ _ _ hy288) e e (.cons (.agg (.d2 (.d1 .nil))) (.d1 .nil)) e (.inl e) e e) e e (.p e (.nil (.so hm (.p2 e e (.nil (.condO e h (fun g289 h => ?_) (fun g289 h => ?_)))))))
    ·refine Run.so hm (.p e (.nil (.ret ?_)))
     obtain rfl := someO h
     have h := hk268
     replace h := inlO h
     obtain rfl := someO h
     exact Ends.mkG (.inl e) e (gh_pk [0] [] hB e e e e) e e
    ·exact Run.skip (.ops hm (.p3 e e e (.nil (⟨m268,Nat.lt_succ_self m268,_,_,(gh_pk [0,1,5] [] hB e e e e),_,_,h,e,e⟩))))
   ·refine Run.exit ?_
    obtain rfl := someO h
    have h := hk268
    replace h := inrO h
    exact ⟨_,_,(gh_pk [1] [] hB e e e e),_,h,e,e⟩
  ·refine Run.so hm (.p2 e e (.nil (.ret ?_)))
   obtain rfl := someO h
   exact Ends.mkG (.inl e) e (gh_pk [0] [] hB e e e e) e e
def laws_szLog (N : Nat) (x1 : Log) (x2 : Int) : Option (Int) :=
 (laws_szEntryS N x1.Entries x2).bind fun y109 =>
 (if (decide (y109 < 0)) = true then
 some (-1 : Int)
 else
 some y109)
theorem sem_laws_szLog (N : Nat) (x1 : Log) (x2 : Int) (r : Int) (h : laws_szLog N x1 x2 = some r) : Says Tryz.prog 56 [.agg [VI x1.Start,VI x1.StartTerm,RO 97 (x1.Entries.map encEntry)],VI x2] 0 [] (VI r) [] := by
 unfold laws_szLog at h
 refine Says.of_norm e Tryz.call56 e fun B hB => ?_
 have hm : B.m ≤ 1000 := by omega
 refine Run.so hm (.z 1000 (.bx e e) e e (.p e (.nil (.so hm (.p3 e e e ?_)))))
 obtain ⟨y109,hy109,h⟩ := bindO h
 refine Ops.z 5144 (Ev.call [] [] 0 (sem_laws_szEntryS _ _ _ _ hy109) e e (.d2 .nil) e (.inl e) e e) e e (.p e (.nil (.seq (.so hm (.p2 e e (.nil (.condO e h (fun g111 h => ?_) (fun g111 h => ?_))))))))
 ·refine Run.so hm (.p e (.nil (.ret ?_)))
  obtain rfl := someO h
  exact Ends.mkG (.inl e) e (gh_pk [0] [] hB e e e e) e e
 ·refine Run.skip (.so hm (.p2 e e (.nil (.ret ?_))))
  obtain rfl := someO h
  exact Ends.mkG (.inl e) e (gh_pk [0] [] hB e e e e) e e
def laws_szPeerS (N : Nat) (x1 : (List Peer)) (x2 : Int) : Option (Int) :=
 (if (decide ((w64 (x2 - (x1.length : Int))) < 0)) = true then
 some (-1 : Int)
 else
 some (w64 (x2 - (x1.length : Int))))
theorem sem_laws_szPeerS (N : Nat) (x1 : (List Peer)) (x2 : Int) (r : Int) (h : laws_szPeerS N x1 x2 = some r) : Says Tryz.prog 76 [RO 188 (x1.map encPeer),VI x2] 0 [] (VI r) [] := by
 unfold laws_szPeerS at h
 refine Says.of_norm e Tryz.call76 e fun B hB => ?_
 have hm : B.m ≤ 1000 := by omega
 refine Run.so hm (.p e (.nil (.so hm (.p2 e e (.z 5128 (Ev.lnF e) e e (.p2 e e (.nil (.seq (.so hm (.p2 e e (.nil (.condO e h (fun g103 h => ?_) (fun g103 h => ?_)))))))))))))
 ·refine Run.so hm (.p e (.nil (.ret ?_)))
  obtain rfl := someO h
  exact Ends.mkG (.inl e) e (gh_pk [0] [] hB e e e e) e e
 ·refine Run.skip (.so hm (.p2 e e (.nil (.ret ?_))))
  obtain rfl := someO h
  exact Ends.mkG (.inl e) e (gh_pk [0] [] hB e e e e) e e
def laws_szNode (N : Nat) (x1 : Node) (x2 : Int) : Option (Int) :=
 (laws_szIntS N x1.Conf x2).bind fun y127 =>
 (if (decide (y127 < 0)) = true then
 some (-1 : Int)
 else
 (laws_szLog N x1.Log y127).bind fun y133 =>
 (if (decide (y133 < 0)) = true then
 some (-1 : Int)
 else
 (laws_szIntS N x1.Votes y133).bind fun y139 =>
 (if (decide (y139 < 0)) = true then
 some (-1 : Int)
 else
 (laws_szPeerS N x1.Peers y139).bind fun y145 =>
 (if (decide (y145 < 0)) = true then
 some (-1 : Int)
 else
 some y145))))
theorem sem_laws_szNode (N : Nat) (x1 : Node) (x2 : Int) (r : Int) (h : laws_szNode N x1 x2 = some r) : Says Tryz.prog 51 [.agg [VI x1.Id,VI x1.Term,VI x1.Vote,VI x1.Role,VI x1.Lead,RO 3 (x1.Conf.map encI),VI x1.Log.Start,VI x1.Log.StartTerm,RO 97 (x1.Log.Entries.map encEntry),VI x1.Commit,VI x1.Clock,VI x1.Limit,RO 3 (x1.Votes.map encI),RO 188 (x1.Peers.map encPeer)],VI x2] 0 [] (VI r) [] := by
 unfold laws_szNode at h
 refine Says.of_norm e Tryz.call51 e fun B hB => ?_
 have hm : B.m ≤ 1000 := by omega
 refine Run.so hm (.z 1000 (.bx e e) e e (.p e (.nil (.so hm (.p3 e e e ?_)))))
 obtain ⟨y127,hy127,h⟩ := bindO h
 refine Ops.z 5144 (Ev.call [] [] 0 (sem_laws_szIntS _ _ _ _ hy127) e e (.d2 .nil) e (.inl e) e e) e e (.p e (.nil (.seq (.so hm (.p2 e e (.nil (.condO e h (fun g129 h => ?_) (fun g129 h => ?_))))))))
 ·refine Run.so hm (.p e (.nil (.ret ?_)))
  obtain rfl := someO h
  exact Ends.mkG (.inl e) e (gh_pk [0] [] hB e e e e) e e
 ·refine Run.skip (.so hm (.p3 e e e ?_))
  obtain ⟨y133,hy133,h⟩ := bindO h
  refine Ops.z 17432 (Ev.call [] [] 0 (sem_laws_szLog _ _ _ _ hy133) e e (.cons (.agg (.d2 (.d1 .nil))) (.d1 .nil)) e (.inl e) e e) e e (.p e (.nil (.seq (.so hm (.p2 e e (.nil (.condO e h (fun g135 h => ?_) (fun g135 h => ?_))))))))
  ·refine Run.so hm (.p e (.nil (.ret ?_)))
   obtain rfl := someO h
   exact Ends.mkG (.inl e) e (gh_pk [0] [] hB e e e e) e e
  ·refine Run.skip (.so hm (.p3 e e e ?_))
   obtain ⟨y139,hy139,h⟩ := bindO h
   refine Ops.z 29720 (Ev.call [] [] 0 (sem_laws_szIntS _ _ _ _ hy139) e e (.d2 .nil) e (.inl e) e e) e e (.p e (.nil (.seq (.so hm (.p2 e e (.nil (.condO e h (fun g141 h => ?_) (fun g141 h => ?_))))))))
   ·refine Run.so hm (.p e (.nil (.ret ?_)))
    obtain rfl := someO h
    exact Ends.mkG (.inl e) e (gh_pk [0] [] hB e e e e) e e
   ·refine Run.skip (.so hm (.p3 e e e ?_))
    obtain ⟨y145,hy145,h⟩ := bindO h
    refine Ops.z 42008 (Ev.call [] [] 0 (sem_laws_szPeerS _ _ _ _ hy145) e e (.d2 .nil) e (.inl e) e e) e e (.p e (.nil (.seq (.so hm (.p2 e e (.nil (.condO e h (fun g147 h => ?_) (fun g147 h => ?_))))))))
    ·refine Run.so hm (.p e (.nil (.ret ?_)))
     obtain rfl := someO h
     exact Ends.mkG (.inl e) e (gh_pk [0] [] hB e e e e) e e
    ·refine Run.skip (.so hm (.p2 e e (.nil (.ret ?_))))
     obtain rfl := someO h
     exact Ends.mkG (.inl e) e (gh_pk [0] [] hB e e e e) e e
def laws_szFile (N : Nat) (x1 : File) (x2 : Int) : Option (Int) :=
 (if (decide ((w64 (x2 - (x1.Name.size : Int))) < 0)) = true then
 some (-1 : Int)
 else
 (if (decide ((w64 ((w64 (x2 - (x1.Name.size : Int))) - (x1.Text.size : Int))) < 0)) = true then
 some (-1 : Int)
 else
 some (w64 ((w64 (x2 - (x1.Name.size : Int))) - (x1.Text.size : Int)))))
theorem sem_laws_szFile (N : Nat) (x1 : File) (x2 : Int) (r : Int) (h : laws_szFile N x1 x2 = some r) : Says Tryz.prog 89 [.agg [VS x1.Name,VS x1.Text],VI x2] 0 [] (VI r) [] := by
 unfold laws_szFile at h
 refine Says.of_norm e Tryz.call89 e fun B hB => ?_
 have hm : B.m ≤ 1000 := by omega
 refine Run.so hm (.z 1000 (.bx e e) e e (.p e (.nil (.so hm (.p3 e e e (.p3 e e e (.nil (.seq (.so hm (.p2 e e (.nil (.condO e h (fun g105 h => ?_) (fun g105 h => ?_)))))))))))))
 ·refine Run.so hm (.p e (.nil (.ret ?_)))
  obtain rfl := someO h
  exact Ends.mkG (.inl e) e (gh_pk [0] [] hB e e e e) e e
 ·refine Run.skip (.so hm (.p3 e e e (.p3 e e e (.nil (.seq (.so hm (.p2 e e (.nil (.condO e h (fun g107 h => ?_) (fun g107 h => ?_))))))))))
  ·refine Run.so hm (.p e (.nil (.ret ?_)))
   obtain rfl := someO h
   exact Ends.mkG (.inl e) e (gh_pk [0] [] hB e e e e) e e
  ·refine Run.skip (.so hm (.p2 e e (.nil (.ret ?_))))
   obtain rfl := someO h
   exact Ends.mkG (.inl e) e (gh_pk [0] [] hB e e e e) e e
def laws_szFileS_l1 (N : Nat) (x1 : (List File)) : Nat → Int → Int → Option ((Int) ⊕ (Int))
 | 0,_,_ => none
 | m + 1,x245,x246 =>
 (if (decide (x246 < (x1.length : Int))) = true then
 (at? x1 x246).bind fun x287 =>
 (laws_szFile N x287 x245).bind fun y288 =>
 (if (decide (y288 < 0)) = true then
 some (Sum.inl (-1 : Int))
 else
 laws_szFileS_l1 N x1 m y288 (w64 (x246 + 1)))
 else
 some (Sum.inr x245))
def laws_szFileS_l1_r (N : Nat) (x1 : (List File)) : (List File) → Int → Int → Option ((Int) ⊕ (Int))
 | [],x245,x246 =>
 some (Sum.inr x245)
 | hd :: tl,x245,x246 =>
 (some hd).bind fun x287 =>
 (laws_szFile N x287 x245).bind fun y288 =>
 (if (decide (y288 < 0)) = true then
 some (Sum.inl (-1 : Int))
 else
 laws_szFileS_l1_r N x1 tl y288 (w64 (x246 + 1)))
theorem laws_szFileS_l1_rng (N : Nat) (x1 : (List File)) (hx : x1.length ≤ 1099511627776) : ∀ (d k m : Nat) (x245 : Int),x1.length = k + d → d < m → laws_szFileS_l1 N x1 m x245 (k : Int) = laws_szFileS_l1_r N x1 (x1.drop k) x245 (k : Int) := by
 intro d
 induction d with
 | zero =>
  intro k m x245 hd hm
  obtain ⟨m,rfl⟩ : ∃ q,m = q + 1 := ⟨m - 1,by omega⟩
  rw [laws_szFileS_l1,if_neg (by simp; omega),List.drop_eq_nil_of_le (by omega),laws_szFileS_l1_r]
 | succ d ih =>
  intro k m x245 hd hm
  obtain ⟨m,rfl⟩ : ∃ q,m = q + 1 := ⟨m - 1,by omega⟩
  have hk : k < x1.length := by omega
  rw [laws_szFileS_l1,if_pos (by simp; omega),List.drop_eq_getElem_cons hk,laws_szFileS_l1_r]
  have h1 := at_lt hk
  have h2 := w64_succ (k := k) (by omega)
  have h3 := ih (k + 1) m
  simp only [h1,h2,h3 _ (by omega) (by omega)]
theorem laws_szFileS_l1_eq {N : Nat} (x1 : (List File)) (hx : x1.length ≤ 1099511627776) (hN : x1.length < N) (x245 : Int) : laws_szFileS_l1 N x1 N x245 0 = laws_szFileS_l1_r N x1 x1 x245 0 := laws_szFileS_l1_rng N x1 hx x1.length 0 N x245 (by omega) hN
def laws_szFileS (N : Nat) (x1 : (List File)) (x2 : Int) : Option (Int) :=
 (if (decide ((w64 (x2 - (x1.length : Int))) < 0)) = true then
 some (-1 : Int)
 else
 joinP (fun (v243 : Int) =>
 some v243) fun j243 =>
 (laws_szFileS_l1 N x1 N (w64 (x2 - (x1.length : Int))) 0).bind (Sum.elim (fun v267 => some v267) (fun (v268 : Int) => j243 v268)))
theorem sem_laws_szFileS (N : Nat) (x1 : (List File)) (x2 : Int) (r : Int) (h : laws_szFileS N x1 x2 = some r) : Says Tryz.prog 77 [RO 181 (x1.map encFile),VI x2] 0 [] (VI r) [] := by
 unfold laws_szFileS at h
 refine Says.of_norm e Tryz.call77 e fun B hB => ?_
 have hm : B.m ≤ 1000 := by omega
 refine Run.so hm (.p e (.nil (.so hm (.p2 e e (.z 5128 (Ev.lnF e) e e (.p2 e e (.nil (.seq (.so hm (.p2 e e (.nil (.condO e h (fun g196 h => ?_) (fun g196 h => ?_)))))))))))))
 ·refine Run.so hm (.p e (.nil (.ret ?_)))
  obtain rfl := someO h
  exact Ends.mkG (.inl e) e (gh_pk [0] [] hB e e e e) e e
 ·refine Run.skip (.seqO h (fun v243 => [(1,VI v243)]) (fun (v243 : Int) => []) (fun h => ?_) (fun v243 h => ?_))
  ·refine Run.so hm (.p e (.nil (.block ?_)))
   obtain ⟨res268,h,hk268⟩ := bindO h
   refine Run.loop (n := N) (fun m268 fr σ => ∃ (x245 : Int),∃ (x246 : Int),laws_szFileS_l1 N x1 m268 x245 x246 = some res268 ∧ fr = [(0,RO 181 (x1.map encFile)),(1,VI x245),(5,VI x246)] ∧ σ = []) (gh_pk [0,1,5] [] hB e e e e) ⟨_,_,h,e,e⟩ ?_
   rintro m268 fr σ ⟨x245,x246,h,rfl,rfl⟩
   obtain _ | m268 := m268
   ·rw [laws_szFileS_l1] at h; cases h
   rw [laws_szFileS_l1] at h
   refine Run.seq (.so hm (.p2 e e (.z 21512 (Ev.lnF e) e e (.p e (.nil (.condO e h (fun g271 h => ?_) (fun g271 h => ?_)))))))
   ·refine Run.skip (.seq (.block (.so hm (.p2 e e ?_))))
    obtain ⟨x287,hx287,h⟩ := bindO h
    refine Ops.z 29704 (Ev.iaF e e hx287) e e (.p2 e e ?_)
    obtain ⟨y288,hy288,h⟩ := bindO h
    refine Ops.z 29752 (Ev.call [] [] 0 (sem_laws_szFile _ _ _ _ hy288) e e (.cons (.agg (.d2 .nil)) (.d1 .nil)) e (.inl e) e e) e e (.p e (.nil (.so hm (.p2 e e (.nil (.condO e h (fun g289 h => ?_) (fun g289 h => ?_)))))))
    ·refine Run.so hm (.p e (.nil (.ret ?_)))
     obtain rfl := someO h
     have h := hk268
     replace h := inlO h
     obtain rfl := someO h
     exact Ends.mkG (.inl e) e (gh_pk [0] [] hB e e e e) e e
    ·exact Run.skip (.ops hm (.p3 e e e (.nil (⟨m268,Nat.lt_succ_self m268,_,_,(gh_pk [0,1,5] [] hB e e e e),_,_,h,e,e⟩))))
   ·refine Run.exit ?_
    obtain rfl := someO h
    have h := hk268
    replace h := inrO h
    exact ⟨_,_,(gh_pk [1] [] hB e e e e),_,h,e,e⟩
  ·refine Run.so hm (.p2 e e (.nil (.ret ?_)))
   obtain rfl := someO h
   exact Ends.mkG (.inl e) e (gh_pk [0] [] hB e e e e) e e
def laws_szDisk (N : Nat) (x1 : Disk) (x2 : Int) : Option (Int) :=
 (laws_szFileS N x1.Files x2).bind fun y109 =>
 (if (decide (y109 < 0)) = true then
 some (-1 : Int)
 else
 some y109)
theorem sem_laws_szDisk (N : Nat) (x1 : Disk) (x2 : Int) (r : Int) (h : laws_szDisk N x1 x2 = some r) : Says Tryz.prog 52 [.agg [RO 181 (x1.Files.map encFile)],VI x2] 0 [] (VI r) [] := by
 unfold laws_szDisk at h
 refine Says.of_norm e Tryz.call52 e fun B hB => ?_
 have hm : B.m ≤ 1000 := by omega
 refine Run.so hm (.z 1000 (.bx e e) e e (.p e (.nil (.so hm (.p3 e e e ?_)))))
 obtain ⟨y109,hy109,h⟩ := bindO h
 refine Ops.z 5144 (Ev.call [] [] 0 (sem_laws_szFileS _ _ _ _ hy109) e e (.d2 .nil) e (.inl e) e e) e e (.p e (.nil (.seq (.so hm (.p2 e e (.nil (.condO e h (fun g111 h => ?_) (fun g111 h => ?_))))))))
 ·refine Run.so hm (.p e (.nil (.ret ?_)))
  obtain rfl := someO h
  exact Ends.mkG (.inl e) e (gh_pk [0] [] hB e e e e) e e
 ·refine Run.skip (.so hm (.p2 e e (.nil (.ret ?_))))
  obtain rfl := someO h
  exact Ends.mkG (.inl e) e (gh_pk [0] [] hB e e e e) e e
def laws_szManifest (N : Nat) (x1 : Manifest) (x2 : Int) : Option (Int) :=
 (laws_szIntS N x1.Segs x2).bind fun y115 =>
 (if (decide (y115 < 0)) = true then
 some (-1 : Int)
 else
 (laws_szIntS N x1.Conf y115).bind fun y121 =>
 (if (decide (y121 < 0)) = true then
 some (-1 : Int)
 else
 some y121))
theorem sem_laws_szManifest (N : Nat) (x1 : Manifest) (x2 : Int) (r : Int) (h : laws_szManifest N x1 x2 = some r) : Says Tryz.prog 78 [.agg [RO 3 (x1.Segs.map encI),VI x1.Next,VI x1.Base,VI x1.BaseTerm,RO 3 (x1.Conf.map encI)],VI x2] 0 [] (VI r) [] := by
 unfold laws_szManifest at h
 refine Says.of_norm e Tryz.call78 e fun B hB => ?_
 have hm : B.m ≤ 1000 := by omega
 refine Run.so hm (.z 1000 (.bx e e) e e (.p e (.nil (.so hm (.p3 e e e ?_)))))
 obtain ⟨y115,hy115,h⟩ := bindO h
 refine Ops.z 5144 (Ev.call [] [] 0 (sem_laws_szIntS _ _ _ _ hy115) e e (.d2 .nil) e (.inl e) e e) e e (.p e (.nil (.seq (.so hm (.p2 e e (.nil (.condO e h (fun g117 h => ?_) (fun g117 h => ?_))))))))
 ·refine Run.so hm (.p e (.nil (.ret ?_)))
  obtain rfl := someO h
  exact Ends.mkG (.inl e) e (gh_pk [0] [] hB e e e e) e e
 ·refine Run.skip (.so hm (.p3 e e e ?_))
  obtain ⟨y121,hy121,h⟩ := bindO h
  refine Ops.z 17432 (Ev.call [] [] 0 (sem_laws_szIntS _ _ _ _ hy121) e e (.d2 .nil) e (.inl e) e e) e e (.p e (.nil (.seq (.so hm (.p2 e e (.nil (.condO e h (fun g123 h => ?_) (fun g123 h => ?_))))))))
  ·refine Run.so hm (.p e (.nil (.ret ?_)))
   obtain rfl := someO h
   exact Ends.mkG (.inl e) e (gh_pk [0] [] hB e e e e) e e
  ·refine Run.skip (.so hm (.p2 e e (.nil (.ret ?_))))
   obtain rfl := someO h
   exact Ends.mkG (.inl e) e (gh_pk [0] [] hB e e e e) e e
def laws_szSpot (N : Nat) (x1 : Spot) (x2 : Int) : Option (Int) :=
 (if (decide ((w64 (x2 - (x1.Key.size : Int))) < 0)) = true then
 some (-1 : Int)
 else
 some (w64 (x2 - (x1.Key.size : Int))))
theorem sem_laws_szSpot (N : Nat) (x1 : Spot) (x2 : Int) (r : Int) (h : laws_szSpot N x1 x2 = some r) : Says Tryz.prog 90 [.agg [VS x1.Key,VI x1.Seg,VI x1.At,VI x1.Size],VI x2] 0 [] (VI r) [] := by
 unfold laws_szSpot at h
 refine Says.of_norm e Tryz.call90 e fun B hB => ?_
 have hm : B.m ≤ 1000 := by omega
 refine Run.so hm (.z 1000 (.bx e e) e e (.p e (.nil (.so hm (.p3 e e e (.p3 e e e (.nil (.seq (.so hm (.p2 e e (.nil (.condO e h (fun g103 h => ?_) (fun g103 h => ?_)))))))))))))
 ·refine Run.so hm (.p e (.nil (.ret ?_)))
  obtain rfl := someO h
  exact Ends.mkG (.inl e) e (gh_pk [0] [] hB e e e e) e e
 ·refine Run.skip (.so hm (.p2 e e (.nil (.ret ?_))))
  obtain rfl := someO h
  exact Ends.mkG (.inl e) e (gh_pk [0] [] hB e e e e) e e
def laws_szSpotS_l1 (N : Nat) (x1 : (List Spot)) : Nat → Int → Int → Option ((Int) ⊕ (Int))
 | 0,_,_ => none
 | m + 1,x245,x246 =>
 (if (decide (x246 < (x1.length : Int))) = true then
 (at? x1 x246).bind fun x287 =>
 (laws_szSpot N x287 x245).bind fun y288 =>
 (if (decide (y288 < 0)) = true then
 some (Sum.inl (-1 : Int))
 else
 laws_szSpotS_l1 N x1 m y288 (w64 (x246 + 1)))
 else
 some (Sum.inr x245))
def laws_szSpotS_l1_r (N : Nat) (x1 : (List Spot)) : (List Spot) → Int → Int → Option ((Int) ⊕ (Int))
 | [],x245,x246 =>
 some (Sum.inr x245)
 | hd :: tl,x245,x246 =>
 (some hd).bind fun x287 =>
 (laws_szSpot N x287 x245).bind fun y288 =>
 (if (decide (y288 < 0)) = true then
 some (Sum.inl (-1 : Int))
 else
 laws_szSpotS_l1_r N x1 tl y288 (w64 (x246 + 1)))
theorem laws_szSpotS_l1_rng (N : Nat) (x1 : (List Spot)) (hx : x1.length ≤ 1099511627776) : ∀ (d k m : Nat) (x245 : Int),x1.length = k + d → d < m → laws_szSpotS_l1 N x1 m x245 (k : Int) = laws_szSpotS_l1_r N x1 (x1.drop k) x245 (k : Int) := by
 intro d
 induction d with
 | zero =>
  intro k m x245 hd hm
  obtain ⟨m,rfl⟩ : ∃ q,m = q + 1 := ⟨m - 1,by omega⟩
  rw [laws_szSpotS_l1,if_neg (by simp; omega),List.drop_eq_nil_of_le (by omega),laws_szSpotS_l1_r]
 | succ d ih =>
  intro k m x245 hd hm
  obtain ⟨m,rfl⟩ : ∃ q,m = q + 1 := ⟨m - 1,by omega⟩
  have hk : k < x1.length := by omega
  rw [laws_szSpotS_l1,if_pos (by simp; omega),List.drop_eq_getElem_cons hk,laws_szSpotS_l1_r]
  have h1 := at_lt hk
  have h2 := w64_succ (k := k) (by omega)
  have h3 := ih (k + 1) m
  simp only [h1,h2,h3 _ (by omega) (by omega)]
theorem laws_szSpotS_l1_eq {N : Nat} (x1 : (List Spot)) (hx : x1.length ≤ 1099511627776) (hN : x1.length < N) (x245 : Int) : laws_szSpotS_l1 N x1 N x245 0 = laws_szSpotS_l1_r N x1 x1 x245 0 := laws_szSpotS_l1_rng N x1 hx x1.length 0 N x245 (by omega) hN
def laws_szSpotS (N : Nat) (x1 : (List Spot)) (x2 : Int) : Option (Int) :=
 (if (decide ((w64 (x2 - (x1.length : Int))) < 0)) = true then
 some (-1 : Int)
 else
 joinP (fun (v243 : Int) =>
 some v243) fun j243 =>
 (laws_szSpotS_l1 N x1 N (w64 (x2 - (x1.length : Int))) 0).bind (Sum.elim (fun v267 => some v267) (fun (v268 : Int) => j243 v268)))
theorem sem_laws_szSpotS (N : Nat) (x1 : (List Spot)) (x2 : Int) (r : Int) (h : laws_szSpotS N x1 x2 = some r) : Says Tryz.prog 79 [RO 184 (x1.map encSpot),VI x2] 0 [] (VI r) [] := by
 unfold laws_szSpotS at h
 refine Says.of_norm e Tryz.call79 e fun B hB => ?_
 have hm : B.m ≤ 1000 := by omega
 refine Run.so hm (.p e (.nil (.so hm (.p2 e e (.z 5128 (Ev.lnF e) e e (.p2 e e (.nil (.seq (.so hm (.p2 e e (.nil (.condO e h (fun g196 h => ?_) (fun g196 h => ?_)))))))))))))
 ·refine Run.so hm (.p e (.nil (.ret ?_)))
  obtain rfl := someO h
  exact Ends.mkG (.inl e) e (gh_pk [0] [] hB e e e e) e e
 ·refine Run.skip (.seqO h (fun v243 => [(1,VI v243)]) (fun (v243 : Int) => []) (fun h => ?_) (fun v243 h => ?_))
  ·refine Run.so hm (.p e (.nil (.block ?_)))
   obtain ⟨res268,h,hk268⟩ := bindO h
   refine Run.loop (n := N) (fun m268 fr σ => ∃ (x245 : Int),∃ (x246 : Int),laws_szSpotS_l1 N x1 m268 x245 x246 = some res268 ∧ fr = [(0,RO 184 (x1.map encSpot)),(1,VI x245),(5,VI x246)] ∧ σ = []) (gh_pk [0,1,5] [] hB e e e e) ⟨_,_,h,e,e⟩ ?_
   rintro m268 fr σ ⟨x245,x246,h,rfl,rfl⟩
   obtain _ | m268 := m268
   ·rw [laws_szSpotS_l1] at h; cases h
   rw [laws_szSpotS_l1] at h
   refine Run.seq (.so hm (.p2 e e (.z 21512 (Ev.lnF e) e e (.p e (.nil (.condO e h (fun g271 h => ?_) (fun g271 h => ?_)))))))
   ·refine Run.skip (.seq (.block (.so hm (.p2 e e ?_))))
    obtain ⟨x287,hx287,h⟩ := bindO h
    refine Ops.z 29704 (Ev.iaF e e hx287) e e (.p2 e e ?_)
    obtain ⟨y288,hy288,h⟩ := bindO h
    refine Ops.z 29752 (Ev.call [] [] 0 (sem_laws_szSpot _ _ _ _ hy288) e e (.cons (.agg (.d4 .nil)) (.d1 .nil)) e (.inl e) e e) e e (.p e (.nil (.so hm (.p2 e e (.nil (.condO e h (fun g289 h => ?_) (fun g289 h => ?_)))))))
    ·refine Run.so hm (.p e (.nil (.ret ?_)))
     obtain rfl := someO h
     have h := hk268
     replace h := inlO h
     obtain rfl := someO h
     exact Ends.mkG (.inl e) e (gh_pk [0] [] hB e e e e) e e
    ·exact Run.skip (.ops hm (.p3 e e e (.nil (⟨m268,Nat.lt_succ_self m268,_,_,(gh_pk [0,1,5] [] hB e e e e),_,_,h,e,e⟩))))
   ·refine Run.exit ?_
    obtain rfl := someO h
    have h := hk268
    replace h := inrO h
    exact ⟨_,_,(gh_pk [1] [] hB e e e e),_,h,e,e⟩
  ·refine Run.so hm (.p2 e e (.nil (.ret ?_)))
   obtain rfl := someO h
   exact Ends.mkG (.inl e) e (gh_pk [0] [] hB e e e e) e e
def laws_szShelf (N : Nat) (x1 : Shelf) (x2 : Int) : Option (Int) :=
 (laws_szManifest N x1.Man x2).bind fun y115 =>
 (if (decide (y115 < 0)) = true then
 some (-1 : Int)
 else
 (laws_szSpotS N x1.Dir y115).bind fun y121 =>
 (if (decide (y121 < 0)) = true then
 some (-1 : Int)
 else
 some y121))
theorem sem_laws_szShelf (N : Nat) (x1 : Shelf) (x2 : Int) (r : Int) (h : laws_szShelf N x1 x2 = some r) : Says Tryz.prog 53 [.agg [RO 3 (x1.Man.Segs.map encI),VI x1.Man.Next,VI x1.Man.Base,VI x1.Man.BaseTerm,RO 3 (x1.Man.Conf.map encI),RO 184 (x1.Dir.map encSpot),VI x1.Stamp],VI x2] 0 [] (VI r) [] := by
 unfold laws_szShelf at h
 refine Says.of_norm e Tryz.call53 e fun B hB => ?_
 have hm : B.m ≤ 1000 := by omega
 refine Run.so hm (.z 1000 (.bx e e) e e (.p e (.nil (.so hm (.p3 e e e ?_)))))
 obtain ⟨y115,hy115,h⟩ := bindO h
 refine Ops.z 5144 (Ev.call [] [] 0 (sem_laws_szManifest _ _ _ _ hy115) e e (.cons (.agg (.d4 (.d1 .nil))) (.d1 .nil)) e (.inl e) e e) e e (.p e (.nil (.seq (.so hm (.p2 e e (.nil (.condO e h (fun g117 h => ?_) (fun g117 h => ?_))))))))
 ·refine Run.so hm (.p e (.nil (.ret ?_)))
  obtain rfl := someO h
  exact Ends.mkG (.inl e) e (gh_pk [0] [] hB e e e e) e e
 ·refine Run.skip (.so hm (.p3 e e e ?_))
  obtain ⟨y121,hy121,h⟩ := bindO h
  refine Ops.z 17432 (Ev.call [] [] 0 (sem_laws_szSpotS _ _ _ _ hy121) e e (.d2 .nil) e (.inl e) e e) e e (.p e (.nil (.seq (.so hm (.p2 e e (.nil (.condO e h (fun g123 h => ?_) (fun g123 h => ?_))))))))
  ·refine Run.so hm (.p e (.nil (.ret ?_)))
   obtain rfl := someO h
   exact Ends.mkG (.inl e) e (gh_pk [0] [] hB e e e e) e e
  ·refine Run.skip (.so hm (.p2 e e (.nil (.ret ?_))))
   obtain rfl := someO h
   exact Ends.mkG (.inl e) e (gh_pk [0] [] hB e e e e) e e
def laws_szServer (N : Nat) (x1 : Server) (x2 : Int) : Option (Int) :=
 (laws_szNode N x1.Node x2).bind fun y123 =>
 (if (decide (y123 < 0)) = true then
 some (-1 : Int)
 else
 (laws_szDisk N x1.Disk y123).bind fun y129 =>
 (if (decide (y129 < 0)) = true then
 some (-1 : Int)
 else
 (laws_szShelf N x1.Shelf y129).bind fun y135 =>
 (if (decide (y135 < 0)) = true then
 some (-1 : Int)
 else
 (if (decide ((w64 (y135 - (x1.Stage.size : Int))) < 0)) = true then
 some (-1 : Int)
 else
 some (w64 (y135 - (x1.Stage.size : Int)))))))
theorem sem_laws_szServer (N : Nat) (x1 : Server) (x2 : Int) (r : Int) (h : laws_szServer N x1 x2 = some r) : Says Tryz.prog 32 [.agg [VI x1.Node.Id,VI x1.Node.Term,VI x1.Node.Vote,VI x1.Node.Role,VI x1.Node.Lead,RO 3 (x1.Node.Conf.map encI),VI x1.Node.Log.Start,VI x1.Node.Log.StartTerm,RO 97 (x1.Node.Log.Entries.map encEntry),VI x1.Node.Commit,VI x1.Node.Clock,VI x1.Node.Limit,RO 3 (x1.Node.Votes.map encI),RO 188 (x1.Node.Peers.map encPeer),RO 181 (x1.Disk.Files.map encFile),RO 3 (x1.Shelf.Man.Segs.map encI),VI x1.Shelf.Man.Next,VI x1.Shelf.Man.Base,VI x1.Shelf.Man.BaseTerm,RO 3 (x1.Shelf.Man.Conf.map encI),RO 184 (x1.Shelf.Dir.map encSpot),VI x1.Shelf.Stamp,VS x1.Stage,VI x1.StageAt,VI x1.StageTerm],VI x2] 0 [] (VI r) [] := by
 unfold laws_szServer at h
 refine Says.of_norm e Tryz.call32 e fun B hB => ?_
 have hm : B.m ≤ 1000 := by omega
 refine Run.so hm (.z 1000 (.bx e e) e e (.p e (.nil (.so hm (.p3 e e e ?_)))))
 obtain ⟨y123,hy123,h⟩ := bindO h
 refine Ops.z 5144 (Ev.call [] [] 0 (sem_laws_szNode _ _ _ _ hy123) e e (.cons (.agg (.d4 (.d4 (.d4 (.d2 .nil))))) (.d1 .nil)) e (.inl e) e e) e e (.p e (.nil (.seq (.so hm (.p2 e e (.nil (.condO e h (fun g125 h => ?_) (fun g125 h => ?_))))))))
 ·refine Run.so hm (.p e (.nil (.ret ?_)))
  obtain rfl := someO h
  exact Ends.mkG (.inl e) e (gh_pk [0] [] hB e e e e) e e
 ·refine Run.skip (.so hm (.p3 e e e ?_))
  obtain ⟨y129,hy129,h⟩ := bindO h
  refine Ops.z 17432 (Ev.call [] [] 0 (sem_laws_szDisk _ _ _ _ hy129) e e (.cons (.agg (.d1 .nil)) (.d1 .nil)) e (.inl e) e e) e e (.p e (.nil (.seq (.so hm (.p2 e e (.nil (.condO e h (fun g131 h => ?_) (fun g131 h => ?_))))))))
  ·refine Run.so hm (.p e (.nil (.ret ?_)))
   obtain rfl := someO h
   exact Ends.mkG (.inl e) e (gh_pk [0] [] hB e e e e) e e
  ·refine Run.skip (.so hm (.p3 e e e ?_))
   obtain ⟨y135,hy135,h⟩ := bindO h
   refine Ops.z 29720 (Ev.call [] [] 0 (sem_laws_szShelf _ _ _ _ hy135) e e (.cons (.agg (.d4 (.d2 (.d1 .nil)))) (.d1 .nil)) e (.inl e) e e) e e (.p e (.nil (.seq (.so hm (.p2 e e (.nil (.condO e h (fun g137 h => ?_) (fun g137 h => ?_))))))))
   ·refine Run.so hm (.p e (.nil (.ret ?_)))
    obtain rfl := someO h
    exact Ends.mkG (.inl e) e (gh_pk [0] [] hB e e e e) e e
   ·refine Run.skip (.so hm (.p3 e e e (.p3 e e e (.nil (.seq (.so hm (.p2 e e (.nil (.condO e h (fun g139 h => ?_) (fun g139 h => ?_))))))))))
    ·refine Run.so hm (.p e (.nil (.ret ?_)))
     obtain rfl := someO h
     exact Ends.mkG (.inl e) e (gh_pk [0] [] hB e e e e) e e
    ·refine Run.skip (.so hm (.p2 e e (.nil (.ret ?_))))
     obtain rfl := someO h
     exact Ends.mkG (.inl e) e (gh_pk [0] [] hB e e e e) e e
def laws_szServerS_l1 (N : Nat) (x1 : (List Server)) : Nat → Int → Int → Option ((Int) ⊕ (Int))
 | 0,_,_ => none
 | m + 1,x245,x246 =>
 (if (decide (x246 < (x1.length : Int))) = true then
 (at? x1 x246).bind fun x287 =>
 (laws_szServer N x287 x245).bind fun y288 =>
 (if (decide (y288 < 0)) = true then
 some (Sum.inl (-1 : Int))
 else
 laws_szServerS_l1 N x1 m y288 (w64 (x246 + 1)))
 else
 some (Sum.inr x245))
def laws_szServerS_l1_r (N : Nat) (x1 : (List Server)) : (List Server) → Int → Int → Option ((Int) ⊕ (Int))
 | [],x245,x246 =>
 some (Sum.inr x245)
 | hd :: tl,x245,x246 =>
 (some hd).bind fun x287 =>
 (laws_szServer N x287 x245).bind fun y288 =>
 (if (decide (y288 < 0)) = true then
 some (Sum.inl (-1 : Int))
 else
 laws_szServerS_l1_r N x1 tl y288 (w64 (x246 + 1)))
theorem laws_szServerS_l1_rng (N : Nat) (x1 : (List Server)) (hx : x1.length ≤ 1099511627776) : ∀ (d k m : Nat) (x245 : Int),x1.length = k + d → d < m → laws_szServerS_l1 N x1 m x245 (k : Int) = laws_szServerS_l1_r N x1 (x1.drop k) x245 (k : Int) := by
 intro d
 induction d with
 | zero =>
  intro k m x245 hd hm
  obtain ⟨m,rfl⟩ : ∃ q,m = q + 1 := ⟨m - 1,by omega⟩
  rw [laws_szServerS_l1,if_neg (by simp; omega),List.drop_eq_nil_of_le (by omega),laws_szServerS_l1_r]
 | succ d ih =>
  intro k m x245 hd hm
  obtain ⟨m,rfl⟩ : ∃ q,m = q + 1 := ⟨m - 1,by omega⟩
  have hk : k < x1.length := by omega
  rw [laws_szServerS_l1,if_pos (by simp; omega),List.drop_eq_getElem_cons hk,laws_szServerS_l1_r]
  have h1 := at_lt hk
  have h2 := w64_succ (k := k) (by omega)
  have h3 := ih (k + 1) m
  simp only [h1,h2,h3 _ (by omega) (by omega)]
theorem laws_szServerS_l1_eq {N : Nat} (x1 : (List Server)) (hx : x1.length ≤ 1099511627776) (hN : x1.length < N) (x245 : Int) : laws_szServerS_l1 N x1 N x245 0 = laws_szServerS_l1_r N x1 x1 x245 0 := laws_szServerS_l1_rng N x1 hx x1.length 0 N x245 (by omega) hN
def laws_szServerS (N : Nat) (x1 : (List Server)) (x2 : Int) : Option (Int) :=
 (if (decide ((w64 (x2 - (x1.length : Int))) < 0)) = true then
 some (-1 : Int)
 else
 joinP (fun (v243 : Int) =>
 some v243) fun j243 =>
 (laws_szServerS_l1 N x1 N (w64 (x2 - (x1.length : Int))) 0).bind (Sum.elim (fun v267 => some v267) (fun (v268 : Int) => j243 v268)))
theorem sem_laws_szServerS (N : Nat) (x1 : (List Server)) (x2 : Int) (r : Int) (h : laws_szServerS N x1 x2 = some r) : Says Tryz.prog 10 [RO 88 (x1.map (encServerL false)),VI x2] 0 [] (VI r) [] := by
 unfold laws_szServerS at h
 refine Says.of_norm e Tryz.call10 e fun B hB => ?_
 have hm : B.m ≤ 1000 := by omega
 refine Run.so hm (.p e (.nil (.so hm (.p2 e e (.z 5128 (Ev.lnF e) e e (.p2 e e (.nil (.seq (.so hm (.p2 e e (.nil (.condO e h (fun g196 h => ?_) (fun g196 h => ?_)))))))))))))
 ·refine Run.so hm (.p e (.nil (.ret ?_)))
  obtain rfl := someO h
  exact Ends.mkG (.inl e) e (gh_pk [0] [] hB e e e e) e e
 ·refine Run.skip (.seqO h (fun v243 => [(1,VI v243)]) (fun (v243 : Int) => []) (fun h => ?_) (fun v243 h => ?_))
  ·refine Run.so hm (.p e (.nil (.block ?_)))
   obtain ⟨res268,h,hk268⟩ := bindO h
   refine Run.loop (n := N) (fun m268 fr σ => ∃ (x245 : Int),∃ (x246 : Int),laws_szServerS_l1 N x1 m268 x245 x246 = some res268 ∧ fr = [(0,RO 88 (x1.map (encServerL false))),(1,VI x245),(5,VI x246)] ∧ σ = []) (gh_pk [0,1,5] [] hB e e e e) ⟨_,_,h,e,e⟩ ?_
   rintro m268 fr σ ⟨x245,x246,h,rfl,rfl⟩
   obtain _ | m268 := m268
   ·rw [laws_szServerS_l1] at h; cases h
   rw [laws_szServerS_l1] at h
   refine Run.seq (.so hm (.p2 e e (.z 21512 (Ev.lnF e) e e (.p e (.nil (.condO e h (fun g271 h => ?_) (fun g271 h => ?_)))))))
   ·refine Run.skip (.seq (.block (.so hm (.p2 e e ?_))))
    obtain ⟨x287,hx287,h⟩ := bindO h
    refine Ops.z 29704 (Ev.iaF e e hx287) e e (.p2 e e ?_)
    obtain ⟨y288,hy288,h⟩ := bindO h
    refine Ops.z 29752 (Ev.call [] [] 0 (sem_laws_szServer _ _ _ _ hy288) e e (.cons (.agg (.d4 (.d4 (.d4 (.d4 (.d4 (.d4 (.d1 .nil)))))))) (.d1 .nil)) e (.inl e) e e) e e (.p e (.nil (.so hm (.p2 e e (.nil (.condO e h (fun g289 h => ?_) (fun g289 h => ?_)))))))
    ·refine Run.so hm (.p e (.nil (.ret ?_)))
     obtain rfl := someO h
     have h := hk268
     replace h := inlO h
     obtain rfl := someO h
     exact Ends.mkG (.inl e) e (gh_pk [0] [] hB e e e e) e e
    ·exact Run.skip (.ops hm (.p3 e e e (.nil (⟨m268,Nat.lt_succ_self m268,_,_,(gh_pk [0,1,5] [] hB e e e e),_,_,h,e,e⟩))))
   ·refine Run.exit ?_
    obtain rfl := someO h
    have h := hk268
    replace h := inrO h
    exact ⟨_,_,(gh_pk [1] [] hB e e e e),_,h,e,e⟩
  ·refine Run.so hm (.p2 e e (.nil (.ret ?_)))
   obtain rfl := someO h
   exact Ends.mkG (.inl e) e (gh_pk [0] [] hB e e e e) e e
def laws_szMessage (N : Nat) (x1 : Message) (x2 : Int) : Option (Int) :=
 (laws_szEntryS N x1.Entries x2).bind fun y117 =>
 (if (decide (y117 < 0)) = true then
 some (-1 : Int)
 else
 (laws_szIntS N x1.Conf y117).bind fun y123 =>
 (if (decide (y123 < 0)) = true then
 some (-1 : Int)
 else
 (if (decide ((w64 (y123 - (x1.Data.size : Int))) < 0)) = true then
 some (-1 : Int)
 else
 some (w64 (y123 - (x1.Data.size : Int))))))
theorem sem_laws_szMessage (N : Nat) (x1 : Message) (x2 : Int) (r : Int) (h : laws_szMessage N x1 x2 = some r) : Says Tryz.prog 33 [.agg [VI x1.Kind,VI x1.From,VI x1.To,VI x1.Term,VI x1.Index,VI x1.LogTerm,VI x1.Commit,VB x1.Ok,RO 97 (x1.Entries.map encEntry),RO 3 (x1.Conf.map encI),VS x1.Data,VB x1.Last],VI x2] 0 [] (VI r) [] := by
 unfold laws_szMessage at h
 refine Says.of_norm e Tryz.call33 e fun B hB => ?_
 have hm : B.m ≤ 1000 := by omega
 refine Run.so hm (.z 1000 (.bx e e) e e (.p e (.nil (.so hm (.p3 e e e ?_)))))
 obtain ⟨y117,hy117,h⟩ := bindO h
 refine Ops.z 5144 (Ev.call [] [] 0 (sem_laws_szEntryS _ _ _ _ hy117) e e (.d2 .nil) e (.inl e) e e) e e (.p e (.nil (.seq (.so hm (.p2 e e (.nil (.condO e h (fun g119 h => ?_) (fun g119 h => ?_))))))))
 ·refine Run.so hm (.p e (.nil (.ret ?_)))
  obtain rfl := someO h
  exact Ends.mkG (.inl e) e (gh_pk [0] [] hB e e e e) e e
 ·refine Run.skip (.so hm (.p3 e e e ?_))
  obtain ⟨y123,hy123,h⟩ := bindO h
  refine Ops.z 17432 (Ev.call [] [] 0 (sem_laws_szIntS _ _ _ _ hy123) e e (.d2 .nil) e (.inl e) e e) e e (.p e (.nil (.seq (.so hm (.p2 e e (.nil (.condO e h (fun g125 h => ?_) (fun g125 h => ?_))))))))
  ·refine Run.so hm (.p e (.nil (.ret ?_)))
   obtain rfl := someO h
   exact Ends.mkG (.inl e) e (gh_pk [0] [] hB e e e e) e e
  ·refine Run.skip (.so hm (.p3 e e e (.p3 e e e (.nil (.seq (.so hm (.p2 e e (.nil (.condO e h (fun g127 h => ?_) (fun g127 h => ?_))))))))))
   ·refine Run.so hm (.p e (.nil (.ret ?_)))
    obtain rfl := someO h
    exact Ends.mkG (.inl e) e (gh_pk [0] [] hB e e e e) e e
   ·refine Run.skip (.so hm (.p2 e e (.nil (.ret ?_))))
    obtain rfl := someO h
    exact Ends.mkG (.inl e) e (gh_pk [0] [] hB e e e e) e e
def laws_szMessageS_l1 (N : Nat) (x1 : (List Message)) : Nat → Int → Int → Option ((Int) ⊕ (Int))
 | 0,_,_ => none
 | m + 1,x245,x246 =>
 (if (decide (x246 < (x1.length : Int))) = true then
 (at? x1 x246).bind fun x287 =>
 (laws_szMessage N x287 x245).bind fun y288 =>
 (if (decide (y288 < 0)) = true then
 some (Sum.inl (-1 : Int))
 else
 laws_szMessageS_l1 N x1 m y288 (w64 (x246 + 1)))
 else
 some (Sum.inr x245))
def laws_szMessageS_l1_r (N : Nat) (x1 : (List Message)) : (List Message) → Int → Int → Option ((Int) ⊕ (Int))
 | [],x245,x246 =>
 some (Sum.inr x245)
 | hd :: tl,x245,x246 =>
 (some hd).bind fun x287 =>
 (laws_szMessage N x287 x245).bind fun y288 =>
 (if (decide (y288 < 0)) = true then
 some (Sum.inl (-1 : Int))
 else
 laws_szMessageS_l1_r N x1 tl y288 (w64 (x246 + 1)))
theorem laws_szMessageS_l1_rng (N : Nat) (x1 : (List Message)) (hx : x1.length ≤ 1099511627776) : ∀ (d k m : Nat) (x245 : Int),x1.length = k + d → d < m → laws_szMessageS_l1 N x1 m x245 (k : Int) = laws_szMessageS_l1_r N x1 (x1.drop k) x245 (k : Int) := by
 intro d
 induction d with
 | zero =>
  intro k m x245 hd hm
  obtain ⟨m,rfl⟩ : ∃ q,m = q + 1 := ⟨m - 1,by omega⟩
  rw [laws_szMessageS_l1,if_neg (by simp; omega),List.drop_eq_nil_of_le (by omega),laws_szMessageS_l1_r]
 | succ d ih =>
  intro k m x245 hd hm
  obtain ⟨m,rfl⟩ : ∃ q,m = q + 1 := ⟨m - 1,by omega⟩
  have hk : k < x1.length := by omega
  rw [laws_szMessageS_l1,if_pos (by simp; omega),List.drop_eq_getElem_cons hk,laws_szMessageS_l1_r]
  have h1 := at_lt hk
  have h2 := w64_succ (k := k) (by omega)
  have h3 := ih (k + 1) m
  simp only [h1,h2,h3 _ (by omega) (by omega)]
theorem laws_szMessageS_l1_eq {N : Nat} (x1 : (List Message)) (hx : x1.length ≤ 1099511627776) (hN : x1.length < N) (x245 : Int) : laws_szMessageS_l1 N x1 N x245 0 = laws_szMessageS_l1_r N x1 x1 x245 0 := laws_szMessageS_l1_rng N x1 hx x1.length 0 N x245 (by omega) hN
def laws_szMessageS (N : Nat) (x1 : (List Message)) (x2 : Int) : Option (Int) :=
 (if (decide ((w64 (x2 - (x1.length : Int))) < 0)) = true then
 some (-1 : Int)
 else
 joinP (fun (v243 : Int) =>
 some v243) fun j243 =>
 (laws_szMessageS_l1 N x1 N (w64 (x2 - (x1.length : Int))) 0).bind (Sum.elim (fun v267 => some v267) (fun (v268 : Int) => j243 v268)))
theorem sem_laws_szMessageS (N : Nat) (x1 : (List Message)) (x2 : Int) (r : Int) (h : laws_szMessageS N x1 x2 = some r) : Says Tryz.prog 11 [RO 91 (x1.map (encMessageL false)),VI x2] 0 [] (VI r) [] := by
 unfold laws_szMessageS at h
 refine Says.of_norm e Tryz.call11 e fun B hB => ?_
 have hm : B.m ≤ 1000 := by omega
 refine Run.so hm (.p e (.nil (.so hm (.p2 e e (.z 5128 (Ev.lnF e) e e (.p2 e e (.nil (.seq (.so hm (.p2 e e (.nil (.condO e h (fun g196 h => ?_) (fun g196 h => ?_)))))))))))))
 ·refine Run.so hm (.p e (.nil (.ret ?_)))
  obtain rfl := someO h
  exact Ends.mkG (.inl e) e (gh_pk [0] [] hB e e e e) e e
 ·refine Run.skip (.seqO h (fun v243 => [(1,VI v243)]) (fun (v243 : Int) => []) (fun h => ?_) (fun v243 h => ?_))
  ·refine Run.so hm (.p e (.nil (.block ?_)))
   obtain ⟨res268,h,hk268⟩ := bindO h
   refine Run.loop (n := N) (fun m268 fr σ => ∃ (x245 : Int),∃ (x246 : Int),laws_szMessageS_l1 N x1 m268 x245 x246 = some res268 ∧ fr = [(0,RO 91 (x1.map (encMessageL false))),(1,VI x245),(5,VI x246)] ∧ σ = []) (gh_pk [0,1,5] [] hB e e e e) ⟨_,_,h,e,e⟩ ?_
   rintro m268 fr σ ⟨x245,x246,h,rfl,rfl⟩
   obtain _ | m268 := m268
   ·rw [laws_szMessageS_l1] at h; cases h
   rw [laws_szMessageS_l1] at h
   refine Run.seq (.so hm (.p2 e e (.z 21512 (Ev.lnF e) e e (.p e (.nil (.condO e h (fun g271 h => ?_) (fun g271 h => ?_)))))))
   ·refine Run.skip (.seq (.block (.so hm (.p2 e e ?_))))
    obtain ⟨x287,hx287,h⟩ := bindO h
    refine Ops.z 29704 (Ev.iaF e e hx287) e e (.p2 e e ?_)
    obtain ⟨y288,hy288,h⟩ := bindO h
    refine Ops.z 29752 (Ev.call [] [] 0 (sem_laws_szMessage _ _ _ _ hy288) e e (.cons (.agg (.d4 (.d4 (.d4 .nil)))) (.d1 .nil)) e (.inl e) e e) e e (.p e (.nil (.so hm (.p2 e e (.nil (.condO e h (fun g289 h => ?_) (fun g289 h => ?_)))))))
    ·refine Run.so hm (.p e (.nil (.ret ?_)))
     obtain rfl := someO h
     have h := hk268
     replace h := inlO h
     obtain rfl := someO h
     exact Ends.mkG (.inl e) e (gh_pk [0] [] hB e e e e) e e
    ·exact Run.skip (.ops hm (.p3 e e e (.nil (⟨m268,Nat.lt_succ_self m268,_,_,(gh_pk [0,1,5] [] hB e e e e),_,_,h,e,e⟩))))
   ·refine Run.exit ?_
    obtain rfl := someO h
    have h := hk268
    replace h := inrO h
    exact ⟨_,_,(gh_pk [1] [] hB e e e e),_,h,e,e⟩
  ·refine Run.so hm (.p2 e e (.nil (.ret ?_)))
   obtain rfl := someO h
   exact Ends.mkG (.inl e) e (gh_pk [0] [] hB e e e e) e e
def laws_szWaitS (N : Nat) (x1 : (List Wait)) (x2 : Int) : Option (Int) :=
 (if (decide ((w64 (x2 - (x1.length : Int))) < 0)) = true then
 some (-1 : Int)
 else
 some (w64 (x2 - (x1.length : Int))))
theorem sem_laws_szWaitS (N : Nat) (x1 : (List Wait)) (x2 : Int) (r : Int) (h : laws_szWaitS N x1 x2 = some r) : Says Tryz.prog 12 [RO 127 (x1.map encWait),VI x2] 0 [] (VI r) [] := by
 unfold laws_szWaitS at h
 refine Says.of_norm e Tryz.call12 e fun B hB => ?_
 have hm : B.m ≤ 1000 := by omega
 refine Run.so hm (.p e (.nil (.so hm (.p2 e e (.z 5128 (Ev.lnF e) e e (.p2 e e (.nil (.seq (.so hm (.p2 e e (.nil (.condO e h (fun g103 h => ?_) (fun g103 h => ?_)))))))))))))
 ·refine Run.so hm (.p e (.nil (.ret ?_)))
  obtain rfl := someO h
  exact Ends.mkG (.inl e) e (gh_pk [0] [] hB e e e e) e e
 ·refine Run.skip (.so hm (.p2 e e (.nil (.ret ?_))))
  obtain rfl := someO h
  exact Ends.mkG (.inl e) e (gh_pk [0] [] hB e e e e) e e
def laws_szLeader (N : Nat) (x1 : Leader) (x2 : Int) : Option (Int) :=
 (laws_szLog N x1.Log x2).bind fun y109 =>
 (if (decide (y109 < 0)) = true then
 some (-1 : Int)
 else
 some y109)
theorem sem_laws_szLeader (N : Nat) (x1 : Leader) (x2 : Int) (r : Int) (h : laws_szLeader N x1 x2 = some r) : Says Tryz.prog 34 [.agg [VI x1.Node,VI x1.Term,VI x1.Log.Start,VI x1.Log.StartTerm,RO 97 (x1.Log.Entries.map encEntry)],VI x2] 0 [] (VI r) [] := by
 unfold laws_szLeader at h
 refine Says.of_norm e Tryz.call34 e fun B hB => ?_
 have hm : B.m ≤ 1000 := by omega
 refine Run.so hm (.z 1000 (.bx e e) e e (.p e (.nil (.so hm (.p3 e e e ?_)))))
 obtain ⟨y109,hy109,h⟩ := bindO h
 refine Ops.z 5144 (Ev.call [] [] 0 (sem_laws_szLog _ _ _ _ hy109) e e (.cons (.agg (.d2 (.d1 .nil))) (.d1 .nil)) e (.inl e) e e) e e (.p e (.nil (.seq (.so hm (.p2 e e (.nil (.condO e h (fun g111 h => ?_) (fun g111 h => ?_))))))))
 ·refine Run.so hm (.p e (.nil (.ret ?_)))
  obtain rfl := someO h
  exact Ends.mkG (.inl e) e (gh_pk [0] [] hB e e e e) e e
 ·refine Run.skip (.so hm (.p2 e e (.nil (.ret ?_))))
  obtain rfl := someO h
  exact Ends.mkG (.inl e) e (gh_pk [0] [] hB e e e e) e e
def laws_szLeaderS_l1 (N : Nat) (x1 : (List Leader)) : Nat → Int → Int → Option ((Int) ⊕ (Int))
 | 0,_,_ => none
 | m + 1,x245,x246 =>
 (if (decide (x246 < (x1.length : Int))) = true then
 (at? x1 x246).bind fun x287 =>
 (laws_szLeader N x287 x245).bind fun y288 =>
 (if (decide (y288 < 0)) = true then
 some (Sum.inl (-1 : Int))
 else
 laws_szLeaderS_l1 N x1 m y288 (w64 (x246 + 1)))
 else
 some (Sum.inr x245))
def laws_szLeaderS_l1_r (N : Nat) (x1 : (List Leader)) : (List Leader) → Int → Int → Option ((Int) ⊕ (Int))
 | [],x245,x246 =>
 some (Sum.inr x245)
 | hd :: tl,x245,x246 =>
 (some hd).bind fun x287 =>
 (laws_szLeader N x287 x245).bind fun y288 =>
 (if (decide (y288 < 0)) = true then
 some (Sum.inl (-1 : Int))
 else
 laws_szLeaderS_l1_r N x1 tl y288 (w64 (x246 + 1)))
theorem laws_szLeaderS_l1_rng (N : Nat) (x1 : (List Leader)) (hx : x1.length ≤ 1099511627776) : ∀ (d k m : Nat) (x245 : Int),x1.length = k + d → d < m → laws_szLeaderS_l1 N x1 m x245 (k : Int) = laws_szLeaderS_l1_r N x1 (x1.drop k) x245 (k : Int) := by
 intro d
 induction d with
 | zero =>
  intro k m x245 hd hm
  obtain ⟨m,rfl⟩ : ∃ q,m = q + 1 := ⟨m - 1,by omega⟩
  rw [laws_szLeaderS_l1,if_neg (by simp; omega),List.drop_eq_nil_of_le (by omega),laws_szLeaderS_l1_r]
 | succ d ih =>
  intro k m x245 hd hm
  obtain ⟨m,rfl⟩ : ∃ q,m = q + 1 := ⟨m - 1,by omega⟩
  have hk : k < x1.length := by omega
  rw [laws_szLeaderS_l1,if_pos (by simp; omega),List.drop_eq_getElem_cons hk,laws_szLeaderS_l1_r]
  have h1 := at_lt hk
  have h2 := w64_succ (k := k) (by omega)
  have h3 := ih (k + 1) m
  simp only [h1,h2,h3 _ (by omega) (by omega)]
theorem laws_szLeaderS_l1_eq {N : Nat} (x1 : (List Leader)) (hx : x1.length ≤ 1099511627776) (hN : x1.length < N) (x245 : Int) : laws_szLeaderS_l1 N x1 N x245 0 = laws_szLeaderS_l1_r N x1 x1 x245 0 := laws_szLeaderS_l1_rng N x1 hx x1.length 0 N x245 (by omega) hN
def laws_szLeaderS (N : Nat) (x1 : (List Leader)) (x2 : Int) : Option (Int) :=
 (if (decide ((w64 (x2 - (x1.length : Int))) < 0)) = true then
 some (-1 : Int)
 else
 joinP (fun (v243 : Int) =>
 some v243) fun j243 =>
 (laws_szLeaderS_l1 N x1 N (w64 (x2 - (x1.length : Int))) 0).bind (Sum.elim (fun v267 => some v267) (fun (v268 : Int) => j243 v268)))
theorem sem_laws_szLeaderS (N : Nat) (x1 : (List Leader)) (x2 : Int) (r : Int) (h : laws_szLeaderS N x1 x2 = some r) : Says Tryz.prog 13 [RO 94 (x1.map (encLeaderL false)),VI x2] 0 [] (VI r) [] := by
 unfold laws_szLeaderS at h
 refine Says.of_norm e Tryz.call13 e fun B hB => ?_
 have hm : B.m ≤ 1000 := by omega
 refine Run.so hm (.p e (.nil (.so hm (.p2 e e (.z 5128 (Ev.lnF e) e e (.p2 e e (.nil (.seq (.so hm (.p2 e e (.nil (.condO e h (fun g196 h => ?_) (fun g196 h => ?_)))))))))))))
 ·refine Run.so hm (.p e (.nil (.ret ?_)))
  obtain rfl := someO h
  exact Ends.mkG (.inl e) e (gh_pk [0] [] hB e e e e) e e
 ·refine Run.skip (.seqO h (fun v243 => [(1,VI v243)]) (fun (v243 : Int) => []) (fun h => ?_) (fun v243 h => ?_))
  ·refine Run.so hm (.p e (.nil (.block ?_)))
   obtain ⟨res268,h,hk268⟩ := bindO h
   refine Run.loop (n := N) (fun m268 fr σ => ∃ (x245 : Int),∃ (x246 : Int),laws_szLeaderS_l1 N x1 m268 x245 x246 = some res268 ∧ fr = [(0,RO 94 (x1.map (encLeaderL false))),(1,VI x245),(5,VI x246)] ∧ σ = []) (gh_pk [0,1,5] [] hB e e e e) ⟨_,_,h,e,e⟩ ?_
   rintro m268 fr σ ⟨x245,x246,h,rfl,rfl⟩
   obtain _ | m268 := m268
   ·rw [laws_szLeaderS_l1] at h; cases h
   rw [laws_szLeaderS_l1] at h
   refine Run.seq (.so hm (.p2 e e (.z 21512 (Ev.lnF e) e e (.p e (.nil (.condO e h (fun g271 h => ?_) (fun g271 h => ?_)))))))
   ·refine Run.skip (.seq (.block (.so hm (.p2 e e ?_))))
    obtain ⟨x287,hx287,h⟩ := bindO h
    refine Ops.z 29704 (Ev.iaF e e hx287) e e (.p2 e e ?_)
    obtain ⟨y288,hy288,h⟩ := bindO h
    refine Ops.z 29752 (Ev.call [] [] 0 (sem_laws_szLeader _ _ _ _ hy288) e e (.cons (.agg (.d4 (.d1 .nil))) (.d1 .nil)) e (.inl e) e e) e e (.p e (.nil (.so hm (.p2 e e (.nil (.condO e h (fun g289 h => ?_) (fun g289 h => ?_)))))))
    ·refine Run.so hm (.p e (.nil (.ret ?_)))
     obtain rfl := someO h
     have h := hk268
     replace h := inlO h
     obtain rfl := someO h
     exact Ends.mkG (.inl e) e (gh_pk [0] [] hB e e e e) e e
    ·exact Run.skip (.ops hm (.p3 e e e (.nil (⟨m268,Nat.lt_succ_self m268,_,_,(gh_pk [0,1,5] [] hB e e e e),_,_,h,e,e⟩))))
   ·refine Run.exit ?_
    obtain rfl := someO h
    have h := hk268
    replace h := inrO h
    exact ⟨_,_,(gh_pk [1] [] hB e e e e),_,h,e,e⟩
  ·refine Run.so hm (.p2 e e (.nil (.ret ?_)))
   obtain rfl := someO h
   exact Ends.mkG (.inl e) e (gh_pk [0] [] hB e e e e) e e
def laws_szApplied (N : Nat) (x1 : Applied) (x2 : Int) : Option (Int) :=
 (laws_szEntry N x1.Entry x2).bind fun y109 =>
 (if (decide (y109 < 0)) = true then
 some (-1 : Int)
 else
 some y109)
theorem sem_laws_szApplied (N : Nat) (x1 : Applied) (x2 : Int) (r : Int) (h : laws_szApplied N x1 x2 = some r) : Says Tryz.prog 35 [.agg [VI x1.Node,VI x1.Term,VI x1.Index,VI x1.Entry.Term,VI x1.Entry.Kind,VS x1.Entry.Data],VI x2] 0 [] (VI r) [] := by
 unfold laws_szApplied at h
 refine Says.of_norm e Tryz.call35 e fun B hB => ?_
 have hm : B.m ≤ 1000 := by omega
 refine Run.so hm (.z 1000 (.bx e e) e e (.p e (.nil (.so hm (.p3 e e e ?_)))))
 obtain ⟨y109,hy109,h⟩ := bindO h
 refine Ops.z 5144 (Ev.call [] [] 0 (sem_laws_szEntry _ _ _ _ hy109) e e (.cons (.agg (.d2 (.d1 .nil))) (.d1 .nil)) e (.inl e) e e) e e (.p e (.nil (.seq (.so hm (.p2 e e (.nil (.condO e h (fun g111 h => ?_) (fun g111 h => ?_))))))))
 ·refine Run.so hm (.p e (.nil (.ret ?_)))
  obtain rfl := someO h
  exact Ends.mkG (.inl e) e (gh_pk [0] [] hB e e e e) e e
 ·refine Run.skip (.so hm (.p2 e e (.nil (.ret ?_))))
  obtain rfl := someO h
  exact Ends.mkG (.inl e) e (gh_pk [0] [] hB e e e e) e e
def laws_szAppliedS_l1 (N : Nat) (x1 : (List Applied)) : Nat → Int → Int → Option ((Int) ⊕ (Int))
 | 0,_,_ => none
 | m + 1,x245,x246 =>
 (if (decide (x246 < (x1.length : Int))) = true then
 (at? x1 x246).bind fun x287 =>
 (laws_szApplied N x287 x245).bind fun y288 =>
 (if (decide (y288 < 0)) = true then
 some (Sum.inl (-1 : Int))
 else
 laws_szAppliedS_l1 N x1 m y288 (w64 (x246 + 1)))
 else
 some (Sum.inr x245))
def laws_szAppliedS_l1_r (N : Nat) (x1 : (List Applied)) : (List Applied) → Int → Int → Option ((Int) ⊕ (Int))
 | [],x245,x246 =>
 some (Sum.inr x245)
 | hd :: tl,x245,x246 =>
 (some hd).bind fun x287 =>
 (laws_szApplied N x287 x245).bind fun y288 =>
 (if (decide (y288 < 0)) = true then
 some (Sum.inl (-1 : Int))
 else
 laws_szAppliedS_l1_r N x1 tl y288 (w64 (x246 + 1)))
theorem laws_szAppliedS_l1_rng (N : Nat) (x1 : (List Applied)) (hx : x1.length ≤ 1099511627776) : ∀ (d k m : Nat) (x245 : Int),x1.length = k + d → d < m → laws_szAppliedS_l1 N x1 m x245 (k : Int) = laws_szAppliedS_l1_r N x1 (x1.drop k) x245 (k : Int) := by
 intro d
 induction d with
 | zero =>
  intro k m x245 hd hm
  obtain ⟨m,rfl⟩ : ∃ q,m = q + 1 := ⟨m - 1,by omega⟩
  rw [laws_szAppliedS_l1,if_neg (by simp; omega),List.drop_eq_nil_of_le (by omega),laws_szAppliedS_l1_r]
 | succ d ih =>
  intro k m x245 hd hm
  obtain ⟨m,rfl⟩ : ∃ q,m = q + 1 := ⟨m - 1,by omega⟩
  have hk : k < x1.length := by omega
  rw [laws_szAppliedS_l1,if_pos (by simp; omega),List.drop_eq_getElem_cons hk,laws_szAppliedS_l1_r]
  have h1 := at_lt hk
  have h2 := w64_succ (k := k) (by omega)
  have h3 := ih (k + 1) m
  simp only [h1,h2,h3 _ (by omega) (by omega)]
theorem laws_szAppliedS_l1_eq {N : Nat} (x1 : (List Applied)) (hx : x1.length ≤ 1099511627776) (hN : x1.length < N) (x245 : Int) : laws_szAppliedS_l1 N x1 N x245 0 = laws_szAppliedS_l1_r N x1 x1 x245 0 := laws_szAppliedS_l1_rng N x1 hx x1.length 0 N x245 (by omega) hN
def laws_szAppliedS (N : Nat) (x1 : (List Applied)) (x2 : Int) : Option (Int) :=
 (if (decide ((w64 (x2 - (x1.length : Int))) < 0)) = true then
 some (-1 : Int)
 else
 joinP (fun (v243 : Int) =>
 some v243) fun j243 =>
 (laws_szAppliedS_l1 N x1 N (w64 (x2 - (x1.length : Int))) 0).bind (Sum.elim (fun v267 => some v267) (fun (v268 : Int) => j243 v268)))
theorem sem_laws_szAppliedS (N : Nat) (x1 : (List Applied)) (x2 : Int) (r : Int) (h : laws_szAppliedS N x1 x2 = some r) : Says Tryz.prog 14 [RO 99 (x1.map encApplied),VI x2] 0 [] (VI r) [] := by
 unfold laws_szAppliedS at h
 refine Says.of_norm e Tryz.call14 e fun B hB => ?_
 have hm : B.m ≤ 1000 := by omega
 refine Run.so hm (.p e (.nil (.so hm (.p2 e e (.z 5128 (Ev.lnF e) e e (.p2 e e (.nil (.seq (.so hm (.p2 e e (.nil (.condO e h (fun g196 h => ?_) (fun g196 h => ?_)))))))))))))
 ·refine Run.so hm (.p e (.nil (.ret ?_)))
  obtain rfl := someO h
  exact Ends.mkG (.inl e) e (gh_pk [0] [] hB e e e e) e e
 ·refine Run.skip (.seqO h (fun v243 => [(1,VI v243)]) (fun (v243 : Int) => []) (fun h => ?_) (fun v243 h => ?_))
  ·refine Run.so hm (.p e (.nil (.block ?_)))
   obtain ⟨res268,h,hk268⟩ := bindO h
   refine Run.loop (n := N) (fun m268 fr σ => ∃ (x245 : Int),∃ (x246 : Int),laws_szAppliedS_l1 N x1 m268 x245 x246 = some res268 ∧ fr = [(0,RO 99 (x1.map encApplied)),(1,VI x245),(5,VI x246)] ∧ σ = []) (gh_pk [0,1,5] [] hB e e e e) ⟨_,_,h,e,e⟩ ?_
   rintro m268 fr σ ⟨x245,x246,h,rfl,rfl⟩
   obtain _ | m268 := m268
   ·rw [laws_szAppliedS_l1] at h; cases h
   rw [laws_szAppliedS_l1] at h
   refine Run.seq (.so hm (.p2 e e (.z 21512 (Ev.lnF e) e e (.p e (.nil (.condO e h (fun g271 h => ?_) (fun g271 h => ?_)))))))
   ·refine Run.skip (.seq (.block (.so hm (.p2 e e ?_))))
    obtain ⟨x287,hx287,h⟩ := bindO h
    refine Ops.z 29704 (Ev.iaF e e hx287) e e (.p2 e e ?_)
    obtain ⟨y288,hy288,h⟩ := bindO h
    refine Ops.z 29752 (Ev.call [] [] 0 (sem_laws_szApplied _ _ _ _ hy288) e e (.cons (.agg (.d4 (.d2 .nil))) (.d1 .nil)) e (.inl e) e e) e e (.p e (.nil (.so hm (.p2 e e (.nil (.condO e h (fun g289 h => ?_) (fun g289 h => ?_)))))))
    ·refine Run.so hm (.p e (.nil (.ret ?_)))
     obtain rfl := someO h
     have h := hk268
     replace h := inlO h
     obtain rfl := someO h
     exact Ends.mkG (.inl e) e (gh_pk [0] [] hB e e e e) e e
    ·exact Run.skip (.ops hm (.p3 e e e (.nil (⟨m268,Nat.lt_succ_self m268,_,_,(gh_pk [0,1,5] [] hB e e e e),_,_,h,e,e⟩))))
   ·refine Run.exit ?_
    obtain rfl := someO h
    have h := hk268
    replace h := inrO h
    exact ⟨_,_,(gh_pk [1] [] hB e e e e),_,h,e,e⟩
  ·refine Run.so hm (.p2 e e (.nil (.ret ?_)))
   obtain rfl := someO h
   exact Ends.mkG (.inl e) e (gh_pk [0] [] hB e e e e) e e
def laws_szCommand (N : Nat) (x1 : Command) (x2 : Int) : Option (Int) :=
 (if (decide ((w64 (x2 - (x1.Key.size : Int))) < 0)) = true then
 some (-1 : Int)
 else
 (if (decide ((w64 ((w64 (x2 - (x1.Key.size : Int))) - (x1.Value.size : Int))) < 0)) = true then
 some (-1 : Int)
 else
 (if (decide ((w64 ((w64 ((w64 (x2 - (x1.Key.size : Int))) - (x1.Value.size : Int))) - (x1.Old.size : Int))) < 0)) = true then
 some (-1 : Int)
 else
 some (w64 ((w64 ((w64 (x2 - (x1.Key.size : Int))) - (x1.Value.size : Int))) - (x1.Old.size : Int))))))
theorem sem_laws_szCommand (N : Nat) (x1 : Command) (x2 : Int) (r : Int) (h : laws_szCommand N x1 x2 = some r) : Says Tryz.prog 58 [.agg [VI x1.Op,VI x1.Session,VI x1.Seq,VS x1.Key,VS x1.Value,VS x1.Old],VI x2] 0 [] (VI r) [] := by
 unfold laws_szCommand at h
 refine Says.of_norm e Tryz.call58 e fun B hB => ?_
 have hm : B.m ≤ 1000 := by omega
 refine Run.so hm (.z 1000 (.bx e e) e e (.p e (.nil (.so hm (.p3 e e e (.p3 e e e (.nil (.seq (.so hm (.p2 e e (.nil (.condO e h (fun g107 h => ?_) (fun g107 h => ?_)))))))))))))
 ·refine Run.so hm (.p e (.nil (.ret ?_)))
  obtain rfl := someO h
  exact Ends.mkG (.inl e) e (gh_pk [0] [] hB e e e e) e e
 ·refine Run.skip (.so hm (.p3 e e e (.p3 e e e (.nil (.seq (.so hm (.p2 e e (.nil (.condO e h (fun g109 h => ?_) (fun g109 h => ?_))))))))))
  ·refine Run.so hm (.p e (.nil (.ret ?_)))
   obtain rfl := someO h
   exact Ends.mkG (.inl e) e (gh_pk [0] [] hB e e e e) e e
  ·refine Run.skip (.so hm (.p3 e e e (.p3 e e e (.nil (.seq (.so hm (.p2 e e (.nil (.condO e h (fun g111 h => ?_) (fun g111 h => ?_))))))))))
   ·refine Run.so hm (.p e (.nil (.ret ?_)))
    obtain rfl := someO h
    exact Ends.mkG (.inl e) e (gh_pk [0] [] hB e e e e) e e
   ·refine Run.skip (.so hm (.p2 e e (.nil (.ret ?_))))
    obtain rfl := someO h
    exact Ends.mkG (.inl e) e (gh_pk [0] [] hB e e e e) e e
def laws_szReply (N : Nat) (x1 : Reply) (x2 : Int) : Option (Int) :=
 (laws_szCommand N x1.Command x2).bind fun y111 =>
 (if (decide (y111 < 0)) = true then
 some (-1 : Int)
 else
 (if (decide ((w64 (y111 - (x1.Text.size : Int))) < 0)) = true then
 some (-1 : Int)
 else
 some (w64 (y111 - (x1.Text.size : Int)))))
theorem sem_laws_szReply (N : Nat) (x1 : Reply) (x2 : Int) (r : Int) (h : laws_szReply N x1 x2 = some r) : Says Tryz.prog 36 [.agg [VI x1.Call,VI x1.Index,VI x1.Command.Op,VI x1.Command.Session,VI x1.Command.Seq,VS x1.Command.Key,VS x1.Command.Value,VS x1.Command.Old,VS x1.Text],VI x2] 0 [] (VI r) [] := by
 unfold laws_szReply at h
 refine Says.of_norm e Tryz.call36 e fun B hB => ?_
 have hm : B.m ≤ 1000 := by omega
 refine Run.so hm (.z 1000 (.bx e e) e e (.p e (.nil (.so hm (.p3 e e e ?_)))))
 obtain ⟨y111,hy111,h⟩ := bindO h
 refine Ops.z 5144 (Ev.call [] [] 0 (sem_laws_szCommand _ _ _ _ hy111) e e (.cons (.agg (.d4 (.d2 .nil))) (.d1 .nil)) e (.inl e) e e) e e (.p e (.nil (.seq (.so hm (.p2 e e (.nil (.condO e h (fun g113 h => ?_) (fun g113 h => ?_))))))))
 ·refine Run.so hm (.p e (.nil (.ret ?_)))
  obtain rfl := someO h
  exact Ends.mkG (.inl e) e (gh_pk [0] [] hB e e e e) e e
 ·refine Run.skip (.so hm (.p3 e e e (.p3 e e e (.nil (.seq (.so hm (.p2 e e (.nil (.condO e h (fun g115 h => ?_) (fun g115 h => ?_))))))))))
  ·refine Run.so hm (.p e (.nil (.ret ?_)))
   obtain rfl := someO h
   exact Ends.mkG (.inl e) e (gh_pk [0] [] hB e e e e) e e
  ·refine Run.skip (.so hm (.p2 e e (.nil (.ret ?_))))
   obtain rfl := someO h
   exact Ends.mkG (.inl e) e (gh_pk [0] [] hB e e e e) e e
def laws_szReplyS_l1 (N : Nat) (x1 : (List Reply)) : Nat → Int → Int → Option ((Int) ⊕ (Int))
 | 0,_,_ => none
 | m + 1,x245,x246 =>
 (if (decide (x246 < (x1.length : Int))) = true then
 (at? x1 x246).bind fun x287 =>
 (laws_szReply N x287 x245).bind fun y288 =>
 (if (decide (y288 < 0)) = true then
 some (Sum.inl (-1 : Int))
 else
 laws_szReplyS_l1 N x1 m y288 (w64 (x246 + 1)))
 else
 some (Sum.inr x245))
def laws_szReplyS_l1_r (N : Nat) (x1 : (List Reply)) : (List Reply) → Int → Int → Option ((Int) ⊕ (Int))
 | [],x245,x246 =>
 some (Sum.inr x245)
 | hd :: tl,x245,x246 =>
 (some hd).bind fun x287 =>
 (laws_szReply N x287 x245).bind fun y288 =>
 (if (decide (y288 < 0)) = true then
 some (Sum.inl (-1 : Int))
 else
 laws_szReplyS_l1_r N x1 tl y288 (w64 (x246 + 1)))
theorem laws_szReplyS_l1_rng (N : Nat) (x1 : (List Reply)) (hx : x1.length ≤ 1099511627776) : ∀ (d k m : Nat) (x245 : Int),x1.length = k + d → d < m → laws_szReplyS_l1 N x1 m x245 (k : Int) = laws_szReplyS_l1_r N x1 (x1.drop k) x245 (k : Int) := by
 intro d
 induction d with
 | zero =>
  intro k m x245 hd hm
  obtain ⟨m,rfl⟩ : ∃ q,m = q + 1 := ⟨m - 1,by omega⟩
  rw [laws_szReplyS_l1,if_neg (by simp; omega),List.drop_eq_nil_of_le (by omega),laws_szReplyS_l1_r]
 | succ d ih =>
  intro k m x245 hd hm
  obtain ⟨m,rfl⟩ : ∃ q,m = q + 1 := ⟨m - 1,by omega⟩
  have hk : k < x1.length := by omega
  rw [laws_szReplyS_l1,if_pos (by simp; omega),List.drop_eq_getElem_cons hk,laws_szReplyS_l1_r]
  have h1 := at_lt hk
  have h2 := w64_succ (k := k) (by omega)
  have h3 := ih (k + 1) m
  simp only [h1,h2,h3 _ (by omega) (by omega)]
theorem laws_szReplyS_l1_eq {N : Nat} (x1 : (List Reply)) (hx : x1.length ≤ 1099511627776) (hN : x1.length < N) (x245 : Int) : laws_szReplyS_l1 N x1 N x245 0 = laws_szReplyS_l1_r N x1 x1 x245 0 := laws_szReplyS_l1_rng N x1 hx x1.length 0 N x245 (by omega) hN
def laws_szReplyS (N : Nat) (x1 : (List Reply)) (x2 : Int) : Option (Int) :=
 (if (decide ((w64 (x2 - (x1.length : Int))) < 0)) = true then
 some (-1 : Int)
 else
 joinP (fun (v243 : Int) =>
 some v243) fun j243 =>
 (laws_szReplyS_l1 N x1 N (w64 (x2 - (x1.length : Int))) 0).bind (Sum.elim (fun v267 => some v267) (fun (v268 : Int) => j243 v268)))
theorem sem_laws_szReplyS (N : Nat) (x1 : (List Reply)) (x2 : Int) (r : Int) (h : laws_szReplyS N x1 x2 = some r) : Says Tryz.prog 15 [RO 103 (x1.map encReply),VI x2] 0 [] (VI r) [] := by
 unfold laws_szReplyS at h
 refine Says.of_norm e Tryz.call15 e fun B hB => ?_
 have hm : B.m ≤ 1000 := by omega
 refine Run.so hm (.p e (.nil (.so hm (.p2 e e (.z 5128 (Ev.lnF e) e e (.p2 e e (.nil (.seq (.so hm (.p2 e e (.nil (.condO e h (fun g196 h => ?_) (fun g196 h => ?_)))))))))))))
 ·refine Run.so hm (.p e (.nil (.ret ?_)))
  obtain rfl := someO h
  exact Ends.mkG (.inl e) e (gh_pk [0] [] hB e e e e) e e
 ·refine Run.skip (.seqO h (fun v243 => [(1,VI v243)]) (fun (v243 : Int) => []) (fun h => ?_) (fun v243 h => ?_))
  ·refine Run.so hm (.p e (.nil (.block ?_)))
   obtain ⟨res268,h,hk268⟩ := bindO h
   refine Run.loop (n := N) (fun m268 fr σ => ∃ (x245 : Int),∃ (x246 : Int),laws_szReplyS_l1 N x1 m268 x245 x246 = some res268 ∧ fr = [(0,RO 103 (x1.map encReply)),(1,VI x245),(5,VI x246)] ∧ σ = []) (gh_pk [0,1,5] [] hB e e e e) ⟨_,_,h,e,e⟩ ?_
   rintro m268 fr σ ⟨x245,x246,h,rfl,rfl⟩
   obtain _ | m268 := m268
   ·rw [laws_szReplyS_l1] at h; cases h
   rw [laws_szReplyS_l1] at h
   refine Run.seq (.so hm (.p2 e e (.z 21512 (Ev.lnF e) e e (.p e (.nil (.condO e h (fun g271 h => ?_) (fun g271 h => ?_)))))))
   ·refine Run.skip (.seq (.block (.so hm (.p2 e e ?_))))
    obtain ⟨x287,hx287,h⟩ := bindO h
    refine Ops.z 29704 (Ev.iaF e e hx287) e e (.p2 e e ?_)
    obtain ⟨y288,hy288,h⟩ := bindO h
    refine Ops.z 29752 (Ev.call [] [] 0 (sem_laws_szReply _ _ _ _ hy288) e e (.cons (.agg (.d4 (.d4 (.d1 .nil)))) (.d1 .nil)) e (.inl e) e e) e e (.p e (.nil (.so hm (.p2 e e (.nil (.condO e h (fun g289 h => ?_) (fun g289 h => ?_)))))))
    ·refine Run.so hm (.p e (.nil (.ret ?_)))
     obtain rfl := someO h
     have h := hk268
     replace h := inlO h
     obtain rfl := someO h
     exact Ends.mkG (.inl e) e (gh_pk [0] [] hB e e e e) e e
    ·exact Run.skip (.ops hm (.p3 e e e (.nil (⟨m268,Nat.lt_succ_self m268,_,_,(gh_pk [0,1,5] [] hB e e e e),_,_,h,e,e⟩))))
   ·refine Run.exit ?_
    obtain rfl := someO h
    have h := hk268
    replace h := inrO h
    exact ⟨_,_,(gh_pk [1] [] hB e e e e),_,h,e,e⟩
  ·refine Run.so hm (.p2 e e (.nil (.ret ?_)))
   obtain rfl := someO h
   exact Ends.mkG (.inl e) e (gh_pk [0] [] hB e e e e) e e
def laws_szWorld (N : Nat) (x1 : World) (x2 : Int) : Option (Int) :=
 (laws_szBoolS N x1.Up x2).bind fun y145 =>
 (if (decide (y145 < 0)) = true then
 some (-1 : Int)
 else
 (laws_szServerS N x1.Servers y145).bind fun y151 =>
 (if (decide (y151 < 0)) = true then
 some (-1 : Int)
 else
 (laws_szMessageS N x1.Net y151).bind fun y157 =>
 (if (decide (y157 < 0)) = true then
 some (-1 : Int)
 else
 (laws_szWaitS N x1.Waits y157).bind fun y163 =>
 (if (decide (y163 < 0)) = true then
 some (-1 : Int)
 else
 (laws_szLeaderS N x1.Leaders y163).bind fun y169 =>
 (if (decide (y169 < 0)) = true then
 some (-1 : Int)
 else
 (laws_szAppliedS N x1.Applied y169).bind fun y175 =>
 (if (decide (y175 < 0)) = true then
 some (-1 : Int)
 else
 (laws_szReplyS N x1.Replies y175).bind fun y181 =>
 (if (decide (y181 < 0)) = true then
 some (-1 : Int)
 else
 some y181)))))))
theorem sem_laws_szWorld (N : Nat) (x1 : World) (x2 : Int) (r : Int) (h : laws_szWorld N x1 x2 = some r) : Says Tryz.prog 4 [.agg [RO 4 (x1.Up.map encB),RO 88 (x1.Servers.map (encServerL false)),RO 91 (x1.Net.map (encMessageL false)),RO 127 (x1.Waits.map encWait),RO 94 (x1.Leaders.map (encLeaderL false)),RO 99 (x1.Applied.map encApplied),RO 103 (x1.Replies.map encReply)],VI x2] 0 [] (VI r) [] := by
 unfold laws_szWorld at h
 refine Says.of_norm e Tryz.call4 e fun B hB => ?_
 have hm : B.m ≤ 1000 := by omega
 refine Run.so hm (.z 1000 (.bx e e) e e (.p e (.nil (.so hm (.p3 e e e ?_)))))
 obtain ⟨y145,hy145,h⟩ := bindO h
 refine Ops.z 5144 (Ev.call [] [] 0 (sem_laws_szBoolS _ _ _ _ hy145) e e (.d2 .nil) e (.inl e) e e) e e (.p e (.nil (.seq (.so hm (.p2 e e (.nil (.condO e h (fun g147 h => ?_) (fun g147 h => ?_))))))))
 ·refine Run.so hm (.p e (.nil (.ret ?_)))
  obtain rfl := someO h
  exact Ends.mkG (.inl e) e (gh_pk [0] [] hB e e e e) e e
 ·refine Run.skip (.so hm (.p3 e e e ?_))
  obtain ⟨y151,hy151,h⟩ := bindO h
  refine Ops.z 17432 (Ev.call [] [] 0 (sem_laws_szServerS _ _ _ _ hy151) e e (.d2 .nil) e (.inl e) e e) e e (.p e (.nil (.seq (.so hm (.p2 e e (.nil (.condO e h (fun g153 h => ?_) (fun g153 h => ?_))))))))
  ·refine Run.so hm (.p e (.nil (.ret ?_)))
   obtain rfl := someO h
   exact Ends.mkG (.inl e) e (gh_pk [0] [] hB e e e e) e e
  ·refine Run.skip (.so hm (.p3 e e e ?_))
   obtain ⟨y157,hy157,h⟩ := bindO h
   refine Ops.z 29720 (Ev.call [] [] 0 (sem_laws_szMessageS _ _ _ _ hy157) e e (.d2 .nil) e (.inl e) e e) e e (.p e (.nil (.seq (.so hm (.p2 e e (.nil (.condO e h (fun g159 h => ?_) (fun g159 h => ?_))))))))
   ·refine Run.so hm (.p e (.nil (.ret ?_)))
    obtain rfl := someO h
    exact Ends.mkG (.inl e) e (gh_pk [0] [] hB e e e e) e e
   ·refine Run.skip (.so hm (.p3 e e e ?_))
    obtain ⟨y163,hy163,h⟩ := bindO h
    refine Ops.z 42008 (Ev.call [] [] 0 (sem_laws_szWaitS _ _ _ _ hy163) e e (.d2 .nil) e (.inl e) e e) e e (.p e (.nil (.seq (.so hm (.p2 e e (.nil (.condO e h (fun g165 h => ?_) (fun g165 h => ?_))))))))
    ·refine Run.so hm (.p e (.nil (.ret ?_)))
     obtain rfl := someO h
     exact Ends.mkG (.inl e) e (gh_pk [0] [] hB e e e e) e e
    ·refine Run.skip (.so hm (.p3 e e e ?_))
     obtain ⟨y169,hy169,h⟩ := bindO h
     refine Ops.z 54296 (Ev.call [] [] 0 (sem_laws_szLeaderS _ _ _ _ hy169) e e (.d2 .nil) e (.inl e) e e) e e (.p e (.nil (.seq (.so hm (.p2 e e (.nil (.condO e h (fun g171 h => ?_) (fun g171 h => ?_))))))))
     ·refine Run.so hm (.p e (.nil (.ret ?_)))
      obtain rfl := someO h
      exact Ends.mkG (.inl e) e (gh_pk [0] [] hB e e e e) e e
     ·refine Run.skip (.so hm (.p3 e e e ?_))
      obtain ⟨y175,hy175,h⟩ := bindO h
      refine Ops.z 66584 (Ev.call [] [] 0 (sem_laws_szAppliedS _ _ _ _ hy175) e e (.d2 .nil) e (.inl e) e e) e e (.p e (.nil (.seq (.so hm (.p2 e e (.nil (.condO e h (fun g177 h => ?_) (fun g177 h => ?_))))))))
      ·refine Run.so hm (.p e (.nil (.ret ?_)))
       obtain rfl := someO h
       exact Ends.mkG (.inl e) e (gh_pk [0] [] hB e e e e) e e
      ·refine Run.skip (.so hm (.p3 e e e ?_))
       obtain ⟨y181,hy181,h⟩ := bindO h
       refine Ops.z 78872 (Ev.call [] [] 0 (sem_laws_szReplyS _ _ _ _ hy181) e e (.d2 .nil) e (.inl e) e e) e e (.p e (.nil (.seq (.so hm (.p2 e e (.nil (.condO e h (fun g183 h => ?_) (fun g183 h => ?_))))))))
       ·refine Run.so hm (.p e (.nil (.ret ?_)))
        obtain rfl := someO h
        exact Ends.mkG (.inl e) e (gh_pk [0] [] hB e e e e) e e
       ·refine Run.skip (.so hm (.p2 e e (.nil (.ret ?_))))
        obtain rfl := someO h
        exact Ends.mkG (.inl e) e (gh_pk [0] [] hB e e e e) e e
def laws_toBoolS_l1 (N : Nat) (x1 : (List Bool)) : Nat → Int → (List Bool) → Option ((List Bool))
 | 0,_,_ => none
 | m + 1,x186,x187 =>
 (if (decide (x186 < (x1.length : Int))) = true then
 (at? x1 x186).bind fun x208 =>
 (at? x187 x186).bind fun x209 =>
 laws_toBoolS_l1 N x1 m (w64 (x186 + 1)) (x187.set x186.toNat x208)
 else
 some x187)
def laws_toBoolS_l1_r (N : Nat) (x1 : (List Bool)) : (List Bool) → Int → (List Bool) → Option ((List Bool))
 | [],x186,x187 =>
 some x187
 | hd :: tl,x186,x187 =>
 (some hd).bind fun x208 =>
 (at? x187 x186).bind fun x209 =>
 laws_toBoolS_l1_r N x1 tl (w64 (x186 + 1)) (x187.set x186.toNat x208)
theorem laws_toBoolS_l1_rng (N : Nat) (x1 : (List Bool)) (hx : x1.length ≤ 1099511627776) : ∀ (d k m : Nat) (x187 : (List Bool)),x1.length = k + d → d < m → laws_toBoolS_l1 N x1 m (k : Int) x187 = laws_toBoolS_l1_r N x1 (x1.drop k) (k : Int) x187 := by
 intro d
 induction d with
 | zero =>
  intro k m x187 hd hm
  obtain ⟨m,rfl⟩ : ∃ q,m = q + 1 := ⟨m - 1,by omega⟩
  rw [laws_toBoolS_l1,if_neg (by simp; omega),List.drop_eq_nil_of_le (by omega),laws_toBoolS_l1_r]
 | succ d ih =>
  intro k m x187 hd hm
  obtain ⟨m,rfl⟩ : ∃ q,m = q + 1 := ⟨m - 1,by omega⟩
  have hk : k < x1.length := by omega
  rw [laws_toBoolS_l1,if_pos (by simp; omega),List.drop_eq_getElem_cons hk,laws_toBoolS_l1_r]
  have h1 := at_lt hk
  have h2 := w64_succ (k := k) (by omega)
  have h3 := ih (k + 1) m
  simp only [h1,h2,h3 _ (by omega) (by omega)]
theorem laws_toBoolS_l1_eq {N : Nat} (x1 : (List Bool)) (hx : x1.length ≤ 1099511627776) (hN : x1.length < N) (x187 : (List Bool)) : laws_toBoolS_l1 N x1 N 0 x187 = laws_toBoolS_l1_r N x1 x1 0 x187 := laws_toBoolS_l1_rng N x1 hx x1.length 0 N x187 (by omega) hN
def laws_toBoolS (N : Nat) (x1 : (List Bool)) : Option ((List Bool)) :=
 (mk? false (x1.length : Int)).bind fun x158 =>
 joinP (fun (v184 : (List Bool)) =>
 some v184) fun j184 =>
 (laws_toBoolS_l1 N x1 N 0 x158).bind (fun v198 => j184 v198)
theorem sem_laws_toBoolS (N : Nat) (x1 : (List Bool)) (r : (List Bool)) (h : laws_toBoolS N x1 = some r) : Says Tryz.prog 17 [RO 4 (x1.map encB)] 0 [] (.sl 0 4 0 r.length) [(0,.vec 4 (r.map encB))] := by
 unfold laws_toBoolS at h
 refine Says.of_norm e Tryz.call17 e fun B hB => ?_
 have hm : B.m ≤ 1000 := by omega
 refine Run.so hm (.p e (.nil (.so hm (.p e (.z 5112 (Ev.lnF e) e e ?_)))))
 obtain ⟨x158,hx158,h⟩ := bindO h
 refine Ops.z 5128 (Ev.msW (f := encB) (zv := false) e e e bt4 e hx158) e e (.p e (.nil (.seqO h (fun v184 => [(3,.sl 0 4 0 v184.length)]) (fun (v184 : (List Bool)) => [(0,.vec 4 (v184.map encB))]) (fun h => ?_) (fun v184 h => ?_))))
 ·refine Run.so hm (.p e (.nil (.block ?_)))
  obtain ⟨res198,h,hk198⟩ := bindO h
  refine Run.loop (n := N) (fun m198 fr σ => ∃ (x186 : Int),∃ (x187 : (List Bool)),laws_toBoolS_l1 N x1 m198 x186 x187 = some res198 ∧ fr = [(0,RO 4 (x1.map encB)),(3,.sl 0 4 0 x187.length),(4,VI x186)] ∧ σ = [(0,.vec 4 (x187.map encB))]) (gh_pk [0,3,4] [5128] hB e e e e) ⟨_,_,h,e,e⟩ ?_
  rintro m198 fr σ ⟨x186,x187,h,rfl,rfl⟩
  obtain _ | m198 := m198
  ·rw [laws_toBoolS_l1] at h; cases h
  rw [laws_toBoolS_l1] at h
  refine Run.seq (.so hm (.p2 e e (.z 13320 (Ev.lnF e) e e (.p e (.nil (.condO e h (fun g201 h => ?_) (fun g201 h => ?_)))))))
  ·refine Run.skip (.seq (.block (.ops hm (.p3 e e e (.p e ?_)))))
   obtain ⟨x208,hx208,h⟩ := bindO h
   refine Ops.z 21544 (Ev.iaF e e hx208) e e (.p e ?_)
   obtain ⟨x209,hx209,h⟩ := bindO h
   exact Ops.z 21576 (Ev.iaW e e e hx209) e e (.y 21592 (Ev.stE (f := encB) (v' := x208) e e (at_some hx209).2 e (.d1 .nil) e e e e e) e e (.nil (.ops hm (.p3 e e e (.nil (⟨m198,Nat.lt_succ_self m198,_,_,(gh_pk [0,3,4] [0] hB e e (by first | rfl | (simp only [List.length_set]; done) | (simp only [List.length_set]; rfl)) (by first | rfl | (simp only [List.length_set]; done) | (simp only [List.length_set]; rfl))),_,_,h,e,e⟩))))))
  ·refine Run.exit ?_
   obtain rfl := someO h
   have h := hk198
   exact ⟨_,_,(gh_pk [3] [0] hB e e e e),_,h,e,e⟩
 ·refine Run.so hm (.p2 e e (.nil (.ret ?_)))
  obtain rfl := someO h
  exact Ends.mkG (.inl e) e (gh_pk [0] [0] hB e e e e) e e
end Go.Proofs.YtedoifjaobebeaaGreatDoor.Pe.FnExactShowWorld
