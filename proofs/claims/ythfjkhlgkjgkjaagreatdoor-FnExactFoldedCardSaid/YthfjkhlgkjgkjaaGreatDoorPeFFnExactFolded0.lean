/- Functions,as pure functions; and that Go does just that. -/
import Derived.Test.YthfjkhlgkjgkjaaGreatDoorPeGo
import Derived.Test.YthfjkhlgkjgkjaaGreatDoorPeSpec
import Derived.Test.YthfjkhlgkjgkjaaGreatDoorShelf
import Derived.Test.YthfjkhlgkjgkjaaGreatDoorPeIns144
import Derived.Test.YthfjkhlgkjgkjaaGreatDoorPeIns145
import Derived.Test.YthfjkhlgkjgkjaaGreatDoorPeIns199
import Derived.Test.YthfjkhlgkjgkjaaGreatDoorPeIns288
import Derived.Test.YthfjkhlgkjgkjaaGreatDoorPeIns289
import Derived.Test.YthfjkhlgkjgkjaaGreatDoorPeSFnExactFolded
namespace Go.Proofs.YthfjkhlgkjgkjaaGreatDoor.Pe.FnExactFolded
open Go Go.RowKit
set_option linter.unusedVariables false
set_option linter.unusedSimpArgs false
set_option maxHeartbeats 40000000
set_option maxRecDepth 100000
instance : HM Tryz.prog := ⟨by kernel_rfl⟩
structure Entry where
 Term : Int
 Kind : Int
 Data : ByteArray
abbrev encEntry (x : Entry) : List C := [.i .i64 x.Term,.i .i64 x.Kind,.s x.Data]
structure Log where
 Start : Int
 StartTerm : Int
 Entries : (List Entry)
abbrev encLogL (o : Bool) (x : Log) : List C := [.i .i64 x.Start,.i .i64 x.StartTerm,.row o 126 (x.Entries.map encEntry)]
structure Peer where
 Id : Int
 Next : Int
 Match : Int
 Sent : Int
abbrev encPeer (x : Peer) : List C := [.i .i64 x.Id,.i .i64 x.Next,.i .i64 x.Match,.i .i64 x.Sent]
structure Node where
 Id : Int
 Term : Int
 Vote : Int
 Role : Int
 Lead : Int
 Conf : (List Int)
 Log : Log
 Commit : Int
 Clock : Int
 Limit : Int
 Votes : (List Int)
 Peers : (List Peer)
abbrev encNodeL (o : Bool) (x : Node) : List C := [.i .i64 x.Id,.i .i64 x.Term,.i .i64 x.Vote,.i .i64 x.Role,.i .i64 x.Lead,.row o 3 (x.Conf.map encI),.i .i64 x.Log.Start,.i .i64 x.Log.StartTerm,.row o 126 (x.Log.Entries.map encEntry),.i .i64 x.Commit,.i .i64 x.Clock,.i .i64 x.Limit,.row o 3 (x.Votes.map encI),.row o 329 (x.Peers.map encPeer)]
structure File where
 Name : ByteArray
 Text : ByteArray
abbrev encFile (x : File) : List C := [.s x.Name,.s x.Text]
structure Disk where
 Files : (List File)
abbrev encDiskL (o : Bool) (x : Disk) : List C := [.row o 316 (x.Files.map encFile)]
structure Manifest where
 Segs : (List Int)
 Next : Int
 Base : Int
 BaseTerm : Int
 Conf : (List Int)
abbrev encManifestL (o : Bool) (x : Manifest) : List C := [.row o 3 (x.Segs.map encI),.i .i64 x.Next,.i .i64 x.Base,.i .i64 x.BaseTerm,.row o 3 (x.Conf.map encI)]
structure Spot where
 Key : ByteArray
 Seg : Int
 At : Int
 Size : Int
abbrev encSpot (x : Spot) : List C := [.s x.Key,.i .i64 x.Seg,.i .i64 x.At,.i .i64 x.Size]
structure Shelf where
 Man : Manifest
 Dir : (List Spot)
 Stamp : Int
abbrev encShelfL (o : Bool) (x : Shelf) : List C := [.row o 3 (x.Man.Segs.map encI),.i .i64 x.Man.Next,.i .i64 x.Man.Base,.i .i64 x.Man.BaseTerm,.row o 3 (x.Man.Conf.map encI),.row o 318 (x.Dir.map encSpot),.i .i64 x.Stamp]
structure Server where
 Node : Node
 Disk : Disk
 Shelf : Shelf
 Stage : ByteArray
 StageAt : Int
 StageTerm : Int
abbrev encServerL (o : Bool) (x : Server) : List C := [.i .i64 x.Node.Id,.i .i64 x.Node.Term,.i .i64 x.Node.Vote,.i .i64 x.Node.Role,.i .i64 x.Node.Lead,.row o 3 (x.Node.Conf.map encI),.i .i64 x.Node.Log.Start,.i .i64 x.Node.Log.StartTerm,.row o 126 (x.Node.Log.Entries.map encEntry),.i .i64 x.Node.Commit,.i .i64 x.Node.Clock,.i .i64 x.Node.Limit,.row o 3 (x.Node.Votes.map encI),.row o 329 (x.Node.Peers.map encPeer),.row o 316 (x.Disk.Files.map encFile),.row o 3 (x.Shelf.Man.Segs.map encI),.i .i64 x.Shelf.Man.Next,.i .i64 x.Shelf.Man.Base,.i .i64 x.Shelf.Man.BaseTerm,.row o 3 (x.Shelf.Man.Conf.map encI),.row o 318 (x.Shelf.Dir.map encSpot),.i .i64 x.Shelf.Stamp,.s x.Stage,.i .i64 x.StageAt,.i .i64 x.StageTerm]
structure Message where
 Kind : Int
 From : Int
 To : Int
 Term : Int
 Index : Int
 LogTerm : Int
 Commit : Int
 Ok : Bool
 Entries : (List Entry)
 Conf : (List Int)
 Data : ByteArray
 Last : Bool
abbrev encMessageL (o : Bool) (x : Message) : List C := [.i .i64 x.Kind,.i .i64 x.From,.i .i64 x.To,.i .i64 x.Term,.i .i64 x.Index,.i .i64 x.LogTerm,.i .i64 x.Commit,.b x.Ok,.row o 126 (x.Entries.map encEntry),.row o 3 (x.Conf.map encI),.s x.Data,.b x.Last]
structure Wait where
 Node : Int
 Index : Int
 Term : Int
 Call : Int
abbrev encWait (x : Wait) : List C := [.i .i64 x.Node,.i .i64 x.Index,.i .i64 x.Term,.i .i64 x.Call]
structure Leader where
 Node : Int
 Term : Int
 Log : Log
abbrev encLeaderL (o : Bool) (x : Leader) : List C := [.i .i64 x.Node,.i .i64 x.Term,.i .i64 x.Log.Start,.i .i64 x.Log.StartTerm,.row o 126 (x.Log.Entries.map encEntry)]
structure Applied where
 Node : Int
 Term : Int
 Index : Int
 Entry : Entry
abbrev encApplied (x : Applied) : List C := [.i .i64 x.Node,.i .i64 x.Term,.i .i64 x.Index,.i .i64 x.Entry.Term,.i .i64 x.Entry.Kind,.s x.Entry.Data]
structure Command where
 Op : Int
 Session : Int
 Seq : Int
 Key : ByteArray
 Value : ByteArray
 Old : ByteArray
abbrev encCommand (x : Command) : List C := [.i .i64 x.Op,.i .i64 x.Session,.i .i64 x.Seq,.s x.Key,.s x.Value,.s x.Old]
structure Reply where
 Call : Int
 Index : Int
 Command : Command
 Text : ByteArray
abbrev encReply (x : Reply) : List C := [.i .i64 x.Call,.i .i64 x.Index,.i .i64 x.Command.Op,.i .i64 x.Command.Session,.i .i64 x.Command.Seq,.s x.Command.Key,.s x.Command.Value,.s x.Command.Old,.s x.Text]
structure World where
 Up : (List Bool)
 Servers : (List Server)
 Net : (List Message)
 Waits : (List Wait)
 Leaders : (List Leader)
 Applied : (List Applied)
 Replies : (List Reply)
abbrev encWorldL (o : Bool) (x : World) : List C := [.row o 4 (x.Up.map encB),.row o 118 (x.Servers.map (encServerL o)),.row o 121 (x.Net.map (encMessageL o)),.row o 158 (x.Waits.map encWait),.row o 124 (x.Leaders.map (encLeaderL o)),.row o 128 (x.Applied.map encApplied),.row o 133 (x.Replies.map encReply)]
abbrev encServer (o : Bool) (x : Server) : List C := [.i .i64 x.Node.Id,.i .i64 x.Node.Term,.i .i64 x.Node.Vote,.i .i64 x.Node.Role,.i .i64 x.Node.Lead,.row o 3 (x.Node.Conf.map encI),.i .i64 x.Node.Log.Start,.i .i64 x.Node.Log.StartTerm,.row o 100 (x.Node.Log.Entries.map encEntry),.i .i64 x.Node.Commit,.i .i64 x.Node.Clock,.i .i64 x.Node.Limit,.row o 3 (x.Node.Votes.map encI),.row o 327 (x.Node.Peers.map encPeer),.row o 141 (x.Disk.Files.map encFile),.row o 3 (x.Shelf.Man.Segs.map encI),.i .i64 x.Shelf.Man.Next,.i .i64 x.Shelf.Man.Base,.i .i64 x.Shelf.Man.BaseTerm,.row o 3 (x.Shelf.Man.Conf.map encI),.row o 148 (x.Shelf.Dir.map encSpot),.i .i64 x.Shelf.Stamp,.s x.Stage,.i .i64 x.StageAt,.i .i64 x.StageTerm]
theorem ro_encServer (x : Server) : roCs (encServer true x) = encServer false x := by simp only [encServer,roCs,roC,roRows_mapf (fun _ => rfl),roRows_mapf (fun _ => rfl),roRows_mapf (fun _ => rfl),roRows_mapf (fun _ => rfl),roRows_mapf (fun _ => rfl),roRows_mapf (fun _ => rfl),roRows_mapf (fun _ => rfl),roRows_mapf (fun _ => rfl)]
abbrev encMessage (o : Bool) (x : Message) : List C := [.i .i64 x.Kind,.i .i64 x.From,.i .i64 x.To,.i .i64 x.Term,.i .i64 x.Index,.i .i64 x.LogTerm,.i .i64 x.Commit,.b x.Ok,.row o 100 (x.Entries.map encEntry),.row o 3 (x.Conf.map encI),.s x.Data,.b x.Last]
theorem ro_encMessage (x : Message) : roCs (encMessage true x) = encMessage false x := by simp only [encMessage,roCs,roC,roRows_mapf (fun _ => rfl),roRows_mapf (fun _ => rfl)]
abbrev encLeader (o : Bool) (x : Leader) : List C := [.i .i64 x.Node,.i .i64 x.Term,.i .i64 x.Log.Start,.i .i64 x.Log.StartTerm,.row o 100 (x.Log.Entries.map encEntry)]
theorem ro_encLeader (x : Leader) : roCs (encLeader true x) = encLeader false x := by simp only [encLeader,roCs,roC,roRows_mapf (fun _ => rfl)]
structure Tl05Cur where
 text : ByteArray
 at' : Int
 bad : Bool
structure Change where
 Key : ByteArray
 Value : ByteArray
 Gone : Bool
abbrev encChange (x : Change) : List C := [.s x.Key,.s x.Value,.b x.Gone]
structure Batch where
 Stamp : Int
 Changes : (List Change)
structure Raw where
 Kind : Int
 Name : ByteArray
 To : ByteArray
 Text : ByteArray
abbrev encRaw (x : Raw) : List C := [.i .i64 x.Kind,.s x.Name,.s x.To,.s x.Text]
structure Pair where
 Key : ByteArray
 Value : ByteArray
abbrev encPair (x : Pair) : List C := [.s x.Key,.s x.Value]
structure Tl15State where
 id : Int
 seq : Int
 at' : Int
 reply : ByteArray
abbrev encTl15State (x : Tl15State) : List C := [.i .i64 x.id,.i .i64 x.seq,.i .i64 x.at',.s x.reply]
structure Treader where
 s : ByteArray
 at' : Int
 bad : Bool
structure Tplaced where
 b : Batch
 text : ByteArray
 at' : Int
abbrev encTplaced (o : Bool) (x : Tplaced) : List C := [.i .i64 x.b.Stamp,.row o 268 (x.b.Changes.map encChange),.s x.text,.i .i64 x.at']
structure Tsession where
 number : Int
 seq : Int
 index : Int
 reply : ByteArray
abbrev encTsession (x : Tsession) : List C := [.i .i64 x.number,.i .i64 x.seq,.i .i64 x.index,.s x.reply]
section
variable {β ρ : Type} {c : Ctx} {m : Nat} {s s' : List Fm} {tl tl' : Tl} {fr fr' : Fr} {σ σ' : St} {r : β}
def lJ8 {A0 A1 A2 A3 A4 A5 A6 A7 : Type} (F : Nat → A0 → A1 → A2 → A3 → A4 → A5 → A6 → A7 → Option ρ) (q : ρ) (FR : A0 → A1 → A2 → A3 → A4 → A5 → A6 → A7 → Fr) (SG : A0 → A1 → A2 → A3 → A4 → A5 → A6 → A7 → St) : Nat → Fr → St → Prop := fun n fr σ => ∃ a0 a1 a2 a3 a4 a5 a6 a7,F n a0 a1 a2 a3 a4 a5 a6 a7 = some q ∧ fr = FR a0 a1 a2 a3 a4 a5 a6 a7 ∧ σ = SG a0 a1 a2 a3 a4 a5 a6 a7
theorem _root_.Go.Proofs.YthfjkhlgkjgkjaaGreatDoor.Pe.G.L8 {A0 A1 A2 A3 A4 A5 A6 A7 : Type} {F : Nat → A0 → A1 → A2 → A3 → A4 → A5 → A6 → A7 → Option ρ} {kk : ρ → Option β} {x : K} {n0 : Nat} {a0 : A0} {a1 : A1} {a2 : A2} {a3 : A3} {a4 : A4} {a5 : A5} {a6 : A6} {a7 : A7} (hx : X0 0 999 s tl fr σ = some (.k (.loop x) :: s',tl',fr',σ')) (FR : A0 → A1 → A2 → A3 → A4 → A5 → A6 → A7 → Fr) (SG : A0 → A1 → A2 → A3 → A4 → A5 → A6 → A7 → St) (hg : Gm c.P c.B c.N m fr' σ' (FR a0 a1 a2 a3 a4 a5 a6 a7) (SG a0 a1 a2 a3 a4 a5 a6 a7)) (h : ∀ n a0 a1 a2 a3 a4 a5 a6 a7 q,Kq kk q r → G c m (.k x :: .l (lJ8 F q FR SG) (n + 1) :: s') [] (FR a0 a1 a2 a3 a4 a5 a6 a7) (SG a0 a1 a2 a3 a4 a5 a6 a7) (F (n + 1) a0 a1 a2 a3 a4 a5 a6 a7) q) (h0 : ∀ a0 a1 a2 a3 a4 a5 a6 a7,F 0 a0 a1 a2 a3 a4 a5 a6 a7 = none := by intros; rfl) : G c m s tl fr σ ((F n0 a0 a1 a2 a3 a4 a5 a6 a7).bind kk) r := G.L hx (fun q => lJ8 F q FR SG) hg (fun q hq => ⟨_,_,_,_,_,_,_,_,hq,rfl,rfl⟩) (by
 rintro q hq n fr σ ⟨a0,a1,a2,a3,a4,a5,a6,a7,hF,rfl,rfl⟩ hB hm hf
 cases n with
 | zero => rw [h0] at hF; cases hF
 | succ n => exact h n a0 a1 a2 a3 a4 a5 a6 a7 q hq hB hm hf TlOk.nil hF)
end
theorem bt3 : bytesOf Tryz.prog 3 ≤ 2048 := of_decide_eq_true (by kernel_rfl)
theorem bt4 : bytesOf Tryz.prog 4 ≤ 2048 := of_decide_eq_true (by kernel_rfl)
theorem bt5 : bytesOf Tryz.prog 5 ≤ 2048 := of_decide_eq_true (by kernel_rfl)
theorem bt9 : bytesOf Tryz.prog 9 ≤ 2048 := of_decide_eq_true (by kernel_rfl)
theorem bt70 : bytesOf Tryz.prog 70 ≤ 2048 := of_decide_eq_true (by kernel_rfl)
theorem bt79 : bytesOf Tryz.prog 79 ≤ 2048 := of_decide_eq_true (by kernel_rfl)
theorem bt100 : bytesOf Tryz.prog 100 ≤ 2048 := of_decide_eq_true (by kernel_rfl)
theorem bt102 : bytesOf Tryz.prog 102 ≤ 2048 := of_decide_eq_true (by kernel_rfl)
theorem bt138 : bytesOf Tryz.prog 138 ≤ 2048 := of_decide_eq_true (by kernel_rfl)
theorem bt141 : bytesOf Tryz.prog 141 ≤ 2048 := of_decide_eq_true (by kernel_rfl)
theorem bt148 : bytesOf Tryz.prog 148 ≤ 2048 := of_decide_eq_true (by kernel_rfl)
theorem bt153 : bytesOf Tryz.prog 153 ≤ 2048 := of_decide_eq_true (by kernel_rfl)
theorem bt156 : bytesOf Tryz.prog 156 ≤ 2048 := of_decide_eq_true (by kernel_rfl)
theorem bt160 : bytesOf Tryz.prog 160 ≤ 2048 := of_decide_eq_true (by kernel_rfl)
theorem bt165 : bytesOf Tryz.prog 165 ≤ 2048 := of_decide_eq_true (by kernel_rfl)
theorem bt234 : bytesOf Tryz.prog 234 ≤ 2048 := of_decide_eq_true (by kernel_rfl)
theorem bt268 : bytesOf Tryz.prog 268 ≤ 2048 := of_decide_eq_true (by kernel_rfl)
theorem bt285 : bytesOf Tryz.prog 285 ≤ 2048 := of_decide_eq_true (by kernel_rfl)
theorem bt327 : bytesOf Tryz.prog 327 ≤ 2048 := of_decide_eq_true (by kernel_rfl)
theorem bt341 : bytesOf Tryz.prog 341 ≤ 2048 := of_decide_eq_true (by kernel_rfl)
def laws_szBoolS (N : Nat) (x1 : (List Bool)) (x2 : Int) : Option (Int) :=
 (if (decide ((w64 (x2 - (x1.length : Int))) < 0)) = true then
 some (-1 : Int)
 else
 some (w64 (x2 - (x1.length : Int))))
instance i0 (N : Nat) (x1 : (List Bool)) (x2 : Int) : Sem Tryz.prog 12 (laws_szBoolS N x1 x2) [RO 4 (x1.map encB),VI x2] 0 [] (fun r => VI r) (fun r => []) := .st e e Tryz.call12 fun B r => .st e (Ev.lnF e) e (.q e (.a e e (.Ek [] e e e) (.Ek [] e e e)))
def laws_szIntS (N : Nat) (x1 : (List Int)) (x2 : Int) : Option (Int) :=
 (if (decide ((w64 (x2 - (x1.length : Int))) < 0)) = true then
 some (-1 : Int)
 else
 some (w64 (x2 - (x1.length : Int))))
instance i1 (N : Nat) (x1 : (List Int)) (x2 : Int) : Sem Tryz.prog 103 (laws_szIntS N x1 x2) [RO 3 (x1.map encI),VI x2] 0 [] (fun r => VI r) (fun r => []) := .st e e Tryz.call103 fun B r => .st e (Ev.lnF e) e (.q e (.a e e (.Ek [] e e e) (.Ek [] e e e)))
def laws_szEntry (N : Nat) (x1 : Entry) (x2 : Int) : Option (Int) :=
 (if (decide ((w64 (x2 - (x1.Data.size : Int))) < 0)) = true then
 some (-1 : Int)
 else
 some (w64 (x2 - (x1.Data.size : Int))))
instance i2 (N : Nat) (x1 : Entry) (x2 : Int) : Sem Tryz.prog 105 (laws_szEntry N x1 x2) [.agg [VI x1.Term,VI x1.Kind,VS x1.Data],VI x2] 0 [] (fun r => VI r) (fun r => []) := .st e e Tryz.call105 fun B r => .q e (.a e e (.Ek [] e e e) (.Ek [] e e e))
def laws_szEntryS_l1 (N : Nat) (x1 : (List Entry)) : Nat → Int → Int → Option ((Int) ⊕ (Int))
 | 0,_,_ => none
 | m + 1,x245,x246 =>
 (if (decide (x246 < (x1.length : Int))) = true then
 (at? x1 x246).bind fun x287 =>
 (laws_szEntry N x287 x245).bind fun y288 =>
 (if (decide (y288 < 0)) = true then
 some (Sum.inl (-1 : Int))
 else
 laws_szEntryS_l1 N x1 m y288 (w64 (x246 + 1)))
 else
 some (Sum.inr x245))
def laws_szEntryS (N : Nat) (x1 : (List Entry)) (x2 : Int) : Option (Int) :=
 (if (decide ((w64 (x2 - (x1.length : Int))) < 0)) = true then
 some (-1 : Int)
 else
 joinP (fun (v243 : Int) =>
 some v243) fun j243 =>
 (laws_szEntryS_l1 N x1 N (w64 (x2 - (x1.length : Int))) 0).bind (Sum.elim (fun v267 => some v267) (fun (v268 : Int) => j243 v268)))
instance i3 (N : Nat) (x1 : (List Entry)) (x2 : Int) : Sem Tryz.prog 102 (laws_szEntryS N x1 x2) [RO 126 (x1.map encEntry),VI x2] 0 [] (fun r => VI r) (fun r => []) := .st e e Tryz.call102 fun B r => .st e (Ev.lnF e) e (.q e (.a e e (.Ek [] e e e) (.j e (fun v243 => [(1,VI v243)]) (fun v243 => []) (fun _ => .L2 e (fun x245 x246 => [(0,RO 126 (x1.map encEntry)),(1,VI x245),(5,VI x246)]) (fun x245 x246 => []) (.k [0,1,5] []) fun _ x245 x246 _ hk268 => .q e (.st e (Ev.lnF e) e (.a e e (.q e (.B fun _ hx287 => .st e (Ev.iaF e e hx287) e (.c0 e i q fun _ _ => .a e e (.Xr hk268 e e (.il (.e e (.Ek [] e e e)))) (.R e (fun h => ⟨_,_,h,e,e⟩) (.k [0,1,5] []))))) (.X hk268 e e (.ir (.n e (.J e (.k [1] [])))))))) fun v243 => .Ek [] e e e)))
def laws_szLog (N : Nat) (x1 : Log) (x2 : Int) : Option (Int) :=
 (laws_szEntryS N x1.Entries x2).bind fun y109 =>
 (if (decide (y109 < 0)) = true then
 some (-1 : Int)
 else
 some y109)
instance i4 (N : Nat) (x1 : Log) (x2 : Int) : Sem Tryz.prog 104 (laws_szLog N x1 x2) [.agg [VI x1.Start,VI x1.StartTerm,RO 126 (x1.Entries.map encEntry)],VI x2] 0 [] (fun r => VI r) (fun r => []) := .st e e Tryz.call104 fun B r => .c0 e i q fun _ _ => .q e (.a e e (.Ek [] e e e) (.Ek [] e e e))
def laws_szPeerS (N : Nat) (x1 : (List Peer)) (x2 : Int) : Option (Int) :=
 (if (decide ((w64 (x2 - (x1.length : Int))) < 0)) = true then
 some (-1 : Int)
 else
 some (w64 (x2 - (x1.length : Int))))
instance i5 (N : Nat) (x1 : (List Peer)) (x2 : Int) : Sem Tryz.prog 163 (laws_szPeerS N x1 x2) [RO 329 (x1.map encPeer),VI x2] 0 [] (fun r => VI r) (fun r => []) := .st e e Tryz.call163 fun B r => .st e (Ev.lnF e) e (.q e (.a e e (.Ek [] e e e) (.Ek [] e e e)))
def laws_szNode (N : Nat) (x1 : Node) (x2 : Int) : Option (Int) :=
 (laws_szIntS N x1.Conf x2).bind fun y127 =>
 (if (decide (y127 < 0)) = true then
 some (-1 : Int)
 else
 (laws_szLog N x1.Log y127).bind fun y133 =>
 (if (decide (y133 < 0)) = true then
 some (-1 : Int)
 else
 (laws_szIntS N x1.Votes y133).bind fun y139 =>
 (if (decide (y139 < 0)) = true then
 some (-1 : Int)
 else
 (laws_szPeerS N x1.Peers y139).bind fun y145 =>
 (if (decide (y145 < 0)) = true then
 some (-1 : Int)
 else
 some y145))))
instance i6 (N : Nat) (x1 : Node) (x2 : Int) : Sem Tryz.prog 99 (laws_szNode N x1 x2) [.agg [VI x1.Id,VI x1.Term,VI x1.Vote,VI x1.Role,VI x1.Lead,RO 3 (x1.Conf.map encI),VI x1.Log.Start,VI x1.Log.StartTerm,RO 126 (x1.Log.Entries.map encEntry),VI x1.Commit,VI x1.Clock,VI x1.Limit,RO 3 (x1.Votes.map encI),RO 329 (x1.Peers.map encPeer)],VI x2] 0 [] (fun r => VI r) (fun r => []) := .st e e Tryz.call99 fun B r => .c0 e i q fun _ _ => .q e (.a e e (.Ek [] e e e) (.c0 e i q fun _ _ => .q e (.a e e (.Ek [] e e e) (.c0 e i q fun _ _ => .q e (.a e e (.Ek [] e e e) (.c0 e i q fun _ _ => .q e (.a e e (.Ek [] e e e) (.Ek [] e e e))))))))
def laws_szFile (N : Nat) (x1 : File) (x2 : Int) : Option (Int) :=
 (if (decide ((w64 (x2 - (x1.Name.size : Int))) < 0)) = true then
 some (-1 : Int)
 else
 (if (decide ((w64 ((w64 (x2 - (x1.Name.size : Int))) - (x1.Text.size : Int))) < 0)) = true then
 some (-1 : Int)
 else
 some (w64 ((w64 (x2 - (x1.Name.size : Int))) - (x1.Text.size : Int)))))
instance i7 (N : Nat) (x1 : File) (x2 : Int) : Sem Tryz.prog 222 (laws_szFile N x1 x2) [.agg [VS x1.Name,VS x1.Text],VI x2] 0 [] (fun r => VI r) (fun r => []) := .st e e Tryz.call222 fun B r => .q e (.a e e (.Ek [] e e e) (.q e (.a e e (.Ek [] e e e) (.Ek [] e e e))))
def laws_szFileS_l1 (N : Nat) (x1 : (List File)) : Nat → Int → Int → Option ((Int) ⊕ (Int))
 | 0,_,_ => none
 | m + 1,x245,x246 =>
 (if (decide (x246 < (x1.length : Int))) = true then
 (at? x1 x246).bind fun x287 =>
 (laws_szFile N x287 x245).bind fun y288 =>
 (if (decide (y288 < 0)) = true then
 some (Sum.inl (-1 : Int))
 else
 laws_szFileS_l1 N x1 m y288 (w64 (x246 + 1)))
 else
 some (Sum.inr x245))
def laws_szFileS (N : Nat) (x1 : (List File)) (x2 : Int) : Option (Int) :=
 (if (decide ((w64 (x2 - (x1.length : Int))) < 0)) = true then
 some (-1 : Int)
 else
 joinP (fun (v243 : Int) =>
 some v243) fun j243 =>
 (laws_szFileS_l1 N x1 N (w64 (x2 - (x1.length : Int))) 0).bind (Sum.elim (fun v267 => some v267) (fun (v268 : Int) => j243 v268)))
instance i8 (N : Nat) (x1 : (List File)) (x2 : Int) : Sem Tryz.prog 164 (laws_szFileS N x1 x2) [RO 316 (x1.map encFile),VI x2] 0 [] (fun r => VI r) (fun r => []) := .st e e Tryz.call164 fun B r => .st e (Ev.lnF e) e (.q e (.a e e (.Ek [] e e e) (.j e (fun v243 => [(1,VI v243)]) (fun v243 => []) (fun _ => .L2 e (fun x245 x246 => [(0,RO 316 (x1.map encFile)),(1,VI x245),(5,VI x246)]) (fun x245 x246 => []) (.k [0,1,5] []) fun _ x245 x246 _ hk268 => .q e (.st e (Ev.lnF e) e (.a e e (.q e (.B fun _ hx287 => .st e (Ev.iaF e e hx287) e (.c0 e i q fun _ _ => .a e e (.Xr hk268 e e (.il (.e e (.Ek [] e e e)))) (.R e (fun h => ⟨_,_,h,e,e⟩) (.k [0,1,5] []))))) (.X hk268 e e (.ir (.n e (.J e (.k [1] [])))))))) fun v243 => .Ek [] e e e)))
def laws_szDisk (N : Nat) (x1 : Disk) (x2 : Int) : Option (Int) :=
 (laws_szFileS N x1.Files x2).bind fun y109 =>
 (if (decide (y109 < 0)) = true then
 some (-1 : Int)
 else
 some y109)
instance i9 (N : Nat) (x1 : Disk) (x2 : Int) : Sem Tryz.prog 100 (laws_szDisk N x1 x2) [.agg [RO 316 (x1.Files.map encFile)],VI x2] 0 [] (fun r => VI r) (fun r => []) := .st e e Tryz.call100 fun B r => .c0 e i q fun _ _ => .q e (.a e e (.Ek [] e e e) (.Ek [] e e e))
def laws_szManifest (N : Nat) (x1 : Manifest) (x2 : Int) : Option (Int) :=
 (laws_szIntS N x1.Segs x2).bind fun y115 =>
 (if (decide (y115 < 0)) = true then
 some (-1 : Int)
 else
 (laws_szIntS N x1.Conf y115).bind fun y121 =>
 (if (decide (y121 < 0)) = true then
 some (-1 : Int)
 else
 some y121))
instance i10 (N : Nat) (x1 : Manifest) (x2 : Int) : Sem Tryz.prog 165 (laws_szManifest N x1 x2) [.agg [RO 3 (x1.Segs.map encI),VI x1.Next,VI x1.Base,VI x1.BaseTerm,RO 3 (x1.Conf.map encI)],VI x2] 0 [] (fun r => VI r) (fun r => []) := .st e e Tryz.call165 fun B r => .c0 e i q fun _ _ => .q e (.a e e (.Ek [] e e e) (.c0 e i q fun _ _ => .q e (.a e e (.Ek [] e e e) (.Ek [] e e e))))
def laws_szSpot (N : Nat) (x1 : Spot) (x2 : Int) : Option (Int) :=
 (if (decide ((w64 (x2 - (x1.Key.size : Int))) < 0)) = true then
 some (-1 : Int)
 else
 some (w64 (x2 - (x1.Key.size : Int))))
instance i11 (N : Nat) (x1 : Spot) (x2 : Int) : Sem Tryz.prog 223 (laws_szSpot N x1 x2) [.agg [VS x1.Key,VI x1.Seg,VI x1.At,VI x1.Size],VI x2] 0 [] (fun r => VI r) (fun r => []) := .st e e Tryz.call223 fun B r => .q e (.a e e (.Ek [] e e e) (.Ek [] e e e))
def laws_szSpotS_l1 (N : Nat) (x1 : (List Spot)) : Nat → Int → Int → Option ((Int) ⊕ (Int))
 | 0,_,_ => none
 | m + 1,x245,x246 =>
 (if (decide (x246 < (x1.length : Int))) = true then
 (at? x1 x246).bind fun x287 =>
 (laws_szSpot N x287 x245).bind fun y288 =>
 (if (decide (y288 < 0)) = true then
 some (Sum.inl (-1 : Int))
 else
 laws_szSpotS_l1 N x1 m y288 (w64 (x246 + 1)))
 else
 some (Sum.inr x245))
def laws_szSpotS (N : Nat) (x1 : (List Spot)) (x2 : Int) : Option (Int) :=
 (if (decide ((w64 (x2 - (x1.length : Int))) < 0)) = true then
 some (-1 : Int)
 else
 joinP (fun (v243 : Int) =>
 some v243) fun j243 =>
 (laws_szSpotS_l1 N x1 N (w64 (x2 - (x1.length : Int))) 0).bind (Sum.elim (fun v267 => some v267) (fun (v268 : Int) => j243 v268)))
instance i12 (N : Nat) (x1 : (List Spot)) (x2 : Int) : Sem Tryz.prog 166 (laws_szSpotS N x1 x2) [RO 318 (x1.map encSpot),VI x2] 0 [] (fun r => VI r) (fun r => []) := .st e e Tryz.call166 fun B r => .st e (Ev.lnF e) e (.q e (.a e e (.Ek [] e e e) (.j e (fun v243 => [(1,VI v243)]) (fun v243 => []) (fun _ => .L2 e (fun x245 x246 => [(0,RO 318 (x1.map encSpot)),(1,VI x245),(5,VI x246)]) (fun x245 x246 => []) (.k [0,1,5] []) fun _ x245 x246 _ hk268 => .q e (.st e (Ev.lnF e) e (.a e e (.q e (.B fun _ hx287 => .st e (Ev.iaF e e hx287) e (.c0 e i q fun _ _ => .a e e (.Xr hk268 e e (.il (.e e (.Ek [] e e e)))) (.R e (fun h => ⟨_,_,h,e,e⟩) (.k [0,1,5] []))))) (.X hk268 e e (.ir (.n e (.J e (.k [1] [])))))))) fun v243 => .Ek [] e e e)))
def laws_szShelf (N : Nat) (x1 : Shelf) (x2 : Int) : Option (Int) :=
 (laws_szManifest N x1.Man x2).bind fun y115 =>
 (if (decide (y115 < 0)) = true then
 some (-1 : Int)
 else
 (laws_szSpotS N x1.Dir y115).bind fun y121 =>
 (if (decide (y121 < 0)) = true then
 some (-1 : Int)
 else
 some y121))
instance i13 (N : Nat) (x1 : Shelf) (x2 : Int) : Sem Tryz.prog 101 (laws_szShelf N x1 x2) [.agg [RO 3 (x1.Man.Segs.map encI),VI x1.Man.Next,VI x1.Man.Base,VI x1.Man.BaseTerm,RO 3 (x1.Man.Conf.map encI),RO 318 (x1.Dir.map encSpot),VI x1.Stamp],VI x2] 0 [] (fun r => VI r) (fun r => []) := .st e e Tryz.call101 fun B r => .c0 e i q fun _ _ => .q e (.a e e (.Ek [] e e e) (.c0 e i q fun _ _ => .q e (.a e e (.Ek [] e e e) (.Ek [] e e e))))
def laws_szServer (N : Nat) (x1 : Server) (x2 : Int) : Option (Int) :=
 (laws_szNode N x1.Node x2).bind fun y123 =>
 (if (decide (y123 < 0)) = true then
 some (-1 : Int)
 else
 (laws_szDisk N x1.Disk y123).bind fun y129 =>
 (if (decide (y129 < 0)) = true then
 some (-1 : Int)
 else
 (laws_szShelf N x1.Shelf y129).bind fun y135 =>
 (if (decide (y135 < 0)) = true then
 some (-1 : Int)
 else
 (if (decide ((w64 (y135 - (x1.Stage.size : Int))) < 0)) = true then
 some (-1 : Int)
 else
 some (w64 (y135 - (x1.Stage.size : Int)))))))
instance i14 (N : Nat) (x1 : Server) (x2 : Int) : Sem Tryz.prog 50 (laws_szServer N x1 x2) [.agg [VI x1.Node.Id,VI x1.Node.Term,VI x1.Node.Vote,VI x1.Node.Role,VI x1.Node.Lead,RO 3 (x1.Node.Conf.map encI),VI x1.Node.Log.Start,VI x1.Node.Log.StartTerm,RO 126 (x1.Node.Log.Entries.map encEntry),VI x1.Node.Commit,VI x1.Node.Clock,VI x1.Node.Limit,RO 3 (x1.Node.Votes.map encI),RO 329 (x1.Node.Peers.map encPeer),RO 316 (x1.Disk.Files.map encFile),RO 3 (x1.Shelf.Man.Segs.map encI),VI x1.Shelf.Man.Next,VI x1.Shelf.Man.Base,VI x1.Shelf.Man.BaseTerm,RO 3 (x1.Shelf.Man.Conf.map encI),RO 318 (x1.Shelf.Dir.map encSpot),VI x1.Shelf.Stamp,VS x1.Stage,VI x1.StageAt,VI x1.StageTerm],VI x2] 0 [] (fun r => VI r) (fun r => []) := .st e e Tryz.call50 fun B r => .c0 e i q fun _ _ => .q e (.a e e (.Ek [] e e e) (.c0 e i q fun _ _ => .q e (.a e e (.Ek [] e e e) (.c0 e i q fun _ _ => .q e (.a e e (.Ek [] e e e) (.q e (.a e e (.Ek [] e e e) (.Ek [] e e e))))))))
def laws_szServerS_l1 (N : Nat) (x1 : (List Server)) : Nat → Int → Int → Option ((Int) ⊕ (Int))
 | 0,_,_ => none
 | m + 1,x245,x246 =>
 (if (decide (x246 < (x1.length : Int))) = true then
 (at? x1 x246).bind fun x287 =>
 (laws_szServer N x287 x245).bind fun y288 =>
 (if (decide (y288 < 0)) = true then
 some (Sum.inl (-1 : Int))
 else
 laws_szServerS_l1 N x1 m y288 (w64 (x246 + 1)))
 else
 some (Sum.inr x245))
def laws_szServerS (N : Nat) (x1 : (List Server)) (x2 : Int) : Option (Int) :=
 (if (decide ((w64 (x2 - (x1.length : Int))) < 0)) = true then
 some (-1 : Int)
 else
 joinP (fun (v243 : Int) =>
 some v243) fun j243 =>
 (laws_szServerS_l1 N x1 N (w64 (x2 - (x1.length : Int))) 0).bind (Sum.elim (fun v267 => some v267) (fun (v268 : Int) => j243 v268)))
instance i15 (N : Nat) (x1 : (List Server)) (x2 : Int) : Sem Tryz.prog 13 (laws_szServerS N x1 x2) [RO 118 (x1.map (encServerL false)),VI x2] 0 [] (fun r => VI r) (fun r => []) := .st e e Tryz.call13 fun B r => .st e (Ev.lnF e) e (.q e (.a e e (.Ek [] e e e) (.j e (fun v243 => [(1,VI v243)]) (fun v243 => []) (fun _ => .L2 e (fun x245 x246 => [(0,RO 118 (x1.map (encServerL false))),(1,VI x245),(5,VI x246)]) (fun x245 x246 => []) (.k [0,1,5] []) fun _ x245 x246 _ hk268 => .q e (.st e (Ev.lnF e) e (.a e e (.q e (.B fun _ hx287 => .st e (Ev.iaF e e hx287) e (.c0 e i q fun _ _ => .a e e (.Xr hk268 e e (.il (.e e (.Ek [] e e e)))) (.R e (fun h => ⟨_,_,h,e,e⟩) (.k [0,1,5] []))))) (.X hk268 e e (.ir (.n e (.J e (.k [1] [])))))))) fun v243 => .Ek [] e e e)))
def laws_szMessage (N : Nat) (x1 : Message) (x2 : Int) : Option (Int) :=
 (laws_szEntryS N x1.Entries x2).bind fun y117 =>
 (if (decide (y117 < 0)) = true then
 some (-1 : Int)
 else
 (laws_szIntS N x1.Conf y117).bind fun y123 =>
 (if (decide (y123 < 0)) = true then
 some (-1 : Int)
 else
 (if (decide ((w64 (y123 - (x1.Data.size : Int))) < 0)) = true then
 some (-1 : Int)
 else
 some (w64 (y123 - (x1.Data.size : Int))))))
instance i16 (N : Nat) (x1 : Message) (x2 : Int) : Sem Tryz.prog 51 (laws_szMessage N x1 x2) [.agg [VI x1.Kind,VI x1.From,VI x1.To,VI x1.Term,VI x1.Index,VI x1.LogTerm,VI x1.Commit,VB x1.Ok,RO 126 (x1.Entries.map encEntry),RO 3 (x1.Conf.map encI),VS x1.Data,VB x1.Last],VI x2] 0 [] (fun r => VI r) (fun r => []) := .st e e Tryz.call51 fun B r => .c0 e i q fun _ _ => .q e (.a e e (.Ek [] e e e) (.c0 e i q fun _ _ => .q e (.a e e (.Ek [] e e e) (.q e (.a e e (.Ek [] e e e) (.Ek [] e e e))))))
def laws_szMessageS_l1 (N : Nat) (x1 : (List Message)) : Nat → Int → Int → Option ((Int) ⊕ (Int))
 | 0,_,_ => none
 | m + 1,x245,x246 =>
 (if (decide (x246 < (x1.length : Int))) = true then
 (at? x1 x246).bind fun x287 =>
 (laws_szMessage N x287 x245).bind fun y288 =>
 (if (decide (y288 < 0)) = true then
 some (Sum.inl (-1 : Int))
 else
 laws_szMessageS_l1 N x1 m y288 (w64 (x246 + 1)))
 else
 some (Sum.inr x245))
def laws_szMessageS (N : Nat) (x1 : (List Message)) (x2 : Int) : Option (Int) :=
 (if (decide ((w64 (x2 - (x1.length : Int))) < 0)) = true then
 some (-1 : Int)
 else
 joinP (fun (v243 : Int) =>
 some v243) fun j243 =>
 (laws_szMessageS_l1 N x1 N (w64 (x2 - (x1.length : Int))) 0).bind (Sum.elim (fun v267 => some v267) (fun (v268 : Int) => j243 v268)))
instance i17 (N : Nat) (x1 : (List Message)) (x2 : Int) : Sem Tryz.prog 14 (laws_szMessageS N x1 x2) [RO 121 (x1.map (encMessageL false)),VI x2] 0 [] (fun r => VI r) (fun r => []) := .st e e Tryz.call14 fun B r => .st e (Ev.lnF e) e (.q e (.a e e (.Ek [] e e e) (.j e (fun v243 => [(1,VI v243)]) (fun v243 => []) (fun _ => .L2 e (fun x245 x246 => [(0,RO 121 (x1.map (encMessageL false))),(1,VI x245),(5,VI x246)]) (fun x245 x246 => []) (.k [0,1,5] []) fun _ x245 x246 _ hk268 => .q e (.st e (Ev.lnF e) e (.a e e (.q e (.B fun _ hx287 => .st e (Ev.iaF e e hx287) e (.c0 e i q fun _ _ => .a e e (.Xr hk268 e e (.il (.e e (.Ek [] e e e)))) (.R e (fun h => ⟨_,_,h,e,e⟩) (.k [0,1,5] []))))) (.X hk268 e e (.ir (.n e (.J e (.k [1] [])))))))) fun v243 => .Ek [] e e e)))
def laws_szWaitS (N : Nat) (x1 : (List Wait)) (x2 : Int) : Option (Int) :=
 (if (decide ((w64 (x2 - (x1.length : Int))) < 0)) = true then
 some (-1 : Int)
 else
 some (w64 (x2 - (x1.length : Int))))
instance i18 (N : Nat) (x1 : (List Wait)) (x2 : Int) : Sem Tryz.prog 15 (laws_szWaitS N x1 x2) [RO 158 (x1.map encWait),VI x2] 0 [] (fun r => VI r) (fun r => []) := .st e e Tryz.call15 fun B r => .st e (Ev.lnF e) e (.q e (.a e e (.Ek [] e e e) (.Ek [] e e e)))
def laws_szLeader (N : Nat) (x1 : Leader) (x2 : Int) : Option (Int) :=
 (laws_szLog N x1.Log x2).bind fun y109 =>
 (if (decide (y109 < 0)) = true then
 some (-1 : Int)
 else
 some y109)
instance i19 (N : Nat) (x1 : Leader) (x2 : Int) : Sem Tryz.prog 52 (laws_szLeader N x1 x2) [.agg [VI x1.Node,VI x1.Term,VI x1.Log.Start,VI x1.Log.StartTerm,RO 126 (x1.Log.Entries.map encEntry)],VI x2] 0 [] (fun r => VI r) (fun r => []) := .st e e Tryz.call52 fun B r => .c0 e i q fun _ _ => .q e (.a e e (.Ek [] e e e) (.Ek [] e e e))
def laws_szLeaderS_l1 (N : Nat) (x1 : (List Leader)) : Nat → Int → Int → Option ((Int) ⊕ (Int))
 | 0,_,_ => none
 | m + 1,x245,x246 =>
 (if (decide (x246 < (x1.length : Int))) = true then
 (at? x1 x246).bind fun x287 =>
 (laws_szLeader N x287 x245).bind fun y288 =>
 (if (decide (y288 < 0)) = true then
 some (Sum.inl (-1 : Int))
 else
 laws_szLeaderS_l1 N x1 m y288 (w64 (x246 + 1)))
 else
 some (Sum.inr x245))
def laws_szLeaderS (N : Nat) (x1 : (List Leader)) (x2 : Int) : Option (Int) :=
 (if (decide ((w64 (x2 - (x1.length : Int))) < 0)) = true then
 some (-1 : Int)
 else
 joinP (fun (v243 : Int) =>
 some v243) fun j243 =>
 (laws_szLeaderS_l1 N x1 N (w64 (x2 - (x1.length : Int))) 0).bind (Sum.elim (fun v267 => some v267) (fun (v268 : Int) => j243 v268)))
instance i20 (N : Nat) (x1 : (List Leader)) (x2 : Int) : Sem Tryz.prog 16 (laws_szLeaderS N x1 x2) [RO 124 (x1.map (encLeaderL false)),VI x2] 0 [] (fun r => VI r) (fun r => []) := .st e e Tryz.call16 fun B r => .st e (Ev.lnF e) e (.q e (.a e e (.Ek [] e e e) (.j e (fun v243 => [(1,VI v243)]) (fun v243 => []) (fun _ => .L2 e (fun x245 x246 => [(0,RO 124 (x1.map (encLeaderL false))),(1,VI x245),(5,VI x246)]) (fun x245 x246 => []) (.k [0,1,5] []) fun _ x245 x246 _ hk268 => .q e (.st e (Ev.lnF e) e (.a e e (.q e (.B fun _ hx287 => .st e (Ev.iaF e e hx287) e (.c0 e i q fun _ _ => .a e e (.Xr hk268 e e (.il (.e e (.Ek [] e e e)))) (.R e (fun h => ⟨_,_,h,e,e⟩) (.k [0,1,5] []))))) (.X hk268 e e (.ir (.n e (.J e (.k [1] [])))))))) fun v243 => .Ek [] e e e)))
def laws_szApplied (N : Nat) (x1 : Applied) (x2 : Int) : Option (Int) :=
 (laws_szEntry N x1.Entry x2).bind fun y109 =>
 (if (decide (y109 < 0)) = true then
 some (-1 : Int)
 else
 some y109)
instance i21 (N : Nat) (x1 : Applied) (x2 : Int) : Sem Tryz.prog 53 (laws_szApplied N x1 x2) [.agg [VI x1.Node,VI x1.Term,VI x1.Index,VI x1.Entry.Term,VI x1.Entry.Kind,VS x1.Entry.Data],VI x2] 0 [] (fun r => VI r) (fun r => []) := .st e e Tryz.call53 fun B r => .c0 e i q fun _ _ => .q e (.a e e (.Ek [] e e e) (.Ek [] e e e))
def laws_szAppliedS_l1 (N : Nat) (x1 : (List Applied)) : Nat → Int → Int → Option ((Int) ⊕ (Int))
 | 0,_,_ => none
 | m + 1,x245,x246 =>
 (if (decide (x246 < (x1.length : Int))) = true then
 (at? x1 x246).bind fun x287 =>
 (laws_szApplied N x287 x245).bind fun y288 =>
 (if (decide (y288 < 0)) = true then
 some (Sum.inl (-1 : Int))
 else
 laws_szAppliedS_l1 N x1 m y288 (w64 (x246 + 1)))
 else
 some (Sum.inr x245))
def laws_szAppliedS (N : Nat) (x1 : (List Applied)) (x2 : Int) : Option (Int) :=
 (if (decide ((w64 (x2 - (x1.length : Int))) < 0)) = true then
 some (-1 : Int)
 else
 joinP (fun (v243 : Int) =>
 some v243) fun j243 =>
 (laws_szAppliedS_l1 N x1 N (w64 (x2 - (x1.length : Int))) 0).bind (Sum.elim (fun v267 => some v267) (fun (v268 : Int) => j243 v268)))
instance i22 (N : Nat) (x1 : (List Applied)) (x2 : Int) : Sem Tryz.prog 17 (laws_szAppliedS N x1 x2) [RO 128 (x1.map encApplied),VI x2] 0 [] (fun r => VI r) (fun r => []) := .st e e Tryz.call17 fun B r => .st e (Ev.lnF e) e (.q e (.a e e (.Ek [] e e e) (.j e (fun v243 => [(1,VI v243)]) (fun v243 => []) (fun _ => .L2 e (fun x245 x246 => [(0,RO 128 (x1.map encApplied)),(1,VI x245),(5,VI x246)]) (fun x245 x246 => []) (.k [0,1,5] []) fun _ x245 x246 _ hk268 => .q e (.st e (Ev.lnF e) e (.a e e (.q e (.B fun _ hx287 => .st e (Ev.iaF e e hx287) e (.c0 e i q fun _ _ => .a e e (.Xr hk268 e e (.il (.e e (.Ek [] e e e)))) (.R e (fun h => ⟨_,_,h,e,e⟩) (.k [0,1,5] []))))) (.X hk268 e e (.ir (.n e (.J e (.k [1] [])))))))) fun v243 => .Ek [] e e e)))
def laws_szCommand (N : Nat) (x1 : Command) (x2 : Int) : Option (Int) :=
 (if (decide ((w64 (x2 - (x1.Key.size : Int))) < 0)) = true then
 some (-1 : Int)
 else
 (if (decide ((w64 ((w64 (x2 - (x1.Key.size : Int))) - (x1.Value.size : Int))) < 0)) = true then
 some (-1 : Int)
 else
 (if (decide ((w64 ((w64 ((w64 (x2 - (x1.Key.size : Int))) - (x1.Value.size : Int))) - (x1.Old.size : Int))) < 0)) = true then
 some (-1 : Int)
 else
 some (w64 ((w64 ((w64 (x2 - (x1.Key.size : Int))) - (x1.Value.size : Int))) - (x1.Old.size : Int))))))
instance i23 (N : Nat) (x1 : Command) (x2 : Int) : Sem Tryz.prog 106 (laws_szCommand N x1 x2) [.agg [VI x1.Op,VI x1.Session,VI x1.Seq,VS x1.Key,VS x1.Value,VS x1.Old],VI x2] 0 [] (fun r => VI r) (fun r => []) := .st e e Tryz.call106 fun B r => .q e (.a e e (.Ek [] e e e) (.q e (.a e e (.Ek [] e e e) (.q e (.a e e (.Ek [] e e e) (.Ek [] e e e))))))
def laws_szReply (N : Nat) (x1 : Reply) (x2 : Int) : Option (Int) :=
 (laws_szCommand N x1.Command x2).bind fun y111 =>
 (if (decide (y111 < 0)) = true then
 some (-1 : Int)
 else
 (if (decide ((w64 (y111 - (x1.Text.size : Int))) < 0)) = true then
 some (-1 : Int)
 else
 some (w64 (y111 - (x1.Text.size : Int)))))
instance i24 (N : Nat) (x1 : Reply) (x2 : Int) : Sem Tryz.prog 54 (laws_szReply N x1 x2) [.agg [VI x1.Call,VI x1.Index,VI x1.Command.Op,VI x1.Command.Session,VI x1.Command.Seq,VS x1.Command.Key,VS x1.Command.Value,VS x1.Command.Old,VS x1.Text],VI x2] 0 [] (fun r => VI r) (fun r => []) := .st e e Tryz.call54 fun B r => .c0 e i q fun _ _ => .q e (.a e e (.Ek [] e e e) (.q e (.a e e (.Ek [] e e e) (.Ek [] e e e))))
def laws_szReplyS_l1 (N : Nat) (x1 : (List Reply)) : Nat → Int → Int → Option ((Int) ⊕ (Int))
 | 0,_,_ => none
 | m + 1,x245,x246 =>
 (if (decide (x246 < (x1.length : Int))) = true then
 (at? x1 x246).bind fun x287 =>
 (laws_szReply N x287 x245).bind fun y288 =>
 (if (decide (y288 < 0)) = true then
 some (Sum.inl (-1 : Int))
 else
 laws_szReplyS_l1 N x1 m y288 (w64 (x246 + 1)))
 else
 some (Sum.inr x245))
def laws_szReplyS (N : Nat) (x1 : (List Reply)) (x2 : Int) : Option (Int) :=
 (if (decide ((w64 (x2 - (x1.length : Int))) < 0)) = true then
 some (-1 : Int)
 else
 joinP (fun (v243 : Int) =>
 some v243) fun j243 =>
 (laws_szReplyS_l1 N x1 N (w64 (x2 - (x1.length : Int))) 0).bind (Sum.elim (fun v267 => some v267) (fun (v268 : Int) => j243 v268)))
instance i25 (N : Nat) (x1 : (List Reply)) (x2 : Int) : Sem Tryz.prog 18 (laws_szReplyS N x1 x2) [RO 133 (x1.map encReply),VI x2] 0 [] (fun r => VI r) (fun r => []) := .st e e Tryz.call18 fun B r => .st e (Ev.lnF e) e (.q e (.a e e (.Ek [] e e e) (.j e (fun v243 => [(1,VI v243)]) (fun v243 => []) (fun _ => .L2 e (fun x245 x246 => [(0,RO 133 (x1.map encReply)),(1,VI x245),(5,VI x246)]) (fun x245 x246 => []) (.k [0,1,5] []) fun _ x245 x246 _ hk268 => .q e (.st e (Ev.lnF e) e (.a e e (.q e (.B fun _ hx287 => .st e (Ev.iaF e e hx287) e (.c0 e i q fun _ _ => .a e e (.Xr hk268 e e (.il (.e e (.Ek [] e e e)))) (.R e (fun h => ⟨_,_,h,e,e⟩) (.k [0,1,5] []))))) (.X hk268 e e (.ir (.n e (.J e (.k [1] [])))))))) fun v243 => .Ek [] e e e)))
def laws_szWorld (N : Nat) (x1 : World) (x2 : Int) : Option (Int) :=
 (laws_szBoolS N x1.Up x2).bind fun y145 =>
 (if (decide (y145 < 0)) = true then
 some (-1 : Int)
 else
 (laws_szServerS N x1.Servers y145).bind fun y151 =>
 (if (decide (y151 < 0)) = true then
 some (-1 : Int)
 else
 (laws_szMessageS N x1.Net y151).bind fun y157 =>
 (if (decide (y157 < 0)) = true then
 some (-1 : Int)
 else
 (laws_szWaitS N x1.Waits y157).bind fun y163 =>
 (if (decide (y163 < 0)) = true then
 some (-1 : Int)
 else
 (laws_szLeaderS N x1.Leaders y163).bind fun y169 =>
 (if (decide (y169 < 0)) = true then
 some (-1 : Int)
 else
 (laws_szAppliedS N x1.Applied y169).bind fun y175 =>
 (if (decide (y175 < 0)) = true then
 some (-1 : Int)
 else
 (laws_szReplyS N x1.Replies y175).bind fun y181 =>
 (if (decide (y181 < 0)) = true then
 some (-1 : Int)
 else
 some y181)))))))
instance i26 (N : Nat) (x1 : World) (x2 : Int) : Sem Tryz.prog 5 (laws_szWorld N x1 x2) [.agg [RO 4 (x1.Up.map encB),RO 118 (x1.Servers.map (encServerL false)),RO 121 (x1.Net.map (encMessageL false)),RO 158 (x1.Waits.map encWait),RO 124 (x1.Leaders.map (encLeaderL false)),RO 128 (x1.Applied.map encApplied),RO 133 (x1.Replies.map encReply)],VI x2] 0 [] (fun r => VI r) (fun r => []) := .st e e Tryz.call5 fun B r => .c0 e i q fun _ _ => .q e (.a e e (.Ek [] e e e) (.c0 e i q fun _ _ => .q e (.a e e (.Ek [] e e e) (.c0 e i q fun _ _ => .q e (.a e e (.Ek [] e e e) (.c0 e i q fun _ _ => .q e (.a e e (.Ek [] e e e) (.c0 e i q fun _ _ => .q e (.a e e (.Ek [] e e e) (.c0 e i q fun _ _ => .q e (.a e e (.Ek [] e e e) (.c0 e i q fun _ _ => .q e (.a e e (.Ek [] e e e) (.Ek [] e e e))))))))))))))
def laws_toBoolS_l1 (N : Nat) (x1 : (List Bool)) : Nat → Int → (List Bool) → Option ((List Bool))
 | 0,_,_ => none
 | m + 1,x186,x187 =>
 (if (decide (x186 < (x1.length : Int))) = true then
 (at? x1 x186).bind fun x208 =>
 (at? x187 x186).bind fun x209 =>
 laws_toBoolS_l1 N x1 m (w64 (x186 + 1)) (x187.set x186.toNat x208)
 else
 some x187)
def laws_toBoolS (N : Nat) (x1 : (List Bool)) : Option ((List Bool)) :=
 (mk? false (x1.length : Int)).bind fun x158 =>
 joinP (fun (v184 : (List Bool)) =>
 some v184) fun j184 =>
 (laws_toBoolS_l1 N x1 N 0 x158).bind (fun v198 => j184 v198)
instance i27 (N : Nat) (x1 : (List Bool)) : Sem Tryz.prog 23 (laws_toBoolS N x1) [RO 4 (x1.map encB)] 0 [] (fun r => .sl 0 4 0 r.length) (fun r => [(0,.vec 4 (r.map encB))]) := .st e e Tryz.call23 fun B r => .st e (Ev.lnF e) e (.B fun _ hx158 => .st e (Ev.msW (f := encB) (zv := false) e e e bt4 e hx158) e (.j e (fun v184 => [(3,.sl 0 4 0 v184.length)]) (fun v184 => [(0,.vec 4 (v184.map encB))]) (fun _ => .L2 e (fun x186 x187 => [(0,RO 4 (x1.map encB)),(3,.sl 0 4 0 x187.length),(4,VI x186)]) (fun x186 x187 => [(0,.vec 4 (x187.map encB))]) (.k [0,3,4] [5128]) fun _ x186 x187 _ hk198 => .q e (.st e (Ev.lnF e) e (.a e e (.B fun x208 hx208 => .st e (Ev.iaF e e hx208) e (.B fun _ hx209 => .st e (Ev.iaW e e e hx209) e (.st e (Ev.stE (f := encB) (v' := x208) e e (at_some hx209).2 e (.d1 .nil) e e e e e) e (.R e (fun h => ⟨_,_,h,e,e⟩) (.k [0,3,4] [0]))))) (.X hk198 e e (.n e (.J e (.k [3] [0]))))))) fun v184 => .Ek [0] e e e))
def laws_toIntS_l1 (N : Nat) (x1 : (List Int)) : Nat → Int → (List Int) → Option ((List Int))
 | 0,_,_ => none
 | m + 1,x186,x187 =>
 (if (decide (x186 < (x1.length : Int))) = true then
 (at? x1 x186).bind fun x208 =>
 (at? x187 x186).bind fun x209 =>
 laws_toIntS_l1 N x1 m (w64 (x186 + 1)) (x187.set x186.toNat x208)
 else
 some x187)
def laws_toIntS (N : Nat) (x1 : (List Int)) : Option ((List Int)) :=
 (mk? 0 (x1.length : Int)).bind fun x158 =>
 joinP (fun (v184 : (List Int)) =>
 some v184) fun j184 =>
 (laws_toIntS_l1 N x1 N 0 x158).bind (fun v198 => j184 v198)
instance i28 (N : Nat) (x1 : (List Int)) : Sem Tryz.prog 121 (laws_toIntS N x1) [RO 3 (x1.map encI)] 0 [] (fun r => .sl 0 3 0 r.length) (fun r => [(0,.vec 3 (r.map encI))]) := .st e e Tryz.call121 fun B r => .st e (Ev.lnF e) e (.B fun _ hx158 => .st e (Ev.msW (f := encI) (zv := 0) e e e bt3 e hx158) e (.j e (fun v184 => [(3,.sl 0 3 0 v184.length)]) (fun v184 => [(0,.vec 3 (v184.map encI))]) (fun _ => .L2 e (fun x186 x187 => [(0,RO 3 (x1.map encI)),(3,.sl 0 3 0 x187.length),(4,VI x186)]) (fun x186 x187 => [(0,.vec 3 (x187.map encI))]) (.k [0,3,4] [5128]) fun _ x186 x187 _ hk198 => .q e (.st e (Ev.lnF e) e (.a e e (.B fun x208 hx208 => .st e (Ev.iaF e e hx208) e (.B fun _ hx209 => .st e (Ev.iaW e e e hx209) e (.st e (Ev.stE (f := encI) (v' := x208) e e (at_some hx209).2 e (.d1 .nil) e e e e e) e (.R e (fun h => ⟨_,_,h,e,e⟩) (.k [0,3,4] [0]))))) (.X hk198 e e (.n e (.J e (.k [3] [0]))))))) fun v184 => .Ek [0] e e e))
def laws_toEntry (N : Nat) (x1 : Entry) : Option (Entry) :=
 some x1
instance i29 (N : Nat) (x1 : Entry) : Sem Tryz.prog 123 (laws_toEntry N x1) [.agg [VI x1.Term,VI x1.Kind,VS x1.Data]] 0 [] (fun r => .agg [VI r.Term,VI r.Kind,VS r.Data]) (fun r => []) := .st e e Tryz.call123 fun B r => .Ek [] e e e
def laws_toEntryS_l1 (N : Nat) (x1 : (List Entry)) : Nat → Int → (List Entry) → Option ((List Entry))
 | 0,_,_ => none
 | m + 1,x210,x211 =>
 (if (decide (x210 < (x1.length : Int))) = true then
 (at? x1 x210).bind fun x239 =>
 (laws_toEntry N x239).bind fun y240 =>
 (at? x211 x210).bind fun x241 =>
 laws_toEntryS_l1 N x1 m (w64 (x210 + 1)) (x211.set x210.toNat y240)
 else
 some x211)
def laws_toEntryS (N : Nat) (x1 : (List Entry)) : Option ((List Entry)) :=
 (mk? (Entry.mk 0 0 (⟨#[]⟩ : ByteArray)) (x1.length : Int)).bind fun x174 =>
 joinP (fun (v208 : (List Entry)) =>
 some v208) fun j208 =>
 (laws_toEntryS_l1 N x1 N 0 x174).bind (fun v226 => j208 v226)
instance i30 (N : Nat) (x1 : (List Entry)) : Sem Tryz.prog 120 (laws_toEntryS N x1) [RO 126 (x1.map encEntry)] 0 [] (fun r => .sl 0 100 0 r.length) (fun r => [(0,.vec 100 (r.map encEntry))]) := .st e e Tryz.call120 fun B r => .st e (Ev.lnF e) e (.B fun _ hx174 => .st e (Ev.msW (f := encEntry) (zv := (Entry.mk 0 0 (⟨#[]⟩ : ByteArray))) e e e bt100 e hx174) e (.j e (fun v208 => [(3,.sl 0 100 0 v208.length)]) (fun v208 => [(0,.vec 100 (v208.map encEntry))]) (fun _ => .L2 e (fun x210 x211 => [(0,RO 126 (x1.map encEntry)),(3,.sl 0 100 0 x211.length),(4,VI x210)]) (fun x210 x211 => [(0,.vec 100 (x211.map encEntry))]) (.k [0,3,4] [5128]) fun _ x210 x211 _ hk226 => .q e (.st e (Ev.lnF e) e (.a e e (.B fun _ hx239 => .st e (Ev.iaF e e hx239) e (.c0 e i q fun y240 _ => .B fun _ hx241 => .st e (Ev.iaW e e e hx241) e (.st e (Ev.stE (f := encEntry) (v' := y240) e e (at_some hx241).2 e (.d2 (.d1 .nil)) e e e e e) e (.R e (fun h => ⟨_,_,h,e,e⟩) (.k [0,3,4] [0]))))) (.X hk226 e e (.n e (.J e (.k [3] [0]))))))) fun v208 => .Ek [0] e e e))
def laws_toLog (N : Nat) (x1 : Log) : Option (Log) :=
 (laws_toEntryS N x1.Entries).bind fun y107 =>
 some (Log.mk x1.Start x1.StartTerm y107)
instance i31 (N : Nat) (x1 : Log) : Sem Tryz.prog 122 (laws_toLog N x1) [.agg [VI x1.Start,VI x1.StartTerm,RO 126 (x1.Entries.map encEntry)]] 0 [] (fun r => .agg [VI r.Start,VI r.StartTerm,.sl 0 100 0 r.Entries.length]) (fun r => [(0,.vec 100 (r.Entries.map encEntry))]) := .st e e Tryz.call122 fun B r => .c1 e i q fun _ _ => .Ek [17416] e e e
def laws_toPeer (N : Nat) (x1 : Peer) : Option (Peer) :=
 some x1
instance i32 (N : Nat) (x1 : Peer) : Sem Tryz.prog 234 (laws_toPeer N x1) [.agg [VI x1.Id,VI x1.Next,VI x1.Match,VI x1.Sent]] 0 [] (fun r => .agg [VI r.Id,VI r.Next,VI r.Match,VI r.Sent]) (fun r => []) := .st e e Tryz.call234 fun B r => .Ek [] e e e
def laws_toPeerS_l1 (N : Nat) (x1 : (List Peer)) : Nat → Int → (List Peer) → Option ((List Peer))
 | 0,_,_ => none
 | m + 1,x210,x211 =>
 (if (decide (x210 < (x1.length : Int))) = true then
 (at? x1 x210).bind fun x239 =>
 (laws_toPeer N x239).bind fun y240 =>
 (at? x211 x210).bind fun x241 =>
 laws_toPeerS_l1 N x1 m (w64 (x210 + 1)) (x211.set x210.toNat y240)
 else
 some x211)
def laws_toPeerS (N : Nat) (x1 : (List Peer)) : Option ((List Peer)) :=
 (mk? (Peer.mk 0 0 0 0) (x1.length : Int)).bind fun x174 =>
 joinP (fun (v208 : (List Peer)) =>
 some v208) fun j208 =>
 (laws_toPeerS_l1 N x1 N 0 x174).bind (fun v226 => j208 v226)
instance i33 (N : Nat) (x1 : (List Peer)) : Sem Tryz.prog 188 (laws_toPeerS N x1) [RO 329 (x1.map encPeer)] 0 [] (fun r => .sl 0 327 0 r.length) (fun r => [(0,.vec 327 (r.map encPeer))]) := .st e e Tryz.call188 fun B r => .st e (Ev.lnF e) e (.B fun _ hx174 => .st e (Ev.msW (f := encPeer) (zv := (Peer.mk 0 0 0 0)) e e e bt327 e hx174) e (.j e (fun v208 => [(3,.sl 0 327 0 v208.length)]) (fun v208 => [(0,.vec 327 (v208.map encPeer))]) (fun _ => .L2 e (fun x210 x211 => [(0,RO 329 (x1.map encPeer)),(3,.sl 0 327 0 x211.length),(4,VI x210)]) (fun x210 x211 => [(0,.vec 327 (x211.map encPeer))]) (.k [0,3,4] [5128]) fun _ x210 x211 _ hk226 => .q e (.st e (Ev.lnF e) e (.a e e (.B fun _ hx239 => .st e (Ev.iaF e e hx239) e (.c0 e i q fun y240 _ => .B fun _ hx241 => .st e (Ev.iaW e e e hx241) e (.st e (Ev.stE (f := encPeer) (v' := y240) e e (at_some hx241).2 e (.d4 .nil) e e e e e) e (.R e (fun h => ⟨_,_,h,e,e⟩) (.k [0,3,4] [0]))))) (.X hk226 e e (.n e (.J e (.k [3] [0]))))))) fun v208 => .Ek [0] e e e))
def laws_toNode (N : Nat) (x1 : Node) : Option (Node) :=
 (laws_toIntS N x1.Conf).bind fun y119 =>
 (laws_toLog N x1.Log).bind fun y123 =>
 (laws_toIntS N x1.Votes).bind fun y127 =>
 (laws_toPeerS N x1.Peers).bind fun y131 =>
 some ({ x1 with Conf := y119,Log := y123,Votes := y127,Peers := y131 })
instance i34 (N : Nat) (x1 : Node) : Sem Tryz.prog 117 (laws_toNode N x1) [.agg [VI x1.Id,VI x1.Term,VI x1.Vote,VI x1.Role,VI x1.Lead,RO 3 (x1.Conf.map encI),VI x1.Log.Start,VI x1.Log.StartTerm,RO 126 (x1.Log.Entries.map encEntry),VI x1.Commit,VI x1.Clock,VI x1.Limit,RO 3 (x1.Votes.map encI),RO 329 (x1.Peers.map encPeer)]] 0 [] (fun r => .agg [VI r.Id,VI r.Term,VI r.Vote,VI r.Role,VI r.Lead,.sl 0 3 0 r.Conf.length,VI r.Log.Start,VI r.Log.StartTerm,.sl 1 100 0 r.Log.Entries.length,VI r.Commit,VI r.Clock,VI r.Limit,.sl 2 3 0 r.Votes.length,.sl 3 327 0 r.Peers.length]) (fun r => [(0,.vec 3 (r.Conf.map encI)),(1,.vec 100 (r.Log.Entries.map encEntry)),(2,.vec 3 (r.Votes.map encI)),(3,.vec 327 (r.Peers.map encPeer))]) := .st e e Tryz.call117 fun B r => .c1 e i q fun _ _ => .c1 e i q fun _ _ => .c1 e i q fun _ _ => .c1 e i q fun _ _ => .Ek [29704,33800,50184,54280] e e e
def laws_toFile (N : Nat) (x1 : File) : Option (File) :=
 some x1
instance i35 (N : Nat) (x1 : File) : Sem Tryz.prog 235 (laws_toFile N x1) [.agg [VS x1.Name,VS x1.Text]] 0 [] (fun r => .agg [VS r.Name,VS r.Text]) (fun r => []) := .st e e Tryz.call235 fun B r => .Ek [] e e e
def laws_toFileS_l1 (N : Nat) (x1 : (List File)) : Nat → Int → (List File) → Option ((List File))
 | 0,_,_ => none
 | m + 1,x210,x211 =>
 (if (decide (x210 < (x1.length : Int))) = true then
 (at? x1 x210).bind fun x239 =>
 (laws_toFile N x239).bind fun y240 =>
 (at? x211 x210).bind fun x241 =>
 laws_toFileS_l1 N x1 m (w64 (x210 + 1)) (x211.set x210.toNat y240)
 else
 some x211)
def laws_toFileS (N : Nat) (x1 : (List File)) : Option ((List File)) :=
 (mk? (File.mk (⟨#[]⟩ : ByteArray) (⟨#[]⟩ : ByteArray)) (x1.length : Int)).bind fun x174 =>
 joinP (fun (v208 : (List File)) =>
 some v208) fun j208 =>
 (laws_toFileS_l1 N x1 N 0 x174).bind (fun v226 => j208 v226)
instance i36 (N : Nat) (x1 : (List File)) : Sem Tryz.prog 189 (laws_toFileS N x1) [RO 316 (x1.map encFile)] 0 [] (fun r => .sl 0 141 0 r.length) (fun r => [(0,.vec 141 (r.map encFile))]) := .st e e Tryz.call189 fun B r => .st e (Ev.lnF e) e (.B fun _ hx174 => .st e (Ev.msW (f := encFile) (zv := (File.mk (⟨#[]⟩ : ByteArray) (⟨#[]⟩ : ByteArray))) e e e bt141 e hx174) e (.j e (fun v208 => [(3,.sl 0 141 0 v208.length)]) (fun v208 => [(0,.vec 141 (v208.map encFile))]) (fun _ => .L2 e (fun x210 x211 => [(0,RO 316 (x1.map encFile)),(3,.sl 0 141 0 x211.length),(4,VI x210)]) (fun x210 x211 => [(0,.vec 141 (x211.map encFile))]) (.k [0,3,4] [5128]) fun _ x210 x211 _ hk226 => .q e (.st e (Ev.lnF e) e (.a e e (.B fun _ hx239 => .st e (Ev.iaF e e hx239) e (.c0 e i q fun y240 _ => .B fun _ hx241 => .st e (Ev.iaW e e e hx241) e (.st e (Ev.stE (f := encFile) (v' := y240) e e (at_some hx241).2 e (.d2 .nil) e e e e e) e (.R e (fun h => ⟨_,_,h,e,e⟩) (.k [0,3,4] [0]))))) (.X hk226 e e (.n e (.J e (.k [3] [0]))))))) fun v208 => .Ek [0] e e e))
def laws_toDisk (N : Nat) (x1 : Disk) : Option (Disk) :=
 (laws_toFileS N x1.Files).bind fun y107 =>
 some (Disk.mk y107)
instance i37 (N : Nat) (x1 : Disk) : Sem Tryz.prog 118 (laws_toDisk N x1) [.agg [RO 316 (x1.Files.map encFile)]] 0 [] (fun r => .agg [.sl 0 141 0 r.Files.length]) (fun r => [(0,.vec 141 (r.Files.map encFile))]) := .st e e Tryz.call118 fun B r => .c1 e i q fun _ _ => .Ek [9224] e e e
def laws_toManifest (N : Nat) (x1 : Manifest) : Option (Manifest) :=
 (laws_toIntS N x1.Segs).bind fun y111 =>
 (laws_toIntS N x1.Conf).bind fun y115 =>
 some ({ x1 with Segs := y111,Conf := y115 })
instance i38 (N : Nat) (x1 : Manifest) : Sem Tryz.prog 190 (laws_toManifest N x1) [.agg [RO 3 (x1.Segs.map encI),VI x1.Next,VI x1.Base,VI x1.BaseTerm,RO 3 (x1.Conf.map encI)]] 0 [] (fun r => .agg [.sl 0 3 0 r.Segs.length,VI r.Next,VI r.Base,VI r.BaseTerm,.sl 1 3 0 r.Conf.length]) (fun r => [(0,.vec 3 (r.Segs.map encI)),(1,.vec 3 (r.Conf.map encI))]) := .st e e Tryz.call190 fun B r => .c1 e i q fun _ _ => .c1 e i q fun _ _ => .Ek [9224,25608] e e e
def laws_toSpot (N : Nat) (x1 : Spot) : Option (Spot) :=
 some x1
instance i39 (N : Nat) (x1 : Spot) : Sem Tryz.prog 236 (laws_toSpot N x1) [.agg [VS x1.Key,VI x1.Seg,VI x1.At,VI x1.Size]] 0 [] (fun r => .agg [VS r.Key,VI r.Seg,VI r.At,VI r.Size]) (fun r => []) := .st e e Tryz.call236 fun B r => .Ek [] e e e
def laws_toSpotS_l1 (N : Nat) (x1 : (List Spot)) : Nat → Int → (List Spot) → Option ((List Spot))
 | 0,_,_ => none
 | m + 1,x210,x211 =>
 (if (decide (x210 < (x1.length : Int))) = true then
 (at? x1 x210).bind fun x239 =>
 (laws_toSpot N x239).bind fun y240 =>
 (at? x211 x210).bind fun x241 =>
 laws_toSpotS_l1 N x1 m (w64 (x210 + 1)) (x211.set x210.toNat y240)
 else
 some x211)
def laws_toSpotS (N : Nat) (x1 : (List Spot)) : Option ((List Spot)) :=
 (mk? (Spot.mk (⟨#[]⟩ : ByteArray) 0 0 0) (x1.length : Int)).bind fun x174 =>
 joinP (fun (v208 : (List Spot)) =>
 some v208) fun j208 =>
 (laws_toSpotS_l1 N x1 N 0 x174).bind (fun v226 => j208 v226)
instance i40 (N : Nat) (x1 : (List Spot)) : Sem Tryz.prog 191 (laws_toSpotS N x1) [RO 318 (x1.map encSpot)] 0 [] (fun r => .sl 0 148 0 r.length) (fun r => [(0,.vec 148 (r.map encSpot))]) := .st e e Tryz.call191 fun B r => .st e (Ev.lnF e) e (.B fun _ hx174 => .st e (Ev.msW (f := encSpot) (zv := (Spot.mk (⟨#[]⟩ : ByteArray) 0 0 0)) e e e bt148 e hx174) e (.j e (fun v208 => [(3,.sl 0 148 0 v208.length)]) (fun v208 => [(0,.vec 148 (v208.map encSpot))]) (fun _ => .L2 e (fun x210 x211 => [(0,RO 318 (x1.map encSpot)),(3,.sl 0 148 0 x211.length),(4,VI x210)]) (fun x210 x211 => [(0,.vec 148 (x211.map encSpot))]) (.k [0,3,4] [5128]) fun _ x210 x211 _ hk226 => .q e (.st e (Ev.lnF e) e (.a e e (.B fun _ hx239 => .st e (Ev.iaF e e hx239) e (.c0 e i q fun y240 _ => .B fun _ hx241 => .st e (Ev.iaW e e e hx241) e (.st e (Ev.stE (f := encSpot) (v' := y240) e e (at_some hx241).2 e (.d4 .nil) e e e e e) e (.R e (fun h => ⟨_,_,h,e,e⟩) (.k [0,3,4] [0]))))) (.X hk226 e e (.n e (.J e (.k [3] [0]))))))) fun v208 => .Ek [0] e e e))
def laws_toShelf (N : Nat) (x1 : Shelf) : Option (Shelf) :=
 (laws_toManifest N x1.Man).bind fun y111 =>
 (laws_toSpotS N x1.Dir).bind fun y115 =>
 some (Shelf.mk y111 y115 x1.Stamp)
instance i41 (N : Nat) (x1 : Shelf) : Sem Tryz.prog 119 (laws_toShelf N x1) [.agg [RO 3 (x1.Man.Segs.map encI),VI x1.Man.Next,VI x1.Man.Base,VI x1.Man.BaseTerm,RO 3 (x1.Man.Conf.map encI),RO 318 (x1.Dir.map encSpot),VI x1.Stamp]] 0 [] (fun r => .agg [.sl 0 3 0 r.Man.Segs.length,VI r.Man.Next,VI r.Man.Base,VI r.Man.BaseTerm,.sl 1 3 0 r.Man.Conf.length,.sl 2 148 0 r.Dir.length,VI r.Stamp]) (fun r => [(0,.vec 3 (r.Man.Segs.map encI)),(1,.vec 3 (r.Man.Conf.map encI)),(2,.vec 148 (r.Dir.map encSpot))]) := .st e e Tryz.call119 fun B r => .f [] [] 2 e i q fun _ _ => .c1 e i q fun _ _ => .Ek [9224,9225,13320] e e e
def laws_toServer (N : Nat) (x1 : Server) : Option (Server) :=
 (laws_toNode N x1.Node).bind fun y115 =>
 (laws_toDisk N x1.Disk).bind fun y119 =>
 (laws_toShelf N x1.Shelf).bind fun y123 =>
 some ({ x1 with Node := y115,Disk := y119,Shelf := y123 })
instance i42 (N : Nat) (x1 : Server) : Sem Tryz.prog 64 (laws_toServer N x1) [.agg [VI x1.Node.Id,VI x1.Node.Term,VI x1.Node.Vote,VI x1.Node.Role,VI x1.Node.Lead,RO 3 (x1.Node.Conf.map encI),VI x1.Node.Log.Start,VI x1.Node.Log.StartTerm,RO 126 (x1.Node.Log.Entries.map encEntry),VI x1.Node.Commit,VI x1.Node.Clock,VI x1.Node.Limit,RO 3 (x1.Node.Votes.map encI),RO 329 (x1.Node.Peers.map encPeer),RO 316 (x1.Disk.Files.map encFile),RO 3 (x1.Shelf.Man.Segs.map encI),VI x1.Shelf.Man.Next,VI x1.Shelf.Man.Base,VI x1.Shelf.Man.BaseTerm,RO 3 (x1.Shelf.Man.Conf.map encI),RO 318 (x1.Shelf.Dir.map encSpot),VI x1.Shelf.Stamp,VS x1.Stage,VI x1.StageAt,VI x1.StageTerm]] 0 [] (fun r => .agg [VI r.Node.Id,VI r.Node.Term,VI r.Node.Vote,VI r.Node.Role,VI r.Node.Lead,.sl 0 3 0 r.Node.Conf.length,VI r.Node.Log.Start,VI r.Node.Log.StartTerm,.sl 1 100 0 r.Node.Log.Entries.length,VI r.Node.Commit,VI r.Node.Clock,VI r.Node.Limit,.sl 2 3 0 r.Node.Votes.length,.sl 3 327 0 r.Node.Peers.length,.sl 4 141 0 r.Disk.Files.length,.sl 5 3 0 r.Shelf.Man.Segs.length,VI r.Shelf.Man.Next,VI r.Shelf.Man.Base,VI r.Shelf.Man.BaseTerm,.sl 6 3 0 r.Shelf.Man.Conf.length,.sl 7 148 0 r.Shelf.Dir.length,VI r.Shelf.Stamp,VS r.Stage,VI r.StageAt,VI r.StageTerm]) (fun r => [(0,.vec 3 (r.Node.Conf.map encI)),(1,.vec 100 (r.Node.Log.Entries.map encEntry)),(2,.vec 3 (r.Node.Votes.map encI)),(3,.vec 327 (r.Node.Peers.map encPeer)),(4,.vec 141 (r.Disk.Files.map encFile)),(5,.vec 3 (r.Shelf.Man.Segs.map encI)),(6,.vec 3 (r.Shelf.Man.Conf.map encI)),(7,.vec 148 (r.Shelf.Dir.map encSpot))]) := .st e e Tryz.call64 fun B r => .f [] [] 4 e i q fun _ _ => .c1 e i q fun _ _ => .f [] [] 3 e i q fun _ _ => .Ek [9224,9225,9226,9227,13320,17416,17417,17418] e e e
def laws_toServerS_l1 (N : Nat) (x1 : (List Server)) : Nat → Int → (List Server) → Option ((List Server))
 | 0,_,_ => none
 | m + 1,x210,x211 =>
 (if (decide (x210 < (x1.length : Int))) = true then
 (at? x1 x210).bind fun x239 =>
 (laws_toServer N x239).bind fun y240 =>
 (at? x211 x210).bind fun x241 =>
 laws_toServerS_l1 N x1 m (w64 (x210 + 1)) (x211.set x210.toNat y240)
 else
 some x211)
def laws_toServerS (N : Nat) (x1 : (List Server)) : Option ((List Server)) :=
 (mk? (Server.mk (Node.mk 0 0 0 0 0 [] (Log.mk 0 0 []) 0 0 0 [] []) (Disk.mk []) (Shelf.mk (Manifest.mk [] 0 0 0 []) [] 0) (⟨#[]⟩ : ByteArray) 0 0) (x1.length : Int)).bind fun x174 =>
 joinP (fun (v208 : (List Server)) =>
 some v208) fun j208 =>
 (laws_toServerS_l1 N x1 N 0 x174).bind (fun v226 => j208 v226)
instance i43 (N : Nat) (x1 : (List Server)) : Sem Tryz.prog 24 (laws_toServerS N x1) [RO 118 (x1.map (encServerL false))] 0 [] (fun r => .sl 0 70 0 r.length) (fun r => [(0,.vec 70 (r.map (encServer true)))]) := .st e e Tryz.call24 fun B r => .st e (Ev.lnF e) e (.B fun _ hx174 => .st e (Ev.msW (f := (encServer true)) (zv := (Server.mk (Node.mk 0 0 0 0 0 [] (Log.mk 0 0 []) 0 0 0 [] []) (Disk.mk []) (Shelf.mk (Manifest.mk [] 0 0 0 []) [] 0) (⟨#[]⟩ : ByteArray) 0 0)) e e e bt70 e hx174) e (.j e (fun v208 => [(3,.sl 0 70 0 v208.length)]) (fun v208 => [(0,.vec 70 (v208.map (encServer true)))]) (fun _ => .L2 e (fun x210 x211 => [(0,RO 118 (x1.map (encServerL false))),(3,.sl 0 70 0 x211.length),(4,VI x210)]) (fun x210 x211 => [(0,.vec 70 (x211.map (encServer true)))]) (.k [0,3,4] [5128]) fun _ x210 x211 _ hk226 => .q e (.st e (Ev.lnF e) e (.a e e (.B fun _ hx239 => .st e (Ev.iaF e e hx239) e (.f [] [] 8 e i q fun y240 _ => .B fun _ hx241 => .st e (Ev.iaW e e e hx241) e (.st e (Ev.stE (f := (encServer true)) (v' := y240) e e (at_some hx241).2 e (.d4 (.d1 (.cons (.own e (lenmap e)) (.d2 (.cons (.own e (lenmap e)) (.d2 (.d1 (.cons (.own e (lenmap e)) (.cons (.own e (lenmap e)) (.cons (.own e (lenmap e)) (.cons (.own e (lenmap e)) (.d2 (.d1 (.cons (.own e (lenmap e)) (.cons (.own e (lenmap e)) (.d4 .nil)))))))))))))))) e e e e e) e (.R e (fun h => ⟨_,_,h,e,e⟩) (.k [0,3,4] [0]))))) (.X hk226 e e (.n e (.J e (.k [3] [0]))))))) fun v208 => .Ek [0] e e e))
def laws_toMessage (N : Nat) (x1 : Message) : Option (Message) :=
 (laws_toEntryS N x1.Entries).bind fun y111 =>
 (laws_toIntS N x1.Conf).bind fun y115 =>
 some ({ x1 with Entries := y111,Conf := y115 })
instance i44 (N : Nat) (x1 : Message) : Sem Tryz.prog 65 (laws_toMessage N x1) [.agg [VI x1.Kind,VI x1.From,VI x1.To,VI x1.Term,VI x1.Index,VI x1.LogTerm,VI x1.Commit,VB x1.Ok,RO 126 (x1.Entries.map encEntry),RO 3 (x1.Conf.map encI),VS x1.Data,VB x1.Last]] 0 [] (fun r => .agg [VI r.Kind,VI r.From,VI r.To,VI r.Term,VI r.Index,VI r.LogTerm,VI r.Commit,VB r.Ok,.sl 0 100 0 r.Entries.length,.sl 1 3 0 r.Conf.length,VS r.Data,VB r.Last]) (fun r => [(0,.vec 100 (r.Entries.map encEntry)),(1,.vec 3 (r.Conf.map encI))]) := .st e e Tryz.call65 fun B r => .c1 e i q fun _ _ => .c1 e i q fun _ _ => .Ek [41992,46088] e e e
def laws_toMessageS_l1 (N : Nat) (x1 : (List Message)) : Nat → Int → (List Message) → Option ((List Message))
 | 0,_,_ => none
 | m + 1,x210,x211 =>
 (if (decide (x210 < (x1.length : Int))) = true then
 (at? x1 x210).bind fun x239 =>
 (laws_toMessage N x239).bind fun y240 =>
 (at? x211 x210).bind fun x241 =>
 laws_toMessageS_l1 N x1 m (w64 (x210 + 1)) (x211.set x210.toNat y240)
 else
 some x211)
def laws_toMessageS (N : Nat) (x1 : (List Message)) : Option ((List Message)) :=
 (mk? (Message.mk 0 0 0 0 0 0 0 false [] [] (⟨#[]⟩ : ByteArray) false) (x1.length : Int)).bind fun x174 =>
 joinP (fun (v208 : (List Message)) =>
 some v208) fun j208 =>
 (laws_toMessageS_l1 N x1 N 0 x174).bind (fun v226 => j208 v226)
instance i45 (N : Nat) (x1 : (List Message)) : Sem Tryz.prog 25 (laws_toMessageS N x1) [RO 121 (x1.map (encMessageL false))] 0 [] (fun r => .sl 0 153 0 r.length) (fun r => [(0,.vec 153 (r.map (encMessage true)))]) := .st e e Tryz.call25 fun B r => .st e (Ev.lnF e) e (.B fun _ hx174 => .st e (Ev.msW (f := (encMessage true)) (zv := (Message.mk 0 0 0 0 0 0 0 false [] [] (⟨#[]⟩ : ByteArray) false)) e e e bt153 e hx174) e (.j e (fun v208 => [(3,.sl 0 153 0 v208.length)]) (fun v208 => [(0,.vec 153 (v208.map (encMessage true)))]) (fun _ => .L2 e (fun x210 x211 => [(0,RO 121 (x1.map (encMessageL false))),(3,.sl 0 153 0 x211.length),(4,VI x210)]) (fun x210 x211 => [(0,.vec 153 (x211.map (encMessage true)))]) (.k [0,3,4] [5128]) fun _ x210 x211 _ hk226 => .q e (.st e (Ev.lnF e) e (.a e e (.B fun _ hx239 => .st e (Ev.iaF e e hx239) e (.f [] [] 2 e i q fun y240 _ => .B fun _ hx241 => .st e (Ev.iaW e e e hx241) e (.st e (Ev.stE (f := (encMessage true)) (v' := y240) e e (at_some hx241).2 e (.d4 (.d4 (.cons (.own e (lenmap e)) (.cons (.own e (lenmap e)) (.d2 .nil))))) e e e e e) e (.R e (fun h => ⟨_,_,h,e,e⟩) (.k [0,3,4] [0]))))) (.X hk226 e e (.n e (.J e (.k [3] [0]))))))) fun v208 => .Ek [0] e e e))
def laws_toWait (N : Nat) (x1 : Wait) : Option (Wait) :=
 some x1
instance i46 (N : Nat) (x1 : Wait) : Sem Tryz.prog 66 (laws_toWait N x1) [.agg [VI x1.Node,VI x1.Index,VI x1.Term,VI x1.Call]] 0 [] (fun r => .agg [VI r.Node,VI r.Index,VI r.Term,VI r.Call]) (fun r => []) := .st e e Tryz.call66 fun B r => .Ek [] e e e
def laws_toWaitS_l1 (N : Nat) (x1 : (List Wait)) : Nat → Int → (List Wait) → Option ((List Wait))
 | 0,_,_ => none
 | m + 1,x210,x211 =>
 (if (decide (x210 < (x1.length : Int))) = true then
 (at? x1 x210).bind fun x239 =>
 (laws_toWait N x239).bind fun y240 =>
 (at? x211 x210).bind fun x241 =>
 laws_toWaitS_l1 N x1 m (w64 (x210 + 1)) (x211.set x210.toNat y240)
 else
 some x211)
def laws_toWaitS (N : Nat) (x1 : (List Wait)) : Option ((List Wait)) :=
 (mk? (Wait.mk 0 0 0 0) (x1.length : Int)).bind fun x174 =>
 joinP (fun (v208 : (List Wait)) =>
 some v208) fun j208 =>
 (laws_toWaitS_l1 N x1 N 0 x174).bind (fun v226 => j208 v226)
instance i47 (N : Nat) (x1 : (List Wait)) : Sem Tryz.prog 26 (laws_toWaitS N x1) [RO 158 (x1.map encWait)] 0 [] (fun r => .sl 0 156 0 r.length) (fun r => [(0,.vec 156 (r.map encWait))]) := .st e e Tryz.call26 fun B r => .st e (Ev.lnF e) e (.B fun _ hx174 => .st e (Ev.msW (f := encWait) (zv := (Wait.mk 0 0 0 0)) e e e bt156 e hx174) e (.j e (fun v208 => [(3,.sl 0 156 0 v208.length)]) (fun v208 => [(0,.vec 156 (v208.map encWait))]) (fun _ => .L2 e (fun x210 x211 => [(0,RO 158 (x1.map encWait)),(3,.sl 0 156 0 x211.length),(4,VI x210)]) (fun x210 x211 => [(0,.vec 156 (x211.map encWait))]) (.k [0,3,4] [5128]) fun _ x210 x211 _ hk226 => .q e (.st e (Ev.lnF e) e (.a e e (.B fun _ hx239 => .st e (Ev.iaF e e hx239) e (.c0 e i q fun y240 _ => .B fun _ hx241 => .st e (Ev.iaW e e e hx241) e (.st e (Ev.stE (f := encWait) (v' := y240) e e (at_some hx241).2 e (.d4 .nil) e e e e e) e (.R e (fun h => ⟨_,_,h,e,e⟩) (.k [0,3,4] [0]))))) (.X hk226 e e (.n e (.J e (.k [3] [0]))))))) fun v208 => .Ek [0] e e e))
def laws_toLeader (N : Nat) (x1 : Leader) : Option (Leader) :=
 (laws_toLog N x1.Log).bind fun y107 =>
 some (Leader.mk x1.Node x1.Term y107)
instance i48 (N : Nat) (x1 : Leader) : Sem Tryz.prog 67 (laws_toLeader N x1) [.agg [VI x1.Node,VI x1.Term,VI x1.Log.Start,VI x1.Log.StartTerm,RO 126 (x1.Log.Entries.map encEntry)]] 0 [] (fun r => .agg [VI r.Node,VI r.Term,VI r.Log.Start,VI r.Log.StartTerm,.sl 0 100 0 r.Log.Entries.length]) (fun r => [(0,.vec 100 (r.Log.Entries.map encEntry))]) := .st e e Tryz.call67 fun B r => .c1 e i q fun _ _ => .Ek [17416] e e e
def laws_toLeaderS_l1 (N : Nat) (x1 : (List Leader)) : Nat → Int → (List Leader) → Option ((List Leader))
 | 0,_,_ => none
 | m + 1,x210,x211 =>
 (if (decide (x210 < (x1.length : Int))) = true then
 (at? x1 x210).bind fun x239 =>
 (laws_toLeader N x239).bind fun y240 =>
 (at? x211 x210).bind fun x241 =>
 laws_toLeaderS_l1 N x1 m (w64 (x210 + 1)) (x211.set x210.toNat y240)
 else
 some x211)
def laws_toLeaderS (N : Nat) (x1 : (List Leader)) : Option ((List Leader)) :=
 (mk? (Leader.mk 0 0 (Log.mk 0 0 [])) (x1.length : Int)).bind fun x174 =>
 joinP (fun (v208 : (List Leader)) =>
 some v208) fun j208 =>
 (laws_toLeaderS_l1 N x1 N 0 x174).bind (fun v226 => j208 v226)
instance i49 (N : Nat) (x1 : (List Leader)) : Sem Tryz.prog 27 (laws_toLeaderS N x1) [RO 124 (x1.map (encLeaderL false))] 0 [] (fun r => .sl 0 160 0 r.length) (fun r => [(0,.vec 160 (r.map (encLeader true)))]) := .st e e Tryz.call27 fun B r => .st e (Ev.lnF e) e (.B fun _ hx174 => .st e (Ev.msW (f := (encLeader true)) (zv := (Leader.mk 0 0 (Log.mk 0 0 []))) e e e bt160 e hx174) e (.j e (fun v208 => [(3,.sl 0 160 0 v208.length)]) (fun v208 => [(0,.vec 160 (v208.map (encLeader true)))]) (fun _ => .L2 e (fun x210 x211 => [(0,RO 124 (x1.map (encLeaderL false))),(3,.sl 0 160 0 x211.length),(4,VI x210)]) (fun x210 x211 => [(0,.vec 160 (x211.map (encLeader true)))]) (.k [0,3,4] [5128]) fun _ x210 x211 _ hk226 => .q e (.st e (Ev.lnF e) e (.a e e (.B fun _ hx239 => .st e (Ev.iaF e e hx239) e (.c1 e i q fun y240 _ => .B fun _ hx241 => .st e (Ev.iaW e e e hx241) e (.st e (Ev.stE (f := (encLeader true)) (v' := y240) e e (at_some hx241).2 e (.d4 (.cons (.own e (lenmap e)) .nil)) e e e e e) e (.R e (fun h => ⟨_,_,h,e,e⟩) (.k [0,3,4] [0]))))) (.X hk226 e e (.n e (.J e (.k [3] [0]))))))) fun v208 => .Ek [0] e e e))
def laws_toApplied (N : Nat) (x1 : Applied) : Option (Applied) :=
 (laws_toEntry N x1.Entry).bind fun y107 =>
 some ({ x1 with Entry := y107 })
instance i50 (N : Nat) (x1 : Applied) : Sem Tryz.prog 68 (laws_toApplied N x1) [.agg [VI x1.Node,VI x1.Term,VI x1.Index,VI x1.Entry.Term,VI x1.Entry.Kind,VS x1.Entry.Data]] 0 [] (fun r => .agg [VI r.Node,VI r.Term,VI r.Index,VI r.Entry.Term,VI r.Entry.Kind,VS r.Entry.Data]) (fun r => []) := .st e e Tryz.call68 fun B r => .c0 e i q fun _ _ => .Ek [] e e e
def laws_toAppliedS_l1 (N : Nat) (x1 : (List Applied)) : Nat → Int → (List Applied) → Option ((List Applied))
 | 0,_,_ => none
 | m + 1,x210,x211 =>
 (if (decide (x210 < (x1.length : Int))) = true then
 (at? x1 x210).bind fun x239 =>
 (laws_toApplied N x239).bind fun y240 =>
 (at? x211 x210).bind fun x241 =>
 laws_toAppliedS_l1 N x1 m (w64 (x210 + 1)) (x211.set x210.toNat y240)
 else
 some x211)
def laws_toAppliedS (N : Nat) (x1 : (List Applied)) : Option ((List Applied)) :=
 (mk? (Applied.mk 0 0 0 (Entry.mk 0 0 (⟨#[]⟩ : ByteArray))) (x1.length : Int)).bind fun x174 =>
 joinP (fun (v208 : (List Applied)) =>
 some v208) fun j208 =>
 (laws_toAppliedS_l1 N x1 N 0 x174).bind (fun v226 => j208 v226)
instance i51 (N : Nat) (x1 : (List Applied)) : Sem Tryz.prog 28 (laws_toAppliedS N x1) [RO 128 (x1.map encApplied)] 0 [] (fun r => .sl 0 102 0 r.length) (fun r => [(0,.vec 102 (r.map encApplied))]) := .st e e Tryz.call28 fun B r => .st e (Ev.lnF e) e (.B fun _ hx174 => .st e (Ev.msW (f := encApplied) (zv := (Applied.mk 0 0 0 (Entry.mk 0 0 (⟨#[]⟩ : ByteArray)))) e e e bt102 e hx174) e (.j e (fun v208 => [(3,.sl 0 102 0 v208.length)]) (fun v208 => [(0,.vec 102 (v208.map encApplied))]) (fun _ => .L2 e (fun x210 x211 => [(0,RO 128 (x1.map encApplied)),(3,.sl 0 102 0 x211.length),(4,VI x210)]) (fun x210 x211 => [(0,.vec 102 (x211.map encApplied))]) (.k [0,3,4] [5128]) fun _ x210 x211 _ hk226 => .q e (.st e (Ev.lnF e) e (.a e e (.B fun _ hx239 => .st e (Ev.iaF e e hx239) e (.c0 e i q fun y240 _ => .B fun _ hx241 => .st e (Ev.iaW e e e hx241) e (.st e (Ev.stE (f := encApplied) (v' := y240) e e (at_some hx241).2 e (.d4 (.d2 .nil)) e e e e e) e (.R e (fun h => ⟨_,_,h,e,e⟩) (.k [0,3,4] [0]))))) (.X hk226 e e (.n e (.J e (.k [3] [0]))))))) fun v208 => .Ek [0] e e e))
def laws_toCommand (N : Nat) (x1 : Command) : Option (Command) :=
 some x1
instance i52 (N : Nat) (x1 : Command) : Sem Tryz.prog 124 (laws_toCommand N x1) [.agg [VI x1.Op,VI x1.Session,VI x1.Seq,VS x1.Key,VS x1.Value,VS x1.Old]] 0 [] (fun r => .agg [VI r.Op,VI r.Session,VI r.Seq,VS r.Key,VS r.Value,VS r.Old]) (fun r => []) := .st e e Tryz.call124 fun B r => .Ek [] e e e
def laws_toReply (N : Nat) (x1 : Reply) : Option (Reply) :=
 (laws_toCommand N x1.Command).bind fun y107 =>
 some ({ x1 with Command := y107 })
instance i53 (N : Nat) (x1 : Reply) : Sem Tryz.prog 69 (laws_toReply N x1) [.agg [VI x1.Call,VI x1.Index,VI x1.Command.Op,VI x1.Command.Session,VI x1.Command.Seq,VS x1.Command.Key,VS x1.Command.Value,VS x1.Command.Old,VS x1.Text]] 0 [] (fun r => .agg [VI r.Call,VI r.Index,VI r.Command.Op,VI r.Command.Session,VI r.Command.Seq,VS r.Command.Key,VS r.Command.Value,VS r.Command.Old,VS r.Text]) (fun r => []) := .st e e Tryz.call69 fun B r => .c0 e i q fun _ _ => .Ek [] e e e
def laws_toReplyS_l1 (N : Nat) (x1 : (List Reply)) : Nat → Int → (List Reply) → Option ((List Reply))
 | 0,_,_ => none
 | m + 1,x210,x211 =>
 (if (decide (x210 < (x1.length : Int))) = true then
 (at? x1 x210).bind fun x239 =>
 (laws_toReply N x239).bind fun y240 =>
 (at? x211 x210).bind fun x241 =>
 laws_toReplyS_l1 N x1 m (w64 (x210 + 1)) (x211.set x210.toNat y240)
 else
 some x211)
def laws_toReplyS (N : Nat) (x1 : (List Reply)) : Option ((List Reply)) :=
 (mk? (Reply.mk 0 0 (Command.mk 0 0 0 (⟨#[]⟩ : ByteArray) (⟨#[]⟩ : ByteArray) (⟨#[]⟩ : ByteArray)) (⟨#[]⟩ : ByteArray)) (x1.length : Int)).bind fun x174 =>
 joinP (fun (v208 : (List Reply)) =>
 some v208) fun j208 =>
 (laws_toReplyS_l1 N x1 N 0 x174).bind (fun v226 => j208 v226)
instance i54 (N : Nat) (x1 : (List Reply)) : Sem Tryz.prog 29 (laws_toReplyS N x1) [RO 133 (x1.map encReply)] 0 [] (fun r => .sl 0 165 0 r.length) (fun r => [(0,.vec 165 (r.map encReply))]) := .st e e Tryz.call29 fun B r => .st e (Ev.lnF e) e (.B fun _ hx174 => .st e (Ev.msW (f := encReply) (zv := (Reply.mk 0 0 (Command.mk 0 0 0 (⟨#[]⟩ : ByteArray) (⟨#[]⟩ : ByteArray) (⟨#[]⟩ : ByteArray)) (⟨#[]⟩ : ByteArray))) e e e bt165 e hx174) e (.j e (fun v208 => [(3,.sl 0 165 0 v208.length)]) (fun v208 => [(0,.vec 165 (v208.map encReply))]) (fun _ => .L2 e (fun x210 x211 => [(0,RO 133 (x1.map encReply)),(3,.sl 0 165 0 x211.length),(4,VI x210)]) (fun x210 x211 => [(0,.vec 165 (x211.map encReply))]) (.k [0,3,4] [5128]) fun _ x210 x211 _ hk226 => .q e (.st e (Ev.lnF e) e (.a e e (.B fun _ hx239 => .st e (Ev.iaF e e hx239) e (.c0 e i q fun y240 _ => .B fun _ hx241 => .st e (Ev.iaW e e e hx241) e (.st e (Ev.stE (f := encReply) (v' := y240) e e (at_some hx241).2 e (.d4 (.d4 (.d1 .nil))) e e e e e) e (.R e (fun h => ⟨_,_,h,e,e⟩) (.k [0,3,4] [0]))))) (.X hk226 e e (.n e (.J e (.k [3] [0]))))))) fun v208 => .Ek [0] e e e))
def laws_toWorld (N : Nat) (x1 : World) : Option (World) :=
 (laws_toBoolS N x1.Up).bind fun y131 =>
 (laws_toServerS N x1.Servers).bind fun y135 =>
 (laws_toMessageS N x1.Net).bind fun y139 =>
 (laws_toWaitS N x1.Waits).bind fun y143 =>
 (laws_toLeaderS N x1.Leaders).bind fun y147 =>
 (laws_toAppliedS N x1.Applied).bind fun y151 =>
 (laws_toReplyS N x1.Replies).bind fun y155 =>
 some (World.mk y131 y135 y139 y143 y147 y151 y155)
instance i55 (N : Nat) (x1 : World) : Sem Tryz.prog 7 (laws_toWorld N x1) [.agg [RO 4 (x1.Up.map encB),RO 118 (x1.Servers.map (encServerL false)),RO 121 (x1.Net.map (encMessageL false)),RO 158 (x1.Waits.map encWait),RO 124 (x1.Leaders.map (encLeaderL false)),RO 128 (x1.Applied.map encApplied),RO 133 (x1.Replies.map encReply)]] 0 [] (fun r => .agg [.sl 0 4 0 r.Up.length,.sl 1 70 0 r.Servers.length,.sl 2 153 0 r.Net.length,.sl 3 156 0 r.Waits.length,.sl 4 160 0 r.Leaders.length,.sl 5 102 0 r.Applied.length,.sl 6 165 0 r.Replies.length]) (fun r => [(0,.vec 4 (r.Up.map encB)),(1,.vec 70 (r.Servers.map (encServer true))),(2,.vec 153 (r.Net.map (encMessage true))),(3,.vec 156 (r.Waits.map encWait)),(4,.vec 160 (r.Leaders.map (encLeader true))),(5,.vec 102 (r.Applied.map encApplied)),(6,.vec 165 (r.Replies.map encReply))]) := .st e e Tryz.call7 fun B r => .c1 e i q fun _ _ => .c1 e i q fun _ _ => .c1 e i q fun _ _ => .c1 e i q fun _ _ => .c1 e i q fun _ _ => .c1 e i q fun _ _ => .c1 e i q fun _ _ => .Ek [9224,13320,17416,21512,25608,29704,33800] e e e
def spec_l01In (N : Nat) (x1 : Int) (x2 : Int) (x3 : Int) : Option (Bool) :=
 (if (decide (x1 ≥ x2)) = true then
 some (decide (x1 ≤ x3))
 else
 some false)
instance i56 (N : Nat) (x1 : Int) (x2 : Int) (x3 : Int) : Sem Tryz.prog 19 (spec_l01In N x1 x2 x3) [VI x1,VI x2,VI x3] 0 [] (fun r => VB r) (fun r => []) := .st e e Tryz.call19 fun B r => .q e (.a e e (.Ek [] e e e) (.Ek [] e e e))
def spec_DiskOk_l1 (N : Nat) (x1 : Disk) : Nat → Int → Option ((Bool) ⊕ (Unit))
 | 0,_ => none
 | m + 1,x343 =>
 (if (decide (x343 < (x1.Files.length : Int))) = true then
 joinP (fun (v404 : Unit) =>
 spec_DiskOk_l1 N x1 m (w64 (x343 + 1))) fun j404 =>
 (at? x1.Files x343).bind fun x413 =>
 (spec_l01In N (x413.Name.size : Int) 1 12).bind fun y414 =>
 (if (!y414) = true then
 some (Sum.inl false)
 else
 (at? x1.Files x343).bind fun x416 =>
 (if (decide ((x416.Text.size : Int) > 20000)) = true then
 some (Sum.inl false)
 else
 (if (decide (x343 > 0)) = true then
 (at? x1.Files (w64 (x343 - 1))).bind fun x419 =>
 (at? x1.Files x343).bind fun x420 =>
 (if (!Op.bytesLess x419.Name.toList x420.Name.toList) = true then
 some (Sum.inl false)
 else
 j404 ())
 else
 j404 ())))
 else
 some (Sum.inr ()))
def spec_DiskOk (N : Nat) (x1 : Disk) : Option (Bool) :=
 (if (decide ((x1.Files.length : Int) > 30)) = true then
 some false
 else
 joinP (fun (v342 : Unit) =>
 some true) fun j342 =>
 (spec_DiskOk_l1 N x1 N 0).bind (Sum.elim (fun v382 => some v382) (fun (v383 : Unit) => j342 ())))
instance i57 (N : Nat) (x1 : Disk) : Sem Tryz.prog 61 (spec_DiskOk N x1) [.agg [RO 141 (x1.Files.map encFile)]] 0 [] (fun r => VB r) (fun r => []) := .st e e Tryz.call61 fun B r => .q e (.st e (Ev.lnF e) e (.a e e (.Ek [] e e e) (.j e (fun _ => []) (fun _ => []) (fun _ => .L1 e (fun x343 => [(1,.ptr 0 0),(3,VI x343)]) (fun x343 => [(0,.box [RO 141 (x1.Files.map encFile)])]) (.k [1,3] [1000]) fun _ x343 _ hk383 => .q e (.st e (Ev.lnF e) e (.a e e (.j e (fun _ => [(1,.ptr 0 0),(3,VI x343)]) (fun _ => [(0,.box [RO 141 (x1.Files.map encFile)])]) (fun _ => .q e (.B fun _ hx413 => .st e (Ev.iaF e e hx413) e (.c0 e i q fun _ _ => .a e e (.dn e (.Xr hk383 e e (.il (.e e (.Ek [] e e e))))) (.B fun _ hx416 => .st e (Ev.iaF e e hx416) e (.a e e (.dn e (.Xr hk383 e e (.il (.e e (.Ek [] e e e))))) (.a e e (.B fun _ hx419 => .st e (Ev.iaF e e hx419) e (.B fun _ hx420 => .st e (Ev.iaF e e hx420) e (.dn e (.a e e (.Xr hk383 e e (.il (.e e (.Ek [] e e e)))) (.J e (.k [1,3] [0])))))) (.dn e (.J e (.k [1,3] [0]))))))))) fun _ => .R e (fun h => ⟨_,h,e,e⟩) (.k [1,3] [0])) (.X hk383 e e (.ir (.n e (.J e (.k [] [])))))))) fun _ => .Ek [] e e e)))
def spec_l03At_l1 (N : Nat) (x1 : Disk) (x2 : ByteArray) : Nat → Int → Option ((Int) ⊕ (Unit))
 | 0,_ => none
 | m + 1,x169 =>
 (if (decide (x169 < (x1.Files.length : Int))) = true then
 (at? x1.Files x169).bind fun x188 =>
 (if (decide (x188.Name = x2)) = true then
 some (Sum.inl x169)
 else
 spec_l03At_l1 N x1 x2 m (w64 (x169 + 1)))
 else
 some (Sum.inr ()))
def spec_l03At_l1_r (N : Nat) (x1 : Disk) (x2 : ByteArray) : (List File) → Int → Option ((Int) ⊕ (Unit))
 | [],x169 =>
 some (Sum.inr ())
 | hd :: tl,x169 =>
 (some hd).bind fun x188 =>
 (if (decide (x188.Name = x2)) = true then
 some (Sum.inl x169)
 else
 spec_l03At_l1_r N x1 x2 tl (w64 (x169 + 1)))
theorem spec_l03At_l1_rng (N : Nat) (x1 : Disk) (x2 : ByteArray) (hx : x1.Files.length ≤ 1099511627776) : ∀ (d k m : Nat),x1.Files.length = k + d → d < m → spec_l03At_l1 N x1 x2 m (k : Int) = spec_l03At_l1_r N x1 x2 (x1.Files.drop k) (k : Int) := by
 intro d
 induction d with
 | zero =>
  intro k m hd hm
  obtain ⟨m,rfl⟩ : ∃ q,m = q + 1 := ⟨m - 1,by omega⟩
  rw [spec_l03At_l1,if_neg (by simp; omega),List.drop_eq_nil_of_le (by omega),spec_l03At_l1_r]
 | succ d ih =>
  intro k m hd hm
  obtain ⟨m,rfl⟩ : ∃ q,m = q + 1 := ⟨m - 1,by omega⟩
  have hk : k < x1.Files.length := by omega
  rw [spec_l03At_l1,if_pos (by simp; omega),List.drop_eq_getElem_cons hk,spec_l03At_l1_r]
  have h1 := at_lt hk
  have h2 := w64_succ (k := k) (by omega)
  have h3 := ih (k + 1) m
  simp only [h1,h2,h3 (by omega) (by omega)]
theorem spec_l03At_l1_eq {N : Nat} (x1 : Disk) (x2 : ByteArray) (hx : x1.Files.length ≤ 1099511627776) (hN : x1.Files.length < N) : spec_l03At_l1 N x1 x2 N 0 = spec_l03At_l1_r N x1 x2 x1.Files 0 := spec_l03At_l1_rng N x1 x2 hx x1.Files.length 0 N (by omega) hN
def spec_l03At (N : Nat) (x1 : Disk) (x2 : ByteArray) : Option (Int) :=
 joinP (fun (v167 : Unit) =>
 some (-1 : Int)) fun j167 =>
 (spec_l03At_l1 N x1 x2 N 0).bind (Sum.elim (fun v179 => some v179) (fun (v180 : Unit) => j167 ()))
instance i58 (N : Nat) (x1 : Disk) (x2 : ByteArray) : Sem Tryz.prog 56 (spec_l03At N x1 x2) [.agg [RO 141 (x1.Files.map encFile)],VS x2] 0 [] (fun r => VI r) (fun r => []) := .st e e Tryz.call56 fun B r => .j e (fun _ => []) (fun _ => []) (fun _ => .L1 e (fun x169 => [(1,VS x2),(2,.ptr 0 0),(5,VI x169)]) (fun x169 => [(0,.box [RO 141 (x1.Files.map encFile)])]) (.k [1,2,5] [1000]) fun _ x169 _ hk180 => .q e (.st e (Ev.lnF e) e (.a e e (.q e (.B fun _ hx188 => .st e (Ev.iaF e e hx188) e (.a e e (.Xr hk180 e e (.il (.e e (.Ek [] e e e)))) (.R e (fun h => ⟨_,h,e,e⟩) (.k [1,2,5] [0]))))) (.X hk180 e e (.ir (.n e (.J e (.k [] [])))))))) fun _ => .Ek [] e e e
def spec_FileAt (N : Nat) (x1 : Disk) (x2 : ByteArray) : Option (ByteArray × Bool) :=
 (spec_l03At N x1 x2).bind fun y119 =>
 (spec_DiskOk N x1).bind fun y127 =>
 (if (!y127) = true then
 some ((⟨#[]⟩ : ByteArray),false)
 else
 (if (decide (y119 < 0)) = true then
 some ((⟨#[]⟩ : ByteArray),false)
 else
 (at? x1.Files y119).bind fun x131 =>
 some (x131.Text,true)))
instance i59 (N : Nat) (x1 : Disk) (x2 : ByteArray) : Sem Tryz.prog 107 (spec_FileAt N x1 x2) [.agg [RO 141 (x1.Files.map encFile)],VS x2] 0 [] (fun r => .tup [VS r.1,VB r.2]) (fun r => []) := .st e e Tryz.call107 fun B r => .c0 e i q fun _ _ => .q e (.q e (.c0 e i q fun _ _ => .a e e (.Ek [] e e e) (.a e e (.Ek [] e e e) (.B fun _ hx131 => .st e (Ev.iaF e e hx131) e (.Ek [] e e e)))))
def spec_SumMore_l2 (N : Nat) : Nat → Int → Int → Option (Int)
 | 0,_,_ => none
 | m + 1,x1114,x1117 =>
 (if (decide (x1117 < 8)) = true then
 joinP (fun (v1158 : Int) =>
 spec_SumMore_l2 N m v1158 (w64 (x1117 + 1))) fun j1158 =>
 (intD .rem .u32 x1114 2).bind fun x1162 =>
 (intD .quo .u32 x1114 2).bind fun x1166 =>
 (if (x1162 == 1) = true then
 (intD .xor .u32 x1166 3558460437).bind fun x1169 =>
 j1158 x1169
 else
 j1158 x1166)
 else
 some x1114)
def spec_SumMore_l1 (N : Nat) (x2 : ByteArray) : Nat → Int → Int → Option (Int)
 | 0,_,_ => none
 | m + 1,x903,x905 =>
 (if (decide (x905 < (x2.size : Int))) = true then
 joinP (fun (v1105 : Int) =>
 spec_SumMore_l1 N x2 m v1105 (w64 (x905 + 1))) fun j1105 =>
 (sat? x2 x905).bind fun x1112 =>
 (intD .xor .u32 x903 (IntKind.wrap .u32 (x1112))).bind fun x1113 =>
 (spec_SumMore_l2 N N x1113 0).bind (fun v1143 => j1105 v1143)
 else
 some x903)
def spec_SumMore (N : Nat) (x1 : Int) (x2 : ByteArray) : Option (Int) :=
 joinP (fun (v902 : Int) =>
 some v902) fun j902 =>
 (spec_SumMore_l1 N x2 N x1 0).bind (fun v1037 => j902 v1037)
instance i60 (N : Nat) (x1 : Int) (x2 : ByteArray) : Sem Tryz.prog 228 (spec_SumMore N x1 x2) [.c (.i .u32 x1),VS x2] 0 [] (fun r => .c (.i .u32 r)) (fun r => []) := .st e e Tryz.call228 fun B r => .j e (fun v902 => [(0,.c (.i .u32 v902))]) (fun v902 => []) (fun _ => .L2 e (fun x903 x905 => [(0,.c (.i .u32 x903)),(1,VS x2),(5,VI x905)]) (fun x903 x905 => []) (.k [0,1,5] []) fun _ x903 x905 _ hk1037 => .q e (.a e e (.j e (fun v1105 => [(0,.c (.i .u32 v1105)),(1,VS x2),(5,VI x905)]) (fun v1105 => []) (fun _ => .B fun _ hx1112 => .st e (Ev.ixS e e hx1112) e (.B fun _ hx1113 => .st e (.bin e e hx1113) e (.L2 e (fun x1114 x1117 => [(0,.c (.i .u32 x1114)),(1,VS x2),(5,VI x905),(6,VI x1117)]) (fun x1114 x1117 => []) (.k [0,1,5,6] []) fun _ x1114 x1117 _ hk1143 => .q e (.a e e (.j e (fun v1158 => [(0,.c (.i .u32 v1158)),(1,VS x2),(5,VI x905),(6,VI x1117)]) (fun v1158 => []) (fun _ => .B fun _ hx1162 => .st e (.bin e e hx1162) e (.B fun _ hx1166 => .st e (.bin e e hx1166) e (.a e e (.B fun _ hx1169 => .st e (.bin e e hx1169) e (.J e (.k [0,1,5,6] []))) (.J e (.k [0,1,5,6] []))))) fun v1158 => .R e (fun h => ⟨_,_,h,e,e⟩) (.k [0,1,5,6] [])) (.X hk1143 e e (.n e (.J e (.k [0,1,5] [])))))))) fun v1105 => .R e (fun h => ⟨_,_,h,e,e⟩) (.k [0,1,5] [])) (.X hk1037 e e (.n e (.J e (.k [0] [])))))) fun v902 => .Ek [] e e e
def spec_SumOf (N : Nat) (x1 : ByteArray) : Option (Int) :=
 (spec_SumMore N 4294967295 x1).bind fun y103 =>
 some y103
instance i61 (N : Nat) (x1 : ByteArray) : Sem Tryz.prog 175 (spec_SumOf N x1) [VS x1] 0 [] (fun r => .c (.i .u32 r)) (fun r => []) := .st e e Tryz.call175 fun B r => .c0 e i q fun _ _ => .Ek [] e e e
def spec_l02Four (N : Nat) (x1 : Int) : Option (ByteArray) :=
 (intSh .shr .u32 x1 24).bind fun x109 =>
 (intSh .shr .u32 x1 16).bind fun x110 =>
 (intSh .shr .u32 x1 8).bind fun x111 =>
 some (strOf ([IntKind.wrap .u8 (x109),IntKind.wrap .u8 (x110),IntKind.wrap .u8 (x111),IntKind.wrap .u8 (x1)] : List Int))
instance i62 (N : Nat) (x1 : Int) : Sem Tryz.prog 174 (spec_l02Four N x1) [.c (.i .u32 x1)] 0 [] (fun r => VS r) (fun r => []) := .st e e Tryz.call174 fun B r => .B fun x109 hx109 => .st e (.sh e e hx109) e (.B fun x110 hx110 => .st e (.sh e e hx110) e (.B fun x111 hx111 => .st e (.sh e e hx111) e (.st e (Ev.bsW (ys := ([IntKind.wrap .u8 (x109),IntKind.wrap .u8 (x110),IntKind.wrap .u8 (x111),IntKind.wrap .u8 (x1)] : List Int)) (f := encU) e (.d4 .nil) e e e e e) e (.st e (.sbC (addsW (f := encU) e e e (fun _ => e))) e (.Ek [] e e e)))))
def spec_Unsealed (N : Nat) (x1 : ByteArray) : Option (ByteArray × Bool) :=
 (if (decide ((w64 ((x1.size : Int) - 4)) < 0)) = true then
 some ((⟨#[]⟩ : ByteArray),false)
 else
 (if (decide ((w64 ((x1.size : Int) - 4)) > 20000)) = true then
 some ((⟨#[]⟩ : ByteArray),false)
 else
 (sdrop? x1 (w64 ((x1.size : Int) - 4))).bind fun x149 =>
 (stake? x1 (w64 ((x1.size : Int) - 4))).bind fun x150 =>
 (spec_SumOf N x150).bind fun y151 =>
 (spec_l02Four N y151).bind fun y152 =>
 (if (!decide (x149 = y152)) = true then
 some ((⟨#[]⟩ : ByteArray),false)
 else
 (stake? x1 (w64 ((x1.size : Int) - 4))).bind fun x155 =>
 some (x155,true))))
instance i63 (N : Nat) (x1 : ByteArray) : Sem Tryz.prog 167 (spec_Unsealed N x1) [VS x1] 0 [] (fun r => .tup [VS r.1,VB r.2]) (fun r => []) := .st e e Tryz.call167 fun B r => .q e (.q e (.a e e (.dn e (.Ek [] e e e)) (.a e e (.dn e (.Ek [] e e e)) (.B fun _ hx149 => .st e (Ev.ssL e e hx149) e (.B fun _ hx150 => .st e (Ev.ssH e e hx150) e (.c0 e i q fun _ _ => .c0 e i q fun _ _ => .dn e (.a e e (.Ek [] e e e) (.B fun _ hx155 => .st e (Ev.ssH e e hx155) e (.Ek [] e e e)))))))))
def spec_l01Var_l1 (N : Nat) : Nat → Int → (List Int) → Option (Int × (List Int))
 | 0,_,_ => none
 | m + 1,x188,x189 =>
 (if (decide (x188 > 127)) = true then
 (intD .rem .i64 x188 128).bind fun x212 =>
 (cat? x189 ([IntKind.wrap .u8 (w64 (x212 + 128))] : List Int)).bind fun x213 =>
 (intD .quo .i64 x188 128).bind fun x215 =>
 spec_l01Var_l1 N m x215 x213
 else
 some (x188,x189))
def spec_l01Var (N : Nat) (x1 : Int) : Option (ByteArray) :=
 joinP (fun (v187 : Int × (List Int)) =>
 (cat? v187.2 ([IntKind.wrap .u8 (v187.1)] : List Int)).bind fun x217 =>
 some (strOf x217)) fun j187 =>
 (spec_l01Var_l1 N N x1 ([] : List Int)).bind (fun v202 => j187 (v202.1,v202.2))
instance i64 (N : Nat) (x1 : Int) : Sem Tryz.prog 172 (spec_l01Var N x1) [VI x1] 0 [] (fun r => VS r) (fun r => []) := .st e e Tryz.call172 fun B r => .st e (Ev.bsW (ys := ([] : List Int)) (f := encU) e .nil e e e e e) e (.j e (fun v187 => [(0,VI v187.1),(3,.sl 0 5 0 v187.2.length)]) (fun v187 => [(0,.vec 5 (v187.2.map encU))]) (fun _ => .L2 e (fun x188 x189 => [(0,VI x188),(3,.sl 0 5 0 x189.length)]) (fun x188 x189 => [(0,.vec 5 (x189.map encU))]) (.k [0,3] [5096]) fun _ x188 x189 _ hk202 => .q e (.a e e (.B fun x212 hx212 => .st e (.bin e e hx212) e (.st e (Ev.bsW (ys := ([IntKind.wrap .u8 (w64 (x212 + 128))] : List Int)) (f := encU) e (.d1 .nil) e e e e e) e (.B fun _ hx213 => .st e (Ev.apW (f := encU) (ontoW e e e) (addsW e e e (fun _ => e)) e bt5 e hx213) e (.B fun _ hx215 => .st e (.bin e e hx215) e (.R e (fun h => ⟨_,_,h,e,e⟩) (.k [0,3] [13384])))))) (.X hk202 e e (.n e (.J e (.k [0,3] [0])))))) fun v187 => .st e (Ev.bsW (ys := ([IntKind.wrap .u8 (v187.1)] : List Int)) (f := encU) e (.d1 .nil) e e e e e) e (.B fun _ hx217 => .st e (Ev.apW (f := encU) (ontoW e e e) (addsW e e e (fun _ => e)) e bt5 e hx217) e (.st e (.sbC (addsW (f := encU) e e e (fun _ => e))) e (.Ek [] e e e))))
def spec_ReadVar_l1 (N : Nat) (x1 : ByteArray) (x2 : Int) : Nat → Int → Int → Int → Option ((Int × Int × Bool) ⊕ (Unit))
 | 0,_,_,_ => none
 | m + 1,x476,x477,x478 =>
 (if (decide (x478 < (x1.size : Int))) = true then
 (if (decide (x478 < (w64 (x2 + 5)))) = true then
 (sat? x1 x478).bind fun x575 =>
 (intD .rem .i64 (w64 (x575)) 128).bind fun x576 =>
 (sat? x1 x478).bind fun x578 =>
 (if (decide (x578 < 128)) = true then
 (if (decide ((w64 (x476 + (w64 (x576 * x477)))) > 1000000000)) = true then
 some (Sum.inl (0,0,false))
 else
 (spec_l01Var N (w64 (x476 + (w64 (x576 * x477))))).bind fun y591 =>
 (scut? x1 x2 (w64 (x478 + 1))).bind fun x592 =>
 (if (!decide (y591 = x592)) = true then
 some (Sum.inl (0,0,false))
 else
 some (Sum.inl (w64 (x476 + (w64 (x576 * x477))),w64 (x478 + 1),true))))
 else
 spec_ReadVar_l1 N x1 x2 m (w64 (x476 + (w64 (x576 * x477)))) (w64 (x477 * 128)) (w64 (x478 + 1)))
 else
 some (Sum.inr ()))
 else
 some (Sum.inr ()))
def spec_ReadVar (N : Nat) (x1 : ByteArray) (x2 : Int) : Option (Int × Int × Bool) :=
 (spec_l01In N x2 0 (x1.size : Int)).bind fun y351 =>
 (if (!y351) = true then
 some (0,0,false)
 else
 joinP (fun (v473 : Unit) =>
 some (0,0,false)) fun j473 =>
 (spec_ReadVar_l1 N x1 x2 N 0 1 x2).bind (Sum.elim (fun v535 => some v535) (fun (v536 : Unit) => j473 ())))
instance i65 (N : Nat) (x1 : ByteArray) (x2 : Int) : Sem Tryz.prog 224 (spec_ReadVar N x1 x2) [VS x1,VI x2] 0 [] (fun r => .tup [VI r.1,VI r.2.1,VB r.2.2]) (fun r => []) := .st e e Tryz.call224 fun B r => .q e (.c0 e i q fun _ _ => .a e e (.Ek [] e e e) (.j e (fun _ => []) (fun _ => []) (fun _ => .L3 e (fun x476 x477 x478 => [(0,VS x1),(1,VI x2),(7,VI x476),(8,VI x477),(9,VI x478)]) (fun x476 x477 x478 => []) (.k [0,1,7,8,9] []) fun _ x476 x477 x478 _ hk536 => .q e (.q e (.a e e (.a e e (.q e (.B fun _ hx575 => .st e (Ev.ixS e e hx575) e (.B fun _ hx576 => .st e (.bin e e hx576) e (.B fun _ hx578 => .st e (Ev.ixS e e hx578) e (.a e e (.q e (.q e (.a e e (.dn e (.Xr hk536 e e (.il (.e e (.Ek [] e e e))))) (.c0 e i q fun _ _ => .B fun _ hx592 => .st e (Ev.ssB e e e hx592) e (.dn e (.a e e (.Xr hk536 e e (.il (.e e (.Ek [] e e e)))) (.Xr hk536 e e (.il (.e e (.Ek [] e e e)))))))))) (.R e (fun h => ⟨_,_,_,h,e,e⟩) (.k [0,1,7,8,9] []))))))) (.X hk536 e e (.ir (.n e (.J e (.k [] [])))))) (.X hk536 e e (.ir (.n e (.J e (.k [] [])))))))) fun _ => .Ek [] e e e))
def spec_l05Var (N : Nat) (x1 : Tl05Cur) : Option (Int × Tl05Cur) :=
 (spec_ReadVar N x1.text x1.at').bind fun y113 =>
 (if x1.bad = true then
 some (0,(Tl05Cur.mk x1.text x1.at' true))
 else
 (if (!y113.2.2) = true then
 some (0,(Tl05Cur.mk x1.text x1.at' true))
 else
 some (y113.1,(Tl05Cur.mk x1.text y113.2.1 x1.bad))))
instance i66 (N : Nat) (x1 : Tl05Cur) : Sem Tryz.prog 168 (spec_l05Var N x1) [.ptr 0 0] 1 [(0,.box [VS x1.text,VI x1.at',VB x1.bad])] (fun r => VI r.1) (fun r => [(0,.box [VS r.2.text,VI r.2.at',VB r.2.bad])]) := .st e e Tryz.call168 fun B r => .c0 e i q fun _ _ => .dn e (.q e (.q e (.a e e (.Ek [0] e e e) (.a e e (.Ek [0] e e e) (.Ek [0] e e e)))))
def spec_l07Rise_l1 (N : Nat) (x1 : (List Int)) (x2 : Int) (x3 : Int) : Nat → Int → Option ((Bool) ⊕ (Unit))
 | 0,_ => none
 | m + 1,x300 =>
 (if (decide (x300 < (x1.length : Int))) = true then
 joinP (fun (v348 : Unit) =>
 spec_l07Rise_l1 N x1 x2 x3 m (w64 (x300 + 1))) fun j348 =>
 (at? x1 x300).bind fun x355 =>
 (spec_l01In N x355 x2 x3).bind fun y356 =>
 (if (!y356) = true then
 some (Sum.inl false)
 else
 (if (decide (x300 > 0)) = true then
 (at? x1 (w64 (x300 - 1))).bind fun x359 =>
 (at? x1 x300).bind fun x360 =>
 (if (decide (x359 ≥ x360)) = true then
 some (Sum.inl false)
 else
 j348 ())
 else
 j348 ()))
 else
 some (Sum.inr ()))
def spec_l07Rise_l1_r (N : Nat) (x1 : (List Int)) (x2 : Int) (x3 : Int) : (List Int) → Int → Option ((Bool) ⊕ (Unit))
 | [],x300 =>
 some (Sum.inr ())
 | hd :: tl,x300 =>
 joinP (fun (v348 : Unit) =>
 spec_l07Rise_l1_r N x1 x2 x3 tl (w64 (x300 + 1))) fun j348 =>
 (some hd).bind fun x355 =>
 (spec_l01In N x355 x2 x3).bind fun y356 =>
 (if (!y356) = true then
 some (Sum.inl false)
 else
 (if (decide (x300 > 0)) = true then
 (at? x1 (w64 (x300 - 1))).bind fun x359 =>
 (some hd).bind fun x360 =>
 (if (decide (x359 ≥ x360)) = true then
 some (Sum.inl false)
 else
 j348 ())
 else
 j348 ()))
theorem spec_l07Rise_l1_rng (N : Nat) (x1 : (List Int)) (x2 : Int) (x3 : Int) (hx : x1.length ≤ 1099511627776) : ∀ (d k m : Nat),x1.length = k + d → d < m → spec_l07Rise_l1 N x1 x2 x3 m (k : Int) = spec_l07Rise_l1_r N x1 x2 x3 (x1.drop k) (k : Int) := by
 intro d
 induction d with
 | zero =>
  intro k m hd hm
  obtain ⟨m,rfl⟩ : ∃ q,m = q + 1 := ⟨m - 1,by omega⟩
  rw [spec_l07Rise_l1,if_neg (by simp; omega),List.drop_eq_nil_of_le (by omega),spec_l07Rise_l1_r]
 | succ d ih =>
  intro k m hd hm
  obtain ⟨m,rfl⟩ : ∃ q,m = q + 1 := ⟨m - 1,by omega⟩
  have hk : k < x1.length := by omega
  rw [spec_l07Rise_l1,if_pos (by simp; omega),List.drop_eq_getElem_cons hk,spec_l07Rise_l1_r]
  have h1 := at_lt hk
  have h2 := w64_succ (k := k) (by omega)
  have h3 := ih (k + 1) m
  simp only [h1,h2,h3 (by omega) (by omega)]
theorem spec_l07Rise_l1_eq {N : Nat} (x1 : (List Int)) (x2 : Int) (x3 : Int) (hx : x1.length ≤ 1099511627776) (hN : x1.length < N) : spec_l07Rise_l1 N x1 x2 x3 N 0 = spec_l07Rise_l1_r N x1 x2 x3 x1 0 := spec_l07Rise_l1_rng N x1 x2 x3 hx x1.length 0 N (by omega) hN
def spec_l07Rise (N : Nat) (x1 : (List Int)) (x2 : Int) (x3 : Int) : Option (Bool) :=
 joinP (fun (v296 : Unit) =>
 some true) fun j296 =>
 (spec_l07Rise_l1 N x1 x2 x3 N 0).bind (Sum.elim (fun v330 => some v330) (fun (v331 : Unit) => j296 ()))
instance i67 (N : Nat) (x1 : (List Int)) (x2 : Int) (x3 : Int) : Sem Tryz.prog 258 (spec_l07Rise N x1 x2 x3) [RO 3 (x1.map encI),VI x2,VI x3] 0 [] (fun r => VB r) (fun r => []) := .st e e Tryz.call258 fun B r => .j e (fun _ => []) (fun _ => []) (fun _ => .L1 e (fun x300 => [(0,RO 3 (x1.map encI)),(1,VI x2),(2,VI x3),(7,VI x300)]) (fun x300 => []) (.k [0,1,2,7] []) fun _ x300 _ hk331 => .q e (.st e (Ev.lnF e) e (.a e e (.j e (fun _ => [(0,RO 3 (x1.map encI)),(1,VI x2),(2,VI x3),(7,VI x300)]) (fun _ => []) (fun _ => .q e (.B fun _ hx355 => .st e (Ev.iaF e e hx355) e (.c0 e i q fun _ _ => .a e e (.dn e (.Xr hk331 e e (.il (.e e (.Ek [] e e e))))) (.a e e (.B fun _ hx359 => .st e (Ev.iaF e e hx359) e (.B fun _ hx360 => .st e (Ev.iaF e e hx360) e (.dn e (.a e e (.Xr hk331 e e (.il (.e e (.Ek [] e e e)))) (.J e (.k [0,1,2,7] [])))))) (.dn e (.J e (.k [0,1,2,7] []))))))) fun _ => .R e (fun h => ⟨_,h,e,e⟩) (.k [0,1,2,7] [])) (.X hk331 e e (.ir (.n e (.J e (.k [] [])))))))) fun _ => .Ek [] e e e
def spec_ConfOk (N : Nat) (x1 : (List Int)) : Option (Bool) :=
 (spec_l01In N (x1.length : Int) 1 4).bind fun y109 =>
 (if y109 = true then
 (spec_l07Rise N x1 1 4).bind fun y111 =>
 some y111
 else
 some false)
instance i68 (N : Nat) (x1 : (List Int)) : Sem Tryz.prog 259 (spec_ConfOk N x1) [RO 3 (x1.map encI)] 0 [] (fun r => VB r) (fun r => []) := .st e e Tryz.call259 fun B r => .q e (.st e (Ev.lnF e) e (.c0 e i q fun _ _ => .a e e (.c0 e i q fun _ _ => .Ek [] e e e) (.Ek [] e e e)))
def spec_ManifestOk (N : Nat) (x1 : Manifest) : Option (Bool) :=
 (spec_l01In N (x1.Segs.length : Int) 1 8).bind fun y133 =>
 (if y133 = true then
 (spec_l01In N x1.Next 0 1000).bind fun y135 =>
 (if y135 = true then
 (spec_l07Rise N x1.Segs 0 (w64 (x1.Next - 1))).bind fun y137 =>
 (if y137 = true then
 (spec_l01In N x1.Base 0 100000).bind fun y139 =>
 (if y139 = true then
 (spec_l01In N x1.BaseTerm 0 100000).bind fun y141 =>
 (if y141 = true then
 (spec_ConfOk N x1.Conf).bind fun y143 =>
 some y143
 else
 some false)
 else
 some false)
 else
 some false)
 else
 some false)
 else
 some false)
instance i69 (N : Nat) (x1 : Manifest) : Sem Tryz.prog 225 (spec_ManifestOk N x1) [.agg [RO 3 (x1.Segs.map encI),VI x1.Next,VI x1.Base,VI x1.BaseTerm,RO 3 (x1.Conf.map encI)]] 0 [] (fun r => VB r) (fun r => []) := .st e e Tryz.call225 fun B r => .q e (.st e (Ev.lnF e) e (.c0 e i q fun _ _ => .a e e (.c0 e i q fun _ _ => .a e e (.c0 e i q fun _ _ => .a e e (.c0 e i q fun _ _ => .a e e (.c0 e i q fun _ _ => .a e e (.c0 e i q fun _ _ => .Ek [] e e e) (.Ek [] e e e)) (.Ek [] e e e)) (.Ek [] e e e)) (.Ek [] e e e)) (.Ek [] e e e)))
def spec_Sealed (N : Nat) (x1 : ByteArray) : Option (ByteArray × Bool) :=
 (if (decide ((x1.size : Int) > 20000)) = true then
 some ((⟨#[]⟩ : ByteArray),false)
 else
 (spec_SumOf N x1).bind fun y113 =>
 (spec_l02Four N y113).bind fun y114 =>
 (scat? x1 y114).bind fun x115 =>
 some (x115,true))
instance i70 (N : Nat) (x1 : ByteArray) : Sem Tryz.prog 226 (spec_Sealed N x1) [VS x1] 0 [] (fun r => .tup [VS r.1,VB r.2]) (fun r => []) := .st e e Tryz.call226 fun B r => .q e (.a e e (.Ek [] e e e) (.c0 e i q fun _ _ => .c0 e i q fun _ _ => .B fun _ hx115 => .st e (Ev.addS e e hx115) e (.Ek [] e e e)))
def spec_ManifestText_l1 (N : Nat) (x1 : Manifest) : Nat → ByteArray → Int → Option (ByteArray)
 | 0,_,_ => none
 | m + 1,x342,x343 =>
 (if (decide (x343 < (x1.Segs.length : Int))) = true then
 (at? x1.Segs x343).bind fun x376 =>
 (spec_l01Var N x376).bind fun y377 =>
 (scat? x342 y377).bind fun x378 =>
 spec_ManifestText_l1 N x1 m x378 (w64 (x343 + 1))
 else
 some x342)
def spec_ManifestText_l2 (N : Nat) (x1 : Manifest) : Nat → ByteArray → Int → Option (ByteArray)
 | 0,_,_ => none
 | m + 1,x449,x450 =>
 (if (decide (x450 < (x1.Conf.length : Int))) = true then
 (at? x1.Conf x450).bind fun x483 =>
 (spec_l01Var N x483).bind fun y484 =>
 (scat? x449 y484).bind fun x485 =>
 spec_ManifestText_l2 N x1 m x485 (w64 (x450 + 1))
 else
 some x449)
def spec_ManifestText (N : Nat) (x1 : Manifest) : Option (ByteArray × Bool) :=
 (spec_ManifestOk N x1).bind fun y298 =>
 (if (!y298) = true then
 some ((⟨#[]⟩ : ByteArray),false)
 else
 (spec_l01Var N (x1.Segs.length : Int)).bind fun y303 =>
 joinP (fun (v341 : ByteArray) =>
 (spec_l01Var N x1.Next).bind fun y403 =>
 (scat? v341 y403).bind fun x404 =>
 (spec_l01Var N x1.Base).bind fun y405 =>
 (scat? x404 y405).bind fun x406 =>
 (spec_l01Var N x1.BaseTerm).bind fun y407 =>
 (scat? x406 y407).bind fun x408 =>
 (spec_l01Var N (x1.Conf.length : Int)).bind fun y409 =>
 (scat? x408 y409).bind fun x410 =>
 joinP (fun (v448 : ByteArray) =>
 (spec_Sealed N v448).bind fun y487 =>
 some (y487.1,y487.2)) fun j448 =>
 (spec_ManifestText_l2 N x1 N x410 0).bind (fun v470 => j448 v470)) fun j341 =>
 (spec_ManifestText_l1 N x1 N y303 0).bind (fun v363 => j341 v363))
instance i71 (N : Nat) (x1 : Manifest) : Sem Tryz.prog 169 (spec_ManifestText N x1) [.agg [RO 3 (x1.Segs.map encI),VI x1.Next,VI x1.Base,VI x1.BaseTerm,RO 3 (x1.Conf.map encI)]] 0 [] (fun r => .tup [VS r.1,VB r.2]) (fun r => []) := .st e e Tryz.call169 fun B r => .q e (.c0 e i q fun _ _ => .a e e (.Ek [] e e e) (.st e (Ev.lnF e) e (.c0 e i q fun _ _ => .j e (fun v341 => [(1,.ptr 0 0),(4,VS v341)]) (fun v341 => [(0,.box [RO 3 (x1.Segs.map encI),VI x1.Next,VI x1.Base,VI x1.BaseTerm,RO 3 (x1.Conf.map encI)])]) (fun _ => .L2 e (fun x342 x343 => [(1,.ptr 0 0),(4,VS x342),(5,VI x343)]) (fun x342 x343 => [(0,.box [RO 3 (x1.Segs.map encI),VI x1.Next,VI x1.Base,VI x1.BaseTerm,RO 3 (x1.Conf.map encI)])]) (.k [1,4,5] [1000]) fun _ x342 x343 _ hk363 => .q e (.st e (Ev.lnF e) e (.a e e (.B fun _ hx376 => .st e (Ev.iaF e e hx376) e (.c0 e i q fun _ _ => .B fun _ hx378 => .st e (Ev.addS e e hx378) e (.R e (fun h => ⟨_,_,h,e,e⟩) (.k [1,4,5] [0])))) (.X hk363 e e (.n e (.J e (.k [1,4] [0]))))))) fun v341 => .c0 e i q fun _ _ => .B fun _ hx404 => .st e (Ev.addS e e hx404) e (.c0 e i q fun _ _ => .B fun _ hx406 => .st e (Ev.addS e e hx406) e (.c0 e i q fun _ _ => .B fun _ hx408 => .st e (Ev.addS e e hx408) e (.st e (Ev.lnF e) e (.c0 e i q fun _ _ => .B fun _ hx410 => .st e (Ev.addS e e hx410) e (.dn e (.j e (fun v448 => [(4,VS v448)]) (fun v448 => []) (fun _ => .L2 e (fun x449 x450 => [(1,.ptr 0 0),(4,VS x449),(6,VI x450)]) (fun x449 x450 => [(0,.box [RO 3 (x1.Segs.map encI),VI x1.Next,VI x1.Base,VI x1.BaseTerm,RO 3 (x1.Conf.map encI)])]) (.k [1,4,6] [0]) fun _ x449 x450 _ hk470 => .q e (.st e (Ev.lnF e) e (.a e e (.B fun _ hx483 => .st e (Ev.iaF e e hx483) e (.c0 e i q fun _ _ => .B fun _ hx485 => .st e (Ev.addS e e hx485) e (.R e (fun h => ⟨_,_,h,e,e⟩) (.k [1,4,6] [0])))) (.X hk470 e e (.n e (.J e (.k [4] []))))))) fun v448 => .c0 e i q fun _ _ => .Ek [] e e e)))))))))
def spec_ReadManifest_l1 (N : Nat) (y363 : Int × Tl05Cur) : Nat → Int → ByteArray → Int → Bool → (List Int) → Option (ByteArray × Int × Bool × (List Int))
 | 0,_,_,_,_,_ => none
 | m + 1,x421,x425,x426,x427,x433 =>
 (if (decide (x421 < y363.1)) = true then
 (if (!x427) = true then
 (if (decide (x421 ≤ 8)) = true then
 (spec_l05Var N (Tl05Cur.mk x425 x426 x427)).bind fun y471 =>
 (cat? x433 ([y471.1] : List Int)).bind fun x472 =>
 spec_ReadManifest_l1 N y363 m (w64 (x421 + 1)) y471.2.text y471.2.at' y471.2.bad x472
 else
 some (x425,x426,x427,x433))
 else
 some (x425,x426,x427,x433))
 else
 some (x425,x426,x427,x433))
def spec_ReadManifest_l2 (N : Nat) (y488 : Int × Tl05Cur) : Nat → Int → ByteArray → Int → Bool → (List Int) → Option (ByteArray × Int × Bool × (List Int))
 | 0,_,_,_,_,_ => none
 | m + 1,x546,x550,x551,x552,x559 =>
 (if (decide (x546 < y488.1)) = true then
 (if (!x552) = true then
 (if (decide (x546 ≤ 4)) = true then
 (spec_l05Var N (Tl05Cur.mk x550 x551 x552)).bind fun y596 =>
 (cat? x559 ([y596.1] : List Int)).bind fun x597 =>
 spec_ReadManifest_l2 N y488 m (w64 (x546 + 1)) y596.2.text y596.2.at' y596.2.bad x597
 else
 some (x550,x551,x552,x559))
 else
 some (x550,x551,x552,x559))
 else
 some (x550,x551,x552,x559))
def spec_ReadManifest (N : Nat) (x1 : ByteArray) : Option (Manifest × Bool) :=
 (spec_Unsealed N x1).bind fun y359 =>
 (spec_l05Var N (Tl05Cur.mk y359.1 0 (!y359.2))).bind fun y363 =>
 joinP (fun (v418 : ByteArray × Int × Bool × (List Int)) =>
 (spec_l05Var N (Tl05Cur.mk v418.1 v418.2.1 v418.2.2.1)).bind fun y476 =>
 (spec_l05Var N y476.2).bind fun y480 =>
 (spec_l05Var N y480.2).bind fun y484 =>
 (spec_l05Var N y484.2).bind fun y488 =>
 joinP (fun (v543 : ByteArray × Int × Bool × (List Int)) =>
 (spec_ManifestText N (Manifest.mk v418.2.2.2 y476.1 y480.1 y484.1 v543.2.2.2)).bind fun y601 =>
 (if v543.2.2.1 = true then
 some ((Manifest.mk ([]) 0 0 0 ([])),false)
 else
 (if (!y601.2) = true then
 some ((Manifest.mk ([]) 0 0 0 ([])),false)
 else
 (if (!decide (y601.1 = x1)) = true then
 some ((Manifest.mk ([]) 0 0 0 ([])),false)
 else
 some ((Manifest.mk v418.2.2.2 y476.1 y480.1 y484.1 v543.2.2.2),true))))) fun j543 =>
 (spec_ReadManifest_l2 N y488 N 0 y488.2.text y488.2.at' y488.2.bad ([] : (List Int))).bind (fun v578 => j543 (v578.1,v578.2.1,v578.2.2.1,v578.2.2.2))) fun j418 =>
 (spec_ReadManifest_l1 N y363 N 0 y363.2.text y363.2.at' y363.2.bad ([] : (List Int))).bind (fun v453 => j418 (v453.1,v453.2.1,v453.2.2.1,v453.2.2.2))
instance i72 (N : Nat) (x1 : ByteArray) : Sem Tryz.prog 108 (spec_ReadManifest N x1) [VS x1] 0 [] (fun r => .tup [.agg [.sl 0 3 0 r.1.Segs.length,VI r.1.Next,VI r.1.Base,VI r.1.BaseTerm,.sl 1 3 0 r.1.Conf.length],VB r.2]) (fun r => [(0,.vec 3 (r.1.Segs.map encI)),(1,.vec 3 (r.1.Conf.map encI))]) := .st e e Tryz.call108 fun B r => .c0 e i q fun _ _ => .f [9256] [] 0 e i q fun y363 _ => .j e (fun v418 => [(0,VS x1),(2,.ptr 0 0),(6,.ptr 1 0),(7,.ptr 2 0)]) (fun v418 => [(0,.box [.sl 3 3 0 (([] : (List Int)).length),VI 0,VI 0,VI 0,.sl 4 3 0 (([] : (List Int)).length)]),(1,.box [VS v418.1,VI v418.2.1,VB v418.2.2.1]),(2,.box [.sl 5 3 0 v418.2.2.2.length,VI 0,VI 0,VI 0,.sl 6 3 0 (([] : (List Int)).length)]),(3,.vec 3 (([] : (List Int)).map encI)),(4,.vec 3 (([] : (List Int)).map encI)),(5,.vec 3 (v418.2.2.2.map encI)),(6,.vec 3 (([] : (List Int)).map encI))]) (fun _ => .L5 e (fun x421 x425 x426 x427 x433 => [(0,VS x1),(2,.ptr 0 0),(6,.ptr 1 0),(7,.ptr 2 0),(8,VI y363.1),(9,VI x421)]) (fun x421 x425 x426 x427 x433 => [(0,.box [.sl 3 3 0 (([] : (List Int)).length),VI 0,VI 0,VI 0,.sl 4 3 0 (([] : (List Int)).length)]),(1,.box [VS x425,VI x426,VB x427]),(2,.box [.sl 5 3 0 x433.length,VI 0,VI 0,VI 0,.sl 6 3 0 (([] : (List Int)).length)]),(3,.vec 3 (([] : (List Int)).map encI)),(4,.vec 3 (([] : (List Int)).map encI)),(5,.vec 3 (x433.map encI)),(6,.vec 3 (([] : (List Int)).map encI))]) (.n [0,2,6,7,8,9] [1000,9256,13304] [] [1000,13304] [1000,9256,13304,20000000,20000001,20000064,20000065]) fun _ x421 x425 x426 x427 x433 _ hk453 => .q e (.q e (.a e e (.a e e (.a e e (.f [1] [] 0 e i q fun y471 _ => .st e (Ev.bsW (ys := ([y471.1] : List Int)) (f := encI) e (.d1 .nil) e e e e e) e (.B fun _ hx472 => .st e (Ev.apW (f := encI) (ontoW e e e) (addsW e e e (fun _ => e)) e bt3 e hx472) e (.dn e (.R e (fun h => ⟨_,_,_,_,_,h,e,e⟩) (.k [0,2,6,7,8,9] [0,1,2,3,4,33848,6]))))) (.X hk453 e e (.n e (.J e (.k [0,2,6,7] [0,1,2,3,4,5,6]))))) (.X hk453 e e (.n e (.J e (.k [0,2,6,7] [0,1,2,3,4,5,6]))))) (.X hk453 e e (.n e (.J e (.k [0,2,6,7] [0,1,2,3,4,5,6]))))))) fun v418 => .f [1] [] 0 e i q fun y476 _ => .f [1] [] 0 e i q fun y480 _ => .f [1] [] 0 e i q fun y484 _ => .f [1] [] 0 e i q fun y488 _ => .j e (fun v543 => [(0,VS x1),(2,.ptr 0 0),(6,.ptr 1 0),(7,.ptr 2 0)]) (fun v543 => [(0,.box [.sl 3 3 0 (([] : (List Int)).length),VI 0,VI 0,VI 0,.sl 4 3 0 (([] : (List Int)).length)]),(1,.box [VS v543.1,VI v543.2.1,VB v543.2.2.1]),(2,.box [.sl 5 3 0 v418.2.2.2.length,VI y476.1,VI y480.1,VI y484.1,.sl 6 3 0 v543.2.2.2.length]),(3,.vec 3 (([] : (List Int)).map encI)),(4,.vec 3 (([] : (List Int)).map encI)),(5,.vec 3 (v418.2.2.2.map encI)),(6,.vec 3 (v543.2.2.2.map encI))]) (fun _ => .L5 e (fun x546 x550 x551 x552 x559 => [(0,VS x1),(2,.ptr 0 0),(6,.ptr 1 0),(7,.ptr 2 0),(8,VI y488.1),(10,VI x546)]) (fun x546 x550 x551 x552 x559 => [(0,.box [.sl 3 3 0 (([] : (List Int)).length),VI 0,VI 0,VI 0,.sl 4 3 0 (([] : (List Int)).length)]),(1,.box [VS x550,VI x551,VB x552]),(2,.box [.sl 5 3 0 v418.2.2.2.length,VI y476.1,VI y480.1,VI y484.1,.sl 6 3 0 x559.length]),(3,.vec 3 (([] : (List Int)).map encI)),(4,.vec 3 (([] : (List Int)).map encI)),(5,.vec 3 (v418.2.2.2.map encI)),(6,.vec 3 (x559.map encI))]) (.k [0,2,6,7,8,10] [0,1,2,3,4,5,6]) fun _ x546 x550 x551 x552 x559 _ hk578 => .q e (.q e (.a e e (.a e e (.a e e (.f [1] [] 0 e i q fun y596 _ => .st e (Ev.bsW (ys := ([y596.1] : List Int)) (f := encI) e (.d1 .nil) e e e e e) e (.B fun _ hx597 => .st e (Ev.apW (f := encI) (ontoW e e e) (addsW e e e (fun _ => e)) e bt3 e hx597) e (.dn e (.R e (fun h => ⟨_,_,_,_,_,h,e,e⟩) (.k [0,2,6,7,8,10] [0,1,2,3,4,5,66616]))))) (.X hk578 e e (.n e (.J e (.k [0,2,6,7] [0,1,2,3,4,5,6]))))) (.X hk578 e e (.n e (.J e (.k [0,2,6,7] [0,1,2,3,4,5,6]))))) (.X hk578 e e (.n e (.J e (.k [0,2,6,7] [0,1,2,3,4,5,6]))))))) fun v543 => .f (hp := (.cons (.agg (.cons (.borrow e (by decide) (lendW (fun _ => e) _ e)) (.d2 (.d1 (.cons (.borrow e (by decide) (lendW (fun _ => e) _ e)) .nil))))) .nil)) (hcase := fun _ => (.inr ⟨rfl,ownL_root trivial⟩)) [] [5,6] 0 e i q fun _ _ => .q e (.q e (.a e e (.E e e (.n [0,1] [] [0] [] [10000000,10000001])) (.a e e (.E e e (.n [0,1] [] [0] [] [10000000,10000001])) (.a e e (.E e e (.n [0,1] [] [0] [] [10000000,10000001])) (.Ek [5,6] e e e)))))
def spec_l01Figure (N : Nat) (x1 : Int) : Option (Int) :=
 (if (decide (x1 < 10)) = true then
 some (IntKind.wrap .u8 (w64 (48 + x1)))
 else
 some (IntKind.wrap .u8 (w64 ((w64 (97 + x1)) - 10))))
instance i73 (N : Nat) (x1 : Int) : Sem Tryz.prog 176 (spec_l01Figure N x1) [VI x1] 0 [] (fun r => .c (.i .u8 r)) (fun r => []) := .st e e Tryz.call176 fun B r => .q e (.a e e (.Ek [] e e e) (.Ek [] e e e))
def spec_Decimal_l1 (N : Nat) : Nat → Int → ByteArray → Option (ByteArray)
 | 0,_,_ => none
 | m + 1,x241,x243 =>
 (if (x241 != 0) = true then
 (intD .rem .i64 x241 10).bind fun x270 =>
 joinP (fun (v272 : Int) =>
 (spec_l01Figure N v272).bind fun y280 =>
 (scat? (strOf ([y280] : List Int)) x243).bind fun x281 =>
 (intD .quo .i64 x241 10).bind fun x283 =>
 spec_Decimal_l1 N m x283 x281) fun j272 =>
 (if (decide (x270 < 0)) = true then
 j272 (w64 ((-x270)))
 else
 j272 x270)
 else
 some x243)
def spec_Decimal (N : Nat) (x1 : Int) : Option (ByteArray) :=
 (if (x1 == 0) = true then
 some (⟨#[48]⟩ : ByteArray)
 else
 joinP (fun (v240 : ByteArray) =>
 (if (decide (x1 < 0)) = true then
 (scat? (⟨#[45]⟩ : ByteArray) v240).bind fun x289 =>
 some x289
 else
 some v240)) fun j240 =>
 (spec_Decimal_l1 N N x1 (⟨#[]⟩ : ByteArray)).bind (fun v263 => j240 v263))
instance i74 (N : Nat) (x1 : Int) : Sem Tryz.prog 113 (spec_Decimal N x1) [VI x1] 0 [] (fun r => VS r) (fun r => []) := .st e e Tryz.call113 fun B r => .q e (.a e e (.Ek [] e e e) (.j e (fun v240 => [(3,VB (decide (x1 < 0))),(4,VS v240)]) (fun v240 => []) (fun _ => .L2 e (fun x241 x243 => [(0,VI x241),(3,VB (decide (x1 < 0))),(4,VS x243)]) (fun x241 x243 => []) (.k [0,3,4] []) fun _ x241 x243 _ hk263 => .q e (.a e e (.B fun _ hx270 => .st e (.bin e e hx270) e (.j e (fun v272 => [(0,VI x241),(3,VB (decide (x1 < 0))),(4,VS x243),(5,VI v272)]) (fun v272 => []) (fun _ => .a e e (.J e (.k [0,3,4,5] [])) (.J e (.k [0,3,4,5] []))) fun v272 => .c0 e i q fun y280 _ => .st e (Ev.bsW (ys := ([y280] : List Int)) (f := encU) e (.d1 .nil) e e e e e) e (.st e (.sbC (addsW (f := encU) e e e (fun _ => e))) e (.B fun _ hx281 => .st e (Ev.addS e e hx281) e (.B fun _ hx283 => .st e (.bin e e hx283) e (.R e (fun h => ⟨_,_,h,e,e⟩) (.k [0,3,4] []))))))) (.X hk263 e e (.n e (.J e (.k [3,4] [])))))) fun v240 => .q e (.a e e (.B fun _ hx289 => .st e (Ev.addS e e hx289) e (.Ek [] e e e)) (.Ek [] e e e))))
def spec_SegName (N : Nat) (x1 : Int) : Option (ByteArray) :=
 (spec_l01In N x1 0 999).bind fun y114 =>
 (if (!y114) = true then
 some (⟨#[]⟩ : ByteArray)
 else
 (spec_Decimal N x1).bind fun y118 =>
 (scat? (⟨#[103]⟩ : ByteArray) y118).bind fun x119 =>
 some x119)
instance i75 (N : Nat) (x1 : Int) : Sem Tryz.prog 59 (spec_SegName N x1) [VI x1] 0 [] (fun r => VS r) (fun r => []) := .st e e Tryz.call59 fun B r => .q e (.c0 e i q fun _ _ => .a e e (.Ek [] e e e) (.c0 e i q fun _ _ => .B fun _ hx119 => .st e (Ev.addS e e hx119) e (.Ek [] e e e)))
def spec_l03Text (N : Nat) (x1 : Disk) (x2 : ByteArray) : Option (ByteArray) :=
 (spec_l03At N x1 x2).bind fun y111 =>
 (if (decide (y111 < 0)) = true then
 some (⟨#[]⟩ : ByteArray)
 else
 (at? x1.Files y111).bind fun x115 =>
 some x115.Text)
instance i76 (N : Nat) (x1 : Disk) (x2 : ByteArray) : Sem Tryz.prog 60 (spec_l03Text N x1 x2) [.agg [RO 141 (x1.Files.map encFile)],VS x2] 0 [] (fun r => VS r) (fun r => []) := .st e e Tryz.call60 fun B r => .c0 e i q fun _ _ => .q e (.a e e (.Ek [] e e e) (.B fun _ hx115 => .st e (Ev.iaF e e hx115) e (.Ek [] e e e)))
def spec_Frame (N : Nat) (x1 : ByteArray) : Option (ByteArray × Bool) :=
 (spec_l01In N (x1.size : Int) 1 9000).bind fun y120 =>
 (if (!y120) = true then
 some ((⟨#[]⟩ : ByteArray),false)
 else
 (spec_l01Var N (x1.size : Int)).bind fun y127 =>
 (spec_SumOf N x1).bind fun y128 =>
 (spec_l02Four N y128).bind fun y129 =>
 (scat? y127 y129).bind fun x130 =>
 (scat? x130 x1).bind fun x131 =>
 some (x131,true))
instance i77 (N : Nat) (x1 : ByteArray) : Sem Tryz.prog 110 (spec_Frame N x1) [VS x1] 0 [] (fun r => .tup [VS r.1,VB r.2]) (fun r => []) := .st e e Tryz.call110 fun B r => .q e (.c0 e i q fun _ _ => .a e e (.Ek [] e e e) (.c0 e i q fun _ _ => .c0 e i q fun _ _ => .c0 e i q fun _ _ => .B fun _ hx130 => .st e (Ev.addS e e hx130) e (.B fun _ hx131 => .st e (Ev.addS e e hx131) e (.Ek [] e e e))))
def spec_Unframe_l1 (N : Nat) (x1 : ByteArray) : Nat → Int → (List ByteArray) → Option (((List ByteArray) × Int) ⊕ (Int × (List ByteArray)))
 | 0,_,_ => none
 | m + 1,x329,x330 =>
 (if (decide (x329 < (x1.size : Int))) = true then
 (spec_ReadVar N x1 x329).bind fun y373 =>
 (if (!y373.2.2) = true then
 some (Sum.inl (x330,x329))
 else
 (if (decide (y373.1 > (w64 ((w64 ((x1.size : Int) - y373.2.1)) - 4)))) = true then
 some (Sum.inl (x330,x329))
 else
 (scut? x1 (w64 (y373.2.1 + 4)) (w64 ((w64 (y373.2.1 + 4)) + y373.1))).bind fun x383 =>
 (spec_Frame N x383).bind fun y387 =>
 (if (!y387.2) = true then
 some (Sum.inl (x330,x329))
 else
 (scut? x1 x329 (w64 ((w64 (y373.2.1 + 4)) + y373.1))).bind fun x396 =>
 (if (!decide (y387.1 = x396)) = true then
 some (Sum.inl (x330,x329))
 else
 (cat? x330 ([x383] : List ByteArray)).bind fun x401 =>
 spec_Unframe_l1 N x1 m (w64 ((w64 (y373.2.1 + 4)) + y373.1)) x401))))
 else
 some (Sum.inr (x329,x330)))
def spec_Unframe (N : Nat) (x1 : ByteArray) : Option ((List ByteArray) × Int) :=
 (if (decide ((x1.size : Int) > 20000)) = true then
 some (([] : List ByteArray),0)
 else
 joinP (fun (v327 : Int × (List ByteArray)) =>
 some (v327.2,v327.1)) fun j327 =>
 (spec_Unframe_l1 N x1 N 0 ([] : List ByteArray)).bind (Sum.elim (fun v365 => some v365) (fun (v366 : Int × (List ByteArray)) => j327 (v366.1,v366.2))))
instance i78 (N : Nat) (x1 : ByteArray) : Sem Tryz.prog 170 (spec_Unframe N x1) [VS x1] 0 [] (fun r => .tup [.sl 0 9 0 r.1.length,VI r.2]) (fun r => [(0,.vec 9 (r.1.map encS))]) := .st e e Tryz.call170 fun B r => .st e (Ev.bsW (ys := ([] : List ByteArray)) (f := encS) e .nil e e e e e) e (.q e (.a e e (.Ek [5096] e e e) (.j e (fun v327 => [(4,.sl 0 9 0 v327.2.length),(5,VI v327.1)]) (fun v327 => [(0,.vec 9 (v327.2.map encS))]) (fun _ => .L2 e (fun x329 x330 => [(0,VS x1),(4,.sl 0 9 0 x330.length),(5,VI x329)]) (fun x329 x330 => [(0,.vec 9 (x330.map encS))]) (.k [0,4,5] [5096]) fun _ x329 x330 _ hk366 => .q e (.a e e (.c0 e i q fun _ _ => .q e (.q e (.a e e (.Xr hk366 e e (.il (.e e (.Ek [0] e e e)))) (.a e e (.Xr hk366 e e (.il (.e e (.Ek [0] e e e)))) (.B fun x383 hx383 => .st e (Ev.ssB e e e hx383) e (.c0 e i q fun _ _ => .q e (.q e (.a e e (.Xr hk366 e e (.il (.e e (.Ek [0] e e e)))) (.B fun _ hx396 => .st e (Ev.ssB e e e hx396) e (.a e e (.Xr hk366 e e (.il (.e e (.Ek [0] e e e)))) (.st e (Ev.bsW (ys := ([x383] : List ByteArray)) (f := encS) e (.d1 .nil) e e e e e) e (.B fun _ hx401 => .st e (Ev.apW (f := encS) (ontoW e e e) (addsW e e e (fun _ => e)) e bt9 e hx401) e (.R e (fun h => ⟨_,_,h,e,e⟩) (.k [0,4,5] [54296])))))))))))))) (.X hk366 e e (.ir (.n e (.J e (.k [4,5] [0]))))))) fun v327 => .Ek [0] e e e)))
def spec_l05Take (N : Nat) (x1 : Tl05Cur) (x2 : Int) : Option (ByteArray × Tl05Cur) :=
 (if x1.bad = true then
 some ((⟨#[]⟩ : ByteArray),(Tl05Cur.mk x1.text x1.at' true))
 else
 (if (decide (x2 > (w64 ((x1.text.size : Int) - x1.at')))) = true then
 some ((⟨#[]⟩ : ByteArray),(Tl05Cur.mk x1.text x1.at' true))
 else
 (scut? x1.text (w64 ((w64 (x1.at' + x2)) - x2)) (w64 (x1.at' + x2))).bind fun x115 =>
 some (x115,(Tl05Cur.mk x1.text (w64 (x1.at' + x2)) x1.bad))))
instance i79 (N : Nat) (x1 : Tl05Cur) (x2 : Int) : Sem Tryz.prog 177 (spec_l05Take N x1 x2) [.ptr 0 0,VI x2] 1 [(0,.box [VS x1.text,VI x1.at',VB x1.bad])] (fun r => VS r.1) (fun r => [(0,.box [VS r.2.text,VI r.2.at',VB r.2.bad])]) := .st e e Tryz.call177 fun B r => .q e (.q e (.a e e (.dn e (.Ek [0] e e e)) (.dn e (.a e e (.Ek [0] e e e) (.B fun _ hx115 => .st e (Ev.ssB e e e hx115) e (.dn e (.Ek [0] e e e)))))))
def spec_l05ReadShort (N : Nat) (x1 : Tl05Cur) : Option (ByteArray × Tl05Cur) :=
 (spec_l05Var N x1).bind fun y109 =>
 (spec_l05Take N y109.2 y109.1).bind fun y111 =>
 some (y111.1,y111.2)
instance i80 (N : Nat) (x1 : Tl05Cur) : Sem Tryz.prog 178 (spec_l05ReadShort N x1) [.ptr 0 0] 1 [(0,.box [VS x1.text,VI x1.at',VB x1.bad])] (fun r => VS r.1) (fun r => [(0,.box [VS r.2.text,VI r.2.at',VB r.2.bad])]) := .st e e Tryz.call178 fun B r => .f [0] [] 0 e i q fun _ _ => .f [0] [] 0 e i q fun _ _ => .Ek [0] e e e
def spec_l05Key (N : Nat) (x1 : ByteArray) : Option (Bool) :=
 (spec_l01In N (x1.size : Int) 1 10).bind fun y103 =>
 some y103
instance i81 (N : Nat) (x1 : ByteArray) : Sem Tryz.prog 114 (spec_l05Key N x1) [VS x1] 0 [] (fun r => VB r) (fun r => []) := .st e e Tryz.call114 fun B r => .c0 e i q fun _ _ => .Ek [] e e e
def spec_BatchOk_l1 (N : Nat) (x1 : Batch) : Nat → Int → Option ((Bool) ⊕ (Unit))
 | 0,_ => none
 | m + 1,x446 =>
 (if (decide (x446 < (x1.Changes.length : Int))) = true then
 joinP (fun (v529 : Unit) =>
 spec_BatchOk_l1 N x1 m (w64 (x446 + 1))) fun j529 =>
 (at? x1.Changes x446).bind fun x533 =>
 (spec_l05Key N x533.Key).bind fun y543 =>
 (if (!y543) = true then
 some (Sum.inl false)
 else
 (if (decide (x446 > 0)) = true then
 (at? x1.Changes (w64 (x446 - 1))).bind fun x546 =>
 (if (!Op.bytesLess x546.Key.toList x533.Key.toList) = true then
 some (Sum.inl false)
 else
 (if (decide ((x533.Value.size : Int) > 40)) = true then
 some (Sum.inl false)
 else
 (if x533.Gone = true then
 (if (!decide (x533.Value = (⟨#[]⟩ : ByteArray))) = true then
 some (Sum.inl false)
 else
 j529 ())
 else
 j529 ())))
 else
 (if (decide ((x533.Value.size : Int) > 40)) = true then
 some (Sum.inl false)
 else
 (if x533.Gone = true then
 (if (!decide (x533.Value = (⟨#[]⟩ : ByteArray))) = true then
 some (Sum.inl false)
 else
 j529 ())
 else
 j529 ()))))
 else
 some (Sum.inr ()))
def spec_BatchOk (N : Nat) (x1 : Batch) : Option (Bool) :=
 (spec_l01In N x1.Stamp 0 100000).bind fun y334 =>
 (if (!y334) = true then
 some false
 else
 (if (decide ((x1.Changes.length : Int) > 60)) = true then
 some false
 else
 joinP (fun (v445 : Unit) =>
 some true) fun j445 =>
 (spec_BatchOk_l1 N x1 N 0).bind (Sum.elim (fun v500 => some v500) (fun (v501 : Unit) => j445 ()))))
instance i82 (N : Nat) (x1 : Batch) : Sem Tryz.prog 260 (spec_BatchOk N x1) [.agg [VI x1.Stamp,RO 268 (x1.Changes.map encChange)]] 0 [] (fun r => VB r) (fun r => []) := .st e e Tryz.call260 fun B r => .q e (.q e (.c0 e i q fun _ _ => .a e e (.Ek [] e e e) (.st e (Ev.lnF e) e (.a e e (.Ek [] e e e) (.j e (fun _ => []) (fun _ => []) (fun _ => .L1 e (fun x446 => [(1,.ptr 0 0),(3,VI x446)]) (fun x446 => [(0,.box [VI x1.Stamp,RO 268 (x1.Changes.map encChange)])]) (.k [1,3] [1000]) fun _ x446 _ hk501 => .q e (.st e (Ev.lnF e) e (.a e e (.j e (fun _ => [(1,.ptr 0 0),(3,VI x446)]) (fun _ => [(0,.box [VI x1.Stamp,RO 268 (x1.Changes.map encChange)])]) (fun _ => .B fun _ hx533 => .st e (Ev.iaF e e hx533) e (.q e (.c0 e i q fun _ _ => .a e e (.dn e (.Xr hk501 e e (.il (.e e (.Ek [] e e e))))) (.a e e (.B fun _ hx546 => .st e (Ev.iaF e e hx546) e (.a e e (.dn e (.Xr hk501 e e (.il (.e e (.Ek [] e e e))))) (.a e e (.dn e (.Xr hk501 e e (.il (.e e (.Ek [] e e e))))) (.a e e (.dn e (.a e e (.Xr hk501 e e (.il (.e e (.Ek [] e e e)))) (.J e (.k [1,3] [0])))) (.dn e (.J e (.k [1,3] [0]))))))) (.a e e (.dn e (.Xr hk501 e e (.il (.e e (.Ek [] e e e))))) (.a e e (.dn e (.a e e (.Xr hk501 e e (.il (.e e (.Ek [] e e e)))) (.J e (.k [1,3] [0])))) (.dn e (.J e (.k [1,3] [0]))))))))) fun _ => .R e (fun h => ⟨_,h,e,e⟩) (.k [1,3] [0])) (.X hk501 e e (.ir (.n e (.J e (.k [] [])))))))) fun _ => .Ek [] e e e)))))
end Go.Proofs.YthfjkhlgkjgkjaaGreatDoor.Pe.FnExactFolded
