/- Functions,as pure functions; and that Go does just that. -/
import Derived.Test.YthfjkhlgkjgkjaaGreatDoorPeGo
import Derived.Test.YthfjkhlgkjgkjaaGreatDoorPeSpec
import Derived.Test.YthfjkhlgkjgkjaaGreatDoorShelf
import Derived.Test.YthfjkhlgkjgkjaaGreatDoorPeIns144
import Derived.Test.YthfjkhlgkjgkjaaGreatDoorPeIns145
import Derived.Test.YthfjkhlgkjgkjaaGreatDoorPeIns199
import Derived.Test.YthfjkhlgkjgkjaaGreatDoorPeIns288
import Derived.Test.YthfjkhlgkjgkjaaGreatDoorPeIns289
import Derived.Test.YthfjkhlgkjgkjaaGreatDoorPeSFnExactSound
namespace Go.Proofs.YthfjkhlgkjgkjaaGreatDoor.Pe.FnExactSound
open Go Go.RowKit
set_option linter.unusedVariables false
set_option linter.unusedSimpArgs false
set_option maxHeartbeats 40000000
set_option maxRecDepth 100000
abbrev BA:=ByteArray
theorem DG {α:Type}{l:List α}{i:Nat}(h:i<l.length):l.drop i=l[i]::l.drop (i+1):=List.drop_eq_getElem_cons h
theorem DN {α:Type}{l:List α}{i:Nat}(h:l.length≤i):l.drop i=[]:=List.drop_eq_nil_of_le h
theorem DT {p:Prop}[Decidable p]:(decide p=true)=p:=decide_eq_true_eq
theorem BF:(false=true)=False:=Bool.false_eq_true
theorem BZ {a b:ByteArray}:(a++b).size=a.size+b.size:=ByteArray.size_append
theorem LA {α:Type}{a b:List α}:(a++b).length=a.length+b.length:=List.length_append
theorem LC {α:Type}{a:α}{b:List α}:(a::b).length=b.length+1:=List.length_cons
theorem DF {p:Prop}[h:Decidable p](q:¬p):decide p=false:=decide_eq_false q
theorem DE {p:Prop}[h:Decidable p](q:p):decide p=true:=decide_eq_true q
theorem BN:(!true)=false:=rfl
theorem IP {c:Prop}{h:Decidable c}(hc:c){α:Type}{t e:α}:(if c then t else e)=t:=if_pos hc
theorem IQ {c:Prop}{h:Decidable c}(hc:¬c){α:Type}{t e:α}:(if c then t else e)=e:=if_neg hc
theorem WS {k:Nat}(h:k<9223372036854775807):w64 ((k:Int)+1)=((k+1:Nat):Int):=w64_succ h
instance:HM Tryz.prog:=⟨by kernel_rfl⟩
abbrev JG {R:Type}(f:Nat)(p:Option R)(vs:List V)(m:Nat)(σ:St)(vo:R→V)(σo:R→St):=Sem Tryz.prog f p vs m σ vo σo
abbrev JI (f:Nat)(p:Option Int)(vs:List V):=Sem Tryz.prog f p vs 0 [] (fun r=>VI r) (fun _=>[])
abbrev JB (f:Nat)(p:Option Bool)(vs:List V):=Sem Tryz.prog f p vs 0 [] (fun r=>VB r) (fun _=>[])
abbrev JS (f:Nat)(p:Option BA)(vs:List V):=Sem Tryz.prog f p vs 0 [] (fun r=>VS r) (fun _=>[])
structure Entry where
 Term:Int
 Kind:Int
 Data:BA
abbrev encEntry (x:Entry):List C:=[.i .i64 x.Term,.i .i64 x.Kind,.s x.Data]
structure Log where
 Start:Int
 StartTerm:Int
 Entries:(List Entry)
abbrev encLogL (o:Bool)(x:Log):List C:=[.i .i64 x.Start,.i .i64 x.StartTerm,.row o 126 (x.Entries.map encEntry)]
structure Peer where
 Id:Int
 Next:Int
 Match:Int
 Sent:Int
abbrev encPeer (x:Peer):List C:=[.i .i64 x.Id,.i .i64 x.Next,.i .i64 x.Match,.i .i64 x.Sent]
structure Node where
 Id:Int
 Term:Int
 Vote:Int
 Role:Int
 Lead:Int
 Conf:(List Int)
 Log:Log
 Commit:Int
 Clock:Int
 Limit:Int
 Votes:(List Int)
 Peers:(List Peer)
abbrev encNodeL (o:Bool)(x:Node):List C:=[.i .i64 x.Id,.i .i64 x.Term,.i .i64 x.Vote,.i .i64 x.Role,.i .i64 x.Lead,.row o 3 (x.Conf.map encI),.i .i64 x.Log.Start,.i .i64 x.Log.StartTerm,.row o 126 (x.Log.Entries.map encEntry),.i .i64 x.Commit,.i .i64 x.Clock,.i .i64 x.Limit,.row o 3 (x.Votes.map encI),.row o 329 (x.Peers.map encPeer)]
structure File where
 Name:BA
 Text:BA
abbrev encFile (x:File):List C:=[.s x.Name,.s x.Text]
structure Disk where
 Files:(List File)
abbrev encDiskL (o:Bool)(x:Disk):List C:=[.row o 316 (x.Files.map encFile)]
structure Manifest where
 Segs:(List Int)
 Next:Int
 Base:Int
 BaseTerm:Int
 Conf:(List Int)
abbrev encManifestL (o:Bool)(x:Manifest):List C:=[.row o 3 (x.Segs.map encI),.i .i64 x.Next,.i .i64 x.Base,.i .i64 x.BaseTerm,.row o 3 (x.Conf.map encI)]
structure Spot where
 Key:BA
 Seg:Int
 At:Int
 Size:Int
abbrev encSpot (x:Spot):List C:=[.s x.Key,.i .i64 x.Seg,.i .i64 x.At,.i .i64 x.Size]
structure Shelf where
 Man:Manifest
 Dir:(List Spot)
 Stamp:Int
abbrev encShelfL (o:Bool)(x:Shelf):List C:=[.row o 3 (x.Man.Segs.map encI),.i .i64 x.Man.Next,.i .i64 x.Man.Base,.i .i64 x.Man.BaseTerm,.row o 3 (x.Man.Conf.map encI),.row o 318 (x.Dir.map encSpot),.i .i64 x.Stamp]
structure Server where
 Node:Node
 Disk:Disk
 Shelf:Shelf
 Stage:BA
 StageAt:Int
 StageTerm:Int
abbrev encServerL (o:Bool)(x:Server):List C:=[.i .i64 x.Node.Id,.i .i64 x.Node.Term,.i .i64 x.Node.Vote,.i .i64 x.Node.Role,.i .i64 x.Node.Lead,.row o 3 (x.Node.Conf.map encI),.i .i64 x.Node.Log.Start,.i .i64 x.Node.Log.StartTerm,.row o 126 (x.Node.Log.Entries.map encEntry),.i .i64 x.Node.Commit,.i .i64 x.Node.Clock,.i .i64 x.Node.Limit,.row o 3 (x.Node.Votes.map encI),.row o 329 (x.Node.Peers.map encPeer),.row o 316 (x.Disk.Files.map encFile),.row o 3 (x.Shelf.Man.Segs.map encI),.i .i64 x.Shelf.Man.Next,.i .i64 x.Shelf.Man.Base,.i .i64 x.Shelf.Man.BaseTerm,.row o 3 (x.Shelf.Man.Conf.map encI),.row o 318 (x.Shelf.Dir.map encSpot),.i .i64 x.Shelf.Stamp,.s x.Stage,.i .i64 x.StageAt,.i .i64 x.StageTerm]
structure Message where
 Kind:Int
 From:Int
 To:Int
 Term:Int
 Index:Int
 LogTerm:Int
 Commit:Int
 Ok:Bool
 Entries:(List Entry)
 Conf:(List Int)
 Data:BA
 Last:Bool
abbrev encMessageL (o:Bool)(x:Message):List C:=[.i .i64 x.Kind,.i .i64 x.From,.i .i64 x.To,.i .i64 x.Term,.i .i64 x.Index,.i .i64 x.LogTerm,.i .i64 x.Commit,.b x.Ok,.row o 126 (x.Entries.map encEntry),.row o 3 (x.Conf.map encI),.s x.Data,.b x.Last]
structure Wait where
 Node:Int
 Index:Int
 Term:Int
 Call:Int
abbrev encWait (x:Wait):List C:=[.i .i64 x.Node,.i .i64 x.Index,.i .i64 x.Term,.i .i64 x.Call]
structure Leader where
 Node:Int
 Term:Int
 Log:Log
abbrev encLeaderL (o:Bool)(x:Leader):List C:=[.i .i64 x.Node,.i .i64 x.Term,.i .i64 x.Log.Start,.i .i64 x.Log.StartTerm,.row o 126 (x.Log.Entries.map encEntry)]
structure Applied where
 Node:Int
 Term:Int
 Index:Int
 Entry:Entry
abbrev encApplied (x:Applied):List C:=[.i .i64 x.Node,.i .i64 x.Term,.i .i64 x.Index,.i .i64 x.Entry.Term,.i .i64 x.Entry.Kind,.s x.Entry.Data]
structure Command where
 Op:Int
 Session:Int
 Seq:Int
 Key:BA
 Value:BA
 Old:BA
abbrev encCommand (x:Command):List C:=[.i .i64 x.Op,.i .i64 x.Session,.i .i64 x.Seq,.s x.Key,.s x.Value,.s x.Old]
structure Reply where
 Call:Int
 Index:Int
 Command:Command
 Text:BA
abbrev encReply (x:Reply):List C:=[.i .i64 x.Call,.i .i64 x.Index,.i .i64 x.Command.Op,.i .i64 x.Command.Session,.i .i64 x.Command.Seq,.s x.Command.Key,.s x.Command.Value,.s x.Command.Old,.s x.Text]
structure World where
 Up:(List Bool)
 Servers:(List Server)
 Net:(List Message)
 Waits:(List Wait)
 Leaders:(List Leader)
 Applied:(List Applied)
 Replies:(List Reply)
abbrev encWorldL (o:Bool)(x:World):List C:=[.row o 4 (x.Up.map encB),.row o 118 (x.Servers.map (encServerL o)),.row o 121 (x.Net.map (encMessageL o)),.row o 158 (x.Waits.map encWait),.row o 124 (x.Leaders.map (encLeaderL o)),.row o 128 (x.Applied.map encApplied),.row o 133 (x.Replies.map encReply)]
abbrev encServer (o:Bool)(x:Server):List C:=[.i .i64 x.Node.Id,.i .i64 x.Node.Term,.i .i64 x.Node.Vote,.i .i64 x.Node.Role,.i .i64 x.Node.Lead,.row o 3 (x.Node.Conf.map encI),.i .i64 x.Node.Log.Start,.i .i64 x.Node.Log.StartTerm,.row o 100 (x.Node.Log.Entries.map encEntry),.i .i64 x.Node.Commit,.i .i64 x.Node.Clock,.i .i64 x.Node.Limit,.row o 3 (x.Node.Votes.map encI),.row o 327 (x.Node.Peers.map encPeer),.row o 141 (x.Disk.Files.map encFile),.row o 3 (x.Shelf.Man.Segs.map encI),.i .i64 x.Shelf.Man.Next,.i .i64 x.Shelf.Man.Base,.i .i64 x.Shelf.Man.BaseTerm,.row o 3 (x.Shelf.Man.Conf.map encI),.row o 148 (x.Shelf.Dir.map encSpot),.i .i64 x.Shelf.Stamp,.s x.Stage,.i .i64 x.StageAt,.i .i64 x.StageTerm]
theorem ro_encServer (x:Server):roCs (encServer true x)=encServer false x:=by simp only[encServer,roCs,roC,roRows_mapf (fun _=>rfl),roRows_mapf (fun _=>rfl),roRows_mapf (fun _=>rfl),roRows_mapf (fun _=>rfl),roRows_mapf (fun _=>rfl),roRows_mapf (fun _=>rfl),roRows_mapf (fun _=>rfl),roRows_mapf (fun _=>rfl)]
abbrev encMessage (o:Bool)(x:Message):List C:=[.i .i64 x.Kind,.i .i64 x.From,.i .i64 x.To,.i .i64 x.Term,.i .i64 x.Index,.i .i64 x.LogTerm,.i .i64 x.Commit,.b x.Ok,.row o 100 (x.Entries.map encEntry),.row o 3 (x.Conf.map encI),.s x.Data,.b x.Last]
theorem ro_encMessage (x:Message):roCs (encMessage true x)=encMessage false x:=by simp only[encMessage,roCs,roC,roRows_mapf (fun _=>rfl),roRows_mapf (fun _=>rfl)]
abbrev encLeader (o:Bool)(x:Leader):List C:=[.i .i64 x.Node,.i .i64 x.Term,.i .i64 x.Log.Start,.i .i64 x.Log.StartTerm,.row o 100 (x.Log.Entries.map encEntry)]
theorem ro_encLeader (x:Leader):roCs (encLeader true x)=encLeader false x:=by simp only[encLeader,roCs,roC,roRows_mapf (fun _=>rfl)]
structure Tl05Cur where
 text:BA
 at':Int
 bad:Bool
structure Change where
 Key:BA
 Value:BA
 Gone:Bool
abbrev encChange (x:Change):List C:=[.s x.Key,.s x.Value,.b x.Gone]
structure Batch where
 Stamp:Int
 Changes:(List Change)
structure Raw where
 Kind:Int
 Name:BA
 To:BA
 Text:BA
abbrev encRaw (x:Raw):List C:=[.i .i64 x.Kind,.s x.Name,.s x.To,.s x.Text]
structure Pair where
 Key:BA
 Value:BA
abbrev encPair (x:Pair):List C:=[.s x.Key,.s x.Value]
structure Tl15State where
 id:Int
 seq:Int
 at':Int
 reply:BA
abbrev encTl15State (x:Tl15State):List C:=[.i .i64 x.id,.i .i64 x.seq,.i .i64 x.at',.s x.reply]
structure Treader where
 s:BA
 at':Int
 bad:Bool
structure Tplaced where
 b:Batch
 text:BA
 at':Int
abbrev encTplaced (o:Bool)(x:Tplaced):List C:=[.i .i64 x.b.Stamp,.row o 268 (x.b.Changes.map encChange),.s x.text,.i .i64 x.at']
structure Tsession where
 number:Int
 seq:Int
 index:Int
 reply:BA
abbrev encTsession (x:Tsession):List C:=[.i .i64 x.number,.i .i64 x.seq,.i .i64 x.index,.s x.reply]
section
variable {β ρ:Type} {c:Ctx} {m:Nat} {s s':List Fm} {tl tl':Tl} {fr fr':Fr} {σ σ':St} {r:β}
def lJ8 {A0 A1 A2 A3 A4 A5 A6 A7:Type}(F:Nat→A0→A1→A2→A3→A4→A5→A6→A7→Option ρ)(q:ρ)(FR:A0→A1→A2→A3→A4→A5→A6→A7→Fr)(SG:A0→A1→A2→A3→A4→A5→A6→A7→St):Nat→Fr→St→Prop:=fun n fr σ=>∃a0 a1 a2 a3 a4 a5 a6 a7,F n a0 a1 a2 a3 a4 a5 a6 a7=some q∧fr=FR a0 a1 a2 a3 a4 a5 a6 a7∧σ=SG a0 a1 a2 a3 a4 a5 a6 a7
theorem _root_.Go.Proofs.YthfjkhlgkjgkjaaGreatDoor.Pe.G.L8 {A0 A1 A2 A3 A4 A5 A6 A7:Type}{F:Nat→A0→A1→A2→A3→A4→A5→A6→A7→Option ρ}{kk:ρ→Option β}{x:K}{n0:Nat}{a0:A0}{a1:A1}{a2:A2}{a3:A3}{a4:A4}{a5:A5}{a6:A6}{a7:A7}(hx:X0 0 999 s tl fr σ=some (.k (.loop x)::s',tl',fr',σ'))(FR:A0→A1→A2→A3→A4→A5→A6→A7→Fr)(SG:A0→A1→A2→A3→A4→A5→A6→A7→St)(hg:Gm c.P c.B c.N m fr' σ' (FR a0 a1 a2 a3 a4 a5 a6 a7) (SG a0 a1 a2 a3 a4 a5 a6 a7))(h:∀n a0 a1 a2 a3 a4 a5 a6 a7 q,Kq kk q r→G c m (.k x:: .l (lJ8 F q FR SG) (n+1)::s') [] (FR a0 a1 a2 a3 a4 a5 a6 a7) (SG a0 a1 a2 a3 a4 a5 a6 a7) (F (n+1) a0 a1 a2 a3 a4 a5 a6 a7) q)(a:∀a0 a1 a2 a3 a4 a5 a6 a7,F 0 a0 a1 a2 a3 a4 a5 a6 a7=none:=by intros;rfl):G c m s tl fr σ ((F n0 a0 a1 a2 a3 a4 a5 a6 a7).bind kk) r:=G.L hx (fun q=>lJ8 F q FR SG) hg (fun q hq=>⟨_,_,_,_,_,_,_,_,hq,rfl,rfl⟩) (by
 rintro q hq n fr σ ⟨a0,a1,a2,a3,a4,a5,a6,a7,hF,rfl,rfl⟩ hB hm hf
 cases n with
 |zero=>rw[a]at hF;cases hF
 |succ n=>exact h n a0 a1 a2 a3 a4 a5 a6 a7 q hq hB hm hf TlOk.nil hF)
end
theorem bt3:bytesOf Tryz.prog 3≤2048:=of_decide_eq_true (by kernel_rfl)
theorem bt4:bytesOf Tryz.prog 4≤2048:=of_decide_eq_true (by kernel_rfl)
theorem bt5:bytesOf Tryz.prog 5≤2048:=of_decide_eq_true (by kernel_rfl)
theorem bt9:bytesOf Tryz.prog 9≤2048:=of_decide_eq_true (by kernel_rfl)
theorem bt70:bytesOf Tryz.prog 70≤2048:=of_decide_eq_true (by kernel_rfl)
theorem bt79:bytesOf Tryz.prog 79≤2048:=of_decide_eq_true (by kernel_rfl)
theorem bt100:bytesOf Tryz.prog 100≤2048:=of_decide_eq_true (by kernel_rfl)
theorem bt102:bytesOf Tryz.prog 102≤2048:=of_decide_eq_true (by kernel_rfl)
theorem bt138:bytesOf Tryz.prog 138≤2048:=of_decide_eq_true (by kernel_rfl)
theorem bt141:bytesOf Tryz.prog 141≤2048:=of_decide_eq_true (by kernel_rfl)
theorem bt148:bytesOf Tryz.prog 148≤2048:=of_decide_eq_true (by kernel_rfl)
theorem bt153:bytesOf Tryz.prog 153≤2048:=of_decide_eq_true (by kernel_rfl)
theorem bt156:bytesOf Tryz.prog 156≤2048:=of_decide_eq_true (by kernel_rfl)
theorem bt160:bytesOf Tryz.prog 160≤2048:=of_decide_eq_true (by kernel_rfl)
theorem bt165:bytesOf Tryz.prog 165≤2048:=of_decide_eq_true (by kernel_rfl)
theorem bt234:bytesOf Tryz.prog 234≤2048:=of_decide_eq_true (by kernel_rfl)
theorem bt268:bytesOf Tryz.prog 268≤2048:=of_decide_eq_true (by kernel_rfl)
theorem bt285:bytesOf Tryz.prog 285≤2048:=of_decide_eq_true (by kernel_rfl)
theorem bt327:bytesOf Tryz.prog 327≤2048:=of_decide_eq_true (by kernel_rfl)
theorem bt341:bytesOf Tryz.prog 341≤2048:=of_decide_eq_true (by kernel_rfl)
def w_szBoolS (N:Nat)(a:List Bool)(b:Int):Option (Int):=
 (if(decide ((w64 (b-(a.length:Int)))<0))=true then
 some (-1:Int)
 else
 some (w64 (b-(a.length:Int))))
instance i0 (N:Nat)(b:List Bool)(c:Int):JI 12 (w_szBoolS N b c) [RO 4 (b.map encB),VI c]:=.st e e Tryz.call12 fun B r=>.st e (Ev.lnF e) e (.q e (.a e e (.Ek [] e e e) (.Ek [] e e e)))
def w_szIntS (N:Nat)(a:List Int)(b:Int):Option (Int):=
 (if(decide ((w64 (b-(a.length:Int)))<0))=true then
 some (-1:Int)
 else
 some (w64 (b-(a.length:Int))))
instance i1 (N:Nat)(b:List Int)(c:Int):JI 103 (w_szIntS N b c) [RO 3 (b.map encI),VI c]:=.st e e Tryz.call103 fun B r=>.st e (Ev.lnF e) e (.q e (.a e e (.Ek [] e e e) (.Ek [] e e e)))
def w_szEntry (N:Nat)(a:Entry)(b:Int):Option (Int):=
 (if(decide ((w64 (b-(a.Data.size:Int)))<0))=true then
 some (-1:Int)
 else
 some (w64 (b-(a.Data.size:Int))))
instance i2 (N:Nat)(b:Entry)(c:Int):JI 105 (w_szEntry N b c) [.agg [VI b.Term,VI b.Kind,VS b.Data],VI c]:=.st e e Tryz.call105 fun B r=>.q e (.a e e (.Ek [] e e e) (.Ek [] e e e))
def w_szEntryS_l1 (N:Nat)(a:List Entry):Nat→Int→Int→Option ((Int)⊕(Int))
 |0,_,_=>none
 |m+1,c,b=>
 (if decide (b<(a.length:Int))=true then
 (at? a b).bind fun f=>
 (w_szEntry N f c).bind fun d=>
 (if decide (d<0)=true then
 some (Sum.inl (-1:Int))
 else
 w_szEntryS_l1 N a m d (w64 (b+1)))
 else
 some (Sum.inr c))
def w_szEntryS (N:Nat)(a:List Entry)(b:Int):Option (Int):=
 (if(decide ((w64 (b-(a.length:Int)))<0))=true then
 some (-1:Int)
 else
 joinP (fun(c:Int)=>
 some c) fun d=>
 (w_szEntryS_l1 N a N (w64 (b-(a.length:Int))) 0).bind (Sum.elim (fun f=>some f) (fun(g:Int)=>d g)))
instance i3 (N:Nat)(b:List Entry)(g:Int):JI 102 (w_szEntryS N b g) [RO 126 (b.map encEntry),VI g]:=.st e e Tryz.call102 fun B r=>.st e (Ev.lnF e) e (.q e (.a e e (.Ek [] e e e) (.j e (fun c=>[(1,VI c)]) (fun c=>[]) (fun _=>.L2 e (fun d f=>[(0,RO 126 (b.map encEntry)),(1,VI d),(5,VI f)]) (fun d f=>[]) (.k [0,1,5] []) fun _ d f _ l=>.q e (.st e (Ev.lnF e) e (.a e e (.q e (.B fun _ m=>.st e (Ev.iaF e e m) e (.c0 e i q fun _ _=>.a e e (.Xr l e e (.il (.e e (.Ek [] e e e)))) (.R e (fun h=>⟨_,_,h,e,e⟩) (.k [0,1,5] []))))) (.X l e e (.ir (.n e (.J e (.k [1] [])))))))) fun c=>.Ek [] e e e)))
def w_szLog (N:Nat)(b:Log)(c:Int):Option (Int):=
 (w_szEntryS N b.Entries c).bind fun a=>
 (if decide (a<0)=true then
 some (-1:Int)
 else
 some a)
instance i4 (N:Nat)(b:Log)(c:Int):JI 104 (w_szLog N b c) [.agg [VI b.Start,VI b.StartTerm,RO 126 (b.Entries.map encEntry)],VI c]:=.st e e Tryz.call104 fun B r=>.c0 e i q fun _ _=>.q e (.a e e (.Ek [] e e e) (.Ek [] e e e))
def w_szPeerS (N:Nat)(a:List Peer)(b:Int):Option (Int):=
 (if(decide ((w64 (b-(a.length:Int)))<0))=true then
 some (-1:Int)
 else
 some (w64 (b-(a.length:Int))))
instance i5 (N:Nat)(b:List Peer)(c:Int):JI 163 (w_szPeerS N b c) [RO 329 (b.map encPeer),VI c]:=.st e e Tryz.call163 fun B r=>.st e (Ev.lnF e) e (.q e (.a e e (.Ek [] e e e) (.Ek [] e e e)))
def w_szNode (N:Nat)(a:Node)(g:Int):Option (Int):=
 (w_szIntS N a.Conf g).bind fun b=>
 (if decide (b<0)=true then
 some (-1:Int)
 else
 (w_szLog N a.Log b).bind fun c=>
 (if decide (c<0)=true then
 some (-1:Int)
 else
 (w_szIntS N a.Votes c).bind fun d=>
 (if decide (d<0)=true then
 some (-1:Int)
 else
 (w_szPeerS N a.Peers d).bind fun f=>
 (if decide (f<0)=true then
 some (-1:Int)
 else
 some f))))
instance i6 (N:Nat)(b:Node)(c:Int):JI 99 (w_szNode N b c) [.agg [VI b.Id,VI b.Term,VI b.Vote,VI b.Role,VI b.Lead,RO 3 (b.Conf.map encI),VI b.Log.Start,VI b.Log.StartTerm,RO 126 (b.Log.Entries.map encEntry),VI b.Commit,VI b.Clock,VI b.Limit,RO 3 (b.Votes.map encI),RO 329 (b.Peers.map encPeer)],VI c]:=.st e e Tryz.call99 fun B r=>.c0 e i q fun _ _=>.q e (.a e e (.Ek [] e e e) (.c0 e i q fun _ _=>.q e (.a e e (.Ek [] e e e) (.c0 e i q fun _ _=>.q e (.a e e (.Ek [] e e e) (.c0 e i q fun _ _=>.q e (.a e e (.Ek [] e e e) (.Ek [] e e e))))))))
def w_szFile (N:Nat)(a:File)(b:Int):Option (Int):=
 (if(decide ((w64 (b-(a.Name.size:Int)))<0))=true then
 some (-1:Int)
 else
 (if(decide ((w64 ((w64 (b-(a.Name.size:Int)))-(a.Text.size:Int)))<0))=true then
 some (-1:Int)
 else
 some (w64 ((w64 (b-(a.Name.size:Int)))-(a.Text.size:Int)))))
instance i7 (N:Nat)(b:File)(c:Int):JI 222 (w_szFile N b c) [.agg [VS b.Name,VS b.Text],VI c]:=.st e e Tryz.call222 fun B r=>.q e (.a e e (.Ek [] e e e) (.q e (.a e e (.Ek [] e e e) (.Ek [] e e e))))
def w_szFileS_l1 (N:Nat)(a:List File):Nat→Int→Int→Option ((Int)⊕(Int))
 |0,_,_=>none
 |m+1,c,b=>
 (if decide (b<(a.length:Int))=true then
 (at? a b).bind fun f=>
 (w_szFile N f c).bind fun d=>
 (if decide (d<0)=true then
 some (Sum.inl (-1:Int))
 else
 w_szFileS_l1 N a m d (w64 (b+1)))
 else
 some (Sum.inr c))
def w_szFileS (N:Nat)(a:List File)(b:Int):Option (Int):=
 (if(decide ((w64 (b-(a.length:Int)))<0))=true then
 some (-1:Int)
 else
 joinP (fun(c:Int)=>
 some c) fun d=>
 (w_szFileS_l1 N a N (w64 (b-(a.length:Int))) 0).bind (Sum.elim (fun f=>some f) (fun(g:Int)=>d g)))
instance i8 (N:Nat)(b:List File)(g:Int):JI 164 (w_szFileS N b g) [RO 316 (b.map encFile),VI g]:=.st e e Tryz.call164 fun B r=>.st e (Ev.lnF e) e (.q e (.a e e (.Ek [] e e e) (.j e (fun c=>[(1,VI c)]) (fun c=>[]) (fun _=>.L2 e (fun d f=>[(0,RO 316 (b.map encFile)),(1,VI d),(5,VI f)]) (fun d f=>[]) (.k [0,1,5] []) fun _ d f _ l=>.q e (.st e (Ev.lnF e) e (.a e e (.q e (.B fun _ m=>.st e (Ev.iaF e e m) e (.c0 e i q fun _ _=>.a e e (.Xr l e e (.il (.e e (.Ek [] e e e)))) (.R e (fun h=>⟨_,_,h,e,e⟩) (.k [0,1,5] []))))) (.X l e e (.ir (.n e (.J e (.k [1] [])))))))) fun c=>.Ek [] e e e)))
def w_szDisk (N:Nat)(b:Disk)(c:Int):Option (Int):=
 (w_szFileS N b.Files c).bind fun a=>
 (if decide (a<0)=true then
 some (-1:Int)
 else
 some a)
instance i9 (N:Nat)(b:Disk)(c:Int):JI 100 (w_szDisk N b c) [.agg [RO 316 (b.Files.map encFile)],VI c]:=.st e e Tryz.call100 fun B r=>.c0 e i q fun _ _=>.q e (.a e e (.Ek [] e e e) (.Ek [] e e e))
def w_szManifest (N:Nat)(a:Manifest)(d:Int):Option (Int):=
 (w_szIntS N a.Segs d).bind fun b=>
 (if decide (b<0)=true then
 some (-1:Int)
 else
 (w_szIntS N a.Conf b).bind fun c=>
 (if decide (c<0)=true then
 some (-1:Int)
 else
 some c))
instance i10 (N:Nat)(b:Manifest)(c:Int):JI 165 (w_szManifest N b c) [.agg [RO 3 (b.Segs.map encI),VI b.Next,VI b.Base,VI b.BaseTerm,RO 3 (b.Conf.map encI)],VI c]:=.st e e Tryz.call165 fun B r=>.c0 e i q fun _ _=>.q e (.a e e (.Ek [] e e e) (.c0 e i q fun _ _=>.q e (.a e e (.Ek [] e e e) (.Ek [] e e e))))
def w_szSpot (N:Nat)(a:Spot)(b:Int):Option (Int):=
 (if(decide ((w64 (b-(a.Key.size:Int)))<0))=true then
 some (-1:Int)
 else
 some (w64 (b-(a.Key.size:Int))))
instance i11 (N:Nat)(b:Spot)(c:Int):JI 223 (w_szSpot N b c) [.agg [VS b.Key,VI b.Seg,VI b.At,VI b.Size],VI c]:=.st e e Tryz.call223 fun B r=>.q e (.a e e (.Ek [] e e e) (.Ek [] e e e))
def w_szSpotS_l1 (N:Nat)(a:List Spot):Nat→Int→Int→Option ((Int)⊕(Int))
 |0,_,_=>none
 |m+1,c,b=>
 (if decide (b<(a.length:Int))=true then
 (at? a b).bind fun f=>
 (w_szSpot N f c).bind fun d=>
 (if decide (d<0)=true then
 some (Sum.inl (-1:Int))
 else
 w_szSpotS_l1 N a m d (w64 (b+1)))
 else
 some (Sum.inr c))
def w_szSpotS (N:Nat)(a:List Spot)(b:Int):Option (Int):=
 (if(decide ((w64 (b-(a.length:Int)))<0))=true then
 some (-1:Int)
 else
 joinP (fun(c:Int)=>
 some c) fun d=>
 (w_szSpotS_l1 N a N (w64 (b-(a.length:Int))) 0).bind (Sum.elim (fun f=>some f) (fun(g:Int)=>d g)))
instance i12 (N:Nat)(b:List Spot)(g:Int):JI 166 (w_szSpotS N b g) [RO 318 (b.map encSpot),VI g]:=.st e e Tryz.call166 fun B r=>.st e (Ev.lnF e) e (.q e (.a e e (.Ek [] e e e) (.j e (fun c=>[(1,VI c)]) (fun c=>[]) (fun _=>.L2 e (fun d f=>[(0,RO 318 (b.map encSpot)),(1,VI d),(5,VI f)]) (fun d f=>[]) (.k [0,1,5] []) fun _ d f _ l=>.q e (.st e (Ev.lnF e) e (.a e e (.q e (.B fun _ m=>.st e (Ev.iaF e e m) e (.c0 e i q fun _ _=>.a e e (.Xr l e e (.il (.e e (.Ek [] e e e)))) (.R e (fun h=>⟨_,_,h,e,e⟩) (.k [0,1,5] []))))) (.X l e e (.ir (.n e (.J e (.k [1] [])))))))) fun c=>.Ek [] e e e)))
def w_szShelf (N:Nat)(a:Shelf)(d:Int):Option (Int):=
 (w_szManifest N a.Man d).bind fun b=>
 (if decide (b<0)=true then
 some (-1:Int)
 else
 (w_szSpotS N a.Dir b).bind fun c=>
 (if decide (c<0)=true then
 some (-1:Int)
 else
 some c))
instance i13 (N:Nat)(b:Shelf)(c:Int):JI 101 (w_szShelf N b c) [.agg [RO 3 (b.Man.Segs.map encI),VI b.Man.Next,VI b.Man.Base,VI b.Man.BaseTerm,RO 3 (b.Man.Conf.map encI),RO 318 (b.Dir.map encSpot),VI b.Stamp],VI c]:=.st e e Tryz.call101 fun B r=>.c0 e i q fun _ _=>.q e (.a e e (.Ek [] e e e) (.c0 e i q fun _ _=>.q e (.a e e (.Ek [] e e e) (.Ek [] e e e))))
def w_szServer (N:Nat)(a:Server)(f:Int):Option (Int):=
 (w_szNode N a.Node f).bind fun c=>
 (if decide (c<0)=true then
 some (-1:Int)
 else
 (w_szDisk N a.Disk c).bind fun d=>
 (if decide (d<0)=true then
 some (-1:Int)
 else
 (w_szShelf N a.Shelf d).bind fun b=>
 (if decide (b<0)=true then
 some (-1:Int)
 else
 (if(decide ((w64 (b-(a.Stage.size:Int)))<0))=true then
 some (-1:Int)
 else
 some (w64 (b-(a.Stage.size:Int)))))))
instance i14 (N:Nat)(b:Server)(c:Int):JI 50 (w_szServer N b c) [.agg [VI b.Node.Id,VI b.Node.Term,VI b.Node.Vote,VI b.Node.Role,VI b.Node.Lead,RO 3 (b.Node.Conf.map encI),VI b.Node.Log.Start,VI b.Node.Log.StartTerm,RO 126 (b.Node.Log.Entries.map encEntry),VI b.Node.Commit,VI b.Node.Clock,VI b.Node.Limit,RO 3 (b.Node.Votes.map encI),RO 329 (b.Node.Peers.map encPeer),RO 316 (b.Disk.Files.map encFile),RO 3 (b.Shelf.Man.Segs.map encI),VI b.Shelf.Man.Next,VI b.Shelf.Man.Base,VI b.Shelf.Man.BaseTerm,RO 3 (b.Shelf.Man.Conf.map encI),RO 318 (b.Shelf.Dir.map encSpot),VI b.Shelf.Stamp,VS b.Stage,VI b.StageAt,VI b.StageTerm],VI c]:=.st e e Tryz.call50 fun B r=>.c0 e i q fun _ _=>.q e (.a e e (.Ek [] e e e) (.c0 e i q fun _ _=>.q e (.a e e (.Ek [] e e e) (.c0 e i q fun _ _=>.q e (.a e e (.Ek [] e e e) (.q e (.a e e (.Ek [] e e e) (.Ek [] e e e))))))))
def w_szServerS_l1 (N:Nat)(a:List Server):Nat→Int→Int→Option ((Int)⊕(Int))
 |0,_,_=>none
 |m+1,c,b=>
 (if decide (b<(a.length:Int))=true then
 (at? a b).bind fun f=>
 (w_szServer N f c).bind fun d=>
 (if decide (d<0)=true then
 some (Sum.inl (-1:Int))
 else
 w_szServerS_l1 N a m d (w64 (b+1)))
 else
 some (Sum.inr c))
def w_szServerS (N:Nat)(a:List Server)(b:Int):Option (Int):=
 (if(decide ((w64 (b-(a.length:Int)))<0))=true then
 some (-1:Int)
 else
 joinP (fun(c:Int)=>
 some c) fun d=>
 (w_szServerS_l1 N a N (w64 (b-(a.length:Int))) 0).bind (Sum.elim (fun f=>some f) (fun(g:Int)=>d g)))
instance i15 (N:Nat)(b:List Server)(g:Int):JI 13 (w_szServerS N b g) [RO 118 (b.map (encServerL false)),VI g]:=.st e e Tryz.call13 fun B r=>.st e (Ev.lnF e) e (.q e (.a e e (.Ek [] e e e) (.j e (fun c=>[(1,VI c)]) (fun c=>[]) (fun _=>.L2 e (fun d f=>[(0,RO 118 (b.map (encServerL false))),(1,VI d),(5,VI f)]) (fun d f=>[]) (.k [0,1,5] []) fun _ d f _ l=>.q e (.st e (Ev.lnF e) e (.a e e (.q e (.B fun _ m=>.st e (Ev.iaF e e m) e (.c0 e i q fun _ _=>.a e e (.Xr l e e (.il (.e e (.Ek [] e e e)))) (.R e (fun h=>⟨_,_,h,e,e⟩) (.k [0,1,5] []))))) (.X l e e (.ir (.n e (.J e (.k [1] [])))))))) fun c=>.Ek [] e e e)))
def w_szMessage (N:Nat)(a:Message)(d:Int):Option (Int):=
 (w_szEntryS N a.Entries d).bind fun c=>
 (if decide (c<0)=true then
 some (-1:Int)
 else
 (w_szIntS N a.Conf c).bind fun b=>
 (if decide (b<0)=true then
 some (-1:Int)
 else
 (if(decide ((w64 (b-(a.Data.size:Int)))<0))=true then
 some (-1:Int)
 else
 some (w64 (b-(a.Data.size:Int))))))
instance i16 (N:Nat)(b:Message)(c:Int):JI 51 (w_szMessage N b c) [.agg [VI b.Kind,VI b.From,VI b.To,VI b.Term,VI b.Index,VI b.LogTerm,VI b.Commit,VB b.Ok,RO 126 (b.Entries.map encEntry),RO 3 (b.Conf.map encI),VS b.Data,VB b.Last],VI c]:=.st e e Tryz.call51 fun B r=>.c0 e i q fun _ _=>.q e (.a e e (.Ek [] e e e) (.c0 e i q fun _ _=>.q e (.a e e (.Ek [] e e e) (.q e (.a e e (.Ek [] e e e) (.Ek [] e e e))))))
def w_szMessageS_l1 (N:Nat)(a:List Message):Nat→Int→Int→Option ((Int)⊕(Int))
 |0,_,_=>none
 |m+1,c,b=>
 (if decide (b<(a.length:Int))=true then
 (at? a b).bind fun f=>
 (w_szMessage N f c).bind fun d=>
 (if decide (d<0)=true then
 some (Sum.inl (-1:Int))
 else
 w_szMessageS_l1 N a m d (w64 (b+1)))
 else
 some (Sum.inr c))
def w_szMessageS (N:Nat)(a:List Message)(b:Int):Option (Int):=
 (if(decide ((w64 (b-(a.length:Int)))<0))=true then
 some (-1:Int)
 else
 joinP (fun(c:Int)=>
 some c) fun d=>
 (w_szMessageS_l1 N a N (w64 (b-(a.length:Int))) 0).bind (Sum.elim (fun f=>some f) (fun(g:Int)=>d g)))
instance i17 (N:Nat)(b:List Message)(g:Int):JI 14 (w_szMessageS N b g) [RO 121 (b.map (encMessageL false)),VI g]:=.st e e Tryz.call14 fun B r=>.st e (Ev.lnF e) e (.q e (.a e e (.Ek [] e e e) (.j e (fun c=>[(1,VI c)]) (fun c=>[]) (fun _=>.L2 e (fun d f=>[(0,RO 121 (b.map (encMessageL false))),(1,VI d),(5,VI f)]) (fun d f=>[]) (.k [0,1,5] []) fun _ d f _ l=>.q e (.st e (Ev.lnF e) e (.a e e (.q e (.B fun _ m=>.st e (Ev.iaF e e m) e (.c0 e i q fun _ _=>.a e e (.Xr l e e (.il (.e e (.Ek [] e e e)))) (.R e (fun h=>⟨_,_,h,e,e⟩) (.k [0,1,5] []))))) (.X l e e (.ir (.n e (.J e (.k [1] [])))))))) fun c=>.Ek [] e e e)))
def w_szWaitS (N:Nat)(a:List Wait)(b:Int):Option (Int):=
 (if(decide ((w64 (b-(a.length:Int)))<0))=true then
 some (-1:Int)
 else
 some (w64 (b-(a.length:Int))))
instance i18 (N:Nat)(b:List Wait)(c:Int):JI 15 (w_szWaitS N b c) [RO 158 (b.map encWait),VI c]:=.st e e Tryz.call15 fun B r=>.st e (Ev.lnF e) e (.q e (.a e e (.Ek [] e e e) (.Ek [] e e e)))
def w_szLeader (N:Nat)(b:Leader)(c:Int):Option (Int):=
 (w_szLog N b.Log c).bind fun a=>
 (if decide (a<0)=true then
 some (-1:Int)
 else
 some a)
instance i19 (N:Nat)(b:Leader)(c:Int):JI 52 (w_szLeader N b c) [.agg [VI b.Node,VI b.Term,VI b.Log.Start,VI b.Log.StartTerm,RO 126 (b.Log.Entries.map encEntry)],VI c]:=.st e e Tryz.call52 fun B r=>.c0 e i q fun _ _=>.q e (.a e e (.Ek [] e e e) (.Ek [] e e e))
def w_szLeaderS_l1 (N:Nat)(a:List Leader):Nat→Int→Int→Option ((Int)⊕(Int))
 |0,_,_=>none
 |m+1,c,b=>
 (if decide (b<(a.length:Int))=true then
 (at? a b).bind fun f=>
 (w_szLeader N f c).bind fun d=>
 (if decide (d<0)=true then
 some (Sum.inl (-1:Int))
 else
 w_szLeaderS_l1 N a m d (w64 (b+1)))
 else
 some (Sum.inr c))
def w_szLeaderS (N:Nat)(a:List Leader)(b:Int):Option (Int):=
 (if(decide ((w64 (b-(a.length:Int)))<0))=true then
 some (-1:Int)
 else
 joinP (fun(c:Int)=>
 some c) fun d=>
 (w_szLeaderS_l1 N a N (w64 (b-(a.length:Int))) 0).bind (Sum.elim (fun f=>some f) (fun(g:Int)=>d g)))
instance i20 (N:Nat)(b:List Leader)(g:Int):JI 16 (w_szLeaderS N b g) [RO 124 (b.map (encLeaderL false)),VI g]:=.st e e Tryz.call16 fun B r=>.st e (Ev.lnF e) e (.q e (.a e e (.Ek [] e e e) (.j e (fun c=>[(1,VI c)]) (fun c=>[]) (fun _=>.L2 e (fun d f=>[(0,RO 124 (b.map (encLeaderL false))),(1,VI d),(5,VI f)]) (fun d f=>[]) (.k [0,1,5] []) fun _ d f _ l=>.q e (.st e (Ev.lnF e) e (.a e e (.q e (.B fun _ m=>.st e (Ev.iaF e e m) e (.c0 e i q fun _ _=>.a e e (.Xr l e e (.il (.e e (.Ek [] e e e)))) (.R e (fun h=>⟨_,_,h,e,e⟩) (.k [0,1,5] []))))) (.X l e e (.ir (.n e (.J e (.k [1] [])))))))) fun c=>.Ek [] e e e)))
def w_szApplied (N:Nat)(b:Applied)(c:Int):Option (Int):=
 (w_szEntry N b.Entry c).bind fun a=>
 (if decide (a<0)=true then
 some (-1:Int)
 else
 some a)
instance i21 (N:Nat)(b:Applied)(c:Int):JI 53 (w_szApplied N b c) [.agg [VI b.Node,VI b.Term,VI b.Index,VI b.Entry.Term,VI b.Entry.Kind,VS b.Entry.Data],VI c]:=.st e e Tryz.call53 fun B r=>.c0 e i q fun _ _=>.q e (.a e e (.Ek [] e e e) (.Ek [] e e e))
def w_szAppliedS_l1 (N:Nat)(a:List Applied):Nat→Int→Int→Option ((Int)⊕(Int))
 |0,_,_=>none
 |m+1,c,b=>
 (if decide (b<(a.length:Int))=true then
 (at? a b).bind fun f=>
 (w_szApplied N f c).bind fun d=>
 (if decide (d<0)=true then
 some (Sum.inl (-1:Int))
 else
 w_szAppliedS_l1 N a m d (w64 (b+1)))
 else
 some (Sum.inr c))
def w_szAppliedS (N:Nat)(a:List Applied)(b:Int):Option (Int):=
 (if(decide ((w64 (b-(a.length:Int)))<0))=true then
 some (-1:Int)
 else
 joinP (fun(c:Int)=>
 some c) fun d=>
 (w_szAppliedS_l1 N a N (w64 (b-(a.length:Int))) 0).bind (Sum.elim (fun f=>some f) (fun(g:Int)=>d g)))
instance i22 (N:Nat)(b:List Applied)(g:Int):JI 17 (w_szAppliedS N b g) [RO 128 (b.map encApplied),VI g]:=.st e e Tryz.call17 fun B r=>.st e (Ev.lnF e) e (.q e (.a e e (.Ek [] e e e) (.j e (fun c=>[(1,VI c)]) (fun c=>[]) (fun _=>.L2 e (fun d f=>[(0,RO 128 (b.map encApplied)),(1,VI d),(5,VI f)]) (fun d f=>[]) (.k [0,1,5] []) fun _ d f _ l=>.q e (.st e (Ev.lnF e) e (.a e e (.q e (.B fun _ m=>.st e (Ev.iaF e e m) e (.c0 e i q fun _ _=>.a e e (.Xr l e e (.il (.e e (.Ek [] e e e)))) (.R e (fun h=>⟨_,_,h,e,e⟩) (.k [0,1,5] []))))) (.X l e e (.ir (.n e (.J e (.k [1] [])))))))) fun c=>.Ek [] e e e)))
def w_szCommand (N:Nat)(a:Command)(b:Int):Option (Int):=
 (if(decide ((w64 (b-(a.Key.size:Int)))<0))=true then
 some (-1:Int)
 else
 (if(decide ((w64 ((w64 (b-(a.Key.size:Int)))-(a.Value.size:Int)))<0))=true then
 some (-1:Int)
 else
 (if(decide ((w64 ((w64 ((w64 (b-(a.Key.size:Int)))-(a.Value.size:Int)))-(a.Old.size:Int)))<0))=true then
 some (-1:Int)
 else
 some (w64 ((w64 ((w64 (b-(a.Key.size:Int)))-(a.Value.size:Int)))-(a.Old.size:Int))))))
instance i23 (N:Nat)(b:Command)(c:Int):JI 106 (w_szCommand N b c) [.agg [VI b.Op,VI b.Session,VI b.Seq,VS b.Key,VS b.Value,VS b.Old],VI c]:=.st e e Tryz.call106 fun B r=>.q e (.a e e (.Ek [] e e e) (.q e (.a e e (.Ek [] e e e) (.q e (.a e e (.Ek [] e e e) (.Ek [] e e e))))))
def w_szReply (N:Nat)(a:Reply)(c:Int):Option (Int):=
 (w_szCommand N a.Command c).bind fun b=>
 (if decide (b<0)=true then
 some (-1:Int)
 else
 (if(decide ((w64 (b-(a.Text.size:Int)))<0))=true then
 some (-1:Int)
 else
 some (w64 (b-(a.Text.size:Int)))))
instance i24 (N:Nat)(b:Reply)(c:Int):JI 54 (w_szReply N b c) [.agg [VI b.Call,VI b.Index,VI b.Command.Op,VI b.Command.Session,VI b.Command.Seq,VS b.Command.Key,VS b.Command.Value,VS b.Command.Old,VS b.Text],VI c]:=.st e e Tryz.call54 fun B r=>.c0 e i q fun _ _=>.q e (.a e e (.Ek [] e e e) (.q e (.a e e (.Ek [] e e e) (.Ek [] e e e))))
def w_szReplyS_l1 (N:Nat)(a:List Reply):Nat→Int→Int→Option ((Int)⊕(Int))
 |0,_,_=>none
 |m+1,c,b=>
 (if decide (b<(a.length:Int))=true then
 (at? a b).bind fun f=>
 (w_szReply N f c).bind fun d=>
 (if decide (d<0)=true then
 some (Sum.inl (-1:Int))
 else
 w_szReplyS_l1 N a m d (w64 (b+1)))
 else
 some (Sum.inr c))
def w_szReplyS (N:Nat)(a:List Reply)(b:Int):Option (Int):=
 (if(decide ((w64 (b-(a.length:Int)))<0))=true then
 some (-1:Int)
 else
 joinP (fun(c:Int)=>
 some c) fun d=>
 (w_szReplyS_l1 N a N (w64 (b-(a.length:Int))) 0).bind (Sum.elim (fun f=>some f) (fun(g:Int)=>d g)))
instance i25 (N:Nat)(b:List Reply)(g:Int):JI 18 (w_szReplyS N b g) [RO 133 (b.map encReply),VI g]:=.st e e Tryz.call18 fun B r=>.st e (Ev.lnF e) e (.q e (.a e e (.Ek [] e e e) (.j e (fun c=>[(1,VI c)]) (fun c=>[]) (fun _=>.L2 e (fun d f=>[(0,RO 133 (b.map encReply)),(1,VI d),(5,VI f)]) (fun d f=>[]) (.k [0,1,5] []) fun _ d f _ l=>.q e (.st e (Ev.lnF e) e (.a e e (.q e (.B fun _ m=>.st e (Ev.iaF e e m) e (.c0 e i q fun _ _=>.a e e (.Xr l e e (.il (.e e (.Ek [] e e e)))) (.R e (fun h=>⟨_,_,h,e,e⟩) (.k [0,1,5] []))))) (.X l e e (.ir (.n e (.J e (.k [1] [])))))))) fun c=>.Ek [] e e e)))
def w_szWorld (N:Nat)(a:World)(k:Int):Option (Int):=
 (w_szBoolS N a.Up k).bind fun b=>
 (if decide (b<0)=true then
 some (-1:Int)
 else
 (w_szServerS N a.Servers b).bind fun c=>
 (if decide (c<0)=true then
 some (-1:Int)
 else
 (w_szMessageS N a.Net c).bind fun d=>
 (if decide (d<0)=true then
 some (-1:Int)
 else
 (w_szWaitS N a.Waits d).bind fun f=>
 (if decide (f<0)=true then
 some (-1:Int)
 else
 (w_szLeaderS N a.Leaders f).bind fun g=>
 (if decide (g<0)=true then
 some (-1:Int)
 else
 (w_szAppliedS N a.Applied g).bind fun h=>
 (if decide (h<0)=true then
 some (-1:Int)
 else
 (w_szReplyS N a.Replies h).bind fun j=>
 (if decide (j<0)=true then
 some (-1:Int)
 else
 some j)))))))
instance i26 (N:Nat)(b:World)(c:Int):JI 5 (w_szWorld N b c) [.agg [RO 4 (b.Up.map encB),RO 118 (b.Servers.map (encServerL false)),RO 121 (b.Net.map (encMessageL false)),RO 158 (b.Waits.map encWait),RO 124 (b.Leaders.map (encLeaderL false)),RO 128 (b.Applied.map encApplied),RO 133 (b.Replies.map encReply)],VI c]:=.st e e Tryz.call5 fun B r=>.c0 e i q fun _ _=>.q e (.a e e (.Ek [] e e e) (.c0 e i q fun _ _=>.q e (.a e e (.Ek [] e e e) (.c0 e i q fun _ _=>.q e (.a e e (.Ek [] e e e) (.c0 e i q fun _ _=>.q e (.a e e (.Ek [] e e e) (.c0 e i q fun _ _=>.q e (.a e e (.Ek [] e e e) (.c0 e i q fun _ _=>.q e (.a e e (.Ek [] e e e) (.c0 e i q fun _ _=>.q e (.a e e (.Ek [] e e e) (.Ek [] e e e))))))))))))))
def w_toBoolS_l1 (N:Nat)(b:List Bool):Nat→Int→(List Bool)→Option ((List Bool))
 |0,_,_=>none
 |m+1,a,c=>
 (if decide (a<(b.length:Int))=true then
 (at? b a).bind fun d=>
 (at? c a).bind fun f=>
 w_toBoolS_l1 N b m (w64 (a+1)) (c.set a.toNat d)
 else
 some c)
def w_toBoolS (N:Nat)(a:List Bool):Option ((List Bool)):=
 (mk? false (a.length:Int)).bind fun b=>
 joinP (fun(c:List Bool)=>
 some c) fun d=>
 (w_toBoolS_l1 N a N 0 b).bind (fun f=>d f)
instance i27 (N:Nat)(d:List Bool):JG 23 (w_toBoolS N d) [RO 4 (d.map encB)] 0 [] (fun r=>.sl 0 4 0 r.length) (fun r=>[(0,.vec 4 (r.map encB))]):=.st e e Tryz.call23 fun B r=>.st e (Ev.lnF e) e (.B fun _ m=>.st e (Ev.msW (f:=encB) (zv:=false) e e e bt4 e m) e (.j e (fun b=>[(3,.sl 0 4 0 b.length)]) (fun b=>[(0,.vec 4 (b.map encB))]) (fun _=>.L2 e (fun g c=>[(0,RO 4 (d.map encB)),(3,.sl 0 4 0 c.length),(4,VI g)]) (fun g c=>[(0,.vec 4 (c.map encB))]) (.k [0,3,4] [5128]) fun _ g c _ o=>.q e (.st e (Ev.lnF e) e (.a e e (.B fun p s=>.st e (Ev.iaF e e s) e (.B fun _ l=>.st e (Ev.iaW e e e l) e (.st e (Ev.stE (f:=encB) (v':=p) e e (at_some l).2 e (.d1 .nil) e e e e e) e (.R e (fun h=>⟨_,_,h,e,e⟩) (.k [0,3,4] [0]))))) (.X o e e (.n e (.J e (.k [3] [0]))))))) fun b=>.Ek [0] e e e))
def w_toIntS_l1 (N:Nat)(b:List Int):Nat→Int→(List Int)→Option ((List Int))
 |0,_,_=>none
 |m+1,a,c=>
 (if decide (a<(b.length:Int))=true then
 (at? b a).bind fun d=>
 (at? c a).bind fun f=>
 w_toIntS_l1 N b m (w64 (a+1)) (c.set a.toNat d)
 else
 some c)
def w_toIntS (N:Nat)(a:List Int):Option ((List Int)):=
 (mk? 0 (a.length:Int)).bind fun b=>
 joinP (fun(c:List Int)=>
 some c) fun d=>
 (w_toIntS_l1 N a N 0 b).bind (fun f=>d f)
instance i28 (N:Nat)(d:List Int):JG 121 (w_toIntS N d) [RO 3 (d.map encI)] 0 [] (fun r=>.sl 0 3 0 r.length) (fun r=>[(0,.vec 3 (r.map encI))]):=.st e e Tryz.call121 fun B r=>.st e (Ev.lnF e) e (.B fun _ m=>.st e (Ev.msW (f:=encI) (zv:=0) e e e bt3 e m) e (.j e (fun b=>[(3,.sl 0 3 0 b.length)]) (fun b=>[(0,.vec 3 (b.map encI))]) (fun _=>.L2 e (fun g c=>[(0,RO 3 (d.map encI)),(3,.sl 0 3 0 c.length),(4,VI g)]) (fun g c=>[(0,.vec 3 (c.map encI))]) (.k [0,3,4] [5128]) fun _ g c _ o=>.q e (.st e (Ev.lnF e) e (.a e e (.B fun p s=>.st e (Ev.iaF e e s) e (.B fun _ l=>.st e (Ev.iaW e e e l) e (.st e (Ev.stE (f:=encI) (v':=p) e e (at_some l).2 e (.d1 .nil) e e e e e) e (.R e (fun h=>⟨_,_,h,e,e⟩) (.k [0,3,4] [0]))))) (.X o e e (.n e (.J e (.k [3] [0]))))))) fun b=>.Ek [0] e e e))
def w_toEntry (N:Nat)(a:Entry):Option (Entry):=
 some a
instance i29 (N:Nat)(a:Entry):JG 123 (w_toEntry N a) [.agg [VI a.Term,VI a.Kind,VS a.Data]] 0 [] (fun r=>.agg [VI r.Term,VI r.Kind,VS r.Data]) (fun r=>[]):=.st e e Tryz.call123 fun B r=>.Ek [] e e e
def w_toEntryS_l1 (N:Nat)(b:List Entry):Nat→Int→(List Entry)→Option ((List Entry))
 |0,_,_=>none
 |m+1,a,c=>
 (if decide (a<(b.length:Int))=true then
 (at? b a).bind fun d=>
 (w_toEntry N d).bind fun f=>
 (at? c a).bind fun g=>
 w_toEntryS_l1 N b m (w64 (a+1)) (c.set a.toNat f)
 else
 some c)
def w_toEntryS (N:Nat)(a:List Entry):Option ((List Entry)):=
 (mk? (Entry.mk 0 0 (⟨#[]⟩:BA)) (a.length:Int)).bind fun b=>
 joinP (fun(c:List Entry)=>
 some c) fun d=>
 (w_toEntryS_l1 N a N 0 b).bind (fun f=>d f)
instance i30 (N:Nat)(d:List Entry):JG 120 (w_toEntryS N d) [RO 126 (d.map encEntry)] 0 [] (fun r=>.sl 0 100 0 r.length) (fun r=>[(0,.vec 100 (r.map encEntry))]):=.st e e Tryz.call120 fun B r=>.st e (Ev.lnF e) e (.B fun _ m=>.st e (Ev.msW (f:=encEntry) (zv:=(Entry.mk 0 0 (⟨#[]⟩:BA))) e e e bt100 e m) e (.j e (fun b=>[(3,.sl 0 100 0 b.length)]) (fun b=>[(0,.vec 100 (b.map encEntry))]) (fun _=>.L2 e (fun g c=>[(0,RO 126 (d.map encEntry)),(3,.sl 0 100 0 c.length),(4,VI g)]) (fun g c=>[(0,.vec 100 (c.map encEntry))]) (.k [0,3,4] [5128]) fun _ g c _ o=>.q e (.st e (Ev.lnF e) e (.a e e (.B fun _ p=>.st e (Ev.iaF e e p) e (.c0 e i q fun s _=>.B fun _ l=>.st e (Ev.iaW e e e l) e (.st e (Ev.stE (f:=encEntry) (v':=s) e e (at_some l).2 e (.d2 (.d1 .nil)) e e e e e) e (.R e (fun h=>⟨_,_,h,e,e⟩) (.k [0,3,4] [0]))))) (.X o e e (.n e (.J e (.k [3] [0]))))))) fun b=>.Ek [0] e e e))
def w_toLog (N:Nat)(a:Log):Option (Log):=
 (w_toEntryS N a.Entries).bind fun b=>
 some (Log.mk a.Start a.StartTerm b)
instance i31 (N:Nat)(a:Log):JG 122 (w_toLog N a) [.agg [VI a.Start,VI a.StartTerm,RO 126 (a.Entries.map encEntry)]] 0 [] (fun r=>.agg [VI r.Start,VI r.StartTerm,.sl 0 100 0 r.Entries.length]) (fun r=>[(0,.vec 100 (r.Entries.map encEntry))]):=.st e e Tryz.call122 fun B r=>.c1 e i q fun _ _=>.Ek [17416] e e e
def w_toPeer (N:Nat)(a:Peer):Option (Peer):=
 some a
instance i32 (N:Nat)(a:Peer):JG 234 (w_toPeer N a) [.agg [VI a.Id,VI a.Next,VI a.Match,VI a.Sent]] 0 [] (fun r=>.agg [VI r.Id,VI r.Next,VI r.Match,VI r.Sent]) (fun r=>[]):=.st e e Tryz.call234 fun B r=>.Ek [] e e e
def w_toPeerS_l1 (N:Nat)(b:List Peer):Nat→Int→(List Peer)→Option ((List Peer))
 |0,_,_=>none
 |m+1,a,c=>
 (if decide (a<(b.length:Int))=true then
 (at? b a).bind fun d=>
 (w_toPeer N d).bind fun f=>
 (at? c a).bind fun g=>
 w_toPeerS_l1 N b m (w64 (a+1)) (c.set a.toNat f)
 else
 some c)
def w_toPeerS (N:Nat)(a:List Peer):Option ((List Peer)):=
 (mk? (Peer.mk 0 0 0 0) (a.length:Int)).bind fun b=>
 joinP (fun(c:List Peer)=>
 some c) fun d=>
 (w_toPeerS_l1 N a N 0 b).bind (fun f=>d f)
instance i33 (N:Nat)(d:List Peer):JG 188 (w_toPeerS N d) [RO 329 (d.map encPeer)] 0 [] (fun r=>.sl 0 327 0 r.length) (fun r=>[(0,.vec 327 (r.map encPeer))]):=.st e e Tryz.call188 fun B r=>.st e (Ev.lnF e) e (.B fun _ m=>.st e (Ev.msW (f:=encPeer) (zv:=(Peer.mk 0 0 0 0)) e e e bt327 e m) e (.j e (fun b=>[(3,.sl 0 327 0 b.length)]) (fun b=>[(0,.vec 327 (b.map encPeer))]) (fun _=>.L2 e (fun g c=>[(0,RO 329 (d.map encPeer)),(3,.sl 0 327 0 c.length),(4,VI g)]) (fun g c=>[(0,.vec 327 (c.map encPeer))]) (.k [0,3,4] [5128]) fun _ g c _ o=>.q e (.st e (Ev.lnF e) e (.a e e (.B fun _ p=>.st e (Ev.iaF e e p) e (.c0 e i q fun s _=>.B fun _ l=>.st e (Ev.iaW e e e l) e (.st e (Ev.stE (f:=encPeer) (v':=s) e e (at_some l).2 e (.d4 .nil) e e e e e) e (.R e (fun h=>⟨_,_,h,e,e⟩) (.k [0,3,4] [0]))))) (.X o e e (.n e (.J e (.k [3] [0]))))))) fun b=>.Ek [0] e e e))
def w_toNode (N:Nat)(a:Node):Option (Node):=
 (w_toIntS N a.Conf).bind fun b=>
 (w_toLog N a.Log).bind fun c=>
 (w_toIntS N a.Votes).bind fun d=>
 (w_toPeerS N a.Peers).bind fun f=>
 some ({ a with Conf:=b,Log:=c,Votes:=d,Peers:=f })
instance i34 (N:Nat)(a:Node):JG 117 (w_toNode N a) [.agg [VI a.Id,VI a.Term,VI a.Vote,VI a.Role,VI a.Lead,RO 3 (a.Conf.map encI),VI a.Log.Start,VI a.Log.StartTerm,RO 126 (a.Log.Entries.map encEntry),VI a.Commit,VI a.Clock,VI a.Limit,RO 3 (a.Votes.map encI),RO 329 (a.Peers.map encPeer)]] 0 [] (fun r=>.agg [VI r.Id,VI r.Term,VI r.Vote,VI r.Role,VI r.Lead,.sl 0 3 0 r.Conf.length,VI r.Log.Start,VI r.Log.StartTerm,.sl 1 100 0 r.Log.Entries.length,VI r.Commit,VI r.Clock,VI r.Limit,.sl 2 3 0 r.Votes.length,.sl 3 327 0 r.Peers.length]) (fun r=>[(0,.vec 3 (r.Conf.map encI)),(1,.vec 100 (r.Log.Entries.map encEntry)),(2,.vec 3 (r.Votes.map encI)),(3,.vec 327 (r.Peers.map encPeer))]):=.st e e Tryz.call117 fun B r=>.c1 e i q fun _ _=>.c1 e i q fun _ _=>.c1 e i q fun _ _=>.c1 e i q fun _ _=>.Ek [29704,33800,50184,54280] e e e
def w_toFile (N:Nat)(a:File):Option (File):=
 some a
instance i35 (N:Nat)(a:File):JG 235 (w_toFile N a) [.agg [VS a.Name,VS a.Text]] 0 [] (fun r=>.agg [VS r.Name,VS r.Text]) (fun r=>[]):=.st e e Tryz.call235 fun B r=>.Ek [] e e e
def w_toFileS_l1 (N:Nat)(b:List File):Nat→Int→(List File)→Option ((List File))
 |0,_,_=>none
 |m+1,a,c=>
 (if decide (a<(b.length:Int))=true then
 (at? b a).bind fun d=>
 (w_toFile N d).bind fun f=>
 (at? c a).bind fun g=>
 w_toFileS_l1 N b m (w64 (a+1)) (c.set a.toNat f)
 else
 some c)
def w_toFileS (N:Nat)(a:List File):Option ((List File)):=
 (mk? (File.mk (⟨#[]⟩:BA) (⟨#[]⟩:BA)) (a.length:Int)).bind fun b=>
 joinP (fun(c:List File)=>
 some c) fun d=>
 (w_toFileS_l1 N a N 0 b).bind (fun f=>d f)
instance i36 (N:Nat)(d:List File):JG 189 (w_toFileS N d) [RO 316 (d.map encFile)] 0 [] (fun r=>.sl 0 141 0 r.length) (fun r=>[(0,.vec 141 (r.map encFile))]):=.st e e Tryz.call189 fun B r=>.st e (Ev.lnF e) e (.B fun _ m=>.st e (Ev.msW (f:=encFile) (zv:=(File.mk (⟨#[]⟩:BA) (⟨#[]⟩:BA))) e e e bt141 e m) e (.j e (fun b=>[(3,.sl 0 141 0 b.length)]) (fun b=>[(0,.vec 141 (b.map encFile))]) (fun _=>.L2 e (fun g c=>[(0,RO 316 (d.map encFile)),(3,.sl 0 141 0 c.length),(4,VI g)]) (fun g c=>[(0,.vec 141 (c.map encFile))]) (.k [0,3,4] [5128]) fun _ g c _ o=>.q e (.st e (Ev.lnF e) e (.a e e (.B fun _ p=>.st e (Ev.iaF e e p) e (.c0 e i q fun s _=>.B fun _ l=>.st e (Ev.iaW e e e l) e (.st e (Ev.stE (f:=encFile) (v':=s) e e (at_some l).2 e (.d2 .nil) e e e e e) e (.R e (fun h=>⟨_,_,h,e,e⟩) (.k [0,3,4] [0]))))) (.X o e e (.n e (.J e (.k [3] [0]))))))) fun b=>.Ek [0] e e e))
def w_toDisk (N:Nat)(a:Disk):Option (Disk):=
 (w_toFileS N a.Files).bind fun b=>
 some (Disk.mk b)
instance i37 (N:Nat)(a:Disk):JG 118 (w_toDisk N a) [.agg [RO 316 (a.Files.map encFile)]] 0 [] (fun r=>.agg [.sl 0 141 0 r.Files.length]) (fun r=>[(0,.vec 141 (r.Files.map encFile))]):=.st e e Tryz.call118 fun B r=>.c1 e i q fun _ _=>.Ek [9224] e e e
def w_toManifest (N:Nat)(a:Manifest):Option (Manifest):=
 (w_toIntS N a.Segs).bind fun b=>
 (w_toIntS N a.Conf).bind fun c=>
 some ({ a with Segs:=b,Conf:=c })
instance i38 (N:Nat)(a:Manifest):JG 190 (w_toManifest N a) [.agg [RO 3 (a.Segs.map encI),VI a.Next,VI a.Base,VI a.BaseTerm,RO 3 (a.Conf.map encI)]] 0 [] (fun r=>.agg [.sl 0 3 0 r.Segs.length,VI r.Next,VI r.Base,VI r.BaseTerm,.sl 1 3 0 r.Conf.length]) (fun r=>[(0,.vec 3 (r.Segs.map encI)),(1,.vec 3 (r.Conf.map encI))]):=.st e e Tryz.call190 fun B r=>.c1 e i q fun _ _=>.c1 e i q fun _ _=>.Ek [9224,25608] e e e
def w_toSpot (N:Nat)(a:Spot):Option (Spot):=
 some a
instance i39 (N:Nat)(a:Spot):JG 236 (w_toSpot N a) [.agg [VS a.Key,VI a.Seg,VI a.At,VI a.Size]] 0 [] (fun r=>.agg [VS r.Key,VI r.Seg,VI r.At,VI r.Size]) (fun r=>[]):=.st e e Tryz.call236 fun B r=>.Ek [] e e e
def w_toSpotS_l1 (N:Nat)(b:List Spot):Nat→Int→(List Spot)→Option ((List Spot))
 |0,_,_=>none
 |m+1,a,c=>
 (if decide (a<(b.length:Int))=true then
 (at? b a).bind fun d=>
 (w_toSpot N d).bind fun f=>
 (at? c a).bind fun g=>
 w_toSpotS_l1 N b m (w64 (a+1)) (c.set a.toNat f)
 else
 some c)
def w_toSpotS (N:Nat)(a:List Spot):Option ((List Spot)):=
 (mk? (Spot.mk (⟨#[]⟩:BA) 0 0 0) (a.length:Int)).bind fun b=>
 joinP (fun(c:List Spot)=>
 some c) fun d=>
 (w_toSpotS_l1 N a N 0 b).bind (fun f=>d f)
instance i40 (N:Nat)(d:List Spot):JG 191 (w_toSpotS N d) [RO 318 (d.map encSpot)] 0 [] (fun r=>.sl 0 148 0 r.length) (fun r=>[(0,.vec 148 (r.map encSpot))]):=.st e e Tryz.call191 fun B r=>.st e (Ev.lnF e) e (.B fun _ m=>.st e (Ev.msW (f:=encSpot) (zv:=(Spot.mk (⟨#[]⟩:BA) 0 0 0)) e e e bt148 e m) e (.j e (fun b=>[(3,.sl 0 148 0 b.length)]) (fun b=>[(0,.vec 148 (b.map encSpot))]) (fun _=>.L2 e (fun g c=>[(0,RO 318 (d.map encSpot)),(3,.sl 0 148 0 c.length),(4,VI g)]) (fun g c=>[(0,.vec 148 (c.map encSpot))]) (.k [0,3,4] [5128]) fun _ g c _ o=>.q e (.st e (Ev.lnF e) e (.a e e (.B fun _ p=>.st e (Ev.iaF e e p) e (.c0 e i q fun s _=>.B fun _ l=>.st e (Ev.iaW e e e l) e (.st e (Ev.stE (f:=encSpot) (v':=s) e e (at_some l).2 e (.d4 .nil) e e e e e) e (.R e (fun h=>⟨_,_,h,e,e⟩) (.k [0,3,4] [0]))))) (.X o e e (.n e (.J e (.k [3] [0]))))))) fun b=>.Ek [0] e e e))
def w_toShelf (N:Nat)(a:Shelf):Option (Shelf):=
 (w_toManifest N a.Man).bind fun b=>
 (w_toSpotS N a.Dir).bind fun c=>
 some (Shelf.mk b c a.Stamp)
instance i41 (N:Nat)(a:Shelf):JG 119 (w_toShelf N a) [.agg [RO 3 (a.Man.Segs.map encI),VI a.Man.Next,VI a.Man.Base,VI a.Man.BaseTerm,RO 3 (a.Man.Conf.map encI),RO 318 (a.Dir.map encSpot),VI a.Stamp]] 0 [] (fun r=>.agg [.sl 0 3 0 r.Man.Segs.length,VI r.Man.Next,VI r.Man.Base,VI r.Man.BaseTerm,.sl 1 3 0 r.Man.Conf.length,.sl 2 148 0 r.Dir.length,VI r.Stamp]) (fun r=>[(0,.vec 3 (r.Man.Segs.map encI)),(1,.vec 3 (r.Man.Conf.map encI)),(2,.vec 148 (r.Dir.map encSpot))]):=.st e e Tryz.call119 fun B r=>.f [] [] 2 e i q fun _ _=>.c1 e i q fun _ _=>.Ek [9224,9225,13320] e e e
def w_toServer (N:Nat)(a:Server):Option (Server):=
 (w_toNode N a.Node).bind fun b=>
 (w_toDisk N a.Disk).bind fun c=>
 (w_toShelf N a.Shelf).bind fun d=>
 some ({ a with Node:=b,Disk:=c,Shelf:=d })
instance i42 (N:Nat)(a:Server):JG 64 (w_toServer N a) [.agg [VI a.Node.Id,VI a.Node.Term,VI a.Node.Vote,VI a.Node.Role,VI a.Node.Lead,RO 3 (a.Node.Conf.map encI),VI a.Node.Log.Start,VI a.Node.Log.StartTerm,RO 126 (a.Node.Log.Entries.map encEntry),VI a.Node.Commit,VI a.Node.Clock,VI a.Node.Limit,RO 3 (a.Node.Votes.map encI),RO 329 (a.Node.Peers.map encPeer),RO 316 (a.Disk.Files.map encFile),RO 3 (a.Shelf.Man.Segs.map encI),VI a.Shelf.Man.Next,VI a.Shelf.Man.Base,VI a.Shelf.Man.BaseTerm,RO 3 (a.Shelf.Man.Conf.map encI),RO 318 (a.Shelf.Dir.map encSpot),VI a.Shelf.Stamp,VS a.Stage,VI a.StageAt,VI a.StageTerm]] 0 [] (fun r=>.agg [VI r.Node.Id,VI r.Node.Term,VI r.Node.Vote,VI r.Node.Role,VI r.Node.Lead,.sl 0 3 0 r.Node.Conf.length,VI r.Node.Log.Start,VI r.Node.Log.StartTerm,.sl 1 100 0 r.Node.Log.Entries.length,VI r.Node.Commit,VI r.Node.Clock,VI r.Node.Limit,.sl 2 3 0 r.Node.Votes.length,.sl 3 327 0 r.Node.Peers.length,.sl 4 141 0 r.Disk.Files.length,.sl 5 3 0 r.Shelf.Man.Segs.length,VI r.Shelf.Man.Next,VI r.Shelf.Man.Base,VI r.Shelf.Man.BaseTerm,.sl 6 3 0 r.Shelf.Man.Conf.length,.sl 7 148 0 r.Shelf.Dir.length,VI r.Shelf.Stamp,VS r.Stage,VI r.StageAt,VI r.StageTerm]) (fun r=>[(0,.vec 3 (r.Node.Conf.map encI)),(1,.vec 100 (r.Node.Log.Entries.map encEntry)),(2,.vec 3 (r.Node.Votes.map encI)),(3,.vec 327 (r.Node.Peers.map encPeer)),(4,.vec 141 (r.Disk.Files.map encFile)),(5,.vec 3 (r.Shelf.Man.Segs.map encI)),(6,.vec 3 (r.Shelf.Man.Conf.map encI)),(7,.vec 148 (r.Shelf.Dir.map encSpot))]):=.st e e Tryz.call64 fun B r=>.f [] [] 4 e i q fun _ _=>.c1 e i q fun _ _=>.f [] [] 3 e i q fun _ _=>.Ek [9224,9225,9226,9227,13320,17416,17417,17418] e e e
def w_toServerS_l1 (N:Nat)(b:List Server):Nat→Int→(List Server)→Option ((List Server))
 |0,_,_=>none
 |m+1,a,c=>
 (if decide (a<(b.length:Int))=true then
 (at? b a).bind fun d=>
 (w_toServer N d).bind fun f=>
 (at? c a).bind fun g=>
 w_toServerS_l1 N b m (w64 (a+1)) (c.set a.toNat f)
 else
 some c)
def w_toServerS (N:Nat)(a:List Server):Option ((List Server)):=
 (mk? (Server.mk (Node.mk 0 0 0 0 0 [] (Log.mk 0 0 []) 0 0 0 [] []) (Disk.mk []) (Shelf.mk (Manifest.mk [] 0 0 0 []) [] 0) (⟨#[]⟩:BA) 0 0) (a.length:Int)).bind fun b=>
 joinP (fun(c:List Server)=>
 some c) fun d=>
 (w_toServerS_l1 N a N 0 b).bind (fun f=>d f)
instance i43 (N:Nat)(d:List Server):JG 24 (w_toServerS N d) [RO 118 (d.map (encServerL false))] 0 [] (fun r=>.sl 0 70 0 r.length) (fun r=>[(0,.vec 70 (r.map (encServer true)))]):=.st e e Tryz.call24 fun B r=>.st e (Ev.lnF e) e (.B fun _ m=>.st e (Ev.msW (f:=(encServer true)) (zv:=(Server.mk (Node.mk 0 0 0 0 0 [] (Log.mk 0 0 []) 0 0 0 [] []) (Disk.mk []) (Shelf.mk (Manifest.mk [] 0 0 0 []) [] 0) (⟨#[]⟩:BA) 0 0)) e e e bt70 e m) e (.j e (fun b=>[(3,.sl 0 70 0 b.length)]) (fun b=>[(0,.vec 70 (b.map (encServer true)))]) (fun _=>.L2 e (fun g c=>[(0,RO 118 (d.map (encServerL false))),(3,.sl 0 70 0 c.length),(4,VI g)]) (fun g c=>[(0,.vec 70 (c.map (encServer true)))]) (.k [0,3,4] [5128]) fun _ g c _ o=>.q e (.st e (Ev.lnF e) e (.a e e (.B fun _ p=>.st e (Ev.iaF e e p) e (.f [] [] 8 e i q fun s _=>.B fun _ l=>.st e (Ev.iaW e e e l) e (.st e (Ev.stE (f:=(encServer true)) (v':=s) e e (at_some l).2 e (.d4 (.d1 (.cons (.own e (lenmap e)) (.d2 (.cons (.own e (lenmap e)) (.d2 (.d1 (.cons (.own e (lenmap e)) (.cons (.own e (lenmap e)) (.cons (.own e (lenmap e)) (.cons (.own e (lenmap e)) (.d2 (.d1 (.cons (.own e (lenmap e)) (.cons (.own e (lenmap e)) (.d4 .nil)))))))))))))))) e e e e e) e (.R e (fun h=>⟨_,_,h,e,e⟩) (.k [0,3,4] [0]))))) (.X o e e (.n e (.J e (.k [3] [0]))))))) fun b=>.Ek [0] e e e))
def w_toMessage (N:Nat)(a:Message):Option (Message):=
 (w_toEntryS N a.Entries).bind fun b=>
 (w_toIntS N a.Conf).bind fun c=>
 some ({ a with Entries:=b,Conf:=c })
instance i44 (N:Nat)(a:Message):JG 65 (w_toMessage N a) [.agg [VI a.Kind,VI a.From,VI a.To,VI a.Term,VI a.Index,VI a.LogTerm,VI a.Commit,VB a.Ok,RO 126 (a.Entries.map encEntry),RO 3 (a.Conf.map encI),VS a.Data,VB a.Last]] 0 [] (fun r=>.agg [VI r.Kind,VI r.From,VI r.To,VI r.Term,VI r.Index,VI r.LogTerm,VI r.Commit,VB r.Ok,.sl 0 100 0 r.Entries.length,.sl 1 3 0 r.Conf.length,VS r.Data,VB r.Last]) (fun r=>[(0,.vec 100 (r.Entries.map encEntry)),(1,.vec 3 (r.Conf.map encI))]):=.st e e Tryz.call65 fun B r=>.c1 e i q fun _ _=>.c1 e i q fun _ _=>.Ek [41992,46088] e e e
def w_toMessageS_l1 (N:Nat)(b:List Message):Nat→Int→(List Message)→Option ((List Message))
 |0,_,_=>none
 |m+1,a,c=>
 (if decide (a<(b.length:Int))=true then
 (at? b a).bind fun d=>
 (w_toMessage N d).bind fun f=>
 (at? c a).bind fun g=>
 w_toMessageS_l1 N b m (w64 (a+1)) (c.set a.toNat f)
 else
 some c)
def w_toMessageS (N:Nat)(a:List Message):Option ((List Message)):=
 (mk? (Message.mk 0 0 0 0 0 0 0 false [] [] (⟨#[]⟩:BA) false) (a.length:Int)).bind fun b=>
 joinP (fun(c:List Message)=>
 some c) fun d=>
 (w_toMessageS_l1 N a N 0 b).bind (fun f=>d f)
instance i45 (N:Nat)(d:List Message):JG 25 (w_toMessageS N d) [RO 121 (d.map (encMessageL false))] 0 [] (fun r=>.sl 0 153 0 r.length) (fun r=>[(0,.vec 153 (r.map (encMessage true)))]):=.st e e Tryz.call25 fun B r=>.st e (Ev.lnF e) e (.B fun _ m=>.st e (Ev.msW (f:=(encMessage true)) (zv:=(Message.mk 0 0 0 0 0 0 0 false [] [] (⟨#[]⟩:BA) false)) e e e bt153 e m) e (.j e (fun b=>[(3,.sl 0 153 0 b.length)]) (fun b=>[(0,.vec 153 (b.map (encMessage true)))]) (fun _=>.L2 e (fun g c=>[(0,RO 121 (d.map (encMessageL false))),(3,.sl 0 153 0 c.length),(4,VI g)]) (fun g c=>[(0,.vec 153 (c.map (encMessage true)))]) (.k [0,3,4] [5128]) fun _ g c _ o=>.q e (.st e (Ev.lnF e) e (.a e e (.B fun _ p=>.st e (Ev.iaF e e p) e (.f [] [] 2 e i q fun s _=>.B fun _ l=>.st e (Ev.iaW e e e l) e (.st e (Ev.stE (f:=(encMessage true)) (v':=s) e e (at_some l).2 e (.d4 (.d4 (.cons (.own e (lenmap e)) (.cons (.own e (lenmap e)) (.d2 .nil))))) e e e e e) e (.R e (fun h=>⟨_,_,h,e,e⟩) (.k [0,3,4] [0]))))) (.X o e e (.n e (.J e (.k [3] [0]))))))) fun b=>.Ek [0] e e e))
def w_toWait (N:Nat)(a:Wait):Option (Wait):=
 some a
instance i46 (N:Nat)(a:Wait):JG 66 (w_toWait N a) [.agg [VI a.Node,VI a.Index,VI a.Term,VI a.Call]] 0 [] (fun r=>.agg [VI r.Node,VI r.Index,VI r.Term,VI r.Call]) (fun r=>[]):=.st e e Tryz.call66 fun B r=>.Ek [] e e e
def w_toWaitS_l1 (N:Nat)(b:List Wait):Nat→Int→(List Wait)→Option ((List Wait))
 |0,_,_=>none
 |m+1,a,c=>
 (if decide (a<(b.length:Int))=true then
 (at? b a).bind fun d=>
 (w_toWait N d).bind fun f=>
 (at? c a).bind fun g=>
 w_toWaitS_l1 N b m (w64 (a+1)) (c.set a.toNat f)
 else
 some c)
def w_toWaitS (N:Nat)(a:List Wait):Option ((List Wait)):=
 (mk? (Wait.mk 0 0 0 0) (a.length:Int)).bind fun b=>
 joinP (fun(c:List Wait)=>
 some c) fun d=>
 (w_toWaitS_l1 N a N 0 b).bind (fun f=>d f)
instance i47 (N:Nat)(d:List Wait):JG 26 (w_toWaitS N d) [RO 158 (d.map encWait)] 0 [] (fun r=>.sl 0 156 0 r.length) (fun r=>[(0,.vec 156 (r.map encWait))]):=.st e e Tryz.call26 fun B r=>.st e (Ev.lnF e) e (.B fun _ m=>.st e (Ev.msW (f:=encWait) (zv:=(Wait.mk 0 0 0 0)) e e e bt156 e m) e (.j e (fun b=>[(3,.sl 0 156 0 b.length)]) (fun b=>[(0,.vec 156 (b.map encWait))]) (fun _=>.L2 e (fun g c=>[(0,RO 158 (d.map encWait)),(3,.sl 0 156 0 c.length),(4,VI g)]) (fun g c=>[(0,.vec 156 (c.map encWait))]) (.k [0,3,4] [5128]) fun _ g c _ o=>.q e (.st e (Ev.lnF e) e (.a e e (.B fun _ p=>.st e (Ev.iaF e e p) e (.c0 e i q fun s _=>.B fun _ l=>.st e (Ev.iaW e e e l) e (.st e (Ev.stE (f:=encWait) (v':=s) e e (at_some l).2 e (.d4 .nil) e e e e e) e (.R e (fun h=>⟨_,_,h,e,e⟩) (.k [0,3,4] [0]))))) (.X o e e (.n e (.J e (.k [3] [0]))))))) fun b=>.Ek [0] e e e))
def w_toLeader (N:Nat)(a:Leader):Option (Leader):=
 (w_toLog N a.Log).bind fun b=>
 some (Leader.mk a.Node a.Term b)
instance i48 (N:Nat)(a:Leader):JG 67 (w_toLeader N a) [.agg [VI a.Node,VI a.Term,VI a.Log.Start,VI a.Log.StartTerm,RO 126 (a.Log.Entries.map encEntry)]] 0 [] (fun r=>.agg [VI r.Node,VI r.Term,VI r.Log.Start,VI r.Log.StartTerm,.sl 0 100 0 r.Log.Entries.length]) (fun r=>[(0,.vec 100 (r.Log.Entries.map encEntry))]):=.st e e Tryz.call67 fun B r=>.c1 e i q fun _ _=>.Ek [17416] e e e
def w_toLeaderS_l1 (N:Nat)(b:List Leader):Nat→Int→(List Leader)→Option ((List Leader))
 |0,_,_=>none
 |m+1,a,c=>
 (if decide (a<(b.length:Int))=true then
 (at? b a).bind fun d=>
 (w_toLeader N d).bind fun f=>
 (at? c a).bind fun g=>
 w_toLeaderS_l1 N b m (w64 (a+1)) (c.set a.toNat f)
 else
 some c)
def w_toLeaderS (N:Nat)(a:List Leader):Option ((List Leader)):=
 (mk? (Leader.mk 0 0 (Log.mk 0 0 [])) (a.length:Int)).bind fun b=>
 joinP (fun(c:List Leader)=>
 some c) fun d=>
 (w_toLeaderS_l1 N a N 0 b).bind (fun f=>d f)
instance i49 (N:Nat)(d:List Leader):JG 27 (w_toLeaderS N d) [RO 124 (d.map (encLeaderL false))] 0 [] (fun r=>.sl 0 160 0 r.length) (fun r=>[(0,.vec 160 (r.map (encLeader true)))]):=.st e e Tryz.call27 fun B r=>.st e (Ev.lnF e) e (.B fun _ m=>.st e (Ev.msW (f:=(encLeader true)) (zv:=(Leader.mk 0 0 (Log.mk 0 0 []))) e e e bt160 e m) e (.j e (fun b=>[(3,.sl 0 160 0 b.length)]) (fun b=>[(0,.vec 160 (b.map (encLeader true)))]) (fun _=>.L2 e (fun g c=>[(0,RO 124 (d.map (encLeaderL false))),(3,.sl 0 160 0 c.length),(4,VI g)]) (fun g c=>[(0,.vec 160 (c.map (encLeader true)))]) (.k [0,3,4] [5128]) fun _ g c _ o=>.q e (.st e (Ev.lnF e) e (.a e e (.B fun _ p=>.st e (Ev.iaF e e p) e (.c1 e i q fun s _=>.B fun _ l=>.st e (Ev.iaW e e e l) e (.st e (Ev.stE (f:=(encLeader true)) (v':=s) e e (at_some l).2 e (.d4 (.cons (.own e (lenmap e)) .nil)) e e e e e) e (.R e (fun h=>⟨_,_,h,e,e⟩) (.k [0,3,4] [0]))))) (.X o e e (.n e (.J e (.k [3] [0]))))))) fun b=>.Ek [0] e e e))
def w_toApplied (N:Nat)(a:Applied):Option (Applied):=
 (w_toEntry N a.Entry).bind fun b=>
 some ({ a with Entry:=b })
instance i50 (N:Nat)(a:Applied):JG 68 (w_toApplied N a) [.agg [VI a.Node,VI a.Term,VI a.Index,VI a.Entry.Term,VI a.Entry.Kind,VS a.Entry.Data]] 0 [] (fun r=>.agg [VI r.Node,VI r.Term,VI r.Index,VI r.Entry.Term,VI r.Entry.Kind,VS r.Entry.Data]) (fun r=>[]):=.st e e Tryz.call68 fun B r=>.c0 e i q fun _ _=>.Ek [] e e e
def w_toAppliedS_l1 (N:Nat)(b:List Applied):Nat→Int→(List Applied)→Option ((List Applied))
 |0,_,_=>none
 |m+1,a,c=>
 (if decide (a<(b.length:Int))=true then
 (at? b a).bind fun d=>
 (w_toApplied N d).bind fun f=>
 (at? c a).bind fun g=>
 w_toAppliedS_l1 N b m (w64 (a+1)) (c.set a.toNat f)
 else
 some c)
def w_toAppliedS (N:Nat)(a:List Applied):Option ((List Applied)):=
 (mk? (Applied.mk 0 0 0 (Entry.mk 0 0 (⟨#[]⟩:BA))) (a.length:Int)).bind fun b=>
 joinP (fun(c:List Applied)=>
 some c) fun d=>
 (w_toAppliedS_l1 N a N 0 b).bind (fun f=>d f)
instance i51 (N:Nat)(d:List Applied):JG 28 (w_toAppliedS N d) [RO 128 (d.map encApplied)] 0 [] (fun r=>.sl 0 102 0 r.length) (fun r=>[(0,.vec 102 (r.map encApplied))]):=.st e e Tryz.call28 fun B r=>.st e (Ev.lnF e) e (.B fun _ m=>.st e (Ev.msW (f:=encApplied) (zv:=(Applied.mk 0 0 0 (Entry.mk 0 0 (⟨#[]⟩:BA)))) e e e bt102 e m) e (.j e (fun b=>[(3,.sl 0 102 0 b.length)]) (fun b=>[(0,.vec 102 (b.map encApplied))]) (fun _=>.L2 e (fun g c=>[(0,RO 128 (d.map encApplied)),(3,.sl 0 102 0 c.length),(4,VI g)]) (fun g c=>[(0,.vec 102 (c.map encApplied))]) (.k [0,3,4] [5128]) fun _ g c _ o=>.q e (.st e (Ev.lnF e) e (.a e e (.B fun _ p=>.st e (Ev.iaF e e p) e (.c0 e i q fun s _=>.B fun _ l=>.st e (Ev.iaW e e e l) e (.st e (Ev.stE (f:=encApplied) (v':=s) e e (at_some l).2 e (.d4 (.d2 .nil)) e e e e e) e (.R e (fun h=>⟨_,_,h,e,e⟩) (.k [0,3,4] [0]))))) (.X o e e (.n e (.J e (.k [3] [0]))))))) fun b=>.Ek [0] e e e))
def w_toCommand (N:Nat)(a:Command):Option (Command):=
 some a
instance i52 (N:Nat)(a:Command):JG 124 (w_toCommand N a) [.agg [VI a.Op,VI a.Session,VI a.Seq,VS a.Key,VS a.Value,VS a.Old]] 0 [] (fun r=>.agg [VI r.Op,VI r.Session,VI r.Seq,VS r.Key,VS r.Value,VS r.Old]) (fun r=>[]):=.st e e Tryz.call124 fun B r=>.Ek [] e e e
def w_toReply (N:Nat)(a:Reply):Option (Reply):=
 (w_toCommand N a.Command).bind fun b=>
 some ({ a with Command:=b })
instance i53 (N:Nat)(a:Reply):JG 69 (w_toReply N a) [.agg [VI a.Call,VI a.Index,VI a.Command.Op,VI a.Command.Session,VI a.Command.Seq,VS a.Command.Key,VS a.Command.Value,VS a.Command.Old,VS a.Text]] 0 [] (fun r=>.agg [VI r.Call,VI r.Index,VI r.Command.Op,VI r.Command.Session,VI r.Command.Seq,VS r.Command.Key,VS r.Command.Value,VS r.Command.Old,VS r.Text]) (fun r=>[]):=.st e e Tryz.call69 fun B r=>.c0 e i q fun _ _=>.Ek [] e e e
def w_toReplyS_l1 (N:Nat)(b:List Reply):Nat→Int→(List Reply)→Option ((List Reply))
 |0,_,_=>none
 |m+1,a,c=>
 (if decide (a<(b.length:Int))=true then
 (at? b a).bind fun d=>
 (w_toReply N d).bind fun f=>
 (at? c a).bind fun g=>
 w_toReplyS_l1 N b m (w64 (a+1)) (c.set a.toNat f)
 else
 some c)
def w_toReplyS (N:Nat)(a:List Reply):Option ((List Reply)):=
 (mk? (Reply.mk 0 0 (Command.mk 0 0 0 (⟨#[]⟩:BA) (⟨#[]⟩:BA) (⟨#[]⟩:BA)) (⟨#[]⟩:BA)) (a.length:Int)).bind fun b=>
 joinP (fun(c:List Reply)=>
 some c) fun d=>
 (w_toReplyS_l1 N a N 0 b).bind (fun f=>d f)
instance i54 (N:Nat)(d:List Reply):JG 29 (w_toReplyS N d) [RO 133 (d.map encReply)] 0 [] (fun r=>.sl 0 165 0 r.length) (fun r=>[(0,.vec 165 (r.map encReply))]):=.st e e Tryz.call29 fun B r=>.st e (Ev.lnF e) e (.B fun _ m=>.st e (Ev.msW (f:=encReply) (zv:=(Reply.mk 0 0 (Command.mk 0 0 0 (⟨#[]⟩:BA) (⟨#[]⟩:BA) (⟨#[]⟩:BA)) (⟨#[]⟩:BA))) e e e bt165 e m) e (.j e (fun b=>[(3,.sl 0 165 0 b.length)]) (fun b=>[(0,.vec 165 (b.map encReply))]) (fun _=>.L2 e (fun g c=>[(0,RO 133 (d.map encReply)),(3,.sl 0 165 0 c.length),(4,VI g)]) (fun g c=>[(0,.vec 165 (c.map encReply))]) (.k [0,3,4] [5128]) fun _ g c _ o=>.q e (.st e (Ev.lnF e) e (.a e e (.B fun _ p=>.st e (Ev.iaF e e p) e (.c0 e i q fun s _=>.B fun _ l=>.st e (Ev.iaW e e e l) e (.st e (Ev.stE (f:=encReply) (v':=s) e e (at_some l).2 e (.d4 (.d4 (.d1 .nil))) e e e e e) e (.R e (fun h=>⟨_,_,h,e,e⟩) (.k [0,3,4] [0]))))) (.X o e e (.n e (.J e (.k [3] [0]))))))) fun b=>.Ek [0] e e e))
def w_toWorld (N:Nat)(a:World):Option (World):=
 (w_toBoolS N a.Up).bind fun b=>
 (w_toServerS N a.Servers).bind fun c=>
 (w_toMessageS N a.Net).bind fun d=>
 (w_toWaitS N a.Waits).bind fun f=>
 (w_toLeaderS N a.Leaders).bind fun g=>
 (w_toAppliedS N a.Applied).bind fun h=>
 (w_toReplyS N a.Replies).bind fun j=>
 some (World.mk b c d f g h j)
instance i55 (N:Nat)(a:World):JG 7 (w_toWorld N a) [.agg [RO 4 (a.Up.map encB),RO 118 (a.Servers.map (encServerL false)),RO 121 (a.Net.map (encMessageL false)),RO 158 (a.Waits.map encWait),RO 124 (a.Leaders.map (encLeaderL false)),RO 128 (a.Applied.map encApplied),RO 133 (a.Replies.map encReply)]] 0 [] (fun r=>.agg [.sl 0 4 0 r.Up.length,.sl 1 70 0 r.Servers.length,.sl 2 153 0 r.Net.length,.sl 3 156 0 r.Waits.length,.sl 4 160 0 r.Leaders.length,.sl 5 102 0 r.Applied.length,.sl 6 165 0 r.Replies.length]) (fun r=>[(0,.vec 4 (r.Up.map encB)),(1,.vec 70 (r.Servers.map (encServer true))),(2,.vec 153 (r.Net.map (encMessage true))),(3,.vec 156 (r.Waits.map encWait)),(4,.vec 160 (r.Leaders.map (encLeader true))),(5,.vec 102 (r.Applied.map encApplied)),(6,.vec 165 (r.Replies.map encReply))]):=.st e e Tryz.call7 fun B r=>.c1 e i q fun _ _=>.c1 e i q fun _ _=>.c1 e i q fun _ _=>.c1 e i q fun _ _=>.c1 e i q fun _ _=>.c1 e i q fun _ _=>.c1 e i q fun _ _=>.Ek [9224,13320,17416,21512,25608,29704,33800] e e e
def s_OneLeader_l2 (N:Nat)(a:List Leader)(b:Int):Nat→Int→Option ((Bool)⊕(Unit))
 |0,_=>none
 |m+1,c=>
 (if decide (c<b)=true then
 joinP (fun(k:Unit)=>
 s_OneLeader_l2 N a b m (w64 (c+1))) fun d=>
 (at? a b).bind fun f=>
 (at? a c).bind fun g=>
 (if(f.Term==g.Term)=true then
 (at? a b).bind fun h=>
 (at? a c).bind fun j=>
 (if(h.Node !=j.Node)=true then
 some (Sum.inl false)
 else
 d ())
 else
 d ())
 else
 some (Sum.inr ()))
def s_OneLeader_l1 (N:Nat)(a:List Leader):Nat→Int→Option ((Bool)⊕(Unit))
 |0,_=>none
 |m+1,b=>
 (if decide (b<(a.length:Int))=true then
 joinP (fun(f:Unit)=>
 s_OneLeader_l1 N a m (w64 (b+1))) fun c=>
 (s_OneLeader_l2 N a b N 0).bind (Sum.elim (fun d=>some (Sum.inl d)) (fun(g:Unit)=>c ()))
 else
 some (Sum.inr ()))
def s_OneLeader (N:Nat)(a:List Leader):Option (Bool):=
 joinP (fun(d:Unit)=>
 some true) fun b=>
 (s_OneLeader_l1 N a N 0).bind (Sum.elim (fun c=>some c) (fun(f:Unit)=>b ()))
instance i56 (N:Nat)(b:List Leader):JB 42 (s_OneLeader N b) [RO 160 (b.map (encLeader false))]:=.st e e Tryz.call42 fun B r=>.j e (fun _=>[]) (fun _=>[]) (fun _=>.L1 e (fun c=>[(0,RO 160 (b.map (encLeader false))),(3,VI c)]) (fun c=>[]) (.k [0,3] []) fun _ c _ f=>.q e (.st e (Ev.lnF e) e (.a e e (.j e (fun _=>[(0,RO 160 (b.map (encLeader false))),(3,VI c)]) (fun _=>[]) (fun _=>.L1 e (fun d=>[(0,RO 160 (b.map (encLeader false))),(3,VI c),(4,VI d)]) (fun d=>[]) (.k [0,3,4] []) fun _ d _ g=>.q e (.a e e (.j e (fun _=>[(0,RO 160 (b.map (encLeader false))),(3,VI c),(4,VI d)]) (fun _=>[]) (fun _=>.q e (.B fun _ l=>.st e (Ev.iaF e e l) e (.B fun _ m=>.st e (Ev.iaF e e m) e (.a e e (.B fun _ o=>.st e (Ev.iaF e e o) e (.B fun _ p=>.st e (Ev.iaF e e p) e (.dn e (.a e e (.Xr g e e (.il (.X f e (.il (.e e (.Ek [] e e e)))))) (.J e (.k [0,3,4] [])))))) (.dn e (.J e (.k [0,3,4] []))))))) fun _=>.R e (fun h=>⟨_,h,e,e⟩) (.k [0,3,4] [])) (.X g e e (.ir (.n e (.J e (.k [0,3] []))))))) fun _=>.R e (fun h=>⟨_,h,e,e⟩) (.k [0,3] [])) (.X f e e (.ir (.n e (.J e (.k [] [])))))))) fun _=>.Ek [] e e e
def s_SameApplied_l2 (N:Nat)(a:List Applied)(b:Int):Nat→Int→Option ((Bool)⊕(Unit))
 |0,_=>none
 |m+1,c=>
 (if decide (c<b)=true then
 joinP (fun(k:Unit)=>
 s_SameApplied_l2 N a b m (w64 (c+1))) fun g=>
 (at? a b).bind fun h=>
 (at? a c).bind fun j=>
 (if(h.Index==j.Index)=true then
 (at? a b).bind fun d=>
 (at? a c).bind fun f=>
 (if(((d.Entry.Term==f.Entry.Term)&&((d.Entry.Kind==f.Entry.Kind)&&(decide (d.Entry.Data=f.Entry.Data)&&true))) ^^ true)=true then
 some (Sum.inl false)
 else
 g ())
 else
 g ())
 else
 some (Sum.inr ()))
def s_SameApplied_l1 (N:Nat)(a:List Applied):Nat→Int→Option ((Bool)⊕(Unit))
 |0,_=>none
 |m+1,b=>
 (if decide (b<(a.length:Int))=true then
 joinP (fun(f:Unit)=>
 s_SameApplied_l1 N a m (w64 (b+1))) fun c=>
 (s_SameApplied_l2 N a b N 0).bind (Sum.elim (fun d=>some (Sum.inl d)) (fun(g:Unit)=>c ()))
 else
 some (Sum.inr ()))
def s_SameApplied (N:Nat)(a:List Applied):Option (Bool):=
 joinP (fun(d:Unit)=>
 some true) fun b=>
 (s_SameApplied_l1 N a N 0).bind (Sum.elim (fun c=>some c) (fun(f:Unit)=>b ()))
instance i57 (N:Nat)(b:List Applied):Sem Tryz.prog 43 (s_SameApplied N b) [RO 102 (b.map encApplied)] 0 [] (fun r=>VB r) (fun r=>[]):=.so s43 e Tryz.call43 fun B r=>.j e (fun _=>[]) (fun _=>[]) (fun _=>.L1 e (fun c=>[(0,RO 102 (b.map encApplied)),(3,VI c)]) (fun c=>[]) (.k [0,3] []) fun _ c _ f=>.q e (.st e (Ev.lnF e) e (.a e e (.j e (fun _=>[(0,RO 102 (b.map encApplied)),(3,VI c)]) (fun _=>[]) (fun _=>.L1 e (fun d=>[(0,RO 102 (b.map encApplied)),(3,VI c),(4,VI d)]) (fun d=>[]) (.k [0,3,4] []) fun _ d _ g=>.q e (.a e e (.j e (fun _=>[(0,RO 102 (b.map encApplied)),(3,VI c),(4,VI d)]) (fun _=>[]) (fun _=>.q e (.B fun _ l=>.st e (Ev.iaF e e l) e (.B fun _ m=>.st e (Ev.iaF e e m) e (.a e e (.B fun _ o=>.st e (Ev.iaF e e o) e (.B fun _ p=>.st e (Ev.iaF e e p) e (.dn e (.a e e (.Xr g e e (.il (.X f e (.il (.e e (.Ek [] e e e)))))) (.J e (.k [0,3,4] [])))))) (.dn e (.J e (.k [0,3,4] []))))))) fun _=>.R e (fun h=>⟨_,h,e,e⟩) (.k [0,3,4] [])) (.X g e e (.ir (.n e (.J e (.k [0,3] []))))))) fun _=>.R e (fun h=>⟨_,h,e,e⟩) (.k [0,3] [])) (.X f e e (.ir (.n e (.J e (.k [] [])))))))) fun _=>.Ek [] e e e
def s_l19Result (N:Nat)(a:BA):Option (Bool):=
 (if(!decide (a=(⟨#[101,120,112,105,114,101,100]⟩:BA)))=true then
 (if(!decide (a=(⟨#[115,116,97,108,101]⟩:BA)))=true then
 some (!decide (a=(⟨#[103,97,112]⟩:BA)))
 else
 some false)
 else
 some false)
instance i58 (N:Nat)(b:BA):JB 88 (s_l19Result N b) [VS b]:=.st e e Tryz.call88 fun B r=>.q e (.a e e (.a e e (.Ek [] e e e) (.Ek [] e e e)) (.Ek [] e e e))
def s_Once_l2 (N:Nat)(d:List Reply)(f:Int):Nat→Int→Option ((Bool)⊕(Unit))
 |0,_=>none
 |m+1,g=>
 (if decide (g<f)=true then
 joinP (fun(k:Unit)=>
 s_Once_l2 N d f m (w64 (g+1))) fun a=>
 (at? d f).bind fun b=>
 (at? d g).bind fun c=>
 (if decide (b.Command.Session>0)=true then
 (if(b.Command.Session==c.Command.Session)=true then
 (if(b.Command.Seq==c.Command.Seq)=true then
 (s_l19Result N b.Text).bind fun h=>
 (if h=true then
 (s_l19Result N c.Text).bind fun j=>
 (if j=true then
 (if(!decide (b.Text=c.Text))=true then
 some (Sum.inl false)
 else
 a ())
 else
 a ())
 else
 a ())
 else
 a ())
 else
 a ())
 else
 a ())
 else
 some (Sum.inr ()))
def s_Once_l1 (N:Nat)(a:List Reply):Nat→Int→Option ((Bool)⊕(Unit))
 |0,_=>none
 |m+1,b=>
 (if decide (b<(a.length:Int))=true then
 joinP (fun(f:Unit)=>
 s_Once_l1 N a m (w64 (b+1))) fun c=>
 (s_Once_l2 N a b N 0).bind (Sum.elim (fun d=>some (Sum.inl d)) (fun(g:Unit)=>c ()))
 else
 some (Sum.inr ()))
def s_Once (N:Nat)(a:List Reply):Option (Bool):=
 joinP (fun(d:Unit)=>
 some true) fun b=>
 (s_Once_l1 N a N 0).bind (Sum.elim (fun c=>some c) (fun(f:Unit)=>b ()))
instance i59 (N:Nat)(b:List Reply):JB 44 (s_Once N b) [RO 165 (b.map encReply)]:=.st e e Tryz.call44 fun B r=>.j e (fun _=>[]) (fun _=>[]) (fun _=>.L1 e (fun c=>[(0,RO 165 (b.map encReply)),(3,VI c)]) (fun c=>[]) (.k [0,3] []) fun _ c _ f=>.q e (.st e (Ev.lnF e) e (.a e e (.j e (fun _=>[(0,RO 165 (b.map encReply)),(3,VI c)]) (fun _=>[]) (fun _=>.L1 e (fun d=>[(0,RO 165 (b.map encReply)),(3,VI c),(4,VI d)]) (fun d=>[]) (.k [0,3,4] []) fun _ d _ g=>.q e (.a e e (.j e (fun _=>[(0,RO 165 (b.map encReply)),(3,VI c),(4,VI d)]) (fun _=>[]) (fun _=>.B fun _ l=>.st e (Ev.iaF e e l) e (.B fun _ m=>.st e (Ev.iaF e e m) e (.q e (.a e e (.a e e (.a e e (.c0 e i q fun _ _=>.a e e (.c0 e i q fun _ _=>.a e e (.a e e (.Xr g e e (.il (.X f e (.il (.e e (.Ek [] e e e)))))) (.J e (.k [0,3,4] []))) (.J e (.k [0,3,4] []))) (.J e (.k [0,3,4] []))) (.J e (.k [0,3,4] []))) (.J e (.k [0,3,4] []))) (.J e (.k [0,3,4] [])))))) fun _=>.R e (fun h=>⟨_,h,e,e⟩) (.k [0,3,4] [])) (.X g e e (.ir (.n e (.J e (.k [0,3] []))))))) fun _=>.R e (fun h=>⟨_,h,e,e⟩) (.k [0,3] [])) (.X f e e (.ir (.n e (.J e (.k [] [])))))))) fun _=>.Ek [] e e e
def s_l01In (N:Nat)(a:Int)(b:Int)(c:Int):Option (Bool):=
 (if decide (a≥b)=true then
 some (decide (a≤c))
 else
 some false)
instance i60 (N:Nat)(b:Int)(c:Int)(d:Int):JB 19 (s_l01In N b c d) [VI b,VI c,VI d]:=.st e e Tryz.call19 fun B r=>.q e (.a e e (.Ek [] e e e) (.Ek [] e e e))
def s_l07Rise_l1 (N:Nat)(b:List Int)(c:Int)(d:Int):Nat→Int→Option ((Bool)⊕(Unit))
 |0,_=>none
 |m+1,a=>
 (if decide (a<(b.length:Int))=true then
 joinP (fun(l:Unit)=>
 s_l07Rise_l1 N b c d m (w64 (a+1))) fun f=>
 (at? b a).bind fun g=>
 (s_l01In N g c d).bind fun h=>
 (if(!h)=true then
 some (Sum.inl false)
 else
 (if decide (a>0)=true then
 (at? b (w64 (a-1))).bind fun j=>
 (at? b a).bind fun k=>
 (if decide (j≥k)=true then
 some (Sum.inl false)
 else
 f ())
 else
 f ()))
 else
 some (Sum.inr ()))
def s_l07Rise_l1_r (N:Nat)(b:List Int)(c:Int)(d:Int):(List Int)→Int→Option ((Bool)⊕(Unit))
 |[],a=>
 some (Sum.inr ())
 |hd::tl,a=>
 joinP (fun(l:Unit)=>
 s_l07Rise_l1_r N b c d tl (w64 (a+1))) fun f=>
 (some hd).bind fun g=>
 (s_l01In N g c d).bind fun h=>
 (if(!h)=true then
 some (Sum.inl false)
 else
 (if decide (a>0)=true then
 (at? b (w64 (a-1))).bind fun j=>
 (some hd).bind fun k=>
 (if decide (j≥k)=true then
 some (Sum.inl false)
 else
 f ())
 else
 f ()))
theorem s_l07Rise_l1_rng (N:Nat)(a:List Int)(b:Int)(c:Int)(hx:a.length≤1099511627776):∀(d k m:Nat),a.length=k+d→d<m→s_l07Rise_l1 N a b c m (k:Int)=s_l07Rise_l1_r N a b c (a.drop k) (k:Int):=by
 intro d
 induction d with
 |zero=>
  intro k m hd hm
  obtain⟨m,rfl⟩:∃q,m=q+1:=⟨m-1,by omega⟩
  rw[s_l07Rise_l1,IQ (by simp;omega),DN (by omega),s_l07Rise_l1_r]
 |succ d ih=>
  intro k m hd hm
  obtain⟨m,rfl⟩:∃q,m=q+1:=⟨m-1,by omega⟩
  have hk:k<a.length:=by omega
  rw[s_l07Rise_l1,IP (by simp;omega),DG hk,s_l07Rise_l1_r]
  have f:=at_lt hk
  have g:=WS (k:=k) (by omega)
  have h:=ih (k+1) m
  simp only[f,g,h (by omega) (by omega)]
theorem s_l07Rise_l1_eq {N:Nat}(a:List Int)(b:Int)(c:Int)(hx:a.length≤1099511627776)(hN:a.length<N):s_l07Rise_l1 N a b c N 0=s_l07Rise_l1_r N a b c a 0:=s_l07Rise_l1_rng N a b c hx a.length 0 N (by omega) hN
def s_l07Rise (N:Nat)(a:List Int)(b:Int)(c:Int):Option (Bool):=
 joinP (fun(g:Unit)=>
 some true) fun d=>
 (s_l07Rise_l1 N a b c N 0).bind (Sum.elim (fun f=>some f) (fun(h:Unit)=>d ()))
instance i61 (N:Nat)(b:List Int)(c:Int)(d:Int):JB 258 (s_l07Rise N b c d) [RO 3 (b.map encI),VI c,VI d]:=.st e e Tryz.call258 fun B r=>.j e (fun _=>[]) (fun _=>[]) (fun _=>.L1 e (fun f=>[(0,RO 3 (b.map encI)),(1,VI c),(2,VI d),(7,VI f)]) (fun f=>[]) (.k [0,1,2,7] []) fun _ f _ g=>.q e (.st e (Ev.lnF e) e (.a e e (.j e (fun _=>[(0,RO 3 (b.map encI)),(1,VI c),(2,VI d),(7,VI f)]) (fun _=>[]) (fun _=>.q e (.B fun _ l=>.st e (Ev.iaF e e l) e (.c0 e i q fun _ _=>.a e e (.dn e (.Xr g e e (.il (.e e (.Ek [] e e e))))) (.a e e (.B fun _ m=>.st e (Ev.iaF e e m) e (.B fun _ o=>.st e (Ev.iaF e e o) e (.dn e (.a e e (.Xr g e e (.il (.e e (.Ek [] e e e)))) (.J e (.k [0,1,2,7] [])))))) (.dn e (.J e (.k [0,1,2,7] []))))))) fun _=>.R e (fun h=>⟨_,h,e,e⟩) (.k [0,1,2,7] [])) (.X g e e (.ir (.n e (.J e (.k [] [])))))))) fun _=>.Ek [] e e e
def s_ConfOk (N:Nat)(a:List Int):Option (Bool):=
 (s_l01In N (a.length:Int) 1 4).bind fun b=>
 (if b=true then
 (s_l07Rise N a 1 4).bind fun c=>
 some c
 else
 some false)
instance i62 (N:Nat)(b:List Int):JB 259 (s_ConfOk N b) [RO 3 (b.map encI)]:=.st e e Tryz.call259 fun B r=>.q e (.st e (Ev.lnF e) e (.c0 e i q fun _ _=>.a e e (.c0 e i q fun _ _=>.Ek [] e e e) (.Ek [] e e e)))
def s_ReadConf_l1 (N:Nat)(b:BA):Nat→Int→(List Int)→Option ((List Int))
 |0,_,_=>none
 |m+1,a,c=>
 (if decide (a<(b.size:Int))=true then
 (if decide (a≤4)=true then
 (sat? b a).bind fun d=>
 (cat? c ([w64 (d)]:List Int)).bind fun f=>
 s_ReadConf_l1 N b m (w64 (a+1)) f
 else
 some c)
 else
 some c)
def s_ReadConf (N:Nat)(b:BA):Option ((List Int)×Bool):=
 joinP (fun(a:List Int)=>
 (if((a.length:Int)!=(b.size:Int))=true then
 some (([]:List Int),false)
 else
 (s_ConfOk N a).bind fun c=>
 (if(!c)=true then
 some (([]:List Int),false)
 else
 some (a,true)))) fun d=>
 (s_ReadConf_l1 N b N 0 ([]:List Int)).bind (fun f=>d f)
instance i63 (N:Nat)(b:BA):JG 256 (s_ReadConf N b) [VS b] 0 [] (fun r=>.tup [.sl 0 3 0 r.1.length,VB r.2]) (fun r=>[(0,.vec 3 (r.1.map encI))]):=.st e e Tryz.call256 fun B r=>.st e (Ev.bsW (ys:=([]:List Int)) (f:=encI) e .nil e e e e e) e (.j e (fun c=>[(0,VS b),(4,.sl 0 3 0 c.length)]) (fun c=>[(0,.vec 3 (c.map encI))]) (fun _=>.L2 e (fun g d=>[(0,VS b),(4,.sl 0 3 0 d.length),(5,VI g)]) (fun g d=>[(0,.vec 3 (d.map encI))]) (.k [0,4,5] [5096]) fun _ g d _ l=>.q e (.q e (.a e e (.a e e (.B fun m o=>.st e (Ev.ixS e e o) e (.st e (Ev.bsW (ys:=([w64 (m)]:List Int)) (f:=encI) e (.d1 .nil) e e e e e) e (.B fun _ p=>.st e (Ev.apW (f:=encI) (ontoW e e e) (addsW e e e (fun _=>e)) e bt3 e p) e (.R e (fun h=>⟨_,_,h,e,e⟩) (.k [0,4,5] [21576]))))) (.X l e e (.n e (.J e (.k [0,4] [0]))))) (.X l e e (.n e (.J e (.k [0,4] [0]))))))) fun c=>.q e (.q e (.a e e (.st e (Ev.bsW (ys:=([]:List Int)) (f:=encI) e .nil e e e e e) e (.Ek [29672] e e e)) (.f (hp:=(.cons (.borrow e (by decide) lw) .nil)) (hcase:=fun _=>(.inr ⟨rfl,ownL_root trivial⟩)) [] [0] 0 e i q fun _ _=>.a e e (.st e (Ev.bsW (ys:=([]:List Int)) (f:=encI) e .nil e e e e e) e (.Ek [29672] e e e)) (.Ek [0] e e e)))))
def s_EntryOk (N:Nat)(a:Entry):Option (Bool):=
 (s_l01In N a.Term 0 100000).bind fun b=>
 (if(!b)=true then
 some false
 else
 (if(a.Kind==1)=true then
 some (decide (a.Data=(⟨#[]⟩:BA)))
 else
 (if(a.Kind==2)=true then
 (s_ReadConf N a.Data).bind fun c=>
 some c.2
 else
 (if(a.Kind==3)=true then
 some (decide ((a.Data.size:Int)≤120))
 else
 some false))))
instance i64 (N:Nat)(b:Entry):JB 220 (s_EntryOk N b) [.agg [VI b.Term,VI b.Kind,VS b.Data]]:=.st e e Tryz.call220 fun B r=>.q e (.c0 e i q fun _ _=>.a e e (.Ek [] e e e) (.q e (.a e e (.Ek [] e e e) (.a e e (.c1 e i q fun _ _=>.Ek [] e e e) (.a e e (.Ek [] e e e) (.Ek [] e e e))))))
def s_LogOk_l1 (N:Nat)(a:Log):Nat→Int→Int→Option ((Bool)⊕(Unit))
 |0,_,_=>none
 |m+1,c,b=>
 (if decide (b<(a.Entries.length:Int))=true then
 (at? a.Entries b).bind fun d=>
 (s_EntryOk N d).bind fun f=>
 (if(!f)=true then
 some (Sum.inl false)
 else
 (at? a.Entries b).bind fun g=>
 (if decide (g.Term<c)=true then
 some (Sum.inl false)
 else
 (at? a.Entries b).bind fun h=>
 s_LogOk_l1 N a m h.Term (w64 (b+1))))
 else
 some (Sum.inr ()))
def s_LogOk_l1_r (N:Nat)(c:Log):(List Entry)→Int→Int→Option ((Bool)⊕(Unit))
 |[],a,b=>
 some (Sum.inr ())
 |hd::tl,a,b=>
 (some hd).bind fun d=>
 (s_EntryOk N d).bind fun f=>
 (if(!f)=true then
 some (Sum.inl false)
 else
 (some hd).bind fun g=>
 (if decide (g.Term<a)=true then
 some (Sum.inl false)
 else
 (some hd).bind fun h=>
 s_LogOk_l1_r N c tl h.Term (w64 (b+1))))
theorem s_LogOk_l1_rng (N:Nat)(a:Log)(hx:a.Entries.length≤1099511627776):∀(d k m:Nat)(b:Int),a.Entries.length=k+d→d<m→s_LogOk_l1 N a m b (k:Int)=s_LogOk_l1_r N a (a.Entries.drop k) b (k:Int):=by
 intro d
 induction d with
 |zero=>
  intro k m b hd hm
  obtain⟨m,rfl⟩:∃q,m=q+1:=⟨m-1,by omega⟩
  rw[s_LogOk_l1,IQ (by simp;omega),DN (by omega),s_LogOk_l1_r]
 |succ d ih=>
  intro k m b hd hm
  obtain⟨m,rfl⟩:∃q,m=q+1:=⟨m-1,by omega⟩
  have hk:k<a.Entries.length:=by omega
  rw[s_LogOk_l1,IP (by simp;omega),DG hk,s_LogOk_l1_r]
  have c:=at_lt hk
  have f:=WS (k:=k) (by omega)
  have g:=ih (k+1) m
  simp only[c,f,g _ (by omega) (by omega)]
theorem s_LogOk_l1_eq {N:Nat}(a:Log)(hx:a.Entries.length≤1099511627776)(hN:a.Entries.length<N)(b:Int):s_LogOk_l1 N a N b 0=s_LogOk_l1_r N a a.Entries b 0:=s_LogOk_l1_rng N a hx a.Entries.length 0 N b (by omega) hN
def s_LogOk (N:Nat)(a:Log):Option (Bool):=
 (s_l01In N a.Start 0 100000).bind fun b=>
 (if(!b)=true then
 some false
 else
 (s_l01In N a.StartTerm 0 100000).bind fun c=>
 (if(!c)=true then
 some false
 else
 (if decide ((a.Entries.length:Int)>120)=true then
 some false
 else
 (if(decide ((w64 (a.Start+(a.Entries.length:Int)))>100000))=true then
 some false
 else
 joinP (fun(g:Unit)=>
 some true) fun d=>
 (s_LogOk_l1 N a N a.StartTerm 0).bind (Sum.elim (fun f=>some f) (fun(h:Unit)=>d ()))))))
instance i65 (N:Nat)(b:Log):JB 157 (s_LogOk N b) [.agg [VI b.Start,VI b.StartTerm,RO 100 (b.Entries.map encEntry)]]:=.st e e Tryz.call157 fun B r=>.q e (.q e (.c0 e i q fun _ _=>.a e e (.Ek [] e e e) (.c0 e i q fun _ _=>.a e e (.Ek [] e e e) (.st e (Ev.lnF e) e (.a e e (.Ek [] e e e) (.st e (Ev.lnF e) e (.a e e (.Ek [] e e e) (.j e (fun _=>[]) (fun _=>[]) (fun _=>.L2 e (fun c d=>[(1,.ptr 0 0),(3,VI c),(4,VI d)]) (fun c d=>[(0,.box [VI b.Start,VI b.StartTerm,RO 100 (b.Entries.map encEntry)])]) (.k [1,3,4] [1000]) fun _ c d _ f=>.q e (.st e (Ev.lnF e) e (.a e e (.q e (.q e (.q e (.B fun _ g=>.st e (Ev.iaF e e g) e (.c0 e i q fun _ _=>.a e e (.Xr f e e (.il (.e e (.Ek [] e e e)))) (.B fun _ l=>.st e (Ev.iaF e e l) e (.a e e (.Xr f e e (.il (.e e (.Ek [] e e e)))) (.B fun _ m=>.st e (Ev.iaF e e m) e (.R e (fun h=>⟨_,_,h,e,e⟩) (.k [1,3,4] [0])))))))))) (.X f e e (.ir (.n e (.J e (.k [] [])))))))) fun _=>.Ek [] e e e))))))))
def s_l12Last (N:Nat)(a:Log):Option (Int):=
 some (w64 (a.Start+(a.Entries.length:Int)))
instance i66 (N:Nat)(a:Log):JI 158 (s_l12Last N a) [.agg [VI a.Start,VI a.StartTerm,RO 100 (a.Entries.map encEntry)]]:=.st e e Tryz.call158 fun B r=>.st e (Ev.lnF e) e (.Ek [] e e e)
def s_EntryAt (N:Nat)(a:Log)(b:Int):Option (Entry×Bool):=
 (s_LogOk N a).bind fun c=>
 (if(!c)=true then
 some ((Entry.mk 0 0 (⟨#[]⟩:BA)),false)
 else
 (if decide (b≤a.Start)=true then
 some ((Entry.mk 0 0 (⟨#[]⟩:BA)),false)
 else
 (s_l12Last N a).bind fun d=>
 (if decide (b>d)=true then
 some ((Entry.mk 0 0 (⟨#[]⟩:BA)),false)
 else
 (at? a.Entries (w64 ((w64 (b-a.Start))-1))).bind fun f=>
 some (f,true))))
instance i67 (N:Nat)(b:Log)(c:Int):JG 89 (s_EntryAt N b c) [.agg [VI b.Start,VI b.StartTerm,RO 100 (b.Entries.map encEntry)],VI c] 0 [] (fun r=>.tup [.agg [VI r.1.Term,VI r.1.Kind,VS r.1.Data],VB r.2]) (fun r=>[]):=.st e e Tryz.call89 fun B r=>.q e (.q e (.c0 e i q fun _ _=>.a e e (.Ek [] e e e) (.a e e (.Ek [] e e e) (.c0 e i q fun _ _=>.a e e (.Ek [] e e e) (.B fun _ d=>.st e (Ev.iaF e e d) e (.Ek [] e e e))))))
def s_Whole_l1 (N:Nat)(b:List Leader)(a:Applied):Nat→Int→Option ((Bool)⊕(Unit))
 |0,_=>none
 |m+1,c=>
 (if decide (c<(b.length:Int))=true then
 joinP (fun(k:Unit)=>
 s_Whole_l1 N b a m (w64 (c+1))) fun f=>
 (at? b c).bind fun g=>
 (if decide (g.Term≤a.Term)=true then
 f ()
 else
 (at? b c).bind fun h=>
 (if decide (h.Log.Start≥a.Index)=true then
 f ()
 else
 (at? b c).bind fun j=>
 (s_EntryAt N j.Log a.Index).bind fun d=>
 (if(!d.2)=true then
 some (Sum.inl false)
 else
 (if(((d.1.Term==a.Entry.Term)&&((d.1.Kind==a.Entry.Kind)&&(decide (d.1.Data=a.Entry.Data)&&true))) ^^ true)=true then
 some (Sum.inl false)
 else
 f ()))))
 else
 some (Sum.inr ()))
def s_Whole (N:Nat)(a:List Leader)(b:Applied):Option (Bool):=
 joinP (fun(f:Unit)=>
 some true) fun c=>
 (s_Whole_l1 N a b N 0).bind (Sum.elim (fun d=>some d) (fun(g:Unit)=>c ()))
instance i68 (N:Nat)(c:List Leader)(b:Applied):Sem Tryz.prog 45 (s_Whole N c b) [RO 160 (c.map (encLeader false)),.agg [VI b.Node,VI b.Term,VI b.Index,VI b.Entry.Term,VI b.Entry.Kind,VS b.Entry.Data]] 0 [] (fun r=>VB r) (fun r=>[]):=.so s45 e Tryz.call45 fun B r=>.j e (fun _=>[]) (fun _=>[]) (fun _=>.L1 e (fun d=>[(0,RO 160 (c.map (encLeader false))),(3,.ptr 0 0),(5,VI d)]) (fun d=>[(0,.box [VI b.Node,VI b.Term,VI b.Index,VI b.Entry.Term,VI b.Entry.Kind,VS b.Entry.Data])]) (.k [0,3,5] [1000]) fun _ d _ f=>.q e (.st e (Ev.lnF e) e (.a e e (.j e (fun _=>[(0,RO 160 (c.map (encLeader false))),(3,.ptr 0 0),(5,VI d)]) (fun _=>[(0,.box [VI b.Node,VI b.Term,VI b.Index,VI b.Entry.Term,VI b.Entry.Kind,VS b.Entry.Data])]) (fun _=>.q e (.q e (.B fun _ g=>.st e (Ev.iaF e e g) e (.a e e (.dn e (.J e (.k [0,3,5] [0]))) (.B fun _ l=>.st e (Ev.iaF e e l) e (.dn e (.a e e (.J e (.k [0,3,5] [0])) (.B fun _ m=>.st e (Ev.iaF e e m) e (.c0 e i q fun _ _=>.dn e (.q e (.a e e (.Xr f e e (.il (.e e (.Ek [] e e e)))) (.a e e (.Xr f e e (.il (.e e (.Ek [] e e e)))) (.J e (.k [0,3,5] [0])))))))))))))) fun _=>.R e (fun h=>⟨_,h,e,e⟩) (.k [0,3,5] [0])) (.X f e e (.ir (.n e (.J e (.k [] [])))))))) fun _=>.Ek [] e e e
def s_DiskOk_l1 (N:Nat)(b:Disk):Nat→Int→Option ((Bool)⊕(Unit))
 |0,_=>none
 |m+1,a=>
 (if decide (a<(b.Files.length:Int))=true then
 joinP (fun(k:Unit)=>
 s_DiskOk_l1 N b m (w64 (a+1))) fun c=>
 (at? b.Files a).bind fun d=>
 (s_l01In N (d.Name.size:Int) 1 12).bind fun f=>
 (if(!f)=true then
 some (Sum.inl false)
 else
 (at? b.Files a).bind fun g=>
 (if decide ((g.Text.size:Int)>20000)=true then
 some (Sum.inl false)
 else
 (if decide (a>0)=true then
 (at? b.Files (w64 (a-1))).bind fun h=>
 (at? b.Files a).bind fun j=>
 (if(!Op.bytesLess h.Name.toList j.Name.toList)=true then
 some (Sum.inl false)
 else
 c ())
 else
 c ())))
 else
 some (Sum.inr ()))
def s_DiskOk (N:Nat)(a:Disk):Option (Bool):=
 (if decide ((a.Files.length:Int)>30)=true then
 some false
 else
 joinP (fun(d:Unit)=>
 some true) fun b=>
 (s_DiskOk_l1 N a N 0).bind (Sum.elim (fun c=>some c) (fun(f:Unit)=>b ())))
instance i69 (N:Nat)(b:Disk):JB 61 (s_DiskOk N b) [.agg [RO 141 (b.Files.map encFile)]]:=.st e e Tryz.call61 fun B r=>.q e (.st e (Ev.lnF e) e (.a e e (.Ek [] e e e) (.j e (fun _=>[]) (fun _=>[]) (fun _=>.L1 e (fun c=>[(1,.ptr 0 0),(3,VI c)]) (fun c=>[(0,.box [RO 141 (b.Files.map encFile)])]) (.k [1,3] [1000]) fun _ c _ d=>.q e (.st e (Ev.lnF e) e (.a e e (.j e (fun _=>[(1,.ptr 0 0),(3,VI c)]) (fun _=>[(0,.box [RO 141 (b.Files.map encFile)])]) (fun _=>.q e (.B fun _ f=>.st e (Ev.iaF e e f) e (.c0 e i q fun _ _=>.a e e (.dn e (.Xr d e e (.il (.e e (.Ek [] e e e))))) (.B fun _ g=>.st e (Ev.iaF e e g) e (.a e e (.dn e (.Xr d e e (.il (.e e (.Ek [] e e e))))) (.a e e (.B fun _ l=>.st e (Ev.iaF e e l) e (.B fun _ m=>.st e (Ev.iaF e e m) e (.dn e (.a e e (.Xr d e e (.il (.e e (.Ek [] e e e)))) (.J e (.k [1,3] [0])))))) (.dn e (.J e (.k [1,3] [0]))))))))) fun _=>.R e (fun h=>⟨_,h,e,e⟩) (.k [1,3] [0])) (.X d e e (.ir (.n e (.J e (.k [] [])))))))) fun _=>.Ek [] e e e)))
def s_l03At_l1 (N:Nat)(b:Disk)(c:BA):Nat→Int→Option ((Int)⊕(Unit))
 |0,_=>none
 |m+1,a=>
 (if decide (a<(b.Files.length:Int))=true then
 (at? b.Files a).bind fun d=>
 (if decide (d.Name=c)=true then
 some (Sum.inl a)
 else
 s_l03At_l1 N b c m (w64 (a+1)))
 else
 some (Sum.inr ()))
def s_l03At_l1_r (N:Nat)(c:Disk)(b:BA):(List File)→Int→Option ((Int)⊕(Unit))
 |[],a=>
 some (Sum.inr ())
 |hd::tl,a=>
 (some hd).bind fun d=>
 (if decide (d.Name=b)=true then
 some (Sum.inl a)
 else
 s_l03At_l1_r N c b tl (w64 (a+1)))
theorem s_l03At_l1_rng (N:Nat)(a:Disk)(b:BA)(hx:a.Files.length≤1099511627776):∀(d k m:Nat),a.Files.length=k+d→d<m→s_l03At_l1 N a b m (k:Int)=s_l03At_l1_r N a b (a.Files.drop k) (k:Int):=by
 intro d
 induction d with
 |zero=>
  intro k m hd hm
  obtain⟨m,rfl⟩:∃q,m=q+1:=⟨m-1,by omega⟩
  rw[s_l03At_l1,IQ (by simp;omega),DN (by omega),s_l03At_l1_r]
 |succ d ih=>
  intro k m hd hm
  obtain⟨m,rfl⟩:∃q,m=q+1:=⟨m-1,by omega⟩
  have hk:k<a.Files.length:=by omega
  rw[s_l03At_l1,IP (by simp;omega),DG hk,s_l03At_l1_r]
  have c:=at_lt hk
  have f:=WS (k:=k) (by omega)
  have g:=ih (k+1) m
  simp only[c,f,g (by omega) (by omega)]
theorem s_l03At_l1_eq {N:Nat}(a:Disk)(b:BA)(hx:a.Files.length≤1099511627776)(hN:a.Files.length<N):s_l03At_l1 N a b N 0=s_l03At_l1_r N a b a.Files 0:=s_l03At_l1_rng N a b hx a.Files.length 0 N (by omega) hN
def s_l03At (N:Nat)(a:Disk)(b:BA):Option (Int):=
 joinP (fun(f:Unit)=>
 some (-1:Int)) fun c=>
 (s_l03At_l1 N a b N 0).bind (Sum.elim (fun d=>some d) (fun(g:Unit)=>c ()))
instance i70 (N:Nat)(b:Disk)(c:BA):JI 56 (s_l03At N b c) [.agg [RO 141 (b.Files.map encFile)],VS c]:=.st e e Tryz.call56 fun B r=>.j e (fun _=>[]) (fun _=>[]) (fun _=>.L1 e (fun d=>[(1,VS c),(2,.ptr 0 0),(5,VI d)]) (fun d=>[(0,.box [RO 141 (b.Files.map encFile)])]) (.k [1,2,5] [1000]) fun _ d _ f=>.q e (.st e (Ev.lnF e) e (.a e e (.q e (.B fun _ g=>.st e (Ev.iaF e e g) e (.a e e (.Xr f e e (.il (.e e (.Ek [] e e e)))) (.R e (fun h=>⟨_,h,e,e⟩) (.k [1,2,5] [0]))))) (.X f e e (.ir (.n e (.J e (.k [] [])))))))) fun _=>.Ek [] e e e
def s_FileAt (N:Nat)(a:Disk)(c:BA):Option (BA×Bool):=
 (s_l03At N a c).bind fun b=>
 (s_DiskOk N a).bind fun d=>
 (if(!d)=true then
 some ((⟨#[]⟩:BA),false)
 else
 (if decide (b<0)=true then
 some ((⟨#[]⟩:BA),false)
 else
 (at? a.Files b).bind fun f=>
 some (f.Text,true)))
instance i71 (N:Nat)(b:Disk)(c:BA):JG 107 (s_FileAt N b c) [.agg [RO 141 (b.Files.map encFile)],VS c] 0 [] (fun r=>.tup [VS r.1,VB r.2]) (fun r=>[]):=.st e e Tryz.call107 fun B r=>.c0 e i q fun _ _=>.q e (.q e (.c0 e i q fun _ _=>.a e e (.Ek [] e e e) (.a e e (.Ek [] e e e) (.B fun _ d=>.st e (Ev.iaF e e d) e (.Ek [] e e e)))))
def s_SumMore_l2 (N:Nat):Nat→Int→Int→Option (Int)
 |0,_,_=>none
 |m+1,a,b=>
 (if decide (b<8)=true then
 joinP (fun(f:Int)=>
 s_SumMore_l2 N m f (w64 (b+1))) fun c=>
 (intD .rem .u32 a 2).bind fun g=>
 (intD .quo .u32 a 2).bind fun d=>
 (if(g==1)=true then
 (intD .xor .u32 d 3558460437).bind fun h=>
 c h
 else
 c d)
 else
 some a)
def s_SumMore_l1 (N:Nat)(a:BA):Nat→Int→Int→Option (Int)
 |0,_,_=>none
 |m+1,c,b=>
 (if decide (b<(a.size:Int))=true then
 joinP (fun(d:Int)=>
 s_SumMore_l1 N a m d (w64 (b+1))) fun f=>
 (sat? a b).bind fun g=>
 (intD .xor .u32 c (IntKind.wrap .u32 (g))).bind fun h=>
 (s_SumMore_l2 N N h 0).bind (fun j=>f j)
 else
 some c)
def s_SumMore (N:Nat)(a:Int)(b:BA):Option (Int):=
 joinP (fun(c:Int)=>
 some c) fun d=>
 (s_SumMore_l1 N b N a 0).bind (fun f=>d f)
instance i72 (N:Nat)(s:Int)(b:BA):JG 228 (s_SumMore N s b) [.c (.i .u32 s),VS b] 0 [] (fun r=>.c (.i .u32 r)) (fun r=>[]):=.st e e Tryz.call228 fun B r=>.j e (fun g=>[(0,.c (.i .u32 g))]) (fun g=>[]) (fun _=>.L2 e (fun l d=>[(0,.c (.i .u32 l)),(1,VS b),(5,VI d)]) (fun l d=>[]) (.k [0,1,5] []) fun _ l d _ t=>.q e (.a e e (.j e (fun m=>[(0,.c (.i .u32 m)),(1,VS b),(5,VI d)]) (fun m=>[]) (fun _=>.B fun _ u=>.st e (Ev.ixS e e u) e (.B fun _ w=>.st e (.bin e e w) e (.L2 e (fun o f=>[(0,.c (.i .u32 o)),(1,VS b),(5,VI d),(6,VI f)]) (fun o f=>[]) (.k [0,1,5,6] []) fun _ o f _ x=>.q e (.a e e (.j e (fun p=>[(0,.c (.i .u32 p)),(1,VS b),(5,VI d),(6,VI f)]) (fun p=>[]) (fun _=>.B fun _ y=>.st e (.bin e e y) e (.B fun _ v=>.st e (.bin e e v) e (.a e e (.B fun _ z=>.st e (.bin e e z) e (.J e (.k [0,1,5,6] []))) (.J e (.k [0,1,5,6] []))))) fun p=>.R e (fun h=>⟨_,_,h,e,e⟩) (.k [0,1,5,6] [])) (.X x e e (.n e (.J e (.k [0,1,5] [])))))))) fun m=>.R e (fun h=>⟨_,_,h,e,e⟩) (.k [0,1,5] [])) (.X t e e (.n e (.J e (.k [0] [])))))) fun g=>.Ek [] e e e
def s_SumOf (N:Nat)(a:BA):Option (Int):=
 (s_SumMore N 4294967295 a).bind fun b=>
 some b
instance i73 (N:Nat)(a:BA):JG 175 (s_SumOf N a) [VS a] 0 [] (fun r=>.c (.i .u32 r)) (fun r=>[]):=.st e e Tryz.call175 fun B r=>.c0 e i q fun _ _=>.Ek [] e e e
def s_l02Four (N:Nat)(a:Int):Option (BA):=
 (intSh .shr .u32 a 24).bind fun b=>
 (intSh .shr .u32 a 16).bind fun c=>
 (intSh .shr .u32 a 8).bind fun d=>
 some (strOf ([IntKind.wrap .u8 (b),IntKind.wrap .u8 (c),IntKind.wrap .u8 (d),IntKind.wrap .u8 (a)]:List Int))
instance i74 (N:Nat)(a:Int):JS 174 (s_l02Four N a) [.c (.i .u32 a)]:=.st e e Tryz.call174 fun B r=>.B fun b d=>.st e (.sh e e d) e (.B fun g h=>.st e (.sh e e h) e (.B fun j k=>.st e (.sh e e k) e (.st e (Ev.bsW (ys:=([IntKind.wrap .u8 (b),IntKind.wrap .u8 (g),IntKind.wrap .u8 (j),IntKind.wrap .u8 (a)]:List Int)) (f:=encU) e (.d4 .nil) e e e e e) e (.st e (.sbC (addsW (f:=encU) e e e (fun _=>e))) e (.Ek [] e e e)))))
def s_Unsealed (N:Nat)(a:BA):Option (BA×Bool):=
 (if(decide ((w64 ((a.size:Int)-4))<0))=true then
 some ((⟨#[]⟩:BA),false)
 else
 (if(decide ((w64 ((a.size:Int)-4))>20000))=true then
 some ((⟨#[]⟩:BA),false)
 else
 (sdrop? a (w64 ((a.size:Int)-4))).bind fun b=>
 (stake? a (w64 ((a.size:Int)-4))).bind fun c=>
 (s_SumOf N c).bind fun d=>
 (s_l02Four N d).bind fun f=>
 (if(!decide (b=f))=true then
 some ((⟨#[]⟩:BA),false)
 else
 (stake? a (w64 ((a.size:Int)-4))).bind fun g=>
 some (g,true))))
instance i75 (N:Nat)(b:BA):JG 167 (s_Unsealed N b) [VS b] 0 [] (fun r=>.tup [VS r.1,VB r.2]) (fun r=>[]):=.st e e Tryz.call167 fun B r=>.q e (.q e (.a e e (.dn e (.Ek [] e e e)) (.a e e (.dn e (.Ek [] e e e)) (.B fun _ c=>.st e (Ev.ssL e e c) e (.B fun _ d=>.st e (Ev.ssH e e d) e (.c0 e i q fun _ _=>.c0 e i q fun _ _=>.dn e (.a e e (.Ek [] e e e) (.B fun _ f=>.st e (Ev.ssH e e f) e (.Ek [] e e e)))))))))
def s_l01Var_l1 (N:Nat):Nat→Int→(List Int)→Option (Int×(List Int))
 |0,_,_=>none
 |m+1,a,b=>
 (if decide (a>127)=true then
 (intD .rem .i64 a 128).bind fun c=>
 (cat? b ([IntKind.wrap .u8 (w64 (c+128))]:List Int)).bind fun d=>
 (intD .quo .i64 a 128).bind fun f=>
 s_l01Var_l1 N m f d
 else
 some (a,b))
def s_l01Var (N:Nat)(c:Int):Option (BA):=
 joinP (fun(a:Int×(List Int))=>
 (cat? a.2 ([IntKind.wrap .u8 (a.1)]:List Int)).bind fun d=>
 some (strOf d)) fun f=>
 (s_l01Var_l1 N N c ([]:List Int)).bind (fun b=>f (b.1,b.2))
instance i76 (N:Nat)(g:Int):JS 172 (s_l01Var N g) [VI g]:=.st e e Tryz.call172 fun B r=>.st e (Ev.bsW (ys:=([]:List Int)) (f:=encU) e .nil e e e e e) e (.j e (fun b=>[(0,VI b.1),(3,.sl 0 5 0 b.2.length)]) (fun b=>[(0,.vec 5 (b.2.map encU))]) (fun _=>.L2 e (fun d c=>[(0,VI d),(3,.sl 0 5 0 c.length)]) (fun d c=>[(0,.vec 5 (c.map encU))]) (.k [0,3] [5096]) fun _ d c _ l=>.q e (.a e e (.B fun m o=>.st e (.bin e e o) e (.st e (Ev.bsW (ys:=([IntKind.wrap .u8 (w64 (m+128))]:List Int)) (f:=encU) e (.d1 .nil) e e e e e) e (.B fun _ p=>.st e (Ev.apW (f:=encU) (ontoW e e e) (addsW e e e (fun _=>e)) e bt5 e p) e (.B fun _ s=>.st e (.bin e e s) e (.R e (fun h=>⟨_,_,h,e,e⟩) (.k [0,3] [13384])))))) (.X l e e (.n e (.J e (.k [0,3] [0])))))) fun b=>.st e (Ev.bsW (ys:=([IntKind.wrap .u8 (b.1)]:List Int)) (f:=encU) e (.d1 .nil) e e e e e) e (.B fun _ t=>.st e (Ev.apW (f:=encU) (ontoW e e e) (addsW e e e (fun _=>e)) e bt5 e t) e (.st e (.sbC (addsW (f:=encU) e e e (fun _=>e))) e (.Ek [] e e e))))
def s_ReadVar_l1 (N:Nat)(b:BA)(g:Int):Nat→Int→Int→Int→Option ((Int×Int×Bool)⊕(Unit))
 |0,_,_,_=>none
 |m+1,d,c,a=>
 (if decide (a<(b.size:Int))=true then
 (if decide (a<(w64 (g+5)))=true then
 (sat? b a).bind fun h=>
 (intD .rem .i64 (w64 (h)) 128).bind fun f=>
 (sat? b a).bind fun j=>
 (if decide (j<128)=true then
 (if(decide ((w64 (d+(w64 (f*c))))>1000000000))=true then
 some (Sum.inl (0,0,false))
 else
 (s_l01Var N (w64 (d+(w64 (f*c))))).bind fun k=>
 (scut? b g (w64 (a+1))).bind fun l=>
 (if(!decide (k=l))=true then
 some (Sum.inl (0,0,false))
 else
 some (Sum.inl (w64 (d+(w64 (f*c))),w64 (a+1),true))))
 else
 s_ReadVar_l1 N b g m (w64 (d+(w64 (f*c)))) (w64 (c*128)) (w64 (a+1)))
 else
 some (Sum.inr ()))
 else
 some (Sum.inr ()))
def s_ReadVar (N:Nat)(b:BA)(a:Int):Option (Int×Int×Bool):=
 (s_l01In N a 0 (b.size:Int)).bind fun c=>
 (if(!c)=true then
 some (0,0,false)
 else
 joinP (fun(g:Unit)=>
 some (0,0,false)) fun d=>
 (s_ReadVar_l1 N b a N 0 1 a).bind (Sum.elim (fun f=>some f) (fun(h:Unit)=>d ())))
instance i77 (N:Nat)(c:BA)(d:Int):JG 224 (s_ReadVar N c d) [VS c,VI d] 0 [] (fun r=>.tup [VI r.1,VI r.2.1,VB r.2.2]) (fun r=>[]):=.st e e Tryz.call224 fun B r=>.q e (.c0 e i q fun _ _=>.a e e (.Ek [] e e e) (.j e (fun _=>[]) (fun _=>[]) (fun _=>.L3 e (fun f g l=>[(0,VS c),(1,VI d),(7,VI f),(8,VI g),(9,VI l)]) (fun f g l=>[]) (.k [0,1,7,8,9] []) fun _ f g l _ b=>.q e (.q e (.a e e (.a e e (.q e (.B fun _ m=>.st e (Ev.ixS e e m) e (.B fun _ o=>.st e (.bin e e o) e (.B fun _ p=>.st e (Ev.ixS e e p) e (.a e e (.q e (.q e (.a e e (.dn e (.Xr b e e (.il (.e e (.Ek [] e e e))))) (.c0 e i q fun _ _=>.B fun _ s=>.st e (Ev.ssB e e e s) e (.dn e (.a e e (.Xr b e e (.il (.e e (.Ek [] e e e)))) (.Xr b e e (.il (.e e (.Ek [] e e e)))))))))) (.R e (fun h=>⟨_,_,_,h,e,e⟩) (.k [0,1,7,8,9] []))))))) (.X b e e (.ir (.n e (.J e (.k [] [])))))) (.X b e e (.ir (.n e (.J e (.k [] [])))))))) fun _=>.Ek [] e e e))
def s_l05Var (N:Nat)(a:Tl05Cur):Option (Int×Tl05Cur):=
 (s_ReadVar N a.text a.at').bind fun b=>
 (if a.bad=true then
 some (0,(Tl05Cur.mk a.text a.at' true))
 else
 (if(!b.2.2)=true then
 some (0,(Tl05Cur.mk a.text a.at' true))
 else
 some (b.1,(Tl05Cur.mk a.text b.2.1 a.bad))))
instance i78 (N:Nat)(b:Tl05Cur):JG 168 (s_l05Var N b) [.ptr 0 0] 1 [(0,.box [VS b.text,VI b.at',VB b.bad])] (fun r=>VI r.1) (fun r=>[(0,.box [VS r.2.text,VI r.2.at',VB r.2.bad])]):=.st e e Tryz.call168 fun B r=>.c0 e i q fun _ _=>.dn e (.q e (.q e (.a e e (.Ek [0] e e e) (.a e e (.Ek [0] e e e) (.Ek [0] e e e)))))
def s_ManifestOk (N:Nat)(a:Manifest):Option (Bool):=
 (s_l01In N (a.Segs.length:Int) 1 8).bind fun b=>
 (if b=true then
 (s_l01In N a.Next 0 1000).bind fun c=>
 (if c=true then
 (s_l07Rise N a.Segs 0 (w64 (a.Next-1))).bind fun d=>
 (if d=true then
 (s_l01In N a.Base 0 100000).bind fun f=>
 (if f=true then
 (s_l01In N a.BaseTerm 0 100000).bind fun g=>
 (if g=true then
 (s_ConfOk N a.Conf).bind fun h=>
 some h
 else
 some false)
 else
 some false)
 else
 some false)
 else
 some false)
 else
 some false)
instance i79 (N:Nat)(b:Manifest):JB 225 (s_ManifestOk N b) [.agg [RO 3 (b.Segs.map encI),VI b.Next,VI b.Base,VI b.BaseTerm,RO 3 (b.Conf.map encI)]]:=.st e e Tryz.call225 fun B r=>.q e (.st e (Ev.lnF e) e (.c0 e i q fun _ _=>.a e e (.c0 e i q fun _ _=>.a e e (.c0 e i q fun _ _=>.a e e (.c0 e i q fun _ _=>.a e e (.c0 e i q fun _ _=>.a e e (.c0 e i q fun _ _=>.Ek [] e e e) (.Ek [] e e e)) (.Ek [] e e e)) (.Ek [] e e e)) (.Ek [] e e e)) (.Ek [] e e e)))
def s_Sealed (N:Nat)(a:BA):Option (BA×Bool):=
 (if decide ((a.size:Int)>20000)=true then
 some ((⟨#[]⟩:BA),false)
 else
 (s_SumOf N a).bind fun b=>
 (s_l02Four N b).bind fun c=>
 (scat? a c).bind fun d=>
 some (d,true))
instance i80 (N:Nat)(b:BA):JG 226 (s_Sealed N b) [VS b] 0 [] (fun r=>.tup [VS r.1,VB r.2]) (fun r=>[]):=.st e e Tryz.call226 fun B r=>.q e (.a e e (.Ek [] e e e) (.c0 e i q fun _ _=>.c0 e i q fun _ _=>.B fun _ c=>.st e (Ev.addS e e c) e (.Ek [] e e e)))
def s_ManifestText_l1 (N:Nat)(a:Manifest):Nat→BA→Int→Option (BA)
 |0,_,_=>none
 |m+1,c,b=>
 (if decide (b<(a.Segs.length:Int))=true then
 (at? a.Segs b).bind fun d=>
 (s_l01Var N d).bind fun f=>
 (scat? c f).bind fun g=>
 s_ManifestText_l1 N a m g (w64 (b+1))
 else
 some c)
def s_ManifestText_l2 (N:Nat)(a:Manifest):Nat→BA→Int→Option (BA)
 |0,_,_=>none
 |m+1,c,b=>
 (if decide (b<(a.Conf.length:Int))=true then
 (at? a.Conf b).bind fun d=>
 (s_l01Var N d).bind fun f=>
 (scat? c f).bind fun g=>
 s_ManifestText_l2 N a m g (w64 (b+1))
 else
 some c)
def s_ManifestText (N:Nat)(a:Manifest):Option (BA×Bool):=
 (s_ManifestOk N a).bind fun c=>
 (if(!c)=true then
 some ((⟨#[]⟩:BA),false)
 else
 (s_l01Var N (a.Segs.length:Int)).bind fun d=>
 joinP (fun(f:BA)=>
 (s_l01Var N a.Next).bind fun g=>
 (scat? f g).bind fun h=>
 (s_l01Var N a.Base).bind fun j=>
 (scat? h j).bind fun k=>
 (s_l01Var N a.BaseTerm).bind fun l=>
 (scat? k l).bind fun m=>
 (s_l01Var N (a.Conf.length:Int)).bind fun n=>
 (scat? m n).bind fun o=>
 joinP (fun(p:BA)=>
 (s_Sealed N p).bind fun b=>
 some (b.1,b.2)) fun s=>
 (s_ManifestText_l2 N a N o 0).bind (fun t=>s t)) fun u=>
 (s_ManifestText_l1 N a N d 0).bind (fun w=>u w))
instance i81 (N:Nat)(b:Manifest):JG 169 (s_ManifestText N b) [.agg [RO 3 (b.Segs.map encI),VI b.Next,VI b.Base,VI b.BaseTerm,RO 3 (b.Conf.map encI)]] 0 [] (fun r=>.tup [VS r.1,VB r.2]) (fun r=>[]):=.st e e Tryz.call169 fun B r=>.q e (.c0 e i q fun _ _=>.a e e (.Ek [] e e e) (.st e (Ev.lnF e) e (.c0 e i q fun _ _=>.j e (fun c=>[(1,.ptr 0 0),(4,VS c)]) (fun c=>[(0,.box [RO 3 (b.Segs.map encI),VI b.Next,VI b.Base,VI b.BaseTerm,RO 3 (b.Conf.map encI)])]) (fun _=>.L2 e (fun d f=>[(1,.ptr 0 0),(4,VS d),(5,VI f)]) (fun d f=>[(0,.box [RO 3 (b.Segs.map encI),VI b.Next,VI b.Base,VI b.BaseTerm,RO 3 (b.Conf.map encI)])]) (.k [1,4,5] [1000]) fun _ d f _ o=>.q e (.st e (Ev.lnF e) e (.a e e (.B fun _ p=>.st e (Ev.iaF e e p) e (.c0 e i q fun _ _=>.B fun _ s=>.st e (Ev.addS e e s) e (.R e (fun h=>⟨_,_,h,e,e⟩) (.k [1,4,5] [0])))) (.X o e e (.n e (.J e (.k [1,4] [0]))))))) fun c=>.c0 e i q fun _ _=>.B fun _ t=>.st e (Ev.addS e e t) e (.c0 e i q fun _ _=>.B fun _ u=>.st e (Ev.addS e e u) e (.c0 e i q fun _ _=>.B fun _ w=>.st e (Ev.addS e e w) e (.st e (Ev.lnF e) e (.c0 e i q fun _ _=>.B fun _ x=>.st e (Ev.addS e e x) e (.dn e (.j e (fun g=>[(4,VS g)]) (fun g=>[]) (fun _=>.L2 e (fun l m=>[(1,.ptr 0 0),(4,VS l),(6,VI m)]) (fun l m=>[(0,.box [RO 3 (b.Segs.map encI),VI b.Next,VI b.Base,VI b.BaseTerm,RO 3 (b.Conf.map encI)])]) (.k [1,4,6] [0]) fun _ l m _ y=>.q e (.st e (Ev.lnF e) e (.a e e (.B fun _ v=>.st e (Ev.iaF e e v) e (.c0 e i q fun _ _=>.B fun _ z=>.st e (Ev.addS e e z) e (.R e (fun h=>⟨_,_,h,e,e⟩) (.k [1,4,6] [0])))) (.X y e e (.n e (.J e (.k [4] []))))))) fun g=>.c0 e i q fun _ _=>.Ek [] e e e)))))))))
def s_ReadManifest_l1 (N:Nat)(h:Int×Tl05Cur):Nat→Int→BA→Int→Bool→(List Int)→Option (BA×Int×Bool×(List Int))
 |0,_,_,_,_,_=>none
 |m+1,g,b,c,a,d=>
 (if decide (g<h.1)=true then
 (if(!a)=true then
 (if decide (g≤8)=true then
 (s_l05Var N (Tl05Cur.mk b c a)).bind fun f=>
 (cat? d ([f.1]:List Int)).bind fun j=>
 s_ReadManifest_l1 N h m (w64 (g+1)) f.2.text f.2.at' f.2.bad j
 else
 some (b,c,a,d))
 else
 some (b,c,a,d))
 else
 some (b,c,a,d))
def s_ReadManifest_l2 (N:Nat)(h:Int×Tl05Cur):Nat→Int→BA→Int→Bool→(List Int)→Option (BA×Int×Bool×(List Int))
 |0,_,_,_,_,_=>none
 |m+1,g,b,c,a,d=>
 (if decide (g<h.1)=true then
 (if(!a)=true then
 (if decide (g≤4)=true then
 (s_l05Var N (Tl05Cur.mk b c a)).bind fun f=>
 (cat? d ([f.1]:List Int)).bind fun j=>
 s_ReadManifest_l2 N h m (w64 (g+1)) f.2.text f.2.at' f.2.bad j
 else
 some (b,c,a,d))
 else
 some (b,c,a,d))
 else
 some (b,c,a,d))
def s_ReadManifest (N:Nat)(l:BA):Option (Manifest×Bool):=
 (s_Unsealed N l).bind fun m=>
 (s_l05Var N (Tl05Cur.mk m.1 0 (!m.2))).bind fun b=>
 joinP (fun(a:BA×Int×Bool×(List Int))=>
 (s_l05Var N (Tl05Cur.mk a.1 a.2.1 a.2.2.1)).bind fun g=>
 (s_l05Var N g.2).bind fun h=>
 (s_l05Var N h.2).bind fun j=>
 (s_l05Var N j.2).bind fun c=>
 joinP (fun(k:BA×Int×Bool×(List Int))=>
 (s_ManifestText N (Manifest.mk a.2.2.2 g.1 h.1 j.1 k.2.2.2)).bind fun n=>
 (if k.2.2.1=true then
 some ((Manifest.mk ([]) 0 0 0 ([])),false)
 else
 (if(!n.2)=true then
 some ((Manifest.mk ([]) 0 0 0 ([])),false)
 else
 (if(!decide (n.1=l))=true then
 some ((Manifest.mk ([]) 0 0 0 ([])),false)
 else
 some ((Manifest.mk a.2.2.2 g.1 h.1 j.1 k.2.2.2),true))))) fun o=>
 (s_ReadManifest_l2 N c N 0 c.2.text c.2.at' c.2.bad ([]:(List Int))).bind (fun d=>o (d.1,d.2.1,d.2.2.1,d.2.2.2))) fun p=>
 (s_ReadManifest_l1 N b N 0 b.2.text b.2.at' b.2.bad ([]:(List Int))).bind (fun f=>p (f.1,f.2.1,f.2.2.1,f.2.2.2))
instance i82 (N:Nat)(d:BA):JG 108 (s_ReadManifest N d) [VS d] 0 [] (fun r=>.tup [.agg [.sl 0 3 0 r.1.Segs.length,VI r.1.Next,VI r.1.Base,VI r.1.BaseTerm,.sl 1 3 0 r.1.Conf.length],VB r.2]) (fun r=>[(0,.vec 3 (r.1.Segs.map encI)),(1,.vec 3 (r.1.Conf.map encI))]):=.st e e Tryz.call108 fun B r=>.c0 e i q fun _ _=>.f [9256] [] 0 e i q fun a2 _=>.j e (fun b=>[(0,VS d),(2,.ptr 0 0),(6,.ptr 1 0),(7,.ptr 2 0)]) (fun b=>[(0,.box [.sl 3 3 0 (([]:(List Int)).length),VI 0,VI 0,VI 0,.sl 4 3 0 (([]:(List Int)).length)]),(1,.box [VS b.1,VI b.2.1,VB b.2.2.1]),(2,.box [.sl 5 3 0 b.2.2.2.length,VI 0,VI 0,VI 0,.sl 6 3 0 (([]:(List Int)).length)]),(3,.vec 3 (([]:(List Int)).map encI)),(4,.vec 3 (([]:(List Int)).map encI)),(5,.vec 3 (b.2.2.2.map encI)),(6,.vec 3 (([]:(List Int)).map encI))]) (fun _=>.L5 e (fun m o p s g=>[(0,VS d),(2,.ptr 0 0),(6,.ptr 1 0),(7,.ptr 2 0),(8,VI a2.1),(9,VI m)]) (fun m o p s g=>[(0,.box [.sl 3 3 0 (([]:(List Int)).length),VI 0,VI 0,VI 0,.sl 4 3 0 (([]:(List Int)).length)]),(1,.box [VS o,VI p,VB s]),(2,.box [.sl 5 3 0 g.length,VI 0,VI 0,VI 0,.sl 6 3 0 (([]:(List Int)).length)]),(3,.vec 3 (([]:(List Int)).map encI)),(4,.vec 3 (([]:(List Int)).map encI)),(5,.vec 3 (g.map encI)),(6,.vec 3 (([]:(List Int)).map encI))]) (.n [0,2,6,7,8,9] [1000,9256,13304] [] [1000,13304] [1000,9256,13304,20000000,20000001,20000064,20000065]) fun _ m o p s g _ t=>.q e (.q e (.a e e (.a e e (.a e e (.f [1] [] 0 e i q fun a3 _=>.st e (Ev.bsW (ys:=([a3.1]:List Int)) (f:=encI) e (.d1 .nil) e e e e e) e (.B fun _ a4=>.st e (Ev.apW (f:=encI) (ontoW e e e) (addsW e e e (fun _=>e)) e bt3 e a4) e (.dn e (.R e (fun h=>⟨_,_,_,_,_,h,e,e⟩) (.k [0,2,6,7,8,9] [0,1,2,3,4,33848,6]))))) (.X t e e (.n e (.J e (.k [0,2,6,7] [0,1,2,3,4,5,6]))))) (.X t e e (.n e (.J e (.k [0,2,6,7] [0,1,2,3,4,5,6]))))) (.X t e e (.n e (.J e (.k [0,2,6,7] [0,1,2,3,4,5,6]))))))) fun b=>.f [1] [] 0 e i q fun z _=>.f [1] [] 0 e i q fun a0 _=>.f [1] [] 0 e i q fun a1 _=>.f [1] [] 0 e i q fun a5 _=>.j e (fun c=>[(0,VS d),(2,.ptr 0 0),(6,.ptr 1 0),(7,.ptr 2 0)]) (fun c=>[(0,.box [.sl 3 3 0 (([]:(List Int)).length),VI 0,VI 0,VI 0,.sl 4 3 0 (([]:(List Int)).length)]),(1,.box [VS c.1,VI c.2.1,VB c.2.2.1]),(2,.box [.sl 5 3 0 b.2.2.2.length,VI z.1,VI a0.1,VI a1.1,.sl 6 3 0 c.2.2.2.length]),(3,.vec 3 (([]:(List Int)).map encI)),(4,.vec 3 (([]:(List Int)).map encI)),(5,.vec 3 (b.2.2.2.map encI)),(6,.vec 3 (c.2.2.2.map encI))]) (fun _=>.L5 e (fun u w x y l=>[(0,VS d),(2,.ptr 0 0),(6,.ptr 1 0),(7,.ptr 2 0),(8,VI a5.1),(10,VI u)]) (fun u w x y l=>[(0,.box [.sl 3 3 0 (([]:(List Int)).length),VI 0,VI 0,VI 0,.sl 4 3 0 (([]:(List Int)).length)]),(1,.box [VS w,VI x,VB y]),(2,.box [.sl 5 3 0 b.2.2.2.length,VI z.1,VI a0.1,VI a1.1,.sl 6 3 0 l.length]),(3,.vec 3 (([]:(List Int)).map encI)),(4,.vec 3 (([]:(List Int)).map encI)),(5,.vec 3 (b.2.2.2.map encI)),(6,.vec 3 (l.map encI))]) (.k [0,2,6,7,8,10] [0,1,2,3,4,5,6]) fun _ u w x y l _ v=>.q e (.q e (.a e e (.a e e (.a e e (.f [1] [] 0 e i q fun a6 _=>.st e (Ev.bsW (ys:=([a6.1]:List Int)) (f:=encI) e (.d1 .nil) e e e e e) e (.B fun _ a7=>.st e (Ev.apW (f:=encI) (ontoW e e e) (addsW e e e (fun _=>e)) e bt3 e a7) e (.dn e (.R e (fun h=>⟨_,_,_,_,_,h,e,e⟩) (.k [0,2,6,7,8,10] [0,1,2,3,4,5,66616]))))) (.X v e e (.n e (.J e (.k [0,2,6,7] [0,1,2,3,4,5,6]))))) (.X v e e (.n e (.J e (.k [0,2,6,7] [0,1,2,3,4,5,6]))))) (.X v e e (.n e (.J e (.k [0,2,6,7] [0,1,2,3,4,5,6]))))))) fun c=>.f (hp:=(.cons (.agg (.cons (.borrow e (by decide) lw) (.d2 (.d1 (.cons (.borrow e (by decide) lw) .nil))))) .nil)) (hcase:=fun _=>(.inr ⟨rfl,ownL_root trivial⟩)) [] [5,6] 0 e i q fun _ _=>.q e (.q e (.a e e (.E e e (.n [0,1] [] [0] [] [10000000,10000001])) (.a e e (.E e e (.n [0,1] [] [0] [] [10000000,10000001])) (.a e e (.E e e (.n [0,1] [] [0] [] [10000000,10000001])) (.Ek [5,6] e e e)))))
def s_l01Figure (N:Nat)(a:Int):Option (Int):=
 (if decide (a<10)=true then
 some (IntKind.wrap .u8 (w64 (48+a)))
 else
 some (IntKind.wrap .u8 (w64 ((w64 (97+a))-10))))
instance i83 (N:Nat)(b:Int):JG 176 (s_l01Figure N b) [VI b] 0 [] (fun r=>.c (.i .u8 r)) (fun r=>[]):=.st e e Tryz.call176 fun B r=>.q e (.a e e (.Ek [] e e e) (.Ek [] e e e))
def s_Decimal_l1 (N:Nat):Nat→Int→BA→Option (BA)
 |0,_,_=>none
 |m+1,a,c=>
 (if(a !=0)=true then
 (intD .rem .i64 a 10).bind fun b=>
 joinP (fun(f:Int)=>
 (s_l01Figure N f).bind fun g=>
 (scat? (strOf ([g]:List Int)) c).bind fun h=>
 (intD .quo .i64 a 10).bind fun j=>
 s_Decimal_l1 N m j h) fun d=>
 (if decide (b<0)=true then
 d (w64 ((-b)))
 else
 d b)
 else
 some c)
def s_Decimal (N:Nat)(a:Int):Option (BA):=
 (if(a==0)=true then
 some (⟨#[48]⟩:BA)
 else
 joinP (fun(b:BA)=>
 (if decide (a<0)=true then
 (scat? (⟨#[45]⟩:BA) b).bind fun c=>
 some c
 else
 some b)) fun d=>
 (s_Decimal_l1 N N a (⟨#[]⟩:BA)).bind (fun f=>d f))
instance i84 (N:Nat)(b:Int):JS 113 (s_Decimal N b) [VI b]:=.st e e Tryz.call113 fun B r=>.q e (.a e e (.Ek [] e e e) (.j e (fun g=>[(3,VB (decide (b<0))),(4,VS g)]) (fun g=>[]) (fun _=>.L2 e (fun c d=>[(0,VI c),(3,VB (decide (b<0))),(4,VS d)]) (fun c d=>[]) (.k [0,3,4] []) fun _ c d _ m=>.q e (.a e e (.B fun _ o=>.st e (.bin e e o) e (.j e (fun l=>[(0,VI c),(3,VB (decide (b<0))),(4,VS d),(5,VI l)]) (fun l=>[]) (fun _=>.a e e (.J e (.k [0,3,4,5] [])) (.J e (.k [0,3,4,5] []))) fun l=>.c0 e i q fun p _=>.st e (Ev.bsW (ys:=([p]:List Int)) (f:=encU) e (.d1 .nil) e e e e e) e (.st e (.sbC (addsW (f:=encU) e e e (fun _=>e))) e (.B fun _ s=>.st e (Ev.addS e e s) e (.B fun _ t=>.st e (.bin e e t) e (.R e (fun h=>⟨_,_,h,e,e⟩) (.k [0,3,4] []))))))) (.X m e e (.n e (.J e (.k [3,4] [])))))) fun g=>.q e (.a e e (.B fun _ u=>.st e (Ev.addS e e u) e (.Ek [] e e e)) (.Ek [] e e e))))
def s_SegName (N:Nat)(a:Int):Option (BA):=
 (s_l01In N a 0 999).bind fun b=>
 (if(!b)=true then
 some (⟨#[]⟩:BA)
 else
 (s_Decimal N a).bind fun c=>
 (scat? (⟨#[103]⟩:BA) c).bind fun d=>
 some d)
instance i85 (N:Nat)(b:Int):JS 59 (s_SegName N b) [VI b]:=.st e e Tryz.call59 fun B r=>.q e (.c0 e i q fun _ _=>.a e e (.Ek [] e e e) (.c0 e i q fun _ _=>.B fun _ c=>.st e (Ev.addS e e c) e (.Ek [] e e e)))
def s_l03Text (N:Nat)(a:Disk)(c:BA):Option (BA):=
 (s_l03At N a c).bind fun b=>
 (if decide (b<0)=true then
 some (⟨#[]⟩:BA)
 else
 (at? a.Files b).bind fun d=>
 some d.Text)
instance i86 (N:Nat)(b:Disk)(c:BA):JS 60 (s_l03Text N b c) [.agg [RO 141 (b.Files.map encFile)],VS c]:=.st e e Tryz.call60 fun B r=>.c0 e i q fun _ _=>.q e (.a e e (.Ek [] e e e) (.B fun _ d=>.st e (Ev.iaF e e d) e (.Ek [] e e e)))
def s_Frame (N:Nat)(a:BA):Option (BA×Bool):=
 (s_l01In N (a.size:Int) 1 9000).bind fun b=>
 (if(!b)=true then
 some ((⟨#[]⟩:BA),false)
 else
 (s_l01Var N (a.size:Int)).bind fun c=>
 (s_SumOf N a).bind fun d=>
 (s_l02Four N d).bind fun f=>
 (scat? c f).bind fun g=>
 (scat? g a).bind fun h=>
 some (h,true))
instance i87 (N:Nat)(b:BA):JG 110 (s_Frame N b) [VS b] 0 [] (fun r=>.tup [VS r.1,VB r.2]) (fun r=>[]):=.st e e Tryz.call110 fun B r=>.q e (.c0 e i q fun _ _=>.a e e (.Ek [] e e e) (.c0 e i q fun _ _=>.c0 e i q fun _ _=>.c0 e i q fun _ _=>.B fun _ c=>.st e (Ev.addS e e c) e (.B fun _ d=>.st e (Ev.addS e e d) e (.Ek [] e e e))))
def s_Unframe_l1 (N:Nat)(c:BA):Nat→Int→(List BA)→Option (((List BA)×Int)⊕(Int×(List BA)))
 |0,_,_=>none
 |m+1,b,d=>
 (if decide (b<(c.size:Int))=true then
 (s_ReadVar N c b).bind fun a=>
 (if(!a.2.2)=true then
 some (Sum.inl (d,b))
 else
 (if(decide (a.1>(w64 ((w64 ((c.size:Int)-a.2.1))-4))))=true then
 some (Sum.inl (d,b))
 else
 (scut? c (w64 (a.2.1+4)) (w64 ((w64 (a.2.1+4))+a.1))).bind fun f=>
 (s_Frame N f).bind fun g=>
 (if(!g.2)=true then
 some (Sum.inl (d,b))
 else
 (scut? c b (w64 ((w64 (a.2.1+4))+a.1))).bind fun h=>
 (if(!decide (g.1=h))=true then
 some (Sum.inl (d,b))
 else
 (cat? d ([f]:List BA)).bind fun j=>
 s_Unframe_l1 N c m (w64 ((w64 (a.2.1+4))+a.1)) j))))
 else
 some (Sum.inr (b,d)))
def s_Unframe (N:Nat)(a:BA):Option ((List BA)×Int):=
 (if decide ((a.size:Int)>20000)=true then
 some (([]:List BA),0)
 else
 joinP (fun(b:Int×(List BA))=>
 some (b.2,b.1)) fun d=>
 (s_Unframe_l1 N a N 0 ([]:List BA)).bind (Sum.elim (fun f=>some f) (fun(c:Int×(List BA))=>d (c.1,c.2))))
instance i88 (N:Nat)(g:BA):JG 170 (s_Unframe N g) [VS g] 0 [] (fun r=>.tup [.sl 0 9 0 r.1.length,VI r.2]) (fun r=>[(0,.vec 9 (r.1.map encS))]):=.st e e Tryz.call170 fun B r=>.st e (Ev.bsW (ys:=([]:List BA)) (f:=encS) e .nil e e e e e) e (.q e (.a e e (.Ek [5096] e e e) (.j e (fun b=>[(4,.sl 0 9 0 b.2.length),(5,VI b.1)]) (fun b=>[(0,.vec 9 (b.2.map encS))]) (fun _=>.L2 e (fun l d=>[(0,VS g),(4,.sl 0 9 0 d.length),(5,VI l)]) (fun l d=>[(0,.vec 9 (d.map encS))]) (.k [0,4,5] [5096]) fun _ l d _ c=>.q e (.a e e (.c0 e i q fun _ _=>.q e (.q e (.a e e (.Xr c e e (.il (.e e (.Ek [0] e e e)))) (.a e e (.Xr c e e (.il (.e e (.Ek [0] e e e)))) (.B fun m o=>.st e (Ev.ssB e e e o) e (.c0 e i q fun _ _=>.q e (.q e (.a e e (.Xr c e e (.il (.e e (.Ek [0] e e e)))) (.B fun _ p=>.st e (Ev.ssB e e e p) e (.a e e (.Xr c e e (.il (.e e (.Ek [0] e e e)))) (.st e (Ev.bsW (ys:=([m]:List BA)) (f:=encS) e (.d1 .nil) e e e e e) e (.B fun _ s=>.st e (Ev.apW (f:=encS) (ontoW e e e) (addsW e e e (fun _=>e)) e bt9 e s) e (.R e (fun h=>⟨_,_,h,e,e⟩) (.k [0,4,5] [54296])))))))))))))) (.X c e e (.ir (.n e (.J e (.k [4,5] [0]))))))) fun b=>.Ek [0] e e e)))
def s_l05Take (N:Nat)(a:Tl05Cur)(b:Int):Option (BA×Tl05Cur):=
 (if a.bad=true then
 some ((⟨#[]⟩:BA),(Tl05Cur.mk a.text a.at' true))
 else
 (if(decide (b>(w64 ((a.text.size:Int)-a.at'))))=true then
 some ((⟨#[]⟩:BA),(Tl05Cur.mk a.text a.at' true))
 else
 (scut? a.text (w64 ((w64 (a.at'+b))-b)) (w64 (a.at'+b))).bind fun c=>
 some (c,(Tl05Cur.mk a.text (w64 (a.at'+b)) a.bad))))
instance i89 (N:Nat)(b:Tl05Cur)(c:Int):JG 177 (s_l05Take N b c) [.ptr 0 0,VI c] 1 [(0,.box [VS b.text,VI b.at',VB b.bad])] (fun r=>VS r.1) (fun r=>[(0,.box [VS r.2.text,VI r.2.at',VB r.2.bad])]):=.st e e Tryz.call177 fun B r=>.q e (.q e (.a e e (.dn e (.Ek [0] e e e)) (.dn e (.a e e (.Ek [0] e e e) (.B fun _ d=>.st e (Ev.ssB e e e d) e (.dn e (.Ek [0] e e e)))))))
def s_l05ReadShort (N:Nat)(c:Tl05Cur):Option (BA×Tl05Cur):=
 (s_l05Var N c).bind fun a=>
 (s_l05Take N a.2 a.1).bind fun b=>
 some (b.1,b.2)
instance i90 (N:Nat)(a:Tl05Cur):JG 178 (s_l05ReadShort N a) [.ptr 0 0] 1 [(0,.box [VS a.text,VI a.at',VB a.bad])] (fun r=>VS r.1) (fun r=>[(0,.box [VS r.2.text,VI r.2.at',VB r.2.bad])]):=.st e e Tryz.call178 fun B r=>.f [0] [] 0 e i q fun _ _=>.f [0] [] 0 e i q fun _ _=>.Ek [0] e e e
def s_l05Key (N:Nat)(a:BA):Option (Bool):=
 (s_l01In N (a.size:Int) 1 10).bind fun b=>
 some b
instance i91 (N:Nat)(a:BA):JB 114 (s_l05Key N a) [VS a]:=.st e e Tryz.call114 fun B r=>.c0 e i q fun _ _=>.Ek [] e e e
def s_BatchOk_l1 (N:Nat)(c:Batch):Nat→Int→Option ((Bool)⊕(Unit))
 |0,_=>none
 |m+1,b=>
 (if decide (b<(c.Changes.length:Int))=true then
 joinP (fun(h:Unit)=>
 s_BatchOk_l1 N c m (w64 (b+1))) fun d=>
 (at? c.Changes b).bind fun a=>
 (s_l05Key N a.Key).bind fun f=>
 (if(!f)=true then
 some (Sum.inl false)
 else
 (if decide (b>0)=true then
 (at? c.Changes (w64 (b-1))).bind fun g=>
 (if(!Op.bytesLess g.Key.toList a.Key.toList)=true then
 some (Sum.inl false)
 else
 (if decide ((a.Value.size:Int)>40)=true then
 some (Sum.inl false)
 else
 (if a.Gone=true then
 (if(!decide (a.Value=(⟨#[]⟩:BA)))=true then
 some (Sum.inl false)
 else
 d ())
 else
 d ())))
 else
 (if decide ((a.Value.size:Int)>40)=true then
 some (Sum.inl false)
 else
 (if a.Gone=true then
 (if(!decide (a.Value=(⟨#[]⟩:BA)))=true then
 some (Sum.inl false)
 else
 d ())
 else
 d ()))))
 else
 some (Sum.inr ()))
def s_BatchOk (N:Nat)(a:Batch):Option (Bool):=
 (s_l01In N a.Stamp 0 100000).bind fun b=>
 (if(!b)=true then
 some false
 else
 (if decide ((a.Changes.length:Int)>60)=true then
 some false
 else
 joinP (fun(f:Unit)=>
 some true) fun c=>
 (s_BatchOk_l1 N a N 0).bind (Sum.elim (fun d=>some d) (fun(g:Unit)=>c ()))))
instance i92 (N:Nat)(b:Batch):JB 260 (s_BatchOk N b) [.agg [VI b.Stamp,RO 268 (b.Changes.map encChange)]]:=.st e e Tryz.call260 fun B r=>.q e (.q e (.c0 e i q fun _ _=>.a e e (.Ek [] e e e) (.st e (Ev.lnF e) e (.a e e (.Ek [] e e e) (.j e (fun _=>[]) (fun _=>[]) (fun _=>.L1 e (fun d=>[(1,.ptr 0 0),(3,VI d)]) (fun d=>[(0,.box [VI b.Stamp,RO 268 (b.Changes.map encChange)])]) (.k [1,3] [1000]) fun _ d _ c=>.q e (.st e (Ev.lnF e) e (.a e e (.j e (fun _=>[(1,.ptr 0 0),(3,VI d)]) (fun _=>[(0,.box [VI b.Stamp,RO 268 (b.Changes.map encChange)])]) (fun _=>.B fun _ f=>.st e (Ev.iaF e e f) e (.q e (.c0 e i q fun _ _=>.a e e (.dn e (.Xr c e e (.il (.e e (.Ek [] e e e))))) (.a e e (.B fun _ g=>.st e (Ev.iaF e e g) e (.a e e (.dn e (.Xr c e e (.il (.e e (.Ek [] e e e))))) (.a e e (.dn e (.Xr c e e (.il (.e e (.Ek [] e e e))))) (.a e e (.dn e (.a e e (.Xr c e e (.il (.e e (.Ek [] e e e)))) (.J e (.k [1,3] [0])))) (.dn e (.J e (.k [1,3] [0]))))))) (.a e e (.dn e (.Xr c e e (.il (.e e (.Ek [] e e e))))) (.a e e (.dn e (.a e e (.Xr c e e (.il (.e e (.Ek [] e e e)))) (.J e (.k [1,3] [0])))) (.dn e (.J e (.k [1,3] [0]))))))))) fun _=>.R e (fun h=>⟨_,h,e,e⟩) (.k [1,3] [0])) (.X c e e (.ir (.n e (.J e (.k [] [])))))))) fun _=>.Ek [] e e e)))))
def s_l05Short (N:Nat)(a:BA):Option (BA):=
 (s_l01Var N (a.size:Int)).bind fun b=>
 (scat? b a).bind fun c=>
 some c
instance i93 (N:Nat)(a:BA):JS 173 (s_l05Short N a) [VS a]:=.st e e Tryz.call173 fun B r=>.c0 e i q fun _ _=>.B fun _ b=>.st e (Ev.addS e e b) e (.Ek [] e e e)
def s_BatchText_l1 (N:Nat)(a:Batch):Nat→BA→Int→Option (BA)
 |0,_,_=>none
 |m+1,c,b=>
 (if decide (b<(a.Changes.length:Int))=true then
 joinP (fun(f:BA)=>
 (at? a.Changes b).bind fun g=>
 (s_l05Short N g.Key).bind fun h=>
 (scat? c h).bind fun j=>
 (scat? j f).bind fun k=>
 (at? a.Changes b).bind fun l=>
 (s_l05Short N l.Value).bind fun n=>
 (scat? k n).bind fun o=>
 s_BatchText_l1 N a m o (w64 (b+1))) fun d=>
 (at? a.Changes b).bind fun p=>
 (if p.Gone=true then
 d (⟨#[1]⟩:BA)
 else
 d (⟨#[0]⟩:BA))
 else
 some c)
def s_BatchText (N:Nat)(a:Batch):Option (BA×Bool):=
 (s_BatchOk N a).bind fun b=>
 (if(!b)=true then
 some ((⟨#[]⟩:BA),false)
 else
 (s_l01Var N a.Stamp).bind fun c=>
 (s_l01Var N (a.Changes.length:Int)).bind fun d=>
 (scat? c d).bind fun f=>
 joinP (fun(g:BA)=>
 some (g,true)) fun h=>
 (s_BatchText_l1 N a N f 0).bind (fun j=>h j))
instance i94 (N:Nat)(b:Batch):JG 227 (s_BatchText N b) [.agg [VI b.Stamp,RO 268 (b.Changes.map encChange)]] 0 [] (fun r=>.tup [VS r.1,VB r.2]) (fun r=>[]):=.st e e Tryz.call227 fun B r=>.q e (.c0 e i q fun _ _=>.a e e (.Ek [] e e e) (.c0 e i q fun _ _=>.st e (Ev.lnF e) e (.c0 e i q fun _ _=>.B fun _ l=>.st e (Ev.addS e e l) e (.dn e (.j e (fun f=>[(4,VS f)]) (fun f=>[]) (fun _=>.L2 e (fun c d=>[(1,.ptr 0 0),(4,VS c),(5,VI d)]) (fun c d=>[(0,.box [VI b.Stamp,RO 268 (b.Changes.map encChange)])]) (.k [1,4,5] [1000]) fun _ c d _ m=>.q e (.st e (Ev.lnF e) e (.a e e (.q e (.j e (fun g=>[(1,.ptr 0 0),(4,VS c),(5,VI d),(6,VS g)]) (fun g=>[(0,.box [VI b.Stamp,RO 268 (b.Changes.map encChange)])]) (fun _=>.B fun _ o=>.st e (Ev.iaF e e o) e (.a e e (.J e (.k [1,4,5,6] [0])) (.J e (.k [1,4,5,6] [0])))) fun g=>.B fun _ p=>.st e (Ev.iaF e e p) e (.c0 e i q fun _ _=>.B fun _ s=>.st e (Ev.addS e e s) e (.B fun _ t=>.st e (Ev.addS e e t) e (.B fun _ u=>.st e (Ev.iaF e e u) e (.c0 e i q fun _ _=>.B fun _ w=>.st e (Ev.addS e e w) e (.dn e (.R e (fun h=>⟨_,_,h,e,e⟩) (.k [1,4,5] [0]))))))))) (.X m e e (.n e (.J e (.k [4] []))))))) fun f=>.Ek [] e e e)))))
def s_ReadBatch_l1 (N:Nat)(g:Int×Tl05Cur):Nat→Int→BA→Int→Bool→(List Change)→Option (BA×Int×Bool×(List Change))
 |0,_,_,_,_,_=>none
 |m+1,h,c,d,a,f=>
 (if decide (h<g.1)=true then
 (if(!a)=true then
 (s_l05ReadShort N (Tl05Cur.mk c d a)).bind fun j=>
 (s_l05Take N j.2 1).bind fun k=>
 (s_l05ReadShort N k.2).bind fun b=>
 (cat? f ([(Change.mk j.1 b.1 (decide (k.1=(⟨#[1]⟩:BA))))]:List Change)).bind fun l=>
 s_ReadBatch_l1 N g m (w64 (h+1)) b.2.text b.2.at' b.2.bad l
 else
 some (c,d,a,f))
 else
 some (c,d,a,f))
def s_ReadBatch (N:Nat)(f:BA):Option (Batch×Bool):=
 (s_l05Var N (Tl05Cur.mk f 0 false)).bind fun c=>
 (s_l05Var N c.2).bind fun a=>
 joinP (fun(d:BA×Int×Bool×(List Change))=>
 (s_BatchText N (Batch.mk c.1 d.2.2.2)).bind fun g=>
 (if d.2.2.1=true then
 some ((Batch.mk 0 ([])),false)
 else
 (if(!g.2)=true then
 some ((Batch.mk 0 ([])),false)
 else
 (if(!decide (g.1=f))=true then
 some ((Batch.mk 0 ([])),false)
 else
 some ((Batch.mk c.1 d.2.2.2),true))))) fun h=>
 (s_ReadBatch_l1 N a N 0 a.2.text a.2.at' a.2.bad ([]:(List Change))).bind (fun b=>h (b.1,b.2.1,b.2.2.1,b.2.2.2))
instance i95 (N:Nat)(c:BA):JG 171 (s_ReadBatch N c) [VS c] 0 [] (fun r=>.tup [.agg [VI r.1.Stamp,.sl 0 268 0 r.1.Changes.length],VB r.2]) (fun r=>[(0,.vec 268 (r.1.Changes.map encChange))]):=.st e e Tryz.call171 fun B r=>.f [5128] [] 0 e i q fun p _=>.f [5128] [] 0 e i q fun t _=>.j e (fun b=>[(0,VS c),(2,.ptr 0 0),(4,.ptr 1 0),(5,.ptr 2 0)]) (fun b=>[(0,.box [VI 0,.sl 3 268 0 (([]:(List Change)).length)]),(1,.box [VS b.1,VI b.2.1,VB b.2.2.1]),(2,.box [VI p.1,.sl 4 268 0 b.2.2.2.length]),(3,.vec 268 (([]:(List Change)).map encChange)),(4,.vec 268 (b.2.2.2.map encChange))]) (fun _=>.L5 e (fun g l m o d=>[(0,VS c),(2,.ptr 0 0),(4,.ptr 1 0),(5,.ptr 2 0),(6,VI t.1),(7,VI g)]) (fun g l m o d=>[(0,.box [VI 0,.sl 3 268 0 (([]:(List Change)).length)]),(1,.box [VS l,VI m,VB o]),(2,.box [VI p.1,.sl 4 268 0 d.length]),(3,.vec 268 (([]:(List Change)).map encChange)),(4,.vec 268 (d.map encChange))]) (.n [0,2,4,5,6,7] [1000,5128,9208] [] [1000,9208] [1000,5128,9208,20000000,20000064]) fun _ g l m o d _ s=>.q e (.q e (.a e e (.a e e (.f [1] [] 0 e i q fun u _=>.f [1] [] 0 e i q fun w _=>.f [1] [] 0 e i q fun x _=>.st e (Ev.bsW (ys:=([(Change.mk u.1 x.1 (decide (w.1=(⟨#[1]⟩:BA))))]:List Change)) (f:=encChange) e (.d2 (.d1 .nil)) e e e e e) e (.B fun _ y=>.st e (Ev.apW (f:=encChange) (ontoW e e e) (addsW e e e (fun _=>e)) e bt268 e y) e (.R e (fun h=>⟨_,_,_,_,_,h,e,e⟩) (.k [0,2,4,5,6,7] [0,1,2,3,50216])))) (.X s e e (.n e (.J e (.k [0,2,4,5] [0,1,2,3,4]))))) (.X s e e (.n e (.J e (.k [0,2,4,5] [0,1,2,3,4]))))))) fun b=>.f (hp:=(.cons (.agg (.d1 (.cons (.borrow e (by decide) lw) .nil))) .nil)) (hcase:=fun _=>(.inr ⟨rfl,ownL_root trivial⟩)) [] [4] 0 e i q fun _ _=>.q e (.q e (.a e e (.E e e (.n [0,1] [] [0] [] [10000000])) (.a e e (.E e e (.n [0,1] [] [0] [] [10000000])) (.a e e (.E e e (.n [0,1] [] [0] [] [10000000])) (.Ek [4] e e e)))))
def s_ScanSeg_l2 (N:Nat)(b:Int)(c:Batch×Bool):Nat→Int→Int→(List Spot)→Option ((List Spot))
 |0,_,_,_=>none
 |m+1,g,d,f=>
 (if decide (d<(c.1.Changes.length:Int))=true then
 (at? c.1.Changes d).bind fun a=>
 (s_l05Short N a.Key).bind fun h=>
 (s_l01Var N (a.Value.size:Int)).bind fun j=>
 joinP (fun(l:List Spot)=>
 s_ScanSeg_l2 N b c m (w64 ((w64 ((w64 ((w64 (g+(h.size:Int)))+1))+(j.size:Int)))+(a.Value.size:Int))) (w64 (d+1)) l) fun k=>
 (if a.Gone=true then
 (cat? f ([(Spot.mk a.Key b 0 (-1:Int))]:List Spot)).bind fun n=>
 k n
 else
 (cat? f ([(Spot.mk a.Key b (w64 ((w64 ((w64 (g+(h.size:Int)))+1))+(j.size:Int))) (a.Value.size:Int))]:List Spot)).bind fun o=>
 k o)
 else
 some f)
def s_ScanSeg_l1 (N:Nat)(j:Int)(a:(List BA)×Int):Nat→Int→Int→Int→(List Spot)→(List BA)→Option (((List Spot)×(List BA)×Int)⊕(Int×(List Spot)×(List BA)))
 |0,_,_,_,_,_=>none
 |m+1,d,k,b,g,h=>
 (if decide (b<(a.1.length:Int))=true then
 joinP (fun(f:Int×Int×(List Spot)×(List BA))=>
 s_ScanSeg_l1 N j a m f.1 f.2.1 (w64 (b+1)) f.2.2.1 f.2.2.2) fun o=>
 (at? a.1 b).bind fun p=>
 (s_ReadBatch N p).bind fun c=>
 (if(!c.2)=true then
 some (Sum.inl (g,h,d))
 else
 (at? a.1 b).bind fun s=>
 (s_Frame N s).bind fun l=>
 (at? a.1 b).bind fun t=>
 (s_l01Var N c.1.Stamp).bind fun u=>
 (s_l01Var N (c.1.Changes.length:Int)).bind fun w=>
 joinP (fun(x:List Spot)=>
 joinP (fun(y:Int)=>
 (at? a.1 b).bind fun v=>
 (cat? h ([v]:List BA)).bind fun z=>
 o (y,w64 (k+(l.1.size:Int)),x,z)) fun n=>
 (if decide (c.1.Stamp>d)=true then
 n c.1.Stamp
 else
 n d)) fun a0=>
 (s_ScanSeg_l2 N j c N (w64 ((w64 ((w64 ((w64 (k+(l.1.size:Int)))-(t.size:Int)))+(u.size:Int)))+(w.size:Int))) 0 g).bind (fun a1=>a0 a1))
 else
 some (Sum.inr (d,g,h)))
def s_ScanSeg (N:Nat)(c:BA)(d:Int):Option ((List Spot)×(List BA)×Int):=
 (s_Unframe N c).bind fun f=>
 joinP (fun(a:Int×(List Spot)×(List BA))=>
 some (a.2.1,a.2.2,a.1)) fun g=>
 (s_ScanSeg_l1 N d f N (-1:Int) 0 0 ([]:List Spot) ([]:List BA)).bind (Sum.elim (fun h=>some h) (fun(b:Int×(List Spot)×(List BA))=>g (b.1,b.2.1,b.2.2)))
instance i96 (N:Nat)(x1:BA)(d:Int):JG 109 (s_ScanSeg N x1 d) [VS x1,VI d] 0 [] (fun r=>.tup [.sl 0 148 0 r.1.length,.sl 1 9 0 r.2.1.length,VI r.2.2]) (fun r=>[(0,.vec 148 (r.1.map encSpot)),(1,.vec 9 (r.2.1.map encS))]):=.st e e Tryz.call109 fun B r=>.st e (Ev.bsW (ys:=([]:List Spot)) (f:=encSpot) e .nil e e e e e) e (.st e (Ev.bsW (ys:=([]:List BA)) (f:=encS) e .nil e e e e e) e (.c1 e i q fun b _=>.j e (fun o=>[(7,.sl 0 148 0 o.2.1.length),(8,.sl 1 9 0 o.2.2.length),(9,VI o.1)]) (fun o=>[(0,.vec 148 (o.2.1.map encSpot)),(1,.vec 9 (o.2.2.map encS))]) (fun _=>.L5 e (fun s p l x c=>[(1,VI d),(7,.sl 0 148 0 x.length),(8,.sl 1 9 0 c.length),(9,VI s),(10,.sl 2 9 0 b.1.length),(12,VI p),(13,VI l)]) (fun s p l x c=>[(0,.vec 148 (x.map encSpot)),(1,.vec 9 (c.map encS)),(2,.vec 9 (b.1.map encS))]) (.k [1,7,8,9,10,12,13] [5096,9192,17400]) fun _ s p l x c _ a2=>.q e (.a e e (.j e (fun m=>[(1,VI d),(7,.sl 0 148 0 m.2.2.1.length),(8,.sl 1 9 0 m.2.2.2.length),(9,VI m.1),(10,.sl 2 9 0 b.1.length),(12,VI m.2.1),(13,VI l)]) (fun m=>[(0,.vec 148 (m.2.2.1.map encSpot)),(1,.vec 9 (m.2.2.2.map encS)),(2,.vec 9 (b.1.map encS))]) (fun _=>.B fun _ a3=>.st e (Ev.iaW e e e a3) e (.st e (Ev.ldE (f:=encS) e e (at_some a3).2 e e e) e (.c1 e i q fun g _=>.q e (.a e e (.Xr a2 e e (.il (.e e (.Ek [0,1] e e e)))) (.B fun _ a4=>.st e (Ev.iaW e e e a4) e (.st e (Ev.ldE (f:=encS) e e (at_some a4).2 e e e) e (.c0 e i q fun y _=>.B fun _ a5=>.st e (Ev.iaW e e e a5) e (.st e (Ev.ldE (f:=encS) e e (at_some a5).2 e e e) e (.c0 e i q fun _ _=>.c0 e i q fun _ _=>.dn e (.j e (fun t=>[(1,VI d),(7,.sl 0 148 0 t.length),(8,.sl 1 9 0 c.length),(9,VI s),(10,.sl 2 9 0 b.1.length),(12,VI p),(13,VI l),(14,.ptr 3 0),(16,VS y.1)]) (fun t=>[(0,.vec 148 (t.map encSpot)),(1,.vec 9 (c.map encS)),(2,.vec 9 (b.1.map encS)),(3,.box [VI g.1.Stamp,.sl 4 268 0 g.1.Changes.length]),(4,.vec 268 (g.1.Changes.map encChange))]) (fun _=>.L3 e (fun w v z=>[(1,VI d),(7,.sl 0 148 0 z.length),(8,.sl 1 9 0 c.length),(9,VI s),(10,.sl 2 9 0 b.1.length),(12,VI p),(13,VI l),(14,.ptr 3 0),(16,VS y.1),(18,VI w),(19,VI v)]) (fun w v z=>[(0,.vec 148 (z.map encSpot)),(1,.vec 9 (c.map encS)),(2,.vec 9 (b.1.map encS)),(3,.box [VI g.1.Stamp,.sl 4 268 0 g.1.Changes.length]),(4,.vec 268 (g.1.Changes.map encChange))]) (.k [1,7,8,9,10,12,13,14,16,18,19] [0,1,2,37992,37928]) fun _ w v z _ b0=>.q e (.a e e (.q e (.B fun u a6=>.st e (Ev.iaW e e e a6) e (.st e (Ev.ldE (f:=encChange) e e (at_some a6).2 e e e) e (.c0 e i q fun a7 _=>.c0 e i q fun a8 _=>.dn e (.j e (fun a0=>[(1,VI d),(7,.sl 0 148 0 a0.length),(8,.sl 1 9 0 c.length),(9,VI s),(10,.sl 2 9 0 b.1.length),(12,VI p),(13,VI l),(14,.ptr 3 0),(16,VS y.1),(18,VI (w64 ((w64 ((w64 (w+(a7.size:Int)))+1))+(a8.size:Int)))),(19,VI v),(20,.ptr 4 0)]) (fun a0=>[(0,.vec 148 (a0.map encSpot)),(1,.vec 9 (c.map encS)),(2,.vec 9 (b.1.map encS)),(3,.box [VI g.1.Stamp,.sl 5 268 0 g.1.Changes.length]),(4,.box [VS u.Key,VS u.Value,VB u.Gone]),(5,.vec 268 (g.1.Changes.map encChange))]) (fun _=>.a e e (.st e (Ev.bsW (ys:=([(Spot.mk u.Key d 0 (-1:Int))]:List Spot)) (f:=encSpot) e (.d4 .nil) e e e e e) e (.B fun _ b1=>.st e (Ev.apW (f:=encSpot) (ontoW e e e) (addsW e e e (fun _=>e)) e bt148 e b1) e (.J e (.k [1,7,8,9,10,12,13,14,16,18,19,20] [83016,1,2,3,70712,4])))) (.st e (Ev.bsW (ys:=([(Spot.mk u.Key d (w64 ((w64 ((w64 (w+(a7.size:Int)))+1))+(a8.size:Int))) (u.Value.size:Int))]:List Spot)) (f:=encSpot) e (.d4 .nil) e e e e e) e (.B fun _ b2=>.st e (Ev.apW (f:=encSpot) (ontoW e e e) (addsW e e e (fun _=>e)) e bt148 e b2) e (.J e (.k [1,7,8,9,10,12,13,14,16,18,19,20] [87176,1,2,3,70712,4]))))) fun a0=>.R e (fun h=>⟨_,_,_,h,e,e⟩) (.k [1,7,8,9,10,12,13,14,16,18,19] [0,1,2,3,5])))))) (.X b0 e e (.n e (.J e (.k [1,7,8,9,10,12,13,14,16] [0,1,2,3,4])))))) fun t=>.j e (fun a1=>[(1,VI d),(7,.sl 0 148 0 t.length),(8,.sl 1 9 0 c.length),(9,VI a1),(10,.sl 2 9 0 b.1.length),(12,VI p),(13,VI l),(16,VS y.1)]) (fun a1=>[(0,.vec 148 (t.map encSpot)),(1,.vec 9 (c.map encS)),(2,.vec 9 (b.1.map encS))]) (fun _=>.a e e (.J e (.k [1,7,8,9,10,12,13,16] [0,1,2])) (.J e (.k [1,7,8,9,10,12,13,16] [0,1,2]))) fun a1=>.B fun b3 a9=>.st e (Ev.iaW e e e a9) e (.st e (Ev.ldE (f:=encS) e e (at_some a9).2 e e e) e (.st e (Ev.bsW (ys:=([b3]:List BA)) (f:=encS) e (.d1 .nil) e e e e e) e (.B fun _ b4=>.st e (Ev.apW (f:=encS) (ontoW e e e) (addsW e e e (fun _=>e)) e bt9 e b4) e (.J e (.k [1,7,8,9,10,12,13] [0,103496,2]))))))))))))))) fun m=>.R e (fun h=>⟨_,_,_,_,_,h,e,e⟩) (.k [1,7,8,9,10,12,13] [0,1,2])) (.X a2 e e (.ir (.n e (.J e (.k [7,8,9] [0,1]))))))) fun o=>.Ek [0,1] e e e))
def s_l08More_l2 (N:Nat)(a:List Spot)(d:Spot):Nat→Int→(List Spot)→Option ((List Spot))
 |0,_,_=>none
 |m+1,b,c=>
 (if decide (b<(a.length:Int))=true then
 joinP (fun(g:List Spot)=>
 s_l08More_l2 N a d m (w64 (b+1)) g) fun f=>
 (at? a b).bind fun h=>
 (if(Op.bytesLess h.Key.toList d.Key.toList)=true then
 (at? a b).bind fun j=>
 (cat? c ([j]:List Spot)).bind fun k=>
 f k
 else
 f c)
 else
 some c)
def s_l08More_l3 (N:Nat)(a:List Spot)(c:Spot):Nat→Int→(List Spot)→Option ((List Spot))
 |0,_,_=>none
 |m+1,b,d=>
 (if decide (b<(a.length:Int))=true then
 joinP (fun(h:List Spot)=>
 s_l08More_l3 N a c m (w64 (b+1)) h) fun f=>
 (at? a b).bind fun g=>
 (if(!(Op.bytesLess g.Key.toList c.Key.toList||decide (g.Key=c.Key)))=true then
 (at? a b).bind fun j=>
 (cat? d ([j]:List Spot)).bind fun k=>
 f k
 else
 f d)
 else
 some d)
def s_l08More_l1 (N:Nat)(b:List Spot):Nat→Int→(List Spot)→Option ((List Spot))
 |0,_,_=>none
 |m+1,c,d=>
 (if decide (c<(b.length:Int))=true then
 joinP (fun(h:List Spot)=>
 s_l08More_l1 N b m (w64 (c+1)) h) fun j=>
 (at? b c).bind fun a=>
 joinP (fun(f:List Spot)=>
 joinP (fun(k:List Spot)=>
 joinP (fun(l:List Spot)=>
 j l) fun n=>
 (s_l08More_l3 N d a N 0 k).bind (fun o=>n o)) fun g=>
 (if(a.Size !=(-1:Int))=true then
 (cat? f ([a]:List Spot)).bind fun p=>
 g p
 else
 g f)) fun s=>
 (s_l08More_l2 N d a N 0 ([]:List Spot)).bind (fun t=>s t)
 else
 some d)
def s_l08More (N:Nat)(a:List Spot)(b:List Spot):Option ((List Spot)):=
 (cat? ([]:List Spot) a).bind fun c=>
 joinP (fun(d:List Spot)=>
 some d) fun f=>
 (s_l08More_l1 N b N 0 c).bind (fun g=>f g)
instance i97 (N:Nat)(z:List Spot)(d:List Spot):JG 111 (s_l08More N z d) [RO 148 (z.map encSpot),RO 148 (d.map encSpot)] 0 [] (fun r=>.sl 0 148 0 r.length) (fun r=>[(0,.vec 148 (r.map encSpot))]):=.st e e Tryz.call111 fun B r=>.st e (Ev.bsW (ys:=([]:List Spot)) (f:=encSpot) e .nil e e e e e) e (.B fun _ a4=>.st e (Ev.apW (f:=encSpot) (ontoW e e e) (addsF e) e bt148 e a4) e (.j e (fun l=>[(5,.sl 0 148 0 l.length)]) (fun l=>[(0,.vec 148 (l.map encSpot))]) (fun _=>.L2 e (fun g c=>[(1,RO 148 (d.map encSpot)),(5,.sl 0 148 0 c.length),(6,VI g)]) (fun g c=>[(0,.vec 148 (c.map encSpot))]) (.k [1,5,6] [5128]) fun _ g c _ a5=>.q e (.st e (Ev.lnF e) e (.a e e (.j e (fun m=>[(1,RO 148 (d.map encSpot)),(5,.sl 0 148 0 m.length),(6,VI g)]) (fun m=>[(0,.vec 148 (m.map encSpot))]) (fun _=>.B fun b a6=>.st e (Ev.iaF e e a6) e (.st e (Ev.bsW (ys:=([]:List Spot)) (f:=encSpot) e .nil e e e e e) e (.j e (fun o=>[(1,RO 148 (d.map encSpot)),(5,.sl 0 148 0 c.length),(6,VI g),(7,.ptr 1 0),(8,.sl 2 148 0 o.length)]) (fun o=>[(0,.vec 148 (c.map encSpot)),(1,.box [VS b.Key,VI b.Seg,VI b.At,VI b.Size]),(2,.vec 148 (o.map encSpot))]) (fun _=>.L2 e (fun p s=>[(1,RO 148 (d.map encSpot)),(5,.sl 0 148 0 c.length),(6,VI g),(7,.ptr 1 0),(8,.sl 2 148 0 s.length),(9,VI p)]) (fun p s=>[(0,.vec 148 (c.map encSpot)),(1,.box [VS b.Key,VI b.Seg,VI b.At,VI b.Size]),(2,.vec 148 (s.map encSpot))]) (.k [1,5,6,7,8,9] [0,21544,25576]) fun _ p s _ a7=>.q e (.a e e (.j e (fun t=>[(1,RO 148 (d.map encSpot)),(5,.sl 0 148 0 c.length),(6,VI g),(7,.ptr 1 0),(8,.sl 2 148 0 t.length),(9,VI p)]) (fun t=>[(0,.vec 148 (c.map encSpot)),(1,.box [VS b.Key,VI b.Seg,VI b.At,VI b.Size]),(2,.vec 148 (t.map encSpot))]) (fun _=>.B fun _ a0=>.st e (Ev.iaW e e e a0) e (.st e (Ev.ldE (f:=encSpot) e e (at_some a0).2 e e e) e (.dn e (.a e e (.B fun a8 a1=>.st e (Ev.iaW e e e a1) e (.st e (Ev.ldE (f:=encSpot) e e (at_some a1).2 e e e) e (.st e (Ev.bsW (ys:=([a8]:List Spot)) (f:=encSpot) e (.d4 .nil) e e e e e) e (.B fun _ a9=>.st e (Ev.apW (f:=encSpot) (ontoW e e e) (addsW e e e (fun _=>e)) e bt148 e a9) e (.J e (.k [1,5,6,7,8,9] [0,1,46152])))))) (.J e (.k [1,5,6,7,8,9] [0,1,2])))))) fun t=>.R e (fun h=>⟨_,_,h,e,e⟩) (.k [1,5,6,7,8,9] [0,1,2])) (.X a7 e e (.n e (.J e (.k [1,5,6,7,8] [0,1,2])))))) fun o=>.j e (fun u=>[(1,RO 148 (d.map encSpot)),(5,.sl 0 148 0 c.length),(6,VI g),(7,.ptr 1 0),(8,.sl 2 148 0 u.length)]) (fun u=>[(0,.vec 148 (c.map encSpot)),(1,.box [VS b.Key,VI b.Seg,VI b.At,VI b.Size]),(2,.vec 148 (u.map encSpot))]) (fun _=>.a e e (.st e (Ev.bsW (ys:=([b]:List Spot)) (f:=encSpot) e (.d4 .nil) e e e e e) e (.B fun _ b0=>.st e (Ev.apW (f:=encSpot) (ontoW e e e) (addsW e e e (fun _=>e)) e bt148 e b0) e (.J e (.k [1,5,6,7,8] [0,1,54296])))) (.J e (.k [1,5,6,7,8] [0,1,2]))) fun u=>.j e (fun w=>[(1,RO 148 (d.map encSpot)),(6,VI g),(8,.sl 0 148 0 w.length)]) (fun w=>[(0,.vec 148 (w.map encSpot))]) (fun _=>.L2 e (fun x y=>[(1,RO 148 (d.map encSpot)),(5,.sl 0 148 0 c.length),(6,VI g),(7,.ptr 1 0),(8,.sl 2 148 0 y.length),(10,VI x)]) (fun x y=>[(0,.vec 148 (c.map encSpot)),(1,.box [VS b.Key,VI b.Seg,VI b.At,VI b.Size]),(2,.vec 148 (y.map encSpot))]) (.k [1,5,6,7,8,10] [0,1,2]) fun _ x y _ b1=>.q e (.a e e (.j e (fun v=>[(1,RO 148 (d.map encSpot)),(5,.sl 0 148 0 c.length),(6,VI g),(7,.ptr 1 0),(8,.sl 2 148 0 v.length),(10,VI x)]) (fun v=>[(0,.vec 148 (c.map encSpot)),(1,.box [VS b.Key,VI b.Seg,VI b.At,VI b.Size]),(2,.vec 148 (v.map encSpot))]) (fun _=>.B fun _ a2=>.st e (Ev.iaW e e e a2) e (.st e (Ev.ldE (f:=encSpot) e e (at_some a2).2 e e e) e (.dn e (.a e e (.B fun b2 a3=>.st e (Ev.iaW e e e a3) e (.st e (Ev.ldE (f:=encSpot) e e (at_some a3).2 e e e) e (.st e (Ev.bsW (ys:=([b2]:List Spot)) (f:=encSpot) e (.d4 .nil) e e e e e) e (.B fun _ b3=>.st e (Ev.apW (f:=encSpot) (ontoW e e e) (addsW e e e (fun _=>e)) e bt148 e b3) e (.J e (.k [1,5,6,7,8,10] [0,1,74824])))))) (.J e (.k [1,5,6,7,8,10] [0,1,2])))))) fun v=>.R e (fun h=>⟨_,_,h,e,e⟩) (.k [1,5,6,7,8,10] [0,1,2])) (.X b1 e e (.n e (.J e (.k [1,6,8] [2])))))) fun w=>.J e (.k [1,5,6] [0])))) fun m=>.R e (fun h=>⟨_,_,h,e,e⟩) (.k [1,5,6] [0])) (.X a5 e e (.n e (.J e (.k [5] [0]))))))) fun l=>.Ek [0] e e e))
def s_DirOk_l1 (N:Nat)(c:List Spot):Nat→Int→Option ((Bool)⊕(Unit))
 |0,_=>none
 |m+1,b=>
 (if decide (b<(c.length:Int))=true then
 joinP (fun(p:Unit)=>
 s_DirOk_l1 N c m (w64 (b+1))) fun d=>
 (at? c b).bind fun a=>
 (s_l05Key N a.Key).bind fun f=>
 (if(!f)=true then
 some (Sum.inl false)
 else
 (if decide (b>0)=true then
 (at? c (w64 (b-1))).bind fun g=>
 (if(!Op.bytesLess g.Key.toList a.Key.toList)=true then
 some (Sum.inl false)
 else
 (s_l01In N a.Seg 0 999).bind fun h=>
 (if(!h)=true then
 some (Sum.inl false)
 else
 (s_l01In N a.At 0 20000).bind fun j=>
 (if(!j)=true then
 some (Sum.inl false)
 else
 (s_l01In N a.Size 0 40).bind fun k=>
 (if(!k)=true then
 some (Sum.inl false)
 else
 d ()))))
 else
 (s_l01In N a.Seg 0 999).bind fun l=>
 (if(!l)=true then
 some (Sum.inl false)
 else
 (s_l01In N a.At 0 20000).bind fun n=>
 (if(!n)=true then
 some (Sum.inl false)
 else
 (s_l01In N a.Size 0 40).bind fun o=>
 (if(!o)=true then
 some (Sum.inl false)
 else
 d ())))))
 else
 some (Sum.inr ()))
def s_DirOk (N:Nat)(a:List Spot):Option (Bool):=
 (if decide ((a.length:Int)>60)=true then
 some false
 else
 joinP (fun(d:Unit)=>
 some true) fun b=>
 (s_DirOk_l1 N a N 0).bind (Sum.elim (fun c=>some c) (fun(f:Unit)=>b ())))
instance i98 (N:Nat)(c:List Spot):JB 62 (s_DirOk N c) [RO 148 (c.map encSpot)]:=.st e e Tryz.call62 fun B r=>.q e (.st e (Ev.lnF e) e (.a e e (.Ek [] e e e) (.j e (fun _=>[]) (fun _=>[]) (fun _=>.L1 e (fun d=>[(0,RO 148 (c.map encSpot)),(3,VI d)]) (fun d=>[]) (.k [0,3] []) fun _ d _ b=>.q e (.st e (Ev.lnF e) e (.a e e (.j e (fun _=>[(0,RO 148 (c.map encSpot)),(3,VI d)]) (fun _=>[]) (fun _=>.B fun _ f=>.st e (Ev.iaF e e f) e (.q e (.c0 e i q fun _ _=>.a e e (.dn e (.Xr b e e (.il (.e e (.Ek [] e e e))))) (.a e e (.B fun _ g=>.st e (Ev.iaF e e g) e (.a e e (.dn e (.Xr b e e (.il (.e e (.Ek [] e e e))))) (.c0 e i q fun _ _=>.a e e (.dn e (.Xr b e e (.il (.e e (.Ek [] e e e))))) (.c0 e i q fun _ _=>.a e e (.dn e (.Xr b e e (.il (.e e (.Ek [] e e e))))) (.c0 e i q fun _ _=>.dn e (.a e e (.Xr b e e (.il (.e e (.Ek [] e e e)))) (.J e (.k [0,3] [])))))))) (.c0 e i q fun _ _=>.a e e (.dn e (.Xr b e e (.il (.e e (.Ek [] e e e))))) (.c0 e i q fun _ _=>.a e e (.dn e (.Xr b e e (.il (.e e (.Ek [] e e e))))) (.c0 e i q fun _ _=>.dn e (.a e e (.Xr b e e (.il (.e e (.Ek [] e e e)))) (.J e (.k [0,3] [])))))))))) fun _=>.R e (fun h=>⟨_,h,e,e⟩) (.k [0,3] [])) (.X b e e (.ir (.n e (.J e (.k [] [])))))))) fun _=>.Ek [] e e e)))
def s_l09Load_l1 (N:Nat)(c:Disk)(a:Manifest×Bool):Nat→Int→Option ((Shelf×Int×Int)⊕(Unit))
 |0,_=>none
 |m+1,b=>
 (if decide (b<(a.1.Segs.length:Int))=true then
 (at? a.1.Segs b).bind fun d=>
 (s_SegName N d).bind fun f=>
 (s_l03At N c f).bind fun g=>
 (if decide (g<0)=true then
 some (Sum.inl ((Shelf.mk (Manifest.mk ([]) 0 0 0 ([])) ([]) 0),0,3))
 else
 s_l09Load_l1 N c a m (w64 (b+1)))
 else
 some (Sum.inr ()))
def s_l09Load_l3 (N:Nat)(a:(List Spot)×(List BA)×Int):Nat→Int→Int→Option (Int)
 |0,_,_=>none
 |m+1,c,b=>
 (if decide (b<(a.2.1.length:Int))=true then
 (at? a.2.1 b).bind fun d=>
 (s_Frame N d).bind fun f=>
 s_l09Load_l3 N a m (w64 (c+(f.1.size:Int))) (w64 (b+1))
 else
 some c)
def s_l09Load_l2 (N:Nat)(h:Disk)(a:Manifest×Bool):Nat→Int→Int→Int→(List Spot)→Option ((Shelf×Int×Int)⊕(Int×Int×(List Spot)))
 |0,_,_,_,_=>none
 |m+1,p,b,d,j=>
 (if decide (b<(a.1.Segs.length:Int))=true then
 joinP (fun(f:Int×Int×(List Spot))=>
 s_l09Load_l2 N h a m f.1 (w64 (b+1)) f.2.1 f.2.2) fun k=>
 (at? a.1.Segs b).bind fun s=>
 (s_SegName N s).bind fun t=>
 (s_l03Text N h t).bind fun l=>
 (at? a.1.Segs b).bind fun u=>
 (s_ScanSeg N l u).bind fun c=>
 joinP (fun(g:Int)=>
 joinP (fun(y:Unit)=>
 (s_l08More N j c.1).bind fun n=>
 (if decide (c.2.2>d)=true then
 k (g,c.2.2,n)
 else
 k (g,d,n))) fun o=>
 (if decide (g<(l.size:Int))=true then
 (if decide ((w64 (b+1))<(a.1.Segs.length:Int))=true then
 some (Sum.inl ((Shelf.mk (Manifest.mk ([]) 0 0 0 ([])) ([]) 0),0,4))
 else
 o ())
 else
 o ())) fun w=>
 (s_l09Load_l3 N c N 0 0).bind (fun x=>w x)
 else
 some (Sum.inr (p,d,j)))
def s_l09Load (N:Nat)(b:Disk):Option (Shelf×Int×Int):=
 (s_DiskOk N b).bind fun g=>
 (if(!g)=true then
 some ((Shelf.mk (Manifest.mk ([]) 0 0 0 ([])) ([]) 0),0,1)
 else
 (s_FileAt N b (⟨#[109]⟩:BA)).bind fun f=>
 (s_ReadManifest N f.1).bind fun a=>
 (if(!f.2)=true then
 some ((Shelf.mk (Manifest.mk ([]) 0 0 0 ([])) ([]) 0),0,2)
 else
 (if(!a.2)=true then
 some ((Shelf.mk (Manifest.mk ([]) 0 0 0 ([])) ([]) 0),0,2)
 else
 joinP (fun(n:Unit)=>
 joinP (fun(c:Int×Int×(List Spot))=>
 (s_DirOk N c.2.2).bind fun h=>
 (if(!h)=true then
 some ((Shelf.mk (Manifest.mk ([]) 0 0 0 ([])) ([]) 0),0,4)
 else
 some ((Shelf.mk a.1 c.2.2 c.2.1),c.1,0))) fun j=>
 (s_l09Load_l2 N b a N 0 0 a.1.Base ([]:(List Spot))).bind (Sum.elim (fun k=>some k) (fun(d:Int×Int×(List Spot))=>j (d.1,d.2.1,d.2.2)))) fun l=>
 (s_l09Load_l1 N b a N 0).bind (Sum.elim (fun m=>some m) (fun(o:Unit)=>l ())))))
instance i99 (N:Nat)(g:Disk):JG 55 (s_l09Load N g) [.agg [RO 141 (g.Files.map encFile)]] 0 [] (fun r=>.tup [.agg [.sl 0 3 0 r.1.Man.Segs.length,VI r.1.Man.Next,VI r.1.Man.Base,VI r.1.Man.BaseTerm,.sl 1 3 0 r.1.Man.Conf.length,.sl 2 148 0 r.1.Dir.length,VI r.1.Stamp],VI r.2.1,VI r.2.2]) (fun r=>[(0,.vec 3 (r.1.Man.Segs.map encI)),(1,.vec 3 (r.1.Man.Conf.map encI)),(2,.vec 148 (r.1.Dir.map encSpot))]):=.st e e Tryz.call55 fun B r=>.q e (.c0 e i q fun _ _=>.a e e (.E e e (.n [0,1,2] [] [0] [] [10000000,10000001,10000002])) (.c0 e i q fun _ _=>.f [] [] 2 e i q fun b _=>.q e (.q e (.a e e (.E e e (.n [0,1,2] [] [0] [] [10000000,10000001,10000002])) (.a e e (.E e e (.n [0,1,2] [] [0] [] [10000000,10000001,10000002])) (.j e (fun _=>[(1,.ptr 0 0),(2,.ptr 1 0),(7,.ptr 2 0),(9,.ptr 3 0)]) (fun _=>[(0,.box [RO 141 (g.Files.map encFile)]),(1,.box [.sl 4 3 0 (([]:(List Int)).length),VI 0,VI 0,VI 0,.sl 5 3 0 (([]:(List Int)).length),.sl 6 148 0 (([]:(List Spot)).length),VI 0]),(2,.box [.sl 7 3 0 b.1.Segs.length,VI b.1.Next,VI b.1.Base,VI b.1.BaseTerm,.sl 8 3 0 b.1.Conf.length]),(3,.box [.sl 7 3 0 b.1.Segs.length,VI b.1.Next,VI b.1.Base,VI b.1.BaseTerm,.sl 8 3 0 b.1.Conf.length,.sl 9 148 0 (([]:(List Spot)).length),VI b.1.Base]),(4,.vec 3 (([]:(List Int)).map encI)),(5,.vec 3 (([]:(List Int)).map encI)),(6,.vec 148 (([]:(List Spot)).map encSpot)),(7,.vec 3 (b.1.Segs.map encI)),(8,.vec 3 (b.1.Conf.map encI)),(9,.vec 148 (([]:(List Spot)).map encSpot))]) (fun _=>.L1 e (fun t=>[(1,.ptr 0 0),(2,.ptr 1 0),(7,.ptr 2 0),(9,.ptr 3 0),(10,VI t)]) (fun t=>[(0,.box [RO 141 (g.Files.map encFile)]),(1,.box [.sl 4 3 0 (([]:(List Int)).length),VI 0,VI 0,VI 0,.sl 5 3 0 (([]:(List Int)).length),.sl 6 148 0 (([]:(List Spot)).length),VI 0]),(2,.box [.sl 7 3 0 b.1.Segs.length,VI b.1.Next,VI b.1.Base,VI b.1.BaseTerm,.sl 8 3 0 b.1.Conf.length]),(3,.box [.sl 7 3 0 b.1.Segs.length,VI b.1.Next,VI b.1.Base,VI b.1.BaseTerm,.sl 8 3 0 b.1.Conf.length,.sl 9 148 0 (([]:(List Spot)).length),VI b.1.Base]),(4,.vec 3 (([]:(List Int)).map encI)),(5,.vec 3 (([]:(List Int)).map encI)),(6,.vec 148 (([]:(List Spot)).map encSpot)),(7,.vec 3 (b.1.Segs.map encI)),(8,.vec 3 (b.1.Conf.map encI)),(9,.vec 148 (([]:(List Spot)).map encSpot))]) (.n [1,2,7,9,10] [1000,1016,17464,29736,17400,17401] [] [1016,29736] [1000,1016,17464,29736,20000000,20000001,20000002,17400,17401,20000064]) fun _ t _ y=>.q e (.a e e (.q e (.B fun _ v=>.st e (Ev.iaW e e e v) e (.st e (Ev.ldE (f:=encI) e e (at_some v).2 e e e) e (.c0 e i q fun _ _=>.c0 e i q fun _ _=>.dn e (.a e e (.Xr y e e (.il (.e e (.E e e (.n [0,1,2] [] [0] [] [10000000,10000001,10000002]))))) (.R e (fun h=>⟨_,h,e,e⟩) (.k [1,2,7,9,10] [0,1,2,3,4,5,6,7,8,9]))))))) (.X y e e (.ir (.n e (.J e (.k [1,2,7,9] [0,1,2,3,4,5,6,7,8,9]))))))) fun _=>.j e (fun m=>[(2,.ptr 0 0),(9,.ptr 1 0),(11,VI m.1)]) (fun m=>[(0,.box [.sl 2 3 0 (([]:(List Int)).length),VI 0,VI 0,VI 0,.sl 3 3 0 (([]:(List Int)).length),.sl 4 148 0 (([]:(List Spot)).length),VI 0]),(1,.box [.sl 5 3 0 b.1.Segs.length,VI b.1.Next,VI b.1.Base,VI b.1.BaseTerm,.sl 6 3 0 b.1.Conf.length,.sl 7 148 0 m.2.2.length,VI m.2.1]),(2,.vec 3 (([]:(List Int)).map encI)),(3,.vec 3 (([]:(List Int)).map encI)),(4,.vec 148 (([]:(List Spot)).map encSpot)),(5,.vec 3 (b.1.Segs.map encI)),(6,.vec 3 (b.1.Conf.map encI)),(7,.vec 148 (m.2.2.map encSpot))]) (fun _=>.L4 e (fun u l o d=>[(1,.ptr 0 0),(2,.ptr 1 0),(7,.ptr 2 0),(9,.ptr 3 0),(11,VI u),(12,VI l)]) (fun u l o d=>[(0,.box [RO 141 (g.Files.map encFile)]),(1,.box [.sl 4 3 0 (([]:(List Int)).length),VI 0,VI 0,VI 0,.sl 5 3 0 (([]:(List Int)).length),.sl 6 148 0 (([]:(List Spot)).length),VI 0]),(2,.box [.sl 7 3 0 b.1.Segs.length,VI b.1.Next,VI b.1.Base,VI b.1.BaseTerm,.sl 8 3 0 b.1.Conf.length]),(3,.box [.sl 7 3 0 b.1.Segs.length,VI b.1.Next,VI b.1.Base,VI b.1.BaseTerm,.sl 8 3 0 b.1.Conf.length,.sl 9 148 0 d.length,VI o]),(4,.vec 3 (([]:(List Int)).map encI)),(5,.vec 3 (([]:(List Int)).map encI)),(6,.vec 148 (([]:(List Spot)).map encSpot)),(7,.vec 3 (b.1.Segs.map encI)),(8,.vec 3 (b.1.Conf.map encI)),(9,.vec 148 (d.map encSpot))]) (.k [1,2,7,9,11,12] [0,1,2,3,4,5,6,7,8,9]) fun _ u l o d _ z=>.q e (.a e e (.j e (fun p=>[(1,.ptr 0 0),(2,.ptr 1 0),(7,.ptr 2 0),(9,.ptr 3 0),(11,VI p.1),(12,VI l)]) (fun p=>[(0,.box [RO 141 (g.Files.map encFile)]),(1,.box [.sl 4 3 0 (([]:(List Int)).length),VI 0,VI 0,VI 0,.sl 5 3 0 (([]:(List Int)).length),.sl 6 148 0 (([]:(List Spot)).length),VI 0]),(2,.box [.sl 7 3 0 b.1.Segs.length,VI b.1.Next,VI b.1.Base,VI b.1.BaseTerm,.sl 8 3 0 b.1.Conf.length]),(3,.box [.sl 7 3 0 b.1.Segs.length,VI b.1.Next,VI b.1.Base,VI b.1.BaseTerm,.sl 8 3 0 b.1.Conf.length,.sl 9 148 0 p.2.2.length,VI p.2.1]),(4,.vec 3 (([]:(List Int)).map encI)),(5,.vec 3 (([]:(List Int)).map encI)),(6,.vec 148 (([]:(List Spot)).map encSpot)),(7,.vec 3 (b.1.Segs.map encI)),(8,.vec 3 (b.1.Conf.map encI)),(9,.vec 148 (p.2.2.map encSpot))]) (fun _=>.B fun _ a0=>.st e (Ev.iaW e e e a0) e (.st e (Ev.ldE (f:=encI) e e (at_some a0).2 e e e) e (.c0 e i q fun _ _=>.c0 e i q fun a1 _=>.dn e (.B fun _ a2=>.st e (Ev.iaW e e e a2) e (.st e (Ev.ldE (f:=encI) e e (at_some a2).2 e e e) e (.f [] [] 2 e i q fun c _=>.j e (fun s=>[(1,.ptr 0 0),(2,.ptr 1 0),(7,.ptr 2 0),(9,.ptr 3 0),(11,VI s),(12,VI l),(13,VS a1),(14,.sl 4 148 0 c.1.length),(16,VI c.2.2)]) (fun s=>[(0,.box [RO 141 (g.Files.map encFile)]),(1,.box [.sl 5 3 0 (([]:(List Int)).length),VI 0,VI 0,VI 0,.sl 6 3 0 (([]:(List Int)).length),.sl 7 148 0 (([]:(List Spot)).length),VI 0]),(2,.box [.sl 8 3 0 b.1.Segs.length,VI b.1.Next,VI b.1.Base,VI b.1.BaseTerm,.sl 9 3 0 b.1.Conf.length]),(3,.box [.sl 8 3 0 b.1.Segs.length,VI b.1.Next,VI b.1.Base,VI b.1.BaseTerm,.sl 9 3 0 b.1.Conf.length,.sl 10 148 0 d.length,VI o]),(4,.vec 148 (c.1.map encSpot)),(5,.vec 3 (([]:(List Int)).map encI)),(6,.vec 3 (([]:(List Int)).map encI)),(7,.vec 148 (([]:(List Spot)).map encSpot)),(8,.vec 3 (b.1.Segs.map encI)),(9,.vec 3 (b.1.Conf.map encI)),(10,.vec 148 (d.map encSpot))]) (fun _=>.L2 e (fun w x=>[(1,.ptr 0 0),(2,.ptr 1 0),(7,.ptr 2 0),(9,.ptr 3 0),(11,VI w),(12,VI l),(13,VS a1),(14,.sl 4 148 0 c.1.length),(15,.sl 5 9 0 c.2.1.length),(16,VI c.2.2),(17,VI x)]) (fun w x=>[(0,.box [RO 141 (g.Files.map encFile)]),(1,.box [.sl 6 3 0 (([]:(List Int)).length),VI 0,VI 0,VI 0,.sl 7 3 0 (([]:(List Int)).length),.sl 8 148 0 (([]:(List Spot)).length),VI 0]),(2,.box [.sl 9 3 0 b.1.Segs.length,VI b.1.Next,VI b.1.Base,VI b.1.BaseTerm,.sl 10 3 0 b.1.Conf.length]),(3,.box [.sl 9 3 0 b.1.Segs.length,VI b.1.Next,VI b.1.Base,VI b.1.BaseTerm,.sl 10 3 0 b.1.Conf.length,.sl 11 148 0 d.length,VI o]),(4,.vec 148 (c.1.map encSpot)),(5,.vec 9 (c.2.1.map encS)),(6,.vec 3 (([]:(List Int)).map encI)),(7,.vec 3 (([]:(List Int)).map encI)),(8,.vec 148 (([]:(List Spot)).map encSpot)),(9,.vec 3 (b.1.Segs.map encI)),(10,.vec 3 (b.1.Conf.map encI)),(11,.vec 148 (d.map encSpot))]) (.k [1,2,7,9,11,12,13,14,15,16,17] [0,1,2,3,74824,74825,4,5,6,7,8,9]) fun _ w x _ a4=>.q e (.a e e (.B fun _ a3=>.st e (Ev.iaW e e e a3) e (.st e (Ev.ldE (f:=encS) e e (at_some a3).2 e e e) e (.c0 e i q fun _ _=>.R e (fun h=>⟨_,_,h,e,e⟩) (.k [1,2,7,9,11,12,13,14,15,16,17] [0,1,2,3,4,5,6,7,8,9,10,11])))) (.X a4 e e (.n e (.J e (.k [1,2,7,9,11,12,13,14,16] [0,1,2,3,4,6,7,8,9,10,11])))))) fun s=>.j e (fun _=>[(1,.ptr 0 0),(2,.ptr 1 0),(7,.ptr 2 0),(9,.ptr 3 0),(11,VI s),(12,VI l),(14,.sl 4 148 0 c.1.length),(16,VI c.2.2)]) (fun _=>[(0,.box [RO 141 (g.Files.map encFile)]),(1,.box [.sl 5 3 0 (([]:(List Int)).length),VI 0,VI 0,VI 0,.sl 6 3 0 (([]:(List Int)).length),.sl 7 148 0 (([]:(List Spot)).length),VI 0]),(2,.box [.sl 8 3 0 b.1.Segs.length,VI b.1.Next,VI b.1.Base,VI b.1.BaseTerm,.sl 9 3 0 b.1.Conf.length]),(3,.box [.sl 8 3 0 b.1.Segs.length,VI b.1.Next,VI b.1.Base,VI b.1.BaseTerm,.sl 9 3 0 b.1.Conf.length,.sl 10 148 0 d.length,VI o]),(4,.vec 148 (c.1.map encSpot)),(5,.vec 3 (([]:(List Int)).map encI)),(6,.vec 3 (([]:(List Int)).map encI)),(7,.vec 148 (([]:(List Spot)).map encSpot)),(8,.vec 3 (b.1.Segs.map encI)),(9,.vec 3 (b.1.Conf.map encI)),(10,.vec 148 (d.map encSpot))]) (fun _=>.q e (.a e e (.a e e (.Xr z e e (.il (.e e (.E e e (.n [0,1,2] [] [0] [] [10000000,10000001,10000002]))))) (.J e (.k [1,2,7,9,11,12,14,16] [0,1,2,3,4,5,6,7,8,9,10]))) (.J e (.k [1,2,7,9,11,12,14,16] [0,1,2,3,4,5,6,7,8,9,10])))) fun _=>.f (hp:=(.cons (.borrow e (by decide) lw) (.cons (.borrow e (by decide) lw) .nil))) (hcase:=fun _=>(.inr ⟨rfl,ownL_root ⟨own_rows (fun _=>e) _,trivial⟩⟩)) [] [10,4] 1 e i q fun _ _=>.a e e (.J e (.k [1,2,7,9,11,12] [0,1,2,3,5,6,7,8,9,111640])) (.J e (.k [1,2,7,9,11,12] [0,1,2,3,5,6,7,8,9,111640])))))))) fun p=>.R e (fun h=>⟨_,_,_,_,h,e,e⟩) (.k [1,2,7,9,11,12] [0,1,2,3,4,5,6,7,8,9])) (.X z e e (.ir (.n e (.J e (.k [2,9,11] [1,3,4,5,6,7,8,9]))))))) fun m=>.q e (.f (hp:=(.cons (.borrow e (by decide) lw) .nil)) (hcase:=fun _=>(.inr ⟨rfl,ownL_root trivial⟩)) [] [7] 0 e i q fun _ _=>.a e e (.E e e (.n [0,1,2] [] [0] [] [10000000,10000001,10000002])) (.Ek [5,6,7] e e e))))))))
def s_ReadDecimal_l1 (N:Nat)(a:BA):Nat→Int→Int→Option ((Int×Bool)⊕(Int))
 |0,_,_=>none
 |m+1,c,b=>
 (if decide (b<(a.size:Int))=true then
 (sat? a b).bind fun d=>
 (if decide (d<48)=true then
 some (Sum.inl (0,false))
 else
 (sat? a b).bind fun f=>
 (if decide (f>57)=true then
 some (Sum.inl (0,false))
 else
 (sat? a b).bind fun g=>
 s_ReadDecimal_l1 N a m (w64 ((w64 ((w64 (10*c))+(w64 (g))))-48)) (w64 (b+1))))
 else
 some (Sum.inr c))
def s_ReadDecimal (N:Nat)(a:BA):Option (Int×Bool):=
 (if decide ((a.size:Int)>10)=true then
 some (0,false)
 else
 joinP (fun(b:Int)=>
 (if decide (b>1000000000)=true then
 some (0,false)
 else
 (s_Decimal N b).bind fun c=>
 (if(!decide (c=a))=true then
 some (0,false)
 else
 some (b,true)))) fun d=>
 (s_ReadDecimal_l1 N a N 0 0).bind (Sum.elim (fun f=>some f) (fun(g:Int)=>d g)))
instance i100 (N:Nat)(b:BA):JG 112 (s_ReadDecimal N b) [VS b] 0 [] (fun r=>.tup [VI r.1,VB r.2]) (fun r=>[]):=.st e e Tryz.call112 fun B r=>.q e (.a e e (.Ek [] e e e) (.j e (fun c=>[(0,VS b),(4,VI c)]) (fun c=>[]) (fun _=>.L2 e (fun d f=>[(0,VS b),(4,VI d),(5,VI f)]) (fun d f=>[]) (.k [0,4,5] []) fun _ d f _ g=>.q e (.a e e (.q e (.q e (.q e (.B fun _ l=>.st e (Ev.ixS e e l) e (.a e e (.Xr g e e (.il (.e e (.Ek [] e e e)))) (.B fun _ m=>.st e (Ev.ixS e e m) e (.a e e (.Xr g e e (.il (.e e (.Ek [] e e e)))) (.B fun _ o=>.st e (Ev.ixS e e o) e (.R e (fun h=>⟨_,_,h,e,e⟩) (.k [0,4,5] [])))))))))) (.X g e e (.ir (.n e (.J e (.k [0,4] []))))))) fun c=>.q e (.q e (.a e e (.Ek [] e e e) (.c0 e i q fun _ _=>.a e e (.Ek [] e e e) (.Ek [] e e e))))))
def s_l09Seg (N:Nat)(a:BA):Option (Int):=
 (if decide ((a.size:Int)<2)=true then
 some (-1:Int)
 else
 (sdrop? a 1).bind fun c=>
 (s_ReadDecimal N c).bind fun b=>
 (if(!b.2)=true then
 some (-1:Int)
 else
 (s_SegName N b.1).bind fun d=>
 (if(!decide (d=a))=true then
 some (-1:Int)
 else
 some b.1)))
instance i101 (N:Nat)(b:BA):JI 57 (s_l09Seg N b) [VS b]:=.st e e Tryz.call57 fun B r=>.q e (.a e e (.Ek [] e e e) (.B fun _ c=>.st e (Ev.ssL e e c) e (.c0 e i q fun _ _=>.q e (.q e (.a e e (.Ek [] e e e) (.c0 e i q fun _ _=>.a e e (.Ek [] e e e) (.Ek [] e e e)))))))
def s_l09In_l1 (N:Nat)(a:List Int)(c:Int):Nat→Int→Option ((Bool)⊕(Unit))
 |0,_=>none
 |m+1,b=>
 (if decide (b<(a.length:Int))=true then
 (at? a b).bind fun d=>
 (if(d==c)=true then
 some (Sum.inl true)
 else
 s_l09In_l1 N a c m (w64 (b+1)))
 else
 some (Sum.inr ()))
def s_l09In (N:Nat)(a:List Int)(b:Int):Option (Bool):=
 joinP (fun(f:Unit)=>
 some false) fun c=>
 (s_l09In_l1 N a b N 0).bind (Sum.elim (fun d=>some d) (fun(g:Unit)=>c ()))
instance i102 (N:Nat)(b:List Int)(c:Int):JB 58 (s_l09In N b c) [RO 3 (b.map encI),VI c]:=.st e e Tryz.call58 fun B r=>.j e (fun _=>[]) (fun _=>[]) (fun _=>.L1 e (fun d=>[(0,RO 3 (b.map encI)),(1,VI c),(5,VI d)]) (fun d=>[]) (.k [0,1,5] []) fun _ d _ f=>.q e (.st e (Ev.lnF e) e (.a e e (.q e (.B fun _ g=>.st e (Ev.iaF e e g) e (.a e e (.Xr f e e (.il (.e e (.Ek [] e e e)))) (.R e (fun h=>⟨_,h,e,e⟩) (.k [0,1,5] []))))) (.X f e e (.ir (.n e (.J e (.k [] [])))))))) fun _=>.Ek [] e e e
def s_OpenShelf_l1 (N:Nat)(a:Disk)(f:Shelf×Int×Int):Nat→Int→(List Raw)→Option ((List Raw))
 |0,_,_=>none
 |m+1,b,c=>
 (if decide (b<(a.Files.length:Int))=true then
 joinP (fun(h:List Raw)=>
 s_OpenShelf_l1 N a f m (w64 (b+1)) h) fun d=>
 (at? a.Files b).bind fun j=>
 (s_l09Seg N j.Name).bind fun g=>
 (if decide (g≥0)=true then
 (s_l09In N f.1.Man.Segs g).bind fun k=>
 (if(!k)=true then
 (at? a.Files b).bind fun l=>
 (cat? c ([(Raw.mk 4 l.Name (⟨#[]⟩:BA) (⟨#[]⟩:BA))]:List Raw)).bind fun n=>
 d n
 else
 d c)
 else
 d c)
 else
 some c)
def s_OpenShelf (N:Nat)(b:Disk):Option (Shelf×(List Raw)×Int):=
 (s_l09Load N b).bind fun a=>
 (if(a.2.2 !=0)=true then
 some ((Shelf.mk (Manifest.mk ([]) 0 0 0 ([])) ([]) 0),([]:List Raw),a.2.2)
 else
 joinP (fun(j:List Raw)=>
 joinP (fun(c:List Raw)=>
 (at? a.1.Man.Segs (w64 ((a.1.Man.Segs.length:Int)-1))).bind fun k=>
 (s_SegName N k).bind fun d=>
 (s_l03Text N b d).bind fun f=>
 joinP (fun(l:List Raw)=>
 some (a.1,l,0)) fun g=>
 (if decide (a.2.1<(f.size:Int))=true then
 (stake? f a.2.1).bind fun m=>
 (cat? c ([(Raw.mk 1 d (⟨#[]⟩:BA) m)]:List Raw)).bind fun n=>
 g n
 else
 g c)) fun o=>
 (s_OpenShelf_l1 N b a N 0 j).bind (fun p=>o p)) fun h=>
 (s_l03At N b (⟨#[109,43]⟩:BA)).bind fun s=>
 (if decide (s≥0)=true then
 (cat? ([]:List Raw) ([(Raw.mk 4 (⟨#[109,43]⟩:BA) (⟨#[]⟩:BA) (⟨#[]⟩:BA))]:List Raw)).bind fun t=>
 h t
 else
 h ([]:List Raw)))
instance i103 (N:Nat)(c:Disk):JG 20 (s_OpenShelf N c) [.agg [RO 141 (c.Files.map encFile)]] 0 [] (fun r=>.tup [.agg [.sl 0 3 0 r.1.Man.Segs.length,VI r.1.Man.Next,VI r.1.Man.Base,VI r.1.Man.BaseTerm,.sl 1 3 0 r.1.Man.Conf.length,.sl 2 148 0 r.1.Dir.length,VI r.1.Stamp],.sl 3 138 0 r.2.1.length,VI r.2.2]) (fun r=>[(0,.vec 3 (r.1.Man.Segs.map encI)),(1,.vec 3 (r.1.Man.Conf.map encI)),(2,.vec 148 (r.1.Dir.map encSpot)),(3,.vec 138 (r.2.1.map encRaw))]):=.st e e Tryz.call20 fun B r=>.f [] [] 3 e i q fun b _=>.st e (Ev.bsW (ys:=([]:List Raw)) (f:=encRaw) e .nil e e e e e) e (.q e (.a e e (.E e e (.n [0,1,2] [9192] [0] [] [10000000,10000001,10000002,9192])) (.j e (fun d=>[(1,.ptr 0 0),(2,.ptr 1 0),(5,.ptr 2 0),(6,VI b.2.1),(8,.sl 3 138 0 d.length)]) (fun d=>[(0,.box [RO 141 (c.Files.map encFile)]),(1,.box [.sl 4 3 0 (([]:List Int).length),VI 0,VI 0,VI 0,.sl 5 3 0 (([]:List Int).length),.sl 6 148 0 (([]:List Spot).length),VI 0]),(2,.box [.sl 7 3 0 b.1.Man.Segs.length,VI b.1.Man.Next,VI b.1.Man.Base,VI b.1.Man.BaseTerm,.sl 8 3 0 b.1.Man.Conf.length,.sl 9 148 0 b.1.Dir.length,VI b.1.Stamp]),(3,.vec 138 (d.map encRaw)),(4,.vec 3 (([]:List Int).map encI)),(5,.vec 3 (([]:List Int).map encI)),(6,.vec 148 (([]:List Spot).map encSpot)),(7,.vec 3 (b.1.Man.Segs.map encI)),(8,.vec 3 (b.1.Man.Conf.map encI)),(9,.vec 148 (b.1.Dir.map encSpot))]) (fun _=>.c0 e i q fun _ _=>.a e e (.st e (Ev.bsW (ys:=([(Raw.mk 4 (⟨#[109,43]⟩:BA) (⟨#[]⟩:BA) (⟨#[]⟩:BA))]:List Raw)) (f:=encRaw) e (.d4 .nil) e e e e e) e (.B fun _ t=>.st e (Ev.apW (f:=encRaw) (ontoW e e e) (addsW e e e (fun _=>e)) e bt138 e t) e (.J e (.n [1,2,5,6,8] [1000,1016,5192,25624,5112,5113,5114] [] [1016] [1000,1016,5192,25624,20000000,20000001,20000002,5112,5113,5114])))) (.J e (.n [1,2,5,6,8] [1000,1016,5192,9192,5112,5113,5114] [] [1016] [1000,1016,5192,9192,20000000,20000001,20000002,5112,5113,5114]))) fun d=>.j e (fun g=>[(1,.ptr 0 0),(2,.ptr 1 0),(5,.ptr 2 0),(6,VI b.2.1),(8,.sl 3 138 0 g.length)]) (fun g=>[(0,.box [RO 141 (c.Files.map encFile)]),(1,.box [.sl 4 3 0 (([]:(List Int)).length),VI 0,VI 0,VI 0,.sl 5 3 0 (([]:(List Int)).length),.sl 6 148 0 (([]:(List Spot)).length),VI 0]),(2,.box [.sl 7 3 0 b.1.Man.Segs.length,VI b.1.Man.Next,VI b.1.Man.Base,VI b.1.Man.BaseTerm,.sl 8 3 0 b.1.Man.Conf.length,.sl 9 148 0 b.1.Dir.length,VI b.1.Stamp]),(3,.vec 138 (g.map encRaw)),(4,.vec 3 (([]:(List Int)).map encI)),(5,.vec 3 (([]:(List Int)).map encI)),(6,.vec 148 (([]:(List Spot)).map encSpot)),(7,.vec 3 (b.1.Man.Segs.map encI)),(8,.vec 3 (b.1.Man.Conf.map encI)),(9,.vec 148 (b.1.Dir.map encSpot))]) (fun _=>.L2 e (fun l m=>[(1,.ptr 0 0),(2,.ptr 1 0),(5,.ptr 2 0),(6,VI b.2.1),(8,.sl 3 138 0 m.length),(9,VI l)]) (fun l m=>[(0,.box [RO 141 (c.Files.map encFile)]),(1,.box [.sl 4 3 0 (([]:(List Int)).length),VI 0,VI 0,VI 0,.sl 5 3 0 (([]:(List Int)).length),.sl 6 148 0 (([]:(List Spot)).length),VI 0]),(2,.box [.sl 7 3 0 b.1.Man.Segs.length,VI b.1.Man.Next,VI b.1.Man.Base,VI b.1.Man.BaseTerm,.sl 8 3 0 b.1.Man.Conf.length,.sl 9 148 0 b.1.Dir.length,VI b.1.Stamp]),(3,.vec 138 (m.map encRaw)),(4,.vec 3 (([]:(List Int)).map encI)),(5,.vec 3 (([]:(List Int)).map encI)),(6,.vec 148 (([]:(List Spot)).map encSpot)),(7,.vec 3 (b.1.Man.Segs.map encI)),(8,.vec 3 (b.1.Man.Conf.map encI)),(9,.vec 148 (b.1.Dir.map encSpot))]) (.k [1,2,5,6,8,9] [0,1,2,3,4,5,6,7,8,9]) fun _ l m _ u=>.q e (.st e (Ev.lnF e) e (.a e e (.j e (fun o=>[(1,.ptr 0 0),(2,.ptr 1 0),(5,.ptr 2 0),(6,VI b.2.1),(8,.sl 3 138 0 o.length),(9,VI l)]) (fun o=>[(0,.box [RO 141 (c.Files.map encFile)]),(1,.box [.sl 4 3 0 (([]:(List Int)).length),VI 0,VI 0,VI 0,.sl 5 3 0 (([]:(List Int)).length),.sl 6 148 0 (([]:(List Spot)).length),VI 0]),(2,.box [.sl 7 3 0 b.1.Man.Segs.length,VI b.1.Man.Next,VI b.1.Man.Base,VI b.1.Man.BaseTerm,.sl 8 3 0 b.1.Man.Conf.length,.sl 9 148 0 b.1.Dir.length,VI b.1.Stamp]),(3,.vec 138 (o.map encRaw)),(4,.vec 3 (([]:(List Int)).map encI)),(5,.vec 3 (([]:(List Int)).map encI)),(6,.vec 148 (([]:(List Spot)).map encSpot)),(7,.vec 3 (b.1.Man.Segs.map encI)),(8,.vec 3 (b.1.Man.Conf.map encI)),(9,.vec 148 (b.1.Dir.map encSpot))]) (fun _=>.B fun _ w=>.st e (Ev.iaF e e w) e (.c0 e i q fun _ _=>.q e (.a e e (.f (hp:=(.cons (.borrow e (by decide) lw) (.d1 .nil))) (hcase:=fun _=>(.inr ⟨rfl,ownL_root trivial⟩)) [] [7] 0 e i q fun _ _=>.a e e (.B fun x y=>.st e (Ev.iaF e e y) e (.st e (Ev.bsW (ys:=([(Raw.mk 4 x.Name (⟨#[]⟩:BA) (⟨#[]⟩:BA))]:List Raw)) (f:=encRaw) e (.d4 .nil) e e e e e) e (.B fun _ v=>.st e (Ev.apW (f:=encRaw) (ontoW e e e) (addsW e e e (fun _=>e)) e bt138 e v) e (.J e (.k [1,2,5,6,8,9] [0,1,2,50296,4,5,6,7,8,9]))))) (.J e (.k [1,2,5,6,8,9] [0,1,2,3,4,5,6,7,8,9]))) (.J e (.k [1,2,5,6,8,9] [0,1,2,3,4,5,6,7,8,9]))))) fun o=>.R e (fun h=>⟨_,_,h,e,e⟩) (.k [1,2,5,6,8,9] [0,1,2,3,4,5,6,7,8,9])) (.X u e e (.n e (.J e (.k [1,2,5,6,8] [0,1,2,3,4,5,6,7,8,9]))))))) fun g=>.B fun _ s=>.st e (Ev.iaW e e e s) e (.st e (Ev.ldE (f:=encI) e e (at_some s).2 e e e) e (.c0 e i q fun z _=>.c0 e i q fun _ _=>.j e (fun p=>[(2,.ptr 0 0),(5,.ptr 1 0),(8,.sl 2 138 0 p.length)]) (fun p=>[(0,.box [.sl 3 3 0 (([]:(List Int)).length),VI 0,VI 0,VI 0,.sl 4 3 0 (([]:(List Int)).length),.sl 5 148 0 (([]:(List Spot)).length),VI 0]),(1,.box [.sl 6 3 0 b.1.Man.Segs.length,VI b.1.Man.Next,VI b.1.Man.Base,VI b.1.Man.BaseTerm,.sl 7 3 0 b.1.Man.Conf.length,.sl 8 148 0 b.1.Dir.length,VI b.1.Stamp]),(2,.vec 138 (p.map encRaw)),(3,.vec 3 (([]:(List Int)).map encI)),(4,.vec 3 (([]:(List Int)).map encI)),(5,.vec 148 (([]:(List Spot)).map encSpot)),(6,.vec 3 (b.1.Man.Segs.map encI)),(7,.vec 3 (b.1.Man.Conf.map encI)),(8,.vec 148 (b.1.Dir.map encSpot))]) (fun _=>.a e e (.B fun a0 a1=>.st e (Ev.ssH e e a1) e (.st e (Ev.bsW (ys:=([(Raw.mk 1 z (⟨#[]⟩:BA) a0)]:List Raw)) (f:=encRaw) e (.d4 .nil) e e e e e) e (.B fun _ a2=>.st e (Ev.apW (f:=encRaw) (ontoW e e e) (addsW e e e (fun _=>e)) e bt138 e a2) e (.J e (.k [2,5,8] [1,2,66648,4,5,6,7,8,9]))))) (.J e (.k [2,5,8] [1,2,3,4,5,6,7,8,9]))) fun p=>.Ek [6,7,8,2] e e e)))))
def s_ShelfMap_l1 (N:Nat)(d:Disk)(b:Shelf):Nat→Int→(List Pair)→Option (((List Pair)×Bool)⊕((List Pair)))
 |0,_,_=>none
 |m+1,c,f=>
 (if decide (c<(b.Dir.length:Int))=true then
 (at? b.Dir c).bind fun a=>
 (s_SegName N a.Seg).bind fun h=>
 (s_l03Text N d h).bind fun g=>
 (if decide ((w64 (a.At+a.Size))>(g.size:Int))=true then
 some (Sum.inl (([]:List Pair),false))
 else
 (scut? g a.At (w64 (a.At+a.Size))).bind fun j=>
 (cat? f ([(Pair.mk a.Key j)]:List Pair)).bind fun k=>
 s_ShelfMap_l1 N d b m (w64 (c+1)) k)
 else
 some (Sum.inr f))
def s_ShelfMap (N:Nat)(a:Disk)(b:Shelf):Option ((List Pair)×Bool):=
 (s_DiskOk N a).bind fun c=>
 (if(!c)=true then
 some (([]:List Pair),false)
 else
 (s_DirOk N b.Dir).bind fun d=>
 (if(!d)=true then
 some (([]:List Pair),false)
 else
 joinP (fun(f:List Pair)=>
 some (f,true)) fun g=>
 (s_ShelfMap_l1 N a b N 0 ([]:List Pair)).bind (Sum.elim (fun h=>some h) (fun(j:List Pair)=>g j))))
instance i104 (N:Nat)(g:Disk)(b:Shelf):JG 21 (s_ShelfMap N g b) [.agg [RO 141 (g.Files.map encFile)],.agg [RO 3 (b.Man.Segs.map encI),VI b.Man.Next,VI b.Man.Base,VI b.Man.BaseTerm,RO 3 (b.Man.Conf.map encI),RO 148 (b.Dir.map encSpot),VI b.Stamp]] 0 [] (fun r=>.tup [.sl 0 79 0 r.1.length,VB r.2]) (fun r=>[(0,.vec 79 (r.1.map encPair))]):=.st e e Tryz.call21 fun B r=>.st e (Ev.bsW (ys:=([]:List Pair)) (f:=encPair) e .nil e e e e e) e (.q e (.q e (.c0 e i q fun _ _=>.a e e (.Ek [5096] e e e) (.c0 e i q fun _ _=>.a e e (.Ek [5096] e e e) (.j e (fun c=>[(6,.sl 0 79 0 c.length)]) (fun c=>[(0,.vec 79 (c.map encPair))]) (fun _=>.L2 e (fun l d=>[(2,.ptr 0 0),(3,.ptr 1 0),(6,.sl 2 79 0 d.length),(7,VI l)]) (fun l d=>[(0,.box [RO 141 (g.Files.map encFile)]),(1,.box [RO 3 (b.Man.Segs.map encI),VI b.Man.Next,VI b.Man.Base,VI b.Man.BaseTerm,RO 3 (b.Man.Conf.map encI),RO 148 (b.Dir.map encSpot),VI b.Stamp]),(2,.vec 79 (d.map encPair))]) (.k [2,3,6,7] [1000,1016,5096]) fun _ l d _ m=>.q e (.st e (Ev.lnF e) e (.a e e (.q e (.B fun o p=>.st e (Ev.iaF e e p) e (.c0 e i q fun _ _=>.c0 e i q fun _ _=>.dn e (.q e (.a e e (.st e (Ev.bsW (ys:=([]:List Pair)) (f:=encPair) e .nil e e e e e) e (.Xr m e e (.il (.e e (.Ek [41960] e e e))))) (.B fun s t=>.st e (Ev.ssB e e e t) e (.st e (Ev.bsW (ys:=([(Pair.mk o.Key s)]:List Pair)) (f:=encPair) e (.d2 .nil) e e e e e) e (.B fun _ u=>.st e (Ev.apW (f:=encPair) (ontoW e e e) (addsW e e e (fun _=>e)) e bt79 e u) e (.dn e (.R e (fun h=>⟨_,_,h,e,e⟩) (.k [2,3,6,7] [0,1,46280]))))))))))) (.X m e e (.ir (.n e (.J e (.k [6] [2])))))))) fun c=>.Ek [0] e e e)))))
def s_CommandOk (N:Nat)(a:Command):Option (Bool):=
 (s_l01In N a.Op 1 5).bind fun b=>
 (if(!b)=true then
 some false
 else
 (s_l01In N a.Session 0 100000).bind fun c=>
 (if(!c)=true then
 some false
 else
 (s_l01In N a.Seq 0 100000).bind fun d=>
 (if(!d)=true then
 some false
 else
 (if decide ((a.Value.size:Int)>12)=true then
 some false
 else
 (if decide ((a.Old.size:Int)>12)=true then
 some false
 else
 (if(a.Op==1)=true then
 some (((a.Op==1)&&((a.Session==0)&&((a.Seq==0)&&(decide (a.Key=(⟨#[]⟩:BA))&&(decide (a.Value=(⟨#[]⟩:BA))&&(decide (a.Old=(⟨#[]⟩:BA))&&true)))))) ^^ false)
 else
 (s_l01In N (a.Key.size:Int) 1 9).bind fun f=>
 (if(!f)=true then
 some false
 else
 (if(a.Op==2)=true then
 (if decide (a.Value=(⟨#[]⟩:BA))=true then
 some (decide (a.Old=(⟨#[]⟩:BA)))
 else
 some false)
 else
 (if(a.Op==4)=true then
 (if decide (a.Value=(⟨#[]⟩:BA))=true then
 some (decide (a.Old=(⟨#[]⟩:BA)))
 else
 some false)
 else
 (if(a.Op==3)=true then
 some (decide (a.Old=(⟨#[]⟩:BA)))
 else
 some true))))))))))
instance i105 (N:Nat)(b:Command):Sem Tryz.prog 181 (s_CommandOk N b) [.agg [VI b.Op,VI b.Session,VI b.Seq,VS b.Key,VS b.Value,VS b.Old]] 0 [] (fun r=>VB r) (fun r=>[]):=.so s181 e Tryz.call181 fun B r=>.q e (.q e (.c0 e i q fun _ _=>.a e e (.Ek [] e e e) (.c0 e i q fun _ _=>.a e e (.Ek [] e e e) (.c0 e i q fun _ _=>.a e e (.Ek [] e e e) (.a e e (.Ek [] e e e) (.a e e (.Ek [] e e e) (.q e (.a e e (.Ek [] e e e) (.q e (.c0 e i q fun _ _=>.a e e (.Ek [] e e e) (.q e (.q e (.a e e (.q e (.a e e (.Ek [] e e e) (.Ek [] e e e))) (.a e e (.q e (.a e e (.Ek [] e e e) (.Ek [] e e e))) (.a e e (.Ek [] e e e) (.Ek [] e e e))))))))))))))))
def s_CommandText (N:Nat)(a:Command):Option (BA×Bool):=
 (s_CommandOk N a).bind fun b=>
 (if(!b)=true then
 some ((⟨#[]⟩:BA),false)
 else
 (s_l01Var N a.Session).bind fun c=>
 (scat? (strOf ([IntKind.wrap .u8 (a.Op)]:List Int)) c).bind fun d=>
 (s_l01Var N a.Seq).bind fun f=>
 (scat? d f).bind fun g=>
 (s_l05Short N a.Key).bind fun h=>
 (scat? g h).bind fun j=>
 (s_l05Short N a.Value).bind fun k=>
 (scat? j k).bind fun l=>
 (s_l05Short N a.Old).bind fun m=>
 (scat? l m).bind fun n=>
 some (n,true))
instance i106 (N:Nat)(b:Command):JG 179 (s_CommandText N b) [.agg [VI b.Op,VI b.Session,VI b.Seq,VS b.Key,VS b.Value,VS b.Old]] 0 [] (fun r=>.tup [VS r.1,VB r.2]) (fun r=>[]):=.st e e Tryz.call179 fun B r=>.q e (.c0 e i q fun _ _=>.a e e (.Ek [] e e e) (.st e (Ev.bsW (ys:=([IntKind.wrap .u8 (b.Op)]:List Int)) (f:=encU) e (.d1 .nil) e e e e e) e (.st e (.sbC (addsW (f:=encU) e e e (fun _=>e))) e (.c0 e i q fun _ _=>.B fun _ c=>.st e (Ev.addS e e c) e (.c0 e i q fun _ _=>.B fun _ d=>.st e (Ev.addS e e d) e (.c0 e i q fun _ _=>.B fun _ g=>.st e (Ev.addS e e g) e (.c0 e i q fun _ _=>.B fun _ h=>.st e (Ev.addS e e h) e (.c0 e i q fun _ _=>.B fun _ j=>.st e (Ev.addS e e j) e (.dn e (.Ek [] e e e))))))))))
def s_ReadCommand (N:Nat)(h:BA):Option (Command×Bool):=
 (s_l05Take N (Tl05Cur.mk h 0 false) 1).bind fun a=>
 (if a.2.bad=true then
 some ((Command.mk 0 0 0 (⟨#[]⟩:BA) (⟨#[]⟩:BA) (⟨#[]⟩:BA)),false)
 else
 (sat? a.1 0).bind fun j=>
 (s_l05Var N a.2).bind fun b=>
 (s_l05Var N b.2).bind fun c=>
 (s_l05ReadShort N c.2).bind fun d=>
 (s_l05ReadShort N d.2).bind fun f=>
 (s_l05ReadShort N f.2).bind fun g=>
 (s_CommandText N (Command.mk (w64 (j)) b.1 c.1 d.1 f.1 g.1)).bind fun k=>
 (if g.2.bad=true then
 some ((Command.mk 0 0 0 (⟨#[]⟩:BA) (⟨#[]⟩:BA) (⟨#[]⟩:BA)),false)
 else
 (if(!k.2)=true then
 some ((Command.mk 0 0 0 (⟨#[]⟩:BA) (⟨#[]⟩:BA) (⟨#[]⟩:BA)),false)
 else
 (if(!decide (k.1=h))=true then
 some ((Command.mk 0 0 0 (⟨#[]⟩:BA) (⟨#[]⟩:BA) (⟨#[]⟩:BA)),false)
 else
 some ((Command.mk (w64 (j)) b.1 c.1 d.1 f.1 g.1),true)))))
instance i107 (N:Nat)(b:BA):JG 115 (s_ReadCommand N b) [VS b] 0 [] (fun r=>.tup [.agg [VI r.1.Op,VI r.1.Session,VI r.1.Seq,VS r.1.Key,VS r.1.Value,VS r.1.Old],VB r.2]) (fun r=>[]):=.st e e Tryz.call115 fun B r=>.f [5128] [] 0 e i q fun _ _=>.q e (.a e e (.Ek [] e e e) (.B fun _ c=>.st e (Ev.ixS e e c) e (.f [5128] [] 0 e i q fun _ _=>.f [5128] [] 0 e i q fun _ _=>.f [5128] [] 0 e i q fun _ _=>.f [5128] [] 0 e i q fun _ _=>.f [5128] [] 0 e i q fun _ _=>.c0 e i q fun _ _=>.q e (.q e (.a e e (.Ek [] e e e) (.a e e (.Ek [] e e e) (.a e e (.Ek [] e e e) (.Ek [] e e e))))))))
def s_MapOk_l1 (N:Nat)(b:List Pair):Nat→Int→Option ((Bool)⊕(Unit))
 |0,_=>none
 |m+1,a=>
 (if decide (a<(b.length:Int))=true then
 joinP (fun(k:Unit)=>
 s_MapOk_l1 N b m (w64 (a+1))) fun c=>
 (at? b a).bind fun d=>
 (s_l05Key N d.Key).bind fun f=>
 (if(!f)=true then
 some (Sum.inl false)
 else
 (at? b a).bind fun g=>
 (if decide ((g.Value.size:Int)>40)=true then
 some (Sum.inl false)
 else
 (if decide (a>0)=true then
 (at? b (w64 (a-1))).bind fun h=>
 (at? b a).bind fun j=>
 (if(!Op.bytesLess h.Key.toList j.Key.toList)=true then
 some (Sum.inl false)
 else
 c ())
 else
 c ())))
 else
 some (Sum.inr ()))
def s_MapOk_l1_r (N:Nat)(b:List Pair):(List Pair)→Int→Option ((Bool)⊕(Unit))
 |[],a=>
 some (Sum.inr ())
 |hd::tl,a=>
 joinP (fun(k:Unit)=>
 s_MapOk_l1_r N b tl (w64 (a+1))) fun c=>
 (some hd).bind fun d=>
 (s_l05Key N d.Key).bind fun f=>
 (if(!f)=true then
 some (Sum.inl false)
 else
 (some hd).bind fun g=>
 (if decide ((g.Value.size:Int)>40)=true then
 some (Sum.inl false)
 else
 (if decide (a>0)=true then
 (at? b (w64 (a-1))).bind fun h=>
 (some hd).bind fun j=>
 (if(!Op.bytesLess h.Key.toList j.Key.toList)=true then
 some (Sum.inl false)
 else
 c ())
 else
 c ())))
theorem s_MapOk_l1_rng (N:Nat)(a:List Pair)(hx:a.length≤1099511627776):∀(d k m:Nat),a.length=k+d→d<m→s_MapOk_l1 N a m (k:Int)=s_MapOk_l1_r N a (a.drop k) (k:Int):=by
 intro d
 induction d with
 |zero=>
  intro k m hd hm
  obtain⟨m,rfl⟩:∃q,m=q+1:=⟨m-1,by omega⟩
  rw[s_MapOk_l1,IQ (by simp;omega),DN (by omega),s_MapOk_l1_r]
 |succ d ih=>
  intro k m hd hm
  obtain⟨m,rfl⟩:∃q,m=q+1:=⟨m-1,by omega⟩
  have hk:k<a.length:=by omega
  rw[s_MapOk_l1,IP (by simp;omega),DG hk,s_MapOk_l1_r]
  have b:=at_lt hk
  have c:=WS (k:=k) (by omega)
  have f:=ih (k+1) m
  simp only[b,c,f (by omega) (by omega)]
theorem s_MapOk_l1_eq {N:Nat}(a:List Pair)(hx:a.length≤1099511627776)(hN:a.length<N):s_MapOk_l1 N a N 0=s_MapOk_l1_r N a a 0:=s_MapOk_l1_rng N a hx a.length 0 N (by omega) hN
def s_MapOk (N:Nat)(a:List Pair):Option (Bool):=
 (if decide ((a.length:Int)>60)=true then
 some false
 else
 joinP (fun(d:Unit)=>
 some true) fun b=>
 (s_MapOk_l1 N a N 0).bind (Sum.elim (fun c=>some c) (fun(f:Unit)=>b ())))
instance i108 (N:Nat)(b:List Pair):JB 180 (s_MapOk N b) [RO 79 (b.map encPair)]:=.st e e Tryz.call180 fun B r=>.q e (.st e (Ev.lnF e) e (.a e e (.Ek [] e e e) (.j e (fun _=>[]) (fun _=>[]) (fun _=>.L1 e (fun c=>[(0,RO 79 (b.map encPair)),(3,VI c)]) (fun c=>[]) (.k [0,3] []) fun _ c _ d=>.q e (.st e (Ev.lnF e) e (.a e e (.j e (fun _=>[(0,RO 79 (b.map encPair)),(3,VI c)]) (fun _=>[]) (fun _=>.q e (.B fun _ f=>.st e (Ev.iaF e e f) e (.c0 e i q fun _ _=>.a e e (.dn e (.Xr d e e (.il (.e e (.Ek [] e e e))))) (.B fun _ g=>.st e (Ev.iaF e e g) e (.a e e (.dn e (.Xr d e e (.il (.e e (.Ek [] e e e))))) (.a e e (.B fun _ l=>.st e (Ev.iaF e e l) e (.B fun _ m=>.st e (Ev.iaF e e m) e (.dn e (.a e e (.Xr d e e (.il (.e e (.Ek [] e e e)))) (.J e (.k [0,3] [])))))) (.dn e (.J e (.k [0,3] []))))))))) fun _=>.R e (fun h=>⟨_,h,e,e⟩) (.k [0,3] [])) (.X d e e (.ir (.n e (.J e (.k [] [])))))))) fun _=>.Ek [] e e e)))
def s_l15Read_l1 (N:Nat)(b:BA):Nat→Int→Option (Int)
 |0,_=>none
 |m+1,a=>
 (if decide (a<(b.size:Int))=true then
 (sat? b a).bind fun c=>
 (if(c !=32)=true then
 s_l15Read_l1 N b m (w64 (a+1))
 else
 some a)
 else
 some a)
def s_l15Read_l2 (N:Nat)(b:BA):Nat→Int→Option (Int)
 |0,_=>none
 |m+1,a=>
 (if decide (a<(b.size:Int))=true then
 (sat? b a).bind fun c=>
 (if(c !=32)=true then
 s_l15Read_l2 N b m (w64 (a+1))
 else
 some a)
 else
 some a)
def s_l15Read (N:Nat)(b:Int)(a:BA):Option (Tl15State×Bool):=
 joinP (fun(c:Int)=>
 joinP (fun(d:Int)=>
 (if decide (d≥(a.size:Int))=true then
 some ((Tl15State.mk b 0 0 (⟨#[]⟩:BA)),false)
 else
 (stake? a c).bind fun j=>
 (s_ReadDecimal N j).bind fun f=>
 (scut? a (w64 (c+1)) d).bind fun k=>
 (s_ReadDecimal N k).bind fun g=>
 (sdrop? a (w64 (d+1))).bind fun h=>
 (if f.2=true then
 some ((Tl15State.mk b f.1 g.1 h),g.2)
 else
 some ((Tl15State.mk b f.1 g.1 h),false)))) fun l=>
 (s_l15Read_l2 N a N (w64 (c+1))).bind (fun m=>l m)) fun n=>
 (s_l15Read_l1 N a N 0).bind (fun o=>n o)
instance i109 (N:Nat)(b:Int)(c:BA):JG 229 (s_l15Read N b c) [VI b,VS c] 0 [] (fun r=>.tup [.agg [VI r.1.id,VI r.1.seq,VI r.1.at',VS r.1.reply],VB r.2]) (fun r=>[]):=.st e e Tryz.call229 fun B r=>.j e (fun d=>[(0,VI b),(1,VS c),(4,.ptr 0 0),(6,VI d)]) (fun d=>[(0,.box [VI 0,VI 0,VI 0,VS (⟨#[]⟩:BA)])]) (fun _=>.L1 e (fun f=>[(0,VI b),(1,VS c),(4,.ptr 0 0),(6,VI f)]) (fun f=>[(0,.box [VI 0,VI 0,VI 0,VS (⟨#[]⟩:BA)])]) (.k [0,1,4,6] [1000]) fun _ f _ m=>.q e (.q e (.a e e (.B fun _ p=>.st e (Ev.ixS e e p) e (.a e e (.R e (fun h=>⟨_,h,e,e⟩) (.k [0,1,4,6] [0])) (.X m e e (.n e (.J e (.k [0,1,4,6] [0])))))) (.X m e e (.n e (.J e (.k [0,1,4,6] [0]))))))) fun d=>.j e (fun g=>[(0,VI b),(1,VS c),(4,.ptr 0 0),(6,VI d),(7,VI g)]) (fun g=>[(0,.box [VI 0,VI 0,VI 0,VS (⟨#[]⟩:BA)])]) (fun _=>.L1 e (fun l=>[(0,VI b),(1,VS c),(4,.ptr 0 0),(6,VI d),(7,VI l)]) (fun l=>[(0,.box [VI 0,VI 0,VI 0,VS (⟨#[]⟩:BA)])]) (.k [0,1,4,6,7] [0]) fun _ l _ o=>.q e (.q e (.a e e (.B fun _ s=>.st e (Ev.ixS e e s) e (.a e e (.R e (fun h=>⟨_,h,e,e⟩) (.k [0,1,4,6,7] [0])) (.X o e e (.n e (.J e (.k [0,1,4,6,7] [0])))))) (.X o e e (.n e (.J e (.k [0,1,4,6,7] [0]))))))) fun g=>.q e (.a e e (.Ek [] e e e) (.B fun _ t=>.st e (Ev.ssH e e t) e (.c0 e i q fun _ _=>.B fun _ u=>.st e (Ev.ssB e e e u) e (.c0 e i q fun _ _=>.B fun _ w=>.st e (Ev.ssL e e w) e (.q e (.a e e (.Ek [] e e e) (.Ek [] e e e)))))))
def s_l15Sessions_l2 (N:Nat)(b:List Tl15State)(c:Int×Bool):Nat→Int→Option (Int)
 |0,_=>none
 |m+1,a=>
 (if decide (a>0)=true then
 (at? b (w64 (a-1))).bind fun d=>
 (if decide (d.id>c.1)=true then
 s_l15Sessions_l2 N b c m (w64 (a-1))
 else
 some a)
 else
 some a)
def s_l15Sessions_l1 (N:Nat)(b:List Pair):Nat→Int→(List Tl15State)→Option (((List Tl15State)×Bool)⊕((List Tl15State)))
 |0,_,_=>none
 |m+1,c,a=>
 (if decide (c<(b.length:Int))=true then
 joinP (fun(j:List Tl15State)=>
 s_l15Sessions_l1 N b m (w64 (c+1)) j) fun g=>
 (at? b c).bind fun k=>
 (sat? k.Key 0).bind fun l=>
 (if(l !=115)=true then
 g a
 else
 (at? b c).bind fun n=>
 (sdrop? n.Key 1).bind fun o=>
 (s_ReadDecimal N o).bind fun f=>
 (at? b c).bind fun p=>
 (s_l15Read N f.1 p.Value).bind fun h=>
 (if(!f.2)=true then
 some (Sum.inl (a,false))
 else
 (if(!h.2)=true then
 some (Sum.inl (a,false))
 else
 joinP (fun(d:Int)=>
 (take? a d).bind fun y=>
 (cat? ([]:List Tl15State) (a.take d.toNat)).bind fun s=>
 (cat? s ([h.1]:List Tl15State)).bind fun t=>
 (drop? a d).bind fun v=>
 (cat? t ((a.drop d.toNat).take (a.length-d.toNat))).bind fun u=>
 g u) fun w=>
 (s_l15Sessions_l2 N a f N (a.length:Int)).bind (fun x=>w x))))
 else
 some (Sum.inr a))
def s_l15Sessions_l1_r (N:Nat)(h:List Pair):(List Pair)→Int→(List Tl15State)→Option (((List Tl15State)×Bool)⊕((List Tl15State)))
 |[],d,a=>
 some (Sum.inr a)
 |hd::tl,d,a=>
 joinP (fun(j:List Tl15State)=>
 s_l15Sessions_l1_r N h tl (w64 (d+1)) j) fun f=>
 (some hd).bind fun k=>
 (sat? k.Key 0).bind fun l=>
 (if(l !=115)=true then
 f a
 else
 (some hd).bind fun m=>
 (sdrop? m.Key 1).bind fun n=>
 (s_ReadDecimal N n).bind fun c=>
 (some hd).bind fun o=>
 (s_l15Read N c.1 o.Value).bind fun g=>
 (if(!c.2)=true then
 some (Sum.inl (a,false))
 else
 (if(!g.2)=true then
 some (Sum.inl (a,false))
 else
 joinP (fun(b:Int)=>
 (take? a b).bind fun x=>
 (cat? ([]:List Tl15State) (a.take b.toNat)).bind fun p=>
 (cat? p ([g.1]:List Tl15State)).bind fun s=>
 (drop? a b).bind fun y=>
 (cat? s ((a.drop b.toNat).take (a.length-b.toNat))).bind fun t=>
 f t) fun u=>
 (s_l15Sessions_l2 N a c N (a.length:Int)).bind (fun w=>u w))))
theorem s_l15Sessions_l1_rng (N:Nat)(a:List Pair)(hx:a.length≤1099511627776):∀(d k m:Nat)(b:List Tl15State),a.length=k+d→d<m→s_l15Sessions_l1 N a m (k:Int) b=s_l15Sessions_l1_r N a (a.drop k) (k:Int) b:=by
 intro d
 induction d with
 |zero=>
  intro k m b hd hm
  obtain⟨m,rfl⟩:∃q,m=q+1:=⟨m-1,by omega⟩
  rw[s_l15Sessions_l1,IQ (by simp;omega),DN (by omega),s_l15Sessions_l1_r]
 |succ d ih=>
  intro k m b hd hm
  obtain⟨m,rfl⟩:∃q,m=q+1:=⟨m-1,by omega⟩
  have hk:k<a.length:=by omega
  rw[s_l15Sessions_l1,IP (by simp;omega),DG hk,s_l15Sessions_l1_r]
  have c:=at_lt hk
  have f:=WS (k:=k) (by omega)
  have g:=ih (k+1) m
  simp only[c,f,g _ (by omega) (by omega)]
theorem s_l15Sessions_l1_eq {N:Nat}(a:List Pair)(hx:a.length≤1099511627776)(hN:a.length<N)(b:List Tl15State):s_l15Sessions_l1 N a N 0 b=s_l15Sessions_l1_r N a a 0 b:=s_l15Sessions_l1_rng N a hx a.length 0 N b (by omega) hN
def s_l15Sessions (N:Nat)(a:List Pair):Option ((List Tl15State)×Bool):=
 joinP (fun(b:List Tl15State)=>
 some (b,true)) fun c=>
 (s_l15Sessions_l1 N a N 0 ([]:List Tl15State)).bind (Sum.elim (fun d=>some d) (fun(f:List Tl15State)=>c f))
instance i110 (N:Nat)(d:List Pair):JG 182 (s_l15Sessions N d) [RO 79 (d.map encPair)] 0 [] (fun r=>.tup [.sl 0 285 0 r.1.length,VB r.2]) (fun r=>[(0,.vec 285 (r.1.map encTl15State))]):=.st e e Tryz.call182 fun B r=>.st e (Ev.bsW (ys:=([]:List Tl15State)) (f:=encTl15State) e .nil e e e e e) e (.j e (fun l=>[(4,.sl 0 285 0 l.length)]) (fun l=>[(0,.vec 285 (l.map encTl15State))]) (fun _=>.L2 e (fun g b=>[(0,RO 79 (d.map encPair)),(4,.sl 0 285 0 b.length),(5,VI g)]) (fun g b=>[(0,.vec 285 (b.map encTl15State))]) (.k [0,4,5] [5096]) fun _ g b _ o=>.q e (.st e (Ev.lnF e) e (.a e e (.j e (fun m=>[(0,RO 79 (d.map encPair)),(4,.sl 0 285 0 m.length),(5,VI g)]) (fun m=>[(0,.vec 285 (m.map encTl15State))]) (fun _=>.q e (.B fun _ w=>.st e (Ev.iaF e e w) e (.B fun _ x=>.st e (Ev.ixS e e x) e (.a e e (.J e (.k [0,4,5] [0])) (.B fun _ y=>.st e (Ev.iaF e e y) e (.B fun _ v=>.st e (Ev.ssL e e v) e (.c0 e i q fun z _=>.B fun _ a0=>.st e (Ev.iaF e e a0) e (.c0 e i q fun c _=>.q e (.q e (.a e e (.Xr o e e (.il (.e e (.Ek [0] e e e)))) (.a e e (.Xr o e e (.il (.e e (.Ek [0] e e e)))) (.j e (fun p=>[(0,RO 79 (d.map encPair)),(4,.sl 0 285 0 b.length),(5,VI g),(8,.ptr 1 0),(10,VI p)]) (fun p=>[(0,.vec 285 (b.map encTl15State)),(1,.box [VI c.1.id,VI c.1.seq,VI c.1.at',VS c.1.reply])]) (fun _=>.L1 e (fun s=>[(0,RO 79 (d.map encPair)),(4,.sl 0 285 0 b.length),(5,VI g),(6,VI z.1),(8,.ptr 1 0),(10,VI s)]) (fun s=>[(0,.vec 285 (b.map encTl15State)),(1,.box [VI c.1.id,VI c.1.seq,VI c.1.at',VS c.1.reply])]) (.k [0,4,5,6,8,10] [0,29832]) fun _ s _ t=>.q e (.q e (.a e e (.B fun _ u=>.st e (Ev.iaW e e e u) e (.st e (Ev.ldE (f:=encTl15State) e e (at_some u).2 e e e) e (.a e e (.R e (fun h=>⟨_,h,e,e⟩) (.k [0,4,5,6,8,10] [0,1])) (.X t e e (.n e (.J e (.k [0,4,5,8,10] [0,1]))))))) (.X t e e (.n e (.J e (.k [0,4,5,8,10] [0,1]))))))) fun p=>.st e (Ev.bsW (ys:=([]:List Tl15State)) (f:=encTl15State) e .nil e e e e e) e (.B fun _ a1=>.st e (Ev.slWh (xs:=b) e e e a1) e (.B fun _ a2=>.st e (Ev.apW (f:=encTl15State) (ontoW e e e) (addsP e e (fun _=>e)) e bt285 e a2) e (.st e (Ev.bsW (ys:=([c.1]:List Tl15State)) (f:=encTl15State) e (.d4 .nil) e e e e e) e (.B fun _ a3=>.st e (Ev.apW (f:=encTl15State) (ontoW e e e) (addsW e e e (fun _=>e)) e bt285 e a3) e (.B fun _ a4=>.st e (Ev.slWl (xs:=b) e e e a4) e (.B fun _ a5=>.st e (Ev.apW (f:=encTl15State) (ontoW e e e) (addsP e e (fun _=>e)) e bt285 e a5) e (.J e (.k [0,4,5] [62504])))))))))))))))))))) fun m=>.R e (fun h=>⟨_,_,h,e,e⟩) (.k [0,4,5] [0])) (.X o e e (.ir (.n e (.J e (.k [4] [0])))))))) fun l=>.Ek [0] e e e)
def s_l06At_l1 (N:Nat)(b:List Pair)(c:BA):Nat→Int→Option ((Int)⊕(Unit))
 |0,_=>none
 |m+1,a=>
 (if decide (a<(b.length:Int))=true then
 (at? b a).bind fun d=>
 (if decide (d.Key=c)=true then
 some (Sum.inl a)
 else
 s_l06At_l1 N b c m (w64 (a+1)))
 else
 some (Sum.inr ()))
def s_l06At_l1_r (N:Nat)(c:List Pair)(b:BA):(List Pair)→Int→Option ((Int)⊕(Unit))
 |[],a=>
 some (Sum.inr ())
 |hd::tl,a=>
 (some hd).bind fun d=>
 (if decide (d.Key=b)=true then
 some (Sum.inl a)
 else
 s_l06At_l1_r N c b tl (w64 (a+1)))
theorem s_l06At_l1_rng (N:Nat)(a:List Pair)(b:BA)(hx:a.length≤1099511627776):∀(d k m:Nat),a.length=k+d→d<m→s_l06At_l1 N a b m (k:Int)=s_l06At_l1_r N a b (a.drop k) (k:Int):=by
 intro d
 induction d with
 |zero=>
  intro k m hd hm
  obtain⟨m,rfl⟩:∃q,m=q+1:=⟨m-1,by omega⟩
  rw[s_l06At_l1,IQ (by simp;omega),DN (by omega),s_l06At_l1_r]
 |succ d ih=>
  intro k m hd hm
  obtain⟨m,rfl⟩:∃q,m=q+1:=⟨m-1,by omega⟩
  have hk:k<a.length:=by omega
  rw[s_l06At_l1,IP (by simp;omega),DG hk,s_l06At_l1_r]
  have c:=at_lt hk
  have f:=WS (k:=k) (by omega)
  have g:=ih (k+1) m
  simp only[c,f,g (by omega) (by omega)]
theorem s_l06At_l1_eq {N:Nat}(a:List Pair)(b:BA)(hx:a.length≤1099511627776)(hN:a.length<N):s_l06At_l1 N a b N 0=s_l06At_l1_r N a b a 0:=s_l06At_l1_rng N a b hx a.length 0 N (by omega) hN
def s_l06At (N:Nat)(a:List Pair)(b:BA):Option (Int):=
 joinP (fun(f:Unit)=>
 some (-1:Int)) fun c=>
 (s_l06At_l1 N a b N 0).bind (Sum.elim (fun d=>some d) (fun(g:Unit)=>c ()))
instance i111 (N:Nat)(b:List Pair)(c:BA):JI 232 (s_l06At N b c) [RO 79 (b.map encPair),VS c]:=.st e e Tryz.call232 fun B r=>.j e (fun _=>[]) (fun _=>[]) (fun _=>.L1 e (fun d=>[(0,RO 79 (b.map encPair)),(1,VS c),(5,VI d)]) (fun d=>[]) (.k [0,1,5] []) fun _ d _ f=>.q e (.st e (Ev.lnF e) e (.a e e (.q e (.B fun _ g=>.st e (Ev.iaF e e g) e (.a e e (.Xr f e e (.il (.e e (.Ek [] e e e)))) (.R e (fun h=>⟨_,h,e,e⟩) (.k [0,1,5] []))))) (.X f e e (.ir (.n e (.J e (.k [] [])))))))) fun _=>.Ek [] e e e
def s_l06Get (N:Nat)(a:List Pair)(c:BA):Option (BA):=
 (s_l06At N a c).bind fun b=>
 (if decide (b<0)=true then
 some (⟨#[]⟩:BA)
 else
 (at? a b).bind fun d=>
 some d.Value)
instance i112 (N:Nat)(b:List Pair)(c:BA):JS 233 (s_l06Get N b c) [RO 79 (b.map encPair),VS c]:=.st e e Tryz.call233 fun B r=>.c0 e i q fun _ _=>.q e (.a e e (.Ek [] e e e) (.B fun _ d=>.st e (Ev.iaF e e d) e (.Ek [] e e e)))
def s_l15Next (N:Nat)(a:List Pair):Option (Int×Bool):=
 (s_l06At N a (⟨#[110]⟩:BA)).bind fun c=>
 (if decide (c<0)=true then
 some (1,true)
 else
 (s_l06Get N a (⟨#[110]⟩:BA)).bind fun d=>
 (s_ReadDecimal N d).bind fun b=>
 some (b.1,b.2))
instance i113 (N:Nat)(b:List Pair):JG 230 (s_l15Next N b) [RO 79 (b.map encPair)] 0 [] (fun r=>.tup [VI r.1,VB r.2]) (fun r=>[]):=.st e e Tryz.call230 fun B r=>.q e (.c0 e i q fun _ _=>.a e e (.Ek [] e e e) (.c0 e i q fun _ _=>.c0 e i q fun _ _=>.Ek [] e e e))
def s_l15Key (N:Nat)(a:Int):Option (BA):=
 (s_Decimal N a).bind fun b=>
 (scat? (⟨#[115]⟩:BA) b).bind fun c=>
 some c
instance i114 (N:Nat)(a:Int):JS 186 (s_l15Key N a) [VI a]:=.st e e Tryz.call186 fun B r=>.c0 e i q fun _ _=>.B fun _ b=>.st e (Ev.addS e e b) e (.Ek [] e e e)
def s_l06Cut_l1 (N:Nat)(a:List Pair)(d:BA):Nat→Int→(List Pair)→Option ((List Pair))
 |0,_,_=>none
 |m+1,b,c=>
 (if decide (b<(a.length:Int))=true then
 joinP (fun(g:List Pair)=>
 s_l06Cut_l1 N a d m (w64 (b+1)) g) fun f=>
 (at? a b).bind fun h=>
 (if(!decide (h.Key=d))=true then
 (at? a b).bind fun j=>
 (cat? c ([j]:List Pair)).bind fun k=>
 f k
 else
 f c)
 else
 some c)
def s_l06Cut_l1_r (N:Nat)(f:List Pair)(b:BA):(List Pair)→Int→(List Pair)→Option ((List Pair))
 |[],c,a=>
 some a
 |hd::tl,c,a=>
 joinP (fun(g:List Pair)=>
 s_l06Cut_l1_r N f b tl (w64 (c+1)) g) fun d=>
 (some hd).bind fun h=>
 (if(!decide (h.Key=b))=true then
 (some hd).bind fun j=>
 (cat? a ([j]:List Pair)).bind fun k=>
 d k
 else
 d a)
theorem s_l06Cut_l1_rng (N:Nat)(a:List Pair)(c:BA)(hx:a.length≤1099511627776):∀(d k m:Nat)(b:List Pair),a.length=k+d→d<m→s_l06Cut_l1 N a c m (k:Int) b=s_l06Cut_l1_r N a c (a.drop k) (k:Int) b:=by
 intro d
 induction d with
 |zero=>
  intro k m b hd hm
  obtain⟨m,rfl⟩:∃q,m=q+1:=⟨m-1,by omega⟩
  rw[s_l06Cut_l1,IQ (by simp;omega),DN (by omega),s_l06Cut_l1_r]
 |succ d ih=>
  intro k m b hd hm
  obtain⟨m,rfl⟩:∃q,m=q+1:=⟨m-1,by omega⟩
  have hk:k<a.length:=by omega
  rw[s_l06Cut_l1,IP (by simp;omega),DG hk,s_l06Cut_l1_r]
  have f:=at_lt hk
  have g:=WS (k:=k) (by omega)
  have h:=ih (k+1) m
  simp only[f,g,h _ (by omega) (by omega)]
theorem s_l06Cut_l1_eq {N:Nat}(a:List Pair)(b:BA)(hx:a.length≤1099511627776)(hN:a.length<N)(c:List Pair):s_l06Cut_l1 N a b N 0 c=s_l06Cut_l1_r N a b a 0 c:=s_l06Cut_l1_rng N a b hx a.length 0 N c (by omega) hN
def s_l06Cut (N:Nat)(a:List Pair)(b:BA):Option ((List Pair)):=
 joinP (fun(c:List Pair)=>
 some c) fun d=>
 (s_l06Cut_l1 N a b N 0 ([]:List Pair)).bind (fun f=>d f)
instance i115 (N:Nat)(b:List Pair)(c:BA):JG 231 (s_l06Cut N b c) [RO 79 (b.map encPair),VS c] 0 [] (fun r=>.sl 0 79 0 r.length) (fun r=>[(0,.vec 79 (r.map encPair))]):=.st e e Tryz.call231 fun B r=>.st e (Ev.bsW (ys:=([]:List Pair)) (f:=encPair) e .nil e e e e e) e (.j e (fun d=>[(5,.sl 0 79 0 d.length)]) (fun d=>[(0,.vec 79 (d.map encPair))]) (fun _=>.L2 e (fun g l=>[(0,RO 79 (b.map encPair)),(1,VS c),(5,.sl 0 79 0 l.length),(6,VI g)]) (fun g l=>[(0,.vec 79 (l.map encPair))]) (.k [0,1,5,6] [5096]) fun _ g l _ o=>.q e (.st e (Ev.lnF e) e (.a e e (.j e (fun m=>[(0,RO 79 (b.map encPair)),(1,VS c),(5,.sl 0 79 0 m.length),(6,VI g)]) (fun m=>[(0,.vec 79 (m.map encPair))]) (fun _=>.B fun _ p=>.st e (Ev.iaF e e p) e (.a e e (.B fun s t=>.st e (Ev.iaF e e t) e (.st e (Ev.bsW (ys:=([s]:List Pair)) (f:=encPair) e (.d2 .nil) e e e e e) e (.B fun _ u=>.st e (Ev.apW (f:=encPair) (ontoW e e e) (addsW e e e (fun _=>e)) e bt79 e u) e (.J e (.k [0,1,5,6] [25672]))))) (.J e (.k [0,1,5,6] [0])))) fun m=>.R e (fun h=>⟨_,_,h,e,e⟩) (.k [0,1,5,6] [0])) (.X o e e (.n e (.J e (.k [5] [0]))))))) fun d=>.Ek [0] e e e)
def s_l15Text (N:Nat)(a:Tl15State):Option (BA):=
 (s_Decimal N a.seq).bind fun b=>
 (scat? b (⟨#[32]⟩:BA)).bind fun c=>
 (s_Decimal N a.at').bind fun d=>
 (scat? c d).bind fun f=>
 (scat? f (⟨#[32]⟩:BA)).bind fun g=>
 (scat? g a.reply).bind fun h=>
 some h
instance i116 (N:Nat)(a:Tl15State):JS 187 (s_l15Text N a) [.agg [VI a.id,VI a.seq,VI a.at',VS a.reply]]:=.st e e Tryz.call187 fun B r=>.c0 e i q fun _ _=>.B fun _ b=>.st e (Ev.addS e e b) e (.c0 e i q fun _ _=>.B fun _ c=>.st e (Ev.addS e e c) e (.B fun _ d=>.st e (Ev.addS e e d) e (.B fun _ f=>.st e (Ev.addS e e f) e (.dn e (.Ek [] e e e)))))
def s_l06Put_l1 (N:Nat)(a:List Pair)(d:BA):Nat→Int→(List Pair)→Option ((List Pair))
 |0,_,_=>none
 |m+1,b,c=>
 (if decide (b<(a.length:Int))=true then
 joinP (fun(g:List Pair)=>
 s_l06Put_l1 N a d m (w64 (b+1)) g) fun f=>
 (at? a b).bind fun h=>
 (if(Op.bytesLess h.Key.toList d.toList)=true then
 (at? a b).bind fun j=>
 (cat? c ([j]:List Pair)).bind fun k=>
 f k
 else
 f c)
 else
 some c)
def s_l06Put_l1_r (N:Nat)(f:List Pair)(b:BA):(List Pair)→Int→(List Pair)→Option ((List Pair))
 |[],c,a=>
 some a
 |hd::tl,c,a=>
 joinP (fun(g:List Pair)=>
 s_l06Put_l1_r N f b tl (w64 (c+1)) g) fun d=>
 (some hd).bind fun h=>
 (if(Op.bytesLess h.Key.toList b.toList)=true then
 (some hd).bind fun j=>
 (cat? a ([j]:List Pair)).bind fun k=>
 d k
 else
 d a)
theorem s_l06Put_l1_rng (N:Nat)(a:List Pair)(c:BA)(hx:a.length≤1099511627776):∀(d k m:Nat)(b:List Pair),a.length=k+d→d<m→s_l06Put_l1 N a c m (k:Int) b=s_l06Put_l1_r N a c (a.drop k) (k:Int) b:=by
 intro d
 induction d with
 |zero=>
  intro k m b hd hm
  obtain⟨m,rfl⟩:∃q,m=q+1:=⟨m-1,by omega⟩
  rw[s_l06Put_l1,IQ (by simp;omega),DN (by omega),s_l06Put_l1_r]
 |succ d ih=>
  intro k m b hd hm
  obtain⟨m,rfl⟩:∃q,m=q+1:=⟨m-1,by omega⟩
  have hk:k<a.length:=by omega
  rw[s_l06Put_l1,IP (by simp;omega),DG hk,s_l06Put_l1_r]
  have f:=at_lt hk
  have g:=WS (k:=k) (by omega)
  have h:=ih (k+1) m
  simp only[f,g,h _ (by omega) (by omega)]
theorem s_l06Put_l1_eq {N:Nat}(a:List Pair)(b:BA)(hx:a.length≤1099511627776)(hN:a.length<N)(c:List Pair):s_l06Put_l1 N a b N 0 c=s_l06Put_l1_r N a b a 0 c:=s_l06Put_l1_rng N a b hx a.length 0 N c (by omega) hN
def s_l06Put_l2 (N:Nat)(a:List Pair)(c:BA):Nat→Int→(List Pair)→Option ((List Pair))
 |0,_,_=>none
 |m+1,b,d=>
 (if decide (b<(a.length:Int))=true then
 joinP (fun(h:List Pair)=>
 s_l06Put_l2 N a c m (w64 (b+1)) h) fun f=>
 (at? a b).bind fun g=>
 (if(!(Op.bytesLess g.Key.toList c.toList||decide (g.Key=c)))=true then
 (at? a b).bind fun j=>
 (cat? d ([j]:List Pair)).bind fun k=>
 f k
 else
 f d)
 else
 some d)
def s_l06Put_l2_r (N:Nat)(g:List Pair)(b:BA):(List Pair)→Int→(List Pair)→Option ((List Pair))
 |[],c,a=>
 some a
 |hd::tl,c,a=>
 joinP (fun(h:List Pair)=>
 s_l06Put_l2_r N g b tl (w64 (c+1)) h) fun d=>
 (some hd).bind fun f=>
 (if(!(Op.bytesLess f.Key.toList b.toList||decide (f.Key=b)))=true then
 (some hd).bind fun j=>
 (cat? a ([j]:List Pair)).bind fun k=>
 d k
 else
 d a)
theorem s_l06Put_l2_rng (N:Nat)(a:List Pair)(c:BA)(hx:a.length≤1099511627776):∀(d k m:Nat)(b:List Pair),a.length=k+d→d<m→s_l06Put_l2 N a c m (k:Int) b=s_l06Put_l2_r N a c (a.drop k) (k:Int) b:=by
 intro d
 induction d with
 |zero=>
  intro k m b hd hm
  obtain⟨m,rfl⟩:∃q,m=q+1:=⟨m-1,by omega⟩
  rw[s_l06Put_l2,IQ (by simp;omega),DN (by omega),s_l06Put_l2_r]
 |succ d ih=>
  intro k m b hd hm
  obtain⟨m,rfl⟩:∃q,m=q+1:=⟨m-1,by omega⟩
  have hk:k<a.length:=by omega
  rw[s_l06Put_l2,IP (by simp;omega),DG hk,s_l06Put_l2_r]
  have f:=at_lt hk
  have g:=WS (k:=k) (by omega)
  have h:=ih (k+1) m
  simp only[f,g,h _ (by omega) (by omega)]
theorem s_l06Put_l2_eq {N:Nat}(a:List Pair)(b:BA)(hx:a.length≤1099511627776)(hN:a.length<N)(c:List Pair):s_l06Put_l2 N a b N 0 c=s_l06Put_l2_r N a b a 0 c:=s_l06Put_l2_rng N a b hx a.length 0 N c (by omega) hN
def s_l06Put (N:Nat)(b:List Pair)(a:BA)(c:BA):Option ((List Pair)):=
 joinP (fun(d:List Pair)=>
 (cat? d ([(Pair.mk a c)]:List Pair)).bind fun f=>
 joinP (fun(g:List Pair)=>
 some g) fun h=>
 (s_l06Put_l2 N b a N 0 f).bind (fun j=>h j)) fun k=>
 (s_l06Put_l1 N b a N 0 ([]:List Pair)).bind (fun l=>k l)
instance i117 (N:Nat)(c:List Pair)(b:BA)(d:BA):JG 185 (s_l06Put N c b d) [RO 79 (c.map encPair),VS b,VS d] 0 [] (fun r=>.sl 0 79 0 r.length) (fun r=>[(0,.vec 79 (r.map encPair))]):=.st e e Tryz.call185 fun B r=>.st e (Ev.bsW (ys:=([]:List Pair)) (f:=encPair) e .nil e e e e e) e (.j e (fun g=>[(0,RO 79 (c.map encPair)),(1,VS b),(2,VS d),(7,.sl 0 79 0 g.length)]) (fun g=>[(0,.vec 79 (g.map encPair))]) (fun _=>.L2 e (fun l m=>[(0,RO 79 (c.map encPair)),(1,VS b),(2,VS d),(7,.sl 0 79 0 m.length),(8,VI l)]) (fun l m=>[(0,.vec 79 (m.map encPair))]) (.k [0,1,2,7,8] [5096]) fun _ l m _ w=>.q e (.st e (Ev.lnF e) e (.a e e (.j e (fun o=>[(0,RO 79 (c.map encPair)),(1,VS b),(2,VS d),(7,.sl 0 79 0 o.length),(8,VI l)]) (fun o=>[(0,.vec 79 (o.map encPair))]) (fun _=>.B fun _ x=>.st e (Ev.iaF e e x) e (.a e e (.B fun y v=>.st e (Ev.iaF e e v) e (.st e (Ev.bsW (ys:=([y]:List Pair)) (f:=encPair) e (.d2 .nil) e e e e e) e (.B fun _ z=>.st e (Ev.apW (f:=encPair) (ontoW e e e) (addsW e e e (fun _=>e)) e bt79 e z) e (.J e (.k [0,1,2,7,8] [25672]))))) (.J e (.k [0,1,2,7,8] [0])))) fun o=>.R e (fun h=>⟨_,_,h,e,e⟩) (.k [0,1,2,7,8] [0])) (.X w e e (.n e (.J e (.k [0,1,2,7] [0]))))))) fun g=>.st e (Ev.bsW (ys:=([(Pair.mk b d)]:List Pair)) (f:=encPair) e (.d2 .nil) e e e e e) e (.B fun _ a0=>.st e (Ev.apW (f:=encPair) (ontoW e e e) (addsW e e e (fun _=>e)) e bt79 e a0) e (.j e (fun p=>[(7,.sl 0 79 0 p.length)]) (fun p=>[(0,.vec 79 (p.map encPair))]) (fun _=>.L2 e (fun s t=>[(0,RO 79 (c.map encPair)),(1,VS b),(7,.sl 0 79 0 t.length),(9,VI s)]) (fun s t=>[(0,.vec 79 (t.map encPair))]) (.k [0,1,7,9] [29752]) fun _ s t _ a1=>.q e (.st e (Ev.lnF e) e (.a e e (.j e (fun u=>[(0,RO 79 (c.map encPair)),(1,VS b),(7,.sl 0 79 0 u.length),(9,VI s)]) (fun u=>[(0,.vec 79 (u.map encPair))]) (fun _=>.B fun _ a2=>.st e (Ev.iaF e e a2) e (.a e e (.B fun a3 a4=>.st e (Ev.iaF e e a4) e (.st e (Ev.bsW (ys:=([a3]:List Pair)) (f:=encPair) e (.d2 .nil) e e e e e) e (.B fun _ a5=>.st e (Ev.apW (f:=encPair) (ontoW e e e) (addsW e e e (fun _=>e)) e bt79 e a5) e (.J e (.k [0,1,7,9] [50248]))))) (.J e (.k [0,1,7,9] [0])))) fun u=>.R e (fun h=>⟨_,_,h,e,e⟩) (.k [0,1,7,9] [0])) (.X a1 e e (.n e (.J e (.k [7] [0]))))))) fun p=>.Ek [0] e e e)))
def s_l15Open_l1 (N:Nat)(a:List Tl15State):Nat→Int→Int→Option (Int)
 |0,_,_=>none
 |m+1,c,b=>
 (if decide (b<(a.length:Int))=true then
 joinP (fun(f:Int)=>
 s_l15Open_l1 N a m f (w64 (b+1))) fun d=>
 (at? a b).bind fun g=>
 (at? a c).bind fun h=>
 (if decide (g.at'<h.at')=true then
 d b
 else
 d c)
 else
 some c)
def s_l15Open (N:Nat)(a:List Pair)(f:Int)(c:List Tl15State):Option ((List Pair)×BA×Bool):=
 (s_l15Next N a).bind fun b=>
 (if(!b.2)=true then
 some (a,(⟨#[]⟩:BA),false)
 else
 joinP (fun(g:List Pair)=>
 (s_l15Key N b.1).bind fun h=>
 (s_l15Text N (Tl15State.mk 0 0 f (⟨#[]⟩:BA))).bind fun j=>
 (s_l06Put N g h j).bind fun k=>
 (s_Decimal N (w64 (b.1+1))).bind fun l=>
 (s_l06Put N k (⟨#[110]⟩:BA) l).bind fun m=>
 (s_Decimal N b.1).bind fun n=>
 (scat? (⟨#[111,112,101,110,32]⟩:BA) n).bind fun o=>
 some (m,o,true)) fun d=>
 (if decide ((c.length:Int)≥3)=true then
 joinP (fun(p:Int)=>
 (at? c p).bind fun s=>
 (s_l15Key N s.id).bind fun t=>
 (s_l06Cut N a t).bind fun u=>
 d u) fun w=>
 (s_l15Open_l1 N c N 0 1).bind (fun x=>w x)
 else
 d a))
instance i118 (N:Nat)(c:List Pair)(b:Int)(d:List Tl15State):JG 183 (s_l15Open N c b d) [RO 79 (c.map encPair),VI b,RO 285 (d.map encTl15State)] 0 [] (fun r=>.tup [RO 79 (r.1.map encPair),VS r.2.1,VB r.2.2]) (fun r=>[]):=.st e e Tryz.call183 fun B r=>.c0 e i q fun l _=>.q e (.a e e (.E e e (.ro [0,1,2] [] [] [] [0] [])) (.j e (fun o=>[(0,RO 79 (o.map encPair)),(1,VI b),(9,VI l.1)]) (fun o=>[]) (fun _=>.st e (Ev.lnF e) e (.a e e (.j e (fun p=>[(0,RO 79 (c.map encPair)),(1,VI b),(2,RO 285 (d.map encTl15State)),(9,VI l.1),(11,VI p)]) (fun p=>[]) (fun _=>.L2 e (fun s m=>[(0,RO 79 (c.map encPair)),(1,VI b),(2,RO 285 (d.map encTl15State)),(9,VI l.1),(11,VI s),(12,VI m)]) (fun s m=>[]) (.k [0,1,2,9,11,12] []) fun _ s m _ w=>.q e (.st e (Ev.lnF e) e (.a e e (.j e (fun u=>[(0,RO 79 (c.map encPair)),(1,VI b),(2,RO 285 (d.map encTl15State)),(9,VI l.1),(11,VI u),(12,VI m)]) (fun u=>[]) (fun _=>.B fun _ x=>.st e (Ev.iaF e e x) e (.B fun _ y=>.st e (Ev.iaF e e y) e (.dn e (.a e e (.J e (.k [0,1,2,9,11,12] [])) (.J e (.k [0,1,2,9,11,12] [])))))) fun u=>.R e (fun h=>⟨_,_,h,e,e⟩) (.k [0,1,2,9,11,12] [])) (.X w e e (.n e (.J e (.k [0,1,2,9,11] []))))))) fun p=>.B fun _ v=>.st e (Ev.iaF e e v) e (.c0 e i q fun _ _=>.c1 e i q fun z _=>.J e (.t (Gh.frz (f:=encPair) (g:=encPair) (xs:=z) 46168 (fun _=>e) e) (.ro [0,1,9] [46168] [] [46168] [0] [])))) (.J e (.ro [0,1,9] [] [] [] [0] [])))) fun o=>.c0 e i q fun _ _=>.c0 e i q fun _ _=>.c1 e i q fun _ _=>.c0 e i q fun _ _=>.f (hp:=(.cons (.borrow e (by decide) lw) (.d2 .nil))) (hcase:=fun _=>(.inr ⟨rfl,ownL_root ⟨own_rows (fun _=>e) _,trivial⟩⟩)) [] [50248] 1 e i q fun a0 _=>.c0 e i q fun _ _=>.B fun _ a1=>.st e (Ev.addS e e a1) e (.E e e (.t (Gh.frz (f:=encPair) (g:=encPair) (xs:=a0) 54312 (fun _=>e) e) (.ro [0,1,2] [54312] [] [54312] [0] [])))))
def s_l15Open_i1_l1 (N:Nat)(a:List Tl15State):Nat→Int→Int→Option (Int)
 |0,_,_=>none
 |m+1,c,b=>
 (if decide (b<(a.length:Int))=true then
 joinP (fun(f:Int)=>
 s_l15Open_i1_l1 N a m f (w64 (b+1))) fun d=>
 (at? a b).bind fun g=>
 (at? a c).bind fun h=>
 (if decide (g.at'<h.at')=true then
 d b
 else
 d c)
 else
 some c)
def s_l15Open_i1 (N:Nat)(a:List Pair)(f:Int)(c:List Tl15State):Option ((List Pair)×BA×Bool):=
 (s_l15Next N a).bind fun b=>
 (if(!b.2)=true then
 some (a,(⟨#[]⟩:BA),false)
 else
 joinP (fun(g:List Pair)=>
 (s_l15Key N b.1).bind fun h=>
 (s_l15Text N (Tl15State.mk 0 0 f (⟨#[]⟩:BA))).bind fun j=>
 (s_l06Put N g h j).bind fun k=>
 (s_Decimal N (w64 (b.1+1))).bind fun l=>
 (s_l06Put N k (⟨#[110]⟩:BA) l).bind fun m=>
 (s_Decimal N b.1).bind fun n=>
 (scat? (⟨#[111,112,101,110,32]⟩:BA) n).bind fun o=>
 some (m,o,true)) fun d=>
 (if decide ((c.length:Int)≥3)=true then
 joinP (fun(p:Int)=>
 (at? c p).bind fun s=>
 (s_l15Key N s.id).bind fun t=>
 (s_l06Cut N a t).bind fun u=>
 d u) fun w=>
 (s_l15Open_i1_l1 N c N 0 1).bind (fun x=>w x)
 else
 d a))
instance i119 (N:Nat)(d:List Pair)(c:Int)(b:List Tl15State):JG 183 (s_l15Open_i1 N d c b) [RO 79 (d.map encPair),VI c,.sl 0 285 0 b.length] 1 [(0,.vec 285 (b.map encTl15State))] (fun r=>.tup [RO 79 (r.1.map encPair),VS r.2.1,VB r.2.2]) (fun r=>[(0,.vec 285 (b.map encTl15State))]):=.st e e Tryz.call183 fun B r=>.c0 e i q fun l _=>.q e (.a e e (.E e e (.ro [0,1,2] [0] [] [] [0] [0])) (.j e (fun o=>[(0,RO 79 (o.map encPair)),(1,VI c),(9,VI l.1)]) (fun o=>[(0,.vec 285 (b.map encTl15State))]) (fun _=>.a e e (.j e (fun p=>[(0,RO 79 (d.map encPair)),(1,VI c),(2,.sl 0 285 0 b.length),(9,VI l.1),(11,VI p)]) (fun p=>[(0,.vec 285 (b.map encTl15State))]) (fun _=>.L2 e (fun s m=>[(0,RO 79 (d.map encPair)),(1,VI c),(2,.sl 0 285 0 b.length),(9,VI l.1),(11,VI s),(12,VI m)]) (fun s m=>[(0,.vec 285 (b.map encTl15State))]) (.k [0,1,2,9,11,12] [0]) fun _ s m _ v=>.q e (.a e e (.j e (fun u=>[(0,RO 79 (d.map encPair)),(1,VI c),(2,.sl 0 285 0 b.length),(9,VI l.1),(11,VI u),(12,VI m)]) (fun u=>[(0,.vec 285 (b.map encTl15State))]) (fun _=>.B fun _ w=>.st e (Ev.iaW e e e w) e (.st e (Ev.ldE (f:=encTl15State) e e (at_some w).2 e e e) e (.B fun _ x=>.st e (Ev.iaW e e e x) e (.st e (Ev.ldE (f:=encTl15State) e e (at_some x).2 e e e) e (.dn e (.a e e (.J e (.k [0,1,2,9,11,12] [0])) (.J e (.k [0,1,2,9,11,12] [0])))))))) fun u=>.R e (fun h=>⟨_,_,h,e,e⟩) (.k [0,1,2,9,11,12] [0])) (.X v e e (.n e (.J e (.k [0,1,2,9,11] [0])))))) fun p=>.B fun _ y=>.st e (Ev.iaW e e e y) e (.st e (Ev.ldE (f:=encTl15State) e e (at_some y).2 e e e) e (.c0 e i q fun _ _=>.c1 e i q fun z _=>.J e (.t (Gh.frz (f:=encPair) (g:=encPair) (xs:=z) 46168 (fun _=>e) e) (.ro [0,1,9] [0,46168] [] [46168] [0] [0]))))) (.J e (.ro [0,1,9] [0] [] [] [0] [0]))) fun o=>.c0 e i q fun _ _=>.c0 e i q fun _ _=>.c1 e i q fun _ _=>.c0 e i q fun _ _=>.f (hp:=(.cons (.borrow e (by decide) lw) (.d2 .nil))) (hcase:=fun _=>(.inr ⟨rfl,ownL_root ⟨own_rows (fun _=>e) _,trivial⟩⟩)) [] [50248] 1 e i q fun a0 _=>.c0 e i q fun _ _=>.B fun _ a1=>.st e (Ev.addS e e a1) e (.E e e (.t (Gh.frz (f:=encPair) (g:=encPair) (xs:=a0) 54312 (fun _=>e) e) (.ro [0,1,2] [0,54312] [] [54312] [0] [0])))))
def s_l15Op (N:Nat)(a:List Pair)(b:Command):Option ((List Pair)×BA):=
 (scat? (⟨#[107]⟩:BA) b.Key).bind fun c=>
 (s_l06At N a c).bind fun d=>
 (s_l06Get N a c).bind fun f=>
 (if(b.Op==2)=true then
 (if decide (d≥0)=true then
 (scat? (⟨#[103,111,116,32]⟩:BA) f).bind fun g=>
 some (a,g)
 else
 some (a,(⟨#[110,111,110,101]⟩:BA)))
 else
 (if(b.Op==3)=true then
 (s_l06Put N a c b.Value).bind fun h=>
 some (h,(⟨#[112,117,116]⟩:BA))
 else
 (if(b.Op==4)=true then
 (if decide (d≥0)=true then
 (s_l06Cut N a c).bind fun j=>
 some (j,(⟨#[99,117,116]⟩:BA))
 else
 some (a,(⟨#[110,111,110,101]⟩:BA)))
 else
 (if(!decide (f=b.Old))=true then
 some (a,(⟨#[107,101,112,116]⟩:BA))
 else
 (s_l06Put N a c b.Value).bind fun k=>
 some (k,(⟨#[115,119,97,112,112,101,100]⟩:BA))))))
instance i120 (N:Nat)(c:List Pair)(b:Command):JG 184 (s_l15Op N c b) [RO 79 (c.map encPair),.agg [VI b.Op,VI b.Session,VI b.Seq,VS b.Key,VS b.Value,VS b.Old]] 0 [] (fun r=>.tup [RO 79 (r.1.map encPair),VS r.2]) (fun r=>[]):=.st e e Tryz.call184 fun B r=>.B fun _ d=>.st e (Ev.addS e e d) e (.c0 e i q fun _ _=>.c0 e i q fun _ _=>.q e (.a e e (.q e (.a e e (.B fun _ h=>.st e (Ev.addS e e h) e (.E e e (.ro [0,1] [] [] [] [0] []))) (.E e e (.ro [0,1] [] [] [] [0] [])))) (.a e e (.c1 e i q fun j _=>.E e e (.t (Gh.frz (f:=encPair) (g:=encPair) (xs:=j) 42024 (fun _=>e) e) (.ro [0,1] [42024] [] [42024] [0] []))) (.a e e (.q e (.a e e (.c1 e i q fun k _=>.E e e (.t (Gh.frz (f:=encPair) (g:=encPair) (xs:=k) 54280 (fun _=>e) e) (.ro [0,1] [54280] [] [54280] [0] []))) (.E e e (.ro [0,1] [] [] [] [0] [])))) (.q e (.a e e (.E e e (.ro [0,1] [] [] [] [0] [])) (.c1 e i q fun l _=>.E e e (.t (Gh.frz (f:=encPair) (g:=encPair) (xs:=l) 70696 (fun _=>e) e) (.ro [0,1] [70696] [] [70696] [0] [])))))))))
def s_l15Op_i1 (N:Nat)(a:List Pair)(b:Command):Option ((List Pair)×BA):=
 (scat? (⟨#[107]⟩:BA) b.Key).bind fun c=>
 (s_l06At N a c).bind fun d=>
 (s_l06Get N a c).bind fun f=>
 (if(b.Op==2)=true then
 (if decide (d≥0)=true then
 (scat? (⟨#[103,111,116,32]⟩:BA) f).bind fun g=>
 some (a,g)
 else
 some (a,(⟨#[110,111,110,101]⟩:BA)))
 else
 (if(b.Op==3)=true then
 (s_l06Put N a c b.Value).bind fun h=>
 some (h,(⟨#[112,117,116]⟩:BA))
 else
 (if(b.Op==4)=true then
 (if decide (d≥0)=true then
 (s_l06Cut N a c).bind fun j=>
 some (j,(⟨#[99,117,116]⟩:BA))
 else
 some (a,(⟨#[110,111,110,101]⟩:BA)))
 else
 (if(!decide (f=b.Old))=true then
 some (a,(⟨#[107,101,112,116]⟩:BA))
 else
 (s_l06Put N a c b.Value).bind fun k=>
 some (k,(⟨#[115,119,97,112,112,101,100]⟩:BA))))))
instance i121 (N:Nat)(c:List Pair)(b:Command):JG 184 (s_l15Op_i1 N c b) [.sl 0 79 0 c.length,.agg [VI b.Op,VI b.Session,VI b.Seq,VS b.Key,VS b.Value,VS b.Old]] 1 [(0,.vec 79 (c.map encPair))] (fun r=>.tup [.sl 1 79 0 r.1.length,VS r.2]) (fun r=>[(0,.gone),(1,.vec 79 (r.1.map encPair))]):=.st e e Tryz.call184 fun B r=>.B fun _ d=>.st e (Ev.addS e e d) e (.f (hp:=(.cons (.borrow e (by decide) lw) (.d1 .nil))) (hcase:=fun _=>(.inr ⟨rfl,ownL_root trivial⟩)) [] [0] 0 e i q fun _ _=>.f (hp:=(.cons (.borrow e (by decide) lw) (.d1 .nil))) (hcase:=fun _=>(.inr ⟨rfl,ownL_root trivial⟩)) [] [0] 0 e i q fun _ _=>.q e (.a e e (.q e (.a e e (.B fun _ g=>.st e (Ev.addS e e g) e (.E e e (.mv [0,1] [0] [0] [0,30000000]))) (.E e e (.mv [0,1] [0] [0] [0,30000000])))) (.a e e (.f (hp:=(.cons (.borrow e (by decide) lw) (.d2 .nil))) (hcase:=fun _=>(.inr ⟨rfl,ownL_root ⟨own_rows (fun _=>e) _,trivial⟩⟩)) [] [0] 1 e i q fun _ _=>.E e e (.mv [0,1] [0,42024] [0] [0,42024])) (.a e e (.q e (.a e e (.f (hp:=(.cons (.borrow e (by decide) lw) (.d1 .nil))) (hcase:=fun _=>(.inr ⟨rfl,ownL_root ⟨own_rows (fun _=>e) _,trivial⟩⟩)) [] [0] 1 e i q fun _ _=>.E e e (.mv [0,1] [0,54280] [0] [0,54280])) (.E e e (.mv [0,1] [0] [0] [0,30000000])))) (.q e (.a e e (.E e e (.mv [0,1] [0] [0] [0,30000000])) (.f (hp:=(.cons (.borrow e (by decide) lw) (.d2 .nil))) (hcase:=fun _=>(.inr ⟨rfl,ownL_root ⟨own_rows (fun _=>e) _,trivial⟩⟩)) [] [0] 1 e i q fun _ _=>.E e e (.mv [0,1] [0,70696] [0] [0,70696]))))))))
def s_Act_l1 (N:Nat)(c:Command)(b:(List Tl15State)×Bool):Nat→Int→Int→Option (Int)
 |0,_,_=>none
 |m+1,d,a=>
 (if decide (a<(b.1.length:Int))=true then
 joinP (fun(g:Int)=>
 s_Act_l1 N c b m g (w64 (a+1))) fun f=>
 (at? b.1 a).bind fun h=>
 (if(h.id==c.Session)=true then
 f a
 else
 f d)
 else
 some d)
def s_Act (N:Nat)(g:List Pair)(h:Int)(a:Command):Option ((List Pair)×BA×Bool):=
 (s_MapOk N g).bind fun m=>
 (if(!m)=true then
 some (([]:List Pair),(⟨#[]⟩:BA),false)
 else
 (s_CommandOk N a).bind fun n=>
 (if(!n)=true then
 some (([]:List Pair),(⟨#[]⟩:BA),false)
 else
 (s_l01In N h 0 100000).bind fun o=>
 (if(!o)=true then
 some (([]:List Pair),(⟨#[]⟩:BA),false)
 else
 (s_l15Sessions N g).bind fun d=>
 (if(!d.2)=true then
 some (([]:List Pair),(⟨#[]⟩:BA),false)
 else
 (cat? ([]:List Pair) g).bind fun b=>
 (if(a.Op==1)=true then
 (s_l15Open_i1 N b h d.1).bind fun f=>
 (if(!f.2.2)=true then
 some (([]:List Pair),(⟨#[]⟩:BA),false)
 else
 (s_MapOk N f.1).bind fun p=>
 (if(!p)=true then
 some (([]:List Pair),(⟨#[]⟩:BA),false)
 else
 some (f.1,f.2.1,true)))
 else
 joinP (fun(k:Int)=>
 (if decide (k<0)=true then
 some (b,(⟨#[101,120,112,105,114,101,100]⟩:BA),true)
 else
 (at? d.1 k).bind fun c=>
 (if decide (a.Seq<c.seq)=true then
 some (b,(⟨#[115,116,97,108,101]⟩:BA),true)
 else
 (if(a.Seq==c.seq)=true then
 some (b,c.reply,true)
 else
 (if decide (a.Seq>(w64 (c.seq+1)))=true then
 some (b,(⟨#[103,97,112]⟩:BA),true)
 else
 (s_l15Op_i1 N b a).bind fun j=>
 (s_l15Key N c.id).bind fun s=>
 (s_l15Text N (Tl15State.mk c.id a.Seq h j.2)).bind fun t=>
 (s_l06Put N j.1 s t).bind fun l=>
 (s_MapOk N l).bind fun u=>
 (if(!u)=true then
 some (([]:List Pair),(⟨#[]⟩:BA),false)
 else
 some (l,j.2,true))))))) fun w=>
 (s_Act_l1 N a d N (-1:Int) 0).bind (fun x=>w x))))))
instance i122 (N:Nat)(u:List Pair)(l:Int)(b:Command):JG 116 (s_Act N u l b) [RO 79 (u.map encPair),VI l,.agg [VI b.Op,VI b.Session,VI b.Seq,VS b.Key,VS b.Value,VS b.Old]] 0 [] (fun r=>.tup [RO 79 (r.1.map encPair),VS r.2.1,VB r.2.2]) (fun r=>[]):=.st e e Tryz.call116 fun B r=>.st e (Ev.bsW (ys:=([]:List Pair)) (f:=encPair) e .nil e e e e e) e (.q e (.q e (.c0 e i q fun _ _=>.a e e (.E e e (.t (Gh.frz (f:=encPair) (g:=encPair) (xs:=([]:List Pair)) 5096 (fun _=>e) e) (.ro [0,1,2] [5096] [] [5096] [0] []))) (.c0 e i q fun _ _=>.a e e (.E e e (.t (Gh.frz (f:=encPair) (g:=encPair) (xs:=([]:List Pair)) 5096 (fun _=>e) e) (.ro [0,1,2] [5096] [] [5096] [0] []))) (.c0 e i q fun _ _=>.a e e (.E e e (.t (Gh.frz (f:=encPair) (g:=encPair) (xs:=([]:List Pair)) 5096 (fun _=>e) e) (.ro [0,1,2] [5096] [] [5096] [0] []))) (.c1 e i q fun d _=>.q e (.a e e (.E e e (.t (Gh.frz (f:=encPair) (g:=encPair) (xs:=([]:List Pair)) 5096 (fun _=>e) e) (.ro [0,1,2] [5096] [] [5096] [0] []))) (.st e (Ev.bsW (ys:=([]:List Pair)) (f:=encPair) e .nil e e e e e) e (.B fun c y=>.st e (Ev.apW (f:=encPair) (ontoW e e e) (addsF e) e bt79 e y) e (.q e (.a e e (.B fun _ v=>.stz e (EvZ.frz (f:=encPair) (g:=encPair) (xs:=c) 29704 (fun _=>e) e (.mk (Ev.call [17400] [] 0 (sy v) e e (.cons (.share e (shareW _ e)) (.d1 (.cons (.sl e) .nil))) e (.inl e) e e))) e (.q e (.q e (.a e e (.E e e (.t (Gh.frz (f:=encPair) (g:=encPair) (xs:=([]:List Pair)) 5096 (fun _=>e) e) (.ro [0,1,2] [5096] [] [5096] [0] []))) (.c0 e i q fun _ _=>.a e e (.E e e (.t (Gh.frz (f:=encPair) (g:=encPair) (xs:=([]:List Pair)) 5096 (fun _=>e) e) (.ro [0,1,2] [5096] [] [5096] [0] []))) (.E e e (.ro [0,1,2] [] [] [] [0] []))))))) (.j e (fun o=>[(1,VI l),(5,.ptr 0 0),(9,.sl 1 79 0 (([]:List Pair).length)),(10,.sl 2 285 0 d.1.length),(12,.sl 3 79 0 c.length),(14,VI o)]) (fun o=>[(0,.box [VI b.Op,VI b.Session,VI b.Seq,VS b.Key,VS b.Value,VS b.Old]),(1,.vec 79 (([]:List Pair).map encPair)),(2,.vec 285 (d.1.map encTl15State)),(3,.vec 79 (c.map encPair))]) (fun _=>.L2 e (fun p m=>[(1,VI l),(5,.ptr 0 0),(9,.sl 1 79 0 (([]:List Pair).length)),(10,.sl 2 285 0 d.1.length),(12,.sl 3 79 0 c.length),(14,VI p),(15,VI m)]) (fun p m=>[(0,.box [VI b.Op,VI b.Session,VI b.Seq,VS b.Key,VS b.Value,VS b.Old]),(1,.vec 79 (([]:List Pair).map encPair)),(2,.vec 285 (d.1.map encTl15State)),(3,.vec 79 (c.map encPair))]) (.k [1,5,9,10,12,14,15] [1000,5096,17400,29704]) fun _ p m _ z=>.q e (.a e e (.j e (fun s=>[(1,VI l),(5,.ptr 0 0),(9,.sl 1 79 0 (([]:List Pair).length)),(10,.sl 2 285 0 d.1.length),(12,.sl 3 79 0 c.length),(14,VI s),(15,VI m)]) (fun s=>[(0,.box [VI b.Op,VI b.Session,VI b.Seq,VS b.Key,VS b.Value,VS b.Old]),(1,.vec 79 (([]:List Pair).map encPair)),(2,.vec 285 (d.1.map encTl15State)),(3,.vec 79 (c.map encPair))]) (fun _=>.B fun _ w=>.st e (Ev.iaW e e e w) e (.st e (Ev.ldE (f:=encTl15State) e e (at_some w).2 e e e) e (.dn e (.a e e (.J e (.k [1,5,9,10,12,14,15] [0,1,2,3])) (.J e (.k [1,5,9,10,12,14,15] [0,1,2,3])))))) fun s=>.R e (fun h=>⟨_,_,h,e,e⟩) (.k [1,5,9,10,12,14,15] [0,1,2,3])) (.X z e e (.n e (.J e (.k [1,5,9,10,12,14] [0,1,2,3])))))) fun o=>.q e (.a e e (.E e e (.t (Gh.frz (f:=encPair) (g:=encPair) (xs:=c) 3 (fun _=>e) e) (.ro [0,1,2] [3] [] [3] [0] []))) (.B fun _ x=>.st e (Ev.iaW e e e x) e (.st e (Ev.ldE (f:=encTl15State) e e (at_some x).2 e e e) e (.q e (.a e e (.E e e (.t (Gh.frz (f:=encPair) (g:=encPair) (xs:=c) 3 (fun _=>e) e) (.ro [0,1,2] [3] [] [3] [0] []))) (.q e (.a e e (.dn e (.E e e (.t (Gh.frz (f:=encPair) (g:=encPair) (xs:=c) 3 (fun _=>e) e) (.ro [0,1,2] [3] [] [3] [0] [])))) (.q e (.a e e (.E e e (.t (Gh.frz (f:=encPair) (g:=encPair) (xs:=c) 3 (fun _=>e) e) (.ro [0,1,2] [3] [] [3] [0] []))) (.f [3] [] 1 e i q fun _ _=>.c0 e i q fun _ _=>.c0 e i q fun _ _=>.f (hp:=(.cons (.borrow e (by decide) lw) (.d2 .nil))) (hcase:=fun _=>(.inr ⟨rfl,ownL_root ⟨own_rows (fun _=>e) _,trivial⟩⟩)) [] [119816] 1 e i q fun a0 _=>.dn e (.q e (.f (hp:=(.cons (.borrow e (by decide) lw) .nil)) (hcase:=fun _=>(.inr ⟨rfl,ownL_root trivial⟩)) [] [136264] 0 e i q fun _ _=>.a e e (.E e e (.t (Gh.frz (f:=encPair) (g:=encPair) (xs:=([]:List Pair)) 1 (fun _=>e) e) (.ro [0,1,2] [1] [] [1] [0] []))) (.E e e (.t (Gh.frz (f:=encPair) (g:=encPair) (xs:=a0) 136264 (fun _=>e) e) (.ro [0,1,2] [136264] [] [136264] [0] [])))))))))))))))))))))))))))
end Go.Proofs.YthfjkhlgkjgkjaaGreatDoor.Pe.FnExactSound
