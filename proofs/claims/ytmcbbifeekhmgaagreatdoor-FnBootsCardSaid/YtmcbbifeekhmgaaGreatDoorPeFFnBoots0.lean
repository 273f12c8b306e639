/- Functions,as pure functions; and that Go does just that. -/
import Derived.Test.YtmcbbifeekhmgaaGreatDoorPeGo
import Derived.Test.YtmcbbifeekhmgaaGreatDoorPeSpec
import Derived.Test.YtmcbbifeekhmgaaGreatDoorShelf
import Derived.Test.YtmcbbifeekhmgaaGreatDoorPeIns113
import Derived.Test.YtmcbbifeekhmgaaGreatDoorPeIns114
import Derived.Test.YtmcbbifeekhmgaaGreatDoorPeIns191
import Derived.Test.YtmcbbifeekhmgaaGreatDoorPeSFnBoots
namespace Go.Proofs.YtmcbbifeekhmgaaGreatDoor.Pe.FnBoots
open Go Go.RowKit
set_option linter.unusedVariables false
set_option linter.unusedSimpArgs false
set_option maxHeartbeats 40000000
set_option maxRecDepth 100000
abbrev BA:=ByteArray
theorem DG {α:Type}{l:List α}{i:Nat}(h:i<l.length):l.drop i=l[i]::l.drop (i+1):=List.drop_eq_getElem_cons h
theorem DN {α:Type}{l:List α}{i:Nat}(h:l.length<=i):l.drop i=[]:=List.drop_eq_nil_of_le h
theorem DT {p:Prop}[Decidable p]:(decide p=true)=p:=decide_eq_true_eq
theorem BF:(false=true)=False:=Bool.false_eq_true
theorem BZ {a b:ByteArray}:(a++b).size=a.size+b.size:=ByteArray.size_append
theorem LA {α:Type}{a b:List α}:(a++b).length=a.length+b.length:=List.length_append
theorem LC {α:Type}{a:α}{b:List α}:(a::b).length=b.length+1:=List.length_cons
theorem DF {p:Prop}[h:Decidable p](q:¬p):decide p=false:=decide_eq_false q
theorem DE {p:Prop}[h:Decidable p](q:p):decide p=true:=decide_eq_true q
theorem BN:(!true)=false:=rfl
theorem IP {c:Prop}{h:Decidable c}(hc:c){α:Type}{t e:α}:(if c then t else e)=t:=if_pos hc
theorem IQ {c:Prop}{h:Decidable c}(hc:¬c){α:Type}{t e:α}:(if c then t else e)=e:=if_neg hc
theorem WS {k:Nat}(h:k<9223372036854775807):w64 ((k:Int)+1)=((k+1:Nat):Int):=w64_succ h
instance:HM Tryz.prog:=⟨by kernel_rfl⟩
abbrev JG {R:Type}(f:Nat)(p:Option R)(vs:List V)(m:Nat)(σ:St)(vo:R->V)(σo:R->St):=Sem Tryz.prog f p vs m σ vo σo
abbrev JI (f:Nat)(p:Option Int)(vs:List V):=Sem Tryz.prog f p vs 0 [] (λr=>VI r) (λ_=>[])
abbrev JB (f:Nat)(p:Option Bool)(vs:List V):=Sem Tryz.prog f p vs 0 [] (λr=>VB r) (λ_=>[])
abbrev JS (f:Nat)(p:Option BA)(vs:List V):=Sem Tryz.prog f p vs 0 [] (λr=>VS r) (λ_=>[])
structure Tl01Cur where
 b:(List Int)
 i:Int
 h:Int
structure Manifest where
 Segs:(List Int)
 Next:Int
 Base:Int
 BaseTerm:Int
 Conf:(List Int)
structure File where
 Name:BA
 Text:BA
abbrev encFile (x:File):List C:=[.s x.Name,.s x.Text]
structure Disk where
 Files:(List File)
structure Entry where
 Term:Int
 Kind:Int
 Data:BA
abbrev encEntry (x:Entry):List C:=[.i .i64 x.Term,.i .i64 x.Kind,.s x.Data]
structure Log where
 Start:Int
 StartTerm:Int
 Entries:(List Entry)
structure Raw where
 Kind:Int
 Name:BA
 To:BA
 Text:BA
abbrev encRaw (x:Raw):List C:=[.i .i64 x.Kind,.s x.Name,.s x.To,.s x.Text]
structure Tl05Cur where
 text:BA
 at':Int
 bad:Bool
structure Spot where
 Key:BA
 Seg:Int
 At:Int
 Size:Int
abbrev encSpot (x:Spot):List C:=[.s x.Key,.i .i64 x.Seg,.i .i64 x.At,.i .i64 x.Size]
structure Change where
 Key:BA
 Value:BA
 Gone:Bool
abbrev encChange (x:Change):List C:=[.s x.Key,.s x.Value,.b x.Gone]
structure Batch where
 Stamp:Int
 Changes:(List Change)
structure Shelf where
 Man:Manifest
 Dir:(List Spot)
 Stamp:Int
structure Peer where
 Id:Int
 Next:Int
 Match:Int
 Sent:Int
abbrev encPeer (x:Peer):List C:=[.i .i64 x.Id,.i .i64 x.Next,.i .i64 x.Match,.i .i64 x.Sent]
structure Node where
 Id:Int
 Term:Int
 Vote:Int
 Role:Int
 Lead:Int
 Conf:(List Int)
 Log:Log
 Commit:Int
 Clock:Int
 Limit:Int
 Votes:(List Int)
 Peers:(List Peer)
structure Server where
 Node:Node
 Disk:Disk
 Shelf:Shelf
 Stage:BA
 StageAt:Int
 StageTerm:Int
abbrev encServer (o:Bool)(x:Server):List C:=[.i .i64 x.Node.Id,.i .i64 x.Node.Term,.i .i64 x.Node.Vote,.i .i64 x.Node.Role,.i .i64 x.Node.Lead,.row o 3 (x.Node.Conf.map encI),.i .i64 x.Node.Log.Start,.i .i64 x.Node.Log.StartTerm,.row o 91 (x.Node.Log.Entries.map encEntry),.i .i64 x.Node.Commit,.i .i64 x.Node.Clock,.i .i64 x.Node.Limit,.row o 3 (x.Node.Votes.map encI),.row o 195 (x.Node.Peers.map encPeer),.row o 93 (x.Disk.Files.map encFile),.row o 3 (x.Shelf.Man.Segs.map encI),.i .i64 x.Shelf.Man.Next,.i .i64 x.Shelf.Man.Base,.i .i64 x.Shelf.Man.BaseTerm,.row o 3 (x.Shelf.Man.Conf.map encI),.row o 85 (x.Shelf.Dir.map encSpot),.i .i64 x.Shelf.Stamp,.s x.Stage,.i .i64 x.StageAt,.i .i64 x.StageTerm]
structure Message where
 Kind:Int
 From:Int
 To:Int
 Term:Int
 Index:Int
 LogTerm:Int
 Commit:Int
 Ok:Bool
 Entries:(List Entry)
 Conf:(List Int)
 Data:BA
 Last:Bool
abbrev encMessage (o:Bool)(x:Message):List C:=[.i .i64 x.Kind,.i .i64 x.From,.i .i64 x.To,.i .i64 x.Term,.i .i64 x.Index,.i .i64 x.LogTerm,.i .i64 x.Commit,.b x.Ok,.row o 91 (x.Entries.map encEntry),.row o 3 (x.Conf.map encI),.s x.Data,.b x.Last]
structure Tl17Live where
 list:(List Server)
 net:(List Message)
structure Pair where
 Key:BA
 Value:BA
abbrev encPair (x:Pair):List C:=[.s x.Key,.s x.Value]
structure Command where
 Op:Int
 Session:Int
 Seq:Int
 Key:BA
 Value:BA
 Old:BA
structure Tl15State where
 id:Int
 seq:Int
 at':Int
 reply:BA
abbrev encTl15State (x:Tl15State):List C:=[.i .i64 x.id,.i .i64 x.seq,.i .i64 x.at',.s x.reply]
structure Input where
 Kind:Int
 Limit:Int
 Message:Message
 Entry:Int
 Data:BA
structure Done where
 Index:Int
 Entry:Entry
 Reply:BA
abbrev encDone (x:Done):List C:=[.i .i64 x.Index,.i .i64 x.Entry.Term,.i .i64 x.Entry.Kind,.s x.Entry.Data,.s x.Reply]
structure Tl17Run where
 s:Server
 raws:(List Raw)
 told:(List Message)
 done:(List Done)
 bad:Bool
structure Tl16Run where
 n:Node
 told:(List Message)
structure Treader where
 s:BA
 at':Int
 bad:Bool
structure Tplaced where
 b:Batch
 text:BA
 at':Int
abbrev encTplaced (o:Bool)(x:Tplaced):List C:=[.i .i64 x.b.Stamp,.row o 262 (x.b.Changes.map encChange),.s x.text,.i .i64 x.at']
section
variable {β ρ:Type} {c:Ctx} {m:Nat} {s s':List Fm} {tl tl':Tl} {fr fr':Fr} {σ σ':St} {r:β}
abbrev cManifest0 (x:Manifest)(l:List V):List V:=RO 3 (x.Segs.map encI)::VI x.Next::VI x.Base::VI x.BaseTerm::RO 3 (x.Conf.map encI)::l
abbrev cManifest1 (x:Manifest)(a b:Nat)(l:List V):List V:=.sl a 3 0 x.Segs.length::VI x.Next::VI x.Base::VI x.BaseTerm::.sl b 3 0 x.Conf.length::l
abbrev cShelf0 (x:Shelf)(a b c:Nat)(l:List V):List V:=.sl a 3 0 x.Man.Segs.length::VI x.Man.Next::VI x.Man.Base::VI x.Man.BaseTerm::.sl b 3 0 x.Man.Conf.length::.sl c 85 0 x.Dir.length::VI x.Stamp::l
abbrev cRaw0 (x:Raw)(l:List V):List V:=VI x.Kind::VS x.Name::VS x.To::VS x.Text::l
abbrev cNode0 (x:Node)(l:List V):List V:=VI x.Id::VI x.Term::VI x.Vote::VI x.Role::VI x.Lead::RO 3 (x.Conf.map encI)::VI x.Log.Start::VI x.Log.StartTerm::RO 91 (x.Log.Entries.map encEntry)::VI x.Commit::VI x.Clock::VI x.Limit::RO 3 (x.Votes.map encI)::RO 195 (x.Peers.map encPeer)::l
abbrev cServer0 (x:Server)(a b c d e f g h:Nat)(l:List V):List V:=VI x.Node.Id::VI x.Node.Term::VI x.Node.Vote::VI x.Node.Role::VI x.Node.Lead::.sl a 3 0 x.Node.Conf.length::VI x.Node.Log.Start::VI x.Node.Log.StartTerm::.sl b 91 0 x.Node.Log.Entries.length::VI x.Node.Commit::VI x.Node.Clock::VI x.Node.Limit::.sl c 3 0 x.Node.Votes.length::.sl d 195 0 x.Node.Peers.length::.sl e 93 0 x.Disk.Files.length::.sl f 3 0 x.Shelf.Man.Segs.length::VI x.Shelf.Man.Next::VI x.Shelf.Man.Base::VI x.Shelf.Man.BaseTerm::.sl g 3 0 x.Shelf.Man.Conf.length::.sl h 85 0 x.Shelf.Dir.length::VI x.Shelf.Stamp::VS x.Stage::VI x.StageAt::VI x.StageTerm::l
abbrev cCommand0 (x:Command)(l:List V):List V:=VI x.Op::VI x.Session::VI x.Seq::VS x.Key::VS x.Value::VS x.Old::l
abbrev cTl15State0 (x:Tl15State)(l:List V):List V:=VI x.id::VI x.seq::VI x.at'::VS x.reply::l
abbrev cServer1 (x:Server)(l:List V):List V:=VI x.Node.Id::VI x.Node.Term::VI x.Node.Vote::VI x.Node.Role::VI x.Node.Lead::RO 3 (x.Node.Conf.map encI)::VI x.Node.Log.Start::VI x.Node.Log.StartTerm::RO 91 (x.Node.Log.Entries.map encEntry)::VI x.Node.Commit::VI x.Node.Clock::VI x.Node.Limit::RO 3 (x.Node.Votes.map encI)::RO 195 (x.Node.Peers.map encPeer)::RO 93 (x.Disk.Files.map encFile)::RO 3 (x.Shelf.Man.Segs.map encI)::VI x.Shelf.Man.Next::VI x.Shelf.Man.Base::VI x.Shelf.Man.BaseTerm::RO 3 (x.Shelf.Man.Conf.map encI)::RO 85 (x.Shelf.Dir.map encSpot)::VI x.Shelf.Stamp::VS x.Stage::VI x.StageAt::VI x.StageTerm::l
abbrev cInput0 (x:Input)(a b:Nat)(l:List V):List V:=VI x.Kind::VI x.Limit::VI x.Message.Kind::VI x.Message.From::VI x.Message.To::VI x.Message.Term::VI x.Message.Index::VI x.Message.LogTerm::VI x.Message.Commit::VB x.Message.Ok::.sl a 91 0 x.Message.Entries.length::.sl b 3 0 x.Message.Conf.length::VS x.Message.Data::VB x.Message.Last::VI x.Entry::VS x.Data::l
abbrev cShelf1 (x:Shelf)(l:List V):List V:=RO 3 (x.Man.Segs.map encI)::VI x.Man.Next::VI x.Man.Base::VI x.Man.BaseTerm::RO 3 (x.Man.Conf.map encI)::RO 85 (x.Dir.map encSpot)::VI x.Stamp::l
abbrev cNode1 (x:Node)(a b c d:Nat)(l:List V):List V:=VI x.Id::VI x.Term::VI x.Vote::VI x.Role::VI x.Lead::.sl a 3 0 x.Conf.length::VI x.Log.Start::VI x.Log.StartTerm::.sl b 91 0 x.Log.Entries.length::VI x.Commit::VI x.Clock::VI x.Limit::.sl c 3 0 x.Votes.length::.sl d 195 0 x.Peers.length::l
abbrev cMessage0 (x:Message)(l:List V):List V:=VI x.Kind::VI x.From::VI x.To::VI x.Term::VI x.Index::VI x.LogTerm::VI x.Commit::VB x.Ok::RO 91 (x.Entries.map encEntry)::RO 3 (x.Conf.map encI)::VS x.Data::VB x.Last::l
abbrev cTl16Run0 (x:Tl16Run)(a b c d e:Nat)(l:List V):List V:=VI x.n.Id::VI x.n.Term::VI x.n.Vote::VI x.n.Role::VI x.n.Lead::.sl a 3 0 x.n.Conf.length::VI x.n.Log.Start::VI x.n.Log.StartTerm::.sl b 91 0 x.n.Log.Entries.length::VI x.n.Commit::VI x.n.Clock::VI x.n.Limit::.sl c 3 0 x.n.Votes.length::.sl d 195 0 x.n.Peers.length::.sl e 42 0 x.told.length::l
abbrev cPeer0 (x:Peer)(l:List V):List V:=VI x.Id::VI x.Next::VI x.Match::VI x.Sent::l
abbrev cTl17Run0 (x:Tl17Run)(a b c:Nat)(l:List V):List V:=VI x.s.Node.Id::VI x.s.Node.Term::VI x.s.Node.Vote::VI x.s.Node.Role::VI x.s.Node.Lead::RO 3 (x.s.Node.Conf.map encI)::VI x.s.Node.Log.Start::VI x.s.Node.Log.StartTerm::RO 91 (x.s.Node.Log.Entries.map encEntry)::VI x.s.Node.Commit::VI x.s.Node.Clock::VI x.s.Node.Limit::RO 3 (x.s.Node.Votes.map encI)::RO 195 (x.s.Node.Peers.map encPeer)::RO 93 (x.s.Disk.Files.map encFile)::RO 3 (x.s.Shelf.Man.Segs.map encI)::VI x.s.Shelf.Man.Next::VI x.s.Shelf.Man.Base::VI x.s.Shelf.Man.BaseTerm::RO 3 (x.s.Shelf.Man.Conf.map encI)::RO 85 (x.s.Shelf.Dir.map encSpot)::VI x.s.Shelf.Stamp::VS x.s.Stage::VI x.s.StageAt::VI x.s.StageTerm::.sl a 79 0 x.raws.length::.sl b 42 0 x.told.length::.sl c 253 0 x.done.length::VB x.bad::l
abbrev cTl17Run1 (x:Tl17Run)(a b c d e f:Nat)(l:List V):List V:=VI x.s.Node.Id::VI x.s.Node.Term::VI x.s.Node.Vote::VI x.s.Node.Role::VI x.s.Node.Lead::RO 3 (x.s.Node.Conf.map encI)::VI x.s.Node.Log.Start::VI x.s.Node.Log.StartTerm::RO 91 (x.s.Node.Log.Entries.map encEntry)::VI x.s.Node.Commit::VI x.s.Node.Clock::VI x.s.Node.Limit::RO 3 (x.s.Node.Votes.map encI)::RO 195 (x.s.Node.Peers.map encPeer)::RO 93 (x.s.Disk.Files.map encFile)::.sl a 3 0 x.s.Shelf.Man.Segs.length::VI x.s.Shelf.Man.Next::VI x.s.Shelf.Man.Base::VI x.s.Shelf.Man.BaseTerm::.sl b 3 0 x.s.Shelf.Man.Conf.length::.sl c 85 0 x.s.Shelf.Dir.length::VI x.s.Shelf.Stamp::VS x.s.Stage::VI x.s.StageAt::VI x.s.StageTerm::.sl d 79 0 x.raws.length::.sl e 42 0 x.told.length::.sl f 253 0 x.done.length::VB x.bad::l
abbrev cMessage1 (x:Message)(a b:Nat)(l:List V):List V:=VI x.Kind::VI x.From::VI x.To::VI x.Term::VI x.Index::VI x.LogTerm::VI x.Commit::VB x.Ok::.sl a 91 0 x.Entries.length::.sl b 3 0 x.Conf.length::VS x.Data::VB x.Last::l
abbrev cInput1 (x:Input)(l:List V):List V:=VI x.Kind::VI x.Limit::VI x.Message.Kind::VI x.Message.From::VI x.Message.To::VI x.Message.Term::VI x.Message.Index::VI x.Message.LogTerm::VI x.Message.Commit::VB x.Message.Ok::RO 91 (x.Message.Entries.map encEntry)::RO 3 (x.Message.Conf.map encI)::VS x.Message.Data::VB x.Message.Last::VI x.Entry::VS x.Data::l
abbrev cTplaced0 (x:Tplaced)(l:List V):List V:=VI x.b.Stamp::RO 262 (x.b.Changes.map encChange)::VS x.text::VI x.at'::l
abbrev cSpot0 (x:Spot)(l:List V):List V:=VS x.Key::VI x.Seg::VI x.At::VI x.Size::l
abbrev rManifest0 (x:Manifest)(a b:Nat)(l:St):St:=(a,.vec 3 (x.Segs.map encI))::(b,.vec 3 (x.Conf.map encI))::l
abbrev rShelf0 (x:Shelf)(a b c:Nat)(l:St):St:=(a,.vec 3 (x.Man.Segs.map encI))::(b,.vec 3 (x.Man.Conf.map encI))::(c,.vec 85 (x.Dir.map encSpot))::l
abbrev rServer0 (x:Server)(a b c d e f g h:Nat)(l:St):St:=(a,.vec 3 (x.Node.Conf.map encI))::(b,.vec 91 (x.Node.Log.Entries.map encEntry))::(c,.vec 3 (x.Node.Votes.map encI))::(d,.vec 195 (x.Node.Peers.map encPeer))::(e,.vec 93 (x.Disk.Files.map encFile))::(f,.vec 3 (x.Shelf.Man.Segs.map encI))::(g,.vec 3 (x.Shelf.Man.Conf.map encI))::(h,.vec 85 (x.Shelf.Dir.map encSpot))::l
abbrev rInput0 (x:Input)(a b:Nat)(l:St):St:=(a,.vec 91 (x.Message.Entries.map encEntry))::(b,.vec 3 (x.Message.Conf.map encI))::l
abbrev rNode0 (x:Node)(a b c d:Nat)(l:St):St:=(a,.vec 3 (x.Conf.map encI))::(b,.vec 91 (x.Log.Entries.map encEntry))::(c,.vec 3 (x.Votes.map encI))::(d,.vec 195 (x.Peers.map encPeer))::l
abbrev rTl16Run0 (x:Tl16Run)(a b c d e:Nat)(l:St):St:=(a,.vec 3 (x.n.Conf.map encI))::(b,.vec 91 (x.n.Log.Entries.map encEntry))::(c,.vec 3 (x.n.Votes.map encI))::(d,.vec 195 (x.n.Peers.map encPeer))::(e,.vec 42 (x.told.map (encMessage false)))::l
abbrev rMessage0 (x:Message)(a b:Nat)(l:St):St:=(a,.vec 91 (x.Entries.map encEntry))::(b,.vec 3 (x.Conf.map encI))::l
abbrev rTl17Live0 (x:Tl17Live)(a b:Nat)(l:St):St:=(a,.vec 40 (x.list.map (encServer false)))::(b,.vec 42 (x.net.map (encMessage false)))::l
def lJ7 {A0 A1 A2 A3 A4 A5 A6:Type}(F:Nat->A0->A1->A2->A3->A4->A5->A6->Option ρ)(q:ρ)(FR:A0->A1->A2->A3->A4->A5->A6->Fr)(SG:A0->A1->A2->A3->A4->A5->A6->St):Nat->Fr->St->Prop:=λn fr σ=>∃a0 a1 a2 a3 a4 a5 a6,F n a0 a1 a2 a3 a4 a5 a6=some q/\fr=FR a0 a1 a2 a3 a4 a5 a6/\σ=SG a0 a1 a2 a3 a4 a5 a6
theorem _root_.Go.Proofs.YtmcbbifeekhmgaaGreatDoor.Pe.G.L7 {A0 A1 A2 A3 A4 A5 A6:Type}{F:Nat->A0->A1->A2->A3->A4->A5->A6->Option ρ}{kk:ρ->Option β}{x:K}{n0:Nat}{a0:A0}{a1:A1}{a2:A2}{a3:A3}{a4:A4}{a5:A5}{a6:A6}(hx:X0 0 999 s tl fr σ=some (.k (.loop x)::s',tl',fr',σ'))(FR:A0->A1->A2->A3->A4->A5->A6->Fr)(SG:A0->A1->A2->A3->A4->A5->A6->St)(hg:Gm c.P c.B c.N m fr' σ' (FR a0 a1 a2 a3 a4 a5 a6) (SG a0 a1 a2 a3 a4 a5 a6))(h:∀n a0 a1 a2 a3 a4 a5 a6 q,Kq kk q r->G c m (.k x:: .l (lJ7 F q FR SG) (n+1)::s') [] (FR a0 a1 a2 a3 a4 a5 a6) (SG a0 a1 a2 a3 a4 a5 a6) (F (n+1) a0 a1 a2 a3 a4 a5 a6) q)(a:∀a0 a1 a2 a3 a4 a5 a6,F 0 a0 a1 a2 a3 a4 a5 a6=none:=by intros;rfl):G c m s tl fr σ ((F n0 a0 a1 a2 a3 a4 a5 a6).bind kk) r:=G.L hx (λq=>lJ7 F q FR SG) hg (λq hq=>⟨_,_,_,_,_,_,_,hq,rfl,rfl⟩) (by
 rintro q hq n fr σ ⟨a0,a1,a2,a3,a4,a5,a6,hF,rfl,rfl⟩ hB hm hf
 cases n with
 |zero=>rw[a]at hF;cases hF
 |succ n=>exact h n a0 a1 a2 a3 a4 a5 a6 q hq hB hm hf TlOk.nil hF)
def lJ8 {A0 A1 A2 A3 A4 A5 A6 A7:Type}(F:Nat->A0->A1->A2->A3->A4->A5->A6->A7->Option ρ)(q:ρ)(FR:A0->A1->A2->A3->A4->A5->A6->A7->Fr)(SG:A0->A1->A2->A3->A4->A5->A6->A7->St):Nat->Fr->St->Prop:=λn fr σ=>∃a0 a1 a2 a3 a4 a5 a6 a7,F n a0 a1 a2 a3 a4 a5 a6 a7=some q/\fr=FR a0 a1 a2 a3 a4 a5 a6 a7/\σ=SG a0 a1 a2 a3 a4 a5 a6 a7
theorem _root_.Go.Proofs.YtmcbbifeekhmgaaGreatDoor.Pe.G.L8 {A0 A1 A2 A3 A4 A5 A6 A7:Type}{F:Nat->A0->A1->A2->A3->A4->A5->A6->A7->Option ρ}{kk:ρ->Option β}{x:K}{n0:Nat}{a0:A0}{a1:A1}{a2:A2}{a3:A3}{a4:A4}{a5:A5}{a6:A6}{a7:A7}(hx:X0 0 999 s tl fr σ=some (.k (.loop x)::s',tl',fr',σ'))(FR:A0->A1->A2->A3->A4->A5->A6->A7->Fr)(SG:A0->A1->A2->A3->A4->A5->A6->A7->St)(hg:Gm c.P c.B c.N m fr' σ' (FR a0 a1 a2 a3 a4 a5 a6 a7) (SG a0 a1 a2 a3 a4 a5 a6 a7))(h:∀n a0 a1 a2 a3 a4 a5 a6 a7 q,Kq kk q r->G c m (.k x:: .l (lJ8 F q FR SG) (n+1)::s') [] (FR a0 a1 a2 a3 a4 a5 a6 a7) (SG a0 a1 a2 a3 a4 a5 a6 a7) (F (n+1) a0 a1 a2 a3 a4 a5 a6 a7) q)(a:∀a0 a1 a2 a3 a4 a5 a6 a7,F 0 a0 a1 a2 a3 a4 a5 a6 a7=none:=by intros;rfl):G c m s tl fr σ ((F n0 a0 a1 a2 a3 a4 a5 a6 a7).bind kk) r:=G.L hx (λq=>lJ8 F q FR SG) hg (λq hq=>⟨_,_,_,_,_,_,_,_,hq,rfl,rfl⟩) (by
 rintro q hq n fr σ ⟨a0,a1,a2,a3,a4,a5,a6,a7,hF,rfl,rfl⟩ hB hm hf
 cases n with
 |zero=>rw[a]at hF;cases hF
 |succ n=>exact h n a0 a1 a2 a3 a4 a5 a6 a7 q hq hB hm hf TlOk.nil hF)
def lJ12 {A0 A1 A2 A3 A4 A5 A6 A7 A8 A9 A10 A11:Type}(F:Nat->A0->A1->A2->A3->A4->A5->A6->A7->A8->A9->A10->A11->Option ρ)(q:ρ)(FR:A0->A1->A2->A3->A4->A5->A6->A7->A8->A9->A10->A11->Fr)(SG:A0->A1->A2->A3->A4->A5->A6->A7->A8->A9->A10->A11->St):Nat->Fr->St->Prop:=λn fr σ=>∃a0 a1 a2 a3 a4 a5 a6 a7 a8 a9 a10 a11,F n a0 a1 a2 a3 a4 a5 a6 a7 a8 a9 a10 a11=some q/\fr=FR a0 a1 a2 a3 a4 a5 a6 a7 a8 a9 a10 a11/\σ=SG a0 a1 a2 a3 a4 a5 a6 a7 a8 a9 a10 a11
theorem _root_.Go.Proofs.YtmcbbifeekhmgaaGreatDoor.Pe.G.L12 {A0 A1 A2 A3 A4 A5 A6 A7 A8 A9 A10 A11:Type}{F:Nat->A0->A1->A2->A3->A4->A5->A6->A7->A8->A9->A10->A11->Option ρ}{kk:ρ->Option β}{x:K}{n0:Nat}{a0:A0}{a1:A1}{a2:A2}{a3:A3}{a4:A4}{a5:A5}{a6:A6}{a7:A7}{a8:A8}{a9:A9}{a10:A10}{a11:A11}(hx:X0 0 999 s tl fr σ=some (.k (.loop x)::s',tl',fr',σ'))(FR:A0->A1->A2->A3->A4->A5->A6->A7->A8->A9->A10->A11->Fr)(SG:A0->A1->A2->A3->A4->A5->A6->A7->A8->A9->A10->A11->St)(hg:Gm c.P c.B c.N m fr' σ' (FR a0 a1 a2 a3 a4 a5 a6 a7 a8 a9 a10 a11) (SG a0 a1 a2 a3 a4 a5 a6 a7 a8 a9 a10 a11))(h:∀n a0 a1 a2 a3 a4 a5 a6 a7 a8 a9 a10 a11 q,Kq kk q r->G c m (.k x:: .l (lJ12 F q FR SG) (n+1)::s') [] (FR a0 a1 a2 a3 a4 a5 a6 a7 a8 a9 a10 a11) (SG a0 a1 a2 a3 a4 a5 a6 a7 a8 a9 a10 a11) (F (n+1) a0 a1 a2 a3 a4 a5 a6 a7 a8 a9 a10 a11) q)(a:∀a0 a1 a2 a3 a4 a5 a6 a7 a8 a9 a10 a11,F 0 a0 a1 a2 a3 a4 a5 a6 a7 a8 a9 a10 a11=none:=by intros;rfl):G c m s tl fr σ ((F n0 a0 a1 a2 a3 a4 a5 a6 a7 a8 a9 a10 a11).bind kk) r:=G.L hx (λq=>lJ12 F q FR SG) hg (λq hq=>⟨_,_,_,_,_,_,_,_,_,_,_,_,hq,rfl,rfl⟩) (by
 rintro q hq n fr σ ⟨a0,a1,a2,a3,a4,a5,a6,a7,a8,a9,a10,a11,hF,rfl,rfl⟩ hB hm hf
 cases n with
 |zero=>rw[a]at hF;cases hF
 |succ n=>exact h n a0 a1 a2 a3 a4 a5 a6 a7 a8 a9 a10 a11 q hq hB hm hf TlOk.nil hF)
end
theorem bt3:bytesOf Tryz.prog 3<=2048:=of_decide_eq_true (by kernel_rfl)
theorem bt5:bytesOf Tryz.prog 5<=2048:=of_decide_eq_true (by kernel_rfl)
theorem bt9:bytesOf Tryz.prog 9<=2048:=of_decide_eq_true (by kernel_rfl)
theorem bt40:bytesOf Tryz.prog 40<=2048:=of_decide_eq_true (by kernel_rfl)
theorem bt42:bytesOf Tryz.prog 42<=2048:=of_decide_eq_true (by kernel_rfl)
theorem bt79:bytesOf Tryz.prog 79<=2048:=of_decide_eq_true (by kernel_rfl)
theorem bt85:bytesOf Tryz.prog 85<=2048:=of_decide_eq_true (by kernel_rfl)
theorem bt89:bytesOf Tryz.prog 89<=2048:=of_decide_eq_true (by kernel_rfl)
theorem bt91:bytesOf Tryz.prog 91<=2048:=of_decide_eq_true (by kernel_rfl)
theorem bt93:bytesOf Tryz.prog 93<=2048:=of_decide_eq_true (by kernel_rfl)
theorem bt178:bytesOf Tryz.prog 178<=2048:=of_decide_eq_true (by kernel_rfl)
theorem bt195:bytesOf Tryz.prog 195<=2048:=of_decide_eq_true (by kernel_rfl)
theorem bt222:bytesOf Tryz.prog 222<=2048:=of_decide_eq_true (by kernel_rfl)
theorem bt253:bytesOf Tryz.prog 253<=2048:=of_decide_eq_true (by kernel_rfl)
theorem bt262:bytesOf Tryz.prog 262<=2048:=of_decide_eq_true (by kernel_rfl)
def w_big (N:Nat)(a:List Int):Option (Bool):=
 some (decide ((a.length:Int)>1048576))
instance i0 (N:Nat)(a:List Int):JB 4 (w_big N a) [RO 5 (a.map encU)]:=.st e e Tryz.call4 λB r=>.st e (Ev.lnF e) e (.Ek [] e e e)
def s_l01New_l1 (N:Nat)(b:List Int):Nat->Int->Int->Option (Int)
 |0,_,_=>none
 |m+1,c,a=>
 (if decide (a<(b.length:Int))then
 (if decide (a<4000)then
 (at? b a).bind λd=>
 (intD .and .i64 (w64 ((w64 ((w64 (c*131))+(w64 (d))))+7)) 1073741823).bind λf=>
 s_l01New_l1 N b m f (w64 (a+1))
 else
 some c)
 else
 some c)
def s_l01New (N:Nat)(a:List Int):Option (Tl01Cur):=
 joinP (λ(b:Int)=>
 some (Tl01Cur.mk a 0 b)) λc=>
 (s_l01New_l1 N a N (w64 (10301+(a.length:Int))) 0).bind (λd=>c d)
instance i1 (N:Nat)(c:List Int):JG 11 (s_l01New N c) [RO 5 (c.map encU)] 0 [] (λr=>.ptr 0 0) (λr=>[(0,.box [RO 5 (r.b.map encU),VI r.i,VI r.h])]):=.st e e Tryz.call11 λB r=>.st e (Ev.lnF e) e (.jk e [0,3] [] (λd=>[.f 3 (VI d)]) (λ_=>e) (λ_=>.K2 e [0,3,4] [] (λg j=>[.f 3 (VI g),.f 4 (VI j)]) (λ_ _=>e) λ_ g j _ l=>.q e (.q e (.st e (Ev.lnF e) e (.a e e (.a e e (.B λ_ m=>.st e (Ev.iaF e e m) e (.B λ_ o=>.st e (.bin e e o) e (.R e (λh=>⟨_,_,h,e,e⟩) (.k [0,3,4] [])))) (.X l e e (.n e (.J e (.k [0,3] []))))) (.X l e e (.n e (.J e (.k [0,3] [])))))))) λd=>.Ek [25624] e e e)
def s_l17Steps (N:Nat)(b:List Int):Option (Int):=
 (intD .quo .i64 (b.length:Int) 6).bind λa=>
 (if decide ((w64 (8+a))>45)then
 some 45
 else
 some (w64 (8+a)))
instance i2 (N:Nat)(b:List Int):JI 13 (s_l17Steps N b) [RO 5 (b.map encU)]:=.st e e Tryz.call13 λB r=>.st e (Ev.lnF e) e (.B λ_ c=>.st e (.bin e e c) e (.q e (.a e e (.Ek [] e e e) (.Ek [] e e e))))
def s_l01Byte (N:Nat)(a:Tl01Cur):Option (Int×Tl01Cur):=
 (intSh .shr .i64 (w64 ((w64 (a.h*6364136223846793005))+1442695040888963407)) 33).bind λg=>
 (intSh .shr .i64 (w64 ((w64 (a.h*6364136223846793005))+1442695040888963407)) 45).bind λj=>
 (intD .xor .i64 g j).bind λk=>
 (intD .and .i64 k 255).bind λc=>
 joinP (λ(d:Int×Int)=>
 some (d.1,(Tl01Cur.mk a.b d.2 (w64 ((w64 (a.h*6364136223846793005))+1442695040888963407))))) λf=>
 (if decide (a.i<(a.b.length:Int))then
 (at? a.b a.i).bind λl=>
 (intD .and .i64 (w64 (c+(w64 (l)))) 255).bind λm=>
 f (m,w64 (a.i+1))
 else
 f (c,a.i))
instance i3 (N:Nat)(d:Tl01Cur):JG 33 (s_l01Byte N d) [.ptr 0 0] 1 [(0,.box [RO 5 (d.b.map encU),VI d.i,VI d.h])] (λr=>VI r.1) (λr=>[(0,.box [RO 5 (r.2.b.map encU),VI r.2.i,VI r.2.h])]):=.st e e Tryz.call33 λB r=>.B λ_ j=>.st e (.sh e e j) e (.B λ_ l=>.st e (.sh e e l) e (.B λ_ m=>.st e (.bin e e m) e (.B λ_ n=>.st e (.bin e e n) e (.dn e (.jk e [3] [0] (λg=>[.f 3 (VI g.1),.c 0 1 (VI g.2)]) (λ_=>e) (λ_=>.st e (Ev.lnF e) e (.dn e (.a e e (.B λ_ o=>.st e (Ev.iaF e e o) e (.B λ_ p=>.st e (.bin e e p) e (.dn e (.J e (.k [3] [0]))))) (.J e (.k [3] [0]))))) λg=>.Ek [0] e e e)))))
def s_l01Below (N:Nat)(b:Tl01Cur)(a:Int):Option (Int×Tl01Cur):=
 (if decide (a<=0)then
 some (0,b)
 else
 (if decide (a<=256)then
 (s_l01Byte N b).bind λc=>
 (intD .rem .i64 c.1 a).bind λj=>
 some (j,c.2)
 else
 (s_l01Byte N b).bind λd=>
 (s_l01Byte N d.2).bind λf=>
 (s_l01Byte N f.2).bind λg=>
 (s_l01Byte N g.2).bind λh=>
 (intD .rem .i64 (w64 ((w64 ((w64 ((w64 (d.1*16777216))+(w64 (f.1*65536))))+(w64 (g.1*256))))+h.1)) a).bind λk=>
 some (k,h.2)))
instance i4 (N:Nat)(c:Tl01Cur)(d:Int):JG 14 (s_l01Below N c d) [.ptr 0 0,VI d] 1 [(0,.box [RO 5 (c.b.map encU),VI c.i,VI c.h])] (λr=>VI r.1) (λr=>[(0,.box [RO 5 (r.2.b.map encU),VI r.2.i,VI r.2.h])]):=.st e e Tryz.call14 λB r=>.q e (.a e e (.Ek [0] e e e) (.q e (.a e e (.f [0] [] 0 e i q λ_ _=>.B λ_ g=>.st e (.bin e e g) e (.Ek [0] e e e)) (.f [0] [] 0 e i q λ_ _=>.f [0] [] 0 e i q λ_ _=>.f [0] [] 0 e i q λ_ _=>.f [0] [] 0 e i q λ_ _=>.B λ_ j=>.st e (.bin e e j) e (.Ek [0] e e e)))))
def s_l01Once (N:Nat)(b:Tl01Cur)(c:Int):Option (Bool×Tl01Cur):=
 (s_l01Below N b c).bind λa=>
 some ((a.1==0),a.2)
instance i5 (N:Nat)(a:Tl01Cur)(c:Int):JG 28 (s_l01Once N a c) [.ptr 0 0,VI c] 1 [(0,.box [RO 5 (a.b.map encU),VI a.i,VI a.h])] (λr=>VB r.1) (λr=>[(0,.box [RO 5 (r.2.b.map encU),VI r.2.i,VI r.2.h])]):=.st e e Tryz.call28 λB r=>.f [0] [] 0 e i q λ_ _=>.Ek [0] e e e
def s_l01In (N:Nat)(a:Int)(b:Int)(c:Int):Option (Bool):=
 (if decide (a>=b)then
 some (decide (a<=c))
 else
 some false)
instance i6 (N:Nat)(b:Int)(c:Int)(d:Int):JB 61 (s_l01In N b c d) [VI b,VI c,VI d]:=.st e e Tryz.call61 λB r=>.q e (.a e e (.Ek [] e e e) (.Ek [] e e e))
def s_l07Rise_l1 (N:Nat)(b:List Int)(c:Int)(d:Int):Nat->Int->Option ((Bool)⊕(Unit))
 |0,_=>none
 |m+1,a=>
 (if decide (a<(b.length:Int))then
 joinP (λ(l:Unit)=>
 s_l07Rise_l1 N b c d m (w64 (a+1))) λf=>
 (at? b a).bind λg=>
 (s_l01In N g c d).bind λh=>
 (if(!h)then
 some (Sum.inl false)
 else
 (if decide (a>0)then
 (at? b (w64 (a-1))).bind λj=>
 (at? b a).bind λk=>
 (if decide (j>=k)then
 some (Sum.inl false)
 else
 f ())
 else
 f ()))
 else
 some (Sum.inr ()))
def s_l07Rise_l1_r (N:Nat)(b:List Int)(c:Int)(d:Int):(List Int)->Int->Option ((Bool)⊕(Unit))
 |[],a=>
 some (Sum.inr ())
 |hd::tl,a=>
 joinP (λ(l:Unit)=>
 s_l07Rise_l1_r N b c d tl (w64 (a+1))) λf=>
 (some hd).bind λg=>
 (s_l01In N g c d).bind λh=>
 (if(!h)then
 some (Sum.inl false)
 else
 (if decide (a>0)then
 (at? b (w64 (a-1))).bind λj=>
 (some hd).bind λk=>
 (if decide (j>=k)then
 some (Sum.inl false)
 else
 f ())
 else
 f ()))
theorem s_l07Rise_l1_rng (N:Nat)(a:List Int)(b:Int)(c:Int)(hx:a.length<=1099511627776):∀(d k m:Nat),a.length=k+d->d<m->s_l07Rise_l1 N a b c m (k:Int)=s_l07Rise_l1_r N a b c (a.drop k) (k:Int):=by
 intro d
 induction d with
 |zero=>
  intro k m hd hm
  obtain⟨m,rfl⟩:∃q,m=q+1:=⟨m-1,by omega⟩
  rw[s_l07Rise_l1,IQ (by simp;omega),DN (by omega),s_l07Rise_l1_r]
 |succ d ih=>
  intro k m hd hm
  obtain⟨m,rfl⟩:∃q,m=q+1:=⟨m-1,by omega⟩
  have hk:k<a.length:=by omega
  rw[s_l07Rise_l1,IP (by simp;omega),DG hk,s_l07Rise_l1_r]
  have f:=at_lt hk
  have g:=WS (k:=k) (by omega)
  have h:=ih (k+1) m
  simp only[f,g,h (by omega) (by omega)]
theorem s_l07Rise_l1_eq {N:Nat}(a:List Int)(b:Int)(c:Int)(hx:a.length<=1099511627776)(hN:a.length<N):s_l07Rise_l1 N a b c N 0=s_l07Rise_l1_r N a b c a 0:=s_l07Rise_l1_rng N a b c hx a.length 0 N (by omega) hN
def s_l07Rise (N:Nat)(a:List Int)(b:Int)(c:Int):Option (Bool):=
 joinP (λ(g:Unit)=>
 some true) λd=>
 (s_l07Rise_l1 N a b c N 0).bind (Sum.elim (λf=>some f) (λ(h:Unit)=>d ()))
instance i7 (N:Nat)(c:List Int)(d:Int)(g:Int):JB 148 (s_l07Rise N c d g) [RO 3 (c.map encI),VI d,VI g]:=.st e e Tryz.call148 λB r=>.j e (λ_=>[]) (λ_=>[]) (λ_=>.K1 e [0,1,2,7] [] (λl=>[.f 7 (VI l)]) (λ_=>e) λ_ l _ b=>.q e (.st e (Ev.lnF e) e (.a e e (.jk e [0,1,2,7] [] (λ_=>[]) (λ_=>e) (λ_=>.q e (.B λ_ m=>.st e (Ev.iaF e e m) e (.c0 e i q λ_ _=>.a e e (.dn e (.Xr b e e (.il (.e e (.Ek [] e e e))))) (.a e e (.B λ_ o=>.st e (Ev.iaF e e o) e (.B λ_ p=>.st e (Ev.iaF e e p) e (.dn e (.a e e (.Xr b e e (.il (.e e (.Ek [] e e e)))) (.J e (.k [0,1,2,7] [])))))) (.dn e (.J e (.k [0,1,2,7] []))))))) λ_=>.R e (λh=>⟨_,h,e,e⟩) (.k [0,1,2,7] [])) (.X b e e (.ir (.n e (.J e (.k [] [])))))))) λ_=>.Ek [] e e e
def s_ConfOk (N:Nat)(a:List Int):Option (Bool):=
 (s_l01In N (a.length:Int) 1 4).bind λb=>
 (if b then
 (s_l07Rise N a 1 4).bind λc=>
 some c
 else
 some false)
instance i8 (N:Nat)(b:List Int):JB 146 (s_ConfOk N b) [RO 3 (b.map encI)]:=.st e e Tryz.call146 λB r=>.q e (.st e (Ev.lnF e) e (.c0 e i q λ_ _=>.a e e (.c0 e i q λ_ _=>.Ek [] e e e) (.Ek [] e e e)))
def s_ManifestOk (N:Nat)(a:Manifest):Option (Bool):=
 (s_l01In N (a.Segs.length:Int) 1 8).bind λb=>
 (if b then
 (s_l01In N a.Next 0 1000).bind λc=>
 (if c then
 (s_l07Rise N a.Segs 0 (w64 (a.Next-1))).bind λd=>
 (if d then
 (s_l01In N a.Base 0 100000).bind λf=>
 (if f then
 (s_l01In N a.BaseTerm 0 100000).bind λg=>
 (if g then
 (s_ConfOk N a.Conf).bind λh=>
 some h
 else
 some false)
 else
 some false)
 else
 some false)
 else
 some false)
 else
 some false)
instance i9 (N:Nat)(b:Manifest):JB 210 (s_ManifestOk N b) [.agg (cManifest0 b [])]:=.st e e Tryz.call210 λB r=>.q e (.st e (Ev.lnF e) e (.c0 e i q λ_ _=>.a e e (.c0 e i q λ_ _=>.a e e (.c0 e i q λ_ _=>.a e e (.c0 e i q λ_ _=>.a e e (.c0 e i q λ_ _=>.a e e (.c0 e i q λ_ _=>.Ek [] e e e) (.Ek [] e e e)) (.Ek [] e e e)) (.Ek [] e e e)) (.Ek [] e e e)) (.Ek [] e e e)))
def s_l01Var_l1 (N:Nat):Nat->Int->(List Int)->Option (Int×(List Int))
 |0,_,_=>none
 |m+1,a,b=>
 (if decide (a>127)then
 (intD .rem .i64 a 128).bind λc=>
 (cat? b ([IntKind.wrap .u8 (w64 (c+128))]:List Int)).bind λd=>
 (intD .quo .i64 a 128).bind λf=>
 s_l01Var_l1 N m f d
 else
 some (a,b))
def s_l01Var (N:Nat)(c:Int):Option (BA):=
 joinP (λ(a:Int×(List Int))=>
 (cat? a.2 ([IntKind.wrap .u8 (a.1)]:List Int)).bind λd=>
 some (strOf d)) λf=>
 (s_l01Var_l1 N N c ([]:List Int)).bind (λb=>f (b.1,b.2))
instance i10 (N:Nat)(d:Int):JS 152 (s_l01Var N d) [VI d]:=.st e e Tryz.call152 λB r=>.st e (Ev.bsW (ys:=([]:List Int)) (f:=encU) e .nil e e e e e) e (.j e (λb=>[(0,VI b.1),(3,.sl 0 5 0 b.2.length)]) (λb=>[(0,.vec 5 (b.2.map encU))]) (λ_=>.K2 e [0,3] [5096] (λg c=>[.f 0 (VI g),.f 3 (.sl 0 5 0 c.length),.r 0 (.vec 5 (c.map encU))]) (λ_ _=>e) λ_ g c _ l=>.q e (.a e e (.B λm o=>.st e (.bin e e o) e (.st e (Ev.bsW (ys:=([IntKind.wrap .u8 (w64 (m+128))]:List Int)) (f:=encU) e (.d1 .nil) e e e e e) e (.B λ_ p=>.st e (Ev.apW (f:=encU) (ontoW e e e) (addsW e e e (λ_=>e)) e bt5 e p) e (.B λ_ s=>.st e (.bin e e s) e (.R e (λh=>⟨_,_,h,e,e⟩) (.k [0,3] [13384])))))) (.X l e e (.n e (.J e (.k [0,3] [0])))))) λb=>.st e (Ev.bsW (ys:=([IntKind.wrap .u8 (b.1)]:List Int)) (f:=encU) e (.d1 .nil) e e e e e) e (.B λ_ t=>.st e (Ev.apW (f:=encU) (ontoW e e e) (addsW e e e (λ_=>e)) e bt5 e t) e (.st e (.sbC (addsW (f:=encU) e e e (λ_=>e))) e (.Ek [] e e e))))
def s_SumMore_l2 (N:Nat):Nat->Int->Int->Option (Int)
 |0,_,_=>none
 |m+1,a,b=>
 (if decide (b<8)then
 joinP (λ(f:Int)=>
 s_SumMore_l2 N m f (w64 (b+1))) λc=>
 (intD .rem .u32 a 2).bind λg=>
 (intD .quo .u32 a 2).bind λd=>
 (if(g==1)then
 (intD .xor .u32 d 3558460437).bind λh=>
 c h
 else
 c d)
 else
 some a)
def s_SumMore_l1 (N:Nat)(a:BA):Nat->Int->Int->Option (Int)
 |0,_,_=>none
 |m+1,c,b=>
 (if decide (b<(a.size:Int))then
 joinP (λ(d:Int)=>
 s_SumMore_l1 N a m d (w64 (b+1))) λf=>
 (sat? a b).bind λg=>
 (intD .xor .u32 c (IntKind.wrap .u32 (g))).bind λh=>
 (s_SumMore_l2 N N h 0).bind (λj=>f j)
 else
 some c)
def s_SumMore (N:Nat)(a:Int)(b:BA):Option (Int):=
 joinP (λ(c:Int)=>
 some c) λd=>
 (s_SumMore_l1 N b N a 0).bind (λf=>d f)
instance i11 (N:Nat)(d:Int)(g:BA):JG 252 (s_SumMore N d g) [.c (.i .u32 d),VS g] 0 [] (λr=>.c (.i .u32 r)) (λr=>[]):=.st e e Tryz.call252 λB r=>.j e (λb=>[(0,.c (.i .u32 b))]) (λb=>[]) (λ_=>.K2 e [0,1,5] [] (λl m=>[.f 0 (.c (.i .u32 l)),.f 5 (VI m)]) (λ_ _=>e) λ_ l m _ u=>.q e (.a e e (.jk e [0,1,5] [] (λo=>[.f 0 (.c (.i .u32 o))]) (λ_=>e) (λ_=>.B λ_ w=>.st e (Ev.ixS e e w) e (.B λ_ x=>.st e (.bin e e x) e (.K2 e [0,1,5,6] [] (λp s=>[.f 0 (.c (.i .u32 p)),.f 6 (VI s)]) (λ_ _=>e) λ_ p s _ y=>.q e (.a e e (.jk e [0,1,5,6] [] (λt=>[.f 0 (.c (.i .u32 t))]) (λ_=>e) (λ_=>.B λ_ v=>.st e (.bin e e v) e (.B λ_ z=>.st e (.bin e e z) e (.a e e (.B λ_ a0=>.st e (.bin e e a0) e (.J e (.k [0,1,5,6] []))) (.J e (.k [0,1,5,6] []))))) λt=>.R e (λh=>⟨_,_,h,e,e⟩) (.k [0,1,5,6] [])) (.X y e e (.n e (.J e (.k [0,1,5] [])))))))) λo=>.R e (λh=>⟨_,_,h,e,e⟩) (.k [0,1,5] [])) (.X u e e (.n e (.J e (.k [0] [])))))) λb=>.Ek [] e e e
def s_SumOf (N:Nat)(a:BA):Option (Int):=
 (s_SumMore N 4294967295 a).bind λb=>
 some b
instance i12 (N:Nat)(a:BA):JG 220 (s_SumOf N a) [VS a] 0 [] (λr=>.c (.i .u32 r)) (λr=>[]):=.st e e Tryz.call220 λB r=>.c0 e i q λ_ _=>.Ek [] e e e
def s_l02Four (N:Nat)(a:Int):Option (BA):=
 (intSh .shr .u32 a 24).bind λb=>
 (intSh .shr .u32 a 16).bind λc=>
 (intSh .shr .u32 a 8).bind λd=>
 some (strOf ([IntKind.wrap .u8 (b),IntKind.wrap .u8 (c),IntKind.wrap .u8 (d),IntKind.wrap .u8 (a)]:List Int))
instance i13 (N:Nat)(a:Int):JS 219 (s_l02Four N a) [.c (.i .u32 a)]:=.st e e Tryz.call219 λB r=>.B λb d=>.st e (.sh e e d) e (.B λg h=>.st e (.sh e e h) e (.B λj k=>.st e (.sh e e k) e (.st e (Ev.bsW (ys:=([IntKind.wrap .u8 (b),IntKind.wrap .u8 (g),IntKind.wrap .u8 (j),IntKind.wrap .u8 (a)]:List Int)) (f:=encU) e (.d4 .nil) e e e e e) e (.st e (.sbC (addsW (f:=encU) e e e (λ_=>e))) e (.Ek [] e e e)))))
def s_Sealed (N:Nat)(a:BA):Option (BA×Bool):=
 (if decide ((a.size:Int)>20000)then
 some ((⟨#[]⟩:BA),false)
 else
 (s_SumOf N a).bind λb=>
 (s_l02Four N b).bind λc=>
 (scat? a c).bind λd=>
 some (d,true))
instance i14 (N:Nat)(b:BA):JG 211 (s_Sealed N b) [VS b] 0 [] (λr=>.tup [VS r.1,VB r.2]) (λr=>[]):=.st e e Tryz.call211 λB r=>.q e (.a e e (.Ek [] e e e) (.c0 e i q λ_ _=>.c0 e i q λ_ _=>.B λ_ c=>.st e (Ev.addS e e c) e (.Ek [] e e e)))
def s_ManifestText_l1 (N:Nat)(a:Manifest):Nat->BA->Int->Option (BA)
 |0,_,_=>none
 |m+1,c,b=>
 (if decide (b<(a.Segs.length:Int))then
 (at? a.Segs b).bind λd=>
 (s_l01Var N d).bind λf=>
 (scat? c f).bind λg=>
 s_ManifestText_l1 N a m g (w64 (b+1))
 else
 some c)
def s_ManifestText_l2 (N:Nat)(a:Manifest):Nat->BA->Int->Option (BA)
 |0,_,_=>none
 |m+1,c,b=>
 (if decide (b<(a.Conf.length:Int))then
 (at? a.Conf b).bind λd=>
 (s_l01Var N d).bind λf=>
 (scat? c f).bind λg=>
 s_ManifestText_l2 N a m g (w64 (b+1))
 else
 some c)
def s_ManifestText (N:Nat)(a:Manifest):Option (BA×Bool):=
 (s_ManifestOk N a).bind λc=>
 (if(!c)then
 some ((⟨#[]⟩:BA),false)
 else
 (s_l01Var N (a.Segs.length:Int)).bind λd=>
 joinP (λ(f:BA)=>
 (s_l01Var N a.Next).bind λg=>
 (scat? f g).bind λh=>
 (s_l01Var N a.Base).bind λj=>
 (scat? h j).bind λk=>
 (s_l01Var N a.BaseTerm).bind λl=>
 (scat? k l).bind λm=>
 (s_l01Var N (a.Conf.length:Int)).bind λn=>
 (scat? m n).bind λo=>
 joinP (λ(p:BA)=>
 (s_Sealed N p).bind λb=>
 some (b.1,b.2)) λs=>
 (s_ManifestText_l2 N a N o 0).bind (λt=>s t)) λu=>
 (s_ManifestText_l1 N a N d 0).bind (λw=>u w))
instance i15 (N:Nat)(c:Manifest):JG 130 (s_ManifestText N c) [.agg (cManifest0 c [])] 0 [] (λr=>.tup [VS r.1,VB r.2]) (λr=>[]):=.st e e Tryz.call130 λB r=>.q e (.c0 e i q λ_ _=>.a e e (.Ek [] e e e) (.st e (Ev.lnF e) e (.c0 e i q λ_ _=>.jk e [1,4] [1000] (λd=>[.f 4 (VS d)]) (λ_=>e) (λ_=>.K2 e [1,4,5] [1000] (λg l=>[.f 4 (VS g),.f 5 (VI l)]) (λ_ _=>e) λ_ g l _ p=>.q e (.st e (Ev.lnF e) e (.a e e (.B λ_ s=>.st e (Ev.iaF e e s) e (.c0 e i q λ_ _=>.B λ_ t=>.st e (Ev.addS e e t) e (.R e (λh=>⟨_,_,h,e,e⟩) (.k [1,4,5] [0])))) (.X p e e (.n e (.J e (.k [1,4] [0]))))))) λd=>.c0 e i q λ_ _=>.B λ_ u=>.st e (Ev.addS e e u) e (.c0 e i q λ_ _=>.B λ_ w=>.st e (Ev.addS e e w) e (.c0 e i q λ_ _=>.B λ_ x=>.st e (Ev.addS e e x) e (.st e (Ev.lnF e) e (.c0 e i q λ_ _=>.B λ_ y=>.st e (Ev.addS e e y) e (.dn e (.j e (λb=>[(4,VS b)]) (λb=>[]) (λ_=>.K2 e [1,4,6] [0] (λm o=>[.f 4 (VS m),.f 6 (VI o)]) (λ_ _=>e) λ_ m o _ v=>.q e (.st e (Ev.lnF e) e (.a e e (.B λ_ z=>.st e (Ev.iaF e e z) e (.c0 e i q λ_ _=>.B λ_ a0=>.st e (Ev.addS e e a0) e (.R e (λh=>⟨_,_,h,e,e⟩) (.k [1,4,6] [0])))) (.X v e e (.n e (.J e (.k [4] []))))))) λb=>.c0 e i q λ_ _=>.Ek [] e e e)))))))))
def s_l01Figure (N:Nat)(a:Int):Option (Int):=
 (if decide (a<10)then
 some (IntKind.wrap .u8 (w64 (48+a)))
 else
 some (IntKind.wrap .u8 (w64 ((w64 (97+a))-10))))
instance i16 (N:Nat)(b:Int):JG 129 (s_l01Figure N b) [VI b] 0 [] (λr=>.c (.i .u8 r)) (λr=>[]):=.st e e Tryz.call129 λB r=>.q e (.a e e (.Ek [] e e e) (.Ek [] e e e))
def s_Decimal_l1 (N:Nat):Nat->Int->BA->Option (BA)
 |0,_,_=>none
 |m+1,a,c=>
 (if(a !=0)then
 (intD .rem .i64 a 10).bind λb=>
 joinP (λ(f:Int)=>
 (s_l01Figure N f).bind λg=>
 (scat? (strOf ([g]:List Int)) c).bind λh=>
 (intD .quo .i64 a 10).bind λj=>
 s_Decimal_l1 N m j h) λd=>
 (if decide (b<0)then
 d (w64 ((-b)))
 else
 d b)
 else
 some c)
def s_Decimal (N:Nat)(a:Int):Option (BA):=
 (if(a==0)then
 some (⟨#[48]⟩:BA)
 else
 joinP (λ(b:BA)=>
 (if decide (a<0)then
 (scat? (⟨#[45]⟩:BA) b).bind λc=>
 some c
 else
 some b)) λd=>
 (s_Decimal_l1 N N a (⟨#[]⟩:BA)).bind (λf=>d f))
instance i17 (N:Nat)(b:Int):JS 64 (s_Decimal N b) [VI b]:=.st e e Tryz.call64 λB r=>.q e (.a e e (.Ek [] e e e) (.jk e [3,4] [] (λc=>[.f 4 (VS c)]) (λ_=>e) (λ_=>.K2 e [0,3,4] [] (λd g=>[.f 0 (VI d),.f 4 (VS g)]) (λ_ _=>e) λ_ d g _ l=>.q e (.a e e (.B λ_ m=>.st e (.bin e e m) e (.jk e [0,3,4,5] [] (λj=>[.f 5 (VI j)]) (λ_=>e) (λ_=>.a e e (.J e (.k [0,3,4,5] [])) (.J e (.k [0,3,4,5] []))) λj=>.c0 e i q λo _=>.st e (Ev.bsW (ys:=([o]:List Int)) (f:=encU) e (.d1 .nil) e e e e e) e (.st e (.sbC (addsW (f:=encU) e e e (λ_=>e))) e (.B λ_ p=>.st e (Ev.addS e e p) e (.B λ_ s=>.st e (.bin e e s) e (.R e (λh=>⟨_,_,h,e,e⟩) (.k [0,3,4] []))))))) (.X l e e (.n e (.J e (.k [3,4] [])))))) λc=>.q e (.a e e (.B λ_ t=>.st e (Ev.addS e e t) e (.Ek [] e e e)) (.Ek [] e e e))))
def s_SegName (N:Nat)(a:Int):Option (BA):=
 (s_l01In N a 0 999).bind λb=>
 (if(!b)then
 some (⟨#[]⟩:BA)
 else
 (s_Decimal N a).bind λc=>
 (scat? (⟨#[103]⟩:BA) c).bind λd=>
 some d)
instance i18 (N:Nat)(b:Int):JS 27 (s_SegName N b) [VI b]:=.st e e Tryz.call27 λB r=>.q e (.c0 e i q λ_ _=>.a e e (.Ek [] e e e) (.c0 e i q λ_ _=>.B λ_ c=>.st e (Ev.addS e e c) e (.Ek [] e e e)))
def s_FormatShelf (N:Nat)(b:List Int):Option (Disk×Bool):=
 (s_ManifestText N (Manifest.mk ([0]:List Int) 1 0 0 b)).bind λa=>
 (if(!a.2)then
 some ((Disk.mk ([])),false)
 else
 (s_SegName N 0).bind λc=>
 some ((Disk.mk ([(File.mk c (⟨#[]⟩:BA)),(File.mk (⟨#[109]⟩:BA) a.1)]:List File)),true))
instance i19 (N:Nat)(b:List Int):JG 65 (s_FormatShelf N b) [RO 3 (b.map encI)] 0 [] (λr=>.tup [.agg [.sl 0 93 0 r.1.Files.length],VB r.2]) (λr=>[(0,.vec 93 (r.1.Files.map encFile))]):=.st e e Tryz.call65 λB r=>.st e (Ev.bsW (ys:=([0]:List Int)) (f:=encI) e (.d1 .nil) e e e e e) e (.f (hp:=(.cons (.agg (.cons (.borrow e (by decide) lw) (.d4 .nil))) .nil)) (hcase:=λ_=>(.inr ⟨rfl,ownL_root trivial⟩)) [] [5096] 0 e i q λc _=>.q e (.a e e (.E e e (.n [0,1] [] [0] [] [10000000])) (.c0 e i q λd _=>.st e (Ev.bsW (ys:=([(File.mk d (⟨#[]⟩:BA)),(File.mk (⟨#[109]⟩:BA) c.1)]:List File)) (f:=encFile) e (.d4 .nil) e e e e e) e (.Ek [17448] e e e))))
def s_ReadConf_l1 (N:Nat)(b:BA):Nat->Int->(List Int)->Option ((List Int))
 |0,_,_=>none
 |m+1,a,c=>
 (if decide (a<(b.size:Int))then
 (if decide (a<=4)then
 (sat? b a).bind λd=>
 (cat? c ([w64 (d)]:List Int)).bind λf=>
 s_ReadConf_l1 N b m (w64 (a+1)) f
 else
 some c)
 else
 some c)
def s_ReadConf (N:Nat)(b:BA):Option ((List Int)×Bool):=
 joinP (λ(a:List Int)=>
 (if((a.length:Int)!=(b.size:Int))then
 some (([]:List Int),false)
 else
 (s_ConfOk N a).bind λc=>
 (if(!c)then
 some (([]:List Int),false)
 else
 some (a,true)))) λd=>
 (s_ReadConf_l1 N b N 0 ([]:List Int)).bind (λf=>d f)
instance i20 (N:Nat)(c:BA):JG 170 (s_ReadConf N c) [VS c] 0 [] (λr=>.tup [.sl 0 3 0 r.1.length,VB r.2]) (λr=>[(0,.vec 3 (r.1.map encI))]):=.st e e Tryz.call170 λB r=>.st e (Ev.bsW (ys:=([]:List Int)) (f:=encI) e .nil e e e e e) e (.j e (λb=>[(0,VS c),(4,.sl 0 3 0 b.length)]) (λb=>[(0,.vec 3 (b.map encI))]) (λ_=>.K2 e [0,4,5] [5096] (λg d=>[.f 4 (.sl 0 3 0 d.length),.f 5 (VI g),.r 0 (.vec 3 (d.map encI))]) (λ_ _=>e) λ_ g d _ l=>.q e (.q e (.a e e (.a e e (.B λm o=>.st e (Ev.ixS e e o) e (.st e (Ev.bsW (ys:=([w64 (m)]:List Int)) (f:=encI) e (.d1 .nil) e e e e e) e (.B λ_ p=>.st e (Ev.apW (f:=encI) (ontoW e e e) (addsW e e e (λ_=>e)) e bt3 e p) e (.R e (λh=>⟨_,_,h,e,e⟩) (.k [0,4,5] [21576]))))) (.X l e e (.n e (.J e (.k [0,4] [0]))))) (.X l e e (.n e (.J e (.k [0,4] [0]))))))) λb=>.q e (.q e (.a e e (.st e (Ev.bsW (ys:=([]:List Int)) (f:=encI) e .nil e e e e e) e (.Ek [29672] e e e)) (.f (hp:=(.cons (.borrow e (by decide) lw) .nil)) (hcase:=λ_=>(.inr ⟨rfl,ownL_root trivial⟩)) [] [0] 0 e i q λ_ _=>.a e e (.st e (Ev.bsW (ys:=([]:List Int)) (f:=encI) e .nil e e e e e) e (.Ek [29672] e e e)) (.Ek [0] e e e)))))
def s_EntryOk (N:Nat)(a:Entry):Option (Bool):=
 (s_l01In N a.Term 0 100000).bind λb=>
 (if(!b)then
 some false
 else
 (if(a.Kind==1)then
 some (decide (a.Data=(⟨#[]⟩:BA)))
 else
 (if(a.Kind==2)then
 (s_ReadConf N a.Data).bind λc=>
 some c.2
 else
 (if(a.Kind==3)then
 some (decide ((a.Data.size:Int)<=120))
 else
 some false))))
instance i21 (N:Nat)(b:Entry):JB 168 (s_EntryOk N b) [.agg [VI b.Term,VI b.Kind,VS b.Data]]:=.st e e Tryz.call168 λB r=>.q e (.c0 e i q λ_ _=>.a e e (.Ek [] e e e) (.q e (.a e e (.Ek [] e e e) (.a e e (.c1 e i q λ_ _=>.Ek [] e e e) (.a e e (.Ek [] e e e) (.Ek [] e e e))))))
def s_LogOk_l1 (N:Nat)(a:Log):Nat->Int->Int->Option ((Bool)⊕(Unit))
 |0,_,_=>none
 |m+1,c,b=>
 (if decide (b<(a.Entries.length:Int))then
 (at? a.Entries b).bind λd=>
 (s_EntryOk N d).bind λf=>
 (if(!f)then
 some (Sum.inl false)
 else
 (at? a.Entries b).bind λg=>
 (if decide (g.Term<c)then
 some (Sum.inl false)
 else
 (at? a.Entries b).bind λh=>
 s_LogOk_l1 N a m h.Term (w64 (b+1))))
 else
 some (Sum.inr ()))
def s_LogOk_l1_r (N:Nat)(c:Log):(List Entry)->Int->Int->Option ((Bool)⊕(Unit))
 |[],a,b=>
 some (Sum.inr ())
 |hd::tl,a,b=>
 (some hd).bind λd=>
 (s_EntryOk N d).bind λf=>
 (if(!f)then
 some (Sum.inl false)
 else
 (some hd).bind λg=>
 (if decide (g.Term<a)then
 some (Sum.inl false)
 else
 (some hd).bind λh=>
 s_LogOk_l1_r N c tl h.Term (w64 (b+1))))
theorem s_LogOk_l1_rng (N:Nat)(a:Log)(hx:a.Entries.length<=1099511627776):∀(d k m:Nat)(b:Int),a.Entries.length=k+d->d<m->s_LogOk_l1 N a m b (k:Int)=s_LogOk_l1_r N a (a.Entries.drop k) b (k:Int):=by
 intro d
 induction d with
 |zero=>
  intro k m b hd hm
  obtain⟨m,rfl⟩:∃q,m=q+1:=⟨m-1,by omega⟩
  rw[s_LogOk_l1,IQ (by simp;omega),DN (by omega),s_LogOk_l1_r]
 |succ d ih=>
  intro k m b hd hm
  obtain⟨m,rfl⟩:∃q,m=q+1:=⟨m-1,by omega⟩
  have hk:k<a.Entries.length:=by omega
  rw[s_LogOk_l1,IP (by simp;omega),DG hk,s_LogOk_l1_r]
  have c:=at_lt hk
  have f:=WS (k:=k) (by omega)
  have g:=ih (k+1) m
  simp only[c,f,g _ (by omega) (by omega)]
theorem s_LogOk_l1_eq {N:Nat}(a:Log)(hx:a.Entries.length<=1099511627776)(hN:a.Entries.length<N)(b:Int):s_LogOk_l1 N a N b 0=s_LogOk_l1_r N a a.Entries b 0:=s_LogOk_l1_rng N a hx a.Entries.length 0 N b (by omega) hN
def s_LogOk (N:Nat)(a:Log):Option (Bool):=
 (s_l01In N a.Start 0 100000).bind λb=>
 (if(!b)then
 some false
 else
 (s_l01In N a.StartTerm 0 100000).bind λc=>
 (if(!c)then
 some false
 else
 (if decide ((a.Entries.length:Int)>120)then
 some false
 else
 (if(decide ((w64 (a.Start+(a.Entries.length:Int)))>100000))then
 some false
 else
 joinP (λ(g:Unit)=>
 some true) λd=>
 (s_LogOk_l1 N a N a.StartTerm 0).bind (Sum.elim (λf=>some f) (λ(h:Unit)=>d ()))))))
instance i22 (N:Nat)(b:Log):JB 131 (s_LogOk N b) [.agg [VI b.Start,VI b.StartTerm,RO 91 (b.Entries.map encEntry)]]:=.st e e Tryz.call131 λB r=>.q e (.q e (.c0 e i q λ_ _=>.a e e (.Ek [] e e e) (.c0 e i q λ_ _=>.a e e (.Ek [] e e e) (.st e (Ev.lnF e) e (.a e e (.Ek [] e e e) (.st e (Ev.lnF e) e (.a e e (.Ek [] e e e) (.j e (λ_=>[]) (λ_=>[]) (λ_=>.K2 e [1,3,4] [1000] (λd g=>[.f 3 (VI d),.f 4 (VI g)]) (λ_ _=>e) λ_ d g _ c=>.q e (.st e (Ev.lnF e) e (.a e e (.q e (.q e (.q e (.B λ_ l=>.st e (Ev.iaF e e l) e (.c0 e i q λ_ _=>.a e e (.Xr c e e (.il (.e e (.Ek [] e e e)))) (.B λ_ m=>.st e (Ev.iaF e e m) e (.a e e (.Xr c e e (.il (.e e (.Ek [] e e e)))) (.B λ_ o=>.st e (Ev.iaF e e o) e (.R e (λh=>⟨_,_,h,e,e⟩) (.k [1,3,4] [0])))))))))) (.X c e e (.ir (.n e (.J e (.k [] [])))))))) λ_=>.Ek [] e e e))))))))
def s_Frame (N:Nat)(a:BA):Option (BA×Bool):=
 (s_l01In N (a.size:Int) 1 9000).bind λb=>
 (if(!b)then
 some ((⟨#[]⟩:BA),false)
 else
 (s_l01Var N (a.size:Int)).bind λc=>
 (s_SumOf N a).bind λd=>
 (s_l02Four N d).bind λf=>
 (scat? c f).bind λg=>
 (scat? g a).bind λh=>
 some (h,true))
instance i23 (N:Nat)(b:BA):JG 144 (s_Frame N b) [VS b] 0 [] (λr=>.tup [VS r.1,VB r.2]) (λr=>[]):=.st e e Tryz.call144 λB r=>.q e (.c0 e i q λ_ _=>.a e e (.Ek [] e e e) (.c0 e i q λ_ _=>.c0 e i q λ_ _=>.c0 e i q λ_ _=>.B λ_ c=>.st e (Ev.addS e e c) e (.B λ_ d=>.st e (Ev.addS e e d) e (.Ek [] e e e))))
def s_l12Head (N:Nat)(a:Log):Option (BA):=
 (s_l01Var N a.Start).bind λb=>
 (scat? (⟨#[83]⟩:BA) b).bind λc=>
 (s_l01Var N a.StartTerm).bind λd=>
 (scat? c d).bind λf=>
 (s_Frame N f).bind λg=>
 some g.1
instance i24 (N:Nat)(a:Log):JS 132 (s_l12Head N a) [.agg [VI a.Start,VI a.StartTerm,RO 91 (a.Entries.map encEntry)]]:=.st e e Tryz.call132 λB r=>.c0 e i q λ_ _=>.B λ_ b=>.st e (Ev.addS e e b) e (.c0 e i q λ_ _=>.B λ_ c=>.st e (Ev.addS e e c) e (.c0 e i q λ_ _=>.dn e (.Ek [] e e e)))
def s_EntryText (N:Nat)(b:Int)(a:Entry):Option (BA×Bool):=
 (s_EntryOk N a).bind λc=>
 (if(!c)then
 some ((⟨#[]⟩:BA),false)
 else
 (s_l01In N b 1 100000).bind λd=>
 (if(!d)then
 some ((⟨#[]⟩:BA),false)
 else
 (s_l01Var N b).bind λf=>
 (scat? (⟨#[69]⟩:BA) f).bind λg=>
 (s_l01Var N a.Term).bind λh=>
 (scat? g h).bind λj=>
 (scat? j (strOf ([IntKind.wrap .u8 (a.Kind)]:List Int))).bind λk=>
 (scat? k a.Data).bind λl=>
 some (l,true)))
instance i25 (N:Nat)(c:Int)(b:Entry):JG 212 (s_EntryText N c b) [VI c,.agg [VI b.Term,VI b.Kind,VS b.Data]] 0 [] (λr=>.tup [VS r.1,VB r.2]) (λr=>[]):=.st e e Tryz.call212 λB r=>.q e (.q e (.c0 e i q λ_ _=>.a e e (.Ek [] e e e) (.c0 e i q λ_ _=>.a e e (.Ek [] e e e) (.c0 e i q λ_ _=>.B λ_ d=>.st e (Ev.addS e e d) e (.c0 e i q λ_ _=>.B λ_ g=>.st e (Ev.addS e e g) e (.st e (Ev.bsW (ys:=([IntKind.wrap .u8 (b.Kind)]:List Int)) (f:=encU) e (.d1 .nil) e e e e e) e (.st e (.sbC (addsW (f:=encU) e e e (λ_=>e))) e (.B λ_ h=>.st e (Ev.addS e e h) e (.B λ_ j=>.st e (Ev.addS e e j) e (.dn e (.Ek [] e e e)))))))))))
def s_l12Frames_l1 (N:Nat)(a:Log):Nat->Int->(List Int)->Option ((List Int))
 |0,_,_=>none
 |m+1,b,c=>
 (if decide (b<(a.Entries.length:Int))then
 (at? a.Entries b).bind λd=>
 (s_EntryText N (w64 ((w64 (a.Start+1))+b)) d).bind λf=>
 (s_Frame N f.1).bind λg=>
 (cat? c (intsOf g.1)).bind λh=>
 s_l12Frames_l1 N a m (w64 (b+1)) h
 else
 some c)
def s_l12Frames (N:Nat)(a:Log)(b:Int):Option (BA):=
 joinP (λ(c:List Int)=>
 some (strOf c)) λd=>
 (s_l12Frames_l1 N a N b ([]:List Int)).bind (λf=>d f)
instance i26 (N:Nat)(b:Log)(g:Int):JS 133 (s_l12Frames N b g) [.agg [VI b.Start,VI b.StartTerm,RO 91 (b.Entries.map encEntry)],VI g]:=.st e e Tryz.call133 λB r=>.st e (Ev.bsW (ys:=([]:List Int)) (f:=encU) e .nil e e e e e) e (.j e (λc=>[(5,.sl 0 5 0 c.length)]) (λc=>[(0,.vec 5 (c.map encU))]) (λ_=>.K2 e [2,5,6] [1000,5096] (λl d=>[.f 5 (.sl 1 5 0 d.length),.f 6 (VI l),.r 1 (.vec 5 (d.map encU))]) (λ_ _=>e) λ_ l d _ m=>.q e (.st e (Ev.lnF e) e (.a e e (.B λ_ o=>.st e (Ev.iaF e e o) e (.c0 e i q λ_ _=>.dn e (.c0 e i q λ_ _=>.st e (Ev.bsR e) e (.B λ_ p=>.st e (Ev.apW (f:=encU) (ontoW e e e) (addsF e) e bt5 e p) e (.R e (λh=>⟨_,_,h,e,e⟩) (.k [2,5,6] [0,29720])))))) (.X m e e (.n e (.J e (.k [5] [1]))))))) λc=>.st e (.sbC (addsW (f:=encU) e e e (λ_=>e))) e (.Ek [] e e e))
def s_LogFile (N:Nat)(a:Log):Option (BA×Bool):=
 (s_LogOk N a).bind λc=>
 (if(!c)then
 some ((⟨#[]⟩:BA),false)
 else
 (s_l12Head N a).bind λd=>
 (s_l12Frames N a 0).bind λf=>
 (scat? d f).bind λb=>
 (if decide ((b.size:Int)>20000)then
 some ((⟨#[]⟩:BA),false)
 else
 some (b,true)))
instance i27 (N:Nat)(b:Log):JG 66 (s_LogFile N b) [.agg [VI b.Start,VI b.StartTerm,RO 91 (b.Entries.map encEntry)]] 0 [] (λr=>.tup [VS r.1,VB r.2]) (λr=>[]):=.st e e Tryz.call66 λB r=>.q e (.c0 e i q λ_ _=>.a e e (.Ek [] e e e) (.c0 e i q λ_ _=>.c0 e i q λ_ _=>.B λ_ c=>.st e (Ev.addS e e c) e (.dn e (.q e (.a e e (.Ek [] e e e) (.Ek [] e e e))))))
def s_l03Put_l1 (N:Nat)(a:Disk)(d:File):Nat->Int->(List File)->Option ((List File))
 |0,_,_=>none
 |m+1,b,c=>
 (if decide (b<(a.Files.length:Int))then
 joinP (λ(g:List File)=>
 s_l03Put_l1 N a d m (w64 (b+1)) g) λf=>
 (at? a.Files b).bind λh=>
 (if(Op.bytesLess h.Name.toList d.Name.toList)then
 (at? a.Files b).bind λj=>
 (cat? c ([j]:List File)).bind λk=>
 f k
 else
 f c)
 else
 some c)
def s_l03Put_l1_r (N:Nat)(f:Disk)(b:File):(List File)->Int->(List File)->Option ((List File))
 |[],c,a=>
 some a
 |hd::tl,c,a=>
 joinP (λ(g:List File)=>
 s_l03Put_l1_r N f b tl (w64 (c+1)) g) λd=>
 (some hd).bind λh=>
 (if(Op.bytesLess h.Name.toList b.Name.toList)then
 (some hd).bind λj=>
 (cat? a ([j]:List File)).bind λk=>
 d k
 else
 d a)
theorem s_l03Put_l1_rng (N:Nat)(a:Disk)(c:File)(hx:a.Files.length<=1099511627776):∀(d k m:Nat)(b:List File),a.Files.length=k+d->d<m->s_l03Put_l1 N a c m (k:Int) b=s_l03Put_l1_r N a c (a.Files.drop k) (k:Int) b:=by
 intro d
 induction d with
 |zero=>
  intro k m b hd hm
  obtain⟨m,rfl⟩:∃q,m=q+1:=⟨m-1,by omega⟩
  rw[s_l03Put_l1,IQ (by simp;omega),DN (by omega),s_l03Put_l1_r]
 |succ d ih=>
  intro k m b hd hm
  obtain⟨m,rfl⟩:∃q,m=q+1:=⟨m-1,by omega⟩
  have hk:k<a.Files.length:=by omega
  rw[s_l03Put_l1,IP (by simp;omega),DG hk,s_l03Put_l1_r]
  have f:=at_lt hk
  have g:=WS (k:=k) (by omega)
  have h:=ih (k+1) m
  simp only[f,g,h _ (by omega) (by omega)]
theorem s_l03Put_l1_eq {N:Nat}(a:Disk)(b:File)(hx:a.Files.length<=1099511627776)(hN:a.Files.length<N)(c:List File):s_l03Put_l1 N a b N 0 c=s_l03Put_l1_r N a b a.Files 0 c:=s_l03Put_l1_rng N a b hx a.Files.length 0 N c (by omega) hN
def s_l03Put_l2 (N:Nat)(a:Disk)(c:File):Nat->Int->(List File)->Option ((List File))
 |0,_,_=>none
 |m+1,b,d=>
 (if decide (b<(a.Files.length:Int))then
 joinP (λ(h:List File)=>
 s_l03Put_l2 N a c m (w64 (b+1)) h) λf=>
 (at? a.Files b).bind λg=>
 (if(!(Op.bytesLess g.Name.toList c.Name.toList||decide (g.Name=c.Name)))then
 (at? a.Files b).bind λj=>
 (cat? d ([j]:List File)).bind λk=>
 f k
 else
 f d)
 else
 some d)
def s_l03Put_l2_r (N:Nat)(g:Disk)(b:File):(List File)->Int->(List File)->Option ((List File))
 |[],c,a=>
 some a
 |hd::tl,c,a=>
 joinP (λ(h:List File)=>
 s_l03Put_l2_r N g b tl (w64 (c+1)) h) λd=>
 (some hd).bind λf=>
 (if(!(Op.bytesLess f.Name.toList b.Name.toList||decide (f.Name=b.Name)))then
 (some hd).bind λj=>
 (cat? a ([j]:List File)).bind λk=>
 d k
 else
 d a)
theorem s_l03Put_l2_rng (N:Nat)(a:Disk)(c:File)(hx:a.Files.length<=1099511627776):∀(d k m:Nat)(b:List File),a.Files.length=k+d->d<m->s_l03Put_l2 N a c m (k:Int) b=s_l03Put_l2_r N a c (a.Files.drop k) (k:Int) b:=by
 intro d
 induction d with
 |zero=>
  intro k m b hd hm
  obtain⟨m,rfl⟩:∃q,m=q+1:=⟨m-1,by omega⟩
  rw[s_l03Put_l2,IQ (by simp;omega),DN (by omega),s_l03Put_l2_r]
 |succ d ih=>
  intro k m b hd hm
  obtain⟨m,rfl⟩:∃q,m=q+1:=⟨m-1,by omega⟩
  have hk:k<a.Files.length:=by omega
  rw[s_l03Put_l2,IP (by simp;omega),DG hk,s_l03Put_l2_r]
  have f:=at_lt hk
  have g:=WS (k:=k) (by omega)
  have h:=ih (k+1) m
  simp only[f,g,h _ (by omega) (by omega)]
theorem s_l03Put_l2_eq {N:Nat}(a:Disk)(b:File)(hx:a.Files.length<=1099511627776)(hN:a.Files.length<N)(c:List File):s_l03Put_l2 N a b N 0 c=s_l03Put_l2_r N a b a.Files 0 c:=s_l03Put_l2_rng N a b hx a.Files.length 0 N c (by omega) hN
def s_l03Put (N:Nat)(b:Disk)(a:File):Option (Disk):=
 joinP (λ(c:List File)=>
 (cat? c ([a]:List File)).bind λd=>
 joinP (λ(f:List File)=>
 some (Disk.mk f)) λg=>
 (s_l03Put_l2 N b a N 0 d).bind (λh=>g h)) λj=>
 (s_l03Put_l1 N b a N 0 ([]:(List File))).bind (λk=>j k)
instance i28 (N:Nat)(g:Disk)(b:File):JG 67 (s_l03Put N g b) [.agg [RO 93 (g.Files.map encFile)],.agg [VS b.Name,VS b.Text]] 0 [] (λr=>.agg [.sl 0 93 0 r.Files.length]) (λr=>[(0,.vec 93 (r.Files.map encFile))]):=.st e e Tryz.call67 λB r=>.jk e [2,3,4,5] [1000,1016,1032,5112,900004,900005] (λj=>[.c 2 0 (.sl 4 93 0 (([]:(List File)).length)),.c 3 0 (.sl 5 93 0 j.length),.r 4 (.vec 93 (([]:(List File)).map encFile)),.r 5 (.vec 93 (j.map encFile))]) (λ_=>e) (λ_=>.L2 e (λl d=>[(2,.ptr 0 0),(3,.ptr 1 0),(4,.ptr 2 0),(5,.ptr 3 0),(6,VI l)]) (λl d=>[(0,.box [RO 93 (g.Files.map encFile)]),(1,.box [VS b.Name,VS b.Text]),(2,.box [.sl 4 93 0 (([]:(List File)).length)]),(3,.box [.sl 5 93 0 d.length]),(4,.vec 93 (([]:(List File)).map encFile)),(5,.vec 93 (d.map encFile))]) (.n [2,3,4,5,6] [1000,1016,1032,5112] [] [1032,5112] [1000,1016,1032,5112,20000000,20000064]) λ_ l d _ u=>.q e (.st e (Ev.lnF e) e (.a e e (.jk e [2,3,4,5,6] [0,1,2,3,4,5] (λm=>[.c 3 0 (.sl 5 93 0 m.length),.r 5 (.vec 93 (m.map encFile))]) (λ_=>e) (λ_=>.B λ_ w=>.st e (Ev.iaF e e w) e (.dn e (.a e e (.B λx y=>.st e (Ev.iaF e e y) e (.st e (Ev.bsW (ys:=([x]:List File)) (f:=encFile) e (.d2 .nil) e e e e e) e (.B λ_ v=>.st e (Ev.apW (f:=encFile) (ontoW e e e) (addsW e e e (λ_=>e)) e bt93 e v) e (.dn e (.J e (.k [2,3,4,5,6] [0,1,2,3,4,25704])))))) (.J e (.k [2,3,4,5,6] [0,1,2,3,4,5]))))) λm=>.R e (λh=>⟨_,_,h,e,e⟩) (.k [2,3,4,5,6] [0,1,2,3,4,5])) (.X u e e (.n e (.J e (.k [2,3,4,5] [0,1,2,3,4,5]))))))) λj=>.st e (Ev.bsW (ys:=([b]:List File)) (f:=encFile) e (.d2 .nil) e e e e e) e (.B λ_ z=>.st e (Ev.apW (f:=encFile) (ontoW e e e) (addsW e e e (λ_=>e)) e bt93 e z) e (.jk e [4,5] [2,3,4,29736] (λo=>[.c 1 0 (.sl 3 93 0 o.length),.r 3 (.vec 93 (o.map encFile))]) (λ_=>e) (λ_=>.K2 e [2,3,4,5,7] [0,1,2,3,4,29736] (λt p=>[.f 7 (VI t),.c 3 0 (.sl 5 93 0 p.length),.r 5 (.vec 93 (p.map encFile))]) (λ_ _=>e) λ_ t p _ a0=>.q e (.st e (Ev.lnF e) e (.a e e (.jk e [2,3,4,5,7] [0,1,2,3,4,5] (λs=>[.c 3 0 (.sl 5 93 0 s.length),.r 5 (.vec 93 (s.map encFile))]) (λ_=>e) (λ_=>.B λ_ a1=>.st e (Ev.iaF e e a1) e (.dn e (.a e e (.B λa2 a3=>.st e (Ev.iaF e e a3) e (.st e (Ev.bsW (ys:=([a2]:List File)) (f:=encFile) e (.d2 .nil) e e e e e) e (.B λ_ a4=>.st e (Ev.apW (f:=encFile) (ontoW e e e) (addsW e e e (λ_=>e)) e bt93 e a4) e (.dn e (.J e (.k [2,3,4,5,7] [0,1,2,3,4,50280])))))) (.J e (.k [2,3,4,5,7] [0,1,2,3,4,5]))))) λs=>.R e (λh=>⟨_,_,h,e,e⟩) (.k [2,3,4,5,7] [0,1,2,3,4,5])) (.X a0 e e (.n e (.J e (.k [4,5] [2,3,4,5]))))))) λo=>.Ek [3] e e e))
def s_FormatDisk (N:Nat)(b:List Int):Option (Disk×Bool):=
 (s_FormatShelf N b).bind λa=>
 (if(!a.2)then
 some ((Disk.mk ([])),false)
 else
 (s_LogFile N (Log.mk 0 0 ([]))).bind λc=>
 (s_l03Put N a.1 (File.mk (⟨#[108,111,103]⟩:BA) c.1)).bind λd=>
 some (d,true))
instance i29 (N:Nat)(b:List Int):JG 29 (s_FormatDisk N b) [RO 3 (b.map encI)] 0 [] (λr=>.tup [.agg [.sl 0 93 0 r.1.Files.length],VB r.2]) (λr=>[(0,.vec 93 (r.1.Files.map encFile))]):=.st e e Tryz.call29 λB r=>.c1 e i q λ_ _=>.q e (.a e e (.E e e (.n [0,1] [] [0] [] [10000000])) (.c0 e i q λ_ _=>.f (hp:=(.cons (.agg (.cons (.borrow e (by decide) lw) .nil)) (.cons (.agg (.d2 .nil)) .nil))) (hcase:=λ_=>(.inr ⟨rfl,ownL_root ⟨own_rows (λ_=>e) _,trivial⟩⟩)) [] [5112] 1 e i q λ_ _=>.Ek [21528] e e e))
def s_DiskOk_l1 (N:Nat)(b:Disk):Nat->Int->Option ((Bool)⊕(Unit))
 |0,_=>none
 |m+1,a=>
 (if decide (a<(b.Files.length:Int))then
 joinP (λ(k:Unit)=>
 s_DiskOk_l1 N b m (w64 (a+1))) λc=>
 (at? b.Files a).bind λd=>
 (s_l01In N (d.Name.size:Int) 1 12).bind λf=>
 (if(!f)then
 some (Sum.inl false)
 else
 (at? b.Files a).bind λg=>
 (if decide ((g.Text.size:Int)>20000)then
 some (Sum.inl false)
 else
 (if decide (a>0)then
 (at? b.Files (w64 (a-1))).bind λh=>
 (at? b.Files a).bind λj=>
 (if(!Op.bytesLess h.Name.toList j.Name.toList)then
 some (Sum.inl false)
 else
 c ())
 else
 c ())))
 else
 some (Sum.inr ()))
def s_DiskOk_l1_r (N:Nat)(b:Disk):(List File)->Int->Option ((Bool)⊕(Unit))
 |[],a=>
 some (Sum.inr ())
 |hd::tl,a=>
 joinP (λ(k:Unit)=>
 s_DiskOk_l1_r N b tl (w64 (a+1))) λc=>
 (some hd).bind λd=>
 (s_l01In N (d.Name.size:Int) 1 12).bind λf=>
 (if(!f)then
 some (Sum.inl false)
 else
 (some hd).bind λg=>
 (if decide ((g.Text.size:Int)>20000)then
 some (Sum.inl false)
 else
 (if decide (a>0)then
 (at? b.Files (w64 (a-1))).bind λh=>
 (some hd).bind λj=>
 (if(!Op.bytesLess h.Name.toList j.Name.toList)then
 some (Sum.inl false)
 else
 c ())
 else
 c ())))
def s_DiskOk (N:Nat)(a:Disk):Option (Bool):=
 (if decide ((a.Files.length:Int)>30)then
 some false
 else
 joinP (λ(d:Unit)=>
 some true) λb=>
 (s_DiskOk_l1 N a N 0).bind (Sum.elim (λc=>some c) (λ(f:Unit)=>b ())))
instance i30 (N:Nat)(c:Disk):JB 24 (s_DiskOk N c) [.agg [RO 93 (c.Files.map encFile)]]:=.st e e Tryz.call24 λB r=>.q e (.st e (Ev.lnF e) e (.a e e (.Ek [] e e e) (.j e (λ_=>[]) (λ_=>[]) (λ_=>.K1 e [1,3] [1000] (λd=>[.f 3 (VI d)]) (λ_=>e) λ_ d _ b=>.q e (.st e (Ev.lnF e) e (.a e e (.jk e [1,3] [0] (λ_=>[]) (λ_=>e) (λ_=>.q e (.B λ_ g=>.st e (Ev.iaF e e g) e (.c0 e i q λ_ _=>.a e e (.dn e (.Xr b e e (.il (.e e (.Ek [] e e e))))) (.B λ_ l=>.st e (Ev.iaF e e l) e (.a e e (.dn e (.Xr b e e (.il (.e e (.Ek [] e e e))))) (.a e e (.B λ_ m=>.st e (Ev.iaF e e m) e (.B λ_ o=>.st e (Ev.iaF e e o) e (.dn e (.a e e (.Xr b e e (.il (.e e (.Ek [] e e e)))) (.J e (.k [1,3] [0])))))) (.dn e (.J e (.k [1,3] [0]))))))))) λ_=>.R e (λh=>⟨_,h,e,e⟩) (.k [1,3] [0])) (.X b e e (.ir (.n e (.J e (.k [] [])))))))) λ_=>.Ek [] e e e)))
def s_l03At_l1 (N:Nat)(b:Disk)(c:BA):Nat->Int->Option ((Int)⊕(Unit))
 |0,_=>none
 |m+1,a=>
 (if decide (a<(b.Files.length:Int))then
 (at? b.Files a).bind λd=>
 (if decide (d.Name=c)then
 some (Sum.inl a)
 else
 s_l03At_l1 N b c m (w64 (a+1)))
 else
 some (Sum.inr ()))
def s_l03At_l1_r (N:Nat)(c:Disk)(b:BA):(List File)->Int->Option ((Int)⊕(Unit))
 |[],a=>
 some (Sum.inr ())
 |hd::tl,a=>
 (some hd).bind λd=>
 (if decide (d.Name=b)then
 some (Sum.inl a)
 else
 s_l03At_l1_r N c b tl (w64 (a+1)))
theorem s_l03At_l1_rng (N:Nat)(a:Disk)(b:BA)(hx:a.Files.length<=1099511627776):∀(d k m:Nat),a.Files.length=k+d->d<m->s_l03At_l1 N a b m (k:Int)=s_l03At_l1_r N a b (a.Files.drop k) (k:Int):=by
 intro d
 induction d with
 |zero=>
  intro k m hd hm
  obtain⟨m,rfl⟩:∃q,m=q+1:=⟨m-1,by omega⟩
  rw[s_l03At_l1,IQ (by simp;omega),DN (by omega),s_l03At_l1_r]
 |succ d ih=>
  intro k m hd hm
  obtain⟨m,rfl⟩:∃q,m=q+1:=⟨m-1,by omega⟩
  have hk:k<a.Files.length:=by omega
  rw[s_l03At_l1,IP (by simp;omega),DG hk,s_l03At_l1_r]
  have c:=at_lt hk
  have f:=WS (k:=k) (by omega)
  have g:=ih (k+1) m
  simp only[c,f,g (by omega) (by omega)]
theorem s_l03At_l1_eq {N:Nat}(a:Disk)(b:BA)(hx:a.Files.length<=1099511627776)(hN:a.Files.length<N):s_l03At_l1 N a b N 0=s_l03At_l1_r N a b a.Files 0:=s_l03At_l1_rng N a b hx a.Files.length 0 N (by omega) hN
def s_l03At (N:Nat)(a:Disk)(b:BA):Option (Int):=
 joinP (λ(f:Unit)=>
 some (-1:Int)) λc=>
 (s_l03At_l1 N a b N 0).bind (Sum.elim (λd=>some d) (λ(g:Unit)=>c ()))
instance i31 (N:Nat)(b:Disk)(c:BA):JI 63 (s_l03At N b c) [.agg [RO 93 (b.Files.map encFile)],VS c]:=.st e e Tryz.call63 λB r=>.j e (λ_=>[]) (λ_=>[]) (λ_=>.K1 e [1,2,5] [1000] (λd=>[.f 5 (VI d)]) (λ_=>e) λ_ d _ g=>.q e (.st e (Ev.lnF e) e (.a e e (.q e (.B λ_ l=>.st e (Ev.iaF e e l) e (.a e e (.Xr g e e (.il (.e e (.Ek [] e e e)))) (.R e (λh=>⟨_,h,e,e⟩) (.k [1,2,5] [0]))))) (.X g e e (.ir (.n e (.J e (.k [] [])))))))) λ_=>.Ek [] e e e
def s_FileAt (N:Nat)(a:Disk)(c:BA):Option (BA×Bool):=
 (s_l03At N a c).bind λb=>
 (s_DiskOk N a).bind λd=>
 (if(!d)then
 some ((⟨#[]⟩:BA),false)
 else
 (if decide (b<0)then
 some ((⟨#[]⟩:BA),false)
 else
 (at? a.Files b).bind λf=>
 some (f.Text,true)))
instance i32 (N:Nat)(b:Disk)(c:BA):JG 69 (s_FileAt N b c) [.agg [RO 93 (b.Files.map encFile)],VS c] 0 [] (λr=>.tup [VS r.1,VB r.2]) (λr=>[]):=.st e e Tryz.call69 λB r=>.c0 e i q λ_ _=>.q e (.q e (.c0 e i q λ_ _=>.a e e (.Ek [] e e e) (.a e e (.Ek [] e e e) (.B λ_ d=>.st e (Ev.iaF e e d) e (.Ek [] e e e)))))
def s_Unsealed (N:Nat)(a:BA):Option (BA×Bool):=
 (if(decide ((w64 ((a.size:Int)-4))<0))then
 some ((⟨#[]⟩:BA),false)
 else
 (if(decide ((w64 ((a.size:Int)-4))>20000))then
 some ((⟨#[]⟩:BA),false)
 else
 (sdrop? a (w64 ((a.size:Int)-4))).bind λb=>
 (stake? a (w64 ((a.size:Int)-4))).bind λc=>
 (s_SumOf N c).bind λd=>
 (s_l02Four N d).bind λf=>
 (if(!decide (b=f))then
 some ((⟨#[]⟩:BA),false)
 else
 (stake? a (w64 ((a.size:Int)-4))).bind λg=>
 some (g,true))))
instance i33 (N:Nat)(b:BA):JG 251 (s_Unsealed N b) [VS b] 0 [] (λr=>.tup [VS r.1,VB r.2]) (λr=>[]):=.st e e Tryz.call251 λB r=>.q e (.q e (.a e e (.dn e (.Ek [] e e e)) (.a e e (.dn e (.Ek [] e e e)) (.B λ_ c=>.st e (Ev.ssL e e c) e (.B λ_ d=>.st e (Ev.ssH e e d) e (.c0 e i q λ_ _=>.c0 e i q λ_ _=>.dn e (.a e e (.Ek [] e e e) (.B λ_ f=>.st e (Ev.ssH e e f) e (.Ek [] e e e)))))))))
def s_ReadVar_l1 (N:Nat)(b:BA)(g:Int):Nat->Int->Int->Int->Option ((Int×Int×Bool)⊕(Unit))
 |0,_,_,_=>none
 |m+1,d,c,a=>
 (if decide (a<(b.size:Int))then
 (if decide (a<(w64 (g+5)))then
 (sat? b a).bind λh=>
 (intD .rem .i64 (w64 (h)) 128).bind λf=>
 (sat? b a).bind λj=>
 (if decide (j<128)then
 (if(decide ((w64 (d+(w64 (f*c))))>1000000000))then
 some (Sum.inl (0,0,false))
 else
 (s_l01Var N (w64 (d+(w64 (f*c))))).bind λk=>
 (scut? b g (w64 (a+1))).bind λl=>
 (if(!decide (k=l))then
 some (Sum.inl (0,0,false))
 else
 some (Sum.inl (w64 (d+(w64 (f*c))),w64 (a+1),true))))
 else
 s_ReadVar_l1 N b g m (w64 (d+(w64 (f*c)))) (w64 (c*128)) (w64 (a+1)))
 else
 some (Sum.inr ()))
 else
 some (Sum.inr ()))
def s_ReadVar (N:Nat)(b:BA)(a:Int):Option (Int×Int×Bool):=
 (s_l01In N a 0 (b.size:Int)).bind λc=>
 (if(!c)then
 some (0,0,false)
 else
 joinP (λ(g:Unit)=>
 some (0,0,false)) λd=>
 (s_ReadVar_l1 N b a N 0 1 a).bind (Sum.elim (λf=>some f) (λ(h:Unit)=>d ())))
instance i34 (N:Nat)(c:BA)(d:Int):JG 217 (s_ReadVar N c d) [VS c,VI d] 0 [] (λr=>.tup [VI r.1,VI r.2.1,VB r.2.2]) (λr=>[]):=.st e e Tryz.call217 λB r=>.q e (.c0 e i q λ_ _=>.a e e (.Ek [] e e e) (.j e (λ_=>[]) (λ_=>[]) (λ_=>.K3 e [0,1,7,8,9] [] (λg l m=>[.f 7 (VI g),.f 8 (VI l),.f 9 (VI m)]) (λ_ _ _=>e) λ_ g l m _ b=>.q e (.q e (.a e e (.a e e (.q e (.B λ_ o=>.st e (Ev.ixS e e o) e (.B λ_ p=>.st e (.bin e e p) e (.B λ_ s=>.st e (Ev.ixS e e s) e (.a e e (.q e (.q e (.a e e (.dn e (.Xr b e e (.il (.e e (.Ek [] e e e))))) (.c0 e i q λ_ _=>.B λ_ t=>.st e (Ev.ssB e e e t) e (.dn e (.a e e (.Xr b e e (.il (.e e (.Ek [] e e e)))) (.Xr b e e (.il (.e e (.Ek [] e e e)))))))))) (.R e (λh=>⟨_,_,_,h,e,e⟩) (.k [0,1,7,8,9] []))))))) (.X b e e (.ir (.n e (.J e (.k [] [])))))) (.X b e e (.ir (.n e (.J e (.k [] [])))))))) λ_=>.Ek [] e e e))
def s_l05Var (N:Nat)(a:Tl05Cur):Option (Int×Tl05Cur):=
 (s_ReadVar N a.text a.at').bind λb=>
 (if a.bad then
 some (0,(Tl05Cur.mk a.text a.at' true))
 else
 (if(!b.2.2)then
 some (0,(Tl05Cur.mk a.text a.at' true))
 else
 some (b.1,(Tl05Cur.mk a.text b.2.1 a.bad))))
instance i35 (N:Nat)(b:Tl05Cur):JG 142 (s_l05Var N b) [.ptr 0 0] 1 [(0,.box [VS b.text,VI b.at',VB b.bad])] (λr=>VI r.1) (λr=>[(0,.box [VS r.2.text,VI r.2.at',VB r.2.bad])]):=.st e e Tryz.call142 λB r=>.c0 e i q λ_ _=>.dn e (.q e (.q e (.a e e (.Ek [0] e e e) (.a e e (.Ek [0] e e e) (.Ek [0] e e e)))))
def s_ReadManifest_l1 (N:Nat)(h:Int×Tl05Cur):Nat->Int->BA->Int->Bool->(List Int)->Option (BA×Int×Bool×(List Int))
 |0,_,_,_,_,_=>none
 |m+1,g,b,c,a,d=>
 (if decide (g<h.1)then
 (if(!a)then
 (if decide (g<=8)then
 (s_l05Var N (Tl05Cur.mk b c a)).bind λf=>
 (cat? d ([f.1]:List Int)).bind λj=>
 s_ReadManifest_l1 N h m (w64 (g+1)) f.2.text f.2.at' f.2.bad j
 else
 some (b,c,a,d))
 else
 some (b,c,a,d))
 else
 some (b,c,a,d))
def s_ReadManifest_l2 (N:Nat)(h:Int×Tl05Cur):Nat->Int->BA->Int->Bool->(List Int)->Option (BA×Int×Bool×(List Int))
 |0,_,_,_,_,_=>none
 |m+1,g,b,c,a,d=>
 (if decide (g<h.1)then
 (if(!a)then
 (if decide (g<=4)then
 (s_l05Var N (Tl05Cur.mk b c a)).bind λf=>
 (cat? d ([f.1]:List Int)).bind λj=>
 s_ReadManifest_l2 N h m (w64 (g+1)) f.2.text f.2.at' f.2.bad j
 else
 some (b,c,a,d))
 else
 some (b,c,a,d))
 else
 some (b,c,a,d))
def s_ReadManifest (N:Nat)(l:BA):Option (Manifest×Bool):=
 (s_Unsealed N l).bind λm=>
 (s_l05Var N (Tl05Cur.mk m.1 0 (!m.2))).bind λb=>
 joinP (λ(a:BA×Int×Bool×(List Int))=>
 (s_l05Var N (Tl05Cur.mk a.1 a.2.1 a.2.2.1)).bind λg=>
 (s_l05Var N g.2).bind λh=>
 (s_l05Var N h.2).bind λj=>
 (s_l05Var N j.2).bind λc=>
 joinP (λ(k:BA×Int×Bool×(List Int))=>
 (s_ManifestText N (Manifest.mk a.2.2.2 g.1 h.1 j.1 k.2.2.2)).bind λn=>
 (if k.2.2.1 then
 some ((Manifest.mk ([]) 0 0 0 ([])),false)
 else
 (if(!n.2)then
 some ((Manifest.mk ([]) 0 0 0 ([])),false)
 else
 (if(!decide (n.1=l))then
 some ((Manifest.mk ([]) 0 0 0 ([])),false)
 else
 some ((Manifest.mk a.2.2.2 g.1 h.1 j.1 k.2.2.2),true))))) λo=>
 (s_ReadManifest_l2 N c N 0 c.2.text c.2.at' c.2.bad ([]:(List Int))).bind (λd=>o (d.1,d.2.1,d.2.2.1,d.2.2.2))) λp=>
 (s_ReadManifest_l1 N b N 0 b.2.text b.2.at' b.2.bad ([]:(List Int))).bind (λf=>p (f.1,f.2.1,f.2.2.1,f.2.2.2))
instance i36 (N:Nat)(g:BA):JG 213 (s_ReadManifest N g) [VS g] 0 [] (λr=>.tup [.agg (cManifest1 r.1 0 1 []),VB r.2]) (λr=>(rManifest0 r.1 0 1 [])):=.st e e Tryz.call213 λB r=>.c0 e i q λ_ _=>.f [9256] [] 0 e i q λa0 _=>.j e (λb=>[(0,VS g),(2,.ptr 0 0),(6,.ptr 1 0),(7,.ptr 2 0)]) (λb=>[(0,.box [.sl 3 3 0 (([]:(List Int)).length),VI 0,VI 0,VI 0,.sl 4 3 0 (([]:(List Int)).length)]),(1,.box [VS b.1,VI b.2.1,VB b.2.2.1]),(2,.box [.sl 5 3 0 b.2.2.2.length,VI 0,VI 0,VI 0,.sl 6 3 0 (([]:(List Int)).length)]),(3,.vec 3 (([]:(List Int)).map encI)),(4,.vec 3 (([]:(List Int)).map encI)),(5,.vec 3 (b.2.2.2.map encI)),(6,.vec 3 (([]:(List Int)).map encI))]) (λ_=>.L5 e (λm o p s l=>[(0,VS g),(2,.ptr 0 0),(6,.ptr 1 0),(7,.ptr 2 0),(8,VI a0.1),(9,VI m)]) (λm o p s l=>[(0,.box [.sl 3 3 0 (([]:(List Int)).length),VI 0,VI 0,VI 0,.sl 4 3 0 (([]:(List Int)).length)]),(1,.box [VS o,VI p,VB s]),(2,.box [.sl 5 3 0 l.length,VI 0,VI 0,VI 0,.sl 6 3 0 (([]:(List Int)).length)]),(3,.vec 3 (([]:(List Int)).map encI)),(4,.vec 3 (([]:(List Int)).map encI)),(5,.vec 3 (l.map encI)),(6,.vec 3 (([]:(List Int)).map encI))]) (.n [0,2,6,7,8,9] [1000,9256,13304] [] [1000,13304] [1000,9256,13304,20000000,20000001,20000064,20000065]) λ_ m o p s l _ t=>.q e (.q e (.a e e (.a e e (.a e e (.f [1] [] 0 e i q λa1 _=>.st e (Ev.bsW (ys:=([a1.1]:List Int)) (f:=encI) e (.d1 .nil) e e e e e) e (.B λ_ a2=>.st e (Ev.apW (f:=encI) (ontoW e e e) (addsW e e e (λ_=>e)) e bt3 e a2) e (.dn e (.R e (λh=>⟨_,_,_,_,_,h,e,e⟩) (.k [0,2,6,7,8,9] [0,1,2,3,4,33848,6]))))) (.X t e e (.n e (.J e (.k [0,2,6,7] [0,1,2,3,4,5,6]))))) (.X t e e (.n e (.J e (.k [0,2,6,7] [0,1,2,3,4,5,6]))))) (.X t e e (.n e (.J e (.k [0,2,6,7] [0,1,2,3,4,5,6]))))))) λb=>.f [1] [] 0 e i q λ_ _=>.f [1] [] 0 e i q λ_ _=>.f [1] [] 0 e i q λ_ _=>.f [1] [] 0 e i q λ_ _=>.jk e [0,2,6,7] [0,1,2,3,4,5,6] (λd=>[.r 1 (.box [VS d.1,VI d.2.1,VB d.2.2.1]),.c 2 4 (.sl 6 3 0 d.2.2.2.length),.r 6 (.vec 3 (d.2.2.2.map encI))]) (λ_=>e) (λ_=>.K5 e [0,2,6,7,8,10] [0,1,2,3,4,5,6] (λx y v z u=>[.f 10 (VI x),.r 1 (.box [VS y,VI v,VB z]),.c 2 4 (.sl 6 3 0 u.length),.r 6 (.vec 3 (u.map encI))]) (λ_ _ _ _ _=>e) λ_ x y v z u _ w=>.q e (.q e (.a e e (.a e e (.a e e (.f [1] [] 0 e i q λa3 _=>.st e (Ev.bsW (ys:=([a3.1]:List Int)) (f:=encI) e (.d1 .nil) e e e e e) e (.B λ_ a4=>.st e (Ev.apW (f:=encI) (ontoW e e e) (addsW e e e (λ_=>e)) e bt3 e a4) e (.dn e (.R e (λh=>⟨_,_,_,_,_,h,e,e⟩) (.k [0,2,6,7,8,10] [0,1,2,3,4,5,66616]))))) (.X w e e (.n e (.J e (.k [0,2,6,7] [0,1,2,3,4,5,6]))))) (.X w e e (.n e (.J e (.k [0,2,6,7] [0,1,2,3,4,5,6]))))) (.X w e e (.n e (.J e (.k [0,2,6,7] [0,1,2,3,4,5,6]))))))) λd=>.f (hp:=(.cons (.agg (.cons (.borrow e (by decide) lw) (.d2 (.d1 (.cons (.borrow e (by decide) lw) .nil))))) .nil)) (hcase:=λ_=>(.inr ⟨rfl,ownL_root trivial⟩)) [] [5,6] 0 e i q λ_ _=>.q e (.q e (.a e e (.E e e (.n [0,1] [] [0] [] [10000000,10000001])) (.a e e (.E e e (.n [0,1] [] [0] [] [10000000,10000001])) (.a e e (.E e e (.n [0,1] [] [0] [] [10000000,10000001])) (.Ek [5,6] e e e)))))
def s_l03Text (N:Nat)(a:Disk)(c:BA):Option (BA):=
 (s_l03At N a c).bind λb=>
 (if decide (b<0)then
 some (⟨#[]⟩:BA)
 else
 (at? a.Files b).bind λd=>
 some d.Text)
instance i37 (N:Nat)(b:Disk)(c:BA):JS 26 (s_l03Text N b c) [.agg [RO 93 (b.Files.map encFile)],VS c]:=.st e e Tryz.call26 λB r=>.c0 e i q λ_ _=>.q e (.a e e (.Ek [] e e e) (.B λ_ d=>.st e (Ev.iaF e e d) e (.Ek [] e e e)))
def s_Unframe_l1 (N:Nat)(c:BA):Nat->Int->(List BA)->Option (((List BA)×Int)⊕(Int×(List BA)))
 |0,_,_=>none
 |m+1,b,d=>
 (if decide (b<(c.size:Int))then
 (s_ReadVar N c b).bind λa=>
 (if(!a.2.2)then
 some (Sum.inl (d,b))
 else
 (if(decide (a.1>(w64 ((w64 ((c.size:Int)-a.2.1))-4))))then
 some (Sum.inl (d,b))
 else
 (scut? c (w64 (a.2.1+4)) (w64 ((w64 (a.2.1+4))+a.1))).bind λf=>
 (s_Frame N f).bind λg=>
 (if(!g.2)then
 some (Sum.inl (d,b))
 else
 (scut? c b (w64 ((w64 (a.2.1+4))+a.1))).bind λh=>
 (if(!decide (g.1=h))then
 some (Sum.inl (d,b))
 else
 (cat? d ([f]:List BA)).bind λj=>
 s_Unframe_l1 N c m (w64 ((w64 (a.2.1+4))+a.1)) j))))
 else
 some (Sum.inr (b,d)))
def s_Unframe (N:Nat)(a:BA):Option ((List BA)×Int):=
 (if decide ((a.size:Int)>20000)then
 some (([]:List BA),0)
 else
 joinP (λ(b:Int×(List BA))=>
 some (b.2,b.1)) λd=>
 (s_Unframe_l1 N a N 0 ([]:List BA)).bind (Sum.elim (λf=>some f) (λ(c:Int×(List BA))=>d (c.1,c.2))))
instance i38 (N:Nat)(g:BA):JG 137 (s_Unframe N g) [VS g] 0 [] (λr=>.tup [.sl 0 9 0 r.1.length,VI r.2]) (λr=>[(0,.vec 9 (r.1.map encS))]):=.st e e Tryz.call137 λB r=>.st e (Ev.bsW (ys:=([]:List BA)) (f:=encS) e .nil e e e e e) e (.q e (.a e e (.Ek [5096] e e e) (.j e (λb=>[(4,.sl 0 9 0 b.2.length),(5,VI b.1)]) (λb=>[(0,.vec 9 (b.2.map encS))]) (λ_=>.K2 e [0,4,5] [5096] (λl d=>[.f 4 (.sl 0 9 0 d.length),.f 5 (VI l),.r 0 (.vec 9 (d.map encS))]) (λ_ _=>e) λ_ l d _ c=>.q e (.a e e (.c0 e i q λ_ _=>.q e (.q e (.a e e (.Xr c e e (.il (.e e (.Ek [0] e e e)))) (.a e e (.Xr c e e (.il (.e e (.Ek [0] e e e)))) (.B λm o=>.st e (Ev.ssB e e e o) e (.c0 e i q λ_ _=>.q e (.q e (.a e e (.Xr c e e (.il (.e e (.Ek [0] e e e)))) (.B λ_ p=>.st e (Ev.ssB e e e p) e (.a e e (.Xr c e e (.il (.e e (.Ek [0] e e e)))) (.st e (Ev.bsW (ys:=([m]:List BA)) (f:=encS) e (.d1 .nil) e e e e e) e (.B λ_ s=>.st e (Ev.apW (f:=encS) (ontoW e e e) (addsW e e e (λ_=>e)) e bt9 e s) e (.R e (λh=>⟨_,_,h,e,e⟩) (.k [0,4,5] [54296])))))))))))))) (.X c e e (.ir (.n e (.J e (.k [4,5] [0]))))))) λb=>.Ek [0] e e e)))
def s_l05Take (N:Nat)(a:Tl05Cur)(b:Int):Option (BA×Tl05Cur):=
 (if a.bad then
 some ((⟨#[]⟩:BA),(Tl05Cur.mk a.text a.at' true))
 else
 (if(decide (b>(w64 ((a.text.size:Int)-a.at'))))then
 some ((⟨#[]⟩:BA),(Tl05Cur.mk a.text a.at' true))
 else
 (scut? a.text (w64 ((w64 (a.at'+b))-b)) (w64 (a.at'+b))).bind λc=>
 some (c,(Tl05Cur.mk a.text (w64 (a.at'+b)) a.bad))))
instance i39 (N:Nat)(b:Tl05Cur)(c:Int):JG 218 (s_l05Take N b c) [.ptr 0 0,VI c] 1 [(0,.box [VS b.text,VI b.at',VB b.bad])] (λr=>VS r.1) (λr=>[(0,.box [VS r.2.text,VI r.2.at',VB r.2.bad])]):=.st e e Tryz.call218 λB r=>.q e (.q e (.a e e (.dn e (.Ek [0] e e e)) (.dn e (.a e e (.Ek [0] e e e) (.B λ_ d=>.st e (Ev.ssB e e e d) e (.dn e (.Ek [0] e e e)))))))
def s_l05ReadShort (N:Nat)(c:Tl05Cur):Option (BA×Tl05Cur):=
 (s_l05Var N c).bind λa=>
 (s_l05Take N a.2 a.1).bind λb=>
 some (b.1,b.2)
instance i40 (N:Nat)(a:Tl05Cur):JG 255 (s_l05ReadShort N a) [.ptr 0 0] 1 [(0,.box [VS a.text,VI a.at',VB a.bad])] (λr=>VS r.1) (λr=>[(0,.box [VS r.2.text,VI r.2.at',VB r.2.bad])]):=.st e e Tryz.call255 λB r=>.f [0] [] 0 e i q λ_ _=>.f [0] [] 0 e i q λ_ _=>.Ek [0] e e e
def s_l05Key (N:Nat)(a:BA):Option (Bool):=
 (s_l01In N (a.size:Int) 1 10).bind λb=>
 some b
instance i41 (N:Nat)(a:BA):JB 62 (s_l05Key N a) [VS a]:=.st e e Tryz.call62 λB r=>.c0 e i q λ_ _=>.Ek [] e e e
def s_BatchOk_l1 (N:Nat)(c:Batch):Nat->Int->Option ((Bool)⊕(Unit))
 |0,_=>none
 |m+1,b=>
 (if decide (b<(c.Changes.length:Int))then
 joinP (λ(h:Unit)=>
 s_BatchOk_l1 N c m (w64 (b+1))) λd=>
 (at? c.Changes b).bind λa=>
 (s_l05Key N a.Key).bind λf=>
 (if(!f)then
 some (Sum.inl false)
 else
 (if decide (b>0)then
 (at? c.Changes (w64 (b-1))).bind λg=>
 (if(!Op.bytesLess g.Key.toList a.Key.toList)then
 some (Sum.inl false)
 else
 (if decide ((a.Value.size:Int)>40)then
 some (Sum.inl false)
 else
 (if a.Gone then
 (if(!decide (a.Value=(⟨#[]⟩:BA)))then
 some (Sum.inl false)
 else
 d ())
 else
 d ())))
 else
 (if decide ((a.Value.size:Int)>40)then
 some (Sum.inl false)
 else
 (if a.Gone then
 (if(!decide (a.Value=(⟨#[]⟩:BA)))then
 some (Sum.inl false)
 else
 d ())
 else
 d ()))))
 else
 some (Sum.inr ()))
def s_BatchOk (N:Nat)(a:Batch):Option (Bool):=
 (s_l01In N a.Stamp 0 100000).bind λb=>
 (if(!b)then
 some false
 else
 (if decide ((a.Changes.length:Int)>60)then
 some false
 else
 joinP (λ(f:Unit)=>
 some true) λc=>
 (s_BatchOk_l1 N a N 0).bind (Sum.elim (λd=>some d) (λ(g:Unit)=>c ()))))
instance i42 (N:Nat)(c:Batch):JB 254 (s_BatchOk N c) [.agg [VI c.Stamp,RO 262 (c.Changes.map encChange)]]:=.st e e Tryz.call254 λB r=>.q e (.q e (.c0 e i q λ_ _=>.a e e (.Ek [] e e e) (.st e (Ev.lnF e) e (.a e e (.Ek [] e e e) (.j e (λ_=>[]) (λ_=>[]) (λ_=>.K1 e [1,3] [1000] (λd=>[.f 3 (VI d)]) (λ_=>e) λ_ d _ b=>.q e (.st e (Ev.lnF e) e (.a e e (.jk e [1,3] [0] (λ_=>[]) (λ_=>e) (λ_=>.B λ_ g=>.st e (Ev.iaF e e g) e (.q e (.c0 e i q λ_ _=>.a e e (.dn e (.Xr b e e (.il (.e e (.Ek [] e e e))))) (.a e e (.B λ_ l=>.st e (Ev.iaF e e l) e (.a e e (.dn e (.Xr b e e (.il (.e e (.Ek [] e e e))))) (.a e e (.dn e (.Xr b e e (.il (.e e (.Ek [] e e e))))) (.a e e (.dn e (.a e e (.Xr b e e (.il (.e e (.Ek [] e e e)))) (.J e (.k [1,3] [0])))) (.dn e (.J e (.k [1,3] [0]))))))) (.a e e (.dn e (.Xr b e e (.il (.e e (.Ek [] e e e))))) (.a e e (.dn e (.a e e (.Xr b e e (.il (.e e (.Ek [] e e e)))) (.J e (.k [1,3] [0])))) (.dn e (.J e (.k [1,3] [0]))))))))) λ_=>.R e (λh=>⟨_,h,e,e⟩) (.k [1,3] [0])) (.X b e e (.ir (.n e (.J e (.k [] [])))))))) λ_=>.Ek [] e e e)))))
def s_l05Short (N:Nat)(a:BA):Option (BA):=
 (s_l01Var N (a.size:Int)).bind λb=>
 (scat? b a).bind λc=>
 some c
instance i43 (N:Nat)(a:BA):JS 153 (s_l05Short N a) [VS a]:=.st e e Tryz.call153 λB r=>.c0 e i q λ_ _=>.B λ_ b=>.st e (Ev.addS e e b) e (.Ek [] e e e)
def s_BatchText_l1 (N:Nat)(a:Batch):Nat->BA->Int->Option (BA)
 |0,_,_=>none
 |m+1,c,b=>
 (if decide (b<(a.Changes.length:Int))then
 joinP (λ(f:BA)=>
 (at? a.Changes b).bind λg=>
 (s_l05Short N g.Key).bind λh=>
 (scat? c h).bind λj=>
 (scat? j f).bind λk=>
 (at? a.Changes b).bind λl=>
 (s_l05Short N l.Value).bind λn=>
 (scat? k n).bind λo=>
 s_BatchText_l1 N a m o (w64 (b+1))) λd=>
 (at? a.Changes b).bind λp=>
 (if p.Gone then
 d (⟨#[1]⟩:BA)
 else
 d (⟨#[0]⟩:BA))
 else
 some c)
def s_BatchText (N:Nat)(a:Batch):Option (BA×Bool):=
 (s_BatchOk N a).bind λb=>
 (if(!b)then
 some ((⟨#[]⟩:BA),false)
 else
 (s_l01Var N a.Stamp).bind λc=>
 (s_l01Var N (a.Changes.length:Int)).bind λd=>
 (scat? c d).bind λf=>
 joinP (λ(g:BA)=>
 some (g,true)) λh=>
 (s_BatchText_l1 N a N f 0).bind (λj=>h j))
instance i44 (N:Nat)(b:Batch):JG 230 (s_BatchText N b) [.agg [VI b.Stamp,RO 262 (b.Changes.map encChange)]] 0 [] (λr=>.tup [VS r.1,VB r.2]) (λr=>[]):=.st e e Tryz.call230 λB r=>.q e (.c0 e i q λ_ _=>.a e e (.Ek [] e e e) (.c0 e i q λ_ _=>.st e (Ev.lnF e) e (.c0 e i q λ_ _=>.B λ_ m=>.st e (Ev.addS e e m) e (.dn e (.j e (λc=>[(4,VS c)]) (λc=>[]) (λ_=>.K2 e [1,4,5] [1000] (λd g=>[.f 4 (VS d),.f 5 (VI g)]) (λ_ _=>e) λ_ d g _ o=>.q e (.st e (Ev.lnF e) e (.a e e (.q e (.jk e [1,4,5,6] [0] (λl=>[.f 6 (VS l)]) (λ_=>e) (λ_=>.B λ_ p=>.st e (Ev.iaF e e p) e (.a e e (.J e (.k [1,4,5,6] [0])) (.J e (.k [1,4,5,6] [0])))) λl=>.B λ_ s=>.st e (Ev.iaF e e s) e (.c0 e i q λ_ _=>.B λ_ t=>.st e (Ev.addS e e t) e (.B λ_ u=>.st e (Ev.addS e e u) e (.B λ_ w=>.st e (Ev.iaF e e w) e (.c0 e i q λ_ _=>.B λ_ x=>.st e (Ev.addS e e x) e (.dn e (.R e (λh=>⟨_,_,h,e,e⟩) (.k [1,4,5] [0]))))))))) (.X o e e (.n e (.J e (.k [4] []))))))) λc=>.Ek [] e e e)))))
def s_ReadBatch_l1 (N:Nat)(g:Int×Tl05Cur):Nat->Int->BA->Int->Bool->(List Change)->Option (BA×Int×Bool×(List Change))
 |0,_,_,_,_,_=>none
 |m+1,h,c,d,a,f=>
 (if decide (h<g.1)then
 (if(!a)then
 (s_l05ReadShort N (Tl05Cur.mk c d a)).bind λj=>
 (s_l05Take N j.2 1).bind λk=>
 (s_l05ReadShort N k.2).bind λb=>
 (cat? f ([(Change.mk j.1 b.1 (decide (k.1=(⟨#[1]⟩:BA))))]:List Change)).bind λl=>
 s_ReadBatch_l1 N g m (w64 (h+1)) b.2.text b.2.at' b.2.bad l
 else
 some (c,d,a,f))
 else
 some (c,d,a,f))
def s_ReadBatch (N:Nat)(f:BA):Option (Batch×Bool):=
 (s_l05Var N (Tl05Cur.mk f 0 false)).bind λc=>
 (s_l05Var N c.2).bind λa=>
 joinP (λ(d:BA×Int×Bool×(List Change))=>
 (s_BatchText N (Batch.mk c.1 d.2.2.2)).bind λg=>
 (if d.2.2.1 then
 some ((Batch.mk 0 ([])),false)
 else
 (if(!g.2)then
 some ((Batch.mk 0 ([])),false)
 else
 (if(!decide (g.1=f))then
 some ((Batch.mk 0 ([])),false)
 else
 some ((Batch.mk c.1 d.2.2.2),true))))) λh=>
 (s_ReadBatch_l1 N a N 0 a.2.text a.2.at' a.2.bad ([]:(List Change))).bind (λb=>h (b.1,b.2.1,b.2.2.1,b.2.2.2))
instance i45 (N:Nat)(g:BA):JG 237 (s_ReadBatch N g) [VS g] 0 [] (λr=>.tup [.agg [VI r.1.Stamp,.sl 0 262 0 r.1.Changes.length],VB r.2]) (λr=>[(0,.vec 262 (r.1.Changes.map encChange))]):=.st e e Tryz.call237 λB r=>.f [5128] [] 0 e i q λs _=>.f [5128] [] 0 e i q λt _=>.jk e [0,2,4,5] [1000,5128,9208,900003,900004] (λb=>[.c 0 1 (.sl 3 262 0 (([]:List Change).length)),.r 1 (.box [VS b.1,VI b.2.1,VB b.2.2.1]),.c 2 1 (.sl 4 262 0 b.2.2.2.length),.r 3 (.vec 262 (([]:List Change).map encChange)),.r 4 (.vec 262 (b.2.2.2.map encChange))]) (λ_=>e) (λ_=>.L5 e (λj l m o d=>[(0,VS g),(2,.ptr 0 0),(4,.ptr 1 0),(5,.ptr 2 0),(6,VI t.1),(7,VI j)]) (λj l m o d=>[(0,.box [VI 0,NI 262]),(1,.box [VS l,VI m,VB o]),(2,.box [VI s.1,.sl 3 262 0 d.length]),(3,.vec 262 (d.map encChange))]) (.n [0,2,4,5,6,7] [1000,5128,9208] [] [9208] [1000,5128,9208,20000000]) λ_ j l m o d _ p=>.q e (.q e (.a e e (.a e e (.f [1] [] 0 e i q λu _=>.f [1] [] 0 e i q λw _=>.f [1] [] 0 e i q λx _=>.st e (Ev.bsW (ys:=([(Change.mk u.1 x.1 (decide (w.1=(⟨#[1]⟩:BA))))]:List Change)) (f:=encChange) e (.d2 (.d1 .nil)) e e e e e) e (.B λ_ y=>.st e (Ev.apW (f:=encChange) (ontoW e e e) (addsW e e e (λ_=>e)) e bt262 e y) e (.R e (λh=>⟨_,_,_,_,_,h,e,e⟩) (.k [0,2,4,5,6,7] [0,1,2,50216])))) (.X p e e (.n e (.J e (.n [0,2,4,5] [0,1,2,3] [] [0] [0,1,2,20000000,3]))))) (.X p e e (.n e (.J e (.n [0,2,4,5] [0,1,2,3] [] [0] [0,1,2,20000000,3]))))))) λb=>.f (hp:=(.cons (.agg (.d1 (.cons (.borrow e (by decide) lw) .nil))) .nil)) (hcase:=λ_=>(.inr ⟨rfl,ownL_root trivial⟩)) [] [4] 0 e i q λ_ _=>.q e (.q e (.a e e (.E e e (.n [0,1] [] [0] [] [10000000])) (.a e e (.E e e (.n [0,1] [] [0] [] [10000000])) (.a e e (.E e e (.n [0,1] [] [0] [] [10000000])) (.Ek [4] e e e)))))
def s_ScanSeg_l2 (N:Nat)(b:Int)(c:Batch×Bool):Nat->Int->Int->(List Spot)->Option ((List Spot))
 |0,_,_,_=>none
 |m+1,g,d,f=>
 (if decide (d<(c.1.Changes.length:Int))then
 (at? c.1.Changes d).bind λa=>
 (s_l05Short N a.Key).bind λh=>
 (s_l01Var N (a.Value.size:Int)).bind λj=>
 joinP (λ(l:List Spot)=>
 s_ScanSeg_l2 N b c m (w64 ((w64 ((w64 ((w64 (g+(h.size:Int)))+1))+(j.size:Int)))+(a.Value.size:Int))) (w64 (d+1)) l) λk=>
 (if a.Gone then
 (cat? f ([(Spot.mk a.Key b 0 (-1:Int))]:List Spot)).bind λn=>
 k n
 else
 (cat? f ([(Spot.mk a.Key b (w64 ((w64 ((w64 (g+(h.size:Int)))+1))+(j.size:Int))) (a.Value.size:Int))]:List Spot)).bind λo=>
 k o)
 else
 some f)
def s_ScanSeg_l1 (N:Nat)(j:Int)(a:(List BA)×Int):Nat->Int->Int->Int->(List Spot)->(List BA)->Option (((List Spot)×(List BA)×Int)⊕(Int×(List Spot)×(List BA)))
 |0,_,_,_,_,_=>none
 |m+1,d,k,b,g,h=>
 (if decide (b<(a.1.length:Int))then
 joinP (λ(f:Int×Int×(List Spot)×(List BA))=>
 s_ScanSeg_l1 N j a m f.1 f.2.1 (w64 (b+1)) f.2.2.1 f.2.2.2) λo=>
 (at? a.1 b).bind λp=>
 (s_ReadBatch N p).bind λc=>
 (if(!c.2)then
 some (Sum.inl (g,h,d))
 else
 (at? a.1 b).bind λs=>
 (s_Frame N s).bind λl=>
 (at? a.1 b).bind λt=>
 (s_l01Var N c.1.Stamp).bind λu=>
 (s_l01Var N (c.1.Changes.length:Int)).bind λw=>
 joinP (λ(x:List Spot)=>
 joinP (λ(y:Int)=>
 (at? a.1 b).bind λv=>
 (cat? h ([v]:List BA)).bind λz=>
 o (y,w64 (k+(l.1.size:Int)),x,z)) λn=>
 (if decide (c.1.Stamp>d)then
 n c.1.Stamp
 else
 n d)) λa0=>
 (s_ScanSeg_l2 N j c N (w64 ((w64 ((w64 ((w64 (k+(l.1.size:Int)))-(t.size:Int)))+(u.size:Int)))+(w.size:Int))) 0 g).bind (λa1=>a0 a1))
 else
 some (Sum.inr (d,g,h)))
def s_ScanSeg (N:Nat)(c:BA)(d:Int):Option ((List Spot)×(List BA)×Int):=
 (s_Unframe N c).bind λf=>
 joinP (λ(a:Int×(List Spot)×(List BA))=>
 some (a.2.1,a.2.2,a.1)) λg=>
 (s_ScanSeg_l1 N d f N (-1:Int) 0 0 ([]:List Spot) ([]:List BA)).bind (Sum.elim (λh=>some h) (λ(b:Int×(List Spot)×(List BA))=>g (b.1,b.2.1,b.2.2)))
instance i46 (N:Nat)(y:BA)(d:Int):JG 214 (s_ScanSeg N y d) [VS y,VI d] 0 [] (λr=>.tup [.sl 0 85 0 r.1.length,.sl 1 9 0 r.2.1.length,VI r.2.2]) (λr=>[(0,.vec 85 (r.1.map encSpot)),(1,.vec 9 (r.2.1.map encS))]):=.st e e Tryz.call214 λB r=>.st e (Ev.bsW (ys:=([]:List Spot)) (f:=encSpot) e .nil e e e e e) e (.st e (Ev.bsW (ys:=([]:List BA)) (f:=encS) e .nil e e e e e) e (.c1 e i q λv _=>.j e (λb=>[(7,.sl 0 85 0 b.2.1.length),(8,.sl 1 9 0 b.2.2.length),(9,VI b.1)]) (λb=>[(0,.vec 85 (b.2.1.map encSpot)),(1,.vec 9 (b.2.2.map encS))]) (λ_=>.L5 e (λm o p g l=>[(1,VI d),(7,.sl 0 85 0 g.length),(8,.sl 1 9 0 l.length),(9,VI m),(10,.sl 2 9 0 v.1.length),(12,VI o),(13,VI p)]) (λm o p g l=>[(0,.vec 85 (g.map encSpot)),(1,.vec 9 (l.map encS)),(2,.vec 9 (v.1.map encS))]) (.k [1,7,8,9,10,12,13] [5096,9192,17400]) λ_ m o p g l _ z=>.q e (.a e e (.jk e [1,7,8,9,10,12,13] [0,1,2] (λc=>[.f 7 (.sl 0 85 0 c.2.2.1.length),.f 8 (.sl 1 9 0 c.2.2.2.length),.f 9 (VI c.1),.f 12 (VI c.2.1),.r 0 (.vec 85 (c.2.2.1.map encSpot)),.r 1 (.vec 9 (c.2.2.2.map encS))]) (λ_=>e) (λ_=>.B λ_ a0=>.st e (Ev.iaW e e e a0) e (.st e (Ev.ldE (f:=encS) e e (at_some a0).2 e e e) e (.c1 e i q λ_ _=>.q e (.a e e (.Xr z e e (.il (.e e (.Ek [0,1] e e e)))) (.B λ_ a1=>.st e (Ev.iaW e e e a1) e (.st e (Ev.ldE (f:=encS) e e (at_some a1).2 e e e) e (.c0 e i q λ_ _=>.B λ_ a2=>.st e (Ev.iaW e e e a2) e (.st e (Ev.ldE (f:=encS) e e (at_some a2).2 e e e) e (.c0 e i q λ_ _=>.c0 e i q λ_ _=>.dn e (.jk e [1,7,8,9,10,12,13,14,16] [0,1,2,37992,37928] (λs=>[.f 7 (.sl 0 85 0 s.length),.r 0 (.vec 85 (s.map encSpot))]) (λ_=>e) (λ_=>.K3 e [1,7,8,9,10,12,13,14,16,18,19] [0,1,2,37992,37928] (λt a3 u=>[.f 7 (.sl 0 85 0 u.length),.f 18 (VI t),.f 19 (VI a3),.r 0 (.vec 85 (u.map encSpot))]) (λ_ _ _=>e) λ_ t a3 u _ a7=>.q e (.a e e (.q e (.B λw a4=>.st e (Ev.iaW e e e a4) e (.st e (Ev.ldE (f:=encChange) e e (at_some a4).2 e e e) e (.c0 e i q λa8 _=>.c0 e i q λa9 _=>.dn e (.jk e [1,7,8,9,10,12,13,14,16,18,19,20] [0,1,2,3,70712,4] (λx=>[.f 7 (.sl 0 85 0 x.length),.r 0 (.vec 85 (x.map encSpot))]) (λ_=>e) (λ_=>.a e e (.st e (Ev.bsW (ys:=([(Spot.mk w.Key d 0 (-1:Int))]:List Spot)) (f:=encSpot) e (.d4 .nil) e e e e e) e (.B λ_ b0=>.st e (Ev.apW (f:=encSpot) (ontoW e e e) (addsW e e e (λ_=>e)) e bt85 e b0) e (.J e (.k [1,7,8,9,10,12,13,14,16,18,19,20] [83016,1,2,3,70712,4])))) (.st e (Ev.bsW (ys:=([(Spot.mk w.Key d (w64 ((w64 ((w64 (t+(a8.size:Int)))+1))+(a9.size:Int))) (w.Value.size:Int))]:List Spot)) (f:=encSpot) e (.d4 .nil) e e e e e) e (.B λ_ b1=>.st e (Ev.apW (f:=encSpot) (ontoW e e e) (addsW e e e (λ_=>e)) e bt85 e b1) e (.J e (.k [1,7,8,9,10,12,13,14,16,18,19,20] [87176,1,2,3,70712,4]))))) λx=>.R e (λh=>⟨_,_,_,h,e,e⟩) (.k [1,7,8,9,10,12,13,14,16,18,19] [0,1,2,3,5])))))) (.X a7 e e (.n e (.J e (.k [1,7,8,9,10,12,13,14,16] [0,1,2,3,4])))))) λs=>.jk e [1,7,8,9,10,12,13,16] [0,1,2] (λa5=>[.f 9 (VI a5)]) (λ_=>e) (λ_=>.a e e (.J e (.k [1,7,8,9,10,12,13,16] [0,1,2])) (.J e (.k [1,7,8,9,10,12,13,16] [0,1,2]))) λa5=>.B λb2 a6=>.st e (Ev.iaW e e e a6) e (.st e (Ev.ldE (f:=encS) e e (at_some a6).2 e e e) e (.st e (Ev.bsW (ys:=([b2]:List BA)) (f:=encS) e (.d1 .nil) e e e e e) e (.B λ_ b3=>.st e (Ev.apW (f:=encS) (ontoW e e e) (addsW e e e (λ_=>e)) e bt9 e b3) e (.J e (.k [1,7,8,9,10,12,13] [0,103496,2]))))))))))))))) λc=>.R e (λh=>⟨_,_,_,_,_,h,e,e⟩) (.k [1,7,8,9,10,12,13] [0,1,2])) (.X z e e (.ir (.n e (.J e (.k [7,8,9] [0,1]))))))) λb=>.Ek [0,1] e e e))
def s_l08More_l2 (N:Nat)(a:List Spot)(d:Spot):Nat->Int->(List Spot)->Option ((List Spot))
 |0,_,_=>none
 |m+1,b,c=>
 (if decide (b<(a.length:Int))then
 joinP (λ(g:List Spot)=>
 s_l08More_l2 N a d m (w64 (b+1)) g) λf=>
 (at? a b).bind λh=>
 (if(Op.bytesLess h.Key.toList d.Key.toList)then
 (at? a b).bind λj=>
 (cat? c ([j]:List Spot)).bind λk=>
 f k
 else
 f c)
 else
 some c)
def s_l08More_l3 (N:Nat)(a:List Spot)(c:Spot):Nat->Int->(List Spot)->Option ((List Spot))
 |0,_,_=>none
 |m+1,b,d=>
 (if decide (b<(a.length:Int))then
 joinP (λ(h:List Spot)=>
 s_l08More_l3 N a c m (w64 (b+1)) h) λf=>
 (at? a b).bind λg=>
 (if(!(Op.bytesLess g.Key.toList c.Key.toList||decide (g.Key=c.Key)))then
 (at? a b).bind λj=>
 (cat? d ([j]:List Spot)).bind λk=>
 f k
 else
 f d)
 else
 some d)
def s_l08More_l1 (N:Nat)(b:List Spot):Nat->Int->(List Spot)->Option ((List Spot))
 |0,_,_=>none
 |m+1,c,d=>
 (if decide (c<(b.length:Int))then
 joinP (λ(h:List Spot)=>
 s_l08More_l1 N b m (w64 (c+1)) h) λj=>
 (at? b c).bind λa=>
 joinP (λ(f:List Spot)=>
 joinP (λ(k:List Spot)=>
 joinP (λ(l:List Spot)=>
 j l) λn=>
 (s_l08More_l3 N d a N 0 k).bind (λo=>n o)) λg=>
 (if(a.Size !=(-1:Int))then
 (cat? f ([a]:List Spot)).bind λp=>
 g p
 else
 g f)) λs=>
 (s_l08More_l2 N d a N 0 ([]:List Spot)).bind (λt=>s t)
 else
 some d)
def s_l08More (N:Nat)(a:List Spot)(b:List Spot):Option ((List Spot)):=
 (cat? ([]:List Spot) a).bind λc=>
 joinP (λ(d:List Spot)=>
 some d) λf=>
 (s_l08More_l1 N b N 0 c).bind (λg=>f g)
instance i47 (N:Nat)(u:List Spot)(w:List Spot):JG 215 (s_l08More N u w) [RO 85 (u.map encSpot),RO 85 (w.map encSpot)] 0 [] (λr=>.sl 0 85 0 r.length) (λr=>[(0,.vec 85 (r.map encSpot))]):=.st e e Tryz.call215 λB r=>.st e (Ev.bsW (ys:=([]:List Spot)) (f:=encSpot) e .nil e e e e e) e (.B λ_ a3=>.st e (Ev.apW (f:=encSpot) (ontoW e e e) (addsF e) e bt85 e a3) e (.j e (λb=>[(5,.sl 0 85 0 b.length)]) (λb=>[(0,.vec 85 (b.map encSpot))]) (λ_=>.K2 e [1,5,6] [5128] (λx c=>[.f 5 (.sl 0 85 0 c.length),.f 6 (VI x),.r 0 (.vec 85 (c.map encSpot))]) (λ_ _=>e) λ_ x c _ a4=>.q e (.st e (Ev.lnF e) e (.a e e (.jk e [1,5,6] [0] (λd=>[.f 5 (.sl 0 85 0 d.length),.r 0 (.vec 85 (d.map encSpot))]) (λ_=>e) (λ_=>.B λa5 a6=>.st e (Ev.iaF e e a6) e (.st e (Ev.bsW (ys:=([]:List Spot)) (f:=encSpot) e .nil e e e e e) e (.jk e [1,5,6,7,8] [0,21544,25576] (λg=>[.f 8 (.sl 2 85 0 g.length),.r 2 (.vec 85 (g.map encSpot))]) (λ_=>e) (λ_=>.K2 e [1,5,6,7,8,9] [0,21544,25576] (λy l=>[.f 8 (.sl 2 85 0 l.length),.f 9 (VI y),.r 2 (.vec 85 (l.map encSpot))]) (λ_ _=>e) λ_ y l _ a7=>.q e (.a e e (.jk e [1,5,6,7,8,9] [0,1,2] (λm=>[.f 8 (.sl 2 85 0 m.length),.r 2 (.vec 85 (m.map encSpot))]) (λ_=>e) (λ_=>.B λ_ v=>.st e (Ev.iaW e e e v) e (.st e (Ev.ldE (f:=encSpot) e e (at_some v).2 e e e) e (.dn e (.a e e (.B λa8 z=>.st e (Ev.iaW e e e z) e (.st e (Ev.ldE (f:=encSpot) e e (at_some z).2 e e e) e (.st e (Ev.bsW (ys:=([a8]:List Spot)) (f:=encSpot) e (.d4 .nil) e e e e e) e (.B λ_ a9=>.st e (Ev.apW (f:=encSpot) (ontoW e e e) (addsW e e e (λ_=>e)) e bt85 e a9) e (.J e (.k [1,5,6,7,8,9] [0,1,46152])))))) (.J e (.k [1,5,6,7,8,9] [0,1,2])))))) λm=>.R e (λh=>⟨_,_,h,e,e⟩) (.k [1,5,6,7,8,9] [0,1,2])) (.X a7 e e (.n e (.J e (.k [1,5,6,7,8] [0,1,2])))))) λg=>.jk e [1,5,6,7,8] [0,1,2] (λo=>[.f 8 (.sl 2 85 0 o.length),.r 2 (.vec 85 (o.map encSpot))]) (λ_=>e) (λ_=>.a e e (.st e (Ev.bsW (ys:=([a5]:List Spot)) (f:=encSpot) e (.d4 .nil) e e e e e) e (.B λ_ b0=>.st e (Ev.apW (f:=encSpot) (ontoW e e e) (addsW e e e (λ_=>e)) e bt85 e b0) e (.J e (.k [1,5,6,7,8] [0,1,54296])))) (.J e (.k [1,5,6,7,8] [0,1,2]))) λo=>.jk e [1,6,8] [2] (λp=>[.f 8 (.sl 0 85 0 p.length),.r 0 (.vec 85 (p.map encSpot))]) (λ_=>e) (λ_=>.K2 e [1,5,6,7,8,10] [0,1,2] (λa0 s=>[.f 8 (.sl 2 85 0 s.length),.f 10 (VI a0),.r 2 (.vec 85 (s.map encSpot))]) (λ_ _=>e) λ_ a0 s _ b1=>.q e (.a e e (.jk e [1,5,6,7,8,10] [0,1,2] (λt=>[.f 8 (.sl 2 85 0 t.length),.r 2 (.vec 85 (t.map encSpot))]) (λ_=>e) (λ_=>.B λ_ a1=>.st e (Ev.iaW e e e a1) e (.st e (Ev.ldE (f:=encSpot) e e (at_some a1).2 e e e) e (.dn e (.a e e (.B λb2 a2=>.st e (Ev.iaW e e e a2) e (.st e (Ev.ldE (f:=encSpot) e e (at_some a2).2 e e e) e (.st e (Ev.bsW (ys:=([b2]:List Spot)) (f:=encSpot) e (.d4 .nil) e e e e e) e (.B λ_ b3=>.st e (Ev.apW (f:=encSpot) (ontoW e e e) (addsW e e e (λ_=>e)) e bt85 e b3) e (.J e (.k [1,5,6,7,8,10] [0,1,74824])))))) (.J e (.k [1,5,6,7,8,10] [0,1,2])))))) λt=>.R e (λh=>⟨_,_,h,e,e⟩) (.k [1,5,6,7,8,10] [0,1,2])) (.X b1 e e (.n e (.J e (.k [1,6,8] [2])))))) λp=>.J e (.k [1,5,6] [0])))) λd=>.R e (λh=>⟨_,_,h,e,e⟩) (.k [1,5,6] [0])) (.X a4 e e (.n e (.J e (.k [5] [0]))))))) λb=>.Ek [0] e e e))
def s_DirOk_l1 (N:Nat)(c:List Spot):Nat->Int->Option ((Bool)⊕(Unit))
 |0,_=>none
 |m+1,b=>
 (if decide (b<(c.length:Int))then
 joinP (λ(p:Unit)=>
 s_DirOk_l1 N c m (w64 (b+1))) λd=>
 (at? c b).bind λa=>
 (s_l05Key N a.Key).bind λf=>
 (if(!f)then
 some (Sum.inl false)
 else
 (if decide (b>0)then
 (at? c (w64 (b-1))).bind λg=>
 (if(!Op.bytesLess g.Key.toList a.Key.toList)then
 some (Sum.inl false)
 else
 (s_l01In N a.Seg 0 999).bind λh=>
 (if(!h)then
 some (Sum.inl false)
 else
 (s_l01In N a.At 0 20000).bind λj=>
 (if(!j)then
 some (Sum.inl false)
 else
 (s_l01In N a.Size 0 40).bind λk=>
 (if(!k)then
 some (Sum.inl false)
 else
 d ()))))
 else
 (s_l01In N a.Seg 0 999).bind λl=>
 (if(!l)then
 some (Sum.inl false)
 else
 (s_l01In N a.At 0 20000).bind λn=>
 (if(!n)then
 some (Sum.inl false)
 else
 (s_l01In N a.Size 0 40).bind λo=>
 (if(!o)then
 some (Sum.inl false)
 else
 d ())))))
 else
 some (Sum.inr ()))
def s_DirOk (N:Nat)(a:List Spot):Option (Bool):=
 (if decide ((a.length:Int)>60)then
 some false
 else
 joinP (λ(d:Unit)=>
 some true) λb=>
 (s_DirOk_l1 N a N 0).bind (Sum.elim (λc=>some c) (λ(f:Unit)=>b ())))
instance i48 (N:Nat)(c:List Spot):JB 25 (s_DirOk N c) [RO 85 (c.map encSpot)]:=.st e e Tryz.call25 λB r=>.q e (.st e (Ev.lnF e) e (.a e e (.Ek [] e e e) (.j e (λ_=>[]) (λ_=>[]) (λ_=>.K1 e [0,3] [] (λd=>[.f 3 (VI d)]) (λ_=>e) λ_ d _ b=>.q e (.st e (Ev.lnF e) e (.a e e (.jk e [0,3] [] (λ_=>[]) (λ_=>e) (λ_=>.B λ_ g=>.st e (Ev.iaF e e g) e (.q e (.c0 e i q λ_ _=>.a e e (.dn e (.Xr b e e (.il (.e e (.Ek [] e e e))))) (.a e e (.B λ_ l=>.st e (Ev.iaF e e l) e (.a e e (.dn e (.Xr b e e (.il (.e e (.Ek [] e e e))))) (.c0 e i q λ_ _=>.a e e (.dn e (.Xr b e e (.il (.e e (.Ek [] e e e))))) (.c0 e i q λ_ _=>.a e e (.dn e (.Xr b e e (.il (.e e (.Ek [] e e e))))) (.c0 e i q λ_ _=>.dn e (.a e e (.Xr b e e (.il (.e e (.Ek [] e e e)))) (.J e (.k [0,3] [])))))))) (.c0 e i q λ_ _=>.a e e (.dn e (.Xr b e e (.il (.e e (.Ek [] e e e))))) (.c0 e i q λ_ _=>.a e e (.dn e (.Xr b e e (.il (.e e (.Ek [] e e e))))) (.c0 e i q λ_ _=>.dn e (.a e e (.Xr b e e (.il (.e e (.Ek [] e e e)))) (.J e (.k [0,3] [])))))))))) λ_=>.R e (λh=>⟨_,h,e,e⟩) (.k [0,3] [])) (.X b e e (.ir (.n e (.J e (.k [] [])))))))) λ_=>.Ek [] e e e)))
def s_l09Load_l1 (N:Nat)(c:Disk)(a:Manifest×Bool):Nat->Int->Option ((Shelf×Int×Int)⊕(Unit))
 |0,_=>none
 |m+1,b=>
 (if decide (b<(a.1.Segs.length:Int))then
 (at? a.1.Segs b).bind λd=>
 (s_SegName N d).bind λf=>
 (s_l03At N c f).bind λg=>
 (if decide (g<0)then
 some (Sum.inl ((Shelf.mk (Manifest.mk ([]) 0 0 0 ([])) ([]) 0),0,3))
 else
 s_l09Load_l1 N c a m (w64 (b+1)))
 else
 some (Sum.inr ()))
def s_l09Load_l3 (N:Nat)(a:(List Spot)×(List BA)×Int):Nat->Int->Int->Option (Int)
 |0,_,_=>none
 |m+1,c,b=>
 (if decide (b<(a.2.1.length:Int))then
 (at? a.2.1 b).bind λd=>
 (s_Frame N d).bind λf=>
 s_l09Load_l3 N a m (w64 (c+(f.1.size:Int))) (w64 (b+1))
 else
 some c)
def s_l09Load_l2 (N:Nat)(h:Disk)(a:Manifest×Bool):Nat->Int->Int->Int->(List Spot)->Option ((Shelf×Int×Int)⊕(Int×Int×(List Spot)))
 |0,_,_,_,_=>none
 |m+1,p,b,d,j=>
 (if decide (b<(a.1.Segs.length:Int))then
 joinP (λ(f:Int×Int×(List Spot))=>
 s_l09Load_l2 N h a m f.1 (w64 (b+1)) f.2.1 f.2.2) λk=>
 (at? a.1.Segs b).bind λs=>
 (s_SegName N s).bind λt=>
 (s_l03Text N h t).bind λl=>
 (at? a.1.Segs b).bind λu=>
 (s_ScanSeg N l u).bind λc=>
 joinP (λ(g:Int)=>
 joinP (λ(y:Unit)=>
 (s_l08More N j c.1).bind λn=>
 (if decide (c.2.2>d)then
 k (g,c.2.2,n)
 else
 k (g,d,n))) λo=>
 (if decide (g<(l.size:Int))then
 (if decide ((w64 (b+1))<(a.1.Segs.length:Int))then
 some (Sum.inl ((Shelf.mk (Manifest.mk ([]) 0 0 0 ([])) ([]) 0),0,4))
 else
 o ())
 else
 o ())) λw=>
 (s_l09Load_l3 N c N 0 0).bind (λx=>w x)
 else
 some (Sum.inr (p,d,j)))
def s_l09Load (N:Nat)(b:Disk):Option (Shelf×Int×Int):=
 (s_DiskOk N b).bind λg=>
 (if(!g)then
 some ((Shelf.mk (Manifest.mk ([]) 0 0 0 ([])) ([]) 0),0,1)
 else
 (s_FileAt N b (⟨#[109]⟩:BA)).bind λf=>
 (s_ReadManifest N f.1).bind λa=>
 (if(!f.2)then
 some ((Shelf.mk (Manifest.mk ([]) 0 0 0 ([])) ([]) 0),0,2)
 else
 (if(!a.2)then
 some ((Shelf.mk (Manifest.mk ([]) 0 0 0 ([])) ([]) 0),0,2)
 else
 joinP (λ(n:Unit)=>
 joinP (λ(c:Int×Int×(List Spot))=>
 (s_DirOk N c.2.2).bind λh=>
 (if(!h)then
 some ((Shelf.mk (Manifest.mk ([]) 0 0 0 ([])) ([]) 0),0,4)
 else
 some ((Shelf.mk a.1 c.2.2 c.2.1),c.1,0))) λj=>
 (s_l09Load_l2 N b a N 0 0 a.1.Base ([]:(List Spot))).bind (Sum.elim (λk=>some k) (λ(d:Int×Int×(List Spot))=>j (d.1,d.2.1,d.2.2)))) λl=>
 (s_l09Load_l1 N b a N 0).bind (Sum.elim (λm=>some m) (λ(o:Unit)=>l ())))))
instance i49 (N:Nat)(g:Disk):JG 134 (s_l09Load N g) [.agg [RO 93 (g.Files.map encFile)]] 0 [] (λr=>.tup [.agg (cShelf0 r.1 0 1 2 []),VI r.2.1,VI r.2.2]) (λr=>(rShelf0 r.1 0 1 2 [])):=.st e e Tryz.call134 λB r=>.q e (.c0 e i q λ_ _=>.a e e (.E e e (.n [0,1,2] [] [0] [] [10000000,10000001,10000002])) (.c0 e i q λ_ _=>.f [] [] 2 e i q λb _=>.q e (.q e (.a e e (.E e e (.n [0,1,2] [] [0] [] [10000000,10000001,10000002])) (.a e e (.E e e (.n [0,1,2] [] [0] [] [10000000,10000001,10000002])) (.j e (λ_=>[(1,.ptr 0 0),(2,.ptr 1 0),(7,.ptr 2 0),(9,.ptr 3 0)]) (λ_=>((0,.box [RO 93 (g.Files.map encFile)])::(1,.box [.sl 4 3 0 (([]:List Int).length),VI 0,VI 0,VI 0,.sl 5 3 0 (([]:List Int).length),.sl 6 85 0 (([]:List Spot).length),VI 0])::(2,.box (cManifest1 b.1 7 8 []))::(3,.box (cManifest1 b.1 7 8 [.sl 9 85 0 (([]:(List Spot)).length),VI b.1.Base]))::(4,.vec 3 (([]:List Int).map encI))::(5,.vec 3 (([]:List Int).map encI))::(6,.vec 85 (([]:List Spot).map encSpot))::(rManifest0 b.1 7 8 [(9,.vec 85 (([]:(List Spot)).map encSpot))]))) (λ_=>.L1 e (λo=>[(1,.ptr 0 0),(2,.ptr 1 0),(7,.ptr 2 0),(9,.ptr 3 0),(10,VI o)]) (λo=>((0,.box [RO 93 (g.Files.map encFile)])::(1,.box [NI 3,VI 0,VI 0,VI 0,NI 3,NI 85,VI 0])::(2,.box (cManifest1 b.1 4 5 []))::(3,.box (cManifest1 b.1 4 5 [.sl 6 85 0 (([]:(List Spot)).length),VI b.1.Base]))::(rManifest0 b.1 4 5 [(6,.vec 85 (([]:(List Spot)).map encSpot))]))) (.n [1,2,7,9,10] [1000,1016,17464,29736,17400,17401] [] [29736] [1000,1016,17464,29736,17400,17401,20000000]) λ_ o _ u=>.q e (.a e e (.q e (.B λ_ w=>.st e (Ev.iaW e e e w) e (.st e (Ev.ldE (f:=encI) e e (at_some w).2 e e e) e (.c0 e i q λ_ _=>.c0 e i q λ_ _=>.dn e (.a e e (.Xr u e e (.il (.e e (.E e e (.n [0,1,2] [] [0] [] [10000000,10000001,10000002]))))) (.R e (λh=>⟨_,h,e,e⟩) (.k [1,2,7,9,10] [0,1,2,3,4,5,6]))))))) (.X u e e (.ir (.n e (.J e (.n [1,2,7,9] [0,1,2,3,4,5,6] [] [1] [0,1,2,3,20000000,20000001,20000002,4,5,6]))))))) λ_=>.j e (λd=>[(2,.ptr 0 0),(9,.ptr 1 0),(11,VI d.1)]) (λd=>((0,.box [.sl 2 3 0 (([]:(List Int)).length),VI 0,VI 0,VI 0,.sl 3 3 0 (([]:(List Int)).length),.sl 4 85 0 (([]:(List Spot)).length),VI 0])::(1,.box (cManifest1 b.1 5 6 [.sl 7 85 0 d.2.2.length,VI d.2.1]))::(2,.vec 3 (([]:(List Int)).map encI))::(3,.vec 3 (([]:(List Int)).map encI))::(4,.vec 85 (([]:(List Spot)).map encSpot))::(rManifest0 b.1 5 6 [(7,.vec 85 (d.2.2.map encSpot))]))) (λ_=>.L4 e (λp s t m=>[(1,.ptr 0 0),(2,.ptr 1 0),(7,.ptr 2 0),(9,.ptr 3 0),(11,VI p),(12,VI s)]) (λp s t m=>((0,.box [RO 93 (g.Files.map encFile)])::(1,.box [.sl 4 3 0 (([]:(List Int)).length),VI 0,VI 0,VI 0,.sl 5 3 0 (([]:(List Int)).length),.sl 6 85 0 (([]:(List Spot)).length),VI 0])::(2,.box (cManifest1 b.1 7 8 []))::(3,.box (cManifest1 b.1 7 8 [.sl 9 85 0 m.length,VI t]))::(4,.vec 3 (([]:(List Int)).map encI))::(5,.vec 3 (([]:(List Int)).map encI))::(6,.vec 85 (([]:(List Spot)).map encSpot))::(rManifest0 b.1 7 8 [(9,.vec 85 (m.map encSpot))]))) (.k [1,2,7,9,11,12] [0,1,2,3,4,5,6,7,8,9]) λ_ p s t m _ x=>.q e (.a e e (.jk e [1,2,7,9,11,12] [0,1,2,3,4,5,6,7,8,9] (λl=>[.f 11 (VI l.1),.c 3 5 (.sl 9 85 0 l.2.2.length),.c 3 6 (VI l.2.1),.r 9 (.vec 85 (l.2.2.map encSpot))]) (λ_=>e) (λ_=>.B λ_ y=>.st e (Ev.iaW e e e y) e (.st e (Ev.ldE (f:=encI) e e (at_some y).2 e e e) e (.c0 e i q λ_ _=>.c0 e i q λ_ _=>.dn e (.B λ_ v=>.st e (Ev.iaW e e e v) e (.st e (Ev.ldE (f:=encI) e e (at_some v).2 e e e) e (.f [] [] 2 e i q λ_ _=>.jk e [1,2,7,9,11,12,13,14,16] [0,1,2,3,74824,4,5,6,7,8,9] (λz=>[.f 11 (VI z)]) (λ_=>e) (λ_=>.K2 e [1,2,7,9,11,12,13,14,15,16,17] [0,1,2,3,74824,74825,4,5,6,7,8,9] (λa0 a1=>[.f 11 (VI a0),.f 17 (VI a1)]) (λ_ _=>e) λ_ a0 a1 _ a3=>.q e (.a e e (.B λ_ a2=>.st e (Ev.iaW e e e a2) e (.st e (Ev.ldE (f:=encS) e e (at_some a2).2 e e e) e (.c0 e i q λ_ _=>.R e (λh=>⟨_,_,h,e,e⟩) (.k [1,2,7,9,11,12,13,14,15,16,17] [0,1,2,3,4,5,6,7,8,9,10,11])))) (.X a3 e e (.n e (.J e (.k [1,2,7,9,11,12,13,14,16] [0,1,2,3,4,6,7,8,9,10,11])))))) λz=>.jk e [1,2,7,9,11,12,14,16] [0,1,2,3,4,5,6,7,8,9,10] (λ_=>[]) (λ_=>e) (λ_=>.q e (.a e e (.a e e (.Xr x e e (.il (.e e (.E e e (.n [0,1,2] [] [0] [] [10000000,10000001,10000002]))))) (.J e (.k [1,2,7,9,11,12,14,16] [0,1,2,3,4,5,6,7,8,9,10]))) (.J e (.k [1,2,7,9,11,12,14,16] [0,1,2,3,4,5,6,7,8,9,10])))) λ_=>.f (hp:=(.cons (.borrow e (by decide) lw) (.cons (.borrow e (by decide) lw) .nil))) (hcase:=λ_=>(.inr ⟨rfl,ownL_root ⟨own_rows (λ_=>e) _,trivial⟩⟩)) [] [10,4] 1 e i q λ_ _=>.a e e (.J e (.k [1,2,7,9,11,12] [0,1,2,3,5,6,7,8,9,111640])) (.J e (.k [1,2,7,9,11,12] [0,1,2,3,5,6,7,8,9,111640])))))))) λl=>.R e (λh=>⟨_,_,_,_,h,e,e⟩) (.k [1,2,7,9,11,12] [0,1,2,3,4,5,6,7,8,9])) (.X x e e (.ir (.n e (.J e (.k [2,9,11] [1,3,4,5,6,7,8,9]))))))) λd=>.q e (.f (hp:=(.cons (.borrow e (by decide) lw) .nil)) (hcase:=λ_=>(.inr ⟨rfl,ownL_root trivial⟩)) [] [7] 0 e i q λ_ _=>.a e e (.E e e (.n [0,1,2] [] [0] [] [10000000,10000001,10000002])) (.Ek [5,6,7] e e e))))))))
def s_ReadDecimal_l1 (N:Nat)(a:BA):Nat->Int->Int->Option ((Int×Bool)⊕(Int))
 |0,_,_=>none
 |m+1,c,b=>
 (if decide (b<(a.size:Int))then
 (sat? a b).bind λd=>
 (if decide (d<48)then
 some (Sum.inl (0,false))
 else
 (sat? a b).bind λf=>
 (if decide (f>57)then
 some (Sum.inl (0,false))
 else
 (sat? a b).bind λg=>
 s_ReadDecimal_l1 N a m (w64 ((w64 ((w64 (10*c))+(w64 (g))))-48)) (w64 (b+1))))
 else
 some (Sum.inr c))
def s_ReadDecimal (N:Nat)(a:BA):Option (Int×Bool):=
 (if decide ((a.size:Int)>10)then
 some (0,false)
 else
 joinP (λ(b:Int)=>
 (if decide (b>1000000000)then
 some (0,false)
 else
 (s_Decimal N b).bind λc=>
 (if(!decide (c=a))then
 some (0,false)
 else
 some (b,true)))) λd=>
 (s_ReadDecimal_l1 N a N 0 0).bind (Sum.elim (λf=>some f) (λ(g:Int)=>d g)))
instance i50 (N:Nat)(c:BA):JG 216 (s_ReadDecimal N c) [VS c] 0 [] (λr=>.tup [VI r.1,VB r.2]) (λr=>[]):=.st e e Tryz.call216 λB r=>.q e (.a e e (.Ek [] e e e) (.jk e [0,4] [] (λd=>[.f 4 (VI d)]) (λ_=>e) (λ_=>.K2 e [0,4,5] [] (λg j=>[.f 4 (VI g),.f 5 (VI j)]) (λ_ _=>e) λ_ g j _ b=>.q e (.a e e (.q e (.q e (.q e (.B λ_ l=>.st e (Ev.ixS e e l) e (.a e e (.Xr b e e (.il (.e e (.Ek [] e e e)))) (.B λ_ m=>.st e (Ev.ixS e e m) e (.a e e (.Xr b e e (.il (.e e (.Ek [] e e e)))) (.B λ_ o=>.st e (Ev.ixS e e o) e (.R e (λh=>⟨_,_,h,e,e⟩) (.k [0,4,5] [])))))))))) (.X b e e (.ir (.n e (.J e (.k [0,4] []))))))) λd=>.q e (.q e (.a e e (.Ek [] e e e) (.c0 e i q λ_ _=>.a e e (.Ek [] e e e) (.Ek [] e e e))))))
def s_l09Seg (N:Nat)(a:BA):Option (Int):=
 (if decide ((a.size:Int)<2)then
 some (-1:Int)
 else
 (sdrop? a 1).bind λc=>
 (s_ReadDecimal N c).bind λb=>
 (if(!b.2)then
 some (-1:Int)
 else
 (s_SegName N b.1).bind λd=>
 (if(!decide (d=a))then
 some (-1:Int)
 else
 some b.1)))
instance i51 (N:Nat)(b:BA):JI 135 (s_l09Seg N b) [VS b]:=.st e e Tryz.call135 λB r=>.q e (.a e e (.Ek [] e e e) (.B λ_ c=>.st e (Ev.ssL e e c) e (.c0 e i q λ_ _=>.q e (.q e (.a e e (.Ek [] e e e) (.c0 e i q λ_ _=>.a e e (.Ek [] e e e) (.Ek [] e e e)))))))
def s_l09In_l1 (N:Nat)(a:List Int)(c:Int):Nat->Int->Option ((Bool)⊕(Unit))
 |0,_=>none
 |m+1,b=>
 (if decide (b<(a.length:Int))then
 (at? a b).bind λd=>
 (if(d==c)then
 some (Sum.inl true)
 else
 s_l09In_l1 N a c m (w64 (b+1)))
 else
 some (Sum.inr ()))
def s_l09In_l1_r (N:Nat)(c:List Int)(a:Int):(List Int)->Int->Option ((Bool)⊕(Unit))
 |[],b=>
 some (Sum.inr ())
 |hd::tl,b=>
 (some hd).bind λd=>
 (if(d==a)then
 some (Sum.inl true)
 else
 s_l09In_l1_r N c a tl (w64 (b+1)))
theorem s_l09In_l1_rng (N:Nat)(a:List Int)(b:Int)(hx:a.length<=1099511627776):∀(d k m:Nat),a.length=k+d->d<m->s_l09In_l1 N a b m (k:Int)=s_l09In_l1_r N a b (a.drop k) (k:Int):=by
 intro d
 induction d with
 |zero=>
  intro k m hd hm
  obtain⟨m,rfl⟩:∃q,m=q+1:=⟨m-1,by omega⟩
  rw[s_l09In_l1,IQ (by simp;omega),DN (by omega),s_l09In_l1_r]
 |succ d ih=>
  intro k m hd hm
  obtain⟨m,rfl⟩:∃q,m=q+1:=⟨m-1,by omega⟩
  have hk:k<a.length:=by omega
  rw[s_l09In_l1,IP (by simp;omega),DG hk,s_l09In_l1_r]
  have c:=at_lt hk
  have f:=WS (k:=k) (by omega)
  have g:=ih (k+1) m
  simp only[c,f,g (by omega) (by omega)]
theorem s_l09In_l1_eq {N:Nat}(a:List Int)(b:Int)(hx:a.length<=1099511627776)(hN:a.length<N):s_l09In_l1 N a b N 0=s_l09In_l1_r N a b a 0:=s_l09In_l1_rng N a b hx a.length 0 N (by omega) hN
def s_l09In (N:Nat)(a:List Int)(b:Int):Option (Bool):=
 joinP (λ(f:Unit)=>
 some false) λc=>
 (s_l09In_l1 N a b N 0).bind (Sum.elim (λd=>some d) (λ(g:Unit)=>c ()))
instance i52 (N:Nat)(b:List Int)(c:Int):JB 136 (s_l09In N b c) [RO 3 (b.map encI),VI c]:=.st e e Tryz.call136 λB r=>.j e (λ_=>[]) (λ_=>[]) (λ_=>.K1 e [0,1,5] [] (λd=>[.f 5 (VI d)]) (λ_=>e) λ_ d _ g=>.q e (.st e (Ev.lnF e) e (.a e e (.q e (.B λ_ l=>.st e (Ev.iaF e e l) e (.a e e (.Xr g e e (.il (.e e (.Ek [] e e e)))) (.R e (λh=>⟨_,h,e,e⟩) (.k [0,1,5] []))))) (.X g e e (.ir (.n e (.J e (.k [] [])))))))) λ_=>.Ek [] e e e
def s_OpenShelf_l1 (N:Nat)(a:Disk)(f:Shelf×Int×Int):Nat->Int->(List Raw)->Option ((List Raw))
 |0,_,_=>none
 |m+1,b,c=>
 (if decide (b<(a.Files.length:Int))then
 joinP (λ(h:List Raw)=>
 s_OpenShelf_l1 N a f m (w64 (b+1)) h) λd=>
 (at? a.Files b).bind λj=>
 (s_l09Seg N j.Name).bind λg=>
 (if decide (g>=0)then
 (s_l09In N f.1.Man.Segs g).bind λk=>
 (if(!k)then
 (at? a.Files b).bind λl=>
 (cat? c ([(Raw.mk 4 l.Name (⟨#[]⟩:BA) (⟨#[]⟩:BA))]:List Raw)).bind λn=>
 d n
 else
 d c)
 else
 d c)
 else
 some c)
def s_OpenShelf (N:Nat)(b:Disk):Option (Shelf×(List Raw)×Int):=
 (s_l09Load N b).bind λa=>
 (if(a.2.2 !=0)then
 some ((Shelf.mk (Manifest.mk ([]) 0 0 0 ([])) ([]) 0),([]:List Raw),a.2.2)
 else
 joinP (λ(j:List Raw)=>
 joinP (λ(c:List Raw)=>
 (at? a.1.Man.Segs (w64 ((a.1.Man.Segs.length:Int)-1))).bind λk=>
 (s_SegName N k).bind λd=>
 (s_l03Text N b d).bind λf=>
 joinP (λ(l:List Raw)=>
 some (a.1,l,0)) λg=>
 (if decide (a.2.1<(f.size:Int))then
 (stake? f a.2.1).bind λm=>
 (cat? c ([(Raw.mk 1 d (⟨#[]⟩:BA) m)]:List Raw)).bind λn=>
 g n
 else
 g c)) λo=>
 (s_OpenShelf_l1 N b a N 0 j).bind (λp=>o p)) λh=>
 (s_l03At N b (⟨#[109,43]⟩:BA)).bind λs=>
 (if decide (s>=0)then
 (cat? ([]:List Raw) ([(Raw.mk 4 (⟨#[109,43]⟩:BA) (⟨#[]⟩:BA) (⟨#[]⟩:BA))]:List Raw)).bind λt=>
 h t
 else
 h ([]:List Raw)))
instance i53 (N:Nat)(c:Disk):JG 68 (s_OpenShelf N c) [.agg [RO 93 (c.Files.map encFile)]] 0 [] (λr=>.tup [.agg (cShelf0 r.1 0 1 2 []),.sl 3 79 0 r.2.1.length,VI r.2.2]) (λr=>(rShelf0 r.1 0 1 2 [(3,.vec 79 (r.2.1.map encRaw))])):=.st e e Tryz.call68 λB r=>.f [] [] 3 e i q λb _=>.st e (Ev.bsW (ys:=([]:List Raw)) (f:=encRaw) e .nil e e e e e) e (.q e (.a e e (.E e e (.n [0,1,2] [9192] [0] [] [10000000,10000001,10000002,9192])) (.jk e [1,2,5,6,8] [1000,1016,5192,9192,5112,5113,5114] (λl=>[.f 8 (.sl 3 79 0 l.length),.r 3 (.vec 79 (l.map encRaw))]) (λ_=>e) (λ_=>.c0 e i q λ_ _=>.a e e (.st e (Ev.bsW (ys:=([(Raw.mk 4 (⟨#[109,43]⟩:BA) (⟨#[]⟩:BA) (⟨#[]⟩:BA))]:List Raw)) (f:=encRaw) e (.d4 .nil) e e e e e) e (.B λ_ t=>.st e (Ev.apW (f:=encRaw) (ontoW e e e) (addsW e e e (λ_=>e)) e bt79 e t) e (.J e (.k [1,2,5,6,8] [1000,1016,5192,25624,5112,5113,5114])))) (.J e (.k [1,2,5,6,8] [1000,1016,5192,9192,5112,5113,5114]))) λl=>.j e (λd=>[(1,.ptr 0 0),(2,.ptr 1 0),(5,.ptr 2 0),(6,VI b.2.1),(8,.sl 3 79 0 d.length)]) (λd=>((0,.box [RO 93 (c.Files.map encFile)])::(1,.box [.sl 4 3 0 (([]:(List Int)).length),VI 0,VI 0,VI 0,.sl 5 3 0 (([]:(List Int)).length),.sl 6 85 0 (([]:(List Spot)).length),VI 0])::(2,.box (cShelf0 b.1 7 8 9 []))::(3,.vec 79 (d.map encRaw))::(4,.vec 3 (([]:(List Int)).map encI))::(5,.vec 3 (([]:(List Int)).map encI))::(6,.vec 85 (([]:(List Spot)).map encSpot))::(rShelf0 b.1 7 8 9 []))) (λ_=>.L2 e (λm g=>[(1,.ptr 0 0),(2,.ptr 1 0),(5,.ptr 2 0),(6,VI b.2.1),(8,.sl 3 79 0 g.length),(9,VI m)]) (λm g=>((0,.box [RO 93 (c.Files.map encFile)])::(1,.box [.sl 4 3 0 (([]:(List Int)).length),VI 0,VI 0,VI 0,.sl 5 3 0 (([]:(List Int)).length),.sl 6 85 0 (([]:(List Spot)).length),VI 0])::(2,.box (cShelf0 b.1 7 8 9 []))::(3,.vec 79 (g.map encRaw))::(4,.vec 3 (([]:(List Int)).map encI))::(5,.vec 3 (([]:(List Int)).map encI))::(6,.vec 85 (([]:(List Spot)).map encSpot))::(rShelf0 b.1 7 8 9 []))) (.n [1,2,5,6,8,9] [0,1,2,3,4,5,6] [] [1] [0,1,2,3,20000000,20000001,20000002,4,5,6]) λ_ m g _ u=>.q e (.st e (Ev.lnF e) e (.a e e (.jk e [1,2,5,6,8,9] [0,1,2,3,4,5,6,7,8,9] (λo=>[.f 8 (.sl 3 79 0 o.length),.r 3 (.vec 79 (o.map encRaw))]) (λ_=>e) (λ_=>.B λ_ w=>.st e (Ev.iaF e e w) e (.c0 e i q λ_ _=>.q e (.a e e (.f (hp:=(.cons (.borrow e (by decide) lw) (.d1 .nil))) (hcase:=λ_=>(.inr ⟨rfl,ownL_root trivial⟩)) [] [7] 0 e i q λ_ _=>.a e e (.B λx y=>.st e (Ev.iaF e e y) e (.st e (Ev.bsW (ys:=([(Raw.mk 4 x.Name (⟨#[]⟩:BA) (⟨#[]⟩:BA))]:List Raw)) (f:=encRaw) e (.d4 .nil) e e e e e) e (.B λ_ v=>.st e (Ev.apW (f:=encRaw) (ontoW e e e) (addsW e e e (λ_=>e)) e bt79 e v) e (.J e (.k [1,2,5,6,8,9] [0,1,2,50296,4,5,6,7,8,9]))))) (.J e (.k [1,2,5,6,8,9] [0,1,2,3,4,5,6,7,8,9]))) (.J e (.k [1,2,5,6,8,9] [0,1,2,3,4,5,6,7,8,9]))))) λo=>.R e (λh=>⟨_,_,h,e,e⟩) (.k [1,2,5,6,8,9] [0,1,2,3,4,5,6,7,8,9])) (.X u e e (.n e (.J e (.k [1,2,5,6,8] [0,1,2,3,4,5,6,7,8,9]))))))) λd=>.B λ_ s=>.st e (Ev.iaW e e e s) e (.st e (Ev.ldE (f:=encI) e e (at_some s).2 e e e) e (.c0 e i q λz _=>.c0 e i q λ_ _=>.jk e [2,5,8] [1,2,3,4,5,6,7,8,9] (λp=>[.f 8 (.sl 2 79 0 p.length),.r 2 (.vec 79 (p.map encRaw))]) (λ_=>e) (λ_=>.a e e (.B λa0 a1=>.st e (Ev.ssH e e a1) e (.st e (Ev.bsW (ys:=([(Raw.mk 1 z (⟨#[]⟩:BA) a0)]:List Raw)) (f:=encRaw) e (.d4 .nil) e e e e e) e (.B λ_ a2=>.st e (Ev.apW (f:=encRaw) (ontoW e e e) (addsW e e e (λ_=>e)) e bt79 e a2) e (.J e (.k [2,5,8] [1,2,66648,4,5,6,7,8,9]))))) (.J e (.k [2,5,8] [1,2,3,4,5,6,7,8,9]))) λp=>.Ek [6,7,8,2] e e e)))))
def s_l12Start (N:Nat)(c:BA):Option (Log×Bool):=
 (s_l05Take N (Tl05Cur.mk c 0 false) 1).bind λd=>
 (s_l05Var N d.2).bind λa=>
 (s_l05Var N a.2).bind λb=>
 (if b.2.bad then
 some ((Log.mk 0 0 ([])),false)
 else
 (s_l01Var N a.1).bind λf=>
 (scat? (⟨#[83]⟩:BA) f).bind λg=>
 (s_l01Var N b.1).bind λh=>
 (scat? g h).bind λj=>
 (if(!decide (j=c))then
 some ((Log.mk 0 0 ([])),false)
 else
 some ((Log.mk a.1 b.1 ([])),true)))
instance i54 (N:Nat)(b:BA):JG 138 (s_l12Start N b) [VS b] 0 [] (λr=>.tup [.agg [VI r.1.Start,VI r.1.StartTerm,.sl 0 91 0 r.1.Entries.length],VB r.2]) (λr=>[(0,.vec 91 (r.1.Entries.map encEntry))]):=.st e e Tryz.call138 λB r=>.f [5128] [] 0 e i q λ_ _=>.f [5128] [] 0 e i q λ_ _=>.f [5128] [] 0 e i q λ_ _=>.q e (.q e (.a e e (.dn e (.E e e (.n [0,1] [] [0] [] [10000000]))) (.c0 e i q λ_ _=>.B λ_ c=>.st e (Ev.addS e e c) e (.c0 e i q λ_ _=>.B λ_ d=>.st e (Ev.addS e e d) e (.dn e (.a e e (.E e e (.n [0,1] [] [0] [] [10000000])) (.E e e (.n [0,1] [] [0] [] [10000000]))))))))
def s_ReadEntry (N:Nat)(a:BA):Option (Int×Entry×Bool):=
 (s_l05Take N (Tl05Cur.mk a 0 false) 1).bind λj=>
 (s_l05Var N j.2).bind λb=>
 (s_l05Var N b.2).bind λc=>
 (s_l05Take N c.2 1).bind λd=>
 (if d.2.bad then
 some (0,(Entry.mk 0 0 (⟨#[]⟩:BA)),false)
 else
 (sat? d.1 0).bind λf=>
 (sdrop? a d.2.at').bind λg=>
 (s_EntryText N b.1 (Entry.mk c.1 (w64 (f)) g)).bind λh=>
 (if(!h.2)then
 some (0,(Entry.mk 0 0 (⟨#[]⟩:BA)),false)
 else
 (if(!decide (h.1=a))then
 some (0,(Entry.mk 0 0 (⟨#[]⟩:BA)),false)
 else
 some (b.1,(Entry.mk c.1 (w64 (f)) g),true))))
instance i55 (N:Nat)(b:BA):JG 139 (s_ReadEntry N b) [VS b] 0 [] (λr=>.tup [VI r.1,.agg [VI r.2.1.Term,VI r.2.1.Kind,VS r.2.1.Data],VB r.2.2]) (λr=>[]):=.st e e Tryz.call139 λB r=>.f [5128] [] 0 e i q λ_ _=>.f [5128] [] 0 e i q λ_ _=>.f [5128] [] 0 e i q λ_ _=>.f [5128] [] 0 e i q λ_ _=>.q e (.a e e (.Ek [] e e e) (.B λ_ c=>.st e (Ev.ixS e e c) e (.B λ_ d=>.st e (Ev.ssL e e d) e (.c0 e i q λ_ _=>.q e (.q e (.a e e (.Ek [] e e e) (.a e e (.Ek [] e e e) (.dn e (.Ek [] e e e)))))))))
def s_l12Last (N:Nat)(a:Log):Option (Int):=
 some (w64 (a.Start+(a.Entries.length:Int)))
instance i56 (N:Nat)(a:Log):JI 140 (s_l12Last N a) [.agg [VI a.Start,VI a.StartTerm,RO 91 (a.Entries.map encEntry)]]:=.st e e Tryz.call140 λB r=>.st e (Ev.lnF e) e (.Ek [] e e e)
def s_ReadLog_l1 (N:Nat)(d:(List BA)×Int):Nat->Int->Int->Int->(List Entry)->Option ((Log×Int×Bool)⊕(Int×Int×(List Entry)))
 |0,_,_,_,_=>none
 |m+1,c,a,h,f=>
 (if decide (c<(d.1.length:Int))then
 joinP (λ(j:Int×Int×(List Entry))=>
 s_ReadLog_l1 N d m (w64 (c+1)) j.1 j.2.1 j.2.2) λk=>
 (at? d.1 c).bind λl=>
 (s_l12Start N l).bind λg=>
 (if g.2 then
 k (g.1.Start,g.1.StartTerm,g.1.Entries)
 else
 (at? d.1 c).bind λn=>
 (s_ReadEntry N n).bind λb=>
 (if(c==0)then
 some (Sum.inl ((Log.mk 0 0 ([])),0,false))
 else
 (if(!b.2.2)then
 some (Sum.inl ((Log.mk 0 0 ([])),0,false))
 else
 (if decide (b.1<=a)then
 some (Sum.inl ((Log.mk 0 0 ([])),0,false))
 else
 (s_l12Last N (Log.mk a h f)).bind λo=>
 (if decide (b.1>(w64 (o+1)))then
 some (Sum.inl ((Log.mk 0 0 ([])),0,false))
 else
 (take? f (w64 ((w64 (b.1-a))-1))).bind λt=>
 (cat? ([]:List Entry) (f.take ((w64 ((w64 (b.1-a))-1)).toNat))).bind λp=>
 (cat? p ([b.2.1]:List Entry)).bind λs=>
 k (a,h,s))))))
 else
 some (Sum.inr (a,h,f)))
def s_ReadLog (N:Nat)(d:BA):Option (Log×Int×Bool):=
 (s_Unframe N d).bind λb=>
 joinP (λ(a:Int×Int×(List Entry))=>
 (if((b.1.length:Int)==0)then
 some ((Log.mk 0 0 ([])),0,false)
 else
 (s_LogOk N (Log.mk a.1 a.2.1 a.2.2)).bind λf=>
 (if(!f)then
 some ((Log.mk 0 0 ([])),0,false)
 else
 some ((Log.mk a.1 a.2.1 a.2.2),b.2,true)))) λg=>
 (s_ReadLog_l1 N b N 0 0 0 ([]:(List Entry))).bind (Sum.elim (λh=>some h) (λ(c:Int×Int×(List Entry))=>g (c.1,c.2.1,c.2.2)))
instance i57 (N:Nat)(s:BA):JG 70 (s_ReadLog N s) [VS s] 0 [] (λr=>.tup [.agg [VI r.1.Start,VI r.1.StartTerm,.sl 0 91 0 r.1.Entries.length],VI r.2.1,VB r.2.2]) (λr=>[(0,.vec 91 (r.1.Entries.map encEntry))]):=.st e e Tryz.call70 λB r=>.c1 e i q λl _=>.jk e [2,5,6,7] [1000,5112,9208,900003,900004] (λb=>[.c 0 2 (.sl 3 91 0 (([]:(List Entry)).length)),.r 2 (.box [VI b.1,VI b.2.1,.sl 4 91 0 b.2.2.length]),.r 3 (.vec 91 (([]:(List Entry)).map encEntry)),.r 4 (.vec 91 (b.2.2.map encEntry))]) (λ_=>e) (λ_=>.L4 e (λm o p d=>[(2,.ptr 0 0),(5,.sl 1 9 0 l.1.length),(6,VI l.2),(7,.ptr 2 0),(8,VI m)]) (λm o p d=>[(0,.box [VI 0,VI 0,.sl 3 91 0 (([]:(List Entry)).length)]),(1,.vec 9 (l.1.map encS)),(2,.box [VI o,VI p,.sl 4 91 0 d.length]),(3,.vec 91 (([]:(List Entry)).map encEntry)),(4,.vec 91 (d.map encEntry))]) (.n [2,5,6,7,8] [1000,5112,9208] [] [1000,9208] [1000,5112,9208,20000000,20000064]) λ_ m o p d _ g=>.q e (.a e e (.jk e [2,5,6,7,8] [0,1,2,3,4] (λj=>[.r 2 (.box [VI j.1,VI j.2.1,.sl 4 91 0 j.2.2.length]),.r 4 (.vec 91 (j.2.2.map encEntry))]) (λ_=>e) (λ_=>.B λ_ t=>.st e (Ev.iaW e e e t) e (.st e (Ev.ldE (f:=encS) e e (at_some t).2 e e e) e (.c1 e i q λ_ _=>.q e (.a e e (.J e (.k [2,5,6,7,8] [0,1,2,3,25640])) (.B λ_ u=>.st e (Ev.iaW e e e u) e (.st e (Ev.ldE (f:=encS) e e (at_some u).2 e e e) e (.c0 e i q λw _=>.q e (.q e (.a e e (.Xr g e e (.il (.e e (.E e e (.n [0,1,2] [] [0] [] [10000000]))))) (.a e e (.Xr g e e (.il (.e e (.E e e (.n [0,1,2] [] [0] [] [10000000]))))) (.a e e (.Xr g e e (.il (.e e (.E e e (.n [0,1,2] [] [0] [] [10000000]))))) (.f (hp:=(.cons (.agg (.d2 (.cons (.borrow e (by decide) lw) .nil))) .nil)) (hcase:=λ_=>(.inr ⟨rfl,ownL_root trivial⟩)) [] [4] 0 e i q λ_ _=>.a e e (.Xr g e e (.il (.e e (.E e e (.n [0,1,2] [] [0] [] [10000000]))))) (.st e (Ev.bsW (ys:=([]:List Entry)) (f:=encEntry) e .nil e e e e e) e (.B λ_ x=>.st e (Ev.slWh (xs:=d) e e e x) e (.B λ_ y=>.st e (Ev.apW (f:=encEntry) (ontoW e e e) (addsP e e (λ_=>e)) e bt91 e y) e (.st e (Ev.bsW (ys:=([w.2.1]:List Entry)) (f:=encEntry) e (.d2 (.d1 .nil)) e e e e e) e (.B λ_ v=>.st e (Ev.apW (f:=encEntry) (ontoW e e e) (addsW e e e (λ_=>e)) e bt91 e v) e (.dn e (.J e (.k [2,5,6,7,8] [0,1,2,3,50344])))))))))))))))))))) λj=>.R e (λh=>⟨_,_,_,_,h,e,e⟩) (.k [2,5,6,7,8] [0,1,2,3,4])) (.X g e e (.ir (.n e (.J e (.k [2,5,6,7] [0,1,2,3,4]))))))) λb=>.q e (.q e (.a e e (.E e e (.n [0,1,2] [] [0] [] [10000000])) (.f (hp:=(.cons (.agg (.d2 (.cons (.borrow e (by decide) lw) .nil))) .nil)) (hcase:=λ_=>(.inr ⟨rfl,ownL_root trivial⟩)) [] [4] 0 e i q λ_ _=>.a e e (.E e e (.n [0,1,2] [] [0] [] [10000000])) (.Ek [4] e e e))))
end Go.Proofs.YtmcbbifeekhmgaaGreatDoor.Pe.FnBoots
