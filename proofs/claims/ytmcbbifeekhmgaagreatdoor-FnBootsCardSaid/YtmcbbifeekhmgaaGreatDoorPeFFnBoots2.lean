/- Functions,as pure functions; and that Go does just that. -/
import Derived.Test.YtmcbbifeekhmgaaGreatDoorPeFFnBoots1
namespace Go.Proofs.YtmcbbifeekhmgaaGreatDoor.Pe.FnBoots
open Go Go.RowKit
set_option linter.unusedVariables false
set_option linter.unusedSimpArgs false
set_option maxHeartbeats 40000000
set_option maxRecDepth 100000
def s_MessageOk_l1 (N:Nat)(a:Message):Nat->Int->Int->Option ((Bool)⊕(Unit))
 |0,_,_=>none
 |m+1,c,b=>
 (if decide (b<(a.Entries.length:Int))then
 (at? a.Entries b).bind λd=>
 (s_EntryOk N d).bind λf=>
 (if(!f)then
 some (Sum.inl false)
 else
 (at? a.Entries b).bind λg=>
 (if decide (g.Term<c)then
 some (Sum.inl false)
 else
 (at? a.Entries b).bind λh=>
 (if decide (h.Term>a.Term)then
 some (Sum.inl false)
 else
 (at? a.Entries b).bind λj=>
 s_MessageOk_l1 N a m j.Term (w64 (b+1)))))
 else
 some (Sum.inr ()))
def s_MessageOk (N:Nat)(a:Message):Option (Bool):=
 (s_l01In N a.Kind 1 6).bind λc=>
 (if(!c)then
 some false
 else
 (s_l01In N a.From 1 4).bind λd=>
 (if(!d)then
 some false
 else
 (s_l01In N a.To 1 4).bind λf=>
 (if(!f)then
 some false
 else
 (if(a.From==a.To)then
 some false
 else
 (s_l01In N a.Term 0 100000).bind λg=>
 (if(!g)then
 some false
 else
 (s_l01In N a.LogTerm 0 100000).bind λh=>
 (if(!h)then
 some false
 else
 (s_l01In N a.Index 0 100000).bind λj=>
 (if(!j)then
 some false
 else
 (s_l01In N a.Commit 0 100000).bind λk=>
 (if(!k)then
 some false
 else
 joinP (λ(o:Unit)=>
 joinP (λ(p:Unit)=>
 (if(a.Kind==5)then
 (s_ConfOk N a.Conf).bind λl=>
 (if l then
 some (decide ((a.Data.size:Int)<=60))
 else
 some false)
 else
 (if((a.Conf.length:Int)==0)then
 (if decide (a.Data=(⟨#[]⟩:BA))then
 some (!a.Last)
 else
 some false)
 else
 some false))) λm=>
 (s_MessageOk_l1 N a N a.LogTerm 0).bind (Sum.elim (λn=>some n) (λ(s:Unit)=>m ()))) λb=>
 (if decide ((a.Entries.length:Int)>4)then
 some false
 else
 (if decide ((a.Entries.length:Int)>0)then
 (if(a.Kind !=3)then
 some false
 else
 b ())
 else
 b ()))))))))))
instance i102 (N:Nat)(c:Message):JB 162 (s_MessageOk N c) [.agg (cMessage0 c [])]:=.st e e Tryz.call162 λB r=>.q e (.q e (.c0 e i q λ_ _=>.a e e (.Ek [] e e e) (.c0 e i q λ_ _=>.a e e (.Ek [] e e e) (.c0 e i q λ_ _=>.a e e (.Ek [] e e e) (.a e e (.Ek [] e e e) (.q e (.q e (.c0 e i q λ_ _=>.a e e (.Ek [] e e e) (.c0 e i q λ_ _=>.a e e (.Ek [] e e e) (.c0 e i q λ_ _=>.a e e (.Ek [] e e e) (.c0 e i q λ_ _=>.a e e (.Ek [] e e e) (.jk e [1] [1000] (λ_=>[]) (λ_=>e) (λ_=>.q e (.st e (Ev.lnF e) e (.a e e (.Ek [] e e e) (.st e (Ev.lnF e) e (.a e e (.a e e (.Ek [] e e e) (.J e (.k [1] [1000]))) (.J e (.k [1] [1000]))))))) λ_=>.jk e [1] [0] (λ_=>[]) (λ_=>e) (λ_=>.K2 e [1,3,4] [0] (λd g=>[.f 3 (VI d),.f 4 (VI g)]) (λ_ _=>e) λ_ d g _ b=>.q e (.st e (Ev.lnF e) e (.a e e (.q e (.q e (.q e (.B λ_ j=>.st e (Ev.iaF e e j) e (.c0 e i q λ_ _=>.a e e (.dn e (.Xr b e e (.il (.e e (.Ek [] e e e))))) (.B λ_ l=>.st e (Ev.iaF e e l) e (.a e e (.dn e (.Xr b e e (.il (.e e (.Ek [] e e e))))) (.B λ_ m=>.st e (Ev.iaF e e m) e (.dn e (.a e e (.Xr b e e (.il (.e e (.Ek [] e e e)))) (.B λ_ o=>.st e (Ev.iaF e e o) e (.R e (λh=>⟨_,_,h,e,e⟩) (.k [1,3,4] [0]))))))))))))) (.X b e e (.ir (.n e (.J e (.k [1] [0])))))))) λ_=>.q e (.a e e (.q e (.c0 e i q λ_ _=>.a e e (.Ek [] e e e) (.Ek [] e e e))) (.q e (.st e (Ev.lnF e) e (.a e e (.a e e (.Ek [] e e e) (.Ek [] e e e)) (.Ek [] e e e)))))))))))))))))
def s_l16Follow_i1 (N:Nat)(a:Tl16Run)(b:Int):Option (Tl16Run):=
 some (Tl16Run.mk (Node.mk a.n.Id a.n.Term a.n.Vote 0 b a.n.Conf a.n.Log a.n.Commit a.n.Clock a.n.Limit ([]:List Int) ([]:List Peer)) ([]))
instance i103 (N:Nat)(a:Tl16Run)(b:Int):JG 163 (s_l16Follow_i1 N a b) [.ptr 0 0,VI b] 5 ((0,.box (cNode1 a.n 1 2 3 4 [NI 42]))::(rNode0 a.n 1 2 3 4 [])) (λr=>.tup []) (λr=>[(0,.box [VI r.n.Id,VI r.n.Term,VI r.n.Vote,VI r.n.Role,VI r.n.Lead,.sl 1 3 0 a.n.Conf.length,VI r.n.Log.Start,VI r.n.Log.StartTerm,.sl 2 91 0 a.n.Log.Entries.length,VI r.n.Commit,VI r.n.Clock,VI r.n.Limit,.sl 5 3 0 r.n.Votes.length,.sl 6 195 0 r.n.Peers.length,.sl 7 42 0 r.told.length]),(1,.vec 3 (a.n.Conf.map encI)),(2,.vec 91 (a.n.Log.Entries.map encEntry)),(3,.gone),(4,.gone),(5,.vec 3 (r.n.Votes.map encI)),(6,.vec 195 (r.n.Peers.map encPeer)),(7,.vec 42 (r.told.map (encMessage false)))]):=.st e e Tryz.call163 λB r=>.st e (Ev.bsW (ys:=([]:List Int)) (f:=encI) e .nil e e e e e) e (.st e (Ev.bsW (ys:=([]:List Peer)) (f:=encPeer) e .nil e e e e e) e (.E e e (.g λhB=>(Gh.trans (Gh.trans (Gh.trans (gh_prn [] [0,1,2,3,4,9208,13304] hB e) (gh_mvE [] [3,4] hB e e)) (gh_nil [] [0] hB e e e)) (gh_pk [] [0,1,2,3,4,9208,13304,20000000] hB e e e e)))))
def s_l16AskVote (N:Nat)(a:Tl16Run)(c:Message):Option (Tl16Run):=
 (s_LogLast N a.n.Log).bind λf=>
 joinP (λ(h:Bool)=>
 joinP (λ(j:Bool)=>
 joinP (λ(k:Int×Int)=>
 (s_l16Tell N (Tl16Run.mk (Node.mk a.n.Id a.n.Term k.1 a.n.Role a.n.Lead a.n.Conf a.n.Log a.n.Commit k.2 a.n.Limit a.n.Votes a.n.Peers) a.told) (Message.mk 2 0 c.From 0 0 0 0 j ([]) ([]) (⟨#[]⟩:BA) false)).bind λb=>
 some (Tl16Run.mk (Node.mk b.n.Id b.n.Term b.n.Vote b.n.Role b.n.Lead a.n.Conf (Log.mk b.n.Log.Start b.n.Log.StartTerm a.n.Log.Entries) b.n.Commit b.n.Clock b.n.Limit a.n.Votes a.n.Peers) b.told)) λl=>
 (if j then
 l (c.From,0)
 else
 l (a.n.Vote,a.n.Clock))) λd=>
 (if(c.Term==a.n.Term)then
 (if(a.n.Vote==0)then
 d h
 else
 (if(a.n.Vote==c.From)then
 d h
 else
 d false))
 else
 d false)) λg=>
 (if decide (c.LogTerm>f.2)then
 g true
 else
 (if(c.LogTerm==f.2)then
 g (decide (c.Index>=f.1))
 else
 g false))
instance i104 (N:Nat)(b:Tl16Run)(g:Message):JG 164 (s_l16AskVote N b g) [.ptr 0 0,.agg (cMessage0 g [])] 6 ((0,.box (cTl16Run0 b 1 2 3 4 5 []))::(rTl16Run0 b 1 2 3 4 5 [])) (λr=>.tup []) (λr=>((0,.box [VI r.n.Id,VI r.n.Term,VI r.n.Vote,VI r.n.Role,VI r.n.Lead,.sl 1 3 0 b.n.Conf.length,VI r.n.Log.Start,VI r.n.Log.StartTerm,.sl 2 91 0 b.n.Log.Entries.length,VI r.n.Commit,VI r.n.Clock,VI r.n.Limit,.sl 3 3 0 b.n.Votes.length,.sl 4 195 0 b.n.Peers.length,.sl 6 42 0 r.told.length])::(rNode0 b.n 1 2 3 4 [(5,.gone),(6,.vec 42 (r.told.map (encMessage false)))]))):=.st e e Tryz.call164 λB r=>.f (hp:=(.cons (.agg (.d2 (.cons (.borrow e (by decide) lw) .nil))) .nil)) (hcase:=λ_=>(.inr ⟨rfl,ownL_root trivial⟩)) [] [2] 0 e i q λ_ _=>.jk e [0,3,6] [0,1,2,3,4,5,1000] (λh=>[.f 6 (VB h)]) (λ_=>e) (λ_=>.a e e (.J e (.k [0,3,6] [0,1,2,3,4,5,1000])) (.a e e (.J e (.k [0,3,6] [0,1,2,3,4,5,1000])) (.J e (.k [0,3,6] [0,1,2,3,4,5,1000])))) λh=>.jk e [0,3,7] [0,1,2,3,4,5,6] (λj=>[.f 7 (VB j)]) (λ_=>e) (λ_=>.a e e (.a e e (.dn e (.J e (.k [0,3,7] [0,1,2,3,4,5,6]))) (.a e e (.dn e (.J e (.k [0,3,7] [0,1,2,3,4,5,6]))) (.dn e (.J e (.k [0,3,7] [0,1,2,3,4,5,6]))))) (.dn e (.J e (.k [0,3,7] [0,1,2,3,4,5,6])))) λj=>.jk e [0,3,7] [0,1,2,3,4,5,6] (λd=>[.c 0 2 (VI d.1),.c 0 10 (VI d.2)]) (λ_=>e) (λ_=>.a e e (.J e (.k [0,3,7] [0,1,2,3,4,5,6])) (.J e (.k [0,3,7] [0,1,2,3,4,5,6]))) λd=>.f [0,1,2,3,4,5] [] 1 e i q λ_ _=>.Ek [0,1,2,3,4,5,29752] e e e
def s_l16Elected_i1 (N:Nat)(a:Tl16Run):Option (Bool):=
 (s_ConfOf N a.n).bind λb=>
 (s_Most N b a.n.Votes).bind λc=>
 some c
instance i105 (N:Nat)(a:Tl16Run):JG 159 (s_l16Elected_i1 N a) [.ptr 0 0] 6 ((0,.box (cTl16Run0 a 1 2 3 4 5 []))::(rTl16Run0 a 1 2 3 4 5 [])) (λr=>VB r) (λr=>((0,.box (cTl16Run0 a 1 2 3 4 5 []))::(rTl16Run0 a 1 2 3 4 5 []))):=.st e e Tryz.call159 λB r=>.f (hp:=(.cons (.agg (.d4 (.d1 (.cons (.borrow e (by decide) lw) (.d2 (.cons (.borrow e (by decide) lw) (.d2 (.d1 (.cons (.borrow e (by decide) lw) (.cons (.borrow e (by decide) lw) .nil)))))))))) .nil)) (hcase:=λ_=>(.inr ⟨rfl,ownL_root ⟨own_rows (λ_=>e) _,trivial⟩⟩)) [] [1,2,3,4] 1 e i q λ_ _=>.f (hp:=(.cons (.borrow e (by decide) lw) (.cons (.borrow e (by decide) lw) .nil))) (hcase:=λ_=>(.inr ⟨rfl,ownL_root trivial⟩)) [] [5160,3] 0 e i q λ_ _=>.dn e (.Ek [0,1,2,3,4,5] e e e)
def s_l16TellVote_l1 (N:Nat)(d:Tl16Run)(f:Message):Nat->Int->(List Int)->Option ((List Int))
 |0,_,_=>none
 |m+1,a,b=>
 (if decide (a<=4)then
 joinP (λ(g:List Int)=>
 s_l16TellVote_l1 N d f m (w64 (a+1)) g) λc=>
 (if(a==f.From)then
 (cat? b ([a]:List Int)).bind λh=>
 c h
 else
 (s_l09In N d.n.Votes a).bind λj=>
 (if j then
 (cat? b ([a]:List Int)).bind λk=>
 c k
 else
 c b))
 else
 some b)
def s_l16TellVote (N:Nat)(a:Tl16Run)(b:Message):Option (Tl16Run):=
 (if(!b.Ok)then
 some a
 else
 (if(b.Term !=a.n.Term)then
 some a
 else
 (if(a.n.Role !=1)then
 some a
 else
 joinP (λ(c:List Int)=>
 (s_l16Elected_i1 N (Tl16Run.mk (Node.mk a.n.Id a.n.Term a.n.Vote a.n.Role a.n.Lead a.n.Conf a.n.Log a.n.Commit a.n.Clock a.n.Limit c a.n.Peers) a.told)).bind λd=>
 (if d then
 (s_l16Lead N (Tl16Run.mk (Node.mk a.n.Id a.n.Term a.n.Vote a.n.Role a.n.Lead a.n.Conf a.n.Log a.n.Commit a.n.Clock a.n.Limit c a.n.Peers) a.told)).bind λf=>
 some f
 else
 some (Tl16Run.mk (Node.mk a.n.Id a.n.Term a.n.Vote a.n.Role a.n.Lead a.n.Conf a.n.Log a.n.Commit a.n.Clock a.n.Limit c a.n.Peers) a.told))) λg=>
 (s_l16TellVote_l1 N a b N 1 ([]:List Int)).bind (λh=>g h))))
instance i106 (N:Nat)(c:Tl16Run)(l:Message):JG 165 (s_l16TellVote N c l) [.ptr 0 0,.agg (cMessage0 l [])] 6 ((0,.box (cTl16Run0 c 1 2 3 4 5 []))::(rTl16Run0 c 1 2 3 4 5 [])) (λr=>.tup []) (λr=>((0,.box (cTl16Run0 r 6 7 8 9 10 []))::(1,.gone)::(2,.gone)::(3,.gone)::(4,.gone)::(5,.gone)::(rTl16Run0 r 6 7 8 9 10 []))):=.st e e Tryz.call165 λB r=>.q e (.q e (.a e e (.dn e (.E e e (.mv [] [0,1,2,3,4,5] [1,2,3,4,5] [0,1,2,3,4,5,30000001,30000002,30000003,30000004,30000005]))) (.a e e (.dn e (.E e e (.mv [] [0,1,2,3,4,5] [1,2,3,4,5] [0,1,2,3,4,5,30000001,30000002,30000003,30000004,30000005]))) (.dn e (.a e e (.E e e (.mv [] [0,1,2,3,4,5] [1,2,3,4,5] [0,1,2,3,4,5,30000001,30000002,30000003,30000004,30000005])) (.st e (Ev.bsW (ys:=([]:List Int)) (f:=encI) e .nil e e e e e) e (.jk e [0,4] [0,1,2,3,4,5,9192] (λd=>[.f 4 (.sl 6 3 0 d.length),.r 6 (.vec 3 (d.map encI))]) (λ_=>e) (λ_=>.K2 e [0,3,4,5] [0,1,2,3,4,5,1000,9192] (λb g=>[.f 4 (.sl 7 3 0 g.length),.f 5 (VI b),.r 7 (.vec 3 (g.map encI))]) (λ_ _=>e) λ_ b g _ m=>.q e (.a e e (.jk e [0,3,4,5] [0,1,2,3,4,5,6,7] (λj=>[.f 4 (.sl 7 3 0 j.length),.r 7 (.vec 3 (j.map encI))]) (λ_=>e) (λ_=>.q e (.a e e (.st e (Ev.bsW (ys:=([b]:List Int)) (f:=encI) e (.d1 .nil) e e e e e) e (.B λ_ o=>.st e (Ev.apW (f:=encI) (ontoW e e e) (addsW e e e (λ_=>e)) e bt3 e o) e (.J e (.k [0,3,4,5] [0,1,2,3,4,5,6,29720])))) (.f (hp:=(.cons (.borrow e (by decide) lw) (.d1 .nil))) (hcase:=λ_=>(.inr ⟨rfl,ownL_root trivial⟩)) [] [3] 0 e i q λ_ _=>.a e e (.st e (Ev.bsW (ys:=([b]:List Int)) (f:=encI) e (.d1 .nil) e e e e e) e (.B λ_ p=>.st e (Ev.apW (f:=encI) (ontoW e e e) (addsW e e e (λ_=>e)) e bt3 e p) e (.J e (.k [0,3,4,5] [0,1,2,3,4,5,6,29720])))) (.J e (.k [0,3,4,5] [0,1,2,3,4,5,6,7]))))) λj=>.R e (λh=>⟨_,_,h,e,e⟩) (.k [0,3,4,5] [0,1,2,3,4,5,6,7])) (.X m e e (.n e (.J e (.k [0,4] [0,1,2,3,4,5,7])))))) λd=>.f [0,1,2,6,4,5] [] 0 e i q λ_ _=>.a e e (.f [0,1,2,6,4,5] [] 5 e i q λ_ _=>.E e e (.mv [] [0,1,2,3,4,5,41976,41977,41978,41979,41980] [3] [0,1,2,3,4,5,41976,41977,41978,41979,41980])) (.E e e (.mv [] [0,1,2,3,4,5,6] [1,2,3,4,5] [0,1,2,3,4,5,30000001,30000002,6,30000004,30000005])))))))))
def s_l16Refuse (N:Nat)(b:Tl16Run)(c:Message)(d:Int):Option (Tl16Run):=
 (s_l16Tell N b (Message.mk 4 0 c.From 0 d 0 0 false ([]) ([]) (⟨#[]⟩:BA) false)).bind λa=>
 some (Tl16Run.mk (Node.mk a.n.Id a.n.Term a.n.Vote a.n.Role a.n.Lead b.n.Conf (Log.mk a.n.Log.Start a.n.Log.StartTerm b.n.Log.Entries) a.n.Commit a.n.Clock a.n.Limit b.n.Votes b.n.Peers) a.told)
instance i107 (N:Nat)(a:Tl16Run)(b:Message)(c:Int):JG 226 (s_l16Refuse N a b c) [.ptr 0 0,.agg (cMessage0 b []),VI c] 6 ((0,.box (cTl16Run0 a 1 2 3 4 5 []))::(rTl16Run0 a 1 2 3 4 5 [])) (λr=>.tup []) (λr=>((0,.box [VI r.n.Id,VI r.n.Term,VI r.n.Vote,VI r.n.Role,VI r.n.Lead,.sl 1 3 0 a.n.Conf.length,VI r.n.Log.Start,VI r.n.Log.StartTerm,.sl 2 91 0 a.n.Log.Entries.length,VI r.n.Commit,VI r.n.Clock,VI r.n.Limit,.sl 3 3 0 a.n.Votes.length,.sl 4 195 0 a.n.Peers.length,.sl 6 42 0 r.told.length])::(rNode0 a.n 1 2 3 4 [(5,.gone),(6,.vec 42 (r.told.map (encMessage false)))]))):=.st e e Tryz.call226 λB r=>.f [0,1,2,3,4,5] [] 1 e i q λ_ _=>.Ek [0,1,2,3,4,5,5176] e e e
def s_l16AskAppend_l1 (N:Nat)(d:Tl16Run)(c:Tl16Run)(b:Int×Int×(List Entry)):Nat->Int->Option (Int)
 |0,_=>none
 |m+1,a=>
 (if decide (a<(b.2.2.length:Int))then
 (s_LogTerm N (Log.mk c.n.Log.Start c.n.Log.StartTerm d.n.Log.Entries) (w64 ((w64 (b.1+1))+a))).bind λf=>
 (at? b.2.2 a).bind λg=>
 (if(f==g.Term)then
 s_l16AskAppend_l1 N d c b m (w64 (a+1))
 else
 some a)
 else
 some a)
def s_l16AskAppend (N:Nat)(b:Tl16Run)(d:Message):Option (Tl16Run):=
 (s_l12Last N b.n.Log).bind λm=>
 (if decide (d.Term<b.n.Term)then
 (s_l16Refuse N b d 0).bind λf=>
 some (Tl16Run.mk (Node.mk f.n.Id f.n.Term f.n.Vote f.n.Role f.n.Lead b.n.Conf (Log.mk f.n.Log.Start f.n.Log.StartTerm b.n.Log.Entries) f.n.Commit f.n.Clock f.n.Limit b.n.Votes b.n.Peers) f.told)
 else
 (s_l16Follow N b d.From).bind λa=>
 joinP (λ(c:Int×Int×(List Entry))=>
 (s_LogTerm N (Log.mk a.n.Log.Start a.n.Log.StartTerm b.n.Log.Entries) c.1).bind λa1=>
 (if(a1 !=c.2.1)then
 joinP (λ(o:Int)=>
 joinP (λ(a2:Int)=>
 (s_l16Refuse N (Tl16Run.mk (Node.mk a.n.Id a.n.Term a.n.Vote a.n.Role a.n.Lead b.n.Conf (Log.mk a.n.Log.Start a.n.Log.StartTerm b.n.Log.Entries) a.n.Commit 0 a.n.Limit a.n.Votes a.n.Peers) b.told) ({ d with Index:=c.1,LogTerm:=c.2.1,Entries:=c.2.2 }) a2).bind λg=>
 some (Tl16Run.mk (Node.mk g.n.Id g.n.Term g.n.Vote g.n.Role g.n.Lead b.n.Conf (Log.mk g.n.Log.Start g.n.Log.StartTerm b.n.Log.Entries) g.n.Commit g.n.Clock g.n.Limit a.n.Votes a.n.Peers) g.told)) λp=>
 (if decide (o>m)then
 p m
 else
 p o)) λs=>
 (if decide ((w64 (c.1-1))<0)then
 s 0
 else
 s (w64 (c.1-1)))
 else
 joinP (λ(l:Int)=>
 joinP (λ(t:List Entry)=>
 joinP (λ(u:Int)=>
 joinP (λ(a3:Int)=>
 (s_l16Tell N (Tl16Run.mk (Node.mk a.n.Id a.n.Term a.n.Vote a.n.Role a.n.Lead b.n.Conf (Log.mk a.n.Log.Start a.n.Log.StartTerm t) a3 0 a.n.Limit a.n.Votes a.n.Peers) b.told) (Message.mk 4 0 d.From 0 (w64 (c.1+(c.2.2.length:Int))) 0 0 true ([]) ([]) (⟨#[]⟩:BA) false)).bind λh=>
 some (Tl16Run.mk (Node.mk h.n.Id h.n.Term h.n.Vote h.n.Role h.n.Lead b.n.Conf (Log.mk h.n.Log.Start h.n.Log.StartTerm t) h.n.Commit h.n.Clock h.n.Limit a.n.Votes a.n.Peers) h.told)) λw=>
 (if decide (u>a.n.Commit)then
 w u
 else
 w a.n.Commit)) λx=>
 (if(decide (d.Commit>(w64 (c.1+(c.2.2.length:Int)))))then
 x (w64 (c.1+(c.2.2.length:Int)))
 else
 x d.Commit)) λy=>
 (if decide (l<(c.2.2.length:Int))then
 (take? b.n.Log.Entries (w64 ((w64 (c.1+l))-a.n.Log.Start))).bind λb1=>
 (cat? ([]:List Entry) (b.n.Log.Entries.take ((w64 ((w64 (c.1+l))-a.n.Log.Start)).toNat))).bind λa4=>
 (drop? c.2.2 l).bind λa5=>
 (cat? a4 a5).bind λv=>
 (if decide ((w64 (c.1+l))<a.n.Commit)then
 (s_l16Refuse N (Tl16Run.mk (Node.mk a.n.Id a.n.Term a.n.Vote a.n.Role a.n.Lead b.n.Conf (Log.mk a.n.Log.Start a.n.Log.StartTerm b.n.Log.Entries) a.n.Commit 0 a.n.Limit a.n.Votes a.n.Peers) b.told) ({ d with Index:=c.1,LogTerm:=c.2.1,Entries:=c.2.2 }) m).bind λj=>
 some (Tl16Run.mk (Node.mk j.n.Id j.n.Term j.n.Vote j.n.Role j.n.Lead b.n.Conf (Log.mk j.n.Log.Start j.n.Log.StartTerm b.n.Log.Entries) j.n.Commit j.n.Clock j.n.Limit a.n.Votes a.n.Peers) j.told)
 else
 (s_LogOk N (Log.mk a.n.Log.Start a.n.Log.StartTerm v)).bind λa6=>
 (if(!a6)then
 (s_l16Refuse N (Tl16Run.mk (Node.mk a.n.Id a.n.Term a.n.Vote a.n.Role a.n.Lead b.n.Conf (Log.mk a.n.Log.Start a.n.Log.StartTerm b.n.Log.Entries) a.n.Commit 0 a.n.Limit a.n.Votes a.n.Peers) b.told) ({ d with Index:=c.1,LogTerm:=c.2.1,Entries:=c.2.2 }) m).bind λk=>
 some (Tl16Run.mk (Node.mk k.n.Id k.n.Term k.n.Vote k.n.Role k.n.Lead b.n.Conf (Log.mk k.n.Log.Start k.n.Log.StartTerm b.n.Log.Entries) k.n.Commit k.n.Clock k.n.Limit a.n.Votes a.n.Peers) k.told)
 else
 y v))
 else
 y b.n.Log.Entries)) λa7=>
 (s_l16AskAppend_l1 N b a c N 0).bind (λa8=>a7 a8))) λz=>
 (if decide (d.Index<a.n.Log.Start)then
 joinP (λ(a9:Int)=>
 (drop? d.Entries a9).bind λb0=>
 z (a.n.Log.Start,a.n.Log.StartTerm,b0)) λa0=>
 (if decide ((w64 (a.n.Log.Start-d.Index))>(d.Entries.length:Int))then
 a0 (d.Entries.length:Int)
 else
 a0 (w64 (a.n.Log.Start-d.Index)))
 else
 z (d.Index,d.LogTerm,d.Entries)))
instance i108 (N:Nat)(l:Tl16Run)(d:Message):JG 166 (s_l16AskAppend N l d) [.ptr 0 0,.agg (cMessage0 d [])] 6 ((0,.box (cTl16Run0 l 1 2 3 4 5 []))::(rTl16Run0 l 1 2 3 4 5 [])) (λr=>.tup []) (λr=>((0,.box (cTl16Run0 r 6 7 8 9 10 []))::(1,.gone)::(2,.gone)::(3,.gone)::(4,.gone)::(5,.gone)::(rTl16Run0 r 6 7 8 9 10 []))):=.st e e Tryz.call166 λB r=>.f (hp:=(.cons (.agg (.d2 (.cons (.borrow e (by decide) lw) .nil))) .nil)) (hcase:=λ_=>(.inr ⟨rfl,ownL_root trivial⟩)) [] [2] 0 e i q λ_ _=>.q e (.dn e (.a e e (.f [0,1,2,3,4,5] [] 1 e i q λ_ _=>.E e e (.mv [] [0,1,2,3,4,5,13320] [1,2,3,4] [0,1,2,3,4,5,30000001,30000002,30000003,30000004,13320])) (.f [0,1,2,3,4,5] [] 2 e i q λb _=>.jk e [0,3,4,5] [0,1,2,3,4,5,1000,25656,17432,17433] (λg=>[.c 6 4 (VI g.1),.c 6 5 (VI g.2.1),.c 6 8 (RO 91 (g.2.2.map encEntry))]) (λ_=>e) (λ_=>.a e e (.jk e [0,3,4,5,6] [0,1,2,3,4,5,1000,25656,17432,17433] (λo=>[.f 6 (VI o)]) (λ_=>e) (λ_=>.st e (Ev.lnF e) e (.a e e (.st e (Ev.lnF e) e (.J e (.k [0,3,4,5,6] [0,1,2,3,4,5,1000,25656,17432,17433]))) (.J e (.k [0,3,4,5,6] [0,1,2,3,4,5,1000,25656,17432,17433])))) λo=>.B λ_ v=>.st e (Ev.slFl e e v) e (.J e (.k [0,3,4,5] [0,1,2,3,4,5,6,7,8,9]))) (.J e (.k [0,3,4,5] [0,1,2,3,4,5,1000,25656,17432,17433]))) λg=>.q e (.f (hp:=(.cons (.agg (.d2 (.cons (.borrow e (by decide) lw) .nil))) (.d1 .nil))) (hcase:=λ_=>(.inr ⟨rfl,ownL_root trivial⟩)) [] [2] 0 e i q λ_ _=>.dn e (.a e e (.jk e [0,3,4,7] [0,1,2,3,4,5,6,8,9] (λp=>[.f 7 (VI p)]) (λ_=>e) (λ_=>.a e e (.J e (.k [0,3,4,7] [0,1,2,3,4,5,6,8,9])) (.J e (.k [0,3,4,7] [0,1,2,3,4,5,6,8,9]))) λp=>.jk e [0,3,7] [0,1,2,3,4,5,6,7,8] (λs=>[.f 7 (VI s)]) (λ_=>e) (λ_=>.a e e (.J e (.k [0,3,7] [0,1,2,3,4,5,6,7,8])) (.J e (.k [0,3,7] [0,1,2,3,4,5,6,7,8]))) λs=>.f [0,1,2,7,8,5] [] 1 e i q λ_ _=>.E e e (.mv [] [0,1,2,3,4,5,7,8,82968] [1,2] [0,1,2,3,4,5,30000001,30000002,7,8,82968])) (.jk e [0,3,4,5,8] [0,1,2,3,4,5,6,7,8,9] (λt=>[.f 8 (VI t)]) (λ_=>e) (λ_=>.K1 e [0,3,4,5,8] [0,1,2,3,4,5,6,7,8,9] (λu=>[.f 8 (VI u)]) (λ_=>e) λ_ u _ w=>.q e (.q e (.st e (Ev.lnF e) e (.a e e (.f (hp:=(.cons (.agg (.d2 (.cons (.borrow e (by decide) lw) .nil))) (.d1 .nil))) (hcase:=λ_=>(.inr ⟨rfl,ownL_root trivial⟩)) [] [2] 0 e i q λ_ _=>.B λ_ z=>.st e (Ev.iaF e e z) e (.dn e (.a e e (.R e (λh=>⟨_,h,e,e⟩) (.k [0,3,4,5,8] [0,1,2,3,4,5,6,7,8,9])) (.X w e e (.n e (.J e (.k [0,3,4,5,8] [0,1,2,3,4,5,6,7,8,9]))))))) (.dn e (.X w e e (.n e (.J e (.k [0,3,4,5,8] [0,1,2,3,4,5,6,7,8,9]))))))))) λt=>.st e (Ev.lnF e) e (.j e (λm=>[(0,.ptr 0 0),(3,.ptr 6 0),(9,VI (w64 (g.1+(g.2.2.length:Int))))]) (λm=>[(0,.box [VI b.n.Id,VI b.n.Term,VI b.n.Vote,VI b.n.Role,VI b.n.Lead,.sl 7 3 0 l.n.Conf.length,VI b.n.Log.Start,VI b.n.Log.StartTerm,.sl 8 91 0 m.length,VI b.n.Commit,VI 0,VI b.n.Limit,.sl 9 3 0 b.n.Votes.length,.sl 10 195 0 b.n.Peers.length,.sl 11 42 0 l.told.length]),(1,.gone),(2,.gone),(3,.gone),(4,.gone),(5,.gone),(6,.box [VI d.Kind,VI d.From,VI d.To,VI d.Term,VI g.1,VI g.2.1,VI d.Commit,VB d.Ok,RO 91 (g.2.2.map encEntry),RO 3 (d.Conf.map encI),VS d.Data,VB d.Last]),(7,.vec 3 (l.n.Conf.map encI)),(8,.vec 91 (m.map encEntry)),(9,.vec 3 (b.n.Votes.map encI)),(10,.vec 195 (b.n.Peers.map encPeer)),(11,.vec 42 (l.told.map (encMessage false)))]) (λ_=>.st e (Ev.lnF e) e (.a e e (.st e (Ev.bsW (ys:=([]:List Entry)) (f:=encEntry) e .nil e e e e e) e (.B λ_ a0=>.st e (Ev.slWh (xs:=l.n.Log.Entries) e e e a0) e (.B λ_ a1=>.st e (Ev.apW (f:=encEntry) (ontoW e e e) (addsP e e (λ_=>e)) e bt91 e a1) e (.B λ_ a2=>.st e (Ev.slFl e e a2) e (.B λ_ a3=>.st e (Ev.apW (f:=encEntry) (ontoW e e e) (addsF e) e bt91 e a3) e (.dn e (.q e (.q e (.a e e (.dn e (.f [0,1,2,8,9,5] [] 1 e i q λ_ _=>.E e e (.mv [] [0,1,2,3,4,5,8,9,119832] [1,2] [0,1,2,3,4,5,30000001,30000002,8,9,119832]))) (.f (hp:=(.cons (.agg (.d2 (.cons (.borrow e (by decide) lw) .nil))) .nil)) (hcase:=λ_=>(.inr ⟨rfl,ownL_root trivial⟩)) [] [111816] 0 e i q λ_ _=>.dn e (.a e e (.f [0,1,2,8,9,5] [] 1 e i q λ_ _=>.E e e (.mv [] [0,1,2,3,4,5,8,9,119832] [1,2] [0,1,2,3,4,5,30000001,30000002,8,9,119832])) (.J e (.mv [0,3,9] [0,1,2,3,4,5,6,111816,8,9] [1,2,5] [0,1,2,3,4,5,6,30000001,111816,8,9,30000005]))))))))))))) (.J e (.mv [0,3,9] [0,1,2,3,4,5,6,8,9] [1,2,5] [0,1,2,3,4,5,6,30000001,30000002,8,9,30000005])))) λm=>.jk e [0,3,9,12] [0,1,2,3,4,5,6,7,8,9,10,11] (λx=>[.f 12 (VI x)]) (λ_=>e) (λ_=>.a e e (.J e (.k [0,3,9,12] [0,1,2,3,4,5,6,7,8,9,10,11])) (.J e (.k [0,3,9,12] [0,1,2,3,4,5,6,7,8,9,10,11]))) λx=>.jk e [0,3,9] [0,1,2,3,4,5,6,7,8,9,10,11] (λy=>[.c 0 9 (VI y)]) (λ_=>e) (λ_=>.a e e (.J e (.k [0,3,9] [0,1,2,3,4,5,6,7,8,9,10,11])) (.J e (.k [0,3,9] [0,1,2,3,4,5,6,7,8,9,10,11]))) λy=>.f [0,7,8,9,10,11] [] 1 e i q λ_ _=>.Ek [0,1,2,3,4,5,7,8,9,10,148536] e e e)))))))
def s_l16Reply_l1 (N:Nat)(b:Tl16Run)(c:Message):Nat->Int->Int->Option (Int)
 |0,_,_=>none
 |m+1,d,a=>
 (if decide (a<(b.n.Peers.length:Int))then
 joinP (λ(g:Int)=>
 s_l16Reply_l1 N b c m g (w64 (a+1))) λf=>
 (at? b.n.Peers a).bind λh=>
 (if(h.Id==c.From)then
 f a
 else
 f d)
 else
 some d)
def s_l16Reply (N:Nat)(a:Tl16Run)(c:Message):Option (Tl16Run):=
 (if(c.Term !=a.n.Term)then
 some a
 else
 (if(a.n.Role !=2)then
 some a
 else
 joinP (λ(h:Int)=>
 (if decide (h<0)then
 some a
 else
 (s_l12Last N a.n.Log).bind λm=>
 (at? a.n.Peers h).bind λb=>
 (if c.Ok then
 joinP (λ(o:Int)=>
 joinP (λ(k:Int)=>
 joinP (λ(p:Int)=>
 (at? a.n.Peers h).bind λz=>
 (s_l16Commit N (Tl16Run.mk (Node.mk a.n.Id a.n.Term a.n.Vote a.n.Role a.n.Lead a.n.Conf a.n.Log a.n.Commit a.n.Clock a.n.Limit a.n.Votes (a.n.Peers.set h.toNat (Peer.mk b.Id (w64 (k+1)) k p))) a.told)).bind λg=>
 (if(g.n.Role==2)then
 (if decide ((w64 (k+1))<=m)then
 (s_l16Send N g (Peer.mk b.Id (w64 (k+1)) k p)).bind λd=>
 some (Tl16Run.mk (Node.mk d.n.Id d.n.Term d.n.Vote d.n.Role d.n.Lead g.n.Conf (Log.mk d.n.Log.Start d.n.Log.StartTerm g.n.Log.Entries) d.n.Commit d.n.Clock d.n.Limit g.n.Votes g.n.Peers) d.told)
 else
 some g)
 else
 some g)) λs=>
 (if(c.Kind==6)then
 s 0
 else
 s b.Sent)) λt=>
 (if decide (o>b.Match)then
 t o
 else
 t b.Match)) λu=>
 (if decide (c.Index>m)then
 u m
 else
 u c.Index)
 else
 joinP (λ(j:Int×Int)=>
 (at? a.n.Peers h).bind λa0=>
 (s_l16Send N (Tl16Run.mk (Node.mk a.n.Id a.n.Term a.n.Vote a.n.Role a.n.Lead a.n.Conf a.n.Log a.n.Commit a.n.Clock a.n.Limit a.n.Votes (a.n.Peers.set h.toNat (Peer.mk b.Id j.1 b.Match j.2))) a.told) (Peer.mk b.Id j.1 b.Match j.2)).bind λf=>
 some (Tl16Run.mk (Node.mk f.n.Id f.n.Term f.n.Vote f.n.Role f.n.Lead a.n.Conf (Log.mk f.n.Log.Start f.n.Log.StartTerm a.n.Log.Entries) f.n.Commit f.n.Clock f.n.Limit a.n.Votes (a.n.Peers.set h.toNat (Peer.mk b.Id j.1 b.Match j.2))) f.told)) λl=>
 (if(c.Kind==6)then
 (if(c.Index==a.n.Log.Start)then
 (if decide (c.Commit<=20000)then
 l (b.Next,c.Commit)
 else
 l (b.Next,0))
 else
 l (b.Next,0))
 else
 joinP (λ(w:Int)=>
 (if decide (w<b.Next)then
 l (w,b.Sent)
 else
 l (b.Next,b.Sent))) λx=>
 (if decide ((w64 (c.Index+1))<(w64 (b.Match+1)))then
 x (w64 (b.Match+1))
 else
 x (w64 (c.Index+1))))))) λy=>
 (s_l16Reply_l1 N a c N (-1:Int) 0).bind (λv=>y v)))
instance i109 (N:Nat)(b:Tl16Run)(d:Message):Sem Tryz.prog 167 (s_l16Reply N b d) [.ptr 0 0,.agg [VI d.Kind,VI d.From,VI d.To,VI d.Term,VI d.Index,VI d.LogTerm,VI d.Commit,VB d.Ok,RO 91 (d.Entries.map encEntry),RO 3 (d.Conf.map encI),VS d.Data,VB d.Last]] 6 [(0,.box [VI b.n.Id,VI b.n.Term,VI b.n.Vote,VI b.n.Role,VI b.n.Lead,.sl 1 3 0 b.n.Conf.length,VI b.n.Log.Start,VI b.n.Log.StartTerm,.sl 2 91 0 b.n.Log.Entries.length,VI b.n.Commit,VI b.n.Clock,VI b.n.Limit,.sl 3 3 0 b.n.Votes.length,.sl 4 195 0 b.n.Peers.length,.sl 5 42 0 b.told.length]),(1,.vec 3 (b.n.Conf.map encI)),(2,.vec 91 (b.n.Log.Entries.map encEntry)),(3,.vec 3 (b.n.Votes.map encI)),(4,.vec 195 (b.n.Peers.map encPeer)),(5,.vec 42 (b.told.map (encMessage false)))] (λr=>.tup []) (λr=>[(0,.box [VI r.n.Id,VI r.n.Term,VI r.n.Vote,VI r.n.Role,VI r.n.Lead,.sl 6 3 0 r.n.Conf.length,VI r.n.Log.Start,VI r.n.Log.StartTerm,.sl 7 91 0 r.n.Log.Entries.length,VI r.n.Commit,VI r.n.Clock,VI r.n.Limit,.sl 8 3 0 r.n.Votes.length,.sl 9 195 0 r.n.Peers.length,.sl 10 42 0 r.told.length]),(1,.gone),(2,.gone),(3,.gone),(4,.gone),(5,.gone),(6,.vec 3 (r.n.Conf.map encI)),(7,.vec 91 (r.n.Log.Entries.map encEntry)),(8,.vec 3 (r.n.Votes.map encI)),(9,.vec 195 (r.n.Peers.map encPeer)),(10,.vec 42 (r.told.map (encMessage false)))]):=by
 refine .st e e Tryz.call167 λB r=>(.q e (.q e (.a e e ?_ ?_)))
 ·exact .dn e (.E e e (.mv [] [0,1,2,3,4,5] [1,2,3,4,5] [0,1,2,3,4,5,30000001,30000002,30000003,30000004,30000005]))
 ·refine .dn e (.a e e ?_ ?_)
  ·exact .E e e (.mv [] [0,1,2,3,4,5] [1,2,3,4,5] [0,1,2,3,4,5,30000001,30000002,30000003,30000004,30000005])
  ·refine .jk e [0,3,4] [0,1,2,3,4,5,1000] (λm=>[.f 4 (VI m)]) (λ_=>e) (λ_=> ?_) λm=> ?_
   ·refine .K2 e [0,3,4,5] [0,1,2,3,4,5,1000] (λp s=>[.f 4 (VI p),.f 5 (VI s)]) (λ_ _=>e) λ_ p s _ a0=>(.q e (.a e e ?_ ?_))
    ·refine .jk e [0,3,4,5] [0,1,2,3,4,5,6] (λt=>[.f 4 (VI t)]) (λ_=>e) (λ_=> ?_) λt=> ?_
     ·refine .B λ_ u=>(.st e (Ev.iaW e e e u) e (.st e (Ev.ldE (f:=encPeer) e e (at_some u).2 e e e) e (.dn e (.a e e ?_ ?_))))
      ·exact .J e (.k [0,3,4,5] [0,1,2,3,4,5,6])
      ·exact .J e (.k [0,3,4,5] [0,1,2,3,4,5,6])
     ·exact .R e (λh=>⟨_,_,h,e,e⟩) (.k [0,3,4,5] [0,1,2,3,4,5,6])
    ·exact .X a0 e e (.n e (.J e (.k [0,3,4] [0,1,2,3,4,5,6])))
   ·refine .q e (.a e e ?_ ?_)
    ·exact .E e e (.mv [] [0,1,2,3,4,5] [1,2,3,4,5] [0,1,2,3,4,5,30000001,30000002,30000003,30000004,30000005])
    ·refine .f (hp:=(.cons (.agg (.d2 (.cons (.borrow e (by decide) lw) .nil))) .nil)) (hcase:=λ_=>(.inr ⟨rfl,ownL_root trivial⟩)) [] [2] 0 e i q λ_ _=> ?_
     refine .B λj w=>(.st e (Ev.iaW e e e w) e (.st e (Ev.ldE (f:=encPeer) e e (at_some w).2 e e e) e (.q e (.a e e ?_ ?_))))
     ·refine .jk e [0,3,4,6,7,8] [0,1,2,3,4,5,6,42088] (λx=>[.f 8 (VI x)]) (λ_=>e) (λ_=> ?_) λx=> ?_
      ·refine .a e e ?_ ?_
       ·exact .J e (.k [0,3,4,6,7,8] [0,1,2,3,4,5,6,42088])
       ·exact .J e (.k [0,3,4,6,7,8] [0,1,2,3,4,5,6,42088])
      ·refine .jk e [0,3,4,6,7] [0,1,2,3,4,5,6,7] (λl=>[.c 7 2 (VI l)]) (λ_=>e) (λ_=> ?_) λl=> ?_
       ·refine .a e e ?_ ?_
        ·exact .J e (.k [0,3,4,6,7] [0,1,2,3,4,5,6,7])
        ·exact .J e (.k [0,3,4,6,7] [0,1,2,3,4,5,6,7])
       ·refine .jk e [0,4,6,7] [0,1,2,3,4,5,7] (λo=>[.c 6 3 (VI o)]) (λ_=>e) (λ_=> ?_) λo=> ?_
        ·refine .a e e ?_ ?_
         ·exact .J e (.k [0,4,6,7] [0,1,2,3,4,5,7])
         ·exact .J e (.k [0,4,6,7] [0,1,2,3,4,5,7])
        ·refine .B λ_ y=>(.st e (Ev.iaW e e e y) e (.st e (Ev.stE (f:=encPeer) (v':=(Peer.mk j.Id (w64 (l+1)) l o)) e e (at_some y).2 e (.d4 .nil) e e e e e) e (.dn e (.B λ_ a1=> ?_))))
         have qy_439:=(inferInstance:Sem Tryz.prog 173 (s_l16Commit N (Tl16Run.mk (Node.mk b.n.Id b.n.Term b.n.Vote b.n.Role b.n.Lead b.n.Conf b.n.Log b.n.Commit b.n.Clock b.n.Limit b.n.Votes (b.n.Peers.set m.toNat (Peer.mk j.Id (w64 (l+1)) l o))) b.told)) _ _ _ _ _).says _ a1
         simp only[cTl16Run0,rTl16Run0,List.length_set]at qy_439
         refine .st e (Ev.call [0,1,2,3,4,5] [] 5 qy_439 e e (.cons (.ptr e) .nil) e (.inl e) e e) e (.q e (.q e (.a e e ?_ ?_)))
         ·refine .a e e ?_ ?_
          ·exact .f [0,87032,87033,87034,87035,87036] [] 1 e i q λ_ _=>(.Ek [0,1,2,3,4,5,87032,87033,87034,87035,95240] e e e)
          ·exact .Ek [0,1,2,3,4,5,87032,87033,87034,87035,87036] e e e
         ·exact .Ek [0,1,2,3,4,5,87032,87033,87034,87035,87036] e e e
     ·refine .jk e [0,4,7] [0,1,2,3,4,5,42088] (λg=>[.c 6 1 (VI g.1),.c 6 3 (VI g.2)]) (λ_=>e) (λ_=> ?_) λg=> ?_
      ·refine .a e e ?_ ?_
       ·refine .q e (.a e e ?_ ?_)
        ·refine .dn e (.a e e ?_ ?_)
         ·exact .J e (.k [0,4,7] [0,1,2,3,4,5,42088])
         ·exact .J e (.k [0,4,7] [0,1,2,3,4,5,42088])
        ·exact .dn e (.J e (.k [0,4,7] [0,1,2,3,4,5,42088]))
       ·refine .jk e [0,4,7,9] [0,1,2,3,4,5,42088] (λv=>[.f 9 (VI v)]) (λ_=>e) (λ_=> ?_) λv=> ?_
        ·refine .a e e ?_ ?_
         ·exact .J e (.k [0,4,7,9] [0,1,2,3,4,5,42088])
         ·exact .J e (.k [0,4,7,9] [0,1,2,3,4,5,42088])
        ·refine .a e e ?_ ?_
         ·exact .J e (.k [0,4,7] [0,1,2,3,4,5,6])
         ·exact .J e (.k [0,4,7] [0,1,2,3,4,5,6])
      ·refine .B λ_ z=>(.st e (Ev.iaW e e e z) e (.st e (Ev.stE (f:=encPeer) (v':=(Peer.mk j.Id g.1 j.Match g.2)) e e (at_some z).2 e (.d4 .nil) e e e e e) e (.dn e (.B λ_ a2=> ?_))))
       have qy_467:=(inferInstance:Sem Tryz.prog 224 (s_l16Send N (Tl16Run.mk (Node.mk b.n.Id b.n.Term b.n.Vote b.n.Role b.n.Lead b.n.Conf b.n.Log b.n.Commit b.n.Clock b.n.Limit b.n.Votes (b.n.Peers.set m.toNat (Peer.mk j.Id g.1 j.Match g.2))) b.told) (Peer.mk j.Id g.1 j.Match g.2)) _ _ _ _ _).says _ a2
       simp only[cTl16Run0,rTl16Run0,List.length_set]at qy_467
       exact .st e (Ev.call [0,1,2,3,4,5] [] 1 qy_467 e e (.cons (.ptr e) (.cons (.agg (.d4 .nil)) .nil)) e (.inl e) e e) e (.E e e (.mv [] [0,1,2,3,4,5,140296] [1,2,3,4] [0,1,2,3,4,5,30000001,30000002,30000003,30000004,140296]))
def s_Receive (N:Nat)(j:Node)(c:Message):Option (Node×(List Message)×Bool):=
 (s_NodeOk N j).bind λm=>
 (if(!m)then
 some ((Node.mk 0 0 0 0 0 ([]) (Log.mk 0 0 ([])) 0 0 0 ([]) ([])),([]:List Message),false)
 else
 (s_MessageOk N c).bind λo=>
 (if(!o)then
 some ((Node.mk 0 0 0 0 0 ([]) (Log.mk 0 0 ([])) 0 0 0 ([]) ([])),([]:List Message),false)
 else
 (if(c.To !=j.Id)then
 some ((Node.mk 0 0 0 0 0 ([]) (Log.mk 0 0 ([])) 0 0 0 ([]) ([])),([]:List Message),false)
 else
 (s_l16Copy N j).bind λb=>
 joinP (λ(a:Int×Int×Int×Int×Int×Int×Int×Int×Int×Int×(List Int)×(List Peer)×(List Message))=>
 joinP (λ(k:Tl16Run)=>
 some (k.n,k.told,true)) λh=>
 (if(c.Kind==1)then
 (s_l16AskVote N (Tl16Run.mk (Node.mk a.1 a.2.1 a.2.2.1 a.2.2.2.1 a.2.2.2.2.1 b.Conf (Log.mk a.2.2.2.2.2.1 a.2.2.2.2.2.2.1 b.Log.Entries) a.2.2.2.2.2.2.2.1 a.2.2.2.2.2.2.2.2.1 a.2.2.2.2.2.2.2.2.2.1 a.2.2.2.2.2.2.2.2.2.2.1 a.2.2.2.2.2.2.2.2.2.2.2.1) a.2.2.2.2.2.2.2.2.2.2.2.2) c).bind λf=>
 h (Tl16Run.mk (Node.mk f.n.Id f.n.Term f.n.Vote f.n.Role f.n.Lead b.Conf (Log.mk f.n.Log.Start f.n.Log.StartTerm b.Log.Entries) f.n.Commit f.n.Clock f.n.Limit a.2.2.2.2.2.2.2.2.2.2.1 a.2.2.2.2.2.2.2.2.2.2.2.1) f.told)
 else
 (if(c.Kind==2)then
 (s_l16TellVote N (Tl16Run.mk (Node.mk a.1 a.2.1 a.2.2.1 a.2.2.2.1 a.2.2.2.2.1 b.Conf (Log.mk a.2.2.2.2.2.1 a.2.2.2.2.2.2.1 b.Log.Entries) a.2.2.2.2.2.2.2.1 a.2.2.2.2.2.2.2.2.1 a.2.2.2.2.2.2.2.2.2.1 a.2.2.2.2.2.2.2.2.2.2.1 a.2.2.2.2.2.2.2.2.2.2.2.1) a.2.2.2.2.2.2.2.2.2.2.2.2) c).bind λp=>
 h p
 else
 (if(c.Kind==3)then
 (s_l16AskAppend N (Tl16Run.mk (Node.mk a.1 a.2.1 a.2.2.1 a.2.2.2.1 a.2.2.2.2.1 b.Conf (Log.mk a.2.2.2.2.2.1 a.2.2.2.2.2.2.1 b.Log.Entries) a.2.2.2.2.2.2.2.1 a.2.2.2.2.2.2.2.2.1 a.2.2.2.2.2.2.2.2.2.1 a.2.2.2.2.2.2.2.2.2.2.1 a.2.2.2.2.2.2.2.2.2.2.2.1) a.2.2.2.2.2.2.2.2.2.2.2.2) c).bind λs=>
 h s
 else
 (if(c.Kind==4)then
 (s_l16Reply N (Tl16Run.mk (Node.mk a.1 a.2.1 a.2.2.1 a.2.2.2.1 a.2.2.2.2.1 b.Conf (Log.mk a.2.2.2.2.2.1 a.2.2.2.2.2.2.1 b.Log.Entries) a.2.2.2.2.2.2.2.1 a.2.2.2.2.2.2.2.2.1 a.2.2.2.2.2.2.2.2.2.1 a.2.2.2.2.2.2.2.2.2.2.1 a.2.2.2.2.2.2.2.2.2.2.2.1) a.2.2.2.2.2.2.2.2.2.2.2.2) c).bind λt=>
 h t
 else
 (if(c.Kind==6)then
 (s_l16Reply N (Tl16Run.mk (Node.mk a.1 a.2.1 a.2.2.1 a.2.2.2.1 a.2.2.2.2.1 b.Conf (Log.mk a.2.2.2.2.2.1 a.2.2.2.2.2.2.1 b.Log.Entries) a.2.2.2.2.2.2.2.1 a.2.2.2.2.2.2.2.2.1 a.2.2.2.2.2.2.2.2.2.1 a.2.2.2.2.2.2.2.2.2.2.1 a.2.2.2.2.2.2.2.2.2.2.2.1) a.2.2.2.2.2.2.2.2.2.2.2.2) c).bind λu=>
 h u
 else
 (if(c.Kind==5)then
 (if decide (c.Term>=a.2.1)then
 (s_l16Follow N (Tl16Run.mk (Node.mk a.1 a.2.1 a.2.2.1 a.2.2.2.1 a.2.2.2.2.1 b.Conf (Log.mk a.2.2.2.2.2.1 a.2.2.2.2.2.2.1 b.Log.Entries) a.2.2.2.2.2.2.2.1 a.2.2.2.2.2.2.2.2.1 a.2.2.2.2.2.2.2.2.2.1 a.2.2.2.2.2.2.2.2.2.2.1 a.2.2.2.2.2.2.2.2.2.2.2.1) a.2.2.2.2.2.2.2.2.2.2.2.2) c.From).bind λg=>
 h (Tl16Run.mk (Node.mk g.n.Id g.n.Term g.n.Vote g.n.Role g.n.Lead b.Conf (Log.mk g.n.Log.Start g.n.Log.StartTerm b.Log.Entries) g.n.Commit 0 g.n.Limit g.n.Votes g.n.Peers) a.2.2.2.2.2.2.2.2.2.2.2.2)
 else
 h (Tl16Run.mk (Node.mk a.1 a.2.1 a.2.2.1 a.2.2.2.1 a.2.2.2.2.1 b.Conf (Log.mk a.2.2.2.2.2.1 a.2.2.2.2.2.2.1 b.Log.Entries) a.2.2.2.2.2.2.2.1 a.2.2.2.2.2.2.2.2.1 a.2.2.2.2.2.2.2.2.2.1 a.2.2.2.2.2.2.2.2.2.2.1 a.2.2.2.2.2.2.2.2.2.2.2.1) a.2.2.2.2.2.2.2.2.2.2.2.2))
 else
 h (Tl16Run.mk (Node.mk a.1 a.2.1 a.2.2.1 a.2.2.2.1 a.2.2.2.2.1 b.Conf (Log.mk a.2.2.2.2.2.1 a.2.2.2.2.2.2.1 b.Log.Entries) a.2.2.2.2.2.2.2.1 a.2.2.2.2.2.2.2.2.1 a.2.2.2.2.2.2.2.2.2.1 a.2.2.2.2.2.2.2.2.2.2.1 a.2.2.2.2.2.2.2.2.2.2.2.1) a.2.2.2.2.2.2.2.2.2.2.2.2)))))))) λl=>
 (if decide (c.Term>j.Term)then
 (s_l16Follow_i1 N (Tl16Run.mk ({ b with Term:=c.Term,Vote:=0 }) ([])) 0).bind λd=>
 l (d.n.Id,d.n.Term,d.n.Vote,d.n.Role,d.n.Lead,d.n.Log.Start,d.n.Log.StartTerm,d.n.Commit,d.n.Clock,d.n.Limit,d.n.Votes,d.n.Peers,d.told)
 else
 l (b.Id,b.Term,b.Vote,b.Role,b.Lead,b.Log.Start,b.Log.StartTerm,b.Commit,b.Clock,b.Limit,b.Votes,b.Peers,([]:(List Message)))))))
instance i110 (N:Nat)(d:Node)(g:Message):JG 83 (s_Receive N d g) [.agg (cNode0 d []),.agg (cMessage0 g [])] 0 [] (λr=>.tup [.agg (cNode1 r.1 0 1 2 3 []),.sl 4 42 0 r.2.1.length,VB r.2.2]) (λr=>(rNode0 r.1 0 1 2 3 [(4,.vec 42 (r.2.1.map (encMessage false)))])):=.st e e Tryz.call83 λB r=>.q e (.q e (.c0 e i q λ_ _=>.a e e (.st e (Ev.bsW (ys:=([]:List Message)) (f:=(encMessage false)) e .nil e e e e e) e (.E e e (.n [0,1,2] [9208] [0] [] [10000000,10000001,10000002,10000003,9208]))) (.c0 e i q λ_ _=>.a e e (.st e (Ev.bsW (ys:=([]:List Message)) (f:=(encMessage false)) e .nil e e e e e) e (.E e e (.n [0,1,2] [9208] [0] [] [10000000,10000001,10000002,10000003,9208]))) (.a e e (.st e (Ev.bsW (ys:=([]:List Message)) (f:=(encMessage false)) e .nil e e e e e) e (.E e e (.n [0,1,2] [9208] [0] [] [10000000,10000001,10000002,10000003,9208]))) (.f [] [] 4 e i q λh _=>.jk e [3,4,7] [1016,1032,13336,13304,13305,13306,13307,900007] (λb=>[.r 2 (.box [VI b.1,VI b.2.1,VI b.2.2.1,VI b.2.2.2.1,VI b.2.2.2.2.1,.sl 3 3 0 h.Conf.length,VI b.2.2.2.2.2.1,VI b.2.2.2.2.2.2.1,.sl 4 91 0 h.Log.Entries.length,VI b.2.2.2.2.2.2.2.1,VI b.2.2.2.2.2.2.2.2.1,VI b.2.2.2.2.2.2.2.2.2.1,.sl 5 3 0 b.2.2.2.2.2.2.2.2.2.2.1.length,.sl 6 195 0 b.2.2.2.2.2.2.2.2.2.2.2.1.length,.sl 7 42 0 b.2.2.2.2.2.2.2.2.2.2.2.2.length]),.r 5 (.vec 3 (b.2.2.2.2.2.2.2.2.2.2.1.map encI)),.r 6 (.vec 195 (b.2.2.2.2.2.2.2.2.2.2.2.1.map encPeer)),.r 7 (.vec 42 (b.2.2.2.2.2.2.2.2.2.2.2.2.map (encMessage false)))]) (λ_=>e) (λ_=>.a e e (.f [13336,13304,13305,13306,13307] [] 3 e i q λ_ _=>.J e (.k [3,4,7] [1016,1032,13336,13304,13305,29688,29689,29690])) (.J e (.n [3,4,7] [1016,1032,13336,13304,13305,13306,13307] [] [13336] [1016,1032,13336,13304,13305,13306,13307,20000000]))) λb=>.jk e [4,7] [1,2,3,4,5,6,7] (λc=>[.r 1 (.box (cTl16Run0 c 2 3 4 5 6 [])),.r 2 (.vec 3 (c.n.Conf.map encI)),.r 3 (.vec 91 (c.n.Log.Entries.map encEntry)),.r 4 (.vec 3 (c.n.Votes.map encI)),.r 5 (.vec 195 (c.n.Peers.map encPeer)),.r 6 (.vec 42 (c.told.map (encMessage false)))]) (λ_=>e) (λ_=>.a e e (.f [2,3,4,5,6,7] [] 1 e i q λ_ _=>.J e (.k [4,7] [1,2,3,4,5,6,41992])) (.a e e (.f [2,3,4,5,6,7] [] 5 e i q λ_ _=>.J e (.k [4,7] [1,2,50184,50185,50186,50187,50188])) (.a e e (.f [2,3,4,5,6,7] [] 5 e i q λ_ _=>.J e (.k [4,7] [1,2,58376,58377,58378,58379,58380])) (.q e (.a e e (.f [2,3,4,5,6,7] [] 5 e i q λ_ _=>.J e (.k [4,7] [1,2,70664,70665,70666,70667,70668])) (.a e e (.f [2,3,4,5,6,7] [] 5 e i q λ_ _=>.J e (.k [4,7] [1,2,70664,70665,70666,70667,70668])) (.a e e (.dn e (.a e e (.f [2,3,4,5,6,7] [] 2 e i q λ_ _=>.J e (.k [4,7] [1,2,3,4,82968,82969,7])) (.J e (.k [4,7] [1,2,3,4,5,6,7])))) (.J e (.k [4,7] [1,2,3,4,5,6,7]))))))))) λc=>.dn e (.Ek [2,3,4,5,6] e e e))))))
def s_l16Near_l1 (N:Nat)(c:List Int)(d:List Int):Nat->Int->Int->Option (Int)
 |0,_,_=>none
 |m+1,b,a=>
 (if decide (a<=4)then
 joinP (λ(g:Int)=>
 s_l16Near_l1 N c d m g (w64 (a+1))) λf=>
 (s_l09In N c a).bind λh=>
 (s_l09In N d a).bind λj=>
 (if((h==j) ^^ true)then
 f (w64 (b+1))
 else
 f b)
 else
 some b)
def s_l16Near (N:Nat)(a:List Int)(b:List Int):Option (Bool):=
 joinP (λ(c:Int)=>
 some (c==1)) λd=>
 (s_l16Near_l1 N a b N 0 1).bind (λf=>d f)
instance i111 (N:Nat)(c:List Int)(d:List Int):JB 172 (s_l16Near N c d) [RO 3 (c.map encI),RO 3 (d.map encI)]:=.st e e Tryz.call172 λB r=>.j e (λb=>[(5,VI b)]) (λb=>[]) (λ_=>.K2 e [0,1,5,6] [] (λg l=>[.f 5 (VI g),.f 6 (VI l)]) (λ_ _=>e) λ_ g l _ o=>.q e (.a e e (.jk e [0,1,5,6] [] (λm=>[.f 5 (VI m)]) (λ_=>e) (λ_=>.c0 e i q λ_ _=>.c0 e i q λ_ _=>.a e e (.J e (.k [0,1,5,6] [])) (.J e (.k [0,1,5,6] []))) λm=>.R e (λh=>⟨_,_,h,e,e⟩) (.k [0,1,5,6] [])) (.X o e e (.n e (.J e (.k [5] [])))))) λb=>.Ek [] e e e
def s_Propose_l2 (N:Nat)(a:Node)(f:List Int)(g:Int):Nat->Int->Int->Int->Int->Int->Option (Int×Int×Int×Int)
 |0,_,_,_,_,_=>none
 |m+1,b,h,j,k,l=>
 (if decide (b<(a.Peers.length:Int))then
 joinP (λ(c:Int×Int×Int×Int)=>
 s_Propose_l2 N a f g m (w64 (b+1)) c.1 c.2.1 c.2.2.1 c.2.2.2) λn=>
 (at? a.Peers b).bind λo=>
 (at? f g).bind λp=>
 (if(o.Id==p)then
 (at? a.Peers b).bind λd=>
 n (d.Id,d.Next,d.Match,d.Sent)
 else
 n (h,j,k,l))
 else
 some (h,j,k,l))
def s_Propose_l1 (N:Nat)(f:Node)(g:Int)(a:List Int):Nat->Int->(List Peer)->Option ((List Peer))
 |0,_,_=>none
 |m+1,b,h=>
 (if decide (b<(a.length:Int))then
 joinP (λ(j:List Peer)=>
 s_Propose_l1 N f g a m (w64 (b+1)) j) λk=>
 (at? a b).bind λl=>
 joinP (λ(c:Int×Int×Int×Int)=>
 (cat? h ([(Peer.mk c.1 c.2.1 c.2.2.1 c.2.2.2)]:List Peer)).bind λn=>
 k n) λo=>
 (s_Propose_l2 N f a b N 0 l (w64 (g+1)) 0 0).bind (λd=>o (d.1,d.2.1,d.2.2.1,d.2.2.2))
 else
 some h)
def s_Propose (N:Nat)(a:Node)(c:Int)(d:BA):Option (Node×(List Message)×Int×Bool):=
 (s_NodeOk N a).bind λk=>
 (if(!k)then
 some ((Node.mk 0 0 0 0 0 ([]) (Log.mk 0 0 ([])) 0 0 0 ([]) ([])),([]:List Message),0,false)
 else
 (if(a.Role !=2)then
 some ((Node.mk 0 0 0 0 0 ([]) (Log.mk 0 0 ([])) 0 0 0 ([]) ([])),([]:List Message),0,false)
 else
 (s_EntryOk N (Entry.mk a.Term c d)).bind λl=>
 (if(!l)then
 some ((Node.mk 0 0 0 0 0 ([]) (Log.mk 0 0 ([])) 0 0 0 ([]) ([])),([]:List Message),0,false)
 else
 (s_l16Room N a).bind λm=>
 (if(!m)then
 some ((Node.mk 0 0 0 0 0 ([]) (Log.mk 0 0 ([])) 0 0 0 ([]) ([])),([]:List Message),0,false)
 else
 joinP (λ(a1:Unit)=>
 (s_l16Copy N a).bind λb=>
 (s_l12Last N a.Log).bind λf=>
 (cat? b.Log.Entries ([(Entry.mk a.Term c d)]:List Entry)).bind λg=>
 (s_ConfOf N ({ b with Log:=(Log.mk b.Log.Start b.Log.StartTerm g) })).bind λo=>
 (s_l16Others N o a.Id).bind λp=>
 joinP (λ(s:List Peer)=>
 (s_l16Commit N (Tl16Run.mk ({ b with Log:=(Log.mk b.Log.Start b.Log.StartTerm g),Peers:=s }) ([]:(List Message)))).bind λt=>
 (s_l16SendAll_i1 N t).bind λh=>
 some (h.n,h.told,(w64 (f+1)),true)) λu=>
 (s_Propose_l1 N a f p N 0 ([]:List Peer)).bind (λw=>u w)) λj=>
 (if(c==2)then
 (s_ReadConf N d).bind λx=>
 (s_LogTerm N a.Log a.Commit).bind λy=>
 (if(y !=a.Term)then
 some ((Node.mk 0 0 0 0 0 ([]) (Log.mk 0 0 ([])) 0 0 0 ([]) ([])),([]:List Message),0,false)
 else
 (s_l16ConfIndex N a).bind λv=>
 (if decide (v>a.Commit)then
 some ((Node.mk 0 0 0 0 0 ([]) (Log.mk 0 0 ([])) 0 0 0 ([]) ([])),([]:List Message),0,false)
 else
 (s_ConfOf N a).bind λz=>
 (s_l16Near N z x.1).bind λa0=>
 (if(!a0)then
 some ((Node.mk 0 0 0 0 0 ([]) (Log.mk 0 0 ([])) 0 0 0 ([]) ([])),([]:List Message),0,false)
 else
 j ())))
 else
 j ())))))
instance i112 (N:Nat)(g:Node)(p:Int)(s:BA):JG 84 (s_Propose N g p s) [.agg (cNode0 g []),VI p,VS s] 0 [] (λr=>.tup [.agg (cNode1 r.1 0 1 2 3 []),.sl 4 42 0 r.2.1.length,VI r.2.2.1,VB r.2.2.2]) (λr=>(rNode0 r.1 0 1 2 3 [(4,.vec 42 (r.2.1.map (encMessage false)))])):=.st e e Tryz.call84 λB r=>.q e (.q e (.c0 e i q λ_ _=>.a e e (.st e (Ev.bsW (ys:=([]:List Message)) (f:=(encMessage false)) e .nil e e e e e) e (.E e e (.n [0,1,2,3] [13304] [0] [] [10000000,10000001,10000002,10000003,13304]))) (.a e e (.st e (Ev.bsW (ys:=([]:List Message)) (f:=(encMessage false)) e .nil e e e e e) e (.E e e (.n [0,1,2,3] [13304] [0] [] [10000000,10000001,10000002,10000003,13304]))) (.c0 e i q λ_ _=>.a e e (.st e (Ev.bsW (ys:=([]:List Message)) (f:=(encMessage false)) e .nil e e e e e) e (.E e e (.n [0,1,2,3] [13304] [0] [] [10000000,10000001,10000002,10000003,13304]))) (.c0 e i q λ_ _=>.a e e (.st e (Ev.bsW (ys:=([]:List Message)) (f:=(encMessage false)) e .nil e e e e e) e (.E e e (.n [0,1,2,3] [13304] [0] [] [10000000,10000001,10000002,10000003,13304]))) (.jk e [3,6,10] [1000,1016,5176] (λ_=>[]) (λ_=>e) (λ_=>.a e e (.c1 e i q λ_ _=>.q e (.c0 e i q λ_ _=>.a e e (.dn e (.st e (Ev.bsW (ys:=([]:List Message)) (f:=(encMessage false)) e .nil e e e e e) e (.E e e (.n [0,1,2,3] [29688] [0] [] [10000000,10000001,10000002,10000003,29688])))) (.c0 e i q λ_ _=>.a e e (.dn e (.st e (Ev.bsW (ys:=([]:List Message)) (f:=(encMessage false)) e .nil e e e e e) e (.E e e (.n [0,1,2,3] [29688] [0] [] [10000000,10000001,10000002,10000003,29688])))) (.c1 e i q λ_ _=>.f (hp:=(.cons (.borrow e (by decide) lw) (.cons (.borrow e (by decide) lw) .nil))) (hcase:=λ_=>(.inr ⟨rfl,ownL_root trivial⟩)) [] [25848,21496] 0 e i q λ_ _=>.dn e (.a e e (.st e (Ev.bsW (ys:=([]:List Message)) (f:=(encMessage false)) e .nil e e e e e) e (.E e e (.n [0,1,2,3] [29688] [0] [] [10000000,10000001,10000002,10000003,29688]))) (.J e (.k [3,6,10] [1000,1016,5176]))))))) (.J e (.k [3,6,10] [1000,1016,5176]))) λ_=>.f [] [] 4 e i q λb _=>.c0 e i q λw _=>.st e (Ev.bsW (ys:=([(Entry.mk g.Term p s)]:List Entry)) (f:=encEntry) e (.d2 (.d1 .nil)) e e e e e) e (.B λl a4=>.st e (Ev.apW (f:=encEntry) (ontoW e e e) (addsW e e e (λ_=>e)) e bt91 e a4) e (.dn e (.f (hp:=(.cons (.agg (.d4 (.d1 (.cons (.borrow e (by decide) lw) (.d2 (.cons (.borrow e (by decide) lw) (.d2 (.d1 (.cons (.borrow e (by decide) lw) (.cons (.borrow e (by decide) lw) .nil)))))))))) .nil)) (hcase:=λ_=>(.inr ⟨rfl,ownL_root ⟨own_rows (λ_=>e) _,trivial⟩⟩)) [] [33784,42104,33786,33787] 1 e i q λ_ _=>.f (hp:=(.cons (.borrow e (by decide) lw) (.d1 .nil))) (hcase:=λ_=>(.inr ⟨rfl,ownL_root ⟨own_rows (λ_=>e) _,trivial⟩⟩)) [] [46120] 1 e i q λx _=>.dn e (.st e (Ev.bsW (ys:=([]:List Peer)) (f:=encPeer) e .nil e e e e e) e (.j e (λm=>[(6,.ptr 0 0),(13,.ptr 1 0),(14,VI (w64 (w+1))),(16,.sl 2 195 0 m.length)]) (λm=>[(0,.box [VI 0,VI 0,VI 0,VI 0,VI 0,.sl 3 3 0 (([]:(List Int)).length),VI 0,VI 0,.sl 4 91 0 (([]:(List Entry)).length),VI 0,VI 0,VI 0,.sl 5 3 0 (([]:(List Int)).length),.sl 6 195 0 (([]:(List Peer)).length)]),(1,.box [VI b.Id,VI b.Term,VI b.Vote,VI b.Role,VI b.Lead,.sl 7 3 0 b.Conf.length,VI b.Log.Start,VI b.Log.StartTerm,.sl 8 91 0 l.length,VI b.Commit,VI b.Clock,VI b.Limit,.sl 9 3 0 b.Votes.length,.sl 10 195 0 b.Peers.length,.sl 11 42 0 (([]:(List Message)).length)]),(2,.vec 195 (m.map encPeer)),(3,.vec 3 (([]:(List Int)).map encI)),(4,.vec 91 (([]:(List Entry)).map encEntry)),(5,.vec 3 (([]:(List Int)).map encI)),(6,.vec 195 (([]:(List Peer)).map encPeer)),(7,.vec 3 (b.Conf.map encI)),(8,.vec 91 (l.map encEntry)),(9,.vec 3 (b.Votes.map encI)),(10,.vec 195 (b.Peers.map encPeer)),(11,.vec 42 (([]:(List Message)).map (encMessage false)))]) (λ_=>.L2 e (λt o=>[(3,.ptr 0 0),(6,.ptr 1 0),(13,.ptr 2 0),(14,VI (w64 (w+1))),(15,.sl 3 3 0 x.length),(16,.sl 4 195 0 o.length),(17,VI t)]) (λt o=>[(0,.box (cNode0 g [])),(1,.box [VI 0,VI 0,VI 0,VI 0,VI 0,.sl 5 3 0 (([]:(List Int)).length),VI 0,VI 0,.sl 6 91 0 (([]:(List Entry)).length),VI 0,VI 0,VI 0,.sl 7 3 0 (([]:(List Int)).length),.sl 8 195 0 (([]:(List Peer)).length)]),(2,.box [VI b.Id,VI b.Term,VI b.Vote,VI b.Role,VI b.Lead,.sl 9 3 0 b.Conf.length,VI b.Log.Start,VI b.Log.StartTerm,.sl 10 91 0 l.length,VI b.Commit,VI b.Clock,VI b.Limit,.sl 11 3 0 b.Votes.length,.sl 12 195 0 b.Peers.length,.sl 13 42 0 (([]:(List Message)).length)]),(3,.vec 3 (x.map encI)),(4,.vec 195 (o.map encPeer)),(5,.vec 3 (([]:(List Int)).map encI)),(6,.vec 91 (([]:(List Entry)).map encEntry)),(7,.vec 3 (([]:(List Int)).map encI)),(8,.vec 195 (([]:(List Peer)).map encPeer)),(9,.vec 3 (b.Conf.map encI)),(10,.vec 91 (l.map encEntry)),(11,.vec 3 (b.Votes.map encI)),(12,.vec 195 (b.Peers.map encPeer)),(13,.vec 42 (([]:(List Message)).map (encMessage false)))]) (.n [3,6,13,14,15,16,17] [0,1,33816,46168,50152,33784,42104,33786,33787] [] [1,33816] [0,1,33816,46168,50152,20000000,20000001,20000002,20000003,33784,42104,33786,33787,20000064]) λ_ t o _ a5=>.q e (.a e e (.jk e [3,6,13,14,15,16,17] [0,1,2,3,4,5,6,7,8,9,10,11,12,13] (λu=>[.f 16 (.sl 4 195 0 u.length),.r 4 (.vec 195 (u.map encPeer))]) (λ_=>e) (λ_=>.B λ_ y=>.st e (Ev.iaW e e e y) e (.st e (Ev.ldE (f:=encI) e e (at_some y).2 e e e) e (.jk e [3,6,13,14,15,16,17,18] [0,1,2,3,4,66632,5,6,7,8,9,10,11,12,13] (λc=>[.r 5 (.box [VI c.1,VI c.2.1,VI c.2.2.1,VI c.2.2.2])]) (λ_=>e) (λ_=>.K5 e [3,6,13,14,15,16,17,18,19] [0,1,2,3,4,66632,5,6,7,8,9,10,11,12,13] (λv z a0 a1 a2=>[.f 19 (VI v),.r 5 (.box [VI z,VI a0,VI a1,VI a2])]) (λ_ _ _ _ _=>e) λ_ v z a0 a1 a2 _ a6=>.q e (.st e (Ev.lnF e) e (.a e e (.jk e [3,6,13,14,15,16,17,18,19] [0,1,2,3,4,5,6,7,8,9,10,11,12,13,14] (λd=>[.r 5 (.box [VI d.1,VI d.2.1,VI d.2.2.1,VI d.2.2.2])]) (λ_=>e) (λ_=>.B λ_ a7=>.st e (Ev.iaF e e a7) e (.B λ_ a3=>.st e (Ev.iaW e e e a3) e (.st e (Ev.ldE (f:=encI) e e (at_some a3).2 e e e) e (.dn e (.a e e (.B λ_ a8=>.st e (Ev.iaF e e a8) e (.J e (.k [3,6,13,14,15,16,17,18,19] [0,1,2,3,4,5,6,7,8,9,10,11,12,13,14]))) (.J e (.k [3,6,13,14,15,16,17,18,19] [0,1,2,3,4,5,6,7,8,9,10,11,12,13,14]))))))) λd=>.R e (λh=>⟨_,_,_,_,_,h,e,e⟩) (.k [3,6,13,14,15,16,17,18,19] [0,1,2,3,4,5,6,7,8,9,10,11,12,13,14])) (.X a6 e e (.n e (.J e (.k [3,6,13,14,15,16,17,18] [0,1,2,3,4,5,6,7,8,9,10,11,12,13,14]))))))) λc=>.st e (Ev.bsW (ys:=([(Peer.mk c.1 c.2.1 c.2.2.1 c.2.2.2)]:List Peer)) (f:=encPeer) e (.d4 .nil) e e e e e) e (.B λ_ a9=>.st e (Ev.apW (f:=encPeer) (ontoW e e e) (addsW e e e (λ_=>e)) e bt195 e a9) e (.J e (.k [3,6,13,14,15,16,17] [0,1,2,3,91160,6,7,8,9,10,11,12,13,14])))))) λu=>.R e (λh=>⟨_,_,h,e,e⟩) (.k [3,6,13,14,15,16,17] [0,1,2,3,4,5,6,7,8,9,10,11,12,13])) (.X a5 e e (.n e (.J e (.k [6,13,14,16] [1,2,4,5,6,7,8,9,10,11,12,13])))))) λm=>.f [1,7,8,9,2,11] [] 5 e i q λ_ _=>.f [1,99320,99321,99322,99323,99324] [] 5 e i q λ_ _=>.dn e (.Ek [103416,103417,103418,103419,103420] e e e))))))))))))
def s_l17Write_i1 (N:Nat)(a:Tl17Run)(b:List Raw)(d:Bool):Option (Tl17Run):=
 (if a.bad then
 some ({ a with bad:=true })
 else
 (if(!d)then
 some ({ a with bad:=true })
 else
 (s_PutRaws N a.s.Disk b).bind λc=>
 (if(c.2 !=(b.length:Int))then
 some ({ a with bad:=true })
 else
 (cat? a.raws b).bind λf=>
 some ({ a with s:=(Server.mk a.s.Node c.1 a.s.Shelf a.s.Stage a.s.StageAt a.s.StageTerm),raws:=f }))))
instance i114 (N:Nat)(b:Tl17Run)(c:List Raw)(d:Bool):JG 174 (s_l17Write_i1 N b c d) [.ptr 0 0,.sl 1 79 0 c.length,VB d] 5 [(0,.box (cTl17Run0 b 2 3 4 [])),(1,.vec 79 (c.map encRaw)),(2,.vec 79 (b.raws.map encRaw)),(3,.vec 42 (b.told.map (encMessage false))),(4,.vec 253 (b.done.map encDone))] (λr=>.tup []) (λr=>[(0,.box (cTl17Run0 r 5 6 7 [])),(1,.vec 79 (c.map encRaw)),(2,.gone),(3,.gone),(4,.gone),(5,.vec 79 (r.raws.map encRaw)),(6,.vec 42 (r.told.map (encMessage false))),(7,.vec 253 (r.done.map encDone))]):=.st e e Tryz.call174 λB r=>.q e (.q e (.a e e (.E e e (.g λhB=>(Gh.trans (Gh.trans (Gh.trans (gh_prn [] [0,1,2,3,4] hB e) (gh_ro [] [0] [] [] e)) (gh_mvE [] [2,3,4] hB e e)) (gh_pk [] [0,1,2,3,4,30000002,30000003,30000004] hB e e e e)))) (.a e e (.E e e (.g λhB=>(Gh.trans (Gh.trans (Gh.trans (gh_prn [] [0,1,2,3,4] hB e) (gh_ro [] [0] [] [] e)) (gh_mvE [] [2,3,4] hB e e)) (gh_pk [] [0,1,2,3,4,30000002,30000003,30000004] hB e e e e)))) (.f (hp:=(.cons (.agg (.d1 .nil)) (.cons (.borrow e (by decide) lw) .nil))) (hcase:=λ_=>(.inr ⟨rfl,ownL_root ⟨own_rows (λ_=>e) _,trivial⟩⟩)) [] [1] 1 e i q λh _=>.q e (.a e e (.E e e (.g λhB=>(Gh.trans (Gh.trans (Gh.trans (gh_prn [] [0,1,2,3,4] hB e) (gh_ro [] [0] [] [] e)) (gh_mvE [] [2,3,4] hB e e)) (gh_pk [] [0,1,2,3,4,30000002,30000003,30000004] hB e e e e)))) (.B λ_ j=>.st e (Ev.apW (f:=encRaw) (ontoW e e e) (addsW e e e (λ_=>e)) e bt79 e j) e (.E e e (.g λhB=>(Gh.trans (Gh.trans (Gh.trans (Gh.trans ((Gh.frz (f:=encFile) (g:=encFile) (xs:=h.1.Files) 9288 (λ_=>e) e)) (gh_prn [] [0,1,2,3,4,9288,25672] hB e)) (gh_ro [] [0] [9288] [] e)) (gh_mvE [] [3,4] hB e e)) (gh_pk [] [0,1,2,3,4,25672,30000003,30000004] hB e e e e))))))))))
def s_l17Vote (N:Nat)(a:Tl17Run)(c:Node):Option (Tl17Run):=
 joinP (λ(k:Unit)=>
 (s_VoteText N a.s.Node.Term a.s.Node.Vote).bind λb=>
 joinP (λ(g:List Raw)=>
 (s_l17Write_i1 N a g b.2).bind λh=>
 some h) λd=>
 (s_l03Text N a.s.Disk (⟨#[118,111,116,101]⟩:BA)).bind λj=>
 (if decide ((j.size:Int)>=200)then
 d ([(Raw.mk 1 (⟨#[118,111,116,101,43]⟩:BA) (⟨#[]⟩:BA) b.1),(Raw.mk 3 (⟨#[118,111,116,101,43]⟩:BA) (⟨#[118,111,116,101]⟩:BA) (⟨#[]⟩:BA))]:List Raw)
 else
 d ([(Raw.mk 2 (⟨#[118,111,116,101]⟩:BA) (⟨#[]⟩:BA) b.1)]:List Raw))) λf=>
 (if a.bad then
 some a
 else
 (if(c.Term==a.s.Node.Term)then
 (if(c.Vote==a.s.Node.Vote)then
 some a
 else
 f ())
 else
 f ()))
instance i115 (N:Nat)(b:Tl17Run)(d:Node):JG 85 (s_l17Vote N b d) [.ptr 0 0,.agg (cNode0 d [])] 4 [(0,.box (cTl17Run0 b 1 2 3 [])),(1,.vec 79 (b.raws.map encRaw)),(2,.vec 42 (b.told.map (encMessage false))),(3,.vec 253 (b.done.map encDone))] (λr=>.tup []) (λr=>[(0,.box (cTl17Run0 r 4 5 6 [])),(1,.gone),(2,.gone),(3,.gone),(4,.vec 79 (r.raws.map encRaw)),(5,.vec 42 (r.told.map (encMessage false))),(6,.vec 253 (r.done.map encDone))]):=.st e e Tryz.call85 λB r=>.jk e [0] [0,1,2,3] (λ_=>[]) (λ_=>e) (λ_=>.q e (.a e e (.dn e (.E e e (.mv [] [0,1,2,3] [1,2,3] [0,1,2,3,30000001,30000002,30000003]))) (.a e e (.dn e (.a e e (.E e e (.mv [] [0,1,2,3] [1,2,3] [0,1,2,3,30000001,30000002,30000003])) (.J e (.k [0] [0,1,2,3])))) (.dn e (.J e (.k [0] [0,1,2,3])))))) λ_=>.c0 e i q λg _=>.dn e (.st e (Ev.bsW (ys:=([(Raw.mk 2 (⟨#[118,111,116,101]⟩:BA) (⟨#[]⟩:BA) g.1)]:List Raw)) (f:=encRaw) e (.d4 .nil) e e e e e) e (.jk e [0,5,6] [0,1,2,3,13320] (λc=>[.f 6 (.sl 4 79 0 c.length),.r 4 (.vec 79 (c.map encRaw))]) (λ_=>e) (λ_=>.c0 e i q λ_ _=>.a e e (.st e (Ev.bsW (ys:=([(Raw.mk 1 (⟨#[118,111,116,101,43]⟩:BA) (⟨#[]⟩:BA) g.1),(Raw.mk 3 (⟨#[118,111,116,101,43]⟩:BA) (⟨#[118,111,116,101]⟩:BA) (⟨#[]⟩:BA))]:List Raw)) (f:=encRaw) e (.d4 (.d4 .nil)) e e e e e) e (.J e (.k [0,5,6] [0,1,2,3,21528]))) (.J e (.k [0,5,6] [0,1,2,3,13320]))) λc=>.f [0,4,1,2,3] [] 3 e i q λ_ _=>.Ek [0,1,2,3,25624,25625,25626] e e e))
def s_LogSteps_l1 (N:Nat)(b:Log)(c:Log):Nat->Int->Option (Int)
 |0,_=>none
 |m+1,a=>
 (if decide (a<(b.Entries.length:Int))then
 (if decide (a<(c.Entries.length:Int))then
 (at? b.Entries a).bind λd=>
 (at? c.Entries a).bind λf=>
 (if(((d.Term==f.Term)&&((d.Kind==f.Kind)&&(decide (d.Data=f.Data)&&true))) ^^ false)then
 s_LogSteps_l1 N b c m (w64 (a+1))
 else
 some a)
 else
 some a)
 else
 some a)
def s_LogSteps (N:Nat)(d:BA)(b:Log)(a:Log):Option ((List Raw)×Bool):=
 (s_ReadLog N d).bind λf=>
 (s_LogFile N a).bind λg=>
 (s_LogOk N b).bind λk=>
 (if(!k)then
 some (([]:List Raw),false)
 else
 (if(!g.2)then
 some (([]:List Raw),false)
 else
 (if(!f.2.2)then
 some (([]:List Raw),false)
 else
 (if(f.2.1 !=(d.size:Int))then
 some (([]:List Raw),false)
 else
 (s_l12Same N f.1 b).bind λl=>
 (if(!l)then
 some (([]:List Raw),false)
 else
 (s_l12Same N b a).bind λm=>
 (if m then
 some (([]:List Raw),true)
 else
 joinP (λ(h:Int)=>
 (s_l12Frames N a h).bind λj=>
 joinP (λ(p:Unit)=>
 some (([(Raw.mk 1 (⟨#[108,111,103,43]⟩:BA) (⟨#[]⟩:BA) g.1),(Raw.mk 3 (⟨#[108,111,103,43]⟩:BA) (⟨#[108,111,103]⟩:BA) (⟨#[]⟩:BA))]:List Raw),true)) λc=>
 (if(b.Start==a.Start)then
 (if(b.StartTerm==a.StartTerm)then
 (if decide (h<(a.Entries.length:Int))then
 (if(decide ((w64 ((d.size:Int)+(j.size:Int)))<=20000))then
 some (([(Raw.mk 2 (⟨#[108,111,103]⟩:BA) (⟨#[]⟩:BA) j)]:List Raw),true)
 else
 c ())
 else
 c ())
 else
 c ())
 else
 c ())) λn=>
 (s_LogSteps_l1 N b a N 0).bind (λo=>n o)))))))
instance i116 (N:Nat)(g:BA)(b:Log)(c:Log):Sem Tryz.prog 175 (s_LogSteps N g b c) [VS g,.agg [VI b.Start,VI b.StartTerm,RO 91 (b.Entries.map encEntry)],.agg [VI c.Start,VI c.StartTerm,RO 91 (c.Entries.map encEntry)]] 0 [] (λr=>.tup [.sl 0 79 0 r.1.length,VB r.2]) (λr=>[(0,.vec 79 (r.1.map encRaw))]):=.so s175 e Tryz.call175 λB r=>.st e (Ev.bsW (ys:=([]:List Raw)) (f:=encRaw) e .nil e e e e e) e (.c1 e i q λ_ _=>.c0 e i q λm _=>.q e (.q e (.c0 e i q λ_ _=>.a e e (.Ek [5096] e e e) (.a e e (.Ek [5096] e e e) (.a e e (.Ek [5096] e e e) (.a e e (.Ek [5096] e e e) (.f (hp:=(.cons (.agg (.d2 (.cons (.borrow e (by decide) lw) .nil))) (.cons (.agg (.d2 (.d1 .nil))) .nil))) (hcase:=λ_=>(.inr ⟨rfl,ownL_root trivial⟩)) [] [9208] 0 e i q λ_ _=>.a e e (.Ek [5096] e e e) (.q e (.c0 e i q λ_ _=>.a e e (.Ek [5096] e e e) (.jk e [0,4,5,12,14] [1000,1016] (λj=>[.f 14 (VI j)]) (λ_=>e) (λ_=>.K1 e [0,4,5,12,14] [1000,1016] (λl=>[.f 14 (VI l)]) (λ_=>e) λ_ l _ d=>.q e (.q e (.st e (Ev.lnF e) e (.a e e (.st e (Ev.lnF e) e (.a e e (.B λ_ o=>.st e (Ev.iaF e e o) e (.B λ_ p=>.st e (Ev.iaF e e p) e (.dn e (.a e e (.R e (λh=>⟨_,h,e,e⟩) (.k [0,4,5,12,14] [0,1])) (.X d e e (.n e (.J e (.k [0,4,5,12,14] [0,1])))))))) (.dn e (.X d e e (.n e (.J e (.k [0,4,5,12,14] [0,1]))))))) (.dn e (.X d e e (.n e (.J e (.k [0,4,5,12,14] [0,1]))))))))) λj=>.c0 e i q λs _=>.jk e [12] [] (λ_=>[]) (λ_=>e) (λ_=>.q e (.a e e (.a e e (.st e (Ev.lnF e) e (.a e e (.a e e (.st e (Ev.bsW (ys:=([(Raw.mk 2 (⟨#[108,111,103]⟩:BA) (⟨#[]⟩:BA) s)]:List Raw)) (f:=encRaw) e (.d4 .nil) e e e e e) e (.Ek [54280] e e e)) (.J e (.k [12] []))) (.J e (.k [12] [])))) (.J e (.k [12] []))) (.J e (.k [12] [])))) λ_=>.st e (Ev.bsW (ys:=([(Raw.mk 1 (⟨#[108,111,103,43]⟩:BA) (⟨#[]⟩:BA) m.1),(Raw.mk 3 (⟨#[108,111,103,43]⟩:BA) (⟨#[108,111,103]⟩:BA) (⟨#[]⟩:BA))]:List Raw)) (f:=encRaw) e (.d4 (.d4 .nil)) e e e e e) e (.Ek [58392] e e e)))))))))))
def s_l17Log (N:Nat)(a:Tl17Run)(c:Log)(d:Log):Option (Tl17Run):=
 (if a.bad then
 some a
 else
 (s_l03Text N a.s.Disk (⟨#[108,111,103]⟩:BA)).bind λf=>
 (s_LogSteps N f c d).bind λb=>
 (s_l17Write_i1 N a b.1 b.2).bind λg=>
 some g)
instance i117 (N:Nat)(b:Tl17Run)(c:Log)(d:Log):JG 86 (s_l17Log N b c d) [.ptr 0 0,.agg [VI c.Start,VI c.StartTerm,RO 91 (c.Entries.map encEntry)],.agg [VI d.Start,VI d.StartTerm,RO 91 (d.Entries.map encEntry)]] 4 [(0,.box (cTl17Run0 b 1 2 3 [])),(1,.vec 79 (b.raws.map encRaw)),(2,.vec 42 (b.told.map (encMessage false))),(3,.vec 253 (b.done.map encDone))] (λr=>.tup []) (λr=>[(0,.box (cTl17Run0 r 4 5 6 [])),(1,.gone),(2,.gone),(3,.gone),(4,.vec 79 (r.raws.map encRaw)),(5,.vec 42 (r.told.map (encMessage false))),(6,.vec 253 (r.done.map encDone))]):=.st e e Tryz.call86 λB r=>.q e (.a e e (.E e e (.mv [] [0,1,2,3] [1,2,3] [0,1,2,3,30000001,30000002,30000003])) (.c0 e i q λ_ _=>.c1 e i q λ_ _=>.dn e (.f [0,9320,1,2,3] [] 3 e i q λ_ _=>.Ek [0,1,2,3,13336,13337,13338] e e e)))
def s_l10Single (N:Nat)(b:BA):Option (Batch×Bool):=
 (s_Unframe N b).bind λa=>
 (if((a.1.length:Int)!=1)then
 some ((Batch.mk 0 ([])),false)
 else
 (if(a.2 !=(b.size:Int))then
 some ((Batch.mk 0 ([])),false)
 else
 (at? a.1 0).bind λd=>
 (s_ReadBatch N d).bind λc=>
 some (c.1,c.2)))
instance i118 (N:Nat)(b:BA):JG 253 (s_l10Single N b) [VS b] 0 [] (λr=>.tup [.agg [VI r.1.Stamp,.sl 0 262 0 r.1.Changes.length],VB r.2]) (λr=>[(0,.vec 262 (r.1.Changes.map encChange))]):=.st e e Tryz.call253 λB r=>.c1 e i q λ_ _=>.q e (.q e (.a e e (.E e e (.n [0,1] [] [0] [] [10000000])) (.a e e (.E e e (.n [0,1] [] [0] [] [10000000])) (.B λ_ c=>.st e (Ev.iaW e e e c) e (.st e (Ev.ldE (f:=encS) e e (at_some c).2 e e e) e (.c1 e i q λ_ _=>.Ek [17432] e e e))))))
def s_l09Clean (N:Nat)(b:Disk)(c:Shelf):Option (Bool):=
 (s_OpenShelf N b).bind λa=>
 (if(a.2.2==0)then
 (if((a.2.1.length:Int)==0)then
 (s_l09Same N c a.1).bind λd=>
 some d
 else
 some false)
 else
 some false)
instance i119 (N:Nat)(b:Disk)(c:Shelf):JB 228 (s_l09Clean N b c) [.agg [RO 93 (b.Files.map encFile)],.agg (cShelf1 c [])]:=.st e e Tryz.call228 λB r=>.f [] [] 4 e i q λ_ _=>.q e (.a e e (.a e e (.f (hp:=(.cons (.agg (.d4 (.d2 (.d1 .nil)))) (.cons (.agg (.cons (.borrow e (by decide) lw) (.d2 (.d1 (.cons (.borrow e (by decide) lw) (.cons (.borrow e (by decide) lw) (.d1 .nil))))))) .nil))) (hcase:=λ_=>(.inr ⟨rfl,ownL_root trivial⟩)) [] [5112,5113,5114] 0 e i q λ_ _=>.Ek [] e e e) (.Ek [] e e e)) (.Ek [] e e e))
def s_l09NewMan (N:Nat)(b:Manifest):Option ((List Raw)×Bool):=
 (s_ManifestText N b).bind λa=>
 some (([(Raw.mk 1 (⟨#[109,43]⟩:BA) (⟨#[]⟩:BA) a.1),(Raw.mk 3 (⟨#[109,43]⟩:BA) (⟨#[109]⟩:BA) (⟨#[]⟩:BA))]:List Raw),a.2)
instance i120 (N:Nat)(a:Manifest):JG 235 (s_l09NewMan N a) [.agg (cManifest0 a [])] 0 [] (λr=>.tup [.sl 0 79 0 r.1.length,VB r.2]) (λr=>[(0,.vec 79 (r.1.map encRaw))]):=.st e e Tryz.call235 λB r=>.c0 e i q λb _=>.st e (Ev.bsW (ys:=([(Raw.mk 1 (⟨#[109,43]⟩:BA) (⟨#[]⟩:BA) b.1),(Raw.mk 3 (⟨#[109,43]⟩:BA) (⟨#[109]⟩:BA) (⟨#[]⟩:BA))]:List Raw)) (f:=encRaw) e (.d4 (.d4 .nil)) e e e e e) e (.Ek [9240] e e e)
def s_l09After (N:Nat)(d:Disk)(b:List Raw):Option (Shelf×Bool):=
 (s_PutRaws N d b).bind λc=>
 (if(c.2 !=(b.length:Int))then
 some ((Shelf.mk (Manifest.mk ([]) 0 0 0 ([])) ([]) 0),false)
 else
 (s_OpenShelf N c.1).bind λa=>
 (if(a.2.2==0)then
 some (a.1,((a.2.1.length:Int)==0))
 else
 some (a.1,false)))
instance i121 (N:Nat)(b:Disk)(c:List Raw):JG 236 (s_l09After N b c) [.agg [RO 93 (b.Files.map encFile)],RO 79 (c.map encRaw)] 0 [] (λr=>.tup [.agg (cShelf0 r.1 0 1 2 []),VB r.2]) (λr=>(rShelf0 r.1 0 1 2 [])):=.st e e Tryz.call236 λB r=>.c1 e i q λ_ _=>.q e (.st e (Ev.lnF e) e (.a e e (.E e e (.n [0,1] [] [0] [] [10000000,10000001,10000002])) (.f (hp:=(.cons (.agg (.cons (.borrow e (by decide) lw) .nil)) .nil)) (hcase:=λ_=>(.inr ⟨rfl,ownL_root ⟨own_rows (λ_=>e) _,own_rows (λ_=>e) _,own_rows (λ_=>e) _,own_rows (λ_=>e) _,trivial⟩⟩)) [] [5128] 4 e i q λ_ _=>.q e (.a e e (.Ek [17400,17401,17402] e e e) (.Ek [17400,17401,17402] e e e)))))
def s_l10New_l1 (N:Nat)(a:Shelf):Nat->Int->(List Raw)->Option ((List Raw))
 |0,_,_=>none
 |m+1,b,c=>
 (if decide (b<(a.Man.Segs.length:Int))then
 (at? a.Man.Segs b).bind λd=>
 (s_SegName N d).bind λf=>
 (cat? c ([(Raw.mk 4 f (⟨#[]⟩:BA) (⟨#[]⟩:BA))]:List Raw)).bind λg=>
 s_l10New_l1 N a m (w64 (b+1)) g
 else
 some c)
def s_l10New (N:Nat)(g:Disk)(a:Shelf)(h:BA)(j:Int)(k:Int)(l:List Int):Option (Shelf×(List Raw)×Bool):=
 (s_SegName N a.Man.Next).bind λb=>
 (cat? ([]:List Int) l).bind λm=>
 (s_l09NewMan N (Manifest.mk ([a.Man.Next]:List Int) (w64 (a.Man.Next+1)) j k m)).bind λc=>
 (if(!c.2)then
 some ((Shelf.mk (Manifest.mk ([]) 0 0 0 ([])) ([]) 0),([]:List Raw),false)
 else
 (if decide (b=(⟨#[]⟩:BA))then
 some ((Shelf.mk (Manifest.mk ([]) 0 0 0 ([])) ([]) 0),([]:List Raw),false)
 else
 (cat? ([(Raw.mk 1 b (⟨#[]⟩:BA) h)]:List Raw) c.1).bind λn=>
 joinP (λ(d:List Raw)=>
 (s_l09After N g d).bind λf=>
 (if(!f.2)then
 some ((Shelf.mk (Manifest.mk ([]) 0 0 0 ([])) ([]) 0),([]:List Raw),false)
 else
 some (f.1,d,true))) λo=>
 (s_l10New_l1 N a N 0 n).bind (λp=>o p)))
instance i122 (N:Nat)(c:Disk)(d:Shelf)(g:BA)(m:Int)(o:Int)(p:List Int):JG 231 (s_l10New N c d g m o p) [.agg [RO 93 (c.Files.map encFile)],.agg (cShelf1 d []),VS g,VI m,VI o,RO 3 (p.map encI)] 0 [] (λr=>.tup [.agg (cShelf0 r.1 0 1 2 []),.sl 3 79 0 r.2.1.length,VB r.2.2]) (λr=>(rShelf0 r.1 0 1 2 [(3,.vec 79 (r.2.1.map encRaw))])):=.st e e Tryz.call231 λB r=>.c0 e i q λt _=>.st e (Ev.bsW (ys:=([d.Man.Next]:List Int)) (f:=encI) e (.d1 .nil) e e e e e) e (.st e (Ev.bsW (ys:=([]:List Int)) (f:=encI) e .nil e e e e e) e (.B λ_ u=>.st e (Ev.apW (f:=encI) (ontoW e e e) (addsF e) e bt3 e u) e (.dn e (.f (hp:=(.cons (.agg (.cons (.borrow e (by decide) lw) (.d2 (.d1 (.cons (.borrow e (by decide) lw) .nil))))) .nil)) (hcase:=λ_=>(.inr ⟨rfl,ownL_root ⟨own_rows (λ_=>e) _,trivial⟩⟩)) [] [9240,9384] 1 e i q λ_ _=>.q e (.q e (.a e e (.st e (Ev.bsW (ys:=([]:List Raw)) (f:=encRaw) e .nil e e e e e) e (.E e e (.n [0,1,2] [21496] [0] [] [10000000,10000001,10000002,21496]))) (.a e e (.st e (Ev.bsW (ys:=([]:List Raw)) (f:=encRaw) e .nil e e e e e) e (.E e e (.n [0,1,2] [21496] [0] [] [10000000,10000001,10000002,21496]))) (.st e (Ev.bsW (ys:=([(Raw.mk 1 t (⟨#[]⟩:BA) g)]:List Raw)) (f:=encRaw) e (.d4 .nil) e e e e e) e (.B λ_ w=>.st e (Ev.apW (f:=encRaw) (ontoW e e e) (addsW e e e (λ_=>e)) e bt79 e w) e (.j e (λb=>[(6,.ptr 0 0),(12,.ptr 1 0),(19,.sl 2 79 0 b.length)]) (λb=>[(0,.box [RO 93 (c.Files.map encFile)]),(1,.box [.sl 3 3 0 (([]:List Int).length),VI 0,VI 0,VI 0,.sl 4 3 0 (([]:List Int).length),.sl 5 85 0 (([]:List Spot).length),VI 0]),(2,.vec 79 (b.map encRaw)),(3,.vec 3 (([]:List Int).map encI)),(4,.vec 3 (([]:List Int).map encI)),(5,.vec 85 (([]:List Spot).map encSpot))]) (λ_=>.K2 e [6,7,12,19,20] [1000,1016,1032,25656] (λs l=>[.f 19 (.sl 3 79 0 l.length),.f 20 (VI s),.r 3 (.vec 79 (l.map encRaw))]) (λ_ _=>e) λ_ s l _ x=>.q e (.st e (Ev.lnF e) e (.a e e (.B λ_ y=>.st e (Ev.iaF e e y) e (.c0 e i q λv _=>.st e (Ev.bsW (ys:=([(Raw.mk 4 v (⟨#[]⟩:BA) (⟨#[]⟩:BA))]:List Raw)) (f:=encRaw) e (.d4 .nil) e e e e e) e (.B λ_ z=>.st e (Ev.apW (f:=encRaw) (ontoW e e e) (addsW e e e (λ_=>e)) e bt79 e z) e (.R e (λh=>⟨_,_,h,e,e⟩) (.k [6,7,12,19,20] [0,1,2,42120]))))) (.X x e e (.n e (.J e (.n [6,12,19] [0,2,3] [] [2] [0,2,3,20000000,20000001,20000002]))))))) λb=>.f (hp:=(.cons (.agg (.d1 .nil)) (.cons (.borrow e (by decide) lw) .nil))) (hcase:=λ_=>(.inr ⟨rfl,ownL_root ⟨own_rows (λ_=>e) _,own_rows (λ_=>e) _,own_rows (λ_=>e) _,trivial⟩⟩)) [] [2] 3 e i q λ_ _=>.q e (.a e e (.st e (Ev.bsW (ys:=([]:List Raw)) (f:=encRaw) e .nil e e e e e) e (.E e e (.n [0,1,2] [54264] [0] [] [10000000,10000001,10000002,54264]))) (.Ek [46088,46089,46090,2] e e e))))))))))))
def s_InstallShelf (N:Nat)(d:Disk)(a:Shelf)(f:BA)(b:Int)(h:Int)(j:List Int):Option (Shelf×(List Raw)×Bool):=
 (s_l10Single N f).bind λg=>
 (if(!g.2)then
 some ((Shelf.mk (Manifest.mk ([]) 0 0 0 ([])) ([]) 0),([]:List Raw),false)
 else
 (if(g.1.Stamp !=b)then
 some ((Shelf.mk (Manifest.mk ([]) 0 0 0 ([])) ([]) 0),([]:List Raw),false)
 else
 (if decide (b<a.Stamp)then
 some ((Shelf.mk (Manifest.mk ([]) 0 0 0 ([])) ([]) 0),([]:List Raw),false)
 else
 (s_l09Clean N d a).bind λk=>
 (if(!k)then
 some ((Shelf.mk (Manifest.mk ([]) 0 0 0 ([])) ([]) 0),([]:List Raw),false)
 else
 (s_l10New N d a f b h j).bind λc=>
 some (c.1,c.2.1,c.2.2)))))
instance i123 (N:Nat)(b:Disk)(c:Shelf)(d:BA)(g:Int)(h:Int)(j:List Int):JG 227 (s_InstallShelf N b c d g h j) [.agg [RO 93 (b.Files.map encFile)],.agg (cShelf1 c []),VS d,VI g,VI h,RO 3 (j.map encI)] 0 [] (λr=>.tup [.agg (cShelf0 r.1 0 1 2 []),.sl 3 79 0 r.2.1.length,VB r.2.2]) (λr=>(rShelf0 r.1 0 1 2 [(3,.vec 79 (r.2.1.map encRaw))])):=.st e e Tryz.call227 λB r=>.c1 e i q λ_ _=>.q e (.q e (.a e e (.st e (Ev.bsW (ys:=([]:List Raw)) (f:=encRaw) e .nil e e e e e) e (.E e e (.n [0,1,2] [13304] [0] [] [10000000,10000001,10000002,13304]))) (.a e e (.st e (Ev.bsW (ys:=([]:List Raw)) (f:=encRaw) e .nil e e e e e) e (.E e e (.n [0,1,2] [13304] [0] [] [10000000,10000001,10000002,13304]))) (.a e e (.st e (Ev.bsW (ys:=([]:List Raw)) (f:=encRaw) e .nil e e e e e) e (.E e e (.n [0,1,2] [13304] [0] [] [10000000,10000001,10000002,13304]))) (.c0 e i q λ_ _=>.a e e (.st e (Ev.bsW (ys:=([]:List Raw)) (f:=encRaw) e .nil e e e e e) e (.E e e (.n [0,1,2] [13304] [0] [] [10000000,10000001,10000002,13304]))) (.f [] [] 4 e i q λ_ _=>.Ek [17480,17481,17482,17483] e e e))))))
def s_l17Write_i3 (N:Nat)(a:Tl17Run)(b:List Raw)(d:Bool):Option (Tl17Run):=
 (if a.bad then
 some ({ a with bad:=true })
 else
 (if(!d)then
 some ({ a with bad:=true })
 else
 (s_PutRaws N a.s.Disk b).bind λc=>
 (if(c.2 !=(b.length:Int))then
 some ({ a with bad:=true })
 else
 (cat? a.raws b).bind λf=>
 some ({ a with s:=(Server.mk a.s.Node c.1 a.s.Shelf a.s.Stage a.s.StageAt a.s.StageTerm),raws:=f }))))
instance i125 (N:Nat)(b:Tl17Run)(c:List Raw)(d:Bool):JG 174 (s_l17Write_i3 N b c d) [.ptr 0 0,.sl 1 79 0 c.length,VB d] 8 ((0,.box (cTl17Run1 b 2 3 4 5 6 7 []))::(1,.vec 79 (c.map encRaw))::(rShelf0 b.s.Shelf 2 3 4 [(5,.vec 79 (b.raws.map encRaw)),(6,.vec 42 (b.told.map (encMessage false))),(7,.vec 253 (b.done.map encDone))])) (λr=>.tup []) (λr=>((0,.box (cTl17Run1 r 8 9 10 11 12 13 []))::(1,.vec 79 (c.map encRaw))::(2,.gone)::(3,.gone)::(4,.gone)::(5,.gone)::(6,.gone)::(7,.gone)::(rShelf0 r.s.Shelf 8 9 10 [(11,.vec 79 (r.raws.map encRaw)),(12,.vec 42 (r.told.map (encMessage false))),(13,.vec 253 (r.done.map encDone))]))):=.st e e Tryz.call174 λB r=>.q e (.q e (.a e e (.E e e (.g λhB=>(Gh.trans (Gh.trans (Gh.trans (gh_prn [] [0,1,2,3,4,5,6,7] hB e) (gh_ro [] [0] [] [] e)) (gh_mvE [] [2,3,4,5,6,7] hB e e)) (gh_pk [] [0,1,2,3,4,5,6,7,30000002,30000003,30000004,30000005,30000006,30000007] hB e e e e)))) (.a e e (.E e e (.g λhB=>(Gh.trans (Gh.trans (Gh.trans (gh_prn [] [0,1,2,3,4,5,6,7] hB e) (gh_ro [] [0] [] [] e)) (gh_mvE [] [2,3,4,5,6,7] hB e e)) (gh_pk [] [0,1,2,3,4,5,6,7,30000002,30000003,30000004,30000005,30000006,30000007] hB e e e e)))) (.f (hp:=(.cons (.agg (.d1 .nil)) (.cons (.borrow e (by decide) lw) .nil))) (hcase:=λ_=>(.inr ⟨rfl,ownL_root ⟨own_rows (λ_=>e) _,trivial⟩⟩)) [] [1] 1 e i q λh _=>.q e (.a e e (.E e e (.g λhB=>(Gh.trans (Gh.trans (Gh.trans (gh_prn [] [0,1,2,3,4,5,6,7] hB e) (gh_ro [] [0] [] [] e)) (gh_mvE [] [2,3,4,5,6,7] hB e e)) (gh_pk [] [0,1,2,3,4,5,6,7,30000002,30000003,30000004,30000005,30000006,30000007] hB e e e e)))) (.B λ_ j=>.st e (Ev.apW (f:=encRaw) (ontoW e e e) (addsW e e e (λ_=>e)) e bt79 e j) e (.E e e (.g λhB=>(Gh.trans (Gh.trans (Gh.trans (Gh.trans ((Gh.frz (f:=encFile) (g:=encFile) (xs:=h.1.Files) 9288 (λ_=>e) e)) (gh_prn [] [0,1,2,3,4,5,6,7,9288,25672] hB e)) (gh_ro [] [0] [9288] [] e)) (gh_mvE [] [2,3,4,6,7] hB e e)) (gh_pk [] [0,1,2,3,4,5,6,7,30000002,30000003,30000004,25672,30000006,30000007] hB e e e e))))))))))
def s_l17Log_i1 (N:Nat)(a:Tl17Run)(c:Log)(d:Log):Option (Tl17Run):=
 (if a.bad then
 some a
 else
 (s_l03Text N a.s.Disk (⟨#[108,111,103]⟩:BA)).bind λf=>
 (s_LogSteps N f c d).bind λb=>
 (s_l17Write_i3 N a b.1 b.2).bind λg=>
 some g)
instance i126 (N:Nat)(b:Tl17Run)(c:Log)(d:Log):JG 86 (s_l17Log_i1 N b c d) [.ptr 0 0,.agg [VI c.Start,VI c.StartTerm,RO 91 (c.Entries.map encEntry)],.agg [VI d.Start,VI d.StartTerm,RO 91 (d.Entries.map encEntry)]] 7 ((0,.box (cTl17Run1 b 1 2 3 4 5 6 []))::(rShelf0 b.s.Shelf 1 2 3 [(4,.vec 79 (b.raws.map encRaw)),(5,.vec 42 (b.told.map (encMessage false))),(6,.vec 253 (b.done.map encDone))])) (λr=>.tup []) (λr=>((0,.box (cTl17Run1 r 7 8 9 10 11 12 []))::(1,.gone)::(2,.gone)::(3,.gone)::(4,.gone)::(5,.gone)::(6,.gone)::(rShelf0 r.s.Shelf 7 8 9 [(10,.vec 79 (r.raws.map encRaw)),(11,.vec 42 (r.told.map (encMessage false))),(12,.vec 253 (r.done.map encDone))]))):=.st e e Tryz.call86 λB r=>.q e (.a e e (.E e e (.mv [] [0,1,2,3,4,5,6] [1,2,3,4,5,6] [0,1,2,3,4,5,6,30000001,30000002,30000003,30000004,30000005,30000006])) (.c0 e i q λ_ _=>.c1 e i q λ_ _=>.dn e (.f [0,9320,1,2,3,4,5,6] [] 6 e i q λ_ _=>.Ek [0,1,2,3,4,5,6,13336,13337,13338,13339,13340,13341] e e e)))
def s_l17Install (N:Nat)(a:Tl17Run)(d:Message)(g:Message):Option (Tl17Run×Message):=
 (s_InstallShelf N a.s.Disk a.s.Shelf a.s.Stage d.Index d.LogTerm d.Conf).bind λf=>
 (if(!f.2.2)then
 some (({ a with s:=(Server.mk a.s.Node a.s.Disk a.s.Shelf (⟨#[]⟩:BA) a.s.StageAt a.s.StageTerm) }),g)
 else
 (s_l17Write_i1 N ({ a with s:=(Server.mk a.s.Node a.s.Disk a.s.Shelf (⟨#[]⟩:BA) a.s.StageAt a.s.StageTerm) }) f.2.1 true).bind λc=>
 (s_LogBehind N c.s.Node.Log d.Index d.LogTerm).bind λh=>
 (s_l17Log_i1 N ({ c with s:=(Server.mk c.s.Node c.s.Disk f.1 c.s.Stage c.s.StageAt c.s.StageTerm) }) c.s.Node.Log h).bind λb=>
 (cat? ([]:List Int) d.Conf).bind λj=>
 some (({ b with s:=(Server.mk (Node.mk b.s.Node.Id b.s.Node.Term b.s.Node.Vote b.s.Node.Role b.s.Node.Lead j h d.Index b.s.Node.Clock b.s.Node.Limit b.s.Node.Votes b.s.Node.Peers) b.s.Disk b.s.Shelf b.s.Stage b.s.StageAt b.s.StageTerm) }),({ g with Ok:=true })))
instance i127 (N:Nat)(b:Tl17Run)(h:Message)(c:Message):JG 176 (s_l17Install N b h c) [.ptr 0 0,.agg (cMessage0 h []),.ptr 1 0] 7 ((0,.box (cTl17Run0 b 2 3 4 []))::(1,.box (cMessage1 c 5 6 []))::(2,.vec 79 (b.raws.map encRaw))::(3,.vec 42 (b.told.map (encMessage false)))::(4,.vec 253 (b.done.map encDone))::(rMessage0 c 5 6 [])) (λr=>.tup []) (λr=>((0,.box (cTl17Run0 r.1 7 8 9 []))::(1,.box (cMessage1 r.2 10 11 []))::(2,.gone)::(3,.gone)::(4,.gone)::(5,.gone)::(6,.gone)::(7,.vec 79 (r.1.raws.map encRaw))::(8,.vec 42 (r.1.told.map (encMessage false)))::(9,.vec 253 (r.1.done.map encDone))::(rMessage0 r.2 10 11 []))):=.st e e Tryz.call176 λB r=>.f [] [] 4 e i q λ_ _=>.dn e (.q e (.a e e (.E e e (.g λhB=>(Gh.trans (Gh.trans (Gh.trans (gh_prn [] [0,1,2,3,4,5,6] hB e) (gh_ro [] [0] [] [] e)) (gh_mvE [] [2,3,4,5,6] hB e e)) (gh_pk [] [0,1,2,3,4,5,6,30000002,30000003,30000004,30000005,30000006] hB e e e e)))) (.f [0,13563,2,3,4] [] 3 e i q λ_ _=>.c1 e i q λj _=>.B λd k=>.stz e (EvZ.frz (f:=encEntry) (g:=encEntry) (xs:=j.Entries) 33848 (λ_=>e) e (.mk (Ev.call [0,13560,13561,13562,21512,21513,21514] [] 6 (sy k) e e (.cons (.ptr e) (.cons (.agg (.d2 (.d1 .nil))) (.cons (.agg (.d2 (.cons (.share e (shareW _ e)) .nil))) .nil))) e (.inl e) e e))) e (.st e (Ev.bsW (ys:=([]:List Int)) (f:=encI) e .nil e e e e e) e (.B λl m=>.st e (Ev.apW (f:=encI) (ontoW e e e) (addsF e) e bt3 e m) e (.E e e (.g λhB=>(Gh.trans (Gh.trans (Gh.trans (Gh.trans (Gh.trans (Gh.trans (Gh.trans ((Gh.frz (f:=encI) (g:=encI) (xs:=l) 46120 (λ_=>e) e)) ((Gh.frz (f:=encI) (g:=encI) (xs:=d.s.Shelf.Man.Segs) 37912 (λ_=>e) e))) ((Gh.frz (f:=encI) (g:=encI) (xs:=d.s.Shelf.Man.Conf) 37913 (λ_=>e) e))) ((Gh.frz (f:=encSpot) (g:=encSpot) (xs:=d.s.Shelf.Dir) 37914 (λ_=>e) e))) (gh_prn [] [0,1,2,3,4,5,6,46120,33848,37912,37913,37914,37915,37916,37917] hB e)) (gh_ro [] [0] [46120,33848,37912,37913,37914] [] e)) (gh_mvE [] [5,6] hB e e)) (gh_pk [] [0,1,2,3,4,5,6,37915,37916,37917,30000005,30000006] hB e e e e)))))))))
def s_l17Staged (N:Nat)(a:Tl17Run)(b:Message):Option (Tl17Run):=
 (if decide (b.Term<a.s.Node.Term)then
 (cat? a.told ([(Message.mk 6 a.s.Node.Id b.From a.s.Node.Term b.Index 0 0 false ([]) ([]) (⟨#[]⟩:BA) false)]:List Message)).bind λk=>
 some ({ a with told:=k })
 else
 (if decide (b.Index<=a.s.Node.Commit)then
 (cat? a.told ([(Message.mk 6 a.s.Node.Id b.From a.s.Node.Term b.Index 0 0 true ([]) ([]) (⟨#[]⟩:BA) false)]:List Message)).bind λl=>
 some ({ a with told:=l })
 else
 joinP (λ(c:BA×Int×Int)=>
 joinP (λ(g:BA)=>
 (cat? a.told ([(Message.mk 6 a.s.Node.Id b.From a.s.Node.Term b.Index 0 (g.size:Int) false ([]) ([]) (⟨#[]⟩:BA) false)]:List Message)).bind λm=>
 some ({ a with s:=(Server.mk a.s.Node a.s.Disk a.s.Shelf g c.2.1 c.2.2),told:=m })) λh=>
 (if(b.Commit==(c.1.size:Int))then
 (scat? c.1 b.Data).bind λj=>
 (if b.Last then
 (s_l17Install N ({ a with s:=(Server.mk a.s.Node a.s.Disk a.s.Shelf j c.2.1 c.2.2) }) b (Message.mk 6 a.s.Node.Id b.From a.s.Node.Term b.Index 0 0 false ([]) ([]) (⟨#[]⟩:BA) false)).bind λd=>
 (cat? d.1.told ([d.2]:List Message)).bind λn=>
 some (Tl17Run.mk d.1.s d.1.raws n d.1.done d.1.bad)
 else
 h j)
 else
 h c.1)) λf=>
 (if(a.s.StageAt !=b.Index)then
 f ((⟨#[]⟩:BA),b.Index,b.LogTerm)
 else
 (if(a.s.StageTerm !=b.LogTerm)then
 f ((⟨#[]⟩:BA),b.Index,b.LogTerm)
 else
 f (a.s.Stage,a.s.StageAt,a.s.StageTerm)))))
instance i128 (N:Nat)(b:Tl17Run)(d:Message):JG 87 (s_l17Staged N b d) [.ptr 0 0,.agg (cMessage0 d [])] 4 [(0,.box (cTl17Run0 b 1 2 3 [])),(1,.vec 79 (b.raws.map encRaw)),(2,.vec 42 (b.told.map (encMessage false))),(3,.vec 253 (b.done.map encDone))] (λr=>.tup []) (λr=>[(0,.box (cTl17Run0 r 4 5 6 [])),(1,.gone),(2,.gone),(3,.gone),(4,.vec 79 (r.raws.map encRaw)),(5,.vec 42 (r.told.map (encMessage false))),(6,.vec 253 (r.done.map encDone))]):=.st e e Tryz.call87 λB r=>.q e (.a e e (.st e (Ev.bsW (ys:=([(Message.mk 6 b.s.Node.Id d.From b.s.Node.Term d.Index 0 0 false ([]) ([]) (⟨#[]⟩:BA) false)]:List Message)) (f:=(encMessage false)) e (.d4 (.d4 (.cons (.nilro _ _) (.cons (.nilro _ _) (.d2 .nil))))) e e e e e) e (.B λ_ o=>.st e (Ev.apW (f:=(encMessage false)) (ontoW e e e) (addsW e e e (λ_=>e)) e bt42 e o) e (.dn e (.E e e (.mv [] [0,1,2,3,17496] [1,3] [0,1,2,3,30000001,17496,30000003]))))) (.q e (.a e e (.st e (Ev.bsW (ys:=([(Message.mk 6 b.s.Node.Id d.From b.s.Node.Term d.Index 0 0 true ([]) ([]) (⟨#[]⟩:BA) false)]:List Message)) (f:=(encMessage false)) e (.d4 (.d4 (.cons (.nilro _ _) (.cons (.nilro _ _) (.d2 .nil))))) e e e e e) e (.B λ_ p=>.st e (Ev.apW (f:=(encMessage false)) (ontoW e e e) (addsW e e e (λ_=>e)) e bt42 e p) e (.dn e (.E e e (.mv [] [0,1,2,3,29784] [1,3] [0,1,2,3,30000001,29784,30000003]))))) (.j e (λh=>[(0,.ptr 0 0),(3,.ptr 4 0),(5,.ptr 5 0)]) (λh=>[(0,.box (cNode0 b.s.Node (RO 93 (b.s.Disk.Files.map encFile)::(cShelf1 b.s.Shelf [VS h.1,VI h.2.1,VI h.2.2,.sl 1 79 0 b.raws.length,.sl 2 42 0 b.told.length,.sl 3 253 0 b.done.length,VB b.bad])))),(1,.vec 79 (b.raws.map encRaw)),(2,.vec 42 (b.told.map (encMessage false))),(3,.vec 253 (b.done.map encDone)),(4,.box (cMessage0 d [])),(5,.box [VI 6,VI b.s.Node.Id,VI d.From,VI b.s.Node.Term,VI d.Index,VI 0,VI 0,VB false,.sl 6 91 0 (([]:List Entry).length),.sl 7 3 0 (([]:List Int).length),VS (⟨#[]⟩:BA),VB false]),(6,.vec 91 (([]:List Entry).map encEntry)),(7,.vec 3 (([]:List Int).map encI))]) (λ_=>.q e (.a e e (.dn e (.J e (.n [0,3,5] [0,1,2,3,1000,9336] [] [9336] [0,1,2,3,1000,9336,20000000,20000001]))) (.dn e (.a e e (.J e (.n [0,3,5] [0,1,2,3,1000,9336] [] [9336] [0,1,2,3,1000,9336,20000000,20000001])) (.J e (.n [0,3,5] [0,1,2,3,1000,9336] [] [9336] [0,1,2,3,1000,9336,20000000,20000001])))))) λh=>.jk e [0,5] [0,1,2,3,5,6,7] (λl=>[.c 0 22 (VS l)]) (λ_=>e) (λ_=>.dn e (.a e e (.B λ_ t=>.st e (Ev.addS e e t) e (.dn e (.a e e (.f [0,5,1,2,3,6,7] [] 5 e i q λm _=>.stz e (EvZ.frz (f:=encEntry) (g:=encEntry) (xs:=m.2.Entries) 62475 (λ_=>e) e (EvZ.frz (f:=encI) (g:=encI) (xs:=m.2.Conf) 62476 (λ_=>e) e (.mk (Ev.bsW (ys:=([m.2]:List Message)) (f:=(encMessage false)) e (.d4 (.d4 (.cons (.ro e (shareW _ e)) (.cons (.ro e (shareW _ e)) (.d2 .nil))))) e e e e e)))) e (.B λ_ u=>.st e (Ev.apW (f:=(encMessage false)) (ontoW e e e) (addsW e e e (λ_=>e)) e bt42 e u) e (.dn e (.Ek [0,1,2,3,62472,66648,62474] e e e)))) (.J e (.k [0,5] [0,1,2,3,5,6,7]))))) (.J e (.k [0,5] [0,1,2,3,5,6,7])))) λl=>.stz e (EvZ.frz (f:=encEntry) (g:=encEntry) (xs:=([]:List Entry)) 5 (λ_=>e) e (EvZ.frz (f:=encI) (g:=encI) (xs:=([]:List Int)) 6 (λ_=>e) e (.mk (Ev.bsW (ys:=([(Message.mk 6 b.s.Node.Id d.From b.s.Node.Term d.Index 0 (l.size:Int) false ([]) ([]) (⟨#[]⟩:BA) false)]:List Message)) (f:=(encMessage false)) e (.d4 (.d4 (.cons (.ro e (shareW _ e)) (.cons (.ro e (shareW _ e)) (.d2 .nil))))) e e e e e)))) e (.B λ_ w=>.st e (Ev.apW (f:=(encMessage false)) (ontoW e e e) (addsW e e e (λ_=>e)) e bt42 e w) e (.dn e (.E e e (.mv [] [0,1,2,3,74840] [1,3] [0,1,2,3,30000001,74840,30000003]))))))))
def s_ShelfMap_l1 (N:Nat)(d:Disk)(b:Shelf):Nat->Int->(List Pair)->Option (((List Pair)×Bool)⊕((List Pair)))
 |0,_,_=>none
 |m+1,c,f=>
 (if decide (c<(b.Dir.length:Int))then
 (at? b.Dir c).bind λa=>
 (s_SegName N a.Seg).bind λh=>
 (s_l03Text N d h).bind λg=>
 (if decide ((w64 (a.At+a.Size))>(g.size:Int))then
 some (Sum.inl (([]:List Pair),false))
 else
 (scut? g a.At (w64 (a.At+a.Size))).bind λj=>
 (cat? f ([(Pair.mk a.Key j)]:List Pair)).bind λk=>
 s_ShelfMap_l1 N d b m (w64 (c+1)) k)
 else
 some (Sum.inr f))
def s_ShelfMap (N:Nat)(a:Disk)(b:Shelf):Option ((List Pair)×Bool):=
 (s_DiskOk N a).bind λc=>
 (if(!c)then
 some (([]:List Pair),false)
 else
 (s_DirOk N b.Dir).bind λd=>
 (if(!d)then
 some (([]:List Pair),false)
 else
 joinP (λ(f:List Pair)=>
 some (f,true)) λg=>
 (s_ShelfMap_l1 N a b N 0 ([]:List Pair)).bind (Sum.elim (λh=>some h) (λ(j:List Pair)=>g j))))
instance i129 (N:Nat)(d:Disk)(g:Shelf):JG 7 (s_ShelfMap N d g) [.agg [RO 93 (d.Files.map encFile)],.agg (cShelf1 g [])] 0 [] (λr=>.tup [.sl 0 89 0 r.1.length,VB r.2]) (λr=>[(0,.vec 89 (r.1.map encPair))]):=.st e e Tryz.call7 λB r=>.st e (Ev.bsW (ys:=([]:List Pair)) (f:=encPair) e .nil e e e e e) e (.q e (.q e (.c0 e i q λ_ _=>.a e e (.Ek [5096] e e e) (.c0 e i q λ_ _=>.a e e (.Ek [5096] e e e) (.j e (λb=>[(6,.sl 0 89 0 b.length)]) (λb=>[(0,.vec 89 (b.map encPair))]) (λ_=>.K2 e [2,3,6,7] [1000,1016,5096] (λl c=>[.f 6 (.sl 2 89 0 c.length),.f 7 (VI l),.r 2 (.vec 89 (c.map encPair))]) (λ_ _=>e) λ_ l c _ m=>.q e (.st e (Ev.lnF e) e (.a e e (.q e (.B λo p=>.st e (Ev.iaF e e p) e (.c0 e i q λ_ _=>.c0 e i q λ_ _=>.dn e (.q e (.a e e (.st e (Ev.bsW (ys:=([]:List Pair)) (f:=encPair) e .nil e e e e e) e (.Xr m e e (.il (.e e (.Ek [41960] e e e))))) (.B λs t=>.st e (Ev.ssB e e e t) e (.st e (Ev.bsW (ys:=([(Pair.mk o.Key s)]:List Pair)) (f:=encPair) e (.d2 .nil) e e e e e) e (.B λ_ u=>.st e (Ev.apW (f:=encPair) (ontoW e e e) (addsW e e e (λ_=>e)) e bt89 e u) e (.dn e (.R e (λh=>⟨_,_,h,e,e⟩) (.k [2,3,6,7] [0,1,46280]))))))))))) (.X m e e (.ir (.n e (.J e (.k [6] [2])))))))) λb=>.Ek [0] e e e)))))
def s_MapOk_l1 (N:Nat)(b:List Pair):Nat->Int->Option ((Bool)⊕(Unit))
 |0,_=>none
 |m+1,a=>
 (if decide (a<(b.length:Int))then
 joinP (λ(k:Unit)=>
 s_MapOk_l1 N b m (w64 (a+1))) λc=>
 (at? b a).bind λd=>
 (s_l05Key N d.Key).bind λf=>
 (if(!f)then
 some (Sum.inl false)
 else
 (at? b a).bind λg=>
 (if decide ((g.Value.size:Int)>40)then
 some (Sum.inl false)
 else
 (if decide (a>0)then
 (at? b (w64 (a-1))).bind λh=>
 (at? b a).bind λj=>
 (if(!Op.bytesLess h.Key.toList j.Key.toList)then
 some (Sum.inl false)
 else
 c ())
 else
 c ())))
 else
 some (Sum.inr ()))
def s_MapOk (N:Nat)(a:List Pair):Option (Bool):=
 (if decide ((a.length:Int)>60)then
 some false
 else
 joinP (λ(d:Unit)=>
 some true) λb=>
 (s_MapOk_l1 N a N 0).bind (Sum.elim (λc=>some c) (λ(f:Unit)=>b ())))
instance i130 (N:Nat)(c:List Pair):JB 234 (s_MapOk N c) [RO 89 (c.map encPair)]:=.st e e Tryz.call234 λB r=>.q e (.st e (Ev.lnF e) e (.a e e (.Ek [] e e e) (.j e (λ_=>[]) (λ_=>[]) (λ_=>.K1 e [0,3] [] (λd=>[.f 3 (VI d)]) (λ_=>e) λ_ d _ b=>.q e (.st e (Ev.lnF e) e (.a e e (.jk e [0,3] [] (λ_=>[]) (λ_=>e) (λ_=>.q e (.B λ_ g=>.st e (Ev.iaF e e g) e (.c0 e i q λ_ _=>.a e e (.dn e (.Xr b e e (.il (.e e (.Ek [] e e e))))) (.B λ_ l=>.st e (Ev.iaF e e l) e (.a e e (.dn e (.Xr b e e (.il (.e e (.Ek [] e e e))))) (.a e e (.B λ_ m=>.st e (Ev.iaF e e m) e (.B λ_ o=>.st e (Ev.iaF e e o) e (.dn e (.a e e (.Xr b e e (.il (.e e (.Ek [] e e e)))) (.J e (.k [0,3] [])))))) (.dn e (.J e (.k [0,3] []))))))))) λ_=>.R e (λh=>⟨_,h,e,e⟩) (.k [0,3] [])) (.X b e e (.ir (.n e (.J e (.k [] [])))))))) λ_=>.Ek [] e e e)))
def s_MapBatch_l1 (N:Nat)(a:List Pair):Nat->Int->(List Change)->Option ((List Change))
 |0,_,_=>none
 |m+1,b,c=>
 (if decide (b<(a.length:Int))then
 (at? a b).bind λd=>
 (at? a b).bind λf=>
 (cat? c ([(Change.mk d.Key f.Value false)]:List Change)).bind λg=>
 s_MapBatch_l1 N a m (w64 (b+1)) g
 else
 some c)
def s_MapBatch (N:Nat)(a:List Pair)(b:Int):Option (Batch×Bool):=
 (s_MapOk N a).bind λc=>
 (if(!c)then
 some ((Batch.mk 0 ([])),false)
 else
 (s_l01In N b 0 100000).bind λd=>
 (if(!d)then
 some ((Batch.mk 0 ([])),false)
 else
 joinP (λ(f:List Change)=>
 some ((Batch.mk b f),true)) λg=>
 (s_MapBatch_l1 N a N 0 ([]:(List Change))).bind (λh=>g h)))
instance i131 (N:Nat)(d:List Pair)(g:Int):JG 229 (s_MapBatch N d g) [RO 89 (d.map encPair),VI g] 0 [] (λr=>.tup [.agg [VI r.1.Stamp,.sl 0 262 0 r.1.Changes.length],VB r.2]) (λr=>[(0,.vec 262 (r.1.Changes.map encChange))]):=.st e e Tryz.call229 λB r=>.q e (.q e (.c0 e i q λ_ _=>.a e e (.E e e (.n [0,1] [] [0] [] [10000000])) (.c0 e i q λ_ _=>.a e e (.E e e (.n [0,1] [] [0] [] [10000000])) (.jk e [4,6] [1000,13320,900002,900003] (λj=>[.c 0 1 (.sl 2 262 0 (([]:List Change).length)),.c 1 1 (.sl 3 262 0 j.length),.r 2 (.vec 262 (([]:List Change).map encChange)),.r 3 (.vec 262 (j.map encChange))]) (λ_=>e) (λ_=>.L2 e (λl b=>[(0,RO 89 (d.map encPair)),(4,.ptr 0 0),(6,.ptr 1 0),(7,VI l)]) (λl b=>[(0,.box [VI 0,NI 262]),(1,.box [VI g,.sl 2 262 0 b.length]),(2,.vec 262 (b.map encChange))]) (.n [0,4,6,7] [1000,13320] [] [13320] [1000,13320,20000000]) λ_ l b _ m=>.q e (.st e (Ev.lnF e) e (.a e e (.B λo p=>.st e (Ev.iaF e e p) e (.B λs t=>.st e (Ev.iaF e e t) e (.st e (Ev.bsW (ys:=([(Change.mk o.Key s.Value false)]:List Change)) (f:=encChange) e (.d2 (.d1 .nil)) e e e e e) e (.B λ_ u=>.st e (Ev.apW (f:=encChange) (ontoW e e e) (addsW e e e (λ_=>e)) e bt262 e u) e (.dn e (.R e (λh=>⟨_,_,h,e,e⟩) (.k [0,4,6,7] [0,1,29896]))))))) (.X m e e (.n e (.J e (.n [4,6] [0,1,2] [] [0] [0,1,20000000,2]))))))) λj=>.Ek [3] e e e))))
end Go.Proofs.YtmcbbifeekhmgaaGreatDoor.Pe.FnBoots
